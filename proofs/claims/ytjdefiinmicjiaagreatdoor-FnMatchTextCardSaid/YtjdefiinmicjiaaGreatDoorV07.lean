/- Parts of a proof. Conditions: each theorem's own. -/
import Derived.Test.YtjdefiinmicjiaaGreatDoorV06
import Derived.Deep.CutRange
set_option linter.unusedVariables false
set_option linter.unusedSimpArgs false
set_option maxHeartbeats 8000000
set_option maxRecDepth 100000
namespace Go.Proofs.YtjdefiinmicjiaaGreatDoor
open _root_.Go.Proofs.Tryz
namespace TxI
open Go.ChangeShapes Go.WideShapes Go.ChangeAt Go.RowKit Base Ints JoinN PlP TxP Num Bd1
def optS:Option Stp->Stp × Bool
 | some s=>(s,true)
 | none=>((0,0,0,false),false)
def stpV (s:Stp):Value:=.agg #[iL s.1,iL s.2.1,iL s.2.2.1,.bool s.2.2.2]
theorem gI_eq {v:Vr} {t l r q:By} {one o1 hp o2 o3 hit:Bool} {n1 n2 n3:Int} (h1:Lib.cut t [47]=(l,r,one)) (h2:rdDec l=(n1,o1)) (h3:Lib.hasPrefix r [111,102,102]=hp) (h4:Lib.trimPrefix r [111,102,102]=q)
  (h5:rdDec (Lib.trimSuffix (Lib.trimPrefix q [40]) [41])=(n2,o2)) (h6:rdDec (Lib.trimSuffix r [42])=(n3,o3)) (h7:Lib.hasSuffix r [42]=hit) {F1 T:Int} (hF:IntKind.i64.wrap (n1 - 1)=F1) (hT:IntKind.i64.wrap (n3 - 1)=T) :
  gI v t=if one=false then none else if ¬ l=[98,97,114]∧o1=false then none else
   if hp=true then (if q=[] then some (if l=[98,97,114] then v.p else F1,-1,IntKind.i64.wrap ((if l=[98,97,114] then v.p else F1)+1),false) else if o2=true then some (if l=[98,97,114] then v.p else F1,-1,n2,false) else none)
   else if o3=true then some (if l=[98,97,114] then v.p else F1,T,IntKind.i64.wrap ((if l=[98,97,114] then v.p else F1) - T),hit) else none:=by
 unfold gI;rw [h1];simp only [h2,h3,h6,h7,hF,hT];have a:hp=true->r.drop 3=q:=λ h=>by
  rw [<-h4];unfold Lib.trimPrefix;rw [h3,if_pos h]
  rfl
 split
 ·rfl
 ·split
  ·rfl
  ·split
   ·rename_i hh
    unfold inner;rw [a hh,h5]
   ·rfl
theorem rd_none {v:Vr} {t:By} (h:gI v t=none):optS (rdI v t)=((0,0,0,false),false):=by unfold rdI;rw [h];rfl
theorem rd_yes {v:Vr} {t:By} {s:Stp} (h:gI v t=some s) (h1:plainB v s=true) (h2:stpT v s=t):optS (rdI v t)=(s,true):=by unfold rdI;rw [h];simp only;rw [if_pos ⟨h1,h2⟩];rfl
theorem rd_no1 {v:Vr} {t:By} {s:Stp} (h:gI v t=some s) (h1:plainB v s=false):optS (rdI v t)=((0,0,0,false),false):=by unfold rdI;rw [h];simp only;rw [if_neg (λ a=>by rw [h1] at a;simp at a)];rfl
theorem rd_no2 {v:Vr} {t:By} {s:Stp} (h:gI v t=some s) (h2:¬ stpT v s=t):optS (rdI v t)=((0,0,0,false),false):=by unfold rdI;rw [h];simp only;rw [if_neg (λ a=>h2 a.2)];rfl
structure Br0 (w wr:World) (v:Vr):Prop where
 bel:Below w.heap.size w wr
 rv:RowB wr w.heap.size 25 (vL v)
 r0:RowB wr (w.heap.size+1) 111 [iL 0,iL 0,iL 0,.bool false]
 env:Env wr
theorem Br0.below {w wr w':World} {v:Vr} (k:Br0 w wr v) (hb:zB wr w'):Br0 w w' v :=
 ⟨k.bel.tR hb,k.rv.below hb k.rv.lt,k.r0.below hb k.r0.lt,k.env.below hb⟩
structure Br (w wr:World) (v:Vr) (gs:Nat) (cs:List Value):Prop where
 k0:Br0 w wr v
 rs:RowB wr gs 111 cs
 hg:w.heap.size+2<=gs
theorem Br.below {w wr w':World} {v:Vr} {gs:Nat} {cs:List Value} (k:Br w wr v gs cs) (hb:zB wr w'):Br w w' v gs cs :=
 ⟨k.k0.below hb,k.rs.below hb k.rs.lt,k.hg⟩
theorem Br.set {w wr:World} {v:Vr} {gs:Nat} {cs:List Value} (k:Br w wr v gs cs) (E:Env w) (j:Nat) (u:Value):Br w (wr.setCell ⟨gs,j,none⟩ u) v gs (cs.set j u) :=
 ⟨⟨k.k0.bel.setCell (p:=⟨gs,j,none⟩) (by have:=k.hg;show w.heap.size<=gs;omega) u,k.k0.rv.other (p:=⟨gs,j,none⟩) (by have:=k.hg;show w.heap.size≠gs;omega) u,k.k0.r0.other (p:=⟨gs,j,none⟩) (by have:=k.hg;show w.heap.size+1≠gs;omega) u,E.below (k.k0.bel.setCell (p:=⟨gs,j,none⟩) (by have:=k.hg;show w.heap.size<=gs;omega) u)⟩,k.rs.set j u,k.hg⟩
theorem four {W:World} {g:Nat} {t:TypeId} {a b c d:Value} (h:RowB W g t [a,b,c,d]) (u v x y:Value):RowB ((((W.setCell ⟨g,0,none⟩ u).setCell ⟨g,1,none⟩ v).setCell ⟨g,2,none⟩ x).setCell ⟨g,3,none⟩ y) g t [u,v,x,y] :=
 (((h.set 0 u).set 1 v).set 2 x).set 3 y
theorem below_four {B:Nat} {w W:World} (h:Below B w W) {g:Nat} (hg:B<=g) (u v x y:Value):Below B w ((((W.setCell ⟨g,0,none⟩ u).setCell ⟨g,1,none⟩ v).setCell ⟨g,2,none⟩ x).setCell ⟨g,3,none⟩ y) :=
 (((h.setCell (p:=⟨g,0,none⟩) hg _).setCell (p:=⟨g,1,none⟩) hg _).setCell (p:=⟨g,2,none⟩) hg _).setCell (p:=⟨g,3,none⟩) hg _
theorem rstep_i (v:Vr) (hv:okV v=true) (t:By) (hl:t.length<=4194304) (w:World) (E:Env w):Calls prog 117 #[vA v,.string (bs t)] w λ e w'=>e=.returned (.tuple #[stpV (optS (rdI v t)).1,.bool (optS (rdI v t)).2])∧Below w.heap.size w w':=by
 obtain⟨⟨l,r,aq⟩,Q⟩:=eX (Lib.cut t [47]);obtain⟨⟨n1,o1⟩,h2⟩:=eX (rdDec l);obtain⟨hp,h3⟩:=eX (Lib.hasPrefix r [111,102,102]);obtain⟨q,h4⟩:=eX (Lib.trimPrefix r [111,102,102]);obtain⟨m,af⟩:=eX (Lib.trimPrefix q [40]);obtain⟨k,ae⟩:=eX (Lib.trimSuffix m [41]);obtain⟨⟨n2,o2⟩,h5⟩:=eX (rdDec k);obtain⟨ah,ad⟩:=eX (Lib.trimSuffix r [42]);obtain⟨⟨n3,o3⟩,h6⟩:=eX (rdDec ah);obtain⟨V,h7⟩:=eX (Lib.hasSuffix r [42]);obtain⟨F1,hF⟩:=eX (IntKind.i64.wrap (n1 - 1));obtain⟨T,hT⟩:=eX (IntKind.i64.wrap (n3 - 1));have hG:=gI_eq (v:=v) (n2:=n2) (o2:=o2) (n3:=n3) (o3:=o3) (F1:=F1) (T:=T) Q h2 h3 h4 (by rw [af,ae];exact h5) (by rw [ad];exact h6) h7 hF hT;have hc:=cut_len t [47];rw [Q] at hc;simp only at hc;have l1:=trp_len r [111,102,102];have l2:=trp_len q [40];have l3:=trs_len m [41];have l4:=trs_len r [42];rw [h4] at l1;rw [af] at l2;rw [ae] at l3;rw [ad] at l4;have C1:=kD (λ(G:World) (E9:Env G)=>cut_w t [47] hl G E9);have C2:=kD (λ(G:World) (E9:Env G)=>rdd_w l (by omega) G E9);have C3:=kD (λ(G:World)=>cpre_w r [111,102,102] G);have C4:=kD (λ(G:World)=>tpre_w q [40] G);have C5:=kD (λ(G:World)=>tsuf_w m [41] (by omega) G);have C6:=kD (λ(G:World) (E9:Env G)=>rdd_w k (by omega) G E9);have C7:=kD (λ(G:World)=>csuf_w r [42] (by omega) G);have C8:=kD (λ(G:World) (E9:Env G)=>rdd_w ah (by omega) G E9);rw [Q] at C1;rw [h2] at C2;rw [h3,h4] at C3;rw [af] at C4;rw [ae] at C5;rw [h5] at C6;rw [ad,h7] at C7;rw [h6] at C8;have b1:=rd_bd l;have b2:=rd_bd k;have b3:=rd_bd ah;rw [h2] at b1;rw [h5] at b2;rw [h6] at b3;simp only at b1 b2 b3 C1 C2 C3 C6 C7 C8;have bF:-9223372036854775808<=F1∧F1<=9223372036854775807:=by rw [<-hF,IntKind.wrap_i64];omega
 have bT:-9223372036854775808<=T∧T<=9223372036854775807:=by rw [<-hT,IntKind.wrap_i64];omega
 obtain⟨R,P⟩:=eX (optS (rdI v t));have X:=kD hG;have Y:=kD P;have am:=kD (And.intro hF hT);have HV:=kD hv;rw [P];clear Q h2 h3 h4 af ae h5 ad h6 h7 hG P l1 l2 l3 l4 hc hl b1 b2 b3 bF bT hF hT hv;go_enter func117,ntmps117;go_upto_region 1 with fail;refine wp_gen (λ W'=>Br0 w W' v) ⟨by go_grown,(RowB.new _ _ _).alloc _,RowB.new' _ _ _ (by simp),E.below (by go_grown)⟩ ?_;intro w1 K;go_wp2_with fail;refine(C1.out w1 K.env).mono ?_;rintro e w2 ⟨rfl,N⟩;have K:=K.below N;clear N
 cases aq
 case false =>
  obtain⟨A,y,o,n⟩:=K.r0.c4;have a:=K.r0.lt;have F:=K.r0.frozen;obtain⟨C,m,k,B⟩:=K.rv.c4;have d:=K.rv.lt;have P:R=((0,0,0,false),false):=by rw [<-Y.out];exact rd_none (by rw [X.out];rfl)
  subst P;clear Y X;go_wp2_with fail;refine bp_row2 [iL 0,iL 0,iL 0,.bool false] (.bool false) (below_four K.bel (by omega) _ _ _ _) (four K.r0 _ _ _ _) (λ Z r8=>by simp [results,results117,go_sem,r8]) rfl λ Z D=>?_;exact⟨rfl,D⟩
 obtain⟨A,y,o,n⟩:=K.r0.c4;have a:=K.r0.lt;have F:=K.r0.frozen;obtain⟨C,m,k,B⟩:=K.rv.c4;have d:=K.rv.lt;go_upto_region 5 with fail;refine wp_gen (λ W'=>Br w W' v w2.heap.size [iL v.p,iL 0,iL 0,.bool false]) ?_ ?_
 ·exact⟨⟨K.bel.alloc K.bel.size _,K.rv.alloc _,K.r0.alloc _,K.env.below ((Below.refl _ _).alloc (Nat.le_refl _) _)⟩,RowB.new _ _ _,a⟩
 clear A y o n a F C m k B d;intro w3 K;obtain⟨gs,an⟩:=eX (w2.heap.size);rw [an] at K ⊢;clear an;obtain⟨L,J,I,H⟩:=K.rs.c4;have i:=K.rs.lt;have j:=K.rs.frozen;obtain⟨A,y,o,n⟩:=K.k0.r0.c4;have a:=K.k0.r0.lt;have F:=K.k0.r0.frozen;obtain⟨C,m,k,B⟩:=K.k0.rv.c4;have d:=K.k0.rv.lt;obtain⟨bq,ap⟩:=eX (((bs l).toList == [98,97,114]));have M:if bq=true then l=[98,97,114] else ¬ l=[98,97,114]:=by rw [<-ap,ByteArray.toList_eq,bs_data];by_cases h:l=[98,97,114] <;> simp [h]
 have ak:=kD M;clear M;go_upto_if 33 with fail;clear ap;go_cut [10,11] from 32 (λ aB aA wx=>∃ f,Br w wx v gs [iL f,iL 0,iL 0,.bool false]∧Hid (gI v t=if hp=true then (if q=[] then some (f,-1,IntKind.i64.wrap (f+1),false) else if o2=true then some (f,-1,n2,false) else none) else if o3=true then some (f,T,IntKind.i64.wrap (f - T),V) else none))
 case first =>
  cases bq
  case true =>
   have M:l=[98,97,114]:=ak.out;have al:Hid (gI v t=if hp=true then (if q=[] then some (v.p,-1,IntKind.i64.wrap (v.p+1),false) else if o2=true then some (v.p,-1,n2,false) else none) else if o3=true then some (v.p,T,IntKind.i64.wrap (v.p - T),V) else none):=by
    show _=_
    rw [X.out,if_neg (by simp),if_neg (λ h=>h.1 M)];simp only [if_pos M]
   clear X M;go_wp2_with fail;go_meet;exact⟨v.p,K,al⟩
  case false =>
   have M:¬ l=[98,97,114]:=ak.out;go_wp2_with fail;refine(C2.out _ K.k0.env).mono ?_;rintro e w4 ⟨rfl,N⟩;have K:=K.below N;clear A y o n a F C m k B d L J I H i j N;obtain⟨L,J,I,H⟩:=K.rs.c4;have i:=K.rs.lt;have j:=K.rs.frozen;obtain⟨A,y,o,n⟩:=K.k0.r0.c4;have a:=K.k0.r0.lt;have F:=K.k0.r0.frozen;obtain⟨C,m,k,B⟩:=K.k0.rv.c4;have d:=K.k0.rv.lt
   cases o1
   case false =>
    have P:R=((0,0,0,false),false):=by rw [<-Y.out];exact rd_none (by rw [X.out,if_neg (by simp),if_pos ⟨M,rfl⟩])
    subst P;clear Y X;go_wp2_with fail;refine bp_row2 [iL 0,iL 0,iL 0,.bool false] (.bool false) (below_four K.k0.bel (by omega) _ _ _ _) (four K.k0.r0 _ _ _ _) (λ Z r8=>by simp [results,results117,go_sem,r8]) rfl λ Z D=>?_;exact⟨rfl,D⟩
   have al:Hid (gI v t=if hp=true then (if q=[] then some (F1,-1,IntKind.i64.wrap (F1+1),false) else if o2=true then some (F1,-1,n2,false) else none) else if o3=true then some (F1,T,IntKind.i64.wrap (F1 - T),V) else none):=by
    show _=_
    rw [X.out,if_neg (by simp),if_neg (by simp)];simp only [if_neg M]
   clear X M;have aD:=am.out.1;go_wp2_with fail;go_meet;exact⟨F1,K.set E 0 _,al⟩
 case rest =>
  obtain⟨f,K,X⟩:=hcut;clear L J I H i j A y o n a F C m k B d;obtain⟨L,J,I,H⟩:=K.rs.c4;have i:=K.rs.lt;have j:=K.rs.frozen;obtain⟨A,y,o,n⟩:=K.k0.r0.c4;have a:=K.k0.r0.lt;have F:=K.k0.r0.frozen;obtain⟨C,m,k,B⟩:=K.k0.rv.c4;have d:=K.k0.rv.lt;obtain⟨D1,ac⟩:=eX (IntKind.i64.wrap (f+1));obtain⟨D3,ab⟩:=eX (IntKind.i64.wrap (f - T));rw [ac,ab] at X;have HD:=kD (And.intro ac ab);clear ac ab;go_wp2_with fail;refine(C3.out _).mono ?_;rintro e w3 ⟨rfl,rfl⟩;go_upto_if 50 with fail;go_cut [14,15,16,17,18,19] from 50 (λ az ay ax aw av ar wx=>∃(t1 d1:Int) (Q:Bool),Br w wx v gs [iL f,iL t1,iL d1,.bool Q]∧Hid (gI v t=some (f,t1,d1,Q)))
  case first =>
   cases hp
   case false =>
    have S:Hid (gI v t=if o3=true then some (f,T,D3,V) else none):=X.out;clear X;go_wp2_with fail;refine(C7.out _).mono ?_;rintro e w3 ⟨rfl,rfl⟩;go_wp2_with fail;refine(C8.out _ K.k0.env).mono ?_;rintro e w4 ⟨rfl,N⟩;have K:=K.below N;clear A y o n a F C m k B d L J I H i j N;obtain⟨L,J,I,H⟩:=K.rs.c4;have i:=K.rs.lt;have j:=K.rs.frozen;obtain⟨A,y,o,n⟩:=K.k0.r0.c4;have a:=K.k0.r0.lt;have F:=K.k0.r0.frozen;obtain⟨C,m,k,B⟩:=K.k0.rv.c4;have d:=K.k0.rv.lt
    cases o3
    case false =>
     have P:R=((0,0,0,false),false):=by rw [<-Y.out];exact rd_none S.out
     subst P;clear Y S;go_wp2_with fail;refine bp_row2 [iL 0,iL 0,iL 0,.bool false] (.bool false) (below_four K.k0.bel (by omega) _ _ _ _) (four K.k0.r0 _ _ _ _) (λ Z r8=>by simp [results,results117,go_sem,r8]) rfl λ Z D=>?_;exact⟨rfl,D⟩
    have aC:=am.out.2;have ab:=HD.out.2;go_upto_region 24 with fail;refine wp_gen (λ W'=>Br w W' v gs [iL f,iL 0,iL 0,.bool V]) (K.set E 3 _) ?_;clear A y o n a F C m k B d L J I H i j;intro w5 K;obtain⟨L,J,I,H⟩:=K.rs.c4;have i:=K.rs.lt;have j:=K.rs.frozen;obtain⟨A,y,o,n⟩:=K.k0.r0.c4;have a:=K.k0.r0.lt;have F:=K.k0.r0.frozen;obtain⟨C,m,k,B⟩:=K.k0.rv.c4;have d:=K.k0.rv.lt;go_upto_region 25 with fail;refine wp_gen (λ W'=>Br w W' v gs [iL f,iL T,iL 0,.bool V]) (K.set E 1 _) ?_;clear A y o n a F C m k B d L J I H i j;intro w5 K;obtain⟨L,J,I,H⟩:=K.rs.c4;have i:=K.rs.lt;have j:=K.rs.frozen;obtain⟨A,y,o,n⟩:=K.k0.r0.c4;have a:=K.k0.r0.lt;have F:=K.k0.r0.frozen;obtain⟨C,m,k,B⟩:=K.k0.rv.c4;have d:=K.k0.rv.lt;go_wp2_with fail;go_meet;exact⟨T,D3,V,K.set E 2 _,S⟩
   have S:Hid (gI v t=if q=[] then some (f,-1,D1,false) else if o2=true then some (f,-1,n2,false) else none):=X.out;clear X;have ac:=HD.out.1;go_upto_region 13 with fail;refine wp_gen (λ W'=>Br w W' v gs [iL f,iL (-1),iL 0,.bool false]) (K.set E 1 _) ?_;clear A y o n a F C m k B d L J I H i j;intro w5 K;obtain⟨L,J,I,H⟩:=K.rs.c4;have i:=K.rs.lt;have j:=K.rs.frozen;obtain⟨A,y,o,n⟩:=K.k0.r0.c4;have a:=K.k0.r0.lt;have F:=K.k0.r0.frozen;obtain⟨C,m,k,B⟩:=K.k0.rv.c4;have d:=K.k0.rv.lt;go_upto_region 14 with fail;refine wp_gen (λ W'=>Br w W' v gs [iL f,iL (-1),iL D1,.bool false]) (K.set E 2 _) ?_;clear A y o n a F C m k B d L J I H i j;intro w5 K;obtain⟨L,J,I,H⟩:=K.rs.c4;have i:=K.rs.lt;have j:=K.rs.frozen;obtain⟨A,y,o,n⟩:=K.k0.r0.c4;have a:=K.k0.r0.lt;have F:=K.k0.r0.frozen;obtain⟨C,m,k,B⟩:=K.k0.rv.c4;have d:=K.k0.rv.lt;by_cases hq:q=[]
   ·have ao:gI v t=some (f,-1,D1,false):=by rw [S.out,if_pos hq]
    have W:=kD ao;have e1:((bs q).toList == [])=true:=by rw [ByteArray.toList_eq,bs_data,hq];rfl
    have e0:(bs q).toList.isEmpty=true:=by rw [ByteArray.toList_eq,bs_data,hq];rfl
    clear hq ao S;go_wp2_with fail;go_meet;exact⟨-1,D1,false,K,W⟩
   have W:Hid (gI v t=if o2=true then some (f,-1,n2,false) else none):=by show _=_;rw [S.out,if_neg hq]
   have e0:(bs q).toList.isEmpty=false:=by rw [ByteArray.toList_eq,bs_data];cases q with | nil=>exact absurd rfl hq | cons x l=>rfl
   clear hq S;go_wp2_with fail;refine(C4.out _).mono ?_;rintro e w3 ⟨rfl,rfl⟩;go_wp2_with fail;refine(C5.out _).mono ?_;rintro e w3 ⟨rfl,rfl⟩;go_wp2_with fail;refine(C6.out _ K.k0.env).mono ?_;rintro e w4 ⟨rfl,N⟩;have K:=K.below N;clear A y o n a F C m k B d L J I H i j N;obtain⟨L,J,I,H⟩:=K.rs.c4;have i:=K.rs.lt;have j:=K.rs.frozen;obtain⟨A,y,o,n⟩:=K.k0.r0.c4;have a:=K.k0.r0.lt;have F:=K.k0.r0.frozen;obtain⟨C,m,k,B⟩:=K.k0.rv.c4;have d:=K.k0.rv.lt
   cases o2
   case false =>
    have P:R=((0,0,0,false),false):=by rw [<-Y.out];exact rd_none W.out
    subst P;clear Y W;go_wp2_with fail;refine bp_row2 [iL 0,iL 0,iL 0,.bool false] (.bool false) (below_four K.k0.bel (by omega) _ _ _ _) (four K.k0.r0 _ _ _ _) (λ Z r8=>by simp [results,results117,go_sem,r8]) rfl λ Z D=>?_;exact⟨rfl,D⟩
   go_wp2_with fail;go_meet;exact⟨-1,n2,false,K.set E 2 _,W⟩
  case rest =>
   obtain⟨t1,d1,Q,K,W⟩:=hcut;clear L J I H i j A y o n a F C m k B d X C1 C2 C3 C4 C5 C6 C7 C8 HD am ak;obtain⟨L,J,I,H⟩:=K.rs.c4;have i:=K.rs.lt;have j:=K.rs.frozen;obtain⟨A,y,o,n⟩:=K.k0.r0.c4;have a:=K.k0.r0.lt;have F:=K.k0.r0.frozen;obtain⟨C,m,k,B⟩:=K.k0.rv.c4;have d:=K.k0.rv.lt;have hG:gI v t=some (f,t1,d1,Q):=W.out;have aa:=kD hG;clear hG;by_cases O:plainB v (f,t1,d1,Q)=true
   case neg =>
    have O:plainB v (f,t1,d1,Q)=false:=by simpa using O
    have P:R=((0,0,0,false),false):=by rw [<-Y.out];exact rd_no1 aa.out O
    subst P;have CP:=kD (λ G=>plain_i v HV.out (f,t1,d1,Q) false O G);simp only at CP;clear O Y aa;go_wp2_with fail;refine(CP.out _).mono ?_;rintro e w5 ⟨rfl,N⟩;have K:=K.below N;clear A y o n a F C m k B d L J I H i j N;obtain⟨L,J,I,H⟩:=K.rs.c4;have i:=K.rs.lt;have j:=K.rs.frozen;obtain⟨A,y,o,n⟩:=K.k0.r0.c4;have a:=K.k0.r0.lt;have F:=K.k0.r0.frozen;obtain⟨C,m,k,B⟩:=K.k0.rv.c4;have d:=K.k0.rv.lt;go_wp2_with fail;refine bp_row2 [iL 0,iL 0,iL 0,.bool false] (.bool false) (below_four K.k0.bel (by omega) _ _ _ _) (four K.k0.r0 _ _ _ _) (λ Z r8=>by simp [results,results117,go_sem,r8]) rfl λ Z D=>?_;exact⟨rfl,D⟩
   have CP:=kD (λ G=>plain_i v HV.out (f,t1,d1,Q) true O G);have CT:=kD (λ(G:World) (E9:Env G)=>step_i v HV.out (f,t1,d1,Q) O G E9.tab);simp only at CP CT;have aj:=kD O;clear O;obtain⟨tx,ai⟩:=eX (stpT v (f,t1,d1,Q));rw [ai] at CT;have ag:=kD ai;clear ai;go_wp2_with fail;refine(CP.out _).mono ?_;rintro e w5 ⟨rfl,N⟩;have K:=K.below N;clear A y o n a F C m k B d L J I H i j N;obtain⟨L,J,I,H⟩:=K.rs.c4;have i:=K.rs.lt;have j:=K.rs.frozen;obtain⟨A,y,o,n⟩:=K.k0.r0.c4;have a:=K.k0.r0.lt;have F:=K.k0.r0.frozen;obtain⟨C,m,k,B⟩:=K.k0.rv.c4;have d:=K.k0.rv.lt;go_wp2_with fail;refine(CT.out _ K.k0.env).mono ?_;rintro e w6 ⟨rfl,N⟩;have K:=K.below N;clear A y o n a F C m k B d L J I H i j N;obtain⟨L,J,I,H⟩:=K.rs.c4;have i:=K.rs.lt;have j:=K.rs.frozen;obtain⟨A,y,o,n⟩:=K.k0.r0.c4;have a:=K.k0.r0.lt;have F:=K.k0.r0.frozen;obtain⟨C,m,k,B⟩:=K.k0.rv.c4;have d:=K.k0.rv.lt;by_cases heq:tx=t
   ·have P:R=((f,t1,d1,Q),true):=by rw [<-Y.out];exact rd_yes aa.out aj.out (ag.out.trans heq)
    subst P;have e1:((bs tx).toList == (bs t).toList)=true:=by rw [bs_eq];exact decide_eq_true heq
    have e2:((bs tx).toList != (bs t).toList)=false:=by simp only [bne,e1];rfl
    clear heq Y aa aj ag CP CT;go_wp2_with fail;refine bp_row2 [iL f,iL t1,iL d1,.bool Q] (.bool true) (below_four K.k0.bel (by omega) _ _ _ _) (four K.k0.r0 _ _ _ _) (λ Z r8=>by simp [results,results117,go_sem,r8]) rfl λ Z D=>?_;exact⟨rfl,D⟩
   ·have P:R=((0,0,0,false),false):=by rw [<-Y.out];exact rd_no2 aa.out (λ h=>heq (ag.out.symm.trans h))
    subst P;have e1:((bs tx).toList == (bs t).toList)=false:=by rw [bs_eq];exact decide_eq_false heq
    have e2:((bs tx).toList != (bs t).toList)=true:=by simp only [bne,e1];rfl
    clear heq Y aa aj ag CP CT;go_wp2_with fail;refine bp_row2 [iL 0,iL 0,iL 0,.bool false] (.bool false) (below_four K.k0.bel (by omega) _ _ _ _) (four K.k0.r0 _ _ _ _) (λ Z r8=>by simp [results,results117,go_sem,r8]) rfl λ Z D=>?_;exact⟨rfl,D⟩
open Own Bd5 RegG
theorem optS_inv {o:Option Stp} {s:Stp} {ok:Bool} (h:optS o=(s,ok)):if ok=true then o=some s else o=none:=by
 cases o with
 | none=>simp [optS] at h;obtain⟨_,rfl⟩:=h;simp
 | some x=>simp [optS] at h;obtain⟨rfl,rfl⟩:=h;simp
theorem spl_word (c:UInt8):∀(l:By),∀ x ∈ spl c l,x.length<=l.length:=by
 intro l
 induction l with
 | nil=>intro x a;simp [spl] at a;subst a;simp
 | cons y l ih =>
  intro x a;unfold spl at a;split at a
  ·rcases List.mem_cons.1 a with rfl | a
   ·simp
   ·have:=ih x a;simp;omega
  ·split at a
   ·rename_i p ps hs
    rcases List.mem_cons.1 a with rfl | a
    ·have:=ih p (by rw [hs];exact List.mem_cons_self ..);simp;omega
    ·have:=ih x (by rw [hs];exact List.mem_cons_of_mem _ a);simp;omega
   ·simp at a;subst a;simp
theorem rsteps_i (v:Vr) (hv:okV v=true) (t:By) (hl:t.length<=4194304) (w:World) (E:Env w) :
  Calls prog 88 #[vA v,.string (bs t)] w λ e w'=>∃ sv,e=.returned (.tuple #[sv,.bool (rdSs v t).isSome])∧OwnS w' w.heap.size w'.heap.size 111 4 enSt sv ((rdSs v t).getD [])∧Below w.heap.size w w':=by
 obtain⟨i4,ai,ag,af,ae⟩:=info_parts infoSt;obtain⟨R,y⟩:=eX (rdSs v t);rw [y];have HR:=kD y;have CV:=kD (λ z=>var_i v true hv z);have CS:=kD (λ(z:World) (E9:Env z)=>split_w t 32 hl z E9);have CR:=kD (λ(x:By) (hx:x.length<=4194304) (z:World) (E9:Env z)=>rstep_i v hv x hx z E9);have HW:=kD (λ x hx=>Nat.le_trans (spl_word 32 t x hx) hl);obtain⟨M,B⟩:=eX (spl 32 t);obtain⟨n,hn⟩:=eX (M.length);have V:=spl_len 32 t;rw [B,hn] at V;rw [B] at CS HW;rw [hn] at CS;have J:=kD B;have HN:=kD hn;have HV:=kD hv;clear y hv B hn;go_enter func88,ntmps88;go_upto_region 1 with fail;refine wp_gen (λ W'=>Below w.heap.size w W'∧RowB W' w.heap.size 25 (vL v)) ⟨by go_grown,RowB.new _ _ _⟩ ?_;rintro w1 ⟨a,d⟩;obtain⟨q0,q1,q2,q3⟩:=d.c4;have C:=d.lt;go_wp2_with fail;refine(CV.out _).mono ?_;rintro e w2 ⟨rfl,l⟩;have a:=a.tR l;have d:=d.below l C;clear q0 q1 q2 q3 C l;by_cases h45:t=[45]
 ·have y:R=some []:=by rw [<-HR.out];unfold rdSs;rw [if_pos h45]
  have e1:((bs t).toList == [45])=true:=by rw [ByteArray.toList_eq,bs_data,h45];rfl
  subst y;clear h45;go_wp2_with fail;go_ret2;exact⟨_,rfl,OwnS.nil_ _ _ _ _ _ _,a⟩
 have e1:((bs t).toList == [45])=false:=by rw [ByteArray.toList_eq,bs_data];exact beq_eq_false_iff_ne.2 h45
 have W:=d.lt;go_wp2_with fail;refine(CS.out _ (E.below a)).mono ?_;rintro e K ⟨A,cp,rfl,P,I⟩;have o:=a.tR I;have d:=d.below I W;have ah:w.heap.size+1<=K.heap.size:=d.lt;have al:=kD P;clear P a I W;by_cases h4:4<n
 ·have y:R=none:=by rw [<-HR.out];unfold rdSs;rw [if_neg h45,J.out,HN.out,if_pos h4]
  have d4:decide ((4:Int)<(n:Int))=true:=decide_eq_true (by omega);subst y;clear h45 h4;go_wp2_with fail;go_ret2;exact⟨_,rfl,OwnS.nil_ _ _ _ _ _ _,o⟩
 have HM:Hid (R=mapO (rdI v) M):=by show _=_;rw [<-HR.out];unfold rdSs;rw [if_neg h45,J.out,HN.out,if_neg h4]
 have d4:decide ((4:Int)<(n:Int))=false:=decide_eq_false (by omega);have aq:n<=4:=by omega
 have j:=kD o;have ak:=kD d;clear h45 e1 HR h4 J V o d;go_wp2_with fail;go_loopw [7,9,11,24] (λ vl _ _ i wr=>∃(k:Nat) (X:List Stp),k<=n∧i=iL (k:Int)∧Hid (Below K.heap.size K wr)∧Hid (OwnS wr K.heap.size wr.heap.size 111 4 enSt vl X)∧Hid (mapO (rdI v) (M.take k)=some X)∧X.length=k) (λ _ _ _ i _=>n - (intOf i).toNat)
 case atStart=>exact⟨0,[],Nat.zero_le _,rfl,kD (Below.refl _ _),kD (OwnS.nil_ _ _ _ _ _ _),kD rfl,rfl⟩
 case round =>
  obtain⟨k,X,hk,rfl,l,L,hX,ac⟩:=hrel;clear d4;by_cases hlt:k<n
  ·obtain⟨b,an,x,rfl,aj,H,hc⟩:=rdBs_at (al.out.below l.out (Nat.le_refl _)) (by rw [HN.out];exact hlt);have HX:=kD H;have N:=HW.out x (List.mem_of_getElem? H);have CX:=kD (λ(z:World) (E9:Env z)=>CR.out x N z E9);obtain⟨⟨s,ok⟩,hq⟩:=eX (optS (rdI v x));rw [hq] at CX;have HQ:=kD (optS_inv hq);obtain⟨Av,cv,O,_⟩:=L.out.form enSt_len;rw [ac] at O;subst O;have d:=ak.out.below l.out ah;have C:=d.lt;obtain⟨q0,q1,q2,q3⟩:=d.c4;clear H N hq;go_wp2_with fail;refine(CX.out wr (E.below (j.out.trans (l.out.mono j.out.size)))).mono ?_;rintro e w5 ⟨rfl,m⟩;unfold stpV;have f:=kD (l.out.tR m);have L:=kD ((L.out.below m (Nat.le_refl _)).more m.size);have ao:=m.size;have ap:=l.out.size;clear q0 q1 q2 q3 C d l m CX hc aj
   cases ok
   case false =>
    have T:rdI v x=none:=HQ.out;have y:R=none:=by rw [HM.out];exact mapO_none T _ (List.mem_of_getElem? HX.out)
    subst y;clear HM T;go_wp2_with fail;go_ret2;refine⟨_,rfl,OwnS.nil_ _ _ _ _ _ _,?_⟩;exact j.out.trans ((f.out.alloc f.out.size _).mono j.out.size)
   have D:rdI v x=some s:=HQ.out;have ad:Hid (mapO (rdI v) (M.take (k+1))=some (X++[s])):=by
    show _=_
    rw [take_succ M k x HX.out,mapO_snoc,hX.out];simp only [D,Option.map_some]
   clear D HQ;go_wp2_with (at_builtin;refine wpL_app rfl _ _ _ rfl K.heap.size _ 111 i4 (.agg #[iL 0,iL 0,iL 0,.bool false]) 4 32 Tryz.underlying26 ai ag af ae rfl (by decide) enSt_len one_St (.slice Av k cv) X [s] rfl ((L.out.alloc _).alloc _) ⟨(w5.alloc (.cells #[iL s.1,iL s.2.1,iL s.2.2.1,.bool s.2.2.2] 111)).heap.size,0,none⟩ 1 1 (by first | rfl | (simp;rfl) | (simp [go_sem];done)) rfl (news_new (RowB.new _ _ _)) (by decide) ?c1 ?c2 ?c3 ?_)
   case c1=>unfold maxLen;omega
   case c2=>omega
   case c3=>go_size
   intro k2 c2 w7 S aa ab am;have F:∀ g,(Value.slice Av k cv).ownBlock=some g->K.heap.size<=g:=λ g hg=>(L.out.block g hg).1
   have Z:w5.grownBy w7 (Value.slice Av k cv).ownBlock:=below_grown (w:=w5) (by go_grown) aa;have f:=kD (f.out.grown Z f.out.size (λ g hg=>F g hg));have Q:=kD S;have G:(X++[s]).length=k+1:=by rw [List.length_append,ac];rfl
   obtain⟨Y,hY⟩:=eX (X++[s]);rw [hY] at ad Q G;clear aa Z ab S F hY;go_wp2_with fail;go_roundw
   case rel=>exact⟨k+1,Y,by omega,by first | rfl | trivial | go_num,f,Q,ad,G⟩
   case measure=>simp [intOf];omega
  ·obtain rfl:k=n:=by omega
   have y:R=some X:=by
    rw [HM.out];have:=hX.out;rw [List.take_of_length_le (by rw [HN.out];exact Nat.le_refl _)] at this;exact this
   subst y;clear HM;go_wp2_with fail;go_ret2;exact⟨_,rfl,L.out.less (by omega),j.out.trans (l.out.mono j.out.size)⟩
open RegF
theorem isroll_w (v:Vr) (hv:okV v=true) (a b:Int) (x:Bool) (hx:rollB v a b=x) (w:World):Calls prog 54 #[vA v,.agg #[iL a,iL b]] w λ e w'=>e=.returned (.bool x)∧Below w.heap.size w w':=by
 unfold rollB at hx;obtain⟨B,m⟩:∃ c,decide (1<=a∧a<=v.s)=c:=⟨_,rfl⟩;obtain⟨A,l⟩:∃ c,decide (1<=b∧b<=a)=c:=⟨_,rfl⟩;rw [m,l] at hx;have G:=kD (λ w=>var_i v true hv w);have F:=kD (λ w=>in_i a 1 v.s B m w);have E:=kD (λ w=>in_i b 1 a A l w);have C:=kD hx;clear hx m l hv;go_enter func54,ntmps54;go_upto_region 1 with fail;refine wp_gen (λ n=>Below w.heap.size w n∧RowB n w.heap.size 25 (vL v)∧RowB n (w.heap.size+1) 53 [iL a,iL b]) ⟨by go_grown,(RowB.new _ _ _).alloc _,RowB.new' _ _ _ (by simp)⟩ ?_;rintro I ⟨d,i,j⟩;obtain⟨z,y,t,r⟩:=i.c4;obtain⟨q,o⟩:=j.c2;have f:=i.lt;have g:=j.lt;go_wp2_with fail;refine(G.out _).mono ?_;rintro e H ⟨rfl,k⟩;have d:=d.tR k;have i:=i.below k f;have j:=j.below k g;clear z y t r q o f g k;obtain⟨z,y,t,r⟩:=i.c4;obtain⟨q,o⟩:=j.c2;have f:=i.lt;have g:=j.lt;go_wp2_with fail;refine(F.out _).mono ?_;rintro e D ⟨rfl,rfl⟩
 cases B
 case false =>
  obtain rfl:x=false:=by rw [<-C.out];rfl
  go_wp2_with fail;go_ret;exact⟨rfl,d⟩
 go_wp2_with fail;refine(E.out _).mono ?_;rintro e D ⟨rfl,rfl⟩;obtain rfl:A=x:=by rw [<-C.out];rfl
 go_wp2_with fail;go_ret;exact⟨rfl,d⟩
structure RrF (w1:World) (x y:Int) (p9 p10:Prop) (v9:Value) (w':World):Prop where
 bel:Below w1.heap.size w1 w'
 f9:p9->∃ g,v9=pT g 0∧w1.heap.size<=g∧∃ p q,RowB w' g 53 [p,q]
 f10:p10->∃ g,v9=pT g 0∧w1.heap.size<=g∧RowB w' g 53 [iL x,iL y]
theorem RrF.skip {w1 w':World} {x y:Int} {L:Nat->Prop} {vals:Nat->Value} (F:RrF w1 x y (L 9) (L 10) (vals 9) w') (k:Nat) (z:Value) (h9:9≠k:=by decide) (h10:10≠k:=by decide):RrF w1 x y (9=k∨L 9) (10=k∨L 10) (upd vals k z 9) w':=by
 rw [or_ne h9,or_ne h10,upd_ne h9];exact F
theorem RrF.s9 {w1 w':World} {x y:Int} {p9 p10:Prop} {v9:Value} (F:RrF w1 x y p9 p10 v9 w') (n10:¬ p10) {p q:Value}:RrF w1 x y True p10 (pT w'.heap.size 0) (w'.alloc (.cells #[p,q] 53)) :=
 ⟨F.bel.alloc F.bel.size _,λ _=>⟨_,rfl,F.bel.size,p,q,RowB.new _ _ _⟩,λ h=>absurd h n10⟩
theorem RrF.s10 {w1 w':World} {x y:Int} {p9 p10:Prop} {v9 p q:Value} {g:Nat} (F:RrF w1 x y p9 p10 v9 w') (hv:v9=pT g 0) (hg:w1.heap.size<=g) (h:RowB w' g 53 [p,q]) :
  RrF w1 x y p9 True v9 ((w'.setCell ⟨g,0,none⟩ (iL x)).setCell ⟨g,1,none⟩ (iL y)):=by
 have a:RowB ((w'.setCell ⟨g,0,none⟩ (iL x)).setCell ⟨g,1,none⟩ (iL y)) g 53 [iL x,iL y]:=(h.set 0 _).set 1 _;exact⟨(F.bel.setCell (p:=⟨g,0,none⟩) hg _).setCell (p:=⟨g,1,none⟩) hg _,λ _=>⟨g,hv,hg,_,_,a⟩,λ _=>⟨g,hv,hg,a⟩⟩
def optR:Option (Int × Int)->(Int × Int) × Bool
 | some s=>(s,true)
 | none=>((0,0),false)
theorem rroll_i (v:Vr) (hv:okV v=true) (t:By) (hl:t.length<=4194304) (w:World) :
  Calls prog 87 #[vA v,.string (bs t)] w λ e w'=>e=.returned (.tuple #[.agg #[iL (optR (rdR v t)).1.1,iL (optR (rdR v t)).1.2],.bool (optR (rdR v t)).2])∧Below w.heap.size w w':=by
 obtain⟨R,hR⟩:=eX (optR (rdR v t));rw [hR];have HR:=kD hR;have S:=bs_size t;clear hR;go_enter func87,ntmps87;go_upto_region 1 with fail;refine wp_gen (λ B=>Below w.heap.size w B∧RowB B w.heap.size 25 (vL v)∧RowB B (w.heap.size+1) 53 [iL 0,iL 0]) ⟨by go_grown,(RowB.new _ _ _).alloc _,RowB.new' _ _ _ (by simp)⟩ ?_;rintro w1 ⟨l,T,m⟩;have W:=m.lt;have Z:=m.frozen;by_cases h2:t.length=2
 case neg =>
  have D:R=((0,0),false):=by rw [<-HR.out];unfold rdR;rw [if_neg (λ h=>h2 h.1)];rfl
  subst D;have e1:(((bs t).size:Int) == 2)=false:=by rw [S];simp;omega
  have e2:(((bs t).size:Int) != 2)=true:=by rw [S];simp;omega
  obtain⟨r0,r1⟩:=m.c2;clear S h2;go_wp2_with fail;refine bp_gen (λ B=>Below w.heap.size w B∧RowB B (w.heap.size+1) 53 [iL 0,iL 0]) ⟨(l.setCell (p:=⟨w.heap.size+1,0,none⟩) (by show w.heap.size<=w.heap.size+1;omega) _).setCell (p:=⟨w.heap.size+1,1,none⟩) (by show w.heap.size<=w.heap.size+1;omega) _,(m.set 0 _).set 1 _⟩ ?_;rintro w8 ⟨C,V⟩;obtain⟨P,O⟩:=V.c2;refine bodyPost_ret (v:=.tuple #[.agg #[iL 0,iL 0],.bool false]) (by simp [results,results87,go_sem,P,O]) rfl ?_;exact⟨rfl,C⟩
 obtain⟨a,b,rfl⟩:=list2 h2;have e1:(((bs [a,b]).size:Int) != 2)=false:=by rw [S];rfl
 have g0:(bs [a,b]).size=2:=by rw [S];rfl
 clear S h2 hl;go_upto_region 3 with fail;refine rG [some 11,some 12,some 13,some 14,some 15,some 16,some 17,some 18,some 19,some 6,none] 11 (Pl [some (.string (bs [a,b])),some (.int .u8 (a.toNat:Int)),some (iL (a.toNat:Int)),some (iL ((a.toNat:Int) - 48)),some (.string (bs [a,b])),some (.int .u8 (b.toNat:Int)),some (iL (b.toNat:Int)),some (iL ((b.toNat:Int) - 48)),some (.agg #[iL ((a.toNat:Int) - 48),iL ((b.toNat:Int) - 48)]),none,none]) (λ L d w'=>RrF w1 ((a.toNat:Int) - 48) ((b.toNat:Int) - 48) (L 9) (L 10) (d 9) w') ?g0_1 ?gst_1 ?gfin_1
 case g0_1=>exact⟨(Below.refl _ _).drew,λ h=>absurd h (by decide),λ h=>absurd h (by decide)⟩
 case gst_1 =>
  refine rN rfl (λ L d A o f i j U F K k=>?_) ?_
  ·have e1:=U.w 1 (.string (bs [a,b]));have M:=a.toNat_lt;have z:=b.toNat_lt;have J:=iW ((a.toNat:Int));have I:=iW ((b.toNat:Int));have wc:=iW (((a.toNat:Int) - 48));have H:=iW (((b.toNat:Int) - 48));go_simp;exact pF k (F.skip 0 _)
  refine rN rfl (λ L d A o f i j U F K k=>?_) ?_
  ·have al:=U.v 0 11;have M:=a.toNat_lt;have z:=b.toNat_lt;have J:=iW ((a.toNat:Int));have I:=iW ((b.toNat:Int));have wc:=iW (((a.toNat:Int) - 48));have H:=iW (((b.toNat:Int) - 48));go_simp;exact pF k (F.skip 1 _)
  refine rN rfl (λ L d A o f i j U F K k=>?_) ?_
  ·have ak:=U.v 1 12;have M:=a.toNat_lt;have z:=b.toNat_lt;have J:=iW ((a.toNat:Int));have I:=iW ((b.toNat:Int));have wc:=iW (((a.toNat:Int) - 48));have H:=iW (((b.toNat:Int) - 48));go_simp;exact pF k (F.skip 2 _)
  refine rN rfl (λ L d A o f i j U F K k=>?_) ?_
  ·have aj:=U.v 2 13;have M:=a.toNat_lt;have z:=b.toNat_lt;have J:=iW ((a.toNat:Int));have I:=iW ((b.toNat:Int));have wc:=iW (((a.toNat:Int) - 48));have H:=iW (((b.toNat:Int) - 48));go_simp;exact pF k (F.skip 3 _)
  refine rN rfl (λ L d A o f i j U F K k=>?_) ?_
  ·have e1:=U.w 1 (.string (bs [a,b]));have M:=a.toNat_lt;have z:=b.toNat_lt;have J:=iW ((a.toNat:Int));have I:=iW ((b.toNat:Int));have wc:=iW (((a.toNat:Int) - 48));have H:=iW (((b.toNat:Int) - 48));go_simp;exact pF k (F.skip 4 _)
  refine rN rfl (λ L d A o f i j U F K k=>?_) ?_
  ·have ah:=U.v 4 15;have M:=a.toNat_lt;have z:=b.toNat_lt;have J:=iW ((a.toNat:Int));have I:=iW ((b.toNat:Int));have wc:=iW (((a.toNat:Int) - 48));have H:=iW (((b.toNat:Int) - 48));go_simp;exact pF k (F.skip 5 _)
  refine rN rfl (λ L d A o f i j U F K k=>?_) ?_
  ·have ag:=U.v 5 16;have M:=a.toNat_lt;have z:=b.toNat_lt;have J:=iW ((a.toNat:Int));have I:=iW ((b.toNat:Int));have wc:=iW (((a.toNat:Int) - 48));have H:=iW (((b.toNat:Int) - 48));go_simp;exact pF k (F.skip 6 _)
  refine rN rfl (λ L d A o f i j U F K k=>?_) ?_
  ·have af:=U.v 6 17;have M:=a.toNat_lt;have z:=b.toNat_lt;have J:=iW ((a.toNat:Int));have I:=iW ((b.toNat:Int));have wc:=iW (((a.toNat:Int) - 48));have H:=iW (((b.toNat:Int) - 48));go_simp;exact pF k (F.skip 7 _)
  refine rN rfl (λ L d A o f i j U F K k=>?_) ?_
  ·have ai:=U.v 3 14;have ae:=U.v 7 18;have M:=a.toNat_lt;have z:=b.toNat_lt;have J:=iW ((a.toNat:Int));have I:=iW ((b.toNat:Int));have wc:=iW (((a.toNat:Int) - 48));have H:=iW (((b.toNat:Int) - 48));go_simp;exact pF k (F.skip 8 _)
  refine rN rfl (λ L d A o f i j U F K k=>?_) ?_
  ·go_simp;exact k.out _ _ (Pl.any rfl) (by simpa [upd] using F.s9 (λ h=>f (j 10 9 (by kernel_rfl) h)))
  refine rN rfl (λ L d A o f i j U F K k=>?_) ?_
  ·have e6:=U.x 9 6;have ad:=U.v 8 19;refine(F.f9 (bK i 9)).elim λ g q=>?_
   refine q.2.2.elim λ p0 q2=>?_
   refine q2.elim λ p1 Q=>?_
   have em:=e6.trans q.1;clear e6;have fr:=Q.frozen;have hl:=Q.lt;obtain⟨P,O⟩:=Q.c2;go_simp;exact k.out undef _ (Pl.any rfl) (by simpa [upd,q.1] using F.s10 q.1 q.2.1 Q)
  exact RelFrom.nil (by decide)
 case gfin_1 =>
  intro d o hp F;simp only [Fr,Act.put,sX,Nat.reduceAdd];have E:=F.bel;obtain⟨g,X,ab,n⟩:=F.f10 trivial;rw [X];have T:=T.below E T.lt;have m:=m.below E m.lt;have l:=l.tR E;have ac:w.heap.size+2<=g:=by omega
  clear F hp X ab E W Z;obtain⟨x,hx⟩:=eX ((a.toNat:Int) - 48);obtain⟨y,hy⟩:=eX ((b.toNat:Int) - 48);rw [hx,hy] at n;obtain⟨c,hc⟩:=eX (rollB v x y);have Y:R=if c=true then ((x,y),true) else ((0,0),false):=by
   rw [<-HR.out];unfold rdR;simp only [List.getD_cons_zero,List.getD_cons_succ,hx,hy,hc,List.length_cons,List.length_nil]
   cases c <;> rfl
  have CR:=kD (λ o=>isroll_w v hv x y c hc o);have G:=kD Y;clear Y hc hx hy HR;obtain⟨q0,q1,q2,Q⟩:=T.c4;obtain⟨x0,x1⟩:=n.c2;have aa:=T.lt;have N:=n.lt;go_wp2_with fail;refine(CR.out _).mono ?_;rintro e w5 ⟨rfl,z⟩;have l:=l.tR z;have m:=m.below z m.lt;have n:=n.below z N;clear q0 q1 q2 Q x0 x1 aa N z CR;obtain⟨x0,x1⟩:=n.c2;have N:=n.lt;have W:=m.lt;have Z:=m.frozen;obtain⟨r0,r1⟩:=m.c2
  cases c
  case false =>
   have D:R=((0,0),false):=G.out;subst D;clear G;go_wp2_with fail;refine bp_gen (λ B=>Below w.heap.size w B∧RowB B (w.heap.size+1) 53 [iL 0,iL 0]) ⟨(l.setCell (p:=⟨w.heap.size+1,0,none⟩) (by show w.heap.size<=w.heap.size+1;omega) _).setCell (p:=⟨w.heap.size+1,1,none⟩) (by show w.heap.size<=w.heap.size+1;omega) _,(m.set 0 _).set 1 _⟩ ?_;rintro w8 ⟨C,V⟩;obtain⟨P,O⟩:=V.c2;refine bodyPost_ret (v:=.tuple #[.agg #[iL 0,iL 0],.bool false]) (by simp [results,results87,go_sem,P,O]) rfl ?_;exact⟨rfl,C⟩
  have D:R=((x,y),true):=G.out;subst D;clear G;go_wp2_with fail;refine bp_gen (λ B=>Below w.heap.size w B∧RowB B (w.heap.size+1) 53 [iL x,iL y]) ⟨(l.setCell (p:=⟨w.heap.size+1,0,none⟩) (by show w.heap.size<=w.heap.size+1;omega) _).setCell (p:=⟨w.heap.size+1,1,none⟩) (by show w.heap.size<=w.heap.size+1;omega) _,(m.set 0 _).set 1 _⟩ ?_;rintro w8 ⟨C,V⟩;obtain⟨P,O⟩:=V.c2;refine bodyPost_ret (v:=.tuple #[.agg #[iL x,iL y],.bool true]) (by simp [results,results87,go_sem,P,O]) rfl ?_;exact⟨rfl,C⟩
structure Bvr (w wr:World) (v:Vr) (x y:Int):Prop where
 bel:Below w.heap.size w wr
 rv:RowB wr w.heap.size 25 (vL v)
 rr:RowB wr (w.heap.size+1) 53 [iL x,iL y]
theorem Bvr.below {w wr w':World} {v:Vr} {x y:Int} (k:Bvr w wr v x y) (hb:zB wr w'):Bvr w w' v x y :=
 ⟨k.bel.tR hb,k.rv.below hb k.rv.lt,k.rr.below hb k.rr.lt⟩
theorem roll_i (v:Vr) (hv:okV v=true) (x y:Int) (hr:rollB v x y=true) (w:World) (E:Env w) :
  Calls prog 55 #[vA v,.agg #[iL x,iL y]] w λ e w'=>e=.returned (.string (bs (rolT x y)))∧Below w.heap.size w w':=by
 have G:=okV_iff.1 hv;have h1:=roll_parts hr;have V:=kD (λ b=>isroll_w v hv x y true hr b);have X:=kD (λ(b:World) (J:Env b)=>decimalZ x (by omega) (by omega) b J.tab);have W:=kD (λ(b:World) (J:Env b)=>decimalZ y (by omega) (by omega) b J.tab);have N:=ito_len (n:=x) (by omega) (by omega);have M:=ito_len (n:=y) (by omega) (by omega);obtain⟨o,l⟩:∃ z:ByteArray,(⟨(Lib.itoa x).toArray⟩:ByteArray)=z:=⟨_,rfl⟩;obtain⟨m,k⟩:∃ z:ByteArray,(⟨(Lib.itoa y).toArray⟩:ByteArray)=z:=⟨_,rfl⟩;rw [l] at X;rw [k] at W;have s1:o.size<=2:=by rw [<-l];exact Nat.le_trans (Nat.le_of_eq (bs_size _)) N.2
 have Z:m.size<=2:=by rw [<-k];exact Nat.le_trans (Nat.le_of_eq (bs_size _)) M.2
 have t:Hid (¬ 9223372036854775807<o.size+m.size):=kD (by omega);have T:Hid (o++m=bs (rolT x y)):=by
  show _=_
  rw [<-l,<-k];exact bs_cat _ _
 obtain⟨R,Q⟩:=eX (bs (rolT x y));rw [Q] at T ⊢;clear l k s1 Z N M h1 G hv hr Q;go_enter func55,ntmps55;go_upto_region 1 with fail;refine wp_gen (λ W'=>Bvr w W' v x y) ⟨by go_grown,(RowB.new _ _ _).alloc _,RowB.new' _ _ _ (by simp)⟩ ?_;intro w1 K;obtain⟨q0,q1,q2,q3⟩:=K.rv.c4;obtain⟨C,B⟩:=K.rr.c2;have H:=K.rv.lt;have I:=K.rr.lt;go_wp2_with fail;refine(V.out _).mono ?_;rintro e O ⟨rfl,P⟩;have K:=K.below P;clear q0 q1 q2 q3 C B H I P V;have j:=kD K;clear K;go_wp2_with fail;refine rG [some 9,some 10,some 11,some 12,some 13,some 14,some 15,some 4] 8 (Pl [some (pT (w.heap.size+1) 0),some (iL x),some (.string o),some (pT (w.heap.size+1) 1),some (iL y),some (.string m),some (.string (o++m)),some (.string (o++m))]) (λ L a w'=>Below O.heap.size O w') ?g0_2 ?gst_2 ?gfin_2
 case g0_2=>exact(Below.refl _ _).drew
 case gst_2 =>
  refine rN rfl (λ L a A b d f g U F K i=>?_) ?_
  ·have e3:=U.w 3 (pT (w.heap.size+1) 0);obtain⟨C,B⟩:=(j.out.rr.below F j.out.rr.lt).c2
   skip
   have D:=t.out;go_simp;exact pF i (F)
  refine rN rfl (λ L a A b d f g U F K i=>?_) ?_
  ·have e9:=U.v 0 9;obtain⟨C,B⟩:=(j.out.rr.below F j.out.rr.lt).c2
   skip
   have D:=t.out;go_simp;exact pF i (F)
  refine rN rfl (λ L a A b d f g U F K i=>?_) ?_
  ·have af:=U.v 1 10;go_simp;refine(X.out b (E.below (j.out.bel.tR F))).mono ?_;rintro e Y ⟨rfl,q⟩;exact pF i (F.tR q)
  refine rN rfl (λ L a A b d f g U F K i=>?_) ?_
  ·have e3:=U.w 3 (pT (w.heap.size+1) 0);obtain⟨C,B⟩:=(j.out.rr.below F j.out.rr.lt).c2
   skip
   have D:=t.out;go_simp;exact pF i (F)
  refine rN rfl (λ L a A b d f g U F K i=>?_) ?_
  ·have ad:=U.v 3 12;obtain⟨C,B⟩:=(j.out.rr.below F j.out.rr.lt).c2
   skip
   have D:=t.out;go_simp;exact pF i (F)
  refine rN rfl (λ L a A b d f g U F K i=>?_) ?_
  ·have ac:=U.v 4 13;go_simp;refine(W.out b (E.below (j.out.bel.tR F))).mono ?_;rintro e Y ⟨rfl,q⟩;exact pF i (F.tR q)
  refine rN rfl (λ L a A b d f g U F K i=>?_) ?_
  ·have ae:=U.v 2 11;have ab:=U.v 5 14;have D:=t.out;go_simp;exact pF i (F)
  refine rN rfl (λ L a A b d f g U F K i=>?_) ?_
  ·have aa:=U.v 6 15;have D:=t.out;go_simp;exact pF i (F)
  exact RelFrom.nil (by decide)
 case gfin_2 =>
  intro a b G F;simp only [Fr,Act.put,sX,Nat.reduceAdd];have S:a 7=.string (o++m):=G 7 (by decide) _ rfl;rw [S,T.out];have K:=j.out.below F;clear F G S;go_wp2_with fail;go_ret;exact⟨rfl,K.bel⟩
theorem turn_i (v:Vr) (hv:okV v=true) (x y:Int) (A:Option Addr) (cp B:Nat) (ss:List Stp) (w:World) (hB:B<=w.heap.size) (hr:RdS w B 4 enSt A ss) (E:Env w) :
  Calls prog 28 #[vA v,.agg #[iL x,iL y],.slice A ss.length cp] w λ e w'=>e=.returned (.string (bs (trnT v x y ss)))∧Below w.heap.size w w':=by
 obtain⟨S,I⟩:=eX (stpsT v ss);have O:=kD (λ(f:World) (M:zB w f)=>steps_i v A cp B ss S (by rw [hv];exact I) f (Nat.le_trans hB M.size) (hr.below M hB) (E.below M));obtain⟨c,H⟩:=eX (rollB v x y);have CR:=kD (λ f=>isroll_w v hv x y c H f);have L:trnT v x y ss=if c=true∧S≠[] then rolT x y++[58,32]++S else []:=by unfold trnT;rw [H,I]
 obtain⟨R,W⟩:=eX (trnT v x y ss);rw [W] at L ⊢;obtain⟨n,V⟩:=eX (ss.length);rw [V] at O ⊢;have i:=stpsT_len hv (ss:=ss);rw [I] at i;have m:=kD L;have Z:=kD H;have Y:=kD hv;have HL:=kD i;clear L W H I V hr hv i;go_enter func28,ntmps28;go_upto_region 1 with fail;refine wp_gen (λ W'=>Bvr w W' v x y) ⟨by go_grown,(RowB.new _ _ _).alloc _,RowB.new' _ _ _ (by simp)⟩ ?_;intro w1 K;obtain⟨G,k,F,D⟩:=K.rv.c4;have d:=K.rv.lt;go_wp2_with fail;refine(O.out _ K.bel).mono ?_;rintro e w2 ⟨rfl,j⟩;have K:=K.below j;clear G k F D d j O;obtain⟨G,k,F,D⟩:=K.rv.c4;obtain⟨T,Q⟩:=K.rr.c2;have d:=K.rv.lt;have t:=K.rr.lt;go_wp2_with fail;refine(CR.out _).mono ?_;rintro e w3 ⟨rfl,j⟩;have K:=K.below j;clear G k F D T Q d t j CR
 cases c
 case false =>
  have b:R=[]:=by rw [m.out,if_neg (by simp)]
  subst b;clear m;go_wp2_with fail;go_ret;exact⟨rfl,K.bel⟩
 by_cases hS0:S=[]
 ·have b:R=[]:=by rw [m.out,if_neg (λ h=>h.2 hS0)]
  subst b;have X:(bs S).toList.isEmpty=true:=by rw [ByteArray.toList_eq,bs_data,hS0];rfl
  clear m hS0;go_wp2_with fail;go_ret;exact⟨rfl,K.bel⟩
 have b:R=rolT x y++[58,32]++S:=by rw [m.out,if_pos ⟨rfl,hS0⟩]
 have X:(bs S).toList.isEmpty=false:=by rw [ByteArray.toList_eq,bs_data];cases S with | nil=>exact absurd rfl hS0 | cons a l=>rfl
 have q:=rolT_at Y.out Z.out;have J:Hid ((bs (rolT x y)++(⟨#[58,32]⟩:ByteArray))++bs S=bs R):=by
  show _=_
  have k:(⟨#[58,32]⟩:ByteArray)=bs [58,32]:=rfl;rw [k,bs_cat,bs_cat,b]
 have CT:=kD (λ(f:World) (E9:Env f)=>roll_i v Y.out x y Z.out f E9);obtain⟨C,g⟩:=eX (bs (rolT x y));have z1:C.size=2:=by rw [<-g,bs_size,q];rfl
 have z2:(bs S).size<=50:=by rw [bs_size];exact HL.out
 rw [g] at J CT;obtain⟨P,o⟩:=eX (bs S);rw [o] at J X z2 ⊢;have N:Hid (Ending.returned (.string ((C++(⟨#[58,32]⟩:ByteArray))++P))=Ending.returned (.string (bs R))):=by show _=_;rw [J.out]
 have g1:¬ 9223372036854775807<C.size+2:=by omega
 have g2:¬ 9223372036854775807<C.size+2+P.size:=by omega
 clear m hS0 b q g o J;obtain⟨G,k,F,D⟩:=K.rv.c4;obtain⟨T,Q⟩:=K.rr.c2;have d:=K.rv.lt;have t:=K.rr.lt;go_wp2_with fail;refine(CT.out _ (E.below K.bel)).mono ?_;rintro e w4 ⟨rfl,j⟩;have K:=K.below j;go_wp2_with fail;go_ret;exact⟨N.out,K.bel⟩
end TxI
end Go.Proofs.YtjdefiinmicjiaaGreatDoor
