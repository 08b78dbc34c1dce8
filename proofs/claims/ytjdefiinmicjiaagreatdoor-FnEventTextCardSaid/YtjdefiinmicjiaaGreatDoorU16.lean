/- Parts of the proof of FnEventText. Conditions: each theorem's own. -/
import Derived.Test.YtjdefiinmicjiaaGreatDoorU15
set_option linter.unusedVariables false
set_option linter.unusedSimpArgs false
set_option maxHeartbeats 8000000
set_option maxRecDepth 100000
namespace Go.Proofs.YtjdefiinmicjiaaGreatDoor
namespace TxI
open Go.ChangeShapes Go.WideShapes Go.ChangeAt Go.RowKit Base Ints Own JoinN PlP TxP Num Bd1 Bd5 RegF RegG
structure Bvr (w wr:World) (v:Vr) (x y:Int):Prop where
 bel:Below w.heap.size w wr
 rv:RowB wr w.heap.size 25 (vL v)
 rr:RowB wr (w.heap.size+1) 53 [.int .i64 x,.int .i64 y]
theorem Bvr.below {w wr w':World} {v:Vr} {x y:Int} (k:Bvr w wr v x y) (hb:Below wr.heap.size wr w'):Bvr w w' v x y :=
 ⟨k.bel.trans (hb.mono k.bel.size),k.rv.below hb k.rv.lt,k.rr.below hb k.rr.lt⟩
theorem roll_i (v:Vr) (hv:okV v=true) (x y:Int) (hr:rollB v x y=true) (w:World) (E:Env w) :
  Calls Tryz.prog 55 #[.agg #[.int .i64 v.p,.int .i64 v.c,.int .i64 v.h,.int .i64 v.s],.agg #[.int .i64 x,.int .i64 y]] w λ e w'=>e=.returned (.string (bs (rolT x y)))∧Below w.heap.size w w':=by
 have G:=okV_iff.1 hv;have h1:=roll_parts hr;have V:=kD (λ b=>isroll_w v hv x y true hr b);have X:=kD (λ(b:World) (J:Env b)=>decimalZ x (by omega) (by omega) b J.tab);have W:=kD (λ(b:World) (J:Env b)=>decimalZ y (by omega) (by omega) b J.tab);have N:=ito_len (n:=x) (by omega) (by omega);have M:=ito_len (n:=y) (by omega) (by omega);obtain⟨o,l⟩:∃ z:ByteArray,(⟨(Lib.itoa x).toArray⟩:ByteArray)=z:=⟨_,rfl⟩;obtain⟨m,k⟩:∃ z:ByteArray,(⟨(Lib.itoa y).toArray⟩:ByteArray)=z:=⟨_,rfl⟩;rw [l] at X;rw [k] at W;have s1:o.size<=2:=by rw [<-l];exact Nat.le_trans (Nat.le_of_eq (bs_size _)) N.2
 have Z:m.size<=2:=by rw [<-k];exact Nat.le_trans (Nat.le_of_eq (bs_size _)) M.2
 have t:Hid (¬ 9223372036854775807<o.size+m.size):=kD (by omega);have T:Hid (o++m=bs (rolT x y)):=by
  show _=_
  rw [<-l,<-k];exact bs_cat _ _
 obtain⟨R,Q⟩:∃ r,bs (rolT x y)=r:=⟨_,rfl⟩;rw [Q] at T ⊢;clear l k s1 Z N M h1 G hv hr Q;go_enter Tryz.func55,Tryz.ntmps55;go_upto_region 1 with fail;refine wp_gen (λ W'=>Bvr w W' v x y) ⟨by go_grown,(RowB.new _ _ _).alloc _,RowB.new' _ _ _ (by simp)⟩ ?_;intro w1 K;obtain⟨q0,q1,q2,q3⟩:=K.rv.c4;obtain⟨C,B⟩:=K.rr.c2;have H:=K.rv.lt;have I:=K.rr.lt;go_wp2_with fail;refine(V.out _).mono ?_;rintro e O ⟨rfl,P⟩;have K:=K.below P;clear q0 q1 q2 q3 C B H I P V;have j:=kD K;clear K;go_wp2_with fail;refine rG [some 9,some 10,some 11,some 12,some 13,some 14,some 15,some 4] 8 (Pl [some (.pointer (some ⟨w.heap.size+1,0,none⟩)),some (.int .i64 x),some (.string o),some (.pointer (some ⟨w.heap.size+1,1,none⟩)),some (.int .i64 y),some (.string m),some (.string (o++m)),some (.string (o++m))]) (λ L a w'=>Below O.heap.size O w') ?g0_2 ?gst_2 ?gfin_2
 case g0_2=>exact(Below.refl _ _).drew
 case gst_2 =>
  refine rN rfl (λ L a A b d f g U F K i=>?_) ?_
  ·have e3:=U.w 3 (.pointer (some ⟨w.heap.size+1,0,none⟩));obtain⟨C,B⟩:=(j.out.rr.below F j.out.rr.lt).c2
   skip
   have D:=t.out;go_simp;exact pF i (F)
  refine rN rfl (λ L a A b d f g U F K i=>?_) ?_
  ·have e9:=U.v 0 9;obtain⟨C,B⟩:=(j.out.rr.below F j.out.rr.lt).c2
   skip
   have D:=t.out;go_simp;exact pF i (F)
  refine rN rfl (λ L a A b d f g U F K i=>?_) ?_
  ·have af:=U.v 1 10;go_simp;refine(X.out b (E.below (j.out.bel.trans (F.mono j.out.bel.size)))).mono ?_;rintro e Y ⟨rfl,q⟩;exact pF i (F.trans (q.mono F.size))
  refine rN rfl (λ L a A b d f g U F K i=>?_) ?_
  ·have e3:=U.w 3 (.pointer (some ⟨w.heap.size+1,0,none⟩));obtain⟨C,B⟩:=(j.out.rr.below F j.out.rr.lt).c2
   skip
   have D:=t.out;go_simp;exact pF i (F)
  refine rN rfl (λ L a A b d f g U F K i=>?_) ?_
  ·have ad:=U.v 3 12;obtain⟨C,B⟩:=(j.out.rr.below F j.out.rr.lt).c2
   skip
   have D:=t.out;go_simp;exact pF i (F)
  refine rN rfl (λ L a A b d f g U F K i=>?_) ?_
  ·have ac:=U.v 4 13;go_simp;refine(W.out b (E.below (j.out.bel.trans (F.mono j.out.bel.size)))).mono ?_;rintro e Y ⟨rfl,q⟩;exact pF i (F.trans (q.mono F.size))
  refine rN rfl (λ L a A b d f g U F K i=>?_) ?_
  ·have ae:=U.v 2 11;have ab:=U.v 5 14;have D:=t.out;go_simp;exact pF i (F)
  refine rN rfl (λ L a A b d f g U F K i=>?_) ?_
  ·have aa:=U.v 6 15;have D:=t.out;go_simp;exact pF i (F)
  exact RelFrom.nil (by decide)
 case gfin_2 =>
  intro a b G F;simp only [Fr,Act.put,sX,Nat.reduceAdd];have S:a 7=.string (o++m):=G 7 (by decide) _ rfl;rw [S,T.out];have K:=j.out.below F;clear F G S;go_wp2_with fail;go_ret;exact⟨rfl,K.bel⟩
theorem turn_i (v:Vr) (hv:okV v=true) (x y:Int) (A:Option Addr) (cp B:Nat) (ss:List Stp) (w:World) (hB:B<=w.heap.size) (hr:RdS w B 4 enSt A ss) (E:Env w) :
  Calls Tryz.prog 28 #[.agg #[.int .i64 v.p,.int .i64 v.c,.int .i64 v.h,.int .i64 v.s],.agg #[.int .i64 x,.int .i64 y],.slice A ss.length cp] w λ e w'=>e=.returned (.string (bs (trnT v x y ss)))∧Below w.heap.size w w':=by
 obtain⟨S,I⟩:∃ s,stpsT v ss=s:=⟨_,rfl⟩;have O:=kD (λ(f:World) (M:Below w.heap.size w f)=>steps_i v A cp B ss S (by rw [hv];exact I) f (Nat.le_trans hB M.size) (hr.below M hB) (E.below M));obtain⟨c,H⟩:∃ c,rollB v x y=c:=⟨_,rfl⟩;have CR:=kD (λ f=>isroll_w v hv x y c H f);have L:trnT v x y ss=if c=true∧S≠[] then rolT x y++[58,32]++S else []:=by unfold trnT;rw [H,I]
 obtain⟨R,W⟩:∃ r,trnT v x y ss=r:=⟨_,rfl⟩;rw [W] at L ⊢;obtain⟨n,V⟩:∃ n,ss.length=n:=⟨_,rfl⟩;rw [V] at O ⊢;have i:=stpsT_len hv (ss:=ss);rw [I] at i;have m:=kD L;have Z:=kD H;have Y:=kD hv;have HL:=kD i;clear L W H I V hr hv i;go_enter Tryz.func28,Tryz.ntmps28;go_upto_region 1 with fail;refine wp_gen (λ W'=>Bvr w W' v x y) ⟨by go_grown,(RowB.new _ _ _).alloc _,RowB.new' _ _ _ (by simp)⟩ ?_;intro w1 K;obtain⟨G,k,F,D⟩:=K.rv.c4;have d:=K.rv.lt;go_wp2_with fail;refine(O.out _ K.bel).mono ?_;rintro e w2 ⟨rfl,j⟩;have K:=K.below j;clear G k F D d j O;obtain⟨G,k,F,D⟩:=K.rv.c4;obtain⟨T,Q⟩:=K.rr.c2;have d:=K.rv.lt;have t:=K.rr.lt;go_wp2_with fail;refine(CR.out _).mono ?_;rintro e w3 ⟨rfl,j⟩;have K:=K.below j;clear G k F D T Q d t j CR
 cases c
 case false =>
  have b:R=[]:=by rw [m.out,if_neg (by simp)]
  subst b;clear m;go_wp2_with fail;go_ret;exact⟨rfl,K.bel⟩
 by_cases hS0:S=[]
 ·have b:R=[]:=by rw [m.out,if_neg (λ h=>h.2 hS0)]
  subst b;have X:(bs S).toList.isEmpty=true:=by rw [ByteArray.toList_eq,bs_data,hS0];rfl
  clear m hS0;go_wp2_with fail;go_ret;exact⟨rfl,K.bel⟩
 have b:R=rolT x y++[58,32]++S:=by rw [m.out,if_pos ⟨rfl,hS0⟩]
 have X:(bs S).toList.isEmpty=false:=by rw [ByteArray.toList_eq,bs_data];cases S with | nil=>exact absurd rfl hS0 | cons a l=>rfl
 have q:=rolT_at Y.out Z.out;have J:Hid ((bs (rolT x y)++(⟨#[58,32]⟩:ByteArray))++bs S=bs R):=by
  show _=_
  have k:(⟨#[58,32]⟩:ByteArray)=bs [58,32]:=rfl;rw [k,bs_cat,bs_cat,b]
 have CT:=kD (λ(f:World) (E9:Env f)=>roll_i v Y.out x y Z.out f E9);obtain⟨C,g⟩:∃ z,bs (rolT x y)=z:=⟨_,rfl⟩;have z1:C.size=2:=by rw [<-g,bs_size,q];rfl
 have z2:(bs S).size<=50:=by rw [bs_size];exact HL.out
 rw [g] at J CT;obtain⟨P,o⟩:∃ z,bs S=z:=⟨_,rfl⟩;rw [o] at J X z2 ⊢;have N:Hid (Ending.returned (.string ((C++(⟨#[58,32]⟩:ByteArray))++P))=Ending.returned (.string (bs R))):=by show _=_;rw [J.out]
 have g1:¬ 9223372036854775807<C.size+2:=by omega
 have g2:¬ 9223372036854775807<C.size+2+P.size:=by omega
 clear m hS0 b q g o J;obtain⟨G,k,F,D⟩:=K.rv.c4;obtain⟨T,Q⟩:=K.rr.c2;have d:=K.rv.lt;have t:=K.rr.lt;go_wp2_with fail;refine(CT.out _ (E.below K.bel)).mono ?_;rintro e w4 ⟨rfl,j⟩;have K:=K.below j;go_wp2_with fail;go_ret;exact⟨N.out,K.bel⟩
end TxI
namespace TsI
open Go.ChangeShapes Go.WideShapes Go.ChangeAt Go.RowKit Base Ints Own JoinN PlP TxP Num Bd1 Bd5 RegF RegG TxI
theorem num_s (n:Int) (h0:0<=n) (h1:n<100) (w:World):Calls Tryz.prog 58 #[.int .i64 n] w λ e w'=>e=.returned (.string (bs (Lib.itoa n)))∧Below w.heap.size w w':=by
 obtain⟨k,rfl⟩:∃ k:Nat,n=k:=⟨n.toNat,by omega⟩;have e:Lib.itoa (k:Int)=Lib.decDigits k:=by unfold Lib.itoa;rw [if_neg (by omega),Int.toNat_natCast]
 rw [e];exact TsN.num k (by omega) w
theorem isroll_ws (v:Vr) (hv:okV v=true) (a b:Int) (x:Bool) (hx:rollB v a b=x) (w:World):Calls Tryz.prog 105 #[.agg #[.int .i64 v.p,.int .i64 v.c,.int .i64 v.h,.int .i64 v.s],.agg #[.int .i64 a,.int .i64 b]] w λ e w'=>e=.returned (.bool x)∧Below w.heap.size w w':=by
 unfold rollB at hx;obtain⟨B,m⟩:∃ c,decide (1<=a∧a<=v.s)=c:=⟨_,rfl⟩;obtain⟨A,l⟩:∃ c,decide (1<=b∧b<=a)=c:=⟨_,rfl⟩;rw [m,l] at hx;have G:=kD (λ w=>var_s v true hv w);have F:=kD (λ w=>in_s a 1 v.s B m w);have E:=kD (λ w=>in_s b 1 a A l w);have C:=kD hx;clear hx m l hv;go_enter Tryz.func105,Tryz.ntmps105;go_upto_region 1 with fail;refine wp_gen (λ n=>Below w.heap.size w n∧RowB n w.heap.size 25 (vL v)∧RowB n (w.heap.size+1) 53 [.int .i64 a,.int .i64 b]) ⟨by go_grown,(RowB.new _ _ _).alloc _,RowB.new' _ _ _ (by simp)⟩ ?_;rintro I ⟨d,i,j⟩;obtain⟨z,y,t,r⟩:=i.c4;obtain⟨q,o⟩:=j.c2;have f:=i.lt;have g:=j.lt;go_wp2_with fail;refine(G.out _).mono ?_;rintro e H ⟨rfl,k⟩;have d:=d.trans (k.mono d.size);have i:=i.below k f;have j:=j.below k g;clear z y t r q o f g k;obtain⟨z,y,t,r⟩:=i.c4;obtain⟨q,o⟩:=j.c2;have f:=i.lt;have g:=j.lt;go_wp2_with fail;refine(F.out _).mono ?_;rintro e D ⟨rfl,rfl⟩
 cases B
 case false =>
  obtain rfl:x=false:=by rw [<-C.out];rfl
  go_wp2_with fail;go_ret;exact⟨rfl,d⟩
 go_wp2_with fail;refine(E.out _).mono ?_;rintro e D ⟨rfl,rfl⟩;obtain rfl:A=x:=by rw [<-C.out];rfl
 go_wp2_with fail;go_ret;exact⟨rfl,d⟩
theorem plain_s (v:Vr) (hv:okV v=true) (s:Stp) (c:Bool) (hc:plainB v s=c) (w:World):Calls Tryz.prog 115 #[.agg #[.int .i64 v.p,.int .i64 v.c,.int .i64 v.h,.int .i64 v.s],.agg #[.int .i64 s.1,.int .i64 s.2.1,.int .i64 s.2.2.1,.bool s.2.2.2]] w λ e w'=>e=.returned (.bool c)∧Below w.heap.size w w':=by
 have n:=okV_iff.1 hv;obtain⟨f,t,d,h⟩:=s;unfold plainB at hc;simp only at hc ⊢;obtain⟨q,b⟩:∃ c,decide (0<=f∧f<=v.p)=c:=⟨_,rfl⟩;obtain⟨o,a⟩:∃ c,decide (1<=d∧d<=v.s)=c:=⟨_,rfl⟩;rw [b,a] at hc;have m:=kD (λ w=>in_s f 0 v.p q b w);have r:=kD (λ w=>in_s d 1 v.s o a w);have g:=kD (And.intro b a);have E:=kD n;have j:=kD hc;clear hc b a n hv
 cases q
 ·obtain rfl:c=false:=by rw [<-j.out];simp
  go_enter Tryz.func115,Tryz.ntmps115;go_wp2_with fail;refine(m.out _).mono ?_;rintro e i ⟨rfl,rfl⟩;go_wp2_with fail;go_ret;exact⟨rfl,by go_grown⟩
 cases o
 ·obtain rfl:c=false:=by rw [<-j.out];simp
  go_enter Tryz.func115,Tryz.ntmps115;go_wp2_with fail;refine(m.out _).mono ?_;rintro e i ⟨rfl,rfl⟩;go_wp2_with fail;refine(r.out _).mono ?_;rintro e i ⟨rfl,rfl⟩;go_wp2_with fail;go_ret;exact⟨rfl,by go_grown⟩
 have B:(0<=f∧f<=24)∧1<=d∧d<=6:=by
  have b:=of_decide_eq_true g.out.1;have a:=of_decide_eq_true g.out.2;have:=E.out;omega
 obtain⟨⟨y,x⟩,A,z⟩:=B;go_enter Tryz.func115,Tryz.ntmps115;go_wp2_with fail;refine(m.out _).mono ?_;rintro e i ⟨rfl,rfl⟩;go_wp2_with fail;refine(r.out _).mono ?_;rintro e i ⟨rfl,rfl⟩;by_cases ht:t=-1
 ·have C:(t == -1)=true:=by simp [ht]
  have hc:=j.out;rw [if_pos ht] at hc;simp only [Bool.true_and] at hc;clear ht
  cases h
  ·by_cases h3:f<v.p
   ·have l:=decide_eq_true h3;by_cases h4:f<d
    ·obtain rfl:c=true:=by rw [<-hc];simp [h3,h4]
     have D:=decide_eq_true h4;clear hc;go_wp2_with fail;go_ret;exact⟨rfl,by go_grown⟩
    ·obtain rfl:c=false:=by rw [<-hc];simp [h4]
     have D:=decide_eq_false h4;clear hc;go_wp2_with fail;go_ret;exact⟨rfl,by go_grown⟩
   ·obtain rfl:c=false:=by rw [<-hc];simp [h3]
    have l:=decide_eq_false h3;clear hc;go_wp2_with fail;go_ret;exact⟨rfl,by go_grown⟩
  ·obtain rfl:c=false:=by rw [<-hc];simp
   clear hc;go_wp2_with fail;go_ret;exact⟨rfl,by go_grown⟩
 ·have C:(t == -1)=false:=by simp [ht]
  have hc:=j.out;rw [if_neg ht] at hc;simp only [Bool.true_and] at hc;clear ht;by_cases h3:0<=t
  ·have l:=decide_eq_true h3;by_cases h4:t=f - d
   ·obtain rfl:c=true:=by rw [<-hc];exact decide_eq_true ⟨h3,h4⟩
    have k:(t == f - d)=true:=by simp [h4]
    clear hc h4;go_wp2_with fail;go_ret;exact⟨rfl,by go_grown⟩
   ·obtain rfl:c=false:=by rw [<-hc];exact decide_eq_false (λ h=>h4 h.2)
    have k:(t == f - d)=false:=by simp [h4]
    clear hc h4;go_wp2_with fail;go_ret;exact⟨rfl,by go_grown⟩
  ·obtain rfl:c=false:=by rw [<-hc];exact decide_eq_false (λ h=>h3 h.1)
   have l:=decide_eq_false h3;clear hc;by_cases h4:t=f - d
   ·have k:(t == f - d)=true:=by simp [h4]
    clear h4;go_wp2_with fail;go_ret;exact⟨rfl,by go_grown⟩
   ·have k:(t == f - d)=false:=by simp [h4]
    clear h4;go_wp2_with fail;go_ret;exact⟨rfl,by go_grown⟩
theorem step_s (v:Vr) (hv:okV v=true) (s:Stp) (hs:plainB v s=true) (w:World):Calls Tryz.prog 116 #[.agg #[.int .i64 v.p,.int .i64 v.c,.int .i64 v.h,.int .i64 v.s],.agg #[.int .i64 s.1,.int .i64 s.2.1,.int .i64 s.2.2.1,.bool s.2.2.2]] w λ e w'=>e=.returned (.string (bs (stpT v s)))∧Below w.heap.size w w':=by
 have hp:=okV_iff.1 hv;obtain⟨h1,Z,X⟩:=plain_parts hs;obtain⟨f,t,d,h⟩:=s;simp only at h1 Z X ⊢;have k:(0<=f∧f<=24)∧(1<=d∧d<=6)∧-1<=t∧t<=24:=by omega
 have T:=kD (λ(M:World)=>num_s (f+1) (by omega) (by omega) M);have S:=kD (λ(M:World)=>num_s (t+1) (by omega) (by omega) M);have CD:=kD (λ(M:World)=>num_s d (by omega) (by omega) M);obtain⟨H,J⟩:∃ x:ByteArray,bs (Lib.itoa (f+1))=x:=⟨_,rfl⟩;obtain⟨G,I⟩:∃ x:ByteArray,bs (Lib.itoa (t+1))=x:=⟨_,rfl⟩;obtain⟨V,L⟩:∃ x:ByteArray,bs (Lib.itoa d)=x:=⟨_,rfl⟩;have zf:H.size<=2:=by rw [<-J];have:=ito_len (n:=f+1) (by omega) (by omega);exact Nat.le_trans (Nat.le_of_eq (bs_size _)) this.2
 have zt:G.size<=2:=by rw [<-I];have:=ito_len (n:=t+1) (by omega) (by omega);exact Nat.le_trans (Nat.le_of_eq (bs_size _)) this.2
 have zd:V.size<=2:=by rw [<-L];have:=ito_len (n:=d) (by omega) (by omega);exact Nat.le_trans (Nat.le_of_eq (bs_size _)) this.2
 rw [J] at T;rw [I] at S;rw [L] at CD;have l:=kD (And.intro J.symm (And.intro I.symm L.symm));have H3:=kD X;obtain⟨R,W⟩:∃ R,bs (stpT v (f,t,d,h))=R:=⟨_,rfl⟩;have B:=kD W;rw [W];clear J I L W hs X hv hp;obtain⟨⟨ad,ac⟩,⟨af,ae⟩,ab,aa⟩:=k;clear h1 Z;by_cases hfp:f<v.p
 ·by_cases ht:0<=t
  ·cases h
   ·have A:Hid ((((H++⟨#[47]⟩)++G):ByteArray)=R):=by
     show _=_
     rw [<-B.out];simp only [l.out.1,l.out.2.1,l.out.2.2];have j:(⟨#[47]⟩:ByteArray)=bs [47]:=rfl;have i:(⟨#[42]⟩:ByteArray)=bs [42]:=rfl;have g:(⟨#[111,102,102]⟩:ByteArray)=bs [111,102,102]:=rfl;have E:(⟨#[40]⟩:ByteArray)=bs [40]:=rfl;have D:(⟨#[41]⟩:ByteArray)=bs [41]:=rfl;have C:(⟨#[98,97,114,47]⟩:ByteArray)=bs [98,97,114,47]:=rfl;simp only [j,i,g,E,D,C,bs_cat];unfold stpT fromT;simp [hfp,ht]
    have z:Hid (Ending.returned (.string (((H++⟨#[47]⟩)++G)))=Ending.returned (.string R)):=by show _=_;rw [A.out]
    have Q:decide (0<=t)=true:=decide_eq_true ht;have P:decide (f<v.p)=true:=decide_eq_true hfp;clear A l B;go_enter Tryz.func116,Tryz.ntmps116;go_upto_region 1 with fail;refine wp_gen (λ F=>Bx w F v f t d false) ⟨by go_grown,(RowB.new _ _ _).alloc _,RowB.new' _ _ _ (by simp)⟩ ?_;intro O K;obtain⟨y,j,i,g⟩:=K.rv.c4;obtain⟨r,q,o,m⟩:=K.rs.c4;have b:=K.rv.lt;have a:=K.rs.lt;go_wp2_with fail;refine(T.out _).mono ?_;rintro e N ⟨rfl,k⟩;have K:=K.below k;clear y j i g r q o m b a k;obtain⟨y,j,i,g⟩:=K.rv.c4;obtain⟨r,q,o,m⟩:=K.rs.c4;have b:=K.rv.lt;have a:=K.rs.lt;go_wp2_with fail;refine(S.out _).mono ?_;rintro e Y ⟨rfl,k⟩;have K:=K.below k;clear y j i g r q o m b a k;obtain⟨y,j,i,g⟩:=K.rv.c4;obtain⟨r,q,o,m⟩:=K.rs.c4;have b:=K.rv.lt;have a:=K.rs.lt;go_wp2_with fail;go_ret;exact⟨z.out,K.bel⟩
   ·have A:Hid ((((H++⟨#[47]⟩)++G)++⟨#[42]⟩:ByteArray)=R):=by
     show _=_
     rw [<-B.out];simp only [l.out.1,l.out.2.1,l.out.2.2];have j:(⟨#[47]⟩:ByteArray)=bs [47]:=rfl;have i:(⟨#[42]⟩:ByteArray)=bs [42]:=rfl;have g:(⟨#[111,102,102]⟩:ByteArray)=bs [111,102,102]:=rfl;have E:(⟨#[40]⟩:ByteArray)=bs [40]:=rfl;have D:(⟨#[41]⟩:ByteArray)=bs [41]:=rfl;have C:(⟨#[98,97,114,47]⟩:ByteArray)=bs [98,97,114,47]:=rfl;simp only [j,i,g,E,D,C,bs_cat];unfold stpT fromT;simp [hfp,ht]
    have z:Hid (Ending.returned (.string (((H++⟨#[47]⟩)++G)++⟨#[42]⟩))=Ending.returned (.string R)):=by show _=_;rw [A.out]
    have Q:decide (0<=t)=true:=decide_eq_true ht;have P:decide (f<v.p)=true:=decide_eq_true hfp;clear A l B;go_enter Tryz.func116,Tryz.ntmps116;go_upto_region 1 with fail;refine wp_gen (λ F=>Bx w F v f t d true) ⟨by go_grown,(RowB.new _ _ _).alloc _,RowB.new' _ _ _ (by simp)⟩ ?_;intro O K;obtain⟨y,j,i,g⟩:=K.rv.c4;obtain⟨r,q,o,m⟩:=K.rs.c4;have b:=K.rv.lt;have a:=K.rs.lt;go_wp2_with fail;refine(T.out _).mono ?_;rintro e N ⟨rfl,k⟩;have K:=K.below k;clear y j i g r q o m b a k;obtain⟨y,j,i,g⟩:=K.rv.c4;obtain⟨r,q,o,m⟩:=K.rs.c4;have b:=K.rv.lt;have a:=K.rs.lt;go_wp2_with fail;refine(S.out _).mono ?_;rintro e Y ⟨rfl,k⟩;have K:=K.below k;clear y j i g r q o m b a k;obtain⟨y,j,i,g⟩:=K.rv.c4;obtain⟨r,q,o,m⟩:=K.rs.c4;have b:=K.rv.lt;have a:=K.rs.lt;go_wp2_with fail;go_ret;exact⟨z.out,K.bel⟩
  ·obtain rfl:h=false:=by have:=H3.out;rcases this with h | h;exact h.2.1;omega
   by_cases hdf:d=f+1
   ·have A:Hid ((((H++⟨#[47]⟩)++⟨#[111,102,102]⟩):ByteArray)=R):=by
     show _=_
     rw [<-B.out];simp only [l.out.1,l.out.2.1,l.out.2.2];have j:(⟨#[47]⟩:ByteArray)=bs [47]:=rfl;have i:(⟨#[42]⟩:ByteArray)=bs [42]:=rfl;have g:(⟨#[111,102,102]⟩:ByteArray)=bs [111,102,102]:=rfl;have E:(⟨#[40]⟩:ByteArray)=bs [40]:=rfl;have D:(⟨#[41]⟩:ByteArray)=bs [41]:=rfl;have C:(⟨#[98,97,114,47]⟩:ByteArray)=bs [98,97,114,47]:=rfl;simp only [j,i,g,E,D,C,bs_cat];unfold stpT fromT;simp [hfp,ht,hdf]
    have z:Hid (Ending.returned (.string (((H++⟨#[47]⟩)++⟨#[111,102,102]⟩)))=Ending.returned (.string R)):=by show _=_;rw [A.out]
    have Q:decide (0<=t)=false:=decide_eq_false ht;have g3:(d != f+1)=false:=by simp [hdf]
    have P:decide (f<v.p)=true:=decide_eq_true hfp;clear A l B hdf;go_enter Tryz.func116,Tryz.ntmps116;go_upto_region 1 with fail;refine wp_gen (λ F=>Bx w F v f t d false) ⟨by go_grown,(RowB.new _ _ _).alloc _,RowB.new' _ _ _ (by simp)⟩ ?_;intro O K;obtain⟨y,j,i,g⟩:=K.rv.c4;obtain⟨r,q,o,m⟩:=K.rs.c4;have b:=K.rv.lt;have a:=K.rs.lt;go_wp2_with fail;refine(T.out _).mono ?_;rintro e N ⟨rfl,k⟩;have K:=K.below k;clear y j i g r q o m b a k;obtain⟨y,j,i,g⟩:=K.rv.c4;obtain⟨r,q,o,m⟩:=K.rs.c4;have b:=K.rv.lt;have a:=K.rs.lt;go_wp2_with fail;go_ret;exact⟨z.out,K.bel⟩
   ·have A:Hid ((((((H++⟨#[47]⟩)++⟨#[111,102,102]⟩)++(⟨#[40]⟩:ByteArray))++V)++⟨#[41]⟩:ByteArray)=R):=by
     show _=_
     rw [<-B.out];simp only [l.out.1,l.out.2.1,l.out.2.2];have j:(⟨#[47]⟩:ByteArray)=bs [47]:=rfl;have i:(⟨#[42]⟩:ByteArray)=bs [42]:=rfl;have g:(⟨#[111,102,102]⟩:ByteArray)=bs [111,102,102]:=rfl;have E:(⟨#[40]⟩:ByteArray)=bs [40]:=rfl;have D:(⟨#[41]⟩:ByteArray)=bs [41]:=rfl;have C:(⟨#[98,97,114,47]⟩:ByteArray)=bs [98,97,114,47]:=rfl;simp only [j,i,g,E,D,C,bs_cat];unfold stpT fromT;simp [hfp,ht,hdf]
    have z:Hid (Ending.returned (.string (((((H++⟨#[47]⟩)++⟨#[111,102,102]⟩)++(⟨#[40]⟩:ByteArray))++V)++⟨#[41]⟩))=Ending.returned (.string R)):=by show _=_;rw [A.out]
    have Q:decide (0<=t)=false:=decide_eq_false ht;have g3:(d != f+1)=true:=by simp;exact hdf
    have P:decide (f<v.p)=true:=decide_eq_true hfp;clear A l B hdf;go_enter Tryz.func116,Tryz.ntmps116;go_upto_region 1 with fail;refine wp_gen (λ F=>Bx w F v f t d false) ⟨by go_grown,(RowB.new _ _ _).alloc _,RowB.new' _ _ _ (by simp)⟩ ?_;intro O K;obtain⟨y,j,i,g⟩:=K.rv.c4;obtain⟨r,q,o,m⟩:=K.rs.c4;have b:=K.rv.lt;have a:=K.rs.lt;go_wp2_with fail;refine(T.out _).mono ?_;rintro e N ⟨rfl,k⟩;have K:=K.below k;clear y j i g r q o m b a k;obtain⟨y,j,i,g⟩:=K.rv.c4;obtain⟨r,q,o,m⟩:=K.rs.c4;have b:=K.rv.lt;have a:=K.rs.lt;go_wp2_with fail;refine(CD.out _).mono ?_;rintro e Y ⟨rfl,k⟩;have K:=K.below k;clear y j i g r q o m b a k;obtain⟨y,j,i,g⟩:=K.rv.c4;obtain⟨r,q,o,m⟩:=K.rs.c4;have b:=K.rv.lt;have a:=K.rs.lt;go_wp2_with fail;go_ret;exact⟨z.out,K.bel⟩
 ·by_cases ht:0<=t
  ·cases h
   ·have A:Hid ((((⟨#[98,97,114,47]⟩:ByteArray)++G):ByteArray)=R):=by
     show _=_
     rw [<-B.out];simp only [l.out.1,l.out.2.1,l.out.2.2];have j:(⟨#[47]⟩:ByteArray)=bs [47]:=rfl;have i:(⟨#[42]⟩:ByteArray)=bs [42]:=rfl;have g:(⟨#[111,102,102]⟩:ByteArray)=bs [111,102,102]:=rfl;have E:(⟨#[40]⟩:ByteArray)=bs [40]:=rfl;have D:(⟨#[41]⟩:ByteArray)=bs [41]:=rfl;have C:(⟨#[98,97,114,47]⟩:ByteArray)=bs [98,97,114,47]:=rfl;simp only [j,i,g,E,D,C,bs_cat];unfold stpT fromT;simp [hfp,ht]
    have z:Hid (Ending.returned (.string (((⟨#[98,97,114,47]⟩:ByteArray)++G)))=Ending.returned (.string R)):=by show _=_;rw [A.out]
    have Q:decide (0<=t)=true:=decide_eq_true ht;have P:decide (f<v.p)=false:=decide_eq_false hfp;clear A l B;go_enter Tryz.func116,Tryz.ntmps116;go_upto_region 1 with fail;refine wp_gen (λ F=>Bx w F v f t d false) ⟨by go_grown,(RowB.new _ _ _).alloc _,RowB.new' _ _ _ (by simp)⟩ ?_;intro O K;obtain⟨y,j,i,g⟩:=K.rv.c4;obtain⟨r,q,o,m⟩:=K.rs.c4;have b:=K.rv.lt;have a:=K.rs.lt;go_wp2_with fail;refine(S.out _).mono ?_;rintro e N ⟨rfl,k⟩;have K:=K.below k;clear y j i g r q o m b a k;obtain⟨y,j,i,g⟩:=K.rv.c4;obtain⟨r,q,o,m⟩:=K.rs.c4;have b:=K.rv.lt;have a:=K.rs.lt;go_wp2_with fail;go_ret;exact⟨z.out,K.bel⟩
   ·have A:Hid ((((⟨#[98,97,114,47]⟩:ByteArray)++G)++⟨#[42]⟩:ByteArray)=R):=by
     show _=_
     rw [<-B.out];simp only [l.out.1,l.out.2.1,l.out.2.2];have j:(⟨#[47]⟩:ByteArray)=bs [47]:=rfl;have i:(⟨#[42]⟩:ByteArray)=bs [42]:=rfl;have g:(⟨#[111,102,102]⟩:ByteArray)=bs [111,102,102]:=rfl;have E:(⟨#[40]⟩:ByteArray)=bs [40]:=rfl;have D:(⟨#[41]⟩:ByteArray)=bs [41]:=rfl;have C:(⟨#[98,97,114,47]⟩:ByteArray)=bs [98,97,114,47]:=rfl;simp only [j,i,g,E,D,C,bs_cat];unfold stpT fromT;simp [hfp,ht]
    have z:Hid (Ending.returned (.string (((⟨#[98,97,114,47]⟩:ByteArray)++G)++⟨#[42]⟩))=Ending.returned (.string R)):=by show _=_;rw [A.out]
    have Q:decide (0<=t)=true:=decide_eq_true ht;have P:decide (f<v.p)=false:=decide_eq_false hfp;clear A l B;go_enter Tryz.func116,Tryz.ntmps116;go_upto_region 1 with fail;refine wp_gen (λ F=>Bx w F v f t d true) ⟨by go_grown,(RowB.new _ _ _).alloc _,RowB.new' _ _ _ (by simp)⟩ ?_;intro O K;obtain⟨y,j,i,g⟩:=K.rv.c4;obtain⟨r,q,o,m⟩:=K.rs.c4;have b:=K.rv.lt;have a:=K.rs.lt;go_wp2_with fail;refine(S.out _).mono ?_;rintro e N ⟨rfl,k⟩;have K:=K.below k;clear y j i g r q o m b a k;obtain⟨y,j,i,g⟩:=K.rv.c4;obtain⟨r,q,o,m⟩:=K.rs.c4;have b:=K.rv.lt;have a:=K.rs.lt;go_wp2_with fail;go_ret;exact⟨z.out,K.bel⟩
  ·exfalso;have:=H3.out;omega
theorem roll_s (v:Vr) (hv:okV v=true) (x y:Int) (hr:rollB v x y=true) (w:World) :
  Calls Tryz.prog 85 #[.agg #[.int .i64 v.p,.int .i64 v.c,.int .i64 v.h,.int .i64 v.s],.agg #[.int .i64 x,.int .i64 y]] w λ e w'=>e=.returned (.string (bs (rolT x y)))∧Below w.heap.size w w':=by
 have E:=okV_iff.1 hv;have h1:=roll_parts hr;have S:=kD (λ b=>isroll_ws v hv x y true hr b);have V:=kD (λ(b:World)=>num_s x (by omega) (by omega) b);have T:=kD (λ(b:World)=>num_s y (by omega) (by omega) b);have J:=ito_len (n:=x) (by omega) (by omega);have I:=ito_len (n:=y) (by omega) (by omega);obtain⟨o,k⟩:∃ z:ByteArray,bs (Lib.itoa x)=z:=⟨_,rfl⟩;obtain⟨m,j⟩:∃ z:ByteArray,bs (Lib.itoa y)=z:=⟨_,rfl⟩;rw [k] at V;rw [j] at T;have Y:o.size<=2:=by rw [<-k];exact Nat.le_trans (Nat.le_of_eq (bs_size _)) J.2
 have X:m.size<=2:=by rw [<-j];exact Nat.le_trans (Nat.le_of_eq (bs_size _)) I.2
 have t:Hid (¬ 9223372036854775807<o.size+m.size):=kD (by omega);have Q:Hid (o++m=bs (rolT x y)):=by
  show _=_
  rw [<-k,<-j];exact bs_cat _ _
 obtain⟨R,O⟩:∃ r,bs (rolT x y)=r:=⟨_,rfl⟩;rw [O] at Q ⊢;clear k j Y X J I h1 E hv hr O;go_enter Tryz.func85,Tryz.ntmps85;go_upto_region 1 with fail;refine wp_gen (λ W'=>Bvr w W' v x y) ⟨by go_grown,(RowB.new _ _ _).alloc _,RowB.new' _ _ _ (by simp)⟩ ?_;intro w1 K;obtain⟨q0,q1,q2,Z⟩:=K.rv.c4;obtain⟨C,B⟩:=K.rr.c2;have G:=K.rv.lt;have H:=K.rr.lt;go_wp2_with fail;refine(S.out _).mono ?_;rintro e M ⟨rfl,N⟩;have K:=K.below N;clear q0 q1 q2 Z C B G H N S;have l:=kD K;clear K;go_wp2_with fail;refine rG [some 9,some 10,some 11,some 12,some 13,some 14,some 15,some 4] 8 (Pl [some (.pointer (some ⟨w.heap.size+1,0,none⟩)),some (.int .i64 x),some (.string o),some (.pointer (some ⟨w.heap.size+1,1,none⟩)),some (.int .i64 y),some (.string m),some (.string (o++m)),some (.string (o++m))]) (λ L a w'=>Below M.heap.size M w') ?g0_2 ?gst_2 ?gfin_2
 case g0_2=>exact(Below.refl _ _).drew
 case gst_2 =>
  refine rN rfl (λ L a A b d f g U F K i=>?_) ?_
  ·have e3:=U.w 3 (.pointer (some ⟨w.heap.size+1,0,none⟩));obtain⟨C,B⟩:=(l.out.rr.below F l.out.rr.lt).c2
   skip
   have D:=t.out;go_simp;exact pF i (F)
  refine rN rfl (λ L a A b d f g U F K i=>?_) ?_
  ·have e9:=U.v 0 9;obtain⟨C,B⟩:=(l.out.rr.below F l.out.rr.lt).c2
   skip
   have D:=t.out;go_simp;exact pF i (F)
  refine rN rfl (λ L a A b d f g U F K i=>?_) ?_
  ·have af:=U.v 1 10;go_simp;refine(V.out b).mono ?_;rintro e W ⟨rfl,q⟩;exact pF i (F.trans (q.mono F.size))
  refine rN rfl (λ L a A b d f g U F K i=>?_) ?_
  ·have e3:=U.w 3 (.pointer (some ⟨w.heap.size+1,0,none⟩));obtain⟨C,B⟩:=(l.out.rr.below F l.out.rr.lt).c2
   skip
   have D:=t.out;go_simp;exact pF i (F)
  refine rN rfl (λ L a A b d f g U F K i=>?_) ?_
  ·have ad:=U.v 3 12;obtain⟨C,B⟩:=(l.out.rr.below F l.out.rr.lt).c2
   skip
   have D:=t.out;go_simp;exact pF i (F)
  refine rN rfl (λ L a A b d f g U F K i=>?_) ?_
  ·have ac:=U.v 4 13;go_simp;refine(T.out b).mono ?_;rintro e W ⟨rfl,q⟩;exact pF i (F.trans (q.mono F.size))
  refine rN rfl (λ L a A b d f g U F K i=>?_) ?_
  ·have ae:=U.v 2 11;have ab:=U.v 5 14;have D:=t.out;go_simp;exact pF i (F)
  refine rN rfl (λ L a A b d f g U F K i=>?_) ?_
  ·have aa:=U.v 6 15;have D:=t.out;go_simp;exact pF i (F)
  exact RelFrom.nil (by decide)
 case gfin_2 =>
  intro a b E F;simp only [Fr,Act.put,sX,Nat.reduceAdd];have P:a 7=.string (o++m):=E 7 (by decide) _ rfl;rw [P,Q.out];have K:=l.out.below F;clear F E P;go_wp2_with fail;go_ret;exact⟨rfl,K.bel⟩
end TsI
end Go.Proofs.YtjdefiinmicjiaaGreatDoor
