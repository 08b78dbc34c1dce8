/- Parts of the proof of FnEventText. Conditions: each theorem's own. -/
import Derived.Test.YtjdefiinmicjiaaGreatDoorU09
import Derived.Test.YtjdefiinmicjiaaGreatDoorU12
import Derived.Test.YtjdefiinmicjiaaGreatDoorU16
set_option linter.unusedVariables false
set_option linter.unusedSimpArgs false
set_option maxHeartbeats 8000000
set_option maxRecDepth 100000
namespace Go.Proofs.YtjdefiinmicjiaaGreatDoor
namespace Gm
open Go Go.ChangeShapes Go.WideShapes Go.ChangeAt Go.RowKit Base Ints Own Clone RelG PlP Bd1 Bd2 Bd5 Bd6 Bd7 Bd8 RegInv RegF RegG
theorem setL_drop:∀(vs cs:List Value) (o:Nat),o+vs.length=cs.length->setL cs o vs=cs.take o++vs
 | [],cs,o,h=>by simp only [setL,List.append_nil];rw [List.take_of_length_le (by simp at h;omega)]
 | v :: r,cs,o,h=>by
  simp only [List.length_cons] at h;rw [setL,setL_drop r (cs.set o v) (o+1) (by simp;omega),List.take_add_one,List.take_set_of_le (Nat.le_refl _),List.getElem?_set_self (by omega)];simp
theorem setL_all (cs vs:List Value) (h:cs.length=vs.length):setL cs 0 vs=vs:=by rw [setL_drop vs cs 0 (by omega)];simp
theorem rdf_take {α:Type} {w:World} {S:Nat->Prop} {sz:Nat} {en:α->List Value} {A:Option Addr} {rs:List α} (h:RdF w S sz en A rs) (k:Nat):RdF w S sz en A (rs.take k):=by
 refine⟨by have:=h.1;rw [List.length_take];omega,λ f=>?_⟩;have d:0<rs.length:=by rw [List.length_take] at f;omega
 obtain⟨b,c,e,l,j,g⟩:=h.2 d;refine⟨b,c,e,l,j,λ i x a=>g i x ?_⟩;rw [List.getElem?_take] at a;split at a
 ·exact a
 ·cases a
def inS {ρ α:Type} (K:Rel ρ α) (S0:Nat->Prop):Rel ρ α where
 R:=λ w S r x=>K.R w (λ b=>S b∧S0 b) r x
 keep:=λ h hs=>K.keep h ⟨hs.1,λ b hb hl=>hs.2 b hb.1 hl⟩
 weak:=λ h hs=>K.weak h (λ b hb hl=>⟨hs b hb.1 hl,hb.2⟩)
structure B3r (w wr:World) (v:Vr) (u1 u2:Value) (x y:Int):Prop where
 bel:Below w.heap.size w wr
 rv:RowB wr w.heap.size 25 (vL v)
 rb:RowB wr (w.heap.size+1) 51 [u1,u2]
 rr:RowB wr (w.heap.size+2) 53 [.int .i64 x,.int .i64 y]
theorem B3r.below {w wr w':World} {v:Vr} {u1 u2:Value} {x y:Int} (k:B3r w wr v u1 u2 x y) (hb:Below wr.heap.size wr w'):B3r w w' v u1 u2 x y :=
 ⟨k.bel.trans (hb.mono k.bel.size),k.rv.below hb k.rv.lt,k.rb.below hb k.rb.lt,k.rr.below hb k.rr.lt⟩
theorem code_s (v:Vr) (b:Bd) (hb:Ok v b) (S:Nat->Prop) (u1 u2:Value) (x y:Int) (hr:rollB v x y=true) (w:World) (hR:BdR w S u1 u2 b) :
  Calls Tryz.prog 78 #[.agg #[.int .i64 v.p,.int .i64 v.c,.int .i64 v.h,.int .i64 v.s],.agg #[u1,u2],.agg #[.int .i64 x,.int .i64 y]] w λ e w'=>e=.returned (.int .i64 0)∧Below w.heap.size w w':=by
 obtain⟨⟨C,z,rfl,k,M⟩,⟨B,t,rfl,j,L⟩⟩:=hR;have A:=kD (λ(f:World) (r:Below w.heap.size w f)=>Bd3.isB_s v b C B z t f.heap.size f (Nat.le_refl _) (k.keep (.below r)).rd (j.keep (.below r)).rd true (okB_iff.2 hb));have G:=kD (λ(f:World)=>TsI.isroll_ws v (okV_iff.2 hb.v1) x y true hr f);obtain⟨E,d⟩:∃ n,b.1.length=n:=⟨_,rfl⟩;obtain⟨D,a⟩:∃ n,b.2.length=n:=⟨_,rfl⟩;rw [d,a] at A;rw [d,a];clear d a k j hb hr;go_enter Tryz.func78,Tryz.ntmps78;go_upto_region 1 with fail;refine wp_gen (λ F=>B3r w F v (.slice C E z) (.slice B D t) x y) ⟨by go_grown,((RowB.new _ _ _).alloc _).alloc _,(RowB.new' _ _ _ (by simp)).alloc _,RowB.new' _ _ _ (by simp)⟩ ?_;intro J K;obtain⟨q,o,m,l⟩:=K.rv.c4;obtain⟨i,g⟩:=K.rb.c2;go_wp2_with fail;refine(A.out _ K.bel).mono ?_;rintro e I ⟨rfl,hb⟩;have K:=K.below hb;clear q o m l i g hb;obtain⟨q,o,m,l⟩:=K.rv.c4;obtain⟨i,g⟩:=K.rr.c2;go_wp2_with fail;refine(G.out _).mono ?_;rintro e H ⟨rfl,hb⟩;have K:=K.below hb;go_wp2_with fail;go_ret;exact⟨rfl,K.bel⟩
theorem ord_len (x y:Int):∀ o ∈ ordP x y,o.length<=4:=by
 intro o a;unfold ordP at a;split at a
 ·simp only [List.mem_singleton] at a;rw [a];simp
 ·simp only [List.mem_cons,List.not_mem_nil,or_false] at a;rcases a with rfl | rfl <;> simp
def OrdC (xs:List (List Int)) (w:World) (e:Ending) (w':World):Prop :=
 ∃ A,e=.returned (.slice A xs.length xs.length)∧SlG RelI 1 en1 w' (λ b=>w.heap.size<=b) (.slice A xs.length xs.length) xs∧Below w.heap.size w w'
theorem orders2_s (a b:Int) (w:World):Calls Tryz.prog 107 #[.agg #[.int .i64 a,.int .i64 b]] w λ e w'=>OrdC (ordP a b) w e w':=by
 by_cases h:a=b
 ·have i:Hid (ordP a b=[[a,a,a,a]]):=kD (by unfold ordP;rw [if_pos h]);have k:(a == b)=true:=by simp [h]
  clear h;go_enter Tryz.func107,Tryz.ntmps107;go_wp2_with fail;refine bp_gen (λ c=>Below w.heap.size w c∧RowB c (w.heap.size+1) 2 [.int .i64 a,.int .i64 a,.int .i64 a,.int .i64 a]∧RowB c (w.heap.size+2) 49 [.slice (some ⟨w.heap.size+1,0,none⟩) 4 4]) ⟨by go_grown,RowB.alloc (RowB.new' _ _ _ (by first | simp | go_size | rfl)) _,RowB.new' _ _ _ (by first | simp | go_size | rfl)⟩ ?_;rintro c ⟨d,g,f⟩;go_ret;rw [i.out];refine⟨_,rfl,?_,d⟩;exact slg_new f (LsR.snoc (LsR.nil _ _ _) (sl_new (xs:=[a,a,a,a]) g (show (4:Nat)<=maxLen by decide) (by omega))) rfl (show (1:Nat)<=maxLen by decide) (by omega)
 ·have i:Hid (ordP a b=[[a,b],[b,a]]):=kD (by unfold ordP;rw [if_neg h]);have k:(a == b)=false:=by simp [h]
  clear h;go_enter Tryz.func107,Tryz.ntmps107;go_wp2_with fail;refine bp_gen (λ c=>Below w.heap.size w c∧RowB c (w.heap.size+1) 2 [.int .i64 a,.int .i64 b]∧RowB c (w.heap.size+2) 2 [.int .i64 b,.int .i64 a]∧RowB c (w.heap.size+3) 49 [.slice (some ⟨w.heap.size+1,0,none⟩) 2 2,.slice (some ⟨w.heap.size+2,0,none⟩) 2 2]) ⟨by go_grown,RowB.alloc (RowB.alloc (RowB.new' _ _ _ (by first | simp | go_size | rfl)) _) _,RowB.alloc (RowB.new' _ _ _ (by first | simp | go_size | rfl)) _,RowB.new' _ _ _ (by first | simp | go_size | rfl)⟩ ?_;rintro c ⟨d,g,f,j⟩;go_ret;rw [i.out];refine⟨_,rfl,?_,d⟩;exact slg_new j (LsR.snoc (LsR.snoc (LsR.nil _ _ _) (sl_new (xs:=[a,b]) g (show (2:Nat)<=maxLen by decide) (by omega))) (sl_new (xs:=[b,a]) f (show (2:Nat)<=maxLen by decide) (by omega))) rfl (show (2:Nat)<=maxLen by decide) (by omega)
structure F4 (w wr:World) (v:Vr) (us:List Value) (x y:Int):Prop where
 bel:Below w.heap.size w wr
 rv:RowB wr w.heap.size 25 (vL v)
 rb:RowB wr (w.heap.size+1) 51 us
 rd:RowB wr (w.heap.size+2) 53 [.int .i64 x,.int .i64 y]
 rr:RowB wr (w.heap.size+3) 51 [.slice none 0 0,.slice none 0 0]
theorem F4.below {w wr w':World} {v:Vr} {us:List Value} {x y:Int} (k:F4 w wr v us x y) (hb:Below wr.heap.size wr w'):F4 w w' v us x y :=
 ⟨k.bel.trans (hb.mono k.bel.size),k.rv.below hb k.rv.lt,k.rb.below hb k.rb.lt,k.rd.below hb k.rd.lt,k.rr.below hb k.rr.lt⟩
theorem play_s (v:Vr) (b:Bd) (hb:Ok v b) (S:Nat->Prop) (u1 u2:Value) (x y:Int) (hr:rollB v x y=true) (ss:List Stp) (As:Option Addr) (cp BS:Nat) (w:World) (hBS:BS<=w.heap.size) (hR:BdR w S u1 u2 b) (hs:RdS w BS 4 enSt As ss) :
  Calls Tryz.prog 139 #[.agg #[.int .i64 v.p,.int .i64 v.c,.int .i64 v.h,.int .i64 v.s],.agg #[u1,u2],.agg #[.int .i64 x,.int .i64 y],.slice As ss.length cp] w λ e w'=>Ret RelBI (playP v b x y ss) (λ _=>False) w e w':=by
 have ai:(1<=x∧x<=v.s)∧1<=y∧y<=x:=by unfold rollB at hr;simpa only [Bool.and_eq_true,decide_eq_true_eq] using hr
 have a0:=hb.v1.2.2.2.2;have CC:=kD (λ(f:World) (E:Below w.heap.size w f)=>code_s v b hb S u1 u2 x y hr f (hR.keep (.below E)));have CF:=kD (λ(ds:List Int) (hd:ds.length<=4) (uo:Value) (f:World) (E:Below w.heap.size w f) (ho:SlV 1 enI f All uo ds)=>follow_s v b hb S u1 u2 ds hd uo ss As cp BS f (Nat.le_trans hBS E.size) (hR.keep (.below E)) ho (hs.below E hBS));obtain⟨⟨A1,c1,rfl,r1,k1⟩,⟨A2,c2,rfl,r2,k2⟩⟩:=hR;have CU:=kD (λ(f:World) (E:Below w.heap.size w f)=>Bd23.used_s v b hb A1 A2 c1 c2 x y ⟨ai.1.1,by omega⟩ ⟨ai.2.1,by omega⟩ f (r1.keep (.below E)).rd (r2.keep (.below E)).rd k1 k2);have CL:=kD (λ(f:World) (E:Below w.heap.size w f)=>Bd5.legal_s v b hb A1 A2 c1 c2 f.heap.size x ⟨ai.1.1,by omega⟩ f (Nat.le_refl _) (r1.keep (.below E)).rd (r2.keep (.below E)).rd);obtain⟨n1,aa⟩:∃ n,b.1.length=n:=⟨_,rfl⟩;obtain⟨n2,av⟩:∃ n,b.2.length=n:=⟨_,rfl⟩;rw [aa,av] at CC CF CU CL;rw [aa,av];obtain⟨N,hN⟩:∃ n,ss.length=n:=⟨_,rfl⟩;rw [hN] at CF;rw [hN];obtain⟨un,ah⟩:∃ n,usedP v b (ordP x y)=n:=⟨_,rfl⟩;rw [ah] at CU;obtain⟨R,az⟩:∃ r,playP v b x y ss=r:=⟨_,rfl⟩;have hP:R=if N=un then firstF v b ss (ordS v b x y) else none:=by rw [<-az,<-hN,<-ah];rfl
 rw [az];have HP:=kD hP;have a9:=kD ah;clear hP az hN ah aa av r1 r2 hs hb a0 hr ai;go_enter Tryz.func139,Tryz.ntmps139;go_upto_region 1 with fail;refine wp_gen (λ W'=>F4 w W' v [.slice A1 n1 c1,.slice A2 n2 c2] x y) ⟨by go_grown,(((RowB.new _ _ _).alloc _).alloc _).alloc _,((RowB.new' _ _ _ (by simp)).alloc _).alloc _,(RowB.new' _ _ _ (by simp)).alloc _,RowB.new' _ _ _ (by simp)⟩ ?_;intro w1 K;obtain⟨W,V,T,Q⟩:=K.rv.c4;obtain⟨P,J⟩:=K.rb.c2;obtain⟨d0,d1⟩:=K.rd.c2;go_wp2_with fail;refine(CC.out _ K.bel).mono ?_;rintro e w2 ⟨rfl,hb⟩;have K:=K.below hb;clear W V T Q P J d0 d1 hb CC;obtain⟨W,V,T,Q⟩:=K.rv.c4;obtain⟨P,J⟩:=K.rb.c2;obtain⟨d0,d1⟩:=K.rd.c2;go_wp2_with fail;refine(CU.out _ K.bel).mono ?_;rintro e w3 ⟨rfl,hb⟩;have K:=K.below hb;clear W V T Q P J d0 d1 hb CU;obtain⟨z0,z1⟩:=K.rr.c2;have aj:=K.rr.lt;have al:=K.rr.frozen;by_cases hNu:N=un
 rotate_left
 ·have af:R=none:=by rw [HP.out,if_neg hNu]
  subst af;have a3:((N:Int) != (un:Int))=true:=by simpa using (λ h:(N:Int)=un=>hNu (by omega))
  clear HP;go_wp2_with fail;refine bp_gen (λ W'=>Below w.heap.size w W'∧RowB W' (w.heap.size+3) 51 [.slice none 0 0,.slice none 0 0]) ⟨below_two (K.bel) (by omega) _ _,two_ (K.rr) _ _⟩ ?_;rintro w8 ⟨ae,r8⟩;obtain⟨z0,z1⟩:=r8.c2;refine bodyPost_ret (v:=.tuple #[.agg #[.slice none 0 0,.slice none 0 0],.int .i64 5]) (by simp [results,Tryz.results139,go_sem,z0,z1]) rfl ?_;exact⟨_,rfl,⟨_,_,([],[]),5,rfl,BdR.nil _ _,(λ _ h=>by cases h),(λ _=>by decide)⟩,ae⟩
 subst hNu;have HQ:Hid (R=firstF v b ss (ordS v b x y)):=by show _=_;rw [HP.out,if_pos rfl]
 have a3:((N:Int) != (N:Int))=false:=by simp
 clear HP z0 z1 aj al;obtain⟨W,V,T,Q⟩:=K.rv.c4;obtain⟨P,J⟩:=K.rb.c2;obtain⟨d0,d1⟩:=K.rd.c2;have CO:=kD (λ(f:World)=>orders2_s x y f);go_wp2_with fail;refine(CO.out _).mono ?_;rintro e w4 ⟨aE,rfl,a2,hb⟩;have K:=K.below hb;clear W V T Q P J d0 d1 hb CO;obtain⟨Aq,bw,rs,ay,Z,ab,-⟩:=a2;obtain rfl:aE=Aq:=by simp only [Value.slice.injEq] at ay;exact ay.1
 clear ay;have B:=kD ab;have D:=kD Z;have an:=kD (ord_len x y);clear Z ab;have aD:=K;obtain⟨P,J⟩:=K.rb.c2;obtain⟨d0,d1⟩:=K.rd.c2;obtain⟨W,V,T,Q⟩:=K.rv.c4;have H:=K.rv.lt;obtain⟨M0,ak⟩:∃ M,(ordP x y).length=M:=⟨_,rfl⟩;obtain⟨z,ht⟩:∃ t:Bool,decide (N=1∧M0=2∧0<(legalP v b x).length)=t:=⟨_,rfl⟩;have HO:Hid (ordS v b x y=if z=true then (ordP x y).take 1 else ordP x y):=by
  show _=_
  rw [<-ht];unfold ordS;rw [a9.out,ak];simp only [decide_eq_true_eq]
 rw [ak];have HT:=kD ht;have aV:=kD ak;clear ht ak aD;go_upto_region 8 with fail;go_cut [50] from 35 to 50 (λ aX wx=>aX=.bool z∧Below w4.heap.size w4 wx)
 case first =>
  by_cases h1:N=1
  rotate_left
  ·have aa:((N:Int) == 1)=false:=by simpa using (λ h:(N:Int)=1=>h1 (by omega))
   have ht:z=false:=by rw [<-HT.out];exact decide_eq_false (λ h=>h1 h.1)
   subst ht;clear h1;go_wp2_with fail;go_meet;exact⟨rfl,Below.refl _ _⟩
  have aa:((N:Int) == 1)=true:=by rw [h1];rfl
  by_cases h2:M0=2
  rotate_left
  ·have a4:((M0:Int) == 2)=false:=by simpa using (λ h:(M0:Int)=2=>h2 (by omega))
   have ht:z=false:=by rw [<-HT.out];exact decide_eq_false (λ h=>h2 h.2.1)
   subst ht;clear h1 h2;go_wp2_with fail;go_meet;exact⟨rfl,Below.refl _ _⟩
  have a4:((M0:Int) == 2)=true:=by rw [h2];rfl
  have aW:=kD (And.intro h1 h2);clear h1 h2;go_wp2_with fail;refine(CL.out _ K.bel).mono ?_;rintro e w5 ⟨vl,rfl,aH,hb⟩;obtain⟨Al,cl,rfl,-⟩:=aH.form enSt_len;obtain⟨ll,aw⟩:∃ n,(legalP v b x).length=n:=⟨_,rfl⟩;rw [aw];have ht:z=decide (0<ll):=by rw [<-HT.out,aw];simp [aW.out.1,aW.out.2]
  subst ht;clear aw aH;go_wp2_with fail;go_meet;exact⟨by first | rfl | simp,hb⟩
 case rest =>
 obtain⟨rfl,hb⟩:=hcut;have K:=K.below hb;have D:=kD (D.out.keep (.below hb));have B:=kD (B.out.keep (.below hb));clear W V T Q P J d0 d1 H hb;have aS:Hid (R=firstF v b ss (if z=true then (ordP x y).take 1 else ordP x y)):=by show _=_;rw [HQ.out,HO.out]
 have HQ:=aS;have am:Hid (z=true->M0=2):=kD (λ h=>by have h2:=HT.out;rw [h] at h2;exact(of_decide_eq_true h2).2.1);clear HO aS HT;go_upto_if 50 with fail;go_cut [12] from 51 to 52 (λ aY wx=>∃(L:List (List Int)) (cq:Nat),aY=.slice aE L.length cq∧F4 w wx v [.slice A1 n1 c1,.slice A2 n2 c2] x y∧(∃ rs,RdF wx (λ b=>w3.heap.size<=b) 1 en1 aE rs∧LsR RelI wx (λ b=>w3.heap.size<=b) rs L)∧Hid (∀ o ∈ L,o.length<=4)∧Hid (R=firstF v b ss L))
 case first =>
  cases z
  ·go_wp2_with fail;go_meet;exact⟨ordP x y,_,by rw [aV.out],K,⟨rs,D.out,B.out⟩,an,HQ⟩
  ·have am:=kD (am.out rfl);have bk:(1:Int)<=(M0:Int):=by rw [am.out];decide
   go_wp2_with fail;go_meet;exact⟨(ordP x y).take 1,M0,by simp [List.length_take,aV.out,am.out],K,⟨rs.take 1,rdf_take D.out 1,B.out.take 1⟩,kD (λ o ho=>an.out o (List.mem_of_mem_take ho)),HQ⟩
 case rest =>
 obtain⟨L,cq,rfl,K,⟨be,Z,ab⟩,an,HQ⟩:=hcut;have B:=kD ab;have D:=kD Z;clear Z ab;obtain⟨P,J⟩:=K.rb.c2;obtain⟨d0,d1⟩:=K.rd.c2;obtain⟨W,V,T,Q⟩:=K.rv.c4;have H:=K.rv.lt;go_upto_region 10 with fail;obtain⟨M,hM⟩:∃ M,L.length=M:=⟨_,rfl⟩;rw [hM];have bj:M<=9223372036854775807:=by have:=D.out.len;have:=B.out.1;omega
 have aU:=kD hM;clear hM W V T Q P J d0 d1 H;go_wp2_with fail;go_loopw [13] (λ i wr=>∃ k:Nat,k<=M∧i=.int .i64 (k:Int)∧Below wc.heap.size wc wr∧F4 w wr v [.slice A1 n1 c1,.slice A2 n2 c2] x y∧Hid (R=firstF v b ss (L.drop k))) (λ i _=>M - (intOf i).toNat)
 case atStart=>exact⟨0,Nat.zero_le _,by first | rfl | trivial,Below.refl _ _,K,HQ⟩
 case round =>
  obtain⟨k,hk,rfl,I,K,aA⟩:=hrel;by_cases hlt:k<M
  ·obtain⟨ob,oo,r,rfl,-,ar,aG,hc⟩:=(D.out.keep (.below I)).at_ (i:=k) (by rw [B.out.1,aU.out];exact hlt);obtain⟨o,aq,a6⟩:=(B.out.keep (.below I)).at_ aG;have ac:=hc 0 r rfl;simp only [Nat.mul_one,Nat.add_zero] at ac;have aT:=kD (drop_at aq);have aI:=an.out o (List.mem_of_getElem? aq);obtain⟨Ao,co,rfl,aF,aM⟩:=a6;have aC:=kD (λ(f:World) (E:Below wr.heap.size wr f)=>CF.out o aI (.slice Ao o.length co) f (K.bel.trans (E.mono K.bel.size)) ⟨Ao,co,rfl,(aF.weak (λ _ _ _=>trivial)).keep (.below E),aM⟩);obtain⟨lo,aJ⟩:∃ n,o.length=n:=⟨_,rfl⟩;rw [aJ] at aC ac;have bh:k<M:=hlt;clear hc aG aq aF aM aI aJ;have KB:=K;have bb:w.heap.size+4<=wr.heap.size:=by have:=K.rr.lt;omega
   go_wp2_with fail;refine region_rel [some 60,some 61,some 62,some 63,some 64,some 65,some 66,some 67,some 59,some 68,some 69,some 14,none,some 15] 14 (Pl [some (.agg #[.int .i64 v.p,.int .i64 v.c,.int .i64 v.h,.int .i64 v.s]),some (.agg #[.slice A1 n1 c1,.slice A2 n2 c2]),some (.slice (some ⟨ob,oo,none⟩) M cq),some (.int .i64 (k:Int)),some (.pointer (some ⟨ob,oo+k,none⟩)),some (.slice Ao lo co),some (.slice As N cp),none,none,none,none,none,none,none]) (λ L d w'=>CbF (inS RelBB (λ b=>w.heap.size+4<=b)) (followP v b o ss) wr 7 11 12 [(8,(λ v=>v)),(9,ext 0),(10,ext 1),(13,ext 1)] (λ v=>aggC (ext 0 v)) 51 2 L d w') (by kernel_rfl) (by kernel_rfl) (by kernel_rfl) (by kernel_rfl) (by kernel_rfl) (by kernel_rfl) (by first | kernel_rfl | rfl) ?g0_1 ?gst_1 ?gfin_1
   case g0_1=>exact⟨(Below.refl _ _).drew,λ h=>absurd h (by decide),λ p C h=>absurd h (by simp only [List.mem_cons,List.not_mem_nil,or_false] at C;rcases C with rfl | rfl | rfl | rfl <;> decide),λ h=>absurd h (by decide),λ h=>absurd h (by decide)⟩
   case gst_1 =>
    refine rN rfl (λ L d A f j a l U F K m=>?_) ?_
    ·have e4:=U.w 4 (.pointer (some ⟨w.heap.size,0,none⟩));have G:=KB.below F.bel;obtain⟨W,V,T,Q⟩:=G.rv.c4;obtain⟨P,J⟩:=G.rb.c2;have oc:=(F.bel.cell ar).trans ac;have H:=G.rv.lt;clear G;go_simp;exact pF m (F.skip 0 _)
    refine rN rfl (λ L d A f j a l U F K m=>?_) ?_
    ·have e5:=U.w 5 (.pointer (some ⟨w.heap.size+1,0,none⟩));have G:=KB.below F.bel;obtain⟨W,V,T,Q⟩:=G.rv.c4;obtain⟨P,J⟩:=G.rb.c2;have oc:=(F.bel.cell ar).trans ac;have H:=G.rv.lt;clear G;go_simp;exact pF m (F.skip 1 _)
    refine rN rfl (λ L d A f j a l U F K m=>?_) ?_
    ·have bv:=U.w 12 (.slice (some ⟨ob,oo,none⟩) M cq);go_simp;exact pF m (F.skip 2 _)
    refine rN rfl (λ L d A f j a l U F K m=>?_) ?_
    ·have bt:=U.w 13 (.int .i64 (k:Int));go_simp;exact pF m (F.skip 3 _)
    refine rN rfl (λ L d A f j a l U F K m=>?_) ?_
    ·have bq:=U.v 2 62;have bp:=U.v 3 63;go_simp;exact pF m (F.skip 4 _)
    refine rN rfl (λ L d A f j a l U F K m=>?_) ?_
    ·have bo:=U.v 4 64;have G:=KB.below F.bel;obtain⟨W,V,T,Q⟩:=G.rv.c4;obtain⟨P,J⟩:=G.rb.c2;have oc:=(F.bel.cell ar).trans ac;have H:=G.rv.lt;clear G;go_simp;exact pF m (F.skip 5 _)
    refine rN rfl (λ L d A f j a l U F K m=>?_) ?_
    ·have e3:=U.w 3 (.slice As N cp);go_simp;exact pF m (F.skip 6 _)
    refine rN rfl (λ L d A f j a l U F K m=>?_) ?_
    ·have bs:=U.v 0 60;have br:=U.v 1 61;have bn:=U.v 5 65;have bm:=U.v 6 66;go_simp;refine(aC.out f F.bel).mono ?_;rintro e w6 ⟨v6,rfl,a1,a5⟩;exact m.out v6 w6 (Pl.any rfl) (F.call j (by decide) a5 (RelBB.weak a1 (λ b hb _=>hb.elim False.elim (λ h=>⟨.inr h,by have:=F.bel.size;omega⟩))))
    refine rN rfl (λ L d A f j a l U F K m=>?_) ?_
    ·have bl:=U.x 7 67;go_simp;exact m.out _ f (Pl.any rfl) (F.part 8 (by decide) (bK a 7) (by intro p C e;simp only [List.mem_cons,List.not_mem_nil,or_false] at C;rcases C with rfl | rfl | rfl | rfl <;> first | exact absurd e (by decide) | rfl))
    refine rN rfl (λ L d A f j a l U F K m=>?_) ?_
    ·have ag:=U.x 8 59;have fc:=F.fc (bK a 7);refine fc.elim λ u3 q=>?_
     refine q.elim λ u4 q=>?_
     refine q.elim λ X q=>?_
     have aR:=ag.trans ((F.fd (8,(λ v=>v)) (by simp) (bK a 8)).2.trans q.1);clear ag fc;go_simp;exact m.out _ f (Pl.any rfl) (F.part 9 (by decide) (bK a 7) (by intro p C e;simp only [List.mem_cons,List.not_mem_nil,or_false] at C;rcases C with rfl | rfl | rfl | rfl <;> first | exact absurd e (by decide) | (rw [q.1];try rfl)))
    refine rN rfl (λ L d A f j a l U F K m=>?_) ?_
    ·have ag:=U.x 8 59;have fc:=F.fc (bK a 7);refine fc.elim λ u3 q=>?_
     refine q.elim λ u4 q=>?_
     refine q.elim λ X q=>?_
     have aR:=ag.trans ((F.fd (8,(λ v=>v)) (by simp) (bK a 8)).2.trans q.1);clear ag fc;go_simp;exact m.out _ f (Pl.any rfl) (F.part 10 (by decide) (bK a 7) (by intro p C e;simp only [List.mem_cons,List.not_mem_nil,or_false] at C;rcases C with rfl | rfl | rfl | rfl <;> first | exact absurd e (by decide) | (rw [q.1];try rfl)))
    refine rN rfl (λ L d A f j a l U F K m=>?_) ?_
    ·go_simp;exact m.out _ _ (Pl.any rfl) (F.box j (by decide) (λ h=>j (l 12 11 (by kernel_rfl) h)) rfl)
    refine rN rfl (λ L d A f j a l U F K m=>?_) ?_
    ·have a8:=U.x 11 14;have a7:=U.x 9 68;have fc:=F.fc (bK a 7);refine fc.elim λ u3 q=>?_
     refine q.elim λ u4 q=>?_
     refine q.elim λ X q=>?_
     refine(F.fa (bK a 11)).elim λ g qa=>?_
     refine qa.2.2.1.elim λ cs qc=>?_
     have aO:cs.length=2:=qc.1;have aZ:d 9=.agg ⟨[u3,u4]⟩:=by rw [(F.fd (9,ext 0) (by simp) (bK a 9)).2,q.1];rfl
     refine q.2.1.1.elim λ A5 qs=>?_
     refine qs.elim λ c5 qs=>?_
     refine q.2.1.2.elim λ A6 qt=>?_
     refine qt.elim λ c6 qt=>?_
     refine wp_sm 51 _ _ rfl g 0 [u3,u4] cs (ev (a8.trans qa.1)) (ev (a7.trans aZ)) 51 qc.2 (by kernel_rfl) (Nat.le_of_eq aO.symm) (by rw [qs.1,qt.1];rfl) ?_;exact m.out undef _ (Pl.any rfl) (F.wrote (by decide) (bK a 7) (bK a 11) qa.1 qa.2.1 qc.2 (by rw [q.1];exact setL_all cs _ aO))
    refine rN rfl (λ L d A f j a l U F K m=>?_) ?_
    ·have aQ:=U.x 10 69;have fc:=F.fc (bK a 7);refine fc.elim λ u3 q=>?_
     refine q.elim λ u4 q=>?_
     refine q.elim λ X q=>?_
     have bd:=aQ.trans ((F.fd (10,ext 1) (by simp) (bK a 10)).2.trans (by rw [q.1];try rfl));clear fc aQ;go_simp;exact m.out _ f (Pl.any rfl) (F.part 13 (by decide) (bK a 7) (by intro p C e;simp only [List.mem_cons,List.not_mem_nil,or_false] at C;rcases C with rfl | rfl | rfl | rfl <;> first | exact absurd e (by decide) | (rw [q.1];try rfl)))
    exact RelFrom.nil (by decide)
   intro d f C F;simp only [Fr,Act.put,sX,Nat.reduceAdd];obtain⟨gx,ax,bi,-,aN⟩:=F.fa trivial;have rx:=(F.fw trivial).2 gx ax;obtain⟨u3,u4,X,ap,ad,Y⟩:=aN trivial;have ao:d 13=.bool (followP v b o ss).isSome:=(F.fd (13,ext 1) (by simp) trivial).2.trans (by rw [ap];try rfl);rw [ap] at rx;have rx:RowB f gx 51 [u3,u4]:=rx;rw [ax,ao];have aP:=F.bel;have K:=KB.below aP;have I:=I.trans (aP.mono I.size);have bc:w.heap.size+4<=gx:=by have:=KB.rr.lt;omega
   clear F C ap ao aN ax KB aC;obtain⟨O,hO⟩:∃ o',followP v b o ss=o':=⟨_,rfl⟩;rw [hO] at Y ⊢;have HO:=kD hO;clear hO;obtain⟨z0,z1⟩:=K.rr.c2;have aj:=K.rr.lt;have al:=K.rr.frozen
   cases O with
   | none =>
    have ba:Hid (R=firstF v b ss (L.drop (k+1))):=by
     show _=_
     rw [aA.out,aT.out];simp only [firstF];rw [HO.out]
    have bg:IntKind.i64.wrap ((k:Int)+1)=(k:Int)+1:=IntWalk.i64_in _ (by omega);clear rx ad z0 z1 aj al;go_wp2_with fail;go_roundw
    case rel=>exact⟨k+1,by omega,by go_num,I,K,ba⟩
    case measure=>simp [intOf];omega
   | some c =>
    obtain rfl:=Y c rfl;have af:R=some X:=by rw [aA.out,aT.out];simp only [firstF];rw [HO.out]
    subst af;obtain⟨⟨A5,c5,rfl,p5,k5⟩,⟨A6,c6,rfl,p6,k6⟩⟩:=ad;have ad:BdR f (λ b=>b≠gx∧w.heap.size+4<=b) (.slice A5 X.1.length c5) (.slice A6 X.2.length c6) X:=⟨⟨A5,c5,rfl,p5,k5⟩,⟨A6,c6,rfl,p6,k6⟩⟩;have aB:=kD ad;obtain⟨l5,aL⟩:∃ n,X.1.length=n:=⟨_,rfl⟩;obtain⟨l6,aK⟩:∃ n,X.2.length=n:=⟨_,rfl⟩;rw [aL,aK] at rx aB;obtain⟨x0,x1⟩:=rx.c2;have bf:=rx.lt;clear ad p5 p6 aL aK HO;go_wp2_with fail;refine bp_gen (λ W'=>Below w.heap.size w W'∧RowB W' (w.heap.size+3) 51 [.slice A5 l5 c5,.slice A6 l6 c6]∧Hid (BdR W' (λ b=>(λ _=>False) b∨w.heap.size<=b) (.slice A5 l5 c5) (.slice A6 l6 c6) X)) ⟨below_two K.bel (by omega) _ _,two_ K.rr _ _,kD ⟨?_,?_⟩⟩ ?_
    ·exact(relV 1 enI).weak (sl_two' aB.out.1 (by omega) _ _) (λ b hb _=>.inr (by omega))
    ·exact(relV 1 enI).weak (sl_two' aB.out.2 (by omega) _ _) (λ b hb _=>.inr (by omega))
    rintro w8 ⟨ae,r8,h8⟩;obtain⟨z0,z1⟩:=r8.c2;refine bodyPost_ret (v:=.tuple #[.agg #[.slice A5 l5 c5,.slice A6 l6 c6],.int .i64 0]) (by simp [results,Tryz.results139,go_sem,z0,z1]) rfl ?_;exact⟨_,rfl,⟨_,_,X,0,rfl,h8.out,(λ b0 h=>⟨by simpa using h,rfl⟩),(λ h=>by cases h)⟩,ae⟩
  ·obtain rfl:M=k:=by omega
   have af:R=none:=by
    rw [aA.out,show L.drop M=[] from List.drop_eq_nil_of_le (by rw [aU.out];exact Nat.le_refl _)];rfl
   subst af;obtain⟨z0,z1⟩:=K.rr.c2;have aj:=K.rr.lt;have al:=K.rr.frozen;go_wp2_with fail;refine bp_gen (λ W'=>Below w.heap.size w W'∧RowB W' (w.heap.size+3) 51 [.slice none 0 0,.slice none 0 0]) ⟨below_two (K.bel) (by omega) _ _,two_ (K.rr) _ _⟩ ?_;rintro w8 ⟨ae,r8⟩;obtain⟨z0,z1⟩:=r8.c2;refine bodyPost_ret (v:=.tuple #[.agg #[.slice none 0 0,.slice none 0 0],.int .i64 5]) (by simp [results,Tryz.results139,go_sem,z0,z1]) rfl ?_;exact⟨_,rfl,⟨_,_,([],[]),5,rfl,BdR.nil _ _,(λ _ h=>by cases h),(λ _=>by decide)⟩,ae⟩
theorem full_s (w:World):Calls Tryz.prog 73 #[] w λ e w'=>e=.returned (.agg #[.int .i64 24,.int .i64 15,.int .i64 6,.int .i64 6])∧Below w.heap.size w w':=by
 go_enter Tryz.func73,Tryz.ntmps73;go_wp2;go_returns;exact⟨rfl,by go_grown⟩
def fullB (v:Vr):Bool:=decide (v.p=24) && decide (v.c=15) && decide (v.h=6) && decide (v.s=6)
theorem eq_full (v:Vr) (w:World):(binOp .eql 25 (.agg #[.int .i64 v.p,.int .i64 v.c,.int .i64 v.h,.int .i64 v.s]) (.agg #[.int .i64 24,.int .i64 15,.int .i64 6,.int .i64 6])).run Tryz.prog w=.ok (.bool (fullB v)) w:=by
 unfold fullB;by_cases h1:v.p=24 <;> by_cases h2:v.c=15 <;> by_cases h3:v.h=6 <;> by_cases h4:v.s=6 <;> go_simp <;> simp [h1,h2,h3,h4]
theorem flatI_rep (n:Nat):(List.replicate n (0:Int)).flatMap enI=List.replicate n (Value.int .i64 0):=by
 induction n with
 | zero=>rfl
 | succ n ih=>rw [List.replicate_succ,List.flatMap_cons,ih];rfl
theorem empty_s (v:Vr) (hv:okV v=true) (w:World):Calls Tryz.prog 135 #[.agg #[.int .i64 v.p,.int .i64 v.c,.int .i64 v.h,.int .i64 v.s]] w λ e w'=>(∃(g n:Nat),(n:Int)=v.p+1∧e=.returned (.slice (some ⟨g,0,none⟩) n n)∧w.heap.size<=g∧RowI w' g (List.replicate n 0) [])∧Below w.heap.size w w':=by
 have x:=okV_iff.1 hv;obtain⟨r,m,k,j,i⟩:=info_parts Ints.info;obtain⟨n,l⟩:∃ n:Nat,(n:Int)=v.p+1:=⟨(v.p+1).toNat,by omega⟩;have t:IntKind.i64.wrap (v.p+1)=(n:Int):=by rw [IntWalk.i64_in _ (by omega)];exact l.symm
 have y:n<=25:=by omega
 have z:=kD l;clear l x hv;go_enter Tryz.func135,Tryz.ntmps135;go_wp2_with (at_make;refine wpList_make_full _ rfl _ _ _ rfl (w.heap.size+1) 2 r (.int .i64 0) 1 Tryz.underlying49 m k j _ _ _ _ n rfl rfl rfl rfl ?c1 ?c2 (by go_size) ?_)
 case c1=>rw [i];omega
 case c2=>unfold maxLen;omega
 intro q b a;have d:Below w.heap.size w (w.alloc (.cells #[.int .i64 v.p,.int .i64 v.c,.int .i64 v.h,.int .i64 v.s] 25)):=by go_grown
 have o:Below w.heap.size w q:=d.grown a d.size (by simp);have f:RowI q (w.heap.size+1) (List.replicate n 0) []:=by
  have:=RowB.of_own b;unfold RowI
  simpa [made_rep,flatI_rep] using this
 clear b a d;go_wp2_with fail;go_ret;exact⟨⟨w.heap.size+1,n,z.out,rfl,by omega,f⟩,o⟩
structure Sg (w wr:World) (v:Vr) (g:Nat) (l:List Int):Prop where
 bel:Below w.heap.size w wr
 rv:RowB wr w.heap.size 25 (vL v)
 rl:RowI wr g l []
theorem Sg.below {w wr w':World} {v:Vr} {g:Nat} {l:List Int} (k:Sg w wr v g l) (hb:Below wr.heap.size wr w'):Sg w w' v g l :=
 ⟨k.bel.trans (hb.mono k.bel.size),k.rv.below hb k.rv.lt,k.rl.below hb k.rl.lt⟩
theorem Sg.put {w wr:World} {v:Vr} {g:Nat} {l:List Int} (k:Sg w wr v g l) (hg:w.heap.size<g) {i:Nat} (hi:i<l.length) (x:Int):Sg w (wr.setCell ⟨g,i,none⟩ (.int .i64 x)) v g (l.set i x) :=
 ⟨k.bel.setCell (p:=⟨g,i,none⟩) (by show w.heap.size<=g;omega) _,k.rv.other (p:=⟨g,i,none⟩) (by show w.heap.size≠g;omega) _,k.rl.put hi x⟩
theorem start_s (v:Vr) (hv:okV v=true) (h4:4<=v.p) (w:World):Calls Tryz.prog 99 #[.agg #[.int .i64 v.p,.int .i64 v.c,.int .i64 v.h,.int .i64 v.s]] w λ e w'=>(∃ sv,e=.returned sv∧OwnS w' w.heap.size w'.heap.size 2 1 enI sv (startL v))∧Below w.heap.size w w':=by
 have r:=okV_iff.1 hv;have CE:=kD (λ l=>empty_s v hv l);have CF:=kD (λ l=>full_s l);obtain⟨q,W⟩:∃ q,fullB v=q:=⟨_,rfl⟩;have qE:∀ w:World,(binOp .eql 25 (.agg #[.int .i64 v.p,.int .i64 v.c,.int .i64 v.h,.int .i64 v.s]) (.agg #[.int .i64 24,.int .i64 15,.int .i64 6,.int .i64 6])).run Tryz.prog w=.ok (.bool q) w:=λ w=>by rw [eq_full,W]
 have HQ:=kD W;clear W hv;go_enter Tryz.func99,Tryz.ntmps99;go_upto_region 1 with fail;refine wp_gen (λ W'=>Below w.heap.size w W'∧RowB W' w.heap.size 25 (vL v)) ⟨by go_grown,RowB.new _ _ _⟩ ?_;rintro w1 ⟨C,S⟩;obtain⟨I,H,G,E⟩:=S.c4;have f:=S.lt;go_wp2_with fail;refine(CE.out _).mono ?_;rintro e V ⟨⟨g,n,hn,rfl,hg,m⟩,B⟩;have K:Sg w V v g (List.replicate n 0):=⟨C.trans (B.mono C.size),S.below B f,m⟩;have b:w.heap.size<g:=by omega
 clear C B S I H G E m hg f;obtain⟨I,H,G,E⟩:=K.rv.c4;have f:=K.rv.lt;have T:=kD hn;have ah:5<=n:=by omega
 have aa:n<=25:=by omega
 have hP:=kD r;clear hn r;go_wp2_with fail;have KB:=K;refine rG [some 6,some 7,some 8] 3 (Pl [some (.agg #[.int .i64 v.p,.int .i64 v.c,.int .i64 v.h,.int .i64 v.s]),some (.agg #[.int .i64 24,.int .i64 15,.int .i64 6,.int .i64 6]),some (.bool q)]) (λ L a w'=>Below V.heap.size V w') ?g0_1 ?gst_1 ?gfin_1
 case g0_1=>exact(Below.refl _ _).drew
 case gst_1 =>
  refine rN rfl (λ L a A l M N O U F K Q=>?_) ?_
  ·have e1:=U.w 1 (.pointer (some ⟨w.heap.size,0,none⟩));have KK:=KB.below F;obtain⟨I,H,G,E⟩:=KK.rv.c4;have ai:=KK.rv.lt;clear KK;go_simp;exact pF Q (F)
  refine rN rfl (λ L a A l M N O U F K Q=>?_) ?_
  ·go_simp;refine(CF.out l).mono ?_;rintro e w6 ⟨rfl,Y⟩;exact pF Q (F.trans (Y.mono F.size))
  refine rN rfl (λ L a A l M N O U F K Q=>?_) ?_
  ·have e6:=U.v 0 6;have e7:=U.v 1 7;go_simp;exact pF Q (F)
  exact RelFrom.nil (by decide)
 intro a l r F;simp only [Fr,Act.put,sX,Nat.reduceAdd];have J:a 2=.bool q:=r 2 (by decide) _ rfl;rw [J];have P:=F;have K:=KB.below P;obtain⟨w3,o⟩:∃ u,l=u:=⟨_,rfl⟩;rw [o] at K ⊢;clear I H G E f P F r J o KB qE CF CE
 cases q
 case true =>
  have x:v.p=24∧v.c=15∧v.h=6∧v.s=6:=by
   have:=HQ.out;unfold fullB at this;simp only [Bool.and_eq_true,decide_eq_true_eq] at this;exact⟨this.1.1.1,this.1.1.2,this.1.2,this.2⟩
  have d:n=25:=by have:=T.out;omega
  have HF:Hid (startL v=((((List.replicate n (0:Int)).set 5 5).set 7 3).set 12 5).set 23 2):=by
   show _=_
   unfold startL;rw [if_pos x,d]
  have g5:5<n:=by omega
  have g7:7<n:=by omega
  have ax:12<n:=by omega
  have aw:23<n:=by omega
  clear d x;have av:=K.rl.at_ (i:=5) (by simp only [List.length_set,List.length_replicate];omega);have ar:=K.rl.at_ (i:=7) (by simp only [List.length_set,List.length_replicate];omega);have ac:=K.rl.at_ (i:=12) (by simp only [List.length_set,List.length_replicate];omega);have ab:=K.rl.at_ (i:=23) (by simp only [List.length_set,List.length_replicate];omega);have Z:=RowB.frozen K.rl;have t:=RowB.lt K.rl;have R:=(((K.put b (i:=5) (by simp only [List.length_set,List.length_replicate];omega) 5).put b (i:=7) (by simp only [List.length_set,List.length_replicate];omega) 3).put b (i:=12) (by simp only [List.length_set,List.length_replicate];omega) 5).put b (i:=23) (by simp only [List.length_set,List.length_replicate];omega) 2;have k:=kD R;clear K R;go_wp2_with fail;go_ret;refine⟨⟨_,rfl,?_⟩,k.out.bel⟩;show OwnS _ w.heap.size _ 2 1 enI (.slice (some ⟨g,0,none⟩) n n) _
  rw [HF.out];have X:=RowI.own k.out.rl (lo:=w.heap.size) (hi:=w3.heap.size) (by omega) t rfl (by simp only [List.length_set,List.length_replicate,List.length_nil];unfold maxLen;omega)
  simpa only [List.length_set,List.length_replicate,List.length_nil,Nat.add_zero] using X.more (by simp)
 case false =>
  obtain⟨I,H,G,E⟩:=K.rv.c4;have f:=K.rv.lt;have Z:=RowB.frozen K.rl;have t:=RowB.lt K.rl;have r:=hP.out;obtain⟨i,hi⟩:∃ i:Nat,(i:Int)=v.p - 1:=⟨(v.p - 1).toNat,by omega⟩;obtain⟨j,hj⟩:∃ j:Nat,(j:Int)=v.p / 2 - 1:=⟨(v.p / 2 - 1).toNat,by omega⟩;have ag:IntKind.i64.wrap (v.p - 1)=(i:Int):=by rw [IntWalk.i64_in _ (by omega)];exact hi.symm
  have al:i<n:=by have:=T.out;omega
  have aj:j<n:=by have:=T.out;omega
  have am:¬ i=j:=by omega
  have ak:¬ j=i:=by omega
  have aq:=K.rl.at_ (i:=i) (by simp only [List.length_set,List.length_replicate];omega);have ap:=K.rl.at_ (i:=j) (by simp only [List.length_set,List.length_replicate];omega);obtain⟨D,z⟩:∃ c:Int,v.c / 2=c:=⟨_,rfl⟩;obtain⟨dd,y⟩:∃ c:Int,v.c - D=c:=⟨_,rfl⟩;have ao:Int.tdiv v.p 2=(j:Int)+1:=by rw [Int.tdiv_eq_ediv_of_nonneg (by omega)];omega
  have af:IntKind.i64.wrap ((j:Int)+1)=(j:Int)+1:=IntWalk.i64_in _ (by omega);have o:IntKind.i64.wrap ((j:Int)+1 - 1)=(j:Int):=by rw [IntWalk.i64_in _ (by omega)];omega
  have an:Int.tdiv v.c 2=D:=by rw [Int.tdiv_eq_ediv_of_nonneg (by omega)];exact z
  have ae:IntKind.i64.wrap D=D:=IntWalk.i64_in _ (by omega);have ad:IntKind.i64.wrap (v.c - D)=dd:=by rw [IntWalk.i64_in _ (by omega)];exact y
  have HF:Hid (startL v=((List.replicate n (0:Int)).set i D).set j dd):=by
   show _=_
   unfold startL;rw [if_neg (λ x=>by have:=HQ.out;unfold fullB at this;simp [x.1,x.2.1,x.2.2.1,x.2.2.2] at this)];rw [show (v.p+1).toNat=n from by have:=T.out;omega,show (v.p - 1).toNat=i from by omega,show (v.p / 2 - 1).toNat=j from by omega,<-y,<-z]
  have R:=(K.put b (i:=i) (by simp only [List.length_set,List.length_replicate];omega) D).put b (i:=j) (by simp only [List.length_set,List.length_replicate];omega) dd;have k:=kD R;clear hi hj r z y K R;go_wp2_with fail;go_ret;refine⟨⟨_,rfl,?_⟩,k.out.bel⟩;show OwnS _ w.heap.size _ 2 1 enI (.slice (some ⟨g,0,none⟩) n n) _
  rw [HF.out];have X:=RowI.own k.out.rl (lo:=w.heap.size) (hi:=w3.heap.size) (by omega) t rfl (by simp only [List.length_set,List.length_replicate,List.length_nil];unfold maxLen;omega)
  simpa only [List.length_set,List.length_replicate,List.length_nil,Nat.add_zero] using X.more (by simp)
structure Dv (M:(Nat->Prop)->(Nat->Value)->World->Prop) (k5 k4:Nat) (g:Value->Value) (L:Nat->Prop) (vals:Nat->Value) (w':World):Prop where
 a:M L vals w'
 b:L k5->L k4∧vals k5=g (vals k4)
section
variable {M:(Nat->Prop)->(Nat->Value)->World->Prop} {k5 k4:Nat} {g:Value->Value} {L:Nat->Prop} {vals:Nat->Value} {w' w'':World}
theorem Dv.other {k:Nat} {x:Value} (F:Dv M k5 k4 g L vals w') (hk:k5≠k∧k4≠k) (ha:M (λ j=>j=k∨L j) (upd vals k x) w''):Dv M k5 k4 g (λ j=>j=k∨L j) (upd vals k x) w'' :=
 ⟨ha,λ h=>by have:=F.b (h.resolve_left hk.1);rw [upd_ne hk.1,upd_ne hk.2];exact⟨.inr this.1,this.2⟩⟩
theorem Dv.at4 {x:Value} (F:Dv M k5 k4 g L vals w') (hno:¬ L k4) (hk:k5≠k4) (ha:M (λ j=>j=k4∨L j) (upd vals k4 x) w''):Dv M k5 k4 g (λ j=>j=k4∨L j) (upd vals k4 x) w'' :=
 ⟨ha,λ h=>absurd (F.b (h.resolve_left hk)).1 hno⟩
theorem Dv.at5 {x:Value} (F:Dv M k5 k4 g L vals w') (hk:k4≠k5) (l4:L k4) (hx:x=g (vals k4)) (ha:M (λ j=>j=k5∨L j) (upd vals k5 x) w''):Dv M k5 k4 g (λ j=>j=k5∨L j) (upd vals k5 x) w'' :=
 ⟨ha,λ _=>by rw [upd_same,upd_ne hk];exact⟨.inr l4,hx⟩⟩
end
def gm0 (v:Value):List Value:=aggC v++[.int .i64 0,.int .i64 0,.int .i64 0,.int .i64 0,.int .i64 0,.int .i64 0,.int .i64 0]
theorem new_s (v:Vr) (hv:okV v=true) (h4:4<=v.p) (w:World):Calls Tryz.prog 74 #[.agg #[.int .i64 v.p,.int .i64 v.c,.int .i64 v.h,.int .i64 v.s]] w λ e w'=>Ret RelGV (newG v) (λ _=>False) w e w':=by
 have CS:=kD (λ i=>start_s v hv h4 i);clear hv h4;go_enter Tryz.func74,Tryz.ntmps74;go_upto_region 1 with fail;refine wp_gen (λ W'=>Below w.heap.size w W'∧RowB W' w.heap.size 25 (vL v)∧RowB W' (w.heap.size+1) 55 gM) ⟨by go_grown,(RowB.new _ _ _).alloc _,RowB.new' _ _ _ (by simp)⟩ ?_;rintro w1 ⟨t,T,X⟩;have O:=T.lt;have Z:=X.lt;refine rG [some 3,some 4,some 5,some 6,some 7,some 8,none] 7 (Pl [some (.agg #[.int .i64 v.p,.int .i64 v.c,.int .i64 v.h,.int .i64 v.s]),none,some (.agg #[.int .i64 v.p,.int .i64 v.c,.int .i64 v.h,.int .i64 v.s]),none,none,none,none]) (λ L f w'=>Dv (λ L f w'=>C2E RelI (startL v) RelI (startL v) w1 1 3 4 6 (λ a b=>.agg #[a,b]) (w.heap.size+1) 55 (gmC (.slice none 0 0) (.slice none 0 0) nulG) gm0 L f w') 5 4 (λ v=>.agg ⟨gm0 v⟩) L f w') ?g0_2 ?gst_2 ?gfin_2
 case g0_2=>exact⟨⟨⟨rfl,rfl,rfl,Nat.le_refl _,λ _ _ _=>rfl⟩,Z,λ h=>absurd h (by decide),λ h=>absurd h (by decide),λ h=>absurd h (by decide),λ _=>X,λ h=>absurd h (by decide)⟩,λ h=>absurd h (by decide)⟩
 case gst_2 =>
  refine rN rfl (λ L f A i g d q U F K y=>?_) ?_
  ·have e1:=U.w 1 (.pointer (some ⟨w.heap.size,0,none⟩));have m:RowB i w.heap.size 25 (vL v):=(F.a.bel.block w.heap.size O (λ e=>by simp at e)).trans T;obtain⟨q0,l,j,q3⟩:=m.c4;have Y:=m.lt;clear m;go_simp;exact pF y (F.other (by decide) (F.a.skip 0 _))
  refine rN rfl (λ L f A i g d q U F K y=>?_) ?_
  ·have e3:=U.v 0 3;go_simp;refine(CS.out i).mono ?_;rintro e V ⟨⟨W,rfl,E⟩,G⟩;exact y.out W V (Pl.any rfl) (F.other (by decide) (F.a.call1 g (by decide) G (OwnV.sl enI_len (OwnV.of E (Nat.le_refl _) (λ b hb _=>hb)))))
  refine rN rfl (λ L f A i g d q U F K y=>?_) ?_
  ·have e1:=U.w 1 (.pointer (some ⟨w.heap.size,0,none⟩));have m:RowB i w.heap.size 25 (vL v):=(F.a.bel.block w.heap.size O (λ e=>by simp at e)).trans T;obtain⟨q0,l,j,q3⟩:=m.c4;have Y:=m.lt;clear m;go_simp;exact pF y (F.other (by decide) (F.a.skip 2 _))
  refine rN rfl (λ L f A i g d q U F K y=>?_) ?_
  ·have e5:=U.v 2 5;go_simp;refine(CS.out i).mono ?_;rintro e V ⟨⟨W,rfl,E⟩,G⟩;exact y.out W V (Pl.any rfl) (F.other (by decide) (F.a.call2 g (by decide) G (OwnV.sl enI_len (OwnV.of E (Nat.le_refl _) (λ b hb _=>hb)))))
  refine rN rfl (λ L f A i g d q U F K y=>?_) ?_
  ·have R:=U.x 1 4;have e6:=U.x 3 6;refine(F.a.f1 (bK d 1)).elim λ D l=>?_
   refine l.elim λ B l=>?_
   refine(F.a.f2 (bK d 3)).elim λ C j=>?_
   refine j.elim λ z j=>?_
   have ad:=R.trans l.1;have ac:=e6.trans j.1;clear R e6;go_simp;exact y.out _ i (Pl.any rfl) (F.at4 g (by decide) (F.a.built g (by decide) (bK d 1) (bK d 3) (by rw [l.1,j.1])))
  refine rN rfl (λ L f A i g d q U F K y=>?_) ?_
  ·have e7:=U.x 4 7;refine(F.a.f1 (bK d 1)).elim λ D l=>?_
   refine l.elim λ B l=>?_
   refine(F.a.f2 (bK d 3)).elim λ C j=>?_
   refine j.elim λ z j=>?_
   have aa:=e7.trans (F.a.fb (bK d 4)).2.2;rw [l.1,j.1] at aa;clear e7;go_simp;exact y.out _ i (Pl.any rfl) (F.at5 (by decide) (bK d 4) (by rw [(F.a.fb (bK d 4)).2.2,l.1,j.1];rfl) (F.a.skip 5 _))
  refine rN rfl (λ L f A i g d q U F K y=>?_) ?_
  ·have e2:=U.w 2 (.pointer (some ⟨w.heap.size+1,0,none⟩));have e8:=U.x 5 8;refine(F.a.f1 (bK d 1)).elim λ D l=>?_
   refine l.elim λ B l=>?_
   refine(F.a.f2 (bK d 3)).elim λ C j=>?_
   refine j.elim λ z j=>?_
   have h5:=(F.b (bK d 5)).2;rw [(F.a.fb (bK d 4)).2.2,l.1,j.1] at h5;refine wp_sm 55 _ _ rfl (w.heap.size+1) 0 (gmC (.slice D (startL v).length B) (.slice C (startL v).length z) (newG v)) (gmC (.slice none 0 0) (.slice none 0 0) nulG) (ev e2) (ev (e8.trans h5)) 55 (F.a.row g) (by kernel_rfl) (Nat.le_refl _) rfl ?_;exact y.out undef _ (Pl.any rfl) (F.other (by decide) (F.a.wrote (by decide) g (bK d 4) 0 (by rw [(F.a.fb (bK d 4)).2.2,l.1,j.1];rfl)))
  exact RelFrom.nil (by decide)
 intro f i hp F;simp only [Fr,Act.put,sX,Nat.reduceAdd];obtain⟨-,r⟩:=F.a.fw trivial;obtain⟨-,-,N⟩:=F.a.fb (F.a.fw trivial).1;obtain⟨D,B,e3,I,M⟩:=F.a.f1 trivial;obtain⟨C,z,R,H,J⟩:=F.a.f2 trivial;rw [N,e3,R] at r;have o:=F.a.bel;have Q:Below w.heap.size w i:=⟨o.os.trans t.os,o.tape.trans t.tape,o.output.trans t.output,Nat.le_trans t.size o.size,λ k hk=>(o.block k (by omega) (λ e=>by simp at e;omega)).trans (t.block k hk)⟩;have r:RowB i (w.heap.size+1) 55 (gmC (.slice D (startL v).length B) (.slice C (startL v).length z) (newG v)):=r;have P:BdR i (λ b=>(λ _=>False) b∨w.heap.size<=b) (.slice D (startL v).length B) (.slice C (startL v).length z) (newG v).b:=⟨⟨D,B,rfl,I.weak (λ b h _=>.inr (by omega)),M⟩,⟨C,z,rfl,H.weak (λ b h _=>.inr (by omega)),J⟩⟩;have S:=kD P;have ab:=kD Q;clear F hp N e3 R I H M J P Q o t T X;obtain⟨n,hn⟩:∃ n,(startL v).length=n:=⟨_,rfl⟩;rw [hn] at r S;clear hn;obtain⟨x0,x1,x2,x3,x4,x5,x6,x7,x8⟩:=row9 r;go_wp2_with fail;refine bodyPost_ret (v:=.agg ⟨gmC (.slice D n B) (.slice C n z) (newG v)⟩) (by simp [results,Tryz.results74,go_sem,gmC,newG,x0,x1,x2,x3,x4,x5,x6,x7,x8]) rfl ?_;exact⟨_,rfl,⟨_,_,rfl,S.out⟩,ab.out⟩
theorem res_s (v:Vr) (b:Bd) (hb:Ok v b) (S:Nat->Prop) (u1 u2:Value) (z:Int) (hz:resP v b=z) (w:World) (hR:BdR w S u1 u2 b) :
  Calls Tryz.prog 176 #[.agg #[.int .i64 v.p,.int .i64 v.c,.int .i64 v.h,.int .i64 v.s],.agg #[u1,u2]] w λ e w'=>e=.returned (.int .i64 z)∧Below w.heap.size w w':=by
 obtain⟨⟨V,T,rfl,Y,_⟩,⟨A2,c2,rfl,r2,_⟩⟩:=hR;have hv:=hb.v1;have N1:b.1.length<=1000:=by have:=hb.own.len;omega
 have N2:b.2.length<=1000:=by have:=hb.oth.len;omega
 have C1:=kD (λ(j:World) (h:Below w.heap.size w j)=>sum_s V T j.heap.size b.1 j (Y.keep (.below h)).rd (λ i=>⟨hb.own.nn i,by have:=hb.own.top i;omega⟩) N1);obtain⟨o,d⟩:∃ l,(if b.1.sum=0 then b.2 else b.1)=l:=⟨_,rfl⟩;have aa:∃(J:Option Addr) (N:Nat),RdF w S 1 enI J o∧(∀ i,0<=at_ o i∧at_ o i<=1000)∧o.length<=1000∧(b.1.sum=0->J=A2∧N=c2∧o.length=b.2.length)∧(¬ b.1.sum=0->J=V∧N=T∧o.length=b.1.length):=by
  by_cases h0:b.1.sum=0
  ·rw [if_pos h0] at d;subst d;exact⟨A2,c2,r2,λ i=>⟨hb.oth.nn i,by have:=hb.oth.top i;omega⟩,N2,λ _=>⟨rfl,rfl,rfl⟩,λ h=>absurd h0 h⟩
  ·rw [if_neg h0] at d;subst d;exact⟨V,T,Y,λ i=>⟨hb.own.nn i,by have:=hb.own.top i;omega⟩,N1,λ h=>absurd h h0,λ _=>⟨rfl,rfl,rfl⟩⟩
 obtain⟨J,N,X,bz,Z,r,q⟩:=aa;obtain⟨B,E⟩:∃ s,o.sum=s:=⟨_,rfl⟩;obtain⟨C,D⟩:∃ s,last o=s:=⟨_,rfl⟩;have hZ:z=if B<v.c then 1 else if v.p - v.h<=C then 3 else 2:=by rw [<-hz,<-E,<-D,<-d];rfl
 have I:=kD hZ;obtain⟨n1,t⟩:∃ n,b.1.length=n:=⟨_,rfl⟩;obtain⟨n2,F⟩:∃ n,b.2.length=n:=⟨_,rfl⟩;obtain⟨m,L⟩:∃ n,o.length=n:=⟨_,rfl⟩;have CS:=kD (λ(j:World) (k:Nat) (h:Below w.heap.size w j)=>sum_sq J m N j.heap.size o B L E j k (X.keep (.below h)).rd bz Z);have CT:=kD (λ(j:World) (h:Below w.heap.size w j)=>last_s J N j.heap.size o j (X.keep (.below h)).rd Z);rw [L,D] at CT;rw [L,F] at r;rw [L,t] at q;rw [t] at C1;rw [t,F];obtain⟨W,K⟩:∃ s,b.1.sum=s:=⟨_,rfl⟩;rw [K] at C1 r q;have HV:=kD hv;have ac:IntKind.i64.wrap (v.p - v.h)=v.p - v.h:=IntWalk.i64_in _ (by omega);clear hz hZ E D d t F L K Y r2 X bz Z N1 N2 hv hb;go_enter Tryz.func176,Tryz.ntmps176;go_upto_region 1 with fail;refine wp_gen (λ A=>Below w.heap.size w A∧RowB A w.heap.size 25 (vL v)∧RowB A (w.heap.size+1) 51 [.slice V n1 T,.slice A2 n2 c2]) ⟨by go_grown,(RowB.new _ _ _).alloc _,RowB.new' _ _ _ (by simp)⟩ ?_;rintro w1 ⟨y,g,rb⟩;obtain⟨R,Q,P,O⟩:=g.c4;obtain⟨y0,y1⟩:=rb.c2;have x:=g.lt;have M:=rb.lt;have f:=kD y;go_wp2_with fail;refine(C1.out _ y).mono ?_;rintro e w2 ⟨rfl,rfl⟩;by_cases h0:W=0
 ·obtain⟨rfl,rfl,rfl⟩:=r h0;have ab:(W == 0)=true:=by rw [h0];rfl
  clear h0 r q y;go_wp2_with fail;go_quiet ((go_at_call 142;exact CS.out _ _ f.out));by_cases h1:B<v.c
  ·obtain rfl:z=1:=by rw [I.out,if_pos h1]
   have H:decide (B<v.c)=true:=decide_eq_true h1;go_wp2_with fail;go_ret;exact⟨rfl,below_drewN f.out _⟩
  have H:decide (B<v.c)=false:=decide_eq_false h1;go_wp2_with fail;refine wp_gen (λ A=>Below w.heap.size w A∧RowB A w.heap.size 25 (vL v)) ⟨below_drewN f.out _,g.drewN _⟩ ?_;clear R Q P O y0 y1 x M g;rintro w2 ⟨a,g⟩;obtain⟨R,Q,P,O⟩:=g.c4;have x:=g.lt;go_quiet ((go_at_call 199;exact Calls.quiet_of_same ((CT.out _ (below_drewN a _)).mono λ _ _ h=>⟨h.1,h.2.symm⟩)));by_cases h2:v.p - v.h<=C
  ·obtain rfl:z=3:=by rw [I.out,if_neg (by omega),if_pos h2]
   have G:decide (v.p - v.h<=C)=true:=decide_eq_true h2;go_wp2_with fail;go_ret;exact⟨rfl,below_drewN a _⟩
  ·obtain rfl:z=2:=by rw [I.out,if_neg (by omega),if_neg (by omega)]
   have G:decide (v.p - v.h<=C)=false:=decide_eq_false h2;go_wp2_with fail;go_ret;exact⟨rfl,below_drewN a _⟩
 ·obtain⟨rfl,rfl,rfl⟩:=q h0;have ab:(W == 0)=false:=by simpa using h0
  clear h0 r q y;go_wp2_with fail;go_quiet ((go_at_call 142;exact CS.out _ _ f.out));by_cases h1:B<v.c
  ·obtain rfl:z=1:=by rw [I.out,if_pos h1]
   have H:decide (B<v.c)=true:=decide_eq_true h1;go_wp2_with fail;go_ret;exact⟨rfl,below_drewN f.out _⟩
  have H:decide (B<v.c)=false:=decide_eq_false h1;go_wp2_with fail;refine wp_gen (λ A=>Below w.heap.size w A∧RowB A w.heap.size 25 (vL v)) ⟨below_drewN f.out _,g.drewN _⟩ ?_;clear R Q P O y0 y1 x M g;rintro w2 ⟨a,g⟩;obtain⟨R,Q,P,O⟩:=g.c4;have x:=g.lt;go_quiet ((go_at_call 199;exact Calls.quiet_of_same ((CT.out _ (below_drewN a _)).mono λ _ _ h=>⟨h.1,h.2.symm⟩)));by_cases h2:v.p - v.h<=C
  ·obtain rfl:z=3:=by rw [I.out,if_neg (by omega),if_pos h2]
   have G:decide (v.p - v.h<=C)=true:=decide_eq_true h2;go_wp2_with fail;go_ret;exact⟨rfl,below_drewN a _⟩
  ·obtain rfl:z=2:=by rw [I.out,if_neg (by omega),if_neg (by omega)]
   have G:decide (v.p - v.h<=C)=false:=decide_eq_false h2;go_wp2_with fail;go_ret;exact⟨rfl,below_drewN a _⟩
end Gm
end Go.Proofs.YtjdefiinmicjiaaGreatDoor
