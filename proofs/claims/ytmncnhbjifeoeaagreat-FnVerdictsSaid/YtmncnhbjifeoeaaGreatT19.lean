/- Parts of the proof of FnVerdicts. Conditions: each theorem's own. -/
import Derived.Test.YtmncnhbjifeoeaaGreatT12
import Derived.Test.YtmncnhbjifeoeaaGreatT13
import Derived.Test.YtmncnhbjifeoeaaGreatT18
import Derived.Lib.ParseIntB
import Derived.Lib.ItoaNum
import Derived.Lib.IndexMore
import Derived.Lib.Strings
import Derived.Lib.SplitLaws
import Derived.Lib.Join
import Derived.IntWalk
import Derived.ShapedOpen
import Derived.ChangeAgain
import Derived.Lib.ParseIntBTie
import Derived.Deep.CutRange
set_option linter.unusedVariables false
set_option linter.unusedSimpArgs false
set_option maxHeartbeats 8000000
set_option maxRecDepth 100000
namespace Go.Proofs.YtmncnhbjifeoeaaGreat
namespace TxP
open Go PlP
theorem head_parts {v:Vr} {n:Int} (h:headB v n=true):okV v=true∧4<=v.p∧1<=n∧n<=25:=by
 unfold headB at h;simp only [Bool.and_eq_true,decide_eq_true_eq] at h;exact⟨h.1.1,h.1.2,h.2⟩
end TxP
namespace TsI
open Go.ChangeShapes Go.WideShapes Go.ChangeAt Go.RowKit Base Ints Own PlP Bd1 Bd5 RegF RegG
theorem isroll_ws (v:Vr) (hv:okV v=true) (a b:Int) (x:Bool) (hx:rollB v a b=x) (w:World):Calls Tryz.prog 95 #[.agg #[.int .i64 v.p,.int .i64 v.c,.int .i64 v.h,.int .i64 v.s],.agg #[.int .i64 a,.int .i64 b]] w λ e w'=>e=.returned (.bool x)∧Below w.heap.size w w':=by
 unfold rollB at hx;obtain⟨B,m⟩:∃ c,decide (1<=a∧a<=v.s)=c:=⟨_,rfl⟩;obtain⟨A,l⟩:∃ c,decide (1<=b∧b<=a)=c:=⟨_,rfl⟩;rw [m,l] at hx;have G:=kD (λ w=>var_s v true hv w);have F:=kD (λ w=>in_s a 1 v.s B m w);have E:=kD (λ w=>in_s b 1 a A l w);have C:=kD hx;clear hx m l hv;go_enter Tryz.func95,Tryz.ntmps95;go_upto_region 1 with fail;refine wp_gen (λ n=>Below w.heap.size w n∧RowB n w.heap.size 25 (vL v)∧RowB n (w.heap.size+1) 30 [.int .i64 a,.int .i64 b]) ⟨by go_grown,(RowB.new _ _ _).alloc _,RowB.new' _ _ _ (by simp)⟩ ?_;rintro I ⟨d,i,j⟩;obtain⟨z,y,t,r⟩:=i.c4;obtain⟨q,o⟩:=j.c2;have f:=i.lt;have g:=j.lt;go_wp2_with fail;refine(G.out _).mono ?_;rintro e H ⟨rfl,k⟩;have d:=d.trans (k.mono d.size);have i:=i.below k f;have j:=j.below k g;clear z y t r q o f g k;obtain⟨z,y,t,r⟩:=i.c4;obtain⟨q,o⟩:=j.c2;have f:=i.lt;have g:=j.lt;go_wp2_with fail;refine(F.out _).mono ?_;rintro e D ⟨rfl,rfl⟩
 cases B
 case false =>
  obtain rfl:x=false:=by rw [<-C.out];rfl
  go_wp2_with fail;go_ret;exact⟨rfl,d⟩
 go_wp2_with fail;refine(E.out _).mono ?_;rintro e D ⟨rfl,rfl⟩;obtain rfl:A=x:=by rw [<-C.out];rfl
 go_wp2_with fail;go_ret;exact⟨rfl,d⟩
end TsI
namespace Gm
open Go Go.ChangeShapes Go.WideShapes Go.ChangeAt Go.RowKit Base Ints Own Clone RelG PlP Bd1 Bd2 Bd5 Bd6 Bd7 Bd8 RegInv RegF RegG
theorem setL_drop:∀(vs cs:List Value) (o:Nat),o+vs.length=cs.length->setL cs o vs=cs.take o++vs
 | [],cs,o,h=>by simp only [setL,List.append_nil];rw [List.take_of_length_le (by simp at h;omega)]
 | v :: r,cs,o,h=>by
  simp only [List.length_cons] at h;rw [setL,setL_drop r (cs.set o v) (o+1) (by simp;omega),List.take_add_one,List.take_set_of_le (Nat.le_refl _),List.getElem?_set_self (by omega)];simp
theorem setL_all (cs vs:List Value) (h:cs.length=vs.length):setL cs 0 vs=vs:=by rw [setL_drop vs cs 0 (by omega)];simp
theorem rdf_take {α:Type} {w:World} {S:Nat->Prop} {sz:Nat} {en:α->List Value} {A:Option Addr} {rs:List α} (h:RdF w S sz en A rs) (k:Nat):RdF w S sz en A (rs.take k):=by
 refine⟨by have:=h.1;rw [List.length_take];omega,λ f=>?_⟩;have d:0<rs.length:=by rw [List.length_take] at f;omega
 obtain⟨b,c,e,l,j,g⟩:=h.2 d;refine⟨b,c,e,l,j,λ i x a=>g i x ?_⟩;rw [List.getElem?_take] at a;split at a
 ·exact a
 ·cases a
def inS {ρ α:Type} (K:Rel ρ α) (S0:Nat->Prop):Rel ρ α where
 R:=λ w S r x=>K.R w (λ b=>S b∧S0 b) r x
 keep:=λ h hs=>K.keep h ⟨hs.1,λ b hb hl=>hs.2 b hb.1 hl⟩
 weak:=λ h hs=>K.weak h (λ b hb hl=>⟨hs b hb.1 hl,hb.2⟩)
structure B3r (w wr:World) (v:Vr) (u1 u2:Value) (x y:Int):Prop where
 bel:Below w.heap.size w wr
 rv:RowB wr w.heap.size 25 (vL v)
 rb:RowB wr (w.heap.size+1) 28 [u1,u2]
 rr:RowB wr (w.heap.size+2) 30 [.int .i64 x,.int .i64 y]
theorem B3r.below {w wr w':World} {v:Vr} {u1 u2:Value} {x y:Int} (k:B3r w wr v u1 u2 x y) (hb:Below wr.heap.size wr w'):B3r w w' v u1 u2 x y :=
 ⟨k.bel.trans (hb.mono k.bel.size),k.rv.below hb k.rv.lt,k.rb.below hb k.rb.lt,k.rr.below hb k.rr.lt⟩
theorem code_s (v:Vr) (b:Bd) (hb:Ok v b) (S:Nat->Prop) (u1 u2:Value) (x y:Int) (hr:rollB v x y=true) (w:World) (hR:BdR w S u1 u2 b) :
  Calls Tryz.prog 45 #[.agg #[.int .i64 v.p,.int .i64 v.c,.int .i64 v.h,.int .i64 v.s],.agg #[u1,u2],.agg #[.int .i64 x,.int .i64 y]] w λ e w'=>e=.returned (.int .i64 0)∧Below w.heap.size w w':=by
 obtain⟨⟨C,z,rfl,k,M⟩,⟨B,t,rfl,j,L⟩⟩:=hR;have A:=kD (λ(f:World) (r:Below w.heap.size w f)=>Bd3.isB_s v b C B z t f.heap.size f (Nat.le_refl _) (k.keep (.below r)).rd (j.keep (.below r)).rd true (okB_iff.2 hb));have G:=kD (λ(f:World)=>TsI.isroll_ws v (okV_iff.2 hb.v1) x y true hr f);obtain⟨E,d⟩:∃ n,b.1.length=n:=⟨_,rfl⟩;obtain⟨D,a⟩:∃ n,b.2.length=n:=⟨_,rfl⟩;rw [d,a] at A;rw [d,a];clear d a k j hb hr;go_enter Tryz.func45,Tryz.ntmps45;go_upto_region 1 with fail;refine wp_gen (λ F=>B3r w F v (.slice C E z) (.slice B D t) x y) ⟨by go_grown,((RowB.new _ _ _).alloc _).alloc _,(RowB.new' _ _ _ (by simp)).alloc _,RowB.new' _ _ _ (by simp)⟩ ?_;intro J K;obtain⟨q,o,m,l⟩:=K.rv.c4;obtain⟨i,g⟩:=K.rb.c2;go_wp2_with fail;refine(A.out _ K.bel).mono ?_;rintro e I ⟨rfl,hb⟩;have K:=K.below hb;clear q o m l i g hb;obtain⟨q,o,m,l⟩:=K.rv.c4;obtain⟨i,g⟩:=K.rr.c2;go_wp2_with fail;refine(G.out _).mono ?_;rintro e H ⟨rfl,hb⟩;have K:=K.below hb;go_wp2_with fail;go_ret;exact⟨rfl,K.bel⟩
theorem ord_len (x y:Int):∀ o ∈ ordP x y,o.length<=4:=by
 intro o a;unfold ordP at a;split at a
 ·simp only [List.mem_singleton] at a;rw [a];simp
 ·simp only [List.mem_cons,List.not_mem_nil,or_false] at a;rcases a with rfl | rfl <;> simp
def OrdC (xs:List (List Int)) (w:World) (e:Ending) (w':World):Prop :=
 ∃ A,e=.returned (.slice A xs.length xs.length)∧SlG RelI 1 en1 w' (λ b=>w.heap.size<=b) (.slice A xs.length xs.length) xs∧Below w.heap.size w w'
theorem orders2_s (a b:Int) (w:World):Calls Tryz.prog 67 #[.agg #[.int .i64 a,.int .i64 b]] w λ e w'=>OrdC (ordP a b) w e w':=by
 by_cases h:a=b
 ·have i:Hid (ordP a b=[[a,a,a,a]]):=kD (by unfold ordP;rw [if_pos h]);have k:(a == b)=true:=by simp [h]
  clear h;go_enter Tryz.func67,Tryz.ntmps67;go_wp2_with fail;refine bp_gen (λ c=>Below w.heap.size w c∧RowB c (w.heap.size+1) 2 [.int .i64 a,.int .i64 a,.int .i64 a,.int .i64 a]∧RowB c (w.heap.size+2) 26 [.slice (some ⟨w.heap.size+1,0,none⟩) 4 4]) ⟨by go_grown,RowB.alloc (RowB.new' _ _ _ (by first | simp | go_size | rfl)) _,RowB.new' _ _ _ (by first | simp | go_size | rfl)⟩ ?_;rintro c ⟨d,g,f⟩;go_ret;rw [i.out];refine⟨_,rfl,?_,d⟩;exact slg_new f (LsR.snoc (LsR.nil _ _ _) (sl_new (xs:=[a,a,a,a]) g (show (4:Nat)<=maxLen by decide) (by omega))) rfl (show (1:Nat)<=maxLen by decide) (by omega)
 ·have i:Hid (ordP a b=[[a,b],[b,a]]):=kD (by unfold ordP;rw [if_neg h]);have k:(a == b)=false:=by simp [h]
  clear h;go_enter Tryz.func67,Tryz.ntmps67;go_wp2_with fail;refine bp_gen (λ c=>Below w.heap.size w c∧RowB c (w.heap.size+1) 2 [.int .i64 a,.int .i64 b]∧RowB c (w.heap.size+2) 2 [.int .i64 b,.int .i64 a]∧RowB c (w.heap.size+3) 26 [.slice (some ⟨w.heap.size+1,0,none⟩) 2 2,.slice (some ⟨w.heap.size+2,0,none⟩) 2 2]) ⟨by go_grown,RowB.alloc (RowB.alloc (RowB.new' _ _ _ (by first | simp | go_size | rfl)) _) _,RowB.alloc (RowB.new' _ _ _ (by first | simp | go_size | rfl)) _,RowB.new' _ _ _ (by first | simp | go_size | rfl)⟩ ?_;rintro c ⟨d,g,f,j⟩;go_ret;rw [i.out];refine⟨_,rfl,?_,d⟩;exact slg_new j (LsR.snoc (LsR.snoc (LsR.nil _ _ _) (sl_new (xs:=[a,b]) g (show (2:Nat)<=maxLen by decide) (by omega))) (sl_new (xs:=[b,a]) f (show (2:Nat)<=maxLen by decide) (by omega))) rfl (show (2:Nat)<=maxLen by decide) (by omega)
structure F4 (w wr:World) (v:Vr) (us:List Value) (x y:Int):Prop where
 bel:Below w.heap.size w wr
 rv:RowB wr w.heap.size 25 (vL v)
 rb:RowB wr (w.heap.size+1) 28 us
 rd:RowB wr (w.heap.size+2) 30 [.int .i64 x,.int .i64 y]
 rr:RowB wr (w.heap.size+3) 28 [.slice none 0 0,.slice none 0 0]
theorem F4.below {w wr w':World} {v:Vr} {us:List Value} {x y:Int} (k:F4 w wr v us x y) (hb:Below wr.heap.size wr w'):F4 w w' v us x y :=
 ⟨k.bel.trans (hb.mono k.bel.size),k.rv.below hb k.rv.lt,k.rb.below hb k.rb.lt,k.rd.below hb k.rd.lt,k.rr.below hb k.rr.lt⟩
theorem play_s (v:Vr) (b:Bd) (hb:Ok v b) (S:Nat->Prop) (u1 u2:Value) (x y:Int) (hr:rollB v x y=true) (ss:List Stp) (As:Option Addr) (cp BS:Nat) (w:World) (hBS:BS<=w.heap.size) (hR:BdR w S u1 u2 b) (hs:RdS w BS 4 enSt As ss) :
  Calls Tryz.prog 19 #[.agg #[.int .i64 v.p,.int .i64 v.c,.int .i64 v.h,.int .i64 v.s],.agg #[u1,u2],.agg #[.int .i64 x,.int .i64 y],.slice As ss.length cp] w λ e w'=>Ret RelBI (playP v b x y ss) (λ _=>False) w e w':=by
 have ai:(1<=x∧x<=v.s)∧1<=y∧y<=x:=by unfold rollB at hr;simpa only [Bool.and_eq_true,decide_eq_true_eq] using hr
 have a0:=hb.v1.2.2.2.2;have CC:=kD (λ(f:World) (E:Below w.heap.size w f)=>code_s v b hb S u1 u2 x y hr f (hR.keep (.below E)));have CF:=kD (λ(ds:List Int) (hd:ds.length<=4) (uo:Value) (f:World) (E:Below w.heap.size w f) (ho:SlV 1 enI f All uo ds)=>follow_s v b hb S u1 u2 ds hd uo ss As cp BS f (Nat.le_trans hBS E.size) (hR.keep (.below E)) ho (hs.below E hBS));obtain⟨⟨A1,c1,rfl,r1,k1⟩,⟨A2,c2,rfl,r2,k2⟩⟩:=hR;have CU:=kD (λ(f:World) (E:Below w.heap.size w f)=>Bd23.used_s v b hb A1 A2 c1 c2 x y ⟨ai.1.1,by omega⟩ ⟨ai.2.1,by omega⟩ f (r1.keep (.below E)).rd (r2.keep (.below E)).rd k1 k2);have CL:=kD (λ(f:World) (E:Below w.heap.size w f)=>Bd5.legal_s v b hb A1 A2 c1 c2 f.heap.size x ⟨ai.1.1,by omega⟩ f (Nat.le_refl _) (r1.keep (.below E)).rd (r2.keep (.below E)).rd);obtain⟨n1,aa⟩:∃ n,b.1.length=n:=⟨_,rfl⟩;obtain⟨n2,av⟩:∃ n,b.2.length=n:=⟨_,rfl⟩;rw [aa,av] at CC CF CU CL;rw [aa,av];obtain⟨N,hN⟩:∃ n,ss.length=n:=⟨_,rfl⟩;rw [hN] at CF;rw [hN];obtain⟨un,ah⟩:∃ n,usedP v b (ordP x y)=n:=⟨_,rfl⟩;rw [ah] at CU;obtain⟨R,az⟩:∃ r,playP v b x y ss=r:=⟨_,rfl⟩;have hP:R=if N=un then firstF v b ss (ordS v b x y) else none:=by rw [<-az,<-hN,<-ah];rfl
 rw [az];have HP:=kD hP;have a9:=kD ah;clear hP az hN ah aa av r1 r2 hs hb a0 hr ai;go_enter Tryz.func19,Tryz.ntmps19;go_upto_region 1 with fail;refine wp_gen (λ W'=>F4 w W' v [.slice A1 n1 c1,.slice A2 n2 c2] x y) ⟨by go_grown,(((RowB.new _ _ _).alloc _).alloc _).alloc _,((RowB.new' _ _ _ (by simp)).alloc _).alloc _,(RowB.new' _ _ _ (by simp)).alloc _,RowB.new' _ _ _ (by simp)⟩ ?_;intro w1 K;obtain⟨W,V,T,Q⟩:=K.rv.c4;obtain⟨P,J⟩:=K.rb.c2;obtain⟨d0,d1⟩:=K.rd.c2;go_wp2_with fail;refine(CC.out _ K.bel).mono ?_;rintro e w2 ⟨rfl,hb⟩;have K:=K.below hb;clear W V T Q P J d0 d1 hb CC;obtain⟨W,V,T,Q⟩:=K.rv.c4;obtain⟨P,J⟩:=K.rb.c2;obtain⟨d0,d1⟩:=K.rd.c2;go_wp2_with fail;refine(CU.out _ K.bel).mono ?_;rintro e w3 ⟨rfl,hb⟩;have K:=K.below hb;clear W V T Q P J d0 d1 hb CU;obtain⟨z0,z1⟩:=K.rr.c2;have aj:=K.rr.lt;have al:=K.rr.frozen;by_cases hNu:N=un
 rotate_left
 ·have af:R=none:=by rw [HP.out,if_neg hNu]
  subst af;have a3:((N:Int) != (un:Int))=true:=by simpa using (λ h:(N:Int)=un=>hNu (by omega))
  clear HP;go_wp2_with fail;refine bp_gen (λ W'=>Below w.heap.size w W'∧RowB W' (w.heap.size+3) 28 [.slice none 0 0,.slice none 0 0]) ⟨below_two (K.bel) (by omega) _ _,two_ (K.rr) _ _⟩ ?_;rintro w8 ⟨ae,r8⟩;obtain⟨z0,z1⟩:=r8.c2;refine bodyPost_ret (v:=.tuple #[.agg #[.slice none 0 0,.slice none 0 0],.int .i64 5]) (by simp [results,Tryz.results19,go_sem,z0,z1]) rfl ?_;exact⟨_,rfl,⟨_,_,([],[]),5,rfl,BdR.nil _ _,(λ _ h=>by cases h),(λ _=>by decide)⟩,ae⟩
 subst hNu;have HQ:Hid (R=firstF v b ss (ordS v b x y)):=by show _=_;rw [HP.out,if_pos rfl]
 have a3:((N:Int) != (N:Int))=false:=by simp
 clear HP z0 z1 aj al;obtain⟨W,V,T,Q⟩:=K.rv.c4;obtain⟨P,J⟩:=K.rb.c2;obtain⟨d0,d1⟩:=K.rd.c2;have CO:=kD (λ(f:World)=>orders2_s x y f);go_wp2_with fail;refine(CO.out _).mono ?_;rintro e w4 ⟨aE,rfl,a2,hb⟩;have K:=K.below hb;clear W V T Q P J d0 d1 hb CO;obtain⟨Aq,bw,rs,ay,Z,ab,-⟩:=a2;obtain rfl:aE=Aq:=by simp only [Value.slice.injEq] at ay;exact ay.1
 clear ay;have B:=kD ab;have D:=kD Z;have an:=kD (ord_len x y);clear Z ab;have aD:=K;obtain⟨P,J⟩:=K.rb.c2;obtain⟨d0,d1⟩:=K.rd.c2;obtain⟨W,V,T,Q⟩:=K.rv.c4;have H:=K.rv.lt;obtain⟨M0,ak⟩:∃ M,(ordP x y).length=M:=⟨_,rfl⟩;obtain⟨z,ht⟩:∃ t:Bool,decide (N=1∧M0=2∧0<(legalP v b x).length)=t:=⟨_,rfl⟩;have HO:Hid (ordS v b x y=if z=true then (ordP x y).take 1 else ordP x y):=by
  show _=_
  rw [<-ht];unfold ordS;rw [a9.out,ak];simp only [decide_eq_true_eq]
 rw [ak];have HT:=kD ht;have aV:=kD ak;clear ht ak aD;go_upto_region 8 with fail;go_cut [50] from 35 to 50 (λ aX wx=>aX=.bool z∧Below w4.heap.size w4 wx)
 case first =>
  by_cases h1:N=1
  rotate_left
  ·have aa:((N:Int) == 1)=false:=by simpa using (λ h:(N:Int)=1=>h1 (by omega))
   have ht:z=false:=by rw [<-HT.out];exact decide_eq_false (λ h=>h1 h.1)
   subst ht;clear h1;go_wp2_with fail;go_meet;exact⟨rfl,Below.refl _ _⟩
  have aa:((N:Int) == 1)=true:=by rw [h1];rfl
  by_cases h2:M0=2
  rotate_left
  ·have a4:((M0:Int) == 2)=false:=by simpa using (λ h:(M0:Int)=2=>h2 (by omega))
   have ht:z=false:=by rw [<-HT.out];exact decide_eq_false (λ h=>h2 h.2.1)
   subst ht;clear h1 h2;go_wp2_with fail;go_meet;exact⟨rfl,Below.refl _ _⟩
  have a4:((M0:Int) == 2)=true:=by rw [h2];rfl
  have aW:=kD (And.intro h1 h2);clear h1 h2;go_wp2_with fail;refine(CL.out _ K.bel).mono ?_;rintro e w5 ⟨vl,rfl,aH,hb⟩;obtain⟨Al,cl,rfl,-⟩:=aH.form enSt_len;obtain⟨ll,aw⟩:∃ n,(legalP v b x).length=n:=⟨_,rfl⟩;rw [aw];have ht:z=decide (0<ll):=by rw [<-HT.out,aw];simp [aW.out.1,aW.out.2]
  subst ht;clear aw aH;go_wp2_with fail;go_meet;exact⟨by first | rfl | simp,hb⟩
 case rest =>
 obtain⟨rfl,hb⟩:=hcut;have K:=K.below hb;have D:=kD (D.out.keep (.below hb));have B:=kD (B.out.keep (.below hb));clear W V T Q P J d0 d1 H hb;have aS:Hid (R=firstF v b ss (if z=true then (ordP x y).take 1 else ordP x y)):=by show _=_;rw [HQ.out,HO.out]
 have HQ:=aS;have am:Hid (z=true->M0=2):=kD (λ h=>by have h2:=HT.out;rw [h] at h2;exact(of_decide_eq_true h2).2.1);clear HO aS HT;go_upto_if 50 with fail;go_cut [12] from 51 to 52 (λ aY wx=>∃(L:List (List Int)) (cq:Nat),aY=.slice aE L.length cq∧F4 w wx v [.slice A1 n1 c1,.slice A2 n2 c2] x y∧(∃ rs,RdF wx (λ b=>w3.heap.size<=b) 1 en1 aE rs∧LsR RelI wx (λ b=>w3.heap.size<=b) rs L)∧Hid (∀ o ∈ L,o.length<=4)∧Hid (R=firstF v b ss L))
 case first =>
  cases z
  ·go_wp2_with fail;go_meet;exact⟨ordP x y,_,by rw [aV.out],K,⟨rs,D.out,B.out⟩,an,HQ⟩
  ·have am:=kD (am.out rfl);have bk:(1:Int)<=(M0:Int):=by rw [am.out];decide
   go_wp2_with fail;go_meet;exact⟨(ordP x y).take 1,M0,by simp [List.length_take,aV.out,am.out],K,⟨rs.take 1,rdf_take D.out 1,B.out.take 1⟩,kD (λ o ho=>an.out o (List.mem_of_mem_take ho)),HQ⟩
 case rest =>
 obtain⟨L,cq,rfl,K,⟨be,Z,ab⟩,an,HQ⟩:=hcut;have B:=kD ab;have D:=kD Z;clear Z ab;obtain⟨P,J⟩:=K.rb.c2;obtain⟨d0,d1⟩:=K.rd.c2;obtain⟨W,V,T,Q⟩:=K.rv.c4;have H:=K.rv.lt;go_upto_region 10 with fail;obtain⟨M,hM⟩:∃ M,L.length=M:=⟨_,rfl⟩;rw [hM];have bj:M<=9223372036854775807:=by have:=D.out.len;have:=B.out.1;omega
 have aU:=kD hM;clear hM W V T Q P J d0 d1 H;go_wp2_with fail;go_loopw [13] (λ i wr=>∃ k:Nat,k<=M∧i=.int .i64 (k:Int)∧Below wc.heap.size wc wr∧F4 w wr v [.slice A1 n1 c1,.slice A2 n2 c2] x y∧Hid (R=firstF v b ss (L.drop k))) (λ i _=>M - (intOf i).toNat)
 case atStart=>exact⟨0,Nat.zero_le _,by first | rfl | trivial,Below.refl _ _,K,HQ⟩
 case round =>
  obtain⟨k,hk,rfl,I,K,aA⟩:=hrel;by_cases hlt:k<M
  ·obtain⟨ob,oo,r,rfl,-,ar,aG,hc⟩:=(D.out.keep (.below I)).at_ (i:=k) (by rw [B.out.1,aU.out];exact hlt);obtain⟨o,aq,a6⟩:=(B.out.keep (.below I)).at_ aG;have ac:=hc 0 r rfl;simp only [Nat.mul_one,Nat.add_zero] at ac;have aT:=kD (drop_at aq);have aI:=an.out o (List.mem_of_getElem? aq);obtain⟨Ao,co,rfl,aF,aM⟩:=a6;have aC:=kD (λ(f:World) (E:Below wr.heap.size wr f)=>CF.out o aI (.slice Ao o.length co) f (K.bel.trans (E.mono K.bel.size)) ⟨Ao,co,rfl,(aF.weak (λ _ _ _=>trivial)).keep (.below E),aM⟩);obtain⟨lo,aJ⟩:∃ n,o.length=n:=⟨_,rfl⟩;rw [aJ] at aC ac;have bh:k<M:=hlt;clear hc aG aq aF aM aI aJ;have KB:=K;have bb:w.heap.size+4<=wr.heap.size:=by have:=K.rr.lt;omega
   go_wp2_with fail;refine region_rel [some 60,some 61,some 62,some 63,some 64,some 65,some 66,some 67,some 59,some 68,some 69,some 14,none,some 15] 14 (Pl [some (.agg #[.int .i64 v.p,.int .i64 v.c,.int .i64 v.h,.int .i64 v.s]),some (.agg #[.slice A1 n1 c1,.slice A2 n2 c2]),some (.slice (some ⟨ob,oo,none⟩) M cq),some (.int .i64 (k:Int)),some (.pointer (some ⟨ob,oo+k,none⟩)),some (.slice Ao lo co),some (.slice As N cp),none,none,none,none,none,none,none]) (λ L d w'=>CbF (inS RelBB (λ b=>w.heap.size+4<=b)) (followP v b o ss) wr 7 11 12 [(8,(λ v=>v)),(9,ext 0),(10,ext 1),(13,ext 1)] (λ v=>aggC (ext 0 v)) 28 2 L d w') (by kernel_rfl) (by kernel_rfl) (by kernel_rfl) (by kernel_rfl) (by kernel_rfl) (by kernel_rfl) (by first | kernel_rfl | rfl) ?g0_1 ?gst_1 ?gfin_1
   case g0_1=>exact⟨(Below.refl _ _).drew,λ h=>absurd h (by decide),λ p C h=>absurd h (by simp only [List.mem_cons,List.not_mem_nil,or_false] at C;rcases C with rfl | rfl | rfl | rfl <;> decide),λ h=>absurd h (by decide),λ h=>absurd h (by decide)⟩
   case gst_1 =>
    refine rN rfl (λ L d A f j a l U F K m=>?_) ?_
    ·have e4:=U.w 4 (.pointer (some ⟨w.heap.size,0,none⟩));have G:=KB.below F.bel;obtain⟨W,V,T,Q⟩:=G.rv.c4;obtain⟨P,J⟩:=G.rb.c2;have oc:=(F.bel.cell ar).trans ac;have H:=G.rv.lt;clear G;go_simp;exact pF m (F.skip 0 _)
    refine rN rfl (λ L d A f j a l U F K m=>?_) ?_
    ·have e5:=U.w 5 (.pointer (some ⟨w.heap.size+1,0,none⟩));have G:=KB.below F.bel;obtain⟨W,V,T,Q⟩:=G.rv.c4;obtain⟨P,J⟩:=G.rb.c2;have oc:=(F.bel.cell ar).trans ac;have H:=G.rv.lt;clear G;go_simp;exact pF m (F.skip 1 _)
    refine rN rfl (λ L d A f j a l U F K m=>?_) ?_
    ·have bv:=U.w 12 (.slice (some ⟨ob,oo,none⟩) M cq);go_simp;exact pF m (F.skip 2 _)
    refine rN rfl (λ L d A f j a l U F K m=>?_) ?_
    ·have bt:=U.w 13 (.int .i64 (k:Int));go_simp;exact pF m (F.skip 3 _)
    refine rN rfl (λ L d A f j a l U F K m=>?_) ?_
    ·have bq:=U.v 2 62;have bp:=U.v 3 63;go_simp;exact pF m (F.skip 4 _)
    refine rN rfl (λ L d A f j a l U F K m=>?_) ?_
    ·have bo:=U.v 4 64;have G:=KB.below F.bel;obtain⟨W,V,T,Q⟩:=G.rv.c4;obtain⟨P,J⟩:=G.rb.c2;have oc:=(F.bel.cell ar).trans ac;have H:=G.rv.lt;clear G;go_simp;exact pF m (F.skip 5 _)
    refine rN rfl (λ L d A f j a l U F K m=>?_) ?_
    ·have e3:=U.w 3 (.slice As N cp);go_simp;exact pF m (F.skip 6 _)
    refine rN rfl (λ L d A f j a l U F K m=>?_) ?_
    ·have bs:=U.v 0 60;have br:=U.v 1 61;have bn:=U.v 5 65;have bm:=U.v 6 66;go_simp;refine(aC.out f F.bel).mono ?_;rintro e w6 ⟨v6,rfl,a1,a5⟩;exact m.out v6 w6 (Pl.any rfl) (F.call j (by decide) a5 (RelBB.weak a1 (λ b hb _=>hb.elim False.elim (λ h=>⟨.inr h,by have:=F.bel.size;omega⟩))))
    refine rN rfl (λ L d A f j a l U F K m=>?_) ?_
    ·have bl:=U.x 7 67;go_simp;exact m.out _ f (Pl.any rfl) (F.part 8 (by decide) (bK a 7) (by intro p C e;simp only [List.mem_cons,List.not_mem_nil,or_false] at C;rcases C with rfl | rfl | rfl | rfl <;> first | exact absurd e (by decide) | rfl))
    refine rN rfl (λ L d A f j a l U F K m=>?_) ?_
    ·have ag:=U.x 8 59;have fc:=F.fc (bK a 7);refine fc.elim λ u3 q=>?_
     refine q.elim λ u4 q=>?_
     refine q.elim λ X q=>?_
     have aR:=ag.trans ((F.fd (8,(λ v=>v)) (by simp) (bK a 8)).2.trans q.1);clear ag fc;go_simp;exact m.out _ f (Pl.any rfl) (F.part 9 (by decide) (bK a 7) (by intro p C e;simp only [List.mem_cons,List.not_mem_nil,or_false] at C;rcases C with rfl | rfl | rfl | rfl <;> first | exact absurd e (by decide) | (rw [q.1];try rfl)))
    refine rN rfl (λ L d A f j a l U F K m=>?_) ?_
    ·have ag:=U.x 8 59;have fc:=F.fc (bK a 7);refine fc.elim λ u3 q=>?_
     refine q.elim λ u4 q=>?_
     refine q.elim λ X q=>?_
     have aR:=ag.trans ((F.fd (8,(λ v=>v)) (by simp) (bK a 8)).2.trans q.1);clear ag fc;go_simp;exact m.out _ f (Pl.any rfl) (F.part 10 (by decide) (bK a 7) (by intro p C e;simp only [List.mem_cons,List.not_mem_nil,or_false] at C;rcases C with rfl | rfl | rfl | rfl <;> first | exact absurd e (by decide) | (rw [q.1];try rfl)))
    refine rN rfl (λ L d A f j a l U F K m=>?_) ?_
    ·go_simp;exact m.out _ _ (Pl.any rfl) (F.box j (by decide) (λ h=>j (l 12 11 (by kernel_rfl) h)) rfl)
    refine rN rfl (λ L d A f j a l U F K m=>?_) ?_
    ·have a8:=U.x 11 14;have a7:=U.x 9 68;have fc:=F.fc (bK a 7);refine fc.elim λ u3 q=>?_
     refine q.elim λ u4 q=>?_
     refine q.elim λ X q=>?_
     refine(F.fa (bK a 11)).elim λ g qa=>?_
     refine qa.2.2.1.elim λ cs qc=>?_
     have aO:cs.length=2:=qc.1;have aZ:d 9=.agg ⟨[u3,u4]⟩:=by rw [(F.fd (9,ext 0) (by simp) (bK a 9)).2,q.1];rfl
     refine q.2.1.1.elim λ A5 qs=>?_
     refine qs.elim λ c5 qs=>?_
     refine q.2.1.2.elim λ A6 qt=>?_
     refine qt.elim λ c6 qt=>?_
     refine wp_sm 28 _ _ rfl g 0 [u3,u4] cs (ev (a8.trans qa.1)) (ev (a7.trans aZ)) 28 qc.2 (by kernel_rfl) (Nat.le_of_eq aO.symm) (by rw [qs.1,qt.1];rfl) ?_;exact m.out undef _ (Pl.any rfl) (F.wrote (by decide) (bK a 7) (bK a 11) qa.1 qa.2.1 qc.2 (by rw [q.1];exact setL_all cs _ aO))
    refine rN rfl (λ L d A f j a l U F K m=>?_) ?_
    ·have aQ:=U.x 10 69;have fc:=F.fc (bK a 7);refine fc.elim λ u3 q=>?_
     refine q.elim λ u4 q=>?_
     refine q.elim λ X q=>?_
     have bd:=aQ.trans ((F.fd (10,ext 1) (by simp) (bK a 10)).2.trans (by rw [q.1];try rfl));clear fc aQ;go_simp;exact m.out _ f (Pl.any rfl) (F.part 13 (by decide) (bK a 7) (by intro p C e;simp only [List.mem_cons,List.not_mem_nil,or_false] at C;rcases C with rfl | rfl | rfl | rfl <;> first | exact absurd e (by decide) | (rw [q.1];try rfl)))
    exact RelFrom.nil (by decide)
   intro d f C F;simp only [Fr,Act.put,sX,Nat.reduceAdd];obtain⟨gx,ax,bi,-,aN⟩:=F.fa trivial;have rx:=(F.fw trivial).2 gx ax;obtain⟨u3,u4,X,ap,ad,Y⟩:=aN trivial;have ao:d 13=.bool (followP v b o ss).isSome:=(F.fd (13,ext 1) (by simp) trivial).2.trans (by rw [ap];try rfl);rw [ap] at rx;have rx:RowB f gx 28 [u3,u4]:=rx;rw [ax,ao];have aP:=F.bel;have K:=KB.below aP;have I:=I.trans (aP.mono I.size);have bc:w.heap.size+4<=gx:=by have:=KB.rr.lt;omega
   clear F C ap ao aN ax KB aC;obtain⟨O,hO⟩:∃ o',followP v b o ss=o':=⟨_,rfl⟩;rw [hO] at Y ⊢;have HO:=kD hO;clear hO;obtain⟨z0,z1⟩:=K.rr.c2;have aj:=K.rr.lt;have al:=K.rr.frozen
   cases O with
   | none =>
    have ba:Hid (R=firstF v b ss (L.drop (k+1))):=by
     show _=_
     rw [aA.out,aT.out];simp only [firstF];rw [HO.out]
    have bg:IntKind.i64.wrap ((k:Int)+1)=(k:Int)+1:=IntWalk.i64_in _ (by omega);clear rx ad z0 z1 aj al;go_wp2_with fail;go_roundw
    case rel=>exact⟨k+1,by omega,by go_num,I,K,ba⟩
    case measure=>simp [intOf];omega
   | some c =>
    obtain rfl:=Y c rfl;have af:R=some X:=by rw [aA.out,aT.out];simp only [firstF];rw [HO.out]
    subst af;obtain⟨⟨A5,c5,rfl,p5,k5⟩,⟨A6,c6,rfl,p6,k6⟩⟩:=ad;have ad:BdR f (λ b=>b≠gx∧w.heap.size+4<=b) (.slice A5 X.1.length c5) (.slice A6 X.2.length c6) X:=⟨⟨A5,c5,rfl,p5,k5⟩,⟨A6,c6,rfl,p6,k6⟩⟩;have aB:=kD ad;obtain⟨l5,aL⟩:∃ n,X.1.length=n:=⟨_,rfl⟩;obtain⟨l6,aK⟩:∃ n,X.2.length=n:=⟨_,rfl⟩;rw [aL,aK] at rx aB;obtain⟨x0,x1⟩:=rx.c2;have bf:=rx.lt;clear ad p5 p6 aL aK HO;go_wp2_with fail;refine bp_gen (λ W'=>Below w.heap.size w W'∧RowB W' (w.heap.size+3) 28 [.slice A5 l5 c5,.slice A6 l6 c6]∧Hid (BdR W' (λ b=>(λ _=>False) b∨w.heap.size<=b) (.slice A5 l5 c5) (.slice A6 l6 c6) X)) ⟨below_two K.bel (by omega) _ _,two_ K.rr _ _,kD ⟨?_,?_⟩⟩ ?_
    ·exact(relV 1 enI).weak (sl_two' aB.out.1 (by omega) _ _) (λ b hb _=>.inr (by omega))
    ·exact(relV 1 enI).weak (sl_two' aB.out.2 (by omega) _ _) (λ b hb _=>.inr (by omega))
    rintro w8 ⟨ae,r8,h8⟩;obtain⟨z0,z1⟩:=r8.c2;refine bodyPost_ret (v:=.tuple #[.agg #[.slice A5 l5 c5,.slice A6 l6 c6],.int .i64 0]) (by simp [results,Tryz.results19,go_sem,z0,z1]) rfl ?_;exact⟨_,rfl,⟨_,_,X,0,rfl,h8.out,(λ b0 h=>⟨by simpa using h,rfl⟩),(λ h=>by cases h)⟩,ae⟩
  ·obtain rfl:M=k:=by omega
   have af:R=none:=by
    rw [aA.out,show L.drop M=[] from List.drop_eq_nil_of_le (by rw [aU.out];exact Nat.le_refl _)];rfl
   subst af;obtain⟨z0,z1⟩:=K.rr.c2;have aj:=K.rr.lt;have al:=K.rr.frozen;go_wp2_with fail;refine bp_gen (λ W'=>Below w.heap.size w W'∧RowB W' (w.heap.size+3) 28 [.slice none 0 0,.slice none 0 0]) ⟨below_two (K.bel) (by omega) _ _,two_ (K.rr) _ _⟩ ?_;rintro w8 ⟨ae,r8⟩;obtain⟨z0,z1⟩:=r8.c2;refine bodyPost_ret (v:=.tuple #[.agg #[.slice none 0 0,.slice none 0 0],.int .i64 5]) (by simp [results,Tryz.results19,go_sem,z0,z1]) rfl ?_;exact⟨_,rfl,⟨_,_,([],[]),5,rfl,BdR.nil _ _,(λ _ h=>by cases h),(λ _=>by decide)⟩,ae⟩
open Bd19 Bd20
theorem play_i (v:Vr) (b:Bd) (hb:Ok v b) (S:Nat->Prop) (u1 u2:Value) (x y:Int) (hr:rollB v x y=true) (ss:List Stp) (As:Option Addr) (cp BS:Nat) (w:World) (hBS:BS<=w.heap.size) (hR:BdR w S u1 u2 b) (hs:RdS w BS 4 enSt As ss) :
  Calls Tryz.prog 44 #[.agg #[.int .i64 v.p,.int .i64 v.c,.int .i64 v.h,.int .i64 v.s],.agg #[u1,u2],.agg #[.int .i64 x,.int .i64 y],.slice As ss.length cp] w λ e w'=>Ret RelBB (playP v b x y ss) (λ _=>False) w e w':=by
 have ab:(1<=x∧x<=v.s)∧1<=y∧y<=x:=by unfold rollB at hr;simpa only [Bool.and_eq_true,decide_eq_true_eq] using hr
 have aW:=hb.v1.2.2.2.2;have aa:1<=x∧x<=6:=⟨ab.1.1,by omega⟩;have Z:1<=y∧y<=6:=⟨ab.2.1,by omega⟩;have CF:=kD (λ(ds:List Int) (hd:ds.length<=4) (uo:Value) (V:World) (h9:Below w.heap.size w V) (ho:SlV 1 enI V All uo ds)=>follow_i v b hb S u1 u2 ds hd uo ss As cp BS V (Nat.le_trans hBS h9.size) (hR.keep (.below h9)) ho (hs.below h9 hBS));obtain⟨⟨A1,c1,rfl,r1,k1⟩,⟨A2,c2,rfl,r2,k2⟩⟩:=hR;have CQ:=kD (λ(V:World) (h9:Below w.heap.size w V)=>seqs_i v b hb A1 A2 c1 c2 x y aa Z V (r1.keep (.below h9)).rd (r2.keep (.below h9)).rd k1 k2);obtain⟨n1,C⟩:∃ n,b.1.length=n:=⟨_,rfl⟩;obtain⟨n2,ac⟩:∃ n,b.2.length=n:=⟨_,rfl⟩;rw [C,ac] at CF CQ;rw [C,ac];obtain⟨N,hN⟩:∃ n,ss.length=n:=⟨_,rfl⟩;rw [hN] at CF;rw [hN];have an:=ord_dice aa Z;have ao:(∀ R ∈ sqM v b (ordP x y),1<=R.length∧R.length<=5):=by
  intro R hR;obtain⟨o,ho,rfl⟩:=List.mem_map.1 hR;exact(rowsP_ok hb (λ d hd=>((an.1 o ho).1 d hd).1) (an.1 o ho).2).2
 obtain⟨R,al⟩:∃ r,playP v b x y ss=r:=⟨_,rfl⟩;have hP:R=if ss.length=usedR (sqM v b (ordP x y)) 0 then playGo v b ss (usedR (sqM v b (ordP x y)) 0) (ordP x y) (sqM v b (ordP x y)) else none:=by rw [<-al,<-playI_eq (by have:=hb.v1;omega)];rfl
 rw [al];rw [hN] at hP;have ap:∀(k:Nat) o,(ordP x y)[k]?=some o->∃ Q,(sqM v b (ordP x y))[k]?=some Q:=λ k o h=>⟨_,by unfold sqM;rw [List.getElem?_map,h];rfl⟩
 have E:(sqM v b (ordP x y)).length=(ordP x y).length:=by unfold sqM;rw [List.length_map]
 obtain⟨T,W⟩:∃ l,sqM v b (ordP x y)=l:=⟨_,rfl⟩;obtain⟨a4,aL⟩:∃ f,sqF v b (ordP x y)=f:=⟨_,rfl⟩;rw [W] at hP ao CQ ap E;rw [aL] at CQ;have HP:=kD hP;have aU:=kD ao;have aV:=kD ap;have X:=kD E;have aT:=kD (ord_len x y);clear hP al hN C ac r1 r2 hs hb aW hr ab an ao W aL aa Z ap E;go_enter Tryz.func44,Tryz.ntmps44;go_upto_region 1 with fail;refine wp_gen (λ g=>F4 w g v [.slice A1 n1 c1,.slice A2 n2 c2] x y) ⟨by go_grown,(((RowB.new _ _ _).alloc _).alloc _).alloc _,((RowB.new' _ _ _ (by simp)).alloc _).alloc _,(RowB.new' _ _ _ (by simp)).alloc _,RowB.new' _ _ _ (by simp)⟩ ?_;intro w1 K;obtain⟨q0,q1,q2,q3⟩:=K.rv.c4;obtain⟨y0,y1⟩:=K.rb.c2;obtain⟨d0,d1⟩:=K.rd.c2;go_wp2_with fail;refine(CQ.out _ K.bel).mono ?_;rintro e w2 ⟨av,rfl,B,hb⟩;have K:=K.below hb;obtain⟨L,hL⟩:∃ L,T.length=L:=⟨_,rfl⟩;obtain⟨Aa,ca,aO,-⟩:=Bd19.OwnG.form en1_len B;rw [hL] at aO;subst aO;have HA:=kD (B.sl en1_len (Nat.le_refl _));have aS:=kD hL;clear q0 q1 q2 q3 y0 y1 d0 d1 hb CQ B hL;have CU:=kD (used_i T _ _ w2 HA.out (λ R hR=>⟨(aU.out R hR).1,by have:=(aU.out R hR).2;omega⟩));obtain⟨un,aC⟩:∃ n,usedR T 0=n:=⟨_,rfl⟩;rw [aC] at CU HP;clear aC;go_wp2_with fail;refine CU.out.mono ?_;rintro e w3 ⟨rfl,rfl⟩;obtain⟨z,t⟩:=K.rr.c2;have ae:=K.rr.lt;have aq:=K.rr.frozen;by_cases hNu:N=un
 rotate_left
 ·have m:R=none:=by rw [HP.out,if_neg hNu]
  subst m;have aY:((N:Int) != (un:Int))=true:=by simpa using (λ h:(N:Int)=un=>hNu (by omega))
  clear HP;go_wp2_with fail;refine bp_gen (λ g=>Below w.heap.size w g∧RowB g (w.heap.size+3) 28 [.slice none 0 0,.slice none 0 0]) ⟨below_two (K.bel) (by omega) _ _,two_ (K.rr) _ _⟩ ?_;rintro w8 ⟨j,Y⟩;obtain⟨z,t⟩:=Y.c2;refine bodyPost_ret (v:=.tuple #[.agg #[.slice none 0 0,.slice none 0 0],.bool false]) (by simp [results,Tryz.results44,go_sem,z,t]) rfl ?_;exact⟨_,rfl,⟨_,_,([],[]),rfl,BdR.nil _ _,(λ _ h=>by cases h)⟩,j⟩
 subst hNu;have HQ:Hid (R=playGo v b ss N (ordP x y) T):=by show _=_;rw [HP.out,if_pos rfl]
 have aY:((N:Int) != (N:Int))=false:=by simp
 clear HP z t ae aq;obtain⟨d0,d1⟩:=K.rd.c2;have CO:=kD (λ(V:World)=>orders_i x y V);go_wp2_with fail;refine(CO.out _).mono ?_;rintro e w4 ⟨vv,rfl,B,hb⟩;have K:=K.below hb;have HA:=kD ((relSl RelR 1 en1).keep HA.out (.below hb));clear d0 d1 hb CO;obtain⟨Aq,cq,rs,rfl,aG,ad,-⟩:=B;obtain⟨M,hM⟩:∃ M,(ordP x y).length=M:=⟨_,rfl⟩;rw [hM] at X;rw [hM];obtain⟨OS,aP⟩:∃ l,ordP x y=l:=⟨_,rfl⟩;rw [aP] at ad HQ aV aT hM;have az:=kD ad;have aQ:=kD aG;have ay:=kD hM;have bd:M<=9223372036854775807:=by have:=aQ.out.len;have:=az.out.1;have:=ay.out;omega
 have aR:Hid (L=M):=by show _=_;rw [<-aS.out];exact X.out
 clear aG ad aP hM;go_wp2_with fail;go_loopw [34] (λ i wr=>∃ k:Nat,k<=M∧i=.int .i64 (k:Int)∧Below w4.heap.size w4 wr∧F4 w wr v [.slice A1 n1 c1,.slice A2 n2 c2] x y∧Hid (R=playGo v b ss N (OS.drop k) (T.drop k))) (λ i _=>M - (intOf i).toNat)
 case atStart=>exact⟨0,Nat.zero_le _,by first | rfl | trivial,Below.refl _ _,K,HQ⟩
 case round =>
  obtain⟨k,hk,rfl,a,K,G⟩:=hrel;by_cases hlt:k<M
  ·obtain⟨ob,oo,r,rfl,-,a8,aF,hc⟩:=(aQ.out.keep (.below a)).at_ (i:=k) (by rw [az.out.1,ay.out];exact hlt);obtain⟨o,H,a0⟩:=(az.out.keep (.below a)).at_ aF;have ak:=hc 0 r rfl;simp only [Nat.mul_one,Nat.add_zero] at ak;have ax:=kD (drop_at H);have aI:=aT.out o (List.mem_of_getElem? H);obtain⟨Ao,co,rfl,aE,aK⟩:=a0;have aB:=kD (CF.out o aI (.slice Ao o.length co) wr K.bel ⟨Ao,co,rfl,aE.weak (λ _ _ _=>trivial),aK⟩);obtain⟨lo,aJ⟩:∃ n,o.length=n:=⟨_,rfl⟩;rw [aJ] at aB ak;obtain⟨Q,hQ⟩:=aV.out k o H;have aw:=kD (drop_at hQ);obtain⟨a2,a1,a6,aM,aH,ag,-⟩:=(relSl RelR 1 en1).keep HA.out (.below a);obtain⟨rfl,-,rfl⟩:Aa=a2∧L=T.length∧ca=a1:=by simpa only [Value.slice.injEq] using aM
   obtain⟨vb,vo,rq,rfl,-,a7,aD,aN⟩:=aH.at_ (i:=k) (by rw [ag.1,aS.out,aR.out];exact hlt);obtain⟨Q',am,aZ⟩:=ag.at_ aD;obtain rfl:Q=Q':=by rw [hQ] at am;simpa using am
   obtain⟨Ar,cr,a5,rfl,-,-,-⟩:=aZ;have aj:=aN 0 _ rfl;simp only [Nat.mul_one,Nat.add_zero] at aj;obtain⟨lq,af⟩:∃ n,Q.length=n:=⟨_,rfl⟩;rw [af] at aj;have aA:=kD af;have bb:k<M:=hlt;have bc:k<L:=by rw [aR.out];exact hlt
   obtain⟨q0,q1,q2,q3⟩:=K.rv.c4;obtain⟨y0,y1⟩:=K.rb.c2;have ba:IntKind.i64.wrap ((k:Int)+1)=(k:Int)+1:=IntWalk.i64_in _ (by omega);clear hc aF H aE aK aI aJ hQ aM aH ag aD aN am af;by_cases hsh:lq<=N
   ·have ar:Hid (R=playGo v b ss N (OS.drop (k+1)) (T.drop (k+1))):=by
     show _=_
     rw [G.out,ax.out,aw.out];simp only [playGo];rw [if_pos (by rw [aA.out];exact hsh)]
    have aX:decide (lq<=N)=true:=decide_eq_true hsh;go_wp2_with fail;go_roundw
    case rel=>exact⟨k+1,by omega,by go_num,a,K,ar⟩
    case measure=>simp [intOf];omega
   have aX:decide (lq<=N)=false:=decide_eq_false hsh;have P:Hid (∀ c,followP v b o ss=some c->R=some c):=by
    intro c hc;rw [G.out,ax.out,aw.out];simp only [playGo];rw [if_neg (by rw [aA.out];exact hsh),hc]
   have F:Hid (followP v b o ss=none->R=if N=1 then none else playGo v b ss N (OS.drop (k+1)) (T.drop (k+1))):=by
    intro hc;rw [G.out,ax.out,aw.out];simp only [playGo];rw [if_neg (by rw [aA.out];exact hsh),hc]
   clear G;go_wp2_with fail;refine aB.out.mono ?_;rintro e w5 ⟨v6,rfl,⟨u3,u4,J,rfl,I,A⟩,D⟩;have a3:w.heap.size+4<=wr.heap.size:=by have:=K.rr.lt;omega
   have K:=K.below D;have a:=a.trans (D.mono a.size);obtain⟨O,hO⟩:∃ o',followP v b o ss=o':=⟨_,rfl⟩;rw [hO] at A P F ⊢;obtain⟨⟨A5,c5,rfl,p5,k5⟩,⟨A6,c6,rfl,p6,k6⟩⟩:=I;have I:BdR w5 (λ b=>w.heap.size+4<=b) (.slice A5 J.1.length c5) (.slice A6 J.2.length c6) J:=⟨⟨A5,c5,rfl,p5.weak (λ b hb _=>hb.elim False.elim (λ h=>by omega)),k5⟩,⟨A6,c6,rfl,p6.weak (λ b hb _=>hb.elim False.elim (λ h=>by omega)),k6⟩⟩;have q:=kD I;obtain⟨l5,ai⟩:∃ n,J.1.length=n:=⟨_,rfl⟩;obtain⟨l6,ah⟩:∃ n,J.2.length=n:=⟨_,rfl⟩;rw [ai,ah] at q;rw [ai,ah];clear q0 q1 q2 q3 y0 y1 I p5 p6 ai ah hO ak aj aB D;go_upto_region 10 with fail;refine wp_gen (λ g=>Below w5.heap.size w5 g∧F4 w g v [.slice A1 n1 c1,.slice A2 n2 c2] x y∧RowB g w5.heap.size 28 [.slice A5 l5 c5,.slice A6 l6 c6]∧Hid (BdR g (λ b=>w.heap.size+4<=b) (.slice A5 l5 c5) (.slice A6 l6 c6) J)) ⟨(Below.refl _ _).alloc (Nat.le_refl _) _,K.below ((Below.refl _ _).alloc (Nat.le_refl _) _),RowB.new _ _ _,kD (q.out.keep (.below ((Below.refl _ _).alloc (Nat.le_refl _) _)))⟩ ?_;clear K q;rintro w6 ⟨D,K,rx,q⟩;have a:=a.trans (D.mono a.size);obtain⟨x0,x1⟩:=rx.c2;have a9:=rx.lt;obtain⟨z,t⟩:=K.rr.c2;have ae:=K.rr.lt;have aq:=K.rr.frozen
   cases O with
   | some c =>
    obtain rfl:=A c rfl;have m:R=some J:=P.out _ rfl;subst m;go_wp2_with fail;refine bp_gen (λ g=>Below w.heap.size w g∧RowB g (w.heap.size+3) 28 [.slice A5 l5 c5,.slice A6 l6 c6]∧Hid (BdR g (λ b=>(λ _=>False) b∨w.heap.size<=b) (.slice A5 l5 c5) (.slice A6 l6 c6) J)) ⟨below_two K.bel (by omega) _ _,two_ K.rr _ _,kD ⟨?_,?_⟩⟩ ?_
    ·exact(relV 1 enI).weak (sl_two' q.out.1 (by omega) _ _) (λ b hb _=>.inr (by omega))
    ·exact(relV 1 enI).weak (sl_two' q.out.2 (by omega) _ _) (λ b hb _=>.inr (by omega))
    rintro w8 ⟨j,Y,h8⟩;obtain⟨z,t⟩:=Y.c2;refine bodyPost_ret (v:=.tuple #[.agg #[.slice A5 l5 c5,.slice A6 l6 c6],.bool true]) (by simp [results,Tryz.results44,go_sem,z,t]) rfl ?_;exact⟨_,rfl,⟨_,_,J,rfl,h8.out,(λ b0 h=>by simpa using h)⟩,j⟩
   | none =>
    by_cases h1:N=1
    ·have m:R=none:=by rw [F.out rfl,if_pos h1]
     subst m;have C:((N:Int) == 1)=true:=by rw [h1];rfl
     clear h1 F P;go_wp2_with fail;refine bp_gen (λ g=>Below w.heap.size w g∧RowB g (w.heap.size+3) 28 [.slice none 0 0,.slice none 0 0]) ⟨below_two (K.bel) (by omega) _ _,two_ (K.rr) _ _⟩ ?_;rintro w8 ⟨j,Y⟩;obtain⟨z,t⟩:=Y.c2;refine bodyPost_ret (v:=.tuple #[.agg #[.slice none 0 0,.slice none 0 0],.bool false]) (by simp [results,Tryz.results44,go_sem,z,t]) rfl ?_;exact⟨_,rfl,⟨_,_,([],[]),rfl,BdR.nil _ _,(λ _ h=>by cases h)⟩,j⟩
    ·have ar:Hid (R=playGo v b ss N (OS.drop (k+1)) (T.drop (k+1))):=by show _=_;rw [F.out rfl,if_neg h1]
     have C:((N:Int) == 1)=false:=by simpa using (λ h:(N:Int)=1=>h1 (by omega))
     clear h1 F P;go_wp2_with fail;go_roundw
     case rel=>exact⟨k+1,by omega,by go_num,a,K,ar⟩
     case measure=>simp [intOf];omega
  ·obtain rfl:M=k:=by omega
   have m:R=none:=by
    rw [G.out,show OS.drop M=[] from List.drop_eq_nil_of_le (by rw [ay.out];exact Nat.le_refl _)];rfl
   subst m;obtain⟨z,t⟩:=K.rr.c2;have ae:=K.rr.lt;have aq:=K.rr.frozen;go_wp2_with fail;refine bp_gen (λ g=>Below w.heap.size w g∧RowB g (w.heap.size+3) 28 [.slice none 0 0,.slice none 0 0]) ⟨below_two (K.bel) (by omega) _ _,two_ (K.rr) _ _⟩ ?_;rintro w8 ⟨j,Y⟩;obtain⟨z,t⟩:=Y.c2;refine bodyPost_ret (v:=.tuple #[.agg #[.slice none 0 0,.slice none 0 0],.bool false]) (by simp [results,Tryz.results44,go_sem,z,t]) rfl ?_;exact⟨_,rfl,⟨_,_,([],[]),rfl,BdR.nil _ _,(λ _ h=>by cases h)⟩,j⟩
end Gm
end Go.Proofs.YtmncnhbjifeoeaaGreat
