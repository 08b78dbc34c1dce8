/- Parts of the proof of FnHints. Conditions: each theorem's own. -/
import Derived.Test.YtmncnhbjifeoeaaGreatT18
set_option linter.unusedVariables false
set_option linter.unusedSimpArgs false
set_option maxHeartbeats 8000000
set_option maxRecDepth 100000
namespace Go.Proofs.YtmncnhbjifeoeaaGreat
namespace DwB
open Go Go.ChangeShapes Go.WideShapes Go.ChangeAt Go.RowKit Base Ints Own RelG PlP Gm RegInv RegF RegG Bd1 Bd5 Bd11 Bd22 Bd23 Bd24 Draw DrawD DwP DwQ DwA
theorem own_at {α:Type} {w:World} {lo hi sz:Nat} {e:TypeId} {en:α->List Value} {v:Value} {xs:List α} (hen:∀ x,(en x).length=sz) (h:OwnS w lo hi e sz en v xs) {k:Nat} {r:α} (hk:xs[k]?=some r) :
  ∃ g c,v=.slice (some ⟨g,0,none⟩) xs.length c∧(lo<=g∧g<hi)∧∀ j u,(en r)[j]?=some u->w.cell? ⟨g,k*sz+j,none⟩=some u:=by
 have a:=(List.getElem?_eq_some_iff.1 hk).1;rcases h.cases_ with ⟨_,h0⟩ | ⟨g,cap,rest,e1,h1,h2,-,-,-,-⟩
 ·rw [h0] at a;simp at a
 ·obtain⟨A,c,f,d⟩:=h.form hen;rw [e1] at f;simp only [Value.slice.injEq] at f;obtain⟨rfl,-,-⟩:=f;obtain⟨b,l,i,-,n⟩:=d.2 (by omega);simp only [Option.some.injEq,Addr.mk.injEq] at i;obtain⟨rfl,rfl,-⟩:=i;exact⟨g,cap,e1,⟨h1,h2⟩,λ j u m=>by have:=n k r hk j u m;rwa [Nat.zero_add] at this⟩
theorem roll6 {v:Vr} {b:Bd} {x y:Int} (hb:Ok v b) (h:rollB v x y=true):(1<=x∧x<=6)∧(1<=y∧y<=6):=by
 unfold rollB at h;simp only [Bool.and_eq_true,decide_eq_true_eq] at h;have:=hb.v1;omega
def APl (v:Vr) (b:Bd) (x y:Int):List Pl × Int :=
 if okB v b=false then ([],1) else if rollB v x y=false then ([],2) else if (allP v b x y).2=false then ([],3) else ((allP v b x y).1,0)
theorem own0 {ρ α:Type} {K:Rel ρ α} {w0 w:World} {g:Nat} {t:TypeId} {sz:Nat} {en:ρ->List Value} (hen:∀ x,(en x).length=sz) (h:RowB w g t []) (hg:w0.heap.size<=g):OwnG K w w0.heap.size w.heap.size t sz en (.slice (some ⟨g,0,none⟩) 0 0) [] :=
 ⟨[],h.own (xs:=([]:List ρ)) hen hg h.lt (by simp),LsR.nil _ _ _⟩
theorem codeG_s (v:Vr) (b:Bd) (S:Nat->Prop) (u1 u2:Value) (x y:Int) (z:Int) (hz:(if okB v b=false then (1:Int) else if rollB v x y=false then 2 else 0)=z) (w:World) (hR:BdR w S u1 u2 b) :
  Calls Tryz.prog 45 #[.agg #[.int .i64 v.p,.int .i64 v.c,.int .i64 v.h,.int .i64 v.s],.agg #[u1,u2],.agg #[.int .i64 x,.int .i64 y]] w λ e w'=>e=.returned (.int .i64 z)∧Below w.heap.size w w':=by
 obtain⟨⟨M,H,rfl,A,Y⟩,⟨L,G,rfl,r,X⟩⟩:=hR;obtain⟨q,a⟩:∃ t,okB v b=t:=⟨_,rfl⟩;obtain⟨o,d⟩:∃ t,rollB v x y=t:=⟨_,rfl⟩;have J:=kD (λ(i:World) (F:Below w.heap.size w i)=>Bd3.isB_s v b M L H G i.heap.size i (Nat.le_refl _) (A.keep (.below F)).rd (r.keep (.below F)).rd q a);have R:=kD (λ(P:okV v=true) (i:World)=>TsI.isroll_ws v P x y o d i);have k:=kD a;rw [a,d] at hz;have I:=kD hz;obtain⟨O,g⟩:∃ n,b.1.length=n:=⟨_,rfl⟩;obtain⟨N,f⟩:∃ n,b.2.length=n:=⟨_,rfl⟩;rw [g,f] at J;rw [g,f];clear g f A r hz a d;go_enter Tryz.func45,Tryz.ntmps45;go_upto_region 1 with fail;refine wp_gen (λ Q=>B3r w Q v (.slice M O H) (.slice L N G) x y) ⟨by go_grown,((RowB.new _ _ _).alloc _).alloc _,(RowB.new' _ _ _ (by simp)).alloc _,RowB.new' _ _ _ (by simp)⟩ ?_;intro W K;obtain⟨E,D,C,B⟩:=K.rv.c4;obtain⟨m,l⟩:=K.rb.c2;go_wp2_with fail;refine(J.out _ K.bel).mono ?_;rintro e V ⟨rfl,j⟩;have K:=K.below j;clear E D C B m l j
 cases q with
 | false =>
  have hz:=I.out;simp only [if_true] at hz;subst hz;go_wp2_with fail;go_ret;exact⟨rfl,K.bel⟩
 | true =>
 obtain⟨E,D,C,B⟩:=K.rv.c4;obtain⟨m,l⟩:=K.rr.c2;go_wp2_with fail;refine(R.out (okV_iff.2 (okB_iff.1 k.out).v1) _).mono ?_;rintro e T ⟨rfl,j⟩;have K:=K.below j;have hz:=I.out
 cases o with
 | false =>
  simp only [Bool.true_eq_false,if_false,if_true] at hz;subst hz;go_wp2_with fail;go_ret;exact⟨rfl,K.bel⟩
 | true =>
  simp only [Bool.true_eq_false,if_false,if_true] at hz;subst hz;go_wp2_with fail;go_ret;exact⟨rfl,K.bel⟩
theorem plays_s (v:Vr) (b:Bd) (S:Nat->Prop) (u1 u2:Value) (x y:Int) (R:List Pl × Int) (hRR:APl v b x y=R) (w:World) (hR:BdR w S u1 u2 b) :
  Calls Tryz.prog 11 #[.agg #[.int .i64 v.p,.int .i64 v.c,.int .i64 v.h,.int .i64 v.s],.agg #[u1,u2],.agg #[.int .i64 x,.int .i64 y]] w λ e w'=>∃ pv,e=.returned (.tuple #[pv,.int .i64 R.2])∧OwnG RelP w' w.heap.size w'.heap.size 44 3 enP pv R.1∧Below w.heap.size w w':=by
 obtain⟨z,a⟩:∃ z,(if okB v b=false then (1:Int) else if rollB v x y=false then 2 else 0)=z:=⟨_,rfl⟩;have W:=kD (λ(B:World) (E:Below w.heap.size w B)=>codeG_s v b S u1 u2 x y z a B (hR.below E));obtain⟨⟨A1,D,rfl,Y,k1⟩,⟨A2,C,rfl,X,Z⟩⟩:=hR;have A:=kD (λ(d:Ok v b) (hx:1<=x∧x<=6) (hy:1<=y∧y<=6) (B:World) (E:Below w.heap.size w B)=>all_s v b d A1 A2 D C x y hx hy B (Y.keep (.below E)).rd (X.keep (.below E)).rd k1 Z);have T:=kD a;have t:=kD hRR;obtain⟨n1,r⟩:∃ n,b.1.length=n:=⟨_,rfl⟩;obtain⟨n2,o⟩:∃ n,b.2.length=n:=⟨_,rfl⟩;rw [r,o] at A W;rw [r,o];clear r o Y X a hRR k1 Z;go_enter Tryz.func11,Tryz.ntmps11;go_upto_region 1 with fail;refine wp_gen (λ k=>B3r w k v (.slice A1 n1 D) (.slice A2 n2 C) x y) ⟨by go_grown,((RowB.new _ _ _).alloc _).alloc _,(RowB.new' _ _ _ (by simp)).alloc _,RowB.new' _ _ _ (by simp)⟩ ?_;intro w1 K;obtain⟨N,M,L,J⟩:=K.rv.c4;obtain⟨G,F⟩:=K.rb.c2;obtain⟨I,H⟩:=K.rr.c2;go_wp2_with fail;refine(W.out _ K.bel).mono ?_;rintro e w2 ⟨rfl,d⟩;have K:=K.below d;clear N M L J G F I H d W;by_cases h0:z=0
 case neg =>
  have aa:(z != 0)=true:=by simp [h0]
  have hR:R=([],z):=by
   rw [<-t.out];have a:=T.out;unfold APl;by_cases D:okB v b=false
   ·rw [if_pos D] at a ⊢;rw [a]
   ·rw [if_neg D] at a ⊢;by_cases C:rollB v x y=false
    ·rw [if_pos C] at a ⊢;rw [a]
    ·rw [if_neg C] at a;exact absurd a.symm h0
  subst hR;clear h0;have g:=K.bel.size;go_wp2_with fail;refine bp_gen (λ k=>Below w.heap.size w k∧∃ q,w2.heap.size=q∧RowB k q 44 []) ⟨K.bel.alloc g _,_,rfl,RowB.new _ _ _⟩ ?_;rintro k ⟨d,q,O,Q⟩;rw [O] at g ⊢;go_returns;exact⟨_,rfl,own0 enP_len Q g,d⟩
 case pos =>
 subst h0;have a:=T.out;have j:okB v b=true:=by
  cases h:okB v b with
  | true=>rfl
  | false=>rw [if_pos h] at a;cases a
 have m:rollB v x y=true:=by
  rw [if_neg (by rw [j];decide)] at a
  cases h:rollB v x y with
  | true=>rfl
  | false=>rw [if_pos h] at a;cases a
 have d:=okB_iff.1 j;have l:=roll6 d m;have hR:R=if (allP v b x y).2=false then ([],3) else ((allP v b x y).1,0):=by
  rw [<-t.out];unfold APl;rw [if_neg (by rw [j];decide),if_neg (by rw [m];decide)]
 have V:=kD hR;have A:=kD (A.out d l.1 l.2);obtain⟨f,hf⟩:∃ f,(allP v b x y).2=f:=⟨_,rfl⟩;rw [hf] at A V;clear a j m d l hR T t hf;obtain⟨N,M,L,J⟩:=K.rv.c4;obtain⟨G,F⟩:=K.rb.c2;obtain⟨I,H⟩:=K.rr.c2;go_wp2_with fail;refine(A.out _ K.bel).mono ?_;rintro e w3 ⟨pv,rfl,P,d⟩;have g:=K.bel.size;have K:=K.below d;clear N M L J G F I H d A
 cases f with
 | false =>
  have hR:=V.out;simp only [if_true] at hR;subst hR;have i:=K.bel.size;go_wp2_with fail;refine bp_gen (λ k=>Below w.heap.size w k∧∃ q,w3.heap.size=q∧RowB k q 44 []) ⟨K.bel.alloc i _,_,rfl,RowB.new _ _ _⟩ ?_;rintro k ⟨d,q,O,Q⟩;rw [O] at i ⊢;go_returns;exact⟨_,rfl,own0 enP_len Q i,d⟩
 | true =>
  have hR:=V.out;simp only [Bool.true_eq_false,if_false] at hR;subst hR;have i:=K.bel.size;go_wp2_with fail;go_returns;exact⟨_,rfl,P.less g,K.bel⟩
end DwB
namespace HdE
open Go Go.ChangeShapes Go.WideShapes Go.ChangeAt Go.RowKit Base Ints Own Clone RelG PlP Gm Bd1 Bd2 Bd5 Bd6 Bd7 Bd8 RegInv RegF RegG Draw DrawD DwP DwQ DwA DwB HdP HdA HdB HdC HdD
section
variable {w0 w:World} {B g cp:Nat} {A:Option Addr} {xs:List Int} {st:Nat × Int}
theorem roll_x (v:Vr) (hs:v.s<=7) (h:Dx w0 B g A cp xs st w) :
  Calls Tryz.prog 119 #[.pointer (some ⟨g,0,none⟩),.agg #[.int .i64 v.p,.int .i64 v.c,.int .i64 v.h,.int .i64 v.s]] w λ e w'=>∃(r:Int × Int) (st':St),e=.returned (.agg #[.int .i64 r.1,.int .i64 r.2])∧r10 xs v st=(r,st')∧Dx w0 B g A cp xs st' w'∧w.grownBy w' (some g):=by
 have ac:=h.lt;go_enter Tryz.func119,Tryz.ntmps119;go_upto_region 1 with fail;refine wp_gen (λ W'=>Rx w0 w B g A cp xs st [(0,25,vL v),(1,30,[.int .i64 0,.int .i64 0])] W') ⟨((h.alloc _).alloc _),grown_bel (by go_grown),λ p N=>?_,h.lt⟩ ?_
 ·simp only [List.mem_cons,List.not_mem_nil,or_false] at N;rcases N with rfl | rfl
  ·exact(RowB.new _ _ _).alloc _
  ·exact RowB.new' _ _ _ (by simp)
 clear h;intro w1 K;obtain⟨W,V,T,S⟩:=(K.nth0 0 rfl).c4;have J:=(K.nth0 0 rfl).lt;obtain⟨m,O⟩:∃ m,max 1 v.s=m:=⟨_,rfl⟩;have ab:1<=m∧m<=7:=by omega
 have I:(if 1<v.s then v.s else 1)=m:=by split <;> omega
 have H:(if v.s<1 then 1 else v.s)=m:=by split <;> omega
 have G:(if v.s<=1 then 1 else v.s)=m:=by split <;> omega
 have F:(if 1<=v.s then v.s else 1)=m:=by split <;> omega
 have HM:=kD O;clear O;go_wp2_with fail;refine(nextX K.D m (by omega)).mono ?_;rintro e w2 ⟨a,s1,⟨rfl,a0,Q,-,n⟩,j,i,-⟩;have Q:=Q (by omega);have K:=K.next j i;have Z:IntKind.i64.wrap (1+a)=1+a:=IntWalk.i64_in _ (by omega);clear j i W V T S J I H G F;go_wp2_with fail;refine(nextX K.D (1+a) (by omega)).mono ?_;rintro e w3 ⟨b,s2,⟨rfl,b0,P,-,y⟩,j,i,-⟩;have P:=P (by omega);have K:=K.next j i;have Y:IntKind.i64.wrap (1+b)=1+b:=IntWalk.i64_in _ (by omega);have X:IntKind.i64.wrap (1+b - 1)=1+b - 1:=IntWalk.i64_in _ (by omega);clear j i;go_wp2_with fail;refine(nextX K.D 24 (by decide)).mono ?_;rintro e w4 ⟨t,M,⟨rfl,t0,R,-,x⟩,j,i,-⟩;have K:=K.next j i;clear j i R;rw [<-HM.out] at n;have q:=K.nth 1 rfl;have k:=kD K;clear K;by_cases ht:t=0
 ·subst ht;have L:=kD (r10_0 n y x);clear n y x;go_wp2_with (refine wM 30 0 [.int .i64 (1+b - 1),.int .i64 (1+a)] q ?_;intro E f d l;refine Hid.out ?_);have k:=kD (k.out.grown 1 f d);obtain⟨C,z⟩:=f.c2;have o:=f.lt;clear q d l;refine kD ?_
  repeat (first | go_values | go_skip | go_step | go_upon)
  refine bodyPost_ret (v:=.agg #[.int .i64 (1+b - 1),.int .i64 (1+a)]) (by simp [results,Tryz.results119,go_sem,C,z]) rfl ?_;exact⟨_,M,rfl,L.out,k.out.D,k.out.gr⟩
 ·have aa:(t == 0)=false:=by simp [ht]
  have L:=kD (r10_1 n y x ht);clear n y x;go_wp2_with (refine wM 30 0 [.int .i64 (1+a),.int .i64 (1+b)] q ?_;intro E f d l;refine Hid.out ?_);have k:=kD (k.out.grown 1 f d);obtain⟨C,z⟩:=f.c2;have o:=f.lt;clear q d l;refine kD ?_
  repeat (first | go_values | go_skip | go_step | go_upon)
  refine bodyPost_ret (v:=.agg #[.int .i64 (1+a),.int .i64 (1+b)]) (by simp [results,Tryz.results119,go_sem,C,z]) rfl ?_;exact⟨_,M,rfl,L.out,k.out.D,k.out.gr⟩
end
end HdE
end Go.Proofs.YtmncnhbjifeoeaaGreat
