/- Parts of the proof of FnHints. Conditions: each theorem's own. -/
import Derived.Test.YtmncnhbjifeoeaaGreatT20
set_option linter.unusedVariables false
set_option linter.unusedSimpArgs false
set_option maxHeartbeats 8000000
set_option maxRecDepth 100000
namespace Go.Proofs.YtmncnhbjifeoeaaGreat
namespace HdG
open Go Go.ChangeShapes Go.WideShapes Go.ChangeAt Go.RowKit Base Ints Own Clone RelG PlP Gm Bd1 Bd2 Bd5 Bd6 Bd7 Bd8 Bd11 RegInv RegF RegG Draw DrawD DwP DwQ DwA DwB HdP HdA HdB HdC HdD HdE HdF
structure H2F (w:World) (g6:Nat) (v:Vr) (u1 u2:Value) (b:Bd) (r:Int × Int) (p2 p3 p4:Prop) (W:World):Prop where
 bel:Below w.heap.size w W
 r6:RowB W g6 25 (vL v)
 r7:RowB W (g6+1) 28 [u1,u2]
 r8:RowB W (g6+2) 30 [.int .i64 r.1,.int .i64 r.2]
 o1:OwnS W (w.heap.size+3) W.heap.size 2 1 enI u1 b.1
 o2:OwnS W (w.heap.size+3) W.heap.size 2 1 enI u2 b.2
 x2:∃ a b' c d,RowB W w.heap.size 25 [a,b',c,d]∧(p2->[a,b',c,d]=[.int .i64 v.p,.int .i64 v.c,.int .i64 v.h,.int .i64 v.s])
 x3:∃ a c,RowB W (w.heap.size+1) 28 [a,c]∧(p3->[a,c]=[u1,u2])
 x4:∃ a c,RowB W (w.heap.size+2) 30 [a,c]∧(p4->[a,c]=[.int .i64 r.1,.int .i64 r.2])
 lo:w.heap.size+3<=g6
section
variable {w W W':World} {g6:Nat} {v:Vr} {u1 u2:Value} {b:Bd} {r:Int × Int} {p2 p3 p4:Prop} {L:Nat->Prop}
theorem H2F.imp (F:H2F w g6 v u1 u2 b r p2 p3 p4 W) {q2 q3 q4:Prop} (h2:q2->p2) (h3:q3->p3) (h4:q4->p4):H2F w g6 v u1 u2 b r q2 q3 q4 W:=by
 obtain⟨p,m,l,i,d,g⟩:=F.x2;obtain⟨o,k,c,f⟩:=F.x3;obtain⟨n,j,a,e⟩:=F.x4;exact⟨F.bel,F.r6,F.r7,F.r8,F.o1,F.o2,⟨_,_,_,_,d,λ h=>g (h2 h)⟩,⟨_,_,c,λ h=>f (h3 h)⟩,⟨_,_,a,λ h=>e (h4 h)⟩,F.lo⟩
theorem H2F.below (F:H2F w g6 v u1 u2 b r p2 p3 p4 W) (hb:Below W.heap.size W W'):H2F w g6 v u1 u2 b r p2 p3 p4 W':=by
 obtain⟨o,l,k,h,d,g⟩:=F.x2;obtain⟨n,j,c,f⟩:=F.x3;obtain⟨m,i,a,e⟩:=F.x4;exact⟨F.bel.trans (hb.mono F.bel.size),F.r6.below hb F.r6.lt,F.r7.below hb F.r7.lt,F.r8.below hb F.r8.lt,(F.o1.below hb (Nat.le_refl _)).more hb.size,(F.o2.below hb (Nat.le_refl _)).more hb.size,⟨_,_,_,_,d.below hb d.lt,g⟩,⟨_,_,c.below hb c.lt,f⟩,⟨_,_,a.below hb a.lt,e⟩,F.lo⟩
theorem H2F.put (F:H2F w g6 v u1 u2 b r p2 p3 p4 W) {q:Nat} (hq:w.heap.size<=q∧q<=w.heap.size+2) (hg:W.grownBy W' (some q))
  (x2:∃ a b' c d,RowB W' w.heap.size 25 [a,b',c,d]∧(p2->[a,b',c,d]=[.int .i64 v.p,.int .i64 v.c,.int .i64 v.h,.int .i64 v.s]))
  (x3:∃ a c,RowB W' (w.heap.size+1) 28 [a,c]∧(p3->[a,c]=[u1,u2]))
  (x4:∃ a c,RowB W' (w.heap.size+2) 30 [a,c]∧(p4->[a,c]=[.int .i64 r.1,.int .i64 r.2])):H2F w g6 v u1 u2 b r p2 p3 p4 W':=by
 have l:=F.lo;have f:∀ k,some q=some k->k=q:=λ k h=>by simpa using h.symm
 have g:=F.bel.size;exact⟨F.bel.grown hg g (λ k e=>by have:=f k e;omega),F.r6.grown hg (λ k e=>by have:=f k e;omega),F.r7.grown hg (λ k e=>by have:=f k e;omega),F.r8.grown hg (λ k e=>by have:=f k e;omega),(F.o1.grown hg (λ k e=>by have:=f k e;omega)).more hg.size,(F.o2.grown hg (λ k e=>by have:=f k e;omega)).more hg.size,x2,x3,x4,l⟩
theorem H2F.s2 (F:H2F w g6 v u1 u2 b r p2 p3 p4 W) (hg:W.grownBy W' (some w.heap.size)) (hr:RowB W' w.heap.size 25 (vL v)):H2F w g6 v u1 u2 b r True p3 p4 W':=by
 have c:∀ k,some w.heap.size=some k->k=w.heap.size:=λ k h=>by simpa using h.symm
 obtain⟨x,q,p,m,j,l⟩:=F.x2;obtain⟨t,o,e,g⟩:=F.x3;obtain⟨s,n,d,f⟩:=F.x4;have i:=F.put (by omega) hg ⟨_,_,_,_,hr,λ _=>rfl⟩ ⟨_,_,e.grown hg (λ k a=>by have:=c k a;omega),g⟩ ⟨_,_,d.grown hg (λ k a=>by have:=c k a;omega),f⟩;exact { i with x2:=⟨_,_,_,_,hr,λ _=>rfl⟩ }
theorem H2F.s3 (F:H2F w g6 v u1 u2 b r p2 p3 p4 W) (hg:W.grownBy W' (some (w.heap.size+1))) (hr:RowB W' (w.heap.size+1) 28 [u1,u2]):H2F w g6 v u1 u2 b r p2 True p4 W':=by
 have c:∀ k,some (w.heap.size+1)=some k->k=w.heap.size+1:=λ k h=>by simpa using h.symm
 obtain⟨x,q,p,m,e,g⟩:=F.x2;obtain⟨t,o,j,l⟩:=F.x3;obtain⟨s,n,d,f⟩:=F.x4;have i:=F.put (by omega) hg ⟨_,_,_,_,e.grown hg (λ k a=>by have:=c k a;omega),g⟩ ⟨_,_,hr,λ _=>rfl⟩ ⟨_,_,d.grown hg (λ k a=>by have:=c k a;omega),f⟩;exact { i with x3:=⟨_,_,hr,λ _=>rfl⟩ }
theorem H2F.s4 (F:H2F w g6 v u1 u2 b r p2 p3 p4 W) (hg:W.grownBy W' (some (w.heap.size+2))) (hr:RowB W' (w.heap.size+2) 30 [.int .i64 r.1,.int .i64 r.2]):H2F w g6 v u1 u2 b r p2 p3 True W':=by
 have c:∀ k,some (w.heap.size+2)=some k->k=w.heap.size+2:=λ k h=>by simpa using h.symm
 obtain⟨x,q,p,m,e,g⟩:=F.x2;obtain⟨t,o,d,f⟩:=F.x3;obtain⟨s,n,j,l⟩:=F.x4;have i:=F.put (by omega) hg ⟨_,_,_,_,e.grown hg (λ k a=>by have:=c k a;omega),g⟩ ⟨_,_,d.grown hg (λ k a=>by have:=c k a;omega),f⟩ ⟨_,_,hr,λ _=>rfl⟩;exact { i with x4:=⟨_,_,hr,λ _=>rfl⟩ }
theorem H2F.skip (F:H2F w g6 v u1 u2 b r (L 4) (L 5) (L 6) W) (k:Nat) (h:4≠k∧5≠k∧6≠k:=by decide):H2F w g6 v u1 u2 b r (4=k∨L 4) (5=k∨L 5) (6=k∨L 6) W :=
 F.imp (·.resolve_left h.1) (·.resolve_left h.2.1) (·.resolve_left h.2.2)
end
def HEnd (xs:List Int) (w:World) (e:Ending) (w':World):Prop :=
 ∃(v:Vr) (b:Bd) (r:Int × Int) (d:Int) (A1:Option Addr) (c1:Nat) (A2:Option Addr) (c2:Nat),e=.returned (.tuple #[.agg #[.int .i64 v.p,.int .i64 v.c,.int .i64 v.h,.int .i64 v.s],.agg #[.slice A1 b.1.length c1,.slice A2 b.2.length c2],.agg #[.int .i64 r.1,.int .i64 r.2],.int .i64 d])∧hd29 xs=(v,b,r,d)∧(OwnS w' w.heap.size w'.heap.size 2 1 enI (.slice A1 b.1.length c1) b.1∧OwnS w' w.heap.size w'.heap.size 2 1 enI (.slice A2 b.2.length c2) b.2)∧Below w.heap.size w w'
theorem l29_x {w:World} {cp:Nat} {A:Option Addr} {xs:List Int} (hr:RdS w w.heap.size 1 enB A xs) (hw:∀ x ∈ xs,(Lit.int .u8 x).wf=true) :
  Calls Tryz.prog 29 #[.slice A xs.length cp] w λ e w'=>HEnd xs w e w':=by
 have am:=kD hr;have HW:=kD hw;go_enter Tryz.func29,Tryz.ntmps29;go_upto_region 1 with fail;refine wp_gen (λ I=>(RowB I w.heap.size 25 [.int .i64 0,.int .i64 0,.int .i64 0,.int .i64 0]∧RowB I (w.heap.size+1) 28 [.slice none 0 0,.slice none 0 0]∧RowB I (w.heap.size+2) 30 [.int .i64 0,.int .i64 0])∧Below w.heap.size w I∧w.heap.size+3<=I.heap.size) ⟨⟨((RowB.new _ _ _).alloc _).alloc _,(RowB.new' _ _ _ (by simp)).alloc _,RowB.new' _ _ _ (by simp)⟩,by go_grown,by simp⟩ ?_;rintro w1 ⟨⟨R2,R3,R4⟩,m,ag⟩;have h1:=((hr.below m (Nat.le_refl _)).more m.size);clear hr hw;go_wp2_with fail;refine(dl29_x h1 HW.out).mono ?_;rintro e o ⟨v,b,⟨B,z⟩,d,u1,u2,a1,a2,rfl,hh,⟨W,V⟩,⟨⟨Y1,k1,e1,rfl⟩,⟨Y2,J,M,rfl⟩⟩,k⟩;obtain⟨Q,O,rfl,-⟩:=W.form enI_len;obtain⟨P,N,rfl,-⟩:=V.form enI_len;obtain⟨S,D⟩:∃ n,b.1.length=n:=⟨_,rfl⟩;obtain⟨R,C⟩:∃ n,b.2.length=n:=⟨_,rfl⟩;rw [D] at W ⊢;rw [C] at V ⊢;have af:=kD D;have ae:=kD C;have HH:=kD hh;have aa:=k.size;have T:=kD (show RowB o w.heap.size 25 [.int .i64 0,.int .i64 0,.int .i64 0,.int .i64 0]∧RowB o (w.heap.size+1) 28 [.slice none 0 0,.slice none 0 0]∧RowB o (w.heap.size+2) 30 [.int .i64 0,.int .i64 0]∧Below w.heap.size w o from⟨R2.below k R2.lt,R3.below k R3.lt,R4.below k R4.lt,m.trans (k.mono m.size)⟩);clear D C hh R2 R3 R4 m k h1;go_upto_region 2 with fail;refine wp_gen (λ I=>H2F w o.heap.size v (.slice Q S O) (.slice P R N) b (B,z) False False False I) ?_ ?_
 ·have t:Below o.heap.size o ((((o.alloc (.cells #[.int .i64 v.p,.int .i64 v.c,.int .i64 v.h,.int .i64 v.s] 25)).alloc (.cells #[.slice Q S O,.slice P R N] 28)).alloc (.cells #[.int .i64 B,.int .i64 z] 30)).alloc (.cells #[.slice Y1 k1 e1,.slice Y2 J M] 28)):=by go_grown
  have r:=T.out;exact⟨r.2.2.2.trans (t.mono r.2.2.2.size),(((RowB.new _ _ _).alloc _).alloc _).alloc _,((RowB.new' _ _ _ (by simp)).alloc _).alloc _,(RowB.new' _ _ _ (by simp)).alloc _,((W.less (by omega)).below t (Nat.le_refl _)).more t.size,((V.less (by omega)).below t (Nat.le_refl _)).more t.size,⟨_,_,_,_,r.1.below t r.1.lt,λ h=>h.elim⟩,⟨_,_,r.2.1.below t r.2.1.lt,λ h=>h.elim⟩,⟨_,_,r.2.2.1.below t r.2.2.1.lt,λ h=>h.elim⟩,by omega⟩
 obtain⟨Z,H⟩:∃ q,o.heap.size=q:=⟨_,rfl⟩
 try simp only [H]
 rw [H] at aa;clear T H W V;intro wE F0;have T:=kD F0;clear F0;refine region_rel [some 19,some 20,some 21,some 22,none,none,none,some 5] 8 (Pl [some (.agg #[.int .i64 v.p,.int .i64 v.c,.int .i64 v.h,.int .i64 v.s]),some (.agg #[.slice Q S O,.slice P R N]),some (.agg #[.int .i64 B,.int .i64 z]),some (.int .i64 d),none,none,none,some (.int .i64 d)]) (λ L a w'=>H2F w Z v (.slice Q S O) (.slice P R N) b (B,z) (L 4) (L 5) (L 6) w') (by kernel_rfl) (by kernel_rfl) (by kernel_rfl) (by kernel_rfl) (by kernel_rfl) (by kernel_rfl) (by first | kernel_rfl | rfl) ?g0_1 ?gst_1 ?gfin_1
 case g0_1=>exact((T.out.below (Below.refl _ _).drew).imp (λ h=>absurd h (by decide)) (λ h=>absurd h (by decide)) (λ h=>absurd h (by decide)))
 case gst_1 =>
  refine rN rfl (λ L a A y f g i U F K j=>?_) ?_
  ·have e6:=U.w 6 (.pointer (some ⟨Z,0,none⟩));obtain⟨q0,q1,q2,q3⟩:=F.r6.c4;have y0:=F.r7.c2.1;have y1:=F.r7.c2.2;have t0:=F.r8.c2.1;have t1:=F.r8.c2.2;have G:=F.r6.lt;have E:=F.r7.lt;have l:=F.r8.lt
   skip
   go_simp;exact pF j (F.skip 0 (by decide))
  refine rN rfl (λ L a A y f g i U F K j=>?_) ?_
  ·have e7:=U.w 7 (.pointer (some ⟨Z+1,0,none⟩));obtain⟨q0,q1,q2,q3⟩:=F.r6.c4;have y0:=F.r7.c2.1;have y1:=F.r7.c2.2;have t0:=F.r8.c2.1;have t1:=F.r8.c2.2;have G:=F.r6.lt;have E:=F.r7.lt;have l:=F.r8.lt
   skip
   go_simp;exact pF j (F.skip 1 (by decide))
  refine rN rfl (λ L a A y f g i U F K j=>?_) ?_
  ·have e8:=U.w 8 (.pointer (some ⟨Z+1+1,0,none⟩));obtain⟨q0,q1,q2,q3⟩:=F.r6.c4;have y0:=F.r7.c2.1;have y1:=F.r7.c2.2;have t0:=F.r8.c2.1;have t1:=F.r8.c2.2;have G:=F.r6.lt;have E:=F.r7.lt;have l:=F.r8.lt
   skip
   go_simp;exact pF j (F.skip 2 (by decide))
  refine rN rfl (λ L a A y f g i U F K j=>?_) ?_
  ·have al:=U.w 10 (.int .i64 d);go_simp;exact pF j (F.skip 3 (by decide))
  refine rN rfl (λ L a A y f g i U F K j=>?_) ?_
  ·have M:=U.w 2 (.pointer (some ⟨w.heap.size,0,none⟩));have ad:=U.v 0 19;obtain⟨_,_,_,_,h,-⟩:=F.x2;refine wp_sm 25 _ _ rfl (w.heap.size) 0 [.int .i64 v.p,.int .i64 v.c,.int .i64 v.h,.int .i64 v.s] _ (ev M) (ev ad) 25 h (by kernel_rfl) (Nat.le_refl _) rfl ?_;exact j.out undef _ (Pl.any rfl) ((F.s2 (grown_cells _ _ _ _) (row_cells _ _ _ _ h)).imp (λ _=>trivial) (·.resolve_left (by decide)) (·.resolve_left (by decide)))
  refine rN rfl (λ L a A y f g i U F K j=>?_) ?_
  ·have e3:=U.w 3 (.pointer (some ⟨w.heap.size+1,0,none⟩));have ac:=U.v 1 20;obtain⟨_,_,h,-⟩:=F.x3;refine wp_sm 28 _ _ rfl (w.heap.size+1) 0 [.slice Q S O,.slice P R N] _ (ev e3) (ev ac) 28 h (by kernel_rfl) (Nat.le_refl _) rfl ?_;exact j.out undef _ (Pl.any rfl) ((F.s3 (grown_cells _ _ _ _) (row_cells _ _ _ _ h)).imp (·.resolve_left (by decide)) (λ _=>trivial) (·.resolve_left (by decide)))
  refine rN rfl (λ L a A y f g i U F K j=>?_) ?_
  ·have e4:=U.w 4 (.pointer (some ⟨w.heap.size+1+1,0,none⟩));have ab:=U.v 2 21;obtain⟨_,_,h,-⟩:=F.x4;refine wp_sm 30 _ _ rfl (w.heap.size+2) 0 [.int .i64 B,.int .i64 z] _ (ev e4) (ev ab) 30 h (by kernel_rfl) (Nat.le_refl _) rfl ?_;exact j.out undef _ (Pl.any rfl) ((F.s4 (grown_cells _ _ _ _) (row_cells _ _ _ _ h)).imp (·.resolve_left (by decide)) (·.resolve_left (by decide)) (λ _=>trivial))
  refine rN rfl (λ L a A y f g i U F K j=>?_) ?_
  ·have ak:=U.v 3 22;obtain⟨q0,q1,q2,q3⟩:=F.r6.c4;have y0:=F.r7.c2.1;have y1:=F.r7.c2.2;have t0:=F.r8.c2.1;have t1:=F.r8.c2.2;have G:=F.r6.lt;have E:=F.r7.lt;have l:=F.r8.lt
   skip
   go_simp;exact pF j (F.skip 7 (by decide))
  exact RelFrom.nil (by decide)
 intro a wf hp F;simp only [Fr,Act.put,sX,Nat.reduceAdd];have h7:a 7=.int .i64 d:=hp 7 (by decide) _ rfl;rw [h7];obtain⟨_,_,_,_,J,M⟩:=F.x2;obtain⟨_,_,Y,e3⟩:=F.x3;obtain⟨_,_,X,e4⟩:=F.x4;rw [M trivial] at J;rw [e3 trivial] at Y;rw [e4 trivial] at X;have HO:=kD (show _∧_∧_ from⟨F.bel,F.o1,F.o2⟩);obtain⟨z0,z1,z2,z3⟩:=J.c4;obtain⟨z4,z5⟩:=Y.c2;obtain⟨z6,z7⟩:=X.c2;have aj:=J.lt;have ai:=Y.lt;have ah:=X.lt;clear F hp J Y X M e3 e4 T;obtain rfl:=af.out;obtain rfl:=ae.out
 repeat (first | go_values | go_skip | go_step | go_upon)
 refine bodyPost_ret (v:=.tuple #[.agg #[.int .i64 v.p,.int .i64 v.c,.int .i64 v.h,.int .i64 v.s],.agg #[.slice Q b.1.length O,.slice P b.2.length N],.agg #[.int .i64 B,.int .i64 z],.int .i64 d]) (by simp [results,Tryz.results29,go_sem,z0,z1,z2,z3,z4,z5,z6,z7]) rfl ?_;exact⟨v,b,(B,z),d,_,_,_,_,rfl,HH.out,⟨HO.out.2.1.less (by omega),HO.out.2.2.less (by omega)⟩,HO.out.1⟩
theorem hint29_x {w:World} {cp:Nat} {A:Option Addr} {xs:List Int} (hr:RdS w w.heap.size 1 enB A xs) (hw:∀ x ∈ xs,(Lit.int .u8 x).wf=true) :
  Calls Tryz.prog 7 #[.slice A xs.length cp] w λ e w'=>HEnd xs w e w':=by
 have af:=kD hr;have HW:=kD hw;go_enter Tryz.func7,Tryz.ntmps7;go_upto_region 1 with fail;refine wp_gen (λ F=>(RowB F w.heap.size 25 [.int .i64 0,.int .i64 0,.int .i64 0,.int .i64 0]∧RowB F (w.heap.size+1) 28 [.slice none 0 0,.slice none 0 0]∧RowB F (w.heap.size+2) 30 [.int .i64 0,.int .i64 0])∧Below w.heap.size w F∧w.heap.size+3<=F.heap.size) ⟨⟨((RowB.new _ _ _).alloc _).alloc _,(RowB.new' _ _ _ (by simp)).alloc _,RowB.new' _ _ _ (by simp)⟩,by go_grown,by simp⟩ ?_;rintro w1 ⟨⟨L,K,J⟩,o,ab⟩;have W:=((hr.below o (Nat.le_refl _)).more o.size);clear hr hw;go_wp2_with fail;refine(l29_x W HW.out).mono ?_;rintro e w2 ⟨v,b,⟨I,H⟩,d,X1,Y,Z,X,rfl,V,⟨z,y⟩,m⟩;obtain⟨n1,C⟩:∃ n,b.1.length=n:=⟨_,rfl⟩;obtain⟨n2,B⟩:∃ n,b.2.length=n:=⟨_,rfl⟩;rw [C] at z ⊢;rw [B] at y ⊢;have P:=kD C;have O:=kD B;have HH:=kD V;have aa:=m.size;have D:=kD (o.trans (m.mono o.size));have T:=L.below m L.lt;have r:=K.below m K.lt;have l:=J.below m J.lt;clear C B V L K J o m W;go_wp2_with (refine wM 25 0 [.int .i64 v.p,.int .i64 v.c,.int .i64 v.h,.int .i64 v.s] T ?_;intro S t j z3;refine Hid.out ?_);have a:∀(q k:Nat),some q=some k->k=q:=λ q k h=>by simpa using h.symm
 have z:=(z.grown j (λ k f=>by have:=a _ _ f;omega)).more (hi':=S.heap.size) j.size;have y:=(y.grown j (λ k f=>by have:=a _ _ f;omega)).more (hi':=S.heap.size) j.size;have D:=kD (D.out.grown j (by omega) (λ k f=>by have:=a _ _ f;omega));have r:=r.grown j (λ k f=>by have:=a _ _ f;omega);have l:=l.grown j (λ k f=>by have:=a _ _ f;omega);clear T j;refine kD ?_;go_wp2_with (refine wM 28 0 [.slice X1 n1 Y,.slice Z n2 X] r ?_;intro R E i z4;refine Hid.out ?_);have z:=(z.grown i (λ k f=>by have:=a _ _ f;omega)).more (hi':=R.heap.size) i.size;have y:=(y.grown i (λ k f=>by have:=a _ _ f;omega)).more (hi':=R.heap.size) i.size;have D:=kD (D.out.grown i (by omega) (λ k f=>by have:=a _ _ f;omega));have t:=t.grown i (λ k f=>by have:=a _ _ f;omega);have l:=l.grown i (λ k f=>by have:=a _ _ f;omega);clear r i;refine kD ?_;go_wp2_with (refine wM 30 0 [.int .i64 I,.int .i64 H] l ?_;intro Q G g z5;refine Hid.out ?_);have N:=kD ((z.grown g (λ k f=>by have:=a _ _ f;omega)).more (hi':=Q.heap.size) g.size);have M:=kD ((y.grown g (λ k f=>by have:=a _ _ f;omega)).more (hi':=Q.heap.size) g.size);have D:=kD (D.out.grown g (by omega) (λ k f=>by have:=a _ _ f;omega));have t:=t.grown g (λ k f=>by have:=a _ _ f;omega);have E:=E.grown g (λ k f=>by have:=a _ _ f;omega);obtain⟨y0,y1,y2,y3⟩:=t.c4;obtain⟨y4,y5⟩:=E.c2;obtain⟨y6,y7⟩:=G.c2;have ae:=t.lt;have ad:=E.lt;have ac:=G.lt;clear l g t E G z y z3 z4 z5 a;refine kD ?_;obtain rfl:=P.out;obtain rfl:=O.out
 repeat (first | go_values | go_skip | go_step | go_upon)
 refine bodyPost_ret (v:=.tuple #[.agg #[.int .i64 v.p,.int .i64 v.c,.int .i64 v.h,.int .i64 v.s],.agg #[.slice X1 b.1.length Y,.slice Z b.2.length X],.agg #[.int .i64 I,.int .i64 H],.int .i64 d]) (by simp [results,Tryz.results7,go_sem,y0,y1,y2,y3,y4,y5,y6,y7]) rfl ?_;exact⟨v,b,(I,H),d,_,_,_,_,rfl,HH.out,⟨N.out.less (by omega),M.out.less (by omega)⟩,D.out⟩
end HdG
namespace HlA
open Go Go.ChangeShapes Go.WideShapes Go.ChangeAt Go.RowKit Base Ints Own Clone RelG PlP Gm Bd1 Bd2 Bd5 Bd6 Bd7 Bd8 Bd11 RegInv RegF RegG Draw DrawD DwP DwQ DwA DwB
theorem list_eq_at {xs ys:List Int} (hl:xs.length=ys.length) (h:∀ i,i<xs.length->at_ xs i=at_ ys i):xs=ys:=by
 apply List.ext_getElem hl
 intro i a b;have:=h i a;unfold at_ at this;rw [List.getD_eq_getElem?_getD,List.getD_eq_getElem?_getD,List.getElem?_eq_getElem a,List.getElem?_eq_getElem b] at this;exact this
theorem likeD (B1 B2:Nat) (A1 A2:Option Addr) (c1 c2:Nat) (xs ys:List Int) (n m:Nat) (hn:xs.length=n) (hm:ys.length=m) (t:Bool) (ht:decide (xs=ys)=t) (w:World) (h1:RdS w B1 1 enI A1 xs) (h2:RdS w B2 1 enI A2 ys) :
  Calls Tryz.prog 47 #[.slice A1 n c1,.slice A2 m c2] w λ e w'=>e=.returned (.bool t)∧Below w.heap.size w w':=by
 have o:=h1.len;have q:=h2.len;have j:=kD hn;have x:=kD hm;have s:=kD ht;rw [hn] at o;rw [hm] at q;clear hn hm ht;go_enter Tryz.func47,Tryz.ntmps47;by_cases hnm:n=m
 ·subst hnm;have p:((n:Int) != (n:Int))=false:=by simp
  go_wp2_with fail;go_loopw [5] (λ i wr=>∃ k:Nat,k<=n∧i=.int .i64 (k:Int)∧Hid (∃ m,wr=w.drewN m)∧Hid (∀ i,i<k->at_ xs i=at_ ys i)) (λ i _=>n - (intOf i).toNat)
  case atStart=>exact⟨0,Nat.zero_le _,by first | rfl | trivial,kD ⟨0,rfl⟩,kD (λ i g=>absurd g (Nat.not_lt_zero _))⟩
  case round =>
   obtain⟨k,C,rfl,c,z⟩:=hrel;by_cases hlt:k<n
   ·obtain⟨b,l,rfl,D,y⟩:=at_rd h1 (i:=k) (by rw [j.out];exact hlt);obtain⟨B,a,rfl,A,f⟩:=at_rd h2 (i:=k) (by rw [x.out];exact hlt);have F:wr.cell? ⟨b,l+k,none⟩=some (.int .i64 (at_ xs k)):=by obtain⟨m,rfl⟩:=c.out;exact y
    have E:wr.cell? ⟨B,a+k,none⟩=some (.int .i64 (at_ ys k)):=by obtain⟨m,rfl⟩:=c.out;exact f
    clear y f;by_cases he:at_ xs k=at_ ys k
    ·have r:(at_ xs k != at_ ys k)=false:=by simp [he]
     have v:Hid (∀ i,i<k+1->at_ xs i=at_ ys i):=kD (λ i g=>by
      by_cases h:i=k
      ·subst h;exact he
      ·exact z.out i (by omega))
     clear he;go_wp2_with fail;go_quiet (fail);go_wp2_with fail;go_roundw
     case rel=>exact⟨k+1,by omega,by first | rfl | go_num,kD (by obtain⟨m,rfl⟩:=c.out;exact⟨_,World.drewN_drewN _ _ _⟩),v⟩
     case measure=>simp [intOf] <;> omega
    ·have r:(at_ xs k != at_ ys k)=true:=by simp [he]
     have d:t=false:=by rw [<-s.out];exact decide_eq_false (λ h=>he (by rw [h]))
     subst d;clear he;go_wp2_with fail;go_quiet (fail);go_wp2_with fail;go_ret;obtain⟨m,rfl⟩:=c.out;exact⟨rfl,by first | exact below_drewN (Below.refl _ _) _ | exact below_drewN (below_drewN (Below.refl _ _) _) _⟩
   ·obtain rfl:k=n:=by omega
    have d:t=true:=by rw [<-s.out];exact decide_eq_true (list_eq_at (by rw [j.out,x.out]) (λ i g=>z.out i (by rw [<-j.out];exact g)))
    subst d;go_wp2_with fail;go_ret;obtain⟨m,rfl⟩:=c.out;exact⟨rfl,below_drewN (Below.refl _ _) _⟩
 ·have p:((n:Int) != (m:Int))=true:=by simp;omega
  have d:t=false:=by rw [<-s.out];exact decide_eq_false (λ h=>hnm (by rw [<-j.out,<-x.out,h]))
  subst d;go_wp2_with fail;go_ret;exact⟨rfl,by first | exact Below.refl _ _ | go_grown⟩
theorem likeB (A1 A2 D1 D2:Option Addr) (c1 c2 e1 e2:Nat) (b b':Bd) (t:Bool) (ht:decide (b=b')=t) (w:World) (h1:RdS w w.heap.size 1 enI A1 b.1) (h2:RdS w w.heap.size 1 enI A2 b.2) (k1:RdS w w.heap.size 1 enI D1 b'.1) (k2:RdS w w.heap.size 1 enI D2 b'.2) :
  Calls Tryz.prog 13 #[.agg #[.slice A1 b.1.length c1,.slice A2 b.2.length c2],.agg #[.slice D1 b'.1.length e1,.slice D2 b'.2.length e2]] w λ e w'=>e=.returned (.bool t)∧Below w.heap.size w w':=by
 obtain⟨A,z⟩:=b;obtain⟨y,x⟩:=b';simp only at h1 h2 k1 k2 ⊢;obtain⟨H,h⟩:∃ n,A.length=n:=⟨_,rfl⟩;obtain⟨G,g⟩:∃ n,z.length=n:=⟨_,rfl⟩;obtain⟨J,j⟩:∃ n,y.length=n:=⟨_,rfl⟩;obtain⟨I,i⟩:∃ n,x.length=n:=⟨_,rfl⟩;obtain⟨v,f⟩:∃ t,decide (A=y)=t:=⟨_,rfl⟩;obtain⟨s,d⟩:∃ t,decide (z=x)=t:=⟨_,rfl⟩;have O:=kD (λ(o:World) (r:Below w.heap.size w o)=>likeD _ _ A1 D1 c1 e1 A y H J h j v f o (h1.below r (Nat.le_refl _)) (k1.below r (Nat.le_refl _)));have N:=kD (λ(o:World) (r:Below w.heap.size w o)=>likeD _ _ A2 D2 c2 e2 z x G I g i s d o (h2.below r (Nat.le_refl _)) (k2.below r (Nat.le_refl _)));have K:Hid ((v && s)=t):=kD (by rw [<-ht,<-f,<-d];simp [Prod.mk.injEq]);rw [h,g,j,i];clear h g j i f d ht h1 h2 k1 k2;go_enter Tryz.func13,Tryz.ntmps13;go_upto_region 1 with fail;refine wp_gen (λ B=>Below w.heap.size w B∧RowB B w.heap.size 28 [.slice A1 H c1,.slice A2 G c2]∧RowB B (w.heap.size+1) 28 [.slice D1 J e1,.slice D2 I e2]) ⟨by go_grown,(RowB.new _ _ _).alloc _,RowB.new' _ _ _ (by simp)⟩ ?_;rintro M ⟨c,l,k⟩;obtain⟨F,E⟩:=l.c2;obtain⟨D,C⟩:=k.c2;have q:=l.lt;have p:=k.lt;go_wp2_with fail;refine(O.out M c).mono ?_;rintro e L ⟨rfl,m⟩;have a:=c.trans (m.mono c.size);have l:=l.below m l.lt;have k:=k.below m k.lt;clear F E D C q p m c
 cases v with
 | false =>
  obtain rfl:false=t:=by have:=K.out;simpa using this
  go_wp2_with fail;go_ret;exact⟨rfl,a⟩
 | true =>
  obtain⟨F,E⟩:=l.c2;obtain⟨D,C⟩:=k.c2;have q:=l.lt;have p:=k.lt;go_wp2_with fail;refine(N.out L a).mono ?_;rintro e P ⟨rfl,m⟩;obtain rfl:s=t:=by have:=K.out;simpa using this
  go_wp2_with fail;go_ret;exact⟨rfl,a.trans (m.mono a.size)⟩
end HlA
namespace Bd12
open Go.ChangeShapes Go.WideShapes Go.ChangeAt Go.RowKit Base Ints Own PlP Bd1
theorem pipU_bd {l:List Int} (h:∀ i,0<=at_ l i∧at_ l i<=1000):∀ k,k<=1000->0<=pipU l k∧pipU l k<=1000000*(k:Int):=by
 intro k
 induction k with
 | zero=>intro _;simp [pipU]
 | succ k ih =>
  intro b;have e:=ih (by omega);have a:=h k;have d:0<=((k:Int)+1)*at_ l k:=Int.mul_nonneg (by omega) a.1;have c:((k:Int)+1)*at_ l k<=1000*1000:=Int.mul_le_mul (by omega) a.2 a.1 (by omega);simp only [pipU];omega
theorem pips_i (A:Option Addr) (cp B:Nat) (xs:List Int) (w:World) (hr:RdS w B 1 enI A xs) (hx:∀ i,0<=at_ xs i∧at_ xs i<=1000) (hl:xs.length<=1000) :
  Calls Tryz.prog 152 #[.slice A xs.length cp] w λ e w'=>e=.returned (.int .i64 (pipP xs))∧w=w':=by
 obtain⟨n,b⟩:∃ n,xs.length=n:=⟨_,rfl⟩;obtain⟨z,d⟩:∃ z,pipP xs=z:=⟨_,rfl⟩;have C:=kD b;have l:=kD hx;have x:Hid (pipU xs n=z):=kD (by rw [<-b,<-d];rfl);rw [b] at hl;rw [b,d];clear b d hx;go_enter Tryz.func152,Tryz.ntmps152;go_wp2_with fail;go_loopw [3,8] (λ s i wr=>∃(k:Nat) (t:Int),k<=n∧s=.int .i64 t∧i=.int .i64 (k:Int)∧Hid (w=wr)∧Hid (t=pipU xs k)) (λ _ i _=>n - (intOf i).toNat)
 case atStart=>exact⟨0,0,Nat.zero_le _,by first | rfl | trivial,by first | rfl | trivial,kD (by first | rfl | trivial),kD rfl⟩
 case round =>
  obtain⟨k,t,D,rfl,rfl,f,g⟩:=hrel;by_cases hlt:k<n
  ·obtain⟨H,o,rfl,r,q⟩:=at_rd hr (i:=k) (by rw [C.out];exact hlt);rw [f.out] at q;have p:(k:Int)<(n:Int):=by omega
   have c:=l.out k;have j:=pipU_bd l.out k (by omega);have h:=pipU_bd l.out (k+1) (by omega);have m:pipU xs (k+1)=t+((k:Int)+1)*at_ xs k:=by rw [g.out];rfl
   have v:=g.out;have a:0<=((k:Int)+1)*at_ xs k:=Int.mul_nonneg (by omega) c.1;have G:IntKind.i64.wrap ((k:Int)+1)=(k:Int)+1:=IntWalk.i64_in _ (by omega);have F:IntKind.i64.wrap (((k:Int)+1)*at_ xs k)=((k:Int)+1)*at_ xs k:=IntWalk.i64_in _ (by omega);have E:IntKind.i64.wrap (t+((k:Int)+1)*at_ xs k)=t+((k:Int)+1)*at_ xs k:=IntWalk.i64_in _ (by omega);have y:=kD m.symm;clear m v j h c a;go_wp2_with fail;go_roundw
   case rel=>exact⟨k+1,_,by omega,rfl,by go_num,f,y⟩
   case measure=>simp [intOf];omega
  ·obtain rfl:n=k:=by omega
   obtain rfl:t=z:=by rw [g.out,x.out]
   go_wp2_with fail;go_ret;exact⟨rfl,f.out⟩
theorem pips_s (A:Option Addr) (cp B:Nat) (xs:List Int) (w:World) (hr:RdS w B 1 enI A xs) (hx:∀ i,0<=at_ xs i∧at_ xs i<=1000) (hl:xs.length<=1000) :
  Calls Tryz.prog 154 #[.slice A xs.length cp] w λ e w'=>e=.returned (.int .i64 (pipP xs))∧w=w':=by
 obtain⟨n,b⟩:∃ n,xs.length=n:=⟨_,rfl⟩;obtain⟨z,d⟩:∃ z,pipP xs=z:=⟨_,rfl⟩;have C:=kD b;have l:=kD hx;have x:Hid (pipU xs n=z):=kD (by rw [<-b,<-d];rfl);rw [b] at hl;rw [b,d];clear b d hx;go_enter Tryz.func154,Tryz.ntmps154;go_wp2_with fail;go_loopw [3,4] (λ s i wr=>∃(k:Nat) (t:Int),k<=n∧s=.int .i64 t∧i=.int .i64 (k:Int)∧Hid (w=wr)∧Hid (t=pipU xs k)) (λ _ i _=>n - (intOf i).toNat)
 case atStart=>exact⟨0,0,Nat.zero_le _,by first | rfl | trivial,by first | rfl | trivial,kD (by first | rfl | trivial),kD rfl⟩
 case round =>
  obtain⟨k,t,D,rfl,rfl,f,g⟩:=hrel;by_cases hlt:k<n
  ·obtain⟨H,o,rfl,r,q⟩:=at_rd hr (i:=k) (by rw [C.out];exact hlt);rw [f.out] at q;have p:(k:Int)<(n:Int):=by omega
   have c:=l.out k;have j:=pipU_bd l.out k (by omega);have h:=pipU_bd l.out (k+1) (by omega);have m:pipU xs (k+1)=t+((k:Int)+1)*at_ xs k:=by rw [g.out];rfl
   have v:=g.out;have a:0<=((k:Int)+1)*at_ xs k:=Int.mul_nonneg (by omega) c.1;have G:IntKind.i64.wrap ((k:Int)+1)=(k:Int)+1:=IntWalk.i64_in _ (by omega);have F:IntKind.i64.wrap (((k:Int)+1)*at_ xs k)=((k:Int)+1)*at_ xs k:=IntWalk.i64_in _ (by omega);have E:IntKind.i64.wrap (t+((k:Int)+1)*at_ xs k)=t+((k:Int)+1)*at_ xs k:=IntWalk.i64_in _ (by omega);have y:=kD m.symm;clear m v j h c a;go_wp2_with fail;go_roundw
   case rel=>exact⟨k+1,_,by omega,rfl,by go_num,f,y⟩
   case measure=>simp [intOf];omega
  ·obtain rfl:n=k:=by omega
   obtain rfl:t=z:=by rw [g.out,x.out]
   go_wp2_with fail;go_ret;exact⟨rfl,f.out⟩
theorem first_i (A:Option Addr) (cp B:Nat) (xs:List Int) (w:World) (hr:RdS w B 1 enI A xs) (hl:0<xs.length) :
  Calls Tryz.prog 35 #[.slice A xs.length cp] w λ e w'=>e=.returned (.int .i64 (fgP xs:Nat))∧w=w':=by
 have h:=hr.len;obtain⟨n,d⟩:∃ n,xs.length=n:=⟨_,rfl⟩;obtain⟨z,g⟩:∃ z,fgP xs=z:=⟨_,rfl⟩;have r:=kD d;have E:Hid (fgU xs (n - 1)=z):=kD (by rw [<-d,<-g];rfl);rw [d] at hl h;rw [d,g];clear d g;go_enter Tryz.func35,Tryz.ntmps35;go_wp2_with fail;go_loopw [3,8] (λ s i wr=>∃(k t:Nat),k<=n∧t<n∧s=.int .i64 (t:Int)∧i=.int .i64 (k:Int)∧Hid (w=wr)∧Hid (t=fgU xs (k - 1))) (λ _ i _=>n - (intOf i).toNat)
 case atStart=>exact⟨0,0,Nat.zero_le _,hl,by first | rfl | trivial,by first | rfl | trivial,kD (by first | rfl | trivial),kD rfl⟩
 case round =>
  obtain⟨k,t,F,b,rfl,rfl,f,c⟩:=hrel;by_cases hlt:k<n
  ·obtain⟨H,v,rfl,C,y⟩:=at_rd hr (i:=k) (by rw [r.out];exact hlt);obtain⟨D,o,q,-,l⟩:=at_rd hr (i:=t) (by rw [r.out];exact b);simp only [Option.some.injEq,Addr.mk.injEq,and_true] at q;obtain⟨rfl,rfl⟩:=q;rw [f.out] at y l;have x:(k:Int)<(n:Int):=by omega
   have p:(t:Int)<(n:Int):=by omega
   have G:IntKind.i64.wrap ((k:Int)+1)=(k:Int)+1:=IntWalk.i64_in _ (by omega);by_cases hv:at_ xs t<at_ xs k
   ·have m:Hid (k=fgU xs (k+1 - 1)):=kD (by
     cases k with
     | zero=>have a:=c.out;simp [fgU] at a;subst a;omega
     | succ j=>have a:=c.out;simp only [Nat.add_sub_cancel] at a ⊢;simp only [fgU];rw [<-a,if_pos hv])
    go_wp2_with fail;go_roundw
    case rel=>exact⟨k+1,k,by omega,hlt,by first | rfl | go_num,by go_num,f,m⟩
    case measure=>simp [intOf];omega
   ·have m:Hid (t=fgU xs (k+1 - 1)):=kD (by
     cases k with
     | zero=>have a:=c.out;simp [fgU] at a;subst a;rfl
     | succ j=>have a:=c.out;simp only [Nat.add_sub_cancel] at a ⊢;simp only [fgU];rw [<-a,if_neg hv])
    go_wp2_with fail;go_roundw
    case rel=>exact⟨k+1,t,by omega,b,rfl,by go_num,f,m⟩
    case measure=>simp [intOf];omega
  ·obtain rfl:n=k:=by omega
   obtain rfl:t=z:=by rw [c.out,E.out]
   go_wp2_with fail;go_ret;exact⟨rfl,f.out⟩
theorem great_s (A:Option Addr) (cp B:Nat) (xs:List Int) (w:World) (hr:RdS w B 1 enI A xs) (hl:0<xs.length) :
  Calls Tryz.prog 109 #[.slice A xs.length cp] w λ e w'=>e=.returned (.int .i64 (grt xs))∧w=w':=by
 have d:=hr.len;obtain⟨n,a⟩:∃ n,xs.length=n:=⟨_,rfl⟩;obtain⟨z,b⟩:∃ z,grt xs=z:=⟨_,rfl⟩;have o:=kD a;have D:Hid (grU xs (n - 1)=z):=kD (by rw [<-a,<-b];rfl);rw [a] at hl d;rw [a,b];clear a b;obtain⟨H,p,rfl,y,f⟩:=at_rd hr (i:=0) (by rw [o.out];exact hl);simp only [Nat.add_zero] at f;have q:(0:Int)<(n:Int):=by omega
 go_enter Tryz.func109,Tryz.ntmps109;go_wp2_with fail;go_loopw [3,4] (λ s i wr=>∃(k:Nat) (t:Int),k<=n∧1<=k∧s=.int .i64 t∧i=.int .i64 (k:Int)∧Hid (w=wr)∧Hid (t=grU xs (k - 1))) (λ _ i _=>n - (intOf i).toNat)
 case atStart=>exact⟨1,at_ xs 0,by omega,by omega,by first | rfl | trivial,by first | rfl | trivial,kD (by first | rfl | trivial),kD rfl⟩
 case round =>
  obtain⟨k,t,F,v,rfl,rfl,c,h⟩:=hrel;by_cases hlt:k<n
  ·obtain⟨C,g,l,-,x⟩:=at_rd hr (i:=k) (by rw [o.out];exact hlt);simp only [Option.some.injEq,Addr.mk.injEq,and_true] at l;obtain⟨rfl,rfl⟩:=l;rw [c.out] at x;have r:(k:Int)<(n:Int):=by omega
   have G:IntKind.i64.wrap ((k:Int)+1)=(k:Int)+1:=IntWalk.i64_in _ (by omega);have E:Hid ((if t<at_ xs k then at_ xs k else t)=grU xs (k+1 - 1)):=kD (by
    obtain⟨j,rfl⟩:∃ j,k=j+1:=⟨k - 1,by omega⟩;have m:=h.out;simp only [Nat.add_sub_cancel] at m ⊢;simp only [grU];rw [<-m];split <;> omega)
   go_wp2_with fail;go_roundw
   case rel=>exact⟨k+1,_,by omega,by omega,rfl,by go_num,c,E⟩
   case measure=>simp [intOf];omega
  ·obtain rfl:n=k:=by omega
   obtain rfl:t=z:=by rw [h.out,D.out]
   go_wp2_with fail;go_ret;exact⟨rfl,c.out⟩
theorem floor_i (x y:Int) (hy:0<y∧y<=1000000000) (hx:-1000000000000000<=x∧x<=1000000000000000) (w:World) :
  Calls Tryz.prog 153 #[.int .i64 x,.int .i64 y] w λ e w'=>e=.returned (.int .i64 (x / y))∧w=w':=by
 have a:=floor_eq (x:=x) hy.1;have g:-1000000000000000<=x.tdiv y∧x.tdiv y<=1000000000000000:=by
  have h:=Int.natAbs_tdiv_le_natAbs x y;omega
 have f:(y == 0)=false:=by simp;omega
 have c:¬ y=0:=by omega
 have d:-1000000000000<=x.tmod y∧x.tmod y<=1000000000000:=by
  have j:=Int.tmod_lt_of_pos x hy.1;have i:-y<x.tmod y:=by
   by_cases h0:0<=x
   ·have:=Int.tmod_nonneg y h0;omega
   ·have:=Int.tmod_lt_of_pos (-x) hy.1;rw [Int.neg_tmod] at this;omega
  omega
 have m:IntKind.i64.wrap (x.tdiv y)=x.tdiv y:=IntWalk.i64_in _ (by omega);have l:IntKind.i64.wrap (x.tmod y)=x.tmod y:=IntWalk.i64_in _ (by omega);have k:IntKind.i64.wrap (x.tdiv y - 1)=x.tdiv y - 1:=IntWalk.i64_in _ (by omega);by_cases hr:x.tmod y<0
 ·rw [if_pos hr] at a;have b:=kD a;clear a;go_enter Tryz.func153,Tryz.ntmps153;go_wp2_with fail;go_ret;exact⟨ret1 b.out,rfl⟩
 ·rw [if_neg hr] at a;have b:=kD a;clear a;go_enter Tryz.func153,Tryz.ntmps153;go_wp2_with fail;go_ret;exact⟨ret1 b.out,rfl⟩
theorem floor_s (x y:Int) (hy:0<y∧y<=1000000000) (hx:-1000000000000000<=x∧x<=1000000000000000) (w:World) :
  Calls Tryz.prog 155 #[.int .i64 x,.int .i64 y] w λ e w'=>e=.returned (.int .i64 (x / y))∧w=w':=by
 have a:=floor_eq (x:=x) hy.1;have g:-1000000000000000<=x.tdiv y∧x.tdiv y<=1000000000000000:=by
  have h:=Int.natAbs_tdiv_le_natAbs x y;omega
 have f:(y == 0)=false:=by simp;omega
 have c:¬ y=0:=by omega
 have d:-1000000000000<=x.tmod y∧x.tmod y<=1000000000000:=by
  have j:=Int.tmod_lt_of_pos x hy.1;have i:-y<x.tmod y:=by
   by_cases h0:0<=x
   ·have:=Int.tmod_nonneg y h0;omega
   ·have:=Int.tmod_lt_of_pos (-x) hy.1;rw [Int.neg_tmod] at this;omega
  omega
 have m:IntKind.i64.wrap (x.tdiv y)=x.tdiv y:=IntWalk.i64_in _ (by omega);have l:IntKind.i64.wrap (x.tmod y)=x.tmod y:=IntWalk.i64_in _ (by omega);have k:IntKind.i64.wrap (x.tdiv y - 1)=x.tdiv y - 1:=IntWalk.i64_in _ (by omega);by_cases hr:x.tmod y<0
 ·rw [if_pos hr] at a;have b:=kD a;clear a;go_enter Tryz.func155,Tryz.ntmps155;go_wp2_with fail;go_ret;exact⟨ret1 b.out,rfl⟩
 ·rw [if_neg hr] at a;have b:=kD a;clear a;go_enter Tryz.func155,Tryz.ntmps155;go_wp2_with fail;go_ret;exact⟨ret1 b.out,rfl⟩
end Bd12
namespace Bd14
open Go.ChangeShapes Go.WideShapes Go.ChangeAt Go.RowKit Base Ints Own PlP
theorem weight_s (a b:Int) (w:World):Calls Tryz.prog 128 #[.agg #[.int .i64 a,.int .i64 b]] w λ e w'=>e=.returned (.int .i64 (wtP (a,b)))∧Below w.heap.size w w':=by
 by_cases h:a=b
 ·have c:Hid (wtP (a,b)=1):=kD (by unfold wtP;rw [if_pos h]);have d:(a == b)=true:=by simp [h]
  clear h;go_enter Tryz.func128,Tryz.ntmps128;go_wp2_with fail;go_ret;exact⟨ret1 c.out.symm,by go_grown⟩
 ·have c:Hid (wtP (a,b)=2):=kD (by unfold wtP;rw [if_neg h]);have d:(a == b)=false:=by simp [h]
  clear h;go_enter Tryz.func128,Tryz.ntmps128;go_wp2_with fail;go_ret;exact⟨ret1 c.out.symm,by go_grown⟩
end Bd14
namespace Bd13
open Go.ChangeShapes Go.WideShapes Go.ChangeAt Go.RowKit Base Ints Own PlP Bd1 Bd2 Bd12
theorem est_mid {S D:Int} (hS:0<S):(500000*S+1000000*D) / S=500000+1000000*D / S:=by
 rw [Int.add_comm,Int.mul_comm 500000 S,Int.add_mul_ediv_left _ _ (by omega),Int.add_comm]
theorem est_s (v:Vr) (b:Bd) (hb:Ok v b) (Ao At:Option Addr) (co ct B:Nat) (w:World) (hB:B<=w.heap.size) (ho:RdS w B 1 enI Ao b.1) (ht:RdS w B 1 enI At b.2) :
  Calls Tryz.prog 126 #[.agg #[.int .i64 v.p,.int .i64 v.c,.int .i64 v.h,.int .i64 v.s],.agg #[.slice Ao b.1.length co,.slice At b.2.length ct]] w λ e w'=>e=.returned (.int .i64 (est v b))∧Below w.heap.size w w':=by
 have z:=hb.v1;have y:=kD (λ i=>(⟨hb.own.nn i,by have:=hb.own.top i;omega⟩:0<=at_ b.1 i∧at_ b.1 i<=1000));have x:=kD (λ i=>(⟨hb.oth.nn i,by have:=hb.oth.top i;omega⟩:0<=at_ b.2 i∧at_ b.2 i<=1000));have q:=hb.own.len;have o:=hb.oth.len;obtain⟨d,g⟩:∃ p,pipP b.1=p:=⟨_,rfl⟩;obtain⟨a,f⟩:∃ p,pipP b.2=p:=⟨_,rfl⟩;have b1:0<=d∧d<=25000000:=by have:=pipU_bd y.out b.1.length (by omega);rw [<-g];unfold pipP;omega
 have b2:0<=a∧a<=25000000:=by have:=pipU_bd x.out b.2.length (by omega);rw [<-f];unfold pipP;omega
 obtain⟨E,t⟩:∃ e,est v b=e:=⟨_,rfl⟩;have j:=t;unfold est at j;rw [g,f] at j;have n:=kD j;rw [t];have N:=kD (λ w (h:RdS w B 1 enI Ao b.1)=>sum_s Ao co B b.1 w h y.out (by omega));have M:=kD (λ w (h:RdS w B 1 enI At b.2)=>sum_s At ct B b.2 w h x.out (by omega));have L:=kD g;have K:=kD f;have C:=kD (λ w (h:RdS w B 1 enI Ao b.1)=>pips_s Ao co B b.1 w h y.out (by omega));have A:=kD (λ w (h:RdS w B 1 enI At b.2)=>pips_s At ct B b.2 w h x.out (by omega));rw [g] at C;rw [f] at A;have H:=kD (show b.1.length<=1000 by omega);have G:=kD (show b.2.length<=1000 by omega);have F:1<=v.s∧v.s<=6:=z.2.2.2;clear hb z t j g f q o;go_enter Tryz.func126,Tryz.ntmps126;go_wp2_with fail;refine(N.out _ (ho.below (by go_grown) hB)).mono ?_;rintro e T ⟨rfl,rfl⟩;by_cases m:b.1.sum=0
 ·obtain rfl:E=1000000:=by rw [<-n.out];simp [m]
  have J:(b.1.sum == 0)=true:=by simp [m]
  clear m;go_wp2_with fail;go_ret;exact⟨rfl,by go_grown⟩
 ·have J:(b.1.sum == 0)=false:=by simp [m]
  rw [if_neg m] at n;clear m;go_wp2_with fail;refine(M.out _ (ht.below (by go_grown) hB)).mono ?_;rintro e S ⟨rfl,rfl⟩;by_cases l:b.2.sum=0
  ·obtain rfl:E=0:=by rw [<-n.out];simp [l]
   have I:(b.2.sum == 0)=true:=by simp [l]
   clear l;go_wp2_with fail;go_ret;exact⟨rfl,by go_grown⟩
  ·have I:(b.2.sum == 0)=false:=by simp [l]
   rw [if_neg l] at n;clear l;have g1:IntKind.i64.wrap (d+a)=d+a:=IntWalk.i64_in _ (by omega);have Z:IntKind.i64.wrap (d+a+v.s)=d+a+v.s:=IntWalk.i64_in _ (by omega);have Y:IntKind.i64.wrap (a - d)=a - d:=IntWalk.i64_in _ (by omega);have X:IntKind.i64.wrap (a - d+v.s)=a - d+v.s:=IntWalk.i64_in _ (by omega);have W:IntKind.i64.wrap (1000000*(a - d+v.s))=1000000*(a - d+v.s):=IntWalk.i64_in _ (by omega);have r:500000+1000000*(a - d+v.s) / (d+a+v.s)<=1000000000000000∧-1000000000000000<=500000+1000000*(a - d+v.s) / (d+a+v.s):=by
    have k:0<d+a+v.s:=by omega
    have m:-1000000<=1000000*(a - d+v.s) / (d+a+v.s):=(Int.le_ediv_iff_mul_le k).2 (by omega);have l:1000000*(a - d+v.s) / (d+a+v.s)<=1000000:=Int.ediv_le_of_le_mul k (by omega);omega
   have D:=kD (λ w=>floor_s (1000000*(a - d+v.s)) (d+a+v.s) (by omega) (by omega) w)
   generalize 1000000*(a - d+v.s) / (d+a+v.s)=Q at n D r ⊢
   have V:IntKind.i64.wrap (500000+Q)=500000+Q:=IntWalk.i64_in _ (by omega);go_wp2_with fail;refine(C.out _ (ho.below (by go_grown) hB)).mono ?_;rintro e R ⟨rfl,rfl⟩;go_wp2_with fail;refine(A.out _ (ht.below (by go_grown) hB)).mono ?_;rintro e P ⟨rfl,rfl⟩;go_wp2_with fail;refine(D.out _).mono ?_;rintro e O ⟨rfl,rfl⟩;go_wp2_with fail
   all_goals
    go_ret;refine⟨ret1 ?_,by go_grown⟩;rw [<-n.out];omega
end Bd13
namespace Bd13I
open Go.ChangeShapes Go.WideShapes Go.ChangeAt Go.RowKit Base Ints Own PlP Bd1 Bd2 Bd12
theorem pips_iq (A:Option Addr) (n cp B:Nat) (xs:List Int) (z:Int) (hn:xs.length=n) (hz:pipP xs=z) (w:World) (k:Nat) (hr:RdS w B 1 enI A xs) (hx:∀ i,0<=at_ xs i∧at_ xs i<=1000) (hl:xs.length<=1000):Calls Tryz.prog 152 #[.slice A n cp] (w.drewN k) λ e w''=>e=.returned (.int .i64 z)∧∃ m,w''=w.drewN m:=by
 subst hn hz;exact Calls.quiet_of_same ((pips_i A cp B xs (w.drewN k) hr hx hl).mono λ _ _ h=>⟨h.1,h.2.symm⟩)
theorem est_mid {S D:Int} (hS:0<S):(500000*S+1000000*D) / S=500000+1000000*D / S:=by
 rw [Int.add_comm,Int.mul_comm 500000 S,Int.add_mul_ediv_left _ _ (by omega),Int.add_comm]
theorem est_i (v:Vr) (b:Bd) (hb:Ok v b) (Ao At:Option Addr) (co ct B:Nat) (w:World) (hB:B<=w.heap.size) (ho:RdS w B 1 enI Ao b.1) (ht:RdS w B 1 enI At b.2) :
  Calls Tryz.prog 122 #[.agg #[.int .i64 v.p,.int .i64 v.c,.int .i64 v.h,.int .i64 v.s],.agg #[.slice Ao b.1.length co,.slice At b.2.length ct]] w λ e w'=>e=.returned (.int .i64 (est v b))∧Below w.heap.size w w':=by
 have G:=hb.v1;have n:=kD (λ i=>(⟨hb.own.nn i,by have:=hb.own.top i;omega⟩:0<=at_ b.1 i∧at_ b.1 i<=1000));have m:=kD (λ i=>(⟨hb.oth.nn i,by have:=hb.oth.top i;omega⟩:0<=at_ b.2 i∧at_ b.2 i<=1000));have r:=hb.own.len;have q:=hb.oth.len;obtain⟨d,g⟩:∃ p,pipP b.1=p:=⟨_,rfl⟩;obtain⟨a,f⟩:∃ p,pipP b.2=p:=⟨_,rfl⟩;have b1:0<=d∧d<=25000000:=by have:=pipU_bd n.out b.1.length (by omega);rw [<-g];unfold pipP;omega
 have b2:0<=a∧a<=25000000:=by have:=pipU_bd m.out b.2.length (by omega);rw [<-f];unfold pipP;omega
 obtain⟨E,y⟩:∃ e,est v b=e:=⟨_,rfl⟩;have j:=y;unfold est at j;rw [g,f] at j;have l:=kD j;rw [y];have P:=kD (λ w (h:RdS w B 1 enI Ao b.1)=>sum_i Ao co B b.1 w h n.out (by omega));have O:=kD (λ w (h:RdS w B 1 enI At b.2)=>sum_i At ct B b.2 w h m.out (by omega));have C:=kD g;have A:=kD f;have M:=kD (λ w (h:RdS w B 1 enI Ao b.1)=>pips_i Ao co B b.1 w h n.out (by omega));have L:=kD (λ w (h:RdS w B 1 enI At b.2)=>pips_i At ct B b.2 w h m.out (by omega));rw [g] at M;rw [f] at L;have x:=kD (show b.1.length<=1000 by omega);have t:=kD (show b.2.length<=1000 by omega);have R:1<=v.s∧v.s<=6:=G.2.2.2;clear hb G y j g f r q;go_enter Tryz.func122,Tryz.ntmps122;go_wp2_with fail;refine(P.out _ (ho.below (by go_grown) hB)).mono ?_;rintro e o ⟨rfl,rfl⟩;by_cases h1:b.1.sum=0
 ·obtain rfl:E=1000000:=by rw [<-l.out];simp [h1]
  have I:(b.1.sum == 0)=true:=by simp [h1]
  clear h1;go_wp2_with fail;go_ret;exact⟨rfl,by go_grown⟩
 ·have I:(b.1.sum == 0)=false:=by simp [h1]
  rw [if_neg h1] at l;clear h1;go_wp2_with fail;refine(O.out _ (ht.below (by go_grown) hB)).mono ?_;rintro e Y ⟨rfl,rfl⟩;by_cases h2:b.2.sum=0
  ·obtain rfl:E=0:=by rw [<-l.out];simp [h2]
   have H:(b.2.sum == 0)=true:=by simp [h2]
   clear h2;go_wp2_with fail;go_ret;exact⟨rfl,by go_grown⟩
  ·have H:(b.2.sum == 0)=false:=by simp [h2]
   rw [if_neg h2] at l;clear h2;have g1:IntKind.i64.wrap (d+a)=d+a:=IntWalk.i64_in _ (by omega);have g2:IntKind.i64.wrap (d+a+v.s)=d+a+v.s:=IntWalk.i64_in _ (by omega);have g3:IntKind.i64.wrap (a - d)=a - d:=IntWalk.i64_in _ (by omega);have g4:IntKind.i64.wrap (a - d+v.s)=a - d+v.s:=IntWalk.i64_in _ (by omega);have g5:IntKind.i64.wrap (1000000*(a - d+v.s))=1000000*(a - d+v.s):=IntWalk.i64_in _ (by omega);have g6:IntKind.i64.wrap (500000*(d+a+v.s))=500000*(d+a+v.s):=IntWalk.i64_in _ (by omega);have g7:IntKind.i64.wrap (500000*(d+a+v.s)+1000000*(a - d+v.s))=500000*(d+a+v.s)+1000000*(a - d+v.s):=IntWalk.i64_in _ (by omega);have N:=kD (λ w=>floor_i (500000*(d+a+v.s)+1000000*(a - d+v.s)) (d+a+v.s) (by omega) (by omega) w);rw [est_mid (by omega)] at N;have K:=kD ho;have J:=kD ht;clear ho ht P O M L;go_upto_region 5 with fail;refine wp_gen (λ z=>Below w.heap.size w z∧RowB z w.heap.size 25 (vL v)∧RowB z (w.heap.size+1) 28 [.slice Ao b.1.length co,.slice At b.2.length ct]) ⟨by go_grown,(RowB.new _ _ _).alloc _,RowB.new' _ _ _ (by simp)⟩ ?_;rintro o ⟨hb,D,F⟩;obtain⟨q0,q1,q2,q3⟩:=D.c4;obtain⟨r0,Z⟩:=F.c2;have T:=D.lt;have S:=F.lt;have W:=kD (λ k=>pips_iq Ao _ co B b.1 d rfl C.out o k ((K.out.below hb hB)) n.out x.out);have V:=kD (λ k=>pips_iq At _ ct B b.2 a rfl A.out o k ((J.out.below hb hB)) m.out t.out);clear K J I H;go_wp2_with fail;go_quiet ((go_at_call 152;first | with_reducible exact W.out _ | with_reducible exact V.out _));go_wp2_with fail;refine(N.out _).mono ?_;rintro e X ⟨rfl,rfl⟩
   generalize 500000+1000000*(a - d+v.s) / (d+a+v.s)=Q at l ⊢
   go_wp2_with fail
   all_goals
    go_ret;refine⟨ret1 ?_,below_drewN hb _⟩;rw [<-l.out];omega
end Bd13I
end Go.Proofs.YtmncnhbjifeoeaaGreat
