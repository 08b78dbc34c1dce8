/- Parts of the proof of FnHints. Conditions: each theorem's own. -/
import Derived.Test.YtmncnhbjifeoeaaGreatT06
set_option linter.unusedVariables false
set_option linter.unusedSimpArgs false
set_option maxHeartbeats 8000000
set_option maxRecDepth 100000
namespace Go.Proofs.YtmncnhbjifeoeaaGreat
namespace Bd6
open Go.ChangeShapes Go.WideShapes Go.ChangeAt Go.RowKit Base Ints Own Clone RelG PlP Bd1 RegInv
def BoardR (l m:List Int) (w:World) (e:Ending) (w':World):Prop :=
 ∃(A1:Option Addr) (c1:Nat) (A2:Option Addr) (c2:Nat),e=.returned (.agg #[.slice A1 l.length c1,.slice A2 m.length c2])∧OwnS w' w.heap.size w'.heap.size 2 1 enI (.slice A1 l.length c1) l∧OwnS w' w.heap.size w'.heap.size 2 1 enI (.slice A2 m.length c2) m∧Own.Apart (.slice A1 l.length c1) (.slice A2 m.length c2)∧Below w.heap.size w w'
theorem two_ {W:World} {g:Nat} {t:TypeId} {a b:Value} (h:RowB W g t [a,b]) (u v:Value):RowB ((W.setCell ⟨g,0,none⟩ u).setCell ⟨g,1,none⟩ v) g t [u,v]:=(h.set 0 u).set 1 v
theorem below_two {B:Nat} {w W:World} (h:Below B w W) {g:Nat} (hg:B<=g) (u v:Value):Below B w ((W.setCell ⟨g,0,none⟩ u).setCell ⟨g,1,none⟩ v) :=
 (h.setCell (p:=⟨g,0,none⟩) hg _).setCell (p:=⟨g,1,none⟩) hg _
theorem oth2 {W:World} {g g':Nat} {t:TypeId} {cs:List Value} (h:RowB W g t cs) (hn:g≠g') (u v:Value):RowB ((W.setCell ⟨g',0,none⟩ u).setCell ⟨g',1,none⟩ v) g t cs:=(h.other (p:=⟨g',0,none⟩) hn _).other (p:=⟨g',1,none⟩) hn _
theorem own2 {w:World} {lo hi:Nat} {v:Value} {xs:List Int} (h:OwnS w lo hi 2 1 enI v xs) {g:Nat} (hg:g<lo) (a b:Value):OwnS ((w.setCell ⟨g,0,none⟩ a).setCell ⟨g,1,none⟩ b) lo hi 2 1 enI v xs :=
 (h.setCell (p:=⟨g,0,none⟩) hg _).setCell (p:=⟨g,1,none⟩) hg _
structure ClF_clone_i (w:World) (g1 g2:Nat) (Ao At:Option Addr) (co ct:Nat) (l m:List Int) (L:Nat->Prop) (v3 v4 v5 v6 v7 v8 v9:Value) (w':World):Prop where
 bel:Below w.heap.size w w'
 rb:RowB w' g1 28 [.slice Ao l.length co,.slice At m.length ct]
 rr:¬ L 7->RowB w' g2 28 [.slice none 0 0,.slice none 0 0]
 ge:g1=w.heap.size∧g2=w.heap.size+1∧w.heap.size+2<=w'.heap.size
 f0:L 0->v3=.pointer (some ⟨g1,0,none⟩)
 f1:L 1->v4=.slice Ao l.length co
 f2:L 2->∃(A1:Option Addr) (c1:Nat),v5=.slice A1 l.length c1∧OwnS w' (w.heap.size+2) w'.heap.size 2 1 enI (.slice A1 l.length c1) l
 f3:L 3->v6=.pointer (some ⟨g1,1,none⟩)
 f4:L 4->v7=.slice At m.length ct
 f5:L 5->(∃(A1:Option Addr) (c1:Nat),v8=.slice A1 m.length c1∧OwnS w' (w.heap.size+2) w'.heap.size 2 1 enI (.slice A1 m.length c1) m)∧(L 2->Own.Apart v5 v8)
 f6:L 6->v9=.agg #[v5,v8]
 f7:L 7->RowB w' g2 28 [v5,v8]
theorem clone_i (l m:List Int) (Ao At:Option Addr) (co ct B:Nat) (w:World) (hB:B<=w.heap.size) (ho:RdS w B 1 enI Ao l) (ht:RdS w B 1 enI At m) (hA:Ao=none->co=0) (hT:At=none->ct=0) (hl:l.length<=1000) (hm:m.length<=1000) :
  Calls Tryz.prog 85 #[.agg #[.slice Ao l.length co,.slice At m.length ct]] w λ e w'=>BoardR l m w e w':=by
 have V:=kD (λ(M:World) (h:Below w.heap.size w M)=>clone Ao co B l M (Nat.le_trans hB h.size) (ho.below h hB) hA (by omega));have T:=kD (λ(M:World) (h:Below w.heap.size w M)=>clone At ct B m M (Nat.le_trans hB h.size) (ht.below h hB) hT (by omega));clear ho ht;go_enter Tryz.func85,Tryz.ntmps85;go_upto_region 1 with fail;refine wp_gen (λ Z=>Below w.heap.size w Z∧RowB Z w.heap.size 28 [.slice Ao l.length co,.slice At m.length ct]∧RowB Z (w.heap.size+1) 28 [.slice none 0 0,.slice none 0 0]) ⟨by go_grown,(RowB.new _ _ _).alloc _,RowB.new' _ _ _ (by simp)⟩ ?_;rintro w1 ⟨Y,rb,G⟩;refine region_inv (λ a0 L a w'=>∃ q p i o n g j:Value,a=(((((((a0.put (some 3) q).put (some 4) p).put (some 5) i).put (some 6) o).put (some 7) n).put (some 8) g).put (some 9) j)∧ClF_clone_i w w.heap.size (w.heap.size+1) Ao At co ct l m L q p i o n g j w') (by kernel_rfl) (by kernel_rfl) ?h0 ?hst ?fin
 case h0 =>
  exact⟨_,_,_,_,_,_,_,by simp only [Act.put,sX];exact rfl,⟨Y.drew,rb.drew,λ _=>G.drew,⟨rfl,rfl,G.lt⟩,λ h=>(h:False).elim,λ h=>(h:False).elim,λ h=>(h:False).elim,λ h=>(h:False).elim,λ h=>(h:False).elim,λ h=>(h:False).elim,λ h=>(h:False).elim,λ h=>(h:False).elim⟩⟩
 case hst =>
  refine StepsFrom.cons rfl (λ L a w' t c b d K s=>?_) ?_
  ·obtain⟨q,p,i,o,n,g,j,r,F⟩:=t;subst r;simp only [Act.put,sX];go_simp;exact s.out _ _ ⟨_,p,i,o,n,g,j,by simp only [Act.put,sX],⟨F.bel,F.rb,λ h=>F.rr (λ x=>h (Or.inr x)),F.ge,λ _=>rfl,λ h=>F.f1 (rL h),λ h=>F.f2 (rL h),λ h=>F.f3 (rL h),λ h=>F.f4 (rL h),λ h=>⟨(F.f5 (rL h)).1,λ f=>(F.f5 (rL h)).2 (rL f)⟩,λ h=>F.f6 (rL h),λ h=>F.f7 (rL h)⟩⟩
  refine StepsFrom.cons rfl (λ L a w' t c b d K s=>?_) ?_
  ·obtain⟨q,p,i,o,n,g,j,r,F⟩:=t;have r0:=F.rb.c2.1;have r1:=F.rb.c2.2;have hl:=F.rb.lt;have e3:=F.f0 (bK b 0);subst r;simp only [Act.put,sX,e3];go_simp;exact s.out _ _ ⟨q,_,i,o,n,g,j,by simp only [Act.put,sX,e3],⟨F.bel,F.rb,λ h=>F.rr (λ x=>h (Or.inr x)),F.ge,λ h=>F.f0 (rL h),λ _=>rfl,λ h=>F.f2 (rL h),λ h=>F.f3 (rL h),λ h=>F.f4 (rL h),λ h=>⟨(F.f5 (rL h)).1,λ f=>(F.f5 (rL h)).2 (rL f)⟩,λ h=>F.f6 (rL h),λ h=>F.f7 (rL h)⟩⟩
  refine StepsFrom.cons rfl (λ L a w' t c b d K s=>?_) ?_
  ·obtain⟨q,p,i,o,n,g,j,r,F⟩:=t;have e4:=F.f1 (bK b 1);have Q:=F.ge;have y:=F.bel.size;have P:=F.rb.lt;subst r;simp only [Act.put,sX,e4];go_simp;refine(V.out w' F.bel).mono ?_;rintro e w2 ⟨⟨vv,rfl,ho⟩,z⟩;obtain⟨O,N,rfl,-⟩:=ho.form enI_len;exact s.out _ _ ⟨q,p,_,o,n,g,j,by simp only [Act.put,sX,e4],⟨F.bel.trans (z.mono F.bel.size),F.rb.below z F.rb.lt,λ h=>(F.rr (λ x=>h (Or.inr x))).below z (F.rr (λ x=>h (Or.inr x))).lt,⟨F.ge.1,F.ge.2.1,Nat.le_trans F.ge.2.2 z.size⟩,λ h=>F.f0 (rL h),λ h=>F.f1 (rL h),λ _=>⟨O,N,rfl,ho.less (by omega)⟩,λ h=>F.f3 (rL h),λ h=>F.f4 (rL h),λ h=>by obtain⟨⟨D,C,E,f⟩,W⟩:=F.f5 (rL h);exact⟨⟨D,C,E,(f.below z (Nat.le_refl _)).more z.size⟩,λ _=>by rw [E];exact λ k X J=>by have:=f.2 k J;have:=(ho.block k X).1;omega⟩,λ h=>absurd (d 6 2 (by kernel_rfl) (rL h)) c,λ h=>absurd (d 7 2 (by kernel_rfl) (rL h)) c⟩⟩
  refine StepsFrom.cons rfl (λ L a w' t c b d K s=>?_) ?_
  ·obtain⟨q,p,i,o,n,g,j,r,F⟩:=t;subst r;simp only [Act.put,sX];go_simp;exact s.out _ _ ⟨q,p,i,_,n,g,j,by simp only [Act.put,sX],⟨F.bel,F.rb,λ h=>F.rr (λ x=>h (Or.inr x)),F.ge,λ h=>F.f0 (rL h),λ h=>F.f1 (rL h),λ h=>F.f2 (rL h),λ _=>rfl,λ h=>F.f4 (rL h),λ h=>⟨(F.f5 (rL h)).1,λ f=>(F.f5 (rL h)).2 (rL f)⟩,λ h=>F.f6 (rL h),λ h=>F.f7 (rL h)⟩⟩
  refine StepsFrom.cons rfl (λ L a w' t c b d K s=>?_) ?_
  ·obtain⟨q,p,i,o,n,g,j,r,F⟩:=t;have r0:=F.rb.c2.1;have r1:=F.rb.c2.2;have hl:=F.rb.lt;have e6:=F.f3 (bK b 3);subst r;simp only [Act.put,sX,e6];go_simp;exact s.out _ _ ⟨q,p,i,o,_,g,j,by simp only [Act.put,sX,e6],⟨F.bel,F.rb,λ h=>F.rr (λ x=>h (Or.inr x)),F.ge,λ h=>F.f0 (rL h),λ h=>F.f1 (rL h),λ h=>F.f2 (rL h),λ h=>F.f3 (rL h),λ _=>rfl,λ h=>⟨(F.f5 (rL h)).1,λ f=>(F.f5 (rL h)).2 (rL f)⟩,λ h=>F.f6 (rL h),λ h=>F.f7 (rL h)⟩⟩
  refine StepsFrom.cons rfl (λ L a w' t c b d K s=>?_) ?_
  ·obtain⟨q,p,i,o,n,g,j,r,F⟩:=t;have e7:=F.f4 (bK b 4);have Q:=F.ge;have y:=F.bel.size;have P:=F.rb.lt;subst r;simp only [Act.put,sX,e7];go_simp;refine(T.out w' F.bel).mono ?_;rintro e w2 ⟨⟨vv,rfl,ho⟩,z⟩;obtain⟨O,N,rfl,-⟩:=ho.form enI_len;exact s.out _ _ ⟨q,p,i,o,n,_,j,by simp only [Act.put,sX,e7],⟨F.bel.trans (z.mono F.bel.size),F.rb.below z F.rb.lt,λ h=>(F.rr (λ x=>h (Or.inr x))).below z (F.rr (λ x=>h (Or.inr x))).lt,⟨F.ge.1,F.ge.2.1,Nat.le_trans F.ge.2.2 z.size⟩,λ h=>F.f0 (rL h),λ h=>F.f1 (rL h),λ h=>by obtain⟨D,C,E,f⟩:=F.f2 (rL h);exact⟨D,C,E,(f.below z (Nat.le_refl _)).more z.size⟩,λ h=>F.f3 (rL h),λ h=>F.f4 (rL h),λ _=>⟨⟨O,N,rfl,ho.less (by omega)⟩,λ f=>by obtain⟨D,C,E,W⟩:=F.f2 (rL f);rw [E];exact λ k X J=>by have:=W.2 k X;have:=(ho.block k J).1;omega⟩,λ h=>absurd (d 6 5 (by kernel_rfl) (rL h)) c,λ h=>absurd (d 7 5 (by kernel_rfl) (rL h)) c⟩⟩
  refine StepsFrom.cons rfl (λ L a w' t c b d K s=>?_) ?_
  ·obtain⟨q,p,i,o,n,g,j,r,F⟩:=t;obtain⟨A5,c5,I,o5⟩:=F.f2 (bK b 2);obtain⟨⟨A8,c8,H,o8⟩,A⟩:=F.f5 (bK b 5);subst r;simp only [Act.put,sX,I,H];go_simp;exact s.out _ _ ⟨q,p,i,o,n,g,.agg #[i,g],by simp only [Act.put,sX,I,H],⟨F.bel,F.rb,λ h=>F.rr (λ x=>h (Or.inr x)),F.ge,λ h=>F.f0 (rL h),λ h=>F.f1 (rL h),λ h=>F.f2 (rL h),λ h=>F.f3 (rL h),λ h=>F.f4 (rL h),λ h=>⟨(F.f5 (rL h)).1,λ f=>(F.f5 (rL h)).2 (rL f)⟩,λ _=>rfl,λ h=>absurd (d 7 6 (by kernel_rfl) (rL h)) c⟩⟩
  refine StepsFrom.cons rfl (λ L a w' t c b d K s=>?_) ?_
  ·obtain⟨q,p,i,o,n,g,j,r,F⟩:=t;obtain⟨A5,c5,I,o5⟩:=F.f2 (bK b 2);obtain⟨⟨A8,c8,H,o8⟩,A⟩:=F.f5 (bK b 5);have e9:=F.f6 (bK b 6);have G:=F.rr c;have z0:=G.c2.1;have z1:=G.c2.2;have fr:=G.frozen;have hl:=G.lt;have Q:=F.ge;have y:=F.bel.size;subst r;simp only [Act.put,sX,e9,I,H];go_simp;exact s.out _ _ ⟨q,p,i,o,n,g,j,by simp only [Act.put,sX,e9,I,H],⟨below_two F.bel (by omega) _ _,oth2 F.rb (by omega) _ _,λ h=>absurd (Or.inl rfl) h,⟨F.ge.1,F.ge.2.1,by rw [World.size_setCell,World.size_setCell];exact F.ge.2.2⟩,λ h=>F.f0 (rL h),λ h=>F.f1 (rL h),λ h=>by obtain⟨D,C,E,f⟩:=F.f2 (rL h);exact⟨D,C,E,by rw [World.size_setCell,World.size_setCell];exact own2 f (by omega) _ _⟩,λ h=>F.f3 (rL h),λ h=>F.f4 (rL h),λ h=>by obtain⟨⟨D,C,E,f⟩,W⟩:=F.f5 (rL h);exact⟨⟨D,C,E,by rw [World.size_setCell,World.size_setCell];exact own2 f (by omega) _ _⟩,λ h4=>W (rL h4)⟩,λ h=>F.f6 (rL h),λ _=>by rw [I,H];exact two_ G _ _⟩⟩
  exact StepsFrom.nil (by decide)
 case fin =>
  rintro L a' M ⟨q,p,i,o,n,g,j,rfl,S⟩ R;have r7:=S.f7 (R 7 (by decide));obtain⟨⟨D,C,H,o2⟩,A⟩:=S.f5 (R 5 (by decide));obtain⟨O,N,I,o1⟩:=S.f2 (R 2 (by decide));have A:=A (R 2 (by decide));have y:=S.bel;clear S R;subst H I;obtain⟨z0,z1⟩:=r7.c2;simp only [Act.put,sX];go_wp2_with fail;refine bodyPost_ret (v:=.agg #[.slice O l.length N,.slice D m.length C]) (by simp [results,Tryz.results85,go_sem,z0,z1]) rfl ?_;exact⟨O,N,D,C,rfl,o1.less (by omega),o2.less (by omega),A,y⟩
structure ClF_swap_i (w:World) (g1 g2:Nat) (Ao At:Option Addr) (co ct:Nat) (l m:List Int) (L:Nat->Prop) (v3 v4 v5 v6 v7 v8 v9:Value) (w':World):Prop where
 bel:Below w.heap.size w w'
 rb:RowB w' g1 28 [.slice Ao l.length co,.slice At m.length ct]
 rr:¬ L 7->RowB w' g2 28 [.slice none 0 0,.slice none 0 0]
 ge:g1=w.heap.size∧g2=w.heap.size+1∧w.heap.size+2<=w'.heap.size
 f0:L 0->v3=.pointer (some ⟨g1,1,none⟩)
 f1:L 1->v4=.slice At m.length ct
 f2:L 2->∃(A1:Option Addr) (c1:Nat),v5=.slice A1 m.length c1∧OwnS w' (w.heap.size+2) w'.heap.size 2 1 enI (.slice A1 m.length c1) m
 f3:L 3->v6=.pointer (some ⟨g1,0,none⟩)
 f4:L 4->v7=.slice Ao l.length co
 f5:L 5->(∃(A1:Option Addr) (c1:Nat),v8=.slice A1 l.length c1∧OwnS w' (w.heap.size+2) w'.heap.size 2 1 enI (.slice A1 l.length c1) l)∧(L 2->Own.Apart v5 v8)
 f6:L 6->v9=.agg #[v5,v8]
 f7:L 7->RowB w' g2 28 [v5,v8]
theorem swap_i (l m:List Int) (Ao At:Option Addr) (co ct B:Nat) (w:World) (hB:B<=w.heap.size) (ho:RdS w B 1 enI Ao l) (ht:RdS w B 1 enI At m) (hA:Ao=none->co=0) (hT:At=none->ct=0) (hl:l.length<=1000) (hm:m.length<=1000) :
  Calls Tryz.prog 88 #[.agg #[.slice Ao l.length co,.slice At m.length ct]] w λ e w'=>BoardR m l w e w':=by
 have V:=kD (λ(M:World) (h:Below w.heap.size w M)=>clone Ao co B l M (Nat.le_trans hB h.size) (ho.below h hB) hA (by omega));have T:=kD (λ(M:World) (h:Below w.heap.size w M)=>clone At ct B m M (Nat.le_trans hB h.size) (ht.below h hB) hT (by omega));clear ho ht;go_enter Tryz.func88,Tryz.ntmps88;go_upto_region 1 with fail;refine wp_gen (λ Z=>Below w.heap.size w Z∧RowB Z w.heap.size 28 [.slice Ao l.length co,.slice At m.length ct]∧RowB Z (w.heap.size+1) 28 [.slice none 0 0,.slice none 0 0]) ⟨by go_grown,(RowB.new _ _ _).alloc _,RowB.new' _ _ _ (by simp)⟩ ?_;rintro w1 ⟨Y,rb,G⟩;refine region_inv (λ a0 L a w'=>∃ q p i o n g j:Value,a=(((((((a0.put (some 3) q).put (some 4) p).put (some 5) i).put (some 6) o).put (some 7) n).put (some 8) g).put (some 9) j)∧ClF_swap_i w w.heap.size (w.heap.size+1) Ao At co ct l m L q p i o n g j w') (by kernel_rfl) (by kernel_rfl) ?h0 ?hst ?fin
 case h0 =>
  exact⟨_,_,_,_,_,_,_,by simp only [Act.put,sX];exact rfl,⟨Y.drew,rb.drew,λ _=>G.drew,⟨rfl,rfl,G.lt⟩,λ h=>(h:False).elim,λ h=>(h:False).elim,λ h=>(h:False).elim,λ h=>(h:False).elim,λ h=>(h:False).elim,λ h=>(h:False).elim,λ h=>(h:False).elim,λ h=>(h:False).elim⟩⟩
 case hst =>
  refine StepsFrom.cons rfl (λ L a w' t c b d K s=>?_) ?_
  ·obtain⟨q,p,i,o,n,g,j,r,F⟩:=t;subst r;simp only [Act.put,sX];go_simp;exact s.out _ _ ⟨_,p,i,o,n,g,j,by simp only [Act.put,sX],⟨F.bel,F.rb,λ h=>F.rr (λ x=>h (Or.inr x)),F.ge,λ _=>rfl,λ h=>F.f1 (rL h),λ h=>F.f2 (rL h),λ h=>F.f3 (rL h),λ h=>F.f4 (rL h),λ h=>⟨(F.f5 (rL h)).1,λ f=>(F.f5 (rL h)).2 (rL f)⟩,λ h=>F.f6 (rL h),λ h=>F.f7 (rL h)⟩⟩
  refine StepsFrom.cons rfl (λ L a w' t c b d K s=>?_) ?_
  ·obtain⟨q,p,i,o,n,g,j,r,F⟩:=t;have r0:=F.rb.c2.1;have r1:=F.rb.c2.2;have hl:=F.rb.lt;have e3:=F.f0 (bK b 0);subst r;simp only [Act.put,sX,e3];go_simp;exact s.out _ _ ⟨q,_,i,o,n,g,j,by simp only [Act.put,sX,e3],⟨F.bel,F.rb,λ h=>F.rr (λ x=>h (Or.inr x)),F.ge,λ h=>F.f0 (rL h),λ _=>rfl,λ h=>F.f2 (rL h),λ h=>F.f3 (rL h),λ h=>F.f4 (rL h),λ h=>⟨(F.f5 (rL h)).1,λ f=>(F.f5 (rL h)).2 (rL f)⟩,λ h=>F.f6 (rL h),λ h=>F.f7 (rL h)⟩⟩
  refine StepsFrom.cons rfl (λ L a w' t c b d K s=>?_) ?_
  ·obtain⟨q,p,i,o,n,g,j,r,F⟩:=t;have e4:=F.f1 (bK b 1);have Q:=F.ge;have y:=F.bel.size;have P:=F.rb.lt;subst r;simp only [Act.put,sX,e4];go_simp;refine(T.out w' F.bel).mono ?_;rintro e w2 ⟨⟨vv,rfl,ho⟩,z⟩;obtain⟨O,N,rfl,-⟩:=ho.form enI_len;exact s.out _ _ ⟨q,p,_,o,n,g,j,by simp only [Act.put,sX,e4],⟨F.bel.trans (z.mono F.bel.size),F.rb.below z F.rb.lt,λ h=>(F.rr (λ x=>h (Or.inr x))).below z (F.rr (λ x=>h (Or.inr x))).lt,⟨F.ge.1,F.ge.2.1,Nat.le_trans F.ge.2.2 z.size⟩,λ h=>F.f0 (rL h),λ h=>F.f1 (rL h),λ _=>⟨O,N,rfl,ho.less (by omega)⟩,λ h=>F.f3 (rL h),λ h=>F.f4 (rL h),λ h=>by obtain⟨⟨D,C,E,f⟩,W⟩:=F.f5 (rL h);exact⟨⟨D,C,E,(f.below z (Nat.le_refl _)).more z.size⟩,λ _=>by rw [E];exact λ k X J=>by have:=f.2 k J;have:=(ho.block k X).1;omega⟩,λ h=>absurd (d 6 2 (by kernel_rfl) (rL h)) c,λ h=>absurd (d 7 2 (by kernel_rfl) (rL h)) c⟩⟩
  refine StepsFrom.cons rfl (λ L a w' t c b d K s=>?_) ?_
  ·obtain⟨q,p,i,o,n,g,j,r,F⟩:=t;subst r;simp only [Act.put,sX];go_simp;exact s.out _ _ ⟨q,p,i,_,n,g,j,by simp only [Act.put,sX],⟨F.bel,F.rb,λ h=>F.rr (λ x=>h (Or.inr x)),F.ge,λ h=>F.f0 (rL h),λ h=>F.f1 (rL h),λ h=>F.f2 (rL h),λ _=>rfl,λ h=>F.f4 (rL h),λ h=>⟨(F.f5 (rL h)).1,λ f=>(F.f5 (rL h)).2 (rL f)⟩,λ h=>F.f6 (rL h),λ h=>F.f7 (rL h)⟩⟩
  refine StepsFrom.cons rfl (λ L a w' t c b d K s=>?_) ?_
  ·obtain⟨q,p,i,o,n,g,j,r,F⟩:=t;have r0:=F.rb.c2.1;have r1:=F.rb.c2.2;have hl:=F.rb.lt;have e6:=F.f3 (bK b 3);subst r;simp only [Act.put,sX,e6];go_simp;exact s.out _ _ ⟨q,p,i,o,_,g,j,by simp only [Act.put,sX,e6],⟨F.bel,F.rb,λ h=>F.rr (λ x=>h (Or.inr x)),F.ge,λ h=>F.f0 (rL h),λ h=>F.f1 (rL h),λ h=>F.f2 (rL h),λ h=>F.f3 (rL h),λ _=>rfl,λ h=>⟨(F.f5 (rL h)).1,λ f=>(F.f5 (rL h)).2 (rL f)⟩,λ h=>F.f6 (rL h),λ h=>F.f7 (rL h)⟩⟩
  refine StepsFrom.cons rfl (λ L a w' t c b d K s=>?_) ?_
  ·obtain⟨q,p,i,o,n,g,j,r,F⟩:=t;have e7:=F.f4 (bK b 4);have Q:=F.ge;have y:=F.bel.size;have P:=F.rb.lt;subst r;simp only [Act.put,sX,e7];go_simp;refine(V.out w' F.bel).mono ?_;rintro e w2 ⟨⟨vv,rfl,ho⟩,z⟩;obtain⟨O,N,rfl,-⟩:=ho.form enI_len;exact s.out _ _ ⟨q,p,i,o,n,_,j,by simp only [Act.put,sX,e7],⟨F.bel.trans (z.mono F.bel.size),F.rb.below z F.rb.lt,λ h=>(F.rr (λ x=>h (Or.inr x))).below z (F.rr (λ x=>h (Or.inr x))).lt,⟨F.ge.1,F.ge.2.1,Nat.le_trans F.ge.2.2 z.size⟩,λ h=>F.f0 (rL h),λ h=>F.f1 (rL h),λ h=>by obtain⟨D,C,E,f⟩:=F.f2 (rL h);exact⟨D,C,E,(f.below z (Nat.le_refl _)).more z.size⟩,λ h=>F.f3 (rL h),λ h=>F.f4 (rL h),λ _=>⟨⟨O,N,rfl,ho.less (by omega)⟩,λ f=>by obtain⟨D,C,E,W⟩:=F.f2 (rL f);rw [E];exact λ k X J=>by have:=W.2 k X;have:=(ho.block k J).1;omega⟩,λ h=>absurd (d 6 5 (by kernel_rfl) (rL h)) c,λ h=>absurd (d 7 5 (by kernel_rfl) (rL h)) c⟩⟩
  refine StepsFrom.cons rfl (λ L a w' t c b d K s=>?_) ?_
  ·obtain⟨q,p,i,o,n,g,j,r,F⟩:=t;obtain⟨A5,c5,I,o5⟩:=F.f2 (bK b 2);obtain⟨⟨A8,c8,H,o8⟩,A⟩:=F.f5 (bK b 5);subst r;simp only [Act.put,sX,I,H];go_simp;exact s.out _ _ ⟨q,p,i,o,n,g,.agg #[i,g],by simp only [Act.put,sX,I,H],⟨F.bel,F.rb,λ h=>F.rr (λ x=>h (Or.inr x)),F.ge,λ h=>F.f0 (rL h),λ h=>F.f1 (rL h),λ h=>F.f2 (rL h),λ h=>F.f3 (rL h),λ h=>F.f4 (rL h),λ h=>⟨(F.f5 (rL h)).1,λ f=>(F.f5 (rL h)).2 (rL f)⟩,λ _=>rfl,λ h=>absurd (d 7 6 (by kernel_rfl) (rL h)) c⟩⟩
  refine StepsFrom.cons rfl (λ L a w' t c b d K s=>?_) ?_
  ·obtain⟨q,p,i,o,n,g,j,r,F⟩:=t;obtain⟨A5,c5,I,o5⟩:=F.f2 (bK b 2);obtain⟨⟨A8,c8,H,o8⟩,A⟩:=F.f5 (bK b 5);have e9:=F.f6 (bK b 6);have G:=F.rr c;have z0:=G.c2.1;have z1:=G.c2.2;have fr:=G.frozen;have hl:=G.lt;have Q:=F.ge;have y:=F.bel.size;subst r;simp only [Act.put,sX,e9,I,H];go_simp;exact s.out _ _ ⟨q,p,i,o,n,g,j,by simp only [Act.put,sX,e9,I,H],⟨below_two F.bel (by omega) _ _,oth2 F.rb (by omega) _ _,λ h=>absurd (Or.inl rfl) h,⟨F.ge.1,F.ge.2.1,by rw [World.size_setCell,World.size_setCell];exact F.ge.2.2⟩,λ h=>F.f0 (rL h),λ h=>F.f1 (rL h),λ h=>by obtain⟨D,C,E,f⟩:=F.f2 (rL h);exact⟨D,C,E,by rw [World.size_setCell,World.size_setCell];exact own2 f (by omega) _ _⟩,λ h=>F.f3 (rL h),λ h=>F.f4 (rL h),λ h=>by obtain⟨⟨D,C,E,f⟩,W⟩:=F.f5 (rL h);exact⟨⟨D,C,E,by rw [World.size_setCell,World.size_setCell];exact own2 f (by omega) _ _⟩,λ h4=>W (rL h4)⟩,λ h=>F.f6 (rL h),λ _=>by rw [I,H];exact two_ G _ _⟩⟩
  exact StepsFrom.nil (by decide)
 case fin =>
  rintro L a' M ⟨q,p,i,o,n,g,j,rfl,S⟩ R;have r7:=S.f7 (R 7 (by decide));obtain⟨⟨D,C,H,o2⟩,A⟩:=S.f5 (R 5 (by decide));obtain⟨O,N,I,o1⟩:=S.f2 (R 2 (by decide));have A:=A (R 2 (by decide));have y:=S.bel;clear S R;subst H I;obtain⟨z0,z1⟩:=r7.c2;simp only [Act.put,sX];go_wp2_with fail;refine bodyPost_ret (v:=.agg #[.slice O m.length N,.slice D l.length C]) (by simp [results,Tryz.results88,go_sem,z0,z1]) rfl ?_;exact⟨O,N,D,C,rfl,o1.less (by omega),o2.less (by omega),A,y⟩
structure ClF_swap_s (w:World) (g1 g2:Nat) (Ao At:Option Addr) (co ct:Nat) (l m:List Int) (L:Nat->Prop) (v3 v4 v5 v6 v7 v8 v9:Value) (w':World):Prop where
 bel:Below w.heap.size w w'
 rb:RowB w' g1 28 [.slice Ao l.length co,.slice At m.length ct]
 rr:¬ L 7->RowB w' g2 28 [.slice none 0 0,.slice none 0 0]
 ge:g1=w.heap.size∧g2=w.heap.size+1∧w.heap.size+2<=w'.heap.size
 f0:L 0->v3=.pointer (some ⟨g1,1,none⟩)
 f1:L 1->v4=.slice At m.length ct
 f2:L 2->∃(A1:Option Addr) (c1:Nat),v5=.slice A1 m.length c1∧OwnS w' (w.heap.size+2) w'.heap.size 2 1 enI (.slice A1 m.length c1) m
 f3:L 3->v6=.pointer (some ⟨g1,0,none⟩)
 f4:L 4->v7=.slice Ao l.length co
 f5:L 5->(∃(A1:Option Addr) (c1:Nat),v8=.slice A1 l.length c1∧OwnS w' (w.heap.size+2) w'.heap.size 2 1 enI (.slice A1 l.length c1) l)∧(L 2->Own.Apart v5 v8)
 f6:L 6->v9=.agg #[v5,v8]
 f7:L 7->RowB w' g2 28 [v5,v8]
theorem swap_s (l m:List Int) (Ao At:Option Addr) (co ct B:Nat) (w:World) (hB:B<=w.heap.size) (ho:RdS w B 1 enI Ao l) (ht:RdS w B 1 enI At m) (hA:Ao=none->co=0) (hT:At=none->ct=0) (hl:l.length<=1000) (hm:m.length<=1000) :
  Calls Tryz.prog 91 #[.agg #[.slice Ao l.length co,.slice At m.length ct]] w λ e w'=>BoardR m l w e w':=by
 have V:=kD (λ(M:World) (h:Below w.heap.size w M)=>own02 Ao co B l M (Nat.le_trans hB h.size) (ho.below h hB) hA (by omega));have T:=kD (λ(M:World) (h:Below w.heap.size w M)=>own02 At ct B m M (Nat.le_trans hB h.size) (ht.below h hB) hT (by omega));clear ho ht;go_enter Tryz.func91,Tryz.ntmps91;go_upto_region 1 with fail;refine wp_gen (λ Z=>Below w.heap.size w Z∧RowB Z w.heap.size 28 [.slice Ao l.length co,.slice At m.length ct]∧RowB Z (w.heap.size+1) 28 [.slice none 0 0,.slice none 0 0]) ⟨by go_grown,(RowB.new _ _ _).alloc _,RowB.new' _ _ _ (by simp)⟩ ?_;rintro w1 ⟨Y,rb,G⟩;refine region_inv (λ a0 L a w'=>∃ q p i o n g j:Value,a=(((((((a0.put (some 3) q).put (some 4) p).put (some 5) i).put (some 6) o).put (some 7) n).put (some 8) g).put (some 9) j)∧ClF_swap_s w w.heap.size (w.heap.size+1) Ao At co ct l m L q p i o n g j w') (by kernel_rfl) (by kernel_rfl) ?h0 ?hst ?fin
 case h0 =>
  exact⟨_,_,_,_,_,_,_,by simp only [Act.put,sX];exact rfl,⟨Y.drew,rb.drew,λ _=>G.drew,⟨rfl,rfl,G.lt⟩,λ h=>(h:False).elim,λ h=>(h:False).elim,λ h=>(h:False).elim,λ h=>(h:False).elim,λ h=>(h:False).elim,λ h=>(h:False).elim,λ h=>(h:False).elim,λ h=>(h:False).elim⟩⟩
 case hst =>
  refine StepsFrom.cons rfl (λ L a w' t c b d K s=>?_) ?_
  ·obtain⟨q,p,i,o,n,g,j,r,F⟩:=t;subst r;simp only [Act.put,sX];go_simp;exact s.out _ _ ⟨_,p,i,o,n,g,j,by simp only [Act.put,sX],⟨F.bel,F.rb,λ h=>F.rr (λ x=>h (Or.inr x)),F.ge,λ _=>rfl,λ h=>F.f1 (rL h),λ h=>F.f2 (rL h),λ h=>F.f3 (rL h),λ h=>F.f4 (rL h),λ h=>⟨(F.f5 (rL h)).1,λ f=>(F.f5 (rL h)).2 (rL f)⟩,λ h=>F.f6 (rL h),λ h=>F.f7 (rL h)⟩⟩
  refine StepsFrom.cons rfl (λ L a w' t c b d K s=>?_) ?_
  ·obtain⟨q,p,i,o,n,g,j,r,F⟩:=t;have r0:=F.rb.c2.1;have r1:=F.rb.c2.2;have hl:=F.rb.lt;have e3:=F.f0 (bK b 0);subst r;simp only [Act.put,sX,e3];go_simp;exact s.out _ _ ⟨q,_,i,o,n,g,j,by simp only [Act.put,sX,e3],⟨F.bel,F.rb,λ h=>F.rr (λ x=>h (Or.inr x)),F.ge,λ h=>F.f0 (rL h),λ _=>rfl,λ h=>F.f2 (rL h),λ h=>F.f3 (rL h),λ h=>F.f4 (rL h),λ h=>⟨(F.f5 (rL h)).1,λ f=>(F.f5 (rL h)).2 (rL f)⟩,λ h=>F.f6 (rL h),λ h=>F.f7 (rL h)⟩⟩
  refine StepsFrom.cons rfl (λ L a w' t c b d K s=>?_) ?_
  ·obtain⟨q,p,i,o,n,g,j,r,F⟩:=t;have e4:=F.f1 (bK b 1);have Q:=F.ge;have y:=F.bel.size;have P:=F.rb.lt;subst r;simp only [Act.put,sX,e4];go_simp;refine(T.out w' F.bel).mono ?_;rintro e w2 ⟨⟨vv,rfl,ho⟩,z⟩;obtain⟨O,N,rfl,-⟩:=ho.form enI_len;exact s.out _ _ ⟨q,p,_,o,n,g,j,by simp only [Act.put,sX,e4],⟨F.bel.trans (z.mono F.bel.size),F.rb.below z F.rb.lt,λ h=>(F.rr (λ x=>h (Or.inr x))).below z (F.rr (λ x=>h (Or.inr x))).lt,⟨F.ge.1,F.ge.2.1,Nat.le_trans F.ge.2.2 z.size⟩,λ h=>F.f0 (rL h),λ h=>F.f1 (rL h),λ _=>⟨O,N,rfl,ho.less (by omega)⟩,λ h=>F.f3 (rL h),λ h=>F.f4 (rL h),λ h=>by obtain⟨⟨D,C,E,f⟩,W⟩:=F.f5 (rL h);exact⟨⟨D,C,E,(f.below z (Nat.le_refl _)).more z.size⟩,λ _=>by rw [E];exact λ k X J=>by have:=f.2 k J;have:=(ho.block k X).1;omega⟩,λ h=>absurd (d 6 2 (by kernel_rfl) (rL h)) c,λ h=>absurd (d 7 2 (by kernel_rfl) (rL h)) c⟩⟩
  refine StepsFrom.cons rfl (λ L a w' t c b d K s=>?_) ?_
  ·obtain⟨q,p,i,o,n,g,j,r,F⟩:=t;subst r;simp only [Act.put,sX];go_simp;exact s.out _ _ ⟨q,p,i,_,n,g,j,by simp only [Act.put,sX],⟨F.bel,F.rb,λ h=>F.rr (λ x=>h (Or.inr x)),F.ge,λ h=>F.f0 (rL h),λ h=>F.f1 (rL h),λ h=>F.f2 (rL h),λ _=>rfl,λ h=>F.f4 (rL h),λ h=>⟨(F.f5 (rL h)).1,λ f=>(F.f5 (rL h)).2 (rL f)⟩,λ h=>F.f6 (rL h),λ h=>F.f7 (rL h)⟩⟩
  refine StepsFrom.cons rfl (λ L a w' t c b d K s=>?_) ?_
  ·obtain⟨q,p,i,o,n,g,j,r,F⟩:=t;have r0:=F.rb.c2.1;have r1:=F.rb.c2.2;have hl:=F.rb.lt;have e6:=F.f3 (bK b 3);subst r;simp only [Act.put,sX,e6];go_simp;exact s.out _ _ ⟨q,p,i,o,_,g,j,by simp only [Act.put,sX,e6],⟨F.bel,F.rb,λ h=>F.rr (λ x=>h (Or.inr x)),F.ge,λ h=>F.f0 (rL h),λ h=>F.f1 (rL h),λ h=>F.f2 (rL h),λ h=>F.f3 (rL h),λ _=>rfl,λ h=>⟨(F.f5 (rL h)).1,λ f=>(F.f5 (rL h)).2 (rL f)⟩,λ h=>F.f6 (rL h),λ h=>F.f7 (rL h)⟩⟩
  refine StepsFrom.cons rfl (λ L a w' t c b d K s=>?_) ?_
  ·obtain⟨q,p,i,o,n,g,j,r,F⟩:=t;have e7:=F.f4 (bK b 4);have Q:=F.ge;have y:=F.bel.size;have P:=F.rb.lt;subst r;simp only [Act.put,sX,e7];go_simp;refine(V.out w' F.bel).mono ?_;rintro e w2 ⟨⟨vv,rfl,ho⟩,z⟩;obtain⟨O,N,rfl,-⟩:=ho.form enI_len;exact s.out _ _ ⟨q,p,i,o,n,_,j,by simp only [Act.put,sX,e7],⟨F.bel.trans (z.mono F.bel.size),F.rb.below z F.rb.lt,λ h=>(F.rr (λ x=>h (Or.inr x))).below z (F.rr (λ x=>h (Or.inr x))).lt,⟨F.ge.1,F.ge.2.1,Nat.le_trans F.ge.2.2 z.size⟩,λ h=>F.f0 (rL h),λ h=>F.f1 (rL h),λ h=>by obtain⟨D,C,E,f⟩:=F.f2 (rL h);exact⟨D,C,E,(f.below z (Nat.le_refl _)).more z.size⟩,λ h=>F.f3 (rL h),λ h=>F.f4 (rL h),λ _=>⟨⟨O,N,rfl,ho.less (by omega)⟩,λ f=>by obtain⟨D,C,E,W⟩:=F.f2 (rL f);rw [E];exact λ k X J=>by have:=W.2 k X;have:=(ho.block k J).1;omega⟩,λ h=>absurd (d 6 5 (by kernel_rfl) (rL h)) c,λ h=>absurd (d 7 5 (by kernel_rfl) (rL h)) c⟩⟩
  refine StepsFrom.cons rfl (λ L a w' t c b d K s=>?_) ?_
  ·obtain⟨q,p,i,o,n,g,j,r,F⟩:=t;obtain⟨A5,c5,I,o5⟩:=F.f2 (bK b 2);obtain⟨⟨A8,c8,H,o8⟩,A⟩:=F.f5 (bK b 5);subst r;simp only [Act.put,sX,I,H];go_simp;exact s.out _ _ ⟨q,p,i,o,n,g,.agg #[i,g],by simp only [Act.put,sX,I,H],⟨F.bel,F.rb,λ h=>F.rr (λ x=>h (Or.inr x)),F.ge,λ h=>F.f0 (rL h),λ h=>F.f1 (rL h),λ h=>F.f2 (rL h),λ h=>F.f3 (rL h),λ h=>F.f4 (rL h),λ h=>⟨(F.f5 (rL h)).1,λ f=>(F.f5 (rL h)).2 (rL f)⟩,λ _=>rfl,λ h=>absurd (d 7 6 (by kernel_rfl) (rL h)) c⟩⟩
  refine StepsFrom.cons rfl (λ L a w' t c b d K s=>?_) ?_
  ·obtain⟨q,p,i,o,n,g,j,r,F⟩:=t;obtain⟨A5,c5,I,o5⟩:=F.f2 (bK b 2);obtain⟨⟨A8,c8,H,o8⟩,A⟩:=F.f5 (bK b 5);have e9:=F.f6 (bK b 6);have G:=F.rr c;have z0:=G.c2.1;have z1:=G.c2.2;have fr:=G.frozen;have hl:=G.lt;have Q:=F.ge;have y:=F.bel.size;subst r;simp only [Act.put,sX,e9,I,H];go_simp;exact s.out _ _ ⟨q,p,i,o,n,g,j,by simp only [Act.put,sX,e9,I,H],⟨below_two F.bel (by omega) _ _,oth2 F.rb (by omega) _ _,λ h=>absurd (Or.inl rfl) h,⟨F.ge.1,F.ge.2.1,by rw [World.size_setCell,World.size_setCell];exact F.ge.2.2⟩,λ h=>F.f0 (rL h),λ h=>F.f1 (rL h),λ h=>by obtain⟨D,C,E,f⟩:=F.f2 (rL h);exact⟨D,C,E,by rw [World.size_setCell,World.size_setCell];exact own2 f (by omega) _ _⟩,λ h=>F.f3 (rL h),λ h=>F.f4 (rL h),λ h=>by obtain⟨⟨D,C,E,f⟩,W⟩:=F.f5 (rL h);exact⟨⟨D,C,E,by rw [World.size_setCell,World.size_setCell];exact own2 f (by omega) _ _⟩,λ h4=>W (rL h4)⟩,λ h=>F.f6 (rL h),λ _=>by rw [I,H];exact two_ G _ _⟩⟩
  exact StepsFrom.nil (by decide)
 case fin =>
  rintro L a' M ⟨q,p,i,o,n,g,j,rfl,S⟩ R;have r7:=S.f7 (R 7 (by decide));obtain⟨⟨D,C,H,o2⟩,A⟩:=S.f5 (R 5 (by decide));obtain⟨O,N,I,o1⟩:=S.f2 (R 2 (by decide));have A:=A (R 2 (by decide));have y:=S.bel;clear S R;subst H I;obtain⟨z0,z1⟩:=r7.c2;simp only [Act.put,sX];go_wp2_with fail;refine bodyPost_ret (v:=.agg #[.slice O m.length N,.slice D l.length C]) (by simp [results,Tryz.results91,go_sem,z0,z1]) rfl ?_;exact⟨O,N,D,C,rfl,o1.less (by omega),o2.less (by omega),A,y⟩
end Bd6
end Go.Proofs.YtmncnhbjifeoeaaGreat
