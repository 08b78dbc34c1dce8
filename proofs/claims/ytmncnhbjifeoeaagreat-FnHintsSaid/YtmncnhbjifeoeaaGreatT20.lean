/- Parts of the proof of FnHints. Conditions: each theorem's own. -/
import Derived.Test.YtmncnhbjifeoeaaGreatT19
set_option linter.unusedVariables false
set_option linter.unusedSimpArgs false
set_option maxHeartbeats 8000000
set_option maxRecDepth 100000
namespace Go.Proofs.YtmncnhbjifeoeaaGreat
namespace HdF
open Go Go.ChangeShapes Go.WideShapes Go.ChangeAt Go.RowKit Base Ints Own Clone RelG PlP Gm Bd1 Bd2 Bd5 Bd6 Bd7 Bd8 Bd11 RegInv RegF RegG Draw DrawD DwP DwQ DwA DwB HdP HdA HdB HdC HdD HdE
def IsSl (u:Value):Prop:=∃(A:Option Addr) (n c:Nat),u=.slice A n c
structure Lw (w1 w2:World) (g:Nat) (A:Option Addr) (cp:Nat) (xs:List Int) (st:Nat × Int) (g8 g10:Nat) (v:Vr) (u1 u2:Value) (b:Bd) (r:Int × Int) (W:World):Prop where
 D:Dx w1 g g A cp xs st W
 gr:w2.grownBy W (some g)
 r8:RowB W g8 25 (vL v)
 r9:RowB W (g8+1) 28 [u1,u2]
 r10:RowB W g10 30 [.int .i64 r.1,.int .i64 r.2]
 o1:OwnS W (g+1) W.heap.size 2 1 enI u1 b.1
 o2:OwnS W (g+1) W.heap.size 2 1 enI u2 b.2
 lo:g<g8∧g8+1<g10
section
variable {w1 w2 W W':World} {g cp:Nat} {A:Option Addr} {xs:List Int} {st st':Nat × Int} {g8 g10:Nat} {v:Vr} {u1 u2:Value} {b:Bd} {r:Int × Int}
theorem Lw.next (K:Lw w1 w2 g A cp xs st g8 g10 v u1 u2 b r W) (hD:Dx w1 g g A cp xs st' W') (hg:W.grownBy W' (some g)):Lw w1 w2 g A cp xs st' g8 g10 v u1 u2 b r W':=by
 have l:=K.lo;have c:∀ k,some g=some k->k=g:=λ k h=>by simpa using h.symm
 exact⟨hD,grownBy_trans K.gr hg,K.r8.grown hg (λ k a=>by have:=c k a;omega),K.r9.grown hg (λ k a=>by have:=c k a;omega),K.r10.grown hg (λ k a=>by have:=c k a;omega),(K.o1.grown hg (λ k a=>by have:=c k a;omega)).more hg.size,(K.o2.grown hg (λ k a=>by have:=c k a;omega)).more hg.size,l⟩
end
theorem own_sl {W:World} {lo:Nat} {u:Value} {l:List Int} (h:OwnS W lo W.heap.size 2 1 enI u l):SlV 1 enI W (λ _=>True) u l:=by
 obtain⟨A,c,e,a⟩:=h.form enI_len;refine⟨A,c,e,RdF.of a (Nat.le_refl _) (λ _ _=>trivial),λ b=>?_⟩;subst b;rcases h.cases_ with ⟨e2,-⟩ | ⟨g,cap,rest,e2,-⟩
 ·rw [e] at e2;simp at e2;exact e2.2
 ·rw [e] at e2;simp at e2
structure Q8 (w:World) (g g8 g10:Nat) (v:Vr) (u1 u2:Value) (b:Bd) (r:Int × Int) (W:World):Prop where
 bel:Below w.heap.size w W
 r8:RowB W g8 25 (vL v)
 r9:RowB W (g8+1) 28 [u1,u2]
 r10:RowB W g10 30 [.int .i64 r.1,.int .i64 r.2]
 o1:OwnS W (g+1) W.heap.size 2 1 enI u1 b.1
 o2:OwnS W (g+1) W.heap.size 2 1 enI u2 b.2
 lo:w.heap.size+4=g∧g<g8∧g8+1<g10
section
variable {w W W':World} {g g8 g10:Nat} {v:Vr} {u1 u2:Value} {b:Bd} {r:Int × Int}
theorem Q8.put (F:Q8 w g g8 g10 v u1 u2 b r W) {q:Nat} (hq:w.heap.size<=q∧q<=w.heap.size+3) (hg:W.grownBy W' (some q)):Q8 w g g8 g10 v u1 u2 b r W'∧∀ k e cs,k≠q->RowB W k e cs->RowB W' k e cs:=by
 have l:=F.lo;have c:∀ k,some q=some k->k=q:=λ k h=>by simpa using h.symm
 have d:=F.bel.size;exact⟨⟨F.bel.grown hg d (λ k a=>by have:=c k a;omega),F.r8.grown hg (λ k a=>by have:=c k a;omega),F.r9.grown hg (λ k a=>by have:=c k a;omega),F.r10.grown hg (λ k a=>by have:=c k a;omega),(F.o1.grown hg (λ k a=>by have:=c k a;omega)).more hg.size,(F.o2.grown hg (λ k a=>by have:=c k a;omega)).more hg.size,l⟩,λ k e cs a h=>h.grown hg (λ j f=>by have:=c j f;omega)⟩
end
structure R8F (w:World) (g g8 g10:Nat) (v:Vr) (u1 u2:Value) (b:Bd) (r:Int × Int) (p2 p3 p4 p5:Prop) (W:World):Prop where
 q:Q8 w g g8 g10 v u1 u2 b r W
 x2:∃ a b' c d,RowB W w.heap.size 25 [a,b',c,d]∧(p2->[a,b',c,d]=[.int .i64 v.p,.int .i64 v.c,.int .i64 v.h,.int .i64 v.s])
 x3:∃ a c,RowB W (w.heap.size+1) 28 [a,c]∧(p3->[a,c]=[u1,u2])
 x4:∃ a c,RowB W (w.heap.size+2) 30 [a,c]∧(p4->[a,c]=[.int .i64 r.1,.int .i64 r.2])
 x5:∃ a c,RowB W (w.heap.size+3) 28 [a,c]∧(p5->IsSl a∧IsSl c)
section
variable {w W W':World} {g g8 g10:Nat} {v:Vr} {u1 u2:Value} {b:Bd} {r:Int × Int} {p2 p3 p4 p5:Prop} {L:Nat->Prop}
theorem R8F.s2 (F:R8F w g g8 g10 v u1 u2 b r p2 p3 p4 p5 W) (hg:W.grownBy W' (some w.heap.size)) (hr:RowB W' w.heap.size 25 (vL v)):R8F w g g8 g10 v u1 u2 b r True p3 p4 p5 W':=by
 obtain⟨Q,a⟩:=F.q.put (by omega) hg;obtain⟨o,l,e,i⟩:=F.x3;obtain⟨n,k,d,h⟩:=F.x4;obtain⟨m,j,c,f⟩:=F.x5;exact⟨Q,⟨_,_,_,_,hr,λ _=>rfl⟩,⟨_,_,a _ _ _ (by omega) e,i⟩,⟨_,_,a _ _ _ (by omega) d,h⟩,⟨_,_,a _ _ _ (by omega) c,f⟩⟩
theorem R8F.s3 (F:R8F w g g8 g10 v u1 u2 b r p2 p3 p4 p5 W) (hg:W.grownBy W' (some (w.heap.size+1))) (hr:RowB W' (w.heap.size+1) 28 [u1,u2]):R8F w g g8 g10 v u1 u2 b r p2 True p4 p5 W':=by
 obtain⟨Q,a⟩:=F.q.put (by omega) hg;obtain⟨s,n,m,j,e,i⟩:=F.x2;obtain⟨p,l,d,h⟩:=F.x4;obtain⟨o,k,c,f⟩:=F.x5;exact⟨Q,⟨_,_,_,_,a _ _ _ (by omega) e,i⟩,⟨_,_,hr,λ _=>rfl⟩,⟨_,_,a _ _ _ (by omega) d,h⟩,⟨_,_,a _ _ _ (by omega) c,f⟩⟩
theorem R8F.s4 (F:R8F w g g8 g10 v u1 u2 b r p2 p3 p4 p5 W) (hg:W.grownBy W' (some (w.heap.size+2))) (hr:RowB W' (w.heap.size+2) 30 [.int .i64 r.1,.int .i64 r.2]):R8F w g g8 g10 v u1 u2 b r p2 p3 True p5 W':=by
 obtain⟨Q,a⟩:=F.q.put (by omega) hg;obtain⟨s,n,m,j,e,i⟩:=F.x2;obtain⟨p,l,d,h⟩:=F.x3;obtain⟨o,k,c,f⟩:=F.x5;exact⟨Q,⟨_,_,_,_,a _ _ _ (by omega) e,i⟩,⟨_,_,a _ _ _ (by omega) d,h⟩,⟨_,_,hr,λ _=>rfl⟩,⟨_,_,a _ _ _ (by omega) c,f⟩⟩
theorem R8F.s5 (F:R8F w g g8 g10 v u1 u2 b r p2 p3 p4 p5 W) {a c:Value} (h1:IsSl a∧IsSl c) (hg:W.grownBy W' (some (w.heap.size+3))) (hr:RowB W' (w.heap.size+3) 28 [a,c]):R8F w g g8 g10 v u1 u2 b r p2 p3 p4 True W':=by
 obtain⟨Q,d⟩:=F.q.put (by omega) hg;obtain⟨x,p,o,l,h,k⟩:=F.x2;obtain⟨t,n,f,j⟩:=F.x3;obtain⟨s,m,e,i⟩:=F.x4;exact⟨Q,⟨_,_,_,_,d _ _ _ (by omega) h,k⟩,⟨_,_,d _ _ _ (by omega) f,j⟩,⟨_,_,d _ _ _ (by omega) e,i⟩,⟨_,_,hr,λ _=>h1⟩⟩
theorem R8F.imp (F:R8F w g g8 g10 v u1 u2 b r p2 p3 p4 p5 W) {q2 q3 q4 q5:Prop} (h2:q2->p2) (h3:q3->p3) (h4:q4->p4) (h5:q5->p5):R8F w g g8 g10 v u1 u2 b r q2 q3 q4 q5 W:=by
 obtain⟨z,s,p,l,e,k⟩:=F.x2;obtain⟨y,o,d,j⟩:=F.x3;obtain⟨x,n,c,i⟩:=F.x4;obtain⟨t,m,a,f⟩:=F.x5;exact⟨F.q,⟨_,_,_,_,e,λ h=>k (h2 h)⟩,⟨_,_,d,λ h=>j (h3 h)⟩,⟨_,_,c,λ h=>i (h4 h)⟩,⟨_,_,a,λ h=>f (h5 h)⟩⟩
theorem R8F.draw (F:R8F w g g8 g10 v u1 u2 b r p2 p3 p4 p5 W) (hg:W.grownBy W' (some g)):R8F w g g8 g10 v u1 u2 b r p2 p3 p4 p5 W':=by
 have l:=F.q.lo;have d:∀ k,some g=some k->k=g:=λ k h=>by simpa using h.symm
 have o:=F.q.bel.size;obtain⟨J,E,D,z,n,y⟩:=F.x2;obtain⟨I,C,m,x⟩:=F.x3;obtain⟨H,B,i,t⟩:=F.x4;obtain⟨G,A,f,s⟩:=F.x5;have a:∀ {k e cs},k≠g->RowB W k e cs->RowB W' k e cs:=λ c h=>h.grown hg (λ j p=>by have:=d j p;omega)
 have Q:=F.q;exact⟨⟨Q.bel.grown hg o (λ k c=>by have:=d k c;omega),a (by omega) Q.r8,a (by omega) Q.r9,a (by omega) Q.r10,(Q.o1.grown hg (λ k c=>by have:=d k c;omega)).more hg.size,(Q.o2.grown hg (λ k c=>by have:=d k c;omega)).more hg.size,l⟩,⟨_,_,_,_,a (by omega) n,y⟩,⟨_,_,a (by omega) m,x⟩,⟨_,_,a (by omega) i,t⟩,⟨_,_,a (by omega) f,s⟩⟩
theorem R8F.below (F:R8F w g g8 g10 v u1 u2 b r p2 p3 p4 p5 W) (hb:Below W.heap.size W W'):R8F w g g8 g10 v u1 u2 b r p2 p3 p4 p5 W':=F.draw (grown_bel hb)
theorem R8F.skip {i:Nat} (F:R8F w g g8 g10 v u1 u2 b r (L i) (L (i+1)) (L (i+2)) (L (i+3)) W) (k:Nat) (h:i≠k∧i+1≠k∧i+2≠k∧i+3≠k:=by decide):R8F w g g8 g10 v u1 u2 b r (i=k∨L i) (i+1=k∨L (i+1)) (i+2=k∨L (i+2)) (i+3=k∨L (i+3)) W :=
 F.imp (·.resolve_left h.1) (·.resolve_left h.2.1) (·.resolve_left h.2.2.1) (·.resolve_left h.2.2.2)
end
theorem apl_pos {v:Vr} {b:Bd} {x y:Int} {R:List Pl × Int} (h:APl v b x y=R) (hz:R.2=0):0<R.1.length:=by
 unfold APl at h;split at h
 ·subst h;simp at hz
 ·rename_i h1
  split at h
  ·subst h;simp at hz
  ·rename_i h2
   split at h
   ·subst h;simp at hz
   ·subst h;have c:Ok v b:=okB_iff.1 (by simpa using h1);have a:=roll6 c (show rollB v x y=true by simpa using h2);exact(allP_ok c a.1.1 a.2.1).2
structure R7F (w1 wE:World) (A:Option Addr) (cp:Nat) (xs:List Int) (s5:Nat × Int) (w:World) (g g8 g10:Nat) (v:Vr) (u1 u2:Value) (b:Bd) (r:Int × Int) (p7 p2 p3 p4 p5:Prop) (W:World):Prop where
 d:¬ p7->Dx w1 g g A cp xs s5 W
 f:R8F w g g8 g10 v u1 u2 b r p2 p3 p4 p5 W
 c:Still (λ b=>g<b) wE W
theorem R7F.skip {w1 wE w W:World} {g cp:Nat} {A:Option Addr} {xs:List Int} {s5:Nat × Int} {g8 g10:Nat} {v:Vr} {u1 u2:Value} {b:Bd} {r:Int × Int} {L:Nat->Prop} (F:R7F w1 wE A cp xs s5 w g g8 g10 v u1 u2 b r (L 7) (L 12) (L 13) (L 14) (L 15) W) (k:Nat) (h:7≠k∧12≠k∧13≠k∧14≠k∧15≠k:=by decide):R7F w1 wE A cp xs s5 w g g8 g10 v u1 u2 b r (7=k∨L 7) (12=k∨L 12) (13=k∨L 13) (14=k∨L 14) (15=k∨L 15) W:=by
 rw [or_ne h.1,or_ne h.2.1,or_ne h.2.2.1,or_ne h.2.2.2.1,or_ne h.2.2.2.2];exact F
def LEnd (xs:List Int) (w:World) (e:Ending) (w':World):Prop :=
 ∃(v:Vr) (b:Bd) (r:Int × Int) (d:Int) (u1 u2 a1 a2:Value),e=.returned (.tuple #[.agg #[.int .i64 v.p,.int .i64 v.c,.int .i64 v.h,.int .i64 v.s],.agg #[u1,u2],.agg #[.int .i64 r.1,.int .i64 r.2],.agg #[a1,a2],.int .i64 d])∧hd29 xs=(v,b,r,d)∧(OwnS w' w.heap.size w'.heap.size 2 1 enI u1 b.1∧OwnS w' w.heap.size w'.heap.size 2 1 enI u2 b.2)∧(IsSl a1∧IsSl a2)∧Below w.heap.size w w'
theorem dl29_x {w:World} {cp:Nat} {A:Option Addr} {xs:List Int} (hr:RdS w w.heap.size 1 enB A xs) (hw:∀ x ∈ xs,(Lit.int .u8 x).wf=true) :
  Calls Tryz.prog 77 #[.slice A xs.length cp] w λ e w'=>LEnd xs w e w':=by
 have bm:=kD hr;have HW:=kD hw;go_enter Tryz.func77,Tryz.ntmps77;go_upto_region 1 with fail;refine wp_gen (λ W'=>(RowB W' w.heap.size 25 [.int .i64 0,.int .i64 0,.int .i64 0,.int .i64 0]∧RowB W' (w.heap.size+1) 28 [.slice none 0 0,.slice none 0 0]∧RowB W' (w.heap.size+2) 30 [.int .i64 0,.int .i64 0]∧RowB W' (w.heap.size+3) 28 [.slice none 0 0,.slice none 0 0])∧Below w.heap.size w W'∧w.heap.size+4=W'.heap.size) ⟨⟨((RowB.new _ _ _).alloc _ |>.alloc _).alloc _,((RowB.new' _ _ _ (by simp)).alloc _).alloc _,(RowB.new' _ _ _ (by simp)).alloc _,RowB.new' _ _ _ (by simp)⟩,by go_grown,by simp⟩ ?_;rintro w1 ⟨⟨R2,R3,R4,R5⟩,Z,aj⟩;have h1:=((hr.below Z (Nat.le_refl _)).more Z.size);clear hr hw;go_wp2_with fail;refine(newX h1 HW.out).mono ?_;rintro e w2 ⟨rfl,P⟩;have aW:=P.lt;have aQ:=kD Z;have aO:=kD (show _∧_∧_∧_ from⟨R2,R3,R4,R5⟩);obtain⟨g,O⟩:∃ q,w1.heap.size=q:=⟨_,rfl⟩;have HG:=kD O;rw [O] at P aW aj ⊢;have aH:w.heap.size+4=g:=aj;have a7:=kD aH;have HD:=kD P;clear aH aj P O h1 Z R2 R3 R4 R5;go_wp2_with fail;refine(d15_x HD.out).mono ?_;rintro e w3 ⟨v,b,s1,u1,u2,rfl,⟨hv,aT⟩,⟨o1,o2⟩,P,ac⟩;have HV:=kD hv;have ay:=ac.size;clear HD hv;obtain⟨X1,d1,rfl,-⟩:=o1.form enI_len;obtain⟨X2,d2,rfl,-⟩:=o2.form enI_len;obtain⟨Y,ap⟩:∃ n,b.1.length=n:=⟨_,rfl⟩;obtain⟨X,ao⟩:∃ n,b.2.length=n:=⟨_,rfl⟩;rw [ap] at o1 ⊢;rw [ao] at o2 ⊢;have bo:=kD ap;have bn:=kD ao;clear ap ao;go_upto_region 3 with fail;refine wp_gen (λ W'=>Below w3.heap.size w3 W'∧RowB W' w3.heap.size 25 [.int .i64 v.p,.int .i64 v.c,.int .i64 v.h,.int .i64 v.s]∧RowB W' (w3.heap.size+1) 28 [.slice X1 Y d1,.slice X2 X d2]) ⟨by go_grown,(RowB.new _ _ _).alloc _,RowB.new' _ _ _ (by simp)⟩ ?_;obtain⟨g8,ah⟩:∃ q,w3.heap.size=q:=⟨_,rfl⟩;have bp:=kD ah;rw [ah];rw [ah] at ay;rintro w4 ⟨M,R8,R9⟩;rw [<-ah] at M;have P:=P.below M P.lt;have ac:=grownBy_trans ac (grown_bel M);have o1:=((o1.less (lo':=g+1) (by omega)).below M (Nat.le_refl _)).more M.size;have o2:=((o2.less (lo':=g+1) (by omega)).below M (Nat.le_refl _)).more M.size;have aI:g<g8:=by omega
 clear M ah;obtain⟨q0,q1,q2,q3⟩:=R8.c4;have I:=R8.lt;go_wp2_with fail;refine(roll_x v aT P).mono ?_;rintro e w5 ⟨r,s2,rfl,az,P,O⟩;have aP:=kD az;have ag:∀ k,some g=some k->k=g:=λ k h=>by simpa using h.symm
 have R8:=R8.grown O (λ k hk=>by have:=ag k hk;omega);have R9:=R9.grown O (λ k hk=>by have:=ag k hk;omega);have o1:=(o1.grown O (λ k hk=>by have:=ag k hk;omega)).more O.size;have o2:=(o2.grown O (λ k hk=>by have:=ag k hk;omega)).more O.size;have ac:=grownBy_trans ac O;have H:=R9.lt;clear O q0 q1 q2 q3 I az ag;obtain⟨W,V⟩:=r;go_upto_region 4 with fail;refine wp_gen (λ W'=>Below w5.heap.size w5 W'∧RowB W' w5.heap.size 30 [.int .i64 W,.int .i64 V]) ⟨by go_grown,RowB.new _ _ _⟩ ?_;obtain⟨ab,ad⟩:∃ q,w5.heap.size=q:=⟨_,rfl⟩;rw [ad];rw [ad] at H;rintro w6 ⟨M,aN⟩;rw [<-ad] at M;have K:Lw w1 w2 g A cp xs s2 g8 ab v (.slice X1 Y d1) (.slice X2 X d2) b (W,V) w6:=⟨P.below M P.lt,grownBy_trans ac (grown_bel M),R8.below M R8.lt,R9.below M R9.lt,aN,(o1.below M (Nat.le_refl _)).more M.size,(o2.below M (Nat.le_refl _)).more M.size,aI,H⟩;clear M ad P ac R8 R9 aN o1 o2 ay;go_wp2_with fail;refine(nextX K.D 2 (by decide)).mono ?_;rintro e w7 ⟨a,s3,⟨rfl,a0,a1,-,na⟩,P,O,-⟩;have a1:=a1 (by decide);have K:=K.next P O;clear P O;go_wp2_with fail;refine(nextX K.D 24 (by decide)).mono ?_;rintro e w8 ⟨c,s4,⟨rfl,c0,c1,-,nc⟩,P,O,-⟩;have c1:=c1 (by decide);have K:=K.next P O;have HH:=kD (hd29_of HV.out aP.out na nc);have ht:Int.tdiv c 23=c / 23:=by rw [Int.tdiv_eq_ediv_of_nonneg (by omega)]
 have aR:IntKind.i64.wrap (c / 23)=c / 23:=IntWalk.i64_in _ (by omega);obtain⟨d,hd⟩:∃ d,a+c / 23=d:=⟨_,rfl⟩;have aS:IntKind.i64.wrap (a+c / 23)=d:=by rw [IntWalk.i64_in _ (by omega)];exact hd
 rw [hd] at HH;clear P O hd na nc HV aP;go_upto_region 5 with fail;clear ht aR aS a0 a1 c0 c1;have RR:=aO.out;have hq:Q8 w g g8 ab v (.slice X1 Y d1) (.slice X2 X d2) b (W,V) w8:=by
  have M:Below w1.heap.size w1 w8:=by rw [HG.out];exact K.D.bel
  exact⟨aQ.out.trans (M.mono aQ.out.size),K.r8,K.r9,K.r10,K.o1,K.o2,⟨a7.out,K.lo.1,K.lo.2⟩⟩
 have aK:BdR w8 (λ _=>True) (.slice X1 Y d1) (.slice X2 X d2) b:=⟨own_sl K.o1,own_sl K.o2⟩;have Z:Below w1.heap.size w1 w8:=by rw [HG.out];exact K.D.bel
 have HX:=kD (show R8F w g g8 ab v (.slice X1 Y d1) (.slice X2 X d2) b (W,V) False False False False w8 from⟨hq,⟨_,_,_,_,RR.1.below Z RR.1.lt,λ h=>h.elim⟩,⟨_,_,RR.2.1.below Z RR.2.1.lt,λ h=>h.elim⟩,⟨_,_,RR.2.2.1.below Z RR.2.2.1.lt,λ h=>h.elim⟩,⟨_,_,RR.2.2.2.below Z RR.2.2.2.lt,λ h=>h.elim⟩⟩);obtain⟨R,hR⟩:∃ R,APl v b W V=R:=⟨_,rfl⟩;have CP:=kD (plays_s v b _ _ _ W V R hR w8 aK);obtain⟨q0,q1,q2,q3⟩:=K.r8.c4;obtain⟨y0,y1⟩:=K.r9.c2;obtain⟨t0,T⟩:=K.r10.c2;have I:=K.r8.lt;have H:=K.r9.lt;have E:=K.r10.lt;have HD:=kD K.D;clear K hq aK Z RR aO;go_wp2_with fail;refine CP.out.mono ?_;rintro e J ⟨pv,rfl,an,M⟩;clear q0 q1 q2 q3 y0 y1 t0 T I H E CP;have HX:=kD (HX.out.below M);have a9:=HD.out.lt;have HD:=kD (HD.out.below M HD.out.lt);go_upto_region 6 with fail;by_cases hz:R.2=0
 ·have ez:(R.2 == 0)=true:=by simp [hz]
  go_wp2_with fail;refine(nextX HD.out 8 (by decide)).mono ?_;rintro e wE ⟨t,s5,⟨rfl,t0,T,-,-⟩,P,O,-⟩;have HX:=kD (HX.out.draw O);have HD:=kD P;by_cases ht:0<t
  ·have et:decide (0<t)=true:=decide_eq_true ht;have ai:=apl_pos hR hz;obtain⟨rs,am,aq⟩:=an;obtain⟨N,hN⟩:∃ n,rs.length=n:=⟨_,rfl⟩;have bc:0<N:=by rw [<-hN,aq.1];exact ai
   obtain⟨z,s6,NZ⟩:=HD.out.gd.nb (N:Int);have z0:=NZ.ge;have z1:=NZ.lt (by omega);obtain⟨k,rfl⟩:∃ k:Nat,z=k:=⟨z.toNat,by omega⟩;have bb:k<N:=by omega
   have a6:=kD NZ;obtain⟨⟨ra,rb,rc⟩,ak⟩:∃ p,rs[k]?=some p:=⟨rs[k]'(by omega),List.getElem?_eq_getElem _⟩;obtain⟨C,cq,aA,al,aa⟩:=own_at enP_len am ak;rw [hN] at aA;subst aA;obtain⟨pq,aV,hrel⟩:=aq.at_ ak;obtain⟨A5,m5,e5,-,-⟩:=hrel.2.1;obtain⟨A6,m6,e6,-,-⟩:=hrel.2.2;simp only at e5 e6;subst e5 e6;obtain⟨n5,aC⟩:∃ n,pq.2.1.length=n:=⟨_,rfl⟩;obtain⟨n6,aB⟩:∃ n,pq.2.2.length=n:=⟨_,rfl⟩;have ba:N<=9223372036854775807:=by obtain⟨_,_,_,aU⟩:=am.form enP_len;have:=aU.len;omega
   rw [aC,aB] at aa;have af:=al.2;have a8:=al.1;have G:g<C:=by omega
   have B:=Nat.lt_of_lt_of_le af O.size;have S:=kD ((World.cell?_of_block (a:=⟨C,k*3+1,none⟩) (O.block C af (by simp;omega))).trans (aa 1 _ rfl));have Q:=kD ((World.cell?_of_block (a:=⟨C,k*3+2,none⟩) (O.block C af (by simp;omega))).trans (aa 2 _ rfl));clear P O M T aa hrel aV aq ak am aC aB al ai hN z0 z1 NZ;go_upto_region 7 with fail;refine region_rel [some 44,some 45,some 46,some 47,some 48,some 49,some 50,some 51,some 52,some 53,some 54,some 55,none,none,none,none,some 6] 17 (Pl [some (.agg #[.int .i64 v.p,.int .i64 v.c,.int .i64 v.h,.int .i64 v.s]),some (.agg #[.slice X1 Y d1,.slice X2 X d2]),some (.agg #[.int .i64 W,.int .i64 V]),some (.slice (some ⟨C,0,none⟩) N cq),some (.pointer (some ⟨g,0,none⟩)),some (.slice (some ⟨C,0,none⟩) N cq),some (.int .i64 (N:Int)),some (.int .i64 (k:Int)),some (.pointer (some ⟨C,k*3,none⟩)),some (.pointer (some ⟨C,k*3+1,none⟩)),some (.agg #[.slice A5 n5 m5,.slice A6 n6 m6]),some (.int .i64 d),none,none,none,none,some (.int .i64 d)]) (λ L j w'=>R7F w1 wE A cp xs s5 w g g8 ab v (.slice X1 Y d1) (.slice X2 X d2) b (W,V) (L 7) (L 12) (L 13) (L 14) (L 15) w') (by kernel_rfl) (by kernel_rfl) (by kernel_rfl) (by kernel_rfl) (by kernel_rfl) (by kernel_rfl) (by first | kernel_rfl | rfl) ?g0_3 ?gst_3 ?gfin_3
   case g0_3=>exact⟨λ _=>HD.out.below (Below.refl _ _).drew HD.out.lt,((HX.out.below (Below.refl _ _).drew).imp (λ h=>absurd h (by decide)) (λ h=>absurd h (by decide)) (λ h=>absurd h (by decide)) (λ h=>absurd h (by decide))),.below (Below.refl _ _).drew⟩
   case gst_3 =>
    refine rN rfl (λ L j A J m l o U F K y=>?_) ?_
    ·have e8:=U.w 8 (.pointer (some ⟨g8,0,none⟩));obtain⟨q0,q1,q2,q3⟩:=F.f.q.r8.c4;have y0:=F.f.q.r9.c2.1;have y1:=F.f.q.r9.c2.2;have t0:=F.f.q.r10.c2.1;have T:=F.f.q.r10.c2.2;have I:=F.f.q.r8.lt;have H:=F.f.q.r9.lt;have E:=F.f.q.r10.lt;have c1:=(World.cell?_of_block (a:=⟨C,k*3+1,none⟩) (F.c.2 C G B)).trans S.out;have c2:=(World.cell?_of_block (a:=⟨C,k*3+2,none⟩) (F.c.2 C G B)).trans Q.out;have ae:=Nat.lt_of_lt_of_le B F.c.1
     skip
     go_simp;exact pF y (F.skip 0 (by decide))
    refine rN rfl (λ L j A J m l o U F K y=>?_) ?_
    ·have e9:=U.w 9 (.pointer (some ⟨g8+1,0,none⟩));obtain⟨q0,q1,q2,q3⟩:=F.f.q.r8.c4;have y0:=F.f.q.r9.c2.1;have y1:=F.f.q.r9.c2.2;have t0:=F.f.q.r10.c2.1;have T:=F.f.q.r10.c2.2;have I:=F.f.q.r8.lt;have H:=F.f.q.r9.lt;have E:=F.f.q.r10.lt;have c1:=(World.cell?_of_block (a:=⟨C,k*3+1,none⟩) (F.c.2 C G B)).trans S.out;have c2:=(World.cell?_of_block (a:=⟨C,k*3+2,none⟩) (F.c.2 C G B)).trans Q.out;have ae:=Nat.lt_of_lt_of_le B F.c.1
     skip
     go_simp;exact pF y (F.skip 1 (by decide))
    refine rN rfl (λ L j A J m l o U F K y=>?_) ?_
    ·have aM:=U.w 10 (.pointer (some ⟨ab,0,none⟩));obtain⟨q0,q1,q2,q3⟩:=F.f.q.r8.c4;have y0:=F.f.q.r9.c2.1;have y1:=F.f.q.r9.c2.2;have t0:=F.f.q.r10.c2.1;have T:=F.f.q.r10.c2.2;have I:=F.f.q.r8.lt;have H:=F.f.q.r9.lt;have E:=F.f.q.r10.lt;have c1:=(World.cell?_of_block (a:=⟨C,k*3+1,none⟩) (F.c.2 C G B)).trans S.out;have c2:=(World.cell?_of_block (a:=⟨C,k*3+2,none⟩) (F.c.2 C G B)).trans Q.out;have ae:=Nat.lt_of_lt_of_le B F.c.1
     skip
     go_simp;exact pF y (F.skip 2 (by decide))
    refine rN rfl (λ L j A J m l o U F K y=>?_) ?_
    ·have a4:=U.w 12 (.slice (some ⟨C,0,none⟩) N cq);have c1:=(World.cell?_of_block (a:=⟨C,k*3+1,none⟩) (F.c.2 C G B)).trans S.out;have c2:=(World.cell?_of_block (a:=⟨C,k*3+2,none⟩) (F.c.2 C G B)).trans Q.out;go_simp;exact pF y (F.skip 3 (by decide))
    refine rN rfl (λ L j A J m l o U F K y=>?_) ?_
    ·have e7:=U.w 7 (.pointer (some ⟨g,0,none⟩));obtain⟨q0,q1,q2,q3⟩:=F.f.q.r8.c4;have y0:=F.f.q.r9.c2.1;have y1:=F.f.q.r9.c2.2;have t0:=F.f.q.r10.c2.1;have T:=F.f.q.r10.c2.2;have I:=F.f.q.r8.lt;have H:=F.f.q.r9.lt;have E:=F.f.q.r10.lt;have c1:=(World.cell?_of_block (a:=⟨C,k*3+1,none⟩) (F.c.2 C G B)).trans S.out;have c2:=(World.cell?_of_block (a:=⟨C,k*3+2,none⟩) (F.c.2 C G B)).trans Q.out;have ae:=Nat.lt_of_lt_of_le B F.c.1
     skip
     go_simp;exact pF y (F.skip 4 (by decide))
    refine rN rfl (λ L j A J m l o U F K y=>?_) ?_
    ·have a4:=U.w 12 (.slice (some ⟨C,0,none⟩) N cq);have c1:=(World.cell?_of_block (a:=⟨C,k*3+1,none⟩) (F.c.2 C G B)).trans S.out;have c2:=(World.cell?_of_block (a:=⟨C,k*3+2,none⟩) (F.c.2 C G B)).trans Q.out;go_simp;exact pF y (F.skip 5 (by decide))
    refine rN rfl (λ L j A J m l o U F K y=>?_) ?_
    ·have bj:=U.v 5 49;have c1:=(World.cell?_of_block (a:=⟨C,k*3+1,none⟩) (F.c.2 C G B)).trans S.out;have c2:=(World.cell?_of_block (a:=⟨C,k*3+2,none⟩) (F.c.2 C G B)).trans Q.out;go_simp;exact pF y (F.skip 6 (by decide))
    refine rN rfl (λ L j A J m l o U F K y=>?_) ?_
    ·have bk:=U.v 4 48;have bi:=U.v 6 50;have P:=F.d m;go_simp;refine(nextK P a6.out.nx (by omega)).mono ?_;rintro e w6 ⟨rfl,bd,aJ,-⟩;exact pF y ⟨λ h=>absurd (.inl rfl) h,(F.f.draw aJ).imp (·.resolve_left (by decide)) (·.resolve_left (by decide)) (·.resolve_left (by decide)) (·.resolve_left (by decide)),F.c.trans (Still.grown aJ (λ k hk hs=>by simp at hk;omega))⟩
    refine rN rfl (λ L j A J m l o U F K y=>?_) ?_
    ·have bl:=U.v 3 47;have bh:=U.v 7 51;have c1:=(World.cell?_of_block (a:=⟨C,k*3+1,none⟩) (F.c.2 C G B)).trans S.out;have c2:=(World.cell?_of_block (a:=⟨C,k*3+2,none⟩) (F.c.2 C G B)).trans Q.out;go_simp;exact pF y (F.skip 8 (by decide))
    refine rN rfl (λ L j A J m l o U F K y=>?_) ?_
    ·have bg:=U.v 8 52;obtain⟨q0,q1,q2,q3⟩:=F.f.q.r8.c4;have y0:=F.f.q.r9.c2.1;have y1:=F.f.q.r9.c2.2;have t0:=F.f.q.r10.c2.1;have T:=F.f.q.r10.c2.2;have I:=F.f.q.r8.lt;have H:=F.f.q.r9.lt;have E:=F.f.q.r10.lt;have c1:=(World.cell?_of_block (a:=⟨C,k*3+1,none⟩) (F.c.2 C G B)).trans S.out;have c2:=(World.cell?_of_block (a:=⟨C,k*3+2,none⟩) (F.c.2 C G B)).trans Q.out;have ae:=Nat.lt_of_lt_of_le B F.c.1
     skip
     go_simp;exact pF y (F.skip 9 (by decide))
    refine rN rfl (λ L j A J m l o U F K y=>?_) ?_
    ·have bf:=U.v 9 53;obtain⟨q0,q1,q2,q3⟩:=F.f.q.r8.c4;have y0:=F.f.q.r9.c2.1;have y1:=F.f.q.r9.c2.2;have t0:=F.f.q.r10.c2.1;have T:=F.f.q.r10.c2.2;have I:=F.f.q.r8.lt;have H:=F.f.q.r9.lt;have E:=F.f.q.r10.lt;have c1:=(World.cell?_of_block (a:=⟨C,k*3+1,none⟩) (F.c.2 C G B)).trans S.out;have c2:=(World.cell?_of_block (a:=⟨C,k*3+2,none⟩) (F.c.2 C G B)).trans Q.out;have ae:=Nat.lt_of_lt_of_le B F.c.1
     skip
     go_simp;exact pF y (F.skip 10 (by decide))
    refine rN rfl (λ L j A J m l o U F K y=>?_) ?_
    ·have aL:=U.w 11 (.int .i64 d);have c1:=(World.cell?_of_block (a:=⟨C,k*3+1,none⟩) (F.c.2 C G B)).trans S.out;have c2:=(World.cell?_of_block (a:=⟨C,k*3+2,none⟩) (F.c.2 C G B)).trans Q.out;go_simp;exact pF y (F.skip 11 (by decide))
    refine rN rfl (λ L j A J m l o U F K y=>?_) ?_
    ·have e2:=U.w 2 (.pointer (some ⟨w.heap.size,0,none⟩));have a3:=U.v 0 44;obtain⟨_,_,_,_,h,-⟩:=F.f.x2;refine wp_sm 25 _ _ rfl (w.heap.size) 0 [.int .i64 v.p,.int .i64 v.c,.int .i64 v.h,.int .i64 v.s] _ (ev e2) (ev a3) 25 h (by kernel_rfl) (Nat.le_refl _) rfl ?_;exact y.out undef _ (Pl.any rfl) ⟨λ h=>absurd (.inr (bK l 7)) h,((F.f.s2 (grown_cells _ _ _ _) (row_cells _ _ _ _ h)).imp (λ _=>trivial) (·.resolve_left (by decide)) (·.resolve_left (by decide)) (·.resolve_left (by decide))),F.c.trans (Still.grown (grown_cells _ _ _ _) (λ k hk hs=>by simp at hk;have:=F.f.q.lo;omega))⟩
    refine rN rfl (λ L j A J m l o U F K y=>?_) ?_
    ·have e3:=U.w 3 (.pointer (some ⟨w.heap.size+1,0,none⟩));have a2:=U.v 1 45;obtain⟨_,_,h,-⟩:=F.f.x3;refine wp_sm 28 _ _ rfl (w.heap.size+1) 0 [.slice X1 Y d1,.slice X2 X d2] _ (ev e3) (ev a2) 28 h (by kernel_rfl) (Nat.le_refl _) rfl ?_;exact y.out undef _ (Pl.any rfl) ⟨λ h=>absurd (.inr (bK l 7)) h,((F.f.s3 (grown_cells _ _ _ _) (row_cells _ _ _ _ h)).imp (·.resolve_left (by decide)) (λ _=>trivial) (·.resolve_left (by decide)) (·.resolve_left (by decide))),F.c.trans (Still.grown (grown_cells _ _ _ _) (λ k hk hs=>by simp at hk;have:=F.f.q.lo;omega))⟩
    refine rN rfl (λ L j A J m l o U F K y=>?_) ?_
    ·have e4:=U.w 4 (.pointer (some ⟨w.heap.size+1+1,0,none⟩));have aZ:=U.v 2 46;obtain⟨_,_,h,-⟩:=F.f.x4;refine wp_sm 30 _ _ rfl (w.heap.size+2) 0 [.int .i64 W,.int .i64 V] _ (ev e4) (ev aZ) 30 h (by kernel_rfl) (Nat.le_refl _) rfl ?_;exact y.out undef _ (Pl.any rfl) ⟨λ h=>absurd (.inr (bK l 7)) h,((F.f.s4 (grown_cells _ _ _ _) (row_cells _ _ _ _ h)).imp (·.resolve_left (by decide)) (·.resolve_left (by decide)) (λ _=>trivial) (·.resolve_left (by decide))),F.c.trans (Still.grown (grown_cells _ _ _ _) (λ k hk hs=>by simp at hk;have:=F.f.q.lo;omega))⟩
    refine rN rfl (λ L j A J m l o U F K y=>?_) ?_
    ·have e5:=U.w 5 (.pointer (some ⟨w.heap.size+1+1+1,0,none⟩));have aY:=U.v 10 54;obtain⟨_,_,h,-⟩:=F.f.x5;refine wp_sm 28 _ _ rfl (w.heap.size+3) 0 [.slice A5 n5 m5,.slice A6 n6 m6] _ (ev e5) (ev aY) 28 h (by kernel_rfl) (Nat.le_refl _) rfl ?_;exact y.out undef _ (Pl.any rfl) ⟨λ h=>absurd (.inr (bK l 7)) h,((F.f.s5 (a:=.slice A5 n5 m5) (c:=.slice A6 n6 m6) (⟨⟨_,_,_,rfl⟩,⟨_,_,_,rfl⟩⟩) (grown_cells _ _ _ _) (row_cells _ _ _ _ h)).imp (·.resolve_left (by decide)) (·.resolve_left (by decide)) (·.resolve_left (by decide)) (λ _=>trivial)),F.c.trans (Still.grown (grown_cells _ _ _ _) (λ k hk hs=>by simp at hk;have:=F.f.q.lo;omega))⟩
    refine rN rfl (λ L j A J m l o U F K y=>?_) ?_
    ·have be:=U.v 11 55;obtain⟨q0,q1,q2,q3⟩:=F.f.q.r8.c4;have y0:=F.f.q.r9.c2.1;have y1:=F.f.q.r9.c2.2;have t0:=F.f.q.r10.c2.1;have T:=F.f.q.r10.c2.2;have I:=F.f.q.r8.lt;have H:=F.f.q.r9.lt;have E:=F.f.q.r10.lt;have c1:=(World.cell?_of_block (a:=⟨C,k*3+1,none⟩) (F.c.2 C G B)).trans S.out;have c2:=(World.cell?_of_block (a:=⟨C,k*3+2,none⟩) (F.c.2 C G B)).trans Q.out;have ae:=Nat.lt_of_lt_of_le B F.c.1
     skip
     go_simp;exact pF y (F.skip 16 (by decide))
    exact RelFrom.nil (by decide)
   intro j wf hp F;simp only [Fr,Act.put,sX,Nat.reduceAdd];have F:=F.f;have h9:j 16=.int .i64 d:=hp 16 (by decide) _ rfl;rw [h9];obtain⟨_,_,_,_,k2,e2⟩:=F.x2;obtain⟨_,_,k3,e3⟩:=F.x3;obtain⟨a5,c5,k5,e5⟩:=F.x5;obtain⟨_,_,k4,e4⟩:=F.x4;rw [e2 trivial] at k2;rw [e3 trivial] at k3;rw [e4 trivial] at k4;have HO:=kD (show _∧_∧_∧_∧_ from⟨F.q.bel,F.q.o1,F.q.o2,F.q.lo,e5 trivial⟩);obtain⟨z0,z1,z2,z3⟩:=k2.c4;obtain⟨z4,z5⟩:=k3.c2;obtain⟨z6,z7⟩:=k4.c2;obtain⟨z8,z9⟩:=k5.c2;have aG:=k2.lt;have aF:=k3.lt;have aE:=k4.lt;have aD:=k5.lt;clear F hp k2 k3 k4 k5 e2 e3 e4 e5 HX HD
   repeat (first | go_values | go_skip | go_step | go_upon)
   refine bodyPost_ret (v:=.tuple #[.agg #[.int .i64 v.p,.int .i64 v.c,.int .i64 v.h,.int .i64 v.s],.agg #[.slice X1 Y d1,.slice X2 X d2],.agg #[.int .i64 W,.int .i64 V],.agg #[a5,c5],.int .i64 d]) (by simp [results,Tryz.results77,go_sem,z0,z1,z2,z3,z4,z5,z6,z7,z8,z9]) rfl ?_;exact⟨v,b,(W,V),d,_,_,a5,c5,rfl,HH.out,⟨HO.out.2.1.less (by have:=HO.out.2.2.2.1.1;omega),HO.out.2.2.1.less (by have:=HO.out.2.2.2.1.1;omega)⟩,HO.out.2.2.2.2,HO.out.1⟩
  ·have et:decide (0<t)=false:=decide_eq_false ht;clear P O T M an;go_upto_region 8 with fail;refine region_rel [some 56,some 57,some 58,some 59,some 60,none,none,none,none,some 6] 10 (Pl [some (.agg #[.int .i64 v.p,.int .i64 v.c,.int .i64 v.h,.int .i64 v.s]),some (.agg #[.slice X1 Y d1,.slice X2 X d2]),some (.agg #[.int .i64 W,.int .i64 V]),some (.agg #[.slice X1 Y d1,.slice X2 X d2]),some (.int .i64 d),none,none,none,none,some (.int .i64 d)]) (λ L j w'=>R8F w g g8 ab v (.slice X1 Y d1) (.slice X2 X d2) b (W,V) (L 5) (L 6) (L 7) (L 8) w') (by kernel_rfl) (by kernel_rfl) (by kernel_rfl) (by kernel_rfl) (by kernel_rfl) (by kernel_rfl) (by first | kernel_rfl | rfl) ?g0_1 ?gst_1 ?gfin_1
   case g0_1=>exact((HX.out.below (Below.refl _ _).drew).imp (λ h=>absurd h (by decide)) (λ h=>absurd h (by decide)) (λ h=>absurd h (by decide)) (λ h=>absurd h (by decide)))
   case gst_1 =>
    refine rN rfl (λ L j A J m l o U F K y=>?_) ?_
    ·have e8:=U.w 8 (.pointer (some ⟨g8,0,none⟩));obtain⟨q0,q1,q2,q3⟩:=F.q.r8.c4;have y0:=F.q.r9.c2.1;have y1:=F.q.r9.c2.2;have t0:=F.q.r10.c2.1;have T:=F.q.r10.c2.2;have I:=F.q.r8.lt;have H:=F.q.r9.lt;have E:=F.q.r10.lt
     skip
     go_simp;exact pF y (F.skip (i:=5) 0 (by decide))
    refine rN rfl (λ L j A J m l o U F K y=>?_) ?_
    ·have e9:=U.w 9 (.pointer (some ⟨g8+1,0,none⟩));obtain⟨q0,q1,q2,q3⟩:=F.q.r8.c4;have y0:=F.q.r9.c2.1;have y1:=F.q.r9.c2.2;have t0:=F.q.r10.c2.1;have T:=F.q.r10.c2.2;have I:=F.q.r8.lt;have H:=F.q.r9.lt;have E:=F.q.r10.lt
     skip
     go_simp;exact pF y (F.skip (i:=5) 1 (by decide))
    refine rN rfl (λ L j A J m l o U F K y=>?_) ?_
    ·have aM:=U.w 10 (.pointer (some ⟨ab,0,none⟩));obtain⟨q0,q1,q2,q3⟩:=F.q.r8.c4;have y0:=F.q.r9.c2.1;have y1:=F.q.r9.c2.2;have t0:=F.q.r10.c2.1;have T:=F.q.r10.c2.2;have I:=F.q.r8.lt;have H:=F.q.r9.lt;have E:=F.q.r10.lt
     skip
     go_simp;exact pF y (F.skip (i:=5) 2 (by decide))
    refine rN rfl (λ L j A J m l o U F K y=>?_) ?_
    ·have e9:=U.w 9 (.pointer (some ⟨g8+1,0,none⟩));obtain⟨q0,q1,q2,q3⟩:=F.q.r8.c4;have y0:=F.q.r9.c2.1;have y1:=F.q.r9.c2.2;have t0:=F.q.r10.c2.1;have T:=F.q.r10.c2.2;have I:=F.q.r8.lt;have H:=F.q.r9.lt;have E:=F.q.r10.lt
     skip
     go_simp;exact pF y (F.skip (i:=5) 3 (by decide))
    refine rN rfl (λ L j A J m l o U F K y=>?_) ?_
    ·have aL:=U.w 11 (.int .i64 d);go_simp;exact pF y (F.skip (i:=5) 4 (by decide))
    refine rN rfl (λ L j A J m l o U F K y=>?_) ?_
    ·have e2:=U.w 2 (.pointer (some ⟨w.heap.size,0,none⟩));have ax:=U.v 0 56;obtain⟨_,_,_,_,h,-⟩:=F.x2;refine wp_sm 25 _ _ rfl (w.heap.size) 0 [.int .i64 v.p,.int .i64 v.c,.int .i64 v.h,.int .i64 v.s] _ (ev e2) (ev ax) 25 h (by kernel_rfl) (Nat.le_refl _) rfl ?_;exact y.out undef _ (Pl.any rfl) (((F.s2 (grown_cells _ _ _ _) (row_cells _ _ _ _ h)).imp (λ _=>trivial) (·.resolve_left (by decide)) (·.resolve_left (by decide)) (·.resolve_left (by decide))))
    refine rN rfl (λ L j A J m l o U F K y=>?_) ?_
    ·have e3:=U.w 3 (.pointer (some ⟨w.heap.size+1,0,none⟩));have aw:=U.v 1 57;obtain⟨_,_,h,-⟩:=F.x3;refine wp_sm 28 _ _ rfl (w.heap.size+1) 0 [.slice X1 Y d1,.slice X2 X d2] _ (ev e3) (ev aw) 28 h (by kernel_rfl) (Nat.le_refl _) rfl ?_;exact y.out undef _ (Pl.any rfl) (((F.s3 (grown_cells _ _ _ _) (row_cells _ _ _ _ h)).imp (·.resolve_left (by decide)) (λ _=>trivial) (·.resolve_left (by decide)) (·.resolve_left (by decide))))
    refine rN rfl (λ L j A J m l o U F K y=>?_) ?_
    ·have e4:=U.w 4 (.pointer (some ⟨w.heap.size+1+1,0,none⟩));have av:=U.v 2 58;obtain⟨_,_,h,-⟩:=F.x4;refine wp_sm 30 _ _ rfl (w.heap.size+2) 0 [.int .i64 W,.int .i64 V] _ (ev e4) (ev av) 30 h (by kernel_rfl) (Nat.le_refl _) rfl ?_;exact y.out undef _ (Pl.any rfl) (((F.s4 (grown_cells _ _ _ _) (row_cells _ _ _ _ h)).imp (·.resolve_left (by decide)) (·.resolve_left (by decide)) (λ _=>trivial) (·.resolve_left (by decide))))
    refine rN rfl (λ L j A J m l o U F K y=>?_) ?_
    ·have e5:=U.w 5 (.pointer (some ⟨w.heap.size+1+1+1,0,none⟩));have ar:=U.v 3 59;obtain⟨_,_,h,-⟩:=F.x5;refine wp_sm 28 _ _ rfl (w.heap.size+3) 0 [.slice X1 Y d1,.slice X2 X d2] _ (ev e5) (ev ar) 28 h (by kernel_rfl) (Nat.le_refl _) rfl ?_;exact y.out undef _ (Pl.any rfl) (((F.s5 (⟨⟨_,_,_,rfl⟩,⟨_,_,_,rfl⟩⟩) (grown_cells _ _ _ _) (row_cells _ _ _ _ h)).imp (·.resolve_left (by decide)) (·.resolve_left (by decide)) (·.resolve_left (by decide)) (λ _=>trivial)))
    refine rN rfl (λ L j A J m l o U F K y=>?_) ?_
    ·have aX:=U.v 4 60;obtain⟨q0,q1,q2,q3⟩:=F.q.r8.c4;have y0:=F.q.r9.c2.1;have y1:=F.q.r9.c2.2;have t0:=F.q.r10.c2.1;have T:=F.q.r10.c2.2;have I:=F.q.r8.lt;have H:=F.q.r9.lt;have E:=F.q.r10.lt
     skip
     go_simp;exact pF y (F.skip (i:=5) 9 (by decide))
    exact RelFrom.nil (by decide)
   intro j wf hp F;simp only [Fr,Act.put,sX,Nat.reduceAdd];have h9:j 9=.int .i64 d:=hp 9 (by decide) _ rfl;rw [h9];obtain⟨_,_,_,_,k2,e2⟩:=F.x2;obtain⟨_,_,k3,e3⟩:=F.x3;obtain⟨a5,c5,k5,e5⟩:=F.x5;obtain⟨_,_,k4,e4⟩:=F.x4;rw [e2 trivial] at k2;rw [e3 trivial] at k3;rw [e4 trivial] at k4;have HO:=kD (show _∧_∧_∧_∧_ from⟨F.q.bel,F.q.o1,F.q.o2,F.q.lo,e5 trivial⟩);obtain⟨z0,z1,z2,z3⟩:=k2.c4;obtain⟨z4,z5⟩:=k3.c2;obtain⟨z6,z7⟩:=k4.c2;obtain⟨z8,z9⟩:=k5.c2;have aG:=k2.lt;have aF:=k3.lt;have aE:=k4.lt;have aD:=k5.lt;clear F hp k2 k3 k4 k5 e2 e3 e4 e5 HX HD
   repeat (first | go_values | go_skip | go_step | go_upon)
   refine bodyPost_ret (v:=.tuple #[.agg #[.int .i64 v.p,.int .i64 v.c,.int .i64 v.h,.int .i64 v.s],.agg #[.slice X1 Y d1,.slice X2 X d2],.agg #[.int .i64 W,.int .i64 V],.agg #[a5,c5],.int .i64 d]) (by simp [results,Tryz.results77,go_sem,z0,z1,z2,z3,z4,z5,z6,z7,z8,z9]) rfl ?_;exact⟨v,b,(W,V),d,_,_,a5,c5,rfl,HH.out,⟨HO.out.2.1.less (by have:=HO.out.2.2.2.1.1;omega),HO.out.2.2.1.less (by have:=HO.out.2.2.2.1.1;omega)⟩,HO.out.2.2.2.2,HO.out.1⟩
 ·have ez:(R.2 == 0)=false:=by simp [hz]
  clear an;clear M;go_upto_region 8 with fail;refine region_rel [some 56,some 57,some 58,some 59,some 60,none,none,none,none,some 6] 10 (Pl [some (.agg #[.int .i64 v.p,.int .i64 v.c,.int .i64 v.h,.int .i64 v.s]),some (.agg #[.slice X1 Y d1,.slice X2 X d2]),some (.agg #[.int .i64 W,.int .i64 V]),some (.agg #[.slice X1 Y d1,.slice X2 X d2]),some (.int .i64 d),none,none,none,none,some (.int .i64 d)]) (λ L j w'=>R8F w g g8 ab v (.slice X1 Y d1) (.slice X2 X d2) b (W,V) (L 5) (L 6) (L 7) (L 8) w') (by kernel_rfl) (by kernel_rfl) (by kernel_rfl) (by kernel_rfl) (by kernel_rfl) (by kernel_rfl) (by first | kernel_rfl | rfl) ?g0_2 ?gst_2 ?gfin_2
  case g0_2=>exact((HX.out.below (Below.refl _ _).drew).imp (λ h=>absurd h (by decide)) (λ h=>absurd h (by decide)) (λ h=>absurd h (by decide)) (λ h=>absurd h (by decide)))
  case gst_2 =>
   refine rN rfl (λ L j A J m l o U F K y=>?_) ?_
   ·have e8:=U.w 8 (.pointer (some ⟨g8,0,none⟩));obtain⟨q0,q1,q2,q3⟩:=F.q.r8.c4;have y0:=F.q.r9.c2.1;have y1:=F.q.r9.c2.2;have t0:=F.q.r10.c2.1;have T:=F.q.r10.c2.2;have I:=F.q.r8.lt;have H:=F.q.r9.lt;have E:=F.q.r10.lt
    skip
    go_simp;exact pF y (F.skip (i:=5) 0 (by decide))
   refine rN rfl (λ L j A J m l o U F K y=>?_) ?_
   ·have e9:=U.w 9 (.pointer (some ⟨g8+1,0,none⟩));obtain⟨q0,q1,q2,q3⟩:=F.q.r8.c4;have y0:=F.q.r9.c2.1;have y1:=F.q.r9.c2.2;have t0:=F.q.r10.c2.1;have T:=F.q.r10.c2.2;have I:=F.q.r8.lt;have H:=F.q.r9.lt;have E:=F.q.r10.lt
    skip
    go_simp;exact pF y (F.skip (i:=5) 1 (by decide))
   refine rN rfl (λ L j A J m l o U F K y=>?_) ?_
   ·have aM:=U.w 10 (.pointer (some ⟨ab,0,none⟩));obtain⟨q0,q1,q2,q3⟩:=F.q.r8.c4;have y0:=F.q.r9.c2.1;have y1:=F.q.r9.c2.2;have t0:=F.q.r10.c2.1;have T:=F.q.r10.c2.2;have I:=F.q.r8.lt;have H:=F.q.r9.lt;have E:=F.q.r10.lt
    skip
    go_simp;exact pF y (F.skip (i:=5) 2 (by decide))
   refine rN rfl (λ L j A J m l o U F K y=>?_) ?_
   ·have e9:=U.w 9 (.pointer (some ⟨g8+1,0,none⟩));obtain⟨q0,q1,q2,q3⟩:=F.q.r8.c4;have y0:=F.q.r9.c2.1;have y1:=F.q.r9.c2.2;have t0:=F.q.r10.c2.1;have T:=F.q.r10.c2.2;have I:=F.q.r8.lt;have H:=F.q.r9.lt;have E:=F.q.r10.lt
    skip
    go_simp;exact pF y (F.skip (i:=5) 3 (by decide))
   refine rN rfl (λ L j A J m l o U F K y=>?_) ?_
   ·have aL:=U.w 11 (.int .i64 d);go_simp;exact pF y (F.skip (i:=5) 4 (by decide))
   refine rN rfl (λ L j A J m l o U F K y=>?_) ?_
   ·have e2:=U.w 2 (.pointer (some ⟨w.heap.size,0,none⟩));have ax:=U.v 0 56;obtain⟨_,_,_,_,h,-⟩:=F.x2;refine wp_sm 25 _ _ rfl (w.heap.size) 0 [.int .i64 v.p,.int .i64 v.c,.int .i64 v.h,.int .i64 v.s] _ (ev e2) (ev ax) 25 h (by kernel_rfl) (Nat.le_refl _) rfl ?_;exact y.out undef _ (Pl.any rfl) (((F.s2 (grown_cells _ _ _ _) (row_cells _ _ _ _ h)).imp (λ _=>trivial) (·.resolve_left (by decide)) (·.resolve_left (by decide)) (·.resolve_left (by decide))))
   refine rN rfl (λ L j A J m l o U F K y=>?_) ?_
   ·have e3:=U.w 3 (.pointer (some ⟨w.heap.size+1,0,none⟩));have aw:=U.v 1 57;obtain⟨_,_,h,-⟩:=F.x3;refine wp_sm 28 _ _ rfl (w.heap.size+1) 0 [.slice X1 Y d1,.slice X2 X d2] _ (ev e3) (ev aw) 28 h (by kernel_rfl) (Nat.le_refl _) rfl ?_;exact y.out undef _ (Pl.any rfl) (((F.s3 (grown_cells _ _ _ _) (row_cells _ _ _ _ h)).imp (·.resolve_left (by decide)) (λ _=>trivial) (·.resolve_left (by decide)) (·.resolve_left (by decide))))
   refine rN rfl (λ L j A J m l o U F K y=>?_) ?_
   ·have e4:=U.w 4 (.pointer (some ⟨w.heap.size+1+1,0,none⟩));have av:=U.v 2 58;obtain⟨_,_,h,-⟩:=F.x4;refine wp_sm 30 _ _ rfl (w.heap.size+2) 0 [.int .i64 W,.int .i64 V] _ (ev e4) (ev av) 30 h (by kernel_rfl) (Nat.le_refl _) rfl ?_;exact y.out undef _ (Pl.any rfl) (((F.s4 (grown_cells _ _ _ _) (row_cells _ _ _ _ h)).imp (·.resolve_left (by decide)) (·.resolve_left (by decide)) (λ _=>trivial) (·.resolve_left (by decide))))
   refine rN rfl (λ L j A J m l o U F K y=>?_) ?_
   ·have e5:=U.w 5 (.pointer (some ⟨w.heap.size+1+1+1,0,none⟩));have ar:=U.v 3 59;obtain⟨_,_,h,-⟩:=F.x5;refine wp_sm 28 _ _ rfl (w.heap.size+3) 0 [.slice X1 Y d1,.slice X2 X d2] _ (ev e5) (ev ar) 28 h (by kernel_rfl) (Nat.le_refl _) rfl ?_;exact y.out undef _ (Pl.any rfl) (((F.s5 (⟨⟨_,_,_,rfl⟩,⟨_,_,_,rfl⟩⟩) (grown_cells _ _ _ _) (row_cells _ _ _ _ h)).imp (·.resolve_left (by decide)) (·.resolve_left (by decide)) (·.resolve_left (by decide)) (λ _=>trivial)))
   refine rN rfl (λ L j A J m l o U F K y=>?_) ?_
   ·have aX:=U.v 4 60;obtain⟨q0,q1,q2,q3⟩:=F.q.r8.c4;have y0:=F.q.r9.c2.1;have y1:=F.q.r9.c2.2;have t0:=F.q.r10.c2.1;have T:=F.q.r10.c2.2;have I:=F.q.r8.lt;have H:=F.q.r9.lt;have E:=F.q.r10.lt
    skip
    go_simp;exact pF y (F.skip (i:=5) 9 (by decide))
   exact RelFrom.nil (by decide)
  intro j wf hp F;simp only [Fr,Act.put,sX,Nat.reduceAdd];have h9:j 9=.int .i64 d:=hp 9 (by decide) _ rfl;rw [h9];obtain⟨_,_,_,_,k2,e2⟩:=F.x2;obtain⟨_,_,k3,e3⟩:=F.x3;obtain⟨a5,c5,k5,e5⟩:=F.x5;obtain⟨_,_,k4,e4⟩:=F.x4;rw [e2 trivial] at k2;rw [e3 trivial] at k3;rw [e4 trivial] at k4;have HO:=kD (show _∧_∧_∧_∧_ from⟨F.q.bel,F.q.o1,F.q.o2,F.q.lo,e5 trivial⟩);obtain⟨z0,z1,z2,z3⟩:=k2.c4;obtain⟨z4,z5⟩:=k3.c2;obtain⟨z6,z7⟩:=k4.c2;obtain⟨z8,z9⟩:=k5.c2;have aG:=k2.lt;have aF:=k3.lt;have aE:=k4.lt;have aD:=k5.lt;clear F hp k2 k3 k4 k5 e2 e3 e4 e5 HX HD
  repeat (first | go_values | go_skip | go_step | go_upon)
  refine bodyPost_ret (v:=.tuple #[.agg #[.int .i64 v.p,.int .i64 v.c,.int .i64 v.h,.int .i64 v.s],.agg #[.slice X1 Y d1,.slice X2 X d2],.agg #[.int .i64 W,.int .i64 V],.agg #[a5,c5],.int .i64 d]) (by simp [results,Tryz.results77,go_sem,z0,z1,z2,z3,z4,z5,z6,z7,z8,z9]) rfl ?_;exact⟨v,b,(W,V),d,_,_,a5,c5,rfl,HH.out,⟨HO.out.2.1.less (by have:=HO.out.2.2.2.1.1;omega),HO.out.2.2.1.less (by have:=HO.out.2.2.2.1.1;omega)⟩,HO.out.2.2.2.2,HO.out.1⟩
end HdF
end Go.Proofs.YtmncnhbjifeoeaaGreat
