/- Parts of the proof of FnHints. Conditions: each theorem's own. -/
import Derived.Test.YtmncnhbjifeoeaaGreatT17
import Derived.Deep.CutBlock
set_option linter.unusedVariables false
set_option linter.unusedSimpArgs false
set_option maxHeartbeats 8000000
set_option maxRecDepth 100000
namespace Go.Proofs.YtmncnhbjifeoeaaGreat
namespace HdC
open Go Go.ChangeShapes Go.WideShapes Go.ChangeAt Go.RowKit Base Ints Own Clone RelG PlP Gm Bd1 Bd2 Bd5 Bd6 Bd7 Bd8 RegInv RegF RegG Draw DrawD DwP DwQ DwA HdP HdA HdB
theorem nx_bd {xs:List Int} (hx:∀ x ∈ xs,0<=x) {st:St} (hs:0<=st.2) (k:Int):(0<=(nx xs st k).1∧(1<=k->(nx xs st k).1<k))∧0<=(nx xs st k).2.2:=by
 have b:0<=xs.getD st.1 0:=by
  rw [List.getD_eq_getElem?_getD]
  cases h:xs[st.1]? with
  | none=>exact Int.le_refl _
  | some x=>exact hx x (List.mem_of_getElem? h)
 by_cases hk:k<=1
 ·rw [nx1 hk];exact⟨⟨Int.le_refl _,λ h=>by show (0:Int)<k;omega⟩,hs⟩
 ·have a:0<=(st.2*48271+17) % 2147483647:=Int.emod_nonneg _ (by decide);unfold nx;rw [if_neg hk];split
  ·refine⟨⟨?_,λ _=>?_⟩,a⟩
   ·show 0<=(if _ then _ else _:Int)
    split
    ·exact Int.emod_nonneg _ (by omega)
    ·exact Int.emod_nonneg _ (by omega)
   ·show (if _ then _ else _:Int)<k
    split
    ·exact Int.emod_lt_of_pos _ (by omega)
    ·exact Int.emod_lt_of_pos _ (by omega)
  ·exact⟨⟨Int.emod_nonneg _ (by omega),λ _=>Int.emod_lt_of_pos _ (by omega)⟩,a⟩
theorem v01v_ok {xs:List Int} (hx:∀ x ∈ xs,0<=x) {st:St} (hs:0<=st.2):okV (v01v xs st).1=true:=by
 have B:=λ(s:St) (h:0<=s.2) (k:Int)=>nx_bd hx h k
 have a:=B st hs 4;unfold v01v;simp only;split
 ·show okV fullV=true;decide
 split
 ·obtain⟨p,e,n⟩:∃ p e,nx xs (nx xs st 4).2 21=(p,e):=⟨_,_,rfl⟩;have j:=B _ a.2 21;rw [n] at j ⊢;obtain⟨c,b,m⟩:∃ p b,nx xs e 15=(p,b):=⟨_,_,rfl⟩;have i:=B e j.2 15;simp only at j ⊢;rw [m] at i ⊢;obtain⟨d,f,l⟩:∃ p f,nx xs b 6=(p,f):=⟨_,_,rfl⟩;have g:=B b i.2 6;simp only at i ⊢;rw [l] at g ⊢;have o:=B f g.2 ((4+p) / 2);simp only at g ⊢;rw [okV_iff];simp only;omega
 ·unfold v01s;obtain⟨p,e,n⟩:∃ p e,nx xs (nx xs st 4).2 5=(p,e):=⟨_,_,rfl⟩;have j:=B _ a.2 5;rw [n] at j ⊢;obtain⟨c,b,m⟩:∃ p b,nx xs e 3=(p,b):=⟨_,_,rfl⟩;have i:=B e j.2 3;simp only at j ⊢;rw [m] at i ⊢;obtain⟨d,f,l⟩:∃ p f,nx xs b 3=(p,f):=⟨_,_,rfl⟩;have g:=B b i.2 3;simp only at i ⊢;rw [l] at g ⊢;have o:=B f g.2 (2+p);simp only at g ⊢;rw [okV_iff];simp only;omega
theorem dx_ok {w0 w:World} {B g cp:Nat} {A:Option Addr} {xs:List Int} {st:St} (h:Dx w0 B g A cp xs st w):okV (v01v xs st).1=true :=
 HdC.v01v_ok (λ x hx=>(bounds_u8 (h.wf x hx)).1) h.src.2.2.1
theorem nx_st {xs:List Int} (hx:∀ x ∈ xs,0<=x) {st:St} (hs:0<=st.2) (k:Int):0<=(nx xs st k).2.2:=(nx_bd hx hs k).2
theorem v01v_st {xs:List Int} (hx:∀ x ∈ xs,0<=x) {st:St} (hs:0<=st.2):0<=(v01v xs st).2.2:=by
 have a:=nx_st hx hs 4;unfold v01v;simp only;split
 ·exact a
 split
 ·exact nx_st hx (nx_st hx (nx_st hx (nx_st hx a _) _) _) _
 ·exact nx_st hx (nx_st hx (nx_st hx (nx_st hx a _) _) _) _
theorem v01a_s {xs:List Int} (hx:∀ x ∈ xs,0<=x) {st:St} (hs:0<=st.2):(v01a xs st).1.s<=7:=by
 have c:=(okV_iff.1 (v01v_ok hx hs)).2.2.2.2;have b:=nx_st hx (v01v_st hx hs) 40;have a:=nx_bd hx b 2;unfold v01a anyGo;split
 ·show (v01v xs st).1.s<=7;omega
 split
 ·show (v01v xs st).1.s<=7;omega
 split
 ·show (v01v xs st).1.s<=7;omega
 split
 ·have:=a.1.2 (by decide);show 7*_<=(7:Int);omega
 ·show (v01v xs st).1.s<=7;omega
theorem dx_any {w0 w:World} {B g cp:Nat} {A:Option Addr} {xs:List Int} {st:St} (h:Dx w0 B g A cp xs st w):(v01a xs st).1.s<=7 :=
 v01a_s (λ x hx=>(bounds_u8 (h.wf x hx)).1) h.src.2.2.1
structure Pw (w0 w:World) (B g:Nat) (A:Option Addr) (cp:Nat) (xs:List Int) (st:Nat × Int) (g4 g5:Nat) (v:Vr) (u1 u2:Value) (b:Bd) (z0 z1:List Value) (W:World):Prop where
 D:Dx w0 B g A cp xs st W
 gr:w.grownBy W (some g)
 r0:RowB W w.heap.size 25 z0
 r1:RowB W (w.heap.size+1) 28 z1
 r4:RowB W g4 25 (vL v)
 r5:RowB W g5 28 [u1,u2]
 o1:OwnS W (w.heap.size+2) W.heap.size 2 1 enI u1 b.1
 o2:OwnS W (w.heap.size+2) W.heap.size 2 1 enI u2 b.2
 n1:∀ k,u1.ownBlock=some k->k≠g4∧k≠g5
 n2:∀ k,u2.ownBlock=some k->k≠g4∧k≠g5
 lo:g<w.heap.size∧w.heap.size+1<g4∧g4<g5
section
variable {w0 w W W':World} {B g cp:Nat} {A:Option Addr} {xs:List Int} {st st':Nat × Int} {g4 g5:Nat} {v v':Vr} {u1 u2 u1' u2':Value} {b b':Bd} {z0 z1 z0' z1':List Value}
theorem Pw.next (K:Pw w0 w B g A cp xs st g4 g5 v u1 u2 b z0 z1 W) (hD:Dx w0 B g A cp xs st' W') (hg:W.grownBy W' (some g)):Pw w0 w B g A cp xs st' g4 g5 v u1 u2 b z0 z1 W':=by
 have l:=K.lo;have c:∀ k,some g=some k->k=g:=λ k h=>by simpa using h.symm
 exact⟨hD,grownBy_trans K.gr hg,K.r0.grown hg (λ k a=>by have:=c k a;omega),K.r1.grown hg (λ k a=>by have:=c k a;omega),K.r4.grown hg (λ k a=>by have:=c k a;omega),K.r5.grown hg (λ k a=>by have:=c k a;omega),(K.o1.grown hg (λ k a=>by have:=c k a;omega)).more hg.size,(K.o2.grown hg (λ k a=>by have:=c k a;omega)).more hg.size,K.n1,K.n2,l⟩
theorem Pw.below (K:Pw w0 w B g A cp xs st g4 g5 v u1 u2 b z0 z1 W) (hb:Below W.heap.size W W'):Pw w0 w B g A cp xs st g4 g5 v u1 u2 b z0 z1 W':=K.next (K.D.below hb K.D.lt) (grown_bel hb)
theorem Pw.put (K:Pw w0 w B g A cp xs st g4 g5 v u1 u2 b z0 z1 W) {q:Nat} (hg:W.grownBy W' (some q)) (hq:w.heap.size<=q):Dx w0 B g A cp xs st W'∧w.grownBy W' (some g)∧(∀ k e cs,k≠q->RowB W k e cs->RowB W' k e cs)∧(∀(u:Value) (l:List Int),OwnS W (w.heap.size+2) W.heap.size 2 1 enI u l->(∀ k,u.ownBlock=some k->k≠q)->OwnS W' (w.heap.size+2) W'.heap.size 2 1 enI u l):=by
 have l:=K.lo;have d:=K.D.base;exact⟨K.D.grown hg (λ k a=>by simp at a;omega) (λ k a=>by simp at a;omega),grown_own K.gr hg (λ k a=>by simp at a;omega),λ k e cs a h=>h.grown hg (λ j c=>by simp at c;omega),λ u l h a=>by
  refine OwnS.more (hi':=W'.heap.size) ⟨h.1.kept hg ?_,h.2⟩ hg.size
  cases hv:u.ownBlock with
  | none=>exact .inl rfl
  | some k=>exact .inr (λ e=>a k hv (by simpa using e))⟩
theorem Pw.board (K:Pw w0 w B g A cp xs st g4 g5 v u1 u2 b z0 z1 W) (hg:W.grownBy W' (some g5)) (hr:RowB W' g5 28 [u1',u2']) (h1:OwnS W (w.heap.size+2) W.heap.size 2 1 enI u1' b'.1) (h2:OwnS W (w.heap.size+2) W.heap.size 2 1 enI u2' b'.2) (n1:∀ k,u1'.ownBlock=some k->k≠g4∧k≠g5) (n2:∀ k,u2'.ownBlock=some k->k≠g4∧k≠g5):Pw w0 w B g A cp xs st g4 g5 v u1' u2' b' z0 z1 W':=by
 have l:=K.lo;obtain⟨f,c,d,e⟩:=K.put hg (by omega);exact⟨f,c,d _ _ _ (by omega) K.r0,d _ _ _ (by omega) K.r1,d _ _ _ (by omega) K.r4,hr,e _ _ h1 (λ k a=>(n1 k a).2),e _ _ h2 (λ k a=>(n2 k a).2),n1,n2,l⟩
theorem Pw.vari (K:Pw w0 w B g A cp xs st g4 g5 v u1 u2 b z0 z1 W) (hg:W.grownBy W' (some g4)) (hr:RowB W' g4 25 [.int .i64 v'.p,.int .i64 v'.c,.int .i64 v'.h,.int .i64 v'.s]):Pw w0 w B g A cp xs st g4 g5 v' u1 u2 b z0 z1 W':=by
 have l:=K.lo;obtain⟨i,d,e,f⟩:=K.put hg (by omega);exact⟨i,d,e _ _ _ (by omega) K.r0,e _ _ _ (by omega) K.r1,hr,e _ _ _ (by omega) K.r5,f _ _ K.o1 (λ k a=>(K.n1 k a).1),f _ _ K.o2 (λ k a=>(K.n2 k a).1),K.n1,K.n2,l⟩
theorem Pw.res0 (K:Pw w0 w B g A cp xs st g4 g5 v u1 u2 b z0 z1 W) (hg:W.grownBy W' (some w.heap.size)) (hr:RowB W' w.heap.size 25 z0'):Pw w0 w B g A cp xs st g4 g5 v u1 u2 b z0' z1 W':=by
 have l:=K.lo;obtain⟨f,c,d,e⟩:=K.put hg (Nat.le_refl _);exact⟨f,c,hr,d _ _ _ (by omega) K.r1,d _ _ _ (by omega) K.r4,d _ _ _ (by omega) K.r5,e _ _ K.o1 (λ k a=>by have:=K.o1.block k a;omega),e _ _ K.o2 (λ k a=>by have:=K.o2.block k a;omega),K.n1,K.n2,l⟩
theorem Pw.res1 (K:Pw w0 w B g A cp xs st g4 g5 v u1 u2 b z0 z1 W) (hg:W.grownBy W' (some (w.heap.size+1))) (hr:RowB W' (w.heap.size+1) 28 z1'):Pw w0 w B g A cp xs st g4 g5 v u1 u2 b z0 z1' W':=by
 have l:=K.lo;obtain⟨f,c,d,e⟩:=K.put hg (by omega);exact⟨f,c,d _ _ _ (by omega) K.r0,hr,d _ _ _ (by omega) K.r4,d _ _ _ (by omega) K.r5,e _ _ K.o1 (λ k a=>by have:=K.o1.block k a;omega),e _ _ K.o2 (λ k a=>by have:=K.o2.block k a;omega),K.n1,K.n2,l⟩
theorem Pw.cell1 {A1:Option Addr} {n c1 k:Nat} (K:Pw w0 w B g A cp xs st g4 g5 v (.slice A1 n c1) u2 b z0 z1 W) (hn:b.1.length=n) (hk:k<n) (ha:Apart (.slice A1 n c1) u2) :
  ∃(q:Nat) (r:List Value),A1=some ⟨q,0,none⟩∧RowI W q b.1 r∧b.1.length+r.length=c1∧c1<=maxLen∧w.heap.size+2<=q∧∀ W',Below W.heap.size W W'->∀ x,Pw w0 w B g A cp xs st g4 g5 v (.slice A1 n c1) u2 (b.1.set k x,b.2) z0 z1 (W'.setCell ⟨q,k,none⟩ (.int .i64 x)):=by
 obtain⟨q,c,r,s,z,H,y,t,a⟩:=RowI.of K.o1 (by omega);simp only [Value.slice.injEq] at s;obtain⟨rfl,-,rfl⟩:=s;refine⟨q,r,rfl,a,t,y,z,λ W' o x=>?_⟩;have l:=K.lo;have d:=K.below o;have p:=K.n1 q rfl;have E:=Base.grownBy_setCell W' q k (.int .i64 x);have a:=RowB.below a o H;have C:=o.size;obtain⟨G,m,f,F⟩:=d.put E (by omega);refine⟨G,m,f _ _ _ (by omega) d.r0,f _ _ _ (by omega) d.r1,f _ _ _ (Ne.symm p.1) d.r4,f _ _ _ (Ne.symm p.2) d.r5,?_,F _ _ d.o2 (λ j D e=>ha q rfl (by rw [<-e];exact D)),d.n1,d.n2,l⟩;have h:=RowI.own (RowI.put a (i:=k) (by omega) x) (show w.heap.size+2<=q from z) (show q<(W'.setCell ⟨q,k,none⟩ (.int .i64 x)).heap.size by rw [World.size_setCell];omega) (show (b.1.set k x).length+r.length=c1 by rw [List.length_set];exact t) y;rw [List.length_set,hn] at h;exact h
theorem Pw.cell2 {A2:Option Addr} {n c2 k:Nat} (K:Pw w0 w B g A cp xs st g4 g5 v u1 (.slice A2 n c2) b z0 z1 W) (hn:b.2.length=n) (hk:k<n) (ha:Apart (.slice A2 n c2) u1) :
  ∃(q:Nat) (r:List Value),A2=some ⟨q,0,none⟩∧RowI W q b.2 r∧b.2.length+r.length=c2∧c2<=maxLen∧w.heap.size+2<=q∧∀ W',Below W.heap.size W W'->∀ x,Pw w0 w B g A cp xs st g4 g5 v u1 (.slice A2 n c2) (b.1,b.2.set k x) z0 z1 (W'.setCell ⟨q,k,none⟩ (.int .i64 x)):=by
 obtain⟨q,c,r,s,z,H,y,t,a⟩:=RowI.of K.o2 (by omega);simp only [Value.slice.injEq] at s;obtain⟨rfl,-,rfl⟩:=s;refine⟨q,r,rfl,a,t,y,z,λ W' o x=>?_⟩;have l:=K.lo;have d:=K.below o;have p:=K.n2 q rfl;have E:=Base.grownBy_setCell W' q k (.int .i64 x);have a:=RowB.below a o H;have C:=o.size;obtain⟨G,m,f,F⟩:=d.put E (by omega);refine⟨G,m,f _ _ _ (by omega) d.r0,f _ _ _ (by omega) d.r1,f _ _ _ (Ne.symm p.1) d.r4,f _ _ _ (Ne.symm p.2) d.r5,F _ _ d.o1 (λ j D e=>ha q rfl (by rw [<-e];exact D)),?_,d.n1,d.n2,l⟩;have h:=RowI.own (RowI.put a (i:=k) (by omega) x) (show w.heap.size+2<=q from z) (show q<(W'.setCell ⟨q,k,none⟩ (.int .i64 x)).heap.size by rw [World.size_setCell];omega) (show (b.2.set k x).length+r.length=c2 by rw [List.length_set];exact t) y;rw [List.length_set,hn] at h;exact h
theorem row_take {q k:Nat} {l:List Int} {r:List Value} (h:RowI W q l r):RowI W q (l.take k) ((l.drop k).flatMap enI++r):=by
 unfold RowI at *;rw [<-List.append_assoc,<-List.flatMap_append,List.take_append_drop];exact h
structure R2 (w0 w:World) (B g:Nat) (A:Option Addr) (cp:Nat) (xs:List Int) (st:Nat × Int) (g4 g5:Nat) (v:Vr) (u1 u2:Value) (b:Bd) (p2 p3:Prop) (w':World):Prop where
 K:∃ a b' c d x y,Pw w0 w B g A cp xs st g4 g5 v u1 u2 b [a,b',c,d] [x,y] w'∧(p2->[a,b',c,d]=[.int .i64 v.p,.int .i64 v.c,.int .i64 v.h,.int .i64 v.s])∧(p3->[x,y]=[u1,u2])
theorem R2.skip {L:Nat->Prop} (F:R2 w0 w B g A cp xs st g4 g5 v u1 u2 b (L 2) (L 3) W) (k:Nat) (h:2≠k∧3≠k:=by decide):R2 w0 w B g A cp xs st g4 g5 v u1 u2 b (2=k∨L 2) (3=k∨L 3) W:=by
 rw [or_ne h.1,or_ne h.2];exact F
end
structure E2F (w1:World) (g5 n:Nat) (p1 p3 p4 p5:Prop) (v1 v3 v4:Value) (w':World):Prop where
 bel:¬ p5->Below w1.heap.size w1 w'
 f1:p1->∃ q,v1=.slice (some ⟨q,0,none⟩) n n∧RowI w' q (List.replicate n 0) []∧w1.heap.size<=q
 f3:p3->p1∧∃ q,v3=.slice (some ⟨q,0,none⟩) n n∧RowI w' q (List.replicate n 0) []∧w1.heap.size<=q
 f4:p4->p3∧v4=.agg #[v1,v3]
 fin:p5->p3∧RowB w' g5 28 [v1,v3]∧w1.grownBy w' (some g5)
theorem E2F.skip {w1 W:World} {g5 n:Nat} {L:Nat->Prop} {vals:Nat->Value} (F:E2F w1 g5 n (L 1) (L 3) (L 4) (L 5) (vals 1) (vals 3) (vals 4) W) (k:Nat) (y:Value) (h:1≠k∧3≠k∧4≠k∧5≠k:=by decide):E2F w1 g5 n (1=k∨L 1) (3=k∨L 3) (4=k∨L 4) (5=k∨L 5) (upd vals k y 1) (upd vals k y 3) (upd vals k y 4) W:=by
 rw [or_ne h.1,or_ne h.2.1,or_ne h.2.2.1,or_ne h.2.2.2,upd_ne h.1,upd_ne h.2.1,upd_ne h.2.2.1];exact F
def PEnd (f:Vr->Bd->St->Prop) (w0 w:World) (B g:Nat) (A:Option Addr) (cp:Nat) (xs:List Int) (e:Ending) (w':World):Prop :=
 ∃(v:Vr) (b:Bd) (st':St) (u1 u2:Value),e=.returned (.tuple #[.agg #[.int .i64 v.p,.int .i64 v.c,.int .i64 v.h,.int .i64 v.s],.agg #[u1,u2]])∧f v b st'∧(OwnS w' w.heap.size w'.heap.size 2 1 enI u1 b.1∧OwnS w' w.heap.size w'.heap.size 2 1 enI u2 b.2)∧Dx w0 B g A cp xs st' w'∧w.grownBy w' (some g)
section
variable {w0 w:World} {B g cp:Nat} {A:Option Addr} {xs:List Int} {st:Nat × Int}
theorem pr02_x (h:Dx w0 B g A cp xs st w) :
  Calls Tryz.prog 149 #[.pointer (some ⟨g,0,none⟩)] w λ e w'=>PEnd (λ v b st'=>pr02 xs st=((v,b),st')∧v.s<=7) w0 w B g A cp xs e w':=by
 have Z:=dx_ok h;have aN:=h.lt;go_enter Tryz.func149,Tryz.ntmps149;go_upto_region 1 with fail;refine wp_gen (λ W'=>Rx w0 w B g A cp xs st [(0,25,[.int .i64 0,.int .i64 0,.int .i64 0,.int .i64 0]),(1,28,[.slice none 0 0,.slice none 0 0])] W') ⟨((h.alloc _).alloc _),grown_bel (by go_grown),λ p hp=>?_,h.lt⟩ ?_
 ·simp only [List.mem_cons,List.not_mem_nil,or_false] at hp;rcases hp with rfl | rfl
  ·exact(RowB.new _ _ _).alloc _
  ·exact RowB.new' _ _ _ (by simp)
 clear h;intro w1 K;go_wp2_with fail;refine(v01v_x K.D).mono ?_;rintro e w2 ⟨v,s1,rfl,⟨hv,-,-⟩,O,I⟩;have K:=K.next O I;have ae:okV v=true:=by rw [hv] at Z;exact Z
 have HV:=kD hv;clear O I Z hv;go_upto_region 2 with fail;obtain⟨g4,ah⟩:∃ q,w2.heap.size=q:=⟨_,rfl⟩;have ag:=(K.nth 1 rfl).lt;rw [ah] at ag;refine wp_gen (λ W'=>Rx w0 w B g A cp xs s1 [(0,25,[.int .i64 0,.int .i64 0,.int .i64 0,.int .i64 0]),(1,28,[.slice none 0 0,.slice none 0 0])] W'∧RowB W' g4 25 (vL v)) ⟨K.alloc _,by rw [<-ah];exact RowB.new _ _ _⟩ ?_
 try simp only [ah]
 clear K ah;rintro w3 ⟨K,R4⟩;obtain⟨q0,T,q2,V⟩:=R4.c4;have aq:=R4.lt;have aK:=okV_iff.1 ae;obtain⟨n,hn⟩:∃ n:Nat,(n:Int)=v.p+1:=⟨(v.p+1).toNat,by omega⟩;go_wp2_with fail;refine(bd02_x v ae n hn K.D).mono ?_;rintro e w4 ⟨A1,c1,A2,c2,b,s2,rfl,ay,⟨ax,aB,az⟩,O,I⟩;have aG:=I.size;have K:=K.next O I;have R4:=R4.grown I (λ k hk=>by simp at hk;omega);have aF:=kD ay;have aa:=kD (ax.less (lo':=g4+1) (by omega));have ac:=kD aB;have ab:=kD az;clear O I ax ay q0 T q2 V aB az;go_upto_region 3 with fail;obtain⟨g5,am⟩:∃ q,w4.heap.size=q:=⟨_,rfl⟩;have ao:g4<g5:=by omega
 refine wp_gen (λ W'=>Pw w0 w B g A cp xs s2 g4 g5 v (.slice A1 n c1) (.slice A2 n c2) b [.int .i64 0,.int .i64 0,.int .i64 0,.int .i64 0] [.slice none 0 0,.slice none 0 0] W') ?_ ?_
 ·have hb:Below w4.heap.size w4 (w4.alloc (.cells #[.slice A1 n c1,.slice A2 n c2] 28)):=(Below.refl _ _).alloc (Nat.le_refl _) _;have K:=K.below hb;have HB:=aa.out.below hb;have o1:=aa.out.o1;have o2:=aa.out.o2;exact⟨K.D,K.gr,K.nth0 0 rfl,K.nth 1 rfl,R4.alloc _,by rw [<-am];exact RowB.new _ _ _,HB.o1.less (by omega),HB.o2.less (by omega),λ j hj=>by have:=o1.block j hj;omega,λ j hj=>by have:=o2.block j hj;omega,aN,ag,ao⟩
 have ak:=kD aa.out.ap
 try simp only [am]
 clear K R4 aa am aG;intro w5 K;obtain⟨q0,T,q2,V⟩:=K.r4.c4;have aM:=K.r4.lt;have aI:IntKind.i64.wrap (v.p+1)=v.p+1:=IntWalk.i64_in _ (by omega);go_wp2_with fail;refine(nextX K.D (v.p+1) (by omega)).mono ?_;rintro e w6 ⟨kz,s3,⟨rfl,k0,k1,-,nk⟩,O,I,-⟩;have k1:=k1 (by omega);obtain⟨k,rfl⟩:∃ k:Nat,kz=k:=⟨kz.toNat,by omega⟩;have P:k<n:=by omega
 have a4:(k:Int)<(n:Int):=by omega
 have K:=K.next O I;clear O I q0 T q2 V aM aI k0 k1;go_wp2_with fail;refine(nextX K.D 40 (by decide)).mono ?_;rintro e w7 ⟨q,s4,⟨rfl,z0,z1,-,nq⟩,O,I,-⟩;have G:=kD (K.next O I);obtain⟨R,C⟩:∃ R,prGo xs v b k (q,s4)=R:=⟨_,rfl⟩;have aX:=kD (pr02_of HV.out aF.out nk nq C);have HR:=kD C;have S:=kD ae;have HN:=kD hn;have a3:n<=25:=by omega
 clear K O I nk nq C HV aF z0 z1 aq ae hn aK;go_upto_block 0 with (fail);go_cut [] from 19 (λ wx=>∃(z:Vr) (b':Bd) (s':St) (u1 u2:Value),Hid (R=((z,b'),s')∧z.s<=7)∧Hid (Pw w0 w B g A cp xs s' g4 g5 z u1 u2 b' [.int .i64 0,.int .i64 0,.int .i64 0,.int .i64 0] [.slice none 0 0,.slice none 0 0] wx))
 case first =>
  have K:=G.out;by_cases e0:q=0
  ·subst e0;have C:=HR.out;rw [pr_0] at C;obtain⟨gq,W,rfl,a,Q,-,ad,E⟩:=K.cell1 ac.out.1 P ak.out;have m:=a.at_ (i:=k) (by rw [ac.out.1];exact P);have aw:=RowB.frozen a;have af:=RowB.lt a;obtain⟨Y,q5⟩:=K.r5.c2;have M:=K.r5.lt;have aR:=ac.out.2 k;have aJ:IntKind.i64.wrap (at_ b.1 k+1)=at_ b.1 k+1:=IntWalk.i64_in _ (by omega);clear a Q;go_wp2_with fail;go_still_tail 10,(by kernel_rfl);go_wp2_with fail;go_meet;exact⟨v,_,s4,_,_,kD ⟨C.symm,by have:=(okV_iff.1 S.out).2.2.2.2;omega⟩,kD (E _ (Below.refl _ _).drew (at_ b.1 k+1))⟩
  have x0:(q == 0)=false:=by simp [e0]
  by_cases e1:q=1
  ·subst e1;have C:=HR.out;rw [pr_1] at C;obtain⟨gq,W,rfl,a,Q,-,ad,E⟩:=K.cell2 ab.out.1 P ak.out.symm;have m:=a.at_ (i:=k) (by rw [ab.out.1];exact P);have aw:=RowB.frozen a;have af:=RowB.lt a;obtain⟨Y,q5⟩:=K.r5.c2;have M:=K.r5.lt;clear a Q;go_wp2_with fail;go_meet;exact⟨v,_,s4,_,_,kD ⟨C.symm,by have:=(okV_iff.1 S.out).2.2.2.2;omega⟩,kD (E _ (Below.refl _ _) (-1))⟩
  have x1:(q == 1)=false:=by simp [e1]
  by_cases e2:q=2
  ·subst e2;have C:=HR.out;rw [pr_2] at C;obtain⟨gq,W,rfl,a,Q,aQ,ad,E⟩:=K.cell1 ac.out.1 P ak.out;have af:=RowB.lt a;obtain⟨Y,q5⟩:=K.r5.c2;have M:=K.r5.lt;have be:=K.r5.frozen;have aA:=ac.out.1;have bd:(k:Int)<=(c1:Int):=by omega
   have ho:=RowI.own (row_take (k:=k) a) ad af (c:=c1) (by rw [List.length_append,List.length_take,flatI,List.length_map,List.length_drop];omega) aQ;rw [List.length_take,Nat.min_eq_left (by omega)] at ho;have a2:=kD (K.board (b':=(b.1.take k,b.2)) (Base.grownBy_setCell _ g5 0 (.slice (some ⟨gq,0,none⟩) k c1)) (K.r5.set 0 _) ho K.o2 K.n1 K.n2);clear a Q E ho aA;go_wp2_with fail;go_meet;exact⟨v,_,s4,_,_,kD ⟨C.symm,by have:=(okV_iff.1 S.out).2.2.2.2;omega⟩,a2⟩
  have x2:(q == 2)=false:=by simp [e2]
  by_cases e3:q=3
  ·subst e3;have C:=HR.out;rw [pr_3] at C;have CE:=kD (λ(N:World)=>empty_s v S.out N);have HZ:Hid (zr v=List.replicate n 0):=kD (by unfold zr;rw [show v.p.toNat+1=n by have:=HN.out;omega]);clear K x0 x1 x2;go_upto_region 12 with fail;refine region_rel [some 46,some 47,some 48,some 49,some 50,none] 6 (Pl [some (.agg #[.int .i64 v.p,.int .i64 v.c,.int .i64 v.h,.int .i64 v.s]),none,some (.agg #[.int .i64 v.p,.int .i64 v.c,.int .i64 v.h,.int .i64 v.s]),none,none,none]) (λ L f w'=>E2F w7 g5 n (L 1) (L 3) (L 4) (L 5) (f 1) (f 3) (f 4) w') (by kernel_rfl) (by kernel_rfl) (by kernel_rfl) (by kernel_rfl) (by kernel_rfl) (by kernel_rfl) (by first | kernel_rfl | rfl) ?g0_2 ?gst_2 ?gfin_2
   case g0_2=>exact⟨λ _=>(Below.refl _ _).drew,λ h=>absurd h (by decide),λ h=>absurd h (by decide),λ h=>absurd h (by decide),λ h=>absurd h (by decide)⟩
   case gst_2 =>
    refine rN rfl (λ L f A N o t m U F K J=>?_) ?_
    ·have e4:=U.w 4 (.pointer (some ⟨g4,0,none⟩));have W:=G.out.r4.below (F.bel (λ h=>o (m 5 0 (by kernel_rfl) h))) G.out.r4.lt;obtain⟨q0,T,q2,V⟩:=W.c4;have ar:=W.lt;clear W;go_simp;exact pF J (F.skip 0 _)
    refine rN rfl (λ L f A N o t m U F K J=>?_) ?_
    ·have bh:=U.v 0 46;have y:=F.bel (λ h=>o (m 5 1 (by kernel_rfl) h));go_simp;refine(CE.out N).mono ?_;rintro e w6 ⟨⟨qn,n',aL,rfl,hq,a⟩,ai⟩;obtain rfl:n'=n:=by have:=HN.out;omega
     have aS:=y.size;exact J.out _ w6 (Pl.any rfl) ⟨λ _=>y.trans (ai.mono y.size),λ _=>⟨qn,by rw [upd_same],a,by omega⟩,λ h=>absurd (m 3 1 (by kernel_rfl) (rL h)) o,λ h=>absurd (m 4 1 (by kernel_rfl) (rL h)) o,λ h=>absurd (m 5 1 (by kernel_rfl) (rL h)) o⟩
    refine rN rfl (λ L f A N o t m U F K J=>?_) ?_
    ·have e4:=U.w 4 (.pointer (some ⟨g4,0,none⟩));have W:=G.out.r4.below (F.bel (λ h=>o (m 5 2 (by kernel_rfl) h))) G.out.r4.lt;obtain⟨q0,T,q2,V⟩:=W.c4;have ar:=W.lt;clear W;go_simp;exact pF J (F.skip 2 _)
    refine rN rfl (λ L f A N o t m U F K J=>?_) ?_
    ·have bg:=U.v 2 48;have y:=F.bel (λ h=>o (m 5 3 (by kernel_rfl) h));go_simp;refine(CE.out N).mono ?_;rintro e w6 ⟨⟨qn,n',aL,rfl,hq,a⟩,ai⟩;obtain rfl:n'=n:=by have:=HN.out;omega
     have aS:=y.size;refine(F.f1 (bK t 1)).elim λ T r=>?_
     exact J.out _ w6 (Pl.any rfl) ⟨λ _=>y.trans (ai.mono y.size),λ _=>⟨T,by rw [upd_ne (by decide)];exact r.1,RowB.below r.2.1 ai (RowB.lt r.2.1),r.2.2⟩,λ _=>⟨.inr (bK t 1),⟨qn,by rw [upd_same],a,by omega⟩⟩,λ h=>absurd (m 4 3 (by kernel_rfl) (rL h)) o,λ h=>absurd (m 5 3 (by kernel_rfl) (rL h)) o⟩
    refine rN rfl (λ L f A N o t m U F K J=>?_) ?_
    ·have aD:=U.x 1 47;have aC:=U.x 3 49;have y:=F.bel (λ h=>o (m 5 4 (by kernel_rfl) h));refine(F.f1 (bK t 1)).elim λ T r=>?_
     have s3:=F.f3 (bK t 3);refine s3.2.elim λ V s=>?_
     have r1:=r.1;have s1:=s.1;have a6:=aD.trans r1;have a5:=aC.trans s1;clear aD aC r s s3;go_simp;exact J.out _ N (Pl.any rfl) ⟨λ _=>y,λ h=>by rw [upd_ne (by decide)];exact F.f1 (rL h),λ h=>by rw [upd_ne (by decide)];exact⟨.inr (F.f3 (rL h)).1,(F.f3 (rL h)).2⟩,λ _=>⟨.inr (bK t 3),by rw [upd_same,upd_ne (by decide),upd_ne (by decide),r1,s1]⟩,λ h=>absurd (m 5 4 (by kernel_rfl) (rL h)) o⟩
    refine rN rfl (λ L f A N o t m U F K J=>?_) ?_
    ·have e5:=U.w 5 (.pointer (some ⟨g5,0,none⟩));have aW:=U.x 4 50;have y:=F.bel o;have Y:=F.f4 (bK t 4);have s3:=F.f3 Y.1;refine(F.f1 s3.1).elim λ T r=>?_
     refine s3.2.elim λ V s=>?_
     have h4:=Y.2;rw [r.1,s.1] at h4;have M:=G.out.r5.lt;have rr:=G.out.r5.below y M;refine wp_sm 28 _ _ rfl g5 0 [.slice (some ⟨T,0,none⟩) n n,.slice (some ⟨V,0,none⟩) n n] _ (ev e5) (ev (aW.trans h4)) 28 rr (by kernel_rfl) (Nat.le_refl _) rfl ?_;have I:=grown_cells g5 [.slice (some ⟨T,0,none⟩) n n,.slice (some ⟨V,0,none⟩) n n] 0 N;have bb:=r.2.2;have ba:=s.2.2;exact J.out undef _ (Pl.any rfl) ⟨λ h=>absurd (.inl rfl) h,λ h=>⟨T,by rw [upd_ne (by decide)];exact r.1,RowB.grown r.2.1 I (λ k hk=>by simp at hk;omega),r.2.2⟩,λ _=>⟨.inr s3.1,V,by rw [upd_ne (by decide)];exact s.1,RowB.grown s.2.1 I (λ k hk=>by simp at hk;omega),s.2.2⟩,λ _=>⟨.inr Y.1,by rw [upd_ne (by decide),upd_ne (by decide),upd_ne (by decide)];exact Y.2⟩,λ _=>⟨.inr Y.1,by rw [upd_ne (by decide),upd_ne (by decide),r.1,s.1];exact row_cells _ _ _ _ rr,grownBy_trans (grown_bel y) I⟩⟩
    exact RelFrom.nil (by decide)
   intro f wf hp F;simp only [Fr,Act.put,sX,Nat.reduceAdd];obtain⟨h3,a,al⟩:=F.fin trivial;obtain⟨qa,ea,ra,a9⟩:=F.f1 trivial;obtain⟨-,qb,eb,rb,a8⟩:=F.f3 trivial;rw [ea,eb] at a;have K:=G.out;have l:=K.lo;have M:=K.r5.lt;have bf:w7.heap.size<=wf.heap.size:=al.size;have aP:=RowB.lt ra;have aO:=RowB.lt rb;have a7:=K.r1.lt;obtain⟨O,av,aj,hO⟩:=K.put al (by omega);have oa:=RowI.own ra (show w.heap.size+2<=qa by omega) aP (show (List.replicate n (0:Int)).length+([]:List Value).length=n by rw [List.length_replicate];rfl) (by unfold maxLen;omega);have ob:=RowI.own rb (show w.heap.size+2<=qb by omega) aO (show (List.replicate n (0:Int)).length+([]:List Value).length=n by rw [List.length_replicate];rfl) (by unfold maxLen;omega);rw [List.length_replicate] at oa ob;have aY:=kD (show Pw w0 w B g A cp xs s4 g4 g5 v (.slice (some ⟨qa,0,none⟩) n n) (.slice (some ⟨qb,0,none⟩) n n) (zr v,zr v) [.int .i64 0,.int .i64 0,.int .i64 0,.int .i64 0] [.slice none 0 0,.slice none 0 0] wf from⟨O,av,aj _ _ _ (by omega) K.r0,aj _ _ _ (by omega) K.r1,aj _ _ _ (by omega) K.r4,a,by rw [HZ.out];exact oa,by rw [HZ.out];exact ob,λ j hj=>by simp [Value.ownBlock] at hj;omega,λ j hj=>by simp [Value.ownBlock] at hj;omega,l⟩);clear F hp ra rb a al K O av aj hO oa ob ea eb h3;go_wp2_with fail;go_meet;exact⟨v,_,s4,_,_,kD ⟨C.symm,by have:=(okV_iff.1 S.out).2.2.2.2;omega⟩,aY⟩
  have x3:(q == 3)=false:=by simp [e3]
  by_cases e4:q=4
  ·subst e4;clear K x0 x1 x2 x3;go_wp2_with fail;refine(v01a_x G.out.D).mono ?_;rintro e w8 ⟨z,s5,rfl,an,O,I⟩;have C:=HR.out;rw [pr_4 an] at C;have K:=G.out.next O I;have rr:=K.r4;go_wp2_with (refine wM 25 0 [.int .i64 z.p,.int .i64 z.c,.int .i64 z.h,.int .i64 z.s] rr ?_;intro N s9 aT z9;refine Hid.out ?_);have aZ:=kD (K.vari aT s9);refine kD ?_;go_wp2_with fail;go_meet;exact⟨z,_,s5,_,_,kD ⟨C.symm,by have h:=dx_any G.out.D;rw [an] at h;exact h⟩,aZ⟩
  have x4:(q == 4)=false:=by simp [e4]
  by_cases e5:q=5
  ·subst e5;have C:=HR.out;rw [pr_5] at C;obtain⟨gq,W,rfl,a,Q,-,ad,E⟩:=K.cell2 ab.out.1 P ak.out.symm;have m:=a.at_ (i:=k) (by rw [ab.out.1];exact P);have aw:=RowB.frozen a;have af:=RowB.lt a;obtain⟨Y,q5⟩:=K.r5.c2;have M:=K.r5.lt;have aR:=ab.out.2 k;have aJ:IntKind.i64.wrap (at_ b.2 k+1)=at_ b.2 k+1:=IntWalk.i64_in _ (by omega);clear a Q;go_wp2_with fail;go_still_tail 10,(by kernel_rfl);go_wp2_with fail;go_meet;exact⟨v,_,s4,_,_,kD ⟨C.symm,by have:=(okV_iff.1 S.out).2.2.2.2;omega⟩,kD (E _ (Below.refl _ _).drew (at_ b.2 k+1))⟩
  ·have x5:(q == 5)=false:=by simp [e5]
   have C:=HR.out;rw [pr_6 e0 e1 e2 e3 e4 e5] at C;clear K;go_wp2_with fail;go_meet;exact⟨v,_,s4,_,_,kD ⟨C.symm,by have:=(okV_iff.1 S.out).2.2.2.2;omega⟩,G⟩
 case rest =>
  obtain⟨z,b',s',u1,u2,aE,G⟩:=hcut;have a1:Hid (u1.oneCell'=true):=kD (by obtain⟨X,d,e,-⟩:=G.out.o1.form enI_len;rw [e];rfl);have a0:Hid (u2.oneCell'=true):=kD (by obtain⟨X,d,e,-⟩:=G.out.o2.form enI_len;rw [e];rfl);go_upto_region 17 with fail;refine region_rel [some 67,some 68,none,none] 4 (Pl [some (.agg #[.int .i64 z.p,.int .i64 z.c,.int .i64 z.h,.int .i64 z.s]),some (.agg #[u1,u2]),none,none]) (λ L f w'=>R2 w0 w B g A cp xs s' g4 g5 z u1 u2 b' (L 2) (L 3) w') (by kernel_rfl) (by kernel_rfl) (by kernel_rfl) (by kernel_rfl) (by kernel_rfl) (by kernel_rfl) (by first | kernel_rfl | rfl) ?g0_1 ?gst_1 ?gfin_1
  case g0_1=>exact⟨⟨_,_,_,_,_,_,G.out.below (Below.refl _ _).drew,λ h=>absurd h (by decide),λ h=>absurd h (by decide)⟩⟩
  case gst_1 =>
   refine rN rfl (λ L f A N o t m U F K J=>?_) ?_
   ·have e4:=U.w 4 (.pointer (some ⟨g4,0,none⟩));obtain⟨_,_,_,_,_,_,H,-⟩:=F.K;obtain⟨q0,T,q2,V⟩:=H.r4.c4;have Y:=H.r5.c2.1;have q5:=H.r5.c2.2;have ag:=H.r4.lt;have M:=H.r5.lt;clear H;go_simp;exact pF J (F.skip 0 (by decide))
   refine rN rfl (λ L f A N o t m U F K J=>?_) ?_
   ·have e5:=U.w 5 (.pointer (some ⟨g5,0,none⟩));obtain⟨_,_,_,_,_,_,H,-⟩:=F.K;obtain⟨q0,T,q2,V⟩:=H.r4.c4;have Y:=H.r5.c2.1;have q5:=H.r5.c2.2;have ag:=H.r4.lt;have M:=H.r5.lt;clear H;go_simp;exact pF J (F.skip 1 (by decide))
   refine rN rfl (λ L f A N o t m U F K J=>?_) ?_
   ·have e2:=U.w 2 (.pointer (some ⟨w.heap.size,0,none⟩));have aV:=U.v 0 67;obtain⟨_,_,_,_,_,_,H,e0,e1⟩:=F.K;have aH:=G.out.lo;refine wp_sm 25 _ _ rfl (w.heap.size) 0 [.int .i64 z.p,.int .i64 z.c,.int .i64 z.h,.int .i64 z.s] _ (ev e2) (ev aV) 25 H.r0 (by kernel_rfl) (Nat.le_refl _) rfl ?_;exact J.out undef _ (Pl.any rfl) ⟨⟨_,_,_,_,_,_,H.res0 (grown_cells _ _ _ _) (row_cells _ _ _ _ H.r0),λ _=>rfl,λ h=>e1 (rL h)⟩⟩
   refine rN rfl (λ L f A N o t m U F K J=>?_) ?_
   ·have e3:=U.w 3 (.pointer (some ⟨w.heap.size+1,0,none⟩));have aU:=U.v 1 68;obtain⟨_,_,_,_,_,_,H,e0,e1⟩:=F.K;have aH:=G.out.lo;refine wp_sm 28 _ _ rfl (w.heap.size+1) 0 [u1,u2] _ (ev e3) (ev aU) 28 H.r1 (by kernel_rfl) (Nat.le_refl _) (by have h1:=a1.out;have h2:=a0.out;simp [h1,h2]) ?_;exact J.out undef _ (Pl.any rfl) ⟨⟨_,_,_,_,_,_,H.res1 (grown_cells _ _ _ _) (row_cells _ _ _ _ H.r1),λ h=>e0 (rL h),λ _=>rfl⟩⟩
   exact RelFrom.nil (by decide)
  intro f wf hp F;simp only [Fr,Act.put,sX,Nat.reduceAdd];obtain⟨_,_,_,_,_,_,K,e0,e1⟩:=F.K;rw [e0 trivial,e1 trivial] at K;obtain⟨x0,x1,x2,x3⟩:=K.r0.c4;obtain⟨x4,x5⟩:=K.r1.c2;have ar:=K.r0.lt;have bc:=K.r1.lt;have G:=kD K;clear F hp K
  repeat (first | go_values | go_skip | go_step | go_upon)
  refine bodyPost_ret (v:=.tuple #[.agg #[.int .i64 z.p,.int .i64 z.c,.int .i64 z.h,.int .i64 z.s],.agg #[u1,u2]]) (by simp [results,Tryz.results149,go_sem,x0,x1,x2,x3,x4,x5]) rfl ?_;exact⟨z,b',s',u1,u2,rfl,⟨aX.out.trans aE.out.1,aE.out.2⟩,⟨G.out.o1.less (by omega),G.out.o2.less (by omega)⟩,G.out.D,G.out.gr⟩
end
end HdC
namespace HdD
open Go Go.ChangeShapes Go.WideShapes Go.ChangeAt Go.RowKit Base Ints Own Clone RelG PlP Gm Bd1 Bd2 Bd5 Bd6 Bd7 Bd8 RegInv RegF RegG Draw DrawD DwP DwQ DwA HdP HdA HdB HdC
structure P4F (w0 w:World) (B g:Nat) (A:Option Addr) (cp:Nat) (xs:List Int) (st:Nat × Int) (g4:Nat) (v:Vr) (n:Nat) (p3 p4 p5:Prop) (v3:Value) (w':World):Prop where
 d0:¬ p3->Dx w0 B g A cp xs st w'
 d1:p3->∃(A1:Option Addr) (c1:Nat) (A2:Option Addr) (c2:Nat) (b:Bd) (st':St),v3=.agg #[.slice A1 n c1,.slice A2 n c2]∧bd02 xs v st=(b,st')∧(OwnS w' (w.heap.size+2) w'.heap.size 2 1 enI (.slice A1 n c1) b.1∧OwnS w' (w.heap.size+2) w'.heap.size 2 1 enI (.slice A2 n c2) b.2)∧Dx w0 B g A cp xs st' w'
 gr:w.grownBy w' (some g)
 r4:RowB w' g4 25 (vL v)
 r0:∃ a b c d,RowB w' w.heap.size 25 [a,b,c,d]∧(p4->[a,b,c,d]=[.int .i64 v.p,.int .i64 v.c,.int .i64 v.h,.int .i64 v.s])
 r1:∃ x y,RowB w' (w.heap.size+1) 28 [x,y]∧(p5->p3∧v3=.agg #[x,y])
 lo:g<w.heap.size∧w.heap.size+1<g4
section
variable {w0 w w':World} {B g cp:Nat} {A:Option Addr} {xs:List Int} {st:Nat × Int} {g4 n:Nat} {v:Vr} {L:Nat->Prop} {vals:Nat->Value}
theorem P4F.skip (F:P4F w0 w B g A cp xs st g4 v n (L 3) (L 4) (L 5) (vals 3) w') (k:Nat) (y:Value) (h:3≠k∧4≠k∧5≠k:=by decide):P4F w0 w B g A cp xs st g4 v n (3=k∨L 3) (4=k∨L 4) (5=k∨L 5) (upd vals k y 3) w':=by
 rw [or_ne h.1,or_ne h.2.1,or_ne h.2.2,upd_ne h.1];exact F
theorem P4F.put4 {W W':World} {v3:Value} (F:P4F w0 w B g A cp xs st g4 v n (L 3) (L 4) (L 5) v3 W) (hg:W.grownBy W' (some w.heap.size)) (hr:RowB W' w.heap.size 25 (vL v)) {y:Value} (hy:y=v3):P4F w0 w B g A cp xs st g4 v n (3=4∨L 3) (4=4∨L 4) (5=4∨L 5) y W':=by
 subst hy;have q:=F.lo;have a:∀ k,some w.heap.size=some k->k=w.heap.size:=λ k h=>by simpa using h.symm
 obtain⟨x,t,j,i⟩:=F.r1;refine⟨λ h=>(F.d0 (λ e=>h (.inr e))).grown hg ?_ ?_,λ h=>?_,grown_own F.gr hg (λ k c=>by have:=a k c;omega),F.r4.grown hg (λ k c=>by have:=a k c;omega),⟨_,_,_,_,hr,λ _=>rfl⟩,⟨x,t,j.grown hg (λ k c=>by have:=a k c;omega),λ h=>⟨.inr (i (rL h)).1,(i (rL h)).2⟩⟩,q⟩
 ·intro k c;have:=a k c;have:=(F.d0 (λ e=>h (.inr e))).base;omega
 ·intro k c;have:=a k c;omega
 ·obtain⟨C,s,z,r,b,d,m,l,⟨p,o⟩,f⟩:=F.d1 (rL h);have D:=f.base;exact⟨C,s,z,r,b,d,m,l,⟨(p.grown hg (λ k c=>by have:=a k c;omega)).more hg.size,(o.grown hg (λ k c=>by have:=a k c;omega)).more hg.size⟩,f.grown hg (λ k c=>by have:=a k c;omega) (λ k c=>by have:=a k c;omega)⟩
theorem P4F.put5 {W W':World} {v3:Value} {x y:Value} (F:P4F w0 w B g A cp xs st g4 v n (L 3) (L 4) (L 5) v3 W) (h3:L 3) (hv:v3=.agg #[x,y]) (hg:W.grownBy W' (some (w.heap.size+1))) (hr:RowB W' (w.heap.size+1) 28 [x,y]) {z:Value} (hz:z=v3):P4F w0 w B g A cp xs st g4 v n (3=5∨L 3) (4=5∨L 4) (5=5∨L 5) z W':=by
 subst hz;have o:=F.lo;have a:∀ k,some (w.heap.size+1)=some k->k=w.heap.size+1:=λ k h=>by simpa using h.symm
 obtain⟨D,C,t,s,f,p⟩:=F.r0;obtain⟨G,r,E,q,b,d,j,i,⟨m,l⟩,e⟩:=F.d1 h3;have H:=e.base;exact⟨λ h=>absurd (.inr h3) h,λ _=>⟨G,r,E,q,b,d,j,i,⟨(m.grown hg (λ k c=>by have:=a k c;omega)).more hg.size,(l.grown hg (λ k c=>by have:=a k c;omega)).more hg.size⟩,e.grown hg (λ k c=>by have:=a k c;omega) (λ k c=>by have:=a k c;omega)⟩,grown_own F.gr hg (λ k c=>by have:=a k c;omega),F.r4.grown hg (λ k c=>by have:=a k c;omega),⟨D,C,t,s,f.grown hg (λ k c=>by have:=a k c;omega),λ h=>p (rL h)⟩,⟨x,y,hr,λ _=>⟨.inr h3,hv⟩⟩,o⟩
end
section
variable {w0 w:World} {B g cp:Nat} {A:Option Addr} {xs:List Int} {st:Nat × Int}
theorem d15_x (h:Dx w0 B g A cp xs st w) :
  Calls Tryz.prog 118 #[.pointer (some ⟨g,0,none⟩)] w λ e w'=>PEnd (λ v b st'=>d15 xs st=((v,b),st')∧v.s<=7) w0 w B g A cp xs e w':=by
 have az:=h.lt;go_enter Tryz.func118,Tryz.ntmps118;go_upto_region 1 with fail;refine wp_gen (λ W'=>Rx w0 w B g A cp xs st [(0,25,[.int .i64 0,.int .i64 0,.int .i64 0,.int .i64 0]),(1,28,[.slice none 0 0,.slice none 0 0])] W') ⟨((h.alloc _).alloc _),grown_bel (by go_grown),λ p hp=>?_,h.lt⟩ ?_
 ·simp only [List.mem_cons,List.not_mem_nil,or_false] at hp;rcases hp with rfl | rfl
  ·exact(RowB.new _ _ _).alloc _
  ·exact RowB.new' _ _ _ (by simp)
 clear h;intro w1 K;go_wp2_with fail;refine(nextX K.D 3 (by decide)).mono ?_;rintro e w2 ⟨p,s1,⟨rfl,p0,p1,-,n1⟩,i,f,-⟩;have p1:=p1 (by decide);have K:=K.next i f;have aw:IntKind.i64.wrap (4+p)=4+p:=IntWalk.i64_in _ (by omega);clear i f;go_wp2_with fail;refine(nextX K.D 2 (by decide)).mono ?_;rintro e w3 ⟨c,s2,⟨rfl,c0,H,-,n2⟩,i,f,-⟩;have H:=H (by decide);have K:=K.next i f;have av:IntKind.i64.wrap (1+c)=1+c:=IntWalk.i64_in _ (by omega);clear i f;go_wp2_with fail;refine(nextX K.D 2 (by decide)).mono ?_;rintro e w4 ⟨hh,s3,⟨rfl,h0,h1,-,n3⟩,i,f,-⟩;have h1:=h1 (by decide);have K:=K.next i f;have ar:IntKind.i64.wrap (1+hh)=1+hh:=IntWalk.i64_in _ (by omega);clear i f;go_wp2_with fail;refine(nextX K.D 2 (by decide)).mono ?_;rintro e w5 ⟨d,s4,⟨rfl,d0,d1,-,n4⟩,i,f,-⟩;have d1:=d1 (by decide);have K:=K.next i f;have aq:IntKind.i64.wrap (1+d)=1+d:=IntWalk.i64_in _ (by omega);clear i f;go_upto_region 2 with fail;obtain⟨v,hv⟩:∃ v:Vr,v=⟨4+p,1+c,1+hh,1+d⟩:=⟨_,rfl⟩;have v1:4+p=v.p:=by rw [hv]
 have v2:1+c=v.c:=by rw [hv]
 have v3:1+hh=v.h:=by rw [hv]
 have v4:1+d=v.s:=by rw [hv]
 obtain⟨g4,S⟩:∃ q,w5.heap.size=q:=⟨_,rfl⟩;have ai:=(K.nth 1 rfl).lt;rw [S] at ai;simp only [v1,v2,v3,v4];refine wp_gen (λ W'=>Rx w0 w B g A cp xs s4 [(0,25,[.int .i64 0,.int .i64 0,.int .i64 0,.int .i64 0]),(1,28,[.slice none 0 0,.slice none 0 0])] W'∧RowB W' g4 25 (vL v)) ⟨K.alloc _,by rw [<-S];exact RowB.new _ _ _⟩ ?_
 try simp only [S]
 have Y:okV v=true:=okV_iff.2 (by rw [<-v1,<-v2,<-v3,<-v4];omega);have HV:=kD hv;have ay:v.s<=7:=by omega
 obtain⟨n,hn⟩:∃ n:Nat,(n:Int)=v.p+1:=⟨(v.p+1).toNat,by omega⟩;clear K S aw av ar aq p0 p1 c0 H h0 h1 d0 d1 v1 v2 v3 v4 hv;rintro w6 ⟨K,R4⟩;go_wp2_with fail;refine(nextX K.D 16 (by decide)).mono ?_;rintro e w7 ⟨t,s5,⟨rfl,t0,t1,-,n5⟩,i,f,-⟩;have m:=kD (K.next i f);have R4:=R4.grown f (λ k r=>by simp at r;omega);clear i f t1 K;by_cases ht:t=0
 ·subst ht;have C:=λ R=>d15_0 (R:=R) n1 n2 n3 n4 n5
  have HR:=kD C;clear C n1 n2 n3 n4 n5 Y hn R4;go_wp2_with fail;refine(pr02_x m.out.D).mono ?_;rintro e w8 ⟨O,b,s6,u1,u2,rfl,⟨ah,ax⟩,⟨W,V⟩,i,f⟩;have aH:=m.out.gr.size;have aG:=(m.out.nth 1 rfl).lt;have K:=m.out.next i f;have aF:u1.oneCell'=true:=by obtain⟨X,d,e,-⟩:=W.form enI_len;rw [e];rfl
  have aE:u2.oneCell'=true:=by obtain⟨X,d,e,-⟩:=V.form enI_len;rw [e];rfl
  have J:=kD (HR.out _ ah);clear m HR i f ah;have rr:=K.nth0 0 rfl;have I:=kD K;clear K;go_wp2_with (refine wM 25 0 [.int .i64 O.p,.int .i64 O.c,.int .i64 O.h,.int .i64 O.s] rr ?_;intro ae ag l ap;refine Hid.out ?_);have K:=I.out.grown 0 ag l;have W:=(W.grown l (λ k r=>by simp at r;omega)).more (hi':=ae.heap.size) l.size;have V:=(V.grown l (λ k r=>by simp at r;omega)).more (hi':=ae.heap.size) l.size;clear I rr l ap ag;have rr:=K.nth 1 rfl;have I:=kD K;clear K;refine kD ?_;go_wp2_with (refine wpL_sm 28 _ _ rfl (w.heap.size+1) 0 [u1,u2] _ _ rfl rfl 28 rr (by kernel_rfl) (Nat.le_refl _) (by simp [aF,aE]) rfl ?_;intro ad af j ao;refine Hid.out ?_);have K:=I.out.grown 1 af j;have ac:=kD ((W.grown j (λ k r=>by simp at r;omega)).more (hi':=ad.heap.size) j.size);have ab:=kD ((V.grown j (λ k r=>by simp at r;omega)).more (hi':=ad.heap.size) j.size);obtain⟨z0,z1,z2,z3⟩:=(K.nth0 0 rfl).c4;obtain⟨z4,z5⟩:=(K.nth 1 rfl).c2;have ak:=(K.nth0 0 rfl).lt;have aj:=(K.nth 1 rfl).lt;have m:=kD K;clear I rr j ao af W V K;refine kD ?_
  repeat (first | go_values | go_skip | go_step | go_upon)
  refine bodyPost_ret (v:=.tuple #[.agg #[.int .i64 O.p,.int .i64 O.c,.int .i64 O.h,.int .i64 O.s],.agg #[u1,u2]]) (by simp [results,Tryz.results118,go_sem,z0,z1,z2,z3,z4,z5]) rfl ?_;exact⟨O,b,s6,u1,u2,rfl,⟨J.out,ax⟩,⟨ac.out.less (by omega),ab.out.less (by omega)⟩,m.out.D,m.out.gr⟩
 ·have aI:(t == 0)=false:=by simp [ht]
  have C:=λ b s6=>d15_1 (b:=b) (s6:=s6) n1 n2 n3 n4 n5 ht
  rw [<-HV.out] at C;have HR:=kD C;have CB:=kD (λ(M:World) (h9:Dx w0 B g A cp xs s5 M)=>bd02_x (w0:=w0) (B:=B) (A:=A) (cp:=cp) (xs:=xs) v Y n hn h9);have an:=kD R4;clear C n1 n2 n3 n4 n5 Y hn R4;go_upto_region 4 with fail;refine region_rel [some 25,some 26,some 27,some 28,none,none] 6 (Pl [some (.agg #[.int .i64 v.p,.int .i64 v.c,.int .i64 v.h,.int .i64 v.s]),some (.pointer (some ⟨g,0,none⟩)),some (.agg #[.int .i64 v.p,.int .i64 v.c,.int .i64 v.h,.int .i64 v.s]),none,none,none]) (λ L a w'=>P4F w0 w B g A cp xs s5 g4 v n (L 3) (L 4) (L 5) (a 3) w') (by kernel_rfl) (by kernel_rfl) (by kernel_rfl) (by kernel_rfl) (by kernel_rfl) (by kernel_rfl) (by first | kernel_rfl | rfl) ?g0_1 ?gst_1 ?gfin_1
  case g0_1=>exact⟨λ _=>m.out.D.below (Below.refl _ _).drew m.out.D.lt,λ h=>absurd h (by decide),grownBy_trans m.out.gr (grown_bel (Below.refl _ _).drew),an.out.below (Below.refl _ _).drew an.out.lt,⟨_,_,_,_,(m.out.nth0 0 rfl).below (Below.refl _ _).drew (m.out.nth0 0 rfl).lt,λ h=>absurd h (by decide)⟩,⟨_,_,(m.out.nth 1 rfl).below (Below.refl _ _).drew (m.out.nth 1 rfl).lt,λ h=>absurd h (by decide)⟩,⟨az,ai⟩⟩
  case gst_1 =>
   refine rN rfl (λ L a A M o y z U F K G=>?_) ?_
   ·have e4:=U.w 4 (.pointer (some ⟨g4,0,none⟩));have E:=F.r4;obtain⟨q0,q1,q2,q3⟩:=E.c4;have al:=E.lt;clear E;go_simp;exact pF G (F.skip 0 _)
   refine rN rfl (λ L a A M o y z U F K G=>?_) ?_
   ·have e0:=U.w 0 (.pointer (some ⟨g,0,none⟩));have E:=F.r4;obtain⟨q0,q1,q2,q3⟩:=E.c4;have al:=E.lt;clear E;go_simp;exact pF G (F.skip 1 _)
   refine rN rfl (λ L a A M o y z U F K G=>?_) ?_
   ·have e4:=U.w 4 (.pointer (some ⟨g4,0,none⟩));have E:=F.r4;obtain⟨q0,q1,q2,q3⟩:=E.c4;have al:=E.lt;clear E;go_simp;exact pF G (F.skip 2 _)
   refine rN rfl (λ L a A M o y z U F K G=>?_) ?_
   ·have aN:=U.v 1 26;have aM:=U.v 2 27;have D0:=F.d0 o;have aa:=F.lo;obtain⟨a0,a1,a2,a3,P,e0⟩:=F.r0;obtain⟨b0,b1,N,-⟩:=F.r1;have aJ:=N.lt;have gr:=F.gr;have r4:=F.r4;go_simp;refine(CB.out M D0).mono ?_;rintro e w6 ⟨A1,H,A2,c2,b,st',rfl,T,⟨am,aL,aK⟩,aA,Q⟩;have Z:∀ k,some g=some k->k=g:=λ k h=>by simpa using h.symm
    exact G.out _ w6 (Pl.any rfl) ⟨λ h=>absurd (.inl rfl) h,λ _=>⟨A1,H,A2,c2,b,st',by rw [upd_same],T,⟨am.o1.less (by omega),am.o2.less (by omega)⟩,aA⟩,grownBy_trans gr Q,r4.grown Q (λ k r=>by have:=Z k r;omega),⟨a0,a1,a2,a3,P.grown Q (λ k r=>by have:=Z k r;omega),λ h=>e0 (rL h)⟩,⟨b0,b1,N.grown Q (λ k r=>by have:=Z k r;omega),λ h=>absurd (z 5 3 (by kernel_rfl) (rL h)) o⟩,aa⟩
   refine rN rfl (λ L a A M o y z U F K G=>?_) ?_
   ·have e2:=U.w 2 (.pointer (some ⟨w.heap.size,0,none⟩));have aC:=U.v 0 25;have aa:=F.lo;obtain⟨a0,a1,a2,a3,P,e0⟩:=F.r0;obtain⟨b0,b1,N,e1⟩:=F.r1;have gr:=F.gr;have r4:=F.r4;refine wp_sm 25 _ _ rfl w.heap.size 0 [.int .i64 v.p,.int .i64 v.c,.int .i64 v.h,.int .i64 v.s] _ (ev e2) (ev aC) 25 P (by kernel_rfl) (Nat.le_refl _) rfl ?_;have f:=grown_cells w.heap.size [.int .i64 v.p,.int .i64 v.c,.int .i64 v.h,.int .i64 v.s] 0 M;exact G.out undef _ (Pl.any rfl) (F.put4 f (by have:=row_cells [.int .i64 v.p,.int .i64 v.c,.int .i64 v.h,.int .i64 v.s] 0 _ _ P;exact this) (by rw [upd_ne (by decide)]))
   refine rN rfl (λ L a A M o y z U F K G=>?_) ?_
   ·have e3:=U.w 3 (.pointer (some ⟨w.heap.size+1,0,none⟩));have aB:=U.x 3 28;have aa:=F.lo;obtain⟨b0,b1,N,-⟩:=F.r1;refine(F.d1 (bK y 3)).elim λ A1 q=>?_
    refine q.elim λ H q=>?_
    refine q.elim λ A2 q=>?_
    refine q.elim λ c2 q=>?_
    refine q.elim λ b q=>?_
    refine q.elim λ st' q=>?_
    have q1:=q.1;refine wp_sm 28 _ _ rfl (w.heap.size+1) 0 [.slice A1 n H,.slice A2 n c2] _ (ev e3) (ev (aB.trans q1)) 28 N (by kernel_rfl) (Nat.le_refl _) rfl ?_;have f:=grown_cells (w.heap.size+1) [.slice A1 n H,.slice A2 n c2] 0 M;exact G.out undef _ (Pl.any rfl) (F.put5 (bK y 3) q1 f (by have:=row_cells [.slice A1 n H,.slice A2 n c2] 0 _ _ N;exact this) (by rw [upd_ne (by decide)]))
   exact RelFrom.nil (by decide)
  intro a wf hp F;simp only [Fr,Act.put,sX,Nat.reduceAdd];obtain⟨a0,a1,a2,a3,P,e0⟩:=F.r0;obtain⟨b0,b1,N,e1⟩:=F.r1;obtain⟨A1,H,A2,c2,b,s6,e3,T,⟨W,V⟩,i⟩:=F.d1 trivial;have gr:=F.gr;have e1:=(e1 trivial).2;rw [e3] at e1;simp only [Value.agg.injEq,Array.mk.injEq,List.cons.injEq,and_true] at e1;obtain⟨rfl,rfl⟩:=e1;rw [e0 trivial] at P;obtain⟨z0,z1,z2,z3⟩:=P.c4;obtain⟨z4,z5⟩:=N.c2;have ak:=P.lt;have aj:=N.lt;have ac:=kD W;have ab:=kD V;have aD:=kD i;have J:=kD (HR.out _ _ T);clear F hp P N e0 e3 W V i T HR CB m
  repeat (first | go_values | go_skip | go_step | go_upon)
  refine bodyPost_ret (v:=.tuple #[.agg #[.int .i64 v.p,.int .i64 v.c,.int .i64 v.h,.int .i64 v.s],.agg #[.slice A1 n H,.slice A2 n c2]]) (by simp [results,Tryz.results118,go_sem,z0,z1,z2,z3,z4,z5]) rfl ?_;exact⟨v,b,s6,_,_,rfl,⟨J.out,ay⟩,⟨ac.out.less (by omega),ab.out.less (by omega)⟩,aD.out,gr⟩
end
end HdD
end Go.Proofs.YtmncnhbjifeoeaaGreat
