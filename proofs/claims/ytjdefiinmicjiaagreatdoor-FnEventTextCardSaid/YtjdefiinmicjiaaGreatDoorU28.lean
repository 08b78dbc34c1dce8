/- Parts of the proof of FnEventText. Conditions: each theorem's own. -/
import Derived.Test.YtjdefiinmicjiaaGreatDoorU27
set_option linter.unusedVariables false
set_option linter.unusedSimpArgs false
set_option maxHeartbeats 8000000
set_option maxRecDepth 100000
namespace Go.Proofs.YtjdefiinmicjiaaGreatDoor
namespace DwE
open Go Go.ChangeShapes Go.WideShapes Go.ChangeAt Go.RowKit Base Ints Own RelG PlP TxP Gm RegInv RegF RegG Bd1 Bd5 Draw DrawD DwP DwQ DwA DwB DwC DwD
theorem _root_.Go.Proofs.YtjdefiinmicjiaaGreatDoor.Gm.EvL.weak {w:World} {S S':Nat->Prop} {A:Option Addr} {es:List Ev} (h:EvL w S A es) (hs:∀ b,S b->S' b):EvL w S' A es:=by
 obtain⟨c,e,d⟩:=h;exact⟨c,e.weak (λ b a _=>hs b a),d.weak (λ b a _=>hs b a)⟩
def Ea (W:World) (S:Nat->Prop) (ev:Value) (es:List Ev):Prop :=
 ∃ rs:List ERow,OwnS W 0 W.heap.size 28 5 enEv ev rs∧(∀ g,ev.ownBlock=some g->S g)∧LsR RelEr W (λ b=>S b∧ev.ownBlock≠some b) rs es
section
variable {W W':World} {S S':Nat->Prop} {ev:Value} {es:List Ev}
theorem Ea.of {lo:Nat} (h:Evs W lo ev es) (hS:∀ b,lo<=b->b<W.heap.size->S b):Ea W S ev es:=by
 obtain⟨k,d,j,s⟩:=h;refine⟨k,d.less (Nat.zero_le _),λ g e=>hS g (d.block g e).1 (d.block g e).2,j.1,λ i r x m l=>?_⟩;obtain⟨a,b⟩:=j.2 i r x m l;obtain⟨q,p,o,c,-⟩:=b.sl enSt_len;exact⟨a,q,p,o,c.weak (λ b f n=>⟨hS b f.2 n,f.1⟩)⟩
theorem Ea.evl {A:Option Addr} {m c:Nat} (h:Ea W S (.slice A m c) es):EvL W S A es:=by
 obtain⟨s,p,z,o⟩:=h;obtain⟨E,D,e,f⟩:=p.form enEv_len;simp only [Value.slice.injEq] at e;obtain⟨rfl,-,-⟩:=e;refine⟨s,⟨f.1,λ l=>?_⟩,o.1,λ i r x v t=>?_⟩
 ·obtain⟨b,j,q,n,w⟩:=f.2 l;refine⟨b,j,q,?_,n,w⟩;rcases p.cases_ with ⟨d,e3⟩ | ⟨g,cap,rest,d,_⟩
  ·rw [e3] at l;simp at l
  ·have y:=z g (by rw [d];rfl);simp only [Value.slice.injEq] at d;rw [q] at d;simp only [Option.some.injEq,Addr.mk.injEq] at d;rw [d.1.1];exact y
 ·obtain⟨a,C,B,d,k⟩:=o.2 i r x v t;exact⟨a,C,B,d,k.weak (λ b n _=>n.1)⟩
end
end DwE
namespace EtA
open Go Go.ChangeShapes Go.WideShapes Go.ChangeAt Go.RowKit Base Ints Own RelG PlP TxP Gm RegInv RegF RegG Bd1 Bd5 Draw DrawD DwP DwQ DwA DwB DwC DwD DwE EtP
theorem own_rd {W:World} {lo n c:Nat} {A:Option Addr} {l:List Stp} (h:OwnS W lo W.heap.size 111 4 enSt (.slice A n c) l):RdS W W.heap.size 4 enSt A l:=by
 obtain⟨d,b,e,a,-⟩:=(OwnV.of (S:=λ _=>True) h (Nat.le_refl _) (λ _ _ _=>trivial)).sl enSt_len;simp only [Value.slice.injEq] at e;obtain⟨rfl,-,rfl⟩:=e;exact a.rd
structure De (w1:World) (g:Nat) (A:Option Addr) (cp:Nat) (xs:List Int) (st:Nat × Int) (L:List (Nat × TypeId × List Value)) (W:World):Prop where
 D:Dx w1 g g A cp xs st W
 at_:∀ p ∈ L,g<p.1∧RowB W p.1 p.2.1 p.2.2
section
variable {w1 W W':World} {g cp:Nat} {A:Option Addr} {xs:List Int} {st st':Nat × Int} {L:List (Nat × TypeId × List Value)}
theorem De.next (K:De w1 g A cp xs st L W) (hD:Dx w1 g g A cp xs st' W') (hg:W.grownBy W' (some g)):De w1 g A cp xs st' L W' :=
 ⟨hD,λ p hp=>⟨(K.at_ p hp).1,(K.at_ p hp).2.grown hg (λ k hk=>by simp at hk;have:=(K.at_ p hp).1;omega)⟩⟩
theorem De.below (K:De w1 g A cp xs st L W) (hb:Below W.heap.size W W'):De w1 g A cp xs st L W' :=
 ⟨K.D.below hb K.D.lt,λ p hp=>⟨(K.at_ p hp).1,(K.at_ p hp).2.below hb (K.at_ p hp).2.lt⟩⟩
theorem De.add (K:De w1 g A cp xs st L W) {q:Nat} {t:TypeId} {cs:List Value} (hq:g<q) (h:RowB W q t cs):De w1 g A cp xs st ((q,t,cs) :: L) W :=
 ⟨K.D,λ p hp=>by
  rcases List.mem_cons.1 hp with rfl | hp
  ·exact⟨hq,h⟩
  ·exact K.at_ p hp⟩
theorem De.nth (K:De w1 g A cp xs st L W) (i:Nat) {q:Nat} {t:TypeId} {cs:List Value} (h:L[i]?=some (q,t,cs)):RowB W q t cs:=(K.at_ _ (List.mem_of_getElem? h)).2
theorem De.put {q:Nat} {t:TypeId} {cs new:List Value} (K:De w1 g A cp xs st ((q,t,cs) :: L) W) (hL:∀ p ∈ L,p.1≠q) (h:RowB W' q t new) (hg:W.grownBy W' (some q)):De w1 g A cp xs st ((q,t,new) :: L) W':=by
 have l:=(K.at_ (q,t,cs) (List.mem_cons_self ..)).1;simp only at l;refine⟨K.D.grown hg (λ k a=>by simp at a;omega) (λ k a=>by simp at a;omega),λ p b=>?_⟩;rcases List.mem_cons.1 b with rfl | b
 ·exact⟨l,h⟩
 ·have c:=K.at_ p (List.mem_cons_of_mem _ b);exact⟨c.1,c.2.grown hg (λ k a=>by simp at a;have:=hL p b;omega)⟩
end
theorem dx_any {W:World} {B g cp:Nat} {A:Option Addr} {xs:List Int} {st:Nat × Int} (hs:SrcX W g A xs.length cp st) (hr:RdS W B 1 enB A xs) (hw:∀ x ∈ xs,(Lit.int .u8 x).wf=true) (hB:B<=g):∃ w0,Dx w0 B g A cp xs st W:=by
 have c:=hs.lt;have a:(W.heap.extract 0 B).size=B:=by simp;omega
 refine⟨{ W with heap:=W.heap.extract 0 B },hs,hr,hw,⟨rfl,rfl,rfl,?_,λ i b=>?_⟩,hB,a.symm⟩
 ·show (W.heap.extract 0 B).size<=W.heap.size
  omega
 ·show W.heap[i]?=(W.heap.extract 0 B)[i]?
  rw [Array.getElem?_extract,if_pos (by omega),Nat.zero_add]
theorem evs_l {w:World} {lo:Nat} {A:Option Addr} {m c:Nat} {es:List Ev} {S:Nat->Prop} (h:Evs w lo (.slice A m c) es) (hS:∀ b,lo<=b->S b):EvL w S A es:=(Ea.of h (λ b hb _=>hS b hb)).evl
structure Ef (w:World) (g6 g9:Nat) (c6 c9:List Value) (As:Option Addr) (ss:List Stp) (p3 p4:Prop) (W:World):Prop where
 bel:Below w.heap.size w W
 r6:RowB W g6 37 c6
 r9:RowB W g9 28 c9
 rd:RdF W (λ b=>w.heap.size+1<b) 4 enSt As ss
 x1:∃ a b c d,RowB W w.heap.size 25 [a,b,c,d]∧(p3->∃ v:Vr,[a,b,c,d]=[.int .i64 v.p,.int .i64 v.c,.int .i64 v.h,.int .i64 v.s])
 x2:∃ a b c d e,RowB W (w.heap.size+1) 28 [a,b,c,d,e]∧(p4->[a,b,c,d,e]=c9)
 lo:w.heap.size+1<g6∧w.heap.size+1<g9
section
variable {w W W':World} {g6 g9:Nat} {c6 c9:List Value} {As:Option Addr} {ss:List Stp} {p3 p4:Prop} {L:Nat->Prop}
theorem Ef.imp (F:Ef w g6 g9 c6 c9 As ss p3 p4 W) {q3 q4:Prop} (h3:q3->p3) (h4:q4->p4):Ef w g6 g9 c6 c9 As ss q3 q4 W:=by
 obtain⟨a,b,c,d,k,e⟩:=F.x1;obtain⟨n,m,l,j,i,g,f⟩:=F.x2;exact⟨F.bel,F.r6,F.r9,F.rd,⟨_,_,_,_,k,λ h=>e (h3 h)⟩,⟨_,_,_,_,_,g,λ h=>f (h4 h)⟩,F.lo⟩
theorem Ef.below (F:Ef w g6 g9 c6 c9 As ss p3 p4 W) (hb:Below W.heap.size W W'):Ef w g6 g9 c6 c9 As ss p3 p4 W':=by
 obtain⟨a,b,c,d,k,e⟩:=F.x1;obtain⟨m,l,j,i,h,g,f⟩:=F.x2;exact⟨F.bel.trans (hb.mono F.bel.size),F.r6.below hb F.r6.lt,F.r9.below hb F.r9.lt,F.rd.keep (.below hb),⟨_,_,_,_,k.below hb k.lt,e⟩,⟨_,_,_,_,_,g.below hb g.lt,f⟩,F.lo⟩
theorem Ef.draw (F:Ef w g6 g9 c6 c9 As ss p3 p4 W) {g:Nat} (hg:w.heap.size+1<g) (h6:g6≠g) (h9:g9≠g) (hS:RdF W' (λ b=>w.heap.size+1<b) 4 enSt As ss) (h:W.grownBy W' (some g)):Ef w g6 g9 c6 c9 As ss p3 p4 W':=by
 obtain⟨a,b,c,d,k,e⟩:=F.x1;obtain⟨q,p,o,n,m,l,f⟩:=F.x2;have j:∀ k,some g=some k->k=g:=λ k h=>by simpa using h.symm
 exact⟨F.bel.grown h F.bel.size (λ k i=>by have:=j k i;omega),F.r6.grown h (λ k i=>by have:=j k i;omega),F.r9.grown h (λ k i=>by have:=j k i;omega),hS,⟨_,_,_,_,k.grown h (λ k i=>by have:=j k i;omega),e⟩,⟨_,_,_,_,_,l.grown h (λ k i=>by have:=j k i;omega),f⟩,F.lo⟩
theorem Ef.s1 (F:Ef w g6 g9 c6 c9 As ss p3 p4 W) (hg:W.grownBy W' (some w.heap.size)) (v:Vr) (hr:RowB W' w.heap.size 25 (vL v)):Ef w g6 g9 c6 c9 As ss True p4 W':=by
 obtain⟨m,j,i,g,e,c,f⟩:=F.x2;have l:=F.lo;have b:∀ k,some w.heap.size=some k->k=w.heap.size:=λ k h=>by simpa using h.symm
 exact⟨F.bel.grown hg F.bel.size (λ k a=>by have:=b k a;omega),F.r6.grown hg (λ k a=>by have:=b k a;omega),F.r9.grown hg (λ k a=>by have:=b k a;omega),F.rd.keep (Still.grown hg (λ k a d=>by have:=b k a;omega)),⟨_,_,_,_,hr,λ _=>⟨v,rfl⟩⟩,⟨_,_,_,_,_,c.grown hg (λ k a=>by have:=b k a;omega),f⟩,l⟩
theorem Ef.s2 {a b c d e:Value} (F:Ef w g6 g9 c6 [a,b,c,d,e] As ss p3 p4 W) (hg:W.grownBy W' (some (w.heap.size+1))) (hr:RowB W' (w.heap.size+1) 28 [a,b,c,d,e]):Ef w g6 g9 c6 [a,b,c,d,e] As ss p3 True W':=by
 obtain⟨p,o,n,m,k,f⟩:=F.x1;have l:=F.lo;have i:∀ k,some (w.heap.size+1)=some k->k=w.heap.size+1:=λ k h=>by simpa using h.symm
 exact⟨F.bel.grown hg F.bel.size (λ k g=>by have:=i k g;omega),F.r6.grown hg (λ k g=>by have:=i k g;omega),F.r9.grown hg (λ k g=>by have:=i k g;omega),F.rd.keep (Still.grown hg (λ k g j=>by have:=i k g;omega)),⟨_,_,_,_,k.grown hg (λ k g=>by have:=i k g;omega),f⟩,⟨_,_,_,_,_,hr,λ _=>rfl⟩,l⟩
theorem Ef.skip (F:Ef w g6 g9 c6 c9 As ss (L 3) (L 4) W) (k:Nat) (h:3≠k∧4≠k:=by decide):Ef w g6 g9 c6 c9 As ss (3=k∨L 3) (4=k∨L 4) W:=F.imp (·.resolve_left h.1) (·.resolve_left h.2)
end
theorem Ef.start {w w1 W:World} {g cp:Nat} {A:Option Addr} {xs:List Int} {s:Nat × Int} {M:List (Nat × TypeId × List Value)} (K:De w1 g A cp xs s M W) (hb1:Below w.heap.size w w1) (hg:w1.heap.size=g) (hgw:w.heap.size+1<g) (R1:RowB w1 w.heap.size 25 [.int .i64 0,.int .i64 0,.int .i64 0,.int .i64 0]) (R2:RowB w1 (w.heap.size+1) 28 [.int .i64 0,.int .i64 0,.int .i64 0,.slice none 0 0,.int .i64 0])
  {g6 g9:Nat} {c6 c9:List Value} (i6 i9:Nat) (h6:M[i6]?=some (g6,37,c6)) (h9:M[i9]?=some (g9,28,c9)) {As:Option Addr} {ss:List Stp} (hrd:RdF W (λ b=>g<b) 4 enSt As ss):Ef w g6 g9 c6 c9 As ss False False W :=
 have hb:=K.D.bel;have l6:=(K.at_ _ (List.mem_of_getElem? h6)).1;have l9:=(K.at_ _ (List.mem_of_getElem? h9)).1
 ⟨hb1.trans (hb.mono (by omega)),K.nth i6 h6,K.nth i9 h9,hrd.weak (λ b h _=>by omega),⟨_,_,_,_,R1.below hb (by omega),λ h=>h.elim⟩,⟨_,_,_,_,_,R2.below hb (by omega),λ h=>h.elim⟩,by simp only at l6 l9;omega⟩
structure Eg (w:World) (g:Nat) (A:Option Addr) (cp:Nat) (xs:List Int) (st:Nat × Int) (g6 g9:Nat) (c6 c9:List Value) (As:Option Addr) (ss:List Stp) (p1 p3 p4:Prop) (v1:Value) (W:World):Prop where
 f:Ef w g6 g9 c6 c9 As ss p3 p4 W
 n:RdF W (λ b=>w.heap.size+1<b∧b≠g) 4 enSt As ss
 d:¬ p1->SrcX W g A xs.length cp st
 v:p1->∃ v:Vr,v1=.agg #[.int .i64 v.p,.int .i64 v.c,.int .i64 v.h,.int .i64 v.s]
section
variable {w W W':World} {g cp:Nat} {A:Option Addr} {xs:List Int} {st:Nat × Int} {g6 g9:Nat} {c6 c9:List Value} {As:Option Addr} {ss:List Stp} {p1 p3 p4:Prop} {L:Nat->Prop} {vals:Nat->Value}
theorem Eg.skip (F:Eg w g A cp xs st g6 g9 c6 c9 As ss (L 1) (L 3) (L 4) (vals 1) W) (k:Nat) (u:Value) (h:1≠k∧3≠k∧4≠k:=by decide):Eg w g A cp xs st g6 g9 c6 c9 As ss (1=k∨L 1) (3=k∨L 3) (4=k∨L 4) (upd vals k u 1) W:=by
 rw [or_ne h.1,or_ne h.2.1,or_ne h.2.2,upd_ne h.1];exact F
end
theorem evtx {w:World} {cp:Nat} {A:Option Addr} {xs:List Int} (hr:RdS w w.heap.size 1 enB A xs) (hw:∀ x ∈ xs,(Lit.int .u8 x).wf=true) :
  Calls Tryz.prog 6 #[.slice A xs.length cp] w λ e w'=>∃(v:Vr) (k a b:Int) (ss:List Stp) (r:Int) (As:Option Addr) (cs:Nat),e=.returned (.tuple #[.agg #[.int .i64 v.p,.int .i64 v.c,.int .i64 v.h,.int .i64 v.s],.agg #[.int .i64 k,.int .i64 a,.int .i64 b,.slice As ss.length cs,.int .i64 r]])∧RdF w' (λ _=>True) 4 enSt As ss∧ss.length<=4∧Below w.heap.size w w':=by
 have HW:=kD hw;have aR:=kD hr;go_enter Tryz.func6,Tryz.ntmps6;go_upto_region 1 with fail;refine wp_gen (λ W'=>RowB W' w.heap.size 25 [.int .i64 0,.int .i64 0,.int .i64 0,.int .i64 0]∧RowB W' (w.heap.size+1) 28 [.int .i64 0,.int .i64 0,.int .i64 0,.slice none 0 0,.int .i64 0]∧Below w.heap.size w W'∧w.heap.size+2=W'.heap.size) ⟨(RowB.new _ _ _).alloc _,RowB.new' _ _ _ (by simp),by go_grown,by simp⟩ ?_;rintro w1 ⟨R1,R2,ag,aB⟩;have h1:=((hr.below ag (Nat.le_refl _)).more ag.size);clear hr hw;go_wp2_with fail;refine(newX h1 HW.out).mono ?_;rintro e w2 ⟨rfl,N⟩;have an:=kD ag;have aj:=kD R1;have ai:=kD R2;have aU:=kD aB;have aa:w.heap.size+1<w1.heap.size:=by omega
 obtain⟨g,E⟩:∃ q,w1.heap.size=q:=⟨_,rfl⟩;rw [E] at N aa ⊢;have HG:=kD E;have K:De w1 g A cp xs (st0 xs) [] w2:=⟨N,λ p W=>absurd W List.not_mem_nil⟩;clear N E h1 ag R1 R2 aB;go_wp2_with fail;refine(dr28_x 8 (by decide) K.D).mono ?_;rintro e w3 ⟨v,n,es,s1,Ae,ce,rfl,aG,⟨hE,aO,aE⟩,N,E⟩;obtain⟨x,ao,aC⟩:=dr_fin K.D.gd (by decide) aG;have aN:=K.D.lt;have K:=K.next N E;obtain⟨LL,hL⟩:∃ q,es.length=q:=⟨_,rfl⟩;have am:=kD (evs_l (S:=λ b=>g<b) hE (λ b h=>by omega));have CS:=kD (λ(H:World) (h9:EvL H (λ b=>g<b) Ae es)=>lstate_s v n es Ae ce H (h9.weak (λ _ _=>trivial)) (some x) ao);rw [hL] at CS ⊢;have HM:=kD aC.gm;clear N E aG hE aO aE ao aC hL aN;go_upto_region 3 with fail;obtain⟨g6,V⟩:∃ q,w3.heap.size=q:=⟨_,rfl⟩;have ax:=K.D.lt;refine wp_gen (λ W'=>Below w3.heap.size w3 W'∧RowB W' g6 37 [.int .i64 v.p,.int .i64 v.c,.int .i64 v.h,.int .i64 v.s,.int .i64 n,.slice Ae LL ce]) ⟨(Below.refl _ _).alloc (Nat.le_refl _) _,by rw [<-V];exact RowB.new _ _ _⟩ ?_
 try simp only [V]
 rintro w4 ⟨M,R6⟩;rw [<-V] at M;rw [V] at ax;have am:=kD (am.out.keep (.below M));have K:=(K.below M).add ax R6;clear M R6 V;obtain⟨q0,q1,q2,q3,q4,q5⟩:=(K.nth 0 rfl).c6;have I:=(K.nth 0 rfl).lt;go_wp2_with fail;refine(CS.out w4 am.out).mono ?_;rintro e w5 ⟨vv,rfl,⟨A0,m0,c0,A1,m1,c1,A2,m2,c2,x',rfl,hx⟩,M⟩;obtain⟨rfl,aD⟩:=hx x rfl;have aL:=M.size;have ak:=kD (aD.weak (S':=λ b=>g<b) (λ b h _=>h.elim False.elim (λ h=>by omega)));have K:=K.below M;clear q0 q1 q2 q3 q4 q5 I M CS am hx aD;simp only [msC];go_upto_region 4 with fail;obtain⟨g7,ad⟩:∃ q,w5.heap.size=q:=⟨_,rfl⟩;have aF:=(K.nth 0 rfl).lt;refine wp_gen (λ W'=>Below w5.heap.size w5 W'∧RowB W' g7 57 (msC (.slice A0 m0 c0) (.slice A1 m1 c1) (.slice A2 m2 c2) x')) ⟨(Below.refl _ _).alloc (Nat.le_refl _) _,by rw [<-ad];exact RowB.new _ _ _⟩ ?_
 try simp only [ad]
 rintro w6 ⟨M,R7⟩;rw [<-ad] at M;rw [ad] at aF;have ak:=kD (ak.out.keep (.below M));have K:=(K.below M).add (by omega:g<g7) R7;clear M R7 ad aL;obtain⟨y0,y1,y2,y3,y4,y5,y6,y7,y8,y9,aJ,aI⟩:=row12 (K.nth 0 rfl);have aM:=(K.nth 0 rfl).lt;obtain⟨q0,q1,q2,q3,q4,q5⟩:=(K.nth 1 rfl).c6;have I:=(K.nth 1 rfl).lt;have CE:=kD (ev28_x v x' HM.out (λ b=>g<b) (λ h=>Nat.lt_irrefl _ h) _ _ _ ak.out K.D);go_wp2_with fail;refine CE.out.mono ?_;rintro e w7 ⟨⟨Q,ea,R,ss,er⟩,s5,As,cs,rfl,-,⟨av,aw⟩,N,E⟩;simp only at av aw ⊢;have aK:=E.size;have K:=K.next N E;have y:=kD (av.weak (S':=λ b=>g<b∧b≠w7.heap.size) (λ b h hl=>by omega));obtain⟨X,ar⟩:∃ q,ss.length=q:=⟨_,rfl⟩;rw [ar];have ah:=kD ar;have al:=kD aw;clear q0 q1 q2 q3 q4 q5 I y0 y1 y2 y3 y4 y5 y6 y7 y8 y9 aJ aI aM CE av aw N E ar ak;go_upto_region 5 with fail;obtain⟨g9,ac⟩:∃ q,w7.heap.size=q:=⟨_,rfl⟩;have G:=(K.nth 0 rfl).lt;refine wp_gen (λ W'=>Below w7.heap.size w7 W'∧RowB W' g9 28 [.int .i64 Q,.int .i64 ea,.int .i64 R,.slice As X cs,.int .i64 er]) ⟨(Below.refl _ _).alloc (Nat.le_refl _) _,by rw [<-ac];exact RowB.new _ _ _⟩ ?_
 try simp only [ac]
 rintro w8 ⟨M,R9⟩;rw [<-ac] at M;rw [ac] at G y;have y:=kD (y.out.keep (.below M));have K:=(K.below M).add (by omega:g<g9) R9;have HL:=kD (And.intro ax (And.intro aF G));clear M R9 ac aK;go_wp2_with fail;refine(nextX K.D 12 (by decide)).mono ?_;rintro e H ⟨z,s6,⟨rfl,z0,z1,-,nz⟩,N,E,-⟩;have y:=kD (y.out.keep (Still.grown E (λ k P T=>by simp at P;have:=T.1;omega)));have K:=K.next N E;clear N E z0 z1 nz;by_cases e0:z=0
 ·subst e0;go_wp2_with fail;refine(nextX K.D 8 (by decide)).mono ?_;rintro e aq ⟨na,s7,⟨rfl,-,-,-,-⟩,N,E,-⟩;have y:=kD (y.out.keep (Still.grown E (λ k P T=>by simp at P;have:=T.1;omega)));have K:=K.next N E;have R9:=K.nth 0 rfl;obtain⟨k0,C,B,Z,Y⟩:=R9.c5;have ab:=R9.lt;have aA:=R9.frozen;clear N E;go_upto_region 12 with fail;have y:=kD (y.out.keep (Still.grown (Base.grownBy_setCell aq g9 1 (.int .i64 na)) (λ k P T=>by simp at P;have:=T.2;omega)));have K2:=K.put (by intro p W;simp only [List.mem_cons,List.not_mem_nil,or_false] at W;rcases W with rfl | rfl <;> (simp only;omega)) (R9.set 1 (.int .i64 na)) (Base.grownBy_setCell _ _ _ _);clear K R9 k0 C B Z Y ab aA;have K:=K2;clear K2
  skip
  have HF:=kD (Ef.start K an.out HG.out aa aj.out ai.out 2 0 rfl rfl (y.out.weak (λ b h _=>h.1)));clear K;refine region_rel [some 40,some 41,some 42,none,none] 5 (Pl [some (.pointer (some ⟨g6,0,none⟩)),some (.agg #[.int .i64 v.p,.int .i64 v.c,.int .i64 v.h,.int .i64 v.s]),some (.agg #[.int .i64 Q,.int .i64 na,.int .i64 R,.slice As X cs,.int .i64 er]),none,none]) (λ L i w'=>Ef w g6 g9 [.int .i64 v.p,.int .i64 v.c,.int .i64 v.h,.int .i64 v.s,.int .i64 n,.slice Ae LL ce] [.int .i64 Q,.int .i64 na,.int .i64 R,.slice As X cs,.int .i64 er] As ss (L 3) (L 4) w') (by kernel_rfl) (by kernel_rfl) (by kernel_rfl) (by kernel_rfl) (by kernel_rfl) (by kernel_rfl) (by first | kernel_rfl | rfl) ?g0_1 ?gst_1 ?gfin_1
  case g0_1=>exact((HF.out.below (Below.refl _ _).drew).imp (λ h=>absurd h (by decide)) (λ h=>absurd h (by decide)))
  case gst_1 =>
   refine rN rfl (λ L i A H m l o U F K t=>?_) ?_
   ·have e5:=U.w 5 (.pointer (some ⟨g6,0,none⟩));have j:=F.r6.c6;have q0:=j.1;have q1:=j.2.1;have q2:=j.2.2.1;have q3:=j.2.2.2.1;obtain⟨k0,C,B,Z,Y⟩:=F.r9.c5;have I:=F.r6.lt;have G:=F.r9.lt;clear j;go_simp;exact pF t (F.skip 0 (by decide))
   refine rN rfl (λ L i A H m l o U F K t=>?_) ?_
   ·have aH:=U.v 0 40;have j:=F.r6.c6;have q0:=j.1;have q1:=j.2.1;have q2:=j.2.2.1;have q3:=j.2.2.2.1;obtain⟨k0,C,B,Z,Y⟩:=F.r9.c5;have I:=F.r6.lt;have G:=F.r9.lt;clear j;go_simp;exact pF t (F.skip 1 (by decide))
   refine rN rfl (λ L i A H m l o U F K t=>?_) ?_
   ·have e8:=U.w 8 (.pointer (some ⟨g9,0,none⟩));have j:=F.r6.c6;have q0:=j.1;have q1:=j.2.1;have q2:=j.2.2.1;have q3:=j.2.2.2.1;obtain⟨k0,C,B,Z,Y⟩:=F.r9.c5;have I:=F.r6.lt;have G:=F.r9.lt;clear j;go_simp;exact pF t (F.skip 2 (by decide))
   refine rN rfl (λ L i A H m l o U F K t=>?_) ?_
   ·have e2:=U.w 2 (.pointer (some ⟨w.heap.size,0,none⟩));have af:=U.v 1 41;obtain⟨_,_,_,_,h,-⟩:=F.x1;refine wp_sm 25 _ _ rfl w.heap.size 0 [.int .i64 v.p,.int .i64 v.c,.int .i64 v.h,.int .i64 v.s] _ (ev e2) (ev af) 25 h (by kernel_rfl) (Nat.le_refl _) rfl ?_;exact t.out undef _ (Pl.any rfl) ((F.s1 (grown_cells _ _ _ _) v (row_cells _ _ _ _ h)).imp (λ _=>trivial) (·.resolve_left (by decide)))
   refine rN rfl (λ L i A H m l o U F K t=>?_) ?_
   ·have e3:=U.w 3 (.pointer (some ⟨w.heap.size+1,0,none⟩));have ae:=U.v 2 42;obtain⟨_,_,_,_,_,h,-⟩:=F.x2;refine wp_sm 28 _ _ rfl (w.heap.size+1) 0 [.int .i64 Q,.int .i64 na,.int .i64 R,.slice As X cs,.int .i64 er] _ (ev e3) (ev ae) 28 h (by kernel_rfl) (Nat.le_refl _) rfl ?_;exact t.out undef _ (Pl.any rfl) ((F.s2 (grown_cells _ _ _ _) (row_cells _ _ _ _ h)).imp (·.resolve_left (by decide)) (λ _=>trivial))
   exact RelFrom.nil (by decide)
  intro i wf W F;simp only [Fr,Act.put,sX,Nat.reduceAdd];obtain⟨b1,b2,b3,b4,C,O⟩:=F.x1;obtain⟨d1,d2,d3,d4,d5,B,f2⟩:=F.x2;obtain⟨J,O⟩:=O trivial;rw [O] at C;rw [f2 trivial] at B;have HO:=kD (And.intro F.bel F.rd);obtain⟨z0,z1,z2,z3⟩:=C.c4;obtain⟨z4,z5,z6,z7,z8⟩:=B.c5;have az:=C.lt;have ay:=B.lt;clear F W C B O f2 HF;obtain rfl:=ah.out
  repeat (first | go_values | go_skip | go_step | go_upon)
  refine bodyPost_ret (v:=.tuple #[.agg #[.int .i64 J.p,.int .i64 J.c,.int .i64 J.h,.int .i64 J.s],.agg #[.int .i64 Q,.int .i64 na,.int .i64 R,.slice As ss.length cs,.int .i64 er]]) (by simp [results,Tryz.results6,go_sem,z0,z1,z2,z3,z4,z5,z6,z7,z8]) rfl ?_;exact⟨J,_,_,_,ss,_,As,cs,rfl,HO.out.2.weak (λ _ _ _=>trivial),al.out,HO.out.1⟩
 have z0:(z == 0)=false:=by simp [e0]
 by_cases e1:z=1
 ·subst e1;go_wp2_with fail;refine(nextX K.D 5 (by decide)).mono ?_;rintro e aq ⟨nr,s7,⟨rfl,-,-,-,-⟩,N,E,-⟩;have y:=kD (y.out.keep (Still.grown E (λ k P T=>by simp at P;have:=T.1;omega)));have K:=K.next N E;have R9:=K.nth 0 rfl;obtain⟨k0,C,B,Z,Y⟩:=R9.c5;have ab:=R9.lt;have aA:=R9.frozen;clear N E;go_upto_region 12 with fail;have y:=kD (y.out.keep (Still.grown (Base.grownBy_setCell aq g9 4 (.int .i64 nr)) (λ k P T=>by simp at P;have:=T.2;omega)));have K2:=K.put (by intro p W;simp only [List.mem_cons,List.not_mem_nil,or_false] at W;rcases W with rfl | rfl <;> (simp only;omega)) (R9.set 4 (.int .i64 nr)) (Base.grownBy_setCell _ _ _ _);clear K R9 k0 C B Z Y ab aA;have K:=K2;clear K2
  skip
  have HF:=kD (Ef.start K an.out HG.out aa aj.out ai.out 2 0 rfl rfl (y.out.weak (λ b h _=>h.1)));clear K;refine region_rel [some 40,some 41,some 42,none,none] 5 (Pl [some (.pointer (some ⟨g6,0,none⟩)),some (.agg #[.int .i64 v.p,.int .i64 v.c,.int .i64 v.h,.int .i64 v.s]),some (.agg #[.int .i64 Q,.int .i64 ea,.int .i64 R,.slice As X cs,.int .i64 nr]),none,none]) (λ L i w'=>Ef w g6 g9 [.int .i64 v.p,.int .i64 v.c,.int .i64 v.h,.int .i64 v.s,.int .i64 n,.slice Ae LL ce] [.int .i64 Q,.int .i64 ea,.int .i64 R,.slice As X cs,.int .i64 nr] As ss (L 3) (L 4) w') (by kernel_rfl) (by kernel_rfl) (by kernel_rfl) (by kernel_rfl) (by kernel_rfl) (by kernel_rfl) (by first | kernel_rfl | rfl) ?g0_2 ?gst_2 ?gfin_2
  case g0_2=>exact((HF.out.below (Below.refl _ _).drew).imp (λ h=>absurd h (by decide)) (λ h=>absurd h (by decide)))
  case gst_2 =>
   refine rN rfl (λ L i A H m l o U F K t=>?_) ?_
   ·have e5:=U.w 5 (.pointer (some ⟨g6,0,none⟩));have j:=F.r6.c6;have q0:=j.1;have q1:=j.2.1;have q2:=j.2.2.1;have q3:=j.2.2.2.1;obtain⟨k0,C,B,Z,Y⟩:=F.r9.c5;have I:=F.r6.lt;have G:=F.r9.lt;clear j;go_simp;exact pF t (F.skip 0 (by decide))
   refine rN rfl (λ L i A H m l o U F K t=>?_) ?_
   ·have aH:=U.v 0 40;have j:=F.r6.c6;have q0:=j.1;have q1:=j.2.1;have q2:=j.2.2.1;have q3:=j.2.2.2.1;obtain⟨k0,C,B,Z,Y⟩:=F.r9.c5;have I:=F.r6.lt;have G:=F.r9.lt;clear j;go_simp;exact pF t (F.skip 1 (by decide))
   refine rN rfl (λ L i A H m l o U F K t=>?_) ?_
   ·have e8:=U.w 8 (.pointer (some ⟨g9,0,none⟩));have j:=F.r6.c6;have q0:=j.1;have q1:=j.2.1;have q2:=j.2.2.1;have q3:=j.2.2.2.1;obtain⟨k0,C,B,Z,Y⟩:=F.r9.c5;have I:=F.r6.lt;have G:=F.r9.lt;clear j;go_simp;exact pF t (F.skip 2 (by decide))
   refine rN rfl (λ L i A H m l o U F K t=>?_) ?_
   ·have e2:=U.w 2 (.pointer (some ⟨w.heap.size,0,none⟩));have af:=U.v 1 41;obtain⟨_,_,_,_,h,-⟩:=F.x1;refine wp_sm 25 _ _ rfl w.heap.size 0 [.int .i64 v.p,.int .i64 v.c,.int .i64 v.h,.int .i64 v.s] _ (ev e2) (ev af) 25 h (by kernel_rfl) (Nat.le_refl _) rfl ?_;exact t.out undef _ (Pl.any rfl) ((F.s1 (grown_cells _ _ _ _) v (row_cells _ _ _ _ h)).imp (λ _=>trivial) (·.resolve_left (by decide)))
   refine rN rfl (λ L i A H m l o U F K t=>?_) ?_
   ·have e3:=U.w 3 (.pointer (some ⟨w.heap.size+1,0,none⟩));have ae:=U.v 2 42;obtain⟨_,_,_,_,_,h,-⟩:=F.x2;refine wp_sm 28 _ _ rfl (w.heap.size+1) 0 [.int .i64 Q,.int .i64 ea,.int .i64 R,.slice As X cs,.int .i64 nr] _ (ev e3) (ev ae) 28 h (by kernel_rfl) (Nat.le_refl _) rfl ?_;exact t.out undef _ (Pl.any rfl) ((F.s2 (grown_cells _ _ _ _) (row_cells _ _ _ _ h)).imp (·.resolve_left (by decide)) (λ _=>trivial))
   exact RelFrom.nil (by decide)
  intro i wf W F;simp only [Fr,Act.put,sX,Nat.reduceAdd];obtain⟨b1,b2,b3,b4,C,O⟩:=F.x1;obtain⟨d1,d2,d3,d4,d5,B,f2⟩:=F.x2;obtain⟨J,O⟩:=O trivial;rw [O] at C;rw [f2 trivial] at B;have HO:=kD (And.intro F.bel F.rd);obtain⟨z0,z1,z2,z3⟩:=C.c4;obtain⟨z4,z5,z6,z7,z8⟩:=B.c5;have az:=C.lt;have ay:=B.lt;clear F W C B O f2 HF;obtain rfl:=ah.out
  repeat (first | go_values | go_skip | go_step | go_upon)
  refine bodyPost_ret (v:=.tuple #[.agg #[.int .i64 J.p,.int .i64 J.c,.int .i64 J.h,.int .i64 J.s],.agg #[.int .i64 Q,.int .i64 ea,.int .i64 R,.slice As ss.length cs,.int .i64 nr]]) (by simp [results,Tryz.results6,go_sem,z0,z1,z2,z3,z4,z5,z6,z7,z8]) rfl ?_;exact⟨J,_,_,_,ss,_,As,cs,rfl,HO.out.2.weak (λ _ _ _=>trivial),al.out,HO.out.1⟩
 have z1:(z == 1)=false:=by simp [e1]
 by_cases e2:z=2
 ·subst e2;go_upto_region 11 with fail;have HF:=kD (Ef.start K an.out HG.out aa aj.out ai.out 2 0 rfl rfl (y.out.weak (λ b h _=>h.1)));have ap:=kD K.D.src.drew;have HN:=kD (y.out.weak (S':=λ b=>w.heap.size+1<b∧b≠g) (λ b h _=>by have:=h.1;omega));clear K;refine region_rel [some 37,some 38,some 39,none,none] 5 (Pl [some (.pointer (some ⟨g,0,none⟩)),none,some (.agg #[.int .i64 Q,.int .i64 ea,.int .i64 R,.slice As X cs,.int .i64 er]),none,none]) (λ L i w'=>Eg w g A cp xs s6 g6 g9 [.int .i64 v.p,.int .i64 v.c,.int .i64 v.h,.int .i64 v.s,.int .i64 n,.slice Ae LL ce] [.int .i64 Q,.int .i64 ea,.int .i64 R,.slice As X cs,.int .i64 er] As ss (L 1) (L 3) (L 4) (i 1) w') (by kernel_rfl) (by kernel_rfl) (by kernel_rfl) (by kernel_rfl) (by kernel_rfl) (by kernel_rfl) (by first | kernel_rfl | rfl) ?g0_4 ?gst_4 ?gfin_4
  case g0_4=>exact⟨(HF.out.below (Below.refl _ _).drew).imp (λ h=>absurd h (by decide)) (λ h=>absurd h (by decide)),HN.out.keep ⟨Nat.le_refl _,λ _ _ _=>rfl⟩,λ _=>ap.out,λ h=>absurd h (by decide)⟩
  case gst_4 =>
   refine rN rfl (λ L i A H m l o U F K t=>?_) ?_
   ·have e4:=U.w 4 (.pointer (some ⟨g,0,none⟩));obtain⟨k0,C,B,Z,Y⟩:=F.f.r9.c5;have G:=F.f.r9.lt
    skip
    go_simp;exact pF t (F.skip 0 _)
   refine rN rfl (λ L i A H m l o U F K t=>?_) ?_
   ·have aT:=U.v 0 37;have T:=F.d m;obtain⟨w0,N⟩:=dx_any T (aR.out.below F.f.bel (Nat.le_refl _)) HW.out (by omega);go_simp;refine(v01a_x N).mono ?_;rintro e' w6 ⟨v2,s7,rfl,-,aS,V⟩;have hn:=F.n.keep (Still.grown V (λ k P T=>T.2 (by simp at P;exact P.symm)));exact t.out _ w6 (Pl.any rfl) ⟨(F.f.draw aa (by omega) (by omega) (hn.weak (λ b M _=>M.1)) V).imp (·.resolve_left (by decide)) (·.resolve_left (by decide)),hn,λ h=>absurd (.inl rfl) h,λ _=>⟨v2,upd_same _ _ _⟩⟩
   refine rN rfl (λ L i A H m l o U F K t=>?_) ?_
   ·have e8:=U.w 8 (.pointer (some ⟨g9,0,none⟩));obtain⟨k0,C,B,Z,Y⟩:=F.f.r9.c5;have G:=F.f.r9.lt
    skip
    go_simp;exact pF t (F.skip 2 _)
   refine rN rfl (λ L i A H m l o U F K t=>?_) ?_
   ·have e2:=U.w 2 (.pointer (some ⟨w.heap.size,0,none⟩));have aQ:=U.x 1 38;obtain⟨v2,q⟩:=F.v (bK l 1);obtain⟨_,_,_,_,h,-⟩:=F.f.x1;refine wp_sm 25 _ _ rfl w.heap.size 0 [.int .i64 v2.p,.int .i64 v2.c,.int .i64 v2.h,.int .i64 v2.s] _ (ev e2) (ev (aQ.trans q)) 25 h (by kernel_rfl) (Nat.le_refl _) rfl ?_;have E:=grown_cells w.heap.size [.int .i64 v2.p,.int .i64 v2.c,.int .i64 v2.h,.int .i64 v2.s] 0 H;exact t.out undef _ (Pl.any rfl) ⟨(F.f.s1 E v2 (row_cells _ _ _ _ h)).imp (λ _=>trivial) (·.resolve_left (by decide)),F.n.keep (Still.grown E (λ k P T=>by simp at P;have:=T.1;omega)),λ h=>absurd (.inr (bK l 1)) h,λ _=>by rw [upd_ne (by decide)];exact F.v (bK l 1)⟩
   refine rN rfl (λ L i A H m l o U F K t=>?_) ?_
   ·have e3:=U.w 3 (.pointer (some ⟨w.heap.size+1,0,none⟩));have aP:=U.v 2 39;obtain⟨_,_,_,_,_,h,-⟩:=F.f.x2;refine wp_sm 28 _ _ rfl (w.heap.size+1) 0 [.int .i64 Q,.int .i64 ea,.int .i64 R,.slice As X cs,.int .i64 er] _ (ev e3) (ev aP) 28 h (by kernel_rfl) (Nat.le_refl _) rfl ?_;have E:=grown_cells (w.heap.size+1) [.int .i64 Q,.int .i64 ea,.int .i64 R,.slice As X cs,.int .i64 er] 0 H;exact t.out undef _ (Pl.any rfl) ⟨(F.f.s2 E (row_cells _ _ _ _ h)).imp (·.resolve_left (by decide)) (λ _=>trivial),F.n.keep (Still.grown E (λ k P T=>by simp at P;have:=T.1;omega)),λ h=>(F.d (λ h'=>h (.inr h'))).grown E (λ k P=>by simp at P;omega),λ h=>by rw [upd_ne (by decide)];exact F.v (rL h)⟩
   exact RelFrom.nil (by decide)
  intro i wf W F;simp only [Fr,Act.put,sX,Nat.reduceAdd];obtain⟨b1,b2,b3,b4,C,O⟩:=F.f.x1;obtain⟨d1,d2,d3,d4,d5,B,f2⟩:=F.f.x2;obtain⟨J,O⟩:=O trivial;rw [O] at C;rw [f2 trivial] at B;have HO:=kD (And.intro F.f.bel F.f.rd);obtain⟨z0,z1,z2,z3⟩:=C.c4;obtain⟨z4,z5,z6,z7,z8⟩:=B.c5;have az:=C.lt;have ay:=B.lt;clear F W C B O f2 HF HN ap;obtain rfl:=ah.out
  repeat (first | go_values | go_skip | go_step | go_upon)
  refine bodyPost_ret (v:=.tuple #[.agg #[.int .i64 J.p,.int .i64 J.c,.int .i64 J.h,.int .i64 J.s],.agg #[.int .i64 Q,.int .i64 ea,.int .i64 R,.slice As ss.length cs,.int .i64 er]]) (by simp [results,Tryz.results6,go_sem,z0,z1,z2,z3,z4,z5,z6,z7,z8]) rfl ?_;exact⟨J,_,_,_,ss,_,As,cs,rfl,HO.out.2.weak (λ _ _ _=>trivial),al.out,HO.out.1⟩
 have z2:(z == 2)=false:=by simp [e2]
 go_upto_region 12 with fail;have HF:=kD (Ef.start K an.out HG.out aa aj.out ai.out 2 0 rfl rfl (y.out.weak (λ b h _=>h.1)));clear K;refine region_rel [some 40,some 41,some 42,none,none] 5 (Pl [some (.pointer (some ⟨g6,0,none⟩)),some (.agg #[.int .i64 v.p,.int .i64 v.c,.int .i64 v.h,.int .i64 v.s]),some (.agg #[.int .i64 Q,.int .i64 ea,.int .i64 R,.slice As X cs,.int .i64 er]),none,none]) (λ L i w'=>Ef w g6 g9 [.int .i64 v.p,.int .i64 v.c,.int .i64 v.h,.int .i64 v.s,.int .i64 n,.slice Ae LL ce] [.int .i64 Q,.int .i64 ea,.int .i64 R,.slice As X cs,.int .i64 er] As ss (L 3) (L 4) w') (by kernel_rfl) (by kernel_rfl) (by kernel_rfl) (by kernel_rfl) (by kernel_rfl) (by kernel_rfl) (by first | kernel_rfl | rfl) ?g0_3 ?gst_3 ?gfin_3
 case g0_3=>exact((HF.out.below (Below.refl _ _).drew).imp (λ h=>absurd h (by decide)) (λ h=>absurd h (by decide)))
 case gst_3 =>
  refine rN rfl (λ L i A H m l o U F K t=>?_) ?_
  ·have e5:=U.w 5 (.pointer (some ⟨g6,0,none⟩));have j:=F.r6.c6;have q0:=j.1;have q1:=j.2.1;have q2:=j.2.2.1;have q3:=j.2.2.2.1;obtain⟨k0,C,B,Z,Y⟩:=F.r9.c5;have I:=F.r6.lt;have G:=F.r9.lt;clear j;go_simp;exact pF t (F.skip 0 (by decide))
  refine rN rfl (λ L i A H m l o U F K t=>?_) ?_
  ·have aH:=U.v 0 40;have j:=F.r6.c6;have q0:=j.1;have q1:=j.2.1;have q2:=j.2.2.1;have q3:=j.2.2.2.1;obtain⟨k0,C,B,Z,Y⟩:=F.r9.c5;have I:=F.r6.lt;have G:=F.r9.lt;clear j;go_simp;exact pF t (F.skip 1 (by decide))
  refine rN rfl (λ L i A H m l o U F K t=>?_) ?_
  ·have e8:=U.w 8 (.pointer (some ⟨g9,0,none⟩));have j:=F.r6.c6;have q0:=j.1;have q1:=j.2.1;have q2:=j.2.2.1;have q3:=j.2.2.2.1;obtain⟨k0,C,B,Z,Y⟩:=F.r9.c5;have I:=F.r6.lt;have G:=F.r9.lt;clear j;go_simp;exact pF t (F.skip 2 (by decide))
  refine rN rfl (λ L i A H m l o U F K t=>?_) ?_
  ·have e2:=U.w 2 (.pointer (some ⟨w.heap.size,0,none⟩));have af:=U.v 1 41;obtain⟨_,_,_,_,h,-⟩:=F.x1;refine wp_sm 25 _ _ rfl w.heap.size 0 [.int .i64 v.p,.int .i64 v.c,.int .i64 v.h,.int .i64 v.s] _ (ev e2) (ev af) 25 h (by kernel_rfl) (Nat.le_refl _) rfl ?_;exact t.out undef _ (Pl.any rfl) ((F.s1 (grown_cells _ _ _ _) v (row_cells _ _ _ _ h)).imp (λ _=>trivial) (·.resolve_left (by decide)))
  refine rN rfl (λ L i A H m l o U F K t=>?_) ?_
  ·have e3:=U.w 3 (.pointer (some ⟨w.heap.size+1,0,none⟩));have ae:=U.v 2 42;obtain⟨_,_,_,_,_,h,-⟩:=F.x2;refine wp_sm 28 _ _ rfl (w.heap.size+1) 0 [.int .i64 Q,.int .i64 ea,.int .i64 R,.slice As X cs,.int .i64 er] _ (ev e3) (ev ae) 28 h (by kernel_rfl) (Nat.le_refl _) rfl ?_;exact t.out undef _ (Pl.any rfl) ((F.s2 (grown_cells _ _ _ _) (row_cells _ _ _ _ h)).imp (·.resolve_left (by decide)) (λ _=>trivial))
  exact RelFrom.nil (by decide)
 intro i wf W F;simp only [Fr,Act.put,sX,Nat.reduceAdd];obtain⟨b1,b2,b3,b4,C,O⟩:=F.x1;obtain⟨d1,d2,d3,d4,d5,B,f2⟩:=F.x2;obtain⟨J,O⟩:=O trivial;rw [O] at C;rw [f2 trivial] at B;have HO:=kD (And.intro F.bel F.rd);obtain⟨z0,z1,z2,z3⟩:=C.c4;obtain⟨z4,z5,z6,z7,z8⟩:=B.c5;have az:=C.lt;have ay:=B.lt;clear F W C B O f2 HF;obtain rfl:=ah.out
 repeat (first | go_values | go_skip | go_step | go_upon)
 refine bodyPost_ret (v:=.tuple #[.agg #[.int .i64 J.p,.int .i64 J.c,.int .i64 J.h,.int .i64 J.s],.agg #[.int .i64 Q,.int .i64 ea,.int .i64 R,.slice As ss.length cs,.int .i64 er]]) (by simp [results,Tryz.results6,go_sem,z0,z1,z2,z3,z4,z5,z6,z7,z8]) rfl ?_;exact⟨J,_,_,_,ss,_,As,cs,rfl,HO.out.2.weak (λ _ _ _=>trivial),al.out,HO.out.1⟩
end EtA
namespace W9
open Go Go.ChangeShapes Go.WideShapes Go.ChangeAt Go.RowKit Base Ints Own RelG PlP TxP Gm Bd1 Bd5 RegInv RegF RegG
theorem rdSt_at {w:World} {B:Nat} {A:Option Addr} {xs:List Stp} (h:RdS w B 4 enSt A xs) {i:Nat} (hi:i<xs.length) :
  ∃ b off p q r s,A=some ⟨b,off,none⟩∧b<B∧xs[i]?=some (p,q,r,s)∧w.cell? ⟨b,off+i*4,none⟩=some (.int .i64 p)∧w.cell? ⟨b,off+i*4+1,none⟩=some (.int .i64 q)∧w.cell? ⟨b,off+i*4+2,none⟩=some (.int .i64 r)∧w.cell? ⟨b,off+i*4+3,none⟩=some (.bool s):=by
 obtain⟨b,off,⟨p,q,r,s⟩,e,d,c,a⟩:=h.at_ hi;exact⟨b,off,p,q,r,s,e,d,c,a 0 _ rfl,a 1 _ rfl,a 2 _ rfl,a 3 _ rfl⟩
theorem neq_S (p q r:Int) (s:Bool) (w:World):(binOp .neq 111 (.agg #[.int .i64 p,.int .i64 q,.int .i64 r,.bool s]) (.agg #[.int .i64 p,.int .i64 q,.int .i64 r,.bool s])).run Tryz.prog w=.ok (.bool false) w:=by
 go_simp
theorem w9steps (B1 B2:Nat) (A1 A2:Option Addr) (c1 c2:Nat) (xs:List Stp) (n:Nat) (hnn:xs.length=n) (w:World) (h1:RdS w B1 4 enSt A1 xs) (h2:RdS w B2 4 enSt A2 xs) (hB1:B1<=w.heap.size) (hB2:B2<=w.heap.size) :
  Calls Tryz.prog 32 #[.slice A1 n c1,.slice A2 n c2] w λ e w'=>e=.returned (.bool true)∧Below w.heap.size w w':=by
 have E:=h1.len;rw [hnn] at E;have H:=kD hnn;clear hnn;have D:((n:Int) != (n:Int))=false:=by simp
 go_enter Tryz.func32,Tryz.ntmps32;go_wp2_with fail;go_loopw [5] (λ i wr=>∃ k:Nat,k<=n∧i=.int .i64 (k:Int)∧Hid (∃ m,wr=w.drewN m)) (λ i _=>n - (intOf i).toNat)
 case atStart=>exact⟨0,Nat.zero_le _,by first | rfl | trivial,kD ⟨0,rfl⟩⟩
 case round =>
  obtain⟨k,N,rfl,c⟩:=hrel;by_cases hlt:k<n
  ·obtain⟨b,d,p,q,r,s,rfl,G,B,A,z,y,x⟩:=rdSt_at h1 (by rw [H.out];exact hlt);obtain⟨g,a,M,L,J,I,rfl,j,f,v,t,o,l⟩:=rdSt_at h2 (by rw [H.out];exact hlt);rw [B] at f;simp only [Option.some.injEq,Prod.mk.injEq] at f;obtain⟨rfl,rfl,rfl,rfl⟩:=f;have W:wr.cell? ⟨b,d+k*4,none⟩=some (.int .i64 p):=by obtain⟨m,rfl⟩:=c.out;exact A
   have V:wr.cell? ⟨b,d+k*4+1,none⟩=some (.int .i64 q):=by obtain⟨m,rfl⟩:=c.out;exact z
   have T:wr.cell? ⟨b,d+k*4+2,none⟩=some (.int .i64 r):=by obtain⟨m,rfl⟩:=c.out;exact y
   have S:wr.cell? ⟨b,d+k*4+3,none⟩=some (.bool s):=by obtain⟨m,rfl⟩:=c.out;exact x
   have R:wr.cell? ⟨g,a+k*4,none⟩=some (.int .i64 p):=by obtain⟨m,rfl⟩:=c.out;exact v
   have Q:wr.cell? ⟨g,a+k*4+1,none⟩=some (.int .i64 q):=by obtain⟨m,rfl⟩:=c.out;exact t
   have P:wr.cell? ⟨g,a+k*4+2,none⟩=some (.int .i64 r):=by obtain⟨m,rfl⟩:=c.out;exact o
   have O:wr.cell? ⟨g,a+k*4+3,none⟩=some (.bool s):=by obtain⟨m,rfl⟩:=c.out;exact l
   have h:wr.heap.size=w.heap.size:=by obtain⟨m,rfl⟩:=c.out;rfl
   have F:b<wr.heap.size:=by omega
   have C:g<wr.heap.size:=by omega
   have K:=neq_S p q r s;clear A z y x v t o l B G j h;go_wp2_with fail;go_quiet (fail);go_wp2_with fail;go_roundw
   case rel=>exact⟨k+1,by omega,by first | rfl | go_num,kD (by obtain⟨m,rfl⟩:=c.out;exact⟨_,World.drewN_drewN _ _ _⟩)⟩
   case measure=>simp [intOf] <;> omega
  ·obtain rfl:k=n:=by omega
   go_wp2_with fail;go_ret;obtain⟨m,rfl⟩:=c.out;exact⟨rfl,below_drewN (Below.refl _ _) _⟩
theorem w9events (k a b r:Int) (ss:List Stp) (n:Nat) (hnn:ss.length=n) (A1 A2:Option Addr) (c1 c2:Nat) (w:World) (h1:RdS w w.heap.size 4 enSt A1 ss) (h2:RdS w w.heap.size 4 enSt A2 ss) :
  Calls Tryz.prog 10 #[.agg #[.int .i64 k,.int .i64 a,.int .i64 b,.slice A1 n c1,.int .i64 r],.agg #[.int .i64 k,.int .i64 a,.int .i64 b,.slice A2 n c2,.int .i64 r]] w λ e w'=>e=.returned (.bool true)∧Below w.heap.size w w':=by
 have p:=kD (λ(o:World) (f:Below w.heap.size w o)=>w9steps w.heap.size w.heap.size A1 A2 c1 c2 ss n hnn o (h1.below f (Nat.le_refl _)) (h2.below f (Nat.le_refl _)) f.size f.size);clear hnn h1 h2;have F:(k == k)=true:=by simp
 have H:(a == a)=true:=by simp
 have G:(b == b)=true:=by simp
 have E:(r == r)=true:=by simp
 go_enter Tryz.func10,Tryz.ntmps10;go_upto_region 1 with fail;refine wp_gen (λ j=>Below w.heap.size w j∧RowB j w.heap.size 28 [.int .i64 k,.int .i64 a,.int .i64 b,.slice A1 n c1,.int .i64 r]∧RowB j (w.heap.size+1) 28 [.int .i64 k,.int .i64 a,.int .i64 b,.slice A2 n c2,.int .i64 r]) ⟨by go_grown,(RowB.new _ _ _).alloc _,RowB.new' _ _ _ (by simp)⟩ ?_;rintro y ⟨d,m,l⟩;obtain⟨D,C,B,A,z⟩:=m.c5;obtain⟨x,v,t,s,q⟩:=l.c5;have h:=m.lt;have g:=l.lt;go_wp2_with fail;refine(p.out y d).mono ?_;rintro e I ⟨rfl,c⟩;have i:=d.trans (c.mono d.size);clear p d c m l D C B A z x v t s q h g;go_wp2_with fail;go_ret;exact⟨rfl,i⟩
end W9
namespace EtL
open Go Go.ChangeShapes Go.WideShapes Go.ChangeAt Go.RowKit Base Ints Own RelG PlP TxP Num Gm RegInv RegF RegG Bd1 Bd5 TxI TsI W9 EtA
theorem bigF (n cp:Nat) (A:Option Addr) (b:Bool) (hb:decide ((4096:Int)<(n:Int))=b) (w:World) (hn:n<=maxLen):Calls Tryz.prog 5 #[.slice A n cp] w λ e w'=>e=.returned (.bool b)∧w=w':=by
 subst hb;unfold maxLen at hn;go_enter Tryz.func5,Tryz.ntmps5;go_wp2;go_ret;exact⟨rfl,rfl⟩
structure Le (w wr:World) (g3:Nat) (v:Vr) (k a b:Int) (As:Option Addr) (n cs:Nat) (r:Int) (ss:List Stp):Prop where
 bel:Below w.heap.size w wr
 rv:RowB wr g3 25 (vL v)
 re:RowB wr (g3+1) 28 [.int .i64 k,.int .i64 a,.int .i64 b,.slice As n cs,.int .i64 r]
 rd:RdF wr (λ _=>True) 4 enSt As ss
theorem Le.below {w wr w':World} {g3:Nat} {v:Vr} {k a b:Int} {As:Option Addr} {n cs:Nat} {r:Int} {ss:List Stp} (K:Le w wr g3 v k a b As n cs r ss) (hb:Below wr.heap.size wr w'):Le w w' g3 v k a b As n cs r ss :=
 ⟨K.bel.trans (hb.mono K.bel.size),K.rv.below hb K.rv.lt,K.re.below hb K.re.lt,K.rd.keep (.below hb)⟩
theorem walkE (A:Option Addr) (cp:Nat) (xs:List Int) (w:World) (hr:RdS w w.heap.size 1 enB A xs) (hw:∀ x ∈ xs,(Lit.int .u8 x).wf=true) (E:Env w) :
  Calls Tryz.prog 3 #[.slice A xs.length cp] w λ e w'=>e=.returned (.bool true)∧Below w.heap.size w w':=by
 have S:=hr.1;have CD:=kD (evtx (cp:=cp) hr hw);obtain⟨NX,aa⟩:∃ q,xs.length=q:=⟨_,rfl⟩;rw [aa] at CD S ⊢;obtain⟨bg,W⟩:∃ b,decide ((4096:Int)<(NX:Int))=b:=⟨_,rfl⟩;have CB:=kD (bigF NX cp A bg W w S);clear hr hw aa W;go_enter Tryz.func3,Tryz.ntmps3;go_wp2_with fail;refine CB.out.mono ?_;rintro e w1 ⟨rfl,rfl⟩;clear CB
 cases bg with
 | true =>
  go_wp2_with fail;go_ret;exact⟨rfl,Below.refl _ _⟩
 | false =>
 go_wp2_with fail;refine CD.out.mono ?_;rintro e M ⟨v,k,a,b,m,r,F,cs,rfl,R,h4,d⟩;obtain⟨n,hn⟩:∃ n,m.length=n:=⟨_,rfl⟩;rw [hn];have HN:=kD hn;have HB:=kD d;have ab:=kD R;have HE:=kD E;clear hn d R h4 CD E;go_upto_region 4 with fail;refine wp_gen (λ W'=>Le w W' M.heap.size v k a b F n cs r m) ?_ ?_
 ·have Y:Below M.heap.size M ((M.alloc (.cells #[.int .i64 v.p,.int .i64 v.c,.int .i64 v.h,.int .i64 v.s] 25)).alloc (.cells #[.int .i64 k,.int .i64 a,.int .i64 b,.slice F n cs,.int .i64 r] 28)):=by go_grown
  exact⟨HB.out.trans (Y.mono HB.out.size),(RowB.new _ _ _).alloc _,RowB.new' _ _ _ (by simp),ab.out.keep (.below Y)⟩
 obtain⟨g3,V⟩:∃ q,M.heap.size=q:=⟨_,rfl⟩
 try simp only [V]
 clear V HB ab;intro w3 K;have C:=event_i v k a b m r F cs w3.heap.size w3 (Nat.le_refl _) K.rd.rd (HE.out.below K.bel);have CS:=kD (λ(D:World) (h9:RdF D (λ _=>True) 4 enSt F m)=>event_s v k a b m r F cs D.heap.size D (Nat.le_refl _) h9.rd);rw [HN.out] at C CS;obtain⟨T,y⟩:∃ T,(if okV v=true then evnT v ⟨k,a,b,m,r⟩ else [])=T:=⟨_,rfl⟩;rw [y] at C CS;have HT:=kD y;have Z:T.length<=4194304:=by
  rw [<-y];split
  ·rename_i hv
   have:=evnT_len hv ⟨k,a,b,m,r⟩;omega
  ·simp
 have CR:=kD (λ(D:World) (h9:Below w.heap.size w D)=>revent_i v T Z D (HE.out.below h9));have ac:Hid (T≠[]->rdEv v T=some ⟨k,a,b,m,r⟩):=kD (by
  intro g
  cases hv:okV v with
  | false=>rw [hv] at y;simp at y;exact absurd y g
  | true =>
   rw [hv,if_pos rfl] at y;unfold rdEv;rw [if_pos hv];exact(rdE_iff hv).2 ⟨y,g⟩)
 obtain⟨X,hX⟩:∃ X,bs T=X:=⟨_,rfl⟩;have B:Hid (X.toList.isEmpty=true∨X.toList.isEmpty=false∧T≠[]):=kD (by
  rw [<-hX,ByteArray.toList_eq]
  cases hl:T with
  | nil=>exact .inl rfl
  | cons x l=>exact .inr ⟨rfl,by simp⟩)
 rw [hX] at C CS CR;have C:=kD C;clear y Z hX HT;obtain⟨Q,P,O,N⟩:=K.rv.c4;obtain⟨L,J,I,H,G⟩:=K.re.c5;have j:=K.rv.lt;have i:=K.re.lt;go_wp2_with fail;refine C.out.mono ?_;rintro e w4 ⟨rfl,d⟩;have K:=K.below d;clear Q P O N L J I H G j i d C;obtain⟨Q,P,O,N⟩:=K.rv.c4;obtain⟨L,J,I,H,G⟩:=K.re.c5;have j:=K.rv.lt;have i:=K.re.lt;have ah:(X.toList == X.toList)=true:=by simp
 have ag:(X.toList != X.toList)=false:=by simp
 go_wp2_with fail;refine(CS.out _ K.rd).mono ?_;rintro e w5 ⟨rfl,d⟩;have K:=K.below d;clear Q P O N L J I H G j i d CS;rcases B.out with he | ⟨he,g⟩
 ·have z:=K.bel;clear K B;go_wp2_with fail;go_ret;exact⟨rfl,z⟩
 obtain⟨Q,P,O,N⟩:=K.rv.c4;have j:=K.rv.lt;have HO:=kD (ac.out g);clear B ac g;go_wp2_with fail;refine(CR.out _ K.bel).mono ?_;rintro e w6 ⟨k',a',b',sv,af,r',ok,rfl,o,d,f⟩;rw [HO.out] at f
 cases ok with
 | false=>simp at f
 | true =>
 simp only [if_true,Option.some.injEq,Ev.mk.injEq] at f;obtain⟨rfl,rfl,rfl,rfl,rfl⟩:=f;obtain⟨A2,c2,rfl,-⟩:=o.form enSt_len;rw [HN.out] at o ⊢;have K:=K.below d;have ad:=kD (own_rd o);clear Q P O N j d CR HO o;go_upto_region 10 with fail;obtain⟨g6,t⟩:∃ q,w6.heap.size=q:=⟨_,rfl⟩;refine wp_gen (λ W'=>Below w6.heap.size w6 W'∧RowB W' g6 28 [.int .i64 k,.int .i64 a,.int .i64 b,.slice A2 n c2,.int .i64 r]) ⟨(Below.refl _ _).alloc (Nat.le_refl _) _,by rw [<-t];exact RowB.new _ _ _⟩ ?_
 try simp only [t]
 rintro w7 ⟨d,R6⟩;rw [<-t] at d;have K:=K.below d;have CW:=kD (w9events k a b r m n HN.out A2 F c2 cs w7 ((ad.out.below d (Nat.le_refl _)).more d.size) K.rd.rd);clear d t ad;obtain⟨L,J,I,H,G⟩:=K.re.c5;obtain⟨x0,x1,x2,x3,x4⟩:=R6.c5;have i:=K.re.lt;have ae:=R6.lt;go_wp2_with fail;refine CW.out.mono ?_;rintro e w8 ⟨rfl,d⟩;have z:=K.bel.trans (d.mono K.bel.size);clear K R6 CW d L J I H G x0 x1 x2 x3 x4 i ae;go_wp2_with fail;go_ret;exact⟨rfl,z⟩
end EtL
end Go.Proofs.YtjdefiinmicjiaaGreatDoor
