/- Parts of the proof of FnHints. Conditions: each theorem's own. -/
import Derived.Test.YtmncnhbjifeoeaaGreatT25
set_option linter.unusedVariables false
set_option linter.unusedSimpArgs false
set_option maxHeartbeats 8000000
set_option maxRecDepth 100000
namespace Go.Proofs.YtmncnhbjifeoeaaGreat
namespace HlB
open Go Go.ChangeShapes Go.WideShapes Go.ChangeAt Go.RowKit Base Ints Own RelG PlP Gm RegInv RegF RegG Bd1 Bd5 Bd11 Bd15 Bd29 Bd32 DwP Bd39 HkP HdP HdF HdG HlA HlC DwB
structure Hw (w:World) (g3 lw:Nat) (v:Vr) (n1 n2:Nat) (b:Bd) (x y:Int) (A1 A2:Option Addr) (c1 c2:Nat) (W:World):Prop where
 bel:Below w.heap.size w W
 r3:RowB W g3 25 (vL v)
 r4:RowB W (g3+1) 28 [.slice A1 n1 c1,.slice A2 n2 c2]
 r5:RowB W (g3+2) 30 [.int .i64 x,.int .i64 y]
 o1:OwnS W lw W.heap.size 2 1 enI (.slice A1 n1 c1) b.1
 o2:OwnS W lw W.heap.size 2 1 enI (.slice A2 n2 c2) b.2
 lo:w.heap.size<=g3
section
variable {w W W':World} {g3 lw:Nat} {v:Vr} {n1 n2:Nat} {b:Bd} {x y:Int} {A1 A2:Option Addr} {c1 c2:Nat}
theorem Hw.below (K:Hw w g3 lw v n1 n2 b x y A1 A2 c1 c2 W) (hb:Below W.heap.size W W'):Hw w g3 lw v n1 n2 b x y A1 A2 c1 c2 W' :=
 ⟨K.bel.trans (hb.mono K.bel.size),K.r3.below hb K.r3.lt,K.r4.below hb K.r4.lt,K.r5.below hb K.r5.lt,(K.o1.below hb (Nat.le_refl _)).more hb.size,(K.o2.below hb (Nat.le_refl _)).more hb.size,K.lo⟩
theorem Hw.redraw {W1 W2 W3 W4:World} {E1 E2:Option Addr} {f1 f2:Nat} (K:Hw w g3 lw v n1 n2 b x y A1 A2 c1 c2 W) (hb:Below W.heap.size W W1)
  (p1:OwnS W1 W.heap.size W1.heap.size 2 1 enI (.slice E1 n1 f1) b.1) (p2:OwnS W1 W.heap.size W1.heap.size 2 1 enI (.slice E2 n2 f2) b.2)
  (s1:RowB W2 g3 25 (vL v)) (h1:W1.grownBy W2 (some g3))
  (s2:RowB W3 (g3+1) 28 [.slice E1 n1 f1,.slice E2 n2 f2]) (h2:W2.grownBy W3 (some (g3+1)))
  (s3:RowB W4 (g3+2) 30 [.int .i64 x,.int .i64 y]) (h3:W3.grownBy W4 (some (g3+2))) :
  Hw w g3 (g3+3) v n1 n2 b x y E1 E2 f1 f2 W4∧Still (λ q=>g3+2<q) W W4:=by
 have d:∀(q k:Nat),some q=some k->k=q:=λ q k h=>by simpa using h.symm
 have B:=K.r5.lt;have i:=K.lo;have p:=K.bel.size;have E:=hb.size;have D:=h1.size;have C:=h2.size;have z:=K.bel.trans (hb.mono p);have t:=z.grown h1 (by omega) (λ k a=>by have:=d _ _ a;omega);have s:=t.grown h2 (by omega) (λ k a=>by have:=d _ _ a;omega);have r:=s.grown h3 (by omega) (λ k a=>by have:=d _ _ a;omega);have e:∀(A:Option Addr) (n c:Nat) (l:List Int),OwnS W1 W.heap.size W1.heap.size 2 1 enI (.slice A n c) l->OwnS W4 (g3+3) W4.heap.size 2 1 enI (.slice A n c) l:=by
  intro A n c l h;have o:=(h.grown h1 (λ k a=>by have:=d _ _ a;omega)).more (hi':=W2.heap.size) h1.size;have m:=(o.grown h2 (λ k a=>by have:=d _ _ a;omega)).more (hi':=W3.heap.size) h2.size;have j:=(m.grown h3 (λ k a=>by have:=d _ _ a;omega)).more (hi':=W4.heap.size) h3.size;exact j.less (by omega)
 have g:=(s1.grown h2 (λ k a=>by have:=d _ _ a;omega)).grown h3 (λ k a=>by have:=d _ _ a;omega);have f:=s2.grown h3 (λ k a=>by have:=d _ _ a;omega);refine⟨⟨r,g,f,s3,e _ _ _ _ p1,e _ _ _ _ p2,i⟩,?_⟩;exact(((Still.below hb).trans (Still.grown h1 (λ k a=>by have:=d _ _ a;omega))).trans (Still.grown h2 (λ k a=>by have:=d _ _ a;omega))).trans (Still.grown h3 (λ k a=>by have:=d _ _ a;omega))
theorem Hw.bdr (K:Hw w g3 lw v n1 n2 b x y A1 A2 c1 c2 W) {S:Nat->Prop} (hS:∀ q,lw<=q->q<W.heap.size->S q):BdR W S (.slice A1 n1 c1) (.slice A2 n2 c2) b :=
 ⟨(OwnV.of K.o1 (Nat.le_refl _) hS).sl enI_len,(OwnV.of K.o2 (Nat.le_refl _) hS).sl enI_len⟩
end
theorem row_still {W W':World} {S:Nat->Prop} {g:Nat} {t:TypeId} {cs:List Value} (h:RowB W g t cs) (hs:Still S W W') (hg:S g):RowB W' g t cs:=(hs.2 g hg h.lt).trans h
theorem go_fine {v:Vr} {b:Bd} {u:Nat}:∀(os:List (List Int)) (i:Nat) (out:List Pl) (fine:Bool),fine=true->(∀ o ∈ os,(lngP v b o).2.2=true)->(allGo v b u i os out fine).2=true
 | [],_,_,_,h,_=>h
 | o :: os,i,out,fine,h,hs=>by
  simp only [allGo];exact go_fine os _ _ _ (by rw [h,hs o (List.mem_cons_self ..)];rfl) (λ q hq=>hs q (List.mem_cons_of_mem _ hq))
theorem hint_facts {v:Vr} {b:Bd} {x y d:Int} {SS:List Stp} {LD:Int} (h:hintR v b x y d=(SS,LD,0)) :
  ∃(B':Bd) (ps:List Pl),Ok v b∧rollB v x y=true∧playP v b x y SS=some B'∧APl v b x y=(ps,0)∧(∀(i:Nat) (p:Pl),ps[i]?=some p->∃ l,lossR v b x y p.2 d=(l,0)∧(p.2=B'->l=0)∧(p.2≠B'->LD<=l))∧(1<ps.length∨LD=0):=by
 unfold hintR at h;split at h
 ·rename_i hc
  simp only [Prod.mk.injEq] at h;obtain⟨q,n,-⟩:=h;obtain⟨k,f,z,w,t,s,r⟩:=hints hc;obtain⟨a,c,-,e,-⟩:=codeT_zero hc;rw [<-q,<-n];refine⟨f.2,(allP v b x y).1,a,c,by rw [w];exact t,?_,s,r⟩;have g:=okR_iff.1 c;have m:(allP v b x y).2=true:=by unfold allP;exact go_fine _ _ _ _ rfl (λ o j=>fits_small (x:=x) (y:=y) e o j)
  unfold APl;rw [if_neg (by rw [okB_iff.2 a];decide),if_neg (by rw [show rollB v x y=true from c];decide),if_neg (by rw [m];decide)]
 ·rename_i hc
  simp only [Prod.mk.injEq] at h;exact absurd h.2.2 hc
structure Lw (w:World) (g3 g13:Nat) (v:Vr) (n1 n2:Nat) (b:Bd) (x y:Int) (A1 A2:Option Addr) (c1 c2:Nat) (A3 A4:Option Addr) (n3 n4 c3 c4:Nat) (B':Bd) (W:World):Prop where
 k:Hw w g3 (g3+3) v n1 n2 b x y A1 A2 c1 c2 W
 r13:RowB W g13 28 [.slice A3 n3 c3,.slice A4 n4 c4]
 bd:BdR W (λ q=>g3+2<q) (.slice A3 n3 c3) (.slice A4 n4 c4) B'
 lg:g3+2<g13
structure Lq (w:World) (g3 g13:Nat) (v:Vr) (n1 n2:Nat) (b:Bd) (x y:Int) (A1 A2:Option Addr) (c1 c2:Nat) (A3 A4:Option Addr) (n3 n4 c3 c4:Nat) (B':Bd) (Ap:Option Addr) (rs:List PRow) (ps:List Pl) (W:World):Prop where
 l:Lw w g3 g13 v n1 n2 b x y A1 A2 c1 c2 A3 A4 n3 n4 c3 c4 B' W
 rd:RdF W (λ q=>g3+2<q) 3 enP Ap rs
 ls:LsR RelP W (λ q=>g3+2<q) rs ps
section
variable {w W W':World} {g3 g13:Nat} {v:Vr} {n1 n2:Nat} {b:Bd} {x y:Int} {A1 A2 E1 E2:Option Addr} {c1 c2 f1 f2:Nat} {A3 A4:Option Addr} {n3 n4 c3 c4:Nat} {B':Bd} {Ap:Option Addr} {rs:List PRow} {ps:List Pl}
theorem Lw.below (K:Lw w g3 g13 v n1 n2 b x y A1 A2 c1 c2 A3 A4 n3 n4 c3 c4 B' W) (hb:Below W.heap.size W W'):Lw w g3 g13 v n1 n2 b x y A1 A2 c1 c2 A3 A4 n3 n4 c3 c4 B' W' :=
 ⟨K.k.below hb,K.r13.below hb K.r13.lt,K.bd.below hb,K.lg⟩
theorem Lq.below (K:Lq w g3 g13 v n1 n2 b x y A1 A2 c1 c2 A3 A4 n3 n4 c3 c4 B' Ap rs ps W) (hb:Below W.heap.size W W'):Lq w g3 g13 v n1 n2 b x y A1 A2 c1 c2 A3 A4 n3 n4 c3 c4 B' Ap rs ps W' :=
 ⟨K.l.below hb,K.rd.keep (.below hb),K.ls.keep (.below hb)⟩
theorem Lq.redraw (K:Lq w g3 g13 v n1 n2 b x y A1 A2 c1 c2 A3 A4 n3 n4 c3 c4 B' Ap rs ps W) (hk:Hw w g3 (g3+3) v n1 n2 b x y E1 E2 f1 f2 W') (hs:Still (λ q=>g3+2<q) W W'):Lq w g3 g13 v n1 n2 b x y E1 E2 f1 f2 A3 A4 n3 n4 c3 c4 B' Ap rs ps W' :=
 ⟨⟨hk,row_still K.l.r13 hs K.l.lg,K.l.bd.keep hs,K.l.lg⟩,K.rd.keep hs,K.ls.keep hs⟩
end
theorem bd_parts {w:World} {S:Nat->Prop} {X1 X2:Option Addr} {m1 m2 t1 t2:Nat} {b:Bd} (h:BdR w S (.slice X1 m1 t1) (.slice X2 m2 t2) b):RdS w w.heap.size 1 enI X1 b.1∧RdS w w.heap.size 1 enI X2 b.2∧(X1=none->t1=0)∧(X2=none->t2=0):=by
 obtain⟨⟨l,j,c,e,g⟩,⟨k,i,a,d,f⟩⟩:=h;simp only [Value.slice.injEq] at c a;obtain⟨rfl,-,rfl⟩:=c;obtain⟨rfl,-,rfl⟩:=a;exact⟨e.rd,d.rd,g,f⟩
theorem loss_use (v:Vr) (b c:Bd) (x y d L:Int) (hl:lossR v b x y c d=(L,0)) (n1 n2 n3 n4:Nat) (h1:b.1.length=n1) (h2:b.2.length=n2) (h3:c.1.length=n3) (h4:c.2.length=n4) (w9:World) {S T:Nat->Prop} (X1 X2:Option Addr) (t1 t2:Nat) (E1 E2:Option Addr) (e1 e2:Nat) (hx:BdR w9 S (.slice X1 n1 t1) (.slice X2 n2 t2) b) (hc:BdR w9 T (.slice E1 n3 e1) (.slice E2 n4 e2) c) :
  Calls Tryz.prog 12 #[.agg #[.int .i64 v.p,.int .i64 v.c,.int .i64 v.h,.int .i64 v.s],.agg #[.slice X1 n1 t1,.slice X2 n2 t2],.agg #[.int .i64 x,.int .i64 y],.agg #[.slice E1 n3 e1,.slice E2 n4 e2],.int .i64 d] w9 λ e w'=>e=.returned (.tuple #[.int .i64 L,.int .i64 0])∧Below w9.heap.size w9 w':=by
 subst h1 h2 h3 h4;obtain⟨k,j,i,g⟩:=bd_parts hx;obtain⟨f,a,-,-⟩:=bd_parts hc;have:=lossX_i v b X1 X2 t1 t2 x y c E1 E2 e1 e2 d w9 k j i g f a;rw [hl] at this;exact this
theorem like_use (a c:Bd) (t:Bool) (ht:decide (a=c)=t) (n1 n2 n3 n4:Nat) (h1:a.1.length=n1) (h2:a.2.length=n2) (h3:c.1.length=n3) (h4:c.2.length=n4) (w9:World) {S T:Nat->Prop} (X1 X2:Option Addr) (t1 t2:Nat) (E1 E2:Option Addr) (e1 e2:Nat) (hx:BdR w9 S (.slice X1 n1 t1) (.slice X2 n2 t2) a) (hc:BdR w9 T (.slice E1 n3 e1) (.slice E2 n4 e2) c) :
  Calls Tryz.prog 13 #[.agg #[.slice X1 n1 t1,.slice X2 n2 t2],.agg #[.slice E1 n3 e1,.slice E2 n4 e2]] w9 λ e w'=>e=.returned (.bool t)∧Below w9.heap.size w9 w':=by
 subst h1 h2 h3 h4;obtain⟨g,f,-,-⟩:=bd_parts hx;obtain⟨d,b,-,-⟩:=bd_parts hc;exact likeB X1 X2 E1 E2 t1 t2 e1 e2 a c t ht w9 g f d b
theorem bskip {p:Prop} (h:p) (k:Nat):p:=h
theorem own_rd {W:World} {lo n c:Nat} {A:Option Addr} {l:List Int} (h:OwnS W lo W.heap.size 2 1 enI (.slice A n c) l):n=l.length∧RdS W W.heap.size 1 enI A l∧(A=none->c=0):=by
 obtain⟨f,d,e,a,b⟩:=own_sl h;simp only [Value.slice.injEq] at e;obtain⟨rfl,rfl,rfl⟩:=e;exact⟨rfl,a.rd,b⟩
theorem walkH (A:Option Addr) (cp:Nat) (xs:List Int) (w:World) (hr:RdS w w.heap.size 1 enB A xs) (hw:∀ x ∈ xs,(Lit.int .u8 x).wf=true) :
  Calls Tryz.prog 3 #[.slice A xs.length cp] w λ e w'=>e=.returned (.bool true)∧Below w.heap.size w w':=by
 obtain⟨RV,a5⟩:∃ R,hd29 xs=R:=⟨_,rfl⟩;obtain⟨v,b,⟨x,y⟩,d⟩:=RV;obtain⟨n1,ai⟩:∃ n,b.1.length=n:=⟨_,rfl⟩;obtain⟨n2,ah⟩:∃ n,b.2.length=n:=⟨_,rfl⟩;have CD:∀ g,Below w.heap.size w g->Calls Tryz.prog 7 #[.slice A xs.length cp] g λ e w'=>∃(A1:Option Addr) (c1:Nat) (A2:Option Addr) (Y:Nat),e=.returned (.tuple #[.agg #[.int .i64 v.p,.int .i64 v.c,.int .i64 v.h,.int .i64 v.s],.agg #[.slice A1 n1 c1,.slice A2 n2 Y],.agg #[.int .i64 x,.int .i64 y],.int .i64 d])∧(OwnS w' g.heap.size w'.heap.size 2 1 enI (.slice A1 n1 c1) b.1∧OwnS w' g.heap.size w'.heap.size 2 1 enI (.slice A2 n2 Y) b.2)∧Below g.heap.size g w':=by
  intro g h9;refine(hint29_x ((hr.below h9 (Nat.le_refl _)).more h9.size) hw).mono ?_;rintro e w' ⟨v',b',⟨x',y'⟩,d',A1,c1,A2,Y,rfl,aF,ho,C⟩;rw [a5] at aF;simp only [Prod.mk.injEq] at aF;obtain⟨rfl,rfl,⟨rfl,rfl⟩,rfl⟩:=aF;rw [ai,ah] at ho ⊢;exact⟨A1,c1,A2,Y,rfl,ho,C⟩
 have aV:=hr.1;obtain⟨NX,a6⟩:∃ q,xs.length=q:=⟨_,rfl⟩;rw [a6] at CD aV ⊢;have CD:=kD CD;obtain⟨⟨SS,LD,Z⟩,aw⟩:∃ R,hintR v b x y d=R:=⟨_,rfl⟩;have bi:=kD (λ(h0:Z=0)=>hint_facts (v:=v) (b:=b) (x:=x) (y:=y) (d:=d) (SS:=SS) (LD:=LD) (by rw [aw,h0]));have CI:=kD (λ(A1 A2:Option Addr) (c1 Y:Nat) (lw:Nat) (g:World) (o1:OwnS g lw g.heap.size 2 1 enI (.slice A1 n1 c1) b.1) (o2:OwnS g lw g.heap.size 2 1 enI (.slice A2 n2 Y) b.2)=>by
  have h:=Bd40.hintX_i v b A1 A2 c1 Y x y d g (own_rd o1).2.1 (own_rd o2).2.1 (own_rd o1).2.2 (own_rd o2).2.2;rw [ai,ah,aw] at h;exact h)
 have CS:=kD (λ(A1 A2:Option Addr) (c1 Y:Nat) (lw:Nat) (g:World) (o1:OwnS g lw g.heap.size 2 1 enI (.slice A1 n1 c1) b.1) (o2:OwnS g lw g.heap.size 2 1 enI (.slice A2 n2 Y) b.2)=>by
  have h:=Bd39.hintX_s v b A1 A2 c1 Y x y d g (own_rd o1).2.1 (own_rd o2).2.1 (own_rd o1).2.2 (own_rd o2).2.2;rw [ai,ah,aw] at h;exact h)
 obtain⟨bg,a3⟩:∃ b,decide ((4096:Int)<(NX:Int))=b:=⟨_,rfl⟩;have CB:=kD (bigF NX cp A bg a3 w aV);clear hr hw a5 a6 a3 aw;have bD:=kD ai;have bC:=kD ah;clear ai ah;go_enter Tryz.func3,Tryz.ntmps3;go_wp2_with fail;refine CB.out.mono ?_;rintro e w1 ⟨rfl,rfl⟩;clear CB
 cases bg with
 | true =>
  go_wp2_with fail;go_ret;exact⟨rfl,Below.refl _ _⟩
 | false =>
 go_wp2_with fail;refine(CD.out w (Below.refl _ _)).mono ?_;rintro e w2 ⟨A1,c1,A2,Y,rfl,⟨o1,o2⟩,C⟩;have HB:=kD C;go_upto_region 4 with fail;refine wp_gen (λ W'=>Hw w w2.heap.size w.heap.size v n1 n2 b x y A1 A2 c1 Y W') ?_ ?_
 ·have aj:Below w2.heap.size w2 (((w2.alloc (.cells #[.int .i64 v.p,.int .i64 v.c,.int .i64 v.h,.int .i64 v.s] 25)).alloc (.cells #[.slice A1 n1 c1,.slice A2 n2 Y] 28)).alloc (.cells #[.int .i64 x,.int .i64 y] 30)):=by go_grown
  exact⟨C.trans (aj.mono C.size),((RowB.new _ _ _).alloc _).alloc _,(RowB.new' _ _ _ (by simp)).alloc _,RowB.new' _ _ _ (by simp),(o1.below aj (Nat.le_refl _)).more aj.size,(o2.below aj (Nat.le_refl _)).more aj.size,C.size⟩
 obtain⟨X,a1⟩:∃ q,w2.heap.size=q:=⟨_,rfl⟩
 try simp only [a1]
 clear a1 o1 o2 C HB;intro w3 K;obtain⟨q0,q1,q2,q3⟩:=K.r3.c4;obtain⟨q4,q5⟩:=K.r4.c2;obtain⟨q6,q7⟩:=K.r5.c2;have M:=K.r3.lt;have J:=K.r4.lt;have I:=K.r5.lt;go_wp2_with fail;refine(CI.out _ _ _ _ _ w3 K.o1 K.o2).mono ?_;rintro e w4 ⟨sv,rfl,aP,C⟩;obtain⟨As,cs,rfl,aQ,-⟩:=(OwnV.of aP (Nat.le_refl _) (S:=λ q=>X+2<q) (λ q h _=>by omega)).sl enSt_len;obtain⟨NS,aK⟩:∃ q,SS.length=q:=⟨_,rfl⟩;rw [aK];have bz:=kD aK;have af:=kD aQ;have K:=K.below C;clear q0 q1 q2 q3 q4 q5 q6 q7 M J I C aP aQ aK CI;go_wp2_with fail;refine(CD.out w4 K.bel).mono ?_;rintro e b7 ⟨E5,f5,G5,j5,rfl,⟨p1,p2⟩,C⟩;have ad:=kD K;have HP:=kD (And.intro C (And.intro p1 p2));have aa:=K.r3.below C K.r3.lt;have G:=K.r4.below C K.r4.lt;have D:=K.r5.below C K.r5.lt;clear K p1 p2 C;go_wp2_with (refine wM 25 0 [.int .i64 v.p,.int .i64 v.c,.int .i64 v.h,.int .i64 v.s] aa ?_;intro b9 s3 H z3;refine Hid.out ?_);have G:=G.grown H (λ k hk=>by simp at hk;omega);have D:=D.grown H (λ k hk=>by simp at hk;omega);have Q:=kD (And.intro s3 H);clear aa s3 H z3;refine kD ?_;go_wp2_with (refine wM 28 0 [.slice E5 n1 f5,.slice G5 n2 j5] G ?_;intro b8 s4 O z4;refine Hid.out ?_);have D:=D.grown O (λ k hk=>by simp at hk;omega);have P:=kD (And.intro s4 O);clear G s4 O z4;refine kD ?_;go_wp2_with (refine wM 30 0 [.int .i64 x,.int .i64 y] D ?_;intro bl s5 ac z5;refine Hid.out ?_);have T:=kD (ad.out.redraw HP.out.1 HP.out.2.1 HP.out.2.2 Q.out.1 Q.out.2 P.out.1 P.out.2 s5 ac);have K:=T.out.1;have bc:=kD T.out.2;clear D s5 ac z5 Q P HP ad T;refine kD ?_;have af:=kD (af.out.keep bc.out);obtain⟨q0,q1,q2,q3⟩:=K.r3.c4;obtain⟨q4,q5⟩:=K.r4.c2;obtain⟨q6,q7⟩:=K.r5.c2;have M:=K.r3.lt;have J:=K.r4.lt;have I:=K.r5.lt;go_wp2_with fail;refine(CS.out _ _ _ _ _ bl K.o1 K.o2).mono ?_;rintro e w6 ⟨ca,rfl,-,C⟩;have K:=K.below C;have af:=kD (af.out.keep (.below C));clear q0 q1 q2 q3 q4 q5 q6 q7 M J I C CS bc;have nz:(Z != Z)=false:=by simp
 have nl:(LD != LD)=false:=by simp
 by_cases hZ:Z=0
 case neg =>
  have cb:(Z != 0)=true:=by simp [hZ]
  have av:=K.bel;clear hZ K;go_wp2_with fail;go_ret;exact⟨rfl,av⟩
 case pos =>
 obtain⟨B',ps,aT,aR,aS,a4,aW,a2⟩:=bi.out hZ;subst hZ;have bj:=kD a4;have bE:=kD aW;have aM:=kD a2;clear bi nz a4 aW a2;have nz:((0:Int) != 0)=false:=by simp
 obtain⟨q0,q1,q2,q3⟩:=K.r3.c4;obtain⟨q4,q5⟩:=K.r4.c2;obtain⟨q6,q7⟩:=K.r5.c2;have M:=K.r3.lt;have J:=K.r4.lt;have I:=K.r5.lt;have CP:=psteps_i v b aT (λ q=>X+2<q) _ _ x y aR SS As cs w6.heap.size B' aS w6 (Nat.le_refl _) (K.bdr (λ q h _=>by omega)) af.out.rd;rw [bz.out] at CP;have CP:=kD CP;clear af aT aR aS;go_wp2_with fail;refine CP.out.mono ?_;rintro e w7 ⟨u3,u4,rfl,bo,C⟩;obtain⟨⟨A3,c3,rfl,r3,k3⟩,⟨A4,c4,rfl,r4,k4⟩⟩:=bo;have an:=kD (BdR.weak (S':=λ q=>X+2<q) (show BdR w7 _ _ _ B' from⟨⟨A3,c3,rfl,r3,k3⟩,⟨A4,c4,rfl,r4,k4⟩⟩) (λ q h _=>h.elim id (λ h=>by omega)));obtain⟨n3,aI⟩:∃ q,B'.1.length=q:=⟨_,rfl⟩;obtain⟨n4,aH⟩:∃ q,B'.2.length=q:=⟨_,rfl⟩;rw [aI,aH] at an ⊢;have bB:=kD aI;have bA:=kD aH;have K:=K.below C;clear q0 q1 q2 q3 q4 q5 q6 q7 M J I C r3 r4 k3 k4 CP aI aH;go_upto_region 12 with fail;obtain⟨ae,ab⟩:∃ q,w7.heap.size=q:=⟨_,rfl⟩;have aY:X+2<ae:=by rw [<-ab];exact K.r5.lt
 refine wp_gen (λ W'=>Below w7.heap.size w7 W'∧RowB W' ae 28 [.slice A3 n3 c3,.slice A4 n4 c4]) ⟨(Below.refl _ _).alloc (Nat.le_refl _) _,by rw [<-ab];exact RowB.new _ _ _⟩ ?_
 try simp only [ab]
 rintro w8 ⟨C,ba⟩;rw [<-ab] at C;have K:=K.below C;have an:=kD (an.out.below C);have bk:=kD ba;clear C ab ba;go_wp2_with fail;refine(CD.out w8 K.bel).mono ?_;rintro e bI ⟨az,ax,ay,ao,rfl,⟨p1,p2⟩,C⟩;have ad:=kD K;have HP:=kD (And.intro C (And.intro p1 p2));have aa:=K.r3.below C K.r3.lt;have G:=K.r4.below C K.r4.lt;have D:=K.r5.below C K.r5.lt;clear K p1 p2 C;go_wp2_with (refine wM 25 0 [.int .i64 v.p,.int .i64 v.c,.int .i64 v.h,.int .i64 v.s] aa ?_;intro bN s3 H z3;refine Hid.out ?_);have G:=G.grown H (λ k hk=>by simp at hk;omega);have D:=D.grown H (λ k hk=>by simp at hk;omega);have Q:=kD (And.intro s3 H);clear aa s3 H z3;refine kD ?_;go_wp2_with (refine wM 28 0 [.slice az n1 ax,.slice ay n2 ao] G ?_;intro bL s4 O z4;refine Hid.out ?_);have D:=D.grown O (λ k hk=>by simp at hk;omega);have P:=kD (And.intro s4 O);clear G s4 O z4;refine kD ?_;go_wp2_with (refine wM 30 0 [.int .i64 x,.int .i64 y] D ?_;intro aA s5 ac z5;refine Hid.out ?_);have T:=kD (ad.out.redraw HP.out.1 HP.out.2.1 HP.out.2.2 Q.out.1 Q.out.2 P.out.1 P.out.2 s5 ac);have K:=T.out.1;have am:=kD T.out.2;clear D s5 ac z5 Q P HP ad T;refine kD ?_;have HL:=kD (show Lw w X ae v n1 n2 b x y az ay ax ao A3 A4 n3 n4 c3 c4 B' aA from⟨K,row_still bk.out am.out aY,an.out.keep am.out,aY⟩);have CA:=plays_s v b (λ q=>X+2<q) _ _ x y (ps,0) bj.out aA (K.bdr (λ q h _=>by omega));simp only at CA;have CA:=kD CA;obtain⟨q0,q1,q2,q3⟩:=K.r3.c4;obtain⟨q4,q5⟩:=K.r4.c2;obtain⟨q6,q7⟩:=K.r5.c2;have M:=K.r3.lt;have J:=K.r4.lt;have I:=K.r5.lt;clear K bk an am bj;go_wp2_with fail;refine CA.out.mono ?_;rintro e g ⟨pv,rfl,aU,C⟩;obtain⟨Ap,cq,rs,rfl,aG,ar,-⟩:=aU.sl enP_len (Nat.le_refl _);have be:=kD (aG.weak (S':=λ q=>X+2<q) (λ q h _=>by omega));have bf:=kD (ar.weak (S':=λ q=>X+2<q) (λ q h _=>by omega));have HL:=kD (HL.out.below C);obtain⟨NP,ak⟩:∃ q,ps.length=q:=⟨_,rfl⟩;have bn:=aG.len;have bx:=kD (ar.1.trans ak);rw [ar.1,ak] at bn;rw [ak];have aM:=kD (show 1<NP∨LD=0 by have h:=aM.out;rw [ak] at h;exact h);clear q0 q1 q2 q3 q4 q5 q6 q7 M J I C CA aU aG ar ak;have HK:=kD (show Lq w X ae v n1 n2 b x y az ay ax ao A3 A4 n3 n4 c3 c4 B' Ap rs ps g from⟨HL.out,be.out,bf.out⟩);clear HL be bf;go_upto_region 17 with fail;go_loopw [6,17,18,19,20] (λ s6 aE _ _ _ wr=>∃(i:Nat) (A1 A2:Option Addr) (c1 Y:Nat),s6=.int .i64 d∧aE=.int .i64 (i:Int)∧i<=NP∧Hid (Lq w X ae v n1 n2 b x y A1 A2 c1 Y A3 A4 n3 n4 c3 c4 B' Ap rs ps wr)) (λ _ aE _ _ _ _=>NP - (intOf aE).toNat)
 case atStart=>exact⟨0,az,ay,ax,ao,by first | rfl | trivial,by first | rfl | trivial,Nat.zero_le _,HK⟩
 case round =>
  clear HK;obtain⟨i,A1,A2,c1,Y,rfl,rfl,hi,HK⟩:=hrel;by_cases hlt:i<NP
  ·obtain⟨bq,oq,r,rfl,hS,N,hr,hc⟩:=HK.out.rd.at_ (i:=i) (by rw [bx.out];exact hlt);obtain⟨p,hp,br⟩:=HK.out.ls.at_ hr;obtain⟨-,⟨A5,c5,e5,-⟩,⟨A6,c6,e6,-⟩⟩:=br;obtain⟨l,aX,a0,aZ⟩:=bE.out i p hp;obtain⟨n5,aq⟩:∃ q,p.2.1.length=q:=⟨_,rfl⟩;obtain⟨n6,ap⟩:∃ q,p.2.2.length=q:=⟨_,rfl⟩;rw [aq] at e5;rw [ap] at e6;have x1:wr.cell? ⟨bq,oq+i*3+1,none⟩=some (.slice A5 n5 c5):=hc 1 _ (by rw [<-e5];rfl);have x2:wr.cell? ⟨bq,oq+i*3+2,none⟩=some (.slice A6 n6 c6):=hc 2 _ (by rw [<-e6];rfl);have V:=kD (λ(g:World) (h9:Still (λ q=>X+2<q) wr g)=>(⟨(World.cell?_of_block (a:=⟨bq,oq+i*3+1,none⟩) (h9.2 bq hS N)).trans x1,(World.cell?_of_block (a:=⟨bq,oq+i*3+2,none⟩) (h9.2 bq hS N)).trans x2,Nat.lt_of_lt_of_le N h9.1,by
    have h:=(HK.out.ls.keep h9).2 i r p hr hp;have h2:BdR g (λ q=>X+2<q) r.2.1 r.2.2 p.2:=h.2;rw [e5,e6] at h2;exact h2⟩:g.cell? ⟨bq,oq+i*3+1,none⟩=some (.slice A5 n5 c5)∧g.cell? ⟨bq,oq+i*3+2,none⟩=some (.slice A6 n6 c6)∧bq<g.heap.size∧BdR g (λ q=>X+2<q) (.slice A5 n5 c5) (.slice A6 n6 c6) p.2))
   have aC:=kD (λ(g:World) (h9:Below wr.heap.size wr g)=>loss_use v b p.2 x y d l aX n1 n2 n5 n6 bD.out bC.out aq ap g A1 A2 c1 Y A5 A6 c5 c6 ((HK.out.l.k.below h9).bdr (S:=λ _=>True) (λ _ _ _=>trivial)) (V.out g (.below h9)).2.2.2);obtain⟨t,ht⟩:∃ t,decide (p.2=B')=t:=⟨_,rfl⟩;have aD:=kD (λ(g:World) (h9:Still (λ q=>X+2<q) wr g) (bp:BdR g (λ q=>X+2<q) (.slice A3 n3 c3) (.slice A4 n4 c4) B')=>like_use p.2 B' t ht n5 n6 n3 n4 aq ap bB.out bA.out g A5 A6 c5 c6 A3 A4 c3 c4 (V.out g h9).2.2.2 bp);have HT:=kD (show (t=true->(l != 0)=false)∧(t=false->decide (l<LD)=false) from⟨λ h=>by rw [h] at ht;simp [a0 (of_decide_eq_true ht)],λ h=>by rw [h] at ht;have:=aZ (of_decide_eq_false ht);simp;omega⟩);have cd:(i:Int)<(NP:Int):=by omega
   clear hS N hr hc hp e5 e6 aX a0 aZ aq ap x1 x2 ht;go_upto_region 19 with fail;refine region_rel [some 100,some 101,some 102,some 103,some 104,some 105,some 106,some 107,some 108,some 109,some 99,some 110,some 111,some 18,some 19] 15 (Pl [some (.agg #[.int .i64 v.p,.int .i64 v.c,.int .i64 v.h,.int .i64 v.s]),some (.agg #[.slice A1 n1 c1,.slice A2 n2 Y]),some (.agg #[.int .i64 x,.int .i64 y]),some (.slice (some ⟨bq,oq,none⟩) NP cq),some (.int .i64 (i:Int)),some (.pointer (some ⟨bq,oq+i*3,none⟩)),some (.pointer (some ⟨bq,oq+i*3+1,none⟩)),some (.agg #[.slice A5 n5 c5,.slice A6 n6 c6]),some (.int .i64 d),some (.tuple #[.int .i64 l,.int .i64 0]),some (.tuple #[.int .i64 l,.int .i64 0]),some (.int .i64 l),some (.int .i64 0),some (.int .i64 l),some (.int .i64 0)]) (λ L f w'=>Below wr.heap.size wr w') (by kernel_rfl) (by kernel_rfl) (by kernel_rfl) (by kernel_rfl) (by kernel_rfl) (by kernel_rfl) (by first | kernel_rfl | rfl) ?g0_1 ?gst_1 ?gfin_1
   case g0_1=>exact(Below.refl _ _).drew
   case gst_1 =>
    refine rN rfl (λ L f A g m o z U F K B=>?_) ?_
    ·have e3:=U.w 3 (.pointer (some ⟨X,0,none⟩));have j:=HK.out.l.k.below F;obtain⟨q0,q1,q2,q3⟩:=j.r3.c4;have q4:=j.r4.c2.1;have q5:=j.r4.c2.2;have q6:=j.r5.c2.1;have q7:=j.r5.c2.2;have M:=j.r3.lt;have J:=j.r4.lt;have I:=j.r5.lt;have E:=V.out g (.below F);have y1:=E.1;have y2:=E.2.1;have N:=E.2.2.1;clear j E;go_simp;exact pF B (bskip F 0)
    refine rN rfl (λ L f A g m o z U F K B=>?_) ?_
    ·have e4:=U.w 4 (.pointer (some ⟨X+1,0,none⟩));have j:=HK.out.l.k.below F;obtain⟨q0,q1,q2,q3⟩:=j.r3.c4;have q4:=j.r4.c2.1;have q5:=j.r4.c2.2;have q6:=j.r5.c2.1;have q7:=j.r5.c2.2;have M:=j.r3.lt;have J:=j.r4.lt;have I:=j.r5.lt;have E:=V.out g (.below F);have y1:=E.1;have y2:=E.2.1;have N:=E.2.2.1;clear j E;go_simp;exact pF B (bskip F 1)
    refine rN rfl (λ L f A g m o z U F K B=>?_) ?_
    ·have e5:=U.w 5 (.pointer (some ⟨X+1+1,0,none⟩));have j:=HK.out.l.k.below F;obtain⟨q0,q1,q2,q3⟩:=j.r3.c4;have q4:=j.r4.c2.1;have q5:=j.r4.c2.2;have q6:=j.r5.c2.1;have q7:=j.r5.c2.2;have M:=j.r3.lt;have J:=j.r4.lt;have I:=j.r5.lt;have E:=V.out g (.below F);have y1:=E.1;have y2:=E.2.1;have N:=E.2.2.1;clear j E;go_simp;exact pF B (bskip F 2)
    refine rN rfl (λ L f A g m o z U F K B=>?_) ?_
    ·have bw:=U.w 15 (.slice (some ⟨bq,oq,none⟩) NP cq);go_simp;exact pF B (bskip F 3)
    refine rN rfl (λ L f A g m o z U F K B=>?_) ?_
    ·have bv:=U.w 17 (.int .i64 (i:Int));go_simp;exact pF B (bskip F 4)
    refine rN rfl (λ L f A g m o z U F K B=>?_) ?_
    ·have b3:=U.v 3 103;have b2:=U.v 4 104;go_simp;exact pF B (bskip F 5)
    refine rN rfl (λ L f A g m o z U F K B=>?_) ?_
    ·have b1:=U.v 5 105;have j:=HK.out.l.k.below F;obtain⟨q0,q1,q2,q3⟩:=j.r3.c4;have q4:=j.r4.c2.1;have q5:=j.r4.c2.2;have q6:=j.r5.c2.1;have q7:=j.r5.c2.2;have M:=j.r3.lt;have J:=j.r4.lt;have I:=j.r5.lt;have E:=V.out g (.below F);have y1:=E.1;have y2:=E.2.1;have N:=E.2.2.1;clear j E;go_simp;exact pF B (bskip F 6)
    refine rN rfl (λ L f A g m o z U F K B=>?_) ?_
    ·have b0:=U.v 6 106;have j:=HK.out.l.k.below F;obtain⟨q0,q1,q2,q3⟩:=j.r3.c4;have q4:=j.r4.c2.1;have q5:=j.r4.c2.2;have q6:=j.r5.c2.1;have q7:=j.r5.c2.2;have M:=j.r3.lt;have J:=j.r4.lt;have I:=j.r5.lt;have E:=V.out g (.below F);have y1:=E.1;have y2:=E.2.1;have N:=E.2.2.1;clear j E;go_simp;exact pF B (bskip F 7)
    refine rN rfl (λ L f A g m o z U F K B=>?_) ?_
    ·have e6:=U.w 6 (.int .i64 d);go_simp;exact pF B (bskip F 8)
    refine rN rfl (λ L f A g m o z U F K B=>?_) ?_
    ·have b6:=U.v 0 100;have b5:=U.v 1 101;have b4:=U.v 2 102;have bZ:=U.v 7 107;have bY:=U.v 8 108;go_simp;refine(aC.out g F).mono ?_;rintro e' w6 ⟨rfl,aJ⟩;exact pF B (F.trans (aJ.mono F.size))
    refine rN rfl (λ L f A g m o z U F K B=>?_) ?_
    ·have bX:=U.v 9 109;go_simp;exact pF B (bskip F 10)
    refine rN rfl (λ L f A g m o z U F K B=>?_) ?_
    ·have bt:=U.v 10 99;go_simp;exact pF B (bskip F 11)
    refine rN rfl (λ L f A g m o z U F K B=>?_) ?_
    ·have bt:=U.v 10 99;go_simp;exact pF B (bskip F 12)
    refine rN rfl (λ L f A g m o z U F K B=>?_) ?_
    ·have bW:=U.v 11 110;go_simp;exact pF B (bskip F 13)
    refine rN rfl (λ L f A g m o z U F K B=>?_) ?_
    ·have bV:=U.v 12 111;go_simp;exact pF B (bskip F 14)
    exact RelFrom.nil (by decide)
   intro f wA hp F;simp only [Fr,Act.put,sX,Nat.reduceAdd];have a9:f 13=.int .i64 l:=hp 13 (by decide) _ rfl;have a8:f 14=.int .i64 0:=hp 14 (by decide) _ rfl;rw [a9,a8];have aL:=kD (HK.out.below F);have bb:=kD (show Still (λ q=>X+2<q) wr wA from .below F);have K:=aL.out.l.k;clear F hp a9 a8 aC HK;go_wp2_with fail;refine(CD.out wA K.bel).mono ?_;rintro e bH ⟨bG,bs,bF,bm,rfl,⟨p1,p2⟩,C⟩;have ad:=kD K;have HP:=kD (And.intro C (And.intro p1 p2));have aa:=K.r3.below C K.r3.lt;have G:=K.r4.below C K.r4.lt;have D:=K.r5.below C K.r5.lt;clear K p1 p2 C;go_wp2_with (refine wM 25 0 [.int .i64 v.p,.int .i64 v.c,.int .i64 v.h,.int .i64 v.s] aa ?_;intro bM s3 H z3;refine Hid.out ?_);have G:=G.grown H (λ k hk=>by simp at hk;omega);have D:=D.grown H (λ k hk=>by simp at hk;omega);have Q:=kD (And.intro s3 H);clear aa s3 H z3;refine kD ?_;go_wp2_with (refine wM 28 0 [.slice bG n1 bs,.slice bF n2 bm] G ?_;intro bJ s4 O z4;refine Hid.out ?_);have D:=D.grown O (λ k hk=>by simp at hk;omega);have P:=kD (And.intro s4 O);clear G s4 O z4;refine kD ?_;go_wp2_with (refine wM 30 0 [.int .i64 x,.int .i64 y] D ?_;intro aN s5 ac z5;refine Hid.out ?_);have T:=kD (ad.out.redraw HP.out.1 HP.out.2.1 HP.out.2.2 Q.out.1 Q.out.2 P.out.1 P.out.2 s5 ac);have K:=T.out.1;have al:=kD T.out.2;clear D s5 ac z5 Q P HP ad T;refine kD ?_;have W:=kD (aL.out.redraw K al.out);have ag:=kD (bb.out.trans al.out);clear K aL bb al;obtain⟨wB,aO⟩:∃ q,aN=q:=⟨_,rfl⟩;rw [aO] at W ag ⊢;clear aO;go_upto_region 21 with fail;refine region_rel [some 119,some 120,some 121,some 122,some 123,some 124,some 125,some 20] 8 (Pl [some (.slice (some ⟨bq,oq,none⟩) NP cq),some (.int .i64 (i:Int)),some (.pointer (some ⟨bq,oq+i*3,none⟩)),some (.pointer (some ⟨bq,oq+i*3+1,none⟩)),some (.agg #[.slice A5 n5 c5,.slice A6 n6 c6]),some (.agg #[.slice A3 n3 c3,.slice A4 n4 c4]),some (.bool t),some (.bool t)]) (λ L f w'=>Below wB.heap.size wB w') (by kernel_rfl) (by kernel_rfl) (by kernel_rfl) (by kernel_rfl) (by kernel_rfl) (by kernel_rfl) (by first | kernel_rfl | rfl) ?g0_2 ?gst_2 ?gfin_2
   case g0_2=>exact(Below.refl _ _).drew
   case gst_2 =>
    refine rN rfl (λ L f A g m o z U F K B=>?_) ?_
    ·have bw:=U.w 15 (.slice (some ⟨bq,oq,none⟩) NP cq);go_simp;exact pF B (bskip F 0)
    refine rN rfl (λ L f A g m o z U F K B=>?_) ?_
    ·have bv:=U.w 17 (.int .i64 (i:Int));go_simp;exact pF B (bskip F 1)
    refine rN rfl (λ L f A g m o z U F K B=>?_) ?_
    ·have bU:=U.v 0 119;have bT:=U.v 1 120;go_simp;exact pF B (bskip F 2)
    refine rN rfl (λ L f A g m o z U F K B=>?_) ?_
    ·have bS:=U.v 2 121;have j:=W.out.l.r13.below F W.out.l.r13.lt;have q4:=j.c2.1;have q5:=j.c2.2;have aB:=j.lt;have E:=V.out g (ag.out.trans (.below F));have y1:=E.1;have y2:=E.2.1;have N:=E.2.2.1;clear j E;go_simp;exact pF B (bskip F 3)
    refine rN rfl (λ L f A g m o z U F K B=>?_) ?_
    ·have bR:=U.v 3 122;have j:=W.out.l.r13.below F W.out.l.r13.lt;have q4:=j.c2.1;have q5:=j.c2.2;have aB:=j.lt;have E:=V.out g (ag.out.trans (.below F));have y1:=E.1;have y2:=E.2.1;have N:=E.2.2.1;clear j E;go_simp;exact pF B (bskip F 4)
    refine rN rfl (λ L f A g m o z U F K B=>?_) ?_
    ·have ce:=U.w 13 (.pointer (some ⟨ae,0,none⟩));have j:=W.out.l.r13.below F W.out.l.r13.lt;have q4:=j.c2.1;have q5:=j.c2.2;have aB:=j.lt;have E:=V.out g (ag.out.trans (.below F));have y1:=E.1;have y2:=E.2.1;have N:=E.2.2.1;clear j E;go_simp;exact pF B (bskip F 5)
    refine rN rfl (λ L f A g m o z U F K B=>?_) ?_
    ·have bQ:=U.v 4 123;have bP:=U.v 5 124;go_simp;refine(aD.out g (ag.out.trans (.below F)) (W.out.l.bd.below F)).mono ?_;rintro e' w6 ⟨rfl,aJ⟩;exact pF B (F.trans (aJ.mono F.size))
    refine rN rfl (λ L f A g m o z U F K B=>?_) ?_
    ·have bO:=U.v 6 125;go_simp;exact pF B (bskip F 7)
    exact RelFrom.nil (by decide)
   intro f wD hp F;simp only [Fr,Act.put,sX,Nat.reduceAdd];have a7:f 7=.bool t:=hp 7 (by decide) _ rfl;rw [a7];have bh:=kD (W.out.below F);clear F hp a7 aD V W ag;have cc:IntKind.i64.wrap ((i:Int)+1)=(i:Int)+1:=IntWalk.i64_in _ (by omega)
   cases t with
   | true =>
    have t0:=HT.out.1 rfl;clear HT;go_wp2_with fail;go_roundw
    case rel=>exact⟨i+1,_,_,_,_,by first | rfl | trivial,by first | rfl | go_num,by omega,bh⟩
    case measure=>simp [intOf] <;> omega
   | false =>
    have t0:=HT.out.2 rfl;clear HT;go_wp2_with fail;go_roundw
    case rel=>exact⟨i+1,_,_,_,_,by first | rfl | trivial,by first | rfl | go_num,by omega,bh⟩
    case measure=>simp [intOf] <;> omega
  ·obtain rfl:NP=i:=by omega
   have av:=HK.out.l.k.bel;clear HK;by_cases h1:1<NP
   ·have d1:decide ((1:Int)<(NP:Int))=true:=decide_eq_true (by omega);go_wp2_with fail;go_ret;exact⟨rfl,av⟩
   ·have d1:decide ((1:Int)<(NP:Int))=false:=decide_eq_false (by omega);obtain rfl:=aM.out.resolve_left h1;go_wp2_with fail;go_ret;exact⟨rfl,av⟩
end HlB
end Go.Proofs.YtmncnhbjifeoeaaGreat
