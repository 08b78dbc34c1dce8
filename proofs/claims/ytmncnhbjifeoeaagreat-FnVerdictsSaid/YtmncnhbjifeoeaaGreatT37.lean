/- Parts of the proof of FnVerdicts. Conditions: each theorem's own. -/
import Derived.Test.YtmncnhbjifeoeaaGreatT36
set_option linter.unusedVariables false
set_option linter.unusedSimpArgs false
set_option maxHeartbeats 8000000
set_option maxRecDepth 100000
namespace Go.Proofs.YtmncnhbjifeoeaaGreat
namespace DwE
open Go Go.ChangeShapes Go.WideShapes Go.ChangeAt Go.RowKit Base Ints Own RelG PlP Gm RegInv RegF RegG Bd1 Bd5 Draw DrawD DwP DwQ DwA DwB DwC DwD
theorem flat_set {α:Type} {en:α->List Value} {sz:Nat} (hen:∀ x,(en x).length=sz) (rest:List Value) (u:Value) (j:Nat) (hj:j<sz) (x y:α) (hy:en y=(en x).set j u):∀(xs:List α) (i:Nat),xs[i]?=some x->(xs.flatMap en++rest).set (i*sz+j) u=(xs.set i y).flatMap en++rest
 | [],i,h=>by simp at h
 | x' :: xs,0,h=>by
  simp only [List.getElem?_cons_zero,Option.some.injEq] at h;subst h;simp only [List.flatMap_cons,List.append_assoc,List.set_cons_zero,Nat.zero_mul,Nat.zero_add];rw [List.set_append_left _ _ (by rw [hen];exact hj),hy]
 | x' :: xs,i+1,h=>by
  simp only [List.getElem?_cons_succ] at h;simp only [List.flatMap_cons,List.append_assoc,List.set_cons_succ];have hs:(i+1)*sz+j=(en x').length+(i*sz+j):=by rw [hen,Nat.add_mul,Nat.one_mul];omega
  rw [hs,List.set_append_right _ _ (by omega),Nat.add_sub_cancel_left,flat_set hen rest u j hj x y hy xs i h]
theorem _root_.Go.Proofs.YtmncnhbjifeoeaaGreat.Gm.EvL.weak {w:World} {S S':Nat->Prop} {A:Option Addr} {es:List Ev} (h:EvL w S A es) (hs:∀ b,S b->S' b):EvL w S' A es:=by
 obtain⟨c,e,d⟩:=h;exact⟨c,e.weak (λ b a _=>hs b a),d.weak (λ b a _=>hs b a)⟩
def Ea (W:World) (S:Nat->Prop) (ev:Value) (es:List Ev):Prop :=
 ∃ rs:List ERow,OwnS W 0 W.heap.size 63 5 enEv ev rs∧(∀ g,ev.ownBlock=some g->S g)∧LsR RelEr W (λ b=>S b∧ev.ownBlock≠some b) rs es
section
variable {W W':World} {S S':Nat->Prop} {ev:Value} {es:List Ev}
theorem Ea.of {lo:Nat} (h:Evs W lo ev es) (hS:∀ b,lo<=b->b<W.heap.size->S b):Ea W S ev es:=by
 obtain⟨k,d,j,s⟩:=h;refine⟨k,d.less (Nat.zero_le _),λ g e=>hS g (d.block g e).1 (d.block g e).2,j.1,λ i r x m l=>?_⟩;obtain⟨a,b⟩:=j.2 i r x m l;obtain⟨q,p,o,c,-⟩:=b.sl enSt_len;exact⟨a,q,p,o,c.weak (λ b f n=>⟨hS b f.2 n,f.1⟩)⟩
theorem Ea.keep (h:Ea W S ev es) (hs:Still S W W'):Ea W' S ev es:=by
 obtain⟨c,i,a,g⟩:=h;have f:=OwnV.keep (S:=S) ⟨i,a⟩ hs;exact⟨c,f.1,a,g.keep ⟨hs.1,λ b e d=>hs.2 b e.1 d⟩⟩
theorem Ea.evl {A:Option Addr} {m c:Nat} (h:Ea W S (.slice A m c) es):EvL W S A es:=by
 obtain⟨s,p,z,o⟩:=h;obtain⟨E,D,e,f⟩:=p.form enEv_len;simp only [Value.slice.injEq] at e;obtain⟨rfl,-,-⟩:=e;refine⟨s,⟨f.1,λ l=>?_⟩,o.1,λ i r x v t=>?_⟩
 ·obtain⟨b,j,q,n,w⟩:=f.2 l;refine⟨b,j,q,?_,n,w⟩;rcases p.cases_ with ⟨d,e3⟩ | ⟨g,cap,rest,d,_⟩
  ·rw [e3] at l;simp at l
  ·have y:=z g (by rw [d];rfl);simp only [Value.slice.injEq] at d;rw [q] at d;simp only [Option.some.injEq,Addr.mk.injEq] at d;rw [d.1.1];exact y
 ·obtain⟨a,C,B,d,k⟩:=o.2 i r x v t;exact⟨a,C,B,d,k.weak (λ b n _=>n.1)⟩
theorem Ea.at_ {A:Option Addr} {m c:Nat} (h:Ea W S (.slice A m c) es) {i:Nat} (hi:i<es.length) :
  ∃ g e,A=some ⟨g,0,none⟩∧es[i]?=some e∧S g∧g<W.heap.size∧(∀ o,W.frozen? ⟨g,o,none⟩=false)∧W.cell? ⟨g,i*5+1,none⟩=some (.int .i64 e.a)∧W.cell? ⟨g,i*5+4,none⟩=some (.int .i64 e.r) ∧
   (∀ a,Ea (W.setCell ⟨g,i*5+1,none⟩ (.int .i64 a)) S (.slice A m c) (es.set i { e with a:=a }))∧(∀ r,Ea (W.setCell ⟨g,i*5+4,none⟩ (.int .i64 r)) S (.slice A m c) (es.set i { e with r:=r })):=by
 obtain⟨p,Q,P,G⟩:=h;have l:i<p.length:=by rw [G.1];exact hi
 have f:=List.getElem?_eq_getElem l;obtain⟨e,he,O⟩:=G.at_ f;obtain⟨⟨k,a,b,sv,r⟩,hq⟩:∃ q,p[i]=q:=⟨_,rfl⟩;rw [hq] at f O;obtain⟨⟨K,M,L,J⟩,t,s,E,z⟩:=O;simp only at K M L J E;subst E;rcases Q.cases_ with ⟨e0,e1⟩ | ⟨g,cap,rest,e0,hlo,hhi,hR0,hnc,hcm,hl⟩
 ·rw [e1] at l;simp at l
 simp only [Value.slice.injEq] at e0;obtain⟨rfl,rfl,rfl⟩:=e0;have I:=P g rfl;have d:∀ j u,(enEv (k,a,b,.slice t e.ss.length s,r))[j]?=some u->W.cell? ⟨g,i*5+j,none⟩=some u:=by
  obtain⟨A',c',V,x⟩:=Q.form enEv_len;simp only [Value.slice.injEq] at V;obtain⟨rfl,-,-⟩:=V;obtain⟨b',Z,T,-,hc⟩:=x.2 (by omega);simp only [Option.some.injEq,Addr.mk.injEq] at T;obtain⟨rfl,rfl,-⟩:=T;intro j u hu;have:=hc i _ f j u hu
  rwa [Nat.zero_add] at this
 have n:∀(j:Nat) (u:Value) (y:ERow) (N:Ev),j<5->enEv y=(enEv (k,a,b,.slice t e.ss.length s,r)).set j u->RelEr.R W (λ b=>S b∧(Value.slice (some ⟨g,0,none⟩) p.length c).ownBlock≠some b) y N->Ea (W.setCell ⟨g,i*5+j,none⟩ u) S (.slice (some ⟨g,0,none⟩) p.length c) (es.set i N):=by
  intro j u y N hj hy H;have w:=hR0.set (i*5+j) u;rw [flat_set enEv_len rest u j hj _ y hy p i f] at w;have v:Still (λ b=>S b∧(Value.slice (some ⟨g,0,none⟩) p.length c).ownBlock≠some b) W (W.setCell ⟨g,i*5+j,none⟩ u):=Still.grown (Base.grownBy_setCell _ _ _ _) (λ k' B hs=>by simp at B;subst B;exact hs.2 rfl);refine⟨p.set i y,?_,P,by rw [List.length_set,List.length_set];exact G.1,λ q F Y D C=>?_⟩
  ·have:=OwnS.mk_ (lo:=0) (hi:=(W.setCell ⟨g,i*5+j,none⟩ u).heap.size) (cap:=c) enEv_len w hlo (by rw [World.size_setCell];exact hhi) (by rw [List.length_set];exact hnc) hcm (by rw [List.length_set];exact hl);rw [List.length_set] at this;exact this
  ·rw [List.getElem?_set] at D C;by_cases hqi:i=q
   ·subst hqi;rw [if_pos rfl,if_pos l] at D;rw [if_pos rfl,if_pos hi] at C;obtain rfl:=Option.some.inj D;obtain rfl:=Option.some.inj C;exact RelEr.keep H v
   ·rw [if_neg hqi] at D C;exact RelEr.keep (G.2 q F Y D C) v
 refine⟨g,e,rfl,he,I,hhi,hR0.frozen,by have:=d 1 _ rfl;rw [M] at this;exact this,by have:=d 4 _ rfl;rw [J] at this;exact this,λ X=>?_,λ F=>?_⟩
 ·exact n 1 _ (k,X,b,.slice t e.ss.length s,r) { e with a:=X } (by decide) rfl ⟨⟨K,rfl,L,J⟩,t,s,rfl,z⟩
 ·exact n 4 _ (k,a,b,.slice t e.ss.length s,F) { e with r:=F } (by decide) rfl ⟨⟨K,M,L,rfl⟩,t,s,rfl,z⟩
end
theorem own_cap {α:Type} {w:World} {lo hi sz m c:Nat} {e:TypeId} {en:α->List Value} {A:Option Addr} {xs:List α} (h:OwnS w lo hi e sz en (.slice A m c) xs):m<=c:=by
 rcases h.cases_ with ⟨e0,_⟩ | ⟨g,cap,rest,e0,_,_,_,hnc,_,_⟩
 ·simp only [Value.slice.injEq] at e0;omega
 ·simp only [Value.slice.injEq] at e0;omega
theorem Ea.cap {W:World} {S:Nat->Prop} {es:List Ev} {A:Option Addr} {m c:Nat} (h:Ea W S (.slice A m c) es):m<=c:=by
 obtain⟨b,a,-⟩:=h;exact own_cap a
theorem _root_.Go.Proofs.YtmncnhbjifeoeaaGreat.Gm.Evs.cap {W:World} {lo:Nat} {es:List Ev} {A:Option Addr} {m c:Nat} (h:Evs W lo (.slice A m c) es):m<=c:=by
 obtain⟨b,a,-⟩:=h;exact own_cap a
theorem setA_at {es:List Ev} {i:Nat} {e:Ev} (h:es[i]?=some e) (a:Int):setA es i a=es.set i { e with a:=a }:=by unfold setA;rw [h]
theorem setR_at {es:List Ev} {i:Nat} {e:Ev} (h:es[i]?=some e) (r:Int):setR es i r=es.set i { e with r:=r }:=by unfold setR;rw [h]
theorem Sh.set {es:List Ev} {i:Nat} {e:Ev} (h:Sh es) (he:e.ss.length<=4):Sh (es.set i e):=λ x hx=>by
 rcases List.mem_or_eq_of_mem_set hx with hx | rfl
 ·exact h x hx
 ·exact he
structure Ka (w0 w:World) (B g:Nat) (A:Option Addr) (cp:Nat) (xs:List Int) (st:Nat × Int) (g3:Nat) (v:Vr) (n:Int) (ev:Value) (es:List Ev) (W:World):Prop where
 D:Dx w0 B g A cp xs st W
 gr:w.grownBy W (some g)
 rr:RowB W w.heap.size 48 [.int .i64 0,.int .i64 0,.int .i64 0,.int .i64 0,.int .i64 0,.slice none 0 0]
 r3:RowB W g3 48 [.int .i64 v.p,.int .i64 v.c,.int .i64 v.h,.int .i64 v.s,.int .i64 n,ev]
 es:Ea W (λ b=>w.heap.size<b∧b≠g3) ev es
 lo:g<w.heap.size∧w.heap.size<g3
section
variable {w0 w W W':World} {B g cp:Nat} {A:Option Addr} {xs:List Int} {st st':Nat × Int} {g3:Nat} {v:Vr} {n:Int} {ev:Value} {es:List Ev}
theorem Ka.next (K:Ka w0 w B g A cp xs st g3 v n ev es W) (hD:Dx w0 B g A cp xs st' W') (hg:W.grownBy W' (some g)):Ka w0 w B g A cp xs st' g3 v n ev es W':=by
 have l:=K.lo;exact⟨hD,grownBy_trans K.gr hg,K.rr.grown hg (λ k a=>by simp at a;omega),K.r3.grown hg (λ k a=>by simp at a;omega),K.es.keep (Still.grown hg (λ k a b=>by simp at a;have:=b.1;omega)),l⟩
theorem Ka.put3 {v':Vr} {n':Int} {ev':Value} {es':List Ev} (K:Ka w0 w B g A cp xs st g3 v n ev es W) (h:RowB W' g3 48 [.int .i64 v'.p,.int .i64 v'.c,.int .i64 v'.h,.int .i64 v'.s,.int .i64 n',ev']) (hg:W.grownBy W' (some g3)) (he:Ea W (λ b=>w.heap.size<b∧b≠g3) ev' es'):Ka w0 w B g A cp xs st g3 v' n' ev' es' W':=by
 have l:=K.lo;have e:=K.D.base;exact⟨K.D.grown hg (λ k a=>by simp at a;omega) (λ k a=>by simp at a;omega),grown_own K.gr hg (λ k a=>by simp at a;omega),K.rr.grown hg (λ k a=>by simp at a;omega),h,he.keep (Still.grown hg (λ k a d=>by simp at a;exact d.2 a.symm)),l⟩
theorem Ka.putE {q:Nat} {es':List Ev} (K:Ka w0 w B g A cp xs st g3 v n ev es W) (hg:W.grownBy W' (some q)) (hq:w.heap.size<q∧q≠g3) (he:Ea W' (λ b=>w.heap.size<b∧b≠g3) ev es'):Ka w0 w B g A cp xs st g3 v n ev es' W':=by
 have l:=K.lo;have c:=K.D.base;exact⟨K.D.grown hg (λ k a=>by simp at a;omega) (λ k a=>by simp at a;omega),grown_own K.gr hg (λ k a=>by simp at a;omega),K.rr.grown hg (λ k a=>by simp at a;omega),K.r3.grown hg (λ k a=>by simp at a;omega),he,l⟩
end
def MRet (f:Mch->St->Prop) (w0 w:World) (B g:Nat) (A:Option Addr) (cp:Nat) (xs:List Int) (e0:Ending) (w':World):Prop :=
 ∃(v:Vr) (n:Int) (es:List Ev) (st':St) (Ae:Option Addr) (ce:Nat),e0=.returned (.agg #[.int .i64 v.p,.int .i64 v.c,.int .i64 v.h,.int .i64 v.s,.int .i64 n,.slice Ae es.length ce])∧f (v,n,es) st'∧(EvL w' (λ b=>w.heap.size<b) Ae es∧Sh es∧es.length<=291∧es.length<=ce)∧Dx w0 B g A cp xs st' w'∧w.grownBy w' (some g)
structure AyF (w0 we:World) (B g:Nat) (A:Option Addr) (cp:Nat) (xs:List Int) (sts:List (Nat × Int)) (L:Nat->Prop) (ops:List Nat) (v:Vr) (n:Int) (N:Nat) (X:List Ev) (P:World->Prop) (p6 p7:Prop) (v6:Value) (w':World):Prop where
 sq:¬ p7->SqD w0 we B g A cp xs sts L ops w'
 f6:p6->¬ p7->∃ A' c',v6=.agg #[.int .i64 v.p,.int .i64 v.c,.int .i64 v.h,.int .i64 v.s,.int .i64 n,.slice A' N c']∧Evs w' we.heap.size (.slice A' N c') X
 fin:p7->P w'
section
variable {w0 we w' w'':World} {B g cp:Nat} {A:Option Addr} {xs:List Int} {sts:List (Nat × Int)} {L:Nat->Prop} {ops:List Nat} {v:Vr} {n:Int} {N:Nat} {X:List Ev} {P:World->Prop} {vals:Nat->Value}
theorem AyF.skip (F:AyF w0 we B g A cp xs sts L ops v n N X P (L 6) (L 7) (vals 6) w') (k:Nat) (u:Value) (h:(ops.all (λ o=>o != k) && (6 != k) && (7 != k))=true:=by decide):AyF w0 we B g A cp xs sts (λ j=>j=k∨L j) ops v n N X P (6=k∨L 6) (7=k∨L 7) (upd vals k u 6) w':=by
 simp only [Bool.and_eq_true,bne_iff_ne,ne_eq,List.all_eq_true] at h;rw [or_ne h.1.2,or_ne h.2,upd_ne h.1.2];exact⟨λ a=>(F.sq a).skip k h.1.1,F.f6,F.fin⟩
theorem AyF.call {i k:Nat} {st:Nat × Int} {u:Value} (F:AyF w0 we B g A cp xs sts L ops v n N X P (L 6) (L 7) (vals 6) w') (h6:¬ L 6) (h7:¬ L 7) (hs:sts[i+1]?=some st) (hk:ops[i]?=some k) (hno:¬ L k) (hp:∀ i' o,i'<i->ops[i']?=some o->L o) (hd:(decide ops.Nodup && (6 != k) && (7 != k))=true) (hD:Dx w0 B g A cp xs st w'') (hg:w'.grownBy w'' (some g)):AyF w0 we B g A cp xs sts (λ j=>j=k∨L j) ops v n N X P (6=k∨L 6) (7=k∨L 7) (upd vals k u 6) w'':=by
 simp only [Bool.and_eq_true,decide_eq_true_eq,bne_iff_ne,ne_eq] at hd;rw [or_ne hd.1.2,or_ne hd.2];exact⟨λ a=>(F.sq a).call hs hk hno hp hd.1.1 hD hg,λ h=>absurd h h6,λ h=>absurd h h7⟩
end
section
variable {w0 w:World} {B g cp:Nat} {A:Option Addr} {xs:List Int} {st:Nat × Int}
theorem an28_x (h:Dx w0 B g A cp xs st w) :
  Calls Tryz.prog 54 #[.pointer (some ⟨g,0,none⟩)] w λ e w'=>MRet (λ M st'=>an28 xs st=(M,st')) w0 w B g A cp xs e w':=by
 go_enter Tryz.func54,Tryz.ntmps54;go_wp2_with fail;have K:Ru w0 w B g A cp xs st 48 [.int .i64 0,.int .i64 0,.int .i64 0,.int .i64 0,.int .i64 0,.slice none 0 0] _:=Ru.start h;refine(dr28_x 14 (by decide) K.D).mono ?_;rintro e w1 ⟨v,n,es,s1,Ae,ce,rfl,aT,⟨hE,aU,aR⟩,Y,hg⟩;have ar:=kD (λ(q:Int) (s2:St) (R:Mch × St) (n1:Nx xs s1 24 q s2) (hR:ay28 xs (v,n,es) (q,s2)=R)=>an28_of aT n1 hR);have K:=K.next Y hg;obtain⟨N,hL⟩:∃ N,es.length=N:=⟨_,rfl⟩;have HL:=kD hL;rw [hL] at hE aR ⊢;have aG:=K.rr.lt;have al:=kD aU;have aZ:=kD (Ea.of (S:=λ b=>w.heap.size<b∧b≠w1.heap.size) hE (λ b h1 h2=>⟨by simp at h1;omega,by omega⟩));clear Y hg h aT aU hE hL;go_upto_region 2 with fail;refine wp_gen (λ W'=>Ka w0 w B g A cp xs s1 w1.heap.size v n (.slice Ae N ce) es W') ⟨K.D.alloc _,(K.alloc _).gr,K.rr.alloc _,RowB.new _ _ _,aZ.out.keep (.below ((Below.refl _ _).alloc (Nat.le_refl _) _)),K.lt,aG⟩ ?_;obtain⟨g3,aS⟩:∃ q,w1.heap.size=q:=⟨_,rfl⟩;rw [aS] at aG ⊢;clear K aZ aS;intro w2 K;obtain⟨X,V,T,Q,P,O⟩:=K.r3.c6;have J:=K.r3.lt;have bb:=K.lo;go_wp2_with fail;refine(nextX K.D (24) (by decide)).mono ?_;rintro e aH ⟨q,az,⟨rfl,a9,aP,-,aq⟩,Y,hg,-⟩;have aP:=aP (by decide);have K:=K.next Y hg;clear Y hg;clear X V T Q P O J;obtain⟨X,V,T,Q,P,O⟩:=K.r3.c6;have J:=K.r3.lt;by_cases e0:q=0
 ·subst e0;go_wp2_with fail;refine(nextX K.D (2) (by decide)).mono ?_;rintro e a8 ⟨k,aN,⟨rfl,ba,aQ,-,a0⟩,Y,hg,-⟩;have aQ:=aQ (by decide);have K:=K.next Y hg;clear Y hg;have hw:IntKind.i64.wrap (26*k)=26*k:=IntWalk.i64_in _ (by omega);clear X V T Q P O J;obtain⟨X,V,T,Q,P,O⟩:=K.r3.c6;have J:=K.r3.lt;have a3:=K.r3.frozen;go_upto_region 16 with fail;refine wp_gen (λ W'=>Ka w0 w B g A cp xs aN g3 v (26*k) (.slice Ae N ce) es W') (K.put3 (K.r3.set 4 _) (Base.grownBy_setCell _ _ _ _) K.es) ?_;clear K X V T Q P O J a3 hw;intro w5 K;have rr:=K.rr;have ah:=K.r3.c6;have H:=K.r3.lt;obtain⟨X,V,T,Q,P,O⟩:=ah;have I:=kD K;clear K;go_wp2_with (refine wM 48 0 [.int .i64 v.p,.int .i64 v.c,.int .i64 v.h,.int .i64 v.s,.int .i64 (26*k),.slice Ae N ce] rr ?_;intro av E j ae;refine Hid.out ?_);obtain⟨ag,af,ad,ac,ab,aa⟩:=E.c6;have ak:=E.lt;have K:=I.out;have aj:=K.lo;have bB:=K.D.base;have hE:=kD ((K.es.keep (Still.grown j (λ k o hs=>by simp at o;have:=hs.1;omega))).evl.weak (S':=λ b=>w.heap.size<b) (λ b hb=>hb.1));have Y:=kD (K.D.grown j (λ k o=>by simp at o;omega) (λ k o=>by simp at o;omega));have ai:=kD K.es.cap;have hg:=kD (grown_own K.gr j (λ k o=>by simp at o;omega));clear K I rr j ae X V T Q P O H;refine kD ?_
  repeat (first | go_values | go_skip | go_step | go_upon)
  refine bodyPost_ret (v:=.agg #[.int .i64 v.p,.int .i64 v.c,.int .i64 v.h,.int .i64 v.s,.int .i64 (26*k),.slice Ae N ce]) (by simp [results,Tryz.results54,go_sem,ag,af,ad,ac,ab,aa]) rfl ?_;exact⟨v,26*k,es,aN,_,ce,by rw [HL.out],ar.out _ _ _ aq (ay_0 a0),⟨hE.out,al.out,by rw [HL.out];omega,by rw [HL.out];exact ai.out⟩,Y.out,hg.out⟩
 have z0:(q == 0)=false:=by simp [e0]
 by_cases e1:q=1
 ·subst e1;by_cases hL0:0<N
  ·have a6:decide ((0:Int)<(N:Int))=true:=decide_eq_true (by omega);obtain⟨z,s5,NI⟩:=K.D.gd.nb (N:Int);have i0:=NI.ge;have i1:=NI.lt (by omega);obtain⟨i,rfl⟩:∃ i:Nat,z=i:=⟨z.toNat,by omega⟩;obtain⟨a,s6,NA⟩:=NI.gd.nb 5;have aE:=kD NI;have aY:=kD NA;have ax:i<es.length:=by rw [HL.out];omega
   obtain⟨gb,e,eA,ay,hS,aI,aK,ca,cr,-,-⟩:=K.es.at_ ax;subst eA;have aM:=kD ax;have aF:=kD ay;have aD:=kD (Sh.set (i:=i) al.out (e:={ e with a:=a }) (by have:=al.out _ (List.mem_of_getElem? ay);exact this));have an:=kD (ar.out _ _ _ aq (ay_1 (by rw [HL.out];exact hL0) (by rw [HL.out];exact aE.out.nx) aY.out.nx));have am:=kD (show (es.set i { e with a:=a }).length=N by rw [List.length_set];exact HL.out);have a2:i<N:=by omega
   clear NI NA ax ay ca cr aK aI hL0;go_upto_region 8 with fail;have HK:=kD K;clear K X V T Q P O J;refine region_rel [some 22,some 23,some 24,some 25,some 26,some 27,some 28,some 29,some 30,none] 10 (Pl [some (.pointer (some ⟨g3,5,none⟩)),some (.slice (some ⟨gb,0,none⟩) N ce),some (.pointer (some ⟨g,0,none⟩)),some (.int .i64 (N:Int)),some (.int .i64 (i:Int)),some (.pointer (some ⟨g,0,none⟩)),some (.int .i64 a),some (.pointer (some ⟨gb,i*5,none⟩)),some (.pointer (some ⟨gb,i*5+1,none⟩)),none]) (λ L m w'=>SqA w0 aH B g A cp xs [az,s5,s6] L [4,6] (L 9) (λ W=>Ka w0 w B g A cp xs s6 g3 v n (.slice (some ⟨gb,0,none⟩) N ce) (es.set i { e with a:=a }) W) w') (by kernel_rfl) (by kernel_rfl) (by kernel_rfl) (by kernel_rfl) (by kernel_rfl) (by kernel_rfl) (by first | kernel_rfl | rfl) ?g0_1 ?gst_1 ?gfin_1
   case g0_1=>exact SqA.start HK.out.D rfl (by decide) (by decide)
   case gst_1 =>
    refine rN rfl (λ L m A Z d t l U F K y=>?_) ?_
    ·have e3:=U.w 3 (.pointer (some ⟨g3,0,none⟩));have C:=F.sq (λ h=>d (l 9 0 (by kernel_rfl) h));have G:=HK.out.r3.grown C.gr (λ k o=>by simp at o;omega);obtain⟨X,V,T,Q,P,O⟩:=G.c6;have J:=G.lt;clear G C;go_simp;exact pF y (F.skip 0 (by decide))
    refine rN rfl (λ L m A Z d t l U F K y=>?_) ?_
    ·have bz:=U.v 0 22;have C:=F.sq (λ h=>d (l 9 1 (by kernel_rfl) h));have G:=HK.out.r3.grown C.gr (λ k o=>by simp at o;omega);obtain⟨X,V,T,Q,P,O⟩:=G.c6;have J:=G.lt;clear G C;go_simp;exact pF y (F.skip 1 (by decide))
    refine rN rfl (λ L m A Z d t l U F K y=>?_) ?_
    ·have e0:=U.w 0 (.pointer (some ⟨g,0,none⟩));have C:=F.sq (λ h=>d (l 9 2 (by kernel_rfl) h));have G:=HK.out.r3.grown C.gr (λ k o=>by simp at o;omega);obtain⟨X,V,T,Q,P,O⟩:=G.c6;have J:=G.lt;clear G C;go_simp;exact pF y (F.skip 2 (by decide))
    refine rN rfl (λ L m A Z d t l U F K y=>?_) ?_
    ·have e4:=U.w 4 (.int .i64 (N:Int));have C:=F.sq (λ h=>d (l 9 3 (by kernel_rfl) h));clear C;go_simp;exact pF y (F.skip 3 (by decide))
    refine rN rfl (λ L m A Z d t l U F K y=>?_) ?_
    ·have bw:=U.v 2 24;have bv:=U.v 3 25;have Y:=(F.sq (λ h=>d (l 9 4 (by kernel_rfl) h))).at_ 0 rfl rfl d pv0;go_simp;refine(nextK Y aE.out.nx (by omega)).mono ?_;rintro e w6 ⟨rfl,ap,ao,-⟩;exact pF y (F.call (λ h=>d (l 9 4 (by kernel_rfl) h)) rfl (i:=0) rfl d pv0 (by decide) ap ao)
    refine rN rfl (λ L m A Z d t l U F K y=>?_) ?_
    ·have e0:=U.w 0 (.pointer (some ⟨g,0,none⟩));have C:=F.sq (λ h=>d (l 9 5 (by kernel_rfl) h));have G:=HK.out.r3.grown C.gr (λ k o=>by simp at o;omega);obtain⟨X,V,T,Q,P,O⟩:=G.c6;have J:=G.lt;clear G C;go_simp;exact pF y (F.skip 5 (by decide))
    refine rN rfl (λ L m A Z d t l U F K y=>?_) ?_
    ·have bs:=U.v 5 27;have Y:=(F.sq (λ h=>d (l 9 6 (by kernel_rfl) h))).at_ 1 rfl rfl d (pv1 rfl (bK t 4));go_simp;refine(nextK Y aY.out.nx (by omega)).mono ?_;rintro e w6 ⟨rfl,ap,ao,-⟩;exact pF y (F.call (λ h=>d (l 9 6 (by kernel_rfl) h)) rfl (i:=1) rfl d (pv1 rfl (bK t 4)) (by decide) ap ao)
    refine rN rfl (λ L m A Z d t l U F K y=>?_) ?_
    ·have bx:=U.v 1 23;have bt:=U.v 4 26;have C:=F.sq (λ h=>d (l 9 7 (by kernel_rfl) h));clear C;go_simp;exact pF y (F.skip 7 (by decide))
    refine rN rfl (λ L m A Z d t l U F K y=>?_) ?_
    ·have bq:=U.v 7 29;have C:=F.sq (λ h=>d (l 9 8 (by kernel_rfl) h));have G:=HK.out.r3.grown C.gr (λ k o=>by simp at o;omega);obtain⟨X,V,T,Q,P,O⟩:=G.c6;have J:=G.lt;clear G C;go_simp;exact pF y (F.skip 8 (by decide))
    refine rN rfl (λ L m A Z d t l U F K y=>?_) ?_
    ·have bp:=U.v 8 30;have br:=U.v 6 28;have hE:=(F.sq d).end_ 2 rfl rfl rfl (al2 (bK t 4) (bK t 6));have K9:=HK.out.next hE.1 hE.2;have aC:=K9.es.at_ aM.out;refine aC.elim λ g9 q=>?_
     refine q.elim λ e9 q=>?_
     have eA:=q.1;simp only [Option.some.injEq,Addr.mk.injEq,and_true] at eA;have eE:=Option.some.inj (aF.out.symm.trans q.2.1);have aB:=q.2.2.1;have aJ:=q.2.2.2.1;have aL:=q.2.2.2.2.1;have aA:=q.2.2.2.2.2.1;have aw:=q.2.2.2.2.2.2.2.1 a;rw [<-eA] at aJ aL aA aw aB;rw [<-eE] at aw aA;clear q aC eA eE;go_simp;exact y.out undef _ (Pl.any rfl) (SqA.last (K9.putE (Base.grownBy_setCell _ _ _ _) aB aw))
    exact RelFrom.nil (by decide)
   intro m Z hp F;simp only [Fr,Act.put,sX,Nat.reduceAdd];have K:=F.fin trivial;clear F hp HK;rw [setA_at aF.out] at an;have rr:=K.rr;have ah:=K.r3.c6;have H:=K.r3.lt;obtain⟨X,V,T,Q,P,O⟩:=ah;have I:=kD K;clear K;go_wp2_with (refine wM 48 0 [.int .i64 v.p,.int .i64 v.c,.int .i64 v.h,.int .i64 v.s,.int .i64 n,.slice (some ⟨gb,0,none⟩) N ce] rr ?_;intro av E j ae;refine Hid.out ?_);obtain⟨ag,af,ad,ac,ab,aa⟩:=E.c6;have ak:=E.lt;have K:=I.out;have aj:=K.lo;have bB:=K.D.base;have hE:=kD ((K.es.keep (Still.grown j (λ k o hs=>by simp at o;have:=hs.1;omega))).evl.weak (S':=λ b=>w.heap.size<b) (λ b hb=>hb.1));have Y:=kD (K.D.grown j (λ k o=>by simp at o;omega) (λ k o=>by simp at o;omega));have ai:=kD K.es.cap;have hg:=kD (grown_own K.gr j (λ k o=>by simp at o;omega));clear K I rr j ae X V T Q P O H;refine kD ?_
   repeat (first | go_values | go_skip | go_step | go_upon)
   refine bodyPost_ret (v:=.agg #[.int .i64 v.p,.int .i64 v.c,.int .i64 v.h,.int .i64 v.s,.int .i64 n,.slice (some ⟨gb,0,none⟩) N ce]) (by simp [results,Tryz.results54,go_sem,ag,af,ad,ac,ab,aa]) rfl ?_;exact⟨v,n,es.set i { e with a:=a },s6,_,ce,by rw [am.out],an.out,⟨hE.out,aD.out,by rw [am.out];omega,by rw [am.out];exact ai.out⟩,Y.out,hg.out⟩
  ·have an:=kD (ar.out _ _ _ aq (ay_1n (M:=(v,n,es)) (by rw [HL.out];exact hL0)));obtain rfl:N=0:=by omega
   clear hL0;have rr:=K.rr;have ah:=K.r3.c6;have H:=K.r3.lt;obtain⟨X,V,T,Q,P,O⟩:=ah;have I:=kD K;clear K;go_wp2_with (refine wM 48 0 [.int .i64 v.p,.int .i64 v.c,.int .i64 v.h,.int .i64 v.s,.int .i64 n,.slice Ae 0 ce] rr ?_;intro av E j ae;refine Hid.out ?_);obtain⟨ag,af,ad,ac,ab,aa⟩:=E.c6;have ak:=E.lt;have K:=I.out;have aj:=K.lo;have bB:=K.D.base;have hE:=kD ((K.es.keep (Still.grown j (λ k o hs=>by simp at o;have:=hs.1;omega))).evl.weak (S':=λ b=>w.heap.size<b) (λ b hb=>hb.1));have Y:=kD (K.D.grown j (λ k o=>by simp at o;omega) (λ k o=>by simp at o;omega));have ai:=kD K.es.cap;have hg:=kD (grown_own K.gr j (λ k o=>by simp at o;omega));clear K I rr j ae X V T Q P O H;refine kD ?_
   repeat (first | go_values | go_skip | go_step | go_upon)
   refine bodyPost_ret (v:=.agg #[.int .i64 v.p,.int .i64 v.c,.int .i64 v.h,.int .i64 v.s,.int .i64 n,.slice Ae 0 ce]) (by simp [results,Tryz.results54,go_sem,ag,af,ad,ac,ab,aa]) rfl ?_;exact⟨v,n,es,az,_,ce,by rw [HL.out],an.out,⟨hE.out,al.out,by rw [HL.out];omega,by rw [HL.out];exact ai.out⟩,Y.out,hg.out⟩
 have z1:(q == 1)=false:=by simp [e1]
 by_cases e2:q=2
 ·subst e2;obtain⟨k,s5,NK⟩:=K.D.gd.nb 5;obtain⟨z,s6,NZ⟩:=NK.gd.nb 4;have aX:=kD NK;have aW:=kD NZ;have an:=kD (ar.out _ _ _ aq (ay_2 aX.out.nx aW.out.nx));have aD:=kD (Sh.app (e:=⟨k,2,1,[],z⟩) al.out (Nat.zero_le 4));have am:=kD (show (es++[(⟨k,2,1,[],z⟩:Ev)]).length=N+1 by rw [List.length_append,HL.out];rfl);have CA:=kD (λ(Z:World) (h9:EvL Z All Ae es)=>add_s v n es Ae ce ⟨k,2,1,[],z⟩ none 0 Z h9 (RdF.nil _ _ _ _ _) (Nat.zero_le _) (λ q hq=>by have:=al.out q hq;omega) (by rw [HL.out];omega));rw [HL.out] at CA;clear NK NZ;go_upto_region 10 with fail;have HK:=kD K;clear K X V T Q P O J;refine region_rel [some 33,some 34,some 35,some 36,some 37,some 38,some 39,none] 8 (Pl [some (.agg #[.int .i64 v.p,.int .i64 v.c,.int .i64 v.h,.int .i64 v.s,.int .i64 n,.slice Ae N ce]),some (.pointer (some ⟨g,0,none⟩)),some (.int .i64 k),some (.pointer (some ⟨g,0,none⟩)),some (.int .i64 z),some (.agg #[.int .i64 k,.int .i64 2,.int .i64 1,.slice none 0 0,.int .i64 z]),none,none]) (λ L m w'=>AyF w0 aH B g A cp xs [az,s5,s6] L [2,4] v n (N+1) (es++[⟨k,2,1,[],z⟩]) (λ W=>∃ A7 c7,Ka w0 w B g A cp xs s6 g3 v n (.slice A7 (N+1) c7) (es++[⟨k,2,1,[],z⟩]) W) (L 6) (L 7) (m 6) w') (by kernel_rfl) (by kernel_rfl) (by kernel_rfl) (by kernel_rfl) (by kernel_rfl) (by kernel_rfl) (by first | kernel_rfl | rfl) ?g0_3 ?gst_3 ?gfin_3
  case g0_3=>exact⟨λ _=>SqD.start HK.out.D rfl (by decide),λ h=>absurd h (by decide),λ h=>absurd h (by decide)⟩
  case gst_3 =>
   refine rN rfl (λ L m A Z d t l U F K y=>?_) ?_
   ·have e3:=U.w 3 (.pointer (some ⟨g3,0,none⟩));have C:=F.sq (λ h=>d (l 7 0 (by kernel_rfl) h));have G:=HK.out.r3.grown C.gr (λ k o=>by simp at o;omega);obtain⟨X,V,T,Q,P,O⟩:=G.c6;have J:=G.lt;clear G C;go_simp;exact pF y (F.skip 0 _)
   refine rN rfl (λ L m A Z d t l U F K y=>?_) ?_
   ·have e0:=U.w 0 (.pointer (some ⟨g,0,none⟩));have C:=F.sq (λ h=>d (l 7 1 (by kernel_rfl) h));have G:=HK.out.r3.grown C.gr (λ k o=>by simp at o;omega);obtain⟨X,V,T,Q,P,O⟩:=G.c6;have J:=G.lt;clear G C;go_simp;exact pF y (F.skip 1 _)
   refine rN rfl (λ L m A Z d t l U F K y=>?_) ?_
   ·have bn:=U.v 1 34;have Y:=(F.sq (λ h=>d (l 7 2 (by kernel_rfl) h))).at_ 0 rfl rfl d pv0;go_simp;refine(nextK Y aX.out.nx (by omega)).mono ?_;rintro e w6 ⟨rfl,ap,ao,-⟩;exact pF y (F.call (λ h=>d (l 6 2 (by kernel_rfl) h)) (λ h=>d (l 7 2 (by kernel_rfl) h)) rfl (i:=0) rfl d pv0 (by decide) ap ao)
   refine rN rfl (λ L m A Z d t l U F K y=>?_) ?_
   ·have e0:=U.w 0 (.pointer (some ⟨g,0,none⟩));have C:=F.sq (λ h=>d (l 7 3 (by kernel_rfl) h));have G:=HK.out.r3.grown C.gr (λ k o=>by simp at o;omega);obtain⟨X,V,T,Q,P,O⟩:=G.c6;have J:=G.lt;clear G C;go_simp;exact pF y (F.skip 3 _)
   refine rN rfl (λ L m A Z d t l U F K y=>?_) ?_
   ·have bl:=U.v 3 36;have Y:=(F.sq (λ h=>d (l 7 4 (by kernel_rfl) h))).at_ 1 rfl rfl d (pv1 rfl (bK t 2));go_simp;refine(nextK Y aW.out.nx (by omega)).mono ?_;rintro e w6 ⟨rfl,ap,ao,-⟩;exact pF y (F.call (λ h=>d (l 6 4 (by kernel_rfl) h)) (λ h=>d (l 7 4 (by kernel_rfl) h)) rfl (i:=1) rfl d (pv1 rfl (bK t 2)) (by decide) ap ao)
   refine rN rfl (λ L m A Z d t l U F K y=>?_) ?_
   ·have bm:=U.v 2 35;have bk:=U.v 4 37;have C:=F.sq (λ h=>d (l 7 5 (by kernel_rfl) h));clear C;go_simp;exact pF y (F.skip 5 _)
   refine rN rfl (λ L m A Z d t l U F K y=>?_) ?_
   ·have bo:=U.v 0 33;have bj:=U.v 5 38;have C:=F.sq (λ h=>d (l 7 6 (by kernel_rfl) h));have hE:=C.end_ 2 rfl rfl rfl (al2 (bK t 2) (bK t 4));have K9:=HK.out.next hE.1 hE.2;go_simp;refine(CA.out Z (K9.es.evl.weak (λ _ _=>trivial))).mono ?_;rintro f w6 ⟨A7,c7,rfl,a4,a5⟩;exact y.out _ w6 (Pl.any rfl) ⟨λ h=>(C.below a5).skip 6 (by decide),λ _ _=>⟨A7,c7,upd_same _ _ _,a4.less C.gr.size⟩,λ h=>absurd (l 7 6 (by kernel_rfl) (rL h)) d⟩
   refine rN rfl (λ L m A Z d t l U F K y=>?_) ?_
   ·have e3:=U.w 3 (.pointer (some ⟨g3,0,none⟩));have a7:=U.x 6 39;have C:=F.sq d;have hE:=C.end_ 2 rfl rfl rfl (al2 (bK t 2) (bK t 4));have K9:=HK.out.next hE.1 hE.2;refine(F.f6 (bK t 6) d).elim λ A7 q=>?_
    refine q.elim λ c7 q=>?_
    have rr:=K9.r3;refine wp_sm 48 _ _ rfl g3 0 [.int .i64 v.p,.int .i64 v.c,.int .i64 v.h,.int .i64 v.s,.int .i64 n,.slice A7 (N+1) c7] _ (ev e3) (ev (a7.trans q.1)) 48 rr (by kernel_rfl) (Nat.le_refl _) rfl ?_;exact y.out undef _ (Pl.any rfl) ⟨λ h=>absurd (.inl rfl) h,λ _ h=>absurd (.inl rfl) h,λ _=>⟨A7,c7,K9.put3 (row_cells _ _ _ _ rr) (grown_cells _ _ _ _) (Ea.of q.2 (λ b h1 h2=>⟨by have:=HK.out.r3.lt;omega,by have:=HK.out.r3.lt;omega⟩))⟩⟩
   exact RelFrom.nil (by decide)
  intro m Z hp F;simp only [Fr,Act.put,sX,Nat.reduceAdd];obtain⟨A7,c7,K⟩:=F.fin trivial;clear F hp HK CA;have rr:=K.rr;have ah:=K.r3.c6;have H:=K.r3.lt;obtain⟨X,V,T,Q,P,O⟩:=ah;have I:=kD K;clear K;go_wp2_with (refine wM 48 0 [.int .i64 v.p,.int .i64 v.c,.int .i64 v.h,.int .i64 v.s,.int .i64 n,.slice A7 (N+1) c7] rr ?_;intro av E j ae;refine Hid.out ?_);obtain⟨ag,af,ad,ac,ab,aa⟩:=E.c6;have ak:=E.lt;have K:=I.out;have aj:=K.lo;have bB:=K.D.base;have hE:=kD ((K.es.keep (Still.grown j (λ k o hs=>by simp at o;have:=hs.1;omega))).evl.weak (S':=λ b=>w.heap.size<b) (λ b hb=>hb.1));have Y:=kD (K.D.grown j (λ k o=>by simp at o;omega) (λ k o=>by simp at o;omega));have ai:=kD K.es.cap;have hg:=kD (grown_own K.gr j (λ k o=>by simp at o;omega));clear K I rr j ae X V T Q P O H;refine kD ?_
  repeat (first | go_values | go_skip | go_step | go_upon)
  refine bodyPost_ret (v:=.agg #[.int .i64 v.p,.int .i64 v.c,.int .i64 v.h,.int .i64 v.s,.int .i64 n,.slice A7 (N+1) c7]) (by simp [results,Tryz.results54,go_sem,ag,af,ad,ac,ab,aa]) rfl ?_;exact⟨v,n,es++[⟨k,2,1,[],z⟩],s6,_,c7,by rw [am.out],an.out,⟨hE.out,aD.out,by rw [am.out];omega,by rw [am.out];exact ai.out⟩,Y.out,hg.out⟩
 have z2:(q == 2)=false:=by simp [e2]
 by_cases e3:q=3
 ·subst e3;go_wp2_with fail;refine(v01a_x K.D).mono ?_;rintro e w5 ⟨v2,s5,rfl,a1,Y,hg⟩;have K:=K.next Y hg;have R3:=K.r3;clear Y hg X V T Q P O J;go_upto_region 16 with (first | (refine wpL_sm 25 _ _ rfl g3 0 [.int .i64 v2.p,.int .i64 v2.c,.int .i64 v2.h,.int .i64 v2.s] _ [.int .i64 v2.p,.int .i64 v2.c,.int .i64 v2.h,.int .i64 v2.s,.int .i64 n,.slice Ae N ce] rfl rfl 48 R3 (by kernel_rfl) (show 4<=6 by decide) rfl rfl ?_;intro w6 aO aV z6));have K2:=K.put3 aO aV K.es;clear K R3 aO aV z6;have K:=K2;clear K2;have rr:=K.rr;have ah:=K.r3.c6;have H:=K.r3.lt;obtain⟨X,V,T,Q,P,O⟩:=ah;have I:=kD K;clear K;go_wp2_with (refine wM 48 0 [.int .i64 v2.p,.int .i64 v2.c,.int .i64 v2.h,.int .i64 v2.s,.int .i64 n,.slice Ae N ce] rr ?_;intro av E j ae;refine Hid.out ?_);obtain⟨ag,af,ad,ac,ab,aa⟩:=E.c6;have ak:=E.lt;have K:=I.out;have aj:=K.lo;have bB:=K.D.base;have hE:=kD ((K.es.keep (Still.grown j (λ k o hs=>by simp at o;have:=hs.1;omega))).evl.weak (S':=λ b=>w.heap.size<b) (λ b hb=>hb.1));have Y:=kD (K.D.grown j (λ k o=>by simp at o;omega) (λ k o=>by simp at o;omega));have ai:=kD K.es.cap;have hg:=kD (grown_own K.gr j (λ k o=>by simp at o;omega));clear K I rr j ae X V T Q P O H;refine kD ?_
  repeat (first | go_values | go_skip | go_step | go_upon)
  refine bodyPost_ret (v:=.agg #[.int .i64 v2.p,.int .i64 v2.c,.int .i64 v2.h,.int .i64 v2.s,.int .i64 n,.slice Ae N ce]) (by simp [results,Tryz.results54,go_sem,ag,af,ad,ac,ab,aa]) rfl ?_;exact⟨v2,n,es,s5,_,ce,by rw [HL.out],ar.out _ _ _ aq (ay_3 a1),⟨hE.out,al.out,by rw [HL.out];omega,by rw [HL.out];exact ai.out⟩,Y.out,hg.out⟩
 have z3:(q == 3)=false:=by simp [e3]
 by_cases e4:q=4
 ·subst e4;by_cases hL0:0<N
  ·have a6:decide ((0:Int)<(N:Int))=true:=decide_eq_true (by omega);obtain⟨z,s5,NI⟩:=K.D.gd.nb (N:Int);have i0:=NI.ge;have i1:=NI.lt (by omega);obtain⟨i,rfl⟩:∃ i:Nat,z=i:=⟨z.toNat,by omega⟩;have aE:=kD NI;have ax:i<es.length:=by rw [HL.out];omega
   obtain⟨gb,e,eA,ay,hS,aI,aK,ca,cr,-,-⟩:=K.es.at_ ax;subst eA;have aM:=kD ax;have aF:=kD ay;have aD:=kD (Sh.set (i:=i) al.out (e:={ e with r:=1 }) (by have:=al.out _ (List.mem_of_getElem? ay);exact this));have an:=kD (ar.out _ _ _ aq (ay_4 (by rw [HL.out];exact hL0) (by rw [HL.out];exact aE.out.nx)));have am:=kD (show (es.set i { e with r:=1 }).length=N by rw [List.length_set];exact HL.out);have a2:i<N:=by omega
   clear NI ax ay ca cr aK aI hL0;go_upto_region 15 with fail;have HK:=kD K;clear K X V T Q P O J;refine region_rel [some 49,some 50,some 51,some 52,some 53,some 54,some 55,none] 8 (Pl [some (.pointer (some ⟨g3,5,none⟩)),some (.slice (some ⟨gb,0,none⟩) N ce),some (.pointer (some ⟨g,0,none⟩)),some (.int .i64 (N:Int)),some (.int .i64 (i:Int)),some (.pointer (some ⟨gb,i*5,none⟩)),some (.pointer (some ⟨gb,i*5+4,none⟩)),none]) (λ L m w'=>SqA w0 aH B g A cp xs [az,s5] L [4] (L 7) (λ W=>Ka w0 w B g A cp xs s5 g3 v n (.slice (some ⟨gb,0,none⟩) N ce) (es.set i { e with r:=1 }) W) w') (by kernel_rfl) (by kernel_rfl) (by kernel_rfl) (by kernel_rfl) (by kernel_rfl) (by kernel_rfl) (by first | kernel_rfl | rfl) ?g0_2 ?gst_2 ?gfin_2
   case g0_2=>exact SqA.start HK.out.D rfl (by decide) (by decide)
   case gst_2 =>
    refine rN rfl (λ L m A Z d t l U F K y=>?_) ?_
    ·have e3:=U.w 3 (.pointer (some ⟨g3,0,none⟩));have C:=F.sq (λ h=>d (l 7 0 (by kernel_rfl) h));have G:=HK.out.r3.grown C.gr (λ k o=>by simp at o;omega);obtain⟨X,V,T,Q,P,O⟩:=G.c6;have J:=G.lt;clear G C;go_simp;exact pF y (F.skip 0 (by decide))
    refine rN rfl (λ L m A Z d t l U F K y=>?_) ?_
    ·have bi:=U.v 0 49;have C:=F.sq (λ h=>d (l 7 1 (by kernel_rfl) h));have G:=HK.out.r3.grown C.gr (λ k o=>by simp at o;omega);obtain⟨X,V,T,Q,P,O⟩:=G.c6;have J:=G.lt;clear G C;go_simp;exact pF y (F.skip 1 (by decide))
    refine rN rfl (λ L m A Z d t l U F K y=>?_) ?_
    ·have e0:=U.w 0 (.pointer (some ⟨g,0,none⟩));have C:=F.sq (λ h=>d (l 7 2 (by kernel_rfl) h));have G:=HK.out.r3.grown C.gr (λ k o=>by simp at o;omega);obtain⟨X,V,T,Q,P,O⟩:=G.c6;have J:=G.lt;clear G C;go_simp;exact pF y (F.skip 2 (by decide))
    refine rN rfl (λ L m A Z d t l U F K y=>?_) ?_
    ·have e4:=U.w 4 (.int .i64 (N:Int));have C:=F.sq (λ h=>d (l 7 3 (by kernel_rfl) h));clear C;go_simp;exact pF y (F.skip 3 (by decide))
    refine rN rfl (λ L m A Z d t l U F K y=>?_) ?_
    ·have bg:=U.v 2 51;have bf:=U.v 3 52;have Y:=(F.sq (λ h=>d (l 7 4 (by kernel_rfl) h))).at_ 0 rfl rfl d pv0;go_simp;refine(nextK Y aE.out.nx (by omega)).mono ?_;rintro e w6 ⟨rfl,ap,ao,-⟩;exact pF y (F.call (λ h=>d (l 7 4 (by kernel_rfl) h)) rfl (i:=0) rfl d pv0 (by decide) ap ao)
    refine rN rfl (λ L m A Z d t l U F K y=>?_) ?_
    ·have bh:=U.v 1 50;have be:=U.v 4 53;have C:=F.sq (λ h=>d (l 7 5 (by kernel_rfl) h));clear C;go_simp;exact pF y (F.skip 5 (by decide))
    refine rN rfl (λ L m A Z d t l U F K y=>?_) ?_
    ·have bd:=U.v 5 54;have C:=F.sq (λ h=>d (l 7 6 (by kernel_rfl) h));have G:=HK.out.r3.grown C.gr (λ k o=>by simp at o;omega);obtain⟨X,V,T,Q,P,O⟩:=G.c6;have J:=G.lt;clear G C;go_simp;exact pF y (F.skip 6 (by decide))
    refine rN rfl (λ L m A Z d t l U F K y=>?_) ?_
    ·have bc:=U.v 6 55;have hE:=(F.sq d).end_ 1 rfl rfl rfl (al1 (bK t 4));have K9:=HK.out.next hE.1 hE.2;have aC:=K9.es.at_ aM.out;refine aC.elim λ g9 q=>?_
     refine q.elim λ e9 q=>?_
     have eA:=q.1;simp only [Option.some.injEq,Addr.mk.injEq,and_true] at eA;have eE:=Option.some.inj (aF.out.symm.trans q.2.1);have aB:=q.2.2.1;have aJ:=q.2.2.2.1;have aL:=q.2.2.2.2.1;have aA:=q.2.2.2.2.2.2.1;have aw:=q.2.2.2.2.2.2.2.2 1;rw [<-eA] at aJ aL aA aw aB;rw [<-eE] at aw aA;clear q aC eA eE;go_simp;exact y.out undef _ (Pl.any rfl) (SqA.last (K9.putE (Base.grownBy_setCell _ _ _ _) aB aw))
    exact RelFrom.nil (by decide)
   intro m Z hp F;simp only [Fr,Act.put,sX,Nat.reduceAdd];have K:=F.fin trivial;clear F hp HK;rw [setR_at aF.out] at an;have rr:=K.rr;have ah:=K.r3.c6;have H:=K.r3.lt;obtain⟨X,V,T,Q,P,O⟩:=ah;have I:=kD K;clear K;go_wp2_with (refine wM 48 0 [.int .i64 v.p,.int .i64 v.c,.int .i64 v.h,.int .i64 v.s,.int .i64 n,.slice (some ⟨gb,0,none⟩) N ce] rr ?_;intro av E j ae;refine Hid.out ?_);obtain⟨ag,af,ad,ac,ab,aa⟩:=E.c6;have ak:=E.lt;have K:=I.out;have aj:=K.lo;have bB:=K.D.base;have hE:=kD ((K.es.keep (Still.grown j (λ k o hs=>by simp at o;have:=hs.1;omega))).evl.weak (S':=λ b=>w.heap.size<b) (λ b hb=>hb.1));have Y:=kD (K.D.grown j (λ k o=>by simp at o;omega) (λ k o=>by simp at o;omega));have ai:=kD K.es.cap;have hg:=kD (grown_own K.gr j (λ k o=>by simp at o;omega));clear K I rr j ae X V T Q P O H;refine kD ?_
   repeat (first | go_values | go_skip | go_step | go_upon)
   refine bodyPost_ret (v:=.agg #[.int .i64 v.p,.int .i64 v.c,.int .i64 v.h,.int .i64 v.s,.int .i64 n,.slice (some ⟨gb,0,none⟩) N ce]) (by simp [results,Tryz.results54,go_sem,ag,af,ad,ac,ab,aa]) rfl ?_;exact⟨v,n,es.set i { e with r:=1 },s5,_,ce,by rw [am.out],an.out,⟨hE.out,aD.out,by rw [am.out];omega,by rw [am.out];exact ai.out⟩,Y.out,hg.out⟩
  ·have an:=kD (ar.out _ _ _ aq (ay_4n (M:=(v,n,es)) (by rw [HL.out];exact hL0)));obtain rfl:N=0:=by omega
   clear hL0;have rr:=K.rr;have ah:=K.r3.c6;have H:=K.r3.lt;obtain⟨X,V,T,Q,P,O⟩:=ah;have I:=kD K;clear K;go_wp2_with (refine wM 48 0 [.int .i64 v.p,.int .i64 v.c,.int .i64 v.h,.int .i64 v.s,.int .i64 n,.slice Ae 0 ce] rr ?_;intro av E j ae;refine Hid.out ?_);obtain⟨ag,af,ad,ac,ab,aa⟩:=E.c6;have ak:=E.lt;have K:=I.out;have aj:=K.lo;have bB:=K.D.base;have hE:=kD ((K.es.keep (Still.grown j (λ k o hs=>by simp at o;have:=hs.1;omega))).evl.weak (S':=λ b=>w.heap.size<b) (λ b hb=>hb.1));have Y:=kD (K.D.grown j (λ k o=>by simp at o;omega) (λ k o=>by simp at o;omega));have ai:=kD K.es.cap;have hg:=kD (grown_own K.gr j (λ k o=>by simp at o;omega));clear K I rr j ae X V T Q P O H;refine kD ?_
   repeat (first | go_values | go_skip | go_step | go_upon)
   refine bodyPost_ret (v:=.agg #[.int .i64 v.p,.int .i64 v.c,.int .i64 v.h,.int .i64 v.s,.int .i64 n,.slice Ae 0 ce]) (by simp [results,Tryz.results54,go_sem,ag,af,ad,ac,ab,aa]) rfl ?_;exact⟨v,n,es,az,_,ce,by rw [HL.out],an.out,⟨hE.out,al.out,by rw [HL.out];omega,by rw [HL.out];exact ai.out⟩,Y.out,hg.out⟩
 have z4:(q == 4)=false:=by simp [e4]
 have rr:=K.rr;have ah:=K.r3.c6;have H:=K.r3.lt;obtain⟨X,V,T,Q,P,O⟩:=ah;have I:=kD K;clear K;go_wp2_with (refine wM 48 0 [.int .i64 v.p,.int .i64 v.c,.int .i64 v.h,.int .i64 v.s,.int .i64 n,.slice Ae N ce] rr ?_;intro av E j ae;refine Hid.out ?_);obtain⟨ag,af,ad,ac,ab,aa⟩:=E.c6;have ak:=E.lt;have K:=I.out;have aj:=K.lo;have bB:=K.D.base;have hE:=kD ((K.es.keep (Still.grown j (λ k o hs=>by simp at o;have:=hs.1;omega))).evl.weak (S':=λ b=>w.heap.size<b) (λ b hb=>hb.1));have Y:=kD (K.D.grown j (λ k o=>by simp at o;omega) (λ k o=>by simp at o;omega));have ai:=kD K.es.cap;have hg:=kD (grown_own K.gr j (λ k o=>by simp at o;omega));clear K I rr j ae X V T Q P O H;refine kD ?_
 repeat (first | go_values | go_skip | go_step | go_upon)
 refine bodyPost_ret (v:=.agg #[.int .i64 v.p,.int .i64 v.c,.int .i64 v.h,.int .i64 v.s,.int .i64 n,.slice Ae N ce]) (by simp [results,Tryz.results54,go_sem,ag,af,ad,ac,ab,aa]) rfl ?_;exact⟨v,n,es,az,_,ce,by rw [HL.out],ar.out _ _ _ aq (ay_5 e0 e1 e2 e3 e4),⟨hE.out,al.out,by rw [HL.out];omega,by rw [HL.out];exact ai.out⟩,Y.out,hg.out⟩
end
end DwE
end Go.Proofs.YtmncnhbjifeoeaaGreat
