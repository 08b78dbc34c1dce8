/- Parts of the proof of FnExactMatchText. Conditions: each theorem's own. -/
import Derived.Test.YtblipmifflfnoaaGreatDoorV31
set_option linter.unusedVariables false
set_option linter.unusedSimpArgs false
set_option maxHeartbeats 8000000
set_option maxRecDepth 100000
namespace Go.Proofs.YtblipmifflfnoaaGreatDoor
namespace Gm
open Go Go.ChangeShapes Go.WideShapes Go.ChangeAt Go.RowKit Base Ints Own RelG PlP TxP Num Bd1 Bd5 Bd8 RegInv RegF RegG TxI TsI Bd36
theorem Evs.evl {w:World} {lo:Nat} {A:Option Addr} {m c:Nat} {es:List Ev} (h:Evs w lo (.slice A m c) es):EvL w All A es:=by
 obtain⟨j,n,g,s⟩:=h;obtain⟨v,t,e,d⟩:=n.form enEv_len;simp only [Value.slice.injEq] at e;obtain⟨rfl,-,-⟩:=e;refine⟨j,RdF.of d (Nat.le_refl _) (λ _ _=>trivial),g.1,λ i r x l k=>?_⟩;obtain⟨a,b⟩:=g.2 i r x l k;obtain⟨q,p,o,f⟩:=b.1.form enSt_len;exact⟨a,q,p,o,RdF.of f (Nat.le_refl _) (λ _ _=>trivial)⟩
theorem szM (v:Vr) (n:Int) (Ae:Option Addr) (ce:Nat) (es:List Ev) (left:Int) (w:World) (hes:EvL w All Ae es) (h0:0<=left) (h1:left<=1048576) :
  Calls Tryz.prog 10 #[.agg #[.int .i64 v.p,.int .i64 v.c,.int .i64 v.h,.int .i64 v.s,.int .i64 n,.slice Ae es.length ce],.int .i64 left] w λ e w'=>∃ q:Int,e=.returned (.int .i64 q)∧Below w.heap.size w w'∧(0<=q->es.length<=1048576∧∀ e ∈ es,e.ss.length<=1048576):=by
 have f:=kD (λ(g:World) (z:Below w.heap.size w g)=>szEvs Ae ce es left g (hes.keep (.below z)) h0 h1);obtain⟨M,k⟩:∃ M,es.length=M:=⟨_,rfl⟩;rw [k] at f ⊢;clear k hes;go_enter Tryz.func10,Tryz.ntmps10;go_upto_region 1 with fail;refine wp_gen (λ A=>Rows w A [(0,35,[.int .i64 v.p,.int .i64 v.c,.int .i64 v.h,.int .i64 v.s,.int .i64 n,.slice Ae M ce])]) ⟨by go_grown,λ p y=>?_⟩ ?_
 ·obtain rfl:=List.mem_singleton.1 y;exact RowB.new _ _ _
 intro D K;have b:=K.nth0 0 rfl;obtain⟨x,t,r,o,m,l⟩:=b.c6;have d:=b.lt;go_wp2_with fail;refine(f.out _ K.bel).mono ?_;rintro e C ⟨q,rfl,j,i⟩;have a:=(K.below j).bel;have B:=kD i;clear K x t r o m l d b j i f;by_cases hn:q<0
 ·go_wp2_with fail;go_ret;exact⟨_,rfl,a,λ h=>absurd h (by decide)⟩
 ·go_wp2_with fail;go_ret;exact⟨_,rfl,a,B.out⟩
theorem toM (v:Vr) (n:Int) (Ae:Option Addr) (ce:Nat) (es:List Ev) (w:World) (hes:EvL w All Ae es) (hn:es.length<=1048576) (hs:∀ e ∈ es,e.ss.length<=1048576) :
  Calls Tryz.prog 12 #[.agg #[.int .i64 v.p,.int .i64 v.c,.int .i64 v.h,.int .i64 v.s,.int .i64 n,.slice Ae es.length ce]] w λ e w'=>∃ A',e=.returned (.agg #[.int .i64 v.p,.int .i64 v.c,.int .i64 v.h,.int .i64 v.s,.int .i64 n,.slice A' es.length es.length])∧Below w.heap.size w w'∧Evs w' w.heap.size (.slice A' es.length es.length) es:=by
 have I:=kD (λ(D:World) (h9:Below w.heap.size w D)=>toEvs Ae ce es D (hes.keep (.below h9)) hn hs);have P:=kD (λ(D:World)=>toVr v.p v.c v.h v.s D);obtain⟨M,N⟩:∃ M,es.length=M:=⟨_,rfl⟩;rw [N] at I ⊢;clear N hes hn hs;go_enter Tryz.func12,Tryz.ntmps12;go_upto_region 2 with fail
 try simp only [show w.heap.size+1+1=w.heap.size+2 from rfl]
 refine wp_gen (λ g=>Rows w g [(0,35,[.int .i64 v.p,.int .i64 v.c,.int .i64 v.h,.int .i64 v.s,.int .i64 n,.slice Ae M ce]),(1,26,[.int .i64 0,.int .i64 0,.int .i64 0,.int .i64 0,.int .i64 0,.slice none 0 0]),(2,26,[.int .i64 0,.int .i64 0,.int .i64 0,.int .i64 0,.int .i64 0,.slice none 0 0])]) ⟨by go_grown,λ p J=>?_⟩ ?_
 ·simp only [List.mem_cons,List.not_mem_nil,or_false] at J;rcases J with rfl | rfl | rfl
  ·exact((RowB.new _ _ _).alloc _).alloc _
  ·exact(RowB.new' _ _ _ (by simp)).alloc _
  ·exact RowB.new' _ _ _ (by simp)
 intro w1 K;have d:=K.nth0 0 rfl;obtain⟨z,y,x,t,r,q⟩:=d.c6;have f:=d.lt;go_wp2_with fail;refine(P.out _).mono ?_;rintro e w2 ⟨rfl,B⟩;have K:=K.below B;clear z y x t r q f d B P;have a:=K.nth 2 rfl;obtain⟨o,m,l,k,j,i⟩:=a.c6;have C:=a.frozen;have b:=a.lt;go_upto_region 3 with fail;refine wp_gen (λ g=>Rows w g [(0,35,[.int .i64 v.p,.int .i64 v.c,.int .i64 v.h,.int .i64 v.s,.int .i64 n,.slice Ae M ce]),(1,26,[.int .i64 0,.int .i64 0,.int .i64 0,.int .i64 0,.int .i64 0,.slice none 0 0]),(2,26,[.int .i64 v.p,.int .i64 v.c,.int .i64 v.h,.int .i64 v.s,.int .i64 0,.slice none 0 0])]) ((((K.set1 2 0 _).set1 2 1 _).set1 2 2 _).set1 2 3 _) ?_;clear K a o m l k j i C b;intro X K;have d:=K.nth0 0 rfl;obtain⟨z,y,x,t,r,q⟩:=d.c6;have f:=d.lt;have a:=K.nth 2 rfl;obtain⟨o,m,l,k,j,i⟩:=a.c6;have C:=a.frozen;have b:=a.lt;go_upto_region 4 with fail;refine wp_gen (λ g=>Rows w g [(0,35,[.int .i64 v.p,.int .i64 v.c,.int .i64 v.h,.int .i64 v.s,.int .i64 n,.slice Ae M ce]),(1,26,[.int .i64 0,.int .i64 0,.int .i64 0,.int .i64 0,.int .i64 0,.slice none 0 0]),(2,26,[.int .i64 v.p,.int .i64 v.c,.int .i64 v.h,.int .i64 v.s,.int .i64 n,.slice none 0 0])]) (K.set1 2 4 _) ?_;clear K z y x t r q f d a o m l k j i C b;intro Z K;have d:=K.nth0 0 rfl;obtain⟨z,y,x,t,r,q⟩:=d.c6;have f:=d.lt;go_wp2_with fail;refine(I.out _ K.bel).mono ?_;rintro e Y ⟨A',rfl,B,L⟩;have A:w.heap.size+3<=Z.heap.size:=(K.nth 2 rfl).lt;have K:=K.below B;clear z y x t r q f d B I;have a:=K.nth 2 rfl;obtain⟨o,m,l,k,j,i⟩:=a.c6;have C:=a.frozen;have b:=a.lt;go_upto_region 5 with fail;refine wp_gen (λ g=>Rows w g [(0,35,[.int .i64 v.p,.int .i64 v.c,.int .i64 v.h,.int .i64 v.s,.int .i64 n,.slice Ae M ce]),(1,26,[.int .i64 0,.int .i64 0,.int .i64 0,.int .i64 0,.int .i64 0,.slice none 0 0]),(2,26,[.int .i64 v.p,.int .i64 v.c,.int .i64 v.h,.int .i64 v.s,.int .i64 n,.slice A' M M])]∧Hid (Evs g (w.heap.size+3) (.slice A' M M) es)) ⟨K.set1 2 5 _,kD ((L.low (Base.grownBy_setCell Y (w.heap.size+2) 5 (.slice A' M M)) (by omega)).less A)⟩ ?_;clear K a o m l k j i C b L A;rintro w5 ⟨K,O⟩;obtain⟨o,m,l,k,j,i⟩:=(K.nth 2 rfl).c6;have b:=(K.nth 2 rfl).lt;have a:=K.nth 1 rfl;go_wp2_with (refine wM 26 0 [.int .i64 v.p,.int .i64 v.c,.int .i64 v.h,.int .i64 v.s,.int .i64 n,.slice A' M M] a ?_;intro X E H z7;refine Hid.out ?_);have G:=(K.grown 1 E H).bel;have F:=(O.out.low H (by omega)).less (lo':=w.heap.size) (by omega);obtain⟨W,V,T,S,R,Q⟩:=E.c6;have aa:=E.lt;clear H a K O o m l k j i b;refine kD ?_
 repeat (first | go_values | go_skip | go_step | go_upon)
 refine bodyPost_ret (v:=.agg #[.int .i64 v.p,.int .i64 v.c,.int .i64 v.h,.int .i64 v.s,.int .i64 n,.slice A' M M]) (by simp [results,Tryz.results12,go_sem,W,V,T,S,R,Q]) rfl ?_;exact⟨_,rfl,G,F⟩
structure EqF (w1:World) (v:Vr) (n:Int) (M:Nat) (es:List Ev) (p:Prop) (u:Value) (w':World):Prop where
 bel:Below w1.heap.size w1 w'
 f2:p->∃ A3,u=.agg #[.int .i64 v.p,.int .i64 v.c,.int .i64 v.h,.int .i64 v.s,.int .i64 n,.slice A3 M M]∧Evs w' w1.heap.size (.slice A3 M M) es
theorem EqF.skip {w1 w':World} {v:Vr} {n:Int} {M:Nat} {es:List Ev} {L:Nat->Prop} {vals:Nat->Value} (F:EqF w1 v n M es (L 2) (vals 2) w') (k:Nat) (x:Value) (h:2≠k:=by decide):EqF w1 v n M es (2=k∨L 2) (upd vals k x 2) w' :=
 ⟨F.bel,λ a=>by rw [upd_ne h];exact F.f2 (a.resolve_left h)⟩
theorem EqF.call {w1 w' w'':World} {v:Vr} {n:Int} {M:Nat} {es:List Ev} {L:Nat->Prop} {vals:Nat->Value} (F:EqF w1 v n M es (L 2) (vals 2) w') (k:Nat) (x:Value) (h:2≠k) (hb:Below w'.heap.size w' w''):EqF w1 v n M es (2=k∨L 2) (upd vals k x 2) w'' :=
 ⟨F.bel.trans (hb.mono F.bel.size),λ hp=>by
  rw [upd_ne h];obtain⟨A3,e,h3⟩:=F.f2 (hp.resolve_left h);exact⟨A3,e,h3.below hb⟩⟩
theorem walkM (v:Vr) (n:Int) (Ae:Option Addr) (ce:Nat) (es:List Ev) (w:World) (hes:EvL w All Ae es) (E:Env w) :
  Calls Tryz.prog 4 #[.agg #[.int .i64 v.p,.int .i64 v.c,.int .i64 v.h,.int .i64 v.s,.int .i64 n,.slice Ae es.length ce]] w λ e w'=>e=.returned (.bool true)∧Below w.heap.size w w':=by
 have CZ:=kD (λ(b:World) (J:Below w.heap.size w b)=>szM v n Ae ce es 1048576 b (hes.keep (.below J)) (by decide) (by decide));have O:=kD (λ(hn:es.length<=1048576) (hs:∀ e ∈ es,e.ss.length<=1048576) (b:World) (J:Below w.heap.size w b)=>toM v n Ae ce es b (hes.keep (.below J)) hn hs);have Z:=kD (λ(A:Option Addr) (c:Nat) (b:World) (J:EvL b All A es)=>mtext_s v n es A c b J);have CI:=kD (λ(A:Option Addr) (c:Nat) (b:World) (J:EvL b All A es) (hw:Below w.heap.size w b)=>mtext_i v n es A c b (E.below hw) J);have CE:=kD (λ(ab aa:Nat) (A1 V:Option Addr) (n1 n2 c1 c2:Nat) (b:World) Y X=>eqM v n ab aa A1 V n1 n2 c1 c2 es b Y X);obtain⟨T,hT⟩:∃ T,bs (matX v n es)=T:=⟨_,rfl⟩;rw [hT] at Z CI;obtain⟨M,hM⟩:∃ M,es.length=M:=⟨_,rfl⟩;rw [hM] at CZ O Z CI ⊢;clear hM hes E hT;go_enter Tryz.func4,Tryz.ntmps4;go_upto_region 1 with fail;refine wp_gen (λ S=>Rows w S [(0,35,[.int .i64 v.p,.int .i64 v.c,.int .i64 v.h,.int .i64 v.s,.int .i64 n,.slice Ae M ce])]) ⟨by go_grown,λ p W=>?_⟩ ?_
 ·obtain rfl:=List.mem_singleton.1 W;exact RowB.new _ _ _
 intro w1 K;have d:=K.nth0 0 rfl;obtain⟨D,C,B,z,y,t⟩:=d.c6;have g:=d.lt;go_wp2_with fail;refine(CZ.out _ K.bel).mono ?_;rintro e w2 ⟨q,rfl,f,hq⟩;have K:=K.below f;have HQ:=kD hq;clear D C B z y t g d f hq CZ;by_cases hn:q<0
 ·have H:=K.bel;clear K;go_wp2_with fail;go_ret;exact⟨rfl,H⟩
 have G:=HQ.out (by omega);have O:=kD (O.out G.1 G.2);clear HQ G;have d:=K.nth0 0 rfl;obtain⟨D,C,B,z,y,t⟩:=d.c6;have g:=d.lt;go_wp2_with fail;refine(O.out _ K.bel).mono ?_;rintro e w3 ⟨A1,rfl,f,Y⟩;have K:=K.below f;clear D C B z y t g d f;go_wp2_with fail;refine(Z.out _ _ _ Y.evl).mono ?_;rintro e w4 ⟨rfl,f⟩;have K:=K.below f;clear f Y Z;have d:=K.nth0 0 rfl;obtain⟨D,C,B,z,y,t⟩:=d.c6;have g:=d.lt;go_wp2_with fail;refine(O.out _ K.bel).mono ?_;rintro e w5 ⟨V,rfl,f,X⟩;have K:=K.below f;clear D C B z y t g d f;go_upto_region 7 with fail;refine wp_gen (λ S=>Rows w S [(0,35,[.int .i64 v.p,.int .i64 v.c,.int .i64 v.h,.int .i64 v.s,.int .i64 n,.slice Ae M ce])]∧RowB S w5.heap.size 26 [.int .i64 v.p,.int .i64 v.c,.int .i64 v.h,.int .i64 v.s,.int .i64 n,.slice V M M]∧Hid (Evs S w4.heap.size (.slice V M M) es)) ⟨K.below ((Below.refl _ _).alloc (Nat.le_refl _) _),RowB.new _ _ _,kD (X.below ((Below.refl _ _).alloc (Nat.le_refl _) _))⟩ ?_;clear K X;obtain⟨gx,Q⟩:∃ q,w5.heap.size=q:=⟨_,rfl⟩;rw [Q];clear Q;rintro w6 ⟨K,o,N⟩;obtain⟨x0,x1,x2,x3,x4,x5⟩:=o.c6;have k:=o.lt;go_wp2_with fail;refine(CI.out _ _ _ N.out.evl K.bel).mono ?_;rintro e w7 ⟨rfl,f⟩;have P:=kD (K.below f);have o:=kD (o.below f k);have HE:=kD (N.out.below f);have ac:(T.toList == T.toList)=true:=by simp
 have ae:(T.toList != T.toList)=false:=by simp
 clear x0 x1 x2 x3 x4 x5 k K f N CI;go_upto_region 10 with fail;refine region_rel [some 22,some 23,some 24,some 25,some 26] 5 (Pl [some (.agg #[.int .i64 v.p,.int .i64 v.c,.int .i64 v.h,.int .i64 v.s,.int .i64 n,.slice V M M]),some (.agg #[.int .i64 v.p,.int .i64 v.c,.int .i64 v.h,.int .i64 v.s,.int .i64 n,.slice Ae M ce]),none,some (.bool true),some (.bool false)]) (λ L a w'=>EqF w7 v n M es (L 2) (a 2) w') (by kernel_rfl) (by kernel_rfl) (by kernel_rfl) (by kernel_rfl) (by kernel_rfl) (by kernel_rfl) (by first | kernel_rfl | rfl) ?g0_1 ?gst_1 ?gfin_1
 case g0_1=>exact⟨(Below.refl _ _).drew,λ h=>absurd h (by decide)⟩
 case gst_1 =>
  refine rN rfl (λ L a A b j i l U F K m=>?_) ?_
  ·have e5:=U.w 5 (.pointer (some ⟨gx,0,none⟩));have d:=(P.out.below F.bel).nth0 0 rfl;obtain⟨D,C,B,z,y,t⟩:=d.c6;have g:=d.lt;have r:=o.out.below F.bel o.out.lt;obtain⟨x0,x1,x2,x3,x4,x5⟩:=r.c6;have k:=r.lt;clear d r;go_simp;exact pF m (F.skip 0 _)
  refine rN rfl (λ L a A b j i l U F K m=>?_) ?_
  ·have e1:=U.w 1 (.pointer (some ⟨w.heap.size,0,none⟩));have d:=(P.out.below F.bel).nth0 0 rfl;obtain⟨D,C,B,z,y,t⟩:=d.c6;have g:=d.lt;have r:=o.out.below F.bel o.out.lt;obtain⟨x0,x1,x2,x3,x4,x5⟩:=r.c6;have k:=r.lt;clear d r;go_simp;exact pF m (F.skip 1 _)
  refine rN rfl (λ L a A b j i l U F K m=>?_) ?_
  ·have ag:=U.v 1 23;go_simp;refine(O.out b (P.out.bel.trans (F.bel.mono P.out.bel.size))).mono ?_;rintro e w6 ⟨A3,rfl,I,h3⟩;exact m.out _ w6 (Pl.any rfl) ⟨F.bel.trans (I.mono F.bel.size),λ _=>⟨A3,by rw [upd_same],h3.less F.bel.size⟩⟩
  refine rN rfl (λ L a A b j i l U F K m=>?_) ?_
  ·have ah:=U.v 0 22;have R:=U.x 2 24;refine(F.f2 (bK i 2)).elim λ A3 q=>?_
   have ad:=R.trans q.1;clear R;go_simp;refine(CE.out _ _ _ _ _ _ _ _ b (HE.out.below F.bel) q.2).mono ?_;rintro e w6 ⟨rfl,I⟩;exact pF m (F.call 3 _ (by decide) I)
  refine rN rfl (λ L a A b j i l U F K m=>?_) ?_
  ·have af:=U.v 3 25;go_simp;exact pF m (F.skip 4 _)
  exact RelFrom.nil (by decide)
 intro a b W F;simp only [Fr,Act.put,sX,Nat.reduceAdd];have h4:a 4=.bool false:=W 4 (by decide) _ rfl;rw [h4];have H:=(P.out.below F.bel).bel;clear F W h4 P o HE O CE;go_wp2_with fail;go_ret;exact⟨rfl,H⟩
theorem lsr_of {ρ α:Type} {K:Rel ρ α} {w:World} {S:Nat->Prop}:∀(rs:List ρ),(∀ r ∈ rs,∃ x,K.R w S r x)->∃ xs,LsR K w S rs xs
 | [],_=>⟨[],LsR.nil _ _ _⟩
 | r :: rs,h=>by
  obtain⟨x,hx⟩:=h r (List.mem_cons_self ..);obtain⟨xs,h1,h2⟩:=lsr_of rs (λ q hq=>h q (List.mem_cons_of_mem _ hq));refine⟨x :: xs,by simp [h1],λ i r' x' hr hx'=>?_⟩
  cases i with
  | zero =>
   simp only [List.getElem?_cons_zero,Option.some.injEq] at hr hx';subst hr;subst hx';exact hx
  | succ i =>
   simp only [List.getElem?_cons_succ] at hr hx';exact h2 i r' x' hr hx'
section
variable {H:Type} {enc:TypeId × Value->H} {w:World}
theorem steps_open {fuel:Nat} {c:Value} {y:DataW H × List MemPlace} (h:DataW.trod enc Tryz.prog w 0 (λ _=>true) true fuel 102 [c]=some y) :
  ∃(A:Option Addr) (cp:Nat) (ss:List Stp),c=.slice A ss.length cp∧RdF w All 4 enSt A ss:=by
 obtain⟨A,cp,a,rfl,d,e⟩:=slst_open Tryz.underlying102 Tryz.underlying163 (by kernel_rfl) (by kernel_rfl) (by decide) h;obtain⟨l,rfl,-⟩:=map_of (en:=enSt) (Q:=λ _=>True) a (λ r m=>by
  have b:=e r m;obtain⟨q,j,_⟩:=b.int (k:=.i64) 0 rfl (by kernel_rfl);obtain⟨p,i,_⟩:=b.int (k:=.i64) 1 rfl (by kernel_rfl);obtain⟨o,g,_⟩:=b.int (k:=.i64) 2 rfl (by kernel_rfl);obtain⟨n,f⟩:=b.bool 3 rfl (by kernel_rfl);obtain⟨x,v,t,s,rfl⟩:=list4 (b.1.trans rfl);simp only [List.getElem?_cons_zero,List.getElem?_cons_succ,Option.some.injEq] at j i g f;subst j;subst i;subst g;subst f;exact⟨(q,p,o,n),rfl,trivial⟩)
 exact⟨A,cp,l,by rw [List.length_map],RdF.of (RdS.of_map d) (Nat.le_refl _) (λ _ _=>trivial)⟩
theorem events_open {fuel:Nat} {c:Value} {y:DataW H × List MemPlace} (h:DataW.trod enc Tryz.prog w 0 (λ _=>true) true fuel 33 [c]=some y) :
  ∃(A:Option Addr) (cp:Nat) (es:List Ev),c=.slice A es.length cp∧EvL w All A es:=by
 obtain⟨A,cp,b,rfl,g,i⟩:=slst_open Tryz.underlying33 Tryz.underlying104 (by kernel_rfl) (by kernel_rfl) (by decide) h;obtain⟨j,rfl,F⟩:=map_of (en:=enEv) (Q:=λ x=>∃ e,RelEr.R w All x e) b (λ r E=>by
  have a:=i r E;obtain⟨B,q,_⟩:=a.int (k:=.i64) 0 rfl (by kernel_rfl);obtain⟨z,p,_⟩:=a.int (k:=.i64) 1 rfl (by kernel_rfl);obtain⟨v,o,_⟩:=a.int (k:=.i64) 2 rfl (by kernel_rfl);obtain⟨P,I,G,n,D⟩:=a.2 3 _ rfl;obtain⟨t,m,_⟩:=a.int (k:=.i64) 4 rfl (by kernel_rfl);obtain⟨C,s,l,rfl,f⟩:=steps_open D;obtain⟨O,N,M,L,J,rfl⟩:=list5 (a.1.trans rfl);simp only [List.getElem?_cons_zero,List.getElem?_cons_succ,Option.some.injEq] at q p o n m;subst q;subst p;subst o;subst n;subst m;exact⟨(B,z,v,.slice C l.length s,t),rfl,⟨B,z,v,l,t⟩,⟨rfl,rfl,rfl,rfl⟩,C,s,rfl,f⟩)
 obtain⟨es,d⟩:=lsr_of (K:=RelEr) j F;exact⟨A,cp,es,by rw [List.length_map,d.1],j,RdF.of (RdS.of_map g) (Nat.le_refl _) (λ _ _=>trivial),d⟩
theorem match_open {r:Reach} {b0:Nat} {v:Value} {d:DataW H} {p:List MemPlace} (hv:Value.okWide Tryz.prog w r b0 35 v) (h:DataW.Trod enc Tryz.prog w 0 (λ _=>true) true 35 v d p) :
  ∃(vr:Vr) (n:Int) (A:Option Addr) (c:Nat) (es:List Ev),v=.agg #[.int .i64 vr.p,.int .i64 vr.c,.int .i64 vr.h,.int .i64 vr.s,.int .i64 n,.slice A es.length c]∧EvL w All A es:=by
 obtain⟨⟨I⟩,rfl,F⟩:=okWide_struct Tryz.underlying35 hv;obtain⟨b,G⟩:=h;have g:DataW.trod enc Tryz.prog w 0 (λ _=>true) true b 35 I=some (d,p):=by simpa [Value.cells] using G
 obtain⟨W,m,_,_,a,f,j⟩:=DataW.trod_struct Tryz.underlying35 g;obtain⟨P,O,N,M,L,K,rfl⟩:=list6 (a.trans (by kernel_rfl));obtain⟨E,D,C,rfl⟩:=list3 (f.trans rfl);have q:=j 0 _ rfl;have o:=j 1 _ rfl;have l:=j 2 _ rfl;have q:DataW.trod enc Tryz.prog w 0 (λ _=>true) true m 32 [P,O,N,M]=some E:=q;have o:DataW.trod enc Tryz.prog w 0 (λ _=>true) true m 2 [L]=some D:=o;have l:DataW.trod enc Tryz.prog w 0 (λ _=>true) true m 33 [K]=some C:=l;have e:=fields_of Tryz.underlying32 (by kernel_rfl) (by kernel_rfl) q;obtain⟨V,B,_⟩:=e.int (k:=.i64) 0 rfl (by kernel_rfl);obtain⟨T,z,_⟩:=e.int (k:=.i64) 1 rfl (by kernel_rfl);obtain⟨S,y,_⟩:=e.int (k:=.i64) 2 rfl (by kernel_rfl);obtain⟨R,x,_⟩:=e.int (k:=.i64) 3 rfl (by kernel_rfl);obtain⟨Q,t,_⟩:=DataW.trod_int (k:=.i64) Tryz.underlying2 o;obtain⟨A,J,es,rfl,i⟩:=events_open l;simp only [List.getElem?_cons_zero,List.getElem?_cons_succ,Option.some.injEq,List.cons.injEq,and_true] at B z y x t;subst B;subst z;subst y;subst x;subst t;exact⟨⟨V,T,S,R⟩,Q,A,J,es,rfl,i⟩
end
end Gm
end Go.Proofs.YtblipmifflfnoaaGreatDoor
