/- Parts of the proof of FnEventText. Conditions: each theorem's own. -/
import Derived.Test.YtjdefiinmicjiaaGreatDoorU26
import Derived.Deep.RegionLaw
import Derived.Lib.SliceRun
import Derived.Lib.LazyBuf
import Derived.Shelf.Strings.BuilderF
import Derived.Laws.DeepStrings4
import Derived.Deep.CutBlock
set_option linter.unusedVariables false
set_option linter.unusedSimpArgs false
set_option maxHeartbeats 8000000
set_option maxRecDepth 100000
namespace Go.Proofs.YtjdefiinmicjiaaGreatDoor
namespace DwC
open Go Go.ChangeShapes Go.WideShapes Go.ChangeAt Go.RowKit Base Ints Own RelG PlP TxP Gm RegInv RegF RegG Bd1 Bd5 Draw DrawD DwP DwQ DwA DwB
theorem own_below {w w1 w2:World} {o:Obj} {row:Option Nat} (hb:Below w.heap.size w w1) (hg:(w1.alloc o).grownBy w2 row) (hr:∀ q,row=some q->w1.heap.size<=q):Below w1.heap.size w1 w2 :=
 ((Below.refl _ _).alloc (Nat.le_refl _) _).grown hg (by simp) hr
theorem eown_s (e:Ev) (As:Option Addr) (cs:Nat) (w:World) (hs:RdF w All 4 enSt As e.ss) (hl:e.ss.length<=1048576) :
  Calls Tryz.prog 77 #[.agg #[.int .i64 e.k,.int .i64 e.a,.int .i64 e.b,.slice As e.ss.length cs,.int .i64 e.r]] w λ f w'=>∃ A' c',f=.returned (.agg #[.int .i64 e.k,.int .i64 e.a,.int .i64 e.b,.slice A' e.ss.length c',.int .i64 e.r])∧OwnS w' w.heap.size w'.heap.size 111 4 enSt (.slice A' e.ss.length c') e.ss∧Below w.heap.size w w':=by
 obtain⟨i4,L,H,G,F⟩:=info_parts infoSt;obtain⟨k,a,b,D,r⟩:=e;simp only at hs hl ⊢;obtain⟨n,J⟩:∃ n,D.length=n:=⟨_,rfl⟩;have Y:=kD J;have HS:=kD (λ(S:World) (h9:Below w.heap.size w S)=>(hs.keep (.below h9)).rd);rw [J] at hl ⊢;clear J hs;go_enter Tryz.func77,Tryz.ntmps77;go_upto_region 1 with fail;refine wp_gen (λ B=>Gm.Rows w B [(0,28,[.int .i64 k,.int .i64 a,.int .i64 b,.slice As n cs,.int .i64 r]),(1,28,[.int .i64 0,.int .i64 0,.int .i64 0,.slice none 0 0,.int .i64 0])]) ⟨by go_grown,λ p V=>?_⟩ ?_
 ·simp only [List.mem_cons,List.not_mem_nil,or_false] at V;rcases V with rfl | rfl
  ·exact(RowB.new _ _ _).alloc _
  ·exact RowB.new' _ _ _ (by simp)
 intro C K;have d:=K.nth0 0 rfl;obtain⟨s,o,m,l,j⟩:=d.c5;have g:=d.lt;have R:=kD K;have ab:=(K.nth 1 rfl).lt;have X:=kD (HS.out (C.alloc (.cells #[] 111)) (K.bel.alloc K.bel.size _));go_wp2_with (at_builtin;refine wpL_appR rfl _ _ _ rfl C.heap.size _ 111 i4 (.agg #[.int .i64 0,.int .i64 0,.int .i64 0,.bool false]) 4 32 Tryz.underlying26 L H G F rfl (by decide) enSt_len _ [] D (λ x _=>one_St x) rfl ((RowB.new C 111 []).own (xs:=([]:List Stp)) (en:=enSt) enSt_len (Nat.le_refl _) (Nat.lt_succ_self _) (by decide)) As n cs _ (by first | rfl | (simp;rfl)) Y.out.symm X.out (by unfold maxLen;simp;omega) (by simp;omega) ?c1 ?c2 ?_)
 case c1=>simp
 case c2=>simp
 intro v' S c W O
 try rw [List.nil_append] at c
 have A:=own_below R.out.bel W (λ q y=>by simp [Value.ownBlock] at y;omega);obtain⟨A',c',t,-⟩:=c.form enSt_len;rw [Y.out] at t;subst t;have K:=R.out.below A;have i:=kD (c.less (lo':=w.heap.size+2) (by omega));clear W O c s o m l j g d X R A;have d:=K.nth0 0 rfl;obtain⟨s,o,m,l,j⟩:=d.c5;have g:=d.lt;have M:=d.frozen;have I:=(K.nth 1 rfl).lt;have z:=i.out.block;have Q:=kD z;clear z;go_upto_region 2 with fail;refine wp_gen (λ B=>Gm.Rows w B [(0,28,[.int .i64 k,.int .i64 a,.int .i64 b,.slice A' n c',.int .i64 r]),(1,28,[.int .i64 0,.int .i64 0,.int .i64 0,.slice none 0 0,.int .i64 0])]∧OwnS B (w.heap.size+2) B.heap.size 111 4 enSt (.slice A' n c') D) ⟨by have:=K.set1 0 3 (.slice A' n c');simpa using this,(i.out.grown (Base.grownBy_setCell _ _ _ _) (λ q y=>by simp at y;omega)).more (by simp)⟩ ?_;clear K i s o m l j g M d I Q;rintro aa ⟨K,i⟩;have d:=K.nth0 0 rfl;obtain⟨s,o,m,l,j⟩:=d.c5;have g:=d.lt;have T:=K.nth 1 rfl;have i:=kD i;go_wp2_with (refine wM 28 0 [.int .i64 k,.int .i64 a,.int .i64 b,.slice A' n c',.int .i64 r] T ?_;intro w7 E h z7;refine Hid.out ?_);have N:=(K.grown 1 E h).bel;have P:=(i.out.grown h (λ q y=>by simp at y;omega)).more h.size;obtain⟨z0,z1,z2,z3,Z⟩:=E.c5;have ac:=E.lt;clear h T K i s o m l j g d;refine kD ?_
 repeat (first | go_values | go_skip | go_step | go_upon)
 refine bodyPost_ret (v:=.agg #[.int .i64 k,.int .i64 a,.int .i64 b,.slice A' n c',.int .i64 r]) (by simp [results,Tryz.results77,go_sem,z0,z1,z2,z3,Z]) rfl ?_;exact⟨A',c',rfl,P.less (by omega),N⟩
structure AdF (w w1:World) (lo:Nat) (u:Value) (v:Vr) (n:Int) (X:List Ev) (e:Ev) (N:Nat) (P:World->Prop) (p6 p7 p8 p9 p10:Prop) (v6 v7 v8 v9:Value) (w':World):Prop where
 rw:¬ p10->P w'
 pre:¬ p8->Below w1.heap.size w1 w'
 f6:p6->¬ p8->∃ A' c',v6=.agg #[.int .i64 e.k,.int .i64 e.a,.int .i64 e.b,.slice A' N c',.int .i64 e.r]∧OwnS w' w1.heap.size w'.heap.size 111 4 enSt (.slice A' N c') e.ss
 f7:p7->¬ p8->∃ A' c' q,v7=.slice (some ⟨q,0,none⟩) 1 1∧RowB w' q 28 [.int .i64 e.k,.int .i64 e.a,.int .i64 e.b,.slice A' N c',.int .i64 e.r]∧OwnS w' w1.heap.size w'.heap.size 111 4 enSt (.slice A' N c') e.ss
 f8:p8->¬ p10->∃ g m c,v8=.slice (some ⟨g,0,none⟩) m c∧Evs w' lo v8 X∧w1.grownBy w' u.ownBlock
 f9:p9->∃ g m c,v8=.slice (some ⟨g,0,none⟩) m c∧v9=.agg #[.int .i64 v.p,.int .i64 v.c,.int .i64 v.h,.int .i64 v.s,.int .i64 n,v8]
 f10:p10->∃ g m c,v8=.slice (some ⟨g,0,none⟩) m c∧Evs w' lo v8 X∧RowB w' (w.heap.size+2) 37 [.int .i64 v.p,.int .i64 v.c,.int .i64 v.h,.int .i64 v.s,.int .i64 n,v8]∧Below w.heap.size w w'
section
variable {w w1 w' w'':World} {lo N:Nat} {u:Value} {v:Vr} {n:Int} {X:List Ev} {e:Ev} {P:World->Prop} {L:Nat->Prop} {vals:Nat->Value}
theorem AdF.skip (F:AdF w w1 lo u v n X e N P (L 6) (L 7) (L 8) (L 9) (L 10) (vals 6) (vals 7) (vals 8) (vals 9) w') (k:Nat) (x:Value) (h:6≠k∧7≠k∧8≠k∧9≠k∧10≠k:=by decide) :
  AdF w w1 lo u v n X e N P (6=k∨L 6) (7=k∨L 7) (8=k∨L 8) (9=k∨L 9) (10=k∨L 10) (upd vals k x 6) (upd vals k x 7) (upd vals k x 8) (upd vals k x 9) w':=by
 rw [or_ne h.1,or_ne h.2.1,or_ne h.2.2.1,or_ne h.2.2.2.1,or_ne h.2.2.2.2,upd_ne h.1,upd_ne h.2.1,upd_ne h.2.2.1,upd_ne h.2.2.2.1];exact F
end
theorem add_s (v:Vr) (n:Int) (es:List Ev) (Ae:Option Addr) (ce:Nat) (e:Ev) (As:Option Addr) (cs:Nat) (w:World) (hes:EvL w All Ae es) (hs:RdF w All 4 enSt As e.ss) (hl:e.ss.length<=1048576) (hls:∀ x ∈ es,x.ss.length<=1048576) (hle:es.length<=1048576) :
  Calls Tryz.prog 47 #[.agg #[.int .i64 v.p,.int .i64 v.c,.int .i64 v.h,.int .i64 v.s,.int .i64 n,.slice Ae es.length ce],.agg #[.int .i64 e.k,.int .i64 e.a,.int .i64 e.b,.slice As e.ss.length cs,.int .i64 e.r]] w λ f w'=>∃ A' c',f=.returned (.agg #[.int .i64 v.p,.int .i64 v.c,.int .i64 v.h,.int .i64 v.s,.int .i64 n,.slice A' (es.length+1) c'])∧Evs w' w.heap.size (.slice A' (es.length+1) c') (es++[e])∧Below w.heap.size w w':=by
 obtain⟨i5,ao,ak,aj,ai⟩:=info_parts infoE;have CO:=kD (λ(x:Ev) (A1:Option Addr) (c1:Nat) (y:World) (h1:RdF y All 4 enSt A1 x.ss) (h2:x.ss.length<=1048576)=>eown_s x A1 c1 y h1 h2);have CE:=kD (λ(y:World) (h9:Below w.heap.size w y)=>eown_s e As cs y (hs.keep (.below h9)) hl);have aM:=kD hls;have aO:=kD hes;obtain⟨k,a,b,ss,r⟩:=e;simp only at CE ⊢;obtain⟨N,hN⟩:∃ N,ss.length=N:=⟨_,rfl⟩;rw [hN] at CE ⊢;obtain⟨M,hM⟩:∃ M,es.length=M:=⟨_,rfl⟩;have HM:=kD hM;rw [hM] at hle ⊢;have aE:=hes.len;rw [hM] at aE;clear hes hs hl hls hN hM;go_enter Tryz.func47,Tryz.ntmps47;go_upto_region 1 with fail;refine wp_gen (λ W'=>Gm.Rows w W' [(0,37,[.int .i64 v.p,.int .i64 v.c,.int .i64 v.h,.int .i64 v.s,.int .i64 n,.slice Ae M ce]),(1,28,[.int .i64 k,.int .i64 a,.int .i64 b,.slice As N cs,.int .i64 r]),(2,37,[.int .i64 0,.int .i64 0,.int .i64 0,.int .i64 0,.int .i64 0,.slice none 0 0])]) ⟨by go_grown,λ p J=>?_⟩ ?_
 ·simp only [List.mem_cons,List.not_mem_nil,or_false] at J;rcases J with rfl | rfl | rfl
  ·exact((RowB.new _ _ _).alloc _).alloc _
  ·exact(RowB.new' _ _ _ (by simp)).alloc _
  ·exact RowB.new' _ _ _ (by simp)
 intro w1 K;have aW:=(K.nth 2 rfl).lt;have C:Hid (Evs (w1.alloc (.cells #[] 28)) (w.heap.size+3) (.slice (some ⟨w1.heap.size,0,none⟩) 0 0) (es.take 0)):=kD ⟨[],(RowB.new w1 28 []).own (xs:=([]:List ERow)) (en:=enEv) enEv_len (by omega) (by simp) (by simp),LsR.nil _ _ _,List.Pairwise.nil⟩;have R:=kD (K.below ((Below.refl w1.heap.size w1).alloc (Nat.le_refl _) (.cells #[] 28)));clear K;go_wp2_with fail;go_loopw [5,6] (λ s5 s6 wr=>∃(i:Nat),s6=.int .i64 (i:Int)∧i<=M∧Hid (Evs wr (w.heap.size+3) s5 (es.take i))∧Hid (Gm.Rows w wr [(0,37,[.int .i64 v.p,.int .i64 v.c,.int .i64 v.h,.int .i64 v.s,.int .i64 n,.slice Ae M ce]),(1,28,[.int .i64 k,.int .i64 a,.int .i64 b,.slice As N cs,.int .i64 r]),(2,37,[.int .i64 0,.int .i64 0,.int .i64 0,.int .i64 0,.int .i64 0,.slice none 0 0])])) (λ _ s6 _=>M - (intOf s6).toNat)
 case atStart=>exact⟨0,by first | rfl | trivial,Nat.zero_le _,C,R⟩
 case round =>
  obtain⟨i,rfl,O,C,R⟩:=hrel;obtain⟨A5,c5,e5⟩:=C.out.form;rw [List.length_take,HM.out,Nat.min_eq_left O] at e5;subst e5;have K:=R.out;have rm:=K.nth0 0 rfl;obtain⟨q0,q1,q2,q3,q4,q5⟩:=rm.c6;have H:=rm.lt;by_cases hlt:i<M
  ·obtain⟨ba,oa,x,A1,c1,rfl,ae,G,al,ca,cb,cc,cd,Z⟩:=aO.out.at_ (i:=i) (by rw [HM.out];exact hlt);have D:=K.bel;have ca:=(D.cell (p:=⟨ba,oa+i*5,none⟩) G).trans ca;have cb:=(D.cell (p:=⟨ba,oa+i*5+1,none⟩) G).trans cb;have cc:=(D.cell (p:=⟨ba,oa+i*5+2,none⟩) G).trans cc;have cd:=(D.cell (p:=⟨ba,oa+i*5+3,none⟩) G).trans cd;have Z:=(D.cell (p:=⟨ba,oa+i*5+4,none⟩) G).trans Z;have G:=Nat.lt_of_lt_of_le G D.size;have C1:=kD (CO.out x A1 c1 wr (al.keep (.below D)) (aM.out x (List.mem_of_getElem? ae)));have HT:=kD (show es.take (i+1)=es.take i++[x] from takeS ae);obtain⟨xk,xa,xb,xs,xr⟩:=x;simp only at ca cb cc cd Z C1;obtain⟨m,hm⟩:∃ m,xs.length=m:=⟨_,rfl⟩;rw [hm] at cd C1;clear ae al D hm;go_wp2_with fail;refine C1.out.mono ?_;rintro f w2 ⟨A',c',rfl,S,hb⟩;have aU:=hb.size;have K:=R.out.below hb;have aV:=(K.nth 2 rfl).lt;have aB:=(R.out.nth 2 rfl).lt;obtain⟨rs,ab,P,ac⟩:=Evs.app C.out (by omega) (grown_bel (row:=some w.heap.size) (hb.alloc hb.size (.cells #[.int .i64 xk,.int .i64 xa,.int .i64 xb,.slice A' m c',.int .i64 xr] 28))) (by omega) xk xa xb xr (.slice A' m c') xs ((S.alloc _).more (by simp));rw [List.length_take,HM.out,Nat.min_eq_left O] at P;have az:=kD ac;have aa:=kD (K.below ((Below.refl _ _).alloc (Nat.le_refl _) (.cells #[.int .i64 xk,.int .i64 xa,.int .i64 xb,.slice A' m c',.int .i64 xr] 28)));have E:=C.out.block;have ah:=kD E;clear E ac S K R C q0 q1 q2 q3 q4 q5 H rm ca cb cc cd Z G hb C1;go_wp2_with (at_builtin;refine wpL_one rfl _ _ _ rfl (w.heap.size+3) _ 28 i5 (.agg #[.int .i64 0,.int .i64 0,.int .i64 0,.slice none 0 0,.int .i64 0]) 5 56 Tryz.underlying35 ao ak aj ai rfl (by decide) enEv_len (.slice A5 i c5) rs (xk,xa,xb,.slice A' m c',xr) (one_Ev _ rfl) rfl ab w2.heap.size 1 28 (by first | rfl | (simp;rfl)) (RowB.new _ _ _) ?c1 ?c2 ?c3 ?_)
   case c1=>unfold maxLen;omega
   case c2=>omega
   case c3=>first | omega | (simp;omega)
   intro g aK w3 S hg aq an;have ag:=kD (az.out g _ _ _ S hg (aq.imp id (λ h=>by rw [World.size_alloc];exact h)))
   try rw [P] at ag
   have K3:Gm.Rows w w3 [(0,37,[.int .i64 v.p,.int .i64 v.c,.int .i64 v.h,.int .i64 v.s,.int .i64 n,.slice (some ⟨ba,oa,none⟩) M ce]),(1,28,[.int .i64 k,.int .i64 a,.int .i64 b,.slice As N cs,.int .i64 r]),(2,37,[.int .i64 0,.int .i64 0,.int .i64 0,.int .i64 0,.int .i64 0,.slice none 0 0])]:=⟨aa.out.bel.grown hg aa.out.bel.size (λ q hq=>by have:=(ah.out q hq).1;omega),λ p J=>by
    have h0:=aa.out.at_ _ J;simp only [List.mem_cons,List.not_mem_nil,or_false] at J;rcases J with rfl | rfl | rfl <;> exact h0.grown hg (λ q hq=>by have:=(ah.out q hq).1;simp only;omega)⟩
   have aN:=kD K3;have aP:Hid (Evs w3 (w.heap.size+3) (.slice (some ⟨g,0,none⟩) (i+1) aK) (es.take (i+1))):=by
    show Evs _ _ _ _
    rw [HT.out];exact ag.out
   have aT:IntKind.i64.wrap ((i:Int)+1)=(i:Int)+1:=IntWalk.i64_in _ (by omega)
   try rw [P]
   clear S hg aq an ag K3 ab az aa ah P;go_wp2_with fail;go_roundw
   case rel=>exact⟨i+1,by first | rfl | go_num,by omega,aP,aN⟩
   case measure=>simp [intOf];omega
  ·obtain rfl:M=i:=by omega
   have HX:Hid (es.take M=es):=kD (by rw [<-HM.out];exact List.take_length);rw [HX.out] at C;have aQ:=kD (λ(y:World) (h9:Below wr.heap.size wr y)=>CE.out y (K.bel.trans (h9.mono K.bel.size)));go_upto_region 6 with fail;clear q0 q1 q2 q3 q4 q5 H rm;have aB:=(K.nth 2 rfl).lt;clear K;refine region_rel [some 24,some 25,some 26,some 27,some 28,some 29,some 30,some 31,some 32,some 33,none] 11 (Pl [some (.pointer (some ⟨w.heap.size,0,none⟩)),some (.agg #[.int .i64 v.p,.int .i64 v.c,.int .i64 v.h,.int .i64 v.s]),some (.pointer (some ⟨w.heap.size,4,none⟩)),some (.int .i64 n),some (.slice A5 M c5),some (.agg #[.int .i64 k,.int .i64 a,.int .i64 b,.slice As N cs,.int .i64 r]),none,none,none,none,none]) (λ L l w'=>AdF w wr (w.heap.size+3) (.slice A5 M c5) v n (es++[⟨k,a,b,ss,r⟩]) ⟨k,a,b,ss,r⟩ N (λ W=>Gm.Rows w W [(0,37,[.int .i64 v.p,.int .i64 v.c,.int .i64 v.h,.int .i64 v.s,.int .i64 n,.slice Ae M ce]),(1,28,[.int .i64 k,.int .i64 a,.int .i64 b,.slice As N cs,.int .i64 r]),(2,37,[.int .i64 0,.int .i64 0,.int .i64 0,.int .i64 0,.int .i64 0,.slice none 0 0])]) (L 6) (L 7) (L 8) (L 9) (L 10) (l 6) (l 7) (l 8) (l 9) w') (by kernel_rfl) (by kernel_rfl) (by kernel_rfl) (by kernel_rfl) (by kernel_rfl) (by kernel_rfl) (by first | kernel_rfl | rfl) ?g0_1 ?gst_1 ?gfin_1
   case g0_1=>exact⟨λ _=>R.out.below (Below.refl _ _).drew,λ _=>(Below.refl _ _).drew,λ h=>absurd h (by decide),λ h=>absurd h (by decide),λ h=>absurd h (by decide),λ h=>absurd h (by decide),λ h=>absurd h (by decide)⟩
   case gst_1 =>
    refine rN rfl (λ L l A y d o j U F K B=>?_) ?_
    ·have e2:=U.w 2 (.pointer (some ⟨w.heap.size,0,none⟩));have t:=F.rw (λ h=>d (j 10 0 (by kernel_rfl) h));obtain⟨q0,q1,q2,q3,q4,q5⟩:=(t.nth0 0 rfl).c6;have H:=(t.nth0 0 rfl).lt;obtain⟨r0,r1,r2,r3,r4⟩:=(t.nth 1 rfl).c5;have V:=(t.nth 1 rfl).lt;clear t;go_simp;exact pF B (F.skip 0 _)
    refine rN rfl (λ L l A y d o j U F K B=>?_) ?_
    ·have a2:=U.v 0 24;have t:=F.rw (λ h=>d (j 10 1 (by kernel_rfl) h));obtain⟨q0,q1,q2,q3,q4,q5⟩:=(t.nth0 0 rfl).c6;have H:=(t.nth0 0 rfl).lt;obtain⟨r0,r1,r2,r3,r4⟩:=(t.nth 1 rfl).c5;have V:=(t.nth 1 rfl).lt;clear t;go_simp;exact pF B (F.skip 1 _)
    refine rN rfl (λ L l A y d o j U F K B=>?_) ?_
    ·have e2:=U.w 2 (.pointer (some ⟨w.heap.size,0,none⟩));have t:=F.rw (λ h=>d (j 10 2 (by kernel_rfl) h));obtain⟨q0,q1,q2,q3,q4,q5⟩:=(t.nth0 0 rfl).c6;have H:=(t.nth0 0 rfl).lt;obtain⟨r0,r1,r2,r3,r4⟩:=(t.nth 1 rfl).c5;have V:=(t.nth 1 rfl).lt;clear t;go_simp;exact pF B (F.skip 2 _)
    refine rN rfl (λ L l A y d o j U F K B=>?_) ?_
    ·have a0:=U.v 2 26;have t:=F.rw (λ h=>d (j 10 3 (by kernel_rfl) h));obtain⟨q0,q1,q2,q3,q4,q5⟩:=(t.nth0 0 rfl).c6;have H:=(t.nth0 0 rfl).lt;obtain⟨r0,r1,r2,r3,r4⟩:=(t.nth 1 rfl).c5;have V:=(t.nth 1 rfl).lt;clear t;go_simp;exact pF B (F.skip 3 _)
    refine rN rfl (λ L l A y d o j U F K B=>?_) ?_
    ·have e5:=U.w 5 (.slice A5 M c5);have t:=F.rw (λ h=>d (j 10 4 (by kernel_rfl) h));clear t;go_simp;exact pF B (F.skip 4 _)
    refine rN rfl (λ L l A y d o j U F K B=>?_) ?_
    ·have e3:=U.w 3 (.pointer (some ⟨w.heap.size+1,0,none⟩));have t:=F.rw (λ h=>d (j 10 5 (by kernel_rfl) h));obtain⟨q0,q1,q2,q3,q4,q5⟩:=(t.nth0 0 rfl).c6;have H:=(t.nth0 0 rfl).lt;obtain⟨r0,r1,r2,r3,r4⟩:=(t.nth 1 rfl).c5;have V:=(t.nth 1 rfl).lt;clear t;go_simp;exact pF B (F.skip 5 _)
    refine rN rfl (λ L l A y d o j U F K B=>?_) ?_
    ·have aY:=U.v 5 29;have z:=F.pre (λ h=>d (j 8 6 (by kernel_rfl) h));go_simp;refine(aQ.out y z).mono ?_;rintro f w6 ⟨A7,c7,rfl,S,ap⟩;exact B.out _ w6 (Pl.any rfl) ⟨λ h=>(F.rw (λ q=>h (.inr q))).below ap,λ _=>z.trans (ap.mono z.size),λ _ _=>⟨A7,c7,upd_same _ _ _,S.less z.size⟩,λ h hn=>absurd (j 7 6 (by kernel_rfl) (rL h)) d,λ h=>absurd (j 8 6 (by kernel_rfl) (rL h)) d,λ h=>absurd (j 9 6 (by kernel_rfl) (rL h)) d,λ h=>absurd (j 10 6 (by kernel_rfl) (rL h)) d⟩
    refine rN rfl (λ L l A y d o j U F K B=>?_) ?_
    ·have ay:=U.x 6 30;have z:=F.pre (λ h=>d (j 8 7 (by kernel_rfl) h));refine(F.f6 (bK o 6) (λ h=>d (j 8 7 (by kernel_rfl) h))).elim λ A7 q=>?_
     refine q.elim λ c7 q=>?_
     have aS:=ay.trans q.1;have S:=q.2;have qv:=q.1;clear ay q;go_simp;exact B.out _ _ (Pl.any rfl) ⟨λ h=>(F.rw (λ q=>h (.inr q))).below ((Below.refl _ _).alloc (Nat.le_refl _) _),λ _=>z.alloc z.size _,λ _ _=>⟨A7,c7,by rw [upd_ne (by decide)];exact qv,(S.alloc _).more (by simp)⟩,λ _ _=>⟨A7,c7,y.heap.size,upd_same _ _ _,RowB.new _ _ _,(S.alloc _).more (by simp)⟩,λ h=>absurd (j 8 7 (by kernel_rfl) (rL h)) d,λ h=>absurd (j 9 7 (by kernel_rfl) (rL h)) d,λ h=>absurd (j 10 7 (by kernel_rfl) (rL h)) d⟩
    refine rN rfl (λ L l A y d o j U F K B=>?_) ?_
    ·have aJ:=U.v 4 28;have aI:=U.x 7 31;have z:=F.pre d;refine(F.f7 (bK o 7) d).elim λ A7 q=>?_
     refine q.elim λ c7 q=>?_
     refine q.elim λ gq q=>?_
     have hE:=Evs.app C.out (by omega) (grown_bel (row:=some w.heap.size) z) (by omega) k a b r (.slice A7 N c7) ss q.2.2;refine hE.elim λ rs hE=>?_
     have P:rs.length=M:=hE.2.1.trans HM.out;have E:=C.out.block;refine wp_one _ _ _ rfl (w.heap.size+3) y.heap.size 28 i5 (.agg #[.int .i64 0,.int .i64 0,.int .i64 0,.slice none 0 0,.int .i64 0]) 5 56 Tryz.underlying35 ao ak aj ai rfl (by decide) enEv_len (.slice A5 M c5) rs (k,a,b,.slice A7 N c7,r) (one_Ev _ rfl) (ev aJ) hE.1 gq 1 28 ((ev aI).trans q.1) q.2.1 (by unfold maxLen;omega) (by omega) (by have:=z.size;omega) ?_;intro ar aL ad am I af aC;have Q:=hE.2.2 ar _ _ ad am I af;have KW:=F.rw (λ h=>d (j 10 8 (by kernel_rfl) h));have KR:Gm.Rows w ad [(0,37,[.int .i64 v.p,.int .i64 v.c,.int .i64 v.h,.int .i64 v.s,.int .i64 n,.slice Ae M ce]),(1,28,[.int .i64 k,.int .i64 a,.int .i64 b,.slice As N cs,.int .i64 r]),(2,37,[.int .i64 0,.int .i64 0,.int .i64 0,.int .i64 0,.int .i64 0,.slice none 0 0])]:=⟨KW.bel.grown I KW.bel.size (λ i O=>by have:=(E i O).1;omega),λ p J=>by
      have h0:=KW.at_ _ J;simp only [List.mem_cons,List.not_mem_nil,or_false] at J;rcases J with rfl | rfl | rfl <;> exact h0.grown I (λ i O=>by have:=(E i O).1;simp only;omega)⟩
     exact B.out _ ad (Pl.any rfl) ⟨λ _=>KR,λ h=>absurd (.inl rfl) h,λ _ h=>absurd (.inl rfl) h,λ _ h=>absurd (.inl rfl) h,λ _ _=>⟨ar,_,aL,upd_same _ _ _,by rw [upd_same];exact Q,below_grown z I⟩,λ h=>absurd (j 9 8 (by kernel_rfl) (rL h)) d,λ h=>absurd (j 10 8 (by kernel_rfl) (rL h)) d⟩
    refine rN rfl (λ L l A y d o j U F K B=>?_) ?_
    ·have a1:=U.v 1 25;have aZ:=U.v 3 27;have ax:=U.x 8 32;refine(F.f8 (bK o 8) (λ h=>d (j 10 9 (by kernel_rfl) h))).elim λ Y q=>?_
     refine q.elim λ m8 q=>?_
     refine q.elim λ T q=>?_
     have aR:=ax.trans q.1;clear ax;have qv:=q.1;go_simp;exact B.out _ y (Pl.any rfl) ⟨λ h=>F.rw (λ q=>h (.inr q)),λ h=>F.pre (λ X=>h (.inr X)),λ h X=>absurd (.inr (bK o 8)) X,λ h X=>absurd (.inr (bK o 8)) X,λ _ _=>⟨Y,m8,T,by rw [upd_ne (by decide)];exact q⟩,λ _=>⟨Y,m8,T,by rw [upd_ne (by decide)];exact qv,by rw [upd_same,upd_ne (by decide),qv]⟩,λ h=>absurd (j 10 9 (by kernel_rfl) (rL h)) d⟩
    refine rN rfl (λ L l A y d o j U F K B=>?_) ?_
    ·have e4:=U.w 4 (.pointer (some ⟨w.heap.size+2,0,none⟩));have aH:=U.x 9 33;refine(F.f8 (bK o 8) d).elim λ Y q=>?_
     refine q.elim λ m8 q=>?_
     refine q.elim λ T q=>?_
     have q9:=F.f9 (bK o 9);refine q9.elim λ g9 q9=>?_
     refine q9.elim λ m9 q9=>?_
     refine q9.elim λ c9 q9=>?_
     have E:=C.out.block;have rr:=(R.out.nth 2 rfl).grown q.2.2 (λ i O=>by have:=(E i O).1;omega);have aA:l 9=.agg #[.int .i64 v.p,.int .i64 v.c,.int .i64 v.h,.int .i64 v.s,.int .i64 n,.slice (some ⟨Y,0,none⟩) m8 T]:=by rw [q9.2,q.1]
     refine wp_sm 37 _ _ rfl (w.heap.size+2) 0 [.int .i64 v.p,.int .i64 v.c,.int .i64 v.h,.int .i64 v.s,.int .i64 n,.slice (some ⟨Y,0,none⟩) m8 T] _ (ev e4) (ev (aH.trans aA)) 37 rr (by kernel_rfl) (Nat.le_refl _) rfl ?_;exact B.out undef _ (Pl.any rfl) ⟨λ h=>absurd (.inl rfl) h,λ h=>absurd (.inr (bK o 8)) h,λ h X=>absurd (.inr (bK o 8)) X,λ h X=>absurd (.inr (bK o 8)) X,λ h aF=>absurd (.inl rfl) aF,λ _=>⟨Y,m8,T,by rw [upd_ne (by decide)];exact q.1,by rw [upd_ne (by decide),upd_ne (by decide)];exact q9.2⟩,λ _=>⟨Y,m8,T,by rw [upd_ne (by decide)];exact q.1,by rw [upd_ne (by decide)];exact Evs.low q.2.1 (grown_cells _ _ _ _) (by omega),by rw [upd_ne (by decide),q.1];exact row_cells _ _ _ _ rr,(R.out.bel.grown q.2.2 R.out.bel.size (λ i O=>by have:=(E i O).1;omega)).grown (grown_cells _ _ _ _) (by have:=q.2.2.size;have:=R.out.bel.size;omega) (λ i O=>by simp at O;omega)⟩⟩
    exact RelFrom.nil (by decide)
   intro l y J F;simp only [Fr,Act.put,sX,Nat.reduceAdd];obtain⟨Y,m8,T,e8,Q,rr,aD⟩:=F.f10 trivial;obtain⟨A8,a3,aw⟩:=Q.form;have e9:=e8.symm.trans aw;simp only [Value.slice.injEq] at e9;rw [List.length_append,HM.out] at e9;obtain⟨aG,av,rfl⟩:=e9;simp only [List.length_cons,List.length_nil,Nat.zero_add] at av;subst av;rw [e8] at rr Q;clear F J aw aG;obtain⟨z0,z1,z2,z3,z4,z5⟩:=rr.c6;have aX:=rr.lt
   repeat (first | go_values | go_skip | go_step | go_upon)
   refine bodyPost_ret (v:=.agg #[.int .i64 v.p,.int .i64 v.c,.int .i64 v.h,.int .i64 v.s,.int .i64 n,.slice (some ⟨Y,0,none⟩) (M+1) T]) (by simp [results,Tryz.results47,go_sem,z0,z1,z2,z3,z4,z5]) rfl ?_;exact⟨_,T,rfl,Q.less (by omega),aD⟩
end DwC
namespace Gm
open Go Go.ChangeShapes Go.WideShapes Go.ChangeAt Go.RowKit Base Ints Own RelG PlP TxP Num Bd1 Bd5 Bd8 RegInv RegF RegG TxI
def Bld (b:Nat) (l:By) (w:World):Prop:=Lib.IsBuilderF 71 5 b b (Lib.byteCells l) w
section
variable {b:Nat} {l:By} {w w':World}
end
theorem Evs.evl {w:World} {lo:Nat} {A:Option Addr} {m c:Nat} {es:List Ev} (h:Evs w lo (.slice A m c) es):EvL w All A es:=by
 obtain⟨j,n,g,s⟩:=h;obtain⟨v,t,e,d⟩:=n.form enEv_len;simp only [Value.slice.injEq] at e;obtain⟨rfl,-,-⟩:=e;refine⟨j,RdF.of d (Nat.le_refl _) (λ _ _=>trivial),g.1,λ i r x l k=>?_⟩;obtain⟨a,b⟩:=g.2 i r x l k;obtain⟨q,p,o,f⟩:=b.1.form enSt_len;exact⟨a,q,p,o,RdF.of f (Nat.le_refl _) (λ _ _=>trivial)⟩
end Gm
namespace DwD
open Go Go.ChangeShapes Go.WideShapes Go.ChangeAt Go.RowKit Base Ints Own RelG PlP TxP Gm RegInv RegF RegG Bd1 Bd5 Draw DrawD DwP DwQ DwA DwB DwC
structure Kd (w0 wb:World) (B g:Nat) (A:Option Addr) (cp:Nat) (xs:List Int) (st:Nat × Int) (g6 g7:Nat) (EX:List (Nat × TypeId × List Value)) (v:Vr) (n:Int) (ev:Value) (es:List Ev) (su u1 u2:Value) (x:Ms) (W:World):Prop where
 D:Dx w0 B g A cp xs st W
 gr:wb.grownBy W (some g)
 ex:∀ p ∈ EX,RowB W p.1 p.2.1 p.2.2∧wb.heap.size<=p.1∧p.1<g6
 r6:RowB W g6 37 [.int .i64 v.p,.int .i64 v.c,.int .i64 v.h,.int .i64 v.s,.int .i64 n,ev]
 r7:RowB W g7 57 (msC su u1 u2 x)
 ms:MsR W (λ b=>wb.heap.size<=b∧b≠g6∧b≠g7) su u1 u2 x
 es:Evs W (g7+1) ev es
 lo:g<wb.heap.size∧wb.heap.size<=g6∧g6<g7
section
variable {w0 wb W W':World} {B g cp:Nat} {A:Option Addr} {xs:List Int} {st st':Nat × Int} {g6 g7:Nat} {EX:List (Nat × TypeId × List Value)} {v:Vr} {n:Int} {ev:Value} {es:List Ev} {su u1 u2:Value} {x:Ms}
theorem Kd.next (K:Kd w0 wb B g A cp xs st g6 g7 EX v n ev es su u1 u2 x W) (hD:Dx w0 B g A cp xs st' W') (hg:W.grownBy W' (some g)):Kd w0 wb B g A cp xs st' g6 g7 EX v n ev es su u1 u2 x W':=by
 have l:=K.lo;exact⟨hD,grownBy_trans K.gr hg,λ p b=>⟨(K.ex p b).1.grown hg (λ k a=>by simp at a;have:=(K.ex p b).2.1;omega),(K.ex p b).2⟩,K.r6.grown hg (λ k a=>by simp at a;omega),K.r7.grown hg (λ k a=>by simp at a;omega),K.ms.keep (Still.grown hg (λ k a c=>by simp at a;have:=c.1;omega)),K.es.low hg (by omega),l⟩
theorem Kd.below (K:Kd w0 wb B g A cp xs st g6 g7 EX v n ev es su u1 u2 x W) (hb:Below W.heap.size W W'):Kd w0 wb B g A cp xs st g6 g7 EX v n ev es su u1 u2 x W' :=
 ⟨K.D.below hb K.D.lt,grownBy_trans K.gr (grown_bel hb),λ p hp=>⟨(K.ex p hp).1.below hb (K.ex p hp).1.lt,(K.ex p hp).2⟩,K.r6.below hb K.r6.lt,K.r7.below hb K.r7.lt,K.ms.below hb,K.es.below hb,K.lo⟩
theorem Kd.put7 {su' u1' u2':Value} {x':Ms} (K:Kd w0 wb B g A cp xs st g6 g7 EX v n ev es su u1 u2 x W) (h:RowB W' g7 57 (msC su' u1' u2' x')) (hg:W.grownBy W' (some g7)) (hm:MsR W (λ b=>wb.heap.size<=b∧b≠g6∧b≠g7) su' u1' u2' x'):Kd w0 wb B g A cp xs st g6 g7 EX v n ev es su' u1' u2' x' W':=by
 have l:=K.lo;have e:=K.D.base;exact⟨K.D.grown hg (λ k a=>by simp at a;omega) (λ k a=>by simp at a;omega),grown_own K.gr hg (λ k a=>by simp at a;omega),λ p c=>⟨(K.ex p c).1.grown hg (λ k a=>by simp at a;have:=(K.ex p c).2.2;omega),(K.ex p c).2⟩,K.r6.grown hg (λ k a=>by simp at a;omega),h,hm.keep (Still.grown hg (λ k a d=>by simp at a;exact d.2.2 a.symm)),K.es.low hg (by omega),l⟩
theorem Kd.put6 {ev':Value} {es':List Ev} (K:Kd w0 wb B g A cp xs st g6 g7 EX v n ev es su u1 u2 x W) (h:RowB W' g6 37 [.int .i64 v.p,.int .i64 v.c,.int .i64 v.h,.int .i64 v.s,.int .i64 n,ev']) (hg:W.grownBy W' (some g6)) (he:Evs W (g7+1) ev' es'):Kd w0 wb B g A cp xs st g6 g7 EX v n ev' es' su u1 u2 x W':=by
 have l:=K.lo;have e:=K.D.base;exact⟨K.D.grown hg (λ k a=>by simp at a;omega) (λ k a=>by simp at a;omega),grown_own K.gr hg (λ k a=>by simp at a;omega),λ p b=>⟨(K.ex p b).1.grown hg (λ k a=>by simp at a;have:=(K.ex p b).2.2;omega),(K.ex p b).2⟩,h,K.r7.grown hg (λ k a=>by simp at a;omega),K.ms.keep (Still.grown hg (λ k a d=>by simp at a;exact d.2.1 a.symm)),he.low hg (by omega),l⟩
end
def Sh (es:List Ev):Prop:=∀ x ∈ es,x.ss.length<=4
theorem Sh.app {es:List Ev} {e:Ev} (h:Sh es) (he:e.ss.length<=4):Sh (es++[e]):=λ x hx=>by
 rcases List.mem_append.1 hx with hx | hx
 ·exact h x hx
 ·obtain rfl:=List.mem_singleton.1 hx;exact he
def MEnd (f:Mch->St->Prop) (w0 w:World) (B g:Nat) (A:Option Addr) (cp:Nat) (xs:List Int) (e0:Ending) (w':World):Prop :=
 ∃(v:Vr) (n:Int) (es:List Ev) (st':St) (Ae:Option Addr) (ce:Nat),e0=.returned (.agg #[.int .i64 v.p,.int .i64 v.c,.int .i64 v.h,.int .i64 v.s,.int .i64 n,.slice Ae es.length ce])∧f (v,n,es) st'∧(Evs w' w.heap.size (.slice Ae es.length ce) es∧Sh es∧es.length<=290)∧Dx w0 B g A cp xs st' w'∧w.grownBy w' (some g)
section
variable {w0 w:World} {B g cp:Nat} {A:Option Addr} {xs:List Int} {st:Nat × Int}
theorem dr28_x (most:Int) (hmost:0<=most∧most<=200) (h:Dx w0 B g A cp xs st w) :
  Calls Tryz.prog 20 #[.pointer (some ⟨g,0,none⟩),.int .i64 most] w λ e w'=>MEnd (λ M st'=>dr28 xs most st=(M,st')) w0 w B g A cp xs e w':=by
 go_enter Tryz.func20,Tryz.ntmps20;go_wp2_with fail;have K:Ru w0 w B g A cp xs st 37 [.int .i64 0,.int .i64 0,.int .i64 0,.int .i64 0,.int .i64 0,.slice none 0 0] _:=Ru.start h;refine(v08_x K.D).mono ?_;rintro e w1 ⟨v,s1,rfl,⟨hv,ad,h4⟩,hD,hg⟩;have K:=K.next hD hg;have a3:=okV_iff.1 ad;clear hD hg h;go_upto_region 2 with fail;obtain⟨g5,aj⟩:∃ q,w1.heap.size=q:=⟨_,rfl⟩;have bo:w.heap.size<g5:=by rw [<-aj];exact K.rr.lt
 refine wp_gen (λ W'=>Ru w0 w B g A cp xs s1 37 [.int .i64 0,.int .i64 0,.int .i64 0,.int .i64 0,.int .i64 0,.slice none 0 0] W'∧RowB W' g5 25 (vL v)) ⟨K.alloc _,by rw [<-aj];exact RowB.new _ _ _⟩ ?_
 try simp only [aj]
 clear K aj;rintro w2 ⟨K,Z⟩;obtain⟨x0,x1,x2,x3⟩:=Z.c4;have f:=Z.lt;obtain⟨m,hm⟩:∃ m,(if 20<v.p then min most 3 else most)=m:=⟨_,rfl⟩;have HM:=kD hm;have a7:0<=m∧m<=200:=by rw [<-hm];split <;> omega
 clear hm;obtain⟨aX,S⟩:∃ t,decide (20<v.p)=t:=⟨_,rfl⟩;have HT:=kD S;go_upto_if 16 with (fail);go_cut [1] from 17 to 19 (λ s1 wx=>s1=.int .i64 m∧wx=w2)
 case first =>
  cases aX with
  | true =>
   have ah:20<v.p:=of_decide_eq_true HT.out;have hm:=HM.out;rw [if_pos ah] at hm;clear ah S;have e1:(if most<3 then most else 3)=m:=by rw [<-hm];split <;> omega
   have e2:(if 3<most then (3:Int) else most)=m:=by rw [<-hm];split <;> omega
   clear hm;go_wp2_with fail
   all_goals go_meet
   all_goals (refine⟨?_,rfl⟩;first | rfl | (have h7:=HM.out;rw [if_pos (of_decide_eq_true HT.out)] at h7;rw [h7]) | (congr 1;have:=HM.out;have:=of_decide_eq_true HT.out;rw [if_pos (by assumption)] at *;omega))
  | false =>
   have ah:¬ 20<v.p:=of_decide_eq_false HT.out;have hm:=HM.out;rw [if_neg ah] at hm;subst hm;clear ah S;go_wp2_with fail;go_meet;exact⟨rfl,rfl⟩
 case rest =>
  obtain⟨rfl,rfl⟩:=hcut;clear x0 x1 x2 x3 f S HT;obtain⟨a,s2,NA⟩:=K.D.gd.nb 5;have a0:=NA.ge;have a1:=NA.lt (by decide);have aO:=kD NA;have HK:=kD K;have H5:=kD Z;have bg:=kD Z.lt;have bF:=K.lt;have bc:=K.D.base;have bz:=K.gr.size;clear NA K Z;go_upto_region 4 with fail;refine region_rel [some 19,some 20,some 21,some 22,some 23,some 6,none] 7 (Pl [some (.agg #[.int .i64 v.p,.int .i64 v.c,.int .i64 v.h,.int .i64 v.s]),some (.pointer (some ⟨g,0,none⟩)),some (.int .i64 a),some (.int .i64 (1+a)),some (.agg #[.int .i64 v.p,.int .i64 v.c,.int .i64 v.h,.int .i64 v.s,.int .i64 (1+a),.slice none 0 0]),none,none]) (λ L d w'=>SqB w0 wc B g A cp xs [s1,s2] L [2] (L 5) (L 6) (d 5) 37 [.int .i64 0,.int .i64 0,.int .i64 0,.int .i64 0,.int .i64 0,.slice none 0 0] [.int .i64 v.p,.int .i64 v.c,.int .i64 v.h,.int .i64 v.s,.int .i64 (1+a),.slice none 0 0] w') (by kernel_rfl) (by kernel_rfl) (by kernel_rfl) (by kernel_rfl) (by kernel_rfl) (by kernel_rfl) (by first | kernel_rfl | rfl) ?g0_1 ?gst_1 ?gfin_1
  case g0_1=>exact SqB.start HK.out.D rfl (by decide) (by decide) (by decide)
  case gst_1 =>
   refine rN rfl (λ L d A w9 r O P U F K Y=>?_) ?_
   ·have e5:=U.w 5 (.pointer (some ⟨g5,0,none⟩));have rq:=(H5.out.grown F.sq.gr (λ k N=>by simp at N;omega));obtain⟨x0,x1,x2,x3⟩:=rq.c4;have f:=rq.lt;clear rq;have av:IntKind.i64.wrap (1+a)=1+a:=IntWalk.i64_in _ (by omega);go_simp;exact pF Y (F.skip 0 _)
   refine rN rfl (λ L d A w9 r O P U F K Y=>?_) ?_
   ·have e0:=U.w 0 (.pointer (some ⟨g,0,none⟩));have rq:=(H5.out.grown F.sq.gr (λ k N=>by simp at N;omega));obtain⟨x0,x1,x2,x3⟩:=rq.c4;have f:=rq.lt;clear rq;have av:IntKind.i64.wrap (1+a)=1+a:=IntWalk.i64_in _ (by omega);go_simp;exact pF Y (F.skip 1 _)
   refine rN rfl (λ L d A w9 r O P U F K Y=>?_) ?_
   ·have bL:=U.v 1 20;have hD:=F.sq.at_ 0 rfl rfl r pv0;go_simp;refine(nextK hD aO.out.nx (by omega)).mono ?_;rintro e w6 ⟨rfl,bb,a9,-⟩;exact pF Y (F.call (by omega) rfl (i:=0) rfl r pv0 (by decide) bb a9)
   refine rN rfl (λ L d A w9 r O P U F K Y=>?_) ?_
   ·have bJ:=U.v 2 21;have av:IntKind.i64.wrap (1+a)=1+a:=IntWalk.i64_in _ (by omega);go_simp;exact pF Y (F.skip 3 _)
   refine rN rfl (λ L d A w9 r O P U F K Y=>?_) ?_
   ·have bM:=U.v 0 19;have bI:=U.v 3 22;have av:IntKind.i64.wrap (1+a)=1+a:=IntWalk.i64_in _ (by omega);go_simp;exact pF Y (F.skip 4 _)
   refine rN rfl (λ L d A w9 r O P U F K Y=>?_) ?_
   ·go_simp;exact Y.out _ _ (Pl.any rfl) (F.box (λ h=>r (P 6 5 (by kernel_rfl) h)) (by decide))
   refine rN rfl (λ L d A w9 r O P U F K Y=>?_) ?_
   ·have e6:=U.x 5 6;have bf:=U.v 4 23;obtain⟨q,eq,hq,hr⟩:=F.bx (bK O 5) r;have be:=e6;refine wp_sm 37 _ _ rfl q 0 [.int .i64 v.p,.int .i64 v.c,.int .i64 v.h,.int .i64 v.s,.int .i64 (1+a),.slice none 0 0] [.int .i64 0,.int .i64 0,.int .i64 0,.int .i64 0,.int .i64 0,.slice none 0 0] (ev (be.trans eq)) (ev bf) 37 hr (by kernel_rfl) (Nat.le_refl _) rfl ?_;exact Y.out undef _ (Pl.any rfl) (F.wrote (by omega) bc eq hq (row_cells _ _ _ _ hr) (grown_cells _ _ _ _) (by decide))
   exact RelFrom.nil (by decide)
  intro d w9 hp F;simp only [Fr,Act.put,sX,Nat.reduceAdd];obtain⟨g6,e6,a5,R6⟩:=F.fin trivial;have T:=F.sq.end_ 1 rfl rfl rfl (λ o _=>trivial);have K:=HK.out.next T.1 T.2;have Z:=H5.out.grown T.2 (λ k N=>by simp at N;omega);clear F hp T HK H5;rw [e6];clear e6;have br:g5<g6:=Nat.lt_of_lt_of_le bg.out a5;obtain⟨x0,x1,x2,x3⟩:=Z.c4;have f:=Z.lt;have bD:=K.gr.size;have bq:=R6.lt;go_wp2_with fail;refine(fst_s v ad h4 _).mono ?_;rintro e w5 ⟨v6,rfl,⟨su,u1,u2,rfl,W⟩,hb⟩;have a4:=hb.size;have K:=K.below hb;have Z:=Z.below hb Z.lt;have R6:=R6.below hb R6.lt;clear hb x0 x1 x2 x3 f;obtain⟨⟨A0,c0,rfl,-,-⟩,⟨A1,c1,rfl,-,-⟩,⟨A2,c2,rfl,-,-⟩⟩:=id W;have C:=R6.lt;have aa:=kD (show MsR w5 (λ b=>w.heap.size<=b∧b≠g6∧b≠w5.heap.size) _ _ _ (startS v) from W.weak (λ b h hl=>by
   have h:=h.elim False.elim id;omega))
  clear W;simp only [msC,List.length_cons,List.length_nil,Nat.zero_add,Nat.reduceAdd];go_upto_region 6 with fail;refine wp_gen (λ W'=>Kd w0 w B g A cp xs s2 g6 w5.heap.size [(w.heap.size,37,[.int .i64 0,.int .i64 0,.int .i64 0,.int .i64 0,.int .i64 0,.slice none 0 0]),(g5,25,[.int .i64 v.p,.int .i64 v.c,.int .i64 v.h,.int .i64 v.s])] v (1+a) (.slice none 0 0) [] (.slice A0 2 c0) (.slice A1 (startS v).g.b.1.length c1) (.slice A2 (startS v).g.b.2.length c2) (startS v) W') ⟨K.D.alloc _,(K.alloc _).gr,λ p hp=>?_,R6.alloc _,RowB.new _ _ _,aa.out.keep (.below ((Below.refl _ _).alloc (Nat.le_refl _) _)),Evs.nil _ _,by omega,by omega,C⟩ ?_
  ·simp only [List.mem_cons,List.not_mem_nil,or_false] at hp;rcases hp with rfl | rfl
   ·exact⟨K.rr.alloc _,Nat.le_refl _,by simp only;omega⟩
   ·exact⟨Z.alloc _,by simp only;omega,by simp only;omega⟩
  obtain⟨g7,aI⟩:∃ q,w5.heap.size=q:=⟨_,rfl⟩;rw [aI] at aa ⊢;clear K aa Z R6 aI C a4;intro w6 K;have aS:=kD (λ(k:Nat) (s3:St) (R:List Ev × St) (n2:Nx xs s2 (m+1) (k:Int) s3) (hR:go28 xs v (1+a) k (startS v) [] s3=R)=>dr28_of hv HM.out aO.out.nx n2 hR);clear hv;have a6:IntKind.i64.wrap (m+1)=m+1:=IntWalk.i64_in _ (by omega);go_wp2_with fail;refine(nextX K.D (m+1) (by omega)).mono ?_;rintro e w7 ⟨z,s3,⟨rfl,z0,z1,-,nz⟩,hD,hg,-⟩;have z1:=z1 (by omega);obtain⟨kk,rfl⟩:∃ q:Nat,z=q:=⟨z.toNat,by omega⟩;have a8:kk<=200:=by omega
  have HK:=kD (K.next hD hg);obtain⟨R,aA⟩:∃ R,go28 xs v (1+a) kk (startS v) [] s3=R:=⟨_,rfl⟩;have bl:=kD (aS.out kk s3 R nz aA);have HV:Hid (Go28 xs v (1+a) kk (startS v) [] s3 R):=kD aA;have Q:=kD (start_ms (v:=v) (len:=1+a) (by unfold headB;simp only [Bool.and_eq_true,decide_eq_true_eq];exact⟨⟨ad,h4⟩,by omega,by omega⟩));have bN:=kD (And.intro ad h4);have aE:=K.lo;clear hD hg K nz aA aS HM hmost a7 a6 z0 z1 ad h4 a3;go_wp2_with fail;go_loopw [8,9,10,11] (λ s8 _ _ _ wr=>∃(j i:Nat) (x:Ms) (es:List Ev) (aM su u1 u2:Value) (ai:St),s8=.int .i64 (j:Int)∧i+j<=200∧es.length<=i∧Hid (Kd w0 w B g A cp xs ai g6 g7 [(w.heap.size,37,[.int .i64 0,.int .i64 0,.int .i64 0,.int .i64 0,.int .i64 0,.slice none 0 0]),(g5,25,[.int .i64 v.p,.int .i64 v.c,.int .i64 v.h,.int .i64 v.s])] v (1+a) aM es su u1 u2 x wr)∧Hid (MsOk v (1+a) i x)∧Hid (Sh es)∧Hid (Go28 xs v (1+a) j x es ai R)) (λ s8 _ _ _ _=>(intOf s8).toNat)
  case atStart=>exact⟨kk,0,startS v,[],_,_,_,_,_,by first | rfl | trivial,by omega,Nat.le_refl _,HK,Q,kD (λ x hx=>absurd hx List.not_mem_nil),HV⟩
  case round =>
   obtain⟨j,i,x,es,aM,su,u1,u2,ai,rfl,bH,aK,HK,Q,am,HV⟩:=hrel;have K:=HK.out;obtain⟨Ae,ce,bd⟩:=K.es.form;subst bd;obtain⟨L,hL⟩:∃ L,es.length=L:=⟨_,rfl⟩;rw [hL] at K aK;have HL:=kD hL;by_cases j0:0<j
   ·obtain⟨j,rfl⟩:∃ q,j=q+1:=⟨j - 1,by omega⟩;obtain⟨⟨B0,d0,rfl,-,-⟩,⟨B1,d1,rfl,-,-⟩,⟨B2,d2,rfl,-,-⟩⟩:=id K.ms;simp only [List.length_cons,List.length_nil,Nat.zero_add,Nat.reduceAdd] at K;have bA:=K.gr.size;have bE:=K.r7.lt;have aE:=K.lo;obtain⟨q0,q1,q2,q3,q4,q5⟩:=K.r6.c6;have C:=K.r6.lt;obtain⟨y0,y1,y2,y3,y4,y5,y6,y7,y8,y9,J,I⟩:=row12 K.r7;have ae:=K.r7.lt;obtain⟨x0,x1,x2,x3⟩:=(K.ex (g5,25,[.int .i64 v.p,.int .i64 v.c,.int .i64 v.h,.int .i64 v.s]) (by simp)).1.c4;have f:=(K.ex (g5,25,[.int .i64 v.p,.int .i64 v.c,.int .i64 v.h,.int .i64 v.s]) (by simp)).1.lt;have aT:=kD (ev28_x v x Q.out.gm (λ b=>w.heap.size<=b∧b≠g6∧b≠g7) (λ hs=>by have:=hs.1;omega) _ _ _ K.ms K.D);clear HK hL;go_wp2_with fail;refine aT.out.mono ?_;rintro e wE ⟨e1,s5,As,cs,rfl,aJ,⟨ax,az⟩,hD,hg⟩;have aR:=kD (K.next hD hg);have an:=kD aJ;have aZ:=hg.size;obtain⟨X,hX⟩:∃ X,nextS v (1+a) x e1=X:=⟨_,rfl⟩;obtain⟨ek,ea,eb,ss,er⟩:=e1;simp only at ax az ⊢;obtain⟨sl,aw⟩:∃ q,ss.length=q:=⟨_,rfl⟩;have aN:=kD aw;have E:=kD ax;have HX:=kD hX;have aP:=kD az;rw [aw];clear aT hD hg aJ ax hX az aw K q0 q1 q2 q3 q4 q5 C y0 y1 y2 y3 y4 y5 y6 y7 y8 y9 J I ae x0 x1 x2 x3 f;go_upto_region 10 with fail;obtain⟨g9,af⟩:∃ q,wE.heap.size=q:=⟨_,rfl⟩;refine wp_gen (λ W'=>Below wE.heap.size wE W'∧RowB W' g9 28 [.int .i64 ek,.int .i64 ea,.int .i64 eb,.slice As sl cs,.int .i64 er]) ⟨(Below.refl _ _).alloc (Nat.le_refl _) _,by rw [<-af];exact RowB.new _ _ _⟩ ?_
    try simp only [af]
    have bt:wr.heap.size<=g9:=by rw [<-af];exact aZ
    rintro w8 ⟨ak,H⟩;rw [<-af] at ak;clear af;have K:=aR.out.below ak;have E:=kD (E.out.keep (.below ak));have bm:=K.gr.size;have bp:=K.r7.lt;have CN:=next_s v (1+a) i x Q.out (by omega) (by omega) (λ b=>w.heap.size<=b∧b≠g6∧b≠g7) _ _ _ ⟨ek,ea,eb,ss,er⟩ As cs w8.heap.size w8 (Nat.le_refl _) K.ms E.out.rd X HX.out;simp only at CN;rw [aN.out] at CN;have CN:=kD CN;clear aR ak;obtain⟨q0,q1,q2,q3,q4,q5⟩:=K.r6.c6;have C:=K.r6.lt;obtain⟨y0,y1,y2,y3,y4,y5,y6,y7,y8,y9,J,I⟩:=row12 K.r7;have ae:=K.r7.lt;obtain⟨x0,x1,x2,x3⟩:=(K.ex (g5,25,[.int .i64 v.p,.int .i64 v.c,.int .i64 v.h,.int .i64 v.s]) (by simp)).1.c4;have f:=(K.ex (g5,25,[.int .i64 v.p,.int .i64 v.c,.int .i64 v.h,.int .i64 v.s]) (by simp)).1.lt;obtain⟨k0,k1,k2,k3,k4⟩:=H.c5;have ay:=H.lt;go_wp2_with fail;refine CN.out.mono ?_;rintro e w9 ⟨v6,rfl,⟨B3,m3,f3,B4,m4,f4,B5,m5,f5,y',rfl,ac⟩,ag⟩;have K:=K.below ag;have H:=H.below ag H.lt;have E:=kD (E.out.keep (.below ag));have aC:=kD ac;have a2:=ag.size;clear CN ag ac k0 k1 k2 k3 k4 ay q0 q1 q2 q3 q4 q5 C y0 y1 y2 y3 y4 y5 y6 y7 y8 y9 J I ae x0 x1 x2 x3 f;simp only [msC];go_upto_region 11 with fail;obtain⟨aL,G⟩:∃ q,w9.heap.size=q:=⟨_,rfl⟩;refine wp_gen (λ W'=>Below w9.heap.size w9 W'∧RowB W' aL 57 (msC (.slice B3 m3 f3) (.slice B4 m4 f4) (.slice B5 m5 f5) y')) ⟨(Below.refl _ _).alloc (Nat.le_refl _) _,by rw [<-G];exact RowB.new _ _ _⟩ ?_
    try simp only [G]
    rintro bw ⟨l,al⟩;rw [<-G] at l;have aG:g9<w9.heap.size:=H.lt;have K:=K.below l;have H:=H.below l H.lt;have E:=kD (E.out.keep (.below l));have bG:IntKind.i64.wrap (((j+1:Nat):Int) - 1)=(j:Int):=by rw [IntWalk.i64_in _ (by omega)];omega
    cases X with
    | none =>
     have aq:=kD K;have aB:=kD (go28_none HV.out an.out HX.out);clear aC l G H al K HV an HX;go_wp2_with fail;go_roundw
     case rel=>exact⟨j,i,x,es,_,_,_,_,s5,by first | rfl | go_num,by omega,by rw [HL.out];exact aK,by rw [<-HL.out] at aq;exact aq,Q,am,aB⟩
     case measure=>simp [intOf] <;> omega
    | some y =>
     obtain⟨aY,W⟩:=aC.out _ rfl;subst aY;have bC:=a2;have aa:=kD ((W.weak (S':=λ b=>w.heap.size<=b∧b≠g6∧b≠g7) (λ b h hl=>by
      have h:=h.elim False.elim id;have:=H.lt;omega)).below l)
     have bi:=kD (next_ms (by omega) Q.out HX.out);have aB:=kD (go28_some HV.out an.out HX.out);have ba:g9<aL:=by rw [<-G];exact aG
     clear W aC l G HV an HX;obtain⟨y0,y1,y2,y3,y4,y5,y6,y7,y8,y9,J,I⟩:=row12 al;have aH:=al.lt;have R7:=K.r7;go_upto_region 13 with (first | (refine wM 57 0 (msC (.slice B3 m3 f3) (.slice B4 m4 f4) (.slice B5 m5 f5) y') R7 ?_;intro aW aD V aU));have K2:=K.put7 aD V aa.out;have H:=H.grown V (λ k N=>by simp at N;omega);have E:=kD (E.out.keep (Still.grown V (λ k N hs=>by simp at N;omega)));clear K aa R7 al y0 y1 y2 y3 y4 y5 y6 y7 y8 y9 J I aH aD V aU;have K:=K2;clear K2;obtain⟨q0,q1,q2,q3,q4,q5⟩:=K.r6.c6;have C:=K.r6.lt;obtain⟨y0,y1,y2,y3,y4,y5,y6,y7,y8,y9,J,I⟩:=row12 K.r7;have ae:=K.r7.lt;obtain⟨x0,x1,x2,x3⟩:=(K.ex (g5,25,[.int .i64 v.p,.int .i64 v.c,.int .i64 v.h,.int .i64 v.s]) (by simp)).1.c4;have f:=(K.ex (g5,25,[.int .i64 v.p,.int .i64 v.c,.int .i64 v.h,.int .i64 v.s]) (by simp)).1.lt;obtain⟨k0,k1,k2,k3,k4⟩:=H.c5;have ay:=H.lt;have CA:=add_s v (1+a) es Ae ce ⟨ek,ea,eb,ss,er⟩ As cs aW (K.es.evl) (E.out.weak (λ _ _ _=>trivial)) (by have:=aP.out;simp only;omega) (λ q hq=>by have:=am.out q hq;omega) (by rw [HL.out];omega);simp only at CA;rw [aN.out,HL.out] at CA;have CA:=kD CA;go_wp2_with fail;refine CA.out.mono ?_;rintro e bv ⟨A7,c7,rfl,hE,ap⟩;have bn:=K.r7.lt;have K:=K.below ap;have HE:=kD (hE.less (lo':=g7+1) (by omega));have R6:=K.r6;clear CA hE ap k0 k1 k2 k3 k4 ay H q0 q1 q2 q3 q4 q5 C y0 y1 y2 y3 y4 y5 y6 y7 y8 y9 J I ae x0 x1 x2 x3 f;go_upto_region 8 with (first | (refine wM 37 0 [.int .i64 v.p,.int .i64 v.c,.int .i64 v.h,.int .i64 v.s,.int .i64 (1+a),.slice A7 (L+1) c7] R6 ?_;intro aV ab n ar));have bk:=kD (K.put6 ab n HE.out);have aF:(es++[(⟨ek,ea,eb,ss,er⟩:Ev)]).length=L+1:=by rw [List.length_append,HL.out];rfl
     have bj:=kD aF;have bh:=kD (Sh.app am.out (e:=⟨ek,ea,eb,ss,er⟩) aP.out);clear aF K HE R6 ab n ar;go_wp2_with fail;go_roundw
     case rel=>exact⟨j,i+1,y',_,_,_,_,_,s5,by first | rfl | go_num,by omega,by rw [bj.out];omega,bk,bi,bh,aB⟩
     case measure=>simp [intOf] <;> omega
   ·obtain rfl:j=0:=by omega
    have hR:=go28_end HV.out;subst hR;have HR:=kD bl.out;have ao:es.length<=290:=by rw [HL.out];omega
    have HS:=kD (And.intro am.out ao);obtain⟨q0,q1,q2,q3,q4,q5⟩:=K.r6.c6;have C:=K.r6.lt;have rr:=(K.ex (w.heap.size,37,[.int .i64 0,.int .i64 0,.int .i64 0,.int .i64 0,.int .i64 0,.slice none 0 0]) (by simp)).1;clear HV Q ao hL HK;have aQ:=kD K;clear K;go_wp2_with (refine wM 37 0 [.int .i64 v.p,.int .i64 v.c,.int .i64 v.h,.int .i64 v.s,.int .i64 (1+a),.slice Ae L ce] rr ?_;intro aV ab n ar;refine Hid.out ?_);obtain⟨z0,z1,z2,z3,z4,z5⟩:=ab.c6;have bs:=ab.lt;have K:=aQ.out;have aE:=K.lo;have bB:=K.D.base;have hE:=kD (Evs.less (lo':=w.heap.size) (K.es.low n (by omega)) (by omega));have hD:=kD (K.D.grown n (λ k N=>by simp at N;omega) (λ k N=>by simp at N;omega));have hg:=kD (grown_own K.gr n (λ k N=>by simp at N;omega));clear K aQ rr n ar q0 q1 q2 q3 q4 q5 C;refine kD ?_
    repeat (first | go_values | go_skip | go_step | go_upon)
    refine bodyPost_ret (v:=.agg #[.int .i64 v.p,.int .i64 v.c,.int .i64 v.h,.int .i64 v.s,.int .i64 (1+a),.slice Ae L ce]) (by simp [results,Tryz.results20,go_sem,z0,z1,z2,z3,z4,z5]) rfl ?_;exact⟨v,1+a,es,ai,Ae,ce,by rw [HL.out],HR.out,⟨by rw [HL.out];exact hE.out,HS.out.1,HS.out.2⟩,hD.out,hg.out⟩
end
end DwD
end Go.Proofs.YtjdefiinmicjiaaGreatDoor
