/- Parts of a proof. Conditions: each theorem's own. -/
import Derived.Test.YtjdefiinmicjiaaGreatDoorV19
import Derived.Laws.DeepStrings4
import Derived.Deep.CutBlock
set_option linter.unusedVariables false
set_option linter.unusedSimpArgs false
set_option maxHeartbeats 8000000
set_option maxRecDepth 100000
namespace Go.Proofs.YtjdefiinmicjiaaGreatDoor
open _root_.Go.Proofs.Tryz
namespace Gm
open Go Go.ChangeShapes Go.WideShapes Go.ChangeAt Go.RowKit Base Ints Own RelG PlP TxP Num Bd1 Bd5 Bd8 RegInv RegF RegG TxI TsI
theorem Evs.evl {w:World} {lo:Nat} {A:Option Addr} {m c:Nat} {es:List Ev} (h:Evs w lo (.slice A m c) es):EvL w All A es:=by
 obtain⟨j,n,g,s⟩:=h;obtain⟨v,t,e,d⟩:=n.form enEv_len;simp only [Value.slice.injEq] at e;obtain⟨rfl,-,-⟩:=e;refine⟨j,RdF.of d lR (λ _ _=>trivial),g.1,λ i r x l k=>?_⟩;obtain⟨a,b⟩:=g.2 i r x l k;obtain⟨q,p,o,f⟩:=b.1.form enSt_len;exact⟨a,q,p,o,RdF.of f lR (λ _ _=>trivial)⟩
end Gm
namespace DwD
open Go Go.ChangeShapes Go.WideShapes Go.ChangeAt Go.RowKit Base Ints Own RelG PlP TxP Gm RegInv RegF RegG Bd1 Bd5 Draw DrawD DwP DwQ DwA DwB DwC TsI
structure Kd (w0 wb:World) (B g:Nat) (A:Option Addr) (cp:Nat) (xs:List Int) (st:Nat × Int) (g6 g7:Nat) (EX:List (Nat × TypeId × List Value)) (v:Vr) (n:Int) (ev:Value) (es:List Ev) (su u1 u2:Value) (x:Ms) (W:World):Prop where
 D:Dx w0 B g A cp xs st W
 gr:wb.grownBy W (some g)
 ex:∀ p ∈ EX,RowB W p.1 p.2.1 p.2.2∧wb.heap.size<=p.1∧p.1<g6
 r6:RowB W g6 37 [iL v.p,iL v.c,iL v.h,iL v.s,iL n,ev]
 r7:RowB W g7 57 (msC su u1 u2 x)
 ms:MsR W (λ b=>wb.heap.size<=b∧b≠g6∧b≠g7) su u1 u2 x
 es:Evs W (g7+1) ev es
 lo:g<wb.heap.size∧wb.heap.size<=g6∧g6<g7
section
variable {w0 wb W W':World} {B g cp:Nat} {A:Option Addr} {xs:List Int} {st st':Nat × Int} {g6 g7:Nat} {EX:List (Nat × TypeId × List Value)} {v:Vr} {n:Int} {ev:Value} {es:List Ev} {su u1 u2:Value} {x:Ms}
theorem Kd.next (K:Kd w0 wb B g A cp xs st g6 g7 EX v n ev es su u1 u2 x W) (hD:Dx w0 B g A cp xs st' W') (hg:W.grownBy W' (some g)):Kd w0 wb B g A cp xs st' g6 g7 EX v n ev es su u1 u2 x W':=by
 have l:=K.lo;exact⟨hD,grownBy_trans K.gr hg,λ p b=>⟨(K.ex p b).1.grown hg (λ k a=>by simp at a;have:=(K.ex p b).2.1;omega),(K.ex p b).2⟩,K.r6.grown hg (λ k a=>by simp at a;omega),K.r7.grown hg (λ k a=>by simp at a;omega),K.ms.keep (Still.grown hg (λ k a c=>by simp at a;have:=c.1;omega)),K.es.low hg (by omega),l⟩
theorem Kd.below (K:Kd w0 wb B g A cp xs st g6 g7 EX v n ev es su u1 u2 x W) (hb:zB W W'):Kd w0 wb B g A cp xs st g6 g7 EX v n ev es su u1 u2 x W' :=
 ⟨K.D.below hb K.D.lt,grownBy_trans K.gr (grown_bel hb),λ p hp=>⟨(K.ex p hp).1.below hb (K.ex p hp).1.lt,(K.ex p hp).2⟩,K.r6.below hb K.r6.lt,K.r7.below hb K.r7.lt,K.ms.below hb,K.es.below hb,K.lo⟩
theorem Kd.put7 {su' u1' u2':Value} {x':Ms} (K:Kd w0 wb B g A cp xs st g6 g7 EX v n ev es su u1 u2 x W) (h:RowB W' g7 57 (msC su' u1' u2' x')) (hg:W.grownBy W' (some g7)) (hm:MsR W (λ b=>wb.heap.size<=b∧b≠g6∧b≠g7) su' u1' u2' x'):Kd w0 wb B g A cp xs st g6 g7 EX v n ev es su' u1' u2' x' W':=by
 have l:=K.lo;have e:=K.D.base;exact⟨K.D.grown hg (λ k a=>by simp at a;omega) (λ k a=>by simp at a;omega),grown_own K.gr hg (λ k a=>by simp at a;omega),λ p c=>⟨(K.ex p c).1.grown hg (λ k a=>by simp at a;have:=(K.ex p c).2.2;omega),(K.ex p c).2⟩,K.r6.grown hg (λ k a=>by simp at a;omega),h,hm.keep (Still.grown hg (λ k a d=>by simp at a;exact d.2.2 a.symm)),K.es.low hg (by omega),l⟩
theorem Kd.put6 {ev':Value} {es':List Ev} (K:Kd w0 wb B g A cp xs st g6 g7 EX v n ev es su u1 u2 x W) (h:RowB W' g6 37 [iL v.p,iL v.c,iL v.h,iL v.s,iL n,ev']) (hg:W.grownBy W' (some g6)) (he:Evs W (g7+1) ev' es'):Kd w0 wb B g A cp xs st g6 g7 EX v n ev' es' su u1 u2 x W':=by
 have l:=K.lo;have e:=K.D.base;exact⟨K.D.grown hg (λ k a=>by simp at a;omega) (λ k a=>by simp at a;omega),grown_own K.gr hg (λ k a=>by simp at a;omega),λ p b=>⟨(K.ex p b).1.grown hg (λ k a=>by simp at a;have:=(K.ex p b).2.2;omega),(K.ex p b).2⟩,h,K.r7.grown hg (λ k a=>by simp at a;omega),K.ms.keep (Still.grown hg (λ k a d=>by simp at a;exact d.2.1 a.symm)),he.low hg (by omega),l⟩
end
def Sh (es:List Ev):Prop:=∀ x ∈ es,x.ss.length<=4
theorem Sh.app {es:List Ev} {e:Ev} (h:Sh es) (he:e.ss.length<=4):Sh (es++[e]):=λ x hx=>by
 rcases List.mem_append.1 hx with hx | hx
 ·exact h x hx
 ·obtain rfl:=List.mem_singleton.1 hx;exact he
def MEnd (f:Mch->St->Prop) (w0 w:World) (B g:Nat) (A:Option Addr) (cp:Nat) (xs:List Int) (e0:Ending) (w':World):Prop :=
 ∃(v:Vr) (n:Int) (es:List Ev) (st':St) (Ae:Option Addr) (ce:Nat),e0=.returned (.agg #[iL v.p,iL v.c,iL v.h,iL v.s,iL n,.slice Ae es.length ce])∧f (v,n,es) st'∧(Evs w' w.heap.size (.slice Ae es.length ce) es∧Sh es∧es.length<=290)∧Dx w0 B g A cp xs st' w'∧w.grownBy w' (some g)
section
variable {w0 w:World} {B g cp:Nat} {A:Option Addr} {xs:List Int} {st:Nat × Int}
theorem dr28_x (most:Int) (hmost:0<=most∧most<=200) (h:Dx w0 B g A cp xs st w) :
  Calls prog 20 #[pT g 0,iL most] w λ e w'=>MEnd (λ M st'=>dr28 xs most st=(M,st')) w0 w B g A cp xs e w':=by
 go_enter func20,ntmps20;go_wp2_with fail;have K:Ru w0 w B g A cp xs st 37 [iL 0,iL 0,iL 0,iL 0,iL 0,.slice none 0 0] _:=Ru.start h;refine(v08_x K.D).mono ?_;rintro e w1 ⟨v,s1,rfl,⟨hv,ad,h4⟩,hD,hg⟩;have K:=K.next hD hg;have a3:=okV_iff.1 ad;clear hD hg h;go_upto_region 2 with fail;obtain⟨g5,aj⟩:=eX (w1.heap.size);have bo:w.heap.size<g5:=by rw [<-aj];exact K.rr.lt
 refine wp_gen (λ W'=>Ru w0 w B g A cp xs s1 37 [iL 0,iL 0,iL 0,iL 0,iL 0,.slice none 0 0] W'∧RowB W' g5 25 (vL v)) ⟨K.alloc _,by rw [<-aj];exact nW⟩ ?_
 try simp only [aj]
 clear K aj;rintro w2 ⟨K,Z⟩;obtain⟨x0,x1,x2,x3⟩:=Z.c4;have f:=Z.lt;obtain⟨m,hm⟩:=eX ((if 20<v.p then min most 3 else most));have HM:=kD hm;have a7:0<=m∧m<=200:=by rw [<-hm];split <;> omega
 clear hm;obtain⟨aX,S⟩:=eX (decide (20<v.p));have HT:=kD S;go_upto_if 16 with (fail);go_cut [1] from 17 to 19 (λ s1 wx=>s1=iL m∧wx=w2)
 case first =>
  cases aX with
  | true =>
   have ah:20<v.p:=of_decide_eq_true HT.out;have hm:=HM.out;rw [if_pos ah] at hm;clear ah S;have e1:(if most<3 then most else 3)=m:=by rw [<-hm];split <;> omega
   have e2:(if 3<most then (3:Int) else most)=m:=by rw [<-hm];split <;> omega
   clear hm;go_wp2_with fail
   all_goals go_meet
   all_goals (refine⟨?_,rfl⟩;first | rfl | (have h7:=HM.out;rw [if_pos (of_decide_eq_true HT.out)] at h7;rw [h7]) | (congr 1;have:=HM.out;have:=of_decide_eq_true HT.out;rw [if_pos (by assumption)] at *;omega))
  | false =>
   have ah:¬ 20<v.p:=of_decide_eq_false HT.out;have hm:=HM.out;rw [if_neg ah] at hm;subst hm;clear ah S;go_wp2_with fail;go_meet;exact⟨rfl,rfl⟩
 case rest =>
  obtain⟨rfl,rfl⟩:=hcut;clear x0 x1 x2 x3 f S HT;obtain⟨a,s2,NA⟩:=K.D.gd.nb 5;have a0:=NA.ge;have a1:=NA.lt (by decide);have aO:=kD NA;have HK:=kD K;have H5:=kD Z;have bg:=kD Z.lt;have bF:=K.lt;have bc:=K.D.base;have bz:=K.gr.size;clear NA K Z;go_upto_region 4 with fail;refine region_rel [some 19,some 20,some 21,some 22,some 23,some 6,none] 7 (Pl [some (vA v),some (pT g 0),some (iL a),some (iL (1+a)),some (.agg #[iL v.p,iL v.c,iL v.h,iL v.s,iL (1+a),.slice none 0 0]),none,none]) (λ L d w'=>SqB w0 wc B g A cp xs [s1,s2] L [2] (L 5) (L 6) (d 5) 37 [iL 0,iL 0,iL 0,iL 0,iL 0,.slice none 0 0] [iL v.p,iL v.c,iL v.h,iL v.s,iL (1+a),.slice none 0 0] w') (by kernel_rfl) (by kernel_rfl) (by kernel_rfl) (by kernel_rfl) (by kernel_rfl) (by kernel_rfl) (by first | kernel_rfl | rfl) ?g0_1 ?gst_1 ?gfin_1
  case g0_1=>exact SqB.start HK.out.D rfl (by decide) (by decide) (by decide)
  case gst_1 =>
   refine rN rfl (λ L d A w9 r O P U F K Y=>?_) ?_
   ·have e5:=U.w 5 (pT g5 0);have rq:=(H5.out.grown F.sq.gr (λ k N=>by simp at N;omega));obtain⟨x0,x1,x2,x3⟩:=rq.c4;have f:=rq.lt;clear rq;have av:=iW ((1+a));go_simp;exact pF Y (F.skip 0 _)
   refine rN rfl (λ L d A w9 r O P U F K Y=>?_) ?_
   ·have e0:=U.w 0 (pT g 0);have rq:=(H5.out.grown F.sq.gr (λ k N=>by simp at N;omega));obtain⟨x0,x1,x2,x3⟩:=rq.c4;have f:=rq.lt;clear rq;have av:=iW ((1+a));go_simp;exact pF Y (F.skip 1 _)
   refine rN rfl (λ L d A w9 r O P U F K Y=>?_) ?_
   ·have bL:=U.v 1 20;have hD:=F.sq.at_ 0 rfl rfl r pv0;go_simp;refine(nextK hD aO.out.nx (by omega)).mono ?_;rintro e w6 ⟨rfl,bb,a9,-⟩;exact pF Y (F.call (by omega) rfl (i:=0) rfl r pv0 (by decide) bb a9)
   refine rN rfl (λ L d A w9 r O P U F K Y=>?_) ?_
   ·have bJ:=U.v 2 21;have av:=iW ((1+a));go_simp;exact pF Y (F.skip 3 _)
   refine rN rfl (λ L d A w9 r O P U F K Y=>?_) ?_
   ·have bM:=U.v 0 19;have bI:=U.v 3 22;have av:=iW ((1+a));go_simp;exact pF Y (F.skip 4 _)
   refine rN rfl (λ L d A w9 r O P U F K Y=>?_) ?_
   ·go_simp;exact Y.out _ _ (Pl.any rfl) (F.box (λ h=>r (P 6 5 (by kernel_rfl) h)) (by decide))
   refine rN rfl (λ L d A w9 r O P U F K Y=>?_) ?_
   ·have e6:=U.x 5 6;have bf:=U.v 4 23;obtain⟨q,eq,hq,hr⟩:=F.bx (bK O 5) r;have be:=e6;refine wp_sm 37 _ _ rfl q 0 [iL v.p,iL v.c,iL v.h,iL v.s,iL (1+a),.slice none 0 0] [iL 0,iL 0,iL 0,iL 0,iL 0,.slice none 0 0] (ev (be.trans eq)) (ev bf) 37 hr (by kernel_rfl) lR rfl ?_;exact Y.out undef _ (Pl.any rfl) (F.wrote (by omega) bc eq hq (row_cells _ _ _ _ hr) (grown_cells _ _ _ _) (by decide))
   exact RelFrom.nil (by decide)
  intro d w9 hp F;simp only [Fr,Act.put,sX,Nat.reduceAdd];obtain⟨g6,e6,a5,R6⟩:=F.fin trivial;have T:=F.sq.end_ 1 rfl rfl rfl (λ o _=>trivial);have K:=HK.out.next T.1 T.2;have Z:=H5.out.grown T.2 (λ k N=>by simp at N;omega);clear F hp T HK H5;rw [e6];clear e6;have br:g5<g6:=Nat.lt_of_lt_of_le bg.out a5;obtain⟨x0,x1,x2,x3⟩:=Z.c4;have f:=Z.lt;have bD:=K.gr.size;have bq:=R6.lt;go_wp2_with fail;refine(fst_s v ad h4 _).mono ?_;rintro e w5 ⟨v6,rfl,⟨su,u1,u2,rfl,W⟩,hb⟩;have a4:=hb.size;have K:=K.below hb;have Z:=Z.below hb Z.lt;have R6:=R6.below hb R6.lt;clear hb x0 x1 x2 x3 f;obtain⟨⟨A0,c0,rfl,-,-⟩,⟨A1,c1,rfl,-,-⟩,⟨A2,c2,rfl,-,-⟩⟩:=id W;have C:=R6.lt;have aa:=kD (show MsR w5 (λ b=>w.heap.size<=b∧b≠g6∧b≠w5.heap.size) _ _ _ (startS v) from W.weak (λ b h hl=>by
   have h:=h.elim False.elim id;omega))
  clear W;simp only [msC,List.length_cons,List.length_nil,Nat.zero_add,Nat.reduceAdd];go_upto_region 6 with fail;refine wp_gen (λ W'=>Kd w0 w B g A cp xs s2 g6 w5.heap.size [(w.heap.size,37,[iL 0,iL 0,iL 0,iL 0,iL 0,.slice none 0 0]),(g5,25,[iL v.p,iL v.c,iL v.h,iL v.s])] v (1+a) (.slice none 0 0) [] (.slice A0 2 c0) (.slice A1 (startS v).g.b.1.length c1) (.slice A2 (startS v).g.b.2.length c2) (startS v) W') ⟨K.D.alloc _,(K.alloc _).gr,λ p hp=>?_,R6.alloc _,nW,aa.out.keep (.below ((zRf).alloc lR _)),Evs.nil _ _,by omega,by omega,C⟩ ?_
  ·simp only [List.mem_cons,List.not_mem_nil,or_false] at hp;rcases hp with rfl | rfl
   ·exact⟨K.rr.alloc _,Nat.le_refl _,by simp only;omega⟩
   ·exact⟨Z.alloc _,by simp only;omega,by simp only;omega⟩
  obtain⟨g7,aI⟩:=eX (w5.heap.size);rw [aI] at aa ⊢;clear K aa Z R6 aI C a4;intro w6 K;have aS:=kD (λ(k:Nat) (s3:St) (R:List Ev × St) (n2:Nx xs s2 (m+1) (k:Int) s3) (hR:go28 xs v (1+a) k (startS v) [] s3=R)=>dr28_of hv HM.out aO.out.nx n2 hR);clear hv;have a6:=iW ((m+1));go_wp2_with fail;refine(nextX K.D (m+1) (by omega)).mono ?_;rintro e w7 ⟨z,s3,⟨rfl,z0,z1,-,nz⟩,hD,hg,-⟩;have z1:=z1 (by omega);obtain⟨kk,rfl⟩:∃ q:Nat,z=q:=⟨z.toNat,by omega⟩;have a8:kk<=200:=by omega
  have HK:=kD (K.next hD hg);obtain⟨R,aA⟩:=eX (go28 xs v (1+a) kk (startS v) [] s3);have bl:=kD (aS.out kk s3 R nz aA);have HV:Hid (Go28 xs v (1+a) kk (startS v) [] s3 R):=kD aA;have Q:=kD (start_ms (v:=v) (len:=1+a) (by unfold headB;simp only [Bool.and_eq_true,decide_eq_true_eq];exact⟨⟨ad,h4⟩,by omega,by omega⟩));have bN:=kD (And.intro ad h4);have aE:=K.lo;clear hD hg K nz aA aS HM hmost a7 a6 z0 z1 ad h4 a3;go_wp2_with fail;go_loopw [8,9,10,11] (λ s8 _ _ _ wr=>∃(j i:Nat) (x:Ms) (es:List Ev) (aM su u1 u2:Value) (ai:St),s8=iL (j:Int)∧i+j<=200∧es.length<=i∧Hid (Kd w0 w B g A cp xs ai g6 g7 [(w.heap.size,37,[iL 0,iL 0,iL 0,iL 0,iL 0,.slice none 0 0]),(g5,25,[iL v.p,iL v.c,iL v.h,iL v.s])] v (1+a) aM es su u1 u2 x wr)∧Hid (MsOk v (1+a) i x)∧Hid (Sh es)∧Hid (Go28 xs v (1+a) j x es ai R)) (λ s8 _ _ _ _=>(intOf s8).toNat)
  case atStart=>exact⟨kk,0,startS v,[],_,_,_,_,_,by first | rfl | trivial,by omega,Nat.le_refl _,HK,Q,kD (λ x hx=>absurd hx List.not_mem_nil),HV⟩
  case round =>
   obtain⟨j,i,x,es,aM,su,u1,u2,ai,rfl,bH,aK,HK,Q,am,HV⟩:=hrel;have K:=HK.out;obtain⟨Ae,ce,bd⟩:=K.es.form;subst bd;obtain⟨L,hL⟩:=eX (es.length);rw [hL] at K aK;have HL:=kD hL;by_cases j0:0<j
   ·obtain⟨j,rfl⟩:∃ q,j=q+1:=⟨j - 1,by omega⟩;obtain⟨⟨B0,d0,rfl,-,-⟩,⟨B1,d1,rfl,-,-⟩,⟨B2,d2,rfl,-,-⟩⟩:=id K.ms;simp only [List.length_cons,List.length_nil,Nat.zero_add,Nat.reduceAdd] at K;have bA:=K.gr.size;have bE:=K.r7.lt;have aE:=K.lo;obtain⟨q0,q1,q2,q3,q4,q5⟩:=K.r6.c6;have C:=K.r6.lt;obtain⟨y0,y1,y2,y3,y4,y5,y6,y7,y8,y9,J,I⟩:=row12 K.r7;have ae:=K.r7.lt;obtain⟨x0,x1,x2,x3⟩:=(K.ex (g5,25,[iL v.p,iL v.c,iL v.h,iL v.s]) (by simp)).1.c4;have f:=(K.ex (g5,25,[iL v.p,iL v.c,iL v.h,iL v.s]) (by simp)).1.lt;have aT:=kD (ev28_x v x Q.out.gm (λ b=>w.heap.size<=b∧b≠g6∧b≠g7) (λ hs=>by have:=hs.1;omega) _ _ _ K.ms K.D);clear HK hL;go_wp2_with fail;refine aT.out.mono ?_;rintro e wE ⟨e1,s5,As,cs,rfl,aJ,⟨ax,az⟩,hD,hg⟩;have aR:=kD (K.next hD hg);have an:=kD aJ;have aZ:=hg.size;obtain⟨X,hX⟩:=eX (nextS v (1+a) x e1);obtain⟨ek,ea,eb,ss,er⟩:=e1;simp only at ax az ⊢;obtain⟨sl,aw⟩:=eX (ss.length);have aN:=kD aw;have E:=kD ax;have HX:=kD hX;have aP:=kD az;rw [aw];clear aT hD hg aJ ax hX az aw K q0 q1 q2 q3 q4 q5 C y0 y1 y2 y3 y4 y5 y6 y7 y8 y9 J I ae x0 x1 x2 x3 f;go_upto_region 10 with fail;obtain⟨g9,af⟩:=eX (wE.heap.size);refine wp_gen (λ W'=>Below wE.heap.size wE W'∧RowB W' g9 28 [iL ek,iL ea,iL eb,.slice As sl cs,iL er]) ⟨(zRf).alloc lR _,by rw [<-af];exact nW⟩ ?_
    try simp only [af]
    have bt:wr.heap.size<=g9:=by rw [<-af];exact aZ
    rintro w8 ⟨ak,H⟩;rw [<-af] at ak;clear af;have K:=aR.out.below ak;have E:=kD (E.out.keep (.below ak));have bm:=K.gr.size;have bp:=K.r7.lt;have CN:=next_s v (1+a) i x Q.out (by omega) (by omega) (λ b=>w.heap.size<=b∧b≠g6∧b≠g7) _ _ _ ⟨ek,ea,eb,ss,er⟩ As cs w8.heap.size w8 lR K.ms E.out.rd X HX.out;simp only at CN;rw [aN.out] at CN;have CN:=kD CN;clear aR ak;obtain⟨q0,q1,q2,q3,q4,q5⟩:=K.r6.c6;have C:=K.r6.lt;obtain⟨y0,y1,y2,y3,y4,y5,y6,y7,y8,y9,J,I⟩:=row12 K.r7;have ae:=K.r7.lt;obtain⟨x0,x1,x2,x3⟩:=(K.ex (g5,25,[iL v.p,iL v.c,iL v.h,iL v.s]) (by simp)).1.c4;have f:=(K.ex (g5,25,[iL v.p,iL v.c,iL v.h,iL v.s]) (by simp)).1.lt;obtain⟨k0,k1,k2,k3,k4⟩:=H.c5;have ay:=H.lt;go_wp2_with fail;refine CN.out.mono ?_;rintro e w9 ⟨v6,rfl,⟨B3,m3,f3,B4,m4,f4,B5,m5,f5,y',rfl,ac⟩,ag⟩;have K:=K.below ag;have H:=H.below ag H.lt;have E:=kD (E.out.keep (.below ag));have aC:=kD ac;have a2:=ag.size;clear CN ag ac k0 k1 k2 k3 k4 ay q0 q1 q2 q3 q4 q5 C y0 y1 y2 y3 y4 y5 y6 y7 y8 y9 J I ae x0 x1 x2 x3 f;simp only [msC];go_upto_region 11 with fail;obtain⟨aL,G⟩:=eX (w9.heap.size);refine wp_gen (λ W'=>Below w9.heap.size w9 W'∧RowB W' aL 57 (msC (.slice B3 m3 f3) (.slice B4 m4 f4) (.slice B5 m5 f5) y')) ⟨(zRf).alloc lR _,by rw [<-G];exact nW⟩ ?_
    try simp only [G]
    rintro bw ⟨l,al⟩;rw [<-G] at l;have aG:g9<w9.heap.size:=H.lt;have K:=K.below l;have H:=H.below l H.lt;have E:=kD (E.out.keep (.below l));have bG:IntKind.i64.wrap (((j+1:Nat):Int) - 1)=(j:Int):=by rw [IntWalk.i64_in _ (by omega)];omega
    cases X with
    | none =>
     have aq:=kD K;have aB:=kD (go28_none HV.out an.out HX.out);clear aC l G H al K HV an HX;go_wp2_with fail;go_roundw
     case rel=>exact⟨j,i,x,es,_,_,_,_,s5,by first | rfl | go_num,by omega,by rw [HL.out];exact aK,by rw [<-HL.out] at aq;exact aq,Q,am,aB⟩
     case measure=>simp [intOf] <;> omega
    | some y =>
     obtain⟨aY,W⟩:=aC.out _ rfl;subst aY;have bC:=a2;have aa:=kD ((W.weak (S':=λ b=>w.heap.size<=b∧b≠g6∧b≠g7) (λ b h hl=>by
      have h:=h.elim False.elim id;have:=H.lt;omega)).below l)
     have bi:=kD (next_ms (by omega) Q.out HX.out);have aB:=kD (go28_some HV.out an.out HX.out);have ba:g9<aL:=by rw [<-G];exact aG
     clear W aC l G HV an HX;obtain⟨y0,y1,y2,y3,y4,y5,y6,y7,y8,y9,J,I⟩:=row12 al;have aH:=al.lt;have R7:=K.r7;go_upto_region 13 with (first | (refine wM 57 0 (msC (.slice B3 m3 f3) (.slice B4 m4 f4) (.slice B5 m5 f5) y') R7 ?_;intro aW aD V aU));have K2:=K.put7 aD V aa.out;have H:=H.grown V (λ k N=>by simp at N;omega);have E:=kD (E.out.keep (Still.grown V (λ k N hs=>by simp at N;omega)));clear K aa R7 al y0 y1 y2 y3 y4 y5 y6 y7 y8 y9 J I aH aD V aU;have K:=K2;clear K2;obtain⟨q0,q1,q2,q3,q4,q5⟩:=K.r6.c6;have C:=K.r6.lt;obtain⟨y0,y1,y2,y3,y4,y5,y6,y7,y8,y9,J,I⟩:=row12 K.r7;have ae:=K.r7.lt;obtain⟨x0,x1,x2,x3⟩:=(K.ex (g5,25,[iL v.p,iL v.c,iL v.h,iL v.s]) (by simp)).1.c4;have f:=(K.ex (g5,25,[iL v.p,iL v.c,iL v.h,iL v.s]) (by simp)).1.lt;obtain⟨k0,k1,k2,k3,k4⟩:=H.c5;have ay:=H.lt;have CA:=add_s v (1+a) es Ae ce ⟨ek,ea,eb,ss,er⟩ As cs aW (K.es.evl) (E.out.weak (λ _ _ _=>trivial)) (by have:=aP.out;simp only;omega) (λ q hq=>by have:=am.out q hq;omega) (by rw [HL.out];omega);simp only at CA;rw [aN.out,HL.out] at CA;have CA:=kD CA;go_wp2_with fail;refine CA.out.mono ?_;rintro e bv ⟨A7,c7,rfl,hE,ap⟩;have bn:=K.r7.lt;have K:=K.below ap;have HE:=kD (hE.less (lo':=g7+1) (by omega));have R6:=K.r6;clear CA hE ap k0 k1 k2 k3 k4 ay H q0 q1 q2 q3 q4 q5 C y0 y1 y2 y3 y4 y5 y6 y7 y8 y9 J I ae x0 x1 x2 x3 f;go_upto_region 8 with (first | (refine wM 37 0 [iL v.p,iL v.c,iL v.h,iL v.s,iL (1+a),.slice A7 (L+1) c7] R6 ?_;intro aV ab n ar));have bk:=kD (K.put6 ab n HE.out);have aF:(es++[(⟨ek,ea,eb,ss,er⟩:Ev)]).length=L+1:=by rw [List.length_append,HL.out];rfl
     have bj:=kD aF;have bh:=kD (Sh.app am.out (e:=⟨ek,ea,eb,ss,er⟩) aP.out);clear aF K HE R6 ab n ar;go_wp2_with fail;go_roundw
     case rel=>exact⟨j,i+1,y',_,_,_,_,_,s5,by first | rfl | go_num,by omega,by rw [bj.out];omega,bk,bi,bh,aB⟩
     case measure=>simp [intOf] <;> omega
   ·obtain rfl:j=0:=by omega
    have hR:=go28_end HV.out;subst hR;have HR:=kD bl.out;have ao:es.length<=290:=by rw [HL.out];omega
    have HS:=kD (And.intro am.out ao);obtain⟨q0,q1,q2,q3,q4,q5⟩:=K.r6.c6;have C:=K.r6.lt;have rr:=(K.ex (w.heap.size,37,[iL 0,iL 0,iL 0,iL 0,iL 0,.slice none 0 0]) (by simp)).1;clear HV Q ao hL HK;have aQ:=kD K;clear K;go_wp2_with (refine wM 37 0 [iL v.p,iL v.c,iL v.h,iL v.s,iL (1+a),.slice Ae L ce] rr ?_;intro aV ab n ar;refine Hid.out ?_);obtain⟨z0,z1,z2,z3,z4,z5⟩:=ab.c6;have bs:=ab.lt;have K:=aQ.out;have aE:=K.lo;have bB:=K.D.base;have hE:=kD (Evs.less (lo':=w.heap.size) (K.es.low n (by omega)) (by omega));have hD:=kD (K.D.grown n (λ k N=>by simp at N;omega) (λ k N=>by simp at N;omega));have hg:=kD (grown_own K.gr n (λ k N=>by simp at N;omega));clear K aQ rr n ar q0 q1 q2 q3 q4 q5 C;refine kD ?_
    repeat (first | go_values | go_skip | go_step | go_upon)
    refine bodyPost_ret (v:=.agg #[iL v.p,iL v.c,iL v.h,iL v.s,iL (1+a),.slice Ae L ce]) (by simp [results,results20,go_sem,z0,z1,z2,z3,z4,z5]) rfl ?_;exact⟨v,1+a,es,ai,Ae,ce,by rw [HL.out],HR.out,⟨by rw [HL.out];exact hE.out,HS.out.1,HS.out.2⟩,hD.out,hg.out⟩
end
end DwD
namespace DwE
open Go Go.ChangeShapes Go.WideShapes Go.ChangeAt Go.RowKit Base Ints Own RelG PlP TxP Gm RegInv RegF RegG Bd1 Bd5 Draw DrawD DwP DwQ DwA DwB DwC DwD TsI
theorem flat_set {α:Type} {en:α->List Value} {sz:Nat} (hen:∀ x,(en x).length=sz) (rest:List Value) (u:Value) (j:Nat) (hj:j<sz) (x y:α) (hy:en y=(en x).set j u):∀(xs:List α) (i:Nat),xs[i]?=some x->(xs.flatMap en++rest).set (i*sz+j) u=(xs.set i y).flatMap en++rest
 | [],i,h=>by simp at h
 | x' :: xs,0,h=>by
  simp only [List.getElem?_cons_zero,Option.some.injEq] at h;subst h;simp only [List.flatMap_cons,List.append_assoc,List.set_cons_zero,Nat.zero_mul,Nat.zero_add];rw [List.set_append_left _ _ (by rw [hen];exact hj),hy]
 | x' :: xs,i+1,h=>by
  simp only [List.getElem?_cons_succ] at h;simp only [List.flatMap_cons,List.append_assoc,List.set_cons_succ];have hs:(i+1)*sz+j=(en x').length+(i*sz+j):=by rw [hen,Nat.add_mul,Nat.one_mul];omega
  rw [hs,List.set_append_right _ _ (by omega),Nat.add_sub_cancel_left,flat_set hen rest u j hj x y hy xs i h]
theorem _root_.Go.Proofs.YtjdefiinmicjiaaGreatDoor.Gm.EvL.weak {w:World} {S S':Nat->Prop} {A:Option Addr} {es:List Ev} (h:EvL w S A es) (hs:∀ b,S b->S' b):EvL w S' A es:=by
 obtain⟨c,e,d⟩:=h;exact⟨c,e.weak (λ b a _=>hs b a),d.weak (λ b a _=>hs b a)⟩
def Ea (W:World) (S:Nat->Prop) (ev:Value) (es:List Ev):Prop :=
 ∃ rs:List ERow,OwnS W 0 W.heap.size 28 5 enEv ev rs∧(∀ g,ev.ownBlock=some g->S g)∧LsR RelEr W (λ b=>S b∧ev.ownBlock≠some b) rs es
section
variable {W W':World} {S S':Nat->Prop} {ev:Value} {es:List Ev}
theorem Ea.of {lo:Nat} (h:Evs W lo ev es) (hS:∀ b,lo<=b->b<W.heap.size->S b):Ea W S ev es:=by
 obtain⟨k,d,j,s⟩:=h;refine⟨k,d.less (Nat.zero_le _),λ g e=>hS g (d.block g e).1 (d.block g e).2,j.1,λ i r x m l=>?_⟩;obtain⟨a,b⟩:=j.2 i r x m l;obtain⟨q,p,o,c,-⟩:=b.sl enSt_len;exact⟨a,q,p,o,c.weak (λ b f n=>⟨hS b f.2 n,f.1⟩)⟩
theorem Ea.keep (h:Ea W S ev es) (hs:Still S W W'):Ea W' S ev es:=by
 obtain⟨c,i,a,g⟩:=h;have f:=OwnV.keep (S:=S) ⟨i,a⟩ hs;exact⟨c,f.1,a,g.keep ⟨hs.1,λ b e d=>hs.2 b e.1 d⟩⟩
theorem Ea.evl {A:Option Addr} {m c:Nat} (h:Ea W S (.slice A m c) es):EvL W S A es:=by
 obtain⟨s,p,z,o⟩:=h;obtain⟨E,D,e,f⟩:=p.form enEv_len;simp only [Value.slice.injEq] at e;obtain⟨rfl,-,-⟩:=e;refine⟨s,⟨f.1,λ l=>?_⟩,o.1,λ i r x v t=>?_⟩
 ·obtain⟨b,j,q,n,w⟩:=f.2 l;refine⟨b,j,q,?_,n,w⟩;rcases p.cases_ with ⟨d,e3⟩ | ⟨g,cap,rest,d,_⟩
  ·rw [e3] at l;simp at l
  ·have y:=z g (by rw [d];rfl);simp only [Value.slice.injEq] at d;rw [q] at d;simp only [Option.some.injEq,Addr.mk.injEq] at d;rw [d.1.1];exact y
 ·obtain⟨a,C,B,d,k⟩:=o.2 i r x v t;exact⟨a,C,B,d,k.weak (λ b n _=>n.1)⟩
theorem Ea.at_ {A:Option Addr} {m c:Nat} (h:Ea W S (.slice A m c) es) {i:Nat} (hi:i<es.length) :
  ∃ g e,A=some ⟨g,0,none⟩∧es[i]?=some e∧S g∧g<W.heap.size∧(∀ o,W.frozen? ⟨g,o,none⟩=false)∧W.cell? ⟨g,i*5+1,none⟩=some (iL e.a)∧W.cell? ⟨g,i*5+4,none⟩=some (iL e.r) ∧
   (∀ a,Ea (W.setCell ⟨g,i*5+1,none⟩ (iL a)) S (.slice A m c) (es.set i { e with a:=a }))∧(∀ r,Ea (W.setCell ⟨g,i*5+4,none⟩ (iL r)) S (.slice A m c) (es.set i { e with r:=r })):=by
 obtain⟨p,Q,P,G⟩:=h;have l:i<p.length:=by rw [G.1];exact hi
 have f:=List.getElem?_eq_getElem l;obtain⟨e,he,O⟩:=G.at_ f;obtain⟨⟨k,a,b,sv,r⟩,hq⟩:=eX (p[i]);rw [hq] at f O;obtain⟨⟨K,M,L,J⟩,t,s,E,z⟩:=O;simp only at K M L J E;subst E;rcases Q.cases_ with ⟨e0,e1⟩ | ⟨g,cap,rest,e0,hlo,hhi,hR0,hnc,hcm,hl⟩
 ·rw [e1] at l;simp at l
 simp only [Value.slice.injEq] at e0;obtain⟨rfl,rfl,rfl⟩:=e0;have I:=P g rfl;have d:∀ j u,(enEv (k,a,b,.slice t e.ss.length s,r))[j]?=some u->W.cell? ⟨g,i*5+j,none⟩=some u:=by
  obtain⟨A',c',V,x⟩:=Q.form enEv_len;simp only [Value.slice.injEq] at V;obtain⟨rfl,-,-⟩:=V;obtain⟨b',Z,T,-,hc⟩:=x.2 (by omega);simp only [Option.some.injEq,Addr.mk.injEq] at T;obtain⟨rfl,rfl,-⟩:=T;intro j u hu;have:=hc i _ f j u hu
  rwa [Nat.zero_add] at this
 have n:∀(j:Nat) (u:Value) (y:ERow) (N:Ev),j<5->enEv y=(enEv (k,a,b,.slice t e.ss.length s,r)).set j u->RelEr.R W (λ b=>S b∧(Value.slice (sA g 0) p.length c).ownBlock≠some b) y N->Ea (W.setCell ⟨g,i*5+j,none⟩ u) S (.slice (sA g 0) p.length c) (es.set i N):=by
  intro j u y N hj hy H;have w:=hR0.set (i*5+j) u;rw [flat_set enEv_len rest u j hj _ y hy p i f] at w;have v:Still (λ b=>S b∧(Value.slice (sA g 0) p.length c).ownBlock≠some b) W (W.setCell ⟨g,i*5+j,none⟩ u):=Still.grown (Base.grownBy_setCell _ _ _ _) (λ k' B hs=>by simp at B;subst B;exact hs.2 rfl);refine⟨p.set i y,?_,P,by rw [List.length_set,List.length_set];exact G.1,λ q F Y D C=>?_⟩
  ·have:=OwnS.mk_ (lo:=0) (hi:=(W.setCell ⟨g,i*5+j,none⟩ u).heap.size) (cap:=c) enEv_len w hlo (by rw [World.size_setCell];exact hhi) (by rw [List.length_set];exact hnc) hcm (by rw [List.length_set];exact hl);rw [List.length_set] at this;exact this
  ·rw [List.getElem?_set] at D C;by_cases hqi:i=q
   ·subst hqi;rw [if_pos rfl,if_pos l] at D;rw [if_pos rfl,if_pos hi] at C;obtain rfl:=Option.some.inj D;obtain rfl:=Option.some.inj C;exact RelEr.keep H v
   ·rw [if_neg hqi] at D C;exact RelEr.keep (G.2 q F Y D C) v
 refine⟨g,e,rfl,he,I,hhi,hR0.frozen,by have:=d 1 _ rfl;rw [M] at this;exact this,by have:=d 4 _ rfl;rw [J] at this;exact this,λ X=>?_,λ F=>?_⟩
 ·exact n 1 _ (k,X,b,.slice t e.ss.length s,r) { e with a:=X } (by decide) rfl ⟨⟨K,rfl,L,J⟩,t,s,rfl,z⟩
 ·exact n 4 _ (k,a,b,.slice t e.ss.length s,F) { e with r:=F } (by decide) rfl ⟨⟨K,M,L,rfl⟩,t,s,rfl,z⟩
end
theorem own_cap {α:Type} {w:World} {lo hi sz m c:Nat} {e:TypeId} {en:α->List Value} {A:Option Addr} {xs:List α} (h:OwnS w lo hi e sz en (.slice A m c) xs):m<=c:=by
 rcases h.cases_ with ⟨e0,_⟩ | ⟨g,cap,rest,e0,_,_,_,hnc,_,_⟩
 ·simp only [Value.slice.injEq] at e0;omega
 ·simp only [Value.slice.injEq] at e0;omega
theorem Ea.cap {W:World} {S:Nat->Prop} {es:List Ev} {A:Option Addr} {m c:Nat} (h:Ea W S (.slice A m c) es):m<=c:=by
 obtain⟨b,a,-⟩:=h;exact own_cap a
theorem setA_at {es:List Ev} {i:Nat} {e:Ev} (h:es[i]?=some e) (a:Int):setA es i a=es.set i { e with a:=a }:=by unfold setA;rw [h]
theorem setR_at {es:List Ev} {i:Nat} {e:Ev} (h:es[i]?=some e) (r:Int):setR es i r=es.set i { e with r:=r }:=by unfold setR;rw [h]
theorem Sh.set {es:List Ev} {i:Nat} {e:Ev} (h:Sh es) (he:e.ss.length<=4):Sh (es.set i e):=λ x hx=>by
 rcases List.mem_or_eq_of_mem_set hx with hx | rfl
 ·exact h x hx
 ·exact he
structure Ka (w0 w:World) (B g:Nat) (A:Option Addr) (cp:Nat) (xs:List Int) (st:Nat × Int) (g3:Nat) (v:Vr) (n:Int) (ev:Value) (es:List Ev) (W:World):Prop where
 D:Dx w0 B g A cp xs st W
 gr:w.grownBy W (some g)
 rr:RowB W w.heap.size 37 [iL 0,iL 0,iL 0,iL 0,iL 0,.slice none 0 0]
 r3:RowB W g3 37 [iL v.p,iL v.c,iL v.h,iL v.s,iL n,ev]
 es:Ea W (λ b=>w.heap.size<b∧b≠g3) ev es
 lo:g<w.heap.size∧w.heap.size<g3
section
variable {w0 w W W':World} {B g cp:Nat} {A:Option Addr} {xs:List Int} {st st':Nat × Int} {g3:Nat} {v:Vr} {n:Int} {ev:Value} {es:List Ev}
theorem Ka.next (K:Ka w0 w B g A cp xs st g3 v n ev es W) (hD:Dx w0 B g A cp xs st' W') (hg:W.grownBy W' (some g)):Ka w0 w B g A cp xs st' g3 v n ev es W':=by
 have l:=K.lo;exact⟨hD,grownBy_trans K.gr hg,K.rr.grown hg (λ k a=>by simp at a;omega),K.r3.grown hg (λ k a=>by simp at a;omega),K.es.keep (Still.grown hg (λ k a b=>by simp at a;have:=b.1;omega)),l⟩
theorem Ka.put3 {v':Vr} {n':Int} {ev':Value} {es':List Ev} (K:Ka w0 w B g A cp xs st g3 v n ev es W) (h:RowB W' g3 37 [iL v'.p,iL v'.c,iL v'.h,iL v'.s,iL n',ev']) (hg:W.grownBy W' (some g3)) (he:Ea W (λ b=>w.heap.size<b∧b≠g3) ev' es'):Ka w0 w B g A cp xs st g3 v' n' ev' es' W':=by
 have l:=K.lo;have e:=K.D.base;exact⟨K.D.grown hg (λ k a=>by simp at a;omega) (λ k a=>by simp at a;omega),grown_own K.gr hg (λ k a=>by simp at a;omega),K.rr.grown hg (λ k a=>by simp at a;omega),h,he.keep (Still.grown hg (λ k a d=>by simp at a;exact d.2 a.symm)),l⟩
theorem Ka.putE {q:Nat} {es':List Ev} (K:Ka w0 w B g A cp xs st g3 v n ev es W) (hg:W.grownBy W' (some q)) (hq:w.heap.size<q∧q≠g3) (he:Ea W' (λ b=>w.heap.size<b∧b≠g3) ev es'):Ka w0 w B g A cp xs st g3 v n ev es' W':=by
 have l:=K.lo;have c:=K.D.base;exact⟨K.D.grown hg (λ k a=>by simp at a;omega) (λ k a=>by simp at a;omega),grown_own K.gr hg (λ k a=>by simp at a;omega),K.rr.grown hg (λ k a=>by simp at a;omega),K.r3.grown hg (λ k a=>by simp at a;omega),he,l⟩
end
def MRet (f:Mch->St->Prop) (w0 w:World) (B g:Nat) (A:Option Addr) (cp:Nat) (xs:List Int) (e0:Ending) (w':World):Prop :=
 ∃(v:Vr) (n:Int) (es:List Ev) (st':St) (Ae:Option Addr) (ce:Nat),e0=.returned (.agg #[iL v.p,iL v.c,iL v.h,iL v.s,iL n,.slice Ae es.length ce])∧f (v,n,es) st'∧(EvL w' (λ b=>w.heap.size<b) Ae es∧Sh es∧es.length<=291∧es.length<=ce)∧Dx w0 B g A cp xs st' w'∧w.grownBy w' (some g)
structure AyF (w0 we:World) (B g:Nat) (A:Option Addr) (cp:Nat) (xs:List Int) (sts:List (Nat × Int)) (L:Nat->Prop) (ops:List Nat) (v:Vr) (n:Int) (N:Nat) (X:List Ev) (P:World->Prop) (p6 p7:Prop) (v6:Value) (w':World):Prop where
 sq:¬ p7->SqD w0 we B g A cp xs sts L ops w'
 f6:p6->¬ p7->∃ A' c',v6=.agg #[iL v.p,iL v.c,iL v.h,iL v.s,iL n,.slice A' N c']∧Evs w' we.heap.size (.slice A' N c') X
 fin:p7->P w'
section
variable {w0 we w' w'':World} {B g cp:Nat} {A:Option Addr} {xs:List Int} {sts:List (Nat × Int)} {L:Nat->Prop} {ops:List Nat} {v:Vr} {n:Int} {N:Nat} {X:List Ev} {P:World->Prop} {vals:Nat->Value}
theorem AyF.skip (F:AyF w0 we B g A cp xs sts L ops v n N X P (L 6) (L 7) (vals 6) w') (k:Nat) (u:Value) (h:(ops.all (λ o=>o != k) && (6 != k) && (7 != k))=true:=by decide):AyF w0 we B g A cp xs sts (λ j=>j=k∨L j) ops v n N X P (6=k∨L 6) (7=k∨L 7) (upd vals k u 6) w':=by
 simp only [Bool.and_eq_true,bne_iff_ne,ne_eq,List.all_eq_true] at h;rw [or_ne h.1.2,or_ne h.2,upd_ne h.1.2];exact⟨λ a=>(F.sq a).skip k h.1.1,F.f6,F.fin⟩
theorem AyF.call {i k:Nat} {st:Nat × Int} {u:Value} (F:AyF w0 we B g A cp xs sts L ops v n N X P (L 6) (L 7) (vals 6) w') (h6:¬ L 6) (h7:¬ L 7) (hs:sts[i+1]?=some st) (hk:ops[i]?=some k) (hno:¬ L k) (hp:∀ i' o,i'<i->ops[i']?=some o->L o) (hd:(decide ops.Nodup && (6 != k) && (7 != k))=true) (hD:Dx w0 B g A cp xs st w'') (hg:w'.grownBy w'' (some g)):AyF w0 we B g A cp xs sts (λ j=>j=k∨L j) ops v n N X P (6=k∨L 6) (7=k∨L 7) (upd vals k u 6) w'':=by
 simp only [Bool.and_eq_true,decide_eq_true_eq,bne_iff_ne,ne_eq] at hd;rw [or_ne hd.1.2,or_ne hd.2];exact⟨λ a=>(F.sq a).call hs hk hno hp hd.1.1 hD hg,λ h=>absurd h h6,λ h=>absurd h h7⟩
end
section
variable {w0 w:World} {B g cp:Nat} {A:Option Addr} {xs:List Int} {st:Nat × Int}
theorem an28_x (h:Dx w0 B g A cp xs st w) :
  Calls prog 33 #[pT g 0] w λ e w'=>MRet (λ M st'=>an28 xs st=(M,st')) w0 w B g A cp xs e w':=by
 go_enter func33,ntmps33;go_wp2_with fail;have K:Ru w0 w B g A cp xs st 37 [iL 0,iL 0,iL 0,iL 0,iL 0,.slice none 0 0] _:=Ru.start h;refine(dr28_x 14 (by decide) K.D).mono ?_;rintro e w1 ⟨v,n,es,s1,Ae,ce,rfl,aT,⟨hE,aU,aR⟩,Y,hg⟩;have ar:=kD (λ(q:Int) (s2:St) (R:Mch × St) (n1:Nx xs s1 24 q s2) (hR:ay28 xs (v,n,es) (q,s2)=R)=>an28_of aT n1 hR);have K:=K.next Y hg;obtain⟨N,hL⟩:=eX (es.length);have HL:=kD hL;rw [hL] at hE aR ⊢;have aG:=K.rr.lt;have al:=kD aU;have aZ:=kD (Ea.of (S:=λ b=>w.heap.size<b∧b≠w1.heap.size) hE (λ b h1 h2=>⟨by simp at h1;omega,by omega⟩));clear Y hg h aT aU hE hL;go_upto_region 2 with fail;refine wp_gen (λ W'=>Ka w0 w B g A cp xs s1 w1.heap.size v n (.slice Ae N ce) es W') ⟨K.D.alloc _,(K.alloc _).gr,K.rr.alloc _,nW,aZ.out.keep (.below ((zRf).alloc lR _)),K.lt,aG⟩ ?_;obtain⟨g3,aS⟩:=eX (w1.heap.size);rw [aS] at aG ⊢;clear K aZ aS;intro w2 K;obtain⟨X,V,T,Q,P,O⟩:=K.r3.c6;have J:=K.r3.lt;have bb:=K.lo;go_wp2_with fail;refine(nextX K.D (24) (by decide)).mono ?_;rintro e aH ⟨q,az,⟨rfl,a9,aP,-,aq⟩,Y,hg,-⟩;have aP:=aP (by decide);have K:=K.next Y hg;clear Y hg X V T Q P O J;obtain⟨X,V,T,Q,P,O⟩:=K.r3.c6;have J:=K.r3.lt;by_cases e0:q=0
 ·subst e0;go_wp2_with fail;refine(nextX K.D (2) (by decide)).mono ?_;rintro e a8 ⟨k,aN,⟨rfl,ba,aQ,-,a0⟩,Y,hg,-⟩;have aQ:=aQ (by decide);have K:=K.next Y hg;clear Y hg;have hw:=iW ((26*k));clear X V T Q P O J;obtain⟨X,V,T,Q,P,O⟩:=K.r3.c6;have J:=K.r3.lt;have a3:=K.r3.frozen;go_upto_region 16 with fail;refine wp_gen (λ W'=>Ka w0 w B g A cp xs aN g3 v (26*k) (.slice Ae N ce) es W') (K.put3 (K.r3.set 4 _) (Base.grownBy_setCell _ _ _ _) K.es) ?_;clear K X V T Q P O J a3 hw;intro w5 K;have rr:=K.rr;have ah:=K.r3.c6;have H:=K.r3.lt;obtain⟨X,V,T,Q,P,O⟩:=ah;have I:=kD K;clear K;go_wp2_with (refine wM 37 0 [iL v.p,iL v.c,iL v.h,iL v.s,iL (26*k),.slice Ae N ce] rr ?_;intro av E j ae;refine Hid.out ?_);obtain⟨ag,af,ad,ac,ab,aa⟩:=E.c6;have ak:=E.lt;have K:=I.out;have aj:=K.lo;have bB:=K.D.base;have hE:=kD ((K.es.keep (Still.grown j (λ k o hs=>by simp at o;have:=hs.1;omega))).evl.weak (S':=λ b=>w.heap.size<b) (λ b hb=>hb.1));have Y:=kD (K.D.grown j (λ k o=>by simp at o;omega) (λ k o=>by simp at o;omega));have ai:=kD K.es.cap;have hg:=kD (grown_own K.gr j (λ k o=>by simp at o;omega));clear K I rr j ae X V T Q P O H;refine kD ?_
  repeat (first | go_values | go_skip | go_step | go_upon)
  refine bodyPost_ret (v:=.agg #[iL v.p,iL v.c,iL v.h,iL v.s,iL (26*k),.slice Ae N ce]) (by simp [results,results33,go_sem,ag,af,ad,ac,ab,aa]) rfl ?_;exact⟨v,26*k,es,aN,_,ce,by rw [HL.out],ar.out _ _ _ aq (ay_0 a0),⟨hE.out,al.out,by rw [HL.out];omega,by rw [HL.out];exact ai.out⟩,Y.out,hg.out⟩
 have z0:(q == 0)=false:=by simp [e0]
 by_cases e1:q=1
 ·subst e1;by_cases hL0:0<N
  ·have a6:decide ((0:Int)<(N:Int))=true:=decide_eq_true (by omega);obtain⟨z,s5,NI⟩:=K.D.gd.nb (N:Int);have i0:=NI.ge;have i1:=NI.lt (by omega);obtain⟨i,rfl⟩:∃ i:Nat,z=i:=⟨z.toNat,by omega⟩;obtain⟨a,s6,NA⟩:=NI.gd.nb 5;have aE:=kD NI;have aY:=kD NA;have ax:i<es.length:=by rw [HL.out];omega
   obtain⟨gb,e,eA,ay,hS,aI,aK,ca,cr,-,-⟩:=K.es.at_ ax;subst eA;have aM:=kD ax;have aF:=kD ay;have aD:=kD (Sh.set (i:=i) al.out (e:={ e with a:=a }) (by have:=al.out _ (List.mem_of_getElem? ay);exact this));have an:=kD (ar.out _ _ _ aq (ay_1 (by rw [HL.out];exact hL0) (by rw [HL.out];exact aE.out.nx) aY.out.nx));have am:=kD (show (es.set i { e with a:=a }).length=N by rw [List.length_set];exact HL.out);have a2:i<N:=by omega
   clear NI NA ax ay ca cr aK aI hL0;go_upto_region 8 with fail;have HK:=kD K;clear K X V T Q P O J;refine region_rel [some 22,some 23,some 24,some 25,some 26,some 27,some 28,some 29,some 30,none] 10 (Pl [some (pT g3 5),some (.slice (sA gb 0) N ce),some (pT g 0),some (iL (N:Int)),some (iL (i:Int)),some (pT g 0),some (iL a),some (pT gb (i*5)),some (pT gb (i*5+1)),none]) (λ L m w'=>SqA w0 aH B g A cp xs [az,s5,s6] L [4,6] (L 9) (λ W=>Ka w0 w B g A cp xs s6 g3 v n (.slice (sA gb 0) N ce) (es.set i { e with a:=a }) W) w') (by kernel_rfl) (by kernel_rfl) (by kernel_rfl) (by kernel_rfl) (by kernel_rfl) (by kernel_rfl) (by first | kernel_rfl | rfl) ?g0_1 ?gst_1 ?gfin_1
   case g0_1=>exact SqA.start HK.out.D rfl (by decide) (by decide)
   case gst_1 =>
    refine rN rfl (λ L m A Z d t l U F K y=>?_) ?_
    ·have e3:=U.w 3 (pT g3 0);have C:=F.sq (λ h=>d (l 9 0 (by kernel_rfl) h));have G:=HK.out.r3.grown C.gr (λ k o=>by simp at o;omega);obtain⟨X,V,T,Q,P,O⟩:=G.c6;have J:=G.lt;clear G C;go_simp;exact pF y (F.skip 0 (by decide))
    refine rN rfl (λ L m A Z d t l U F K y=>?_) ?_
    ·have bz:=U.v 0 22;have C:=F.sq (λ h=>d (l 9 1 (by kernel_rfl) h));have G:=HK.out.r3.grown C.gr (λ k o=>by simp at o;omega);obtain⟨X,V,T,Q,P,O⟩:=G.c6;have J:=G.lt;clear G C;go_simp;exact pF y (F.skip 1 (by decide))
    refine rN rfl (λ L m A Z d t l U F K y=>?_) ?_
    ·have e0:=U.w 0 (pT g 0);have C:=F.sq (λ h=>d (l 9 2 (by kernel_rfl) h));have G:=HK.out.r3.grown C.gr (λ k o=>by simp at o;omega);obtain⟨X,V,T,Q,P,O⟩:=G.c6;have J:=G.lt;clear G C;go_simp;exact pF y (F.skip 2 (by decide))
    refine rN rfl (λ L m A Z d t l U F K y=>?_) ?_
    ·have e4:=U.w 4 (iL (N:Int));have C:=F.sq (λ h=>d (l 9 3 (by kernel_rfl) h));clear C;go_simp;exact pF y (F.skip 3 (by decide))
    refine rN rfl (λ L m A Z d t l U F K y=>?_) ?_
    ·have bw:=U.v 2 24;have bv:=U.v 3 25;have Y:=(F.sq (λ h=>d (l 9 4 (by kernel_rfl) h))).at_ 0 rfl rfl d pv0;go_simp;refine(nextK Y aE.out.nx (by omega)).mono ?_;rintro e w6 ⟨rfl,ap,ao,-⟩;exact pF y (F.call (λ h=>d (l 9 4 (by kernel_rfl) h)) rfl (i:=0) rfl d pv0 (by decide) ap ao)
    refine rN rfl (λ L m A Z d t l U F K y=>?_) ?_
    ·have e0:=U.w 0 (pT g 0);have C:=F.sq (λ h=>d (l 9 5 (by kernel_rfl) h));have G:=HK.out.r3.grown C.gr (λ k o=>by simp at o;omega);obtain⟨X,V,T,Q,P,O⟩:=G.c6;have J:=G.lt;clear G C;go_simp;exact pF y (F.skip 5 (by decide))
    refine rN rfl (λ L m A Z d t l U F K y=>?_) ?_
    ·have bs:=U.v 5 27;have Y:=(F.sq (λ h=>d (l 9 6 (by kernel_rfl) h))).at_ 1 rfl rfl d (pv1 rfl (bK t 4));go_simp;refine(nextK Y aY.out.nx (by omega)).mono ?_;rintro e w6 ⟨rfl,ap,ao,-⟩;exact pF y (F.call (λ h=>d (l 9 6 (by kernel_rfl) h)) rfl (i:=1) rfl d (pv1 rfl (bK t 4)) (by decide) ap ao)
    refine rN rfl (λ L m A Z d t l U F K y=>?_) ?_
    ·have bx:=U.v 1 23;have bt:=U.v 4 26;have C:=F.sq (λ h=>d (l 9 7 (by kernel_rfl) h));clear C;go_simp;exact pF y (F.skip 7 (by decide))
    refine rN rfl (λ L m A Z d t l U F K y=>?_) ?_
    ·have bq:=U.v 7 29;have C:=F.sq (λ h=>d (l 9 8 (by kernel_rfl) h));have G:=HK.out.r3.grown C.gr (λ k o=>by simp at o;omega);obtain⟨X,V,T,Q,P,O⟩:=G.c6;have J:=G.lt;clear G C;go_simp;exact pF y (F.skip 8 (by decide))
    refine rN rfl (λ L m A Z d t l U F K y=>?_) ?_
    ·have bp:=U.v 8 30;have br:=U.v 6 28;have hE:=(F.sq d).end_ 2 rfl rfl rfl (al2 (bK t 4) (bK t 6));have K9:=HK.out.next hE.1 hE.2;have aC:=K9.es.at_ aM.out;refine aC.elim λ g9 q=>?_
     refine q.elim λ e9 q=>?_
     have eA:=q.1;simp only [Option.some.injEq,Addr.mk.injEq,and_true] at eA;have eE:=Option.some.inj (aF.out.symm.trans q.2.1);have aB:=q.2.2.1;have aJ:=q.2.2.2.1;have aL:=q.2.2.2.2.1;have aA:=q.2.2.2.2.2.1;have aw:=q.2.2.2.2.2.2.2.1 a;rw [<-eA] at aJ aL aA aw aB;rw [<-eE] at aw aA;clear q aC eA eE;go_simp;exact y.out undef _ (Pl.any rfl) (SqA.last (K9.putE (Base.grownBy_setCell _ _ _ _) aB aw))
    exact RelFrom.nil (by decide)
   intro m Z hp F;simp only [Fr,Act.put,sX,Nat.reduceAdd];have K:=F.fin trivial;clear F hp HK;rw [setA_at aF.out] at an;have rr:=K.rr;have ah:=K.r3.c6;have H:=K.r3.lt;obtain⟨X,V,T,Q,P,O⟩:=ah;have I:=kD K;clear K;go_wp2_with (refine wM 37 0 [iL v.p,iL v.c,iL v.h,iL v.s,iL n,.slice (sA gb 0) N ce] rr ?_;intro av E j ae;refine Hid.out ?_);obtain⟨ag,af,ad,ac,ab,aa⟩:=E.c6;have ak:=E.lt;have K:=I.out;have aj:=K.lo;have bB:=K.D.base;have hE:=kD ((K.es.keep (Still.grown j (λ k o hs=>by simp at o;have:=hs.1;omega))).evl.weak (S':=λ b=>w.heap.size<b) (λ b hb=>hb.1));have Y:=kD (K.D.grown j (λ k o=>by simp at o;omega) (λ k o=>by simp at o;omega));have ai:=kD K.es.cap;have hg:=kD (grown_own K.gr j (λ k o=>by simp at o;omega));clear K I rr j ae X V T Q P O H;refine kD ?_
   repeat (first | go_values | go_skip | go_step | go_upon)
   refine bodyPost_ret (v:=.agg #[iL v.p,iL v.c,iL v.h,iL v.s,iL n,.slice (sA gb 0) N ce]) (by simp [results,results33,go_sem,ag,af,ad,ac,ab,aa]) rfl ?_;exact⟨v,n,es.set i { e with a:=a },s6,_,ce,by rw [am.out],an.out,⟨hE.out,aD.out,by rw [am.out];omega,by rw [am.out];exact ai.out⟩,Y.out,hg.out⟩
  ·have an:=kD (ar.out _ _ _ aq (ay_1n (M:=(v,n,es)) (by rw [HL.out];exact hL0)));obtain rfl:N=0:=by omega
   clear hL0;have rr:=K.rr;have ah:=K.r3.c6;have H:=K.r3.lt;obtain⟨X,V,T,Q,P,O⟩:=ah;have I:=kD K;clear K;go_wp2_with (refine wM 37 0 [iL v.p,iL v.c,iL v.h,iL v.s,iL n,.slice Ae 0 ce] rr ?_;intro av E j ae;refine Hid.out ?_);obtain⟨ag,af,ad,ac,ab,aa⟩:=E.c6;have ak:=E.lt;have K:=I.out;have aj:=K.lo;have bB:=K.D.base;have hE:=kD ((K.es.keep (Still.grown j (λ k o hs=>by simp at o;have:=hs.1;omega))).evl.weak (S':=λ b=>w.heap.size<b) (λ b hb=>hb.1));have Y:=kD (K.D.grown j (λ k o=>by simp at o;omega) (λ k o=>by simp at o;omega));have ai:=kD K.es.cap;have hg:=kD (grown_own K.gr j (λ k o=>by simp at o;omega));clear K I rr j ae X V T Q P O H;refine kD ?_
   repeat (first | go_values | go_skip | go_step | go_upon)
   refine bodyPost_ret (v:=.agg #[iL v.p,iL v.c,iL v.h,iL v.s,iL n,.slice Ae 0 ce]) (by simp [results,results33,go_sem,ag,af,ad,ac,ab,aa]) rfl ?_;exact⟨v,n,es,az,_,ce,by rw [HL.out],an.out,⟨hE.out,al.out,by rw [HL.out];omega,by rw [HL.out];exact ai.out⟩,Y.out,hg.out⟩
 have z1:(q == 1)=false:=by simp [e1]
 by_cases e2:q=2
 ·subst e2;obtain⟨k,s5,NK⟩:=K.D.gd.nb 5;obtain⟨z,s6,NZ⟩:=NK.gd.nb 4;have aX:=kD NK;have aW:=kD NZ;have an:=kD (ar.out _ _ _ aq (ay_2 aX.out.nx aW.out.nx));have aD:=kD (Sh.app (e:=⟨k,2,1,[],z⟩) al.out (Nat.zero_le 4));have am:=kD (show (es++[(⟨k,2,1,[],z⟩:Ev)]).length=N+1 by rw [List.length_append,HL.out];rfl);have CA:=kD (λ(Z:World) (h9:EvL Z All Ae es)=>add_s v n es Ae ce ⟨k,2,1,[],z⟩ none 0 Z h9 (RdF.nil _ _ _ _ _) (Nat.zero_le _) (λ q hq=>by have:=al.out q hq;omega) (by rw [HL.out];omega));rw [HL.out] at CA;clear NK NZ;go_upto_region 10 with fail;have HK:=kD K;clear K X V T Q P O J;refine region_rel [some 33,some 34,some 35,some 36,some 37,some 38,some 39,none] 8 (Pl [some (.agg #[iL v.p,iL v.c,iL v.h,iL v.s,iL n,.slice Ae N ce]),some (pT g 0),some (iL k),some (pT g 0),some (iL z),some (.agg #[iL k,iL 2,iL 1,.slice none 0 0,iL z]),none,none]) (λ L m w'=>AyF w0 aH B g A cp xs [az,s5,s6] L [2,4] v n (N+1) (es++[⟨k,2,1,[],z⟩]) (λ W=>∃ A7 c7,Ka w0 w B g A cp xs s6 g3 v n (.slice A7 (N+1) c7) (es++[⟨k,2,1,[],z⟩]) W) (L 6) (L 7) (m 6) w') (by kernel_rfl) (by kernel_rfl) (by kernel_rfl) (by kernel_rfl) (by kernel_rfl) (by kernel_rfl) (by first | kernel_rfl | rfl) ?g0_3 ?gst_3 ?gfin_3
  case g0_3=>exact⟨λ _=>SqD.start HK.out.D rfl (by decide),λ h=>absurd h (by decide),λ h=>absurd h (by decide)⟩
  case gst_3 =>
   refine rN rfl (λ L m A Z d t l U F K y=>?_) ?_
   ·have e3:=U.w 3 (pT g3 0);have C:=F.sq (λ h=>d (l 7 0 (by kernel_rfl) h));have G:=HK.out.r3.grown C.gr (λ k o=>by simp at o;omega);obtain⟨X,V,T,Q,P,O⟩:=G.c6;have J:=G.lt;clear G C;go_simp;exact pF y (F.skip 0 _)
   refine rN rfl (λ L m A Z d t l U F K y=>?_) ?_
   ·have e0:=U.w 0 (pT g 0);have C:=F.sq (λ h=>d (l 7 1 (by kernel_rfl) h));have G:=HK.out.r3.grown C.gr (λ k o=>by simp at o;omega);obtain⟨X,V,T,Q,P,O⟩:=G.c6;have J:=G.lt;clear G C;go_simp;exact pF y (F.skip 1 _)
   refine rN rfl (λ L m A Z d t l U F K y=>?_) ?_
   ·have bn:=U.v 1 34;have Y:=(F.sq (λ h=>d (l 7 2 (by kernel_rfl) h))).at_ 0 rfl rfl d pv0;go_simp;refine(nextK Y aX.out.nx (by omega)).mono ?_;rintro e w6 ⟨rfl,ap,ao,-⟩;exact pF y (F.call (λ h=>d (l 6 2 (by kernel_rfl) h)) (λ h=>d (l 7 2 (by kernel_rfl) h)) rfl (i:=0) rfl d pv0 (by decide) ap ao)
   refine rN rfl (λ L m A Z d t l U F K y=>?_) ?_
   ·have e0:=U.w 0 (pT g 0);have C:=F.sq (λ h=>d (l 7 3 (by kernel_rfl) h));have G:=HK.out.r3.grown C.gr (λ k o=>by simp at o;omega);obtain⟨X,V,T,Q,P,O⟩:=G.c6;have J:=G.lt;clear G C;go_simp;exact pF y (F.skip 3 _)
   refine rN rfl (λ L m A Z d t l U F K y=>?_) ?_
   ·have bl:=U.v 3 36;have Y:=(F.sq (λ h=>d (l 7 4 (by kernel_rfl) h))).at_ 1 rfl rfl d (pv1 rfl (bK t 2));go_simp;refine(nextK Y aW.out.nx (by omega)).mono ?_;rintro e w6 ⟨rfl,ap,ao,-⟩;exact pF y (F.call (λ h=>d (l 6 4 (by kernel_rfl) h)) (λ h=>d (l 7 4 (by kernel_rfl) h)) rfl (i:=1) rfl d (pv1 rfl (bK t 2)) (by decide) ap ao)
   refine rN rfl (λ L m A Z d t l U F K y=>?_) ?_
   ·have bm:=U.v 2 35;have bk:=U.v 4 37;have C:=F.sq (λ h=>d (l 7 5 (by kernel_rfl) h));clear C;go_simp;exact pF y (F.skip 5 _)
   refine rN rfl (λ L m A Z d t l U F K y=>?_) ?_
   ·have bo:=U.v 0 33;have bj:=U.v 5 38;have C:=F.sq (λ h=>d (l 7 6 (by kernel_rfl) h));have hE:=C.end_ 2 rfl rfl rfl (al2 (bK t 2) (bK t 4));have K9:=HK.out.next hE.1 hE.2;go_simp;refine(CA.out Z (K9.es.evl.weak (λ _ _=>trivial))).mono ?_;rintro f w6 ⟨A7,c7,rfl,a4,a5⟩;exact y.out _ w6 (Pl.any rfl) ⟨λ h=>(C.below a5).skip 6 (by decide),λ _ _=>⟨A7,c7,upd_same _ _ _,a4.less C.gr.size⟩,λ h=>absurd (l 7 6 (by kernel_rfl) (rL h)) d⟩
   refine rN rfl (λ L m A Z d t l U F K y=>?_) ?_
   ·have e3:=U.w 3 (pT g3 0);have a7:=U.x 6 39;have C:=F.sq d;have hE:=C.end_ 2 rfl rfl rfl (al2 (bK t 2) (bK t 4));have K9:=HK.out.next hE.1 hE.2;refine(F.f6 (bK t 6) d).elim λ A7 q=>?_
    refine q.elim λ c7 q=>?_
    have rr:=K9.r3;refine wp_sm 37 _ _ rfl g3 0 [iL v.p,iL v.c,iL v.h,iL v.s,iL n,.slice A7 (N+1) c7] _ (ev e3) (ev (a7.trans q.1)) 37 rr (by kernel_rfl) lR rfl ?_;exact y.out undef _ (Pl.any rfl) ⟨λ h=>absurd (.inl rfl) h,λ _ h=>absurd (.inl rfl) h,λ _=>⟨A7,c7,K9.put3 (row_cells _ _ _ _ rr) (grown_cells _ _ _ _) (Ea.of q.2 (λ b h1 h2=>⟨by have:=HK.out.r3.lt;omega,by have:=HK.out.r3.lt;omega⟩))⟩⟩
   exact RelFrom.nil (by decide)
  intro m Z hp F;simp only [Fr,Act.put,sX,Nat.reduceAdd];obtain⟨A7,c7,K⟩:=F.fin trivial;clear F hp HK CA;have rr:=K.rr;have ah:=K.r3.c6;have H:=K.r3.lt;obtain⟨X,V,T,Q,P,O⟩:=ah;have I:=kD K;clear K;go_wp2_with (refine wM 37 0 [iL v.p,iL v.c,iL v.h,iL v.s,iL n,.slice A7 (N+1) c7] rr ?_;intro av E j ae;refine Hid.out ?_);obtain⟨ag,af,ad,ac,ab,aa⟩:=E.c6;have ak:=E.lt;have K:=I.out;have aj:=K.lo;have bB:=K.D.base;have hE:=kD ((K.es.keep (Still.grown j (λ k o hs=>by simp at o;have:=hs.1;omega))).evl.weak (S':=λ b=>w.heap.size<b) (λ b hb=>hb.1));have Y:=kD (K.D.grown j (λ k o=>by simp at o;omega) (λ k o=>by simp at o;omega));have ai:=kD K.es.cap;have hg:=kD (grown_own K.gr j (λ k o=>by simp at o;omega));clear K I rr j ae X V T Q P O H;refine kD ?_
  repeat (first | go_values | go_skip | go_step | go_upon)
  refine bodyPost_ret (v:=.agg #[iL v.p,iL v.c,iL v.h,iL v.s,iL n,.slice A7 (N+1) c7]) (by simp [results,results33,go_sem,ag,af,ad,ac,ab,aa]) rfl ?_;exact⟨v,n,es++[⟨k,2,1,[],z⟩],s6,_,c7,by rw [am.out],an.out,⟨hE.out,aD.out,by rw [am.out];omega,by rw [am.out];exact ai.out⟩,Y.out,hg.out⟩
 have z2:(q == 2)=false:=by simp [e2]
 by_cases e3:q=3
 ·subst e3;go_wp2_with fail;refine(v01a_x K.D).mono ?_;rintro e w5 ⟨v2,s5,rfl,a1,Y,hg⟩;have K:=K.next Y hg;have R3:=K.r3;clear Y hg X V T Q P O J;go_upto_region 16 with (first | (refine wpL_sm 25 _ _ rfl g3 0 [iL v2.p,iL v2.c,iL v2.h,iL v2.s] _ [iL v2.p,iL v2.c,iL v2.h,iL v2.s,iL n,.slice Ae N ce] rfl rfl 37 R3 (by kernel_rfl) (show 4<=6 by decide) rfl rfl ?_;intro w6 aO aV z6));have K2:=K.put3 aO aV K.es;clear K R3 aO aV z6;have K:=K2;clear K2;have rr:=K.rr;have ah:=K.r3.c6;have H:=K.r3.lt;obtain⟨X,V,T,Q,P,O⟩:=ah;have I:=kD K;clear K;go_wp2_with (refine wM 37 0 [iL v2.p,iL v2.c,iL v2.h,iL v2.s,iL n,.slice Ae N ce] rr ?_;intro av E j ae;refine Hid.out ?_);obtain⟨ag,af,ad,ac,ab,aa⟩:=E.c6;have ak:=E.lt;have K:=I.out;have aj:=K.lo;have bB:=K.D.base;have hE:=kD ((K.es.keep (Still.grown j (λ k o hs=>by simp at o;have:=hs.1;omega))).evl.weak (S':=λ b=>w.heap.size<b) (λ b hb=>hb.1));have Y:=kD (K.D.grown j (λ k o=>by simp at o;omega) (λ k o=>by simp at o;omega));have ai:=kD K.es.cap;have hg:=kD (grown_own K.gr j (λ k o=>by simp at o;omega));clear K I rr j ae X V T Q P O H;refine kD ?_
  repeat (first | go_values | go_skip | go_step | go_upon)
  refine bodyPost_ret (v:=.agg #[iL v2.p,iL v2.c,iL v2.h,iL v2.s,iL n,.slice Ae N ce]) (by simp [results,results33,go_sem,ag,af,ad,ac,ab,aa]) rfl ?_;exact⟨v2,n,es,s5,_,ce,by rw [HL.out],ar.out _ _ _ aq (ay_3 a1),⟨hE.out,al.out,by rw [HL.out];omega,by rw [HL.out];exact ai.out⟩,Y.out,hg.out⟩
 have z3:(q == 3)=false:=by simp [e3]
 by_cases e4:q=4
 ·subst e4;by_cases hL0:0<N
  ·have a6:decide ((0:Int)<(N:Int))=true:=decide_eq_true (by omega);obtain⟨z,s5,NI⟩:=K.D.gd.nb (N:Int);have i0:=NI.ge;have i1:=NI.lt (by omega);obtain⟨i,rfl⟩:∃ i:Nat,z=i:=⟨z.toNat,by omega⟩;have aE:=kD NI;have ax:i<es.length:=by rw [HL.out];omega
   obtain⟨gb,e,eA,ay,hS,aI,aK,ca,cr,-,-⟩:=K.es.at_ ax;subst eA;have aM:=kD ax;have aF:=kD ay;have aD:=kD (Sh.set (i:=i) al.out (e:={ e with r:=1 }) (by have:=al.out _ (List.mem_of_getElem? ay);exact this));have an:=kD (ar.out _ _ _ aq (ay_4 (by rw [HL.out];exact hL0) (by rw [HL.out];exact aE.out.nx)));have am:=kD (show (es.set i { e with r:=1 }).length=N by rw [List.length_set];exact HL.out);have a2:i<N:=by omega
   clear NI ax ay ca cr aK aI hL0;go_upto_region 15 with fail;have HK:=kD K;clear K X V T Q P O J;refine region_rel [some 49,some 50,some 51,some 52,some 53,some 54,some 55,none] 8 (Pl [some (pT g3 5),some (.slice (sA gb 0) N ce),some (pT g 0),some (iL (N:Int)),some (iL (i:Int)),some (pT gb (i*5)),some (pT gb (i*5+4)),none]) (λ L m w'=>SqA w0 aH B g A cp xs [az,s5] L [4] (L 7) (λ W=>Ka w0 w B g A cp xs s5 g3 v n (.slice (sA gb 0) N ce) (es.set i { e with r:=1 }) W) w') (by kernel_rfl) (by kernel_rfl) (by kernel_rfl) (by kernel_rfl) (by kernel_rfl) (by kernel_rfl) (by first | kernel_rfl | rfl) ?g0_2 ?gst_2 ?gfin_2
   case g0_2=>exact SqA.start HK.out.D rfl (by decide) (by decide)
   case gst_2 =>
    refine rN rfl (λ L m A Z d t l U F K y=>?_) ?_
    ·have e3:=U.w 3 (pT g3 0);have C:=F.sq (λ h=>d (l 7 0 (by kernel_rfl) h));have G:=HK.out.r3.grown C.gr (λ k o=>by simp at o;omega);obtain⟨X,V,T,Q,P,O⟩:=G.c6;have J:=G.lt;clear G C;go_simp;exact pF y (F.skip 0 (by decide))
    refine rN rfl (λ L m A Z d t l U F K y=>?_) ?_
    ·have bi:=U.v 0 49;have C:=F.sq (λ h=>d (l 7 1 (by kernel_rfl) h));have G:=HK.out.r3.grown C.gr (λ k o=>by simp at o;omega);obtain⟨X,V,T,Q,P,O⟩:=G.c6;have J:=G.lt;clear G C;go_simp;exact pF y (F.skip 1 (by decide))
    refine rN rfl (λ L m A Z d t l U F K y=>?_) ?_
    ·have e0:=U.w 0 (pT g 0);have C:=F.sq (λ h=>d (l 7 2 (by kernel_rfl) h));have G:=HK.out.r3.grown C.gr (λ k o=>by simp at o;omega);obtain⟨X,V,T,Q,P,O⟩:=G.c6;have J:=G.lt;clear G C;go_simp;exact pF y (F.skip 2 (by decide))
    refine rN rfl (λ L m A Z d t l U F K y=>?_) ?_
    ·have e4:=U.w 4 (iL (N:Int));have C:=F.sq (λ h=>d (l 7 3 (by kernel_rfl) h));clear C;go_simp;exact pF y (F.skip 3 (by decide))
    refine rN rfl (λ L m A Z d t l U F K y=>?_) ?_
    ·have bg:=U.v 2 51;have bf:=U.v 3 52;have Y:=(F.sq (λ h=>d (l 7 4 (by kernel_rfl) h))).at_ 0 rfl rfl d pv0;go_simp;refine(nextK Y aE.out.nx (by omega)).mono ?_;rintro e w6 ⟨rfl,ap,ao,-⟩;exact pF y (F.call (λ h=>d (l 7 4 (by kernel_rfl) h)) rfl (i:=0) rfl d pv0 (by decide) ap ao)
    refine rN rfl (λ L m A Z d t l U F K y=>?_) ?_
    ·have bh:=U.v 1 50;have be:=U.v 4 53;have C:=F.sq (λ h=>d (l 7 5 (by kernel_rfl) h));clear C;go_simp;exact pF y (F.skip 5 (by decide))
    refine rN rfl (λ L m A Z d t l U F K y=>?_) ?_
    ·have bd:=U.v 5 54;have C:=F.sq (λ h=>d (l 7 6 (by kernel_rfl) h));have G:=HK.out.r3.grown C.gr (λ k o=>by simp at o;omega);obtain⟨X,V,T,Q,P,O⟩:=G.c6;have J:=G.lt;clear G C;go_simp;exact pF y (F.skip 6 (by decide))
    refine rN rfl (λ L m A Z d t l U F K y=>?_) ?_
    ·have bc:=U.v 6 55;have hE:=(F.sq d).end_ 1 rfl rfl rfl (al1 (bK t 4));have K9:=HK.out.next hE.1 hE.2;have aC:=K9.es.at_ aM.out;refine aC.elim λ g9 q=>?_
     refine q.elim λ e9 q=>?_
     have eA:=q.1;simp only [Option.some.injEq,Addr.mk.injEq,and_true] at eA;have eE:=Option.some.inj (aF.out.symm.trans q.2.1);have aB:=q.2.2.1;have aJ:=q.2.2.2.1;have aL:=q.2.2.2.2.1;have aA:=q.2.2.2.2.2.2.1;have aw:=q.2.2.2.2.2.2.2.2 1;rw [<-eA] at aJ aL aA aw aB;rw [<-eE] at aw aA;clear q aC eA eE;go_simp;exact y.out undef _ (Pl.any rfl) (SqA.last (K9.putE (Base.grownBy_setCell _ _ _ _) aB aw))
    exact RelFrom.nil (by decide)
   intro m Z hp F;simp only [Fr,Act.put,sX,Nat.reduceAdd];have K:=F.fin trivial;clear F hp HK;rw [setR_at aF.out] at an;have rr:=K.rr;have ah:=K.r3.c6;have H:=K.r3.lt;obtain⟨X,V,T,Q,P,O⟩:=ah;have I:=kD K;clear K;go_wp2_with (refine wM 37 0 [iL v.p,iL v.c,iL v.h,iL v.s,iL n,.slice (sA gb 0) N ce] rr ?_;intro av E j ae;refine Hid.out ?_);obtain⟨ag,af,ad,ac,ab,aa⟩:=E.c6;have ak:=E.lt;have K:=I.out;have aj:=K.lo;have bB:=K.D.base;have hE:=kD ((K.es.keep (Still.grown j (λ k o hs=>by simp at o;have:=hs.1;omega))).evl.weak (S':=λ b=>w.heap.size<b) (λ b hb=>hb.1));have Y:=kD (K.D.grown j (λ k o=>by simp at o;omega) (λ k o=>by simp at o;omega));have ai:=kD K.es.cap;have hg:=kD (grown_own K.gr j (λ k o=>by simp at o;omega));clear K I rr j ae X V T Q P O H;refine kD ?_
   repeat (first | go_values | go_skip | go_step | go_upon)
   refine bodyPost_ret (v:=.agg #[iL v.p,iL v.c,iL v.h,iL v.s,iL n,.slice (sA gb 0) N ce]) (by simp [results,results33,go_sem,ag,af,ad,ac,ab,aa]) rfl ?_;exact⟨v,n,es.set i { e with r:=1 },s5,_,ce,by rw [am.out],an.out,⟨hE.out,aD.out,by rw [am.out];omega,by rw [am.out];exact ai.out⟩,Y.out,hg.out⟩
  ·have an:=kD (ar.out _ _ _ aq (ay_4n (M:=(v,n,es)) (by rw [HL.out];exact hL0)));obtain rfl:N=0:=by omega
   clear hL0;have rr:=K.rr;have ah:=K.r3.c6;have H:=K.r3.lt;obtain⟨X,V,T,Q,P,O⟩:=ah;have I:=kD K;clear K;go_wp2_with (refine wM 37 0 [iL v.p,iL v.c,iL v.h,iL v.s,iL n,.slice Ae 0 ce] rr ?_;intro av E j ae;refine Hid.out ?_);obtain⟨ag,af,ad,ac,ab,aa⟩:=E.c6;have ak:=E.lt;have K:=I.out;have aj:=K.lo;have bB:=K.D.base;have hE:=kD ((K.es.keep (Still.grown j (λ k o hs=>by simp at o;have:=hs.1;omega))).evl.weak (S':=λ b=>w.heap.size<b) (λ b hb=>hb.1));have Y:=kD (K.D.grown j (λ k o=>by simp at o;omega) (λ k o=>by simp at o;omega));have ai:=kD K.es.cap;have hg:=kD (grown_own K.gr j (λ k o=>by simp at o;omega));clear K I rr j ae X V T Q P O H;refine kD ?_
   repeat (first | go_values | go_skip | go_step | go_upon)
   refine bodyPost_ret (v:=.agg #[iL v.p,iL v.c,iL v.h,iL v.s,iL n,.slice Ae 0 ce]) (by simp [results,results33,go_sem,ag,af,ad,ac,ab,aa]) rfl ?_;exact⟨v,n,es,az,_,ce,by rw [HL.out],an.out,⟨hE.out,al.out,by rw [HL.out];omega,by rw [HL.out];exact ai.out⟩,Y.out,hg.out⟩
 have z4:(q == 4)=false:=by simp [e4]
 have rr:=K.rr;have ah:=K.r3.c6;have H:=K.r3.lt;obtain⟨X,V,T,Q,P,O⟩:=ah;have I:=kD K;clear K;go_wp2_with (refine wM 37 0 [iL v.p,iL v.c,iL v.h,iL v.s,iL n,.slice Ae N ce] rr ?_;intro av E j ae;refine Hid.out ?_);obtain⟨ag,af,ad,ac,ab,aa⟩:=E.c6;have ak:=E.lt;have K:=I.out;have aj:=K.lo;have bB:=K.D.base;have hE:=kD ((K.es.keep (Still.grown j (λ k o hs=>by simp at o;have:=hs.1;omega))).evl.weak (S':=λ b=>w.heap.size<b) (λ b hb=>hb.1));have Y:=kD (K.D.grown j (λ k o=>by simp at o;omega) (λ k o=>by simp at o;omega));have ai:=kD K.es.cap;have hg:=kD (grown_own K.gr j (λ k o=>by simp at o;omega));clear K I rr j ae X V T Q P O H;refine kD ?_
 repeat (first | go_values | go_skip | go_step | go_upon)
 refine bodyPost_ret (v:=.agg #[iL v.p,iL v.c,iL v.h,iL v.s,iL n,.slice Ae N ce]) (by simp [results,results33,go_sem,ag,af,ad,ac,ab,aa]) rfl ?_;exact⟨v,n,es,az,_,ce,by rw [HL.out],ar.out _ _ _ aq (ay_5 e0 e1 e2 e3 e4),⟨hE.out,al.out,by rw [HL.out];omega,by rw [HL.out];exact ai.out⟩,Y.out,hg.out⟩
end
end DwE
namespace EtA
open Go Go.ChangeShapes Go.WideShapes Go.ChangeAt Go.RowKit Base Ints Own RelG PlP TxP Gm RegInv RegF RegG Bd1 Bd5 Draw DrawD DwP DwQ DwA DwB DwC DwD DwE TsI
theorem evs_l {w:World} {lo:Nat} {A:Option Addr} {m c:Nat} {es:List Ev} {S:Nat->Prop} (h:Evs w lo (.slice A m c) es) (hS:∀ b,lo<=b->S b):EvL w S A es:=(Ea.of h (λ b hb _=>hS b hb)).evl
end EtA
end Go.Proofs.YtjdefiinmicjiaaGreatDoor
