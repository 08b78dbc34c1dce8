/- Parts of a proof. Conditions: each theorem's own. -/
import Derived.Test.YtjdefiinmicjiaaGreatDoorV12
import Derived.Test.YtjdefiinmicjiaaGreatDoorV13
set_option linter.unusedVariables false
set_option linter.unusedSimpArgs false
set_option maxHeartbeats 8000000
set_option maxRecDepth 100000
namespace Go.Proofs.YtjdefiinmicjiaaGreatDoor
open _root_.Go.Proofs.Tryz
namespace Gm
open Go Go.ChangeShapes Go.WideShapes Go.ChangeAt Go.RowKit Base Ints Own RelG PlP TxP Num Bd1 Bd5 RegInv RegF RegG TxI TsI
structure AsF (w1:World) (ka ks:Nat) (cells:List Value) (t:TypeId) (L:Nat->Prop) (vals:Nat->Value) (w':World):Prop where
 bel:Below w1.heap.size w1 w'
 fa:L ka->∃ g,vals ka=pT g 0∧w1.heap.size<=g∧∃ cs,cs.length=cells.length∧RowB w' g t cs
 fw:L ks->∀ g,vals ka=pT g 0->RowB w' g t cells
section
variable {w1 w' w'':World} {ka ks:Nat} {cells:List Value} {t:TypeId} {L:Nat->Prop} {vals:Nat->Value}
theorem AsF.skip (F:AsF w1 ka ks cells t L vals w') (k:Nat) (v:Value) (hk:[ka,ks].all (λ j=>j != k)=true:=by decide):AsF w1 ka ks cells t (λ j=>j=k∨L j) (upd vals k v) w':=by
 simp only [List.all_cons,Bool.and_eq_true,bne_iff_ne,ne_eq,List.all_nil,and_true] at hk;obtain⟨a,b⟩:=hk;refine⟨F.bel,λ h=>?_,λ h=>?_⟩
 ·rw [upd_ne a];exact F.fa (h.resolve_left a)
 ·rw [upd_ne a];exact F.fw (h.resolve_left b)
theorem AsF.box (F:AsF w1 ka ks cells t L vals w') (hk:ks≠ka) (hdep:¬ L ks) {cs:List Value} (hcs:cs.length=cells.length):AsF w1 ka ks cells t (λ j=>j=ka∨L j) (upd vals ka (pT w'.heap.size 0)) (w'.alloc (.cells ⟨cs⟩ t)):=by
 refine⟨F.bel.alloc F.bel.size _,λ h=>?_,λ h=>?_⟩
 ·rw [upd_same];exact⟨_,rfl,F.bel.size,cs,hcs,nW⟩
 ·exact absurd (h.resolve_left hk) hdep
theorem AsF.wrote (F:AsF w1 ka ks cells t L vals w') (hk:ka≠ks) {g:Nat} {cs:List Value} (hg:vals ka=pT g 0) (hlo:w1.heap.size<=g) (r:RowB w' g t cs) (hcs:cs.length=cells.length):AsF w1 ka ks cells t (λ j=>j=ks∨L j) (upd vals ks undef) (w'.setCells g 0 cells):=by
 have c:=row_cells cells 0 w' cs r;rw [setL_all cs cells hcs] at c;have a:=grown_cells g cells 0 w';refine⟨⟨a.os.trans F.bel.os,a.tape.trans F.bel.tape,a.output.trans F.bel.output,Nat.le_trans F.bel.size a.size,λ k hk=>(a.block k (Nat.lt_of_lt_of_le hk F.bel.size) (λ e=>by simp at e;omega)).trans (F.bel.block k hk)⟩,λ h=>?_,λ _ d b=>?_⟩
 ·rw [upd_ne hk];exact⟨g,hg,hlo,cells,rfl,c⟩
 ·rw [upd_ne hk,hg] at b;have e:g=d:=by simpa using b
  exact e ▸ c
end
structure StF (w1:World) (o:Nat) (t:TypeId) (old new:List Value) (ks:Nat) (L:Nat->Prop) (w':World):Prop where
 bel:w1.grownBy w' (some o)
 row:∃ cs,cs.length=old.length∧RowB w' o t cs
 fw:L ks->RowB w' o t new
section
variable {w1 w' w'':World} {o ks:Nat} {old new:List Value} {t:TypeId} {L:Nat->Prop}
theorem StF.skip (F:StF w1 o t old new ks L w') (k:Nat) (hk:ks≠k:=by decide):StF w1 o t old new ks (λ j=>j=k∨L j) w' :=
 ⟨F.bel,F.row,λ h=>F.fw (h.resolve_left hk)⟩
theorem StF.of {L':Nat->Prop} (F:StF w1 o t old new ks L w') (h:L' ks->L ks):StF w1 o t old new ks L' w':=⟨F.bel,F.row,λ h'=>F.fw (h h')⟩
theorem StF.call (F:StF w1 o t old new ks L w') (k:Nat) (hk:ks≠k) (hb:zB w' w''):StF w1 o t old new ks (λ j=>j=k∨L j) w'' :=
 ⟨Base.grownBy_trans F.bel ⟨hb.os,hb.tape,hb.output,hb.size,λ i hi _=>hb.block i hi⟩,by
  obtain⟨cs,h1,h2⟩:=F.row;exact⟨cs,h1,h2.below hb h2.lt⟩,λ h=>by
  have r:=F.fw (h.resolve_left hk);exact r.below hb r.lt⟩
theorem StF.wrote (F:StF w1 o t old new ks L w') (hn:new.length=old.length) {cs:List Value} (hcs:cs.length=old.length) (r:RowB w' o t cs):StF w1 o t old new ks (λ j=>j=ks∨L j) (w'.setCells o 0 new):=by
 have a:=row_cells new 0 w' cs r;rw [setL_all cs new (by omega)] at a;exact⟨Base.grownBy_trans F.bel (grown_cells o new 0 w'),⟨new,hn,a⟩,λ _=>a⟩
end
def VrR (o:Option Vr) (w:World) (e:Ending) (w':World):Prop :=
 ∃(p c h s:Int) (ok:Bool),e=.returned (.tuple #[.agg #[iL p,iL c,iL h,iL s],.bool ok])∧Below w.heap.size w w'∧(if ok=true then o=some ⟨p,c,h,s⟩ else o=none)
theorem list4 {α:Type} {X:List α} (h:X.length=4):∃ a b c d,X=[a,b,c,d]:=by
 match X,h with
 | [a,b,c,d],_=>exact⟨a,b,c,d,rfl⟩
theorem rvar_i (t:By) (hl:t.length<=4194304) (w:World) (E:Env w) :
  Calls prog 69 #[.string (bs t)] w λ e w'=>VrR (rdV t) w e w':=by
 have hV:rdV t=match mapO decF (spl 47 t) with
  | some [a,b,c,d]=>if okV ⟨a,b,c,d⟩=true then some ⟨a,b,c,d⟩ else none
  | _=>none:=rfl
 obtain⟨O,hO⟩:=eX (mapO decF (spl 47 t));have CS:=kD (λ(G:World) (E9:Env G)=>split_i t 47 hl G E9);rw [hO] at CS hV;obtain⟨R,hR⟩:=eX (rdV t);rw [hR] at hV ⊢;have HV:=kD hV;clear hV hO hR hl;go_enter func69,ntmps69;go_upto_region 1 with fail;refine wp_gen (λ W'=>Rows w W' [(0,25,[iL 0,iL 0,iL 0,iL 0])]) ⟨by go_grown,λ p hp=>?_⟩ ?_
 ·obtain rfl:=List.mem_singleton.1 hp;exact nW
 intro w1 K;go_wp2_with fail;refine(CS.out _ (E.below K.bel)).mono ?_;rintro e w3 ⟨sv,rfl,H,hb⟩;have aj:=(K.nth0 0 rfl).lt;have K:=K.below hb;have I:=(K.nth0 0 rfl).lt;clear hb CS
 cases O with
 | none =>
  have hn:none=R:=HV.out.symm;subst hn;clear HV H;have i:=K.nth0 0 rfl;go_wp2_with (refine wM 25 0 [iL 0,iL 0,iL 0,iL 0] i ?_;intro w7 J D z7;refine Hid.out ?_);have M:=(K.grown 0 J D).bel;obtain⟨V,T,S,Q⟩:=J.c4;have aa:=J.lt;clear D i K I;refine kD ?_
  repeat (first | go_values | go_skip | go_step | go_upon)
  refine bodyPost_ret (v:=.tuple #[.agg #[iL 0,iL 0,iL 0,iL 0],.bool false]) (by simp [results,results69,go_sem,V,T,S,Q]) rfl ?_;exact⟨0,0,0,0,false,rfl,M,rfl⟩
 | some X =>
 by_cases hx:X.length=4
 case neg =>
  have H:OwnS w3 w1.heap.size w3.heap.size 2 1 enI sv X:=H;obtain⟨A,cp,P,ad⟩:=H.form enI_len;have e1:((X.length:Int) != 4)=true:=by simp;omega
  have ah:=ad.len;obtain⟨nx,ae⟩:=eX (X.length);rw [ae] at P e1 ah;subst P;have hn:none=R:=by
   rw [HV.out]
   match X,hx with
   | [],_=>rfl
   | [a],_=>rfl
   | [a,b],_=>rfl
   | [a,b,c],_=>rfl
   | [a,b,c,d],h=>exact absurd rfl h
   | a :: b :: c :: d :: f :: l,_=>rfl
  subst hn;clear HV H ad ae hx;have i:=K.nth0 0 rfl;go_wp2_with (refine wM 25 0 [iL 0,iL 0,iL 0,iL 0] i ?_;intro w7 J D z7;refine Hid.out ?_);have M:=(K.grown 0 J D).bel;obtain⟨V,T,S,Q⟩:=J.c4;have aa:=J.lt;clear D i K I;refine kD ?_
  repeat (first | go_values | go_skip | go_step | go_upon)
  refine bodyPost_ret (v:=.tuple #[.agg #[iL 0,iL 0,iL 0,iL 0],.bool false]) (by simp [results,results69,go_sem,V,T,S,Q]) rfl ?_;exact⟨0,0,0,0,false,rfl,M,rfl⟩
 obtain⟨a,b,c,d,rfl⟩:=list4 hx;have H:OwnS w3 w1.heap.size w3.heap.size 2 1 enI sv [a,b,c,d]:=H;rcases H.cases_ with ⟨_,h⟩ | ⟨g,cap,rest,P,hg1,hg2,N,hc1,hc2,hc3⟩
 ·cases h
 have ac:sv=.slice (sA g 0) 4 cap:=P;subst ac;have N:RowB w3 g 2 (iL a :: iL b :: iL c :: iL d :: rest):=N;have am:4<=cap:=hc1;have al:cap<=9223372036854775807:=by have:=hc2;unfold maxLen at this;omega
 have j:=kD N;obtain⟨ov,Y⟩:=eX (okV ⟨a,b,c,d⟩);have HW:Hid (R=if ov=true then some ⟨a,b,c,d⟩ else none):=by
  show _=_
  rw [HV.out,<-Y]
 have CI:=kD (λ G=>var_i ⟨a,b,c,d⟩ ov Y G);clear H P hg1 hg2 N hc1 hc2 hc3 hx HV Y;go_upto_region 4 with fail;refine region_rel [some 20,some 21,some 22,some 23,some 24,some 25,some 26,some 27,some 28,some 29,some 30,some 31,some 32,some 6,none] 15 (Pl [some (.slice (sA g 0) 4 cap),some (pT g 0),some (iL a),some (.slice (sA g 0) 4 cap),some (pT g 1),some (iL b),some (.slice (sA g 0) 4 cap),some (pT g 2),some (iL c),some (.slice (sA g 0) 4 cap),some (pT g 3),some (iL d),some (.agg #[iL a,iL b,iL c,iL d]),none,none]) (λ L k w'=>AsF w3 13 14 [iL a,iL b,iL c,iL d] 25 L k w') (by kernel_rfl) (by kernel_rfl) (by kernel_rfl) (by kernel_rfl) (by kernel_rfl) (by kernel_rfl) (by first | kernel_rfl | rfl) ?g0_3 ?gst_3 ?gfin_3
 case g0_3=>exact⟨(zRf).drew,λ h=>absurd h (by decide),λ h=>absurd h (by decide)⟩
 case gst_3 =>
  refine rN rfl (λ L k A G m q r U F K s=>?_) ?_
  ·have e4:=U.w 4 (.slice (sA g 0) 4 cap);have i:=j.out.below F.bel j.out.lt;have C:=i.cell 0;have B:=i.cell 1;have z:=i.cell 2;have y:=i.cell 3;simp only [List.getElem?_cons_zero,List.getElem?_cons_succ] at C B z y;clear i;go_simp;exact pF s (F.skip 0 _)
  refine rN rfl (λ L k A G m q r U F K s=>?_) ?_
  ·have aB:=U.v 0 20;have i:=j.out.below F.bel j.out.lt;have C:=i.cell 0;have B:=i.cell 1;have z:=i.cell 2;have y:=i.cell 3;simp only [List.getElem?_cons_zero,List.getElem?_cons_succ] at C B z y;clear i;go_simp;exact pF s (F.skip 1 _)
  refine rN rfl (λ L k A G m q r U F K s=>?_) ?_
  ·have aA:=U.v 1 21;have i:=j.out.below F.bel j.out.lt;have C:=i.cell 0;have B:=i.cell 1;have z:=i.cell 2;have y:=i.cell 3;simp only [List.getElem?_cons_zero,List.getElem?_cons_succ] at C B z y;have Z:=i.lt;clear i;go_simp;exact pF s (F.skip 2 _)
  refine rN rfl (λ L k A G m q r U F K s=>?_) ?_
  ·have e4:=U.w 4 (.slice (sA g 0) 4 cap);have i:=j.out.below F.bel j.out.lt;have C:=i.cell 0;have B:=i.cell 1;have z:=i.cell 2;have y:=i.cell 3;simp only [List.getElem?_cons_zero,List.getElem?_cons_succ] at C B z y;clear i;go_simp;exact pF s (F.skip 3 _)
  refine rN rfl (λ L k A G m q r U F K s=>?_) ?_
  ·have ay:=U.v 3 23;have i:=j.out.below F.bel j.out.lt;have C:=i.cell 0;have B:=i.cell 1;have z:=i.cell 2;have y:=i.cell 3;simp only [List.getElem?_cons_zero,List.getElem?_cons_succ] at C B z y;clear i;go_simp;exact pF s (F.skip 4 _)
  refine rN rfl (λ L k A G m q r U F K s=>?_) ?_
  ·have ax:=U.v 4 24;have i:=j.out.below F.bel j.out.lt;have C:=i.cell 0;have B:=i.cell 1;have z:=i.cell 2;have y:=i.cell 3;simp only [List.getElem?_cons_zero,List.getElem?_cons_succ] at C B z y;have Z:=i.lt;clear i;go_simp;exact pF s (F.skip 5 _)
  refine rN rfl (λ L k A G m q r U F K s=>?_) ?_
  ·have e4:=U.w 4 (.slice (sA g 0) 4 cap);have i:=j.out.below F.bel j.out.lt;have C:=i.cell 0;have B:=i.cell 1;have z:=i.cell 2;have y:=i.cell 3;simp only [List.getElem?_cons_zero,List.getElem?_cons_succ] at C B z y;clear i;go_simp;exact pF s (F.skip 6 _)
  refine rN rfl (λ L k A G m q r U F K s=>?_) ?_
  ·have av:=U.v 6 26;have i:=j.out.below F.bel j.out.lt;have C:=i.cell 0;have B:=i.cell 1;have z:=i.cell 2;have y:=i.cell 3;simp only [List.getElem?_cons_zero,List.getElem?_cons_succ] at C B z y;clear i;go_simp;exact pF s (F.skip 7 _)
  refine rN rfl (λ L k A G m q r U F K s=>?_) ?_
  ·have ar:=U.v 7 27;have i:=j.out.below F.bel j.out.lt;have C:=i.cell 0;have B:=i.cell 1;have z:=i.cell 2;have y:=i.cell 3;simp only [List.getElem?_cons_zero,List.getElem?_cons_succ] at C B z y;have Z:=i.lt;clear i;go_simp;exact pF s (F.skip 8 _)
  refine rN rfl (λ L k A G m q r U F K s=>?_) ?_
  ·have e4:=U.w 4 (.slice (sA g 0) 4 cap);have i:=j.out.below F.bel j.out.lt;have C:=i.cell 0;have B:=i.cell 1;have z:=i.cell 2;have y:=i.cell 3;simp only [List.getElem?_cons_zero,List.getElem?_cons_succ] at C B z y;clear i;go_simp;exact pF s (F.skip 9 _)
  refine rN rfl (λ L k A G m q r U F K s=>?_) ?_
  ·have ap:=U.v 9 29;have i:=j.out.below F.bel j.out.lt;have C:=i.cell 0;have B:=i.cell 1;have z:=i.cell 2;have y:=i.cell 3;simp only [List.getElem?_cons_zero,List.getElem?_cons_succ] at C B z y;clear i;go_simp;exact pF s (F.skip 10 _)
  refine rN rfl (λ L k A G m q r U F K s=>?_) ?_
  ·have ao:=U.v 10 30;have i:=j.out.below F.bel j.out.lt;have C:=i.cell 0;have B:=i.cell 1;have z:=i.cell 2;have y:=i.cell 3;simp only [List.getElem?_cons_zero,List.getElem?_cons_succ] at C B z y;have Z:=i.lt;clear i;go_simp;exact pF s (F.skip 11 _)
  refine rN rfl (λ L k A G m q r U F K s=>?_) ?_
  ·have az:=U.v 2 22;have aw:=U.v 5 25;have aq:=U.v 8 28;have an:=U.v 11 31;have i:=j.out.below F.bel j.out.lt;have C:=i.cell 0;have B:=i.cell 1;have z:=i.cell 2;have y:=i.cell 3;simp only [List.getElem?_cons_zero,List.getElem?_cons_succ] at C B z y;clear i;go_simp;exact pF s (F.skip 12 _)
  refine rN rfl (λ L k A G m q r U F K s=>?_) ?_
  ·go_simp;exact s.out _ _ (Pl.any rfl) (F.box (by decide) (λ h=>m (r 14 13 (by kernel_rfl) h)) rfl)
  refine rN rfl (λ L k A G m q r U F K s=>?_) ?_
  ·have e6:=U.x 13 6;have ai:=U.v 12 32;refine(F.fa (bK q 13)).elim λ g9 qa=>?_
   refine qa.2.2.elim λ cs qc=>?_
   have ag:cs.length=4:=qc.1;refine wp_sm 25 _ _ rfl g9 0 [iL a,iL b,iL c,iL d] cs (ev (e6.trans qa.1)) (ev ai) 25 qc.2 (by kernel_rfl) (Nat.le_of_eq ag.symm) rfl ?_;exact s.out undef _ (Pl.any rfl) (F.wrote (by decide) qa.1 qa.2.1 qc.2 ag)
  exact RelFrom.nil (by decide)
 intro k G hp F;simp only [Fr,Act.put,sX,Nat.reduceAdd];obtain⟨g6,ab,ak,-⟩:=F.fa trivial;have W:=F.fw trivial g6 ab;have K:=K.below F.bel;rw [ab];clear F hp I j ab;have I:=(K.nth0 0 rfl).lt;obtain⟨x0,x1,x2,x3⟩:=W.c4;have af:=W.lt;go_wp2_with fail;refine(CI.out _).mono ?_;rintro e w4 ⟨rfl,hb⟩;have K:=K.below hb;have W:=W.below hb W.lt;clear I x0 x1 x2 x3 af hb CI;have I:=(K.nth0 0 rfl).lt;obtain⟨x0,x1,x2,x3⟩:=W.c4;have af:=W.lt
 cases ov with
 | false =>
  obtain rfl:none=R:=HW.out.symm;clear HW;have i:=K.nth0 0 rfl;go_wp2_with (refine wM 25 0 [iL 0,iL 0,iL 0,iL 0] i ?_;intro w7 J D z7;refine Hid.out ?_);have M:=(K.grown 0 J D).bel;obtain⟨V,T,S,Q⟩:=J.c4;have aa:=J.lt;clear D i K I;refine kD ?_
  repeat (first | go_values | go_skip | go_step | go_upon)
  refine bodyPost_ret (v:=.tuple #[.agg #[iL 0,iL 0,iL 0,iL 0],.bool false]) (by simp [results,results69,go_sem,V,T,S,Q]) rfl ?_;exact⟨0,0,0,0,false,rfl,M,rfl⟩
 | true =>
  have hw:=HW.out;clear HW;have i:=K.nth0 0 rfl;go_wp2_with (refine wM 25 0 [iL a,iL b,iL c,iL d] i ?_;intro w7 J D z7;refine Hid.out ?_);have M:=(K.grown 0 J D).bel;obtain⟨V,T,S,Q⟩:=J.c4;have aa:=J.lt;clear D i K I;refine kD ?_
  repeat (first | go_values | go_skip | go_step | go_upon)
  refine bodyPost_ret (v:=.tuple #[.agg #[iL a,iL b,iL c,iL d],.bool true]) (by simp [results,results69,go_sem,V,T,S,Q]) rfl ?_;exact⟨a,b,c,d,true,rfl,M,hw⟩
theorem vtext_s (v:Vr) (w:World):Calls prog 65 #[vA v] w λ e w'=>e=.returned (.string (bs (vT v)))∧Below w.heap.size w w':=by
 obtain⟨ov,ag⟩:=eX (okV v);have CI:=kD (λ i=>var_s v ov ag i);have HO:=kD ag;clear ag;go_enter func65,ntmps65;go_upto_region 1 with fail;refine wp_gen (λ W'=>Rows w W' [(0,25,vL v)]) ⟨by go_grown,λ p hp=>?_⟩ ?_
 ·obtain rfl:=List.mem_singleton.1 hp;exact nW
 intro w1 K;obtain⟨q0,q1,q2,q3⟩:=(K.nth0 0 rfl).c4;have G:=(K.nth0 0 rfl).lt;go_wp2_with fail;refine(CI.out _).mono ?_;rintro e w2 ⟨rfl,hb⟩;have K:=K.below hb;clear q0 q1 q2 q3 G hb CI;obtain⟨q0,q1,q2,q3⟩:=(K.nth0 0 rfl).c4;have G:=(K.nth0 0 rfl).lt
 cases ov with
 | false =>
  have h1:vT v=[]:=by unfold vT;rw [if_neg (by rw [HO.out];decide)]
  have HV:=kD h1;clear h1;go_wp2_with fail;go_returns;exact⟨by rw [HV.out];rfl,K.bel⟩
 | true =>
 have hp:=okV_iff.1 HO.out;have HV:=kD (vT_at HO.out);have C1:=kD (λ i=>num_s v.p (by omega) (by omega) i);have C2:=kD (λ i=>num_s v.c (by omega) (by omega) i);have C3:=kD (λ i=>num_s v.h (by omega) (by omega) i);have C4:=kD (λ i=>num_s v.s (by omega) (by omega) i);have l1:=ito_len (n:=v.p) (by omega) (by omega);have l2:=ito_len (n:=v.c) (by omega) (by omega);have l3:=ito_len (n:=v.h) (by omega) (by omega);have l4:=ito_len (n:=v.s) (by omega) (by omega);obtain⟨x1,aa⟩:∃ z:ByteArray,bs (Lib.itoa v.p)=z:=⟨_,rfl⟩;obtain⟨x2,Z⟩:∃ z:ByteArray,bs (Lib.itoa v.c)=z:=⟨_,rfl⟩;obtain⟨x3,Y⟩:∃ z:ByteArray,bs (Lib.itoa v.h)=z:=⟨_,rfl⟩;obtain⟨x4,X⟩:∃ z:ByteArray,bs (Lib.itoa v.s)=z:=⟨_,rfl⟩;have s1:x1.size<=2:=by rw [<-aa];exact Nat.le_trans (Nat.le_of_eq (bs_size _)) l1.2
 have s2:x2.size<=2:=by rw [<-Z];exact Nat.le_trans (Nat.le_of_eq (bs_size _)) l2.2
 have s3:x3.size<=2:=by rw [<-Y];exact Nat.le_trans (Nat.le_of_eq (bs_size _)) l3.2
 have s4:x4.size<=2:=by rw [<-X];exact Nat.le_trans (Nat.le_of_eq (bs_size _)) l4.2
 have HI:Hid (((((x1++(⟨#[47]⟩:ByteArray))++x2++(⟨#[47]⟩:ByteArray))++x3)++(⟨#[47]⟩:ByteArray))++x4=bs (vT v)):=by
  show _=_
  rw [HV.out,<-aa,<-Z,<-Y,<-X];have g2:(⟨#[47]⟩:ByteArray)=bs [47]:=rfl;simp only [g2,bs_cat]
 rw [aa] at C1;rw [Z] at C2;rw [Y] at C3;rw [X] at C4;obtain⟨T1,af⟩:=eX (x1++(⟨#[47]⟩:ByteArray));have u1:T1.size<=3:=by rw [<-af,ByteArray.size_append];show x1.size+1<=3;omega
 obtain⟨T2,ae⟩:=eX (T1++x2);have u2:T2.size<=5:=by rw [<-ae,ByteArray.size_append];omega
 obtain⟨T3,ad⟩:=eX (T2++(⟨#[47]⟩:ByteArray));have u3:T3.size<=6:=by rw [<-ad,ByteArray.size_append];show T2.size+1<=6;omega
 obtain⟨T4,ac⟩:=eX (T3++x3);have u4:T4.size<=8:=by rw [<-ac,ByteArray.size_append];omega
 obtain⟨T5,ab⟩:=eX (T4++(⟨#[47]⟩:ByteArray));have u5:T5.size<=9:=by rw [<-ab,ByteArray.size_append];show T4.size+1<=9;omega
 obtain⟨T6,ah⟩:=eX (T5++x4);rw [af,ae,ad,ac,ab,ah] at HI;have P:Hid (¬ 9223372036854775807<x1.size+1):=kD (by omega);have O:Hid (¬ 9223372036854775807<T1.size+x2.size):=kD (by omega);have N:Hid (¬ 9223372036854775807<T2.size+1):=kD (by omega);have M:Hid (¬ 9223372036854775807<T3.size+x3.size):=kD (by omega);have J:Hid (¬ 9223372036854775807<T4.size+1):=kD (by omega);have I:Hid (¬ 9223372036854775807<T5.size+x4.size):=kD (by omega);have t:=kD af;have r:=kD ae;have q:=kD ad;have m:=kD ac;have l:=kD ab;have k:=kD ah;have HK:=kD K;clear aa Z Y X s1 s2 s3 s4 l1 l2 l3 l4 hp af ae ad ac ab ah u1 u2 u3 u4 u5 K q0 q1 q2 q3 G HO HV;go_wp2_with fail;refine region_rel [some 6,some 7,some 8,some 9,some 10,some 11,some 12,some 13,some 14,some 15,some 16,some 17,some 18,some 19,some 20,some 21,some 22,some 23,some 2] 19 (Pl [some (pT w.heap.size 0),some (iL v.p),some (.string x1),some (.string T1),some (pT w.heap.size 1),some (iL v.c),some (.string x2),some (.string T2),some (.string T3),some (pT w.heap.size 2),some (iL v.h),some (.string x3),some (.string T4),some (.string T5),some (pT w.heap.size 3),some (iL v.s),some (.string x4),some (.string T6),some (.string T6)]) (λ L a w'=>Below w2.heap.size w2 w') (by kernel_rfl) (by kernel_rfl) (by kernel_rfl) (by kernel_rfl) (by kernel_rfl) (by kernel_rfl) (by first | kernel_rfl | rfl) ?g0_1 ?gst_1 ?gfin_1
 case g0_1=>exact(zRf).drew
 case gst_1 =>
  refine rN rfl (λ L a A i b d f U F K g=>?_) ?_
  ·have e1:=U.w 1 (pT w.heap.size 0);have j:=(HK.out.below F).nth0 0 rfl;obtain⟨r0,r1,r2,r3⟩:=j.c4;have G:=j.lt;clear j;have E:=P.out;have D:=O.out;have C:=N.out;have B:=M.out;have y:=J.out;have x:=I.out;have W:=t.out;have V:=r.out;have T:=q.out;have S:=m.out;have R:=l.out;have Q:=k.out;go_simp;exact pF g (F)
  refine rN rfl (λ L a A i b d f U F K g=>?_) ?_
  ·have e6:=U.v 0 6;have j:=(HK.out.below F).nth0 0 rfl;obtain⟨r0,r1,r2,r3⟩:=j.c4;have G:=j.lt;clear j;have E:=P.out;have D:=O.out;have C:=N.out;have B:=M.out;have y:=J.out;have x:=I.out;have W:=t.out;have V:=r.out;have T:=q.out;have S:=m.out;have R:=l.out;have Q:=k.out;go_simp;exact pF g (F)
  refine rN rfl (λ L a A i b d f U F K g=>?_) ?_
  ·have e7:=U.v 1 7;go_simp;refine(C1.out i).mono ?_;rintro e w6 ⟨rfl,H⟩;exact pF g (F.tR H)
  refine rN rfl (λ L a A i b d f U F K g=>?_) ?_
  ·have e8:=U.v 2 8;have E:=P.out;have D:=O.out;have C:=N.out;have B:=M.out;have y:=J.out;have x:=I.out;have W:=t.out;have V:=r.out;have T:=q.out;have S:=m.out;have R:=l.out;have Q:=k.out;go_simp;exact pF g (F)
  refine rN rfl (λ L a A i b d f U F K g=>?_) ?_
  ·have e1:=U.w 1 (pT w.heap.size 0);have j:=(HK.out.below F).nth0 0 rfl;obtain⟨r0,r1,r2,r3⟩:=j.c4;have G:=j.lt;clear j;have E:=P.out;have D:=O.out;have C:=N.out;have B:=M.out;have y:=J.out;have x:=I.out;have W:=t.out;have V:=r.out;have T:=q.out;have S:=m.out;have R:=l.out;have Q:=k.out;go_simp;exact pF g (F)
  refine rN rfl (λ L a A i b d f U F K g=>?_) ?_
  ·have ay:=U.v 4 10;have j:=(HK.out.below F).nth0 0 rfl;obtain⟨r0,r1,r2,r3⟩:=j.c4;have G:=j.lt;clear j;have E:=P.out;have D:=O.out;have C:=N.out;have B:=M.out;have y:=J.out;have x:=I.out;have W:=t.out;have V:=r.out;have T:=q.out;have S:=m.out;have R:=l.out;have Q:=k.out;go_simp;exact pF g (F)
  refine rN rfl (λ L a A i b d f U F K g=>?_) ?_
  ·have ax:=U.v 5 11;go_simp;refine(C2.out i).mono ?_;rintro e w6 ⟨rfl,H⟩;exact pF g (F.tR H)
  refine rN rfl (λ L a A i b d f U F K g=>?_) ?_
  ·have e9:=U.v 3 9;have aw:=U.v 6 12;have E:=P.out;have D:=O.out;have C:=N.out;have B:=M.out;have y:=J.out;have x:=I.out;have W:=t.out;have V:=r.out;have T:=q.out;have S:=m.out;have R:=l.out;have Q:=k.out;go_simp;exact pF g (F)
  refine rN rfl (λ L a A i b d f U F K g=>?_) ?_
  ·have av:=U.v 7 13;have E:=P.out;have D:=O.out;have C:=N.out;have B:=M.out;have y:=J.out;have x:=I.out;have W:=t.out;have V:=r.out;have T:=q.out;have S:=m.out;have R:=l.out;have Q:=k.out;go_simp;exact pF g (F)
  refine rN rfl (λ L a A i b d f U F K g=>?_) ?_
  ·have e1:=U.w 1 (pT w.heap.size 0);have j:=(HK.out.below F).nth0 0 rfl;obtain⟨r0,r1,r2,r3⟩:=j.c4;have G:=j.lt;clear j;have E:=P.out;have D:=O.out;have C:=N.out;have B:=M.out;have y:=J.out;have x:=I.out;have W:=t.out;have V:=r.out;have T:=q.out;have S:=m.out;have R:=l.out;have Q:=k.out;go_simp;exact pF g (F)
  refine rN rfl (λ L a A i b d f U F K g=>?_) ?_
  ·have aq:=U.v 9 15;have j:=(HK.out.below F).nth0 0 rfl;obtain⟨r0,r1,r2,r3⟩:=j.c4;have G:=j.lt;clear j;have E:=P.out;have D:=O.out;have C:=N.out;have B:=M.out;have y:=J.out;have x:=I.out;have W:=t.out;have V:=r.out;have T:=q.out;have S:=m.out;have R:=l.out;have Q:=k.out;go_simp;exact pF g (F)
  refine rN rfl (λ L a A i b d f U F K g=>?_) ?_
  ·have ap:=U.v 10 16;go_simp;refine(C3.out i).mono ?_;rintro e w6 ⟨rfl,H⟩;exact pF g (F.tR H)
  refine rN rfl (λ L a A i b d f U F K g=>?_) ?_
  ·have ar:=U.v 8 14;have ao:=U.v 11 17;have E:=P.out;have D:=O.out;have C:=N.out;have B:=M.out;have y:=J.out;have x:=I.out;have W:=t.out;have V:=r.out;have T:=q.out;have S:=m.out;have R:=l.out;have Q:=k.out;go_simp;exact pF g (F)
  refine rN rfl (λ L a A i b d f U F K g=>?_) ?_
  ·have an:=U.v 12 18;have E:=P.out;have D:=O.out;have C:=N.out;have B:=M.out;have y:=J.out;have x:=I.out;have W:=t.out;have V:=r.out;have T:=q.out;have S:=m.out;have R:=l.out;have Q:=k.out;go_simp;exact pF g (F)
  refine rN rfl (λ L a A i b d f U F K g=>?_) ?_
  ·have e1:=U.w 1 (pT w.heap.size 0);have j:=(HK.out.below F).nth0 0 rfl;obtain⟨r0,r1,r2,r3⟩:=j.c4;have G:=j.lt;clear j;have E:=P.out;have D:=O.out;have C:=N.out;have B:=M.out;have y:=J.out;have x:=I.out;have W:=t.out;have V:=r.out;have T:=q.out;have S:=m.out;have R:=l.out;have Q:=k.out;go_simp;exact pF g (F)
  refine rN rfl (λ L a A i b d f U F K g=>?_) ?_
  ·have al:=U.v 14 20;have j:=(HK.out.below F).nth0 0 rfl;obtain⟨r0,r1,r2,r3⟩:=j.c4;have G:=j.lt;clear j;have E:=P.out;have D:=O.out;have C:=N.out;have B:=M.out;have y:=J.out;have x:=I.out;have W:=t.out;have V:=r.out;have T:=q.out;have S:=m.out;have R:=l.out;have Q:=k.out;go_simp;exact pF g (F)
  refine rN rfl (λ L a A i b d f U F K g=>?_) ?_
  ·have ak:=U.v 15 21;go_simp;refine(C4.out i).mono ?_;rintro e w6 ⟨rfl,H⟩;exact pF g (F.tR H)
  refine rN rfl (λ L a A i b d f U F K g=>?_) ?_
  ·have am:=U.v 13 19;have aj:=U.v 16 22;have E:=P.out;have D:=O.out;have C:=N.out;have B:=M.out;have y:=J.out;have x:=I.out;have W:=t.out;have V:=r.out;have T:=q.out;have S:=m.out;have R:=l.out;have Q:=k.out;go_simp;exact pF g (F)
  refine rN rfl (λ L a A i b d f U F K g=>?_) ?_
  ·have ai:=U.v 17 23;have E:=P.out;have D:=O.out;have C:=N.out;have B:=M.out;have y:=J.out;have x:=I.out;have W:=t.out;have V:=r.out;have T:=q.out;have S:=m.out;have R:=l.out;have Q:=k.out;go_simp;exact pF g (F)
  exact RelFrom.nil (by decide)
 intro a i hp F;simp only [Fr,Act.put,sX,Nat.reduceAdd];have h4:a 18=.string T6:=hp 18 (by decide) _ rfl;rw [h4,HI.out];have K:=HK.out.below F;clear F hp h4;go_wp2_with fail;go_returns;exact⟨rfl,K.bel⟩
theorem spl_mem_len (c:UInt8):∀(l:By),∀ x ∈ spl c l,x.length<=l.length:=by
 intro l
 induction l with
 | nil=>intro x b;simp [spl] at b;subst b;exact Nat.le_refl _
 | cons y l ih =>
  intro x b;unfold spl at b;split at b
  ·rcases List.mem_cons.1 b with rfl | b
   ·simp
   ·have:=ih x b;simp only [List.length_cons];omega
  ·cases hs:spl c l with
   | nil=>exact absurd hs (spl_ne c l)
   | cons a r =>
    rw [hs] at b ih;simp only at b;rcases List.mem_cons.1 b with rfl | b
    ·have:=ih a (by simp);simp only [List.length_cons];omega
    ·have:=ih x (by simp [b]);simp only [List.length_cons];omega
def HdR (o:Option (Vr × Int)) (w:World) (e:Ending) (w':World):Prop :=
 ∃(p c h s n:Int) (ok:Bool),e=.returned (.tuple #[.agg #[iL p,iL c,iL h,iL s,iL n,.slice none 0 0],.bool ok])∧Below w.heap.size w w'∧(if ok=true then o=some (⟨p,c,h,s⟩,n) else o=none)
theorem list3 {α:Type} {X:List α} (h:X.length=3):∃ a b c,X=[a,b,c]:=by
 match X,h with
 | [a,b,c],_=>exact⟨a,b,c,rfl⟩
theorem words3 {w:World} {B:Nat} {A:Option Addr} {a b c:By} (h:RdS w B 1 enBs A [a,b,c]):∃ g o,A=some ⟨g,o,none⟩∧g<B∧w.cell? ⟨g,o,none⟩=some (.string (bs a))∧w.cell? ⟨g,o+1,none⟩=some (.string (bs b))∧w.cell? ⟨g,o+2,none⟩=some (.string (bs c)):=by
 obtain⟨g,o,rfl,e,d⟩:=h.2 (by simp);refine⟨g,o,rfl,e,?_,?_,?_⟩
 ·simpa using d 0 a rfl 0 _ rfl
 ·simpa using d 1 b rfl 0 _ rfl
 ·simpa using d 2 c rfl 0 _ rfl
theorem rhead_i (t:By) (hl:t.length<=4194304) (w:World) (E:Env w) :
  Calls prog 41 #[.string (bs t)] w λ e w'=>HdR (rdH t) w e w':=by
 have hV:rdH t=match spl 32 t with
  | [a,b,c]=>if a=maW then (match rdV b,decO c with
   | some v,some n=>if headB v n=true then some (v,n) else none
   | _,_=>none) else none
  | _=>none:=rfl
 have CS:=kD (λ(m:World) (E9:Env m)=>split_w t 32 hl m E9);have T:∀ x ∈ spl 32 t,x.length<=t.length:=spl_mem_len 32 t;obtain⟨O,hO⟩:=eX (spl 32 t);rw [hO] at CS hV T;obtain⟨R,hR⟩:=eX (rdH t);rw [hR] at hV ⊢;have Z:=kD hV;have CR:=kD (λ(x:By) (S:x ∈ O) (m:World) (E9:Env m)=>rvar_i x (Nat.le_trans (T x S) hl) m E9);have CD:=kD (λ(x:By) (S:x ∈ O) (m:World) (E9:Env m)=>rdd_w x (Nat.le_trans (T x S) hl) m E9);clear hV hO hR hl T;go_enter func41,ntmps41;go_upto_region 1 with fail;refine wp_gen (λ Y=>Rows w Y [(0,37,[iL 0,iL 0,iL 0,iL 0,iL 0,.slice none 0 0])]) ⟨by go_grown,λ p hp=>?_⟩ ?_
 ·obtain rfl:=List.mem_singleton.1 hp;exact nW
 intro w1 K;go_wp2_with fail;refine(CS.out _ (E.below K.bel)).mono ?_;rintro e w2 ⟨A,cp,rfl,H,J⟩;have K:=K.below J;have G:=(K.nth0 0 rfl).lt;have an:=H.len;clear J CS;by_cases S:O.length=3
 case neg =>
  have e1:((O.length:Int) != 3)=true:=by simp;omega
  obtain⟨nx,aa⟩:=eX (O.length);rw [aa] at e1 an;rw [aa];have hn:none=R:=by
   rw [Z.out]
   match O,S with
   | [],_=>rfl
   | [a],_=>rfl
   | [a,b],_=>rfl
   | [a,b,c],h=>exact absurd rfl h
   | a :: b :: c :: f :: l,_=>rfl
  subst hn;clear Z H aa S CR CD;have rr:=K.nth0 0 rfl;go_wp2_with (refine wM 37 0 [iL 0,iL 0,iL 0,iL 0,iL 0,.slice none 0 0] rr ?_;intro w7 s7 M z7;refine Hid.out ?_);have ad:=(K.grown 0 s7 M).bel;obtain⟨z0,z1,z2,z3,z4,z5⟩:=s7.c6;have ao:=s7.lt;clear M rr K G;refine kD ?_
  repeat (first | go_values | go_skip | go_step | go_upon)
  refine bodyPost_ret (v:=.tuple #[.agg #[iL 0,iL 0,iL 0,iL 0,iL 0,.slice none 0 0],.bool false]) (by simp [results,results41,go_sem,z0,z1,z2,z3,z4,z5]) rfl ?_;exact⟨0,0,0,0,0,false,rfl,ad,rfl⟩
 obtain⟨x0,x1,x2,rfl⟩:=list3 S;obtain⟨gw,ow,rfl,ap,aq,ac,C⟩:=words3 H;have am:=kD ac;have P:=kD C;have CR:=kD (CR.out x1 (by simp));have CD:=kD (CD.out x2 (by simp));by_cases hma:x0=maW
 rotate_left
 ·have e0:((bs x0).toList == [109,97,116,99,104])=false:=by
   rw [ByteArray.toList_eq,bs_data];exact beq_eq_false_iff_ne.2 (λ h=>hma h)
  have ak:((bs x0).toList != [109,97,116,99,104])=true:=by simp only [bne,e0];rfl
  have hn:none=R:=by rw [Z.out];simp only [if_neg hma]
  subst hn;clear Z H S CR CD am P ac C hma;have rr:=K.nth0 0 rfl;go_wp2_with (refine wM 37 0 [iL 0,iL 0,iL 0,iL 0,iL 0,.slice none 0 0] rr ?_;intro w7 s7 M z7;refine Hid.out ?_);have ad:=(K.grown 0 s7 M).bel;obtain⟨z0,z1,z2,z3,z4,z5⟩:=s7.c6;have ao:=s7.lt;clear M rr K G;refine kD ?_
  repeat (first | go_values | go_skip | go_step | go_upon)
  refine bodyPost_ret (v:=.tuple #[.agg #[iL 0,iL 0,iL 0,iL 0,iL 0,.slice none 0 0],.bool false]) (by simp [results,results41,go_sem,z0,z1,z2,z3,z4,z5]) rfl ?_;exact⟨0,0,0,0,0,false,rfl,ad,rfl⟩
 have e0:((bs x0).toList == [109,97,116,99,104])=true:=by rw [ByteArray.toList_eq,bs_data,hma];rfl
 have ak:((bs x0).toList != [109,97,116,99,104])=false:=by simp only [bne,e0];rfl
 have Z:Hid (R=match rdV x1,decO x2 with
   | some v,some n=>if headB v n=true then some (v,n) else none
   | _,_=>none):=by show _=_;rw [Z.out];simp only [if_pos hma]
 clear hma S H;go_wp2_with fail;refine(CR.out _ (E.below K.bel)).mono ?_;rintro e w3 ⟨p,c,h,s,d,rfl,J,ae⟩;have al:=kD ae;have K:=K.below J;have X:gw<w3.heap.size:=by have:=J.size;omega
 have P:Hid (w3.cell? ⟨gw,ow+2,none⟩=_):=kD ((J.cell ap).trans P.out);clear J CR ae aq ac C am e0 ak G;have G:=(K.nth0 0 rfl).lt;have C:=P.out;go_upto_region 5 with fail;refine wp_gen (λ Y=>Rows w Y [(0,37,[iL 0,iL 0,iL 0,iL 0,iL 0,.slice none 0 0])]∧RowB Y w3.heap.size 25 [iL p,iL c,iL h,iL s]∧Y.cell? ⟨gw,ow+2,none⟩=some (.string (bs x2))) ⟨K.below ((zRf).alloc lR _),nW,(((Below.refl w3.heap.size w3).alloc lR _).cell X).trans C⟩ ?_;have ah:w.heap.size<w3.heap.size:=G;clear K G C P;obtain⟨g5,ai⟩:=eX (w3.heap.size);rw [ai] at ah X ⊢;clear ai;rintro w4 ⟨K,Q,C⟩;go_wp2_with fail;refine(CD.out _ (E.below K.bel)).mono ?_;rintro e w5 ⟨rfl,J⟩;have K:=K.below J;have Q:=Q.below J Q.lt;obtain⟨⟨n,g⟩,D⟩:=eX (rdDec x2);rw [D];have hd:decO x2=if g=true then some n else none:=by unfold decO;rw [D]
 have HD:=kD hd;clear J CD C D hd;simp only;obtain⟨X0,X1,X2,X3⟩:=Q.c4;have I:=Q.lt;go_upto_region 7 with fail;refine wp_gen (λ Y=>Rows w Y [(0,37,[iL 0,iL 0,iL 0,iL 0,iL 0,.slice none 0 0])]∧RowB Y w5.heap.size 37 [iL p,iL c,iL h,iL s,iL n,.slice none 0 0]) ⟨K.below ((zRf).alloc lR _),nW⟩ ?_;have af:w.heap.size<w5.heap.size:=by have:=Q.lt;omega
 clear K Q X0 X1 X2 X3 I;obtain⟨g9,ag⟩:=eX (w5.heap.size);rw [ag] at af ⊢;clear ag;rintro w6 ⟨K,Q⟩;have N:=kD Q;have W:=kD K;clear K Q;obtain⟨D,ab⟩:=eX (headB ⟨p,c,h,s⟩ n);have HW:Hid (R=if (d && g && D)=true then some (⟨p,c,h,s⟩,n) else none):=by
  show _=_
  have h1:=al.out;have h2:=HD.out;rw [Z.out,h2]
  cases d with
  | false=>rw [show rdV x1=none from h1];rfl
  | true =>
   rw [show rdV x1=some ⟨p,c,h,s⟩ from h1]
   cases g with
   | false=>rfl
   | true=>simp only [if_true,ab,Bool.true_and]
 have CH:=kD (λ m=>head_i ⟨p,c,h,s⟩ n (.slice none 0 0) D ab m);simp only at CH;clear ab Z al HD;refine region_fix [some 39,some 40,some 41,some 42,some 43,some 44,some 45,some 46,some 47,none,some 3] (λ j_=>([.agg #[iL p,iL c,iL h,iL s,iL n,.slice none 0 0],.bool d,.bool d,(bif d == true then .bool g else undef),.bool (d && g),.bool (d && g),(bif (d && g) == true then .agg #[iL p,iL c,iL h,iL s,iL n,.slice none 0 0] else undef),(bif (d && g) == true then .bool D else undef),.bool (d && g && D),undef,.bool (d && g && D)]:List Value).getD j_ undef) (λ L w'=>StF w6 w.heap.size 37 [iL 0,iL 0,iL 0,iL 0,iL 0,.slice none 0 0] [iL p,iL c,iL h,iL s,iL n,.slice none 0 0] 9 L w') (by kernel_rfl) (by kernel_rfl) (by kernel_rfl) (by kernel_rfl) (by first | kernel_rfl | rfl) (by first | kernel_rfl | rfl) ?hB1 ?hBL1 ?hst1 ?fin1
 case hB1=>exact⟨⟨rfl,rfl,rfl,Nat.le_refl _,λ _ _ _=>rfl⟩,⟨_,rfl,(W.out.nth0 0 rfl).drew⟩,λ h=>h.elim⟩
 case hBL1=>exact λ _ _ _ h F=>F.of (h 9 (by decide)).2
 case hst1 =>
  refine FixFrom.run rfl rfl (λ L A m z r y i K B=>?_) ?_
  ·have e9:A.tmps[9]?.getD undef=pT g9 0:=y 9 (by decide);clear r y
   cases d <;> cases g <;>
    (have j:=N.out.grown i.bel (λ k V=>by simp at V;omega)
     have X0:=j.cell 0;have X1:=j.cell 1;have X2:=j.cell 2;have X3:=j.cell 3;have X4:=j.cell 4;have X5:=j.cell 5;have I:=j.lt;clear j;go_simp;exact B.out m (i.skip 0 (by decide)))
  refine FixFrom.run rfl rfl (λ L A m z r y i K B=>?_) ?_
  ·have e6:A.tmps[6]?.getD undef=.bool d:=y 6 (by decide);clear r y
   cases d <;> cases g <;>
    (go_simp
     exact B.out m (i.skip 1 (by decide)))
  refine FixFrom.run rfl rfl (λ L A m z r y i K B=>?_) ?_
  ·have aE:A.tmps[40]?.getD undef=.bool d:=gu r 1 40;clear r y
   cases d <;> cases g <;>
    (go_simp
     exact B.out m (i.skip 2 (by decide)))
  refine FixFrom.gd (d == true) rfl rfl (by cases d <;> cases g <;> first | exact λ _=>rfl | exact λ h=>absurd h (by decide)) (λ _ _ F=>F.skip _ (by decide)) (λ hw L A m z r y i K B=>?_) ?_
  ·have e8:A.tmps[8]?.getD undef=.bool g:=y 8 (by decide);clear r y
   cases d <;> cases g <;> first
    | exact absurd hw (by decide)
    | (go_simp
       exact B.out m (i.skip 3 (by decide)))
  refine FixFrom.run rfl rfl (λ L A m z r y i K B=>?_) ?_
  ·have aD:A.tmps[41]?.getD undef=.bool d:=gu r 2 41;have aC:A.tmps[42]?.getD undef=(bif d == true then .bool g else undef):=gu r 3 42;clear r y
   cases d <;> cases g <;>
    (go_simp
     exact B.out m (i.skip 4 (by decide)))
  refine FixFrom.run rfl rfl (λ L A m z r y i K B=>?_) ?_
  ·have aB:A.tmps[43]?.getD undef=.bool (d && g):=gu r 4 43;clear r y
   cases d <;> cases g <;>
    (go_simp
     exact B.out m (i.skip 5 (by decide)))
  refine FixFrom.gd ((d && g) == true) rfl rfl (by cases d <;> cases g <;> first | exact λ _=>rfl | exact λ h=>absurd h (by decide)) (λ _ _ F=>F.skip _ (by decide)) (λ hw L A m z r y i K B=>?_) ?_
  ·have e9:A.tmps[9]?.getD undef=pT g9 0:=y 9 (by decide);clear r y
   cases d <;> cases g <;> first
    | exact absurd hw (by decide)
    | (have j:=N.out.grown i.bel (λ k V=>by simp at V;omega)
       have X0:=j.cell 0;have X1:=j.cell 1;have X2:=j.cell 2;have X3:=j.cell 3;have X4:=j.cell 4;have X5:=j.cell 5;have I:=j.lt;clear j;go_simp;exact B.out m (i.skip 6 (by decide)))
  refine FixFrom.gd ((d && g) == true) rfl rfl (by cases d <;> cases g <;> first | exact λ _=>rfl | exact λ h=>absurd h (by decide)) (λ _ _ F=>F.skip _ (by decide)) (λ hw L A m z r y i K B=>?_) ?_
  ·have az:A.tmps[45]?.getD undef=(bif (d && g) == true then .agg #[iL p,iL c,iL h,iL s,iL n,.slice none 0 0] else undef):=gu r 6 45;clear r y
   cases d <;> cases g <;> first
    | exact absurd hw (by decide)
    | (have j:=N.out.grown i.bel (λ k V=>by simp at V;omega)
       have X0:=j.cell 0;have X1:=j.cell 1;have X2:=j.cell 2;have X3:=j.cell 3;have X4:=j.cell 4;have X5:=j.cell 5;have I:=j.lt;clear j;go_simp;refine(CH.out m).mono ?_;rintro e w6 ⟨rfl,av⟩;exact B.out _ (i.call 7 (by decide) av))
  refine FixFrom.run rfl rfl (λ L A m z r y i K B=>?_) ?_
  ·have aA:A.tmps[44]?.getD undef=.bool (d && g):=gu r 5 44;have ay:A.tmps[46]?.getD undef=(bif (d && g) == true then .bool D else undef):=gu r 7 46;clear r y
   cases d <;> cases g <;>
    (go_simp
     exact B.out m (i.skip 8 (by decide)))
  refine FixFrom.run rfl rfl (λ L A m z r y i K B=>?_) ?_
  ·have e2:A.tmps[2]?.getD undef=pT w.heap.size 0:=y 2 (by decide);have aw:A.tmps[39]?.getD undef=.agg #[iL p,iL c,iL h,iL s,iL n,.slice none 0 0]:=gu r 0 39;clear r y
   cases d <;> cases g <;>
    (have j:=N.out.grown i.bel (λ k V=>by simp at V;omega)
     have X0:=j.cell 0;have X1:=j.cell 1;have X2:=j.cell 2;have X3:=j.cell 3;have X4:=j.cell 4;have X5:=j.cell 5;have I:=j.lt;clear j;refine i.row.elim λ cs qc=>?_
     have aj:cs.length=6:=qc.1;refine wp_sm 37 _ _ rfl w.heap.size 0 [iL p,iL c,iL h,iL s,iL n,.slice none 0 0] cs (ev e2) (ev aw) 37 qc.2 (by kernel_rfl) (Nat.le_of_eq aj.symm) rfl ?_;exact B.out _ (i.wrote rfl aj qc.2))
  refine FixFrom.run rfl rfl (λ L A m z r y i K B=>?_) ?_
  ·have ax:A.tmps[47]?.getD undef=.bool (d && g && D):=gu r 8 47;clear r y
   cases d <;> cases g <;>
    (go_simp
     exact B.out m (i.skip 10 (by decide)))
  exact FixFrom.nil (by decide)
 intro m i;simp only [Fr,Act.put,sX,Nat.reduceAdd,List.getD_cons_zero,List.getD_cons_succ];have r8:=i.fw trivial;have ar:Below w.heap.size w m:=W.out.bel.grown i.bel W.out.bel.size (λ k V=>by simp at V;omega);clear i W N;go_wp2_with fail;obtain⟨z0,z1,z2,z3,z4,z5⟩:=r8.c6;refine bodyPost_ret (v:=.tuple #[.agg #[iL p,iL c,iL h,iL s,iL n,.slice none 0 0],.bool (d && g && D)]) (by simp [results,results41,go_sem,z0,z1,z2,z3,z4,z5]) rfl ?_;refine⟨p,c,h,s,n,d && g && D,rfl,ar,?_⟩;rw [HW.out]
 cases d <;> cases g <;> cases D <;> rfl
end Gm
end Go.Proofs.YtjdefiinmicjiaaGreatDoor
