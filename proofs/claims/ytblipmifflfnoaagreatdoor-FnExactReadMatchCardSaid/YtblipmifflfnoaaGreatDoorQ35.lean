/- Parts of the proof of FnExactReadMatch. Conditions: each theorem's own. -/
import Derived.Test.YtblipmifflfnoaaGreatDoorQ27
import Derived.Test.YtblipmifflfnoaaGreatDoorQ34
set_option linter.unusedVariables false
set_option linter.unusedSimpArgs false
set_option maxHeartbeats 8000000
set_option maxRecDepth 100000
namespace Go.Proofs.YtblipmifflfnoaaGreatDoor
namespace Gm
open Go Go.ChangeShapes Go.WideShapes Go.ChangeAt Go.RowKit Base Ints Own RelG PlP TxP Num Bd1 Bd5 RegInv RegF RegG TxI TsI
structure AsF (w1:World) (ka ks:Nat) (cells:List Value) (t:TypeId) (L:Nat->Prop) (vals:Nat->Value) (w':World):Prop where
 bel:Below w1.heap.size w1 w'
 fa:L ka->∃ g,vals ka=.pointer (some ⟨g,0,none⟩)∧w1.heap.size<=g∧∃ cs,cs.length=cells.length∧RowB w' g t cs
 fw:L ks->∀ g,vals ka=.pointer (some ⟨g,0,none⟩)->RowB w' g t cells
section
variable {w1 w' w'':World} {ka ks:Nat} {cells:List Value} {t:TypeId} {L:Nat->Prop} {vals:Nat->Value}
theorem AsF.skip (F:AsF w1 ka ks cells t L vals w') (k:Nat) (v:Value) (hk:[ka,ks].all (λ j=>j != k)=true:=by decide):AsF w1 ka ks cells t (λ j=>j=k∨L j) (upd vals k v) w':=by
 simp only [List.all_cons,Bool.and_eq_true,bne_iff_ne,ne_eq,List.all_nil,and_true] at hk;obtain⟨a,b⟩:=hk;refine⟨F.bel,λ h=>?_,λ h=>?_⟩
 ·rw [upd_ne a];exact F.fa (h.resolve_left a)
 ·rw [upd_ne a];exact F.fw (h.resolve_left b)
theorem AsF.box (F:AsF w1 ka ks cells t L vals w') (hk:ks≠ka) (hdep:¬ L ks) {cs:List Value} (hcs:cs.length=cells.length):AsF w1 ka ks cells t (λ j=>j=ka∨L j) (upd vals ka (.pointer (some ⟨w'.heap.size,0,none⟩))) (w'.alloc (.cells ⟨cs⟩ t)):=by
 refine⟨F.bel.alloc F.bel.size _,λ h=>?_,λ h=>?_⟩
 ·rw [upd_same];exact⟨_,rfl,F.bel.size,cs,hcs,RowB.new _ _ _⟩
 ·exact absurd (h.resolve_left hk) hdep
theorem AsF.wrote (F:AsF w1 ka ks cells t L vals w') (hk:ka≠ks) {g:Nat} {cs:List Value} (hg:vals ka=.pointer (some ⟨g,0,none⟩)) (hlo:w1.heap.size<=g) (r:RowB w' g t cs) (hcs:cs.length=cells.length):AsF w1 ka ks cells t (λ j=>j=ks∨L j) (upd vals ks undef) (w'.setCells g 0 cells):=by
 have c:=row_cells cells 0 w' cs r;rw [setL_all cs cells hcs] at c;have a:=grown_cells g cells 0 w';refine⟨⟨a.os.trans F.bel.os,a.tape.trans F.bel.tape,a.output.trans F.bel.output,Nat.le_trans F.bel.size a.size,λ k hk=>(a.block k (Nat.lt_of_lt_of_le hk F.bel.size) (λ e=>by simp at e;omega)).trans (F.bel.block k hk)⟩,λ h=>?_,λ _ d b=>?_⟩
 ·rw [upd_ne hk];exact⟨g,hg,hlo,cells,rfl,c⟩
 ·rw [upd_ne hk,hg] at b;have e:g=d:=by simpa using b
  exact e ▸ c
end
structure StF (w1:World) (o:Nat) (t:TypeId) (old new:List Value) (ks:Nat) (L:Nat->Prop) (w':World):Prop where
 bel:w1.grownBy w' (some o)
 row:∃ cs,cs.length=old.length∧RowB w' o t cs
 fw:L ks->RowB w' o t new
section
variable {w1 w' w'':World} {o ks:Nat} {old new:List Value} {t:TypeId} {L:Nat->Prop}
theorem StF.skip (F:StF w1 o t old new ks L w') (k:Nat) (hk:ks≠k:=by decide):StF w1 o t old new ks (λ j=>j=k∨L j) w' :=
 ⟨F.bel,F.row,λ h=>F.fw (h.resolve_left hk)⟩
theorem StF.of {L':Nat->Prop} (F:StF w1 o t old new ks L w') (h:L' ks->L ks):StF w1 o t old new ks L' w':=⟨F.bel,F.row,λ h'=>F.fw (h h')⟩
theorem StF.call (F:StF w1 o t old new ks L w') (k:Nat) (hk:ks≠k) (hb:Below w'.heap.size w' w''):StF w1 o t old new ks (λ j=>j=k∨L j) w'' :=
 ⟨Base.grownBy_trans F.bel ⟨hb.os,hb.tape,hb.output,hb.size,λ i hi _=>hb.block i hi⟩,by
  obtain⟨cs,h1,h2⟩:=F.row;exact⟨cs,h1,h2.below hb h2.lt⟩,λ h=>by
  have r:=F.fw (h.resolve_left hk);exact r.below hb r.lt⟩
theorem StF.wrote (F:StF w1 o t old new ks L w') (hn:new.length=old.length) {cs:List Value} (hcs:cs.length=old.length) (r:RowB w' o t cs):StF w1 o t old new ks (λ j=>j=ks∨L j) (w'.setCells o 0 new):=by
 have a:=row_cells new 0 w' cs r;rw [setL_all cs new (by omega)] at a;exact⟨Base.grownBy_trans F.bel (grown_cells o new 0 w'),⟨new,hn,a⟩,λ _=>a⟩
end
def VrR (o:Option Vr) (w:World) (e:Ending) (w':World):Prop :=
 ∃(p c h s:Int) (ok:Bool),e=.returned (.tuple #[.agg #[.int .i64 p,.int .i64 c,.int .i64 h,.int .i64 s],.bool ok])∧Below w.heap.size w w'∧(if ok=true then o=some ⟨p,c,h,s⟩ else o=none)
theorem list4 {α:Type} {X:List α} (h:X.length=4):∃ a b c d,X=[a,b,c,d]:=by
 match X,h with
 | [a,b,c,d],_=>exact⟨a,b,c,d,rfl⟩
theorem rvar_i (t:By) (hl:t.length<=4194304) (w:World) (E:Env w) :
  Calls Tryz.prog 50 #[.string (bs t)] w λ e w'=>VrR (rdV t) w e w':=by
 have hV:rdV t=match mapO decF (spl 47 t) with
  | some [a,b,c,d]=>if okV ⟨a,b,c,d⟩=true then some ⟨a,b,c,d⟩ else none
  | _=>none:=rfl
 obtain⟨O,hO⟩:∃ o,mapO decF (spl 47 t)=o:=⟨_,rfl⟩;have CS:=kD (λ(G:World) (E9:Env G)=>split_i t 47 hl G E9);rw [hO] at CS hV;obtain⟨R,hR⟩:∃ x,rdV t=x:=⟨_,rfl⟩;rw [hR] at hV ⊢;have HV:=kD hV;clear hV hO hR hl;go_enter Tryz.func50,Tryz.ntmps50;go_upto_region 1 with fail;refine wp_gen (λ W'=>Rows w W' [(0,23,[.int .i64 0,.int .i64 0,.int .i64 0,.int .i64 0])]) ⟨by go_grown,λ p hp=>?_⟩ ?_
 ·obtain rfl:=List.mem_singleton.1 hp;exact RowB.new _ _ _
 intro w1 K;go_wp2_with fail;refine(CS.out _ (E.below K.bel)).mono ?_;rintro e w3 ⟨sv,rfl,H,hb⟩;have aj:=(K.nth0 0 rfl).lt;have K:=K.below hb;have I:=(K.nth0 0 rfl).lt;clear hb CS
 cases O with
 | none =>
  have hn:none=R:=HV.out.symm;subst hn;clear HV H;have i:=K.nth0 0 rfl;go_wp2_with (refine wM 23 0 [.int .i64 0,.int .i64 0,.int .i64 0,.int .i64 0] i ?_;intro w7 J D z7;refine Hid.out ?_);have M:=(K.grown 0 J D).bel;obtain⟨V,T,S,Q⟩:=J.c4;have aa:=J.lt;clear D i K I;refine kD ?_
  repeat (first | go_values | go_skip | go_step | go_upon)
  refine bodyPost_ret (v:=.tuple #[.agg #[.int .i64 0,.int .i64 0,.int .i64 0,.int .i64 0],.bool false]) (by simp [results,Tryz.results50,go_sem,V,T,S,Q]) rfl ?_;exact⟨0,0,0,0,false,rfl,M,rfl⟩
 | some X =>
 by_cases hx:X.length=4
 case neg =>
  have H:OwnS w3 w1.heap.size w3.heap.size 2 1 enI sv X:=H;obtain⟨A,cp,P,ad⟩:=H.form enI_len;have e1:((X.length:Int) != 4)=true:=by simp;omega
  have ah:=ad.len;obtain⟨nx,ae⟩:∃ n,X.length=n:=⟨_,rfl⟩;rw [ae] at P e1 ah;subst P;have hn:none=R:=by
   rw [HV.out]
   match X,hx with
   | [],_=>rfl
   | [a],_=>rfl
   | [a,b],_=>rfl
   | [a,b,c],_=>rfl
   | [a,b,c,d],h=>exact absurd rfl h
   | a :: b :: c :: d :: f :: l,_=>rfl
  subst hn;clear HV H ad ae hx;have i:=K.nth0 0 rfl;go_wp2_with (refine wM 23 0 [.int .i64 0,.int .i64 0,.int .i64 0,.int .i64 0] i ?_;intro w7 J D z7;refine Hid.out ?_);have M:=(K.grown 0 J D).bel;obtain⟨V,T,S,Q⟩:=J.c4;have aa:=J.lt;clear D i K I;refine kD ?_
  repeat (first | go_values | go_skip | go_step | go_upon)
  refine bodyPost_ret (v:=.tuple #[.agg #[.int .i64 0,.int .i64 0,.int .i64 0,.int .i64 0],.bool false]) (by simp [results,Tryz.results50,go_sem,V,T,S,Q]) rfl ?_;exact⟨0,0,0,0,false,rfl,M,rfl⟩
 obtain⟨a,b,c,d,rfl⟩:=list4 hx;have H:OwnS w3 w1.heap.size w3.heap.size 2 1 enI sv [a,b,c,d]:=H;rcases H.cases_ with ⟨_,h⟩ | ⟨g,cap,rest,P,hg1,hg2,N,hc1,hc2,hc3⟩
 ·cases h
 have ac:sv=.slice (some ⟨g,0,none⟩) 4 cap:=P;subst ac;have N:RowB w3 g 2 (.int .i64 a :: .int .i64 b :: .int .i64 c :: .int .i64 d :: rest):=N;have am:4<=cap:=hc1;have al:cap<=9223372036854775807:=by have:=hc2;unfold maxLen at this;omega
 have j:=kD N;obtain⟨ov,Y⟩:∃ o,okV ⟨a,b,c,d⟩=o:=⟨_,rfl⟩;have HW:Hid (R=if ov=true then some ⟨a,b,c,d⟩ else none):=by
  show _=_
  rw [HV.out,<-Y]
 have CI:=kD (λ G=>var_i ⟨a,b,c,d⟩ ov Y G);clear H P hg1 hg2 N hc1 hc2 hc3 hx HV Y;go_upto_region 4 with fail;refine region_rel [some 20,some 21,some 22,some 23,some 24,some 25,some 26,some 27,some 28,some 29,some 30,some 31,some 32,some 6,none] 15 (Pl [some (.slice (some ⟨g,0,none⟩) 4 cap),some (.pointer (some ⟨g,0,none⟩)),some (.int .i64 a),some (.slice (some ⟨g,0,none⟩) 4 cap),some (.pointer (some ⟨g,1,none⟩)),some (.int .i64 b),some (.slice (some ⟨g,0,none⟩) 4 cap),some (.pointer (some ⟨g,2,none⟩)),some (.int .i64 c),some (.slice (some ⟨g,0,none⟩) 4 cap),some (.pointer (some ⟨g,3,none⟩)),some (.int .i64 d),some (.agg #[.int .i64 a,.int .i64 b,.int .i64 c,.int .i64 d]),none,none]) (λ L k w'=>AsF w3 13 14 [.int .i64 a,.int .i64 b,.int .i64 c,.int .i64 d] 23 L k w') (by kernel_rfl) (by kernel_rfl) (by kernel_rfl) (by kernel_rfl) (by kernel_rfl) (by kernel_rfl) (by first | kernel_rfl | rfl) ?g0_3 ?gst_3 ?gfin_3
 case g0_3=>exact⟨(Below.refl _ _).drew,λ h=>absurd h (by decide),λ h=>absurd h (by decide)⟩
 case gst_3 =>
  refine rN rfl (λ L k A G m q r U F K s=>?_) ?_
  ·have e4:=U.w 4 (.slice (some ⟨g,0,none⟩) 4 cap);have i:=j.out.below F.bel j.out.lt;have C:=i.cell 0;have B:=i.cell 1;have z:=i.cell 2;have y:=i.cell 3;simp only [List.getElem?_cons_zero,List.getElem?_cons_succ] at C B z y;clear i;go_simp;exact pF s (F.skip 0 _)
  refine rN rfl (λ L k A G m q r U F K s=>?_) ?_
  ·have aB:=U.v 0 20;have i:=j.out.below F.bel j.out.lt;have C:=i.cell 0;have B:=i.cell 1;have z:=i.cell 2;have y:=i.cell 3;simp only [List.getElem?_cons_zero,List.getElem?_cons_succ] at C B z y;clear i;go_simp;exact pF s (F.skip 1 _)
  refine rN rfl (λ L k A G m q r U F K s=>?_) ?_
  ·have aA:=U.v 1 21;have i:=j.out.below F.bel j.out.lt;have C:=i.cell 0;have B:=i.cell 1;have z:=i.cell 2;have y:=i.cell 3;simp only [List.getElem?_cons_zero,List.getElem?_cons_succ] at C B z y;have Z:=i.lt;clear i;go_simp;exact pF s (F.skip 2 _)
  refine rN rfl (λ L k A G m q r U F K s=>?_) ?_
  ·have e4:=U.w 4 (.slice (some ⟨g,0,none⟩) 4 cap);have i:=j.out.below F.bel j.out.lt;have C:=i.cell 0;have B:=i.cell 1;have z:=i.cell 2;have y:=i.cell 3;simp only [List.getElem?_cons_zero,List.getElem?_cons_succ] at C B z y;clear i;go_simp;exact pF s (F.skip 3 _)
  refine rN rfl (λ L k A G m q r U F K s=>?_) ?_
  ·have ay:=U.v 3 23;have i:=j.out.below F.bel j.out.lt;have C:=i.cell 0;have B:=i.cell 1;have z:=i.cell 2;have y:=i.cell 3;simp only [List.getElem?_cons_zero,List.getElem?_cons_succ] at C B z y;clear i;go_simp;exact pF s (F.skip 4 _)
  refine rN rfl (λ L k A G m q r U F K s=>?_) ?_
  ·have ax:=U.v 4 24;have i:=j.out.below F.bel j.out.lt;have C:=i.cell 0;have B:=i.cell 1;have z:=i.cell 2;have y:=i.cell 3;simp only [List.getElem?_cons_zero,List.getElem?_cons_succ] at C B z y;have Z:=i.lt;clear i;go_simp;exact pF s (F.skip 5 _)
  refine rN rfl (λ L k A G m q r U F K s=>?_) ?_
  ·have e4:=U.w 4 (.slice (some ⟨g,0,none⟩) 4 cap);have i:=j.out.below F.bel j.out.lt;have C:=i.cell 0;have B:=i.cell 1;have z:=i.cell 2;have y:=i.cell 3;simp only [List.getElem?_cons_zero,List.getElem?_cons_succ] at C B z y;clear i;go_simp;exact pF s (F.skip 6 _)
  refine rN rfl (λ L k A G m q r U F K s=>?_) ?_
  ·have av:=U.v 6 26;have i:=j.out.below F.bel j.out.lt;have C:=i.cell 0;have B:=i.cell 1;have z:=i.cell 2;have y:=i.cell 3;simp only [List.getElem?_cons_zero,List.getElem?_cons_succ] at C B z y;clear i;go_simp;exact pF s (F.skip 7 _)
  refine rN rfl (λ L k A G m q r U F K s=>?_) ?_
  ·have ar:=U.v 7 27;have i:=j.out.below F.bel j.out.lt;have C:=i.cell 0;have B:=i.cell 1;have z:=i.cell 2;have y:=i.cell 3;simp only [List.getElem?_cons_zero,List.getElem?_cons_succ] at C B z y;have Z:=i.lt;clear i;go_simp;exact pF s (F.skip 8 _)
  refine rN rfl (λ L k A G m q r U F K s=>?_) ?_
  ·have e4:=U.w 4 (.slice (some ⟨g,0,none⟩) 4 cap);have i:=j.out.below F.bel j.out.lt;have C:=i.cell 0;have B:=i.cell 1;have z:=i.cell 2;have y:=i.cell 3;simp only [List.getElem?_cons_zero,List.getElem?_cons_succ] at C B z y;clear i;go_simp;exact pF s (F.skip 9 _)
  refine rN rfl (λ L k A G m q r U F K s=>?_) ?_
  ·have ap:=U.v 9 29;have i:=j.out.below F.bel j.out.lt;have C:=i.cell 0;have B:=i.cell 1;have z:=i.cell 2;have y:=i.cell 3;simp only [List.getElem?_cons_zero,List.getElem?_cons_succ] at C B z y;clear i;go_simp;exact pF s (F.skip 10 _)
  refine rN rfl (λ L k A G m q r U F K s=>?_) ?_
  ·have ao:=U.v 10 30;have i:=j.out.below F.bel j.out.lt;have C:=i.cell 0;have B:=i.cell 1;have z:=i.cell 2;have y:=i.cell 3;simp only [List.getElem?_cons_zero,List.getElem?_cons_succ] at C B z y;have Z:=i.lt;clear i;go_simp;exact pF s (F.skip 11 _)
  refine rN rfl (λ L k A G m q r U F K s=>?_) ?_
  ·have az:=U.v 2 22;have aw:=U.v 5 25;have aq:=U.v 8 28;have an:=U.v 11 31;have i:=j.out.below F.bel j.out.lt;have C:=i.cell 0;have B:=i.cell 1;have z:=i.cell 2;have y:=i.cell 3;simp only [List.getElem?_cons_zero,List.getElem?_cons_succ] at C B z y;clear i;go_simp;exact pF s (F.skip 12 _)
  refine rN rfl (λ L k A G m q r U F K s=>?_) ?_
  ·go_simp;exact s.out _ _ (Pl.any rfl) (F.box (by decide) (λ h=>m (r 14 13 (by kernel_rfl) h)) rfl)
  refine rN rfl (λ L k A G m q r U F K s=>?_) ?_
  ·have e6:=U.x 13 6;have ai:=U.v 12 32;refine(F.fa (bK q 13)).elim λ g9 qa=>?_
   refine qa.2.2.elim λ cs qc=>?_
   have ag:cs.length=4:=qc.1;refine wp_sm 23 _ _ rfl g9 0 [.int .i64 a,.int .i64 b,.int .i64 c,.int .i64 d] cs (ev (e6.trans qa.1)) (ev ai) 23 qc.2 (by kernel_rfl) (Nat.le_of_eq ag.symm) rfl ?_;exact s.out undef _ (Pl.any rfl) (F.wrote (by decide) qa.1 qa.2.1 qc.2 ag)
  exact RelFrom.nil (by decide)
 intro k G hp F;simp only [Fr,Act.put,sX,Nat.reduceAdd];obtain⟨g6,ab,ak,-⟩:=F.fa trivial;have W:=F.fw trivial g6 ab;have K:=K.below F.bel;rw [ab];clear F hp I j ab;have I:=(K.nth0 0 rfl).lt;obtain⟨x0,x1,x2,x3⟩:=W.c4;have af:=W.lt;go_wp2_with fail;refine(CI.out _).mono ?_;rintro e w4 ⟨rfl,hb⟩;have K:=K.below hb;have W:=W.below hb W.lt;clear I x0 x1 x2 x3 af hb CI;have I:=(K.nth0 0 rfl).lt;obtain⟨x0,x1,x2,x3⟩:=W.c4;have af:=W.lt
 cases ov with
 | false =>
  obtain rfl:none=R:=HW.out.symm;clear HW;have i:=K.nth0 0 rfl;go_wp2_with (refine wM 23 0 [.int .i64 0,.int .i64 0,.int .i64 0,.int .i64 0] i ?_;intro w7 J D z7;refine Hid.out ?_);have M:=(K.grown 0 J D).bel;obtain⟨V,T,S,Q⟩:=J.c4;have aa:=J.lt;clear D i K I;refine kD ?_
  repeat (first | go_values | go_skip | go_step | go_upon)
  refine bodyPost_ret (v:=.tuple #[.agg #[.int .i64 0,.int .i64 0,.int .i64 0,.int .i64 0],.bool false]) (by simp [results,Tryz.results50,go_sem,V,T,S,Q]) rfl ?_;exact⟨0,0,0,0,false,rfl,M,rfl⟩
 | true =>
  have hw:=HW.out;clear HW;have i:=K.nth0 0 rfl;go_wp2_with (refine wM 23 0 [.int .i64 a,.int .i64 b,.int .i64 c,.int .i64 d] i ?_;intro w7 J D z7;refine Hid.out ?_);have M:=(K.grown 0 J D).bel;obtain⟨V,T,S,Q⟩:=J.c4;have aa:=J.lt;clear D i K I;refine kD ?_
  repeat (first | go_values | go_skip | go_step | go_upon)
  refine bodyPost_ret (v:=.tuple #[.agg #[.int .i64 a,.int .i64 b,.int .i64 c,.int .i64 d],.bool true]) (by simp [results,Tryz.results50,go_sem,V,T,S,Q]) rfl ?_;exact⟨a,b,c,d,true,rfl,M,hw⟩
theorem vtext_s (v:Vr) (w:World):Calls Tryz.prog 63 #[.agg #[.int .i64 v.p,.int .i64 v.c,.int .i64 v.h,.int .i64 v.s]] w λ e w'=>e=.returned (.string (bs (vT v)))∧Below w.heap.size w w':=by
 obtain⟨ov,ag⟩:∃ o,okV v=o:=⟨_,rfl⟩;have CI:=kD (λ i=>var_s v ov ag i);have HO:=kD ag;clear ag;go_enter Tryz.func63,Tryz.ntmps63;go_upto_region 1 with fail;refine wp_gen (λ W'=>Rows w W' [(0,23,vL v)]) ⟨by go_grown,λ p hp=>?_⟩ ?_
 ·obtain rfl:=List.mem_singleton.1 hp;exact RowB.new _ _ _
 intro w1 K;obtain⟨q0,q1,q2,q3⟩:=(K.nth0 0 rfl).c4;have G:=(K.nth0 0 rfl).lt;go_wp2_with fail;refine(CI.out _).mono ?_;rintro e w2 ⟨rfl,hb⟩;have K:=K.below hb;clear q0 q1 q2 q3 G hb CI;obtain⟨q0,q1,q2,q3⟩:=(K.nth0 0 rfl).c4;have G:=(K.nth0 0 rfl).lt
 cases ov with
 | false =>
  have h1:vT v=[]:=by unfold vT;rw [if_neg (by rw [HO.out];decide)]
  have HV:=kD h1;clear h1;go_wp2_with fail;go_returns;exact⟨by rw [HV.out];rfl,K.bel⟩
 | true =>
 have hp:=okV_iff.1 HO.out;have HV:=kD (vT_at HO.out);have C1:=kD (λ i=>num_s v.p (by omega) (by omega) i);have C2:=kD (λ i=>num_s v.c (by omega) (by omega) i);have C3:=kD (λ i=>num_s v.h (by omega) (by omega) i);have C4:=kD (λ i=>num_s v.s (by omega) (by omega) i);have l1:=ito_len (n:=v.p) (by omega) (by omega);have l2:=ito_len (n:=v.c) (by omega) (by omega);have l3:=ito_len (n:=v.h) (by omega) (by omega);have l4:=ito_len (n:=v.s) (by omega) (by omega);obtain⟨x1,aa⟩:∃ z:ByteArray,bs (Lib.itoa v.p)=z:=⟨_,rfl⟩;obtain⟨x2,Z⟩:∃ z:ByteArray,bs (Lib.itoa v.c)=z:=⟨_,rfl⟩;obtain⟨x3,Y⟩:∃ z:ByteArray,bs (Lib.itoa v.h)=z:=⟨_,rfl⟩;obtain⟨x4,X⟩:∃ z:ByteArray,bs (Lib.itoa v.s)=z:=⟨_,rfl⟩;have s1:x1.size<=2:=by rw [<-aa];exact Nat.le_trans (Nat.le_of_eq (bs_size _)) l1.2
 have s2:x2.size<=2:=by rw [<-Z];exact Nat.le_trans (Nat.le_of_eq (bs_size _)) l2.2
 have s3:x3.size<=2:=by rw [<-Y];exact Nat.le_trans (Nat.le_of_eq (bs_size _)) l3.2
 have s4:x4.size<=2:=by rw [<-X];exact Nat.le_trans (Nat.le_of_eq (bs_size _)) l4.2
 have HI:Hid (((((x1++(⟨#[47]⟩:ByteArray))++x2++(⟨#[47]⟩:ByteArray))++x3)++(⟨#[47]⟩:ByteArray))++x4=bs (vT v)):=by
  show _=_
  rw [HV.out,<-aa,<-Z,<-Y,<-X];have g2:(⟨#[47]⟩:ByteArray)=bs [47]:=rfl;simp only [g2,bs_cat]
 rw [aa] at C1;rw [Z] at C2;rw [Y] at C3;rw [X] at C4;obtain⟨T1,af⟩:∃ z,x1++(⟨#[47]⟩:ByteArray)=z:=⟨_,rfl⟩;have u1:T1.size<=3:=by rw [<-af,ByteArray.size_append];show x1.size+1<=3;omega
 obtain⟨T2,ae⟩:∃ z,T1++x2=z:=⟨_,rfl⟩;have u2:T2.size<=5:=by rw [<-ae,ByteArray.size_append];omega
 obtain⟨T3,ad⟩:∃ z,T2++(⟨#[47]⟩:ByteArray)=z:=⟨_,rfl⟩;have u3:T3.size<=6:=by rw [<-ad,ByteArray.size_append];show T2.size+1<=6;omega
 obtain⟨T4,ac⟩:∃ z,T3++x3=z:=⟨_,rfl⟩;have u4:T4.size<=8:=by rw [<-ac,ByteArray.size_append];omega
 obtain⟨T5,ab⟩:∃ z,T4++(⟨#[47]⟩:ByteArray)=z:=⟨_,rfl⟩;have u5:T5.size<=9:=by rw [<-ab,ByteArray.size_append];show T4.size+1<=9;omega
 obtain⟨T6,ah⟩:∃ z,T5++x4=z:=⟨_,rfl⟩;rw [af,ae,ad,ac,ab,ah] at HI;have P:Hid (¬ 9223372036854775807<x1.size+1):=kD (by omega);have O:Hid (¬ 9223372036854775807<T1.size+x2.size):=kD (by omega);have N:Hid (¬ 9223372036854775807<T2.size+1):=kD (by omega);have M:Hid (¬ 9223372036854775807<T3.size+x3.size):=kD (by omega);have J:Hid (¬ 9223372036854775807<T4.size+1):=kD (by omega);have I:Hid (¬ 9223372036854775807<T5.size+x4.size):=kD (by omega);have t:=kD af;have r:=kD ae;have q:=kD ad;have m:=kD ac;have l:=kD ab;have k:=kD ah;have HK:=kD K;clear aa Z Y X s1 s2 s3 s4 l1 l2 l3 l4 hp af ae ad ac ab ah u1 u2 u3 u4 u5 K q0 q1 q2 q3 G HO HV;go_wp2_with fail;refine region_rel [some 6,some 7,some 8,some 9,some 10,some 11,some 12,some 13,some 14,some 15,some 16,some 17,some 18,some 19,some 20,some 21,some 22,some 23,some 2] 19 (Pl [some (.pointer (some ⟨w.heap.size,0,none⟩)),some (.int .i64 v.p),some (.string x1),some (.string T1),some (.pointer (some ⟨w.heap.size,1,none⟩)),some (.int .i64 v.c),some (.string x2),some (.string T2),some (.string T3),some (.pointer (some ⟨w.heap.size,2,none⟩)),some (.int .i64 v.h),some (.string x3),some (.string T4),some (.string T5),some (.pointer (some ⟨w.heap.size,3,none⟩)),some (.int .i64 v.s),some (.string x4),some (.string T6),some (.string T6)]) (λ L a w'=>Below w2.heap.size w2 w') (by kernel_rfl) (by kernel_rfl) (by kernel_rfl) (by kernel_rfl) (by kernel_rfl) (by kernel_rfl) (by first | kernel_rfl | rfl) ?g0_1 ?gst_1 ?gfin_1
 case g0_1=>exact(Below.refl _ _).drew
 case gst_1 =>
  refine rN rfl (λ L a A i b d f U F K g=>?_) ?_
  ·have e1:=U.w 1 (.pointer (some ⟨w.heap.size,0,none⟩));have j:=(HK.out.below F).nth0 0 rfl;obtain⟨r0,r1,r2,r3⟩:=j.c4;have G:=j.lt;clear j;have E:=P.out;have D:=O.out;have C:=N.out;have B:=M.out;have y:=J.out;have x:=I.out;have W:=t.out;have V:=r.out;have T:=q.out;have S:=m.out;have R:=l.out;have Q:=k.out;go_simp;exact pF g (F)
  refine rN rfl (λ L a A i b d f U F K g=>?_) ?_
  ·have e6:=U.v 0 6;have j:=(HK.out.below F).nth0 0 rfl;obtain⟨r0,r1,r2,r3⟩:=j.c4;have G:=j.lt;clear j;have E:=P.out;have D:=O.out;have C:=N.out;have B:=M.out;have y:=J.out;have x:=I.out;have W:=t.out;have V:=r.out;have T:=q.out;have S:=m.out;have R:=l.out;have Q:=k.out;go_simp;exact pF g (F)
  refine rN rfl (λ L a A i b d f U F K g=>?_) ?_
  ·have e7:=U.v 1 7;go_simp;refine(C1.out i).mono ?_;rintro e w6 ⟨rfl,H⟩;exact pF g (F.trans (H.mono F.size))
  refine rN rfl (λ L a A i b d f U F K g=>?_) ?_
  ·have e8:=U.v 2 8;have E:=P.out;have D:=O.out;have C:=N.out;have B:=M.out;have y:=J.out;have x:=I.out;have W:=t.out;have V:=r.out;have T:=q.out;have S:=m.out;have R:=l.out;have Q:=k.out;go_simp;exact pF g (F)
  refine rN rfl (λ L a A i b d f U F K g=>?_) ?_
  ·have e1:=U.w 1 (.pointer (some ⟨w.heap.size,0,none⟩));have j:=(HK.out.below F).nth0 0 rfl;obtain⟨r0,r1,r2,r3⟩:=j.c4;have G:=j.lt;clear j;have E:=P.out;have D:=O.out;have C:=N.out;have B:=M.out;have y:=J.out;have x:=I.out;have W:=t.out;have V:=r.out;have T:=q.out;have S:=m.out;have R:=l.out;have Q:=k.out;go_simp;exact pF g (F)
  refine rN rfl (λ L a A i b d f U F K g=>?_) ?_
  ·have ay:=U.v 4 10;have j:=(HK.out.below F).nth0 0 rfl;obtain⟨r0,r1,r2,r3⟩:=j.c4;have G:=j.lt;clear j;have E:=P.out;have D:=O.out;have C:=N.out;have B:=M.out;have y:=J.out;have x:=I.out;have W:=t.out;have V:=r.out;have T:=q.out;have S:=m.out;have R:=l.out;have Q:=k.out;go_simp;exact pF g (F)
  refine rN rfl (λ L a A i b d f U F K g=>?_) ?_
  ·have ax:=U.v 5 11;go_simp;refine(C2.out i).mono ?_;rintro e w6 ⟨rfl,H⟩;exact pF g (F.trans (H.mono F.size))
  refine rN rfl (λ L a A i b d f U F K g=>?_) ?_
  ·have e9:=U.v 3 9;have aw:=U.v 6 12;have E:=P.out;have D:=O.out;have C:=N.out;have B:=M.out;have y:=J.out;have x:=I.out;have W:=t.out;have V:=r.out;have T:=q.out;have S:=m.out;have R:=l.out;have Q:=k.out;go_simp;exact pF g (F)
  refine rN rfl (λ L a A i b d f U F K g=>?_) ?_
  ·have av:=U.v 7 13;have E:=P.out;have D:=O.out;have C:=N.out;have B:=M.out;have y:=J.out;have x:=I.out;have W:=t.out;have V:=r.out;have T:=q.out;have S:=m.out;have R:=l.out;have Q:=k.out;go_simp;exact pF g (F)
  refine rN rfl (λ L a A i b d f U F K g=>?_) ?_
  ·have e1:=U.w 1 (.pointer (some ⟨w.heap.size,0,none⟩));have j:=(HK.out.below F).nth0 0 rfl;obtain⟨r0,r1,r2,r3⟩:=j.c4;have G:=j.lt;clear j;have E:=P.out;have D:=O.out;have C:=N.out;have B:=M.out;have y:=J.out;have x:=I.out;have W:=t.out;have V:=r.out;have T:=q.out;have S:=m.out;have R:=l.out;have Q:=k.out;go_simp;exact pF g (F)
  refine rN rfl (λ L a A i b d f U F K g=>?_) ?_
  ·have aq:=U.v 9 15;have j:=(HK.out.below F).nth0 0 rfl;obtain⟨r0,r1,r2,r3⟩:=j.c4;have G:=j.lt;clear j;have E:=P.out;have D:=O.out;have C:=N.out;have B:=M.out;have y:=J.out;have x:=I.out;have W:=t.out;have V:=r.out;have T:=q.out;have S:=m.out;have R:=l.out;have Q:=k.out;go_simp;exact pF g (F)
  refine rN rfl (λ L a A i b d f U F K g=>?_) ?_
  ·have ap:=U.v 10 16;go_simp;refine(C3.out i).mono ?_;rintro e w6 ⟨rfl,H⟩;exact pF g (F.trans (H.mono F.size))
  refine rN rfl (λ L a A i b d f U F K g=>?_) ?_
  ·have ar:=U.v 8 14;have ao:=U.v 11 17;have E:=P.out;have D:=O.out;have C:=N.out;have B:=M.out;have y:=J.out;have x:=I.out;have W:=t.out;have V:=r.out;have T:=q.out;have S:=m.out;have R:=l.out;have Q:=k.out;go_simp;exact pF g (F)
  refine rN rfl (λ L a A i b d f U F K g=>?_) ?_
  ·have an:=U.v 12 18;have E:=P.out;have D:=O.out;have C:=N.out;have B:=M.out;have y:=J.out;have x:=I.out;have W:=t.out;have V:=r.out;have T:=q.out;have S:=m.out;have R:=l.out;have Q:=k.out;go_simp;exact pF g (F)
  refine rN rfl (λ L a A i b d f U F K g=>?_) ?_
  ·have e1:=U.w 1 (.pointer (some ⟨w.heap.size,0,none⟩));have j:=(HK.out.below F).nth0 0 rfl;obtain⟨r0,r1,r2,r3⟩:=j.c4;have G:=j.lt;clear j;have E:=P.out;have D:=O.out;have C:=N.out;have B:=M.out;have y:=J.out;have x:=I.out;have W:=t.out;have V:=r.out;have T:=q.out;have S:=m.out;have R:=l.out;have Q:=k.out;go_simp;exact pF g (F)
  refine rN rfl (λ L a A i b d f U F K g=>?_) ?_
  ·have al:=U.v 14 20;have j:=(HK.out.below F).nth0 0 rfl;obtain⟨r0,r1,r2,r3⟩:=j.c4;have G:=j.lt;clear j;have E:=P.out;have D:=O.out;have C:=N.out;have B:=M.out;have y:=J.out;have x:=I.out;have W:=t.out;have V:=r.out;have T:=q.out;have S:=m.out;have R:=l.out;have Q:=k.out;go_simp;exact pF g (F)
  refine rN rfl (λ L a A i b d f U F K g=>?_) ?_
  ·have ak:=U.v 15 21;go_simp;refine(C4.out i).mono ?_;rintro e w6 ⟨rfl,H⟩;exact pF g (F.trans (H.mono F.size))
  refine rN rfl (λ L a A i b d f U F K g=>?_) ?_
  ·have am:=U.v 13 19;have aj:=U.v 16 22;have E:=P.out;have D:=O.out;have C:=N.out;have B:=M.out;have y:=J.out;have x:=I.out;have W:=t.out;have V:=r.out;have T:=q.out;have S:=m.out;have R:=l.out;have Q:=k.out;go_simp;exact pF g (F)
  refine rN rfl (λ L a A i b d f U F K g=>?_) ?_
  ·have ai:=U.v 17 23;have E:=P.out;have D:=O.out;have C:=N.out;have B:=M.out;have y:=J.out;have x:=I.out;have W:=t.out;have V:=r.out;have T:=q.out;have S:=m.out;have R:=l.out;have Q:=k.out;go_simp;exact pF g (F)
  exact RelFrom.nil (by decide)
 intro a i hp F;simp only [Fr,Act.put,sX,Nat.reduceAdd];have h4:a 18=.string T6:=hp 18 (by decide) _ rfl;rw [h4,HI.out];have K:=HK.out.below F;clear F hp h4;go_wp2_with fail;go_returns;exact⟨rfl,K.bel⟩
theorem spl_mem_len (c:UInt8):∀(l:By),∀ x ∈ spl c l,x.length<=l.length:=by
 intro l
 induction l with
 | nil=>intro x b;simp [spl] at b;subst b;exact Nat.le_refl _
 | cons y l ih =>
  intro x b;unfold spl at b;split at b
  ·rcases List.mem_cons.1 b with rfl | b
   ·simp
   ·have:=ih x b;simp only [List.length_cons];omega
  ·cases hs:spl c l with
   | nil=>exact absurd hs (spl_ne c l)
   | cons a r =>
    rw [hs] at b ih;simp only at b;rcases List.mem_cons.1 b with rfl | b
    ·have:=ih a (by simp);simp only [List.length_cons];omega
    ·have:=ih x (by simp [b]);simp only [List.length_cons];omega
theorem rvar_s (t:By) (hl:t.length<=4194304) (w:World) :
  Calls Tryz.prog 39 #[.string (bs t)] w λ e w'=>VrR (rdVS t) w e w':=by
 obtain⟨i4,aA,ay,ax,aw⟩:=info_parts infoI;have hV:rdVS t=match spl 47 t with
  | [a,b,c,d]=>if vT ⟨(valS a).1,(valS b).1,(valS c).1,(valS d).1⟩=t then some ⟨(valS a).1,(valS b).1,(valS c).1,(valS d).1⟩ else none
  | _=>none:=rfl
 have CS:=kD (λ(G:World)=>split_s t 47 47 rfl hl G);have ab:∀ x ∈ spl 47 t,x.length<=t.length:=spl_mem_len 47 t;obtain⟨O,hO⟩:∃ o,spl 47 t=o:=⟨_,rfl⟩;rw [hO] at CS hV ab;obtain⟨R,hR⟩:∃ x,rdVS t=x:=⟨_,rfl⟩;rw [hR] at hV ⊢;have HV:=kD hV;have CN:=kD (λ(x:By) (hx:x ∈ O) (G:World)=>val_s x (Nat.le_trans (ab x hx) hl) G);clear hV hO hR hl ab;go_enter Tryz.func39,Tryz.ntmps39;go_upto_region 1 with fail;refine wp_gen (λ W'=>Rows w W' [(0,23,[.int .i64 0,.int .i64 0,.int .i64 0,.int .i64 0])]) ⟨by go_grown,λ p hp=>?_⟩ ?_
 ·obtain rfl:=List.mem_singleton.1 hp;exact RowB.new _ _ _
 intro w1 K;go_wp2_with fail;refine(CS.out _).mono ?_;rintro e w2 ⟨sv,rfl,M,I⟩;have aH:=(K.nth0 0 rfl).lt;have K:=K.below I;have N:=(K.nth0 0 rfl).lt;obtain⟨A,cp,S,T⟩:=M.form (λ x=>(rfl:(enBs x).length=1));subst S;clear I CS M;have ak:=T.len;by_cases hx:O.length=4
 case neg =>
  have e1:((O.length:Int) != 4)=true:=by simp;omega
  obtain⟨nx,ac⟩:∃ n,O.length=n:=⟨_,rfl⟩;rw [ac] at e1 ak;rw [ac];have hn:none=R:=by
   rw [HV.out]
   match O,hx with
   | [],_=>rfl
   | [a],_=>rfl
   | [a,b],_=>rfl
   | [a,b,c],_=>rfl
   | [a,b,c,d],h=>exact absurd rfl h
   | a :: b :: c :: d :: f :: l,_=>rfl
  subst hn;clear HV T ac hx CN;have j:=K.nth0 0 rfl;go_wp2_with (refine wM 23 0 [.int .i64 0,.int .i64 0,.int .i64 0,.int .i64 0] j ?_;intro w7 J H z7;refine Hid.out ?_);have P:=(K.grown 0 J H).bel;obtain⟨z0,z1,z2,z3⟩:=J.c4;have al:=J.lt;clear H j K N;refine kD ?_
  repeat (first | go_values | go_skip | go_step | go_upon)
  refine bodyPost_ret (v:=.tuple #[.agg #[.int .i64 0,.int .i64 0,.int .i64 0,.int .i64 0],.bool false]) (by simp [results,Tryz.results39,go_sem,z0,z1,z2,z3]) rfl ?_;exact⟨0,0,0,0,false,rfl,P,rfl⟩
 have h4:=hx;rw [hx];have aq:=kD T;have H4:=kD h4;have HK:=kD K;clear T hx h4 ak K;go_wp2_with fail;go_loopw [5,6,7,8] (λ vl i _ _ wr=>∃(k:Nat) (X:List Int),k<=4∧i=.int .i64 (k:Int)∧Hid (Below w2.heap.size w2 wr)∧Hid (OwnS wr w2.heap.size wr.heap.size 2 1 enI vl X)∧Hid (X=(O.take k).map λ x=>(valS x).1)∧X.length=k) (λ _ i _ _ _=>4 - (intOf i).toNat)
 case atStart=>exact⟨0,[],by omega,by first | rfl | trivial,kD ((Below.refl _ _).alloc (Nat.le_refl _) _),kD (RowB.own (xs:=([]:List Int)) (en:=enI) (RowB.new w2 2 []) enI_len (Nat.le_refl _) (by go_size) (by decide)),kD rfl,rfl⟩
 case round =>
  obtain⟨k,X,hk,rfl,I,ho,hX,W⟩:=hrel;have K:=HK.out.below I.out;have aG:=I.out.size;by_cases hlt:k<4
  ·obtain⟨b,aE,x,rfl,aB,aa,hc⟩:=rdBs_at (aq.out.below I.out (Nat.le_refl _)) (i:=k) (by rw [H4.out];exact hlt);have HX:=kD aa;have CX:=kD (CN.out x (List.mem_of_getElem? aa));obtain⟨⟨s,ok⟩,hq⟩:∃ q,valS x=q:=⟨_,rfl⟩;rw [hq] at CX;simp only at CX;have HQ:=kD (congrArg Prod.fst hq);obtain⟨Av,cv,af,az⟩:=ho.out.form enI_len;rw [W] at af;subst af;clear aa hq az;go_wp2_with fail;refine(CX.out wr).mono ?_;rintro e w5 ⟨rfl,Q⟩;have V:=kD (I.out.trans (Q.mono I.out.size));have ho:=kD ((ho.out.below Q (Nat.le_refl _)).more Q.size);have aF:=Q.size;clear I Q CX hc aB;have ar:Hid (X++[s]=(O.take (k+1)).map λ x=>(valS x).1):=by
    show _=_
    rw [take_succ O k x HX.out,List.map_append,<-hX.out];simp only [List.map_cons,List.map_nil,HQ.out]
   clear HQ K;go_wp2_with (at_builtin;refine wpL_app rfl _ _ _ rfl w2.heap.size _ 2 i4 (.int .i64 0) 1 8 Tryz.underlying44 aA ay ax aw rfl (by decide) enI_len one_I (.slice Av k cv) X [s] rfl (ho.out.alloc _) ⟨w5.heap.size,0,none⟩ 1 1 (by first | rfl | (simp;rfl) | (simp [go_sem];done)) rfl (news_new (RowB.new _ _ _)) (by decide) ?c1 ?c2 ?c3 ?_)
   case c1=>unfold maxLen;omega
   case c2=>omega
   case c3=>go_size
   intro k2 c2 w7 ai an ap aD;have E:∀ g,(Value.slice Av k cv).ownBlock=some g->w2.heap.size<=g:=λ g hg=>(ho.out.block g hg).1
   have am:w5.grownBy w7 (Value.slice Av k cv).ownBlock:=below_grown (w:=w5) (by go_grown) an;have V:=kD (V.out.grown am V.out.size (λ g hg=>E g hg));have ah:=kD ai;have Z:(X++[s]).length=k+1:=by rw [List.length_append,W];rfl
   obtain⟨Y,hY⟩:∃ Y,X++[s]=Y:=⟨_,rfl⟩;rw [hY] at ar ah Z;clear an am ap ai E hY;go_wp2_with fail;go_roundw
   case rel=>exact⟨k+1,Y,by omega,by first | rfl | trivial | go_num,V,ah,ar,Z⟩
   case measure=>simp [intOf];omega
  ·obtain rfl:k=4:=by omega
   obtain⟨a,b,c,d,rfl⟩:=list4 W;have M:=ho.out;rcases M.cases_ with ⟨_,h⟩ | ⟨g,cap,rest,S,hg1,hg2,E,hc1,hc2,hc3⟩
   ·cases h
   simp only [List.length_cons,List.length_nil,Nat.zero_add,Nat.reduceAdd] at S;subst S;have E:RowB wr g 2 (.int .i64 a :: .int .i64 b :: .int .i64 c :: .int .i64 d :: rest):=E;have aK:4<=cap:=hc1;have aJ:cap<=9223372036854775807:=by have:=hc2;unfold maxLen at this;omega
   have m:=kD E;have hR:R=if vT ⟨a,b,c,d⟩=t then some ⟨a,b,c,d⟩ else none:=by
    have h4:=H4.out;have hX:=hX.out;rw [HV.out]
    match O,h4,hX with
    | [x1,x2,x3,x4],_,hX =>
     simp only [List.take,List.map_cons,List.map_nil,List.cons.injEq,and_true] at hX;obtain⟨rfl,rfl,rfl,rfl⟩:=hX
     rfl
   have HR:=kD hR;have CT:=kD (λ G=>vtext_s ⟨a,b,c,d⟩ G);obtain⟨tx,ag⟩:∃ x,vT ⟨a,b,c,d⟩=x:=⟨_,rfl⟩;rw [ag] at CT HR;clear M hg1 hg2 E hc1 hc2 hc3 HV hX W ho hk hR ag hlt aq H4 I CN;simp only at CT;have av:=kD K;clear K HK;go_upto_region 10 with fail;refine region_rel [some 33,some 34,some 35,some 36,some 37,some 38,some 39,some 40,some 41,some 42,some 43,some 44,some 45,some 9,none] 15 (Pl [some (.slice (some ⟨g,0,none⟩) 4 cap),some (.pointer (some ⟨g,0,none⟩)),some (.int .i64 a),some (.slice (some ⟨g,0,none⟩) 4 cap),some (.pointer (some ⟨g,1,none⟩)),some (.int .i64 b),some (.slice (some ⟨g,0,none⟩) 4 cap),some (.pointer (some ⟨g,2,none⟩)),some (.int .i64 c),some (.slice (some ⟨g,0,none⟩) 4 cap),some (.pointer (some ⟨g,3,none⟩)),some (.int .i64 d),some (.agg #[.int .i64 a,.int .i64 b,.int .i64 c,.int .i64 d]),none,none]) (λ L r w'=>AsF wr 13 14 [.int .i64 a,.int .i64 b,.int .i64 c,.int .i64 d] 23 L r w') (by kernel_rfl) (by kernel_rfl) (by kernel_rfl) (by kernel_rfl) (by kernel_rfl) (by kernel_rfl) (by first | kernel_rfl | rfl) ?g0_2 ?gst_2 ?gfin_2
   case g0_2=>exact⟨(Below.refl _ _).drew,λ h=>absurd h (by decide),λ h=>absurd h (by decide)⟩
   case gst_2 =>
    refine rN rfl (λ L r A G y z B U F K C=>?_) ?_
    ·have e5:=U.w 5 (.slice (some ⟨g,0,none⟩) 4 cap);have j:=m.out.below F.bel m.out.lt;have D:=j.cell 0;have c1:=j.cell 1;have c2:=j.cell 2;have c3:=j.cell 3;simp only [List.getElem?_cons_zero,List.getElem?_cons_succ] at D c1 c2 c3;clear j;go_simp;exact pF C (F.skip 0 _)
    refine rN rfl (λ L r A G y z B U F K C=>?_) ?_
    ·have aW:=U.v 0 33;have j:=m.out.below F.bel m.out.lt;have D:=j.cell 0;have c1:=j.cell 1;have c2:=j.cell 2;have c3:=j.cell 3;simp only [List.getElem?_cons_zero,List.getElem?_cons_succ] at D c1 c2 c3;clear j;go_simp;exact pF C (F.skip 1 _)
    refine rN rfl (λ L r A G y z B U F K C=>?_) ?_
    ·have aV:=U.v 1 34;have j:=m.out.below F.bel m.out.lt;have D:=j.cell 0;have c1:=j.cell 1;have c2:=j.cell 2;have c3:=j.cell 3;simp only [List.getElem?_cons_zero,List.getElem?_cons_succ] at D c1 c2 c3;have ad:=j.lt;clear j;go_simp;exact pF C (F.skip 2 _)
    refine rN rfl (λ L r A G y z B U F K C=>?_) ?_
    ·have e5:=U.w 5 (.slice (some ⟨g,0,none⟩) 4 cap);have j:=m.out.below F.bel m.out.lt;have D:=j.cell 0;have c1:=j.cell 1;have c2:=j.cell 2;have c3:=j.cell 3;simp only [List.getElem?_cons_zero,List.getElem?_cons_succ] at D c1 c2 c3;clear j;go_simp;exact pF C (F.skip 3 _)
    refine rN rfl (λ L r A G y z B U F K C=>?_) ?_
    ·have aT:=U.v 3 36;have j:=m.out.below F.bel m.out.lt;have D:=j.cell 0;have c1:=j.cell 1;have c2:=j.cell 2;have c3:=j.cell 3;simp only [List.getElem?_cons_zero,List.getElem?_cons_succ] at D c1 c2 c3;clear j;go_simp;exact pF C (F.skip 4 _)
    refine rN rfl (λ L r A G y z B U F K C=>?_) ?_
    ·have aS:=U.v 4 37;have j:=m.out.below F.bel m.out.lt;have D:=j.cell 0;have c1:=j.cell 1;have c2:=j.cell 2;have c3:=j.cell 3;simp only [List.getElem?_cons_zero,List.getElem?_cons_succ] at D c1 c2 c3;have ad:=j.lt;clear j;go_simp;exact pF C (F.skip 5 _)
    refine rN rfl (λ L r A G y z B U F K C=>?_) ?_
    ·have e5:=U.w 5 (.slice (some ⟨g,0,none⟩) 4 cap);have j:=m.out.below F.bel m.out.lt;have D:=j.cell 0;have c1:=j.cell 1;have c2:=j.cell 2;have c3:=j.cell 3;simp only [List.getElem?_cons_zero,List.getElem?_cons_succ] at D c1 c2 c3;clear j;go_simp;exact pF C (F.skip 6 _)
    refine rN rfl (λ L r A G y z B U F K C=>?_) ?_
    ·have aQ:=U.v 6 39;have j:=m.out.below F.bel m.out.lt;have D:=j.cell 0;have c1:=j.cell 1;have c2:=j.cell 2;have c3:=j.cell 3;simp only [List.getElem?_cons_zero,List.getElem?_cons_succ] at D c1 c2 c3;clear j;go_simp;exact pF C (F.skip 7 _)
    refine rN rfl (λ L r A G y z B U F K C=>?_) ?_
    ·have aP:=U.v 7 40;have j:=m.out.below F.bel m.out.lt;have D:=j.cell 0;have c1:=j.cell 1;have c2:=j.cell 2;have c3:=j.cell 3;simp only [List.getElem?_cons_zero,List.getElem?_cons_succ] at D c1 c2 c3;have ad:=j.lt;clear j;go_simp;exact pF C (F.skip 8 _)
    refine rN rfl (λ L r A G y z B U F K C=>?_) ?_
    ·have e5:=U.w 5 (.slice (some ⟨g,0,none⟩) 4 cap);have j:=m.out.below F.bel m.out.lt;have D:=j.cell 0;have c1:=j.cell 1;have c2:=j.cell 2;have c3:=j.cell 3;simp only [List.getElem?_cons_zero,List.getElem?_cons_succ] at D c1 c2 c3;clear j;go_simp;exact pF C (F.skip 9 _)
    refine rN rfl (λ L r A G y z B U F K C=>?_) ?_
    ·have aN:=U.v 9 42;have j:=m.out.below F.bel m.out.lt;have D:=j.cell 0;have c1:=j.cell 1;have c2:=j.cell 2;have c3:=j.cell 3;simp only [List.getElem?_cons_zero,List.getElem?_cons_succ] at D c1 c2 c3;clear j;go_simp;exact pF C (F.skip 10 _)
    refine rN rfl (λ L r A G y z B U F K C=>?_) ?_
    ·have aM:=U.v 10 43;have j:=m.out.below F.bel m.out.lt;have D:=j.cell 0;have c1:=j.cell 1;have c2:=j.cell 2;have c3:=j.cell 3;simp only [List.getElem?_cons_zero,List.getElem?_cons_succ] at D c1 c2 c3;have ad:=j.lt;clear j;go_simp;exact pF C (F.skip 11 _)
    refine rN rfl (λ L r A G y z B U F K C=>?_) ?_
    ·have aU:=U.v 2 35;have aR:=U.v 5 38;have aO:=U.v 8 41;have aL:=U.v 11 44;have j:=m.out.below F.bel m.out.lt;have D:=j.cell 0;have c1:=j.cell 1;have c2:=j.cell 2;have c3:=j.cell 3;simp only [List.getElem?_cons_zero,List.getElem?_cons_succ] at D c1 c2 c3;clear j;go_simp;exact pF C (F.skip 12 _)
    refine rN rfl (λ L r A G y z B U F K C=>?_) ?_
    ·go_simp;exact C.out _ _ (Pl.any rfl) (F.box (by decide) (λ h=>y (B 14 13 (by kernel_rfl) h)) rfl)
    refine rN rfl (λ L r A G y z B U F K C=>?_) ?_
    ·have e9:=U.x 13 9;have aC:=U.v 12 45;refine(F.fa (bK z 13)).elim λ g9 qa=>?_
     refine qa.2.2.elim λ cs qc=>?_
     have ao:cs.length=4:=qc.1;refine wp_sm 23 _ _ rfl g9 0 [.int .i64 a,.int .i64 b,.int .i64 c,.int .i64 d] cs (ev (e9.trans qa.1)) (ev aC) 23 qc.2 (by kernel_rfl) (Nat.le_of_eq ao.symm) rfl ?_;exact C.out undef _ (Pl.any rfl) (F.wrote (by decide) qa.1 qa.2.1 qc.2 ao)
    exact RelFrom.nil (by decide)
   intro r G hp F;simp only [Fr,Act.put,sX,Nat.reduceAdd];obtain⟨g6,ae,aI,-⟩:=F.fa trivial;have rx:=F.fw trivial g6 ae;have K:=av.out.below F.bel;rw [ae];clear F hp N m ae av;obtain⟨x0,x1,x2,x3⟩:=rx.c4;have aj:=rx.lt;go_wp2_with fail;refine(CT.out _).mono ?_;rintro e w4 ⟨rfl,I⟩;have K:=K.below I;have rx:=rx.below I rx.lt;clear x0 x1 x2 x3 aj I CT;have N:=(K.nth0 0 rfl).lt;obtain⟨x0,x1,x2,x3⟩:=rx.c4;have aj:=rx.lt;by_cases heq:tx=t
   ·have hw:R=some ⟨a,b,c,d⟩:=by rw [HR.out,if_pos heq]
    have e1:((bs tx).toList == (bs t).toList)=true:=by rw [bs_eq];exact decide_eq_true heq
    have e2:((bs tx).toList != (bs t).toList)=false:=by simp only [bne,e1];rfl
    clear heq HR;have j:=K.nth0 0 rfl;go_wp2_with (refine wM 23 0 [.int .i64 a,.int .i64 b,.int .i64 c,.int .i64 d] j ?_;intro w7 J H z7;refine Hid.out ?_);have P:=(K.grown 0 J H).bel;obtain⟨z0,z1,z2,z3⟩:=J.c4;have al:=J.lt;clear H j K N;refine kD ?_
    repeat (first | go_values | go_skip | go_step | go_upon)
    refine bodyPost_ret (v:=.tuple #[.agg #[.int .i64 a,.int .i64 b,.int .i64 c,.int .i64 d],.bool true]) (by simp [results,Tryz.results39,go_sem,z0,z1,z2,z3]) rfl ?_;exact⟨a,b,c,d,true,rfl,P,hw⟩
   ·obtain rfl:none=R:=by rw [HR.out,if_neg heq]
    have e1:((bs tx).toList == (bs t).toList)=false:=by rw [bs_eq];exact decide_eq_false heq
    have e2:((bs tx).toList != (bs t).toList)=true:=by simp only [bne,e1];rfl
    clear heq HR;have j:=K.nth0 0 rfl;go_wp2_with (refine wM 23 0 [.int .i64 0,.int .i64 0,.int .i64 0,.int .i64 0] j ?_;intro w7 J H z7;refine Hid.out ?_);have P:=(K.grown 0 J H).bel;obtain⟨z0,z1,z2,z3⟩:=J.c4;have al:=J.lt;clear H j K N;refine kD ?_
    repeat (first | go_values | go_skip | go_step | go_upon)
    refine bodyPost_ret (v:=.tuple #[.agg #[.int .i64 0,.int .i64 0,.int .i64 0,.int .i64 0],.bool false]) (by simp [results,Tryz.results39,go_sem,z0,z1,z2,z3]) rfl ?_;exact⟨0,0,0,0,false,rfl,P,rfl⟩
end Gm
end Go.Proofs.YtblipmifflfnoaaGreatDoor
