/- Parts of the proof of FnEventText. Conditions: each theorem's own. -/
import Derived.Test.YtjdefiinmicjiaaGreatDoorU17
set_option linter.unusedVariables false
set_option linter.unusedSimpArgs false
set_option maxHeartbeats 8000000
set_option maxRecDepth 100000
namespace Go.Proofs.YtjdefiinmicjiaaGreatDoor
namespace Gm
open Go Go.ChangeShapes Go.WideShapes Go.ChangeAt Go.RowKit Base Ints Own Clone RelG PlP Bd1 Bd2 Bd5 Bd6 Bd7 Bd8 RegInv RegF RegG
theorem gm_zero {v:Vr} {g:Gm} (h:gmB v g=true) (h0:g.ph=0):g=newG v:=by
 obtain⟨b,n,x,y,o,k,m,l⟩:=g;simp only at h0;subst h0;unfold gmB at h;simp at h;obtain⟨⟨-,c,a⟩,j,i,f,e,d⟩:=h;subst j i f e d c a
 rfl
theorem gm_rest {v:Vr} {g:Gm} (h:gmB v g=true):(g.ph=2->rollB v g.x g.y=true)∧(¬ g.ph=2->g.x=0∧g.y=0)∧(g.ph=0∨g.ph=1∨g.ph=2∨g.ph=3)∧(g.ph=3->(over g.b=true->g.b.1.sum=0∧g.wn=g.pl∧g.rs=resP v g.b)∧(over g.b=false->g.wn=1 - g.pl∧1<=g.rs∧g.rs<=3)):=by
 unfold gmB at h;simp only [Bool.and_eq_true,decide_eq_true_eq] at h;obtain⟨⟨⟨⟨⟨n,m⟩,l⟩,k⟩,i⟩,e⟩:=h;refine⟨λ f=>by rw [if_pos f] at i;exact i,λ f=>by rw [if_neg f] at i;exact of_decide_eq_true i,?_,λ f=>?_⟩
 ·by_cases a:g.ph=0
  ·exact .inl a
  ·rw [if_neg a] at e;by_cases c:g.ph=1∨g.ph=2
   ·rcases c with c | c
    ·exact .inr (.inl c)
    ·exact .inr (.inr (.inl c))
   ·rw [if_neg c] at e;by_cases d:g.ph=3
    ·exact .inr (.inr (.inr d))
    ·rw [if_neg d] at e;cases e
 ·rw [if_neg (by omega),if_neg (by omega),if_pos f] at e;refine⟨λ j=>by rw [if_pos j] at e;exact of_decide_eq_true e,λ j=>?_⟩;rw [if_neg (by rw [j];decide)] at e;exact of_decide_eq_true e
structure Gb (w wr:World) (v:Vr) (u1 u2:Value) (g:Gm):Prop where
 bel:Below w.heap.size w wr
 rv:RowB wr w.heap.size 25 (vL v)
 rg:RowB wr (w.heap.size+1) 55 [u1,u2,.int .i64 g.pl,.int .i64 g.x,.int .i64 g.y,.int .i64 g.ph,.int .i64 g.wn,.int .i64 g.rs,.int .i64 g.tn]
theorem Gb.below {w wr w':World} {v:Vr} {u1 u2:Value} {g:Gm} (k:Gb w wr v u1 u2 g) (hb:Below wr.heap.size wr w'):Gb w w' v u1 u2 g :=
 ⟨k.bel.trans (hb.mono k.bel.size),k.rv.below hb k.rv.lt,k.rg.below hb k.rg.lt⟩
structure NwF (w1:World) (v:Vr) (p22 p23:Prop) (v22 v23:Value) (w':World):Prop where
 bel:Below w1.heap.size w1 w'
 f22:p22->RelGV.R w' All v22 (newG v)
 f23:p23->RelBV.R w' All v23 (startB v)
section
variable {w1 w' w'':World} {v:Vr} {p22 p23:Prop} {v22 v23:Value}
theorem NwF.below (F:NwF w1 v p22 p23 v22 v23 w') (hb:Below w'.heap.size w' w''):NwF w1 v p22 p23 v22 v23 w'' :=
 ⟨F.bel.trans (hb.mono F.bel.size),λ h=>RelGV.keep (F.f22 h) (.below hb),λ h=>RelBV.keep (F.f23 h) (.below hb)⟩
theorem NwF.skip {L:Nat->Prop} {vals:Nat->Value} (F:NwF w1 v (L 22) (L 23) (vals 22) (vals 23) w') (k:Nat) (z:Value) (h1:22≠k:=by decide) (h2:23≠k:=by decide):NwF w1 v (22=k∨L 22) (23=k∨L 23) (upd vals k z 22) (upd vals k z 23) w':=by
 rw [or_ne h1,or_ne h2,upd_ne h1,upd_ne h2];exact F
theorem NwF.s22 (F:NwF w1 v p22 p23 v22 v23 w') (hb:Below w'.heap.size w' w'') {z:Value} (h:RelGV.R w'' All z (newG v)):NwF w1 v True p23 z v23 w'' :=
 ⟨F.bel.trans (hb.mono F.bel.size),λ _=>h,λ h=>RelBV.keep (F.f23 h) (.below hb)⟩
theorem NwF.s23 (F:NwF w1 v p22 p23 v22 v23 w') {z:Value} (h:RelBV.R w' All z (startB v)):NwF w1 v p22 True v22 z w' :=
 ⟨F.bel,F.f22,λ _=>h⟩
end
theorem isg_s (v:Vr) (g:Gm) (hg:gmB v g=true) (S:Nat->Prop) (u1 u2:Value) (w:World) (hR:BdR w S u1 u2 g.b) :
  Calls Tryz.prog 136 #[.agg #[.int .i64 v.p,.int .i64 v.c,.int .i64 v.h,.int .i64 v.s],.agg ⟨gmC u1 u2 g⟩] w λ e w'=>e=.returned (.bool true)∧Below w.heap.size w w':=by
 have Y:=gm_parts hg;have hq:=gm_rest hg;have T:=Y.1;have af:okV v=true:=okV_iff.2 T.v1;have aN:=kD (gm_zero hg);have aG:=kD hR;obtain⟨⟨A1,c1,rfl,r1,k1⟩,⟨A2,c2,rfl,r2,k2⟩⟩:=hR;obtain⟨o,ho⟩:∃ o,over g.b=o:=⟨_,rfl⟩;have CV:=kD (λ m=>var_s v true af m);have CB:=kD (λ(m:World) (Z:Below w.heap.size w m)=>Bd3.isB_s v g.b A1 A2 c1 c2 m.heap.size m (Nat.le_refl _) (r1.keep (.below Z)).rd (r2.keep (.below Z)).rd true (okB_iff.2 T));have CP:=kD (λ m=>in_s g.pl 0 1 true (decide_eq_true Y.2.2.1) m);have CT:=kD (λ m=>in_s g.tn 0 2000 true (decide_eq_true Y.2.2.2.1) m);have ai:=kD (λ(m:World) (Z:Below w.heap.size w m)=>over_s v g.b T A1 A2 c1 c2 m.heap.size m (Nat.le_refl _) (r1.keep (.below Z)).rd (r2.keep (.below Z)).rd o ho);have ar:=kD (λ(hr:rollB v g.x g.y=true) m=>TsI.isroll_ws v af g.x g.y true hr m);have aP:=kD (λ m=>new_s v af Y.2.1 m);have aq:=kD (λ(m:World) (Z:Below w.heap.size w m)=>sum_s A1 c1 m.heap.size g.b.1 m (r1.keep (.below Z)).rd (λ i=>⟨T.own.nn i,by have:=T.own.top i;have:=T.v1;omega⟩) (by have:=T.own.len;have:=T.v1;omega));have ah:=kD (λ(z:Int) (hz:resP v g.b=z) (m:World) (Z:Below w.heap.size w m)=>res_s v g.b T S _ _ z hz m (aG.out.keep (.below Z)));have av:=kD (λ(h:1<=g.rs∧g.rs<=3) m=>in_s g.rs 1 3 true (decide_eq_true h) m);obtain⟨n1,ab⟩:∃ n,g.b.1.length=n:=⟨_,rfl⟩;obtain⟨n2,ag⟩:∃ n,g.b.2.length=n:=⟨_,rfl⟩;rw [ab] at aq;rw [ab,ag] at CB ai ah aG;rw [ab,ag];have a8:decide (v.p<4)=false:=decide_eq_false (by have:=Y.2.1;omega);have HQ:=kD hq;have aM:Hid (0<n1∧n1<=1000):=by have:=T.own.len;have:=T.v1;exact⟨by omega,by omega⟩
 have R1:=kD r1;have R2:=kD r2;have HP:=kD Y.2.2.2.2.2;have aL:=kD Y.2.2.1;have HO:=kD ho;have ap:=kD ab;have ao:=kD ag;clear hq Y T af hg ho r1 r2 k1 k2 ab ag;go_enter Tryz.func136,Tryz.ntmps136;go_upto_region 1 with fail;refine wp_gen (λ W'=>Gb w W' v (.slice A1 n1 c1) (.slice A2 n2 c2) g) ⟨by go_grown,(RowB.new _ _ _).alloc _,RowB.new' _ _ _ (by simp)⟩ ?_;intro w1 K;obtain⟨E,D,C,B⟩:=K.rv.c4;obtain⟨Q,P,O,N,M,J,I,H,G⟩:=row9 K.rg;have r:=K.rv.lt;have t:=K.rg.lt;go_wp2_with fail;refine(CV.out _).mono ?_;rintro e w2 ⟨rfl,X⟩;have K:=K.below X;clear E D C B Q P O N M J I H G r t;clear X;obtain⟨E,D,C,B⟩:=K.rv.c4;obtain⟨Q,P,O,N,M,J,I,H,G⟩:=row9 K.rg;have r:=K.rv.lt;have t:=K.rg.lt;go_wp2_with fail;refine(CB.out _ K.bel).mono ?_;rintro e w2 ⟨rfl,X⟩;have K:=K.below X;clear E D C B Q P O N M J I H G r t;clear X;obtain⟨E,D,C,B⟩:=K.rv.c4;obtain⟨Q,P,O,N,M,J,I,H,G⟩:=row9 K.rg;have r:=K.rv.lt;have t:=K.rg.lt;go_wp2_with fail;refine(CP.out _).mono ?_;rintro e w2 ⟨rfl,rfl⟩;go_wp2_with fail;refine(CT.out _).mono ?_;rintro e w2 ⟨rfl,rfl⟩;clear CV CB CP CT;by_cases h2:g.ph=2
 ·have e2:(g.ph == 2)=true:=by rw [h2];rfl
  have ar:=kD (ar.out (HQ.out.1 h2));obtain⟨aa,V,W⟩:=HP.out (.inr h2);obtain rfl:o=false:=HO.out.symm.trans aa;have e0:(g.ph == 0)=false:=by rw [h2];rfl
  have e1:(g.ph == 1)=false:=by rw [h2];rfl
  have ew:(g.wn == 0)=true:=by rw [V];rfl
  have er:(g.rs == 0)=true:=by rw [W];rfl
  clear h2 aa V W;go_wp2_with fail;refine(ar.out _).mono ?_;rintro e w2 ⟨rfl,X⟩;have K:=K.below X;clear E D C B Q P O N M J I H G r t;clear X;obtain⟨E,D,C,B⟩:=K.rv.c4;obtain⟨Q,P,O,N,M,J,I,H,G⟩:=row9 K.rg;have r:=K.rv.lt;have t:=K.rg.lt;go_wp2_with fail;refine(ai.out _ K.bel).mono ?_;rintro e w2 ⟨rfl,X⟩;have K:=K.below X;clear E D C B Q P O N M J I H G r t;clear X;obtain⟨E,D,C,B⟩:=K.rv.c4;obtain⟨Q,P,O,N,M,J,I,H,G⟩:=row9 K.rg;have r:=K.rv.lt;have t:=K.rg.lt;go_wp2_with fail;go_ret;exact⟨rfl,K.bel⟩
 have e2:(g.ph == 2)=false:=by simpa using h2
 obtain⟨ak,aj⟩:=HQ.out.2.1 h2;have ex:(g.x != 0)=false:=by rw [ak];rfl
 have ey:(g.y != 0)=false:=by rw [aj];rfl
 have ba:(g.x == 0)=true:=by rw [ak];rfl
 have a9:(g.y == 0)=true:=by rw [aj];rfl
 clear ak aj;go_wp2_with fail;refine(ai.out _ K.bel).mono ?_;rintro e w2 ⟨rfl,X⟩;have K:=K.below X;clear E D C B Q P O N M J I H G r t;clear X;obtain⟨E,D,C,B⟩:=K.rv.c4;obtain⟨Q,P,O,N,M,J,I,H,G⟩:=row9 K.rg;have r:=K.rv.lt;have t:=K.rg.lt;clear ai;rcases HQ.out.2.2.1 with h0 | h1 | h2' | h3
 ·have HG:=kD (aN.out h0);have e0:(g.ph == 0)=true:=by rw [h0];rfl
  have ew:(g.wn == 0)=true:=by rw [HG.out];rfl
  have er:(g.rs == 0)=true:=by rw [HG.out];rfl
  have ep:(g.pl == 0)=true:=by rw [HG.out];rfl
  have et:(g.tn == 0)=true:=by rw [HG.out];rfl
  have ac:g.b=startB v:=by rw [HG.out];rfl
  have aB:n2=n1:=by rw [<-ap.out,<-ao.out,ac];rfl
  subst aB;have am:(startB v).1.length=n2:=by rw [<-ac];exact ap.out
  have al:(startB v).2.length=n2:=by rw [<-ac];exact ao.out
  have aI:0<n2∧n2<=1000:=aM.out;have aO:=kD (λ(A3 A4:Option Addr) (c3 c4:Nat) (m:World) (Z:Below w.heap.size w m) (p3:RdF m All 1 enI A3 (startB v).1) (p4:RdF m All 1 enI A4 (startB v).2)=>Bd10.same_s g.b (startB v) n2 ap.out ao.out am al aI A1 A2 A3 A4 c1 c2 c3 c4 m.heap.size m (Nat.le_refl _) (R1.out.keep (.below Z)).rd (R2.out.keep (.below Z)).rd p3.rd p4.rd true (decide_eq_true ac));have aK:=kD am;have aJ:=kD al;clear h0 ac am al h2;have R:=K;clear K;go_wp2_with fail;refine region_relG [some 52,some 53,some 54,some 55,some 56,some 57,some 58,some 59,some 60,some 61,some 62,some 63,some 64,some 65,some 66,some 67,some 68,some 69,some 70,some 71,some 72,some 73,some 74,some 75,some 76,some 77,some 4] 27 [some (.pointer (some ⟨w.heap.size+1,2,none⟩)),some (.int .i64 g.pl),some (.bool true),some (.bool true),some (.pointer (some ⟨w.heap.size+1,8,none⟩)),some (.int .i64 g.tn),some (.bool true),some (.bool true),some (.bool true),some (.pointer (some ⟨w.heap.size+1,6,none⟩)),some (.int .i64 g.wn),some (.bool true),some (.bool true),some (.bool true),some (.pointer (some ⟨w.heap.size+1,7,none⟩)),some (.int .i64 g.rs),some (.bool true),some (.bool true),some (.bool true),some (.pointer (some ⟨w.heap.size+1,0,none⟩)),some (.agg #[.slice A1 n2 c1,.slice A2 n2 c2]),some (.agg #[.int .i64 v.p,.int .i64 v.c,.int .i64 v.h,.int .i64 v.s]),none,none,some (.bool true),some (.bool true),some (.bool true)] (λ L a w'=>NwF w2 v (L 22) (L 23) (a 22) (a 23) w') (by kernel_rfl) (by kernel_rfl) (by kernel_rfl) (by kernel_rfl) (by kernel_rfl) (by kernel_rfl) (by first | kernel_rfl | rfl) ?g0_1 ?gst_1 ?gfin_1
  case g0_1=>exact⟨(Below.refl _ _).drew,λ h=>absurd h (by decide),λ h=>absurd h (by decide)⟩
  case gst_1 =>
   refine rN rfl (λ L a A m j f k U F K l=>?_) ?_
   ·have e3:=U.w 3 (.pointer (some ⟨w.heap.size+1,0,none⟩));have d:=R.below F.bel;obtain⟨E,D,C,B⟩:=d.rv.c4;obtain⟨Q,P,O,N,M,J,I,H,G⟩:=row9 d.rg;have r:=d.rv.lt;have t:=d.rg.lt;clear d;go_simp;exact pF l (F.skip 0 _)
   refine rN rfl (λ L a A m j f k U F K l=>?_) ?_
   ·have bE:=U.v 0 52;have d:=R.below F.bel;obtain⟨E,D,C,B⟩:=d.rv.c4;obtain⟨Q,P,O,N,M,J,I,H,G⟩:=row9 d.rg;have r:=d.rv.lt;have t:=d.rg.lt;clear d;go_simp;exact pF l (F.skip 1 _)
   refine rN rfl (λ L a A m j f k U F K l=>?_) ?_
   ·have bD:=U.v 1 53;go_simp;exact pF l (F.skip 2 _)
   refine rN rfl (λ L a A m j f k U F K l=>?_) ?_
   ·have bC:=U.v 2 54;go_simp;exact pF l (F.skip 3 _)
   refine rN rfl (λ L a A m j f k U F K l=>?_) ?_
   ·have e3:=U.w 3 (.pointer (some ⟨w.heap.size+1,0,none⟩));have d:=R.below F.bel;obtain⟨E,D,C,B⟩:=d.rv.c4;obtain⟨Q,P,O,N,M,J,I,H,G⟩:=row9 d.rg;have r:=d.rv.lt;have t:=d.rg.lt;clear d;go_simp;exact pF l (F.skip 4 _)
   refine rN rfl (λ L a A m j f k U F K l=>?_) ?_
   ·have bA:=U.v 4 56;have d:=R.below F.bel;obtain⟨E,D,C,B⟩:=d.rv.c4;obtain⟨Q,P,O,N,M,J,I,H,G⟩:=row9 d.rg;have r:=d.rv.lt;have t:=d.rg.lt;clear d;go_simp;exact pF l (F.skip 5 _)
   refine rN rfl (λ L a A m j f k U F K l=>?_) ?_
   ·have bz:=U.v 5 57;go_simp;exact pF l (F.skip 6 _)
   refine rN rfl (λ L a A m j f k U F K l=>?_) ?_
   ·have bB:=U.v 3 55;have bx:=U.v 6 58;go_simp;exact pF l (F.skip 7 _)
   refine rN rfl (λ L a A m j f k U F K l=>?_) ?_
   ·have bw:=U.v 7 59;go_simp;exact pF l (F.skip 8 _)
   refine rN rfl (λ L a A m j f k U F K l=>?_) ?_
   ·have e3:=U.w 3 (.pointer (some ⟨w.heap.size+1,0,none⟩));have d:=R.below F.bel;obtain⟨E,D,C,B⟩:=d.rv.c4;obtain⟨Q,P,O,N,M,J,I,H,G⟩:=row9 d.rg;have r:=d.rv.lt;have t:=d.rg.lt;clear d;go_simp;exact pF l (F.skip 9 _)
   refine rN rfl (λ L a A m j f k U F K l=>?_) ?_
   ·have bt:=U.v 9 61;have d:=R.below F.bel;obtain⟨E,D,C,B⟩:=d.rv.c4;obtain⟨Q,P,O,N,M,J,I,H,G⟩:=row9 d.rg;have r:=d.rv.lt;have t:=d.rg.lt;clear d;go_simp;exact pF l (F.skip 10 _)
   refine rN rfl (λ L a A m j f k U F K l=>?_) ?_
   ·have bs:=U.v 10 62;go_simp;exact pF l (F.skip 11 _)
   refine rN rfl (λ L a A m j f k U F K l=>?_) ?_
   ·have bv:=U.v 8 60;have br:=U.v 11 63;go_simp;exact pF l (F.skip 12 _)
   refine rN rfl (λ L a A m j f k U F K l=>?_) ?_
   ·have bq:=U.v 12 64;go_simp;exact pF l (F.skip 13 _)
   refine rN rfl (λ L a A m j f k U F K l=>?_) ?_
   ·have e3:=U.w 3 (.pointer (some ⟨w.heap.size+1,0,none⟩));have d:=R.below F.bel;obtain⟨E,D,C,B⟩:=d.rv.c4;obtain⟨Q,P,O,N,M,J,I,H,G⟩:=row9 d.rg;have r:=d.rv.lt;have t:=d.rg.lt;clear d;go_simp;exact pF l (F.skip 14 _)
   refine rN rfl (λ L a A m j f k U F K l=>?_) ?_
   ·have bo:=U.v 14 66;have d:=R.below F.bel;obtain⟨E,D,C,B⟩:=d.rv.c4;obtain⟨Q,P,O,N,M,J,I,H,G⟩:=row9 d.rg;have r:=d.rv.lt;have t:=d.rg.lt;clear d;go_simp;exact pF l (F.skip 15 _)
   refine rN rfl (λ L a A m j f k U F K l=>?_) ?_
   ·have bn:=U.v 15 67;go_simp;exact pF l (F.skip 16 _)
   refine rN rfl (λ L a A m j f k U F K l=>?_) ?_
   ·have bp:=U.v 13 65;have bm:=U.v 16 68;go_simp;exact pF l (F.skip 17 _)
   refine rN rfl (λ L a A m j f k U F K l=>?_) ?_
   ·have bl:=U.v 17 69;go_simp;exact pF l (F.skip 18 _)
   refine rN rfl (λ L a A m j f k U F K l=>?_) ?_
   ·have e3:=U.w 3 (.pointer (some ⟨w.heap.size+1,0,none⟩));have d:=R.below F.bel;obtain⟨E,D,C,B⟩:=d.rv.c4;obtain⟨Q,P,O,N,M,J,I,H,G⟩:=row9 d.rg;have r:=d.rv.lt;have t:=d.rg.lt;clear d;go_simp;exact pF l (F.skip 19 _)
   refine rN rfl (λ L a A m j f k U F K l=>?_) ?_
   ·have bj:=U.v 19 71;have d:=R.below F.bel;obtain⟨E,D,C,B⟩:=d.rv.c4;obtain⟨Q,P,O,N,M,J,I,H,G⟩:=row9 d.rg;have r:=d.rv.lt;have t:=d.rg.lt;clear d;go_simp;exact pF l (F.skip 20 _)
   refine rN rfl (λ L a A m j f k U F K l=>?_) ?_
   ·have e2:=U.w 2 (.pointer (some ⟨w.heap.size,0,none⟩));have d:=R.below F.bel;obtain⟨E,D,C,B⟩:=d.rv.c4;obtain⟨Q,P,O,N,M,J,I,H,G⟩:=row9 d.rg;have r:=d.rv.lt;have t:=d.rg.lt;clear d;go_simp;exact pF l (F.skip 21 _)
   refine rN rfl (λ L a A m j f k U F K l=>?_) ?_
   ·have bh:=U.v 21 73;go_simp;refine(aP.out m).mono ?_;rintro e w6 ⟨v6,rfl,aH,ad⟩;exact l.out v6 w6 (Pl.any rfl) (by simpa [upd] using F.s22 ad (RelGV.weak aH (λ _ _ _=>trivial)))
   refine rN rfl (λ L a A m j f k U F K l=>?_) ?_
   ·have aF:=U.x 22 74;refine(F.f22 (bK f 22)).elim λ u3 q=>?_
    refine q.elim λ u4 q=>?_
    have aE:=aF.trans q.1;simp only [gmC] at aE;clear aF;have hT:∀(h:51<Tryz.prog.types.size),(Tryz.prog.types[51]'h).size=2:=λ h=>by first | kernel_rfl | rfl
    go_simp;exact l.out (.agg #[u3,u4]) m (Pl.any rfl) (by simpa [upd] using F.s23 ⟨u3,u4,rfl,q.2⟩)
   refine rN rfl (λ L a A m j f k U F K l=>?_) ?_
   ·have bi:=U.v 20 72;have aD:=U.x 23 75;refine(F.f23 (bK f 23)).elim λ u3 q=>?_
    refine q.elim λ u4 q=>?_
    refine q.2.1.elim λ A3 p3=>?_
    refine p3.elim λ c3 p3=>?_
    refine q.2.2.elim λ A4 p4=>?_
    refine p4.elim λ c4 p4=>?_
    have aC:=aD.trans q.1;rw [p3.1,p4.1,aK.out,aJ.out] at aC;clear aD;go_simp;refine(aO.out A3 A4 c3 c4 m (R.bel.trans (F.bel.mono R.bel.size)) p3.2.1 p4.2.1).mono ?_;rintro e w6 ⟨rfl,ad⟩;exact pF l ((F.below ad).skip 24 _)
   refine rN rfl (λ L a A m j f k U F K l=>?_) ?_
   ·have bk:=U.v 18 70;have bg:=U.v 24 76;go_simp;exact pF l (F.skip 25 _)
   refine rN rfl (λ L a A m j f k U F K l=>?_) ?_
   ·have bf:=U.v 25 77;go_simp;exact pF l (F.skip 26 _)
   exact RelFrom.nil (by decide)
  intro a m Y F;simp only [Fr,Act.put,sX,Nat.reduceAdd];go_wp2_with fail;have ay:a 26=.bool true:=Y 26 (by decide) _ rfl;rw [ay];go_ret;exact⟨rfl,(R.below F.bel).bel⟩
 ·obtain⟨aa,V,W⟩:=HP.out (.inl h1);obtain rfl:o=false:=HO.out.symm.trans aa;have e0:(g.ph == 0)=false:=by rw [h1];rfl
  have e1:(g.ph == 1)=true:=by rw [h1];rfl
  have ew:(g.wn == 0)=true:=by rw [V];rfl
  have er:(g.rs == 0)=true:=by rw [W];rfl
  clear h1 aa V W h2;go_wp2_with fail;go_ret;exact⟨rfl,K.bel⟩
 ·exact absurd h2' h2
 ·have e0:(g.ph == 0)=false:=by rw [h3];rfl
  have e1:(g.ph == 1)=false:=by rw [h3];rfl
  have e3:(g.ph == 3)=true:=by rw [h3];rfl
  have ae:=HQ.out.2.2.2 h3;rw [HO.out] at ae;clear h3 h2
  cases o
  case false =>
   obtain⟨ax,aA⟩:=ae.2 rfl;have av:=kD (av.out aA);have a7:IntKind.i64.wrap (1 - g.pl)=1 - g.pl:=IntWalk.i64_in _ (by have:=aL.out;omega);have ew:(g.wn == 1 - g.pl)=true:=by rw [ax];simp
   clear ae ax aA;go_wp2_with fail;refine(av.out _).mono ?_;rintro e w3 ⟨rfl,rfl⟩;go_wp2_with fail;go_ret;exact⟨rfl,K.bel⟩
  case true =>
   obtain⟨an,V,W⟩:=ae.1 rfl;have ah:=kD (ah.out g.rs W.symm);obtain⟨z1,aw⟩:∃ z,g.b.1.sum=z:=⟨_,rfl⟩;rw [aw] at aq an;have es:(z1 == 0)=true:=by rw [an];rfl
   have ew:(g.wn == g.pl)=true:=by rw [V];simp
   have er:(g.rs == g.rs)=true:=by simp
   clear ae an V W aw;have R:=K;clear K;go_wp2_with fail;refine region_relG [some 96,some 97,some 98,some 99,some 100,some 101,some 102,some 103,some 104,some 105,some 106,some 107,some 108,some 109,some 110,some 111,some 112,some 113,some 114,some 115,some 116,some 4] 22 [some (.pointer (some ⟨w.heap.size+1,0,none⟩)),some (.pointer (some ⟨w.heap.size+1,0,none⟩)),some (.slice A1 n1 c1),some (.int .i64 z1),some (.bool true),some (.bool true),some (.pointer (some ⟨w.heap.size+1,6,none⟩)),some (.int .i64 g.wn),some (.pointer (some ⟨w.heap.size+1,2,none⟩)),some (.int .i64 g.pl),some (.bool true),some (.bool true),some (.bool true),some (.pointer (some ⟨w.heap.size+1,7,none⟩)),some (.int .i64 g.rs),some (.agg #[.int .i64 v.p,.int .i64 v.c,.int .i64 v.h,.int .i64 v.s]),some (.pointer (some ⟨w.heap.size+1,0,none⟩)),some (.agg #[.slice A1 n1 c1,.slice A2 n2 c2]),some (.int .i64 g.rs),some (.bool true),some (.bool true),some (.bool true)] (λ L a w'=>Below w2.heap.size w2 w') (by kernel_rfl) (by kernel_rfl) (by kernel_rfl) (by kernel_rfl) (by kernel_rfl) (by kernel_rfl) (by first | kernel_rfl | rfl) ?g0_2 ?gst_2 ?gfin_2
   case g0_2=>exact(Below.refl _ _).drew
   case gst_2 =>
    refine rN rfl (λ L a A m j f k U F K l=>?_) ?_
    ·have e3:=U.w 3 (.pointer (some ⟨w.heap.size+1,0,none⟩));have d:=R.below F;obtain⟨E,D,C,B⟩:=d.rv.c4;obtain⟨Q,P,O,N,M,J,I,H,G⟩:=row9 d.rg;have r:=d.rv.lt;have t:=d.rg.lt;clear d;go_simp;exact pF l (F)
    refine rN rfl (λ L a A m j f k U F K l=>?_) ?_
    ·have be:=U.v 0 96;have d:=R.below F;obtain⟨E,D,C,B⟩:=d.rv.c4;obtain⟨Q,P,O,N,M,J,I,H,G⟩:=row9 d.rg;have r:=d.rv.lt;have t:=d.rg.lt;clear d;go_simp;exact pF l (F)
    refine rN rfl (λ L a A m j f k U F K l=>?_) ?_
    ·have bd:=U.v 1 97;have d:=R.below F;obtain⟨E,D,C,B⟩:=d.rv.c4;obtain⟨Q,P,O,N,M,J,I,H,G⟩:=row9 d.rg;have r:=d.rv.lt;have t:=d.rg.lt;clear d;go_simp;exact pF l (F)
    refine rN rfl (λ L a A m j f k U F K l=>?_) ?_
    ·have bc:=U.v 2 98;go_simp;refine(aq.out m (R.bel.trans (F.mono R.bel.size))).mono ?_;rintro e w6 ⟨rfl,rfl⟩;exact pF l F
    refine rN rfl (λ L a A m j f k U F K l=>?_) ?_
    ·have bb:=U.v 3 99;go_simp;exact pF l (F)
    refine rN rfl (λ L a A m j f k U F K l=>?_) ?_
    ·have a6:=U.v 4 100;go_simp;exact pF l (F)
    refine rN rfl (λ L a A m j f k U F K l=>?_) ?_
    ·have e3:=U.w 3 (.pointer (some ⟨w.heap.size+1,0,none⟩));have d:=R.below F;obtain⟨E,D,C,B⟩:=d.rv.c4;obtain⟨Q,P,O,N,M,J,I,H,G⟩:=row9 d.rg;have r:=d.rv.lt;have t:=d.rg.lt;clear d;go_simp;exact pF l (F)
    refine rN rfl (λ L a A m j f k U F K l=>?_) ?_
    ·have a4:=U.v 6 102;have d:=R.below F;obtain⟨E,D,C,B⟩:=d.rv.c4;obtain⟨Q,P,O,N,M,J,I,H,G⟩:=row9 d.rg;have r:=d.rv.lt;have t:=d.rg.lt;clear d;go_simp;exact pF l (F)
    refine rN rfl (λ L a A m j f k U F K l=>?_) ?_
    ·have e3:=U.w 3 (.pointer (some ⟨w.heap.size+1,0,none⟩));have d:=R.below F;obtain⟨E,D,C,B⟩:=d.rv.c4;obtain⟨Q,P,O,N,M,J,I,H,G⟩:=row9 d.rg;have r:=d.rv.lt;have t:=d.rg.lt;clear d;go_simp;exact pF l (F)
    refine rN rfl (λ L a A m j f k U F K l=>?_) ?_
    ·have a2:=U.v 8 104;have d:=R.below F;obtain⟨E,D,C,B⟩:=d.rv.c4;obtain⟨Q,P,O,N,M,J,I,H,G⟩:=row9 d.rg;have r:=d.rv.lt;have t:=d.rg.lt;clear d;go_simp;exact pF l (F)
    refine rN rfl (λ L a A m j f k U F K l=>?_) ?_
    ·have a3:=U.v 7 103;have a1:=U.v 9 105;go_simp;exact pF l (F)
    refine rN rfl (λ L a A m j f k U F K l=>?_) ?_
    ·have a5:=U.v 5 101;have a0:=U.v 10 106;go_simp;exact pF l (F)
    refine rN rfl (λ L a A m j f k U F K l=>?_) ?_
    ·have aZ:=U.v 11 107;go_simp;exact pF l (F)
    refine rN rfl (λ L a A m j f k U F K l=>?_) ?_
    ·have e3:=U.w 3 (.pointer (some ⟨w.heap.size+1,0,none⟩));have d:=R.below F;obtain⟨E,D,C,B⟩:=d.rv.c4;obtain⟨Q,P,O,N,M,J,I,H,G⟩:=row9 d.rg;have r:=d.rv.lt;have t:=d.rg.lt;clear d;go_simp;exact pF l (F)
    refine rN rfl (λ L a A m j f k U F K l=>?_) ?_
    ·have aX:=U.v 13 109;have d:=R.below F;obtain⟨E,D,C,B⟩:=d.rv.c4;obtain⟨Q,P,O,N,M,J,I,H,G⟩:=row9 d.rg;have r:=d.rv.lt;have t:=d.rg.lt;clear d;go_simp;exact pF l (F)
    refine rN rfl (λ L a A m j f k U F K l=>?_) ?_
    ·have e2:=U.w 2 (.pointer (some ⟨w.heap.size,0,none⟩));have d:=R.below F;obtain⟨E,D,C,B⟩:=d.rv.c4;obtain⟨Q,P,O,N,M,J,I,H,G⟩:=row9 d.rg;have r:=d.rv.lt;have t:=d.rg.lt;clear d;go_simp;exact pF l (F)
    refine rN rfl (λ L a A m j f k U F K l=>?_) ?_
    ·have e3:=U.w 3 (.pointer (some ⟨w.heap.size+1,0,none⟩));have d:=R.below F;obtain⟨E,D,C,B⟩:=d.rv.c4;obtain⟨Q,P,O,N,M,J,I,H,G⟩:=row9 d.rg;have r:=d.rv.lt;have t:=d.rg.lt;clear d;go_simp;exact pF l (F)
    refine rN rfl (λ L a A m j f k U F K l=>?_) ?_
    ·have aU:=U.v 16 112;have d:=R.below F;obtain⟨E,D,C,B⟩:=d.rv.c4;obtain⟨Q,P,O,N,M,J,I,H,G⟩:=row9 d.rg;have r:=d.rv.lt;have t:=d.rg.lt;clear d;go_simp;exact pF l (F)
    refine rN rfl (λ L a A m j f k U F K l=>?_) ?_
    ·have aV:=U.v 15 111;have aT:=U.v 17 113;go_simp;refine(ah.out m (R.bel.trans (F.mono R.bel.size))).mono ?_;rintro e w6 ⟨rfl,ad⟩;exact pF l (F.trans (ad.mono F.size))
    refine rN rfl (λ L a A m j f k U F K l=>?_) ?_
    ·have aW:=U.v 14 110;have aS:=U.v 18 114;go_simp;exact pF l (F)
    refine rN rfl (λ L a A m j f k U F K l=>?_) ?_
    ·have aY:=U.v 12 108;have aR:=U.v 19 115;go_simp;exact pF l (F)
    refine rN rfl (λ L a A m j f k U F K l=>?_) ?_
    ·have aQ:=U.v 20 116;go_simp;exact pF l (F)
    exact RelFrom.nil (by decide)
   intro a m Y F;simp only [Fr,Act.put,sX,Nat.reduceAdd];go_wp2_with fail;have az:a 21=.bool true:=Y 21 (by decide) _ rfl;rw [az];go_ret;exact⟨rfl,(R.below F).bel⟩
structure Rows (w wr:World) (L:List (Nat × TypeId × List Value)):Prop where
 bel:Below w.heap.size w wr
 at_:∀ p ∈ L,RowB wr (w.heap.size+p.1) p.2.1 p.2.2
section
variable {w wr w':World} {L:List (Nat × TypeId × List Value)}
theorem Rows.below (k:Rows w wr L) (hb:Below wr.heap.size wr w'):Rows w w' L :=
 ⟨k.bel.trans (hb.mono k.bel.size),λ p hp=>(k.at_ p hp).below hb (k.at_ p hp).lt⟩
theorem Rows.nth (k:Rows w wr L) (i:Nat) {o:Nat} {t:TypeId} {cs:List Value} (h:L[i]?=some (o,t,cs)):RowB wr (w.heap.size+o) t cs:=k.at_ _ (List.mem_of_getElem? h)
theorem Rows.nth0 (k:Rows w wr L) (i:Nat) {t:TypeId} {cs:List Value} (h:L[i]?=some (0,t,cs)):RowB wr w.heap.size t cs:=k.at_ _ (List.mem_of_getElem? h)
theorem Rows.grown (k:Rows w wr L) (o:Nat) {t:TypeId} {new:List Value} (h:RowB w' (w.heap.size+o) t new) (hg:wr.grownBy w' (some (w.heap.size+o))):Rows w w' (L.map λ p=>if p.1=o then (o,t,new) else p):=by
 refine⟨⟨hg.os.trans k.bel.os,hg.tape.trans k.bel.tape,hg.output.trans k.bel.output,Nat.le_trans k.bel.size hg.size,λ i a=>(hg.block i (Nat.lt_of_lt_of_le a k.bel.size) (λ e=>by simp at e;omega)).trans (k.bel.block i a)⟩,λ p d=>?_⟩;obtain⟨q,c,rfl⟩:=List.mem_map.1 d;by_cases e:q.1=o
 ·rw [if_pos e];exact h
 ·rw [if_neg e];have r:=k.at_ q c;exact(hg.block _ r.lt (λ b=>by simp at b;exact e b)).trans r
theorem Rows.set1 (k:Rows w wr L) (o j:Nat) (v:Value):Rows w (wr.setCell ⟨w.heap.size+o,j,none⟩ v) (L.map λ p=>if p.1=o then (p.1,p.2.1,p.2.2.set j v) else p):=by
 have a:=Base.grownBy_setCell wr (w.heap.size+o) j v;refine⟨⟨a.os.trans k.bel.os,a.tape.trans k.bel.tape,a.output.trans k.bel.output,Nat.le_trans k.bel.size a.size,λ i b=>(a.block i (Nat.lt_of_lt_of_le b k.bel.size) (λ e=>by simp at e;omega)).trans (k.bel.block i b)⟩,λ p f=>?_⟩;obtain⟨q,d,rfl⟩:=List.mem_map.1 f;have r:=k.at_ q d;by_cases e:q.1=o
 ·rw [if_pos e];have:=r.set j v;rw [<-e];exact this
 ·rw [if_neg e];exact(a.block _ r.lt (λ c=>by simp at c;exact e c)).trans r
end
theorem BdR.grown {w w':World} {S:Nat->Prop} {u1 u2:Value} {b:Bd} {row:Option Nat} (h:BdR w S u1 u2 b) (hg:w.grownBy w' row) (hr:∀ g,row=some g->¬ S g):BdR w' S u1 u2 b:=h.keep (Still.grown hg hr)
theorem pair_s (a b:Int) (w:World):Calls Tryz.prog 49 #[.int .i64 a,.int .i64 b] w λ e w'=>e=.returned (.agg #[.int .i64 (max a b),.int .i64 (min a b)])∧Below w.heap.size w w':=by
 go_enter Tryz.func49,Tryz.ntmps49;go_wp2_with fail
 all_goals go_returns
 all_goals (refine⟨?_,by go_grown⟩;first | rfl | ((have c:a=b:=(by omega));subst c;simp) | (rw [show max a b=b by omega,show min a b=a by omega]) | (rw [show max a b=a by omega,show min a b=b by omega]))
theorem owng_s (v:Vr) (g:Gm) (hok:Ok v g.b) (S:Nat->Prop) (u1 u2:Value) (w:World) (hR:BdR w S u1 u2 g.b) :
  Calls Tryz.prog 138 #[.agg ⟨gmC u1 u2 g⟩] w λ e w'=>Ret RelGV g (λ _=>False) w e w':=by
 obtain⟨⟨X,V,rfl,r1,k1⟩,⟨W,T,rfl,r2,k2⟩⟩:=hR;have R:=kD (λ(i:World) (h9:Below w.heap.size w i)=>own02 X V i.heap.size g.b.1 i (Nat.le_refl _) (r1.keep (.below h9)).rd k1 (by have:=hok.own.len;have:=hok.v1.1;omega));have Q:=kD (λ(i:World) (h9:Below w.heap.size w i)=>own02 W T i.heap.size g.b.2 i (Nat.le_refl _) (r2.keep (.below h9)).rd k2 (by have:=hok.oth.len;have:=hok.v1.1;omega));obtain⟨H,s⟩:∃ n,g.b.1.length=n:=⟨_,rfl⟩;obtain⟨G,q⟩:∃ n,g.b.2.length=n:=⟨_,rfl⟩;rw [s] at R;rw [q] at Q;rw [s,q];have an:=kD s;have am:=kD q;clear r1 r2 hok s q;go_enter Tryz.func138,Tryz.ntmps138;go_upto_region 1 with fail;refine wp_gen (λ W'=>Rows w W' [(0,55,gmC (.slice X H V) (.slice W G T) g),(1,55,gM)]) ⟨by go_grown,λ p hp=>?_⟩ ?_
 ·simp only [List.mem_cons,List.not_mem_nil,or_false] at hp;rcases hp with rfl | rfl
  ·exact(RowB.new _ _ _).alloc _
  ·exact RowB.new' _ _ _ (by simp)
 intro w1 m;have E:=m.nth0 0 rfl;have ad:=E.lt;have ag:Hid (w.heap.size+2<=w1.heap.size):=(m.nth 1 rfl).lt;refine region_rel [some 3,some 4,some 5,some 6,some 7,some 8,some 9,some 10,some 11,some 12,none] 11 (Pl [some (.pointer (some ⟨w.heap.size,0,none⟩)),some (.pointer (some ⟨w.heap.size,0,none⟩)),some (.slice X H V),none,some (.pointer (some ⟨w.heap.size,0,none⟩)),some (.pointer (some ⟨w.heap.size,1,none⟩)),some (.slice W G T),none,none,some (.pointer (some ⟨w.heap.size,0,none⟩)),none]) (λ L c w'=>C2E RelI g.b.1 RelI g.b.2 w1 3 7 8 10 (λ a b=>.agg #[a,b]) w.heap.size 55 (gmC (.slice X H V) (.slice W G T) g) (λ x=>aggC x++(gmC (.slice X H V) (.slice W G T) g).drop 2) L c w') (by kernel_rfl) (by kernel_rfl) (by kernel_rfl) (by kernel_rfl) (by kernel_rfl) (by kernel_rfl) (by first | kernel_rfl | rfl) ?g0_1 ?gst_1 ?gfin_1
 case g0_1=>exact⟨⟨rfl,rfl,rfl,Nat.le_refl _,λ _ _ _=>rfl⟩,ad,λ h=>absurd h (by decide),λ h=>absurd h (by decide),λ h=>absurd h (by decide),λ _=>E,λ h=>absurd h (by decide)⟩
 case gst_1 =>
  refine rN rfl (λ L c A i d f j U F K l=>?_) ?_
  ·have e1:=U.w 1 (.pointer (some ⟨w.heap.size,0,none⟩));go_simp;exact pF l (F.skip 0 _)
  refine rN rfl (λ L c A i d f j U F K l=>?_) ?_
  ·have e3:=U.v 0 3;go_simp;exact pF l (F.skip 1 _)
  refine rN rfl (λ L c A i d f j U F K l=>?_) ?_
  ·have e4:=U.v 1 4;have r:=F.row (λ h=>d (j 10 2 (by kernel_rfl) h));have o:=row9 r;have g0:=o.1;have g1:=o.2.1;have ai:=r.lt;clear o;go_simp;exact pF l (F.skip 2 _)
  refine rN rfl (λ L c A i d f j U F K l=>?_) ?_
  ·have e5:=U.v 2 5;go_simp;refine(R.out i ⟨F.bel.os.trans m.bel.os,F.bel.tape.trans m.bel.tape,F.bel.output.trans m.bel.output,Nat.le_trans m.bel.size F.bel.size,λ k hk=>(F.bel.block k (Nat.lt_of_lt_of_le hk m.bel.size) (λ e=>by simp at e;omega)).trans (m.bel.block k hk)⟩).mono ?_;rintro e w6 ⟨⟨v6,rfl,I⟩,M⟩;exact l.out v6 w6 (Pl.any rfl) (F.call1 d (by decide) M (OwnV.sl enI_len (OwnV.of I (Nat.le_refl _) (λ b hb _=>hb))))
  refine rN rfl (λ L c A i d f j U F K l=>?_) ?_
  ·have e1:=U.w 1 (.pointer (some ⟨w.heap.size,0,none⟩));go_simp;exact pF l (F.skip 4 _)
  refine rN rfl (λ L c A i d f j U F K l=>?_) ?_
  ·have e7:=U.v 4 7;go_simp;exact pF l (F.skip 5 _)
  refine rN rfl (λ L c A i d f j U F K l=>?_) ?_
  ·have e8:=U.v 5 8;have r:=F.row (λ h=>d (j 10 6 (by kernel_rfl) h));have o:=row9 r;have g0:=o.1;have g1:=o.2.1;have ai:=r.lt;clear o;go_simp;exact pF l (F.skip 6 _)
  refine rN rfl (λ L c A i d f j U F K l=>?_) ?_
  ·have e9:=U.v 6 9;go_simp;refine(Q.out i ⟨F.bel.os.trans m.bel.os,F.bel.tape.trans m.bel.tape,F.bel.output.trans m.bel.output,Nat.le_trans m.bel.size F.bel.size,λ k hk=>(F.bel.block k (Nat.lt_of_lt_of_le hk m.bel.size) (λ e=>by simp at e;omega)).trans (m.bel.block k hk)⟩).mono ?_;rintro e w6 ⟨⟨v6,rfl,I⟩,M⟩;exact l.out v6 w6 (Pl.any rfl) (F.call2 d (by decide) M (OwnV.sl enI_len (OwnV.of I (Nat.le_refl _) (λ b hb _=>hb))))
  refine rN rfl (λ L c A i d f j U F K l=>?_) ?_
  ·have e6:=U.x 3 6;have af:=U.x 7 10;refine(F.f1 (bK f 3)).elim λ B D=>?_
   refine D.elim λ y D=>?_
   refine(F.f2 (bK f 7)).elim λ z C=>?_
   refine C.elim λ t C=>?_
   have ap:=e6.trans D.1;have ao:=af.trans C.1;clear e6 af;go_simp;exact l.out _ i (Pl.any rfl) (F.built d (by decide) (bK f 3) (bK f 7) (by rw [D.1,C.1]))
  refine rN rfl (λ L c A i d f j U F K l=>?_) ?_
  ·have e1:=U.w 1 (.pointer (some ⟨w.heap.size,0,none⟩));go_simp;exact pF l (F.skip 9 _)
  refine rN rfl (λ L c A i d f j U F K l=>?_) ?_
  ·have ak:=U.v 9 12;have al:=U.x 8 11;have fb:=F.fb (bK f 8);refine(F.f1 fb.1).elim λ B D=>?_
   refine D.elim λ y D=>?_
   refine(F.f2 fb.2.1).elim λ z C=>?_
   refine C.elim λ t C=>?_
   have N:=fb.2.2;rw [D.1,C.1] at N;refine wp_sm 51 _ _ rfl w.heap.size 0 [.slice B g.b.1.length y,.slice z g.b.2.length t] (gmC (.slice X H V) (.slice W G T) g) (ev ak) (ev (al.trans N)) 55 (F.row d) (by kernel_rfl) (show 2<=9 by decide) rfl ?_;exact l.out undef _ (Pl.any rfl) (F.wrote (by decide) d (bK f 8) 0 (by rw [N];rfl))
  exact RelFrom.nil (by decide)
 intro c i hp F;simp only [Fr,Act.put,sX,Nat.reduceAdd];obtain⟨-,r⟩:=F.fw trivial;obtain⟨-,-,ac⟩:=F.fb (F.fw trivial).1;obtain⟨B,y,e3,Z,ab⟩:=F.f1 trivial;obtain⟨z,t,e4,Y,aa⟩:=F.f2 trivial;rw [ac,e3,e4] at r;have ae:=F.bel;have J:BdR i (λ b=>w.heap.size+2<=b) (.slice B g.b.1.length y) (.slice z g.b.2.length t) g.b:=⟨⟨B,y,rfl,Z.weak (λ b h _=>by have:=ag.out;omega),ab⟩,⟨z,t,rfl,Y.weak (λ b h _=>by have:=ag.out;omega),aa⟩⟩;have r:RowB i (w.heap.size+0) 55 (gmC (.slice B g.b.1.length y) (.slice z g.b.2.length t) g):=r;have K:Rows w i [(0,55,gmC (.slice B g.b.1.length y) (.slice z g.b.2.length t) g),(1,55,gM)]:=m.grown 0 r ae;rw [an.out,am.out] at K J;have P:=kD J;clear F hp ac e3 e4 Z Y ab aa ae J r R Q m E ad;have rg:=K.nth0 0 rfl;obtain⟨g0,g1,g2,g3,g4,g5,g6,g7,g8⟩:=row9 rg;have aj:=rg.lt;have o:=K.nth 1 rfl;go_wp2_with (refine wM 55 0 (gmC (.slice B H y) (.slice z G t) g) o ?_;intro w7 s7 O z7);have K:=K.grown 1 s7 O;have P:=kD (P.out.grown O (λ g hg hs=>by simp at hg;omega));obtain⟨z0,z1,z2,z3,z4,z5,z6,ah,z8⟩:=row9 s7;clear O g0 g1 g2 g3 g4 g5 g6 g7 g8 aj rg o;go_wp2_with fail;refine bodyPost_ret (v:=.agg ⟨gmC (.slice B H y) (.slice z G t) g⟩) (by simp [results,Tryz.results138,go_sem,gmC,z0,z1,z2,z3,z4,z5,z6,ah,z8]) rfl ?_;exact⟨_,rfl,⟨_,_,rfl,P.out.weak (λ b hb _=>.inr (by omega))⟩,K.bel⟩
theorem Rows.far {w wr w':World} {L:List (Nat × TypeId × List Value)} (k:Rows w wr L) {gx:Nat} (hg:wr.grownBy w' (some gx)) (h0:w.heap.size<=gx) (h:∀ p ∈ L,w.heap.size+p.1≠gx):Rows w w' L :=
 ⟨⟨hg.os.trans k.bel.os,hg.tape.trans k.bel.tape,hg.output.trans k.bel.output,Nat.le_trans k.bel.size hg.size,λ i hi=>(hg.block i (Nat.lt_of_lt_of_le hi k.bel.size) (λ e=>by simp at e;omega)).trans (k.bel.block i hi)⟩,λ p hp=>(hg.block _ (k.at_ p hp).lt (λ e=>by simp at e;exact h p hp e)).trans (k.at_ p hp)⟩
structure Gx (w wr:World) (L:List (Nat × TypeId × List Value)) (gx:Nat) (cs:List Value) (u3 u4:Value) (bd:Bd) (m:Nat):Prop where
 k:Rows w wr L
 rx:RowB wr gx 55 cs
 sd:BdR wr (λ b=>w.heap.size+m<=b∧b≠gx) u3 u4 bd
section
variable {w wr w':World} {L:List (Nat × TypeId × List Value)} {gx m:Nat} {cs:List Value} {u3 u4:Value} {bd:Bd}
theorem Gx.below (h:Gx w wr L gx cs u3 u4 bd m) (hb:Below wr.heap.size wr w'):Gx w w' L gx cs u3 u4 bd m:=⟨h.k.below hb,h.rx.below hb h.rx.lt,h.sd.below hb⟩
theorem Gx.set1 (h:Gx w wr L gx cs u3 u4 bd m) (hx:w.heap.size+m<=gx) (hL:(L.all λ p=>decide (p.1<m))=true) (j:Nat) (v:Value):Gx w (wr.setCell ⟨gx,j,none⟩ v) L gx (cs.set j v) u3 u4 bd m :=
 ⟨h.k.far (Base.grownBy_setCell _ _ _ _) (by omega) (λ p hp=>by have:=of_decide_eq_true (List.all_eq_true.1 hL p hp);omega),h.rx.set j v,h.sd.grown (Base.grownBy_setCell _ _ _ _) (λ g hg hs=>by simp at hg;omega)⟩
theorem Gx.sides (h:Gx w wr L gx cs u3 u4 bd m) {v3 v4:Value} {b2:Bd} (hs:BdR wr (λ b=>w.heap.size+m<=b∧b≠gx) v3 v4 b2):Gx w wr L gx cs v3 v4 b2 m:=⟨h.k,h.rx,hs⟩
end
theorem side_new {w w':World} {l m:List Int} {A1 A2:Option Addr} {c1 c2:Nat} {S:Nat->Prop} (o1:OwnS w' w.heap.size w'.heap.size 2 1 enI (.slice A1 l.length c1) l) (o2:OwnS w' w.heap.size w'.heap.size 2 1 enI (.slice A2 m.length c2) m) (hS:∀ b,w.heap.size<=b->S b):BdR w' S (.slice A1 l.length c1) (.slice A2 m.length c2) (l,m) :=
 ⟨(relV 1 enI).weak (OwnV.sl enI_len (OwnV.of o1 (Nat.le_refl _) (S:=λ b=>w.heap.size<=b) (λ b hb _=>hb))) (λ b hb _=>hS b hb),(relV 1 enI).weak (OwnV.sl enI_len (OwnV.of o2 (Nat.le_refl _) (S:=λ b=>w.heap.size<=b) (λ b hb _=>hb))) (λ b hb _=>hS b hb)⟩
theorem open_s (v:Vr) (g:Gm) (hok:Ok v g.b) (S:Nat->Prop) (u1 u2:Value) (a b:Int) (w:World) (hR:BdR w S u1 u2 g.b) :
  Calls Tryz.prog 137 #[.agg ⟨gmC u1 u2 g⟩,.int .i64 a,.int .i64 b] w λ e w'=>Ret RelGV (openG g a b) (λ _=>False) w e w':=by
 have HR:=kD hR;have CO:=kD (λ(P:World) (h9:Below w.heap.size w P)=>owng_s v g hok S u1 u2 P (HR.out.keep (.below h9)));have CP:=kD (λ(P:World)=>pair_s a b P);obtain⟨⟨A1,c1,rfl,r1,k1⟩,⟨A2,c2,rfl,r2,k2⟩⟩:=hR;have CS:=kD (λ(P:World) (h9:Below w.heap.size w P)=>swap_s g.b.1 g.b.2 A1 A2 c1 c2 P.heap.size P (Nat.le_refl _) (r1.keep (.below h9)).rd (r2.keep (.below h9)).rd k1 k2 (by have:=hok.own.len;have:=hok.v1.1;omega) (by have:=hok.oth.len;have:=hok.v1.1;omega));obtain⟨i,R⟩:∃ n,g.b.1.length=n:=⟨_,rfl⟩;obtain⟨f,Q⟩:∃ n,g.b.2.length=n:=⟨_,rfl⟩;rw [R,Q] at CO CS;rw [R,Q];have W:=kD R;have V:=kD Q;obtain⟨x,hx⟩:∃ x,max a b=x:=⟨_,rfl⟩;obtain⟨y,hy⟩:∃ x,min a b=x:=⟨_,rfl⟩;rw [hx,hy] at CP;obtain⟨G,hG⟩:∃ q,openG g a b=q:=⟨_,rfl⟩;have ac:G=if a=b then g else { g with b:=if a<b then swp g.b else g.b,pl:=if a<b then 1 else g.pl,ph:=2,x:=x,y:=y }:=by rw [<-hG,<-hx,<-hy];rfl
 rw [hG];have HG:=kD ac;clear hG ac hx hy r1 r2 k1 k2 hok R Q;go_enter Tryz.func137,Tryz.ntmps137;go_upto_region 1 with fail;refine wp_gen (λ O=>Rows w O [(0,55,gmC (.slice A1 i c1) (.slice A2 f c2) g),(1,55,gM)]) ⟨by go_grown,λ p hp=>?_⟩ ?_
 ·simp only [List.mem_cons,List.not_mem_nil,or_false] at hp;rcases hp with rfl | rfl
  ·exact(RowB.new _ _ _).alloc _
  ·exact RowB.new' _ _ _ (by simp)
 intro w1 K;have Z:=K.nth0 0 rfl;obtain⟨g0,g1,g2,g3,g4,g5,g6,g7,g8⟩:=row9 Z;have aa:=Z.lt;have ah:w.heap.size+2<=w1.heap.size:=(K.nth 1 rfl).lt;go_wp2_with fail;refine(CO.out _ K.bel).mono ?_;rintro e w2 ⟨v6,rfl,⟨u3,u4,rfl,T⟩,m⟩;have K:=K.below m;have ag:=m.size;have T:BdR w2 (λ b=>w.heap.size+2<=b) u3 u4 g.b:=T.weak (λ b m _=>m.elim False.elim (λ h=>by omega));have j:=kD T;clear g0 g1 g2 g3 g4 g5 g6 g7 g8 aa Z m T CO;obtain⟨⟨J,H,rfl,-,-⟩,⟨I,F,rfl,-,-⟩⟩:=id j.out;rw [W.out,V.out] at j;rw [W.out,V.out];simp only [gmC];go_upto_region 2 with fail;refine wp_gen (λ O=>Gx w O [(0,55,gmC (.slice A1 i c1) (.slice A2 f c2) g),(1,55,gM)] w2.heap.size (gmC (.slice J i H) (.slice I f F) g) (.slice J i H) (.slice I f F) g.b 2) ⟨K.below ((Below.refl _ _).alloc (Nat.le_refl _) _),RowB.new _ _ _,(j.out.weak (λ b h1 h2=>⟨h1,by omega⟩)).below ((Below.refl _ _).alloc (Nat.le_refl _) _)⟩ ?_;clear K j;intro w3 K;obtain⟨gx,ab⟩:∃ q,w2.heap.size=q:=⟨_,rfl⟩;rw [ab] at K ⊢;have l:w.heap.size+2<=gx:=by omega
 clear ab;by_cases hab:a=b
 ·have N:G=g:=by rw [HG.out,if_pos hab]
  subst N;have af:(a == b)=true:=by simpa using hab
  clear hab HG;obtain⟨E,D,C,B,A,z,t,s,r⟩:=row9 K.rx;have c:=K.rx.lt;have Y:=K.k.nth 1 rfl;go_wp2_with (refine wM 55 0 (gmC (.slice J i H) (.slice I f F) G) Y ?_;intro w7 X d z7);have j:=kD (K.sd.grown d (λ g hg hs=>by simp at hg;omega));have M:=(K.k.grown 1 X d).bel;obtain⟨z0,z1,z2,z3,z4,z5,z6,L,z8⟩:=row9 X;clear d E D C B A z t s r c Y K;go_wp2_with fail;refine bodyPost_ret (v:=.agg ⟨gmC (.slice J i H) (.slice I f F) G⟩) (by simp [results,Tryz.results137,go_sem,gmC,z0,z1,z2,z3,z4,z5,z6,L,z8]) rfl ?_;exact⟨_,rfl,⟨_,_,rfl,j.out.weak (λ b m _=>.inr (by omega))⟩,M⟩
 have af:(a == b)=false:=by simpa using hab
 rw [if_neg hab] at HG;have o:=K.rx.frozen;have c:=K.rx.lt;obtain⟨E,D,C,B,A,z,t,s,r⟩:=row9 K.rx;clear hab;go_upto_region 5 with fail;refine wp_gen (λ O=>Gx w O [(0,55,gmC (.slice A1 i c1) (.slice A2 f c2) g),(1,55,gM)] gx (gmC (.slice J i H) (.slice I f F) { g with ph:=2 }) (.slice J i H) (.slice I f F) g.b 2) (K.set1 l rfl 5 _) ?_;clear K o c E D C B A z t s r;intro w4 K;go_wp2_with fail;refine(CP.out _).mono ?_;rintro e w5 ⟨rfl,m⟩;have K:=K.below m;have o:=K.rx.frozen;have c:=K.rx.lt;obtain⟨E,D,C,B,A,z,t,s,r⟩:=row9 K.rx;clear m CP;go_upto_region 6 with fail;refine wp_gen (λ O=>Gx w O [(0,55,gmC (.slice A1 i c1) (.slice A2 f c2) g),(1,55,gM)] gx (gmC (.slice J i H) (.slice I f F) { g with ph:=2,x:=x,y:=y }) (.slice J i H) (.slice I f F) g.b 2) ((K.set1 l rfl 3 _).set1 l rfl 4 _) ?_;clear K o c E D C B A z t s r;intro w6 K;by_cases hlt:a<b
 rotate_left
 ·have ae:decide (a<b)=false:=decide_eq_false hlt;have N:G={ g with ph:=2,x:=x,y:=y }:=by rw [HG.out];simp only [if_neg hlt]
  subst N;clear HG hlt;obtain⟨E,D,C,B,A,z,t,s,r⟩:=row9 K.rx;have c:=K.rx.lt;have Y:=K.k.nth 1 rfl;go_wp2_with (refine wM 55 0 (gmC (.slice J i H) (.slice I f F) { g with ph:=2,x:=x,y:=y }) Y ?_;intro w7 X d z7);have j:=kD (K.sd.grown d (λ g hg hs=>by simp at hg;omega));have M:=(K.k.grown 1 X d).bel;obtain⟨z0,z1,z2,z3,z4,z5,z6,L,z8⟩:=row9 X;clear d E D C B A z t s r c Y K;go_wp2_with fail;refine bodyPost_ret (v:=.agg ⟨gmC (.slice J i H) (.slice I f F) { g with ph:=2,x:=x,y:=y }⟩) (by simp [results,Tryz.results137,go_sem,gmC,z0,z1,z2,z3,z4,z5,z6,L,z8]) rfl ?_;exact⟨_,rfl,⟨_,_,rfl,j.out.weak (λ b m _=>.inr (by omega))⟩,M⟩
 have ae:decide (a<b)=true:=decide_eq_true hlt;have N:G={ g with b:=swp g.b,pl:=1,ph:=2,x:=x,y:=y }:=by rw [HG.out];simp only [if_pos hlt]
 subst N;have o:=K.rx.frozen;have c:=K.rx.lt;obtain⟨E,D,C,B,A,z,t,s,r⟩:=row9 K.rx;clear HG hlt;go_upto_region 8 with fail;refine wp_gen (λ O=>Gx w O [(0,55,gmC (.slice A1 i c1) (.slice A2 f c2) g),(1,55,gM)] gx (gmC (.slice J i H) (.slice I f F) { g with pl:=1,ph:=2,x:=x,y:=y }) (.slice J i H) (.slice I f F) g.b 2) (K.set1 l rfl 2 _) ?_;clear K o c E D C B A z t s r;intro ad K;have Z:=K.k.nth0 0 rfl;obtain⟨g0,g1,g2,g3,g4,g5,g6,g7,g8⟩:=row9 Z;have aa:=Z.lt;go_wp2_with fail;refine(CS.out _ K.k.bel).mono ?_;rintro e w8 ⟨A5,c5,A6,c6,rfl,o5,o6,-,m⟩;have ai:gx<ad.heap.size:=K.rx.lt;have K:=K.below m;have K:=K.sides (side_new (S:=λ b=>w.heap.size+2<=b∧b≠gx) o5 o6 (λ b m=>⟨by omega,by omega⟩));have o:=K.rx.frozen;have c:=K.rx.lt;obtain⟨E,D,C,B,A,z,t,s,r⟩:=row9 K.rx;clear m o5 o6 CS g0 g1 g2 g3 g4 g5 g6 g7 g8 aa Z;rw [W.out,V.out] at K;rw [W.out,V.out];go_upto_region 9 with fail;refine wp_gen (λ O=>Gx w O [(0,55,gmC (.slice A1 i c1) (.slice A2 f c2) g),(1,55,gM)] gx (gmC (.slice A5 f c5) (.slice A6 i c6) { g with b:=swp g.b,pl:=1,ph:=2,x:=x,y:=y }) (.slice A5 f c5) (.slice A6 i c6) (swp g.b) 2) ((K.set1 l rfl 0 _).set1 l rfl 1 _) ?_;clear K o c E D C B A z t s r;intro P K;obtain⟨E,D,C,B,A,z,t,s,r⟩:=row9 K.rx;have c:=K.rx.lt;have Y:=K.k.nth 1 rfl;go_wp2_with (refine wM 55 0 (gmC (.slice A5 f c5) (.slice A6 i c6) { g with b:=swp g.b,pl:=1,ph:=2,x:=x,y:=y }) Y ?_;intro w7 X d z7);have j:=kD (K.sd.grown d (λ g hg hs=>by simp at hg;omega));have M:=(K.k.grown 1 X d).bel;obtain⟨z0,z1,z2,z3,z4,z5,z6,L,z8⟩:=row9 X;clear d E D C B A z t s r c Y K;go_wp2_with fail;refine bodyPost_ret (v:=.agg ⟨gmC (.slice A5 f c5) (.slice A6 i c6) { g with b:=swp g.b,pl:=1,ph:=2,x:=x,y:=y }⟩) (by simp [results,Tryz.results137,go_sem,gmC,z0,z1,z2,z3,z4,z5,z6,L,z8]) rfl ?_;exact⟨_,rfl,⟨_,_,rfl,j.out.weak (λ b m _=>.inr (by omega))⟩,M⟩
end Gm
end Go.Proofs.YtjdefiinmicjiaaGreatDoor
