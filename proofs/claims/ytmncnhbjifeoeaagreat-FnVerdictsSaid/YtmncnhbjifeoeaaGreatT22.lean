/- Parts of the proof of FnVerdicts. Conditions: each theorem's own. -/
import Derived.Test.YtmncnhbjifeoeaaGreatT21
set_option linter.unusedVariables false
set_option linter.unusedSimpArgs false
set_option maxHeartbeats 8000000
set_option maxRecDepth 100000
namespace Go.Proofs.YtmncnhbjifeoeaaGreat
namespace Gm
open Go Go.ChangeShapes Go.WideShapes Go.ChangeAt Go.RowKit Base Ints Own Clone RelG PlP Bd1 Bd2 Bd5 Bd6 Bd7 Bd8 RegInv RegF RegG
theorem newg_i (v:Vr) (hv:okV v=true) (h4:4<=v.p) (w:World):Calls Tryz.prog 141 #[.agg #[.int .i64 v.p,.int .i64 v.c,.int .i64 v.h,.int .i64 v.s]] w λ e w'=>Ret RelGI (some (newG v)) (λ _=>False) w e w':=by
 have CV:=kD (λ E=>var_i v true hv E);have CS:=kD (λ E=>start_i v hv h4 E);clear hv h4;go_enter Tryz.func141,Tryz.ntmps141;go_upto_region 1 with fail;refine wp_gen (λ l=>Below w.heap.size w l∧RowB l w.heap.size 25 (vL v)∧RowB l (w.heap.size+1) 57 gM) ⟨by go_grown,(RowB.new _ _ _).alloc _,RowB.new' _ _ _ (by simp)⟩ ?_;rintro w1 ⟨a,z,f⟩;obtain⟨J,I,H,G⟩:=z.c4;go_wp2_with fail;refine(CV.out _).mono ?_;rintro e w2 ⟨rfl,k⟩;have a:=a.trans (k.mono a.size);have z:=z.below k z.lt;have f:=f.below k f.lt;clear J I H G k;obtain⟨J,I,H,G⟩:=z.c4;go_wp2_with fail;refine(CS.out _).mono ?_;rintro e O ⟨v6,rfl,⟨u3,u4,b3,rfl,j,i⟩,q⟩;obtain rfl:=i _ rfl;have aa:w.heap.size+2<=w2.heap.size:=f.lt;have a:=a.trans (q.mono a.size);have f:=f.below q f.lt;obtain⟨⟨y,t,rfl,Q,k5⟩,⟨x,r,rfl,P,k6⟩⟩:=j;have j:BdR O (λ b=>w.heap.size+2<=b) (.slice y (startB v).1.length t) (.slice x (startB v).2.length r) (startB v):=⟨⟨y,t,rfl,Q.weak (λ b C _=>C.elim False.elim (λ h=>by omega)),k5⟩,⟨x,r,rfl,P.weak (λ b C _=>C.elim False.elim (λ h=>by omega)),k6⟩⟩;have d:=kD j;obtain⟨B,o⟩:∃ n,(startB v).1.length=n:=⟨_,rfl⟩;obtain⟨A,m⟩:∃ n,(startB v).2.length=n:=⟨_,rfl⟩;rw [o,m] at d;rw [o,m];clear J I H G z j Q P o m q i;go_upto_region 4 with fail;refine wp_gen (λ l=>Below w.heap.size w l∧RowB l (w.heap.size+1) 57 gM∧RowB l O.heap.size 28 [.slice y B t,.slice x A r]∧Hid (BdR l (λ b=>w.heap.size+2<=b) (.slice y B t) (.slice x A r) (startB v))) ⟨a.alloc a.size _,f.alloc _,RowB.new _ _ _,kD (d.out.keep (.below ((Below.refl _ _).alloc (Nat.le_refl _) _)))⟩ ?_;clear a f d;rintro w4 ⟨a,f,F,d⟩;obtain⟨x0,x1⟩:=F.c2;have K:=F.lt;go_wp2_with (refine wpL_sm 57 _ _ rfl (w.heap.size+1) 0 (gmC (.slice y B t) (.slice x A r) (newG v)) (gmC (.slice none 0 0) (.slice none 0 0) nulG) (gmC (.slice y B t) (.slice x A r) (newG v)) rfl rfl 57 f (by kernel_rfl) (Nat.le_refl _) rfl rfl ?_;intro w7 s7 N z7);have M:Below w.heap.size w w7:=a.grown N a.size (λ g L=>by simp at L;omega);have d:=kD (d.out.keep (Still.grown N (λ g L hs=>by simp at L;omega)));obtain⟨Z,Y,X,W,V,T,S,D,R⟩:=row9 s7;clear a f F x0 x1 K N;go_wp2_with fail;refine bodyPost_ret (v:=.tuple #[.agg ⟨gmC (.slice y B t) (.slice x A r) (newG v)⟩,.int .i64 0]) (by simp [results,Tryz.results141,go_sem,gmC,newG,Z,Y,X,W,V,T,S,D,R]) rfl ?_;exact⟨_,rfl,⟨_,_,_,0,rfl,d.out.weak (λ b C _=>.inr (by omega)),(λ g0 h=>⟨by simpa using h,rfl⟩),(λ h=>by cases h)⟩,M⟩
theorem gm_zero {v:Vr} {g:Gm} (h:gmB v g=true) (h0:g.ph=0):g=newG v:=by
 obtain⟨b,n,x,y,o,k,m,l⟩:=g;simp only at h0;subst h0;unfold gmB at h;simp at h;obtain⟨⟨-,c,a⟩,j,i,f,e,d⟩:=h;subst j i f e d c a
 rfl
theorem gm_rest {v:Vr} {g:Gm} (h:gmB v g=true):(g.ph=2->rollB v g.x g.y=true)∧(¬ g.ph=2->g.x=0∧g.y=0)∧(g.ph=0∨g.ph=1∨g.ph=2∨g.ph=3)∧(g.ph=3->(over g.b=true->g.b.1.sum=0∧g.wn=g.pl∧g.rs=resP v g.b)∧(over g.b=false->g.wn=1 - g.pl∧1<=g.rs∧g.rs<=3)):=by
 unfold gmB at h;simp only [Bool.and_eq_true,decide_eq_true_eq] at h;obtain⟨⟨⟨⟨⟨n,m⟩,l⟩,k⟩,i⟩,e⟩:=h;refine⟨λ f=>by rw [if_pos f] at i;exact i,λ f=>by rw [if_neg f] at i;exact of_decide_eq_true i,?_,λ f=>?_⟩
 ·by_cases a:g.ph=0
  ·exact .inl a
  ·rw [if_neg a] at e;by_cases c:g.ph=1∨g.ph=2
   ·rcases c with c | c
    ·exact .inr (.inl c)
    ·exact .inr (.inr (.inl c))
   ·rw [if_neg c] at e;by_cases d:g.ph=3
    ·exact .inr (.inr (.inr d))
    ·rw [if_neg d] at e;cases e
 ·rw [if_neg (by omega),if_neg (by omega),if_pos f] at e;refine⟨λ j=>by rw [if_pos j] at e;exact of_decide_eq_true e,λ j=>?_⟩;rw [if_neg (by rw [j];decide)] at e;exact of_decide_eq_true e
structure Gb (w wr:World) (v:Vr) (u1 u2:Value) (g:Gm):Prop where
 bel:Below w.heap.size w wr
 rv:RowB wr w.heap.size 25 (vL v)
 rg:RowB wr (w.heap.size+1) 57 [u1,u2,.int .i64 g.pl,.int .i64 g.x,.int .i64 g.y,.int .i64 g.ph,.int .i64 g.wn,.int .i64 g.rs,.int .i64 g.tn]
theorem Gb.below {w wr w':World} {v:Vr} {u1 u2:Value} {g:Gm} (k:Gb w wr v u1 u2 g) (hb:Below wr.heap.size wr w'):Gb w w' v u1 u2 g :=
 ⟨k.bel.trans (hb.mono k.bel.size),k.rv.below hb k.rv.lt,k.rg.below hb k.rg.lt⟩
structure NwF (w1:World) (v:Vr) (p22 p23:Prop) (v22 v23:Value) (w':World):Prop where
 bel:Below w1.heap.size w1 w'
 f22:p22->RelGV.R w' All v22 (newG v)
 f23:p23->RelBV.R w' All v23 (startB v)
section
variable {w1 w' w'':World} {v:Vr} {p22 p23:Prop} {v22 v23:Value}
theorem NwF.below (F:NwF w1 v p22 p23 v22 v23 w') (hb:Below w'.heap.size w' w''):NwF w1 v p22 p23 v22 v23 w'' :=
 ⟨F.bel.trans (hb.mono F.bel.size),λ h=>RelGV.keep (F.f22 h) (.below hb),λ h=>RelBV.keep (F.f23 h) (.below hb)⟩
theorem NwF.skip {L:Nat->Prop} {vals:Nat->Value} (F:NwF w1 v (L 22) (L 23) (vals 22) (vals 23) w') (k:Nat) (z:Value) (h1:22≠k:=by decide) (h2:23≠k:=by decide):NwF w1 v (22=k∨L 22) (23=k∨L 23) (upd vals k z 22) (upd vals k z 23) w':=by
 rw [or_ne h1,or_ne h2,upd_ne h1,upd_ne h2];exact F
theorem NwF.s22 (F:NwF w1 v p22 p23 v22 v23 w') (hb:Below w'.heap.size w' w'') {z:Value} (h:RelGV.R w'' All z (newG v)):NwF w1 v True p23 z v23 w'' :=
 ⟨F.bel.trans (hb.mono F.bel.size),λ _=>h,λ h=>RelBV.keep (F.f23 h) (.below hb)⟩
theorem NwF.s23 (F:NwF w1 v p22 p23 v22 v23 w') {z:Value} (h:RelBV.R w' All z (startB v)):NwF w1 v p22 True v22 z w' :=
 ⟨F.bel,F.f22,λ _=>h⟩
end
theorem isg_s (v:Vr) (g:Gm) (hg:gmB v g=true) (S:Nat->Prop) (u1 u2:Value) (w:World) (hR:BdR w S u1 u2 g.b) :
  Calls Tryz.prog 159 #[.agg #[.int .i64 v.p,.int .i64 v.c,.int .i64 v.h,.int .i64 v.s],.agg ⟨gmC u1 u2 g⟩] w λ e w'=>e=.returned (.bool true)∧Below w.heap.size w w':=by
 have Y:=gm_parts hg;have hq:=gm_rest hg;have T:=Y.1;have af:okV v=true:=okV_iff.2 T.v1;have aN:=kD (gm_zero hg);have aG:=kD hR;obtain⟨⟨A1,c1,rfl,r1,k1⟩,⟨A2,c2,rfl,r2,k2⟩⟩:=hR;obtain⟨o,ho⟩:∃ o,over g.b=o:=⟨_,rfl⟩;have CV:=kD (λ m=>var_s v true af m);have CB:=kD (λ(m:World) (Z:Below w.heap.size w m)=>Bd3.isB_s v g.b A1 A2 c1 c2 m.heap.size m (Nat.le_refl _) (r1.keep (.below Z)).rd (r2.keep (.below Z)).rd true (okB_iff.2 T));have CP:=kD (λ m=>in_s g.pl 0 1 true (decide_eq_true Y.2.2.1) m);have CT:=kD (λ m=>in_s g.tn 0 2000 true (decide_eq_true Y.2.2.2.1) m);have ai:=kD (λ(m:World) (Z:Below w.heap.size w m)=>over_s v g.b T A1 A2 c1 c2 m.heap.size m (Nat.le_refl _) (r1.keep (.below Z)).rd (r2.keep (.below Z)).rd o ho);have ar:=kD (λ(hr:rollB v g.x g.y=true) m=>TsI.isroll_ws v af g.x g.y true hr m);have aP:=kD (λ m=>new_s v af Y.2.1 m);have aq:=kD (λ(m:World) (Z:Below w.heap.size w m)=>sum_s A1 c1 m.heap.size g.b.1 m (r1.keep (.below Z)).rd (λ i=>⟨T.own.nn i,by have:=T.own.top i;have:=T.v1;omega⟩) (by have:=T.own.len;have:=T.v1;omega));have ah:=kD (λ(z:Int) (hz:resP v g.b=z) (m:World) (Z:Below w.heap.size w m)=>res_s v g.b T S _ _ z hz m (aG.out.keep (.below Z)));have av:=kD (λ(h:1<=g.rs∧g.rs<=3) m=>in_s g.rs 1 3 true (decide_eq_true h) m);obtain⟨n1,ab⟩:∃ n,g.b.1.length=n:=⟨_,rfl⟩;obtain⟨n2,ag⟩:∃ n,g.b.2.length=n:=⟨_,rfl⟩;rw [ab] at aq;rw [ab,ag] at CB ai ah aG;rw [ab,ag];have a8:decide (v.p<4)=false:=decide_eq_false (by have:=Y.2.1;omega);have HQ:=kD hq;have aM:Hid (0<n1∧n1<=1000):=by have:=T.own.len;have:=T.v1;exact⟨by omega,by omega⟩
 have R1:=kD r1;have R2:=kD r2;have HP:=kD Y.2.2.2.2.2;have aL:=kD Y.2.2.1;have HO:=kD ho;have ap:=kD ab;have ao:=kD ag;clear hq Y T af hg ho r1 r2 k1 k2 ab ag;go_enter Tryz.func159,Tryz.ntmps159;go_upto_region 1 with fail;refine wp_gen (λ W'=>Gb w W' v (.slice A1 n1 c1) (.slice A2 n2 c2) g) ⟨by go_grown,(RowB.new _ _ _).alloc _,RowB.new' _ _ _ (by simp)⟩ ?_;intro w1 K;obtain⟨E,D,C,B⟩:=K.rv.c4;obtain⟨Q,P,O,N,M,J,I,H,G⟩:=row9 K.rg;have r:=K.rv.lt;have t:=K.rg.lt;go_wp2_with fail;refine(CV.out _).mono ?_;rintro e w2 ⟨rfl,X⟩;have K:=K.below X;clear E D C B Q P O N M J I H G r t;clear X;obtain⟨E,D,C,B⟩:=K.rv.c4;obtain⟨Q,P,O,N,M,J,I,H,G⟩:=row9 K.rg;have r:=K.rv.lt;have t:=K.rg.lt;go_wp2_with fail;refine(CB.out _ K.bel).mono ?_;rintro e w2 ⟨rfl,X⟩;have K:=K.below X;clear E D C B Q P O N M J I H G r t;clear X;obtain⟨E,D,C,B⟩:=K.rv.c4;obtain⟨Q,P,O,N,M,J,I,H,G⟩:=row9 K.rg;have r:=K.rv.lt;have t:=K.rg.lt;go_wp2_with fail;refine(CP.out _).mono ?_;rintro e w2 ⟨rfl,rfl⟩;go_wp2_with fail;refine(CT.out _).mono ?_;rintro e w2 ⟨rfl,rfl⟩;clear CV CB CP CT;by_cases h2:g.ph=2
 ·have e2:(g.ph == 2)=true:=by rw [h2];rfl
  have ar:=kD (ar.out (HQ.out.1 h2));obtain⟨aa,V,W⟩:=HP.out (.inr h2);obtain rfl:o=false:=HO.out.symm.trans aa;have e0:(g.ph == 0)=false:=by rw [h2];rfl
  have e1:(g.ph == 1)=false:=by rw [h2];rfl
  have ew:(g.wn == 0)=true:=by rw [V];rfl
  have er:(g.rs == 0)=true:=by rw [W];rfl
  clear h2 aa V W;go_wp2_with fail;refine(ar.out _).mono ?_;rintro e w2 ⟨rfl,X⟩;have K:=K.below X;clear E D C B Q P O N M J I H G r t;clear X;obtain⟨E,D,C,B⟩:=K.rv.c4;obtain⟨Q,P,O,N,M,J,I,H,G⟩:=row9 K.rg;have r:=K.rv.lt;have t:=K.rg.lt;go_wp2_with fail;refine(ai.out _ K.bel).mono ?_;rintro e w2 ⟨rfl,X⟩;have K:=K.below X;clear E D C B Q P O N M J I H G r t;clear X;obtain⟨E,D,C,B⟩:=K.rv.c4;obtain⟨Q,P,O,N,M,J,I,H,G⟩:=row9 K.rg;have r:=K.rv.lt;have t:=K.rg.lt;go_wp2_with fail;go_ret;exact⟨rfl,K.bel⟩
 have e2:(g.ph == 2)=false:=by simpa using h2
 obtain⟨ak,aj⟩:=HQ.out.2.1 h2;have ex:(g.x != 0)=false:=by rw [ak];rfl
 have ey:(g.y != 0)=false:=by rw [aj];rfl
 have ba:(g.x == 0)=true:=by rw [ak];rfl
 have a9:(g.y == 0)=true:=by rw [aj];rfl
 clear ak aj;go_wp2_with fail;refine(ai.out _ K.bel).mono ?_;rintro e w2 ⟨rfl,X⟩;have K:=K.below X;clear E D C B Q P O N M J I H G r t;clear X;obtain⟨E,D,C,B⟩:=K.rv.c4;obtain⟨Q,P,O,N,M,J,I,H,G⟩:=row9 K.rg;have r:=K.rv.lt;have t:=K.rg.lt;clear ai;rcases HQ.out.2.2.1 with h0 | h1 | h2' | h3
 ·have HG:=kD (aN.out h0);have e0:(g.ph == 0)=true:=by rw [h0];rfl
  have ew:(g.wn == 0)=true:=by rw [HG.out];rfl
  have er:(g.rs == 0)=true:=by rw [HG.out];rfl
  have ep:(g.pl == 0)=true:=by rw [HG.out];rfl
  have et:(g.tn == 0)=true:=by rw [HG.out];rfl
  have ac:g.b=startB v:=by rw [HG.out];rfl
  have aB:n2=n1:=by rw [<-ap.out,<-ao.out,ac];rfl
  subst aB;have am:(startB v).1.length=n2:=by rw [<-ac];exact ap.out
  have al:(startB v).2.length=n2:=by rw [<-ac];exact ao.out
  have aI:0<n2∧n2<=1000:=aM.out;have aO:=kD (λ(A3 A4:Option Addr) (c3 c4:Nat) (m:World) (Z:Below w.heap.size w m) (p3:RdF m All 1 enI A3 (startB v).1) (p4:RdF m All 1 enI A4 (startB v).2)=>Bd10.same_s g.b (startB v) n2 ap.out ao.out am al aI A1 A2 A3 A4 c1 c2 c3 c4 m.heap.size m (Nat.le_refl _) (R1.out.keep (.below Z)).rd (R2.out.keep (.below Z)).rd p3.rd p4.rd true (decide_eq_true ac));have aK:=kD am;have aJ:=kD al;clear h0 ac am al h2;have R:=K;clear K;go_wp2_with fail;refine region_relG [some 52,some 53,some 54,some 55,some 56,some 57,some 58,some 59,some 60,some 61,some 62,some 63,some 64,some 65,some 66,some 67,some 68,some 69,some 70,some 71,some 72,some 73,some 74,some 75,some 76,some 77,some 4] 27 [some (.pointer (some ⟨w.heap.size+1,2,none⟩)),some (.int .i64 g.pl),some (.bool true),some (.bool true),some (.pointer (some ⟨w.heap.size+1,8,none⟩)),some (.int .i64 g.tn),some (.bool true),some (.bool true),some (.bool true),some (.pointer (some ⟨w.heap.size+1,6,none⟩)),some (.int .i64 g.wn),some (.bool true),some (.bool true),some (.bool true),some (.pointer (some ⟨w.heap.size+1,7,none⟩)),some (.int .i64 g.rs),some (.bool true),some (.bool true),some (.bool true),some (.pointer (some ⟨w.heap.size+1,0,none⟩)),some (.agg #[.slice A1 n2 c1,.slice A2 n2 c2]),some (.agg #[.int .i64 v.p,.int .i64 v.c,.int .i64 v.h,.int .i64 v.s]),none,none,some (.bool true),some (.bool true),some (.bool true)] (λ L a w'=>NwF w2 v (L 22) (L 23) (a 22) (a 23) w') (by kernel_rfl) (by kernel_rfl) (by kernel_rfl) (by kernel_rfl) (by kernel_rfl) (by kernel_rfl) (by first | kernel_rfl | rfl) ?g0_1 ?gst_1 ?gfin_1
  case g0_1=>exact⟨(Below.refl _ _).drew,λ h=>absurd h (by decide),λ h=>absurd h (by decide)⟩
  case gst_1 =>
   refine rN rfl (λ L a A m j f k U F K l=>?_) ?_
   ·have e3:=U.w 3 (.pointer (some ⟨w.heap.size+1,0,none⟩));have d:=R.below F.bel;obtain⟨E,D,C,B⟩:=d.rv.c4;obtain⟨Q,P,O,N,M,J,I,H,G⟩:=row9 d.rg;have r:=d.rv.lt;have t:=d.rg.lt;clear d;go_simp;exact pF l (F.skip 0 _)
   refine rN rfl (λ L a A m j f k U F K l=>?_) ?_
   ·have bE:=U.v 0 52;have d:=R.below F.bel;obtain⟨E,D,C,B⟩:=d.rv.c4;obtain⟨Q,P,O,N,M,J,I,H,G⟩:=row9 d.rg;have r:=d.rv.lt;have t:=d.rg.lt;clear d;go_simp;exact pF l (F.skip 1 _)
   refine rN rfl (λ L a A m j f k U F K l=>?_) ?_
   ·have bD:=U.v 1 53;go_simp;exact pF l (F.skip 2 _)
   refine rN rfl (λ L a A m j f k U F K l=>?_) ?_
   ·have bC:=U.v 2 54;go_simp;exact pF l (F.skip 3 _)
   refine rN rfl (λ L a A m j f k U F K l=>?_) ?_
   ·have e3:=U.w 3 (.pointer (some ⟨w.heap.size+1,0,none⟩));have d:=R.below F.bel;obtain⟨E,D,C,B⟩:=d.rv.c4;obtain⟨Q,P,O,N,M,J,I,H,G⟩:=row9 d.rg;have r:=d.rv.lt;have t:=d.rg.lt;clear d;go_simp;exact pF l (F.skip 4 _)
   refine rN rfl (λ L a A m j f k U F K l=>?_) ?_
   ·have bA:=U.v 4 56;have d:=R.below F.bel;obtain⟨E,D,C,B⟩:=d.rv.c4;obtain⟨Q,P,O,N,M,J,I,H,G⟩:=row9 d.rg;have r:=d.rv.lt;have t:=d.rg.lt;clear d;go_simp;exact pF l (F.skip 5 _)
   refine rN rfl (λ L a A m j f k U F K l=>?_) ?_
   ·have bz:=U.v 5 57;go_simp;exact pF l (F.skip 6 _)
   refine rN rfl (λ L a A m j f k U F K l=>?_) ?_
   ·have bB:=U.v 3 55;have bx:=U.v 6 58;go_simp;exact pF l (F.skip 7 _)
   refine rN rfl (λ L a A m j f k U F K l=>?_) ?_
   ·have bw:=U.v 7 59;go_simp;exact pF l (F.skip 8 _)
   refine rN rfl (λ L a A m j f k U F K l=>?_) ?_
   ·have e3:=U.w 3 (.pointer (some ⟨w.heap.size+1,0,none⟩));have d:=R.below F.bel;obtain⟨E,D,C,B⟩:=d.rv.c4;obtain⟨Q,P,O,N,M,J,I,H,G⟩:=row9 d.rg;have r:=d.rv.lt;have t:=d.rg.lt;clear d;go_simp;exact pF l (F.skip 9 _)
   refine rN rfl (λ L a A m j f k U F K l=>?_) ?_
   ·have bt:=U.v 9 61;have d:=R.below F.bel;obtain⟨E,D,C,B⟩:=d.rv.c4;obtain⟨Q,P,O,N,M,J,I,H,G⟩:=row9 d.rg;have r:=d.rv.lt;have t:=d.rg.lt;clear d;go_simp;exact pF l (F.skip 10 _)
   refine rN rfl (λ L a A m j f k U F K l=>?_) ?_
   ·have bs:=U.v 10 62;go_simp;exact pF l (F.skip 11 _)
   refine rN rfl (λ L a A m j f k U F K l=>?_) ?_
   ·have bv:=U.v 8 60;have br:=U.v 11 63;go_simp;exact pF l (F.skip 12 _)
   refine rN rfl (λ L a A m j f k U F K l=>?_) ?_
   ·have bq:=U.v 12 64;go_simp;exact pF l (F.skip 13 _)
   refine rN rfl (λ L a A m j f k U F K l=>?_) ?_
   ·have e3:=U.w 3 (.pointer (some ⟨w.heap.size+1,0,none⟩));have d:=R.below F.bel;obtain⟨E,D,C,B⟩:=d.rv.c4;obtain⟨Q,P,O,N,M,J,I,H,G⟩:=row9 d.rg;have r:=d.rv.lt;have t:=d.rg.lt;clear d;go_simp;exact pF l (F.skip 14 _)
   refine rN rfl (λ L a A m j f k U F K l=>?_) ?_
   ·have bo:=U.v 14 66;have d:=R.below F.bel;obtain⟨E,D,C,B⟩:=d.rv.c4;obtain⟨Q,P,O,N,M,J,I,H,G⟩:=row9 d.rg;have r:=d.rv.lt;have t:=d.rg.lt;clear d;go_simp;exact pF l (F.skip 15 _)
   refine rN rfl (λ L a A m j f k U F K l=>?_) ?_
   ·have bn:=U.v 15 67;go_simp;exact pF l (F.skip 16 _)
   refine rN rfl (λ L a A m j f k U F K l=>?_) ?_
   ·have bp:=U.v 13 65;have bm:=U.v 16 68;go_simp;exact pF l (F.skip 17 _)
   refine rN rfl (λ L a A m j f k U F K l=>?_) ?_
   ·have bl:=U.v 17 69;go_simp;exact pF l (F.skip 18 _)
   refine rN rfl (λ L a A m j f k U F K l=>?_) ?_
   ·have e3:=U.w 3 (.pointer (some ⟨w.heap.size+1,0,none⟩));have d:=R.below F.bel;obtain⟨E,D,C,B⟩:=d.rv.c4;obtain⟨Q,P,O,N,M,J,I,H,G⟩:=row9 d.rg;have r:=d.rv.lt;have t:=d.rg.lt;clear d;go_simp;exact pF l (F.skip 19 _)
   refine rN rfl (λ L a A m j f k U F K l=>?_) ?_
   ·have bj:=U.v 19 71;have d:=R.below F.bel;obtain⟨E,D,C,B⟩:=d.rv.c4;obtain⟨Q,P,O,N,M,J,I,H,G⟩:=row9 d.rg;have r:=d.rv.lt;have t:=d.rg.lt;clear d;go_simp;exact pF l (F.skip 20 _)
   refine rN rfl (λ L a A m j f k U F K l=>?_) ?_
   ·have e2:=U.w 2 (.pointer (some ⟨w.heap.size,0,none⟩));have d:=R.below F.bel;obtain⟨E,D,C,B⟩:=d.rv.c4;obtain⟨Q,P,O,N,M,J,I,H,G⟩:=row9 d.rg;have r:=d.rv.lt;have t:=d.rg.lt;clear d;go_simp;exact pF l (F.skip 21 _)
   refine rN rfl (λ L a A m j f k U F K l=>?_) ?_
   ·have bh:=U.v 21 73;go_simp;refine(aP.out m).mono ?_;rintro e w6 ⟨v6,rfl,aH,ad⟩;exact l.out v6 w6 (Pl.any rfl) (by simpa [upd] using F.s22 ad (RelGV.weak aH (λ _ _ _=>trivial)))
   refine rN rfl (λ L a A m j f k U F K l=>?_) ?_
   ·have aF:=U.x 22 74;refine(F.f22 (bK f 22)).elim λ u3 q=>?_
    refine q.elim λ u4 q=>?_
    have aE:=aF.trans q.1;simp only [gmC] at aE;clear aF;have hT:∀(h:28<Tryz.prog.types.size),(Tryz.prog.types[28]'h).size=2:=λ h=>by first | kernel_rfl | rfl
    go_simp;exact l.out (.agg #[u3,u4]) m (Pl.any rfl) (by simpa [upd] using F.s23 ⟨u3,u4,rfl,q.2⟩)
   refine rN rfl (λ L a A m j f k U F K l=>?_) ?_
   ·have bi:=U.v 20 72;have aD:=U.x 23 75;refine(F.f23 (bK f 23)).elim λ u3 q=>?_
    refine q.elim λ u4 q=>?_
    refine q.2.1.elim λ A3 p3=>?_
    refine p3.elim λ c3 p3=>?_
    refine q.2.2.elim λ A4 p4=>?_
    refine p4.elim λ c4 p4=>?_
    have aC:=aD.trans q.1;rw [p3.1,p4.1,aK.out,aJ.out] at aC;clear aD;go_simp;refine(aO.out A3 A4 c3 c4 m (R.bel.trans (F.bel.mono R.bel.size)) p3.2.1 p4.2.1).mono ?_;rintro e w6 ⟨rfl,ad⟩;exact pF l ((F.below ad).skip 24 _)
   refine rN rfl (λ L a A m j f k U F K l=>?_) ?_
   ·have bk:=U.v 18 70;have bg:=U.v 24 76;go_simp;exact pF l (F.skip 25 _)
   refine rN rfl (λ L a A m j f k U F K l=>?_) ?_
   ·have bf:=U.v 25 77;go_simp;exact pF l (F.skip 26 _)
   exact RelFrom.nil (by decide)
  intro a m Y F;simp only [Fr,Act.put,sX,Nat.reduceAdd];go_wp2_with fail;have ay:a 26=.bool true:=Y 26 (by decide) _ rfl;rw [ay];go_ret;exact⟨rfl,(R.below F.bel).bel⟩
 ·obtain⟨aa,V,W⟩:=HP.out (.inl h1);obtain rfl:o=false:=HO.out.symm.trans aa;have e0:(g.ph == 0)=false:=by rw [h1];rfl
  have e1:(g.ph == 1)=true:=by rw [h1];rfl
  have ew:(g.wn == 0)=true:=by rw [V];rfl
  have er:(g.rs == 0)=true:=by rw [W];rfl
  clear h1 aa V W h2;go_wp2_with fail;go_ret;exact⟨rfl,K.bel⟩
 ·exact absurd h2' h2
 ·have e0:(g.ph == 0)=false:=by rw [h3];rfl
  have e1:(g.ph == 1)=false:=by rw [h3];rfl
  have e3:(g.ph == 3)=true:=by rw [h3];rfl
  have ae:=HQ.out.2.2.2 h3;rw [HO.out] at ae;clear h3 h2
  cases o
  case false =>
   obtain⟨ax,aA⟩:=ae.2 rfl;have av:=kD (av.out aA);have a7:IntKind.i64.wrap (1 - g.pl)=1 - g.pl:=IntWalk.i64_in _ (by have:=aL.out;omega);have ew:(g.wn == 1 - g.pl)=true:=by rw [ax];simp
   clear ae ax aA;go_wp2_with fail;refine(av.out _).mono ?_;rintro e w3 ⟨rfl,rfl⟩;go_wp2_with fail;go_ret;exact⟨rfl,K.bel⟩
  case true =>
   obtain⟨an,V,W⟩:=ae.1 rfl;have ah:=kD (ah.out g.rs W.symm);obtain⟨z1,aw⟩:∃ z,g.b.1.sum=z:=⟨_,rfl⟩;rw [aw] at aq an;have es:(z1 == 0)=true:=by rw [an];rfl
   have ew:(g.wn == g.pl)=true:=by rw [V];simp
   have er:(g.rs == g.rs)=true:=by simp
   clear ae an V W aw;have R:=K;clear K;go_wp2_with fail;refine region_relG [some 96,some 97,some 98,some 99,some 100,some 101,some 102,some 103,some 104,some 105,some 106,some 107,some 108,some 109,some 110,some 111,some 112,some 113,some 114,some 115,some 116,some 4] 22 [some (.pointer (some ⟨w.heap.size+1,0,none⟩)),some (.pointer (some ⟨w.heap.size+1,0,none⟩)),some (.slice A1 n1 c1),some (.int .i64 z1),some (.bool true),some (.bool true),some (.pointer (some ⟨w.heap.size+1,6,none⟩)),some (.int .i64 g.wn),some (.pointer (some ⟨w.heap.size+1,2,none⟩)),some (.int .i64 g.pl),some (.bool true),some (.bool true),some (.bool true),some (.pointer (some ⟨w.heap.size+1,7,none⟩)),some (.int .i64 g.rs),some (.agg #[.int .i64 v.p,.int .i64 v.c,.int .i64 v.h,.int .i64 v.s]),some (.pointer (some ⟨w.heap.size+1,0,none⟩)),some (.agg #[.slice A1 n1 c1,.slice A2 n2 c2]),some (.int .i64 g.rs),some (.bool true),some (.bool true),some (.bool true)] (λ L a w'=>Below w2.heap.size w2 w') (by kernel_rfl) (by kernel_rfl) (by kernel_rfl) (by kernel_rfl) (by kernel_rfl) (by kernel_rfl) (by first | kernel_rfl | rfl) ?g0_2 ?gst_2 ?gfin_2
   case g0_2=>exact(Below.refl _ _).drew
   case gst_2 =>
    refine rN rfl (λ L a A m j f k U F K l=>?_) ?_
    ·have e3:=U.w 3 (.pointer (some ⟨w.heap.size+1,0,none⟩));have d:=R.below F;obtain⟨E,D,C,B⟩:=d.rv.c4;obtain⟨Q,P,O,N,M,J,I,H,G⟩:=row9 d.rg;have r:=d.rv.lt;have t:=d.rg.lt;clear d;go_simp;exact pF l (F)
    refine rN rfl (λ L a A m j f k U F K l=>?_) ?_
    ·have be:=U.v 0 96;have d:=R.below F;obtain⟨E,D,C,B⟩:=d.rv.c4;obtain⟨Q,P,O,N,M,J,I,H,G⟩:=row9 d.rg;have r:=d.rv.lt;have t:=d.rg.lt;clear d;go_simp;exact pF l (F)
    refine rN rfl (λ L a A m j f k U F K l=>?_) ?_
    ·have bd:=U.v 1 97;have d:=R.below F;obtain⟨E,D,C,B⟩:=d.rv.c4;obtain⟨Q,P,O,N,M,J,I,H,G⟩:=row9 d.rg;have r:=d.rv.lt;have t:=d.rg.lt;clear d;go_simp;exact pF l (F)
    refine rN rfl (λ L a A m j f k U F K l=>?_) ?_
    ·have bc:=U.v 2 98;go_simp;refine(aq.out m (R.bel.trans (F.mono R.bel.size))).mono ?_;rintro e w6 ⟨rfl,rfl⟩;exact pF l F
    refine rN rfl (λ L a A m j f k U F K l=>?_) ?_
    ·have bb:=U.v 3 99;go_simp;exact pF l (F)
    refine rN rfl (λ L a A m j f k U F K l=>?_) ?_
    ·have a6:=U.v 4 100;go_simp;exact pF l (F)
    refine rN rfl (λ L a A m j f k U F K l=>?_) ?_
    ·have e3:=U.w 3 (.pointer (some ⟨w.heap.size+1,0,none⟩));have d:=R.below F;obtain⟨E,D,C,B⟩:=d.rv.c4;obtain⟨Q,P,O,N,M,J,I,H,G⟩:=row9 d.rg;have r:=d.rv.lt;have t:=d.rg.lt;clear d;go_simp;exact pF l (F)
    refine rN rfl (λ L a A m j f k U F K l=>?_) ?_
    ·have a4:=U.v 6 102;have d:=R.below F;obtain⟨E,D,C,B⟩:=d.rv.c4;obtain⟨Q,P,O,N,M,J,I,H,G⟩:=row9 d.rg;have r:=d.rv.lt;have t:=d.rg.lt;clear d;go_simp;exact pF l (F)
    refine rN rfl (λ L a A m j f k U F K l=>?_) ?_
    ·have e3:=U.w 3 (.pointer (some ⟨w.heap.size+1,0,none⟩));have d:=R.below F;obtain⟨E,D,C,B⟩:=d.rv.c4;obtain⟨Q,P,O,N,M,J,I,H,G⟩:=row9 d.rg;have r:=d.rv.lt;have t:=d.rg.lt;clear d;go_simp;exact pF l (F)
    refine rN rfl (λ L a A m j f k U F K l=>?_) ?_
    ·have a2:=U.v 8 104;have d:=R.below F;obtain⟨E,D,C,B⟩:=d.rv.c4;obtain⟨Q,P,O,N,M,J,I,H,G⟩:=row9 d.rg;have r:=d.rv.lt;have t:=d.rg.lt;clear d;go_simp;exact pF l (F)
    refine rN rfl (λ L a A m j f k U F K l=>?_) ?_
    ·have a3:=U.v 7 103;have a1:=U.v 9 105;go_simp;exact pF l (F)
    refine rN rfl (λ L a A m j f k U F K l=>?_) ?_
    ·have a5:=U.v 5 101;have a0:=U.v 10 106;go_simp;exact pF l (F)
    refine rN rfl (λ L a A m j f k U F K l=>?_) ?_
    ·have aZ:=U.v 11 107;go_simp;exact pF l (F)
    refine rN rfl (λ L a A m j f k U F K l=>?_) ?_
    ·have e3:=U.w 3 (.pointer (some ⟨w.heap.size+1,0,none⟩));have d:=R.below F;obtain⟨E,D,C,B⟩:=d.rv.c4;obtain⟨Q,P,O,N,M,J,I,H,G⟩:=row9 d.rg;have r:=d.rv.lt;have t:=d.rg.lt;clear d;go_simp;exact pF l (F)
    refine rN rfl (λ L a A m j f k U F K l=>?_) ?_
    ·have aX:=U.v 13 109;have d:=R.below F;obtain⟨E,D,C,B⟩:=d.rv.c4;obtain⟨Q,P,O,N,M,J,I,H,G⟩:=row9 d.rg;have r:=d.rv.lt;have t:=d.rg.lt;clear d;go_simp;exact pF l (F)
    refine rN rfl (λ L a A m j f k U F K l=>?_) ?_
    ·have e2:=U.w 2 (.pointer (some ⟨w.heap.size,0,none⟩));have d:=R.below F;obtain⟨E,D,C,B⟩:=d.rv.c4;obtain⟨Q,P,O,N,M,J,I,H,G⟩:=row9 d.rg;have r:=d.rv.lt;have t:=d.rg.lt;clear d;go_simp;exact pF l (F)
    refine rN rfl (λ L a A m j f k U F K l=>?_) ?_
    ·have e3:=U.w 3 (.pointer (some ⟨w.heap.size+1,0,none⟩));have d:=R.below F;obtain⟨E,D,C,B⟩:=d.rv.c4;obtain⟨Q,P,O,N,M,J,I,H,G⟩:=row9 d.rg;have r:=d.rv.lt;have t:=d.rg.lt;clear d;go_simp;exact pF l (F)
    refine rN rfl (λ L a A m j f k U F K l=>?_) ?_
    ·have aU:=U.v 16 112;have d:=R.below F;obtain⟨E,D,C,B⟩:=d.rv.c4;obtain⟨Q,P,O,N,M,J,I,H,G⟩:=row9 d.rg;have r:=d.rv.lt;have t:=d.rg.lt;clear d;go_simp;exact pF l (F)
    refine rN rfl (λ L a A m j f k U F K l=>?_) ?_
    ·have aV:=U.v 15 111;have aT:=U.v 17 113;go_simp;refine(ah.out m (R.bel.trans (F.mono R.bel.size))).mono ?_;rintro e w6 ⟨rfl,ad⟩;exact pF l (F.trans (ad.mono F.size))
    refine rN rfl (λ L a A m j f k U F K l=>?_) ?_
    ·have aW:=U.v 14 110;have aS:=U.v 18 114;go_simp;exact pF l (F)
    refine rN rfl (λ L a A m j f k U F K l=>?_) ?_
    ·have aY:=U.v 12 108;have aR:=U.v 19 115;go_simp;exact pF l (F)
    refine rN rfl (λ L a A m j f k U F K l=>?_) ?_
    ·have aQ:=U.v 20 116;go_simp;exact pF l (F)
    exact RelFrom.nil (by decide)
   intro a m Y F;simp only [Fr,Act.put,sX,Nat.reduceAdd];go_wp2_with fail;have az:a 21=.bool true:=Y 21 (by decide) _ rfl;rw [az];go_ret;exact⟨rfl,(R.below F).bel⟩
theorem isg_i (v:Vr) (g:Gm) (hg:gmB v g=true) (S:Nat->Prop) (u1 u2:Value) (w:World) (hR:BdR w S u1 u2 g.b) :
  Calls Tryz.prog 178 #[.agg #[.int .i64 v.p,.int .i64 v.c,.int .i64 v.h,.int .i64 v.s],.agg ⟨gmC u1 u2 g⟩] w λ e w'=>e=.returned (.bool true)∧Below w.heap.size w w':=by
 have hp:=gm_parts hg;have hq:=gm_rest hg;have Q:=hp.1;have ae:okV v=true:=okV_iff.2 Q.v1;have aK:=kD (gm_zero hg);have aC:=kD hR;obtain⟨⟨A1,c1,rfl,r1,k1⟩,⟨A2,c2,rfl,r2,k2⟩⟩:=hR;obtain⟨o,ho⟩:∃ o,over g.b=o:=⟨_,rfl⟩;have CV:=kD (λ f=>var_i v true ae f);have CB:=kD (λ(f:World) (Y:Below w.heap.size w f)=>Bd3I.isB_i v g.b A1 A2 c1 c2 f.heap.size f (Nat.le_refl _) (r1.keep (.below Y)).rd (r2.keep (.below Y)).rd true (okB_iff.2 Q));have CP:=kD (λ f=>in_i g.pl 0 1 true (decide_eq_true hp.2.2.1) f);have CT:=kD (λ f=>in_i g.tn 0 2000 true (decide_eq_true hp.2.2.2.1) f);have ai:=kD (λ(f:World) (Y:Below w.heap.size w f)=>over_i v g.b Q A1 A2 c1 c2 f.heap.size f (Nat.le_refl _) (r1.keep (.below Y)).rd (r2.keep (.below Y)).rd o ho);have ar:=kD (λ(hr:rollB v g.x g.y=true) f=>Bd15.isroll_i v g.x g.y true (by rw [ae];exact hr) f);have aM:=kD (λ f=>start_i v ae hp.2.1 f);have aq:=kD (λ(f:World) (Y:Below w.heap.size w f)=>sum_i A1 c1 f.heap.size g.b.1 f (r1.keep (.below Y)).rd (λ i=>⟨Q.own.nn i,by have:=Q.own.top i;have:=Q.v1;omega⟩) (by have:=Q.own.len;have:=Q.v1;omega));have ah:=kD (λ(z:Int) (hz:resP v g.b=z) (f:World) (Y:Below w.heap.size w f)=>res_i v g.b Q S _ _ z hz f (aC.out.keep (.below Y)));have av:=kD (λ(h:1<=g.rs∧g.rs<=3) f=>in_i g.rs 1 3 true (decide_eq_true h) f);obtain⟨n1,ab⟩:∃ n,g.b.1.length=n:=⟨_,rfl⟩;obtain⟨X,af⟩:∃ n,g.b.2.length=n:=⟨_,rfl⟩;rw [ab] at aq;rw [ab,af] at CB ai ah aC;rw [ab,af];have ba:decide (v.p<4)=false:=decide_eq_false (by have:=hp.2.1;omega);have HQ:=kD hq;have aF:=kD (λ h=>(hp.2.2.2.2.1 h).1.1);have aJ:Hid (0<n1∧n1<=1000):=by have:=Q.own.len;have:=Q.v1;exact⟨by omega,by omega⟩
 have R1:=kD r1;have R2:=kD r2;have HP:=kD hp.2.2.2.2.2;have aI:=kD hp.2.2.1;have HO:=kD ho;have ap:=kD ab;have ao:=kD af;clear hq hp Q ae hg ho r1 r2 k1 k2 ab af;go_enter Tryz.func178,Tryz.ntmps178;go_upto_region 1 with fail;refine wp_gen (λ W'=>Gb w W' v (.slice A1 n1 c1) (.slice A2 X c2) g) ⟨by go_grown,(RowB.new _ _ _).alloc _,RowB.new' _ _ _ (by simp)⟩ ?_;intro w1 K;obtain⟨D,C,B,t⟩:=K.rv.c4;obtain⟨P,O,N,M,J,I,H,G,E⟩:=row9 K.rg;have j:=K.rv.lt;have k:=K.rg.lt;go_wp2_with fail;refine(CV.out _).mono ?_;rintro e w2 ⟨rfl,V⟩;have K:=K.below V;clear D C B t P O N M J I H G E j k;clear V;obtain⟨D,C,B,t⟩:=K.rv.c4;obtain⟨P,O,N,M,J,I,H,G,E⟩:=row9 K.rg;have j:=K.rv.lt;have k:=K.rg.lt;go_wp2_with fail;refine(CB.out _ K.bel).mono ?_;rintro e w2 ⟨rfl,V⟩;have K:=K.below V;clear D C B t P O N M J I H G E j k;clear V;obtain⟨D,C,B,t⟩:=K.rv.c4;obtain⟨P,O,N,M,J,I,H,G,E⟩:=row9 K.rg;have j:=K.rv.lt;have k:=K.rg.lt;go_wp2_with fail;refine(CP.out _).mono ?_;rintro e w2 ⟨rfl,rfl⟩;go_wp2_with fail;refine(CT.out _).mono ?_;rintro e w2 ⟨rfl,rfl⟩;clear CV CB CP CT;by_cases h2:g.ph=2
 ·have e2:(g.ph == 2)=true:=by rw [h2];rfl
  have ar:=kD (ar.out (HQ.out.1 h2));obtain⟨aa,R,T⟩:=HP.out (.inr h2);obtain rfl:o=false:=HO.out.symm.trans aa;have e0:(g.ph == 0)=false:=by rw [h2];rfl
  have e1:(g.ph == 1)=false:=by rw [h2];rfl
  have ew:(g.wn == 0)=true:=by rw [R];rfl
  have er:(g.rs == 0)=true:=by rw [T];rfl
  have a8:¬ g.x=0:=by have:=aF.out h2;omega
  clear h2 aa R T;go_wp2_with fail;go_still_tail 16,(by kernel_rfl);go_wp2_with fail;refine(ar.out _).mono ?_;rintro e w2 ⟨rfl,V⟩;have K:=K.below ((Below.refl _ _).drew.trans V);clear D C B t P O N M J I H G E j k V;obtain⟨D,C,B,t⟩:=K.rv.c4;obtain⟨P,O,N,M,J,I,H,G,E⟩:=row9 K.rg;have j:=K.rv.lt;have k:=K.rg.lt;go_wp2_with fail;refine(ai.out _ K.bel).mono ?_;rintro e w2 ⟨rfl,V⟩;have K:=K.below V;clear D C B t P O N M J I H G E j k;clear V;obtain⟨D,C,B,t⟩:=K.rv.c4;obtain⟨P,O,N,M,J,I,H,G,E⟩:=row9 K.rg;have j:=K.rv.lt;have k:=K.rg.lt;go_wp2_with fail;go_ret;exact⟨rfl,K.bel⟩
 have e2:(g.ph == 2)=false:=by simpa using h2
 obtain⟨ak,aj⟩:=HQ.out.2.1 h2;have ex:(g.x != 0)=false:=by rw [ak];rfl
 have ey:(g.y != 0)=false:=by rw [aj];rfl
 have be:(g.x == 0)=true:=by rw [ak];rfl
 have bd:(g.y == 0)=true:=by rw [aj];rfl
 clear ak aj;go_wp2_with fail;go_quiet (fail);go_wp2_with fail;refine(ai.out _ (below_drewN K.bel nq)).mono ?_;rintro e aD ⟨rfl,V⟩;have K:=K.below ((below_drewN (Below.refl _ _) nq).trans V);clear D C B t P O N M J I H G E j k V;obtain⟨D,C,B,t⟩:=K.rv.c4;obtain⟨P,O,N,M,J,I,H,G,E⟩:=row9 K.rg;have j:=K.rv.lt;have k:=K.rg.lt;obtain⟨w2,ax⟩:∃ u,aD=u:=⟨_,rfl⟩;rw [ax] at K D C B t P O N M J I H G E j k ⊢;clear ax;clear ai;rcases HQ.out.2.2.1 with h0 | h1 | h2' | h3
 ·have HG:=kD (aK.out h0);have e0:(g.ph == 0)=true:=by rw [h0];rfl
  have ew:(g.wn == 0)=true:=by rw [HG.out];rfl
  have er:(g.rs == 0)=true:=by rw [HG.out];rfl
  have ep:(g.pl == 0)=true:=by rw [HG.out];rfl
  have et:(g.tn == 0)=true:=by rw [HG.out];rfl
  have ac:g.b=startB v:=by rw [HG.out];rfl
  have aB:X=n1:=by rw [<-ap.out,<-ao.out,ac];rfl
  subst aB;have am:(startB v).1.length=X:=by rw [<-ac];exact ap.out
  have al:(startB v).2.length=X:=by rw [<-ac];exact ao.out
  have bb:0<X∧X<=1000:=aJ.out;have aL:=kD (λ(A3 A4:Option Addr) (c3 c4:Nat) (f:World) (Y:Below w.heap.size w f) (p3:RdS f f.heap.size 1 enI A3 (startB v).1) (p4:RdS f f.heap.size 1 enI A4 (startB v).2)=>Bd31.same_i g.b (startB v) X ap.out ao.out am al A1 A2 A3 A4 c1 c2 c3 c4 f (R1.out.keep (.below Y)).rd (R2.out.keep (.below Y)).rd p3 p4 true (decide_eq_true ac));have aH:=kD am;have aG:=kD al;clear h0 ac am al h2;go_wp2_with fail;refine(aM.out _).mono ?_;rintro e w3 ⟨v6,rfl,⟨u3,u4,b3,rfl,aE,Z⟩,ag⟩;obtain rfl:=Z _ rfl;have K:=K.below ag;obtain⟨⟨A5,c5,rfl,p5,k5⟩,⟨A6,c6,rfl,p6,k6⟩⟩:=aE;rw [aH.out,aG.out];have P5:=kD p5;have P6:=kD p6;clear D C B t P O N M J I H G E j k ag p5 p6 Z;go_upto_region 9 with fail;refine wp_gen (λ W'=>Gb w W' v (.slice A1 X c1) (.slice A2 X c2) g∧RowB W' w3.heap.size 28 [.slice A5 X c5,.slice A6 X c6]∧Hid (RdS W' W'.heap.size 1 enI A5 (startB v).1)∧Hid (RdS W' W'.heap.size 1 enI A6 (startB v).2)) ⟨K.below ((Below.refl _ _).alloc (Nat.le_refl _) _),RowB.new _ _ _,kD (P5.out.keep (.below ((Below.refl _ _).alloc (Nat.le_refl _) _))).rd,kD (P6.out.keep (.below ((Below.refl _ _).alloc (Nat.le_refl _) _))).rd⟩ ?_;clear K P5 P6;rintro w4 ⟨K,rx,P5,P6⟩;obtain⟨D,C,B,t⟩:=K.rv.c4;obtain⟨P,O,N,M,J,I,H,G,E⟩:=row9 K.rg;have j:=K.rv.lt;have k:=K.rg.lt;obtain⟨x0,x1⟩:=rx.c2;have bc:=rx.lt;go_wp2_with fail;refine(aL.out A5 A6 c5 c6 _ K.bel P5.out P6.out).mono ?_;rintro e w2 ⟨rfl,V⟩;have K:=K.below V;clear D C B t P O N M J I H G E j k;clear V;obtain⟨D,C,B,t⟩:=K.rv.c4;obtain⟨P,O,N,M,J,I,H,G,E⟩:=row9 K.rg;have j:=K.rv.lt;have k:=K.rg.lt;go_wp2_with fail;go_ret;exact⟨rfl,K.bel⟩
 ·obtain⟨aa,R,T⟩:=HP.out (.inl h1);obtain rfl:o=false:=HO.out.symm.trans aa;have e0:(g.ph == 0)=false:=by rw [h1];rfl
  have e1:(g.ph == 1)=true:=by rw [h1];rfl
  have ew:(g.wn == 0)=true:=by rw [R];rfl
  have er:(g.rs == 0)=true:=by rw [T];rfl
  clear h1 aa R T h2;go_wp2_with fail;go_ret;exact⟨rfl,K.bel⟩
 ·exact absurd h2' h2
 ·have e0:(g.ph == 0)=false:=by rw [h3];rfl
  have e1:(g.ph == 1)=false:=by rw [h3];rfl
  have e3:(g.ph == 3)=true:=by rw [h3];rfl
  have ad:=HQ.out.2.2.2 h3;rw [HO.out] at ad;clear h3 h2
  cases o
  case false =>
   obtain⟨ay,aA⟩:=ad.2 rfl;have av:=kD (av.out aA);have a9:IntKind.i64.wrap (1 - g.pl)=1 - g.pl:=IntWalk.i64_in _ (by have:=aI.out;omega);have ew:(g.wn == 1 - g.pl)=true:=by rw [ay];simp
   clear ad ay aA;go_wp2_with fail;refine(av.out _).mono ?_;rintro e w3 ⟨rfl,rfl⟩;go_wp2_with fail;go_ret;exact⟨rfl,K.bel⟩
  case true =>
   obtain⟨an,R,T⟩:=ad.1 rfl;have ah:=kD (ah.out g.rs T.symm);obtain⟨z1,aw⟩:∃ z,g.b.1.sum=z:=⟨_,rfl⟩;rw [aw] at aq an;have es:(z1 == 0)=true:=by rw [an];rfl
   have ew:(g.wn == g.pl)=true:=by rw [R];simp
   have er:(g.rs == g.rs)=true:=by simp
   clear ad an R T aw;have W:=K;clear K;go_wp2_with fail;refine region_relG [some 109,some 110,some 111,some 112,some 113,some 114,some 115,some 116,some 117,some 118,some 119,some 120,some 121,some 122,some 123,some 124,some 125,some 126,some 127,some 128,some 129,some 4] 22 [some (.pointer (some ⟨w.heap.size+1,0,none⟩)),some (.pointer (some ⟨w.heap.size+1,0,none⟩)),some (.slice A1 n1 c1),some (.int .i64 z1),some (.bool true),some (.bool true),some (.pointer (some ⟨w.heap.size+1,6,none⟩)),some (.int .i64 g.wn),some (.pointer (some ⟨w.heap.size+1,2,none⟩)),some (.int .i64 g.pl),some (.bool true),some (.bool true),some (.bool true),some (.pointer (some ⟨w.heap.size+1,7,none⟩)),some (.int .i64 g.rs),some (.agg #[.int .i64 v.p,.int .i64 v.c,.int .i64 v.h,.int .i64 v.s]),some (.pointer (some ⟨w.heap.size+1,0,none⟩)),some (.agg #[.slice A1 n1 c1,.slice A2 X c2]),some (.int .i64 g.rs),some (.bool true),some (.bool true),some (.bool true)] (λ L a w'=>Below w2.heap.size w2 w') (by kernel_rfl) (by kernel_rfl) (by kernel_rfl) (by kernel_rfl) (by kernel_rfl) (by kernel_rfl) (by first | kernel_rfl | rfl) ?g0_1 ?gst_1 ?gfin_1
   case g0_1=>exact(Below.refl _ _).drew
   case gst_1 =>
    refine rN rfl (λ L a A f l m q U F K r=>?_) ?_
    ·have e3:=U.w 3 (.pointer (some ⟨w.heap.size+1,0,none⟩));have d:=W.below F;obtain⟨D,C,B,t⟩:=d.rv.c4;obtain⟨P,O,N,M,J,I,H,G,E⟩:=row9 d.rg;have j:=d.rv.lt;have k:=d.rg.lt;clear d;go_simp;exact pF r (F)
    refine rN rfl (λ L a A f l m q U F K r=>?_) ?_
    ·have a7:=U.v 0 109;have d:=W.below F;obtain⟨D,C,B,t⟩:=d.rv.c4;obtain⟨P,O,N,M,J,I,H,G,E⟩:=row9 d.rg;have j:=d.rv.lt;have k:=d.rg.lt;clear d;go_simp;exact pF r (F)
    refine rN rfl (λ L a A f l m q U F K r=>?_) ?_
    ·have a6:=U.v 1 110;have d:=W.below F;obtain⟨D,C,B,t⟩:=d.rv.c4;obtain⟨P,O,N,M,J,I,H,G,E⟩:=row9 d.rg;have j:=d.rv.lt;have k:=d.rg.lt;clear d;go_simp;exact pF r (F)
    refine rN rfl (λ L a A f l m q U F K r=>?_) ?_
    ·have a5:=U.v 2 111;go_simp;refine(aq.out f (W.bel.trans (F.mono W.bel.size))).mono ?_;rintro e w6 ⟨rfl,rfl⟩;exact pF r F
    refine rN rfl (λ L a A f l m q U F K r=>?_) ?_
    ·have a4:=U.v 3 112;go_simp;exact pF r (F)
    refine rN rfl (λ L a A f l m q U F K r=>?_) ?_
    ·have a3:=U.v 4 113;go_simp;exact pF r (F)
    refine rN rfl (λ L a A f l m q U F K r=>?_) ?_
    ·have e3:=U.w 3 (.pointer (some ⟨w.heap.size+1,0,none⟩));have d:=W.below F;obtain⟨D,C,B,t⟩:=d.rv.c4;obtain⟨P,O,N,M,J,I,H,G,E⟩:=row9 d.rg;have j:=d.rv.lt;have k:=d.rg.lt;clear d;go_simp;exact pF r (F)
    refine rN rfl (λ L a A f l m q U F K r=>?_) ?_
    ·have a1:=U.v 6 115;have d:=W.below F;obtain⟨D,C,B,t⟩:=d.rv.c4;obtain⟨P,O,N,M,J,I,H,G,E⟩:=row9 d.rg;have j:=d.rv.lt;have k:=d.rg.lt;clear d;go_simp;exact pF r (F)
    refine rN rfl (λ L a A f l m q U F K r=>?_) ?_
    ·have e3:=U.w 3 (.pointer (some ⟨w.heap.size+1,0,none⟩));have d:=W.below F;obtain⟨D,C,B,t⟩:=d.rv.c4;obtain⟨P,O,N,M,J,I,H,G,E⟩:=row9 d.rg;have j:=d.rv.lt;have k:=d.rg.lt;clear d;go_simp;exact pF r (F)
    refine rN rfl (λ L a A f l m q U F K r=>?_) ?_
    ·have aZ:=U.v 8 117;have d:=W.below F;obtain⟨D,C,B,t⟩:=d.rv.c4;obtain⟨P,O,N,M,J,I,H,G,E⟩:=row9 d.rg;have j:=d.rv.lt;have k:=d.rg.lt;clear d;go_simp;exact pF r (F)
    refine rN rfl (λ L a A f l m q U F K r=>?_) ?_
    ·have a0:=U.v 7 116;have aY:=U.v 9 118;go_simp;exact pF r (F)
    refine rN rfl (λ L a A f l m q U F K r=>?_) ?_
    ·have a2:=U.v 5 114;have aX:=U.v 10 119;go_simp;exact pF r (F)
    refine rN rfl (λ L a A f l m q U F K r=>?_) ?_
    ·have aW:=U.v 11 120;go_simp;exact pF r (F)
    refine rN rfl (λ L a A f l m q U F K r=>?_) ?_
    ·have e3:=U.w 3 (.pointer (some ⟨w.heap.size+1,0,none⟩));have d:=W.below F;obtain⟨D,C,B,t⟩:=d.rv.c4;obtain⟨P,O,N,M,J,I,H,G,E⟩:=row9 d.rg;have j:=d.rv.lt;have k:=d.rg.lt;clear d;go_simp;exact pF r (F)
    refine rN rfl (λ L a A f l m q U F K r=>?_) ?_
    ·have aU:=U.v 13 122;have d:=W.below F;obtain⟨D,C,B,t⟩:=d.rv.c4;obtain⟨P,O,N,M,J,I,H,G,E⟩:=row9 d.rg;have j:=d.rv.lt;have k:=d.rg.lt;clear d;go_simp;exact pF r (F)
    refine rN rfl (λ L a A f l m q U F K r=>?_) ?_
    ·have e2:=U.w 2 (.pointer (some ⟨w.heap.size,0,none⟩));have d:=W.below F;obtain⟨D,C,B,t⟩:=d.rv.c4;obtain⟨P,O,N,M,J,I,H,G,E⟩:=row9 d.rg;have j:=d.rv.lt;have k:=d.rg.lt;clear d;go_simp;exact pF r (F)
    refine rN rfl (λ L a A f l m q U F K r=>?_) ?_
    ·have e3:=U.w 3 (.pointer (some ⟨w.heap.size+1,0,none⟩));have d:=W.below F;obtain⟨D,C,B,t⟩:=d.rv.c4;obtain⟨P,O,N,M,J,I,H,G,E⟩:=row9 d.rg;have j:=d.rv.lt;have k:=d.rg.lt;clear d;go_simp;exact pF r (F)
    refine rN rfl (λ L a A f l m q U F K r=>?_) ?_
    ·have aR:=U.v 16 125;have d:=W.below F;obtain⟨D,C,B,t⟩:=d.rv.c4;obtain⟨P,O,N,M,J,I,H,G,E⟩:=row9 d.rg;have j:=d.rv.lt;have k:=d.rg.lt;clear d;go_simp;exact pF r (F)
    refine rN rfl (λ L a A f l m q U F K r=>?_) ?_
    ·have aS:=U.v 15 124;have aQ:=U.v 17 126;go_simp;refine(ah.out f (W.bel.trans (F.mono W.bel.size))).mono ?_;rintro e w6 ⟨rfl,ag⟩;exact pF r (F.trans (ag.mono F.size))
    refine rN rfl (λ L a A f l m q U F K r=>?_) ?_
    ·have aT:=U.v 14 123;have aP:=U.v 18 127;go_simp;exact pF r (F)
    refine rN rfl (λ L a A f l m q U F K r=>?_) ?_
    ·have aV:=U.v 12 121;have aO:=U.v 19 128;go_simp;exact pF r (F)
    refine rN rfl (λ L a A f l m q U F K r=>?_) ?_
    ·have aN:=U.v 20 129;go_simp;exact pF r (F)
    exact RelFrom.nil (by decide)
   intro a f hp F;simp only [Fr,Act.put,sX,Nat.reduceAdd];go_wp2_with fail;have az:a 21=.bool true:=hp 21 (by decide) _ rfl;rw [az];go_ret;exact⟨rfl,(W.below F).bel⟩
end Gm
end Go.Proofs.YtmncnhbjifeoeaaGreat
