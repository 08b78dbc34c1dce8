/- Parts of the proof of FnExactMatchText. Conditions: each theorem's own. -/
import Derived.Test.YtblipmifflfnoaaGreatDoorV19
set_option linter.unusedVariables false
set_option linter.unusedSimpArgs false
set_option maxHeartbeats 8000000
set_option maxRecDepth 100000
namespace Go.Proofs.YtblipmifflfnoaaGreatDoor
namespace Gm
open Go Go.ChangeShapes Go.WideShapes Go.ChangeAt Go.RowKit Base Ints Own Clone RelG PlP Bd1 Bd2 Bd5 Bd6 Bd7 Bd8 RegInv RegF RegG
theorem isg_i (v:Vr) (g:Gm) (hg:gmB v g=true) (S:Nat->Prop) (u1 u2:Value) (w:World) (hR:BdR w S u1 u2 g.b) :
  Calls Tryz.prog 126 #[.agg #[.int .i64 v.p,.int .i64 v.c,.int .i64 v.h,.int .i64 v.s],.agg ⟨gmC u1 u2 g⟩] w λ e w'=>e=.returned (.bool true)∧Below w.heap.size w w':=by
 have hp:=gm_parts hg;have hq:=gm_rest hg;have Q:=hp.1;have ae:okV v=true:=okV_iff.2 Q.v1;have aK:=kD (gm_zero hg);have aC:=kD hR;obtain⟨⟨A1,c1,rfl,r1,k1⟩,⟨A2,c2,rfl,r2,k2⟩⟩:=hR;obtain⟨o,ho⟩:∃ o,over g.b=o:=⟨_,rfl⟩;have CV:=kD (λ f=>var_i v true ae f);have CB:=kD (λ(f:World) (Y:Below w.heap.size w f)=>Bd3I.isB_i v g.b A1 A2 c1 c2 f.heap.size f (Nat.le_refl _) (r1.keep (.below Y)).rd (r2.keep (.below Y)).rd true (okB_iff.2 Q));have CP:=kD (λ f=>in_i g.pl 0 1 true (decide_eq_true hp.2.2.1) f);have CT:=kD (λ f=>in_i g.tn 0 2000 true (decide_eq_true hp.2.2.2.1) f);have ai:=kD (λ(f:World) (Y:Below w.heap.size w f)=>over_i v g.b Q A1 A2 c1 c2 f.heap.size f (Nat.le_refl _) (r1.keep (.below Y)).rd (r2.keep (.below Y)).rd o ho);have ar:=kD (λ(hr:rollB v g.x g.y=true) f=>Bd15.isroll_i v g.x g.y true (by rw [ae];exact hr) f);have aM:=kD (λ f=>start_i v ae hp.2.1 f);have aq:=kD (λ(f:World) (Y:Below w.heap.size w f)=>sum_i A1 c1 f.heap.size g.b.1 f (r1.keep (.below Y)).rd (λ i=>⟨Q.own.nn i,by have:=Q.own.top i;have:=Q.v1;omega⟩) (by have:=Q.own.len;have:=Q.v1;omega));have ah:=kD (λ(z:Int) (hz:resP v g.b=z) (f:World) (Y:Below w.heap.size w f)=>res_i v g.b Q S _ _ z hz f (aC.out.keep (.below Y)));have av:=kD (λ(h:1<=g.rs∧g.rs<=3) f=>in_i g.rs 1 3 true (decide_eq_true h) f);obtain⟨n1,ab⟩:∃ n,g.b.1.length=n:=⟨_,rfl⟩;obtain⟨X,af⟩:∃ n,g.b.2.length=n:=⟨_,rfl⟩;rw [ab] at aq;rw [ab,af] at CB ai ah aC;rw [ab,af];have ba:decide (v.p<4)=false:=decide_eq_false (by have:=hp.2.1;omega);have HQ:=kD hq;have aF:=kD (λ h=>(hp.2.2.2.2.1 h).1.1);have aJ:Hid (0<n1∧n1<=1000):=by have:=Q.own.len;have:=Q.v1;exact⟨by omega,by omega⟩
 have R1:=kD r1;have R2:=kD r2;have HP:=kD hp.2.2.2.2.2;have aI:=kD hp.2.2.1;have HO:=kD ho;have ap:=kD ab;have ao:=kD af;clear hq hp Q ae hg ho r1 r2 k1 k2 ab af;go_enter Tryz.func126,Tryz.ntmps126;go_upto_region 1 with fail;refine wp_gen (λ W'=>Gb w W' v (.slice A1 n1 c1) (.slice A2 X c2) g) ⟨by go_grown,(RowB.new _ _ _).alloc _,RowB.new' _ _ _ (by simp)⟩ ?_;intro w1 K;obtain⟨D,C,B,t⟩:=K.rv.c4;obtain⟨P,O,N,M,J,I,H,G,E⟩:=row9 K.rg;have j:=K.rv.lt;have k:=K.rg.lt;go_wp2_with fail;refine(CV.out _).mono ?_;rintro e w2 ⟨rfl,V⟩;have K:=K.below V;clear D C B t P O N M J I H G E j k;clear V;obtain⟨D,C,B,t⟩:=K.rv.c4;obtain⟨P,O,N,M,J,I,H,G,E⟩:=row9 K.rg;have j:=K.rv.lt;have k:=K.rg.lt;go_wp2_with fail;refine(CB.out _ K.bel).mono ?_;rintro e w2 ⟨rfl,V⟩;have K:=K.below V;clear D C B t P O N M J I H G E j k;clear V;obtain⟨D,C,B,t⟩:=K.rv.c4;obtain⟨P,O,N,M,J,I,H,G,E⟩:=row9 K.rg;have j:=K.rv.lt;have k:=K.rg.lt;go_wp2_with fail;refine(CP.out _).mono ?_;rintro e w2 ⟨rfl,rfl⟩;go_wp2_with fail;refine(CT.out _).mono ?_;rintro e w2 ⟨rfl,rfl⟩;clear CV CB CP CT;by_cases h2:g.ph=2
 ·have e2:(g.ph == 2)=true:=by rw [h2];rfl
  have ar:=kD (ar.out (HQ.out.1 h2));obtain⟨aa,R,T⟩:=HP.out (.inr h2);obtain rfl:o=false:=HO.out.symm.trans aa;have e0:(g.ph == 0)=false:=by rw [h2];rfl
  have e1:(g.ph == 1)=false:=by rw [h2];rfl
  have ew:(g.wn == 0)=true:=by rw [R];rfl
  have er:(g.rs == 0)=true:=by rw [T];rfl
  have a8:¬ g.x=0:=by have:=aF.out h2;omega
  clear h2 aa R T;go_wp2_with fail;go_still_tail 16,(by kernel_rfl);go_wp2_with fail;refine(ar.out _).mono ?_;rintro e w2 ⟨rfl,V⟩;have K:=K.below ((Below.refl _ _).drew.trans V);clear D C B t P O N M J I H G E j k V;obtain⟨D,C,B,t⟩:=K.rv.c4;obtain⟨P,O,N,M,J,I,H,G,E⟩:=row9 K.rg;have j:=K.rv.lt;have k:=K.rg.lt;go_wp2_with fail;refine(ai.out _ K.bel).mono ?_;rintro e w2 ⟨rfl,V⟩;have K:=K.below V;clear D C B t P O N M J I H G E j k;clear V;obtain⟨D,C,B,t⟩:=K.rv.c4;obtain⟨P,O,N,M,J,I,H,G,E⟩:=row9 K.rg;have j:=K.rv.lt;have k:=K.rg.lt;go_wp2_with fail;go_ret;exact⟨rfl,K.bel⟩
 have e2:(g.ph == 2)=false:=by simpa using h2
 obtain⟨ak,aj⟩:=HQ.out.2.1 h2;have ex:(g.x != 0)=false:=by rw [ak];rfl
 have ey:(g.y != 0)=false:=by rw [aj];rfl
 have be:(g.x == 0)=true:=by rw [ak];rfl
 have bd:(g.y == 0)=true:=by rw [aj];rfl
 clear ak aj;go_wp2_with fail;go_quiet (fail);go_wp2_with fail;refine(ai.out _ (below_drewN K.bel nq)).mono ?_;rintro e aD ⟨rfl,V⟩;have K:=K.below ((below_drewN (Below.refl _ _) nq).trans V);clear D C B t P O N M J I H G E j k V;obtain⟨D,C,B,t⟩:=K.rv.c4;obtain⟨P,O,N,M,J,I,H,G,E⟩:=row9 K.rg;have j:=K.rv.lt;have k:=K.rg.lt;obtain⟨w2,ax⟩:∃ u,aD=u:=⟨_,rfl⟩;rw [ax] at K D C B t P O N M J I H G E j k ⊢;clear ax;clear ai;rcases HQ.out.2.2.1 with h0 | h1 | h2' | h3
 ·have HG:=kD (aK.out h0);have e0:(g.ph == 0)=true:=by rw [h0];rfl
  have ew:(g.wn == 0)=true:=by rw [HG.out];rfl
  have er:(g.rs == 0)=true:=by rw [HG.out];rfl
  have ep:(g.pl == 0)=true:=by rw [HG.out];rfl
  have et:(g.tn == 0)=true:=by rw [HG.out];rfl
  have ac:g.b=startB v:=by rw [HG.out];rfl
  have aB:X=n1:=by rw [<-ap.out,<-ao.out,ac];rfl
  subst aB;have am:(startB v).1.length=X:=by rw [<-ac];exact ap.out
  have al:(startB v).2.length=X:=by rw [<-ac];exact ao.out
  have bb:0<X∧X<=1000:=aJ.out;have aL:=kD (λ(A3 A4:Option Addr) (c3 c4:Nat) (f:World) (Y:Below w.heap.size w f) (p3:RdS f f.heap.size 1 enI A3 (startB v).1) (p4:RdS f f.heap.size 1 enI A4 (startB v).2)=>Bd31.same_i g.b (startB v) X ap.out ao.out am al A1 A2 A3 A4 c1 c2 c3 c4 f (R1.out.keep (.below Y)).rd (R2.out.keep (.below Y)).rd p3 p4 true (decide_eq_true ac));have aH:=kD am;have aG:=kD al;clear h0 ac am al h2;go_wp2_with fail;refine(aM.out _).mono ?_;rintro e w3 ⟨v6,rfl,⟨u3,u4,b3,rfl,aE,Z⟩,ag⟩;obtain rfl:=Z _ rfl;have K:=K.below ag;obtain⟨⟨A5,c5,rfl,p5,k5⟩,⟨A6,c6,rfl,p6,k6⟩⟩:=aE;rw [aH.out,aG.out];have P5:=kD p5;have P6:=kD p6;clear D C B t P O N M J I H G E j k ag p5 p6 Z;go_upto_region 9 with fail;refine wp_gen (λ W'=>Gb w W' v (.slice A1 X c1) (.slice A2 X c2) g∧RowB W' w3.heap.size 46 [.slice A5 X c5,.slice A6 X c6]∧Hid (RdS W' W'.heap.size 1 enI A5 (startB v).1)∧Hid (RdS W' W'.heap.size 1 enI A6 (startB v).2)) ⟨K.below ((Below.refl _ _).alloc (Nat.le_refl _) _),RowB.new _ _ _,kD (P5.out.keep (.below ((Below.refl _ _).alloc (Nat.le_refl _) _))).rd,kD (P6.out.keep (.below ((Below.refl _ _).alloc (Nat.le_refl _) _))).rd⟩ ?_;clear K P5 P6;rintro w4 ⟨K,rx,P5,P6⟩;obtain⟨D,C,B,t⟩:=K.rv.c4;obtain⟨P,O,N,M,J,I,H,G,E⟩:=row9 K.rg;have j:=K.rv.lt;have k:=K.rg.lt;obtain⟨x0,x1⟩:=rx.c2;have bc:=rx.lt;go_wp2_with fail;refine(aL.out A5 A6 c5 c6 _ K.bel P5.out P6.out).mono ?_;rintro e w2 ⟨rfl,V⟩;have K:=K.below V;clear D C B t P O N M J I H G E j k;clear V;obtain⟨D,C,B,t⟩:=K.rv.c4;obtain⟨P,O,N,M,J,I,H,G,E⟩:=row9 K.rg;have j:=K.rv.lt;have k:=K.rg.lt;go_wp2_with fail;go_ret;exact⟨rfl,K.bel⟩
 ·obtain⟨aa,R,T⟩:=HP.out (.inl h1);obtain rfl:o=false:=HO.out.symm.trans aa;have e0:(g.ph == 0)=false:=by rw [h1];rfl
  have e1:(g.ph == 1)=true:=by rw [h1];rfl
  have ew:(g.wn == 0)=true:=by rw [R];rfl
  have er:(g.rs == 0)=true:=by rw [T];rfl
  clear h1 aa R T h2;go_wp2_with fail;go_ret;exact⟨rfl,K.bel⟩
 ·exact absurd h2' h2
 ·have e0:(g.ph == 0)=false:=by rw [h3];rfl
  have e1:(g.ph == 1)=false:=by rw [h3];rfl
  have e3:(g.ph == 3)=true:=by rw [h3];rfl
  have ad:=HQ.out.2.2.2 h3;rw [HO.out] at ad;clear h3 h2
  cases o
  case false =>
   obtain⟨ay,aA⟩:=ad.2 rfl;have av:=kD (av.out aA);have a9:IntKind.i64.wrap (1 - g.pl)=1 - g.pl:=IntWalk.i64_in _ (by have:=aI.out;omega);have ew:(g.wn == 1 - g.pl)=true:=by rw [ay];simp
   clear ad ay aA;go_wp2_with fail;refine(av.out _).mono ?_;rintro e w3 ⟨rfl,rfl⟩;go_wp2_with fail;go_ret;exact⟨rfl,K.bel⟩
  case true =>
   obtain⟨an,R,T⟩:=ad.1 rfl;have ah:=kD (ah.out g.rs T.symm);obtain⟨z1,aw⟩:∃ z,g.b.1.sum=z:=⟨_,rfl⟩;rw [aw] at aq an;have es:(z1 == 0)=true:=by rw [an];rfl
   have ew:(g.wn == g.pl)=true:=by rw [R];simp
   have er:(g.rs == g.rs)=true:=by simp
   clear ad an R T aw;have W:=K;clear K;go_wp2_with fail;refine region_relG [some 109,some 110,some 111,some 112,some 113,some 114,some 115,some 116,some 117,some 118,some 119,some 120,some 121,some 122,some 123,some 124,some 125,some 126,some 127,some 128,some 129,some 4] 22 [some (.pointer (some ⟨w.heap.size+1,0,none⟩)),some (.pointer (some ⟨w.heap.size+1,0,none⟩)),some (.slice A1 n1 c1),some (.int .i64 z1),some (.bool true),some (.bool true),some (.pointer (some ⟨w.heap.size+1,6,none⟩)),some (.int .i64 g.wn),some (.pointer (some ⟨w.heap.size+1,2,none⟩)),some (.int .i64 g.pl),some (.bool true),some (.bool true),some (.bool true),some (.pointer (some ⟨w.heap.size+1,7,none⟩)),some (.int .i64 g.rs),some (.agg #[.int .i64 v.p,.int .i64 v.c,.int .i64 v.h,.int .i64 v.s]),some (.pointer (some ⟨w.heap.size+1,0,none⟩)),some (.agg #[.slice A1 n1 c1,.slice A2 X c2]),some (.int .i64 g.rs),some (.bool true),some (.bool true),some (.bool true)] (λ L a w'=>Below w2.heap.size w2 w') (by kernel_rfl) (by kernel_rfl) (by kernel_rfl) (by kernel_rfl) (by kernel_rfl) (by kernel_rfl) (by first | kernel_rfl | rfl) ?g0_1 ?gst_1 ?gfin_1
   case g0_1=>exact(Below.refl _ _).drew
   case gst_1 =>
    refine rN rfl (λ L a A f l m q U F K r=>?_) ?_
    ·have e3:=U.w 3 (.pointer (some ⟨w.heap.size+1,0,none⟩));have d:=W.below F;obtain⟨D,C,B,t⟩:=d.rv.c4;obtain⟨P,O,N,M,J,I,H,G,E⟩:=row9 d.rg;have j:=d.rv.lt;have k:=d.rg.lt;clear d;go_simp;exact pF r (F)
    refine rN rfl (λ L a A f l m q U F K r=>?_) ?_
    ·have a7:=U.v 0 109;have d:=W.below F;obtain⟨D,C,B,t⟩:=d.rv.c4;obtain⟨P,O,N,M,J,I,H,G,E⟩:=row9 d.rg;have j:=d.rv.lt;have k:=d.rg.lt;clear d;go_simp;exact pF r (F)
    refine rN rfl (λ L a A f l m q U F K r=>?_) ?_
    ·have a6:=U.v 1 110;have d:=W.below F;obtain⟨D,C,B,t⟩:=d.rv.c4;obtain⟨P,O,N,M,J,I,H,G,E⟩:=row9 d.rg;have j:=d.rv.lt;have k:=d.rg.lt;clear d;go_simp;exact pF r (F)
    refine rN rfl (λ L a A f l m q U F K r=>?_) ?_
    ·have a5:=U.v 2 111;go_simp;refine(aq.out f (W.bel.trans (F.mono W.bel.size))).mono ?_;rintro e w6 ⟨rfl,rfl⟩;exact pF r F
    refine rN rfl (λ L a A f l m q U F K r=>?_) ?_
    ·have a4:=U.v 3 112;go_simp;exact pF r (F)
    refine rN rfl (λ L a A f l m q U F K r=>?_) ?_
    ·have a3:=U.v 4 113;go_simp;exact pF r (F)
    refine rN rfl (λ L a A f l m q U F K r=>?_) ?_
    ·have e3:=U.w 3 (.pointer (some ⟨w.heap.size+1,0,none⟩));have d:=W.below F;obtain⟨D,C,B,t⟩:=d.rv.c4;obtain⟨P,O,N,M,J,I,H,G,E⟩:=row9 d.rg;have j:=d.rv.lt;have k:=d.rg.lt;clear d;go_simp;exact pF r (F)
    refine rN rfl (λ L a A f l m q U F K r=>?_) ?_
    ·have a1:=U.v 6 115;have d:=W.below F;obtain⟨D,C,B,t⟩:=d.rv.c4;obtain⟨P,O,N,M,J,I,H,G,E⟩:=row9 d.rg;have j:=d.rv.lt;have k:=d.rg.lt;clear d;go_simp;exact pF r (F)
    refine rN rfl (λ L a A f l m q U F K r=>?_) ?_
    ·have e3:=U.w 3 (.pointer (some ⟨w.heap.size+1,0,none⟩));have d:=W.below F;obtain⟨D,C,B,t⟩:=d.rv.c4;obtain⟨P,O,N,M,J,I,H,G,E⟩:=row9 d.rg;have j:=d.rv.lt;have k:=d.rg.lt;clear d;go_simp;exact pF r (F)
    refine rN rfl (λ L a A f l m q U F K r=>?_) ?_
    ·have aZ:=U.v 8 117;have d:=W.below F;obtain⟨D,C,B,t⟩:=d.rv.c4;obtain⟨P,O,N,M,J,I,H,G,E⟩:=row9 d.rg;have j:=d.rv.lt;have k:=d.rg.lt;clear d;go_simp;exact pF r (F)
    refine rN rfl (λ L a A f l m q U F K r=>?_) ?_
    ·have a0:=U.v 7 116;have aY:=U.v 9 118;go_simp;exact pF r (F)
    refine rN rfl (λ L a A f l m q U F K r=>?_) ?_
    ·have a2:=U.v 5 114;have aX:=U.v 10 119;go_simp;exact pF r (F)
    refine rN rfl (λ L a A f l m q U F K r=>?_) ?_
    ·have aW:=U.v 11 120;go_simp;exact pF r (F)
    refine rN rfl (λ L a A f l m q U F K r=>?_) ?_
    ·have e3:=U.w 3 (.pointer (some ⟨w.heap.size+1,0,none⟩));have d:=W.below F;obtain⟨D,C,B,t⟩:=d.rv.c4;obtain⟨P,O,N,M,J,I,H,G,E⟩:=row9 d.rg;have j:=d.rv.lt;have k:=d.rg.lt;clear d;go_simp;exact pF r (F)
    refine rN rfl (λ L a A f l m q U F K r=>?_) ?_
    ·have aU:=U.v 13 122;have d:=W.below F;obtain⟨D,C,B,t⟩:=d.rv.c4;obtain⟨P,O,N,M,J,I,H,G,E⟩:=row9 d.rg;have j:=d.rv.lt;have k:=d.rg.lt;clear d;go_simp;exact pF r (F)
    refine rN rfl (λ L a A f l m q U F K r=>?_) ?_
    ·have e2:=U.w 2 (.pointer (some ⟨w.heap.size,0,none⟩));have d:=W.below F;obtain⟨D,C,B,t⟩:=d.rv.c4;obtain⟨P,O,N,M,J,I,H,G,E⟩:=row9 d.rg;have j:=d.rv.lt;have k:=d.rg.lt;clear d;go_simp;exact pF r (F)
    refine rN rfl (λ L a A f l m q U F K r=>?_) ?_
    ·have e3:=U.w 3 (.pointer (some ⟨w.heap.size+1,0,none⟩));have d:=W.below F;obtain⟨D,C,B,t⟩:=d.rv.c4;obtain⟨P,O,N,M,J,I,H,G,E⟩:=row9 d.rg;have j:=d.rv.lt;have k:=d.rg.lt;clear d;go_simp;exact pF r (F)
    refine rN rfl (λ L a A f l m q U F K r=>?_) ?_
    ·have aR:=U.v 16 125;have d:=W.below F;obtain⟨D,C,B,t⟩:=d.rv.c4;obtain⟨P,O,N,M,J,I,H,G,E⟩:=row9 d.rg;have j:=d.rv.lt;have k:=d.rg.lt;clear d;go_simp;exact pF r (F)
    refine rN rfl (λ L a A f l m q U F K r=>?_) ?_
    ·have aS:=U.v 15 124;have aQ:=U.v 17 126;go_simp;refine(ah.out f (W.bel.trans (F.mono W.bel.size))).mono ?_;rintro e w6 ⟨rfl,ag⟩;exact pF r (F.trans (ag.mono F.size))
    refine rN rfl (λ L a A f l m q U F K r=>?_) ?_
    ·have aT:=U.v 14 123;have aP:=U.v 18 127;go_simp;exact pF r (F)
    refine rN rfl (λ L a A f l m q U F K r=>?_) ?_
    ·have aV:=U.v 12 121;have aO:=U.v 19 128;go_simp;exact pF r (F)
    refine rN rfl (λ L a A f l m q U F K r=>?_) ?_
    ·have aN:=U.v 20 129;go_simp;exact pF r (F)
    exact RelFrom.nil (by decide)
   intro a f hp F;simp only [Fr,Act.put,sX,Nat.reduceAdd];go_wp2_with fail;have az:a 21=.bool true:=hp 21 (by decide) _ rfl;rw [az];go_ret;exact⟨rfl,(W.below F).bel⟩
structure Rows (w wr:World) (L:List (Nat × TypeId × List Value)):Prop where
 bel:Below w.heap.size w wr
 at_:∀ p ∈ L,RowB wr (w.heap.size+p.1) p.2.1 p.2.2
section
variable {w wr w':World} {L:List (Nat × TypeId × List Value)}
theorem Rows.below (k:Rows w wr L) (hb:Below wr.heap.size wr w'):Rows w w' L :=
 ⟨k.bel.trans (hb.mono k.bel.size),λ p hp=>(k.at_ p hp).below hb (k.at_ p hp).lt⟩
theorem Rows.nth (k:Rows w wr L) (i:Nat) {o:Nat} {t:TypeId} {cs:List Value} (h:L[i]?=some (o,t,cs)):RowB wr (w.heap.size+o) t cs:=k.at_ _ (List.mem_of_getElem? h)
theorem Rows.nth0 (k:Rows w wr L) (i:Nat) {t:TypeId} {cs:List Value} (h:L[i]?=some (0,t,cs)):RowB wr w.heap.size t cs:=k.at_ _ (List.mem_of_getElem? h)
theorem Rows.grown (k:Rows w wr L) (o:Nat) {t:TypeId} {new:List Value} (h:RowB w' (w.heap.size+o) t new) (hg:wr.grownBy w' (some (w.heap.size+o))):Rows w w' (L.map λ p=>if p.1=o then (o,t,new) else p):=by
 refine⟨⟨hg.os.trans k.bel.os,hg.tape.trans k.bel.tape,hg.output.trans k.bel.output,Nat.le_trans k.bel.size hg.size,λ i a=>(hg.block i (Nat.lt_of_lt_of_le a k.bel.size) (λ e=>by simp at e;omega)).trans (k.bel.block i a)⟩,λ p d=>?_⟩;obtain⟨q,c,rfl⟩:=List.mem_map.1 d;by_cases e:q.1=o
 ·rw [if_pos e];exact h
 ·rw [if_neg e];have r:=k.at_ q c;exact(hg.block _ r.lt (λ b=>by simp at b;exact e b)).trans r
theorem Rows.set1 (k:Rows w wr L) (o j:Nat) (v:Value):Rows w (wr.setCell ⟨w.heap.size+o,j,none⟩ v) (L.map λ p=>if p.1=o then (p.1,p.2.1,p.2.2.set j v) else p):=by
 have a:=Base.grownBy_setCell wr (w.heap.size+o) j v;refine⟨⟨a.os.trans k.bel.os,a.tape.trans k.bel.tape,a.output.trans k.bel.output,Nat.le_trans k.bel.size a.size,λ i b=>(a.block i (Nat.lt_of_lt_of_le b k.bel.size) (λ e=>by simp at e;omega)).trans (k.bel.block i b)⟩,λ p f=>?_⟩;obtain⟨q,d,rfl⟩:=List.mem_map.1 f;have r:=k.at_ q d;by_cases e:q.1=o
 ·rw [if_pos e];have:=r.set j v;rw [<-e];exact this
 ·rw [if_neg e];exact(a.block _ r.lt (λ c=>by simp at c;exact e c)).trans r
theorem Rows.less (k:Rows w wr L) {L':List (Nat × TypeId × List Value)} (h:∀ p ∈ L',p ∈ L):Rows w wr L':=⟨k.bel,λ p hp=>k.at_ p (h p hp)⟩
end
theorem BdR.grown {w w':World} {S:Nat->Prop} {u1 u2:Value} {b:Bd} {row:Option Nat} (h:BdR w S u1 u2 b) (hg:w.grownBy w' row) (hr:∀ g,row=some g->¬ S g):BdR w' S u1 u2 b:=h.keep (Still.grown hg hr)
theorem pair_s (a b:Int) (w:World):Calls Tryz.prog 149 #[.int .i64 a,.int .i64 b] w λ e w'=>e=.returned (.agg #[.int .i64 (max a b),.int .i64 (min a b)])∧Below w.heap.size w w':=by
 go_enter Tryz.func149,Tryz.ntmps149;go_wp2_with fail;go_returns;exact⟨rfl,by go_grown⟩
theorem pair_i (a b:Int) (w:World):Calls Tryz.prog 129 #[.int .i64 a,.int .i64 b] w λ e w'=>e=.returned (.agg #[.int .i64 (max a b),.int .i64 (min a b)])∧Below w.heap.size w w':=by
 go_enter Tryz.func129,Tryz.ntmps129;go_wp2_with fail;go_returns;exact⟨rfl,by go_grown⟩
theorem cloneg_i (v:Vr) (g:Gm) (hok:Ok v g.b) (S:Nat->Prop) (u1 u2:Value) (w:World) (hR:BdR w S u1 u2 g.b) :
  Calls Tryz.prog 127 #[.agg ⟨gmC u1 u2 g⟩] w λ e w'=>Ret RelGV g (λ _=>False) w e w':=by
 obtain⟨⟨A1,c1,rfl,Y,k1⟩,⟨A2,c2,rfl,X,k2⟩⟩:=hR;have R:=kD (λ(L:World) (h9:Below w.heap.size w L)=>clone_i g.b.1 g.b.2 A1 A2 c1 c2 L.heap.size L (Nat.le_refl _) (Y.keep (.below h9)).rd (X.keep (.below h9)).rd k1 k2 (by have:=hok.own.len;have:=hok.v1.1;omega) (by have:=hok.oth.len;have:=hok.v1.1;omega));obtain⟨l,h⟩:∃ n,g.b.1.length=n:=⟨_,rfl⟩;obtain⟨k,f⟩:∃ n,g.b.2.length=n:=⟨_,rfl⟩;rw [h,f] at R;rw [h,f];have E:=kD h;have D:=kD f;clear Y X hok h f;go_enter Tryz.func127,Tryz.ntmps127;go_upto_region 1 with fail;refine wp_gen (λ I=>Rows w I [(0,50,gmC (.slice A1 l c1) (.slice A2 k c2) g),(1,50,gM)]) ⟨by go_grown,λ p Z=>?_⟩ ?_
 ·simp only [List.mem_cons,List.not_mem_nil,or_false] at Z;rcases Z with rfl | rfl
  ·exact(RowB.new _ _ _).alloc _
  ·exact RowB.new' _ _ _ (by simp)
 intro H K;have c:=K.nth0 0 rfl;obtain⟨A,z,y,x,t,s,r,q,o⟩:=row9 c;have d:=c.lt;have Q:Hid (w.heap.size+2<=H.heap.size):=(K.nth 1 rfl).lt;go_wp2_with fail;refine(R.out _ K.bel).mono ?_;rintro e T ⟨G,C,F,B,rfl,N,M,-,i⟩;have K:=K.below i;have aa:w.heap.size+2<=H.heap.size:=Q.out;have c:=K.nth0 0 rfl;clear A z y x t s r q o d i R;obtain⟨A,z,y,x,t,s,r,q,o⟩:=row9 c;have d:=c.lt;have P:=c.frozen;rw [E.out] at N;rw [D.out] at M;have m:BdR T (λ b=>w.heap.size+2<=b) (.slice G l C) (.slice F k B) g.b:=⟨(relV 1 enI).weak (OwnV.sl enI_len (OwnV.of N (Nat.le_refl _) (S:=λ b=>H.heap.size<=b) (λ b i _=>i))) (λ b i _=>by omega),(relV 1 enI).weak (OwnV.sl enI_len (OwnV.of M (Nat.le_refl _) (S:=λ b=>H.heap.size<=b) (λ b i _=>i))) (λ b i _=>by omega)⟩;have a:=kD m;clear N M m c;rw [E.out,D.out];go_upto_region 2 with fail;refine wp_gen (λ I=>Rows w I [(0,50,gmC (.slice G l C) (.slice F k B) g),(1,50,gM)]∧Hid (BdR I (λ b=>w.heap.size+2<=b) (.slice G l C) (.slice F k B) g.b)) ⟨(K.set1 0 0 _).set1 0 1 _,kD (a.out.grown (two_grown T (w.heap.size+0) _ _) (λ g O hs=>by simp at O;omega))⟩ ?_;clear K a A z y x t s r q o d P;rintro w3 ⟨K,a⟩;have c:=K.nth0 0 rfl;obtain⟨A,z,y,x,t,s,r,q,o⟩:=row9 c;have d:=c.lt;have W:=K.nth 1 rfl;go_wp2_with (refine wM 50 0 (gmC (.slice G l C) (.slice F k B) g) W ?_;intro w7 V j z7);have K:=K.grown 1 V j;have a:=kD (a.out.grown j (λ g O hs=>by simp at O;omega));obtain⟨z0,z1,z2,z3,z4,z5,z6,J,z8⟩:=row9 V;clear j A z y x t s r q o d c W;go_wp2_with fail;refine bodyPost_ret (v:=.agg ⟨gmC (.slice G l C) (.slice F k B) g⟩) (by simp [results,Tryz.results127,go_sem,gmC,z0,z1,z2,z3,z4,z5,z6,J,z8]) rfl ?_;exact⟨_,rfl,⟨_,_,rfl,a.out.weak (λ b i _=>.inr (by omega))⟩,K.bel⟩
theorem owng_s (v:Vr) (g:Gm) (hok:Ok v g.b) (S:Nat->Prop) (u1 u2:Value) (w:World) (hR:BdR w S u1 u2 g.b) :
  Calls Tryz.prog 110 #[.agg ⟨gmC u1 u2 g⟩] w λ e w'=>Ret RelGV g (λ _=>False) w e w':=by
 obtain⟨⟨X,V,rfl,r1,k1⟩,⟨W,T,rfl,r2,k2⟩⟩:=hR;have R:=kD (λ(i:World) (h9:Below w.heap.size w i)=>own02 X V i.heap.size g.b.1 i (Nat.le_refl _) (r1.keep (.below h9)).rd k1 (by have:=hok.own.len;have:=hok.v1.1;omega));have Q:=kD (λ(i:World) (h9:Below w.heap.size w i)=>own02 W T i.heap.size g.b.2 i (Nat.le_refl _) (r2.keep (.below h9)).rd k2 (by have:=hok.oth.len;have:=hok.v1.1;omega));obtain⟨H,s⟩:∃ n,g.b.1.length=n:=⟨_,rfl⟩;obtain⟨G,q⟩:∃ n,g.b.2.length=n:=⟨_,rfl⟩;rw [s] at R;rw [q] at Q;rw [s,q];have an:=kD s;have am:=kD q;clear r1 r2 hok s q;go_enter Tryz.func110,Tryz.ntmps110;go_upto_region 1 with fail;refine wp_gen (λ W'=>Rows w W' [(0,50,gmC (.slice X H V) (.slice W G T) g),(1,50,gM)]) ⟨by go_grown,λ p hp=>?_⟩ ?_
 ·simp only [List.mem_cons,List.not_mem_nil,or_false] at hp;rcases hp with rfl | rfl
  ·exact(RowB.new _ _ _).alloc _
  ·exact RowB.new' _ _ _ (by simp)
 intro w1 m;have E:=m.nth0 0 rfl;have ad:=E.lt;have ag:Hid (w.heap.size+2<=w1.heap.size):=(m.nth 1 rfl).lt;refine region_rel [some 3,some 4,some 5,some 6,some 7,some 8,some 9,some 10,some 11,some 12,none] 11 (Pl [some (.pointer (some ⟨w.heap.size,0,none⟩)),some (.pointer (some ⟨w.heap.size,0,none⟩)),some (.slice X H V),none,some (.pointer (some ⟨w.heap.size,0,none⟩)),some (.pointer (some ⟨w.heap.size,1,none⟩)),some (.slice W G T),none,none,some (.pointer (some ⟨w.heap.size,0,none⟩)),none]) (λ L c w'=>C2E RelI g.b.1 RelI g.b.2 w1 3 7 8 10 (λ a b=>.agg #[a,b]) w.heap.size 50 (gmC (.slice X H V) (.slice W G T) g) (λ x=>aggC x++(gmC (.slice X H V) (.slice W G T) g).drop 2) L c w') (by kernel_rfl) (by kernel_rfl) (by kernel_rfl) (by kernel_rfl) (by kernel_rfl) (by kernel_rfl) (by first | kernel_rfl | rfl) ?g0_1 ?gst_1 ?gfin_1
 case g0_1=>exact⟨⟨rfl,rfl,rfl,Nat.le_refl _,λ _ _ _=>rfl⟩,ad,λ h=>absurd h (by decide),λ h=>absurd h (by decide),λ h=>absurd h (by decide),λ _=>E,λ h=>absurd h (by decide)⟩
 case gst_1 =>
  refine rN rfl (λ L c A i d f j U F K l=>?_) ?_
  ·have e1:=U.w 1 (.pointer (some ⟨w.heap.size,0,none⟩));go_simp;exact pF l (F.skip 0 _)
  refine rN rfl (λ L c A i d f j U F K l=>?_) ?_
  ·have e3:=U.v 0 3;go_simp;exact pF l (F.skip 1 _)
  refine rN rfl (λ L c A i d f j U F K l=>?_) ?_
  ·have e4:=U.v 1 4;have r:=F.row (λ h=>d (j 10 2 (by kernel_rfl) h));have o:=row9 r;have g0:=o.1;have g1:=o.2.1;have ai:=r.lt;clear o;go_simp;exact pF l (F.skip 2 _)
  refine rN rfl (λ L c A i d f j U F K l=>?_) ?_
  ·have e5:=U.v 2 5;go_simp;refine(R.out i ⟨F.bel.os.trans m.bel.os,F.bel.tape.trans m.bel.tape,F.bel.output.trans m.bel.output,Nat.le_trans m.bel.size F.bel.size,λ k hk=>(F.bel.block k (Nat.lt_of_lt_of_le hk m.bel.size) (λ e=>by simp at e;omega)).trans (m.bel.block k hk)⟩).mono ?_;rintro e w6 ⟨⟨v6,rfl,I⟩,M⟩;exact l.out v6 w6 (Pl.any rfl) (F.call1 d (by decide) M (OwnV.sl enI_len (OwnV.of I (Nat.le_refl _) (λ b hb _=>hb))))
  refine rN rfl (λ L c A i d f j U F K l=>?_) ?_
  ·have e1:=U.w 1 (.pointer (some ⟨w.heap.size,0,none⟩));go_simp;exact pF l (F.skip 4 _)
  refine rN rfl (λ L c A i d f j U F K l=>?_) ?_
  ·have e7:=U.v 4 7;go_simp;exact pF l (F.skip 5 _)
  refine rN rfl (λ L c A i d f j U F K l=>?_) ?_
  ·have e8:=U.v 5 8;have r:=F.row (λ h=>d (j 10 6 (by kernel_rfl) h));have o:=row9 r;have g0:=o.1;have g1:=o.2.1;have ai:=r.lt;clear o;go_simp;exact pF l (F.skip 6 _)
  refine rN rfl (λ L c A i d f j U F K l=>?_) ?_
  ·have e9:=U.v 6 9;go_simp;refine(Q.out i ⟨F.bel.os.trans m.bel.os,F.bel.tape.trans m.bel.tape,F.bel.output.trans m.bel.output,Nat.le_trans m.bel.size F.bel.size,λ k hk=>(F.bel.block k (Nat.lt_of_lt_of_le hk m.bel.size) (λ e=>by simp at e;omega)).trans (m.bel.block k hk)⟩).mono ?_;rintro e w6 ⟨⟨v6,rfl,I⟩,M⟩;exact l.out v6 w6 (Pl.any rfl) (F.call2 d (by decide) M (OwnV.sl enI_len (OwnV.of I (Nat.le_refl _) (λ b hb _=>hb))))
  refine rN rfl (λ L c A i d f j U F K l=>?_) ?_
  ·have e6:=U.x 3 6;have af:=U.x 7 10;refine(F.f1 (bK f 3)).elim λ B D=>?_
   refine D.elim λ y D=>?_
   refine(F.f2 (bK f 7)).elim λ z C=>?_
   refine C.elim λ t C=>?_
   have ap:=e6.trans D.1;have ao:=af.trans C.1;clear e6 af;go_simp;exact l.out _ i (Pl.any rfl) (F.built d (by decide) (bK f 3) (bK f 7) (by rw [D.1,C.1]))
  refine rN rfl (λ L c A i d f j U F K l=>?_) ?_
  ·have e1:=U.w 1 (.pointer (some ⟨w.heap.size,0,none⟩));go_simp;exact pF l (F.skip 9 _)
  refine rN rfl (λ L c A i d f j U F K l=>?_) ?_
  ·have ak:=U.v 9 12;have al:=U.x 8 11;have fb:=F.fb (bK f 8);refine(F.f1 fb.1).elim λ B D=>?_
   refine D.elim λ y D=>?_
   refine(F.f2 fb.2.1).elim λ z C=>?_
   refine C.elim λ t C=>?_
   have N:=fb.2.2;rw [D.1,C.1] at N;refine wp_sm 46 _ _ rfl w.heap.size 0 [.slice B g.b.1.length y,.slice z g.b.2.length t] (gmC (.slice X H V) (.slice W G T) g) (ev ak) (ev (al.trans N)) 50 (F.row d) (by kernel_rfl) (show 2<=9 by decide) rfl ?_;exact l.out undef _ (Pl.any rfl) (F.wrote (by decide) d (bK f 8) 0 (by rw [N];rfl))
  exact RelFrom.nil (by decide)
 intro c i hp F;simp only [Fr,Act.put,sX,Nat.reduceAdd];obtain⟨-,r⟩:=F.fw trivial;obtain⟨-,-,ac⟩:=F.fb (F.fw trivial).1;obtain⟨B,y,e3,Z,ab⟩:=F.f1 trivial;obtain⟨z,t,e4,Y,aa⟩:=F.f2 trivial;rw [ac,e3,e4] at r;have ae:=F.bel;have J:BdR i (λ b=>w.heap.size+2<=b) (.slice B g.b.1.length y) (.slice z g.b.2.length t) g.b:=⟨⟨B,y,rfl,Z.weak (λ b h _=>by have:=ag.out;omega),ab⟩,⟨z,t,rfl,Y.weak (λ b h _=>by have:=ag.out;omega),aa⟩⟩;have r:RowB i (w.heap.size+0) 50 (gmC (.slice B g.b.1.length y) (.slice z g.b.2.length t) g):=r;have K:Rows w i [(0,50,gmC (.slice B g.b.1.length y) (.slice z g.b.2.length t) g),(1,50,gM)]:=m.grown 0 r ae;rw [an.out,am.out] at K J;have P:=kD J;clear F hp ac e3 e4 Z Y ab aa ae J r R Q m E ad;have rg:=K.nth0 0 rfl;obtain⟨g0,g1,g2,g3,g4,g5,g6,g7,g8⟩:=row9 rg;have aj:=rg.lt;have o:=K.nth 1 rfl;go_wp2_with (refine wM 50 0 (gmC (.slice B H y) (.slice z G t) g) o ?_;intro w7 s7 O z7);have K:=K.grown 1 s7 O;have P:=kD (P.out.grown O (λ g hg hs=>by simp at hg;omega));obtain⟨z0,z1,z2,z3,z4,z5,z6,ah,z8⟩:=row9 s7;clear O g0 g1 g2 g3 g4 g5 g6 g7 g8 aj rg o;go_wp2_with fail;refine bodyPost_ret (v:=.agg ⟨gmC (.slice B H y) (.slice z G t) g⟩) (by simp [results,Tryz.results110,go_sem,gmC,z0,z1,z2,z3,z4,z5,z6,ah,z8]) rfl ?_;exact⟨_,rfl,⟨_,_,rfl,P.out.weak (λ b hb _=>.inr (by omega))⟩,K.bel⟩
theorem Rows.far {w wr w':World} {L:List (Nat × TypeId × List Value)} (k:Rows w wr L) {gx:Nat} (hg:wr.grownBy w' (some gx)) (h0:w.heap.size<=gx) (h:∀ p ∈ L,w.heap.size+p.1≠gx):Rows w w' L :=
 ⟨⟨hg.os.trans k.bel.os,hg.tape.trans k.bel.tape,hg.output.trans k.bel.output,Nat.le_trans k.bel.size hg.size,λ i hi=>(hg.block i (Nat.lt_of_lt_of_le hi k.bel.size) (λ e=>by simp at e;omega)).trans (k.bel.block i hi)⟩,λ p hp=>(hg.block _ (k.at_ p hp).lt (λ e=>by simp at e;exact h p hp e)).trans (k.at_ p hp)⟩
structure Gx (w wr:World) (L:List (Nat × TypeId × List Value)) (gx:Nat) (cs:List Value) (u3 u4:Value) (bd:Bd) (m:Nat):Prop where
 k:Rows w wr L
 rx:RowB wr gx 50 cs
 sd:BdR wr (λ b=>w.heap.size+m<=b∧b≠gx) u3 u4 bd
section
variable {w wr w':World} {L:List (Nat × TypeId × List Value)} {gx m:Nat} {cs:List Value} {u3 u4:Value} {bd:Bd}
theorem Gx.below (h:Gx w wr L gx cs u3 u4 bd m) (hb:Below wr.heap.size wr w'):Gx w w' L gx cs u3 u4 bd m:=⟨h.k.below hb,h.rx.below hb h.rx.lt,h.sd.below hb⟩
theorem Gx.set1 (h:Gx w wr L gx cs u3 u4 bd m) (hx:w.heap.size+m<=gx) (hL:(L.all λ p=>decide (p.1<m))=true) (j:Nat) (v:Value):Gx w (wr.setCell ⟨gx,j,none⟩ v) L gx (cs.set j v) u3 u4 bd m :=
 ⟨h.k.far (Base.grownBy_setCell _ _ _ _) (by omega) (λ p hp=>by have:=of_decide_eq_true (List.all_eq_true.1 hL p hp);omega),h.rx.set j v,h.sd.grown (Base.grownBy_setCell _ _ _ _) (λ g hg hs=>by simp at hg;omega)⟩
theorem Gx.sides (h:Gx w wr L gx cs u3 u4 bd m) {v3 v4:Value} {b2:Bd} (hs:BdR wr (λ b=>w.heap.size+m<=b∧b≠gx) v3 v4 b2):Gx w wr L gx cs v3 v4 b2 m:=⟨h.k,h.rx,hs⟩
end
theorem side_new {w w':World} {l m:List Int} {A1 A2:Option Addr} {c1 c2:Nat} {S:Nat->Prop} (o1:OwnS w' w.heap.size w'.heap.size 2 1 enI (.slice A1 l.length c1) l) (o2:OwnS w' w.heap.size w'.heap.size 2 1 enI (.slice A2 m.length c2) m) (hS:∀ b,w.heap.size<=b->S b):BdR w' S (.slice A1 l.length c1) (.slice A2 m.length c2) (l,m) :=
 ⟨(relV 1 enI).weak (OwnV.sl enI_len (OwnV.of o1 (Nat.le_refl _) (S:=λ b=>w.heap.size<=b) (λ b hb _=>hb))) (λ b hb _=>hS b hb),(relV 1 enI).weak (OwnV.sl enI_len (OwnV.of o2 (Nat.le_refl _) (S:=λ b=>w.heap.size<=b) (λ b hb _=>hb))) (λ b hb _=>hS b hb)⟩
theorem open_s (v:Vr) (g:Gm) (hok:Ok v g.b) (S:Nat->Prop) (u1 u2:Value) (a b:Int) (w:World) (hR:BdR w S u1 u2 g.b) :
  Calls Tryz.prog 109 #[.agg ⟨gmC u1 u2 g⟩,.int .i64 a,.int .i64 b] w λ e w'=>Ret RelGV (openG g a b) (λ _=>False) w e w':=by
 have HR:=kD hR;have CO:=kD (λ(P:World) (h9:Below w.heap.size w P)=>owng_s v g hok S u1 u2 P (HR.out.keep (.below h9)));have CP:=kD (λ(P:World)=>pair_s a b P);obtain⟨⟨A1,c1,rfl,r1,k1⟩,⟨A2,c2,rfl,r2,k2⟩⟩:=hR;have CS:=kD (λ(P:World) (h9:Below w.heap.size w P)=>swap_s g.b.1 g.b.2 A1 A2 c1 c2 P.heap.size P (Nat.le_refl _) (r1.keep (.below h9)).rd (r2.keep (.below h9)).rd k1 k2 (by have:=hok.own.len;have:=hok.v1.1;omega) (by have:=hok.oth.len;have:=hok.v1.1;omega));obtain⟨i,R⟩:∃ n,g.b.1.length=n:=⟨_,rfl⟩;obtain⟨f,Q⟩:∃ n,g.b.2.length=n:=⟨_,rfl⟩;rw [R,Q] at CO CS;rw [R,Q];have W:=kD R;have V:=kD Q;obtain⟨x,hx⟩:∃ x,max a b=x:=⟨_,rfl⟩;obtain⟨y,hy⟩:∃ x,min a b=x:=⟨_,rfl⟩;rw [hx,hy] at CP;obtain⟨G,hG⟩:∃ q,openG g a b=q:=⟨_,rfl⟩;have ac:G=if a=b then g else { g with b:=if a<b then swp g.b else g.b,pl:=if a<b then 1 else g.pl,ph:=2,x:=x,y:=y }:=by rw [<-hG,<-hx,<-hy];rfl
 rw [hG];have HG:=kD ac;clear hG ac hx hy r1 r2 k1 k2 hok R Q;go_enter Tryz.func109,Tryz.ntmps109;go_upto_region 1 with fail;refine wp_gen (λ O=>Rows w O [(0,50,gmC (.slice A1 i c1) (.slice A2 f c2) g),(1,50,gM)]) ⟨by go_grown,λ p hp=>?_⟩ ?_
 ·simp only [List.mem_cons,List.not_mem_nil,or_false] at hp;rcases hp with rfl | rfl
  ·exact(RowB.new _ _ _).alloc _
  ·exact RowB.new' _ _ _ (by simp)
 intro w1 K;have Z:=K.nth0 0 rfl;obtain⟨g0,g1,g2,g3,g4,g5,g6,g7,g8⟩:=row9 Z;have aa:=Z.lt;have ah:w.heap.size+2<=w1.heap.size:=(K.nth 1 rfl).lt;go_wp2_with fail;refine(CO.out _ K.bel).mono ?_;rintro e w2 ⟨v6,rfl,⟨u3,u4,rfl,T⟩,m⟩;have K:=K.below m;have ag:=m.size;have T:BdR w2 (λ b=>w.heap.size+2<=b) u3 u4 g.b:=T.weak (λ b m _=>m.elim False.elim (λ h=>by omega));have j:=kD T;clear g0 g1 g2 g3 g4 g5 g6 g7 g8 aa Z m T CO;obtain⟨⟨J,H,rfl,-,-⟩,⟨I,F,rfl,-,-⟩⟩:=id j.out;rw [W.out,V.out] at j;rw [W.out,V.out];simp only [gmC];go_upto_region 2 with fail;refine wp_gen (λ O=>Gx w O [(0,50,gmC (.slice A1 i c1) (.slice A2 f c2) g),(1,50,gM)] w2.heap.size (gmC (.slice J i H) (.slice I f F) g) (.slice J i H) (.slice I f F) g.b 2) ⟨K.below ((Below.refl _ _).alloc (Nat.le_refl _) _),RowB.new _ _ _,(j.out.weak (λ b h1 h2=>⟨h1,by omega⟩)).below ((Below.refl _ _).alloc (Nat.le_refl _) _)⟩ ?_;clear K j;intro w3 K;obtain⟨gx,ab⟩:∃ q,w2.heap.size=q:=⟨_,rfl⟩;rw [ab] at K ⊢;have l:w.heap.size+2<=gx:=by omega
 clear ab;by_cases hab:a=b
 ·have N:G=g:=by rw [HG.out,if_pos hab]
  subst N;have af:(a == b)=true:=by simpa using hab
  clear hab HG;obtain⟨E,D,C,B,A,z,t,s,r⟩:=row9 K.rx;have c:=K.rx.lt;have Y:=K.k.nth 1 rfl;go_wp2_with (refine wM 50 0 (gmC (.slice J i H) (.slice I f F) G) Y ?_;intro w7 X d z7);have j:=kD (K.sd.grown d (λ g hg hs=>by simp at hg;omega));have M:=(K.k.grown 1 X d).bel;obtain⟨z0,z1,z2,z3,z4,z5,z6,L,z8⟩:=row9 X;clear d E D C B A z t s r c Y K;go_wp2_with fail;refine bodyPost_ret (v:=.agg ⟨gmC (.slice J i H) (.slice I f F) G⟩) (by simp [results,Tryz.results109,go_sem,gmC,z0,z1,z2,z3,z4,z5,z6,L,z8]) rfl ?_;exact⟨_,rfl,⟨_,_,rfl,j.out.weak (λ b m _=>.inr (by omega))⟩,M⟩
 have af:(a == b)=false:=by simpa using hab
 rw [if_neg hab] at HG;have o:=K.rx.frozen;have c:=K.rx.lt;obtain⟨E,D,C,B,A,z,t,s,r⟩:=row9 K.rx;clear hab;go_upto_region 5 with fail;refine wp_gen (λ O=>Gx w O [(0,50,gmC (.slice A1 i c1) (.slice A2 f c2) g),(1,50,gM)] gx (gmC (.slice J i H) (.slice I f F) { g with ph:=2 }) (.slice J i H) (.slice I f F) g.b 2) (K.set1 l rfl 5 _) ?_;clear K o c E D C B A z t s r;intro w4 K;go_wp2_with fail;refine(CP.out _).mono ?_;rintro e w5 ⟨rfl,m⟩;have K:=K.below m;have o:=K.rx.frozen;have c:=K.rx.lt;obtain⟨E,D,C,B,A,z,t,s,r⟩:=row9 K.rx;clear m CP;go_upto_region 6 with fail;refine wp_gen (λ O=>Gx w O [(0,50,gmC (.slice A1 i c1) (.slice A2 f c2) g),(1,50,gM)] gx (gmC (.slice J i H) (.slice I f F) { g with ph:=2,x:=x,y:=y }) (.slice J i H) (.slice I f F) g.b 2) ((K.set1 l rfl 3 _).set1 l rfl 4 _) ?_;clear K o c E D C B A z t s r;intro w6 K;by_cases hlt:a<b
 rotate_left
 ·have ae:decide (a<b)=false:=decide_eq_false hlt;have N:G={ g with ph:=2,x:=x,y:=y }:=by rw [HG.out];simp only [if_neg hlt]
  subst N;clear HG hlt;obtain⟨E,D,C,B,A,z,t,s,r⟩:=row9 K.rx;have c:=K.rx.lt;have Y:=K.k.nth 1 rfl;go_wp2_with (refine wM 50 0 (gmC (.slice J i H) (.slice I f F) { g with ph:=2,x:=x,y:=y }) Y ?_;intro w7 X d z7);have j:=kD (K.sd.grown d (λ g hg hs=>by simp at hg;omega));have M:=(K.k.grown 1 X d).bel;obtain⟨z0,z1,z2,z3,z4,z5,z6,L,z8⟩:=row9 X;clear d E D C B A z t s r c Y K;go_wp2_with fail;refine bodyPost_ret (v:=.agg ⟨gmC (.slice J i H) (.slice I f F) { g with ph:=2,x:=x,y:=y }⟩) (by simp [results,Tryz.results109,go_sem,gmC,z0,z1,z2,z3,z4,z5,z6,L,z8]) rfl ?_;exact⟨_,rfl,⟨_,_,rfl,j.out.weak (λ b m _=>.inr (by omega))⟩,M⟩
 have ae:decide (a<b)=true:=decide_eq_true hlt;have N:G={ g with b:=swp g.b,pl:=1,ph:=2,x:=x,y:=y }:=by rw [HG.out];simp only [if_pos hlt]
 subst N;have o:=K.rx.frozen;have c:=K.rx.lt;obtain⟨E,D,C,B,A,z,t,s,r⟩:=row9 K.rx;clear HG hlt;go_upto_region 8 with fail;refine wp_gen (λ O=>Gx w O [(0,50,gmC (.slice A1 i c1) (.slice A2 f c2) g),(1,50,gM)] gx (gmC (.slice J i H) (.slice I f F) { g with pl:=1,ph:=2,x:=x,y:=y }) (.slice J i H) (.slice I f F) g.b 2) (K.set1 l rfl 2 _) ?_;clear K o c E D C B A z t s r;intro ad K;have Z:=K.k.nth0 0 rfl;obtain⟨g0,g1,g2,g3,g4,g5,g6,g7,g8⟩:=row9 Z;have aa:=Z.lt;go_wp2_with fail;refine(CS.out _ K.k.bel).mono ?_;rintro e w8 ⟨A5,c5,A6,c6,rfl,o5,o6,-,m⟩;have ai:gx<ad.heap.size:=K.rx.lt;have K:=K.below m;have K:=K.sides (side_new (S:=λ b=>w.heap.size+2<=b∧b≠gx) o5 o6 (λ b m=>⟨by omega,by omega⟩));have o:=K.rx.frozen;have c:=K.rx.lt;obtain⟨E,D,C,B,A,z,t,s,r⟩:=row9 K.rx;clear m o5 o6 CS g0 g1 g2 g3 g4 g5 g6 g7 g8 aa Z;rw [W.out,V.out] at K;rw [W.out,V.out];go_upto_region 9 with fail;refine wp_gen (λ O=>Gx w O [(0,50,gmC (.slice A1 i c1) (.slice A2 f c2) g),(1,50,gM)] gx (gmC (.slice A5 f c5) (.slice A6 i c6) { g with b:=swp g.b,pl:=1,ph:=2,x:=x,y:=y }) (.slice A5 f c5) (.slice A6 i c6) (swp g.b) 2) ((K.set1 l rfl 0 _).set1 l rfl 1 _) ?_;clear K o c E D C B A z t s r;intro P K;obtain⟨E,D,C,B,A,z,t,s,r⟩:=row9 K.rx;have c:=K.rx.lt;have Y:=K.k.nth 1 rfl;go_wp2_with (refine wM 50 0 (gmC (.slice A5 f c5) (.slice A6 i c6) { g with b:=swp g.b,pl:=1,ph:=2,x:=x,y:=y }) Y ?_;intro w7 X d z7);have j:=kD (K.sd.grown d (λ g hg hs=>by simp at hg;omega));have M:=(K.k.grown 1 X d).bel;obtain⟨z0,z1,z2,z3,z4,z5,z6,L,z8⟩:=row9 X;clear d E D C B A z t s r c Y K;go_wp2_with fail;refine bodyPost_ret (v:=.agg ⟨gmC (.slice A5 f c5) (.slice A6 i c6) { g with b:=swp g.b,pl:=1,ph:=2,x:=x,y:=y }⟩) (by simp [results,Tryz.results109,go_sem,gmC,z0,z1,z2,z3,z4,z5,z6,L,z8]) rfl ?_;exact⟨_,rfl,⟨_,_,rfl,j.out.weak (λ b m _=>.inr (by omega))⟩,M⟩
end Gm
end Go.Proofs.YtblipmifflfnoaaGreatDoor
