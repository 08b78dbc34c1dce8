/- Parts of the proof of FnExactReadMatch. Conditions: each theorem's own. -/
import Derived.Test.YtblipmifflfnoaaGreatDoorQ37
set_option linter.unusedVariables false
set_option linter.unusedSimpArgs false
set_option maxHeartbeats 8000000
set_option maxRecDepth 100000
namespace Go.Proofs.YtblipmifflfnoaaGreatDoor
namespace TsI
open Go.ChangeShapes Go.WideShapes Go.ChangeAt Go.RowKit Base Ints Own JoinN PlP TxP Num Bd1 Bd5 RegF RegG TxI
theorem rstep_s (v:Vr) (hv:okV v=true) (t:By) (hl:t.length<=4194304) (w:World) :
  Calls Tryz.prog 105 #[.agg #[.int .i64 v.p,.int .i64 v.c,.int .i64 v.h,.int .i64 v.s],.string (bs t)] w λ e w'=>e=.returned (.tuple #[stpV (optS (rdI v t)).1,.bool (optS (rdI v t)).2])∧Below w.heap.size w w':=by
 have S:=kD (λ L=>guess_s v hv t hl L);rw [<-rd_eq hv];have D:rdS v t=if plainB v (gS v t)=true∧stpT v (gS v t)=t then some (gS v t) else none:=rfl
 obtain⟨R,hR⟩:∃ r,optS (rdS v t)=r:=⟨_,rfl⟩;rw [hR];obtain⟨G,hG⟩:∃ g,gS v t=g:=⟨_,rfl⟩;rw [hG] at S D;obtain⟨f,z,d,h⟩:=G;unfold stpV at S;simp only at S;have K:Hid (R=if plainB v (f,z,d,h)=true∧stpT v (f,z,d,h)=t then ((f,z,d,h),true) else ((0,0,0,false),false)):=by
  show _=_
  rw [<-hR,D];split <;> rfl
 have HV:=kD hv;clear D hR hG hv hl;go_enter Tryz.func105,Tryz.ntmps105;go_upto_region 1 with fail;refine wp_gen (λ A=>Below w.heap.size w A∧RowB A w.heap.size 23 (vL v)∧RowB A (w.heap.size+1) 135 [.int .i64 0,.int .i64 0,.int .i64 0,.bool false]) ⟨by go_grown,(RowB.new _ _ _).alloc _,RowB.new' _ _ _ (by simp)⟩ ?_;rintro w1 ⟨a,k,i⟩;obtain⟨J,I,H,F⟩:=k.c4;have j:=k.lt;go_wp2_with fail;refine(S.out _).mono ?_;rintro e w2 ⟨rfl,l⟩;have a:=a.trans (l.mono a.size);have k:=k.below l j;have i:=i.below l i.lt;have aa:w.heap.size+2<=w2.heap.size:=i.lt;clear J I H F j l S;go_upto_region 2 with fail;refine wp_gen (λ A=>Below w.heap.size w A∧RowB A w.heap.size 23 (vL v)∧RowB A (w.heap.size+1) 135 [.int .i64 0,.int .i64 0,.int .i64 0,.bool false]∧RowB A w2.heap.size 135 [.int .i64 f,.int .i64 z,.int .i64 d,.bool h]) ⟨a.alloc a.size _,k.alloc _,i.alloc _,RowB.new _ _ _⟩ ?_;clear a k i;rintro w3 ⟨a,k,i,o⟩;obtain⟨gs,P⟩:∃ g,w2.heap.size=g:=⟨_,rfl⟩;rw [P] at o aa ⊢;clear P;obtain⟨J,I,H,F⟩:=k.c4;have j:=k.lt;obtain⟨X,W,V,T⟩:=i.c4;have n:=i.lt;have fr:=i.frozen;obtain⟨x0,x1,Z,Y⟩:=o.c4;have m:=o.lt;obtain⟨pb,C⟩:∃ b,plainB v (f,z,d,h)=b:=⟨_,rfl⟩;have CP:=kD (λ L=>plain_s v HV.out (f,z,d,h) pb C L);simp only at CP;have E:=kD C;clear C;go_wp2_with fail;refine(CP.out _).mono ?_;rintro e w5 ⟨rfl,l⟩;have a:=a.trans (l.mono a.size);have k:=k.below l j;have i:=i.below l n;have o:=o.below l m;clear J I H F j X W V T n fr x0 x1 Z Y m l;obtain⟨J,I,H,F⟩:=k.c4;have j:=k.lt;obtain⟨X,W,V,T⟩:=i.c4;have n:=i.lt;have fr:=i.frozen;obtain⟨x0,x1,Z,Y⟩:=o.c4;have m:=o.lt
 cases pb
 case false =>
  have y:R=((0,0,0,false),false):=by rw [K.out,if_neg (λ h=>by rw [E.out] at h;simp at h)]
  subst y;clear K;go_wp2_with fail;refine bp_row2 [.int .i64 0,.int .i64 0,.int .i64 0,.bool false] (.bool false) (below_four a (by omega) _ _ _ _) (four i _ _ _ _) (λ M O=>by simp [results,Tryz.results105,go_sem,O]) rfl λ M q=>?_;exact⟨rfl,q⟩
 have CT:=kD (λ L=>step_s v HV.out (f,z,d,h) E.out L);simp only at CT;obtain⟨N,B⟩:∃ x,stpT v (f,z,d,h)=x:=⟨_,rfl⟩;rw [B] at CT;have Q:=kD B;clear B;go_wp2_with fail;refine(CT.out _).mono ?_;rintro e w6 ⟨rfl,l⟩;have a:=a.trans (l.mono a.size);have k:=k.below l j;have i:=i.below l n;have o:=o.below l m;clear J I H F j X W V T n fr x0 x1 Z Y m l;obtain⟨J,I,H,F⟩:=k.c4;have j:=k.lt;obtain⟨X,W,V,T⟩:=i.c4;have n:=i.lt;have fr:=i.frozen;obtain⟨x0,x1,Z,Y⟩:=o.c4;have m:=o.lt;by_cases heq:N=t
 ·have y:R=((f,z,d,h),true):=by rw [K.out,if_pos ⟨E.out,Q.out.trans heq⟩]
  subst y;have e1:((bs N).toList == (bs t).toList)=true:=by rw [bs_eq];exact decide_eq_true heq
  have e2:((bs N).toList != (bs t).toList)=false:=by simp only [bne,e1];rfl
  clear heq K;go_wp2_with fail;refine bp_row2 [.int .i64 f,.int .i64 z,.int .i64 d,.bool h] (.bool true) (below_four a (by omega) _ _ _ _) (four i _ _ _ _) (λ M O=>by simp [results,Tryz.results105,go_sem,O]) rfl λ M q=>?_;exact⟨rfl,q⟩
 ·have y:R=((0,0,0,false),false):=by rw [K.out,if_neg (λ h=>heq (Q.out.symm.trans h.2))]
  subst y;have e1:((bs N).toList == (bs t).toList)=false:=by rw [bs_eq];exact decide_eq_false heq
  have e2:((bs N).toList != (bs t).toList)=true:=by simp only [bne,e1];rfl
  clear heq K;go_wp2_with fail;refine bp_row2 [.int .i64 0,.int .i64 0,.int .i64 0,.bool false] (.bool false) (below_four a (by omega) _ _ _ _) (four i _ _ _ _) (λ M O=>by simp [results,Tryz.results105,go_sem,O]) rfl λ M q=>?_;exact⟨rfl,q⟩
structure RsF (w1:World) (s:Stp) (p9 p10:Prop) (v9:Value) (w':World):Prop where
 bel:Below w1.heap.size w1 w'
 f9:p9->∃ g,v9=.pointer (some ⟨g,0,none⟩)∧w1.heap.size<=g∧∃ a b c d,RowB w' g 135 [a,b,c,d]
 f10:p10->∃ g,v9=.pointer (some ⟨g,0,none⟩)∧w1.heap.size<=g∧RowB w' g 135 [.int .i64 s.1,.int .i64 s.2.1,.int .i64 s.2.2.1,.bool s.2.2.2]
theorem RsF.skip {w1 w':World} {s:Stp} {L:Nat->Prop} {vals:Nat->Value} (F:RsF w1 s (L 9) (L 10) (vals 9) w') (k:Nat) (z:Value) (h9:9≠k:=by decide) (h10:10≠k:=by decide):RsF w1 s (9=k∨L 9) (10=k∨L 10) (upd vals k z 9) w':=by
 rw [or_ne h9,or_ne h10,upd_ne h9];exact F
theorem RsF.below {w1 w' w'':World} {s:Stp} {p9 p10:Prop} {v9:Value} (F:RsF w1 s p9 p10 v9 w') (hb:Below w'.heap.size w' w''):RsF w1 s p9 p10 v9 w'' :=
 ⟨F.bel.trans (hb.mono F.bel.size),λ h=>by obtain⟨g,h1,h2,a,b,c,d,h3⟩:=F.f9 h;exact⟨g,h1,h2,a,b,c,d,h3.below hb h3.lt⟩,λ h=>by obtain⟨g,h1,h2,h3⟩:=F.f10 h;exact⟨g,h1,h2,h3.below hb h3.lt⟩⟩
theorem RsF.s9 {w1 w':World} {s:Stp} {p9 p10:Prop} {v9:Value} (F:RsF w1 s p9 p10 v9 w') (n10:¬ p10) {a b c d:Value}:RsF w1 s True p10 (.pointer (some ⟨w'.heap.size,0,none⟩)) (w'.alloc (.cells #[a,b,c,d] 135)) :=
 ⟨F.bel.alloc F.bel.size _,λ _=>⟨_,rfl,F.bel.size,a,b,c,d,RowB.new _ _ _⟩,λ h=>absurd h n10⟩
theorem RsF.s10 {w1 w':World} {s:Stp} {p9 p10:Prop} {v9 a b c d:Value} {g:Nat} (F:RsF w1 s p9 p10 v9 w') (hv:v9=.pointer (some ⟨g,0,none⟩)) (hg:w1.heap.size<=g) (h:RowB w' g 135 [a,b,c,d]) :
  RsF w1 s p9 True v9 ((((w'.setCell ⟨g,0,none⟩ (.int .i64 s.1)).setCell ⟨g,1,none⟩ (.int .i64 s.2.1)).setCell ⟨g,2,none⟩ (.int .i64 s.2.2.1)).setCell ⟨g,3,none⟩ (.bool s.2.2.2)):=by
 have e:=four h (.int .i64 s.1) (.int .i64 s.2.1) (.int .i64 s.2.2.1) (.bool s.2.2.2);exact⟨below_four F.bel hg _ _ _ _,λ _=>⟨g,hv,hg,_,_,_,_,e⟩,λ _=>⟨g,hv,hg,e⟩⟩
theorem rsteps_s (v:Vr) (hv:okV v=true) (t:By) (hl:t.length<=4194304) (w:World) :
  Calls Tryz.prog 76 #[.agg #[.int .i64 v.p,.int .i64 v.c,.int .i64 v.h,.int .i64 v.s],.string (bs t)] w λ e w'=>∃ sv,e=.returned (.tuple #[sv,.bool (rdSs v t).isSome])∧OwnS w' w.heap.size w'.heap.size 135 4 enSt sv ((rdSs v t).getD [])∧Below w.heap.size w w':=by
 obtain⟨i4,aF,aD,aC,aB⟩:=info_parts infoSt;obtain⟨R,O⟩:∃ r,rdSs v t=r:=⟨_,rfl⟩;rw [O];have HR:=kD O;have CS:=kD (λ(m:World)=>split_s t 32 32 rfl hl m);have CR:=kD (λ(x:By) (hx:x.length<=4194304) (m:World)=>rstep_s v hv x hx m);have HW:=kD (λ x hx=>Nat.le_trans (spl_word 32 t x hx) hl);obtain⟨ws,Q⟩:∃ x,spl 32 t=x:=⟨_,rfl⟩;obtain⟨n,hn⟩:∃ n,ws.length=n:=⟨_,rfl⟩;have aq:=spl_len 32 t;rw [Q,hn] at aq;rw [Q] at CS HW;have ag:=kD Q;have HN:=kD hn;clear O hv Q hn;go_enter Tryz.func76,Tryz.ntmps76;go_upto_region 1 with fail;refine wp_gen (λ W'=>Below w.heap.size w W'∧RowB W' w.heap.size 23 (vL v)) ⟨by go_grown,RowB.new _ _ _⟩ ?_;rintro w1 ⟨C,z⟩;go_upto_region 2 with fail;refine wp_gen (λ W'=>Below w.heap.size w W'∧RowB W' w.heap.size 23 (vL v)∧OwnS W' (w.heap.size+1) W'.heap.size 135 4 enSt (.slice (some ⟨w1.heap.size,0,none⟩) 0 0) []) ⟨C.alloc C.size _,z.alloc _,(RowB.new w1 135 []).own (xs:=([]:List Stp)) (en:=enSt) enSt_len z.lt (by simp) (by decide)⟩ ?_;clear C z;rintro w2 ⟨C,z,D⟩;obtain⟨g1,av⟩:∃ g,w1.heap.size=g:=⟨_,rfl⟩;rw [av] at D ⊢;clear av;by_cases h45:t=[45]
 ·have O:R=some []:=by rw [<-HR.out];unfold rdSs;rw [if_pos h45]
  have e1:((bs t).toList == [45])=true:=by rw [ByteArray.toList_eq,bs_data,h45];rfl
  subst O;clear h45;go_wp2_with fail;go_ret2;exact⟨_,rfl,D.less (by omega),C⟩
 have e1:((bs t).toList == [45])=false:=by rw [ByteArray.toList_eq,bs_data];exact beq_eq_false_iff_ne.2 h45
 go_wp2_with fail;refine(CS.out _).mono ?_;rintro e w3 ⟨sw,rfl,S,N⟩;have M:=C.trans (N.mono C.size);have Z:w.heap.size+1<=w2.heap.size:=z.lt;have z:=z.below N z.lt;have aE:w.heap.size+1<=w3.heap.size:=z.lt;have aG:g1<w2.heap.size:=(D.block g1 rfl).2;have D:=(D.below N (Nat.le_refl _)).more N.size;obtain⟨Aw,cp,am,-⟩:=S.form enBs_len;rw [HN.out] at am;subst am;have aL:=kD (S.less Z);have HA:=kD (show Apart (.slice Aw n cp) (.slice (some ⟨g1,0,none⟩) 0 0) from λ g V he=>by
  have h1:=(S.block g V).1;have h2:g1=g:=by simpa [Value.ownBlock] using he
  omega)
 clear S C N;by_cases h4:4<n
 ·have O:R=none:=by rw [<-HR.out];unfold rdSs;rw [if_neg h45,ag.out,HN.out,if_pos h4]
  have d4:decide ((4:Int)<(n:Int))=true:=decide_eq_true (by omega);subst O;clear h45 h4;go_wp2_with fail;go_ret2;exact⟨_,rfl,D.less (by omega),M⟩
 have HM:Hid (R=mapO (rdI v) ws):=by show _=_;rw [<-HR.out];unfold rdSs;rw [if_neg h45,ag.out,HN.out,if_neg h4]
 have d4:decide ((4:Int)<(n:Int))=false:=decide_eq_false (by omega);have aR:n<=4:=by omega
 have aN:=kD M;have aK:=kD z;have aM:=kD D;clear h45 e1 HR h4 ag aq M z D Z aG aE;go_wp2_with fail;go_loopw [6,8,10] (λ vl i _ wr=>∃(k:Nat) (X:List Stp),k<=n∧i=.int .i64 (k:Int)∧Hid (Below w.heap.size w wr)∧RowB wr w.heap.size 23 (vL v)∧Hid (OwnS wr (w.heap.size+1) wr.heap.size 9 1 enBs (.slice Aw n cp) ws)∧Hid (Apart (.slice Aw n cp) vl)∧Hid (OwnS wr (w.heap.size+1) wr.heap.size 135 4 enSt vl X)∧Hid (mapO (rdI v) (ws.take k)=some X)∧X.length=k) (λ _ i _ _=>n - (intOf i).toNat)
 case atStart=>exact⟨0,[],Nat.zero_le _,rfl,aN,aK.out,aL,HA,aM,kD rfl,rfl⟩
 case round =>
  obtain⟨k,X,hk,rfl,hb,z,ae,ha,D,hX,ax⟩:=hrel;clear d4;obtain⟨Av,cv,ak,_⟩:=D.out.form enSt_len;rw [ax] at ak;subst ak;by_cases hlt:k<n
  ·obtain⟨b,d,x,rfl,y,ad,hc⟩:∃ b d x,Aw=some ⟨b,d,none⟩∧b<wr.heap.size∧ws[k]?=some x∧wr.cell? ⟨b,d+k,none⟩=some (.string (bs x)):=by
    obtain⟨A8,c8,h8,r8⟩:=ae.out.form enBs_len;simp only [Value.slice.injEq] at h8;obtain⟨rfl,-,-⟩:=h8;exact rdBs_at r8 (by rw [HN.out];exact hlt)
   have HX:=kD ad;have aj:=HW.out x (List.mem_of_getElem? ad);have CX:=kD (λ(m:World)=>CR.out x aj m);obtain⟨⟨s,ok⟩,hq⟩:∃ q,optS (rdI v x)=q:=⟨_,rfl⟩;rw [hq] at CX;have HQ:=kD (optS_inv hq);have T:=z.lt;have P:=kD hc;clear aj hq ad hc;go_upto_region 10 with fail;refine rG [some 28,some 29,some 30,some 31,some 32,some 33,some 27,some 34,some 35,some 9,none,some 10] 12 (Pl [some (.agg #[.int .i64 v.p,.int .i64 v.c,.int .i64 v.h,.int .i64 v.s]),some (.slice (some ⟨b,d,none⟩) n cp),some (.int .i64 (k:Int)),some (.pointer (some ⟨b,d+k,none⟩)),some (.string (bs x)),some (.tuple #[.agg #[.int .i64 s.1,.int .i64 s.2.1,.int .i64 s.2.2.1,.bool s.2.2.2],.bool ok]),some (.tuple #[.agg #[.int .i64 s.1,.int .i64 s.2.1,.int .i64 s.2.2.1,.bool s.2.2.2],.bool ok]),some (.agg #[.int .i64 s.1,.int .i64 s.2.1,.int .i64 s.2.2.1,.bool s.2.2.2]),some (.bool ok),none,none,some (.bool ok)]) (λ L a w'=>RsF wr s (L 9) (L 10) (a 9) w') ?g0_1 ?gst_1 ?gfin_1
   case g0_1=>exact⟨(Below.refl _ _).drew,λ h=>absurd h (by decide),λ h=>absurd h (by decide)⟩
   case gst_1 =>
    refine rN rfl (λ L a A m f j l U F K o=>?_) ?_
    ·have e2:=U.w 2 (.pointer (some ⟨w.heap.size,0,none⟩));have E:=z.below F.bel T;obtain⟨q0,q1,q2,q3⟩:=E.c4;have B:=(F.bel.cell (p:=⟨b,d+k,none⟩) y).trans P.out;clear E;go_simp;exact pF o (F.skip 0 _)
    refine rN rfl (λ L a A m f j l U F K o=>?_) ?_
    ·have e7:=U.w 7 (.slice (some ⟨b,d,none⟩) n cp);have B:=(F.bel.cell (p:=⟨b,d+k,none⟩) y).trans P.out;go_simp;exact pF o (F.skip 1 _)
    refine rN rfl (λ L a A m f j l U F K o=>?_) ?_
    ·have e8:=U.w 8 (.int .i64 (k:Int));have B:=(F.bel.cell (p:=⟨b,d+k,none⟩) y).trans P.out;go_simp;exact pF o (F.skip 2 _)
    refine rN rfl (λ L a A m f j l U F K o=>?_) ?_
    ·have a0:=U.v 1 29;have aZ:=U.v 2 30;have B:=(F.bel.cell (p:=⟨b,d+k,none⟩) y).trans P.out;go_simp;exact pF o (F.skip 3 _)
    refine rN rfl (λ L a A m f j l U F K o=>?_) ?_
    ·have aY:=U.v 3 31;have E:=z.below F.bel T;obtain⟨q0,q1,q2,q3⟩:=E.c4;have B:=(F.bel.cell (p:=⟨b,d+k,none⟩) y).trans P.out;clear E;go_simp;exact pF o (F.skip 4 _)
    refine rN rfl (λ L a A m f j l U F K o=>?_) ?_
    ·have a5:=U.v 0 28;have aX:=U.v 4 32;go_simp;refine(CX.out m).mono ?_;rintro e w6 ⟨rfl,aI⟩;exact pF o ((F.below aI).skip 5 _)
    refine rN rfl (λ L a A m f j l U F K o=>?_) ?_
    ·have aW:=U.v 5 33;have B:=(F.bel.cell (p:=⟨b,d+k,none⟩) y).trans P.out;go_simp;exact pF o (F.skip 6 _)
    refine rN rfl (λ L a A m f j l U F K o=>?_) ?_
    ·have aJ:=U.v 6 27;have B:=(F.bel.cell (p:=⟨b,d+k,none⟩) y).trans P.out;go_simp;exact pF o (F.skip 7 _)
    refine rN rfl (λ L a A m f j l U F K o=>?_) ?_
    ·have aJ:=U.v 6 27;have B:=(F.bel.cell (p:=⟨b,d+k,none⟩) y).trans P.out;go_simp;exact pF o (F.skip 8 _)
    refine rN rfl (λ L a A m f j l U F K o=>?_) ?_
    ·go_simp;exact o.out _ _ (Pl.any rfl) (by simpa [upd] using F.s9 (λ h=>f (l 10 9 (by kernel_rfl) h)))
    refine rN rfl (λ L a A m f j l U F K o=>?_) ?_
    ·have e9:=U.x 9 9;have aV:=U.v 7 34;have f9:=F.f9 (bK j 9);refine f9.elim λ g q=>?_
     refine q.2.2.elim λ a1 q2=>?_
     refine q2.elim λ a2 q3=>?_
     refine q3.elim λ a3 q4=>?_
     refine q4.elim λ a4 r=>?_
     have aT:=e9.trans q.1;obtain⟨y0,y1,y2,y3⟩:=r.c4;have fr:=r.frozen;clear e9 q2 q3 q4;go_simp;exact o.out undef _ (Pl.any rfl) (by simpa [upd] using F.s10 q.1 q.2.1 r)
    refine rN rfl (λ L a A m f j l U F K o=>?_) ?_
    ·have aU:=U.v 8 35;have B:=(F.bel.cell (p:=⟨b,d+k,none⟩) y).trans P.out;go_simp;exact pF o (F.skip 11 _)
    exact RelFrom.nil (by decide)
   intro a m hp F;simp only [Fr,Act.put,sX,Nat.reduceAdd];have ay:a 11=.bool ok:=hp 11 (by decide) _ rfl;rw [ay];obtain⟨g,al,aS,rg⟩:=F.f10 trivial;rw [al];have J:=hb.out.trans (F.bel.mono hb.out.size);have ai:=z.below F.bel T;have G:=(ae.out.below F.bel (Nat.le_refl _)).more F.bel.size;have af:=(D.out.below F.bel (Nat.le_refl _)).more F.bel.size;have aQ:=F.bel.size;clear F hp ay al ae D CX z T P
   cases ok
   case false =>
    have f:rdI v x=none:=HQ.out;have O:R=none:=by rw [HM.out];exact mapO_none f _ (List.mem_of_getElem? HX.out)
    subst O;clear HM f;go_wp2_with fail;go_ret2;refine⟨_,rfl,?_,?_⟩
    ·exact(RowB.new m 135 []).own (xs:=([]:List Stp)) (en:=enSt) enSt_len J.size (by simp) (by decide)
    ·exact J.alloc J.size _
   have W:rdI v x=some s:=HQ.out;have az:Hid (mapO (rdI v) (ws.take (k+1))=some (X++[s])):=by
    show _=_
    rw [take_succ ws k x HX.out,mapO_snoc,hX.out];simp only [W,Option.map_some]
   clear W HQ;obtain⟨y0,y1,y2,y3⟩:=rg.c4;have ah:=kD J;clear J hb;go_wp2_with (at_builtin;refine wpL_app rfl _ _ _ rfl (w.heap.size+1) _ 135 i4 (.agg #[.int .i64 0,.int .i64 0,.int .i64 0,.bool false]) 4 32 Tryz.underlying54 aF aD aC aB rfl (by decide) enSt_len one_St (.slice Av k cv) X [s] rfl (af.alloc _) ⟨m.heap.size,0,none⟩ 1 1 (by first | rfl | (simp;rfl) | (simp [go_sem];done)) rfl (news_new (RowB.new _ _ _)) (by decide) ?c1 ?c2 ?c3 ?_)
   case c1=>unfold maxLen;omega
   case c2=>omega
   case c3=>have:=ah.out.size;simp;omega
   intro k2 c2 w7 ap I ab aP;have H:∀ g,(Value.slice Av k cv).ownBlock=some g->w.heap.size+1<=g:=λ g V=>(af.block g V).1
   have aa:=(OwnS.far (G.alloc _) I ha.out.symm).more (hi':=w7.heap.size) (by have:=I.size;simp at this;omega);have aw:Apart (.slice (some ⟨k2,0,none⟩) (k+1) c2) (.slice (some ⟨b,d,none⟩) n cp):=ha.out.symm.app (λ g V=>Nat.lt_of_lt_of_le (G.block g V).2 (by go_size)) ab;have aO:=kD aw.symm;have aA:=(ai.alloc (.cells #[.int .i64 s.1,.int .i64 s.2.1,.int .i64 s.2.2.1,.bool s.2.2.2] 135)).grown I (λ g V=>by have:=H g V;omega);have ar:m.grownBy w7 (Value.slice Av k cv).ownBlock:=below_grown (w:=m) (by go_grown) I;have aH:=kD (ah.out.grown ar ah.out.size (λ g V=>by have:=H g V;omega));have ao:=kD ap;have an:=kD aa;have ac:(X++[s]).length=k+1:=by rw [List.length_append,ax];rfl
   obtain⟨Y,hY⟩:∃ Y,X++[s]=Y:=⟨_,rfl⟩;rw [hY] at az ao ac;clear I ar ab ap H hY aw aa af G ai y0 y1 y2 y3 ha;go_wp2_with fail;go_roundw
   case rel=>exact⟨k+1,Y,by omega,by first | rfl | trivial | go_num,aH,aA,an,aO,ao,az,ac⟩
   case measure=>simp [intOf];omega
  ·obtain rfl:k=n:=by omega
   have O:R=some X:=by
    rw [HM.out];have:=hX.out;rw [List.take_of_length_le (by rw [HN.out];exact Nat.le_refl _)] at this;exact this
   subst O;clear HM;go_wp2_with fail;go_ret2;exact⟨_,rfl,D.out.less (by omega),hb.out⟩
structure RqF (w1:World) (x y:Int) (p7 p8:Prop) (v7:Value) (w':World):Prop where
 bel:Below w1.heap.size w1 w'
 f7:p7->∃ g,v7=.pointer (some ⟨g,0,none⟩)∧w1.heap.size<=g∧∃ a b,RowB w' g 48 [a,b]
 f8:p8->∃ g,v7=.pointer (some ⟨g,0,none⟩)∧w1.heap.size<=g∧RowB w' g 48 [.int .i64 x,.int .i64 y]
theorem RqF.skip {w1 w':World} {x y:Int} {L:Nat->Prop} {vals:Nat->Value} (F:RqF w1 x y (L 7) (L 8) (vals 7) w') (k:Nat) (z:Value) (h7:7≠k:=by decide) (h8:8≠k:=by decide):RqF w1 x y (7=k∨L 7) (8=k∨L 8) (upd vals k z 7) w':=by
 rw [or_ne h7,or_ne h8,upd_ne h7];exact F
theorem RqF.below {w1 w' w'':World} {x y:Int} {p7 p8:Prop} {v7:Value} (F:RqF w1 x y p7 p8 v7 w') (hb:Below w'.heap.size w' w''):RqF w1 x y p7 p8 v7 w'' :=
 ⟨F.bel.trans (hb.mono F.bel.size),λ h=>by obtain⟨g,h1,h2,a,b,h3⟩:=F.f7 h;exact⟨g,h1,h2,a,b,h3.below hb h3.lt⟩,λ h=>by obtain⟨g,h1,h2,h3⟩:=F.f8 h;exact⟨g,h1,h2,h3.below hb h3.lt⟩⟩
theorem RqF.s7 {w1 w':World} {x y:Int} {p7 p8:Prop} {v7:Value} (F:RqF w1 x y p7 p8 v7 w') (n8:¬ p8) {a b:Value}:RqF w1 x y True p8 (.pointer (some ⟨w'.heap.size,0,none⟩)) (w'.alloc (.cells #[a,b] 48)) :=
 ⟨F.bel.alloc F.bel.size _,λ _=>⟨_,rfl,F.bel.size,a,b,RowB.new _ _ _⟩,λ h=>absurd h n8⟩
theorem RqF.s8 {w1 w':World} {x y:Int} {p7 p8:Prop} {v7 a b:Value} {g:Nat} (F:RqF w1 x y p7 p8 v7 w') (hv:v7=.pointer (some ⟨g,0,none⟩)) (hg:w1.heap.size<=g) (h:RowB w' g 48 [a,b]) :
  RqF w1 x y p7 True v7 ((w'.setCell ⟨g,0,none⟩ (.int .i64 x)).setCell ⟨g,1,none⟩ (.int .i64 y)):=by
 have c:RowB ((w'.setCell ⟨g,0,none⟩ (.int .i64 x)).setCell ⟨g,1,none⟩ (.int .i64 y)) g 48 [.int .i64 x,.int .i64 y]:=(h.set 0 _).set 1 _;exact⟨(F.bel.setCell (p:=⟨g,0,none⟩) hg _).setCell (p:=⟨g,1,none⟩) hg _,λ _=>⟨g,hv,hg,_,_,c⟩,λ _=>⟨g,hv,hg,c⟩⟩
structure SqF (w1:World) (ss:List Stp) (ok:Bool) (p3 p4 p5 p7:Prop) (v3 v4 v5 v7:Value) (w':World):Prop where
 bel:Below w1.heap.size w1 w'
 f3:p3->∃ sv,v3=.tuple #[sv,.bool ok]∧OwnS w' w1.heap.size w'.heap.size 135 4 enSt sv ss∧(p4->v4=v3)∧(p5->v5=sv)∧(p7->v7=sv)
theorem SqF.skip {w1 w':World} {ss:List Stp} {ok:Bool} {L:Nat->Prop} {vals:Nat->Value} (F:SqF w1 ss ok (L 3) (L 4) (L 5) (L 7) (vals 3) (vals 4) (vals 5) (vals 7) w') (k:Nat) (z:Value) (h3:3≠k:=by decide) (h4:4≠k:=by decide) (h5:5≠k:=by decide) (h7:7≠k:=by decide) :
  SqF w1 ss ok (3=k∨L 3) (4=k∨L 4) (5=k∨L 5) (7=k∨L 7) (upd vals k z 3) (upd vals k z 4) (upd vals k z 5) (upd vals k z 7) w':=by
 rw [or_ne h3,or_ne h4,or_ne h5,or_ne h7,upd_ne h3,upd_ne h4,upd_ne h5,upd_ne h7];exact F
theorem SqF.s3 {w1 w' w'':World} {ss:List Stp} {ok:Bool} {p3 p4 p5 p7:Prop} {v3 v4 v5 v7 sv:Value} (F:SqF w1 ss ok p3 p4 p5 p7 v3 v4 v5 v7 w') (n4:¬ p4) (n5:¬ p5) (n7:¬ p7) (hb:Below w'.heap.size w' w'') (h:OwnS w'' w'.heap.size w''.heap.size 135 4 enSt sv ss) :
  SqF w1 ss ok True p4 p5 p7 (.tuple #[sv,.bool ok]) v4 v5 v7 w'' :=
 ⟨F.bel.trans (hb.mono F.bel.size),λ _=>⟨sv,rfl,h.less F.bel.size,λ h=>absurd h n4,λ h=>absurd h n5,λ h=>absurd h n7⟩⟩
theorem SqF.s4 {w1 w':World} {ss:List Stp} {ok:Bool} {p3 p4 p5 p7:Prop} {v3 v4 v5 v7:Value} (F:SqF w1 ss ok p3 p4 p5 p7 v3 v4 v5 v7 w'):SqF w1 ss ok p3 True p5 p7 v3 v3 v5 v7 w' :=
 ⟨F.bel,λ h=>by obtain⟨sv,a,b,c,d,e⟩:=F.f3 h;exact⟨sv,a,b,λ _=>rfl,d,e⟩⟩
theorem SqF.s5 {w1 w':World} {ss:List Stp} {ok:Bool} {p3 p4 p5 p7:Prop} {v3 v4 v5 v7 sv:Value} (F:SqF w1 ss ok p3 p4 p5 p7 v3 v4 v5 v7 w') (hv:v3=.tuple #[sv,.bool ok]):SqF w1 ss ok p3 p4 True p7 v3 v4 sv v7 w' :=
 ⟨F.bel,λ h=>by
  obtain⟨s2,a,b,c,d,e⟩:=F.f3 h;have:s2=sv:=by rw [hv] at a;simpa using a.symm
  subst this;exact⟨s2,a,b,c,λ _=>rfl,e⟩⟩
theorem SqF.s7 {w1 w':World} {ss:List Stp} {ok:Bool} {p3 p4 p5 p7:Prop} {v3 v4 v5 v7:Value} (F:SqF w1 ss ok p3 p4 p5 p7 v3 v4 v5 v7 w') (h5:p5):SqF w1 ss ok p3 p4 p5 True v3 v4 v5 v5 w' :=
 ⟨F.bel,λ h=>by
  obtain⟨sv,a,b,c,d,e⟩:=F.f3 h;exact⟨sv,a,b,c,d,λ _=>d h5⟩⟩
theorem rdTS_eq (v:Vr) (t:By):rdTS v t=if 80<t.length then none else if t.length<4∨¬ (t.take 4).drop 2=[58,32] then none else pairT (rdR v (t.take 2)) (rdSs v (t.drop 4)):=by
 unfold rdTS
 cases rdR v (t.take 2) with
 | none=>rfl
 | some p=>cases rdSs v (t.drop 4) <;> rfl
theorem rturn_s (v:Vr) (hv:okV v=true) (t:By) (hl:t.length<=4194304) (w:World) :
  Calls Tryz.prog 43 #[.agg #[.int .i64 v.p,.int .i64 v.c,.int .i64 v.h,.int .i64 v.s],.string (bs t)] w λ e w'=>TurnR (rdTS v t) w e w':=by
 obtain⟨R,hR⟩:∃ r,rdTS v t=r:=⟨_,rfl⟩;have hE:=rdTS_eq v t;rw [hR] at hE ⊢;have CV:=kD (λ l=>var_s v true hv l);have aq:(t.take 2).length<=4194304:=by rw [List.length_take];omega
 have ap:(t.drop 4).length<=4194304:=by rw [List.length_drop];omega
 have CR:=kD (λ(l:World)=>rroll_s v hv (t.take 2) aq l);have CS:=kD (λ(l:World)=>rsteps_s v hv (t.drop 4) ap l);obtain⟨⟨⟨x,y⟩,o1⟩,hq⟩:∃ q,optR (rdR v (t.take 2))=q:=⟨_,rfl⟩;rw [hq] at CR;simp only at CR;have HQ:=kD (optR_inv hq);obtain⟨O,hO⟩:∃ o,rdSs v (t.drop 4)=o:=⟨_,rfl⟩;rw [hO] at CS hE;obtain⟨P,hP⟩:∃ p,rdR v (t.take 2)=p:=⟨_,rfl⟩;rw [hP] at hE HQ;obtain⟨o2,ac⟩:∃ b,O.isSome=b:=⟨_,rfl⟩;obtain⟨ss,ab⟩:∃ z,O.getD []=z:=⟨_,rfl⟩;rw [ac,ab] at CS;have ax:=kD ac;have aE:=kD ab;obtain⟨s,hs⟩:∃ s,bs t=s:=⟨_,rfl⟩;have X:s.data.toList=t:=by rw [<-hs];rfl
 have HZ:Hid (s.size=t.length):=by show _=_;rw [<-hs];exact bs_size t
 have ah:s.extract 2 4=bs ((t.take 4).drop 2):=by rw [Lib.extract_eq,X,List.drop_take];rfl
 have aa:s.extract 0 2=bs (t.take 2):=by rw [Lib.extract_eq,X];rfl
 have ag:s.extract 4 s.size=bs (t.drop 4):=by rw [Lib.extract_eq,X,HZ.out,List.take_of_length_le (by rw [List.length_drop];exact Nat.le_refl _)];rfl
 rw [hs];have HE:=kD hE;have aG:s.size<=4194304:=by rw [HZ.out];exact hl
 clear hE hR hq hO hP hv hl hs X ac ab aq ap;go_enter Tryz.func43,Tryz.ntmps43;go_upto_region 1 with fail;refine wp_gen (λ m=>Bvr w m v 0 0) ⟨by go_grown,(RowB.new _ _ _).alloc _,RowB.new' _ _ _ (by simp)⟩ ?_;intro w1 K;obtain⟨q0,q1,q2,q3⟩:=K.rv.c4;have D:=K.rv.lt;go_wp2_with fail;refine(CV.out _).mono ?_;rintro e V ⟨rfl,hb⟩;have K:=K.below hb;clear q0 q1 q2 q3 D hb CV;have ao:=K.rr.lt;have av:=K.rr.frozen;obtain⟨r0,r1⟩:=K.rr.c2;by_cases h80:80<t.length
 ·have B:R=none:=by rw [HE.out,if_pos h80]
  subst B;have d1:decide ((80:Int)<(s.size:Int))=true:=decide_eq_true (by rw [HZ.out];omega);clear h80 HE;go_wp2_with fail;have j:=((K.bel.setCell (p:=⟨w.heap.size+1,0,none⟩) (by show w.heap.size<=w.heap.size+1;omega) (.int .i64 0)).setCell (p:=⟨w.heap.size+1,1,none⟩) (by show w.heap.size<=w.heap.size+1;omega) (.int .i64 0));refine bp_gen (λ m=>Below w.heap.size w m∧RowB m (w.heap.size+1) 48 [.int .i64 0,.int .i64 0]∧OwnS m w.heap.size m.heap.size 135 4 enSt (.slice (some ⟨V.heap.size,0,none⟩) 0 0) []) ⟨j.alloc j.size _,((K.rr.set 0 _).set 1 _).alloc _,?_⟩ ?_
  ·simpa using (RowB.new ((V.setCell ⟨w.heap.size+1,0,none⟩ (.int .i64 0)).setCell ⟨w.heap.size+1,1,none⟩ (.int .i64 0)) 135 []).own (xs:=([]:List Stp)) (en:=enSt) enSt_len j.size (by simp) (by decide)
  rintro w8 ⟨n,N,Q⟩;obtain⟨J,I⟩:=N.c2;refine bodyPost_ret (v:=.tuple #[.agg #[.int .i64 0,.int .i64 0],.slice (some ⟨V.heap.size,0,none⟩) 0 0,.int .i64 3]) (by simp [results,Tryz.results43,go_sem,J,I]) rfl ?_;exact⟨0,0,_,3,[],rfl,Q,n,by decide⟩
 have d1:decide ((80:Int)<(s.size:Int))=false:=decide_eq_false (by rw [HZ.out];omega);have H:Hid (R=if t.length<4∨¬ (t.take 4).drop 2=[58,32] then none else pairT P O):=by show _=_;rw [HE.out,if_neg h80]
 clear h80 HE;by_cases h4:t.length<4
 ·have B:R=none:=by rw [H.out,if_pos (.inl h4)]
  subst B;have d2:decide ((s.size:Int)<(4:Int))=true:=decide_eq_true (by rw [HZ.out];omega);clear h4 H;go_wp2_with fail;have j:=((K.bel.setCell (p:=⟨w.heap.size+1,0,none⟩) (by show w.heap.size<=w.heap.size+1;omega) (.int .i64 0)).setCell (p:=⟨w.heap.size+1,1,none⟩) (by show w.heap.size<=w.heap.size+1;omega) (.int .i64 0));refine bp_gen (λ m=>Below w.heap.size w m∧RowB m (w.heap.size+1) 48 [.int .i64 0,.int .i64 0]∧OwnS m w.heap.size m.heap.size 135 4 enSt (.slice (some ⟨V.heap.size,0,none⟩) 0 0) []) ⟨j.alloc j.size _,((K.rr.set 0 _).set 1 _).alloc _,?_⟩ ?_
  ·simpa using (RowB.new ((V.setCell ⟨w.heap.size+1,0,none⟩ (.int .i64 0)).setCell ⟨w.heap.size+1,1,none⟩ (.int .i64 0)) 135 []).own (xs:=([]:List Stp)) (en:=enSt) enSt_len j.size (by simp) (by decide)
  rintro w8 ⟨n,N,Q⟩;obtain⟨J,I⟩:=N.c2;refine bodyPost_ret (v:=.tuple #[.agg #[.int .i64 0,.int .i64 0],.slice (some ⟨V.heap.size,0,none⟩) 0 0,.int .i64 6]) (by simp [results,Tryz.results43,go_sem,J,I]) rfl ?_;exact⟨0,0,_,6,[],rfl,Q,n,by decide⟩
 have d2:decide ((s.size:Int)<(4:Int))=false:=decide_eq_false (by rw [HZ.out];omega);have aI:4<=s.size:=by rw [HZ.out];omega
 by_cases hc:(t.take 4).drop 2=[58,32]
 rotate_left
 ·have B:R=none:=by rw [H.out,if_pos (.inr hc)]
  subst B;have e3:((bs ((t.take 4).drop 2)).toList == [58,32])=false:=by rw [ByteArray.toList_eq,bs_data];exact beq_eq_false_iff_ne.2 hc
  have e4:(!((bs ((t.take 4).drop 2)).toList == [58,32]))=true:=by rw [e3];rfl
  clear hc h4 H ag aa;go_wp2_with fail;have j:=((K.bel.setCell (p:=⟨w.heap.size+1,0,none⟩) (by show w.heap.size<=w.heap.size+1;omega) (.int .i64 0)).setCell (p:=⟨w.heap.size+1,1,none⟩) (by show w.heap.size<=w.heap.size+1;omega) (.int .i64 0));refine bp_gen (λ m=>Below w.heap.size w m∧RowB m (w.heap.size+1) 48 [.int .i64 0,.int .i64 0]∧OwnS m w.heap.size m.heap.size 135 4 enSt (.slice (some ⟨V.heap.size,0,none⟩) 0 0) []) ⟨j.alloc j.size _,((K.rr.set 0 _).set 1 _).alloc _,?_⟩ ?_
  ·simpa using (RowB.new ((V.setCell ⟨w.heap.size+1,0,none⟩ (.int .i64 0)).setCell ⟨w.heap.size+1,1,none⟩ (.int .i64 0)) 135 []).own (xs:=([]:List Stp)) (en:=enSt) enSt_len j.size (by simp) (by decide)
  rintro w8 ⟨n,N,Q⟩;obtain⟨J,I⟩:=N.c2;refine bodyPost_ret (v:=.tuple #[.agg #[.int .i64 0,.int .i64 0],.slice (some ⟨V.heap.size,0,none⟩) 0 0,.int .i64 6]) (by simp [results,Tryz.results43,go_sem,J,I]) rfl ?_;exact⟨0,0,_,6,[],rfl,Q,n,by decide⟩
 have e3:((bs ((t.take 4).drop 2)).toList == [58,32])=true:=by rw [ByteArray.toList_eq,bs_data,hc];rfl
 have G:Hid (R=pairT P O):=by show _=_;rw [H.out,if_neg (by rintro(h | h);exact h4 h;exact h hc)]
 clear H hc h4;have D:=K.rv.lt;have aK:2<=s.size:=by omega
 go_upto_region 7 with fail;clear r0 r1 ao av d1 d2 e3 ah;have aL:(2:Int)<=(s.size:Int):=by omega
 have aJ:(4:Int)<=(s.size:Int):=by omega
 have Y:=K;clear K;refine rG [some 32,some 33,some 34,some 35,some 31,some 36,some 37,some 7,none,some 8] 10 (Pl [some (.agg #[.int .i64 v.p,.int .i64 v.c,.int .i64 v.h,.int .i64 v.s]),some (.string s),some (.string (bs (t.take 2))),some (.tuple #[.agg #[.int .i64 x,.int .i64 y],.bool o1]),some (.tuple #[.agg #[.int .i64 x,.int .i64 y],.bool o1]),some (.agg #[.int .i64 x,.int .i64 y]),some (.bool o1),none,none,some (.bool o1)]) (λ L a w'=>RqF V x y (L 7) (L 8) (a 7) w') ?g0_1 ?gst_1 ?gfin_1
 case g0_1=>exact⟨(Below.refl _ _).drew,λ h=>absurd h (by decide),λ h=>absurd h (by decide)⟩
 case gst_1 =>
  refine rN rfl (λ L a A l d f i U F K k=>?_) ?_
  ·have e2:=U.w 2 (.pointer (some ⟨w.heap.size,0,none⟩));have M:=Y.rv.below F.bel D;obtain⟨q0,q1,q2,q3⟩:=M.c4;clear M;go_simp;exact pF k (F.skip 0 _)
  refine rN rfl (λ L a A l d f i U F K k=>?_) ?_
  ·have e1:=U.w 1 (.string s);go_simp;exact pF k (F.skip 1 _)
  refine rN rfl (λ L a A l d f i U F K k=>?_) ?_
  ·have aX:=U.v 1 33;go_simp;exact pF k (F.skip 2 _)
  refine rN rfl (λ L a A l d f i U F K k=>?_) ?_
  ·have aY:=U.v 0 32;have aW:=U.v 2 34;go_simp;refine(CR.out l).mono ?_;rintro e W ⟨rfl,ae⟩;exact pF k ((F.below ae).skip 3 _)
  refine rN rfl (λ L a A l d f i U F K k=>?_) ?_
  ·have aV:=U.v 3 35;go_simp;exact pF k (F.skip 4 _)
  refine rN rfl (λ L a A l d f i U F K k=>?_) ?_
  ·have aD:=U.v 4 31;go_simp;exact pF k (F.skip 5 _)
  refine rN rfl (λ L a A l d f i U F K k=>?_) ?_
  ·have aD:=U.v 4 31;go_simp;exact pF k (F.skip 6 _)
  refine rN rfl (λ L a A l d f i U F K k=>?_) ?_
  ·go_simp;exact k.out _ _ (Pl.any rfl) (by simpa [upd] using F.s7 (λ h=>d (i 8 7 (by kernel_rfl) h)))
  refine rN rfl (λ L a A l d f i U F K k=>?_) ?_
  ·have e7:=U.x 7 7;have aU:=U.v 5 36;have f7:=F.f7 (bK f 7);refine f7.elim λ g q=>?_
   refine q.2.2.elim λ a1 q2=>?_
   refine q2.elim λ a2 r=>?_
   have aM:=e7.trans q.1;obtain⟨y0,y1⟩:=r.c2;have fr:=r.frozen;clear e7 q2;go_simp;exact k.out undef _ (Pl.any rfl) (by simpa [upd] using F.s8 q.1 q.2.1 r)
  refine rN rfl (λ L a A l d f i U F K k=>?_) ?_
  ·have aT:=U.v 6 37;go_simp;exact pF k (F.skip 9 _)
  exact RelFrom.nil (by decide)
 intro a l hp F;simp only [Fr,Act.put,sX,Nat.reduceAdd];have am:a 9=.bool o1:=hp 9 (by decide) _ rfl;rw [am];obtain⟨gx,C,aH,Z⟩:=F.f8 trivial;rw [C];clear C;have K:=Y.below F.bel;clear Y;have ak:=F.bel.size;have ad:=Z.lt;clear F hp am D;obtain⟨w5,aj⟩:∃ u,l=u:=⟨_,rfl⟩;rw [aj] at K Z ad ak ⊢;clear aj aa CR;have D:=K.rv.lt;have HX:=kD Z;clear Z;go_upto_region 8 with fail;have Y:=K;clear K;refine rG [some 39,some 40,some 41,some 42,some 38,some 43,some 44,some 9,some 10] 9 (Pl [some (.agg #[.int .i64 v.p,.int .i64 v.c,.int .i64 v.h,.int .i64 v.s]),some (.string s),some (.string (bs (t.drop 4))),none,none,none,some (.bool o2),none,some (.bool o2)]) (λ L a w'=>SqF w5 ss o2 (L 3) (L 4) (L 5) (L 7) (a 3) (a 4) (a 5) (a 7) w') ?g0_2 ?gst_2 ?gfin_2
 case g0_2=>exact⟨(Below.refl _ _).drew,λ h=>absurd h (by decide)⟩
 case gst_2 =>
  refine rN rfl (λ L a A l d f i U F K k=>?_) ?_
  ·have e2:=U.w 2 (.pointer (some ⟨w.heap.size,0,none⟩));have M:=Y.rv.below F.bel D;obtain⟨q0,q1,q2,q3⟩:=M.c4;clear M;go_simp;exact pF k (F.skip 0 _)
  refine rN rfl (λ L a A l d f i U F K k=>?_) ?_
  ·have e1:=U.w 1 (.string s);go_simp;exact pF k (F.skip 1 _)
  refine rN rfl (λ L a A l d f i U F K k=>?_) ?_
  ·have aR:=U.v 1 40;go_simp;exact pF k (F.skip 2 _)
  refine rN rfl (λ L a A l d f i U F K k=>?_) ?_
  ·have aS:=U.v 0 39;have aQ:=U.v 2 41;go_simp;refine(CS.out l).mono ?_;rintro e W ⟨sv,rfl,aB,ae⟩;exact k.out _ W (Pl.any rfl) (by simpa [upd] using F.s3 (λ h=>d (i 4 3 (by kernel_rfl) h)) (λ h=>d (i 5 3 (by kernel_rfl) h)) (λ h=>d (i 7 3 (by kernel_rfl) h)) ae aB)
  refine rN rfl (λ L a A l d f i U F K k=>?_) ?_
  ·have aP:=U.x 3 42;go_simp;exact k.out _ l (Pl.any rfl) (by simpa [upd] using F.s4)
  refine rN rfl (λ L a A l d f i U F K k=>?_) ?_
  ·have T:=U.x 4 38;have f3:=F.f3 (bK f 3);refine f3.elim λ sv q=>?_
   have aw:=T.trans ((q.2.2.1 (bK f 4)).trans q.1);clear T;go_simp;exact k.out _ l (Pl.any rfl) (by simpa [upd] using F.s5 q.1)
  refine rN rfl (λ L a A l d f i U F K k=>?_) ?_
  ·have T:=U.x 4 38;have f3:=F.f3 (bK f 3);refine f3.elim λ sv q=>?_
   have aw:=T.trans ((q.2.2.1 (bK f 4)).trans q.1);clear T;go_simp;exact pF k (F.skip 6 _)
  refine rN rfl (λ L a A l d f i U F K k=>?_) ?_
  ·have aO:=U.x 5 43;go_simp;exact k.out _ l (Pl.any rfl) (by simpa [upd] using F.s7 (bK f 5))
  refine rN rfl (λ L a A l d f i U F K k=>?_) ?_
  ·have aN:=U.v 6 44;go_simp;exact pF k (F.skip 8 _)
  exact RelFrom.nil (by decide)
 intro a af hp F;simp only [Fr,Act.put,sX,Nat.reduceAdd];have an:a 8=.bool o2:=hp 8 (by decide) _ rfl;rw [an];obtain⟨sv,aA,S,az,ay,C⟩:=F.f3 trivial;have C:=C trivial;rw [C];have ar:w.heap.size+1<w5.heap.size:=Y.rr.lt;have aC:w.heap.size<=w5.heap.size:=Y.bel.size;have K:=Y.below F.bel;clear Y;have Z:=HX.out.below F.bel ad;obtain⟨W,ai⟩:∃ u,af=u:=⟨_,rfl⟩;rw [ai] at K Z S ⊢;clear F hp an aA az ay C HX D ai CS ag;have ao:=K.rr.lt;have av:=K.rr.frozen;obtain⟨r0,r1⟩:=K.rr.c2;have ad:=Z.lt;obtain⟨x0,x1⟩:=Z.c2
 cases o1
 case false =>
  have d:P=none:=HQ.out;have B:R=none:=by rw [G.out,d];rfl
  subst B;clear G S d;go_wp2_with fail;have j:=((K.bel.setCell (p:=⟨w.heap.size+1,0,none⟩) (by show w.heap.size<=w.heap.size+1;omega) (.int .i64 0)).setCell (p:=⟨w.heap.size+1,1,none⟩) (by show w.heap.size<=w.heap.size+1;omega) (.int .i64 0));refine bp_gen (λ m=>Below w.heap.size w m∧RowB m (w.heap.size+1) 48 [.int .i64 0,.int .i64 0]∧OwnS m w.heap.size m.heap.size 135 4 enSt (.slice (some ⟨W.heap.size,0,none⟩) 0 0) []) ⟨j.alloc j.size _,((K.rr.set 0 _).set 1 _).alloc _,?_⟩ ?_
  ·simpa using (RowB.new ((W.setCell ⟨w.heap.size+1,0,none⟩ (.int .i64 0)).setCell ⟨w.heap.size+1,1,none⟩ (.int .i64 0)) 135 []).own (xs:=([]:List Stp)) (en:=enSt) enSt_len j.size (by simp) (by decide)
  rintro w8 ⟨n,N,Q⟩;obtain⟨J,I⟩:=N.c2;refine bodyPost_ret (v:=.tuple #[.agg #[.int .i64 0,.int .i64 0],.slice (some ⟨W.heap.size,0,none⟩) 0 0,.int .i64 6]) (by simp [results,Tryz.results43,go_sem,J,I]) rfl ?_;exact⟨0,0,_,6,[],rfl,Q,n,by decide⟩
 have E:P=some (x,y):=HQ.out
 cases o2
 case false =>
  have d:O=none:=by have:=ax.out;cases O with | none=>rfl | some z=>cases this
  have B:R=none:=by rw [G.out,E,d];rfl
  subst B;clear G S E d;go_wp2_with fail;have j:=((K.bel.setCell (p:=⟨w.heap.size+1,0,none⟩) (by show w.heap.size<=w.heap.size+1;omega) (.int .i64 0)).setCell (p:=⟨w.heap.size+1,1,none⟩) (by show w.heap.size<=w.heap.size+1;omega) (.int .i64 0));refine bp_gen (λ m=>Below w.heap.size w m∧RowB m (w.heap.size+1) 48 [.int .i64 0,.int .i64 0]∧OwnS m w.heap.size m.heap.size 135 4 enSt (.slice (some ⟨W.heap.size,0,none⟩) 0 0) []) ⟨j.alloc j.size _,((K.rr.set 0 _).set 1 _).alloc _,?_⟩ ?_
  ·simpa using (RowB.new ((W.setCell ⟨w.heap.size+1,0,none⟩ (.int .i64 0)).setCell ⟨w.heap.size+1,1,none⟩ (.int .i64 0)) 135 []).own (xs:=([]:List Stp)) (en:=enSt) enSt_len j.size (by simp) (by decide)
  rintro w8 ⟨n,N,Q⟩;obtain⟨J,I⟩:=N.c2;refine bodyPost_ret (v:=.tuple #[.agg #[.int .i64 0,.int .i64 0],.slice (some ⟨W.heap.size,0,none⟩) 0 0,.int .i64 6]) (by simp [results,Tryz.results43,go_sem,J,I]) rfl ?_;exact⟨0,0,_,6,[],rfl,Q,n,by decide⟩
 have al:O=some ss:=by
  have h1:=ax.out;have h2:=aE.out
  cases O with
  | none=>cases h1
  | some z=>exact congrArg some h2
 have B:R=some (x,y,ss):=by rw [G.out,E,al];rfl
 subst B;have aF:=kD S;clear G S E al;go_wp2_with fail;refine bp_gen (λ m=>Below w.heap.size w m∧RowB m (w.heap.size+1) 48 [.int .i64 x,.int .i64 y]∧OwnS m w.heap.size m.heap.size 135 4 enSt sv ss) ⟨(K.bel.setCell (p:=⟨w.heap.size+1,0,none⟩) (by show w.heap.size<=w.heap.size+1;omega) _).setCell (p:=⟨w.heap.size+1,1,none⟩) (by show w.heap.size<=w.heap.size+1;omega) _,(K.rr.set 0 _).set 1 _,?_⟩ ?_
 ·have h2:=((aF.out.setCell (p:=⟨w.heap.size+1,0,none⟩) ar (.int .i64 x)).setCell (p:=⟨w.heap.size+1,1,none⟩) ar (.int .i64 y)).less aC
  simpa using h2
 rintro w8 ⟨n,N,Q⟩;obtain⟨J,I⟩:=N.c2;refine bodyPost_ret (v:=.tuple #[.agg #[.int .i64 x,.int .i64 y],sv,.int .i64 0]) (by simp [results,Tryz.results43,go_sem,J,I]) rfl ?_;exact⟨x,y,sv,0,ss,rfl,Q,n,rfl,rfl⟩
end TsI
end Go.Proofs.YtblipmifflfnoaaGreatDoor
