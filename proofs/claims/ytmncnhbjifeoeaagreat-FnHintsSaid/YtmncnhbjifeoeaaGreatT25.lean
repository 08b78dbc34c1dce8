/- Parts of the proof of FnHints. Conditions: each theorem's own. -/
import Derived.Test.YtmncnhbjifeoeaaGreatT24
set_option linter.unusedVariables false
set_option linter.unusedSimpArgs false
set_option maxHeartbeats 8000000
set_option maxRecDepth 100000
namespace Go.Proofs.YtmncnhbjifeoeaaGreat
namespace Bd32
open Go.ChangeShapes Go.WideShapes Go.ChangeAt Go.RowKit Base Ints Own Clone RelG PlP Bd1 Bd3 Bd3I Bd4 Bd5 Bd6 Bd7 Bd8 Bd9 Bd11 RegInv RegF RegG Bd12 Bd14 Bd15 Bd16 Bd17 Bd18 Bd19 Bd20 Bd21 Bd22 Bd23 Bd24 Bd25 Bd26 Bd27 Bd29 Bd31
def lossP (v:Vr) (d:Nat) (b:Bd) (x y:Int) (k:Nat):Int:=grt (plsP v d b x y) - at_ (plsP v d b x y) k
def lossF (v:Vr) (d:Nat) (b:Bd) (x y:Int) (a:Bd):Int × Bool:=if fdP (allP v b x y).1 a 0<0 then (0,false) else (lossP v d b x y (fdP (allP v b x y).1 a 0).toNat,true)
def lossR (v:Vr) (b:Bd) (x y:Int) (a:Bd) (d:Int):Int × Int :=
 if codeT v (okB v b && okB v a) (okR v x y) d=0 then (if (lossF v d.toNat b x y a).2=true then ((lossF v d.toNat b x y a).1,0) else (0,4)) else (0,codeT v (okB v b && okB v a) (okR v x y) d)
theorem codeT_two (v:Vr) (b a:Bd) (r:Bool) (d:Int):codeT v (okB v b && okB v a) (okV v && r) d=codeT v (okB v b && okB v a) r d:=by
 cases h:okB v a with
 | true=>rw [Bool.and_true];exact codeT_roll v b r d
 | false=>rw [Bool.and_false];unfold codeT;simp
theorem codeT_zero2 {v:Vr} {b a:Bd} {r:Bool} {d:Int} (h:codeT v (okB v b && okB v a) r d=0):codeT v (okB v b) r d=0∧Ok v a:=by
 cases ha:okB v a with
 | true=>rw [ha,Bool.and_true] at h;exact⟨h,okB_iff.1 ha⟩
 | false=>rw [ha,Bool.and_false] at h;unfold codeT at h;simp at h
structure B4 (w wr:World) (v:Vr) (bs:List Value) (x y:Int) (as_:List Value):Prop where
 bel:Below w.heap.size w wr
 rv:RowB wr w.heap.size 25 (vL v)
 rb:RowB wr (w.heap.size+1) 28 bs
 rr:RowB wr (w.heap.size+2) 30 [.int .i64 x,.int .i64 y]
 ra:RowB wr (w.heap.size+3) 28 as_
theorem B4.below {w wr w':World} {v:Vr} {bs as_:List Value} {x y:Int} (h:B4 w wr v bs x y as_) (hb:Below wr.heap.size wr w'):B4 w w' v bs x y as_ :=
 ⟨h.bel.trans (hb.mono h.bel.size),h.rv.below hb h.rv.lt,h.rb.below hb h.rb.lt,h.rr.below hb h.rr.lt,h.ra.below hb h.ra.lt⟩
theorem B4.drew {w wr:World} {v:Vr} {bs as_:List Value} {x y:Int} (h:B4 w wr v bs x y as_):B4 w wr.drew v bs x y as_:=h.below (Below.refl _ _).drew
theorem lossOf_i (v:Vr) (b:Bd) (hb:Ok v b) (hp:v.p<=6) (Ao At:Option Addr) (co ct:Nat) (x y:Int) (hx:1<=x∧x<=6) (hy:1<=y∧y<=6) (a:Bd) (ha:Ok v a) (Bo Bt:Option Addr) (do_ dt:Nat) (d:Nat) (hd:d<=1) (w:World)
  (ho:RdS w w.heap.size 1 enI Ao b.1) (ht:RdS w w.heap.size 1 enI At b.2) (hA:Ao=none->co=0) (hT:At=none->ct=0) (ko:RdS w w.heap.size 1 enI Bo a.1) (kt:RdS w w.heap.size 1 enI Bt a.2) :
  Calls Tryz.prog 46 #[.agg #[.int .i64 v.p,.int .i64 v.c,.int .i64 v.h,.int .i64 v.s],.agg #[.slice Ao b.1.length co,.slice At b.2.length ct],.agg #[.int .i64 x,.int .i64 y],.agg #[.slice Bo a.1.length do_,.slice Bt a.2.length dt],.int .i64 (d:Int)] w λ e w'=>e=.returned (.tuple #[.int .i64 (lossF v d b x y a).1,.bool (lossF v d b x y a).2])∧Below w.heap.size w w':=by
 have CA:=kD (λ(j:World) (h:Below w.heap.size w j)=>allSm_i v b hb hp Ao At co ct x y hx hy j ((ho.below h (Nat.le_refl _)).more h.size) ((ht.below h (Nat.le_refl _)).more h.size) hA hT);have CP:=kD (λ(j:World) (h:Below w.heap.size w j)=>(vals_i d (by omega)).2 v b hb hp Ao At co ct x y hx hy j ((ho.below h (Nat.le_refl _)).more h.size) ((ht.below h (Nat.le_refl _)).more h.size) hA hT);obtain⟨P,hP⟩:∃ P:Nat,v.p=(P:Int):=⟨v.p.toNat,by have:=hb.v1;omega⟩;obtain⟨n,hn⟩:∃ n,P+1=n:=⟨_,rfl⟩;have aV:b.1.length=n:=by have:=hb.own.len;omega
 have aU:b.2.length=n:=by have:=hb.oth.len;omega
 have aB:a.1.length=n:=by have:=ha.own.len;omega
 have aA:a.2.length=n:=by have:=ha.oth.len;omega
 have bb:=kD (λ(q:Bd) (h:Ok v q)=>(⟨by have:=h.own.len;omega,by have:=h.oth.len;omega⟩:q.1.length=n∧q.2.length=n));have ab:=pls_bd (d:=d) hb hx.1 hy.1;have aO:=all_len hb hx hy;have aI:=grt_bd (d:=d) hb hx.1 hy.1;have a2:=kD (allP_ok (x:=x) (y:=y) hb hx.1 hy.1).1;obtain⟨M,ak⟩:∃ z,plsP v d b x y=z:=⟨_,rfl⟩;have aa:(allP v b x y).1.length=M.length:=by rw [<-ak];unfold plsP;rw [List.length_map]
 obtain⟨ps,aG⟩:∃ ps,(allP v b x y).1=ps:=⟨_,rfl⟩;obtain⟨Z,hZ⟩:∃ z,lossF v d b x y a=z:=⟨_,rfl⟩;have Y:=hZ;unfold lossF lossP at Y;rw [aG] at CA aa Y a2 aO;rw [ak] at CP ab aI Y;rw [hZ];obtain⟨Z1,Z2⟩:=Z;simp only;have HZ:=kD Y;have ai:=ab.2;have ba:=kD (λ(k:Nat) (h:k<M.length)=>ab.1 _ (List.mem_of_getElem? (at_get h)));have ar:=fg_gr M (M.length - 1);have ad:at_ M (fgP M)=grt M:=ar.1;have aq:fgP M<M.length:=by have:=ar.2;show fgU M (M.length - 1)<_;omega
 obtain⟨G,hG⟩:∃ g,grt M=g:=⟨_,rfl⟩;rw [hG] at aI ad HZ;obtain⟨fg,hf⟩:∃ f,fgP M=f:=⟨_,rfl⟩;have CF:=kD (λ(j:World) (A:Option Addr) (cp B:Nat) (hr:RdS j B 1 enI A M)=>first_i A cp B M j hr ai);rw [hf] at CF aq ad;obtain⟨Q,hL⟩:∃ l,M.length=l:=⟨_,rfl⟩;have HL:=kD hL;have HM:=kD (show ps.length=Q from by rw [aa,hL]);have bc:=kD aq;have a8:=kD ad;rw [hL] at aq CF ai;rw [aa,hL] at aO;have bm:(fg:Int)<(Q:Int):=by omega
 have KO:=kD ko;have KT:=kD kt;have a3:=kD (⟨aB,aA⟩:a.1.length=n∧a.2.length=n);rw [aV,aU] at CA CP ⊢;rw [aB,aA];clear hb hp ho ht hA hT ha ko kt hx hy ab ak aG hZ Y ar ad hG hf hL aa aV aU aB aA hP hn;go_enter Tryz.func46,Tryz.ntmps46;go_upto_region 1 with fail;refine wp_gen (λ W'=>B4 w W' v [.slice Ao n co,.slice At n ct] x y [.slice Bo n do_,.slice Bt n dt]) ⟨by go_grown,(((RowB.new _ _ _).alloc _).alloc _).alloc _,RowB.alloc (RowB.alloc (RowB.new' _ _ _ (by simp)) _) _,RowB.alloc (RowB.new' _ _ _ (by simp)) _,RowB.new' _ _ _ (by simp)⟩ ?_;intro w1 K;obtain⟨q0,q1,q2,q3⟩:=K.rv.c4;obtain⟨z0,z1⟩:=K.rb.c2;obtain⟨r0,r1⟩:=K.rr.c2;obtain⟨a0,a1⟩:=K.ra.c2;have ac:=K.rv.lt;have ap:=K.rb.lt;have ao:=K.rr.lt;have V:=K.ra.lt;go_wp2_with fail;refine(CA.out w1 K.bel).mono ?_;rintro e w2 ⟨pv,rfl,an,aM⟩;have K:=K.below aM;obtain⟨Aa,ca,aN,-⟩:=Bd19.OwnG.form enP_len an;rw [HM.out] at aN;subst aN;have HA:=an.sl enP_len (Nat.le_refl _);clear q0 q1 q2 q3 z0 z1 r0 r1 a0 a1 ac ap ao V aM an CA;obtain⟨q0,q1,q2,q3⟩:=K.rv.c4;obtain⟨z0,z1⟩:=K.rb.c2;obtain⟨r0,r1⟩:=K.rr.c2;obtain⟨a0,a1⟩:=K.ra.c2;have ac:=K.rv.lt;have ap:=K.rb.lt;have ao:=K.rr.lt;have V:=K.ra.lt;go_wp2_with fail;refine(CP.out w2 K.bel).mono ?_;rintro e w3 ⟨vv,rfl,aE,az⟩;have K:=K.below az;have HA:=(relSl RelP 3 enP).keep HA (.below az);obtain⟨Av,cv,aD,am⟩:=aE.form enI_len;rw [HL.out] at aD;subst aD;obtain⟨b8,o8,rfl,aL,aw⟩:=at_rd am (i:=fg) bc.out;rw [a8.out] at aw;have aZ:=kD am;have HK:=kD K;have be:=kD HA;have J:=kD (λ(j:World) (h:Below w3.heap.size w3 j)=>(Below.cell h (p:=⟨b8,o8+fg,none⟩) aL).trans aw);have ac:=K.rv.lt;clear az aE am CP HA K aL aw q0 q1 q2 q3 z0 z1 r0 r1 a0 a1 ap ao V;go_wp2_with fail;go_loopw [35] (λ i wr=>∃ k:Nat,k<=Q∧i=.int .i64 (k:Int)∧Below w3.heap.size w3 wr∧Hid (hasB (ps.take k) a=false)) (λ i _=>Q - (intOf i).toNat)
 case atStart=>exact⟨0,Nat.zero_le _,by first | rfl | trivial,Below.refl _ _,kD rfl⟩
 case round =>
  obtain⟨k,hk,rfl,C,r⟩:=hrel;clear ac;have K:=HK.out.below C;by_cases hlt:k<Q
  ·obtain⟨A7,c7,bg,e7,ah,S,-⟩:=(relSl RelP 3 enP).keep be.out (.below C);simp only [Value.slice.injEq] at e7;obtain⟨rfl,-,rfl⟩:=e7;obtain⟨b7,o7,r7,rfl,-,a7,aF,ae⟩:=ah.at_ (i:=k) (by rw [S.1,HM.out];exact hlt);obtain⟨q,hq,ag⟩:=S.at_ aF;obtain⟨sp,bd⟩:=q;have HQ:=kD hq;have ax:=(a2.out _ (List.mem_of_getElem? hq)).1;obtain⟨bh,rl,rm⟩:=r7;have aR:=ag.1.sl enSt_len;have aQ:=ag.2.1;have aP:=ag.2.2;simp only at aR aQ aP ax;obtain⟨A0,aX,rfl,-⟩:=aR;obtain⟨A3,c3,rfl,k3,-⟩:=aQ;obtain⟨A4,c4,rfl,k4,-⟩:=aP;obtain⟨W,T⟩:=bb.out bd ax;obtain⟨n0,aH⟩:∃ n,sp.length=n:=⟨_,rfl⟩;have e0:wr.cell? ⟨b7,o7+k*3,none⟩=some (.slice A0 n0 aX):=by have:=ae 0 _ rfl;simp only [aH] at this;exact this
   have e1:wr.cell? ⟨b7,o7+k*3+1,none⟩=some (.slice A3 n c3):=by have:=ae 1 _ rfl;simp only [W] at this;exact this
   have e2:wr.cell? ⟨b7,o7+k*3+2,none⟩=some (.slice A4 n c4):=by have:=ae 2 _ rfl;simp only [T] at this;exact this
   obtain⟨xb,al⟩:∃ t,decide (bd=a)=t:=⟨_,rfl⟩;have N:=HK.out.bel.trans (C.mono HK.out.bel.size);have CB:=kD (λ(j:World) (h:Below wr.heap.size wr j)=>same_i bd a n W T a3.out.1 a3.out.2 A3 A4 Bo Bt c3 c4 do_ dt j (((k3.keep (.below h)).rd)) ((k4.keep (.below h)).rd) ((KO.out.below (N.trans (h.mono N.size)) (Nat.le_refl _)).more (Nat.le_trans N.size h.size)) ((KT.out.below (N.trans (h.mono N.size)) (Nat.le_refl _)).more (Nat.le_trans N.size h.size)) xb al);have bl:(k:Int)<(Q:Int):=by omega
   have bi:IntKind.i64.wrap ((k:Int)+1)=(k:Int)+1:=IntWalk.i64_in _ (by omega);have a4:=ba.out k (by rw [HL.out];exact hlt);obtain⟨zk,R⟩:∃ z,at_ M k=z:=⟨_,rfl⟩;obtain⟨bq,oq,aJ,aK,av⟩:=at_rd aZ.out (i:=k) (by rw [HL.out];exact hlt);simp only [Option.some.injEq,Addr.mk.injEq,and_true] at aJ;obtain⟨rfl,rfl⟩:=aJ;rw [R] at a4 av;have a9:=kD R;have bj:IntKind.i64.wrap (G - zk)=G - zk:=IntWalk.i64_in _ (by omega);have I:=kD (λ(j:World) (h:Below w3.heap.size w3 j)=>(Below.cell h (p:=⟨b8,o8+k,none⟩) aK).trans av);have aY:=kD al;clear hq ag ae ah S aF k3 k4 W T aH al N ax R aK av;go_upto_region 6 with fail;refine wp_gen (λ W'=>Below wr.heap.size wr W'∧RowB W' wr.heap.size 44 [.slice A0 n0 aX,.slice A3 n c3,.slice A4 n c4]) ?_ ?_
   ·exact⟨(Below.refl _ _).alloc (Nat.le_refl _) _,RowB.new _ _ _⟩
   rintro w5 ⟨af,rp⟩;have K:=K.below af;have CB:=kD (CB.out w5 af);have C:=C.trans (af.mono C.size);obtain⟨bn,aj⟩:∃ g,wr.heap.size=g:=⟨_,rfl⟩;rw [aj] at rp ⊢;obtain⟨p0,p1,p2⟩:=rp.c3;obtain⟨a0,a1⟩:=K.ra.c2;have V:=K.ra.lt;have a6:=rp.lt;clear e0 e1 e2 a7 af aj;go_wp2_with fail;refine CB.out.mono ?_;rintro e w6 ⟨rfl,ay⟩;have K:=K.below ay;have C:=C.trans (ay.mono C.size);clear p0 p1 p2 a0 a1 V a6 rp ay CB
   cases xb
   case false =>
    have a5:Hid (hasB (ps.take (k+1)) a=false):=kD (by rw [takeS HQ.out,hasB_snoc,r.out,aY.out];rfl);clear K;go_wp2_with fail;go_roundw
    case rel=>exact⟨k+1,by omega,by go_num,C,a5⟩
    case measure=>simp [intOf];omega
   case true =>
    have X:=fd_at HQ.out r.out (of_decide_eq_true aY.out);have O:=HZ.out;rw [X,if_neg (by omega),Int.toNat_natCast,a9.out] at O;have HG:=kD (λ _:Unit=>Prod.mk.inj O);have o:=kD C;have KB:=kD K.bel;clear O X HZ C K;go_wp2_with fail;refine rG [some 44,some 45,some 46,some 47,some 48,some 49,some 50,some 51,some 52,some 53,some 10,some 11] 12 (Pl [some (.slice (some ⟨b8,o8,none⟩) Q cv),some (.slice (some ⟨b8,o8,none⟩) Q cv),some (.int .i64 (fg:Int)),some (.pointer (some ⟨b8,o8+fg,none⟩)),some (.int .i64 G),some (.slice (some ⟨b8,o8,none⟩) Q cv),some (.int .i64 (k:Int)),some (.pointer (some ⟨b8,o8+k,none⟩)),some (.int .i64 zk),some (.int .i64 (G - zk)),some (.int .i64 (G - zk)),some (.bool true)]) (λ L m w'=>Below w6.heap.size w6 w') ?g0_1 ?gst_1 ?gfin_1
    case g0_1=>exact(Below.refl _ _).drew
    case gst_1 =>
     refine rN rfl (λ L m A j r D E U F K H=>?_) ?_
     ·have aW:=U.w 14 (.slice (some ⟨b8,o8,none⟩) Q cv);have c8:=J.out j (o.out.trans (F.mono o.out.size));have cq:=I.out j (o.out.trans (F.mono o.out.size));go_simp;exact pF H (F)
     refine rN rfl (λ L m A j r D E U F K H=>?_) ?_
     ·have aW:=U.w 14 (.slice (some ⟨b8,o8,none⟩) Q cv);have c8:=J.out j (o.out.trans (F.mono o.out.size));have cq:=I.out j (o.out.trans (F.mono o.out.size));go_simp;exact pF H (F)
     refine rN rfl (λ L m A j r D E U F K H=>?_) ?_
     ·have bz:=U.v 1 45;go_simp;refine(CF.out j _ cv _ (aZ.out.below (o.out.trans (F.mono o.out.size)) (Nat.le_refl _))).mono ?_;rintro e bf ⟨rfl,rfl⟩;exact pF H F
     refine rN rfl (λ L m A j r D E U F K H=>?_) ?_
     ·have bA:=U.v 0 44;have bx:=U.v 2 46;have c8:=J.out j (o.out.trans (F.mono o.out.size));have cq:=I.out j (o.out.trans (F.mono o.out.size));go_simp;exact pF H (F)
     refine rN rfl (λ L m A j r D E U F K H=>?_) ?_
     ·have bw:=U.v 3 47;have c8:=J.out j (o.out.trans (F.mono o.out.size));have cq:=I.out j (o.out.trans (F.mono o.out.size));go_simp;exact pF H (F)
     refine rN rfl (λ L m A j r D E U F K H=>?_) ?_
     ·have aW:=U.w 14 (.slice (some ⟨b8,o8,none⟩) Q cv);have c8:=J.out j (o.out.trans (F.mono o.out.size));have cq:=I.out j (o.out.trans (F.mono o.out.size));go_simp;exact pF H (F)
     refine rN rfl (λ L m A j r D E U F K H=>?_) ?_
     ·have bB:=U.w 16 (.int .i64 (k:Int));have c8:=J.out j (o.out.trans (F.mono o.out.size));have cq:=I.out j (o.out.trans (F.mono o.out.size));go_simp;exact pF H (F)
     refine rN rfl (λ L m A j r D E U F K H=>?_) ?_
     ·have bt:=U.v 5 49;have bs:=U.v 6 50;have c8:=J.out j (o.out.trans (F.mono o.out.size));have cq:=I.out j (o.out.trans (F.mono o.out.size));go_simp;exact pF H (F)
     refine rN rfl (λ L m A j r D E U F K H=>?_) ?_
     ·have br:=U.v 7 51;have c8:=J.out j (o.out.trans (F.mono o.out.size));have cq:=I.out j (o.out.trans (F.mono o.out.size));go_simp;exact pF H (F)
     refine rN rfl (λ L m A j r D E U F K H=>?_) ?_
     ·have bv:=U.v 4 48;have bp:=U.v 8 52;have c8:=J.out j (o.out.trans (F.mono o.out.size));have cq:=I.out j (o.out.trans (F.mono o.out.size));go_simp;exact pF H (F)
     refine rN rfl (λ L m A j r D E U F K H=>?_) ?_
     ·have bo:=U.v 9 53;have c8:=J.out j (o.out.trans (F.mono o.out.size));have cq:=I.out j (o.out.trans (F.mono o.out.size));go_simp;exact pF H (F)
     refine rN rfl (λ L m A j r D E U F K H=>?_) ?_
     ·have c8:=J.out j (o.out.trans (F.mono o.out.size));have cq:=I.out j (o.out.trans (F.mono o.out.size));go_simp;exact pF H (F)
     exact RelFrom.nil (by decide)
    case gfin_1 =>
     intro m j hp F;simp only [Fr,Act.put,sX,Nat.reduceAdd];have aC:=KB.out.trans (F.mono KB.out.size);have aT:m 10=.int .i64 (G - zk):=hp 10 (by decide) _ rfl;have aS:m 11=.bool true:=hp 11 (by decide) _ rfl;rw [aT,aS];clear F hp aT aS o KB;go_wp2_with fail;go_ret2;refine⟨?_,aC⟩;rw [<-(HG.out ()).1,<-(HG.out ()).2]
     rfl
  ·obtain rfl:k=Q:=by omega
   have bk:¬ ((k:Int)<(k:Int)):=by omega
   have X:=fd_none (out:=ps) (b:=a) (by rw [<-r.out,List.take_of_length_le (by rw [HM.out];exact Nat.le_refl _)]);have O:=HZ.out;rw [X,if_pos (by omega)] at O;have HG:=kD (λ _:Unit=>Prod.mk.inj O);have aC:=K.bel;clear O X HZ K;go_wp2_with fail;go_ret2;refine⟨?_,aC⟩;rw [<-(HG.out ()).1,<-(HG.out ()).2]
   rfl
theorem lossX_i (v:Vr) (b:Bd) (Ao At:Option Addr) (co ct:Nat) (x y:Int) (a:Bd) (Bo Bt:Option Addr) (do_ dt:Nat) (d:Int) (w:World) (ho:RdS w w.heap.size 1 enI Ao b.1) (ht:RdS w w.heap.size 1 enI At b.2) (hA:Ao=none->co=0) (hT:At=none->ct=0) (ko:RdS w w.heap.size 1 enI Bo a.1) (kt:RdS w w.heap.size 1 enI Bt a.2) :
  Calls Tryz.prog 12 #[.agg #[.int .i64 v.p,.int .i64 v.c,.int .i64 v.h,.int .i64 v.s],.agg #[.slice Ao b.1.length co,.slice At b.2.length ct],.agg #[.int .i64 x,.int .i64 y],.agg #[.slice Bo a.1.length do_,.slice Bt a.2.length dt],.int .i64 d] w λ e w'=>e=.returned (.tuple #[.int .i64 (lossR v b x y a d).1,.int .i64 (lossR v b x y a d).2])∧Below w.heap.size w w':=by
 obtain⟨c0,g⟩:∃ c,okB v b=c:=⟨_,rfl⟩;obtain⟨Z,h9⟩:∃ c,okB v a=c:=⟨_,rfl⟩;obtain⟨c1,h1⟩:∃ c,(okV v && okR v x y)=c:=⟨_,rfl⟩;obtain⟨z,hz⟩:∃ z,codeT v (okB v b && okB v a) (okR v x y) d=z:=⟨_,rfl⟩;have ab:codeT v (c0 && Z) c1 d=z:=by rw [<-g,<-h1,<-h9,codeT_two];exact hz
 have C0:=kD (λ(j:World) (h:Below w.heap.size w j)=>Bd3I.isB_i v b Ao At co ct w.heap.size j h.size (ho.below h (Nat.le_refl _)) (ht.below h (Nat.le_refl _)) c0 g);have C9:=kD (λ(j:World) (h:Below w.heap.size w j)=>Bd3I.isB_i v a Bo Bt do_ dt w.heap.size j h.size (ko.below h (Nat.le_refl _)) (kt.below h (Nat.le_refl _)) Z h9);have C1:=kD (λ w=>isroll_i v x y c1 h1 w);have C2:=kD (λ w=>tutor_i v (c0 && Z) c1 d z ab w);obtain⟨LF,Y⟩:∃ l,lossF v d.toNat b x y a=l:=⟨_,rfl⟩;have Q:=kD (λ(h:z=0) (j:World) (S:Below w.heap.size w j)=>show Calls Tryz.prog 46 #[.agg #[.int .i64 v.p,.int .i64 v.c,.int .i64 v.h,.int .i64 v.s],.agg #[.slice Ao b.1.length co,.slice At b.2.length ct],.agg #[.int .i64 x,.int .i64 y],.agg #[.slice Bo a.1.length do_,.slice Bt a.2.length dt],.int .i64 d] j λ e w'=>e=.returned (.tuple #[.int .i64 LF.1,.bool LF.2])∧Below j.heap.size j w' from by
  obtain⟨am,al⟩:=codeT_zero2 (hz.trans h);have hk:=codeT_zero am;have hr:=okR_iff.1 hk.2.1;rw [<-Y];obtain⟨dn,rfl⟩:∃ n:Nat,d=(n:Int):=⟨d.toNat,by omega⟩;rw [Int.toNat_natCast];exact lossOf_i v b hk.1 hk.2.2.2.1 Ao At co ct x y (by omega) (by omega) a al Bo Bt do_ dt dn (by omega) j ((ho.below S (Nat.le_refl _)).more S.size) ((ht.below S (Nat.le_refl _)).more S.size) hA hT ((ko.below S (Nat.le_refl _)).more S.size) ((kt.below S (Nat.le_refl _)).more S.size))
 have R:lossR v b x y a d=if z=0 then (if LF.2=true then (LF.1,0) else (0,4)) else (0,z):=by unfold lossR;rw [hz,Y]
 obtain⟨Rz,ag⟩:∃ r,lossR v b x y a d=r:=⟨_,rfl⟩;rw [ag] at R ⊢;obtain⟨g1,g2⟩:=Rz;obtain⟨aC,aa⟩:=LF;simp only at R Q;have T:=kD R;simp only;obtain⟨W,af⟩:∃ n,b.1.length=n:=⟨_,rfl⟩;obtain⟨V,ae⟩:∃ n,b.2.length=n:=⟨_,rfl⟩;obtain⟨n3,ad⟩:∃ n,a.1.length=n:=⟨_,rfl⟩;obtain⟨n4,ac⟩:∃ n,a.2.length=n:=⟨_,rfl⟩;rw [af,ae] at C0 Q ⊢;rw [ad,ac] at C9 Q ⊢;clear ho ht hA hT ko kt g h1 h9 hz ab af ae ad ac R ag Y;go_enter Tryz.func12,Tryz.ntmps12;go_upto_region 1 with fail;refine wp_gen (λ W'=>B4 w W' v [.slice Ao W co,.slice At V ct] x y [.slice Bo n3 do_,.slice Bt n4 dt]) ⟨by go_grown,(((RowB.new _ _ _).alloc _).alloc _).alloc _,RowB.alloc (RowB.alloc (RowB.new' _ _ _ (by simp)) _) _,RowB.alloc (RowB.new' _ _ _ (by simp)) _,RowB.new' _ _ _ (by simp)⟩ ?_;intro w1 K
 cases c0
 case false =>
  refine region_fix [some 15,some 16,some 17,some 18,some 19,some 20,some 21,some 22,some 23,some 24,some 25,some 26,some 27,some 28,some 12] (λ j_=>([.agg #[.int .i64 v.p,.int .i64 v.c,.int .i64 v.h,.int .i64 v.s],.agg #[.int .i64 v.p,.int .i64 v.c,.int .i64 v.h,.int .i64 v.s],.agg #[.slice Ao W co,.slice At V ct],.bool false,.bool false,undef,undef,undef,.bool false,.int .i64 d,.agg #[.int .i64 v.p,.int .i64 v.c,.int .i64 v.h,.int .i64 v.s],.agg #[.int .i64 x,.int .i64 y],.bool c1,.int .i64 z,.int .i64 z]:List Value).getD j_ undef) (λ L w'=>B4 w w' v [.slice Ao W co,.slice At V ct] x y [.slice Bo n3 do_,.slice Bt n4 dt]) (by kernel_rfl) (by kernel_rfl) (by kernel_rfl) (by kernel_rfl) (by first | kernel_rfl | rfl) (by first | kernel_rfl | rfl) ?hB1 ?hBL1 ?hst1 ?fin1
  case hB1=>exact K.drew
  case hBL1=>exact λ _ _ _ _ h=>h
  case hst1 =>
   refine FixFrom.run rfl rfl (λ L A j k i g f K m=>?_) ?_
   ·have e5:A.tmps[5]?.getD undef=.pointer (some ⟨w.heap.size,0,none⟩):=g 5 (by decide);clear i g;obtain⟨M,J,I,H⟩:=f.rv.c4;obtain⟨D,C⟩:=f.rb.c2;obtain⟨G,F⟩:=f.rr.c2;obtain⟨O,N⟩:=f.ra.c2
    skip
    go_simp;exact m.out j f
   refine FixFrom.run rfl rfl (λ L A j k i g f K m=>?_) ?_
   ·have e5:A.tmps[5]?.getD undef=.pointer (some ⟨w.heap.size,0,none⟩):=g 5 (by decide);clear i g;obtain⟨M,J,I,H⟩:=f.rv.c4;obtain⟨D,C⟩:=f.rb.c2;obtain⟨G,F⟩:=f.rr.c2;obtain⟨O,N⟩:=f.ra.c2
    skip
    go_simp;exact m.out j f
   refine FixFrom.run rfl rfl (λ L A j k i g f K m=>?_) ?_
   ·have e6:A.tmps[6]?.getD undef=.pointer (some ⟨w.heap.size+1,0,none⟩):=g 6 (by decide);clear i g;obtain⟨M,J,I,H⟩:=f.rv.c4;obtain⟨D,C⟩:=f.rb.c2;obtain⟨G,F⟩:=f.rr.c2;obtain⟨O,N⟩:=f.ra.c2
    skip
    go_simp;exact m.out j f
   refine FixFrom.run rfl rfl (λ L A j k i g f K m=>?_) ?_
   ·have aA:A.tmps[16]?.getD undef=.agg #[.int .i64 v.p,.int .i64 v.c,.int .i64 v.h,.int .i64 v.s]:=gu i 1 16;have az:A.tmps[17]?.getD undef=.agg #[.slice Ao W co,.slice At V ct]:=gu i 2 17;clear i g;go_simp;refine(C0.out j f.bel).mono ?_;rintro e E ⟨rfl,q⟩;exact m.out E (f.below q)
   refine FixFrom.run rfl rfl (λ L A j k i g f K m=>?_) ?_
   ·have ay:A.tmps[18]?.getD undef=.bool false:=gu i 3 18;clear i g;go_simp;exact m.out j f
   refine FixFrom.skip rfl rfl rfl (λ _ _ h=>h) ?_;refine FixFrom.skip rfl rfl rfl (λ _ _ h=>h) ?_;refine FixFrom.skip rfl rfl rfl (λ _ _ h=>h) ?_;refine FixFrom.run rfl rfl (λ L A j k i g f K m=>?_) ?_
   ·have ax:A.tmps[19]?.getD undef=.bool false:=gu i 4 19;have aw:A.tmps[22]?.getD undef=undef:=gu i 7 22;clear i g;go_simp;exact m.out j f
   refine FixFrom.run rfl rfl (λ L A j k i g f K m=>?_) ?_
   ·have e4:A.tmps[4]?.getD undef=.int .i64 d:=g 4 (by decide);clear i g;go_simp;exact m.out j f
   refine FixFrom.run rfl rfl (λ L A j k i g f K m=>?_) ?_
   ·have e5:A.tmps[5]?.getD undef=.pointer (some ⟨w.heap.size,0,none⟩):=g 5 (by decide);clear i g;obtain⟨M,J,I,H⟩:=f.rv.c4;obtain⟨D,C⟩:=f.rb.c2;obtain⟨G,F⟩:=f.rr.c2;obtain⟨O,N⟩:=f.ra.c2
    skip
    go_simp;exact m.out j f
   refine FixFrom.run rfl rfl (λ L A j k i g f K m=>?_) ?_
   ·have e7:A.tmps[7]?.getD undef=.pointer (some ⟨w.heap.size+2,0,none⟩):=g 7 (by decide);clear i g;obtain⟨M,J,I,H⟩:=f.rv.c4;obtain⟨D,C⟩:=f.rb.c2;obtain⟨G,F⟩:=f.rr.c2;obtain⟨O,N⟩:=f.ra.c2
    skip
    go_simp;exact m.out j f
   refine FixFrom.run rfl rfl (λ L A j k i g f K m=>?_) ?_
   ·have aq:A.tmps[25]?.getD undef=.agg #[.int .i64 v.p,.int .i64 v.c,.int .i64 v.h,.int .i64 v.s]:=gu i 10 25;have ap:A.tmps[26]?.getD undef=.agg #[.int .i64 x,.int .i64 y]:=gu i 11 26;clear i g;go_simp;refine(C1.out j).mono ?_;rintro e E ⟨rfl,q⟩;exact m.out E (f.below q)
   refine FixFrom.run rfl rfl (λ L A j k i g f K m=>?_) ?_
   ·have aB:A.tmps[15]?.getD undef=.agg #[.int .i64 v.p,.int .i64 v.c,.int .i64 v.h,.int .i64 v.s]:=gu i 0 15;have av:A.tmps[23]?.getD undef=.bool false:=gu i 8 23;have ar:A.tmps[24]?.getD undef=.int .i64 d:=gu i 9 24;have ao:A.tmps[27]?.getD undef=.bool c1:=gu i 12 27;clear i g;go_simp;refine(C2.out j).mono ?_;rintro e E ⟨rfl,q⟩;exact m.out E (f.below q)
   refine FixFrom.run rfl rfl (λ L A j k i g f K m=>?_) ?_
   ·have an:A.tmps[28]?.getD undef=.int .i64 z:=gu i 13 28;clear i g;go_simp;exact m.out j f
   exact FixFrom.nil (by decide)
  case fin1 =>
   intro j f;simp only [Fr,Act.put,sX,Nat.reduceAdd,List.getD_cons_zero,List.getD_cons_succ];have K:=f;clear f;obtain⟨M,J,I,H⟩:=K.rv.c4;obtain⟨D,C⟩:=K.rb.c2;obtain⟨G,F⟩:=K.rr.c2;obtain⟨O,N⟩:=K.ra.c2;have ak:=K.rv.lt;have aj:=K.rb.lt;have ai:=K.rr.lt;have ah:=K.ra.lt;by_cases g:z=0
   ·have o:=T.out;rw [if_pos g] at o;have e0:(z != 0)=false:=by simp [g]
    have Q:=kD (Q.out g j K.bel);have H0:=kD g;have t:=kD o;clear g T o;go_wp2_with fail;refine Q.out.mono ?_;rintro e w4 ⟨rfl,X⟩;have K:=K.below X
    cases aa
    case false =>
     have P:=t.out;have B:=kD (λ _:Unit=>Prod.mk.inj P);clear t P;go_wp2_with fail;go_ret2;refine⟨?_,K.bel⟩;rw [(B.out ()).1,(B.out ()).2]
     rfl
    case true =>
     have P:=t.out;have B:=kD (λ _:Unit=>Prod.mk.inj P);clear t P;go_wp2_with fail;go_ret2;refine⟨?_,K.bel⟩;rw [(B.out ()).1,(B.out ()).2]
     rfl
   ·have o:=T.out;rw [if_neg g] at o;have e0:(z != 0)=true:=by simp [g]
    have B:=kD (λ _:Unit=>Prod.mk.inj o);clear g T o Q;go_wp2_with fail;go_ret2;refine⟨?_,K.bel⟩;rw [(B.out ()).1,(B.out ()).2]
    rfl
 case true =>
  refine region_fix [some 15,some 16,some 17,some 18,some 19,some 20,some 21,some 22,some 23,some 24,some 25,some 26,some 27,some 28,some 12] (λ j_=>([.agg #[.int .i64 v.p,.int .i64 v.c,.int .i64 v.h,.int .i64 v.s],.agg #[.int .i64 v.p,.int .i64 v.c,.int .i64 v.h,.int .i64 v.s],.agg #[.slice Ao W co,.slice At V ct],.bool true,.bool true,.agg #[.int .i64 v.p,.int .i64 v.c,.int .i64 v.h,.int .i64 v.s],.agg #[.slice Bo n3 do_,.slice Bt n4 dt],.bool Z,.bool Z,.int .i64 d,.agg #[.int .i64 v.p,.int .i64 v.c,.int .i64 v.h,.int .i64 v.s],.agg #[.int .i64 x,.int .i64 y],.bool c1,.int .i64 z,.int .i64 z]:List Value).getD j_ undef) (λ L w'=>B4 w w' v [.slice Ao W co,.slice At V ct] x y [.slice Bo n3 do_,.slice Bt n4 dt]) (by kernel_rfl) (by kernel_rfl) (by kernel_rfl) (by kernel_rfl) (by first | kernel_rfl | rfl) (by first | kernel_rfl | rfl) ?hB2 ?hBL2 ?hst2 ?fin2
  case hB2=>exact K.drew
  case hBL2=>exact λ _ _ _ _ h=>h
  case hst2 =>
   refine FixFrom.run rfl rfl (λ L A j k i g f K m=>?_) ?_
   ·have e5:A.tmps[5]?.getD undef=.pointer (some ⟨w.heap.size,0,none⟩):=g 5 (by decide);clear i g;obtain⟨M,J,I,H⟩:=f.rv.c4;obtain⟨D,C⟩:=f.rb.c2;obtain⟨G,F⟩:=f.rr.c2;obtain⟨O,N⟩:=f.ra.c2
    skip
    go_simp;exact m.out j f
   refine FixFrom.run rfl rfl (λ L A j k i g f K m=>?_) ?_
   ·have e5:A.tmps[5]?.getD undef=.pointer (some ⟨w.heap.size,0,none⟩):=g 5 (by decide);clear i g;obtain⟨M,J,I,H⟩:=f.rv.c4;obtain⟨D,C⟩:=f.rb.c2;obtain⟨G,F⟩:=f.rr.c2;obtain⟨O,N⟩:=f.ra.c2
    skip
    go_simp;exact m.out j f
   refine FixFrom.run rfl rfl (λ L A j k i g f K m=>?_) ?_
   ·have e6:A.tmps[6]?.getD undef=.pointer (some ⟨w.heap.size+1,0,none⟩):=g 6 (by decide);clear i g;obtain⟨M,J,I,H⟩:=f.rv.c4;obtain⟨D,C⟩:=f.rb.c2;obtain⟨G,F⟩:=f.rr.c2;obtain⟨O,N⟩:=f.ra.c2
    skip
    go_simp;exact m.out j f
   refine FixFrom.run rfl rfl (λ L A j k i g f K m=>?_) ?_
   ·have aA:A.tmps[16]?.getD undef=.agg #[.int .i64 v.p,.int .i64 v.c,.int .i64 v.h,.int .i64 v.s]:=gu i 1 16;have az:A.tmps[17]?.getD undef=.agg #[.slice Ao W co,.slice At V ct]:=gu i 2 17;clear i g;go_simp;refine(C0.out j f.bel).mono ?_;rintro e E ⟨rfl,q⟩;exact m.out E (f.below q)
   refine FixFrom.run rfl rfl (λ L A j k i g f K m=>?_) ?_
   ·have ay:A.tmps[18]?.getD undef=.bool true:=gu i 3 18;clear i g;go_simp;exact m.out j f
   refine FixFrom.run rfl rfl (λ L A j k i g f K m=>?_) ?_
   ·have e5:A.tmps[5]?.getD undef=.pointer (some ⟨w.heap.size,0,none⟩):=g 5 (by decide);clear i g;obtain⟨M,J,I,H⟩:=f.rv.c4;obtain⟨D,C⟩:=f.rb.c2;obtain⟨G,F⟩:=f.rr.c2;obtain⟨O,N⟩:=f.ra.c2
    skip
    go_simp;exact m.out j f
   refine FixFrom.run rfl rfl (λ L A j k i g f K m=>?_) ?_
   ·have e8:A.tmps[8]?.getD undef=.pointer (some ⟨w.heap.size+3,0,none⟩):=g 8 (by decide);clear i g;obtain⟨M,J,I,H⟩:=f.rv.c4;obtain⟨D,C⟩:=f.rb.c2;obtain⟨G,F⟩:=f.rr.c2;obtain⟨O,N⟩:=f.ra.c2
    skip
    go_simp;exact m.out j f
   refine FixFrom.run rfl rfl (λ L A j k i g f K m=>?_) ?_
   ·have aE:A.tmps[20]?.getD undef=.agg #[.int .i64 v.p,.int .i64 v.c,.int .i64 v.h,.int .i64 v.s]:=gu i 5 20;have aD:A.tmps[21]?.getD undef=.agg #[.slice Bo n3 do_,.slice Bt n4 dt]:=gu i 6 21;clear i g;go_simp;refine(C9.out j f.bel).mono ?_;rintro e E ⟨rfl,q⟩;exact m.out E (f.below q)
   refine FixFrom.run rfl rfl (λ L A j k i g f K m=>?_) ?_
   ·have ax:A.tmps[19]?.getD undef=.bool true:=gu i 4 19;have aw:A.tmps[22]?.getD undef=.bool Z:=gu i 7 22;clear i g;go_simp;exact m.out j f
   refine FixFrom.run rfl rfl (λ L A j k i g f K m=>?_) ?_
   ·have e4:A.tmps[4]?.getD undef=.int .i64 d:=g 4 (by decide);clear i g;go_simp;exact m.out j f
   refine FixFrom.run rfl rfl (λ L A j k i g f K m=>?_) ?_
   ·have e5:A.tmps[5]?.getD undef=.pointer (some ⟨w.heap.size,0,none⟩):=g 5 (by decide);clear i g;obtain⟨M,J,I,H⟩:=f.rv.c4;obtain⟨D,C⟩:=f.rb.c2;obtain⟨G,F⟩:=f.rr.c2;obtain⟨O,N⟩:=f.ra.c2
    skip
    go_simp;exact m.out j f
   refine FixFrom.run rfl rfl (λ L A j k i g f K m=>?_) ?_
   ·have e7:A.tmps[7]?.getD undef=.pointer (some ⟨w.heap.size+2,0,none⟩):=g 7 (by decide);clear i g;obtain⟨M,J,I,H⟩:=f.rv.c4;obtain⟨D,C⟩:=f.rb.c2;obtain⟨G,F⟩:=f.rr.c2;obtain⟨O,N⟩:=f.ra.c2
    skip
    go_simp;exact m.out j f
   refine FixFrom.run rfl rfl (λ L A j k i g f K m=>?_) ?_
   ·have aq:A.tmps[25]?.getD undef=.agg #[.int .i64 v.p,.int .i64 v.c,.int .i64 v.h,.int .i64 v.s]:=gu i 10 25;have ap:A.tmps[26]?.getD undef=.agg #[.int .i64 x,.int .i64 y]:=gu i 11 26;clear i g;go_simp;refine(C1.out j).mono ?_;rintro e E ⟨rfl,q⟩;exact m.out E (f.below q)
   refine FixFrom.run rfl rfl (λ L A j k i g f K m=>?_) ?_
   ·have aB:A.tmps[15]?.getD undef=.agg #[.int .i64 v.p,.int .i64 v.c,.int .i64 v.h,.int .i64 v.s]:=gu i 0 15;have av:A.tmps[23]?.getD undef=.bool Z:=gu i 8 23;have ar:A.tmps[24]?.getD undef=.int .i64 d:=gu i 9 24;have ao:A.tmps[27]?.getD undef=.bool c1:=gu i 12 27;clear i g;go_simp;refine(C2.out j).mono ?_;rintro e E ⟨rfl,q⟩;exact m.out E (f.below q)
   refine FixFrom.run rfl rfl (λ L A j k i g f K m=>?_) ?_
   ·have an:A.tmps[28]?.getD undef=.int .i64 z:=gu i 13 28;clear i g;go_simp;exact m.out j f
   exact FixFrom.nil (by decide)
  case fin2 =>
   intro j f;simp only [Fr,Act.put,sX,Nat.reduceAdd,List.getD_cons_zero,List.getD_cons_succ];have K:=f;clear f;obtain⟨M,J,I,H⟩:=K.rv.c4;obtain⟨D,C⟩:=K.rb.c2;obtain⟨G,F⟩:=K.rr.c2;obtain⟨O,N⟩:=K.ra.c2;have ak:=K.rv.lt;have aj:=K.rb.lt;have ai:=K.rr.lt;have ah:=K.ra.lt;by_cases g:z=0
   ·have o:=T.out;rw [if_pos g] at o;have e0:(z != 0)=false:=by simp [g]
    have Q:=kD (Q.out g j K.bel);have H0:=kD g;have t:=kD o;clear g T o;go_wp2_with fail;refine Q.out.mono ?_;rintro e w4 ⟨rfl,X⟩;have K:=K.below X
    cases aa
    case false =>
     have P:=t.out;have B:=kD (λ _:Unit=>Prod.mk.inj P);clear t P;go_wp2_with fail;go_ret2;refine⟨?_,K.bel⟩;rw [(B.out ()).1,(B.out ()).2]
     rfl
    case true =>
     have P:=t.out;have B:=kD (λ _:Unit=>Prod.mk.inj P);clear t P;go_wp2_with fail;go_ret2;refine⟨?_,K.bel⟩;rw [(B.out ()).1,(B.out ()).2]
     rfl
   ·have o:=T.out;rw [if_neg g] at o;have e0:(z != 0)=true:=by simp [g]
    have B:=kD (λ _:Unit=>Prod.mk.inj o);clear g T o Q;go_wp2_with fail;go_ret2;refine⟨?_,K.bel⟩;rw [(B.out ()).1,(B.out ()).2]
    rfl
end Bd32
namespace HkP
open PlP Bd15 Bd31 Bd32 Bd38 Bd39 Bd29
theorem hasB_take {ps:List Pl} (hd:Diff ps) {i:Nat} {p:Pl} (hi:ps[i]?=some p):hasB (ps.take i) p.2=false:=by
 cases h:hasB (ps.take i) p.2 with
 | false=>rfl
 | true =>
  obtain⟨q,b,e⟩:=hasB_iff.1 h;obtain⟨j,a⟩:=List.getElem?_of_mem b;rw [List.getElem?_take] at a;split at a
  ·rename_i hlt
   have:=hd j i q p a hi e;omega
  ·cases a
theorem hints {v:Vr} {b:Bd} {x y d:Int} (hc:codeT v (okB v b) (okR v x y) d=0) :
  ∃(k:Nat) (p0:Pl),(allP v b x y).1[k]?=some p0∧stepsP v d.toNat b x y=p0.1∧playP v b x y p0.1=some p0.2 ∧
   (∀(i:Nat) (p:Pl),(allP v b x y).1[i]?=some p->∃ l,lossR v b x y p.2 d=(l,0)∧(p.2=p0.2->l=0)∧(p.2≠p0.2->leadP v d.toNat b x y<=l))∧(1<(allP v b x y).1.length∨leadP v d.toNat b x y=0):=by
 have L:okB v b=true:=by
  cases h:okB v b with
  | true=>rfl
  | false=>rw [h] at hc;unfold codeT at hc;simp at hc
 have K:okR v x y=true:=by
  cases h:okR v x y with
  | true=>rfl
  | false=>rw [h,L] at hc;unfold codeT at hc;simp at hc
 have E:=okB_iff.1 L;have q:(1<=x∧x<=v.s)∧1<=y∧y<=x:=by unfold okR at K;simpa only [Bool.and_eq_true,decide_eq_true_eq] using K
 obtain⟨z,F⟩:=allP_ok (x:=x) (y:=y) E q.1.1 q.2.1;have C:=all_diff v b x y;have D:=all_play (v:=v) (b:=b) (x:=x) (y:=y) (by have:=E.v1;omega) q.1 ⟨q.2.1,by omega⟩;obtain⟨m,r⟩:∃ m,(allP v b x y).1=m:=⟨_,rfl⟩;obtain⟨c,n⟩:∃ c,plsP v d.toNat b x y=c:=⟨_,rfl⟩;have M:c.length=m.length:=by rw [<-n,<-r];unfold plsP;rw [List.length_map]
 have o:stepsP v d.toNat b x y=((m[fgP c]?).getD ([],([],[]))).1:=by unfold stepsP;rw [r,n]
 have f:leadP v d.toNat b x y=(leadS c (fgP c) c.length).1:=by unfold leadP;rw [n]
 have A:∀ a,okB v a=true->lossR v b x y a d=if fdP m a 0<0 then (0,4) else (grt c - at_ c (fdP m a 0).toNat,0):=by
  intro a P;have J:codeT v (okB v b && okB v a) (okR v x y) d=0:=by rw [P,Bool.and_true];exact hc
  unfold lossR lossF lossP;rw [if_pos J,r,n];split <;> simp
 rw [r] at z F C D ⊢;have O:=fg_gr c (c.length - 1);have g:fgP c<m.length:=by unfold fgP;omega
 have G:at_ c (fgP c)=grt c:=O.1;have t:=leadS_bd c (fgP c) c.length;refine⟨fgP c,m[fgP c],List.getElem?_eq_getElem g,by rw [o,List.getElem?_eq_getElem g];rfl,D _ (List.getElem_mem g),λ i p B=>?_,?_⟩
 ·have N:i<m.length:=(List.getElem?_eq_some_iff.1 B).1;have I:=fd_at B (hasB_take C B) rfl;refine⟨grt c - at_ c i,?_,λ e=>?_,λ H=>?_⟩
  ·rw [A p.2 (okB_iff.2 (z p (List.mem_of_getElem? B)).1),I,if_neg (by omega)];simp
  ·have:=C i (fgP c) p _ B (List.getElem?_eq_getElem g) e;rw [this,G];omega
  ·have w:i≠fgP c:=λ e=>H (by subst e;rw [List.getElem?_eq_getElem g] at B;obtain rfl:=Option.some.inj B;rfl)
   rw [f,<-G]
   cases hs:(leadS c (fgP c) c.length).2 with
   | true=>exact(t.2 hs).1 i (by omega) w
   | false=>exact absurd ((t.1 hs).2 i (by omega)) w
 ·by_cases h1:1<m.length
  ·exact .inl h1
  ·refine .inr ?_;rw [f]
   cases hs:(leadS c (fgP c) c.length).2 with
   | false=>exact(t.1 hs).1
   | true =>
    obtain⟨j,R,Q,_⟩:=(t.2 hs).2;omega
end HkP
namespace HlC
open Go Go.ChangeShapes Go.WideShapes Go.ChangeAt Go.RowKit Base Ints Own RelG PlP Gm RegInv RegF RegG Bd1 Bd5 Bd15 DwP
theorem bigF (n cp:Nat) (A:Option Addr) (b:Bool) (hb:decide ((4096:Int)<(n:Int))=b) (w:World) (hn:n<=maxLen):Calls Tryz.prog 6 #[.slice A n cp] w λ e w'=>e=.returned (.bool b)∧w=w':=by
 subst hb;unfold maxLen at hn;go_enter Tryz.func6,Tryz.ntmps6;go_wp2;go_ret;exact⟨rfl,rfl⟩
theorem check_i (v:Vr) (b:Bd) (hb:Ok v b) (S:Nat->Prop) (u1 u2:Value) (x y:Int) (hr:rollB v x y=true) (w:World) (hR:BdR w S u1 u2 b) :
  Calls Tryz.prog 43 #[.agg #[.int .i64 v.p,.int .i64 v.c,.int .i64 v.h,.int .i64 v.s],.agg #[u1,u2],.agg #[.int .i64 x,.int .i64 y]] w λ e w'=>e=.returned (.int .i64 0)∧Below w.heap.size w w':=by
 obtain⟨⟨C,z,rfl,k,N⟩,⟨B,t,rfl,j,M⟩⟩:=hR;have A:=kD (λ(f:World) (r:Below w.heap.size w f)=>Bd3I.isB_i v b C B z t f.heap.size f (Nat.le_refl _) (k.keep (.below r)).rd (j.keep (.below r)).rd true (okB_iff.2 hb));have H:=kD (λ(f:World)=>isroll_i v x y true (by have F:okV v=true:=okV_iff.2 hb.v1;rw [F];exact hr) f);obtain⟨E,d⟩:∃ n,b.1.length=n:=⟨_,rfl⟩;obtain⟨D,a⟩:∃ n,b.2.length=n:=⟨_,rfl⟩;rw [d,a] at A;rw [d,a];clear d a k j hb hr;go_enter Tryz.func43,Tryz.ntmps43;go_upto_region 1 with fail;refine wp_gen (λ G=>B3r w G v (.slice C E z) (.slice B D t) x y) ⟨by go_grown,((RowB.new _ _ _).alloc _).alloc _,(RowB.new' _ _ _ (by simp)).alloc _,RowB.new' _ _ _ (by simp)⟩ ?_;intro L K;obtain⟨q,o,m,l⟩:=K.rv.c4;obtain⟨i,g⟩:=K.rb.c2;go_wp2_with fail;refine(A.out _ K.bel).mono ?_;rintro e J ⟨rfl,hb⟩;have K:=K.below hb;clear q o m l i g hb;obtain⟨q,o,m,l⟩:=K.rv.c4;obtain⟨i,g⟩:=K.rr.c2;go_wp2_with fail;refine(H.out _).mono ?_;rintro e I ⟨rfl,hb⟩;have K:=K.below hb;go_wp2_with fail;go_ret;exact⟨rfl,K.bel⟩
theorem psteps_i (v:Vr) (b:Bd) (hb:Ok v b) (S:Nat->Prop) (u1 u2:Value) (x y:Int) (hr:rollB v x y=true) (ss:List Stp) (As:Option Addr) (cp BS:Nat) (b':Bd) (hp:playP v b x y ss=some b') (w:World) (hBS:BS<=w.heap.size) (hR:BdR w S u1 u2 b) (hs:RdS w BS 4 enSt As ss) :
  Calls Tryz.prog 10 #[.agg #[.int .i64 v.p,.int .i64 v.c,.int .i64 v.h,.int .i64 v.s],.agg #[u1,u2],.agg #[.int .i64 x,.int .i64 y],.slice As ss.length cp] w λ e w'=>∃ u3 u4,e=.returned (.tuple #[.agg #[u3,u4],.int .i64 0])∧BdR w' (λ b=>S b∨w.heap.size<=b) u3 u4 b'∧Below w.heap.size w w':=by
 have CC:=kD (λ(t:World) (E:Below w.heap.size w t)=>check_i v b hb S u1 u2 x y hr t (hR.below E));have L:=kD (λ(t:World) (E:Below w.heap.size w t)=>play_i v b hb (λ q=>S q∧q<w.heap.size) u1 u2 x y hr ss As cp BS t (Nat.le_trans hBS E.size) ((hR.weak (S':=λ q=>S q∧q<w.heap.size) (λ q h hl=>⟨h,hl⟩)).below E) (hs.below E hBS));obtain⟨N,hN⟩:∃ n,ss.length=n:=⟨_,rfl⟩;rw [hN,hp] at L;rw [hN];obtain⟨⟨A1,c1,rfl,-⟩,⟨A2,c2,rfl,-⟩⟩:=hR;obtain⟨n1,m⟩:∃ n,b.1.length=n:=⟨_,rfl⟩;obtain⟨n2,l⟩:∃ n,b.2.length=n:=⟨_,rfl⟩;rw [m,l] at CC L;rw [m,l];clear hb hr hs hp hBS hN m l;go_enter Tryz.func10,Tryz.ntmps10;go_upto_region 1 with fail;refine wp_gen (λ G=>B3r w G v (.slice A1 n1 c1) (.slice A2 n2 c2) x y∧RowB G (w.heap.size+3) 28 [.slice none 0 0,.slice none 0 0]) ⟨⟨by go_grown,(((RowB.new _ _ _).alloc _).alloc _).alloc _,((RowB.new' _ _ _ (by simp)).alloc _).alloc _,(RowB.new' _ _ _ (by simp)).alloc _⟩,RowB.new' _ _ _ (by simp)⟩ ?_;rintro w1 ⟨K,g⟩;obtain⟨Z,Y,X,W⟩:=K.rv.c4;obtain⟨Q,P⟩:=K.rb.c2;obtain⟨T,R⟩:=K.rr.c2;go_wp2_with fail;refine(CC.out _ K.bel).mono ?_;rintro e w2 ⟨rfl,hb⟩;have K:=K.below hb;have g:=g.below hb g.lt;clear Z Y X W Q P T R hb CC;obtain⟨Z,Y,X,W⟩:=K.rv.c4;obtain⟨Q,P⟩:=K.rb.c2;obtain⟨T,R⟩:=K.rr.c2;go_wp2_with fail;refine(L.out _ K.bel).mono ?_;rintro e H ⟨vv,rfl,⟨u3,u4,bb,rfl,ab,D⟩,hb⟩;obtain rfl:=D _ rfl;obtain⟨⟨O,J,rfl,r3,k3⟩,⟨M,I,rfl,r4,k4⟩⟩:=ab;have B:=g.lt;have f:=kD (BdR.weak (S':=λ b=>b≠w.heap.size+3∧(S b∨w.heap.size<=b)) (show BdR H _ _ _ bb from⟨⟨O,J,rfl,r3,k3⟩,⟨M,I,rfl,r4,k4⟩⟩) (λ b h _=>h.elim (λ h=>False.elim h) (λ h=>⟨by omega,.inr (by omega)⟩)));clear B;obtain⟨n3,A⟩:∃ q,bb.1.length=q:=⟨_,rfl⟩;obtain⟨n4,z⟩:∃ q,bb.2.length=q:=⟨_,rfl⟩;rw [A,z] at f ⊢;have r:=kD (K.bel.trans (hb.mono K.bel.size));have g:=g.below hb g.lt;have aa:=hb.size;have o:=g.lt;clear Z Y X W Q P T R hb L D K r3 r4 k3 k4 A z;go_upto_region 5 with fail;obtain⟨F,a⟩:∃ q,H.heap.size=q:=⟨_,rfl⟩;refine wp_gen (λ G=>Below H.heap.size H G∧RowB G F 28 [.slice O n3 J,.slice M n4 I]) ⟨(Below.refl _ _).alloc (Nat.le_refl _) _,by rw [<-a];exact RowB.new _ _ _⟩ ?_
 try simp only [a]
 rintro w4 ⟨hb,d⟩;rw [<-a] at hb;have ae:w.heap.size+3<F:=by rw [<-a];exact o
 have f:=kD (f.out.below hb);have r:=kD (r.out.trans (hb.mono r.out.size));have rr:=g.below hb o;clear hb a g o aa;obtain⟨z0,z1⟩:=d.c2;have ad:=d.lt;go_wp2_with (refine wM 28 0 [.slice O n3 J,.slice M n4 I] rr ?_;intro w5 V j z5;refine Hid.out ?_);have i:∀(q k:Nat),some q=some k->k=q:=λ q k h=>by simpa using h.symm
 have ac:=kD (((f.out.keep (Still.grown j (λ k C hs=>hs.1 (i _ _ C))))).weak (S':=λ b=>S b∨w.heap.size<=b) (λ b h _=>h.2));have r:=kD (r.out.grown j r.out.size (λ k C=>by have:=i _ _ C;omega));have d:=d.grown j (λ k C=>by have:=i _ _ C;omega);obtain⟨f0,f1⟩:=V.c2;have af:=V.lt;clear rr j z5 V f z0 z1 d i;refine kD ?_
 repeat (first | go_values | go_skip | go_step | go_upon)
 refine bodyPost_ret (v:=.tuple #[.agg #[.slice O n3 J,.slice M n4 I],.int .i64 0]) (by simp [results,Tryz.results10,go_sem,f0,f1]) rfl ?_;exact⟨_,_,rfl,ac.out,r.out⟩
end HlC
end Go.Proofs.YtmncnhbjifeoeaaGreat
