/- Parts of the proof of FnVerdicts. Conditions: each theorem's own. -/
import Derived.Test.YtmncnhbjifeoeaaGreatT38
set_option linter.unusedVariables false
set_option linter.unusedSimpArgs false
set_option maxHeartbeats 8000000
set_option maxRecDepth 100000
namespace Go.Proofs.YtmncnhbjifeoeaaGreat
namespace Bd32
open Go.ChangeShapes Go.WideShapes Go.ChangeAt Go.RowKit Base Ints Own Clone RelG PlP Bd1 Bd3 Bd3I Bd4 Bd5 Bd6 Bd7 Bd8 Bd9 Bd11 RegInv RegF RegG Bd12 Bd14 Bd15 Bd16 Bd17 Bd18 Bd19 Bd20 Bd21 Bd22 Bd23 Bd24 Bd25 Bd26 Bd27 Bd29 Bd31
def lossP (v:Vr) (d:Nat) (b:Bd) (x y:Int) (k:Nat):Int:=grt (plsP v d b x y) - at_ (plsP v d b x y) k
def lossF (v:Vr) (d:Nat) (b:Bd) (x y:Int) (a:Bd):Int × Bool:=if fdP (allP v b x y).1 a 0<0 then (0,false) else (lossP v d b x y (fdP (allP v b x y).1 a 0).toNat,true)
def lossR (v:Vr) (b:Bd) (x y:Int) (a:Bd) (d:Int):Int × Int :=
 if codeT v (okB v b && okB v a) (okR v x y) d=0 then (if (lossF v d.toNat b x y a).2=true then ((lossF v d.toNat b x y a).1,0) else (0,4)) else (0,codeT v (okB v b && okB v a) (okR v x y) d)
theorem codeT_two (v:Vr) (b a:Bd) (r:Bool) (d:Int):codeT v (okB v b && okB v a) (okV v && r) d=codeT v (okB v b && okB v a) r d:=by
 cases h:okB v a with
 | true=>rw [Bool.and_true];exact codeT_roll v b r d
 | false=>rw [Bool.and_false];unfold codeT;simp
theorem codeT_zero2 {v:Vr} {b a:Bd} {r:Bool} {d:Int} (h:codeT v (okB v b && okB v a) r d=0):codeT v (okB v b) r d=0∧Ok v a:=by
 cases ha:okB v a with
 | true=>rw [ha,Bool.and_true] at h;exact⟨h,okB_iff.1 ha⟩
 | false=>rw [ha,Bool.and_false] at h;unfold codeT at h;simp at h
structure B4 (w wr:World) (v:Vr) (bs:List Value) (x y:Int) (as_:List Value):Prop where
 bel:Below w.heap.size w wr
 rv:RowB wr w.heap.size 25 (vL v)
 rb:RowB wr (w.heap.size+1) 28 bs
 rr:RowB wr (w.heap.size+2) 30 [.int .i64 x,.int .i64 y]
 ra:RowB wr (w.heap.size+3) 28 as_
theorem B4.below {w wr w':World} {v:Vr} {bs as_:List Value} {x y:Int} (h:B4 w wr v bs x y as_) (hb:Below wr.heap.size wr w'):B4 w w' v bs x y as_ :=
 ⟨h.bel.trans (hb.mono h.bel.size),h.rv.below hb h.rv.lt,h.rb.below hb h.rb.lt,h.rr.below hb h.rr.lt,h.ra.below hb h.ra.lt⟩
theorem B4.drew {w wr:World} {v:Vr} {bs as_:List Value} {x y:Int} (h:B4 w wr v bs x y as_):B4 w wr.drew v bs x y as_:=h.below (Below.refl _ _).drew
theorem lossOf_i (v:Vr) (b:Bd) (hb:Ok v b) (hp:v.p<=6) (Ao At:Option Addr) (co ct:Nat) (x y:Int) (hx:1<=x∧x<=6) (hy:1<=y∧y<=6) (a:Bd) (ha:Ok v a) (Bo Bt:Option Addr) (do_ dt:Nat) (d:Nat) (hd:d<=1) (w:World)
  (ho:RdS w w.heap.size 1 enI Ao b.1) (ht:RdS w w.heap.size 1 enI At b.2) (hA:Ao=none->co=0) (hT:At=none->ct=0) (ko:RdS w w.heap.size 1 enI Bo a.1) (kt:RdS w w.heap.size 1 enI Bt a.2) :
  Calls Tryz.prog 46 #[.agg #[.int .i64 v.p,.int .i64 v.c,.int .i64 v.h,.int .i64 v.s],.agg #[.slice Ao b.1.length co,.slice At b.2.length ct],.agg #[.int .i64 x,.int .i64 y],.agg #[.slice Bo a.1.length do_,.slice Bt a.2.length dt],.int .i64 (d:Int)] w λ e w'=>e=.returned (.tuple #[.int .i64 (lossF v d b x y a).1,.bool (lossF v d b x y a).2])∧Below w.heap.size w w':=by
 have CA:=kD (λ(j:World) (h:Below w.heap.size w j)=>allSm_i v b hb hp Ao At co ct x y hx hy j ((ho.below h (Nat.le_refl _)).more h.size) ((ht.below h (Nat.le_refl _)).more h.size) hA hT);have CP:=kD (λ(j:World) (h:Below w.heap.size w j)=>(vals_i d (by omega)).2 v b hb hp Ao At co ct x y hx hy j ((ho.below h (Nat.le_refl _)).more h.size) ((ht.below h (Nat.le_refl _)).more h.size) hA hT);obtain⟨P,hP⟩:∃ P:Nat,v.p=(P:Int):=⟨v.p.toNat,by have:=hb.v1;omega⟩;obtain⟨n,hn⟩:∃ n,P+1=n:=⟨_,rfl⟩;have aV:b.1.length=n:=by have:=hb.own.len;omega
 have aU:b.2.length=n:=by have:=hb.oth.len;omega
 have aB:a.1.length=n:=by have:=ha.own.len;omega
 have aA:a.2.length=n:=by have:=ha.oth.len;omega
 have bb:=kD (λ(q:Bd) (h:Ok v q)=>(⟨by have:=h.own.len;omega,by have:=h.oth.len;omega⟩:q.1.length=n∧q.2.length=n));have ab:=pls_bd (d:=d) hb hx.1 hy.1;have aO:=all_len hb hx hy;have aI:=grt_bd (d:=d) hb hx.1 hy.1;have a2:=kD (allP_ok (x:=x) (y:=y) hb hx.1 hy.1).1;obtain⟨M,ak⟩:∃ z,plsP v d b x y=z:=⟨_,rfl⟩;have aa:(allP v b x y).1.length=M.length:=by rw [<-ak];unfold plsP;rw [List.length_map]
 obtain⟨ps,aG⟩:∃ ps,(allP v b x y).1=ps:=⟨_,rfl⟩;obtain⟨Z,hZ⟩:∃ z,lossF v d b x y a=z:=⟨_,rfl⟩;have Y:=hZ;unfold lossF lossP at Y;rw [aG] at CA aa Y a2 aO;rw [ak] at CP ab aI Y;rw [hZ];obtain⟨Z1,Z2⟩:=Z;simp only;have HZ:=kD Y;have ai:=ab.2;have ba:=kD (λ(k:Nat) (h:k<M.length)=>ab.1 _ (List.mem_of_getElem? (at_get h)));have ar:=fg_gr M (M.length - 1);have ad:at_ M (fgP M)=grt M:=ar.1;have aq:fgP M<M.length:=by have:=ar.2;show fgU M (M.length - 1)<_;omega
 obtain⟨G,hG⟩:∃ g,grt M=g:=⟨_,rfl⟩;rw [hG] at aI ad HZ;obtain⟨fg,hf⟩:∃ f,fgP M=f:=⟨_,rfl⟩;have CF:=kD (λ(j:World) (A:Option Addr) (cp B:Nat) (hr:RdS j B 1 enI A M)=>first_i A cp B M j hr ai);rw [hf] at CF aq ad;obtain⟨Q,hL⟩:∃ l,M.length=l:=⟨_,rfl⟩;have HL:=kD hL;have HM:=kD (show ps.length=Q from by rw [aa,hL]);have bc:=kD aq;have a8:=kD ad;rw [hL] at aq CF ai;rw [aa,hL] at aO;have bm:(fg:Int)<(Q:Int):=by omega
 have KO:=kD ko;have KT:=kD kt;have a3:=kD (⟨aB,aA⟩:a.1.length=n∧a.2.length=n);rw [aV,aU] at CA CP ⊢;rw [aB,aA];clear hb hp ho ht hA hT ha ko kt hx hy ab ak aG hZ Y ar ad hG hf hL aa aV aU aB aA hP hn;go_enter Tryz.func46,Tryz.ntmps46;go_upto_region 1 with fail;refine wp_gen (λ W'=>B4 w W' v [.slice Ao n co,.slice At n ct] x y [.slice Bo n do_,.slice Bt n dt]) ⟨by go_grown,(((RowB.new _ _ _).alloc _).alloc _).alloc _,RowB.alloc (RowB.alloc (RowB.new' _ _ _ (by simp)) _) _,RowB.alloc (RowB.new' _ _ _ (by simp)) _,RowB.new' _ _ _ (by simp)⟩ ?_;intro w1 K;obtain⟨q0,q1,q2,q3⟩:=K.rv.c4;obtain⟨z0,z1⟩:=K.rb.c2;obtain⟨r0,r1⟩:=K.rr.c2;obtain⟨a0,a1⟩:=K.ra.c2;have ac:=K.rv.lt;have ap:=K.rb.lt;have ao:=K.rr.lt;have V:=K.ra.lt;go_wp2_with fail;refine(CA.out w1 K.bel).mono ?_;rintro e w2 ⟨pv,rfl,an,aM⟩;have K:=K.below aM;obtain⟨Aa,ca,aN,-⟩:=Bd19.OwnG.form enP_len an;rw [HM.out] at aN;subst aN;have HA:=an.sl enP_len (Nat.le_refl _);clear q0 q1 q2 q3 z0 z1 r0 r1 a0 a1 ac ap ao V aM an CA;obtain⟨q0,q1,q2,q3⟩:=K.rv.c4;obtain⟨z0,z1⟩:=K.rb.c2;obtain⟨r0,r1⟩:=K.rr.c2;obtain⟨a0,a1⟩:=K.ra.c2;have ac:=K.rv.lt;have ap:=K.rb.lt;have ao:=K.rr.lt;have V:=K.ra.lt;go_wp2_with fail;refine(CP.out w2 K.bel).mono ?_;rintro e w3 ⟨vv,rfl,aE,az⟩;have K:=K.below az;have HA:=(relSl RelP 3 enP).keep HA (.below az);obtain⟨Av,cv,aD,am⟩:=aE.form enI_len;rw [HL.out] at aD;subst aD;obtain⟨b8,o8,rfl,aL,aw⟩:=at_rd am (i:=fg) bc.out;rw [a8.out] at aw;have aZ:=kD am;have HK:=kD K;have be:=kD HA;have J:=kD (λ(j:World) (h:Below w3.heap.size w3 j)=>(Below.cell h (p:=⟨b8,o8+fg,none⟩) aL).trans aw);have ac:=K.rv.lt;clear az aE am CP HA K aL aw q0 q1 q2 q3 z0 z1 r0 r1 a0 a1 ap ao V;go_wp2_with fail;go_loopw [35] (λ i wr=>∃ k:Nat,k<=Q∧i=.int .i64 (k:Int)∧Below w3.heap.size w3 wr∧Hid (hasB (ps.take k) a=false)) (λ i _=>Q - (intOf i).toNat)
 case atStart=>exact⟨0,Nat.zero_le _,by first | rfl | trivial,Below.refl _ _,kD rfl⟩
 case round =>
  obtain⟨k,hk,rfl,C,r⟩:=hrel;clear ac;have K:=HK.out.below C;by_cases hlt:k<Q
  ·obtain⟨A7,c7,bg,e7,ah,S,-⟩:=(relSl RelP 3 enP).keep be.out (.below C);simp only [Value.slice.injEq] at e7;obtain⟨rfl,-,rfl⟩:=e7;obtain⟨b7,o7,r7,rfl,-,a7,aF,ae⟩:=ah.at_ (i:=k) (by rw [S.1,HM.out];exact hlt);obtain⟨q,hq,ag⟩:=S.at_ aF;obtain⟨sp,bd⟩:=q;have HQ:=kD hq;have ax:=(a2.out _ (List.mem_of_getElem? hq)).1;obtain⟨bh,rl,rm⟩:=r7;have aR:=ag.1.sl enSt_len;have aQ:=ag.2.1;have aP:=ag.2.2;simp only at aR aQ aP ax;obtain⟨A0,aX,rfl,-⟩:=aR;obtain⟨A3,c3,rfl,k3,-⟩:=aQ;obtain⟨A4,c4,rfl,k4,-⟩:=aP;obtain⟨W,T⟩:=bb.out bd ax;obtain⟨n0,aH⟩:∃ n,sp.length=n:=⟨_,rfl⟩;have e0:wr.cell? ⟨b7,o7+k*3,none⟩=some (.slice A0 n0 aX):=by have:=ae 0 _ rfl;simp only [aH] at this;exact this
   have e1:wr.cell? ⟨b7,o7+k*3+1,none⟩=some (.slice A3 n c3):=by have:=ae 1 _ rfl;simp only [W] at this;exact this
   have e2:wr.cell? ⟨b7,o7+k*3+2,none⟩=some (.slice A4 n c4):=by have:=ae 2 _ rfl;simp only [T] at this;exact this
   obtain⟨xb,al⟩:∃ t,decide (bd=a)=t:=⟨_,rfl⟩;have N:=HK.out.bel.trans (C.mono HK.out.bel.size);have CB:=kD (λ(j:World) (h:Below wr.heap.size wr j)=>same_i bd a n W T a3.out.1 a3.out.2 A3 A4 Bo Bt c3 c4 do_ dt j (((k3.keep (.below h)).rd)) ((k4.keep (.below h)).rd) ((KO.out.below (N.trans (h.mono N.size)) (Nat.le_refl _)).more (Nat.le_trans N.size h.size)) ((KT.out.below (N.trans (h.mono N.size)) (Nat.le_refl _)).more (Nat.le_trans N.size h.size)) xb al);have bl:(k:Int)<(Q:Int):=by omega
   have bi:IntKind.i64.wrap ((k:Int)+1)=(k:Int)+1:=IntWalk.i64_in _ (by omega);have a4:=ba.out k (by rw [HL.out];exact hlt);obtain⟨zk,R⟩:∃ z,at_ M k=z:=⟨_,rfl⟩;obtain⟨bq,oq,aJ,aK,av⟩:=at_rd aZ.out (i:=k) (by rw [HL.out];exact hlt);simp only [Option.some.injEq,Addr.mk.injEq,and_true] at aJ;obtain⟨rfl,rfl⟩:=aJ;rw [R] at a4 av;have a9:=kD R;have bj:IntKind.i64.wrap (G - zk)=G - zk:=IntWalk.i64_in _ (by omega);have I:=kD (λ(j:World) (h:Below w3.heap.size w3 j)=>(Below.cell h (p:=⟨b8,o8+k,none⟩) aK).trans av);have aY:=kD al;clear hq ag ae ah S aF k3 k4 W T aH al N ax R aK av;go_upto_region 6 with fail;refine wp_gen (λ W'=>Below wr.heap.size wr W'∧RowB W' wr.heap.size 44 [.slice A0 n0 aX,.slice A3 n c3,.slice A4 n c4]) ?_ ?_
   ·exact⟨(Below.refl _ _).alloc (Nat.le_refl _) _,RowB.new _ _ _⟩
   rintro w5 ⟨af,rp⟩;have K:=K.below af;have CB:=kD (CB.out w5 af);have C:=C.trans (af.mono C.size);obtain⟨bn,aj⟩:∃ g,wr.heap.size=g:=⟨_,rfl⟩;rw [aj] at rp ⊢;obtain⟨p0,p1,p2⟩:=rp.c3;obtain⟨a0,a1⟩:=K.ra.c2;have V:=K.ra.lt;have a6:=rp.lt;clear e0 e1 e2 a7 af aj;go_wp2_with fail;refine CB.out.mono ?_;rintro e w6 ⟨rfl,ay⟩;have K:=K.below ay;have C:=C.trans (ay.mono C.size);clear p0 p1 p2 a0 a1 V a6 rp ay CB
   cases xb
   case false =>
    have a5:Hid (hasB (ps.take (k+1)) a=false):=kD (by rw [takeS HQ.out,hasB_snoc,r.out,aY.out];rfl);clear K;go_wp2_with fail;go_roundw
    case rel=>exact⟨k+1,by omega,by go_num,C,a5⟩
    case measure=>simp [intOf];omega
   case true =>
    have X:=fd_at HQ.out r.out (of_decide_eq_true aY.out);have O:=HZ.out;rw [X,if_neg (by omega),Int.toNat_natCast,a9.out] at O;have HG:=kD (λ _:Unit=>Prod.mk.inj O);have o:=kD C;have KB:=kD K.bel;clear O X HZ C K;go_wp2_with fail;refine rG [some 44,some 45,some 46,some 47,some 48,some 49,some 50,some 51,some 52,some 53,some 10,some 11] 12 (Pl [some (.slice (some ⟨b8,o8,none⟩) Q cv),some (.slice (some ⟨b8,o8,none⟩) Q cv),some (.int .i64 (fg:Int)),some (.pointer (some ⟨b8,o8+fg,none⟩)),some (.int .i64 G),some (.slice (some ⟨b8,o8,none⟩) Q cv),some (.int .i64 (k:Int)),some (.pointer (some ⟨b8,o8+k,none⟩)),some (.int .i64 zk),some (.int .i64 (G - zk)),some (.int .i64 (G - zk)),some (.bool true)]) (λ L m w'=>Below w6.heap.size w6 w') ?g0_1 ?gst_1 ?gfin_1
    case g0_1=>exact(Below.refl _ _).drew
    case gst_1 =>
     refine rN rfl (λ L m A j r D E U F K H=>?_) ?_
     ·have aW:=U.w 14 (.slice (some ⟨b8,o8,none⟩) Q cv);have c8:=J.out j (o.out.trans (F.mono o.out.size));have cq:=I.out j (o.out.trans (F.mono o.out.size));go_simp;exact pF H (F)
     refine rN rfl (λ L m A j r D E U F K H=>?_) ?_
     ·have aW:=U.w 14 (.slice (some ⟨b8,o8,none⟩) Q cv);have c8:=J.out j (o.out.trans (F.mono o.out.size));have cq:=I.out j (o.out.trans (F.mono o.out.size));go_simp;exact pF H (F)
     refine rN rfl (λ L m A j r D E U F K H=>?_) ?_
     ·have bz:=U.v 1 45;go_simp;refine(CF.out j _ cv _ (aZ.out.below (o.out.trans (F.mono o.out.size)) (Nat.le_refl _))).mono ?_;rintro e bf ⟨rfl,rfl⟩;exact pF H F
     refine rN rfl (λ L m A j r D E U F K H=>?_) ?_
     ·have bA:=U.v 0 44;have bx:=U.v 2 46;have c8:=J.out j (o.out.trans (F.mono o.out.size));have cq:=I.out j (o.out.trans (F.mono o.out.size));go_simp;exact pF H (F)
     refine rN rfl (λ L m A j r D E U F K H=>?_) ?_
     ·have bw:=U.v 3 47;have c8:=J.out j (o.out.trans (F.mono o.out.size));have cq:=I.out j (o.out.trans (F.mono o.out.size));go_simp;exact pF H (F)
     refine rN rfl (λ L m A j r D E U F K H=>?_) ?_
     ·have aW:=U.w 14 (.slice (some ⟨b8,o8,none⟩) Q cv);have c8:=J.out j (o.out.trans (F.mono o.out.size));have cq:=I.out j (o.out.trans (F.mono o.out.size));go_simp;exact pF H (F)
     refine rN rfl (λ L m A j r D E U F K H=>?_) ?_
     ·have bB:=U.w 16 (.int .i64 (k:Int));have c8:=J.out j (o.out.trans (F.mono o.out.size));have cq:=I.out j (o.out.trans (F.mono o.out.size));go_simp;exact pF H (F)
     refine rN rfl (λ L m A j r D E U F K H=>?_) ?_
     ·have bt:=U.v 5 49;have bs:=U.v 6 50;have c8:=J.out j (o.out.trans (F.mono o.out.size));have cq:=I.out j (o.out.trans (F.mono o.out.size));go_simp;exact pF H (F)
     refine rN rfl (λ L m A j r D E U F K H=>?_) ?_
     ·have br:=U.v 7 51;have c8:=J.out j (o.out.trans (F.mono o.out.size));have cq:=I.out j (o.out.trans (F.mono o.out.size));go_simp;exact pF H (F)
     refine rN rfl (λ L m A j r D E U F K H=>?_) ?_
     ·have bv:=U.v 4 48;have bp:=U.v 8 52;have c8:=J.out j (o.out.trans (F.mono o.out.size));have cq:=I.out j (o.out.trans (F.mono o.out.size));go_simp;exact pF H (F)
     refine rN rfl (λ L m A j r D E U F K H=>?_) ?_
     ·have bo:=U.v 9 53;have c8:=J.out j (o.out.trans (F.mono o.out.size));have cq:=I.out j (o.out.trans (F.mono o.out.size));go_simp;exact pF H (F)
     refine rN rfl (λ L m A j r D E U F K H=>?_) ?_
     ·have c8:=J.out j (o.out.trans (F.mono o.out.size));have cq:=I.out j (o.out.trans (F.mono o.out.size));go_simp;exact pF H (F)
     exact RelFrom.nil (by decide)
    case gfin_1 =>
     intro m j hp F;simp only [Fr,Act.put,sX,Nat.reduceAdd];have aC:=KB.out.trans (F.mono KB.out.size);have aT:m 10=.int .i64 (G - zk):=hp 10 (by decide) _ rfl;have aS:m 11=.bool true:=hp 11 (by decide) _ rfl;rw [aT,aS];clear F hp aT aS o KB;go_wp2_with fail;go_ret2;refine⟨?_,aC⟩;rw [<-(HG.out ()).1,<-(HG.out ()).2]
     rfl
  ·obtain rfl:k=Q:=by omega
   have bk:¬ ((k:Int)<(k:Int)):=by omega
   have X:=fd_none (out:=ps) (b:=a) (by rw [<-r.out,List.take_of_length_le (by rw [HM.out];exact Nat.le_refl _)]);have O:=HZ.out;rw [X,if_pos (by omega)] at O;have HG:=kD (λ _:Unit=>Prod.mk.inj O);have aC:=K.bel;clear O X HZ K;go_wp2_with fail;go_ret2;refine⟨?_,aC⟩;rw [<-(HG.out ()).1,<-(HG.out ()).2]
   rfl
theorem loss29 (zs:List Int) (Ln:Nat) (hL:zs.length=Ln) (k:Nat) (hk:k<Ln) (hbz:∀ z ∈ zs,0<=z∧z<=1000000) (A:Option Addr) (cp:Nat) (w:World) (hr:RdS w w.heap.size 1 enI A zs) :
  Calls Tryz.prog 60 #[.slice A Ln cp,.int .i64 (k:Int)] w λ e w'=>e=.returned (.int .i64 (grt zs - at_ zs k))∧Below w.heap.size w w':=by
 have x:=hr.len;rw [hL] at x;have E:=gr_bd hbz (zs.length - 1) (by omega);have I:=kD (λ(b:World) (h:Below w.heap.size w b)=>great_s A cp w.heap.size zs b (hr.below h (Nat.le_refl _)) (by omega));obtain⟨t,r,rfl,y,n⟩:=at_rd hr (i:=k) (by omega);have C:=hbz _ (List.mem_of_getElem? (at_get (l:=zs) (i:=k) (by omega)));obtain⟨G,B⟩:∃ g,grt zs=g:=⟨_,rfl⟩;obtain⟨q,m⟩:∃ z,at_ zs k=z:=⟨_,rfl⟩;rw [show grU zs (zs.length - 1)=G from B] at E;rw [B,hL] at I;rw [m] at n C;rw [B,m];have J:IntKind.i64.wrap (G - q)=G - q:=IntWalk.i64_in _ (by omega);have M:(k:Int)<(Ln:Int):=by omega
 have o:=kD (λ(b:World) (h:Below w.heap.size w b)=>(Below.cell h (p:=⟨t,r+k,none⟩) y).trans n);clear hr hbz hL E n C B m y;go_enter Tryz.func60,Tryz.ntmps60;go_wp2_with fail;refine rG [some 5,some 6,some 7,some 8,some 9,some 10,some 11,some 4] 8 (Pl [some (.slice (some ⟨t,r,none⟩) Ln cp),some (.int .i64 G),some (.slice (some ⟨t,r,none⟩) Ln cp),some (.int .i64 (k:Int)),some (.pointer (some ⟨t,r+k,none⟩)),some (.int .i64 q),some (.int .i64 (G - q)),some (.int .i64 (G - q))]) (λ L a w'=>Below w.heap.size w w') ?g0_2 ?gst_2 ?gfin_2
 case g0_2=>exact(Below.refl _ _).drew
 case gst_2 =>
  refine rN rfl (λ L a A b c d f U F K j=>?_) ?_
  ·have P:=U.w 0 (.slice (some ⟨t,r,none⟩) Ln cp);have s:=o.out b F;go_simp;exact pF j (F)
  refine rN rfl (λ L a A b c d f U F K j=>?_) ?_
  ·have W:=U.v 0 5;go_simp;refine(I.out b F).mono ?_;rintro e Q ⟨rfl,rfl⟩;exact pF j F
  refine rN rfl (λ L a A b c d f U F K j=>?_) ?_
  ·have P:=U.w 0 (.slice (some ⟨t,r,none⟩) Ln cp);have s:=o.out b F;go_simp;exact pF j (F)
  refine rN rfl (λ L a A b c d f U F K j=>?_) ?_
  ·have X:=U.w 1 (.int .i64 (k:Int));have s:=o.out b F;go_simp;exact pF j (F)
  refine rN rfl (λ L a A b c d f U F K j=>?_) ?_
  ·have T:=U.v 2 7;have S:=U.v 3 8;have s:=o.out b F;go_simp;exact pF j (F)
  refine rN rfl (λ L a A b c d f U F K j=>?_) ?_
  ·have R:=U.v 4 9;have s:=o.out b F;go_simp;exact pF j (F)
  refine rN rfl (λ L a A b c d f U F K j=>?_) ?_
  ·have V:=U.v 1 6;have O:=U.v 5 10;have s:=o.out b F;go_simp;exact pF j (F)
  refine rN rfl (λ L a A b c d f U F K j=>?_) ?_
  ·have N:=U.v 6 11;have s:=o.out b F;go_simp;exact pF j (F)
  exact RelFrom.nil (by decide)
 case gfin_2 =>
  intro a b D F;simp only [Fr,Act.put,sX,Nat.reduceAdd];have H:a 7=.int .i64 (G - q):=D 7 (by decide) _ rfl;rw [H];clear D H;go_wp2_with fail;go_ret;exact⟨rfl,F⟩
theorem lossX_i (v:Vr) (b:Bd) (Ao At:Option Addr) (co ct:Nat) (x y:Int) (a:Bd) (Bo Bt:Option Addr) (do_ dt:Nat) (d:Int) (w:World) (ho:RdS w w.heap.size 1 enI Ao b.1) (ht:RdS w w.heap.size 1 enI At b.2) (hA:Ao=none->co=0) (hT:At=none->ct=0) (ko:RdS w w.heap.size 1 enI Bo a.1) (kt:RdS w w.heap.size 1 enI Bt a.2) :
  Calls Tryz.prog 12 #[.agg #[.int .i64 v.p,.int .i64 v.c,.int .i64 v.h,.int .i64 v.s],.agg #[.slice Ao b.1.length co,.slice At b.2.length ct],.agg #[.int .i64 x,.int .i64 y],.agg #[.slice Bo a.1.length do_,.slice Bt a.2.length dt],.int .i64 d] w λ e w'=>e=.returned (.tuple #[.int .i64 (lossR v b x y a d).1,.int .i64 (lossR v b x y a d).2])∧Below w.heap.size w w':=by
 obtain⟨c0,g⟩:∃ c,okB v b=c:=⟨_,rfl⟩;obtain⟨Z,h9⟩:∃ c,okB v a=c:=⟨_,rfl⟩;obtain⟨c1,h1⟩:∃ c,(okV v && okR v x y)=c:=⟨_,rfl⟩;obtain⟨z,hz⟩:∃ z,codeT v (okB v b && okB v a) (okR v x y) d=z:=⟨_,rfl⟩;have ab:codeT v (c0 && Z) c1 d=z:=by rw [<-g,<-h1,<-h9,codeT_two];exact hz
 have C0:=kD (λ(j:World) (h:Below w.heap.size w j)=>Bd3I.isB_i v b Ao At co ct w.heap.size j h.size (ho.below h (Nat.le_refl _)) (ht.below h (Nat.le_refl _)) c0 g);have C9:=kD (λ(j:World) (h:Below w.heap.size w j)=>Bd3I.isB_i v a Bo Bt do_ dt w.heap.size j h.size (ko.below h (Nat.le_refl _)) (kt.below h (Nat.le_refl _)) Z h9);have C1:=kD (λ w=>isroll_i v x y c1 h1 w);have C2:=kD (λ w=>tutor_i v (c0 && Z) c1 d z ab w);obtain⟨LF,Y⟩:∃ l,lossF v d.toNat b x y a=l:=⟨_,rfl⟩;have Q:=kD (λ(h:z=0) (j:World) (S:Below w.heap.size w j)=>show Calls Tryz.prog 46 #[.agg #[.int .i64 v.p,.int .i64 v.c,.int .i64 v.h,.int .i64 v.s],.agg #[.slice Ao b.1.length co,.slice At b.2.length ct],.agg #[.int .i64 x,.int .i64 y],.agg #[.slice Bo a.1.length do_,.slice Bt a.2.length dt],.int .i64 d] j λ e w'=>e=.returned (.tuple #[.int .i64 LF.1,.bool LF.2])∧Below j.heap.size j w' from by
  obtain⟨am,al⟩:=codeT_zero2 (hz.trans h);have hk:=codeT_zero am;have hr:=okR_iff.1 hk.2.1;rw [<-Y];obtain⟨dn,rfl⟩:∃ n:Nat,d=(n:Int):=⟨d.toNat,by omega⟩;rw [Int.toNat_natCast];exact lossOf_i v b hk.1 hk.2.2.2.1 Ao At co ct x y (by omega) (by omega) a al Bo Bt do_ dt dn (by omega) j ((ho.below S (Nat.le_refl _)).more S.size) ((ht.below S (Nat.le_refl _)).more S.size) hA hT ((ko.below S (Nat.le_refl _)).more S.size) ((kt.below S (Nat.le_refl _)).more S.size))
 have R:lossR v b x y a d=if z=0 then (if LF.2=true then (LF.1,0) else (0,4)) else (0,z):=by unfold lossR;rw [hz,Y]
 obtain⟨Rz,ag⟩:∃ r,lossR v b x y a d=r:=⟨_,rfl⟩;rw [ag] at R ⊢;obtain⟨g1,g2⟩:=Rz;obtain⟨aC,aa⟩:=LF;simp only at R Q;have T:=kD R;simp only;obtain⟨W,af⟩:∃ n,b.1.length=n:=⟨_,rfl⟩;obtain⟨V,ae⟩:∃ n,b.2.length=n:=⟨_,rfl⟩;obtain⟨n3,ad⟩:∃ n,a.1.length=n:=⟨_,rfl⟩;obtain⟨n4,ac⟩:∃ n,a.2.length=n:=⟨_,rfl⟩;rw [af,ae] at C0 Q ⊢;rw [ad,ac] at C9 Q ⊢;clear ho ht hA hT ko kt g h1 h9 hz ab af ae ad ac R ag Y;go_enter Tryz.func12,Tryz.ntmps12;go_upto_region 1 with fail;refine wp_gen (λ W'=>B4 w W' v [.slice Ao W co,.slice At V ct] x y [.slice Bo n3 do_,.slice Bt n4 dt]) ⟨by go_grown,(((RowB.new _ _ _).alloc _).alloc _).alloc _,RowB.alloc (RowB.alloc (RowB.new' _ _ _ (by simp)) _) _,RowB.alloc (RowB.new' _ _ _ (by simp)) _,RowB.new' _ _ _ (by simp)⟩ ?_;intro w1 K
 cases c0
 case false =>
  refine region_fix [some 15,some 16,some 17,some 18,some 19,some 20,some 21,some 22,some 23,some 24,some 25,some 26,some 27,some 28,some 12] (λ j_=>([.agg #[.int .i64 v.p,.int .i64 v.c,.int .i64 v.h,.int .i64 v.s],.agg #[.int .i64 v.p,.int .i64 v.c,.int .i64 v.h,.int .i64 v.s],.agg #[.slice Ao W co,.slice At V ct],.bool false,.bool false,undef,undef,undef,.bool false,.int .i64 d,.agg #[.int .i64 v.p,.int .i64 v.c,.int .i64 v.h,.int .i64 v.s],.agg #[.int .i64 x,.int .i64 y],.bool c1,.int .i64 z,.int .i64 z]:List Value).getD j_ undef) (λ L w'=>B4 w w' v [.slice Ao W co,.slice At V ct] x y [.slice Bo n3 do_,.slice Bt n4 dt]) (by kernel_rfl) (by kernel_rfl) (by kernel_rfl) (by kernel_rfl) (by first | kernel_rfl | rfl) (by first | kernel_rfl | rfl) ?hB1 ?hBL1 ?hst1 ?fin1
  case hB1=>exact K.drew
  case hBL1=>exact λ _ _ _ _ h=>h
  case hst1 =>
   refine FixFrom.run rfl rfl (λ L A j k i g f K m=>?_) ?_
   ·have e5:A.tmps[5]?.getD undef=.pointer (some ⟨w.heap.size,0,none⟩):=g 5 (by decide);clear i g;obtain⟨M,J,I,H⟩:=f.rv.c4;obtain⟨D,C⟩:=f.rb.c2;obtain⟨G,F⟩:=f.rr.c2;obtain⟨O,N⟩:=f.ra.c2
    skip
    go_simp;exact m.out j f
   refine FixFrom.run rfl rfl (λ L A j k i g f K m=>?_) ?_
   ·have e5:A.tmps[5]?.getD undef=.pointer (some ⟨w.heap.size,0,none⟩):=g 5 (by decide);clear i g;obtain⟨M,J,I,H⟩:=f.rv.c4;obtain⟨D,C⟩:=f.rb.c2;obtain⟨G,F⟩:=f.rr.c2;obtain⟨O,N⟩:=f.ra.c2
    skip
    go_simp;exact m.out j f
   refine FixFrom.run rfl rfl (λ L A j k i g f K m=>?_) ?_
   ·have e6:A.tmps[6]?.getD undef=.pointer (some ⟨w.heap.size+1,0,none⟩):=g 6 (by decide);clear i g;obtain⟨M,J,I,H⟩:=f.rv.c4;obtain⟨D,C⟩:=f.rb.c2;obtain⟨G,F⟩:=f.rr.c2;obtain⟨O,N⟩:=f.ra.c2
    skip
    go_simp;exact m.out j f
   refine FixFrom.run rfl rfl (λ L A j k i g f K m=>?_) ?_
   ·have aA:A.tmps[16]?.getD undef=.agg #[.int .i64 v.p,.int .i64 v.c,.int .i64 v.h,.int .i64 v.s]:=gu i 1 16;have az:A.tmps[17]?.getD undef=.agg #[.slice Ao W co,.slice At V ct]:=gu i 2 17;clear i g;go_simp;refine(C0.out j f.bel).mono ?_;rintro e E ⟨rfl,q⟩;exact m.out E (f.below q)
   refine FixFrom.run rfl rfl (λ L A j k i g f K m=>?_) ?_
   ·have ay:A.tmps[18]?.getD undef=.bool false:=gu i 3 18;clear i g;go_simp;exact m.out j f
   refine FixFrom.skip rfl rfl rfl (λ _ _ h=>h) ?_;refine FixFrom.skip rfl rfl rfl (λ _ _ h=>h) ?_;refine FixFrom.skip rfl rfl rfl (λ _ _ h=>h) ?_;refine FixFrom.run rfl rfl (λ L A j k i g f K m=>?_) ?_
   ·have ax:A.tmps[19]?.getD undef=.bool false:=gu i 4 19;have aw:A.tmps[22]?.getD undef=undef:=gu i 7 22;clear i g;go_simp;exact m.out j f
   refine FixFrom.run rfl rfl (λ L A j k i g f K m=>?_) ?_
   ·have e4:A.tmps[4]?.getD undef=.int .i64 d:=g 4 (by decide);clear i g;go_simp;exact m.out j f
   refine FixFrom.run rfl rfl (λ L A j k i g f K m=>?_) ?_
   ·have e5:A.tmps[5]?.getD undef=.pointer (some ⟨w.heap.size,0,none⟩):=g 5 (by decide);clear i g;obtain⟨M,J,I,H⟩:=f.rv.c4;obtain⟨D,C⟩:=f.rb.c2;obtain⟨G,F⟩:=f.rr.c2;obtain⟨O,N⟩:=f.ra.c2
    skip
    go_simp;exact m.out j f
   refine FixFrom.run rfl rfl (λ L A j k i g f K m=>?_) ?_
   ·have e7:A.tmps[7]?.getD undef=.pointer (some ⟨w.heap.size+2,0,none⟩):=g 7 (by decide);clear i g;obtain⟨M,J,I,H⟩:=f.rv.c4;obtain⟨D,C⟩:=f.rb.c2;obtain⟨G,F⟩:=f.rr.c2;obtain⟨O,N⟩:=f.ra.c2
    skip
    go_simp;exact m.out j f
   refine FixFrom.run rfl rfl (λ L A j k i g f K m=>?_) ?_
   ·have aq:A.tmps[25]?.getD undef=.agg #[.int .i64 v.p,.int .i64 v.c,.int .i64 v.h,.int .i64 v.s]:=gu i 10 25;have ap:A.tmps[26]?.getD undef=.agg #[.int .i64 x,.int .i64 y]:=gu i 11 26;clear i g;go_simp;refine(C1.out j).mono ?_;rintro e E ⟨rfl,q⟩;exact m.out E (f.below q)
   refine FixFrom.run rfl rfl (λ L A j k i g f K m=>?_) ?_
   ·have aB:A.tmps[15]?.getD undef=.agg #[.int .i64 v.p,.int .i64 v.c,.int .i64 v.h,.int .i64 v.s]:=gu i 0 15;have av:A.tmps[23]?.getD undef=.bool false:=gu i 8 23;have ar:A.tmps[24]?.getD undef=.int .i64 d:=gu i 9 24;have ao:A.tmps[27]?.getD undef=.bool c1:=gu i 12 27;clear i g;go_simp;refine(C2.out j).mono ?_;rintro e E ⟨rfl,q⟩;exact m.out E (f.below q)
   refine FixFrom.run rfl rfl (λ L A j k i g f K m=>?_) ?_
   ·have an:A.tmps[28]?.getD undef=.int .i64 z:=gu i 13 28;clear i g;go_simp;exact m.out j f
   exact FixFrom.nil (by decide)
  case fin1 =>
   intro j f;simp only [Fr,Act.put,sX,Nat.reduceAdd,List.getD_cons_zero,List.getD_cons_succ];have K:=f;clear f;obtain⟨M,J,I,H⟩:=K.rv.c4;obtain⟨D,C⟩:=K.rb.c2;obtain⟨G,F⟩:=K.rr.c2;obtain⟨O,N⟩:=K.ra.c2;have ak:=K.rv.lt;have aj:=K.rb.lt;have ai:=K.rr.lt;have ah:=K.ra.lt;by_cases g:z=0
   ·have o:=T.out;rw [if_pos g] at o;have e0:(z != 0)=false:=by simp [g]
    have Q:=kD (Q.out g j K.bel);have H0:=kD g;have t:=kD o;clear g T o;go_wp2_with fail;refine Q.out.mono ?_;rintro e w4 ⟨rfl,X⟩;have K:=K.below X
    cases aa
    case false =>
     have P:=t.out;have B:=kD (λ _:Unit=>Prod.mk.inj P);clear t P;go_wp2_with fail;go_ret2;refine⟨?_,K.bel⟩;rw [(B.out ()).1,(B.out ()).2]
     rfl
    case true =>
     have P:=t.out;have B:=kD (λ _:Unit=>Prod.mk.inj P);clear t P;go_wp2_with fail;go_ret2;refine⟨?_,K.bel⟩;rw [(B.out ()).1,(B.out ()).2]
     rfl
   ·have o:=T.out;rw [if_neg g] at o;have e0:(z != 0)=true:=by simp [g]
    have B:=kD (λ _:Unit=>Prod.mk.inj o);clear g T o Q;go_wp2_with fail;go_ret2;refine⟨?_,K.bel⟩;rw [(B.out ()).1,(B.out ()).2]
    rfl
 case true =>
  refine region_fix [some 15,some 16,some 17,some 18,some 19,some 20,some 21,some 22,some 23,some 24,some 25,some 26,some 27,some 28,some 12] (λ j_=>([.agg #[.int .i64 v.p,.int .i64 v.c,.int .i64 v.h,.int .i64 v.s],.agg #[.int .i64 v.p,.int .i64 v.c,.int .i64 v.h,.int .i64 v.s],.agg #[.slice Ao W co,.slice At V ct],.bool true,.bool true,.agg #[.int .i64 v.p,.int .i64 v.c,.int .i64 v.h,.int .i64 v.s],.agg #[.slice Bo n3 do_,.slice Bt n4 dt],.bool Z,.bool Z,.int .i64 d,.agg #[.int .i64 v.p,.int .i64 v.c,.int .i64 v.h,.int .i64 v.s],.agg #[.int .i64 x,.int .i64 y],.bool c1,.int .i64 z,.int .i64 z]:List Value).getD j_ undef) (λ L w'=>B4 w w' v [.slice Ao W co,.slice At V ct] x y [.slice Bo n3 do_,.slice Bt n4 dt]) (by kernel_rfl) (by kernel_rfl) (by kernel_rfl) (by kernel_rfl) (by first | kernel_rfl | rfl) (by first | kernel_rfl | rfl) ?hB2 ?hBL2 ?hst2 ?fin2
  case hB2=>exact K.drew
  case hBL2=>exact λ _ _ _ _ h=>h
  case hst2 =>
   refine FixFrom.run rfl rfl (λ L A j k i g f K m=>?_) ?_
   ·have e5:A.tmps[5]?.getD undef=.pointer (some ⟨w.heap.size,0,none⟩):=g 5 (by decide);clear i g;obtain⟨M,J,I,H⟩:=f.rv.c4;obtain⟨D,C⟩:=f.rb.c2;obtain⟨G,F⟩:=f.rr.c2;obtain⟨O,N⟩:=f.ra.c2
    skip
    go_simp;exact m.out j f
   refine FixFrom.run rfl rfl (λ L A j k i g f K m=>?_) ?_
   ·have e5:A.tmps[5]?.getD undef=.pointer (some ⟨w.heap.size,0,none⟩):=g 5 (by decide);clear i g;obtain⟨M,J,I,H⟩:=f.rv.c4;obtain⟨D,C⟩:=f.rb.c2;obtain⟨G,F⟩:=f.rr.c2;obtain⟨O,N⟩:=f.ra.c2
    skip
    go_simp;exact m.out j f
   refine FixFrom.run rfl rfl (λ L A j k i g f K m=>?_) ?_
   ·have e6:A.tmps[6]?.getD undef=.pointer (some ⟨w.heap.size+1,0,none⟩):=g 6 (by decide);clear i g;obtain⟨M,J,I,H⟩:=f.rv.c4;obtain⟨D,C⟩:=f.rb.c2;obtain⟨G,F⟩:=f.rr.c2;obtain⟨O,N⟩:=f.ra.c2
    skip
    go_simp;exact m.out j f
   refine FixFrom.run rfl rfl (λ L A j k i g f K m=>?_) ?_
   ·have aA:A.tmps[16]?.getD undef=.agg #[.int .i64 v.p,.int .i64 v.c,.int .i64 v.h,.int .i64 v.s]:=gu i 1 16;have az:A.tmps[17]?.getD undef=.agg #[.slice Ao W co,.slice At V ct]:=gu i 2 17;clear i g;go_simp;refine(C0.out j f.bel).mono ?_;rintro e E ⟨rfl,q⟩;exact m.out E (f.below q)
   refine FixFrom.run rfl rfl (λ L A j k i g f K m=>?_) ?_
   ·have ay:A.tmps[18]?.getD undef=.bool true:=gu i 3 18;clear i g;go_simp;exact m.out j f
   refine FixFrom.run rfl rfl (λ L A j k i g f K m=>?_) ?_
   ·have e5:A.tmps[5]?.getD undef=.pointer (some ⟨w.heap.size,0,none⟩):=g 5 (by decide);clear i g;obtain⟨M,J,I,H⟩:=f.rv.c4;obtain⟨D,C⟩:=f.rb.c2;obtain⟨G,F⟩:=f.rr.c2;obtain⟨O,N⟩:=f.ra.c2
    skip
    go_simp;exact m.out j f
   refine FixFrom.run rfl rfl (λ L A j k i g f K m=>?_) ?_
   ·have e8:A.tmps[8]?.getD undef=.pointer (some ⟨w.heap.size+3,0,none⟩):=g 8 (by decide);clear i g;obtain⟨M,J,I,H⟩:=f.rv.c4;obtain⟨D,C⟩:=f.rb.c2;obtain⟨G,F⟩:=f.rr.c2;obtain⟨O,N⟩:=f.ra.c2
    skip
    go_simp;exact m.out j f
   refine FixFrom.run rfl rfl (λ L A j k i g f K m=>?_) ?_
   ·have aE:A.tmps[20]?.getD undef=.agg #[.int .i64 v.p,.int .i64 v.c,.int .i64 v.h,.int .i64 v.s]:=gu i 5 20;have aD:A.tmps[21]?.getD undef=.agg #[.slice Bo n3 do_,.slice Bt n4 dt]:=gu i 6 21;clear i g;go_simp;refine(C9.out j f.bel).mono ?_;rintro e E ⟨rfl,q⟩;exact m.out E (f.below q)
   refine FixFrom.run rfl rfl (λ L A j k i g f K m=>?_) ?_
   ·have ax:A.tmps[19]?.getD undef=.bool true:=gu i 4 19;have aw:A.tmps[22]?.getD undef=.bool Z:=gu i 7 22;clear i g;go_simp;exact m.out j f
   refine FixFrom.run rfl rfl (λ L A j k i g f K m=>?_) ?_
   ·have e4:A.tmps[4]?.getD undef=.int .i64 d:=g 4 (by decide);clear i g;go_simp;exact m.out j f
   refine FixFrom.run rfl rfl (λ L A j k i g f K m=>?_) ?_
   ·have e5:A.tmps[5]?.getD undef=.pointer (some ⟨w.heap.size,0,none⟩):=g 5 (by decide);clear i g;obtain⟨M,J,I,H⟩:=f.rv.c4;obtain⟨D,C⟩:=f.rb.c2;obtain⟨G,F⟩:=f.rr.c2;obtain⟨O,N⟩:=f.ra.c2
    skip
    go_simp;exact m.out j f
   refine FixFrom.run rfl rfl (λ L A j k i g f K m=>?_) ?_
   ·have e7:A.tmps[7]?.getD undef=.pointer (some ⟨w.heap.size+2,0,none⟩):=g 7 (by decide);clear i g;obtain⟨M,J,I,H⟩:=f.rv.c4;obtain⟨D,C⟩:=f.rb.c2;obtain⟨G,F⟩:=f.rr.c2;obtain⟨O,N⟩:=f.ra.c2
    skip
    go_simp;exact m.out j f
   refine FixFrom.run rfl rfl (λ L A j k i g f K m=>?_) ?_
   ·have aq:A.tmps[25]?.getD undef=.agg #[.int .i64 v.p,.int .i64 v.c,.int .i64 v.h,.int .i64 v.s]:=gu i 10 25;have ap:A.tmps[26]?.getD undef=.agg #[.int .i64 x,.int .i64 y]:=gu i 11 26;clear i g;go_simp;refine(C1.out j).mono ?_;rintro e E ⟨rfl,q⟩;exact m.out E (f.below q)
   refine FixFrom.run rfl rfl (λ L A j k i g f K m=>?_) ?_
   ·have aB:A.tmps[15]?.getD undef=.agg #[.int .i64 v.p,.int .i64 v.c,.int .i64 v.h,.int .i64 v.s]:=gu i 0 15;have av:A.tmps[23]?.getD undef=.bool Z:=gu i 8 23;have ar:A.tmps[24]?.getD undef=.int .i64 d:=gu i 9 24;have ao:A.tmps[27]?.getD undef=.bool c1:=gu i 12 27;clear i g;go_simp;refine(C2.out j).mono ?_;rintro e E ⟨rfl,q⟩;exact m.out E (f.below q)
   refine FixFrom.run rfl rfl (λ L A j k i g f K m=>?_) ?_
   ·have an:A.tmps[28]?.getD undef=.int .i64 z:=gu i 13 28;clear i g;go_simp;exact m.out j f
   exact FixFrom.nil (by decide)
  case fin2 =>
   intro j f;simp only [Fr,Act.put,sX,Nat.reduceAdd,List.getD_cons_zero,List.getD_cons_succ];have K:=f;clear f;obtain⟨M,J,I,H⟩:=K.rv.c4;obtain⟨D,C⟩:=K.rb.c2;obtain⟨G,F⟩:=K.rr.c2;obtain⟨O,N⟩:=K.ra.c2;have ak:=K.rv.lt;have aj:=K.rb.lt;have ai:=K.rr.lt;have ah:=K.ra.lt;by_cases g:z=0
   ·have o:=T.out;rw [if_pos g] at o;have e0:(z != 0)=false:=by simp [g]
    have Q:=kD (Q.out g j K.bel);have H0:=kD g;have t:=kD o;clear g T o;go_wp2_with fail;refine Q.out.mono ?_;rintro e w4 ⟨rfl,X⟩;have K:=K.below X
    cases aa
    case false =>
     have P:=t.out;have B:=kD (λ _:Unit=>Prod.mk.inj P);clear t P;go_wp2_with fail;go_ret2;refine⟨?_,K.bel⟩;rw [(B.out ()).1,(B.out ()).2]
     rfl
    case true =>
     have P:=t.out;have B:=kD (λ _:Unit=>Prod.mk.inj P);clear t P;go_wp2_with fail;go_ret2;refine⟨?_,K.bel⟩;rw [(B.out ()).1,(B.out ()).2]
     rfl
   ·have o:=T.out;rw [if_neg g] at o;have e0:(z != 0)=true:=by simp [g]
    have B:=kD (λ _:Unit=>Prod.mk.inj o);clear g T o Q;go_wp2_with fail;go_ret2;refine⟨?_,K.bel⟩;rw [(B.out ()).1,(B.out ()).2]
    rfl
end Bd32
namespace VdP
open Go PlP Gm HmP Bd29 Bd31 Bd32
abbrev V4:=Int × Int × Int × Int
def aftP (v:Vr) (x:Ms) (e:Ev):Bd:=(playP v x.g.b e.a e.b e.ss).getD ([],[])
def vdE (v:Vr) (d:Nat) (x:Ms) (i:Nat) (e:Ev):V4:=((i:Int),x.g.pl,(lossF v d x.g.b e.a e.b (aftP v x e)).1,luckP v d x.g.b e.a e.b)
def vdGo (v:Vr) (n:Int) (d:Nat):Ms->List Ev->Nat->List V4
 | _,[],_=>[]
 | x,e :: es,i=>(if e.k=2 then [vdE v d x i e] else [])++(match nextS v n x e with
  | some y=>vdGo v n d y es (i+1)
  | none=>[])
def rvR (v:Vr) (n:Int) (es:List Ev) (d:Int):List V4 × Int :=
 if codeT v (finS v n es).isSome true d=0 then (vdGo v n d.toNat (startS v) es 0,0) else ([],codeT v (finS v n es).isSome true d)
theorem vdGo_drop {v:Vr} {n:Int} {d:Nat} {es:List Ev} {k:Nat} {e:Ev} {x y:Ms} (h:es[k]?=some e) (hy:nextS v n x e=some y) (i:Nat):vdGo v n d x (es.drop k) i=(if e.k=2 then [vdE v d x i e] else [])++vdGo v n d y (es.drop (k+1)) (i+1):=by
 obtain⟨a,b⟩:=List.getElem?_eq_some_iff.1 h;rw [List.drop_eq_getElem_cons a,b];simp only [vdGo,hy]
theorem vdGo_end {v:Vr} {n:Int} {d:Nat} {es:List Ev} (x:Ms) (i:Nat):vdGo v n d x (es.drop es.length) i=[]:=by rw [List.drop_eq_nil_of_le (Nat.le_refl _)];rfl
theorem enS_step {v:Vr} {n:Int} {es:List Ev} {k:Nat} {e:Ev} {x:Ms} (h:es[k]?=some e) (hs:(enS v n x (es.drop k)).isSome=true):∃ y,nextS v n x e=some y∧(enS v n y (es.drop (k+1))).isSome=true:=by
 rw [enS_drop x h] at hs
 cases hy:nextS v n x e with
 | none=>rw [hy] at hs;cases hs
 | some y=>rw [hy] at hs;exact⟨y,rfl,hs⟩
theorem fd_pos:∀(out:List Pl) (b:Bd) (i:Nat),hasB out b=true->(i:Int)<=fdP out b i∧fdP out b i<(i:Int)+out.length:=by
 intro out
 induction out with
 | nil=>intro b i h;simp [hasB] at h
 | cons q l ih =>
  intro b i h;simp only [fdP];split
  ·simp only [List.length_cons];omega
  ·rename_i hne
   have c:hasB l b=true:=by
    obtain⟨p,a,e⟩:=hasB_iff.1 h;rcases List.mem_cons.1 a with rfl | a
    ·exact absurd e hne
    ·exact hasB_iff.2 ⟨p,a,e⟩
   have:=ih b (i+1) c;simp only [List.length_cons];omega
theorem loss_at {v:Vr} {d:Nat} {b:Bd} {x y:Int} {c:Bd} (hh:hasB (allP v b x y).1 c=true):∃ k:Nat,fdP (allP v b x y).1 c 0=(k:Int)∧k<(allP v b x y).1.length∧lossF v d b x y c=(grt (plsP v d b x y) - at_ (plsP v d b x y) k,true):=by
 have h:=fd_pos _ c 0 hh;refine⟨(fdP (allP v b x y).1 c 0).toNat,by omega,by omega,?_⟩;unfold lossF lossP;rw [if_neg (by omega)]
theorem vdGo_len (v:Vr) (n:Int) (d:Nat):∀(es:List Ev) (x:Ms) (i:Nat),(vdGo v n d x es i).length<=es.length:=by
 intro es
 induction es with
 | nil=>intro x i;exact Nat.le_refl _
 | cons e es ih =>
  intro x i;simp only [vdGo,List.length_append,List.length_cons];have a:(if e.k=2 then [vdE v d x i e] else ([]:List V4)).length<=1:=by split <;> simp
  cases nextS v n x e with
  | none=>simp only [List.length_nil];omega
  | some y=>have:=ih y (i+1);simp only;omega
end VdP
end Go.Proofs.YtmncnhbjifeoeaaGreat
