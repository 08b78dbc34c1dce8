/- Parts of the proof of FnExactReadMatch. Conditions: each theorem's own. -/
import Derived.Test.YtblipmifflfnoaaGreatDoorQ36
import Derived.Laws.DeepStrings4
set_option linter.unusedVariables false
set_option linter.unusedSimpArgs false
set_option maxHeartbeats 8000000
set_option maxRecDepth 100000
namespace Go.Proofs.YtblipmifflfnoaaGreatDoor
namespace Gm
open Go Go.ChangeShapes Go.WideShapes Go.ChangeAt Go.RowKit Base Ints Own RelG PlP TxP Num Bd1 Bd5 RegInv RegF RegG TxI TsI
theorem grown_below {a b c:World} {row:Option Nat} (h:a.grownBy b row) (hb:Below b.heap.size b c):a.grownBy c row:=Base.grownBy_trans h ⟨hb.os,hb.tape,hb.output,hb.size,λ i hi _=>hb.block i hi⟩
theorem rmatch_i (t:By) (hl:t.length<=4194304) (w:World) (E:Env w) :
  Calls Tryz.prog 6 #[.string (bs t)] w λ e w'=>MaR (rdM t) w e w':=by
 obtain⟨i5,be,a7,a6,a5⟩:=info_parts infoE;obtain⟨R,hR⟩:∃ x,rdM t=x:=⟨_,rfl⟩;rw [hR];have aH:=bs_size t;go_enter Tryz.func6,Tryz.ntmps6;go_upto_region 1 with fail;refine wp_gen (λ I=>Rows w I [(0,26,[.int .i64 0,.int .i64 0,.int .i64 0,.int .i64 0,.int .i64 0,.slice none 0 0])]) ⟨by go_grown,λ p hp=>?_⟩ ?_
 ·obtain rfl:=List.mem_singleton.1 hp;exact RowB.new _ _ _
 intro w1 K;have af:=(K.nth0 0 rfl).lt;by_cases h20:20000<t.length
 ·obtain rfl:((nulV,0,[]),3,0)=R:=by rw [<-hR,rdM_long h20]
  have h1:(20000:Int)<((bs t).size:Int):=by omega
  clear hR aH h20;have m:=K.nth0 0 rfl;have d:=K.bel;go_wp2_with (refine wM 26 0 [.int .i64 0,.int .i64 0,.int .i64 0,.int .i64 0,.int .i64 0,.slice none 0 0] m ?_;intro G H f z7;refine Hid.out ?_);have j:Below w.heap.size w G:=d.grown f d.size (λ k hk=>by simp at hk;omega);obtain⟨Z,Y,W,V,T,S⟩:=H.c6;have M:=H.lt;clear f m d K;refine kD ?_
  repeat (first | go_values | go_skip | go_step | go_upon)
  refine bodyPost_ret (v:=.tuple #[.agg #[.int .i64 0,.int .i64 0,.int .i64 0,.int .i64 0,.int .i64 0,.slice none 0 0],.int .i64 3,.int .i64 0]) (by simp [results,Tryz.results6,go_sem,Z,Y,W,V,T,S]) rfl ?_;exact⟨.slice none 0 0,rfl,Evs.nil _ _,j⟩
 have h1:¬ (20000:Int)<((bs t).size:Int):=by omega
 obtain⟨⟨l0,r0,e0⟩,hc⟩:∃ z,Lib.cut t [10]=z:=⟨_,rfl⟩;have ab:=cut_len t [10];rw [hc] at ab;simp only at ab;have ba:r0.length<=20000:=by omega
 have aN:l0.length<=4194304:=by omega
 have HR:=kD (hR.symm.trans (rdM_cut h20 hc));have CC:=kD (λ(Q:World) (E9:Env Q)=>cut_w t [10] hl Q E9);rw [hc] at CC;simp only at CC;have CH:=kD (λ(Q:World) (E9:Env Q)=>rhead_i l0 aN Q E9);clear hR aH hc ab h20 hl aN;go_wp2_with fail;refine(CC.out _ (E.below K.bel)).mono ?_;rintro e w2 ⟨rfl,A⟩;have K:=K.below A;clear A CC h1 af;have af:=(K.nth0 0 rfl).lt;go_wp2_with fail;refine(CH.out _ (E.below K.bel)).mono ?_;rintro e w3 h3;obtain⟨v,n,ok,rfl,A,ho⟩:=h3.v;have K:=K.below A;have aq:w.heap.size<w3.heap.size:=(K.nth0 0 rfl).lt;clear h3 A CH af;go_upto_region 5 with fail;refine wp_gen (λ I=>Rows w I [(0,26,[.int .i64 0,.int .i64 0,.int .i64 0,.int .i64 0,.int .i64 0,.slice none 0 0])]∧RowB I w3.heap.size 26 [.int .i64 v.p,.int .i64 v.c,.int .i64 v.h,.int .i64 v.s,.int .i64 n,.slice none 0 0]) ⟨K.below ((Below.refl _ _).alloc (Nat.le_refl _) _),RowB.new _ _ _⟩ ?_;clear K;obtain⟨g8,aO⟩:∃ q,w3.heap.size=q:=⟨_,rfl⟩;rw [aO] at aq ⊢;clear aO;rintro w4 ⟨K,R8⟩;have af:=(K.nth0 0 rfl).lt
 cases ok with
 | false =>
  have hn:rdH l0=none:=ho;obtain rfl:((nulV,0,[]),6,1)=R:=by rw [HR.out,hn];split <;> rfl
  clear HR ho hn;have m:=K.nth0 0 rfl;have d:=K.bel;go_wp2_with (refine wM 26 0 [.int .i64 0,.int .i64 0,.int .i64 0,.int .i64 0,.int .i64 0,.slice none 0 0] m ?_;intro G H f z7;refine Hid.out ?_);have j:Below w.heap.size w G:=d.grown f d.size (λ k hk=>by simp at hk;omega);obtain⟨Z,Y,W,V,T,S⟩:=H.c6;have M:=H.lt;clear f m d K;refine kD ?_
  repeat (first | go_values | go_skip | go_step | go_upon)
  refine bodyPost_ret (v:=.tuple #[.agg #[.int .i64 0,.int .i64 0,.int .i64 0,.int .i64 0,.int .i64 0,.slice none 0 0],.int .i64 6,.int .i64 1]) (by simp [results,Tryz.results6,go_sem,Z,Y,W,V,T,S]) rfl ?_;exact⟨.slice none 0 0,rfl,Evs.nil _ _,j⟩
 | true =>
 have hn:rdH l0=some (v,n):=ho
 cases e0 with
 | false =>
  obtain rfl:((nulV,0,[]),6,1)=R:=by rw [HR.out];rfl
  clear HR ho hn;have m:=K.nth0 0 rfl;have d:=K.bel;go_wp2_with (refine wM 26 0 [.int .i64 0,.int .i64 0,.int .i64 0,.int .i64 0,.int .i64 0,.slice none 0 0] m ?_;intro G H f z7;refine Hid.out ?_);have j:Below w.heap.size w G:=d.grown f d.size (λ k hk=>by simp at hk;omega);obtain⟨Z,Y,W,V,T,S⟩:=H.c6;have M:=H.lt;clear f m d K;refine kD ?_
  repeat (first | go_values | go_skip | go_step | go_upon)
  refine bodyPost_ret (v:=.tuple #[.agg #[.int .i64 0,.int .i64 0,.int .i64 0,.int .i64 0,.int .i64 0,.slice none 0 0],.int .i64 6,.int .i64 1]) (by simp [results,Tryz.results6,go_sem,Z,Y,W,V,T,S]) rfl ?_;exact⟨.slice none 0 0,rfl,Evs.nil _ _,j⟩
 | true =>
 have bj:Hid (R=finM v n (rmGo v n (spl 10 r0) (startS v) [] 2)):=by
  show _=_
  rw [HR.out,hn];rfl
 have hh:=(rdH_iff.1 hn).1;have ae:=head_parts hh;have CF:=kD (λ(Q:World)=>fst_i v ae.1 ae.2.1 Q);have HM:=kD (start_ms hh);have aV:=kD (show 1<=n∧n<=25 from ae.2.2);have bl:=kD ae.1;obtain⟨X0,X1,X2,X3,X4,X5⟩:=R8.c6;have D:=R8.lt;clear HR ho hn hh ae;go_wp2_with fail;refine(CF.out _).mono ?_;rintro e w5 ⟨v6,rfl,⟨su,u1,u2,rfl,aa⟩,A⟩;have bc:g8<w4.heap.size:=D;have a8:=A.size;obtain⟨⟨A0,c0,rfl,-,-⟩,⟨A1,c1,rfl,-,-⟩,⟨A2,c2,rfl,-,-⟩⟩:=id aa;have aU:=kD (show MsR w5 (λ b=>NotIn (.slice none 0 0) (g8+1) b∧b≠w5.heap.size) _ _ _ (startS v) from aa.weak (λ b h hl=>by
  have h:=h.elim False.elim id;exact⟨⟨λ e=>by simp [Value.ownBlock] at e,by omega⟩,by omega⟩))
 have K:=K.below A;have R8:=R8.below A R8.lt;clear A aa CF X0 X1 X2 X3 X4 X5 D af;simp only [msC,List.length_cons,List.length_nil,Nat.zero_add,Nat.reduceAdd];go_upto_region 8 with fail;refine wp_gen (λ I=>Rm w I g8 w5.heap.size v n (.slice none 0 0) [] (.slice A0 2 c0) (.slice A1 (startS v).g.b.1.length c1) (.slice A2 (startS v).g.b.2.length c2) (startS v)) ⟨K.below ((Below.refl _ _).alloc (Nat.le_refl _) _),R8.alloc _,RowB.new _ _ _,aU.out.keep (.below ((Below.refl _ _).alloc (Nat.le_refl _) _)),Evs.nil _ _,aq,by omega⟩ ?_;clear K R8 aU;obtain⟨F,aw⟩:∃ q,w5.heap.size=q:=⟨_,rfl⟩;rw [aw] at a8 ⊢;clear aw;intro w6 K;have HK:=kD K;clear K;go_wp2_with fail;go_loopw [3,4,5,6,7,11,12,13,14] (λ _ _ _ s6 _ a2 _ _ _ wr=>∃(r:By) (P:List Ev) (x:Ms) (ev su u1 u2:Value),s6=.string (bs r)∧a2=.int .i64 ((P.length:Int)+2)∧Hid (r.length<=20000)∧Hid (Rm w wr g8 F v n ev P su u1 u2 x)∧Hid (MsOk v n P.length x)∧Hid (P.length<=300)∧Hid (R=finM v n (rmGo v n (spl 10 r) x P ((P.length:Int)+2)))) (λ _ _ _ s6 _ _ _ _ _ _=>strLen s6)
 case atStart=>exact⟨r0,[],startS v,_,_,_,_,rfl,by first | rfl | trivial,kD ba,HK,HM,kD (Nat.zero_le _),bj⟩
 case round =>
  obtain⟨r,P,x,ev,su,u1,u2,rfl,rfl,hr,hK,am,an,hQ⟩:=hrel;by_cases hre:r=[]
  ·have e1:((bs r).toList == [])=true:=by rw [hre,ByteArray.toList_eq,bs_data];rfl
   have e2:(bs r).toList.isEmpty=true:=by rw [hre,ByteArray.toList_eq,bs_data];rfl
   have e3:((bs r).toList != [])=false:=by simp only [bne,e1];rfl
   have hR:R=((v,n,P),0,0):=by rw [hQ.out,hre,rmGo_end];rfl
   have K:=hK.out;obtain⟨Ae,ce,rfl⟩:=K.es.form;obtain⟨N,hN⟩:∃ N,P.length=N:=⟨_,rfl⟩;rw [hN] at K;have KR:=K.r8;obtain⟨X0,X1,X2,X3,X4,X5⟩:=KR.c6;have D:=KR.lt;have bd:=K.lo;have m:=K.k.nth0 0 rfl;have d:=K.k.bel;have HE:=kD K.es;clear hre hQ hK am an hr;go_wp2_with (refine wM 26 0 [.int .i64 v.p,.int .i64 v.c,.int .i64 v.h,.int .i64 v.s,.int .i64 n,.slice Ae N ce] m ?_;intro G H f z7;refine Hid.out ?_);have j:Below w.heap.size w G:=d.grown f d.size (λ k hk=>by simp at hk;omega);have ak:Evs G w.heap.size (.slice Ae N ce) P:=(HE.out.low f (by omega)).less (by omega);obtain⟨Z,Y,W,V,T,S⟩:=H.c6;have M:=H.lt;clear f m d K X0 X1 X2 X3 X4 X5 KR D HE;refine kD ?_
   repeat (first | go_values | go_skip | go_step | go_upon)
   refine bodyPost_ret (v:=.tuple #[.agg #[.int .i64 v.p,.int .i64 v.c,.int .i64 v.h,.int .i64 v.s,.int .i64 n,.slice Ae N ce],.int .i64 0,.int .i64 0]) (by simp [results,Tryz.results6,go_sem,Z,Y,W,V,T,S]) rfl ?_;subst hR;exact⟨_,rfl,ak,j⟩
  ·have e1:((bs r).toList == [])=false:=by rw [ByteArray.toList_eq,bs_data];cases r with | nil=>exact absurd rfl hre | cons a l=>rfl
   have e2:(bs r).toList.isEmpty=false:=by rw [ByteArray.toList_eq,bs_data];cases r with | nil=>exact absurd rfl hre | cons a l=>rfl
   have e3:((bs r).toList != [])=true:=by simp only [bne,e1];rfl
   obtain⟨⟨l,r2,ed⟩,hc⟩:∃ z,Lib.cut r [10]=z:=⟨_,rfl⟩;have ab:=cut_len r [10];have al:=cut_rest r [10] (by decide);rw [hc] at ab al;simp only at ab al;have a9:=hr.out;have CC:=kD (λ(Q:World) (E9:Env Q)=>cut_w r [10] (by omega) Q E9);rw [hc] at CC;simp only at CC;have CE:=kD (λ(Q:World) (E9:Env Q)=>revent_i v l (by omega) Q E9);have ak:rdEv v l=rdE v l:=by unfold rdEv;rw [if_pos bl.out]
   rw [ak] at CE;have HQ:=kD (hQ.out.trans (by rw [rmGo_cut x P _ hre hc]));have bo:=kD (show ed=true->r2.length<r.length from al);have aR:=kD (show r2.length<=20000 by omega);clear hre hQ ab al a9 ak hc hr;go_wp2_with fail;refine(CC.out _ (E.below hK.out.k.bel)).mono ?_;rintro e G ⟨rfl,A⟩;have K:=hK.out.below A;clear A CC e1 e2 e3 hK;obtain⟨Ae,ce,rfl⟩:=K.es.form;have aD:=kD K.es;have aB:F+1<=G.heap.size:=K.r10.lt;obtain⟨⟨A0,c0,rfl,-,-⟩,⟨A1,c1,rfl,-,-⟩,⟨A2,c2,rfl,-,-⟩⟩:=id K.ms;have K0:=K;have KR:=K.r8;obtain⟨X0,X1,X2,X3,X4,X5⟩:=KR.c6;have D:=KR.lt;go_wp2_with fail;refine(CE.out _ (E.below K.k.bel)).mono ?_;rintro e w8 ⟨k,a,b,sv,ss,m,ok,rfl,aA,A,J⟩;have K:=K.below A;obtain⟨As,cp,rfl,aI⟩:=aA.form enSt_len;have B:=kD aA;have bi:=kD aI;have ao:=A.size;have bd:=K.lo;have ar:=K0.r10.lt;have HG:=kD (show G.grownBy w8 (some F) from⟨A.os,A.tape,A.output,A.size,λ i hi _=>A.block i hi⟩);obtain⟨N,hN⟩:∃ N,ss.length=N:=⟨_,rfl⟩;obtain⟨L,hL⟩:∃ L,P.length=L:=⟨_,rfl⟩;rw [hN] at B;rw [hL] at K HQ am an aD;rw [hN,hL];have HN:=kD hN;have HL:=kD hL;clear A aA aI X0 X1 X2 X3 X4 X5 KR D CE hN hL;go_upto_region 13 with fail;refine wp_gen (λ I=>Rm w I g8 F v n (.slice Ae L ce) P (.slice A0 [x.s0,x.s1].length c0) (.slice A1 x.g.b.1.length c1) (.slice A2 x.g.b.2.length c2) x∧RowB I w8.heap.size 56 [.int .i64 k,.int .i64 a,.int .i64 b,.slice As N cp,.int .i64 m]∧Hid (OwnS I G.heap.size w8.heap.size 135 4 enSt (.slice As N cp) ss)∧Hid (G.grownBy I (some F))∧w8.heap.size<I.heap.size) ⟨K.below ((Below.refl _ _).alloc (Nat.le_refl _) _),RowB.new _ _ _,kD (B.out.alloc _),kD (grown_below HG.out ((Below.refl _ _).alloc (Nat.le_refl _) _)),by simp⟩ ?_;have aP:F<w8.heap.size:=by omega
   clear K B HG;obtain⟨ai,ag⟩:∃ q,w8.heap.size=q:=⟨_,rfl⟩;rw [ag] at aP ao ⊢;clear ag;rintro Q ⟨K,C,B,HG,ay⟩
   cases ok with
   | false =>
    have hn:rdE v l=none:=J.1;have hR:((nulV,0,[]),6,(L:Int)+2)=R:=by
     rw [HQ.out,hn]
     cases ed <;> rfl
    subst hR;have K:=K.k;clear HQ J hn;have m:=K.nth0 0 rfl;have d:=K.bel;go_wp2_with (refine wM 26 0 [.int .i64 0,.int .i64 0,.int .i64 0,.int .i64 0,.int .i64 0,.slice none 0 0] m ?_;intro G H f z7;refine Hid.out ?_);have j:Below w.heap.size w G:=d.grown f d.size (λ k hk=>by simp at hk;omega);obtain⟨Z,Y,W,V,T,S⟩:=H.c6;have M:=H.lt;clear f m d K;refine kD ?_
    repeat (first | go_values | go_skip | go_step | go_upon)
    refine bodyPost_ret (v:=.tuple #[.agg #[.int .i64 0,.int .i64 0,.int .i64 0,.int .i64 0,.int .i64 0,.slice none 0 0],.int .i64 6,.int .i64 ((L:Int)+2)]) (by simp [results,Tryz.results6,go_sem,Z,Y,W,V,T,S]) rfl ?_;exact⟨.slice none 0 0,rfl,Evs.nil _ _,j⟩
   | true =>
   have hn:rdE v l=some ⟨k,a,b,ss,m⟩:=J
   cases ed with
   | false =>
    have hR:((nulV,0,[]),6,(L:Int)+2)=R:=by rw [HQ.out];rfl
    subst hR;have K:=K.k;clear HQ J hn;have m:=K.nth0 0 rfl;have d:=K.bel;go_wp2_with (refine wM 26 0 [.int .i64 0,.int .i64 0,.int .i64 0,.int .i64 0,.int .i64 0,.slice none 0 0] m ?_;intro G H f z7;refine Hid.out ?_);have j:Below w.heap.size w G:=d.grown f d.size (λ k hk=>by simp at hk;omega);obtain⟨Z,Y,W,V,T,S⟩:=H.c6;have M:=H.lt;clear f m d K;refine kD ?_
    repeat (first | go_values | go_skip | go_step | go_upon)
    refine bodyPost_ret (v:=.tuple #[.agg #[.int .i64 0,.int .i64 0,.int .i64 0,.int .i64 0,.int .i64 0,.slice none 0 0],.int .i64 6,.int .i64 ((L:Int)+2)]) (by simp [results,Tryz.results6,go_sem,Z,Y,W,V,T,S]) rfl ?_;exact⟨.slice none 0 0,rfl,Evs.nil _ _,j⟩
   | true =>
   obtain⟨X,hX⟩:∃ X,nextS v n x ⟨k,a,b,ss,m⟩=X:=⟨_,rfl⟩;have ad:Hid (R=finM v n (goX v n r2 P ⟨k,a,b,ss,m⟩ ((L:Int)+2) L X)):=by
    show _=_
    rw [HQ.out,hn,<-hX]
    rfl
   have CN:=kD (λ(aE:World) (j:Below Q.heap.size Q aE)=>next_i v n L x am.out an.out aV.out (λ b=>NotIn (.slice Ae L ce) (g8+1) b∧b≠F) _ _ _ ⟨k,a,b,ss,m⟩ As Ae cp ai L ce aE (by have:=j.size;omega) (K.ms.below j) ((OwnS.rd enSt_len B.out).below j (Nat.le_of_lt ay)) X hX);simp only [HN.out] at CN;have CX:=kD hX;have aW:=kD K.es.block;clear HQ J hn hX bi;have aS:=kD (λ y (h:X=some y)=>next_ms aV.out.1 am.out (h ▸ CX.out));have K0:=K;obtain⟨X0,X1,X2,X3,X4,X5⟩:=K0.r8.c6;obtain⟨m0,m1,m2,m3,m4,m5,m6,m7,m8,m9,a4,a3⟩:=row12 K0.r10;obtain⟨k0,k1,k2,k3,k4⟩:=C.c5;have D:=K0.r8.lt;have ar:=K0.r10.lt;have aM:=C.lt;go_wp2_with fail;refine(CN.out _ (Below.refl _ _)).mono ?_;rintro e aF ⟨v6,rfl,⟨B0,d0,f0,B1,d1,f1,B2,d2,f2,y,rfl,o⟩,A⟩;have K:=K.below A;have C:=C.below A C.lt;have B:=kD (B.out.below A (Nat.le_of_lt ay));have HG:=kD (grown_below HG.out A);have az:=A.size;clear A CN X0 X1 X2 X3 X4 X5 m0 m1 m2 m3 m4 m5 m6 m7 m8 m9 a4 a3 k0 k1 k2 k3 k4 D ar aM K0;simp only [msC];go_upto_region 16 with fail;refine wp_gen (λ I=>Rm w I g8 F v n (.slice Ae L ce) P (.slice A0 [x.s0,x.s1].length c0) (.slice A1 x.g.b.1.length c1) (.slice A2 x.g.b.2.length c2) x∧RowB I ai 56 [.int .i64 k,.int .i64 a,.int .i64 b,.slice As N cp,.int .i64 m]∧RowB I aF.heap.size 52 (msC (.slice B0 d0 f0) (.slice B1 d1 f1) (.slice B2 d2 f2) y)∧Hid (OwnS I G.heap.size ai 135 4 enSt (.slice As N cp) ss)∧Hid (G.grownBy I (some F))∧Hid (∀ x0,X=some x0->y=x0∧MsR I (λ b=>NotIn (.slice Ae L ce) (g8+1) b∧b≠F) (.slice B0 d0 f0) (.slice B1 d1 f1) (.slice B2 d2 f2) x0)) ⟨K.below ((Below.refl _ _).alloc (Nat.le_refl _) _),C.alloc _,RowB.new _ _ _,kD (B.out.alloc _),kD (grown_below HG.out ((Below.refl _ _).alloc (Nat.le_refl _) _)),kD λ x0 h=>⟨(o x0 h).1,((o x0 h).2.weak (λ b A hl=>A.elim id (λ A=>⟨⟨λ e=>by have:=(aW.out b e).2;omega,by omega⟩,by omega⟩))).below ((Below.refl _ _).alloc (Nat.le_refl _) _)⟩⟩ ?_;clear K C B HG o az aW;obtain⟨bx,av⟩:∃ q,aF.heap.size=q:=⟨_,rfl⟩;rw [av];clear av;rintro bq ⟨K,C,aC,B,HG,o⟩;have bf:L<=300:=an.out
   cases X with
   | none =>
    have hR:((nulV,0,[]),5,(L:Int)+2)=R:=by rw [ad.out];rfl
    subst hR;have K:=K.k;clear ad o;have m:=K.nth0 0 rfl;have d:=K.bel;go_wp2_with (refine wM 26 0 [.int .i64 0,.int .i64 0,.int .i64 0,.int .i64 0,.int .i64 0,.slice none 0 0] m ?_;intro G H f z7;refine Hid.out ?_);have j:Below w.heap.size w G:=d.grown f d.size (λ k hk=>by simp at hk;omega);obtain⟨Z,Y,W,V,T,S⟩:=H.c6;have M:=H.lt;clear f m d K;refine kD ?_
    repeat (first | go_values | go_skip | go_step | go_upon)
    refine bodyPost_ret (v:=.tuple #[.agg #[.int .i64 0,.int .i64 0,.int .i64 0,.int .i64 0,.int .i64 0,.slice none 0 0],.int .i64 5,.int .i64 ((L:Int)+2)]) (by simp [results,Tryz.results6,go_sem,Z,Y,W,V,T,S]) rfl ?_;exact⟨.slice none 0 0,rfl,Evs.nil _ _,j⟩
   | some y0 =>
   obtain⟨rfl,aa⟩:=o.out _ rfl;have K0:=K;obtain⟨X0,X1,X2,X3,X4,X5⟩:=K0.r8.c6;have D:=K0.r8.lt;by_cases h300:(300:Int)<=(L:Int)
   ·have hR:((nulV,0,[]),5,(L:Int)+2)=R:=by
     rw [ad.out];unfold goX;simp only;rw [if_pos (by omega)]
     rfl
    subst hR;have K:=K.k;clear ad o aa;have m:=K.nth0 0 rfl;have d:=K.bel;go_wp2_with (refine wM 26 0 [.int .i64 0,.int .i64 0,.int .i64 0,.int .i64 0,.int .i64 0,.slice none 0 0] m ?_;intro G H f z7;refine Hid.out ?_);have j:Below w.heap.size w G:=d.grown f d.size (λ k hk=>by simp at hk;omega);obtain⟨Z,Y,W,V,T,S⟩:=H.c6;have M:=H.lt;clear f m d K;refine kD ?_
    repeat (first | go_values | go_skip | go_step | go_upon)
    refine bodyPost_ret (v:=.tuple #[.agg #[.int .i64 0,.int .i64 0,.int .i64 0,.int .i64 0,.int .i64 0,.slice none 0 0],.int .i64 5,.int .i64 ((L:Int)+2)]) (by simp [results,Tryz.results6,go_sem,Z,Y,W,V,T,S]) rfl ?_;exact⟨.slice none 0 0,rfl,Evs.nil _ _,j⟩
   have bk:Hid (R=finM v n (rmGo v n (spl 10 r2) y (P++[⟨k,a,b,ss,m⟩]) ((L:Int)+2+1))):=by
    show _=_
    rw [ad.out];unfold goX;simp only;rw [if_neg (by omega)]
   have aT:=kD (aS.out y rfl);have bm:=kD h300;obtain⟨a1,y1,y2,y3,y4,y5,y6,y7,y8,y9,a0,aZ⟩:=row12 aC;have aL:=aC.lt;have aQ:=K.r10;clear ad o aS;go_upto_region 19 with (first | (refine wM 52 0 (msC (.slice B0 d0 f0) (.slice B1 d1 f1) (.slice B2 d2 f2) y) aQ ?_;intro ac aG O aY));have K2:=K.st10 aG O aa;have bb:G.heap.size<=ai:=ao;have C:=C.grown O (λ q hq=>by simp at hq;omega);have B:=kD ((OwnS.grown B.out O (λ q hq=>by simp at hq;left;omega)));have HG:=kD (Base.grownBy_trans HG.out O);clear h300 X0 X1 X2 X3 X4 X5 D a1 y1 y2 y3 y4 y5 y6 y7 y8 y9 a0 aZ aL aQ aC aG O aY K K0 aa;have K:=K2;clear K2;have bw:ai<ac.heap.size:=C.lt;have K:=K.below ((Below.refl _ _).alloc (Nat.le_refl _) (.cells #[.int .i64 k,.int .i64 a,.int .i64 b,.slice As N cp,.int .i64 m] 56));obtain⟨rs,ap,aK,ax⟩:=Evs.app aD.out aB (grown_below HG.out ((Below.refl _ _).alloc (Nat.le_refl _) (.cells #[.int .i64 k,.int .i64 a,.int .i64 b,.slice As N cp,.int .i64 m] 56))) (Nat.lt_succ_self _) k a b m (.slice As N cp) ss ((B.out.alloc _).more (by simp;omega));have aJ:rs.length=L:=aK.trans HL.out;have aX:=kD ax;have M:F+1<=ac.heap.size:=by omega
   obtain⟨X0,X1,X2,X3,X4,X5⟩:=K.r8.c6;have D:=K.r8.lt;obtain⟨k0,k1,k2,k3,k4⟩:=C.c5;have aj:=kD K;clear ax aK B HG aD K;have bh:ac.cell? ⟨g8,5,none⟩=some (.slice Ae L ce):=(World.cell?_of_block (Below.heap_alloc ac _ g8 (by omega))).symm.trans X5;go_wp2_with (at_builtin;refine wpL_one rfl _ _ _ rfl (F+1) _ 56 i5 (.agg #[.int .i64 0,.int .i64 0,.int .i64 0,.slice none 0 0,.int .i64 0]) 5 56 Tryz.underlying24 be a7 a6 a5 rfl (by decide) enEv_len (.slice Ae L ce) rs (k,a,b,.slice As N cp,m) (one_Ev _ rfl) rfl ap ac.heap.size 1 56 (by first | rfl | (simp;rfl)) (RowB.new _ _ _) ?c1 ?c2 ?c3 ?_)
   case c1=>unfold maxLen;omega
   case c2=>omega
   case c3=>first | omega | (simp;omega)
   intro g bA bp ho hg ah bv;have ah:(Value.slice Ae L ce).ownBlock=some g∨g=(ac.alloc (.cells #[.int .i64 k,.int .i64 a,.int .i64 b,.slice As N cp,.int .i64 m] 56)).heap.size:=ah.imp id (λ h=>by rw [World.size_alloc];exact h);have K:=aj.out.app hg ah (aX.out g _ _ _ ho hg ah);have r8:=aj.out.r8.grown hg (λ q hq=>by have:=(aj.out.es.block q hq).1;have:=aj.out.lo;omega);obtain⟨V0,V1,V2,V3,V4,V5⟩:=r8.c6;have bt:=r8.lt;have bz:=r8.frozen
   try rw [aJ] at K
   have bn:=kD K;have br:IntKind.i64.wrap ((L:Int)+2+1)=(L:Int)+2+1:=IntWalk.i64_in _ (by omega);have bg:L<300:=by
    have h9:=bm.out;omega
   clear ho hg ah K r8 aX aj ap X0 X1 X2 X3 X4 X5 D k0 k1 k2 k3 k4 bh C;go_wp2_with fail;go_roundw
   case rel=>exact⟨r2,P++[⟨k,a,b,ss,m⟩],y,_,_,_,_,rfl,congrArg (Value.int .i64) (by rw [List.length_append,HL.out];simp;omega),aR,bn,kD (by show MsOk v n _ y;rw [List.length_append,HL.out];exact aT.out),kD (by show _<=300;rw [List.length_append,HL.out];exact bg),kD (by show R=_;rw [bk.out,List.length_append,HL.out];rfl)⟩
   case measure =>
    show (bs r2).size<(bs r).size
    rw [bs_size,bs_size];exact bo.out (by first | rfl | trivial)
end Gm
namespace TsI
open Go.ChangeShapes Go.WideShapes Go.ChangeAt Go.RowKit Base Ints Own JoinN PlP TxP Num Bd1 Bd5 RegF RegG TxI
def gSe (f:Int) (e:By):Stp :=
 if 3<=e.length∧e.take 3=[111,102,102] then (f,-1,if 5<e.length then (valS ((e.take (e.length - 1)).drop 4)).1 else f+1,false)
 else if 0<e.length∧e.getD (e.length - 1) 0=42 then (f,(valS (e.take (e.length - 1))).1 - 1,f - ((valS (e.take (e.length - 1))).1 - 1),true)
 else (f,(valS e).1 - 1,f - ((valS e).1 - 1),false)
theorem gS_two {v:Vr} {t a e:By} (h:spl 47 t=[a,e]):gS v t=gSe (if a=[98,97,114] then v.p else (valS a).1 - 1) e:=by
 unfold gS;rw [h]
 rfl
theorem gS_no {v:Vr} {t:By} (h:(spl 47 t).length≠2):gS v t=(0,0,0,false):=by
 unfold gS
 match hs:spl 47 t with
 | []=>rfl
 | [a]=>rfl
 | [a,b]=>rw [hs] at h;exact absurd rfl h
 | a :: b :: c :: l=>rfl
theorem val_bd (l:By):0<=(valS l).1∧(valS l).1<=1000000000000000:=by
 unfold valS;split
 ·exact⟨by decide,by decide⟩
 ·rename_i h
  split
  ·rename_i ha
   have a:=num_bd ha l.length (Nat.le_refl _);have b:=pow15 (k:=l.length) (by rcases Nat.lt_or_ge 15 l.length with h1 | h1;exact absurd (.inr (.inl h1)) h;exact h1);exact⟨a.1,Int.le_of_lt (Int.lt_of_lt_of_le a.2 b)⟩
  ·exact⟨by decide,by decide⟩
structure Bg (w wr:World) (v:Vr) (cs:List Value):Prop where
 bel:Below w.heap.size w wr
 rv:RowB wr w.heap.size 23 (vL v)
 r0:RowB wr (w.heap.size+1) 135 [.int .i64 0,.int .i64 0,.int .i64 0,.bool false]
 rs:RowB wr (w.heap.size+2) 135 cs
theorem Bg.below {w wr w':World} {v:Vr} {cs:List Value} (k:Bg w wr v cs) (hb:Below wr.heap.size wr w'):Bg w w' v cs :=
 ⟨k.bel.trans (hb.mono k.bel.size),k.rv.below hb k.rv.lt,k.r0.below hb k.r0.lt,k.rs.below hb k.rs.lt⟩
theorem Bg.set {w wr:World} {v:Vr} {cs:List Value} (k:Bg w wr v cs) (j:Nat) (u:Value):Bg w (wr.setCell ⟨w.heap.size+2,j,none⟩ u) v (cs.set j u) :=
 ⟨k.bel.setCell (p:=⟨w.heap.size+2,j,none⟩) (by show w.heap.size<=w.heap.size+2;omega) u,k.rv.other (p:=⟨w.heap.size+2,j,none⟩) (by show w.heap.size≠w.heap.size+2;omega) u,k.r0.other (p:=⟨w.heap.size+2,j,none⟩) (by show w.heap.size+1≠w.heap.size+2;omega) u,k.rs.set j u⟩
theorem row2 {w':World} {g:Nat} {a b:Value} {rest:List Value} {t:TypeId} (h:RowB w' g t ([a,b]++rest)):w'.cell? ⟨g,0,none⟩=some a∧w'.cell? ⟨g,1,none⟩=some b:=⟨h.cell 0,h.cell 1⟩
theorem guess_s (v:Vr) (hv:okV v=true) (t:By) (hl:t.length<=4194304) (w:World) :
  Calls Tryz.prog 141 #[.agg #[.int .i64 v.p,.int .i64 v.c,.int .i64 v.h,.int .i64 v.s],.string (bs t)] w λ e w'=>e=.returned (stpV (gS v t))∧Below w.heap.size w w':=by
 have hp:=okV_iff.1 hv;have aR:0<=v.p∧v.p<=24:=by omega
 have CS:=kD (λ w9=>split_s t 47 47 rfl hl w9);have HW:=kD (λ x hx=>Nat.le_trans (spl_word 47 t x hx) hl);obtain⟨G,hG⟩:∃ g,gS v t=g:=⟨_,rfl⟩;rw [hG];have o:=kD hG;have HL:=kD hl;clear hG hv hp hl;go_enter Tryz.func141,Tryz.ntmps141;go_upto_region 1 with fail;refine wp_gen (λ l=>Below w.heap.size w l∧l.heap.size=w.heap.size+2∧RowB l w.heap.size 23 (vL v)∧RowB l (w.heap.size+1) 135 [.int .i64 0,.int .i64 0,.int .i64 0,.bool false]) ⟨by go_grown,by simp,(RowB.new _ _ _).alloc _,RowB.new' _ _ _ (by simp)⟩ ?_;rintro w1 ⟨av,am,rv,r0⟩;obtain⟨D,C,B,y⟩:=rv.c4;have d:=rv.lt;go_upto_region 2 with fail;refine wp_gen (λ l=>Bg w l v [.int .i64 v.p,.int .i64 0,.int .i64 0,.bool false]) ⟨av.alloc av.size _,rv.alloc _,r0.alloc _,RowB.new' _ _ _ am.symm⟩ ?_;clear D C B y d av am rv r0;intro w2 K;go_wp2_with fail;refine(CS.out _).mono ?_;rintro e w3 ⟨sv,rfl,aj,hb⟩;have aN:w.heap.size+3<=w2.heap.size:=K.rs.lt;have K:=K.below hb;obtain⟨A,cp,ad,aC⟩:=aj.form enBs_len;obtain⟨n,hn⟩:∃ n,(spl 47 t).length=n:=⟨_,rfl⟩;rw [hn] at ad;subst ad;have aL:n<=4194305:=by have:=spl_len 47 t;have:=HL.out;omega
 by_cases h2:n=2
 case neg =>
  have aM:G=(0,0,0,false):=by rw [<-o.out];exact gS_no (by rw [hn];exact h2)
  subst aM;have e1:((n:Int) != 2)=true:=by simp;omega
  have e0:((n:Int) == 2)=false:=by simp;omega
  obtain⟨I,H,F,E⟩:=K.r0.c4;have j:=K.r0.lt;have O:=K.r0.frozen;obtain⟨D,C,B,y⟩:=K.rv.c4;have d:=K.rv.lt;obtain⟨N,M,L,J⟩:=K.rs.c4;have i:=K.rs.lt;have k:=K.rs.frozen;clear aC aj hn h2 o hb;go_wp2_with fail;refine bp_gen (λ l=>Below w.heap.size w l∧RowB l (w.heap.size+1) 135 [.int .i64 0,.int .i64 0,.int .i64 0,.bool false]) ⟨below_four K.bel (by omega) _ _ _ _,four K.r0 _ _ _ _⟩ ?_;rintro w8 ⟨W,r8⟩;obtain⟨z0,z1,z2,z3⟩:=r8.c4;refine bodyPost_ret (v:=.agg #[.int .i64 0,.int .i64 0,.int .i64 0,.bool false]) (by simp [results,Tryz.results141,go_sem,z0,z1,z2,z3]) rfl ?_;exact⟨rfl,W⟩
 obtain⟨a,e,ac⟩:∃ a e,spl 47 t=[a,e]:=list2 (by rw [hn];exact h2);subst h2;have aG:=HW.out a (by rw [ac];simp);have ak:=HW.out e (by rw [ac];simp);have ae:=gS_two (v:=v) ac;rw [o.out] at ae;rcases aj.cases_ with ⟨_,h⟩ | ⟨g,cap,rest,ad,ah,hg2,hrow,hc1,hc2,hc3⟩
 ·rw [ac] at h;cases h
 rw [ac] at ad hrow;simp only [Value.slice.injEq] at ad;obtain⟨rfl,-,rfl⟩:=ad;have hg:w.heap.size+3<=g:=by omega
 have X:RowB w3 g 9 ([.string (bs a),.string (bs e)]++rest):=hrow;have al:=kD ae;obtain⟨bq,aF⟩:∃ b,((bs a).toList == [98,97,114])=b:=⟨_,rfl⟩;have aa:if bq=true then a=[98,97,114] else ¬ a=[98,97,114]:=by rw [<-aF,ByteArray.toList_eq,bs_data];by_cases h:a=[98,97,114] <;> simp [h]
 have ay:=kD aa;have CA:=kD (λ w9=>val_s a aG w9);have bA:=val_bd a;obtain⟨⟨na,oa⟩,aE⟩:∃ z,valS a=z:=⟨_,rfl⟩;rw [aE] at CA ae bA;simp only at CA ae bA;have al:=kD ae;clear aC aj hn ac ae hrow ah hg2 hc1 hc2 hc3 o hb aL CS HW aa aE aG;obtain⟨I,H,F,E⟩:=K.r0.c4;have j:=K.r0.lt;have O:=K.r0.frozen;obtain⟨D,C,B,y⟩:=K.rv.c4;have d:=K.rv.lt;obtain⟨N,M,L,J⟩:=K.rs.c4;have i:=K.rs.lt;have k:=K.rs.frozen;obtain⟨c0,c1⟩:=row2 X;have af:=X.lt;go_upto_if 26 with fail;clear aF;go_cut [7,8] from 23 (λ s7 s8 wx=>∃ f,Bg w wx v [.int .i64 f,.int .i64 0,.int .i64 0,.bool false]∧RowB wx g 9 ([.string (bs a),.string (bs e)]++rest)∧Hid (G=gSe f e)∧-1<=f∧f<=1000000000000000)
 case first =>
  cases bq
  case true =>
   have aa:a=[98,97,114]:=ay.out;have ah:Hid (G=gSe v.p e):=by show _=_;rw [al.out,if_pos aa]
   clear aa;go_wp2_with fail;go_meet;exact⟨v.p,K,X,ah,by omega,by omega⟩
  case false =>
   have aa:¬ a=[98,97,114]:=ay.out;have ah:Hid (G=gSe (na - 1) e):=by show _=_;rw [al.out,if_neg aa]
   clear aa;go_wp2_with fail;refine(CA.out _).mono ?_;rintro e_ w4 ⟨rfl,hb⟩;have K:=K.below hb;have X:=X.below hb X.lt;clear I H F E j O D C B y d N M L J i k c0 c1 af;obtain⟨I,H,F,E⟩:=K.r0.c4;have j:=K.r0.lt;have O:=K.r0.frozen;obtain⟨D,C,B,y⟩:=K.rv.c4;have d:=K.rv.lt;obtain⟨N,M,L,J⟩:=K.rs.c4;have i:=K.rs.lt;have k:=K.rs.frozen;obtain⟨c0,c1⟩:=row2 X;have af:=X.lt;go_wp2_with fail;go_meet;exact⟨na - 1,K.set 0 _,X.other (p:=⟨w.heap.size+2,0,none⟩) (by show g≠w.heap.size+2;omega) _,ah,by omega,by omega⟩
 case rest =>
  obtain⟨f,K,X,o,aT,aS⟩:=hcut;clear I H F E j O D C B y d N M L J i k c0 c1 af;clear al CA bA ay;have aw:=o.out;unfold gSe at aw;have o:=kD aw;clear aw;obtain⟨s,hs⟩:∃ s,bs e=s:=⟨_,rfl⟩;have aq:s.data.toList=e:=by rw [<-hs];rfl
  have ap:s.size=e.length:=by rw [<-hs];exact bs_size e
  have ai:=kD (λ a b=>show s.extract a b=bs ((e.drop a).take (b - a)) from by rw [Lib.extract_eq,aq];rfl);obtain⟨m,hm⟩:∃ m,e.length=m:=⟨_,rfl⟩;rw [hm] at ap ak;have aI:=kD aq;have R:=kD ap;have HM:=kD hm;have HS:=kD hs;have af:=X.lt;obtain⟨c0,c1⟩:=row2 X;rw [hs] at c1;have aO:s.size<=4194304:=by omega
  obtain⟨q,hq⟩:∃ q,s.size - 1=q:=⟨_,rfl⟩;have Z:=kD hq;clear hq;clear aq hs hm X ap;obtain⟨I,H,F,E⟩:=K.r0.c4;have j:=K.r0.lt;have O:=K.r0.frozen;obtain⟨D,C,B,y⟩:=K.rv.c4;have d:=K.rv.lt;obtain⟨N,M,L,J⟩:=K.rs.c4;have i:=K.rs.lt;have k:=K.rs.frozen;by_cases hoff:3<=m∧e.take 3=[111,102,102]
  ·have d1:decide ((3:Int)<=(s.size:Int))=true:=decide_eq_true (by have:=R.out;omega);have aH:3<=s.size:=by have:=R.out;omega
   have aB:s.extract 0 3=bs [111,102,102]:=by rw [ai.out];have:=hoff.2;rw [List.drop_zero];rw [this]
   have e0:((bs [111,102,102]).toList == [111,102,102])=true:=by rw [ByteArray.toList_eq,bs_data];rfl
   have Q:Hid (G=(f,-1,if 5<m then (valS ((e.take (m - 1)).drop 4)).1 else f+1,false)):=by show _=_;rw [o.out,HM.out,if_pos hoff]
   clear o hoff;have o:=Q;clear Q;go_upto_region 11 with fail;refine wp_gen (λ l=>Bg w l v [.int .i64 f,.int .i64 (-1),.int .i64 0,.bool false]) (K.set 1 _) ?_;clear I H F E j O D C B y d N M L J i k;clear K;intro w5 K;obtain⟨I,H,F,E⟩:=K.r0.c4;have j:=K.r0.lt;have O:=K.r0.frozen;obtain⟨D,C,B,y⟩:=K.rv.c4;have d:=K.rv.lt;obtain⟨N,M,L,J⟩:=K.rs.c4;have i:=K.rs.lt;have k:=K.rs.frozen;clear c0 c1 af aB e0 d1;go_upto_region 12 with fail;refine wp_gen (λ l=>Bg w l v [.int .i64 f,.int .i64 (-1),.int .i64 (f+1),.bool false]) (K.set 2 _) ?_;clear I H F E j O D C B y d N M L J i k;clear K;intro w5 K;obtain⟨I,H,F,E⟩:=K.r0.c4;have j:=K.r0.lt;have O:=K.r0.frozen;obtain⟨D,C,B,y⟩:=K.rv.c4;have d:=K.rv.lt;obtain⟨N,M,L,J⟩:=K.rs.c4;have i:=K.rs.lt;have k:=K.rs.frozen;by_cases h5:5<m
   ·have d5:decide ((5:Int)<(s.size:Int))=true:=decide_eq_true (by have:=R.out;omega);have aA:s.extract 4 q=bs ((e.take (m - 1)).drop 4):=by rw [ai.out,<-Z.out,R.out,List.drop_take]
    have P:((e.take (m - 1)).drop 4).length<=4194304:=by rw [List.length_drop,List.length_take,HM.out];omega
    obtain⟨p,hp⟩:∃ p,(e.take (m - 1)).drop 4=p:=⟨_,rfl⟩;rw [hp] at aA P o;have V:=kD (λ w9=>val_s p P w9);obtain⟨⟨r,op⟩,T⟩:∃ z,valS p=z:=⟨_,rfl⟩;rw [T] at V o;simp only at V o;have aP:5<s.size:=by have:=R.out;omega
    have an:((s.size:Int) - 1)=(q:Int):=by have:=Z.out;omega
    have aQ:4<=q:=by have:=Z.out;omega
    have aD:q<=s.size:=by have:=Z.out;omega
    have az:=kD h5;clear hp P T h5;go_wp2_with fail;refine(V.out _).mono ?_;rintro e_ w6 ⟨rfl,hb⟩;have K:=K.below hb;clear I H F E j O D C B y d N M L J i k;clear hb V aA d5;obtain⟨I,H,F,E⟩:=K.r0.c4;have j:=K.r0.lt;have O:=K.r0.frozen;obtain⟨D,C,B,y⟩:=K.rv.c4;have d:=K.rv.lt;obtain⟨N,M,L,J⟩:=K.rs.c4;have i:=K.rs.lt;have k:=K.rs.frozen;go_upto_region 15 with fail;refine wp_gen (λ l=>Bg w l v [.int .i64 f,.int .i64 (-1),.int .i64 r,.bool false]) (K.set 2 _) ?_;clear I H F E j O D C B y d N M L J i k;clear K;intro w5 K;obtain⟨I,H,F,E⟩:=K.r0.c4;have j:=K.r0.lt;have O:=K.r0.frozen;obtain⟨D,C,B,y⟩:=K.rv.c4;have d:=K.rv.lt;obtain⟨N,M,L,J⟩:=K.rs.c4;have i:=K.rs.lt;have k:=K.rs.frozen;have Y:G=(f,-1,r,false):=by rw [o.out,if_pos az.out]
    subst Y;clear o;go_wp2_with fail;refine bp_gen (λ l=>Below w.heap.size w l∧RowB l (w.heap.size+1) 135 [.int .i64 f,.int .i64 (-1),.int .i64 r,.bool false]) ⟨below_four K.bel (by omega) _ _ _ _,four K.r0 _ _ _ _⟩ ?_;rintro w8 ⟨W,r8⟩;obtain⟨z0,z1,z2,z3⟩:=r8.c4;refine bodyPost_ret (v:=.agg #[.int .i64 f,.int .i64 (-1),.int .i64 r,.bool false]) (by simp [results,Tryz.results141,go_sem,z0,z1,z2,z3]) rfl ?_;exact⟨rfl,W⟩
   ·have d5:decide ((5:Int)<(s.size:Int))=false:=decide_eq_false (by have:=R.out;omega);have az:=kD h5;clear h5;have Y:G=(f,-1,f+1,false):=by rw [o.out,if_neg az.out]
    subst Y;clear o;go_wp2_with fail;refine bp_gen (λ l=>Below w.heap.size w l∧RowB l (w.heap.size+1) 135 [.int .i64 f,.int .i64 (-1),.int .i64 (f+1),.bool false]) ⟨below_four K.bel (by omega) _ _ _ _,four K.r0 _ _ _ _⟩ ?_;rintro w8 ⟨W,r8⟩;obtain⟨z0,z1,z2,z3⟩:=r8.c4;refine bodyPost_ret (v:=.agg #[.int .i64 f,.int .i64 (-1),.int .i64 (f+1),.bool false]) (by simp [results,Tryz.results141,go_sem,z0,z1,z2,z3]) rfl ?_;exact⟨rfl,W⟩
  have Q:Hid (G=if 0<m∧e.getD (m - 1) 0=42 then (f,(valS (e.take (m - 1))).1 - 1,f - ((valS (e.take (m - 1))).1 - 1),true) else (f,(valS e).1 - 1,f - ((valS e).1 - 1),false)):=by show _=_;rw [o.out,HM.out,if_neg hoff]
  clear o;have o:=Q;clear Q;by_cases h3:3<=m
  ·have d1:decide ((3:Int)<=(s.size:Int))=true:=decide_eq_true (by have:=R.out;omega);have aH:3<=s.size:=by have:=R.out;omega
   obtain⟨p3,ar⟩:∃ p,e.take 3=p:=⟨_,rfl⟩;have aB:s.extract 0 3=bs p3:=by rw [ai.out,List.drop_zero,ar]
   have e0:((bs p3).toList == [111,102,102])=false:=by rw [ByteArray.toList_eq,bs_data];exact beq_eq_false_iff_ne.2 (λ h=>hoff ⟨h3,ar.trans h⟩)
   clear hoff ar;by_cases h0:0<m
   ·have aK:0<s.size:=by have:=R.out;omega
    have hi:q<s.size:=by have:=Z.out;omega
    have d0:decide ((0:Int)<(s.size:Int))=true:=decide_eq_true (by omega);have an:((s.size:Int) - 1)=(q:Int):=by have:=Z.out;omega
    have aD:q<=s.size:=by omega
    obtain⟨x,ab⟩:∃ x,(s[q]'hi)=x:=⟨_,rfl⟩;have hx:=Lib.data_getElem? s q hi;rw [ab,aI.out] at hx;obtain⟨z,hz⟩:∃ z:Nat,x.toNat=z:=⟨_,rfl⟩;have aJ:(s[q]'hi).toNat=z:=by rw [ab,hz]
    have ag:e.getD (m - 1) 0=x:=by rw [List.getD_eq_getElem?_getD,<-R.out,Z.out,hx];rfl
    rw [ag] at o;have HZ:=kD hz;clear ab hx hz ag;by_cases h42:z=42
    ·have ax:((z:Int) == 42)=true:=by simp [h42]
     have ao:s.extract 0 q=bs (e.take (m - 1)):=by rw [ai.out,<-Z.out,R.out,List.drop_zero,Nat.sub_zero]
     have P:(e.take (m - 1)).length<=4194304:=by rw [List.length_take,HM.out];omega
     have S:x=42:=UInt8.toNat_inj.1 (by rw [HZ.out,h42];rfl);have Q:Hid (G=(f,(valS (e.take (m - 1))).1 - 1,f - ((valS (e.take (m - 1))).1 - 1),true)):=by show _=_;rw [o.out,if_pos ⟨h0,S⟩]
     clear o;have o:=Q;clear Q;obtain⟨p,hp⟩:∃ p,e.take (m - 1)=p:=⟨_,rfl⟩;rw [hp] at ao P o;have V:=kD (λ w9=>val_s p P w9);have bP:=val_bd p;obtain⟨⟨r,op⟩,T⟩:∃ z,valS p=z:=⟨_,rfl⟩;rw [T] at V bP o;simp only at V bP o;clear T;clear hp P S h42;go_upto_region 18 with fail;refine wp_gen (λ l=>Bg w l v [.int .i64 f,.int .i64 0,.int .i64 0,.bool true]) (K.set 3 _) ?_;clear I H F E j O D C B y d N M L J i k;clear K;intro w5 K;obtain⟨I,H,F,E⟩:=K.r0.c4;have j:=K.r0.lt;have O:=K.r0.frozen;obtain⟨D,C,B,y⟩:=K.rv.c4;have d:=K.rv.lt;obtain⟨N,M,L,J⟩:=K.rs.c4;have i:=K.rs.lt;have k:=K.rs.frozen;go_wp2_with fail;refine(V.out _).mono ?_;rintro e_ w6 ⟨rfl,hb⟩;have K:=K.below hb;clear I H F E j O D C B y d N M L J i k;clear hb V;obtain⟨I,H,F,E⟩:=K.r0.c4;have j:=K.r0.lt;have O:=K.r0.frozen;obtain⟨D,C,B,y⟩:=K.rv.c4;have d:=K.rv.lt;obtain⟨N,M,L,J⟩:=K.rs.c4;have i:=K.rs.lt;have k:=K.rs.frozen;go_upto_region 21 with fail;refine wp_gen (λ l=>Bg w l v [.int .i64 f,.int .i64 (r - 1),.int .i64 0,.bool true]) (K.set 1 _) ?_;clear I H F E j O D C B y d N M L J i k;clear K;intro w5 K;obtain⟨I,H,F,E⟩:=K.r0.c4;have j:=K.r0.lt;have O:=K.r0.frozen;obtain⟨D,C,B,y⟩:=K.rv.c4;have d:=K.rv.lt;obtain⟨N,M,L,J⟩:=K.rs.c4;have i:=K.rs.lt;have k:=K.rs.frozen;go_upto_region 22 with fail;refine wp_gen (λ l=>Bg w l v [.int .i64 f,.int .i64 (r - 1),.int .i64 (f - (r - 1)),.bool true]) (K.set 2 _) ?_;clear I H F E j O D C B y d N M L J i k;clear K;intro w5 K;obtain⟨I,H,F,E⟩:=K.r0.c4;have j:=K.r0.lt;have O:=K.r0.frozen;obtain⟨D,C,B,y⟩:=K.rv.c4;have d:=K.rv.lt;obtain⟨N,M,L,J⟩:=K.rs.c4;have i:=K.rs.lt;have k:=K.rs.frozen;have Y:G=(f,r - 1,f - (r - 1),true):=o.out;subst Y;clear o;go_wp2_with fail;refine bp_gen (λ l=>Below w.heap.size w l∧RowB l (w.heap.size+1) 135 [.int .i64 f,.int .i64 (r - 1),.int .i64 (f - (r - 1)),.bool true]) ⟨below_four K.bel (by omega) _ _ _ _,four K.r0 _ _ _ _⟩ ?_;rintro w8 ⟨W,r8⟩;obtain⟨z0,z1,z2,z3⟩:=r8.c4;refine bodyPost_ret (v:=.agg #[.int .i64 f,.int .i64 (r - 1),.int .i64 (f - (r - 1)),.bool true]) (by simp [results,Tryz.results141,go_sem,z0,z1,z2,z3]) rfl ?_;exact⟨rfl,W⟩
    ·have ax:((z:Int) == 42)=false:=by simp;omega
     have S:x≠42:=λ h=>h42 (by rw [<-HZ.out,h];rfl)
     have Q:Hid (G=(f,(valS e).1 - 1,f - ((valS e).1 - 1),false)):=by show _=_;rw [o.out,if_neg (λ h=>S h.2)]
     clear o;have o:=Q;clear Q;have P:e.length<=4194304:=by rw [HM.out];exact ak
     have V:=kD (λ w9=>val_s e P w9);have bP:=val_bd e;obtain⟨⟨r,op⟩,T⟩:∃ z,valS e=z:=⟨_,rfl⟩;rw [T] at V bP o;simp only at V bP o;clear T;rw [HS.out] at V;clear P S h42;go_wp2_with fail;refine(V.out _).mono ?_;rintro e_ w6 ⟨rfl,hb⟩;have K:=K.below hb;clear I H F E j O D C B y d N M L J i k;clear hb V;obtain⟨I,H,F,E⟩:=K.r0.c4;have j:=K.r0.lt;have O:=K.r0.frozen;obtain⟨D,C,B,y⟩:=K.rv.c4;have d:=K.rv.lt;obtain⟨N,M,L,J⟩:=K.rs.c4;have i:=K.rs.lt;have k:=K.rs.frozen;go_upto_region 21 with fail;refine wp_gen (λ l=>Bg w l v [.int .i64 f,.int .i64 (r - 1),.int .i64 0,.bool false]) (K.set 1 _) ?_;clear I H F E j O D C B y d N M L J i k;clear K;intro w5 K;obtain⟨I,H,F,E⟩:=K.r0.c4;have j:=K.r0.lt;have O:=K.r0.frozen;obtain⟨D,C,B,y⟩:=K.rv.c4;have d:=K.rv.lt;obtain⟨N,M,L,J⟩:=K.rs.c4;have i:=K.rs.lt;have k:=K.rs.frozen;go_upto_region 22 with fail;refine wp_gen (λ l=>Bg w l v [.int .i64 f,.int .i64 (r - 1),.int .i64 (f - (r - 1)),.bool false]) (K.set 2 _) ?_;clear I H F E j O D C B y d N M L J i k;clear K;intro w5 K;obtain⟨I,H,F,E⟩:=K.r0.c4;have j:=K.r0.lt;have O:=K.r0.frozen;obtain⟨D,C,B,y⟩:=K.rv.c4;have d:=K.rv.lt;obtain⟨N,M,L,J⟩:=K.rs.c4;have i:=K.rs.lt;have k:=K.rs.frozen;have Y:G=(f,r - 1,f - (r - 1),false):=o.out;subst Y;clear o;go_wp2_with fail;refine bp_gen (λ l=>Below w.heap.size w l∧RowB l (w.heap.size+1) 135 [.int .i64 f,.int .i64 (r - 1),.int .i64 (f - (r - 1)),.bool false]) ⟨below_four K.bel (by omega) _ _ _ _,four K.r0 _ _ _ _⟩ ?_;rintro w8 ⟨W,r8⟩;obtain⟨z0,z1,z2,z3⟩:=r8.c4;refine bodyPost_ret (v:=.agg #[.int .i64 f,.int .i64 (r - 1),.int .i64 (f - (r - 1)),.bool false]) (by simp [results,Tryz.results141,go_sem,z0,z1,z2,z3]) rfl ?_;exact⟨rfl,W⟩
   ·exact absurd h3 (by omega)
  ·have d1:decide ((3:Int)<=(s.size:Int))=false:=decide_eq_false (by have:=R.out;omega);have aH:¬ 3<=s.size:=by have:=R.out;omega
   clear hoff;by_cases h0:0<m
   ·have aK:0<s.size:=by have:=R.out;omega
    have hi:q<s.size:=by have:=Z.out;omega
    have d0:decide ((0:Int)<(s.size:Int))=true:=decide_eq_true (by omega);have an:((s.size:Int) - 1)=(q:Int):=by have:=Z.out;omega
    have aD:q<=s.size:=by omega
    obtain⟨x,ab⟩:∃ x,(s[q]'hi)=x:=⟨_,rfl⟩;have hx:=Lib.data_getElem? s q hi;rw [ab,aI.out] at hx;obtain⟨z,hz⟩:∃ z:Nat,x.toNat=z:=⟨_,rfl⟩;have aJ:(s[q]'hi).toNat=z:=by rw [ab,hz]
    have ag:e.getD (m - 1) 0=x:=by rw [List.getD_eq_getElem?_getD,<-R.out,Z.out,hx];rfl
    rw [ag] at o;have HZ:=kD hz;clear ab hx hz ag;by_cases h42:z=42
    ·have ax:((z:Int) == 42)=true:=by simp [h42]
     have ao:s.extract 0 q=bs (e.take (m - 1)):=by rw [ai.out,<-Z.out,R.out,List.drop_zero,Nat.sub_zero]
     have P:(e.take (m - 1)).length<=4194304:=by rw [List.length_take,HM.out];omega
     have S:x=42:=UInt8.toNat_inj.1 (by rw [HZ.out,h42];rfl);have Q:Hid (G=(f,(valS (e.take (m - 1))).1 - 1,f - ((valS (e.take (m - 1))).1 - 1),true)):=by show _=_;rw [o.out,if_pos ⟨h0,S⟩]
     clear o;have o:=Q;clear Q;obtain⟨p,hp⟩:∃ p,e.take (m - 1)=p:=⟨_,rfl⟩;rw [hp] at ao P o;have V:=kD (λ w9=>val_s p P w9);have bP:=val_bd p;obtain⟨⟨r,op⟩,T⟩:∃ z,valS p=z:=⟨_,rfl⟩;rw [T] at V bP o;simp only at V bP o;clear T;clear hp P S h42;go_upto_region 18 with fail;refine wp_gen (λ l=>Bg w l v [.int .i64 f,.int .i64 0,.int .i64 0,.bool true]) (K.set 3 _) ?_;clear I H F E j O D C B y d N M L J i k;clear K;intro w5 K;obtain⟨I,H,F,E⟩:=K.r0.c4;have j:=K.r0.lt;have O:=K.r0.frozen;obtain⟨D,C,B,y⟩:=K.rv.c4;have d:=K.rv.lt;obtain⟨N,M,L,J⟩:=K.rs.c4;have i:=K.rs.lt;have k:=K.rs.frozen;go_wp2_with fail;refine(V.out _).mono ?_;rintro e_ w6 ⟨rfl,hb⟩;have K:=K.below hb;clear I H F E j O D C B y d N M L J i k;clear hb V;obtain⟨I,H,F,E⟩:=K.r0.c4;have j:=K.r0.lt;have O:=K.r0.frozen;obtain⟨D,C,B,y⟩:=K.rv.c4;have d:=K.rv.lt;obtain⟨N,M,L,J⟩:=K.rs.c4;have i:=K.rs.lt;have k:=K.rs.frozen;go_upto_region 21 with fail;refine wp_gen (λ l=>Bg w l v [.int .i64 f,.int .i64 (r - 1),.int .i64 0,.bool true]) (K.set 1 _) ?_;clear I H F E j O D C B y d N M L J i k;clear K;intro w5 K;obtain⟨I,H,F,E⟩:=K.r0.c4;have j:=K.r0.lt;have O:=K.r0.frozen;obtain⟨D,C,B,y⟩:=K.rv.c4;have d:=K.rv.lt;obtain⟨N,M,L,J⟩:=K.rs.c4;have i:=K.rs.lt;have k:=K.rs.frozen;go_upto_region 22 with fail;refine wp_gen (λ l=>Bg w l v [.int .i64 f,.int .i64 (r - 1),.int .i64 (f - (r - 1)),.bool true]) (K.set 2 _) ?_;clear I H F E j O D C B y d N M L J i k;clear K;intro w5 K;obtain⟨I,H,F,E⟩:=K.r0.c4;have j:=K.r0.lt;have O:=K.r0.frozen;obtain⟨D,C,B,y⟩:=K.rv.c4;have d:=K.rv.lt;obtain⟨N,M,L,J⟩:=K.rs.c4;have i:=K.rs.lt;have k:=K.rs.frozen;have Y:G=(f,r - 1,f - (r - 1),true):=o.out;subst Y;clear o;go_wp2_with fail;refine bp_gen (λ l=>Below w.heap.size w l∧RowB l (w.heap.size+1) 135 [.int .i64 f,.int .i64 (r - 1),.int .i64 (f - (r - 1)),.bool true]) ⟨below_four K.bel (by omega) _ _ _ _,four K.r0 _ _ _ _⟩ ?_;rintro w8 ⟨W,r8⟩;obtain⟨z0,z1,z2,z3⟩:=r8.c4;refine bodyPost_ret (v:=.agg #[.int .i64 f,.int .i64 (r - 1),.int .i64 (f - (r - 1)),.bool true]) (by simp [results,Tryz.results141,go_sem,z0,z1,z2,z3]) rfl ?_;exact⟨rfl,W⟩
    ·have ax:((z:Int) == 42)=false:=by simp;omega
     have S:x≠42:=λ h=>h42 (by rw [<-HZ.out,h];rfl)
     have Q:Hid (G=(f,(valS e).1 - 1,f - ((valS e).1 - 1),false)):=by show _=_;rw [o.out,if_neg (λ h=>S h.2)]
     clear o;have o:=Q;clear Q;have P:e.length<=4194304:=by rw [HM.out];exact ak
     have V:=kD (λ w9=>val_s e P w9);have bP:=val_bd e;obtain⟨⟨r,op⟩,T⟩:∃ z,valS e=z:=⟨_,rfl⟩;rw [T] at V bP o;simp only at V bP o;clear T;rw [HS.out] at V;clear P S h42;go_wp2_with fail;refine(V.out _).mono ?_;rintro e_ w6 ⟨rfl,hb⟩;have K:=K.below hb;clear I H F E j O D C B y d N M L J i k;clear hb V;obtain⟨I,H,F,E⟩:=K.r0.c4;have j:=K.r0.lt;have O:=K.r0.frozen;obtain⟨D,C,B,y⟩:=K.rv.c4;have d:=K.rv.lt;obtain⟨N,M,L,J⟩:=K.rs.c4;have i:=K.rs.lt;have k:=K.rs.frozen;go_upto_region 21 with fail;refine wp_gen (λ l=>Bg w l v [.int .i64 f,.int .i64 (r - 1),.int .i64 0,.bool false]) (K.set 1 _) ?_;clear I H F E j O D C B y d N M L J i k;clear K;intro w5 K;obtain⟨I,H,F,E⟩:=K.r0.c4;have j:=K.r0.lt;have O:=K.r0.frozen;obtain⟨D,C,B,y⟩:=K.rv.c4;have d:=K.rv.lt;obtain⟨N,M,L,J⟩:=K.rs.c4;have i:=K.rs.lt;have k:=K.rs.frozen;go_upto_region 22 with fail;refine wp_gen (λ l=>Bg w l v [.int .i64 f,.int .i64 (r - 1),.int .i64 (f - (r - 1)),.bool false]) (K.set 2 _) ?_;clear I H F E j O D C B y d N M L J i k;clear K;intro w5 K;obtain⟨I,H,F,E⟩:=K.r0.c4;have j:=K.r0.lt;have O:=K.r0.frozen;obtain⟨D,C,B,y⟩:=K.rv.c4;have d:=K.rv.lt;obtain⟨N,M,L,J⟩:=K.rs.c4;have i:=K.rs.lt;have k:=K.rs.frozen;have Y:G=(f,r - 1,f - (r - 1),false):=o.out;subst Y;clear o;go_wp2_with fail;refine bp_gen (λ l=>Below w.heap.size w l∧RowB l (w.heap.size+1) 135 [.int .i64 f,.int .i64 (r - 1),.int .i64 (f - (r - 1)),.bool false]) ⟨below_four K.bel (by omega) _ _ _ _,four K.r0 _ _ _ _⟩ ?_;rintro w8 ⟨W,r8⟩;obtain⟨z0,z1,z2,z3⟩:=r8.c4;refine bodyPost_ret (v:=.agg #[.int .i64 f,.int .i64 (r - 1),.int .i64 (f - (r - 1)),.bool false]) (by simp [results,Tryz.results141,go_sem,z0,z1,z2,z3]) rfl ?_;exact⟨rfl,W⟩
   ·have d0:decide ((0:Int)<(s.size:Int))=false:=decide_eq_false (by have:=R.out;omega);have aU:¬ 0<s.size:=by have:=R.out;omega
    have Q:Hid (G=(f,(valS e).1 - 1,f - ((valS e).1 - 1),false)):=by show _=_;rw [o.out,if_neg (λ h=>h0 h.1)]
    clear o;have o:=Q;clear Q;have P:e.length<=4194304:=by rw [HM.out];exact ak
    have V:=kD (λ w9=>val_s e P w9);have bP:=val_bd e;obtain⟨⟨r,op⟩,T⟩:∃ z,valS e=z:=⟨_,rfl⟩;rw [T] at V bP o;simp only at V bP o;clear T;rw [HS.out] at V;clear P h0;go_wp2_with fail;refine(V.out _).mono ?_;rintro e_ w6 ⟨rfl,hb⟩;have K:=K.below hb;clear I H F E j O D C B y d N M L J i k;clear hb V;obtain⟨I,H,F,E⟩:=K.r0.c4;have j:=K.r0.lt;have O:=K.r0.frozen;obtain⟨D,C,B,y⟩:=K.rv.c4;have d:=K.rv.lt;obtain⟨N,M,L,J⟩:=K.rs.c4;have i:=K.rs.lt;have k:=K.rs.frozen;go_upto_region 21 with fail;refine wp_gen (λ l=>Bg w l v [.int .i64 f,.int .i64 (r - 1),.int .i64 0,.bool false]) (K.set 1 _) ?_;clear I H F E j O D C B y d N M L J i k;clear K;intro w5 K;obtain⟨I,H,F,E⟩:=K.r0.c4;have j:=K.r0.lt;have O:=K.r0.frozen;obtain⟨D,C,B,y⟩:=K.rv.c4;have d:=K.rv.lt;obtain⟨N,M,L,J⟩:=K.rs.c4;have i:=K.rs.lt;have k:=K.rs.frozen;go_upto_region 22 with fail;refine wp_gen (λ l=>Bg w l v [.int .i64 f,.int .i64 (r - 1),.int .i64 (f - (r - 1)),.bool false]) (K.set 2 _) ?_;clear I H F E j O D C B y d N M L J i k;clear K;intro w5 K;obtain⟨I,H,F,E⟩:=K.r0.c4;have j:=K.r0.lt;have O:=K.r0.frozen;obtain⟨D,C,B,y⟩:=K.rv.c4;have d:=K.rv.lt;obtain⟨N,M,L,J⟩:=K.rs.c4;have i:=K.rs.lt;have k:=K.rs.frozen;have Y:G=(f,r - 1,f - (r - 1),false):=o.out;subst Y;clear o;go_wp2_with fail;refine bp_gen (λ l=>Below w.heap.size w l∧RowB l (w.heap.size+1) 135 [.int .i64 f,.int .i64 (r - 1),.int .i64 (f - (r - 1)),.bool false]) ⟨below_four K.bel (by omega) _ _ _ _,four K.r0 _ _ _ _⟩ ?_;rintro w8 ⟨W,r8⟩;obtain⟨z0,z1,z2,z3⟩:=r8.c4;refine bodyPost_ret (v:=.agg #[.int .i64 f,.int .i64 (r - 1),.int .i64 (f - (r - 1)),.bool false]) (by simp [results,Tryz.results141,go_sem,z0,z1,z2,z3]) rfl ?_;exact⟨rfl,W⟩
end TsI
end Go.Proofs.YtblipmifflfnoaaGreatDoor
