/- Parts of the proof of FnExactMatchText. Conditions: each theorem's own. -/
import Derived.Test.YtblipmifflfnoaaGreatDoorV13
import Derived.Test.YtblipmifflfnoaaGreatDoorShelf
import Derived.Lib.ParseIntB
import Derived.Lib.ItoaNum
import Derived.Lib.IndexMore
import Derived.Lib.Strings
import Derived.Lib.SplitLaws
import Derived.Lib.Join
import Derived.IntWalk
set_option linter.unusedVariables false
set_option linter.unusedSimpArgs false
set_option maxHeartbeats 8000000
set_option maxRecDepth 100000
namespace Go.Proofs.YtblipmifflfnoaaGreatDoor
namespace Bd22
open Go.ChangeShapes Go.WideShapes Go.ChangeAt Go.RowKit Base Ints Own Clone RelG PlP Bd1 Bd4 Bd5 Bd6 Bd7 Bd7S Bd8 Bd9 Bd11 RegInv RegF RegG Bd16 Bd17 Bd18 Bd19 Bd20 Bd21
theorem lng_zero_ {v:Vr} {d:Int} {ds:List Int} {ps:List Pl} {k:Nat} {f:Bool} (h:(nextP v d ps).length=0):lngGo v (d :: ds) ps k f=(ps,k,f && decide ((nextP v d ps).length<=3000)):=by
 simp only [lngGo];rw [if_pos h]
theorem lng_more_ {v:Vr} {d:Int} {ds:List Int} {ps:List Pl} {k:Nat} {f:Bool} (h:¬ (nextP v d ps).length=0):lngGo v (d :: ds) ps k f=lngGo v ds (nextP v d ps) (k+1) (f && decide ((nextP v d ps).length<=3000)):=by
 simp only [lngGo];rw [if_neg h]
theorem one_play' {W:World} {b:Bd} {g1 lo:Nat} {u0 u1 u2:Value} (h1:RowB W g1 228 [u0,u1,u2]) (l1:lo<=g1) (k0:OwnV 135 4 enSt W (λ x=>lo<=x∧x≠g1) u0 [])
  (k1:OwnV 2 1 enI W (λ x=>lo<=x∧x≠g1) u1 b.1) (k2:OwnV 2 1 enI W (λ x=>lo<=x∧x≠g1) u2 b.2):OwnG RelP W lo W.heap.size 228 3 enP (.slice (some ⟨g1,0,none⟩) 1 1) [([],b)]:=by
 have c:∀ x,(lo<=x∧x≠g1)->NotIn (.slice (some ⟨g1,0,none⟩) 1 1) lo x:=λ x a=>⟨λ e=>a.2 (by simp [Value.ownBlock] at e;exact e.symm),a.1⟩
 refine⟨[((u0,u1,u2):PRow)],RowB.own (xs:=[((u0,u1,u2):PRow)]) h1 enP_len l1 h1.lt (show 1<=maxLen by decide),LsR.snoc (LsR.nil _ _ _) ?_⟩;exact RelP.weak (S:=λ x=>lo<=x∧x≠g1) ⟨k0,k1.sl enI_len,k2.sl enI_len⟩ (λ x a _=>c x a)
structure LgF (w1:World) (b:Bd) (n:Nat) (p0 p3 p6 p7 p8 p9 p10:Prop) (v0 v3 v6 v7 v8 v9 v10:Value) (w':World):Prop where
 bel:Below w1.heap.size w1 w'
 f0:p0->OwnV 135 4 enSt w' (λ x=>w1.heap.size<=x) v0 []
 f3:p3->OwnV 2 1 enI w' (λ x=>w1.heap.size<=x) v3 b.1
 f6:p6->OwnV 2 1 enI w' (λ x=>w1.heap.size<=x) v6 b.2
 f7:p7->v7=.agg #[v3,v6]
 f8:p8->v8=.agg #[v0,v3,v6]
 f9:p9->∃ g,v9=.slice (some ⟨g,0,none⟩) 1 1∧OwnG RelP w' w1.heap.size w'.heap.size 228 3 enP v9 [([],b)]
 f10:p10->v10=v9
section
variable {w1 w' w'':World} {b:Bd} {n:Nat} {p0 p3 p6 p7 p8 p9 p10:Prop} {v0 v3 v6 v7 v8 v9 v10 v':Value}
theorem LgF.skip {L:Nat->Prop} {vals:Nat->Value} (F:LgF w1 b n (L 0) (L 3) (L 6) (L 7) (L 8) (L 9) (L 10) (vals 0) (vals 3) (vals 6) (vals 7) (vals 8) (vals 9) (vals 10) w') (k:Nat) (x:Value) (h0:0≠k:=by decide) (h3:3≠k:=by decide) (h6:6≠k:=by decide) (h7:7≠k:=by decide) (h8:8≠k:=by decide) (h9:9≠k:=by decide) (h10:10≠k:=by decide) :
  LgF w1 b n (0=k∨L 0) (3=k∨L 3) (6=k∨L 6) (7=k∨L 7) (8=k∨L 8) (9=k∨L 9) (10=k∨L 10) (upd vals k x 0) (upd vals k x 3) (upd vals k x 6) (upd vals k x 7) (upd vals k x 8) (upd vals k x 9) (upd vals k x 10) w':=by
 rw [or_ne h0,or_ne h3,or_ne h6,or_ne h7,or_ne h8,or_ne h9,or_ne h10,upd_ne h0,upd_ne h3,upd_ne h6,upd_ne h7,upd_ne h8,upd_ne h9,upd_ne h10];exact F
theorem LgF.below (F:LgF w1 b n p0 p3 p6 p7 p8 p9 p10 v0 v3 v6 v7 v8 v9 v10 w') (hb:Below w'.heap.size w' w''):LgF w1 b n p0 p3 p6 p7 p8 p9 p10 v0 v3 v6 v7 v8 v9 v10 w'' :=
 ⟨F.bel.trans (hb.mono F.bel.size),λ h=>(F.f0 h).keep (.below hb),λ h=>(F.f3 h).keep (.below hb),λ h=>(F.f6 h).keep (.below hb),F.f7,F.f8,λ h=>by obtain⟨g,e,ho⟩:=F.f9 h;exact⟨g,e,(ho.below_ hb).more hb.size⟩,F.f10⟩
theorem LgF.s0 (F:LgF w1 b n p0 p3 p6 p7 p8 p9 p10 v0 v3 v6 v7 v8 v9 v10 w') (n8:¬ p8):LgF w1 b n True p3 p6 p7 p8 p9 p10 (.slice (some ⟨w'.heap.size,0,none⟩) 0 0) v3 v6 v7 v8 v9 v10 (w'.alloc (.cells ⟨[]⟩ 135)):=by
 have G:=F.below (w'':=w'.alloc (.cells ⟨[]⟩ 135)) ((Below.refl _ _).alloc (Nat.le_refl _) _);exact⟨G.bel,λ _=>OwnV.of (RowB.own (xs:=([]:List Stp)) (RowB.new w' 135 []) enSt_len F.bel.size (by simp) (by decide)) (Nat.le_refl _) (λ x a _=>a),G.f3,G.f6,G.f7,λ h=>absurd h n8,G.f9,G.f10⟩
theorem LgF.s3 (F:LgF w1 b n p0 p3 p6 p7 p8 p9 p10 v0 v3 v6 v7 v8 v9 v10 w') (n7:¬ p7) (n8:¬ p8) (hb:Below w'.heap.size w' w'') (ho:OwnS w'' w'.heap.size w''.heap.size 2 1 enI v' b.1):LgF w1 b n p0 True p6 p7 p8 p9 p10 v0 v' v6 v7 v8 v9 v10 w'':=by
 have G:=F.below hb;exact⟨G.bel,G.f0,λ _=>OwnV.of ho (Nat.le_refl _) (λ x a _=>Nat.le_trans F.bel.size a),G.f6,λ h=>absurd h n7,λ h=>absurd h n8,G.f9,G.f10⟩
theorem LgF.s6 (F:LgF w1 b n p0 p3 p6 p7 p8 p9 p10 v0 v3 v6 v7 v8 v9 v10 w') (n7:¬ p7) (n8:¬ p8) (hb:Below w'.heap.size w' w'') (ho:OwnS w'' w'.heap.size w''.heap.size 2 1 enI v' b.2):LgF w1 b n p0 p3 True p7 p8 p9 p10 v0 v3 v' v7 v8 v9 v10 w'':=by
 have G:=F.below hb;exact⟨G.bel,G.f0,G.f3,λ _=>OwnV.of ho (Nat.le_refl _) (λ x a _=>Nat.le_trans F.bel.size a),λ h=>absurd h n7,λ h=>absurd h n8,G.f9,G.f10⟩
theorem LgF.s7 (F:LgF w1 b n p0 p3 p6 p7 p8 p9 p10 v0 v3 v6 v7 v8 v9 v10 w'):LgF w1 b n p0 p3 p6 True p8 p9 p10 v0 v3 v6 (.agg #[v3,v6]) v8 v9 v10 w' :=
 ⟨F.bel,F.f0,F.f3,F.f6,λ _=>rfl,F.f8,F.f9,F.f10⟩
theorem LgF.s8 (F:LgF w1 b n p0 p3 p6 p7 p8 p9 p10 v0 v3 v6 v7 v8 v9 v10 w'):LgF w1 b n p0 p3 p6 p7 True p9 p10 v0 v3 v6 v7 (.agg #[v0,v3,v6]) v9 v10 w' :=
 ⟨F.bel,F.f0,F.f3,F.f6,F.f7,λ _=>rfl,F.f9,F.f10⟩
theorem LgF.s9 (F:LgF w1 b n p0 p3 p6 p7 p8 p9 p10 v0 v3 v6 v7 v8 v9 v10 w') (y0:p0) (y3:p3) (y6:p6) (n10:¬ p10):LgF w1 b n p0 p3 p6 p7 p8 True p10 v0 v3 v6 v7 v8 (.slice (some ⟨w'.heap.size,0,none⟩) 1 1) v10 (w'.alloc (.cells ⟨[v0,v3,v6]⟩ 228)):=by
 have c:Below w'.heap.size w' (w'.alloc (.cells ⟨[v0,v3,v6]⟩ 228)):=(Below.refl _ _).alloc (Nat.le_refl _) _;have G:=F.below c;have a:∀ {α:Type} {e:TypeId} {sz:Nat} {en:α->List Value} {u:Value} {xs:List α},OwnV e sz en w' (λ x=>w1.heap.size<=x) u xs->OwnV e sz en (w'.alloc (.cells ⟨[v0,v3,v6]⟩ 228)) (λ x=>w1.heap.size<=x∧x≠w'.heap.size) u xs:=λ h =>
  ((relO _ _ _).weak h (λ x f d=>⟨f,by omega⟩):OwnV _ _ _ w' (λ x=>w1.heap.size<=x∧x≠w'.heap.size) _ _).keep (.below c)
 exact⟨G.bel,G.f0,G.f3,G.f6,G.f7,G.f8,λ _=>⟨_,rfl,one_play' (RowB.new _ _ _) F.bel.size (a (F.f0 y0)) (a (F.f3 y3)) (a (F.f6 y6))⟩,λ h=>absurd h n10⟩
theorem LgF.s10 (F:LgF w1 b n p0 p3 p6 p7 p8 p9 p10 v0 v3 v6 v7 v8 v9 v10 w'):LgF w1 b n p0 p3 p6 p7 p8 p9 True v0 v3 v6 v7 v8 v9 v9 w' :=
 ⟨F.bel,F.f0,F.f3,F.f6,F.f7,F.f8,F.f9,λ _=>rfl⟩
end
structure Lg (w wr:World) (v:Vr) (vl:Value) (X:List Pl):Prop where
 bel:Below w.heap.size w wr
 rv:RowB wr w.heap.size 23 (vL v)
 og:OwnG RelP wr (w.heap.size+2) wr.heap.size 228 3 enP vl X
 ge:w.heap.size+2<=wr.heap.size
theorem Lg.below {w wr w':World} {v:Vr} {vl:Value} {X:List Pl} (h:Lg w wr v vl X) (hb:Below wr.heap.size wr w'):Lg w w' v vl X :=
 ⟨h.bel.trans (hb.mono h.bel.size),h.rv.below hb h.rv.lt,(h.og.below_ hb).more hb.size,Nat.le_trans h.ge hb.size⟩
theorem longest_s (v:Vr) (b:Bd) (hb:Ok v b) (Ao At:Option Addr) (co ct:Nat) (ds:List Int) (hds:∀ d ∈ ds,1<=d∧d<=6) (hlen:ds.length<=4) (u:Value) (w:World) (ho:RdS w w.heap.size 1 enI Ao b.1) (ht:RdS w w.heap.size 1 enI At b.2) (hA:Ao=none->co=0) (hT:At=none->ct=0) (hu:SlV 1 enI w All u ds) :
  Calls Tryz.prog 186 #[.agg #[.int .i64 v.p,.int .i64 v.c,.int .i64 v.h,.int .i64 v.s],.agg #[.slice Ao b.1.length co,.slice At b.2.length ct],u] w λ e w'=>∃ vv,e=.returned (.tuple #[vv,.int .i64 (((lngP v b ds).2.1:Nat):Int),.bool (lngP v b ds).2.2])∧OwnG RelP w' w.heap.size w'.heap.size 228 3 enP vv (lngP v b ds).1∧Below w.heap.size w w':=by
 have hv:=hb.v1;have ac:okV v=true:=okV_iff.2 hv;obtain⟨P,hP⟩:∃ P:Nat,v.p=(P:Int):=⟨v.p.toNat,by omega⟩;have HP:=kD hP;have aF:P<=24:=by omega
 obtain⟨n,hn⟩:∃ n,P+1=n:=⟨_,rfl⟩;have Z:b.1.length=n:=by have:=hb.own.len;omega
 have Y:b.2.length=n:=by have:=hb.oth.len;omega
 have C1:=kD (λ(o:World) (h:Below w.heap.size w o)=>own02 Ao co w.heap.size b.1 o h.size (ho.below h (Nat.le_refl _)) hA (by omega));have C2:=kD (λ(o:World) (h:Below w.heap.size w o)=>own02 At ct w.heap.size b.2 o h.size (ht.below h (Nat.le_refl _)) hT (by omega));rw [Z] at C1 ⊢;rw [Y] at C2 ⊢;have aC:=kD Z;have aB:=kD Y;have HB:=kD hb;obtain⟨Au,cu,rfl,af,-⟩:=hu;obtain⟨N,hN⟩:∃ N,ds.length=N:=⟨_,rfl⟩;have HN:=kD hN;rw [hN] at hlen ⊢;have ay:=kD af;have aE:=kD (λ i (h:i<N)=>hds _ (List.mem_of_getElem? (at_get (l:=ds) (i:=i) (by rw [hN];exact h))));have aD:=kD (λ(o:World) (i:Nat) (hi:i<=3) (xs:List Pl) (ao:RowOk v i xs) (ap:xs.length<=25 ^ i) (d:Int) (hd:1<=d∧d<=6) (uu:Value) (S0:Nat->Prop) (hu:SlG RelP 3 enP o S0 uu xs)=>next_s v ac i (by omega) xs ao (Nat.le_trans ap (pow_le hi)) d hd uu S0 o hu);obtain⟨RR,W⟩:∃ r,lngP v b ds=r:=⟨_,rfl⟩;rw [W];have az:=kD W;clear hb hv ac hP Z Y ho ht hA hT hN af hds W;go_enter Tryz.func186,Tryz.ntmps186;go_upto_region 1 with fail;refine wp_gen (λ W'=>Below w.heap.size w W'∧RowB W' w.heap.size 23 (vL v)∧RowB W' (w.heap.size+1) 46 [.slice Ao n co,.slice At n ct]) ⟨by go_grown,(RowB.new _ _ _).alloc _,RowB.new' _ _ _ (by simp)⟩ ?_;rintro w1 ⟨y,rv,D⟩;have ar:=D.lt;refine rG [some 13,some 14,some 15,some 16,some 17,some 18,some 19,some 20,some 21,some 22,some 9] 11 (Pl [none,some (.pointer (some ⟨w.heap.size+1,0,none⟩)),some (.slice Ao n co),none,some (.pointer (some ⟨w.heap.size+1,1,none⟩)),some (.slice At n ct),none,none,none,none,none]) (λ L a w'=>LgF w1 b n (L 0) (L 3) (L 6) (L 7) (L 8) (L 9) (L 10) (a 0) (a 3) (a 6) (a 7) (a 8) (a 9) (a 10) w') ?g0_1 ?gst_1 ?gfin_1
 case g0_1=>exact⟨(Below.refl _ _).drew,λ h=>absurd h (by decide),λ h=>absurd h (by decide),λ h=>absurd h (by decide),λ h=>absurd h (by decide),λ h=>absurd h (by decide),λ h=>absurd h (by decide),λ h=>absurd h (by decide)⟩
 case gst_1 =>
  refine rN rfl (λ L a A o j g m U F K t=>?_) ?_
  ·go_simp;exact t.out _ _ (Pl.any rfl) (by simpa [upd] using F.s0 (λ h=>j (m 8 0 (by kernel_rfl) h)))
  refine rN rfl (λ L a A o j g m U F K t=>?_) ?_
  ·have e4:=U.w 4 (.pointer (some ⟨w.heap.size+1,0,none⟩));obtain⟨z0,z1⟩:=(D.below F.bel D.lt).c2;go_simp;exact pF t (F.skip 1 _)
  refine rN rfl (λ L a A o j g m U F K t=>?_) ?_
  ·have aS:=U.v 1 14;obtain⟨z0,z1⟩:=(D.below F.bel D.lt).c2;go_simp;exact pF t (F.skip 2 _)
  refine rN rfl (λ L a A o j g m U F K t=>?_) ?_
  ·have aR:=U.v 2 15;go_simp;refine(C1.out o (y.trans (F.bel.mono y.size))).mono ?_;rintro e w6 ⟨⟨v',rfl,H⟩,V⟩;exact t.out _ w6 (Pl.any rfl) (by simpa [upd] using F.s3 (λ h=>j (m 7 3 (by kernel_rfl) h)) (λ h=>j (m 8 3 (by kernel_rfl) h)) V H)
  refine rN rfl (λ L a A o j g m U F K t=>?_) ?_
  ·have e4:=U.w 4 (.pointer (some ⟨w.heap.size+1,0,none⟩));obtain⟨z0,z1⟩:=(D.below F.bel D.lt).c2;go_simp;exact pF t (F.skip 4 _)
  refine rN rfl (λ L a A o j g m U F K t=>?_) ?_
  ·have aQ:=U.v 4 17;obtain⟨z0,z1⟩:=(D.below F.bel D.lt).c2;go_simp;exact pF t (F.skip 5 _)
  refine rN rfl (λ L a A o j g m U F K t=>?_) ?_
  ·have aP:=U.v 5 18;go_simp;refine(C2.out o (y.trans (F.bel.mono y.size))).mono ?_;rintro e w6 ⟨⟨v',rfl,H⟩,V⟩;exact t.out _ w6 (Pl.any rfl) (by simpa [upd] using F.s6 (λ h=>j (m 7 6 (by kernel_rfl) h)) (λ h=>j (m 8 6 (by kernel_rfl) h)) V H)
  refine rN rfl (λ L a A o j g m U F K t=>?_) ?_
  ·have am:=U.x 3 16;have al:=U.x 6 19;have o3:=F.f3 (bK g 3);refine(o3.1.form enI_len).elim λ A3 H=>?_
   refine H.elim λ c3 H=>?_
   have R:=H.1;clear H;have o6:=F.f6 (bK g 6);refine(o6.1.form enI_len).elim λ A6 h6=>?_
   refine h6.elim λ c6 h6=>?_
   have Q:=h6.1;clear h6;rw [aC.out] at R;rw [aB.out] at Q;have aJ:=am.trans R;have aI:=al.trans Q;clear am al;go_simp;exact t.out _ o (Pl.any rfl) (by rw [<-R,<-Q];simpa [upd] using F.s7)
  refine rN rfl (λ L a A o j g m U F K t=>?_) ?_
  ·have an:=U.x 0 13;have ak:=U.x 7 20;have o0:=F.f0 (bK g 0);refine(o0.1.form enSt_len).elim λ A0 B=>?_
   refine B.elim λ c0 B=>?_
   have ad:=B.1;clear B;have aK:=an.trans ad;have aH:=ak.trans (F.f7 (bK g 7));clear an ak;go_simp;exact t.out _ o (Pl.any rfl) (by simpa [upd,ad] using F.s8)
  refine rN rfl (λ L a A o j g m U F K t=>?_) ?_
  ·have aj:=U.x 8 21;have aG:=aj.trans (F.f8 (bK g 8));clear aj;go_simp;exact t.out _ _ (Pl.any rfl) (by simpa [upd] using F.s9 (bK g 0) (bK g 3) (bK g 6) (λ h=>j (m 10 9 (by kernel_rfl) h)))
  refine rN rfl (λ L a A o j g m U F K t=>?_) ?_
  ·have aO:=U.x 9 22;go_simp;exact t.out _ o (Pl.any rfl) (by simpa [upd] using F.s10)
  exact RelFrom.nil (by decide)
 case gfin_1 =>
  intro a o hp F;simp only [Fr,Act.put,sX,Nat.reduceAdd];obtain⟨g9,e9,S⟩:=F.f9 trivial;have aa:=F.f10 trivial;rw [e9] at aa S;rw [aa];have K:Lg w o v (.slice (some ⟨g9,0,none⟩) 1 1) [([],b)]:=⟨y.trans (F.bel.mono y.size),rv.below F.bel rv.lt,S.less (by omega),by have:=F.bel.size;omega⟩;clear F hp e9 aa S y rv D ar C1 C2;have T:=K.rv.lt;go_wp2_with fail;go_loopw [9,10,11] (λ vl fv i wr=>∃(k:Nat) (X:List Pl) (f:Bool),k<=N∧i=.int .i64 (k:Int)∧fv=.bool f∧Lg w wr v vl X∧Hid (RowOk v k X∧X.length<=25 ^ k)∧Hid (lngGo v (ds.drop k) X k f=RR)) (λ _ _ i _=>N - (intOf i).toNat)
  case atStart=>exact⟨0,[([],b)],true,Nat.zero_le _,by first | rfl | trivial,by first | rfl | trivial,K,kD ⟨λ q hq=>by simp at hq;subst hq;exact⟨HB.out,rfl⟩,by simp⟩,az⟩
  case round =>
   obtain⟨k,X,f,hk,rfl,rfl,K,HO,HG⟩:=hrel;clear T;have T:=K.rv.lt;by_cases hlt:k<N
   ·obtain⟨bu,ou,rfl,av,ah⟩:=at_rd (ay.out.rd.below K.bel (Nat.le_refl _)) (i:=k) (by rw [HN.out];exact hlt);have aN:(k:Int)<(N:Int):=by omega
    have aL:IntKind.i64.wrap ((k:Int)+1)=(k:Int)+1:=IntWalk.i64_in _ (by omega);have hD:=aE.out k hlt;have C:=kD HG.out;rw [drop_at (by rw [HN.out];exact hlt)] at C;obtain⟨d,hd⟩:∃ d,at_ ds k=d:=⟨_,rfl⟩;rw [hd] at ah hD C;clear hd HG;obtain⟨q0,q1,q2,q3⟩:=K.rv.c4;go_wp2_with fail;go_still_tail 6,(by kernel_rfl);go_wp2_with fail;refine(aD.out wr.drew k (by omega) _ HO.out.1 HO.out.2 d hD u9 _ ((relSl RelP 3 enP).keep (K.og.sl enP_len (Nat.le_refl _)) (.below (Below.refl _ _).drew))).mono ?_;rintro e w5 ⟨nv,rfl,E,ai⟩;have ae:=K.ge;have K:=(K.below (Below.refl _ _).drew).below ai;obtain⟨J,G⟩:∃ l,nextP v d X=l:=⟨_,rfl⟩;have aA:=kD (show RowOk v (k+1) J∧J.length<=25 ^ (k+1) from by
     rw [<-G];refine⟨next_ok hD.1 HO.out.1,Nat.le_trans next_len ?_⟩;rw [Nat.pow_succ];exact Nat.mul_le_mul HO.out.2 (by have:=HP.out;omega))
    rw [G] at E;obtain⟨An,cn,ag,-⟩:=Bd19.OwnG.form enP_len E;obtain⟨M,hM⟩:∃ M,J.length=M:=⟨_,rfl⟩;rw [hM] at ag;have KN:Lg w w5 v nv J:=⟨K.bel,K.rv,E.less (show w.heap.size+2<=wr.heap.size from ae),K.ge⟩;subst ag;have ab:=kD hM;have z:=kD G;obtain⟨x,hx⟩:∃ x,decide ((M:Int)<=3000)=x:=⟨_,rfl⟩;have O:decide (J.length<=3000)=x:=by rw [<-hx,ab.out];exact decide_eq_decide.2 (by omega)
    have HX:=kD O;clear E ai av ah hM G q0 q1 q2 q3 T ae;by_cases B:M=0
    ·have e7:((M:Int) == 0)=true:=by simp [B]
     have I:(X,k,f && x)=RR:=by rw [<-C.out,lng_zero_ (by rw [z.out,ab.out];exact B),z.out,HX.out]
     subst I;have ax:=kD B;have aq:=K.og.less (lo':=w.heap.size) (by omega);have aw:=K.bel;clear B C KN O K
     cases f
     all_goals
      go_wp2_with fail;go_ret3;exact⟨_,by first | rfl | simp,aq,aw⟩
    ·have e7:((M:Int) == 0)=false:=by simp [B]
     have I:Hid (lngGo v (ds.drop (k+1)) J (k+1) (f && x)=RR):=kD (by
      rw [<-C.out,lng_more_ (by rw [z.out,ab.out];exact B),z.out,HX.out])
     have ax:=kD B;clear B C O K
     cases f
     all_goals
      go_wp2_with fail;go_roundw
      case rel=>exact⟨k+1,J,_,by omega,by go_num,by first | rfl | (rw [hx];rfl) | simp,KN,aA,by first | exact I | (rw [<-hx] at I;exact I) | simpa using I⟩
      case measure=>simp [intOf];omega
   ·obtain rfl:k=N:=by omega
    have aM:¬ ((k:Int)<(k:Int)):=by omega
    have I:(X,k,f)=RR:=by rw [<-HG.out,List.drop_of_length_le (by rw [HN.out];exact Nat.le_refl _)];rfl
    subst I;clear HG;go_wp2_with fail;go_ret3;exact⟨_,rfl,K.og.less (by omega),K.bel⟩
end Bd22
namespace Bd23
open Go.ChangeShapes Go.WideShapes Go.ChangeAt Go.RowKit Base Ints Own Clone RelG PlP Bd1 Bd4 Bd5 Bd6 Bd7 Bd7S Bd8 Bd9 Bd11 RegInv RegF RegG Bd16 Bd17 Bd18 Bd19 Bd20 Bd21 Bd22
structure UsF (w1:World) (X:List Pl) (kv fv:Value) (p6 p7 p8 p11:Prop) (v6 v7 v8 v11:Value) (w':World):Prop where
 bel:Below w1.heap.size w1 w'
 f6:p6->∃ vv,v6=.tuple #[vv,kv,fv]∧OwnG RelP w' w1.heap.size w'.heap.size 228 3 enP vv X
 f7:p7->v7=v6
 f8:p8->OwnG RelP w' w1.heap.size w'.heap.size 228 3 enP v8 X
 f11:p11->v11=v8
section
variable {w1 w' w'':World} {X:List Pl} {kv fv:Value} {p6 p7 p8 p11:Prop} {v6 v7 v8 v11 v':Value}
theorem UsF.skip {L:Nat->Prop} {vals:Nat->Value} (F:UsF w1 X kv fv (L 6) (L 7) (L 8) (L 11) (vals 6) (vals 7) (vals 8) (vals 11) w') (k:Nat) (x:Value) (h6:6≠k:=by decide) (h7:7≠k:=by decide) (h8:8≠k:=by decide) (h11:11≠k:=by decide) :
  UsF w1 X kv fv (6=k∨L 6) (7=k∨L 7) (8=k∨L 8) (11=k∨L 11) (upd vals k x 6) (upd vals k x 7) (upd vals k x 8) (upd vals k x 11) w':=by
 rw [or_ne h6,or_ne h7,or_ne h8,or_ne h11,upd_ne h6,upd_ne h7,upd_ne h8,upd_ne h11];exact F
theorem UsF.s6 (F:UsF w1 X kv fv p6 p7 p8 p11 v6 v7 v8 v11 w') (n7:¬ p7) (n8:¬ p8) (n11:¬ p11) (hb:Below w'.heap.size w' w'') (ho:OwnG RelP w'' w'.heap.size w''.heap.size 228 3 enP v' X):UsF w1 X kv fv True p7 p8 p11 (.tuple #[v',kv,fv]) v7 v8 v11 w'' :=
 ⟨F.bel.trans (hb.mono F.bel.size),λ _=>⟨_,rfl,ho.less F.bel.size⟩,λ h=>absurd h n7,λ h=>absurd h n8,λ h=>absurd h n11⟩
theorem UsF.s7 (F:UsF w1 X kv fv p6 p7 p8 p11 v6 v7 v8 v11 w'):UsF w1 X kv fv p6 True p8 p11 v6 v6 v8 v11 w':=⟨F.bel,F.f6,λ _=>rfl,F.f8,F.f11⟩
theorem UsF.s8 (F:UsF w1 X kv fv p6 p7 p8 p11 v6 v7 v8 v11 w') (n11:¬ p11) (ho:OwnG RelP w' w1.heap.size w'.heap.size 228 3 enP v' X):UsF w1 X kv fv p6 p7 True p11 v6 v7 v' v11 w':=⟨F.bel,F.f6,F.f7,λ _=>ho,λ h=>absurd h n11⟩
theorem UsF.s11 (F:UsF w1 X kv fv p6 p7 p8 p11 v6 v7 v8 v11 w'):UsF w1 X kv fv p6 p7 p8 True v6 v7 v8 v8 w':=⟨F.bel,F.f6,F.f7,F.f8,λ _=>rfl⟩
end
structure Us (w wr:World) (v:Vr) (cs:List Value) (uo:Value) (os:List (List Int)):Prop where
 bel:Below w.heap.size w wr
 rv:RowB wr w.heap.size 23 (vL v)
 rb:RowB wr (w.heap.size+1) 46 cs
 or_:SlG RelI 1 en1 wr All uo os
theorem Us.below {w wr w':World} {v:Vr} {cs:List Value} {uo:Value} {os:List (List Int)} (h:Us w wr v cs uo os) (hb:Below wr.heap.size wr w'):Us w w' v cs uo os :=
 ⟨h.bel.trans (hb.mono h.bel.size),h.rv.below hb h.rv.lt,h.rb.below hb h.rb.lt,(relSl RelI 1 en1).keep h.or_ (.below hb)⟩
theorem lng_len {v:Vr} {b:Bd} (hb:Ok v b) {o:List Int} (ho:(∀ d ∈ o,1<=d∧d<=6)∧o.length<=4):(lngP v b o).2.1<=4:=by
 have:=(lng_ok (v:=v) o [([],b)] 0 true (λ d c=>(ho.1 d c).1) (by intro p a;simp at a;subst a;exact⟨hb,rfl⟩) (by simp)).2.2;unfold lngP;omega
theorem used_s (v:Vr) (b:Bd) (hb:Ok v b) (Ao At:Option Addr) (co ct:Nat) (x y:Int) (hx:1<=x∧x<=6) (hy:1<=y∧y<=6) (w:World) (ho:RdS w w.heap.size 1 enI Ao b.1) (ht:RdS w w.heap.size 1 enI At b.2) (hA:Ao=none->co=0) (hT:At=none->ct=0) :
  Calls Tryz.prog 152 #[.agg #[.int .i64 v.p,.int .i64 v.c,.int .i64 v.h,.int .i64 v.s],.agg #[.slice Ao b.1.length co,.slice At b.2.length ct],.agg #[.int .i64 x,.int .i64 y]] w λ e w'=>e=.returned (.int .i64 ((usedP v b (ordP x y):Nat):Int))∧Below w.heap.size w w':=by
 have CO:=kD (λ(f:World)=>orders_s x y f);obtain⟨E,Z⟩:∃ E,ordP x y=E:=⟨_,rfl⟩;have HD:=ord_dice hx hy;rw [Z] at HD CO ⊢;have al:=kD HD.1;have Y:=HD.2;have ap:=kD (λ o (h:o ∈ E)=>lng_len hb (HD.1 o h));obtain⟨n1,ad⟩:∃ n,b.1.length=n:=⟨_,rfl⟩;obtain⟨n2,ac⟩:∃ n,b.2.length=n:=⟨_,rfl⟩;have T:=kD (λ(f:World) (h:Below w.heap.size w f) (o:List Int) (ab:o ∈ E) (u:Value) (hu:SlV 1 enI f All u o)=>longest_s v b hb Ao At co ct o (al.out o ab).1 (al.out o ab).2 u f ((ho.below h (Nat.le_refl _)).more h.size) ((ht.below h (Nat.le_refl _)).more h.size) hA hT hu);rw [ad,ac] at T ⊢;obtain⟨N,hN⟩:∃ N,E.length=N:=⟨_,rfl⟩;have HN:=kD hN;rw [hN] at Y;obtain⟨RR,Q⟩:∃ r,usedP v b E=r:=⟨_,rfl⟩;rw [Q];have ao:=kD Q;clear hb ho ht hA hT Z HD ad ac hN hx hy Q;go_enter Tryz.func152,Tryz.ntmps152;go_upto_region 2 with fail;refine wp_gen (λ W'=>Below w.heap.size w W'∧RowB W' w.heap.size 23 (vL v)∧RowB W' (w.heap.size+1) 46 [.slice Ao n1 co,.slice At n2 ct]∧RowB W' (w.heap.size+2) 48 [.int .i64 x,.int .i64 y]) ⟨by go_grown,((RowB.new _ _ _).alloc _).alloc _,RowB.alloc (RowB.new' _ _ _ (by simp)) _,RowB.new' _ _ _ (by simp)⟩ ?_;rintro w1 ⟨P,rv,rb,rr⟩;obtain⟨r0,r1⟩:=rr.c2;have ae:=rr.lt;go_wp2_with fail;refine(CO.out w1).mono ?_;rintro e w2 ⟨uo,rfl,aa,J⟩;have K:Us w w2 v [.slice Ao n1 co,.slice At n2 ct] uo E:=⟨P.trans (J.mono P.size),rv.below J rv.lt,rb.below J rb.lt,(relSl RelI 1 en1).weak aa (λ _ _ _=>trivial)⟩;obtain⟨Ar,cr,aq,W,-⟩:=aa;rw [HN.out] at W;subst W;clear r0 r1 ae rb rr rv P J CO;have af:=K.rv.lt;go_wp2_with fail;go_loopw [7,9] (λ mv i wr=>∃(k t:Nat),k<=N∧i=.int .i64 (k:Int)∧mv=.int .i64 (t:Int)∧Us w wr v [.slice Ao n1 co,.slice At n2 ct] (.slice Ar N cr) E∧Hid (max t (usedP v b (E.drop k))=RR)) (λ _ i _=>N - (intOf i).toNat)
 case atStart=>exact⟨0,0,Nat.zero_le _,by first | rfl | trivial,by first | rfl | trivial,K,kD (by rw [<-ao.out];exact Nat.zero_max _)⟩
 case round =>
  obtain⟨k,t,hk,rfl,rfl,K,HG⟩:=hrel;clear af;have af:=K.rv.lt;have ae:=K.rb.lt;by_cases hlt:k<N
  ·obtain⟨A5,O,rs,e5,M,C,-⟩:=K.or_;simp only [Value.slice.injEq] at e5;obtain⟨rfl,-,rfl⟩:=e5;obtain⟨b5,V,r,rfl,-,ag,hr,H⟩:=M.at_ (i:=k) (by rw [C.1,HN.out];exact hlt);obtain⟨o,ho,an⟩:=C.at_ hr;have H:wr.cell? ⟨b5,V+k,none⟩=some r:=by have:=H 0 r rfl;simpa using this
   have ak:=kD (List.mem_of_getElem? ho);have aj:=kD an;have D:=HG.out;rw [drop_cons ho] at D;have q:=kD (λ(f:World) (h:Below wr.heap.size wr f)=>(Below.cell h (p:=⟨b5,V+k,none⟩) ag).trans H);have aw:(k:Int)<(N:Int):=by omega
   have ar:IntKind.i64.wrap ((k:Int)+1)=(k:Int)+1:=IntWalk.i64_in _ (by omega);have ah:=ap.out o ak.out;obtain⟨L,hL⟩:∃ l,lngP v b o=l:=⟨_,rfl⟩;have T:=kD (λ(f:World) (h:Below wr.heap.size wr f)=>T.out f (K.bel.trans (h.mono K.bel.size)) o ak.out r (RelI.keep aj.out (.below h)));rw [hL] at T ah;simp only [usedP,hL] at D;obtain⟨X,G,ff⟩:=L;simp only at T ah D;clear M C hr ho hL H ag aj;have R:=kD K.rv;have S:=kD K.rb;go_wp2_with fail;refine rG [some 22,some 23,some 24,some 25,some 26,some 27,some 28,some 21,some 29,some 30,some 31,some 10,some 11,some 12] 14 (Pl [some (.agg #[.int .i64 v.p,.int .i64 v.c,.int .i64 v.h,.int .i64 v.s]),some (.agg #[.slice Ao n1 co,.slice At n2 ct]),some (.slice (some ⟨b5,V,none⟩) N cr),some (.int .i64 (k:Int)),some (.pointer (some ⟨b5,V+k,none⟩)),some (r),none,none,none,some (.int .i64 (G:Int)),some (.bool ff),none,some (.int .i64 (G:Int)),some (.bool ff)]) (λ L a w'=>UsF wr X (.int .i64 (G:Int)) (.bool ff) (L 6) (L 7) (L 8) (L 11) (a 6) (a 7) (a 8) (a 11) w') ?g0_1 ?gst_1 ?gfin_1
   case g0_1=>exact⟨(Below.refl _ _).drew,λ h=>absurd h (by decide),λ h=>absurd h (by decide),λ h=>absurd h (by decide),λ h=>absurd h (by decide)⟩
   case gst_1 =>
    refine rN rfl (λ L a A f g d j U F K m=>?_) ?_
    ·have e3:=U.w 3 (.pointer (some ⟨w.heap.size,0,none⟩));obtain⟨q0,q1,q2,q3⟩:=(R.out.below F.bel R.out.lt).c4;obtain⟨z0,z1⟩:=(S.out.below F.bel S.out.lt).c2;have O:=q.out f F.bel
     skip
     go_simp;exact pF m (F.skip 0 _)
    refine rN rfl (λ L a A f g d j U F K m=>?_) ?_
    ·have e4:=U.w 4 (.pointer (some ⟨w.heap.size+1,0,none⟩));obtain⟨q0,q1,q2,q3⟩:=(R.out.below F.bel R.out.lt).c4;obtain⟨z0,z1⟩:=(S.out.below F.bel S.out.lt).c2;have O:=q.out f F.bel
     skip
     go_simp;exact pF m (F.skip 1 _)
    refine rN rfl (λ L a A f g d j U F K m=>?_) ?_
    ·have e8:=U.w 8 (.slice (some ⟨b5,V,none⟩) N cr);have O:=q.out f F.bel;go_simp;exact pF m (F.skip 2 _)
    refine rN rfl (λ L a A f g d j U F K m=>?_) ?_
    ·have e9:=U.w 9 (.int .i64 (k:Int));have O:=q.out f F.bel;go_simp;exact pF m (F.skip 3 _)
    refine rN rfl (λ L a A f g d j U F K m=>?_) ?_
    ·have aE:=U.v 2 24;have aD:=U.v 3 25;have O:=q.out f F.bel;go_simp;exact pF m (F.skip 4 _)
    refine rN rfl (λ L a A f g d j U F K m=>?_) ?_
    ·have aC:=U.v 4 26;obtain⟨q0,q1,q2,q3⟩:=(R.out.below F.bel R.out.lt).c4;obtain⟨z0,z1⟩:=(S.out.below F.bel S.out.lt).c2;have O:=q.out f F.bel
     skip
     go_simp;exact pF m (F.skip 5 _)
    refine rN rfl (λ L a A f g d j U F K m=>?_) ?_
    ·have aG:=U.v 0 22;have aF:=U.v 1 23;have aB:=U.v 5 27;go_simp;refine(T.out f F.bel).mono ?_;rintro e w6 ⟨vv,rfl,h3,am⟩;exact m.out _ w6 (Pl.any rfl) (by simpa [upd] using F.s6 (λ h=>g (j 7 6 (by kernel_rfl) h)) (λ h=>g (j 8 6 (by kernel_rfl) h)) (λ h=>g (j 11 6 (by kernel_rfl) h)) am h3)
    refine rN rfl (λ L a A f g d j U F K m=>?_) ?_
    ·have aA:=U.x 6 28;go_simp;exact m.out _ f (Pl.any rfl) (by simpa [upd] using F.s7)
    refine rN rfl (λ L a A f g d j U F K m=>?_) ?_
    ·have z:=U.x 7 21;have B:=F.f6 (bK d 6);refine B.elim λ vv B=>?_
     have em:=(z.trans (F.f7 (bK d 7))).trans B.1;clear z;go_simp;exact m.out _ f (Pl.any rfl) (by simpa [upd] using F.s8 (λ h=>g (j 11 8 (by kernel_rfl) h)) B.2)
    refine rN rfl (λ L a A f g d j U F K m=>?_) ?_
    ·have z:=U.x 7 21;have B:=F.f6 (bK d 6);refine B.elim λ vv B=>?_
     have em:=(z.trans (F.f7 (bK d 7))).trans B.1;clear z;go_simp;exact pF m (F.skip 9 _)
    refine rN rfl (λ L a A f g d j U F K m=>?_) ?_
    ·have z:=U.x 7 21;have B:=F.f6 (bK d 6);refine B.elim λ vv B=>?_
     have em:=(z.trans (F.f7 (bK d 7))).trans B.1;clear z;go_simp;exact pF m (F.skip 10 _)
    refine rN rfl (λ L a A f g d j U F K m=>?_) ?_
    ·have az:=U.x 8 29;go_simp;exact m.out _ f (Pl.any rfl) (by simpa [upd] using F.s11)
    refine rN rfl (λ L a A f g d j U F K m=>?_) ?_
    ·have ay:=U.v 9 30;have O:=q.out f F.bel;go_simp;exact pF m (F.skip 12 _)
    refine rN rfl (λ L a A f g d j U F K m=>?_) ?_
    ·have ax:=U.v 10 31;have O:=q.out f F.bel;go_simp;exact pF m (F.skip 13 _)
    exact RelFrom.nil (by decide)
   case gfin_1 =>
    intro a f hp F;simp only [Fr,Act.put,sX,Nat.reduceAdd];have I:=F.bel;have ai:a 12=.int .i64 (G:Int):=hp 12 (by decide) _ rfl;rw [ai];clear F hp ai;have K:=K.below I;have HS:Hid ((if t<G then (G:Int) else (t:Int))=((max t G:Nat):Int)):=kD (by split <;> omega);have HG:Hid (max (max t G) (usedP v b (E.drop (k+1)))=RR):=kD (by rw [<-D,Nat.max_assoc]);clear D I R S T q;go_wp2_with fail;go_roundw
    case rel=>exact⟨k+1,max t G,by omega,by go_num,by first | rw [HS.out] | (congr 1;omega),K,HG⟩
    case measure=>simp [intOf];omega
  ·obtain rfl:k=N:=by omega
   have av:¬ ((k:Int)<(k:Int)):=by omega
   obtain rfl:t=RR:=by rw [<-HG.out,List.drop_of_length_le (by rw [HN.out];exact Nat.le_refl _)];exact(Nat.max_zero _).symm
   have I:=K.bel;clear HG K;go_wp2_with fail;go_ret;exact⟨rfl,I⟩
end Bd23
namespace Bd24
open Go.ChangeShapes Go.WideShapes Go.ChangeAt Go.RowKit Base Ints Own Clone RelG PlP Bd1 Bd4 Bd5 Bd6 Bd7 Bd7S Bd8 Bd9 Bd11 RegInv RegF RegG Bd16 Bd17 Bd18 Bd19 Bd20 Bd21 Bd22 Bd23
structure As1 (w wr:World) (v:Vr) (cs:List Value) (vl:Value) (X:List Pl) (n m:Nat) (uo:Value) (os:List (List Int)):Prop where
 bel:Below w.heap.size w wr
 rv:RowB wr w.heap.size 23 (vL v)
 rb:RowB wr (w.heap.size+1) 46 cs
 ge:w.heap.size+3<=wr.heap.size
 og:OwnG RelP wr (w.heap.size+3) wr.heap.size 228 3 enP vl X
 co:Coll v n m X
 or_:SlG RelI 1 en1 wr (NotIn vl 0) uo os
structure As2 (w wr:World) (v:Vr) (cs:List Value) (vl:Value) (X:List Pl) (n m:Nat) (uo:Value) (os:List (List Int)) (lv:Value) (ps:List Pl):Prop where
 k1:As1 w wr v cs vl X n m uo os
 pl:SlG RelP 3 enP wr (NotIn vl (w.heap.size+3)) lv ps
section
variable {w wr w':World} {v:Vr} {cs:List Value} {vl:Value} {X:List Pl} {n m m':Nat} {uo lv:Value} {os:List (List Int)} {ps:List Pl}
theorem As1.below (h:As1 w wr v cs vl X n m uo os) (hb:Below wr.heap.size wr w'):As1 w w' v cs vl X n m uo os :=
 ⟨h.bel.trans (hb.mono h.bel.size),h.rv.below hb h.rv.lt,h.rb.below hb h.rb.lt,Nat.le_trans h.ge hb.size,(h.og.below_ hb).more hb.size,h.co,(relSl RelI 1 en1).keep h.or_ (.below hb)⟩
theorem As1.more (h:As1 w wr v cs vl X n m uo os) (hm:m<=m'):As1 w wr v cs vl X n m' uo os:=⟨h.bel,h.rv,h.rb,h.ge,h.og,h.co.more hm,h.or_⟩
theorem As2.below (h:As2 w wr v cs vl X n m uo os lv ps) (hb:Below wr.heap.size wr w'):As2 w w' v cs vl X n m uo os lv ps:=⟨h.k1.below hb,(relSl RelP 3 enP).keep h.pl (.below hb)⟩
end
theorem go_skip {v:Vr} {b:Bd} {u i:Nat} {o:List Int} {os:List (List Int)} {X L:List Pl} {f ff:Bool} {kk:Nat} (hL:lngP v b o=(L,kk,ff)) (h:kk≠u∨(u=1∧i=1∧0<X.length)):allGo v b u i (o :: os) X f=allGo v b u (i+1) os X (f && ff):=by
 simp only [allGo,hL];rw [if_pos h]
end Bd24
namespace TsN
open Go.ChangeShapes Go.WideShapes Go.ChangeAt Go.RowKit Base Ints RegInv
theorem tmod_nat (n m:Nat):Int.tmod (n:Int) (m:Int)=((n % m:Nat):Int):=by rw [Int.tmod_eq_emod_of_nonneg (by omega)];omega
theorem u8_in (x:Int) (h:0<=x∧x<256):IntKind.u8.wrap x=x:=by
 show x % 2 ^ 8=x
 omega
theorem conv1 (W:World) (b m:Nat) (t:ByteArray) (ht:t=⟨#[UInt8.ofNat m]⟩) (hm:m<256) (hR:RowB W b 5 [.int .u8 (m:Int)]):(convert 72 9 (.slice (some ⟨b,0,none⟩) 1 1)).run Tryz.prog W=.ok (.string t) W:=by
 subst ht;refine run_convert_bytes_back W 72 9 5 ⟨b,0,none⟩ 1 [UInt8.ofNat m] Tryz.underlying72 Tryz.underlying5 Tryz.underlying9 ?_;intro j c;have a:j=0:=by simpa using c
 subst a;have e:W.cell? ⟨b,0,none⟩=some (.int .u8 (m:Int)):=hR.cell 0;have d:(UInt8.ofNat m).toNat=m:=by simp;omega
 simpa [Addr.add,d] using e
theorem dd_len (n:Nat):(Lib.decDigits n).length<=n+1:=by
 induction n using Nat.strongRecOn with
 | _ n ih =>
 rw [Lib.decDigits];split
 ·simp
 ·have:=ih (n / 10) (by omega);rw [List.length_append];simp only [List.length_cons,List.length_nil];omega
theorem app_str (a b:List UInt8):((⟨a.toArray⟩:ByteArray)++(⟨b.toArray⟩:ByteArray))=⟨(a++b).toArray⟩:=by
 show ByteArray.append _ _=_
 simp [ByteArray.append]
structure NmF (w:World) (n q m c:Nat) (s t:ByteArray) (L:Nat->Prop) (v2 v10 v11 v12 v13 v14 v15 v16 v17 v18 v19:Value) (w':World):Prop where
 bel:Below w.heap.size w w'
 f0:L 0->v10=.int .i64 (n:Int)
 f1:L 1->v11=.int .i64 (q:Int)
 f2:L 2->v12=.string s
 f3:L 3->v13=.int .i64 (n:Int)
 f4:L 4->v14=.int .i64 (m:Int)
 f5:L 5->v15=.int .i64 (c:Int)
 f6:L 6->v16=.int .u8 (c:Int)
 f7:L 7->∃ bk,v17=.slice (some ⟨bk,0,none⟩) 1 1∧RowB w' bk 5 [.int .u8 (c:Int)]
 f8:L 8->v18=.string t
 f9:L 9->v19=.string (s++t)
 f10:L 10->v2=v19
theorem num (n:Nat):n<1000000000000000000->∀ w:World,
  Calls Tryz.prog 64 #[.int .i64 (n:Int)] w λ e w'=>e=.returned (.string ⟨(Lib.decDigits n).toArray⟩)∧Below w.heap.size w w':=by
 induction n using Nat.strongRecOn with
 | _ n IH =>
 intro hn w;by_cases h:n<10
 ·have T:decide ((n:Int)<10)=true:=decide_eq_true (by omega);rw [Lib.decDigits_one h];obtain⟨c,hc⟩:∃ c,48+n=c:=⟨_,rfl⟩;rw [hc];have X:c<256:=by omega
  have e0:(48:Int)+(n:Int)=(c:Int):=by omega
  obtain⟨t,E⟩:∃ t:ByteArray,t=⟨#[UInt8.ofNat c]⟩:=⟨_,rfl⟩;have qc:=conv1 (w.alloc (.cells #[.int .u8 (c:Int)] 5)) w.heap.size c t E X (RowB.new _ _ _);rw [show (⟨[UInt8.ofNat c].toArray⟩:ByteArray)=t from E.symm];clear hc E;go_enter Tryz.func64,Tryz.ntmps64;go_wp2_with fail;go_ret;exact⟨rfl,by go_grown⟩
 ·have T:decide ((n:Int)<10)=false:=decide_eq_false (by omega);have hd:Lib.decDigits n=Lib.decDigits (n / 10)++[UInt8.ofNat (48+n % 10)]:=by rw [Lib.decDigits,dif_neg h]
  rw [hd,<-app_str];clear hd;have hm:n % 10<10:=Nat.mod_lt _ (by decide);replace IH:=IH (n / 10) (by omega) (by omega);obtain⟨s,V⟩:∃ s:ByteArray,s=⟨(Lib.decDigits (n / 10)).toArray⟩:=⟨_,rfl⟩;obtain⟨t,E⟩:∃ t:ByteArray,t=⟨#[UInt8.ofNat (48+n % 10)]⟩:=⟨_,rfl⟩;rw [<-V] at IH ⊢;rw [show (⟨[UInt8.ofNat (48+n % 10)].toArray⟩:ByteArray)=t from E.symm];have HC:=kD (λ W b hR=>conv1 W b (48+n % 10) t E (by omega) hR);have aa:Hid (¬ 9223372036854775807<s.size+t.size):=by
   show ¬ _
   have T:s.size=(Lib.decDigits (n / 10)).length:=by rw [V];simp [ByteArray.size]
   have G:t.size=1:=by rw [E];rfl
   have:=dd_len (n / 10);omega
  have EQ:Hid (IntKind.i64.wrap ((n:Int) / 10)=((n / 10:Nat):Int)):=by show _=_;rw [IntWalk.i64_in _ (by omega)];omega
  have EM:Hid (((n:Int)).tmod 10=((n % 10:Nat):Int)):=tmod_nat n 10;have EC:Hid (IntKind.i64.wrap (48+((n % 10:Nat):Int))=((48+n % 10:Nat):Int)):=by show _=_;rw [IntWalk.i64_in _ (by omega)];omega
  have EU:Hid (IntKind.u8.wrap ((48+n % 10:Nat):Int)=((48+n % 10:Nat):Int)):=u8_in _ (by omega)
  generalize 48+n % 10=c at *
  generalize n % 10=m at *
  generalize n / 10=q at *
  clear V E hm;go_enter Tryz.func64,Tryz.ntmps64;go_wp2_with fail;refine region_inv (λ a0 L a w'=>∃ z v r p o l k j i g f:Value,a=(((((((((((a0.put (some 2) z).put (some 10) v).put (some 11) r).put (some 12) p).put (some 13) o).put (some 14) l).put (some 15) k).put (some 16) j).put (some 17) i).put (some 18) g).put (some 19) f)∧NmF w n q m c s t L z v r p o l k j i g f w') (by kernel_rfl) (by kernel_rfl) ?h0 ?hst ?fin
  case h0 =>
   exact⟨_,_,_,_,_,_,_,_,_,_,_,by simp only [Act.put,sX];exact rfl,⟨(Below.refl _ _).drew,λ h=>(h:False).elim,λ h=>(h:False).elim,λ h=>(h:False).elim,λ h=>(h:False).elim,λ h=>(h:False).elim,λ h=>(h:False).elim,λ h=>(h:False).elim,λ h=>(h:False).elim,λ h=>(h:False).elim,λ h=>(h:False).elim,λ h=>(h:False).elim⟩⟩
  case hst =>
   refine StepsFrom.cons rfl (λ L a w' C x d y K B=>?_) ?_
   ·obtain⟨z,v,r,p,o,l,k,j,i,g,f,A,F⟩:=C;subst A;simp only [Act.put,sX];go_simp;exact B.out _ _ ⟨z,_,r,p,o,l,k,j,i,g,f,by simp only [Act.put,sX],⟨F.bel,λ _=>rfl,λ h=>F.f1 (rL h),λ h=>F.f2 (rL h),λ h=>F.f3 (rL h),λ h=>F.f4 (rL h),λ h=>F.f5 (rL h),λ h=>F.f6 (rL h),λ h=>F.f7 (rL h),λ h=>F.f8 (rL h),λ h=>F.f9 (rL h),λ h=>F.f10 (rL h)⟩⟩
   refine StepsFrom.cons rfl (λ L a w' C x d y K B=>?_) ?_
   ·obtain⟨z,v,r,p,o,l,k,j,i,g,f,A,F⟩:=C;have R:=F.f0 (bK d 0);have Z:=EQ.out;subst A;simp only [Act.put,sX,R];go_simp;exact B.out _ _ ⟨z,v,_,p,o,l,k,j,i,g,f,by simp only [Act.put,sX,R],⟨F.bel,λ h=>F.f0 (rL h),λ _=>rfl,λ h=>F.f2 (rL h),λ h=>F.f3 (rL h),λ h=>F.f4 (rL h),λ h=>F.f5 (rL h),λ h=>F.f6 (rL h),λ h=>F.f7 (rL h),λ h=>F.f8 (rL h),λ h=>F.f9 (rL h),λ h=>F.f10 (rL h)⟩⟩
   refine StepsFrom.cons rfl (λ L a w' C x d y K B=>?_) ?_
   ·obtain⟨z,v,r,p,o,l,k,j,i,g,f,A,F⟩:=C;have Q:=F.f1 (bK d 1);subst A;simp only [Act.put,sX,Q];go_simp;refine(IH w').mono ?_;rintro e w2 ⟨rfl,S⟩;exact B.out _ _ ⟨z,v,r,_,o,l,k,j,i,g,f,by simp only [Act.put,sX,Q],⟨F.bel.trans (S.mono F.bel.size),λ h=>F.f0 (rL h),λ h=>F.f1 (rL h),λ _=>rfl,λ h=>F.f3 (rL h),λ h=>F.f4 (rL h),λ h=>F.f5 (rL h),λ h=>F.f6 (rL h),λ h=>by obtain⟨bk,T,G⟩:=F.f7 (rL h);exact⟨bk,T,G.below S G.lt⟩,λ h=>F.f8 (rL h),λ h=>F.f9 (rL h),λ h=>F.f10 (rL h)⟩⟩
   refine StepsFrom.cons rfl (λ L a w' C x d y K B=>?_) ?_
   ·obtain⟨z,v,r,p,o,l,k,j,i,g,f,A,F⟩:=C;subst A;simp only [Act.put,sX];go_simp;exact B.out _ _ ⟨z,v,r,p,_,l,k,j,i,g,f,by simp only [Act.put,sX],⟨F.bel,λ h=>F.f0 (rL h),λ h=>F.f1 (rL h),λ h=>F.f2 (rL h),λ _=>rfl,λ h=>F.f4 (rL h),λ h=>F.f5 (rL h),λ h=>F.f6 (rL h),λ h=>F.f7 (rL h),λ h=>F.f8 (rL h),λ h=>F.f9 (rL h),λ h=>F.f10 (rL h)⟩⟩
   refine StepsFrom.cons rfl (λ L a w' C x d y K B=>?_) ?_
   ·obtain⟨z,v,r,p,o,l,k,j,i,g,f,A,F⟩:=C;have O:=F.f3 (bK d 3);have Z:=EM.out;subst A;simp only [Act.put,sX,O];go_simp;exact B.out _ _ ⟨z,v,r,p,o,_,k,j,i,g,f,by simp only [Act.put,sX,O],⟨F.bel,λ h=>F.f0 (rL h),λ h=>F.f1 (rL h),λ h=>F.f2 (rL h),λ h=>F.f3 (rL h),λ _=>rfl,λ h=>F.f5 (rL h),λ h=>F.f6 (rL h),λ h=>F.f7 (rL h),λ h=>F.f8 (rL h),λ h=>F.f9 (rL h),λ h=>F.f10 (rL h)⟩⟩
   refine StepsFrom.cons rfl (λ L a w' C x d y K B=>?_) ?_
   ·obtain⟨z,v,r,p,o,l,k,j,i,g,f,A,F⟩:=C;have N:=F.f4 (bK d 4);have Z:=EC.out;subst A;simp only [Act.put,sX,N];go_simp;exact B.out _ _ ⟨z,v,r,p,o,l,_,j,i,g,f,by simp only [Act.put,sX,N],⟨F.bel,λ h=>F.f0 (rL h),λ h=>F.f1 (rL h),λ h=>F.f2 (rL h),λ h=>F.f3 (rL h),λ h=>F.f4 (rL h),λ _=>rfl,λ h=>F.f6 (rL h),λ h=>F.f7 (rL h),λ h=>F.f8 (rL h),λ h=>F.f9 (rL h),λ h=>F.f10 (rL h)⟩⟩
   refine StepsFrom.cons rfl (λ L a w' C x d y K B=>?_) ?_
   ·obtain⟨z,v,r,p,o,l,k,j,i,g,f,A,F⟩:=C;have M:=F.f5 (bK d 5);have Z:=EU.out;subst A;simp only [Act.put,sX,M];go_simp;exact B.out _ _ ⟨z,v,r,p,o,l,k,_,i,g,f,by simp only [Act.put,sX,M],⟨F.bel,λ h=>F.f0 (rL h),λ h=>F.f1 (rL h),λ h=>F.f2 (rL h),λ h=>F.f3 (rL h),λ h=>F.f4 (rL h),λ h=>F.f5 (rL h),λ _=>rfl,λ h=>F.f7 (rL h),λ h=>F.f8 (rL h),λ h=>F.f9 (rL h),λ h=>F.f10 (rL h)⟩⟩
   refine StepsFrom.cons rfl (λ L a w' C x d y K B=>?_) ?_
   ·obtain⟨z,v,r,p,o,l,k,j,i,g,f,A,F⟩:=C;have J:=F.f6 (bK d 6);subst A;simp only [Act.put,sX,J];go_simp;exact B.out _ _ ⟨z,v,r,p,o,l,k,j,.slice (some ⟨w'.heap.size,0,none⟩) 1 1,g,f,by simp only [Act.put,sX,J],⟨F.bel.alloc F.bel.size _,λ h=>F.f0 (rL h),λ h=>F.f1 (rL h),λ h=>F.f2 (rL h),λ h=>F.f3 (rL h),λ h=>F.f4 (rL h),λ h=>F.f5 (rL h),λ h=>F.f6 (rL h),λ _=>⟨_,rfl,RowB.new _ _ _⟩,λ h=>absurd (y 8 7 (by kernel_rfl) (rL h)) x,λ h=>F.f9 (rL h),λ h=>F.f10 (rL h)⟩⟩
   refine StepsFrom.cons rfl (λ L a w' C x d y K B=>?_) ?_
   ·obtain⟨z,v,r,p,o,l,k,j,i,g,f,A,F⟩:=C;obtain⟨bk,I,G⟩:=F.f7 (bK d 7);have qc:=HC.out w' bk G;subst A;simp only [Act.put,sX,I];go_simp;exact B.out _ _ ⟨z,v,r,p,o,l,k,j,i,_,f,by simp only [Act.put,sX,I],⟨F.bel,λ h=>F.f0 (rL h),λ h=>F.f1 (rL h),λ h=>F.f2 (rL h),λ h=>F.f3 (rL h),λ h=>F.f4 (rL h),λ h=>F.f5 (rL h),λ h=>F.f6 (rL h),λ h=>F.f7 (rL h),λ _=>rfl,λ h=>F.f9 (rL h),λ h=>F.f10 (rL h)⟩⟩
   refine StepsFrom.cons rfl (λ L a w' C x d y K B=>?_) ?_
   ·obtain⟨z,v,r,p,o,l,k,j,i,g,f,A,F⟩:=C;have P:=F.f2 (bK d 2);have H:=F.f8 (bK d 8);have ab:=aa.out;subst A;simp only [Act.put,sX,P,H];go_simp;exact B.out _ _ ⟨z,v,r,p,o,l,k,j,i,g,_,by simp only [Act.put,sX,P,H],⟨F.bel,λ h=>F.f0 (rL h),λ h=>F.f1 (rL h),λ h=>F.f2 (rL h),λ h=>F.f3 (rL h),λ h=>F.f4 (rL h),λ h=>F.f5 (rL h),λ h=>F.f6 (rL h),λ h=>F.f7 (rL h),λ h=>F.f8 (rL h),λ _=>rfl,λ h=>absurd (y 10 9 (by kernel_rfl) (rL h)) x⟩⟩
   refine StepsFrom.cons rfl (λ L a w' C x d y K B=>?_) ?_
   ·obtain⟨z,v,r,p,o,l,k,j,i,g,f,A,F⟩:=C;have D:=F.f9 (bK d 9);subst A;simp only [Act.put,sX,D];go_simp;exact B.out _ _ ⟨.string (s++t),v,r,p,o,l,k,j,i,g,f,by simp only [Act.put,sX,D],⟨F.bel,λ h=>F.f0 (rL h),λ h=>F.f1 (rL h),λ h=>F.f2 (rL h),λ h=>F.f3 (rL h),λ h=>F.f4 (rL h),λ h=>F.f5 (rL h),λ h=>F.f6 (rL h),λ h=>F.f7 (rL h),λ h=>F.f8 (rL h),λ h=>F.f9 (rL h),λ _=>D.symm⟩⟩
   exact StepsFrom.nil (by decide)
  case fin =>
   rintro L a' w9 ⟨z,v,r,p,o,l,k,j,i,g,f,rfl,F⟩ Y;have e2:=F.f10 (Y 10 (by decide));have D:=F.f9 (Y 9 (by decide));have S:=F.bel;clear F Y;subst e2 D;simp only [Act.put,sX];go_wp2_with fail;go_ret;exact⟨rfl,S⟩
end TsN
namespace TxP
open Go
abbrev By:=List UInt8
def dg (d:Nat):UInt8:=UInt8.ofNat (48+d)
theorem ito_cases {n:Int} (h0:0<=n) (h1:n<100):(n<10∧Lib.itoa n=[dg n.toNat])∨(10<=n∧Lib.itoa n=[dg (n.toNat / 10),dg (n.toNat % 10)]):=by
 have e:Lib.itoa n=Lib.decDigits n.toNat:=by unfold Lib.itoa;rw [if_neg (by omega)]
 rw [e];by_cases h:n<10
 ·exact .inl ⟨h,Lib.decDigits_one (by omega)⟩
 ·exact .inr ⟨by omega,Lib.decDigits_two (by omega) (by omega)⟩
theorem ito_len {n:Int} (h0:0<=n) (h1:n<100):1<=(Lib.itoa n).length∧(Lib.itoa n).length<=2:=by
 rcases ito_cases h0 h1 with ⟨_,e⟩ | ⟨_,e⟩ <;> rw [e] <;> simp
theorem ito_one {n:Int} (h0:0<=n) (h1:n<10):Lib.itoa n=[dg n.toNat]:=by
 rcases ito_cases h0 (by omega) with ⟨_,e⟩ | ⟨h,e⟩
 ·exact e
 ·omega
def spl (c:UInt8):By->List By
 | []=>[[]]
 | x :: l=>if x=c then [] :: spl c l else match spl c l with
  | p :: ps=>(x :: p) :: ps
  | []=>[[x]]
open PlP
def plainB (v:Vr) (s:Stp):Bool :=
 decide (0<=s.1∧s.1<=v.p) && decide (1<=s.2.2.1∧s.2.2.1<=v.s) &&
 (if s.2.1=-1 then !s.2.2.2 && decide (s.1<v.p∧s.1<s.2.2.1) else decide (0<=s.2.1∧s.2.1=s.1 - s.2.2.1))
def fromT (v:Vr) (f:Int):By:=if f<v.p then Lib.itoa (f+1) else [98,97,114]
def stpT (v:Vr) (s:Stp):By :=
 fromT v s.1++[47]++(if 0<=s.2.1 then Lib.itoa (s.2.1+1)++(if s.2.2.2 then [42] else []) else [111,102,102]++(if s.2.2.1=s.1+1 then [] else [40]++Lib.itoa s.2.2.1++[41]))
theorem plain_parts {v:Vr} {s:Stp} (h:plainB v s=true):(0<=s.1∧s.1<=v.p)∧(1<=s.2.2.1∧s.2.2.1<=v.s)∧((s.2.1=-1∧s.2.2.2=false∧s.1<v.p∧s.1<s.2.2.1)∨(0<=s.2.1∧s.2.1=s.1 - s.2.2.1)):=by
 unfold plainB at h;simp only [Bool.and_eq_true,decide_eq_true_eq] at h;obtain⟨⟨c,b⟩,a⟩:=h;refine⟨c,b,?_⟩;split at a
 ·rename_i h4
  simp only [Bool.and_eq_true,decide_eq_true_eq,Bool.not_eq_true'] at a;exact .inl ⟨h4,a.1,a.2⟩
 ·exact .inr (by simpa using a)
theorem step_len {v:Vr} (hv:okV v=true) {s:Stp} (h:plainB v s=true):3<=(stpT v s).length∧(stpT v s).length<=11:=by
 obtain⟨f,t,d,a⟩:=s;obtain⟨e,c,b⟩:=plain_parts h;simp only at e c b;have i:=okV_iff.1 hv;have j:1<=(fromT v f).length∧(fromT v f).length<=3:=by
  unfold fromT;split
  ·have:=ito_len (n:=f+1) (by omega) (by omega);omega
  ·simp
 have k:=ito_len (n:=d) (by omega) (by omega);unfold stpT;simp only [List.length_append,List.length_cons,List.length_nil];split
 ·have g:=ito_len (n:=t+1) (by omega) (by omega);simp only [List.length_append];split <;> simp <;> omega
 ·split <;> simp <;> omega
end TxP
end Go.Proofs.YtblipmifflfnoaaGreatDoor
