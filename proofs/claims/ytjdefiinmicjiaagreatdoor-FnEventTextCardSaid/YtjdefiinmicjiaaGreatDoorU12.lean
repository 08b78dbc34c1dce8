/- Parts of the proof of FnEventText. Conditions: each theorem's own. -/
import Derived.Test.YtjdefiinmicjiaaGreatDoorU11
set_option linter.unusedVariables false
set_option linter.unusedSimpArgs false
set_option maxHeartbeats 8000000
set_option maxRecDepth 100000
namespace Go.Proofs.YtjdefiinmicjiaaGreatDoor
namespace Bd22
open Go.ChangeShapes Go.WideShapes Go.ChangeAt Go.RowKit Base Ints Own Clone RelG PlP Bd1 Bd4 Bd5 Bd6 Bd7 Bd7S Bd8 Bd9 Bd11 RegInv RegF RegG Bd16 Bd17 Bd18 Bd19 Bd20 Bd21
theorem lng_zero_ {v:Vr} {d:Int} {ds:List Int} {ps:List Pl} {k:Nat} {f:Bool} (h:(nextP v d ps).length=0):lngGo v (d :: ds) ps k f=(ps,k,f && decide ((nextP v d ps).length<=3000)):=by
 simp only [lngGo];rw [if_pos h]
theorem lng_more_ {v:Vr} {d:Int} {ds:List Int} {ps:List Pl} {k:Nat} {f:Bool} (h:¬ (nextP v d ps).length=0):lngGo v (d :: ds) ps k f=lngGo v ds (nextP v d ps) (k+1) (f && decide ((nextP v d ps).length<=3000)):=by
 simp only [lngGo];rw [if_neg h]
theorem one_play' {W:World} {b:Bd} {g1 lo:Nat} {u0 u1 u2:Value} (h1:RowB W g1 98 [u0,u1,u2]) (l1:lo<=g1) (k0:OwnV 111 4 enSt W (λ x=>lo<=x∧x≠g1) u0 [])
  (k1:OwnV 2 1 enI W (λ x=>lo<=x∧x≠g1) u1 b.1) (k2:OwnV 2 1 enI W (λ x=>lo<=x∧x≠g1) u2 b.2):OwnG RelP W lo W.heap.size 98 3 enP (.slice (some ⟨g1,0,none⟩) 1 1) [([],b)]:=by
 have c:∀ x,(lo<=x∧x≠g1)->NotIn (.slice (some ⟨g1,0,none⟩) 1 1) lo x:=λ x a=>⟨λ e=>a.2 (by simp [Value.ownBlock] at e;exact e.symm),a.1⟩
 refine⟨[((u0,u1,u2):PRow)],RowB.own (xs:=[((u0,u1,u2):PRow)]) h1 enP_len l1 h1.lt (show 1<=maxLen by decide),LsR.snoc (LsR.nil _ _ _) ?_⟩;exact RelP.weak (S:=λ x=>lo<=x∧x≠g1) ⟨k0,k1.sl enI_len,k2.sl enI_len⟩ (λ x a _=>c x a)
structure LgF (w1:World) (b:Bd) (n:Nat) (p0 p3 p6 p7 p8 p9 p10:Prop) (v0 v3 v6 v7 v8 v9 v10:Value) (w':World):Prop where
 bel:Below w1.heap.size w1 w'
 f0:p0->OwnV 111 4 enSt w' (λ x=>w1.heap.size<=x) v0 []
 f3:p3->OwnV 2 1 enI w' (λ x=>w1.heap.size<=x) v3 b.1
 f6:p6->OwnV 2 1 enI w' (λ x=>w1.heap.size<=x) v6 b.2
 f7:p7->v7=.agg #[v3,v6]
 f8:p8->v8=.agg #[v0,v3,v6]
 f9:p9->∃ g,v9=.slice (some ⟨g,0,none⟩) 1 1∧OwnG RelP w' w1.heap.size w'.heap.size 98 3 enP v9 [([],b)]
 f10:p10->v10=v9
section
variable {w1 w' w'':World} {b:Bd} {n:Nat} {p0 p3 p6 p7 p8 p9 p10:Prop} {v0 v3 v6 v7 v8 v9 v10 v':Value}
theorem LgF.skip {L:Nat->Prop} {vals:Nat->Value} (F:LgF w1 b n (L 0) (L 3) (L 6) (L 7) (L 8) (L 9) (L 10) (vals 0) (vals 3) (vals 6) (vals 7) (vals 8) (vals 9) (vals 10) w') (k:Nat) (x:Value) (h0:0≠k:=by decide) (h3:3≠k:=by decide) (h6:6≠k:=by decide) (h7:7≠k:=by decide) (h8:8≠k:=by decide) (h9:9≠k:=by decide) (h10:10≠k:=by decide) :
  LgF w1 b n (0=k∨L 0) (3=k∨L 3) (6=k∨L 6) (7=k∨L 7) (8=k∨L 8) (9=k∨L 9) (10=k∨L 10) (upd vals k x 0) (upd vals k x 3) (upd vals k x 6) (upd vals k x 7) (upd vals k x 8) (upd vals k x 9) (upd vals k x 10) w':=by
 rw [or_ne h0,or_ne h3,or_ne h6,or_ne h7,or_ne h8,or_ne h9,or_ne h10,upd_ne h0,upd_ne h3,upd_ne h6,upd_ne h7,upd_ne h8,upd_ne h9,upd_ne h10];exact F
theorem LgF.below (F:LgF w1 b n p0 p3 p6 p7 p8 p9 p10 v0 v3 v6 v7 v8 v9 v10 w') (hb:Below w'.heap.size w' w''):LgF w1 b n p0 p3 p6 p7 p8 p9 p10 v0 v3 v6 v7 v8 v9 v10 w'' :=
 ⟨F.bel.trans (hb.mono F.bel.size),λ h=>(F.f0 h).keep (.below hb),λ h=>(F.f3 h).keep (.below hb),λ h=>(F.f6 h).keep (.below hb),F.f7,F.f8,λ h=>by obtain⟨g,e,ho⟩:=F.f9 h;exact⟨g,e,(ho.below_ hb).more hb.size⟩,F.f10⟩
theorem LgF.s0 (F:LgF w1 b n p0 p3 p6 p7 p8 p9 p10 v0 v3 v6 v7 v8 v9 v10 w') (n8:¬ p8):LgF w1 b n True p3 p6 p7 p8 p9 p10 (.slice (some ⟨w'.heap.size,0,none⟩) 0 0) v3 v6 v7 v8 v9 v10 (w'.alloc (.cells ⟨[]⟩ 111)):=by
 have G:=F.below (w'':=w'.alloc (.cells ⟨[]⟩ 111)) ((Below.refl _ _).alloc (Nat.le_refl _) _);exact⟨G.bel,λ _=>OwnV.of (RowB.own (xs:=([]:List Stp)) (RowB.new w' 111 []) enSt_len F.bel.size (by simp) (by decide)) (Nat.le_refl _) (λ x a _=>a),G.f3,G.f6,G.f7,λ h=>absurd h n8,G.f9,G.f10⟩
theorem LgF.s3 (F:LgF w1 b n p0 p3 p6 p7 p8 p9 p10 v0 v3 v6 v7 v8 v9 v10 w') (n7:¬ p7) (n8:¬ p8) (hb:Below w'.heap.size w' w'') (ho:OwnS w'' w'.heap.size w''.heap.size 2 1 enI v' b.1):LgF w1 b n p0 True p6 p7 p8 p9 p10 v0 v' v6 v7 v8 v9 v10 w'':=by
 have G:=F.below hb;exact⟨G.bel,G.f0,λ _=>OwnV.of ho (Nat.le_refl _) (λ x a _=>Nat.le_trans F.bel.size a),G.f6,λ h=>absurd h n7,λ h=>absurd h n8,G.f9,G.f10⟩
theorem LgF.s6 (F:LgF w1 b n p0 p3 p6 p7 p8 p9 p10 v0 v3 v6 v7 v8 v9 v10 w') (n7:¬ p7) (n8:¬ p8) (hb:Below w'.heap.size w' w'') (ho:OwnS w'' w'.heap.size w''.heap.size 2 1 enI v' b.2):LgF w1 b n p0 p3 True p7 p8 p9 p10 v0 v3 v' v7 v8 v9 v10 w'':=by
 have G:=F.below hb;exact⟨G.bel,G.f0,G.f3,λ _=>OwnV.of ho (Nat.le_refl _) (λ x a _=>Nat.le_trans F.bel.size a),λ h=>absurd h n7,λ h=>absurd h n8,G.f9,G.f10⟩
theorem LgF.s7 (F:LgF w1 b n p0 p3 p6 p7 p8 p9 p10 v0 v3 v6 v7 v8 v9 v10 w'):LgF w1 b n p0 p3 p6 True p8 p9 p10 v0 v3 v6 (.agg #[v3,v6]) v8 v9 v10 w' :=
 ⟨F.bel,F.f0,F.f3,F.f6,λ _=>rfl,F.f8,F.f9,F.f10⟩
theorem LgF.s8 (F:LgF w1 b n p0 p3 p6 p7 p8 p9 p10 v0 v3 v6 v7 v8 v9 v10 w'):LgF w1 b n p0 p3 p6 p7 True p9 p10 v0 v3 v6 v7 (.agg #[v0,v3,v6]) v9 v10 w' :=
 ⟨F.bel,F.f0,F.f3,F.f6,F.f7,λ _=>rfl,F.f9,F.f10⟩
theorem LgF.s9 (F:LgF w1 b n p0 p3 p6 p7 p8 p9 p10 v0 v3 v6 v7 v8 v9 v10 w') (y0:p0) (y3:p3) (y6:p6) (n10:¬ p10):LgF w1 b n p0 p3 p6 p7 p8 True p10 v0 v3 v6 v7 v8 (.slice (some ⟨w'.heap.size,0,none⟩) 1 1) v10 (w'.alloc (.cells ⟨[v0,v3,v6]⟩ 98)):=by
 have c:Below w'.heap.size w' (w'.alloc (.cells ⟨[v0,v3,v6]⟩ 98)):=(Below.refl _ _).alloc (Nat.le_refl _) _;have G:=F.below c;have a:∀ {α:Type} {e:TypeId} {sz:Nat} {en:α->List Value} {u:Value} {xs:List α},OwnV e sz en w' (λ x=>w1.heap.size<=x) u xs->OwnV e sz en (w'.alloc (.cells ⟨[v0,v3,v6]⟩ 98)) (λ x=>w1.heap.size<=x∧x≠w'.heap.size) u xs:=λ h =>
  ((relO _ _ _).weak h (λ x f d=>⟨f,by omega⟩):OwnV _ _ _ w' (λ x=>w1.heap.size<=x∧x≠w'.heap.size) _ _).keep (.below c)
 exact⟨G.bel,G.f0,G.f3,G.f6,G.f7,G.f8,λ _=>⟨_,rfl,one_play' (RowB.new _ _ _) F.bel.size (a (F.f0 y0)) (a (F.f3 y3)) (a (F.f6 y6))⟩,λ h=>absurd h n10⟩
theorem LgF.s10 (F:LgF w1 b n p0 p3 p6 p7 p8 p9 p10 v0 v3 v6 v7 v8 v9 v10 w'):LgF w1 b n p0 p3 p6 p7 p8 p9 True v0 v3 v6 v7 v8 v9 v9 w' :=
 ⟨F.bel,F.f0,F.f3,F.f6,F.f7,F.f8,F.f9,λ _=>rfl⟩
end
structure Lg (w wr:World) (v:Vr) (vl:Value) (X:List Pl):Prop where
 bel:Below w.heap.size w wr
 rv:RowB wr w.heap.size 25 (vL v)
 og:OwnG RelP wr (w.heap.size+2) wr.heap.size 98 3 enP vl X
 ge:w.heap.size+2<=wr.heap.size
theorem Lg.below {w wr w':World} {v:Vr} {vl:Value} {X:List Pl} (h:Lg w wr v vl X) (hb:Below wr.heap.size wr w'):Lg w w' v vl X :=
 ⟨h.bel.trans (hb.mono h.bel.size),h.rv.below hb h.rv.lt,(h.og.below_ hb).more hb.size,Nat.le_trans h.ge hb.size⟩
theorem longest_s (v:Vr) (b:Bd) (hb:Ok v b) (Ao At:Option Addr) (co ct:Nat) (ds:List Int) (hds:∀ d ∈ ds,1<=d∧d<=6) (hlen:ds.length<=4) (u:Value) (w:World) (ho:RdS w w.heap.size 1 enI Ao b.1) (ht:RdS w w.heap.size 1 enI At b.2) (hA:Ao=none->co=0) (hT:At=none->ct=0) (hu:SlV 1 enI w All u ds) :
  Calls Tryz.prog 108 #[.agg #[.int .i64 v.p,.int .i64 v.c,.int .i64 v.h,.int .i64 v.s],.agg #[.slice Ao b.1.length co,.slice At b.2.length ct],u] w λ e w'=>∃ vv,e=.returned (.tuple #[vv,.int .i64 (((lngP v b ds).2.1:Nat):Int),.bool (lngP v b ds).2.2])∧OwnG RelP w' w.heap.size w'.heap.size 98 3 enP vv (lngP v b ds).1∧Below w.heap.size w w':=by
 have hv:=hb.v1;have ac:okV v=true:=okV_iff.2 hv;obtain⟨P,hP⟩:∃ P:Nat,v.p=(P:Int):=⟨v.p.toNat,by omega⟩;have HP:=kD hP;have aF:P<=24:=by omega
 obtain⟨n,hn⟩:∃ n,P+1=n:=⟨_,rfl⟩;have Z:b.1.length=n:=by have:=hb.own.len;omega
 have Y:b.2.length=n:=by have:=hb.oth.len;omega
 have C1:=kD (λ(o:World) (h:Below w.heap.size w o)=>own02 Ao co w.heap.size b.1 o h.size (ho.below h (Nat.le_refl _)) hA (by omega));have C2:=kD (λ(o:World) (h:Below w.heap.size w o)=>own02 At ct w.heap.size b.2 o h.size (ht.below h (Nat.le_refl _)) hT (by omega));rw [Z] at C1 ⊢;rw [Y] at C2 ⊢;have aC:=kD Z;have aB:=kD Y;have HB:=kD hb;obtain⟨Au,cu,rfl,af,-⟩:=hu;obtain⟨N,hN⟩:∃ N,ds.length=N:=⟨_,rfl⟩;have HN:=kD hN;rw [hN] at hlen ⊢;have ay:=kD af;have aE:=kD (λ i (h:i<N)=>hds _ (List.mem_of_getElem? (at_get (l:=ds) (i:=i) (by rw [hN];exact h))));have aD:=kD (λ(o:World) (i:Nat) (hi:i<=3) (xs:List Pl) (ao:RowOk v i xs) (ap:xs.length<=25 ^ i) (d:Int) (hd:1<=d∧d<=6) (uu:Value) (S0:Nat->Prop) (hu:SlG RelP 3 enP o S0 uu xs)=>next_s v ac i (by omega) xs ao (Nat.le_trans ap (pow_le hi)) d hd uu S0 o hu);obtain⟨RR,W⟩:∃ r,lngP v b ds=r:=⟨_,rfl⟩;rw [W];have az:=kD W;clear hb hv ac hP Z Y ho ht hA hT hN af hds W;go_enter Tryz.func108,Tryz.ntmps108;go_upto_region 1 with fail;refine wp_gen (λ W'=>Below w.heap.size w W'∧RowB W' w.heap.size 25 (vL v)∧RowB W' (w.heap.size+1) 51 [.slice Ao n co,.slice At n ct]) ⟨by go_grown,(RowB.new _ _ _).alloc _,RowB.new' _ _ _ (by simp)⟩ ?_;rintro w1 ⟨y,rv,D⟩;have ar:=D.lt;refine rG [some 13,some 14,some 15,some 16,some 17,some 18,some 19,some 20,some 21,some 22,some 9] 11 (Pl [none,some (.pointer (some ⟨w.heap.size+1,0,none⟩)),some (.slice Ao n co),none,some (.pointer (some ⟨w.heap.size+1,1,none⟩)),some (.slice At n ct),none,none,none,none,none]) (λ L a w'=>LgF w1 b n (L 0) (L 3) (L 6) (L 7) (L 8) (L 9) (L 10) (a 0) (a 3) (a 6) (a 7) (a 8) (a 9) (a 10) w') ?g0_1 ?gst_1 ?gfin_1
 case g0_1=>exact⟨(Below.refl _ _).drew,λ h=>absurd h (by decide),λ h=>absurd h (by decide),λ h=>absurd h (by decide),λ h=>absurd h (by decide),λ h=>absurd h (by decide),λ h=>absurd h (by decide),λ h=>absurd h (by decide)⟩
 case gst_1 =>
  refine rN rfl (λ L a A o j g m U F K t=>?_) ?_
  ·go_simp;exact t.out _ _ (Pl.any rfl) (by simpa [upd] using F.s0 (λ h=>j (m 8 0 (by kernel_rfl) h)))
  refine rN rfl (λ L a A o j g m U F K t=>?_) ?_
  ·have e4:=U.w 4 (.pointer (some ⟨w.heap.size+1,0,none⟩));obtain⟨z0,z1⟩:=(D.below F.bel D.lt).c2;go_simp;exact pF t (F.skip 1 _)
  refine rN rfl (λ L a A o j g m U F K t=>?_) ?_
  ·have aS:=U.v 1 14;obtain⟨z0,z1⟩:=(D.below F.bel D.lt).c2;go_simp;exact pF t (F.skip 2 _)
  refine rN rfl (λ L a A o j g m U F K t=>?_) ?_
  ·have aR:=U.v 2 15;go_simp;refine(C1.out o (y.trans (F.bel.mono y.size))).mono ?_;rintro e w6 ⟨⟨v',rfl,H⟩,V⟩;exact t.out _ w6 (Pl.any rfl) (by simpa [upd] using F.s3 (λ h=>j (m 7 3 (by kernel_rfl) h)) (λ h=>j (m 8 3 (by kernel_rfl) h)) V H)
  refine rN rfl (λ L a A o j g m U F K t=>?_) ?_
  ·have e4:=U.w 4 (.pointer (some ⟨w.heap.size+1,0,none⟩));obtain⟨z0,z1⟩:=(D.below F.bel D.lt).c2;go_simp;exact pF t (F.skip 4 _)
  refine rN rfl (λ L a A o j g m U F K t=>?_) ?_
  ·have aQ:=U.v 4 17;obtain⟨z0,z1⟩:=(D.below F.bel D.lt).c2;go_simp;exact pF t (F.skip 5 _)
  refine rN rfl (λ L a A o j g m U F K t=>?_) ?_
  ·have aP:=U.v 5 18;go_simp;refine(C2.out o (y.trans (F.bel.mono y.size))).mono ?_;rintro e w6 ⟨⟨v',rfl,H⟩,V⟩;exact t.out _ w6 (Pl.any rfl) (by simpa [upd] using F.s6 (λ h=>j (m 7 6 (by kernel_rfl) h)) (λ h=>j (m 8 6 (by kernel_rfl) h)) V H)
  refine rN rfl (λ L a A o j g m U F K t=>?_) ?_
  ·have am:=U.x 3 16;have al:=U.x 6 19;have o3:=F.f3 (bK g 3);refine(o3.1.form enI_len).elim λ A3 H=>?_
   refine H.elim λ c3 H=>?_
   have R:=H.1;clear H;have o6:=F.f6 (bK g 6);refine(o6.1.form enI_len).elim λ A6 h6=>?_
   refine h6.elim λ c6 h6=>?_
   have Q:=h6.1;clear h6;rw [aC.out] at R;rw [aB.out] at Q;have aJ:=am.trans R;have aI:=al.trans Q;clear am al;go_simp;exact t.out _ o (Pl.any rfl) (by rw [<-R,<-Q];simpa [upd] using F.s7)
  refine rN rfl (λ L a A o j g m U F K t=>?_) ?_
  ·have an:=U.x 0 13;have ak:=U.x 7 20;have o0:=F.f0 (bK g 0);refine(o0.1.form enSt_len).elim λ A0 B=>?_
   refine B.elim λ c0 B=>?_
   have ad:=B.1;clear B;have aK:=an.trans ad;have aH:=ak.trans (F.f7 (bK g 7));clear an ak;go_simp;exact t.out _ o (Pl.any rfl) (by simpa [upd,ad] using F.s8)
  refine rN rfl (λ L a A o j g m U F K t=>?_) ?_
  ·have aj:=U.x 8 21;have aG:=aj.trans (F.f8 (bK g 8));clear aj;go_simp;exact t.out _ _ (Pl.any rfl) (by simpa [upd] using F.s9 (bK g 0) (bK g 3) (bK g 6) (λ h=>j (m 10 9 (by kernel_rfl) h)))
  refine rN rfl (λ L a A o j g m U F K t=>?_) ?_
  ·have aO:=U.x 9 22;go_simp;exact t.out _ o (Pl.any rfl) (by simpa [upd] using F.s10)
  exact RelFrom.nil (by decide)
 case gfin_1 =>
  intro a o hp F;simp only [Fr,Act.put,sX,Nat.reduceAdd];obtain⟨g9,e9,S⟩:=F.f9 trivial;have aa:=F.f10 trivial;rw [e9] at aa S;rw [aa];have K:Lg w o v (.slice (some ⟨g9,0,none⟩) 1 1) [([],b)]:=⟨y.trans (F.bel.mono y.size),rv.below F.bel rv.lt,S.less (by omega),by have:=F.bel.size;omega⟩;clear F hp e9 aa S y rv D ar C1 C2;have T:=K.rv.lt;go_wp2_with fail;go_loopw [9,10,11] (λ vl fv i wr=>∃(k:Nat) (X:List Pl) (f:Bool),k<=N∧i=.int .i64 (k:Int)∧fv=.bool f∧Lg w wr v vl X∧Hid (RowOk v k X∧X.length<=25 ^ k)∧Hid (lngGo v (ds.drop k) X k f=RR)) (λ _ _ i _=>N - (intOf i).toNat)
  case atStart=>exact⟨0,[([],b)],true,Nat.zero_le _,by first | rfl | trivial,by first | rfl | trivial,K,kD ⟨λ q hq=>by simp at hq;subst hq;exact⟨HB.out,rfl⟩,by simp⟩,az⟩
  case round =>
   obtain⟨k,X,f,hk,rfl,rfl,K,HO,HG⟩:=hrel;clear T;have T:=K.rv.lt;by_cases hlt:k<N
   ·obtain⟨bu,ou,rfl,av,ah⟩:=at_rd (ay.out.rd.below K.bel (Nat.le_refl _)) (i:=k) (by rw [HN.out];exact hlt);have aN:(k:Int)<(N:Int):=by omega
    have aL:IntKind.i64.wrap ((k:Int)+1)=(k:Int)+1:=IntWalk.i64_in _ (by omega);have hD:=aE.out k hlt;have C:=kD HG.out;rw [drop_at (by rw [HN.out];exact hlt)] at C;obtain⟨d,hd⟩:∃ d,at_ ds k=d:=⟨_,rfl⟩;rw [hd] at ah hD C;clear hd HG;obtain⟨q0,q1,q2,q3⟩:=K.rv.c4;go_wp2_with fail;go_still_tail 6,(by kernel_rfl);go_wp2_with fail;refine(aD.out wr.drew k (by omega) _ HO.out.1 HO.out.2 d hD u9 _ ((relSl RelP 3 enP).keep (K.og.sl enP_len (Nat.le_refl _)) (.below (Below.refl _ _).drew))).mono ?_;rintro e w5 ⟨nv,rfl,E,ai⟩;have ae:=K.ge;have K:=(K.below (Below.refl _ _).drew).below ai;obtain⟨J,G⟩:∃ l,nextP v d X=l:=⟨_,rfl⟩;have aA:=kD (show RowOk v (k+1) J∧J.length<=25 ^ (k+1) from by
     rw [<-G];refine⟨next_ok hD.1 HO.out.1,Nat.le_trans next_len ?_⟩;rw [Nat.pow_succ];exact Nat.mul_le_mul HO.out.2 (by have:=HP.out;omega))
    rw [G] at E;obtain⟨An,cn,ag,-⟩:=Bd19.OwnG.form enP_len E;obtain⟨M,hM⟩:∃ M,J.length=M:=⟨_,rfl⟩;rw [hM] at ag;have KN:Lg w w5 v nv J:=⟨K.bel,K.rv,E.less (show w.heap.size+2<=wr.heap.size from ae),K.ge⟩;subst ag;have ab:=kD hM;have z:=kD G;obtain⟨x,hx⟩:∃ x,decide ((M:Int)<=3000)=x:=⟨_,rfl⟩;have O:decide (J.length<=3000)=x:=by rw [<-hx,ab.out];exact decide_eq_decide.2 (by omega)
    have HX:=kD O;clear E ai av ah hM G q0 q1 q2 q3 T ae;by_cases B:M=0
    ·have e7:((M:Int) == 0)=true:=by simp [B]
     have I:(X,k,f && x)=RR:=by rw [<-C.out,lng_zero_ (by rw [z.out,ab.out];exact B),z.out,HX.out]
     subst I;have ax:=kD B;have aq:=K.og.less (lo':=w.heap.size) (by omega);have aw:=K.bel;clear B C KN O K
     cases f
     all_goals
      go_wp2_with fail;go_ret3;exact⟨_,by first | rfl | simp,aq,aw⟩
    ·have e7:((M:Int) == 0)=false:=by simp [B]
     have I:Hid (lngGo v (ds.drop (k+1)) J (k+1) (f && x)=RR):=kD (by
      rw [<-C.out,lng_more_ (by rw [z.out,ab.out];exact B),z.out,HX.out])
     have ax:=kD B;clear B C O K
     cases f
     all_goals
      go_wp2_with fail;go_roundw
      case rel=>exact⟨k+1,J,_,by omega,by go_num,by first | rfl | (rw [hx];rfl) | simp,KN,aA,by first | exact I | (rw [<-hx] at I;exact I) | simpa using I⟩
      case measure=>simp [intOf];omega
   ·obtain rfl:k=N:=by omega
    have aM:¬ ((k:Int)<(k:Int)):=by omega
    have I:(X,k,f)=RR:=by rw [<-HG.out,List.drop_of_length_le (by rw [HN.out];exact Nat.le_refl _)];rfl
    subst I;clear HG;go_wp2_with fail;go_ret3;exact⟨_,rfl,K.og.less (by omega),K.bel⟩
end Bd22
namespace Bd23
open Go.ChangeShapes Go.WideShapes Go.ChangeAt Go.RowKit Base Ints Own Clone RelG PlP Bd1 Bd4 Bd5 Bd6 Bd7 Bd7S Bd8 Bd9 Bd11 RegInv RegF RegG Bd16 Bd17 Bd18 Bd19 Bd20 Bd21 Bd22
structure UsF (w1:World) (X:List Pl) (kv fv:Value) (p6 p7 p8 p11:Prop) (v6 v7 v8 v11:Value) (w':World):Prop where
 bel:Below w1.heap.size w1 w'
 f6:p6->∃ vv,v6=.tuple #[vv,kv,fv]∧OwnG RelP w' w1.heap.size w'.heap.size 98 3 enP vv X
 f7:p7->v7=v6
 f8:p8->OwnG RelP w' w1.heap.size w'.heap.size 98 3 enP v8 X
 f11:p11->v11=v8
section
variable {w1 w' w'':World} {X:List Pl} {kv fv:Value} {p6 p7 p8 p11:Prop} {v6 v7 v8 v11 v':Value}
theorem UsF.skip {L:Nat->Prop} {vals:Nat->Value} (F:UsF w1 X kv fv (L 6) (L 7) (L 8) (L 11) (vals 6) (vals 7) (vals 8) (vals 11) w') (k:Nat) (x:Value) (h6:6≠k:=by decide) (h7:7≠k:=by decide) (h8:8≠k:=by decide) (h11:11≠k:=by decide) :
  UsF w1 X kv fv (6=k∨L 6) (7=k∨L 7) (8=k∨L 8) (11=k∨L 11) (upd vals k x 6) (upd vals k x 7) (upd vals k x 8) (upd vals k x 11) w':=by
 rw [or_ne h6,or_ne h7,or_ne h8,or_ne h11,upd_ne h6,upd_ne h7,upd_ne h8,upd_ne h11];exact F
theorem UsF.s6 (F:UsF w1 X kv fv p6 p7 p8 p11 v6 v7 v8 v11 w') (n7:¬ p7) (n8:¬ p8) (n11:¬ p11) (hb:Below w'.heap.size w' w'') (ho:OwnG RelP w'' w'.heap.size w''.heap.size 98 3 enP v' X):UsF w1 X kv fv True p7 p8 p11 (.tuple #[v',kv,fv]) v7 v8 v11 w'' :=
 ⟨F.bel.trans (hb.mono F.bel.size),λ _=>⟨_,rfl,ho.less F.bel.size⟩,λ h=>absurd h n7,λ h=>absurd h n8,λ h=>absurd h n11⟩
theorem UsF.s7 (F:UsF w1 X kv fv p6 p7 p8 p11 v6 v7 v8 v11 w'):UsF w1 X kv fv p6 True p8 p11 v6 v6 v8 v11 w':=⟨F.bel,F.f6,λ _=>rfl,F.f8,F.f11⟩
theorem UsF.s8 (F:UsF w1 X kv fv p6 p7 p8 p11 v6 v7 v8 v11 w') (n11:¬ p11) (ho:OwnG RelP w' w1.heap.size w'.heap.size 98 3 enP v' X):UsF w1 X kv fv p6 p7 True p11 v6 v7 v' v11 w':=⟨F.bel,F.f6,F.f7,λ _=>ho,λ h=>absurd h n11⟩
theorem UsF.s11 (F:UsF w1 X kv fv p6 p7 p8 p11 v6 v7 v8 v11 w'):UsF w1 X kv fv p6 p7 p8 True v6 v7 v8 v8 w':=⟨F.bel,F.f6,F.f7,F.f8,λ _=>rfl⟩
end
structure Us (w wr:World) (v:Vr) (cs:List Value) (uo:Value) (os:List (List Int)):Prop where
 bel:Below w.heap.size w wr
 rv:RowB wr w.heap.size 25 (vL v)
 rb:RowB wr (w.heap.size+1) 51 cs
 or_:SlG RelI 1 en1 wr All uo os
theorem Us.below {w wr w':World} {v:Vr} {cs:List Value} {uo:Value} {os:List (List Int)} (h:Us w wr v cs uo os) (hb:Below wr.heap.size wr w'):Us w w' v cs uo os :=
 ⟨h.bel.trans (hb.mono h.bel.size),h.rv.below hb h.rv.lt,h.rb.below hb h.rb.lt,(relSl RelI 1 en1).keep h.or_ (.below hb)⟩
theorem lng_len {v:Vr} {b:Bd} (hb:Ok v b) {o:List Int} (ho:(∀ d ∈ o,1<=d∧d<=6)∧o.length<=4):(lngP v b o).2.1<=4:=by
 have:=(lng_ok (v:=v) o [([],b)] 0 true (λ d c=>(ho.1 d c).1) (by intro p a;simp at a;subst a;exact⟨hb,rfl⟩) (by simp)).2.2;unfold lngP;omega
theorem used_le {v:Vr} {b:Bd} {os:List (List Int)} {m:Nat} (h:∀ o ∈ os,(lngP v b o).2.1<=m):usedP v b os<=m:=by
 induction os with
 | nil=>exact Nat.zero_le _
 | cons o os ih=>have:=h o (List.mem_cons_self ..);have:=ih (λ q a=>h q (List.mem_cons_of_mem _ a));simp only [usedP];omega
theorem used_s (v:Vr) (b:Bd) (hb:Ok v b) (Ao At:Option Addr) (co ct:Nat) (x y:Int) (hx:1<=x∧x<=6) (hy:1<=y∧y<=6) (w:World) (ho:RdS w w.heap.size 1 enI Ao b.1) (ht:RdS w w.heap.size 1 enI At b.2) (hA:Ao=none->co=0) (hT:At=none->ct=0) :
  Calls Tryz.prog 106 #[.agg #[.int .i64 v.p,.int .i64 v.c,.int .i64 v.h,.int .i64 v.s],.agg #[.slice Ao b.1.length co,.slice At b.2.length ct],.agg #[.int .i64 x,.int .i64 y]] w λ e w'=>e=.returned (.int .i64 ((usedP v b (ordP x y):Nat):Int))∧Below w.heap.size w w':=by
 have CO:=kD (λ(f:World)=>orders_s x y f);obtain⟨E,Z⟩:∃ E,ordP x y=E:=⟨_,rfl⟩;have HD:=ord_dice hx hy;rw [Z] at HD CO ⊢;have al:=kD HD.1;have Y:=HD.2;have ap:=kD (λ o (h:o ∈ E)=>lng_len hb (HD.1 o h));obtain⟨n1,ad⟩:∃ n,b.1.length=n:=⟨_,rfl⟩;obtain⟨n2,ac⟩:∃ n,b.2.length=n:=⟨_,rfl⟩;have T:=kD (λ(f:World) (h:Below w.heap.size w f) (o:List Int) (ab:o ∈ E) (u:Value) (hu:SlV 1 enI f All u o)=>longest_s v b hb Ao At co ct o (al.out o ab).1 (al.out o ab).2 u f ((ho.below h (Nat.le_refl _)).more h.size) ((ht.below h (Nat.le_refl _)).more h.size) hA hT hu);rw [ad,ac] at T ⊢;obtain⟨N,hN⟩:∃ N,E.length=N:=⟨_,rfl⟩;have HN:=kD hN;rw [hN] at Y;obtain⟨RR,Q⟩:∃ r,usedP v b E=r:=⟨_,rfl⟩;rw [Q];have ao:=kD Q;clear hb ho ht hA hT Z HD ad ac hN hx hy Q;go_enter Tryz.func106,Tryz.ntmps106;go_upto_region 2 with fail;refine wp_gen (λ W'=>Below w.heap.size w W'∧RowB W' w.heap.size 25 (vL v)∧RowB W' (w.heap.size+1) 51 [.slice Ao n1 co,.slice At n2 ct]∧RowB W' (w.heap.size+2) 53 [.int .i64 x,.int .i64 y]) ⟨by go_grown,((RowB.new _ _ _).alloc _).alloc _,RowB.alloc (RowB.new' _ _ _ (by simp)) _,RowB.new' _ _ _ (by simp)⟩ ?_;rintro w1 ⟨P,rv,rb,rr⟩;obtain⟨r0,r1⟩:=rr.c2;have ae:=rr.lt;go_wp2_with fail;refine(CO.out w1).mono ?_;rintro e w2 ⟨uo,rfl,aa,J⟩;have K:Us w w2 v [.slice Ao n1 co,.slice At n2 ct] uo E:=⟨P.trans (J.mono P.size),rv.below J rv.lt,rb.below J rb.lt,(relSl RelI 1 en1).weak aa (λ _ _ _=>trivial)⟩;obtain⟨Ar,cr,aq,W,-⟩:=aa;rw [HN.out] at W;subst W;clear r0 r1 ae rb rr rv P J CO;have af:=K.rv.lt;go_wp2_with fail;go_loopw [7,9] (λ mv i wr=>∃(k t:Nat),k<=N∧i=.int .i64 (k:Int)∧mv=.int .i64 (t:Int)∧Us w wr v [.slice Ao n1 co,.slice At n2 ct] (.slice Ar N cr) E∧Hid (max t (usedP v b (E.drop k))=RR)) (λ _ i _=>N - (intOf i).toNat)
 case atStart=>exact⟨0,0,Nat.zero_le _,by first | rfl | trivial,by first | rfl | trivial,K,kD (by rw [<-ao.out];exact Nat.zero_max _)⟩
 case round =>
  obtain⟨k,t,hk,rfl,rfl,K,HG⟩:=hrel;clear af;have af:=K.rv.lt;have ae:=K.rb.lt;by_cases hlt:k<N
  ·obtain⟨A5,O,rs,e5,M,C,-⟩:=K.or_;simp only [Value.slice.injEq] at e5;obtain⟨rfl,-,rfl⟩:=e5;obtain⟨b5,V,r,rfl,-,ag,hr,H⟩:=M.at_ (i:=k) (by rw [C.1,HN.out];exact hlt);obtain⟨o,ho,an⟩:=C.at_ hr;have H:wr.cell? ⟨b5,V+k,none⟩=some r:=by have:=H 0 r rfl;simpa using this
   have ak:=kD (List.mem_of_getElem? ho);have aj:=kD an;have D:=HG.out;rw [drop_cons ho] at D;have q:=kD (λ(f:World) (h:Below wr.heap.size wr f)=>(Below.cell h (p:=⟨b5,V+k,none⟩) ag).trans H);have aw:(k:Int)<(N:Int):=by omega
   have ar:IntKind.i64.wrap ((k:Int)+1)=(k:Int)+1:=IntWalk.i64_in _ (by omega);have ah:=ap.out o ak.out;obtain⟨L,hL⟩:∃ l,lngP v b o=l:=⟨_,rfl⟩;have T:=kD (λ(f:World) (h:Below wr.heap.size wr f)=>T.out f (K.bel.trans (h.mono K.bel.size)) o ak.out r (RelI.keep aj.out (.below h)));rw [hL] at T ah;simp only [usedP,hL] at D;obtain⟨X,G,ff⟩:=L;simp only at T ah D;clear M C hr ho hL H ag aj;have R:=kD K.rv;have S:=kD K.rb;go_wp2_with fail;refine rG [some 22,some 23,some 24,some 25,some 26,some 27,some 28,some 21,some 29,some 30,some 31,some 10,some 11,some 12] 14 (Pl [some (.agg #[.int .i64 v.p,.int .i64 v.c,.int .i64 v.h,.int .i64 v.s]),some (.agg #[.slice Ao n1 co,.slice At n2 ct]),some (.slice (some ⟨b5,V,none⟩) N cr),some (.int .i64 (k:Int)),some (.pointer (some ⟨b5,V+k,none⟩)),some (r),none,none,none,some (.int .i64 (G:Int)),some (.bool ff),none,some (.int .i64 (G:Int)),some (.bool ff)]) (λ L a w'=>UsF wr X (.int .i64 (G:Int)) (.bool ff) (L 6) (L 7) (L 8) (L 11) (a 6) (a 7) (a 8) (a 11) w') ?g0_1 ?gst_1 ?gfin_1
   case g0_1=>exact⟨(Below.refl _ _).drew,λ h=>absurd h (by decide),λ h=>absurd h (by decide),λ h=>absurd h (by decide),λ h=>absurd h (by decide)⟩
   case gst_1 =>
    refine rN rfl (λ L a A f g d j U F K m=>?_) ?_
    ·have e3:=U.w 3 (.pointer (some ⟨w.heap.size,0,none⟩));obtain⟨q0,q1,q2,q3⟩:=(R.out.below F.bel R.out.lt).c4;obtain⟨z0,z1⟩:=(S.out.below F.bel S.out.lt).c2;have O:=q.out f F.bel
     skip
     go_simp;exact pF m (F.skip 0 _)
    refine rN rfl (λ L a A f g d j U F K m=>?_) ?_
    ·have e4:=U.w 4 (.pointer (some ⟨w.heap.size+1,0,none⟩));obtain⟨q0,q1,q2,q3⟩:=(R.out.below F.bel R.out.lt).c4;obtain⟨z0,z1⟩:=(S.out.below F.bel S.out.lt).c2;have O:=q.out f F.bel
     skip
     go_simp;exact pF m (F.skip 1 _)
    refine rN rfl (λ L a A f g d j U F K m=>?_) ?_
    ·have e8:=U.w 8 (.slice (some ⟨b5,V,none⟩) N cr);have O:=q.out f F.bel;go_simp;exact pF m (F.skip 2 _)
    refine rN rfl (λ L a A f g d j U F K m=>?_) ?_
    ·have e9:=U.w 9 (.int .i64 (k:Int));have O:=q.out f F.bel;go_simp;exact pF m (F.skip 3 _)
    refine rN rfl (λ L a A f g d j U F K m=>?_) ?_
    ·have aE:=U.v 2 24;have aD:=U.v 3 25;have O:=q.out f F.bel;go_simp;exact pF m (F.skip 4 _)
    refine rN rfl (λ L a A f g d j U F K m=>?_) ?_
    ·have aC:=U.v 4 26;obtain⟨q0,q1,q2,q3⟩:=(R.out.below F.bel R.out.lt).c4;obtain⟨z0,z1⟩:=(S.out.below F.bel S.out.lt).c2;have O:=q.out f F.bel
     skip
     go_simp;exact pF m (F.skip 5 _)
    refine rN rfl (λ L a A f g d j U F K m=>?_) ?_
    ·have aG:=U.v 0 22;have aF:=U.v 1 23;have aB:=U.v 5 27;go_simp;refine(T.out f F.bel).mono ?_;rintro e w6 ⟨vv,rfl,h3,am⟩;exact m.out _ w6 (Pl.any rfl) (by simpa [upd] using F.s6 (λ h=>g (j 7 6 (by kernel_rfl) h)) (λ h=>g (j 8 6 (by kernel_rfl) h)) (λ h=>g (j 11 6 (by kernel_rfl) h)) am h3)
    refine rN rfl (λ L a A f g d j U F K m=>?_) ?_
    ·have aA:=U.x 6 28;go_simp;exact m.out _ f (Pl.any rfl) (by simpa [upd] using F.s7)
    refine rN rfl (λ L a A f g d j U F K m=>?_) ?_
    ·have z:=U.x 7 21;have B:=F.f6 (bK d 6);refine B.elim λ vv B=>?_
     have em:=(z.trans (F.f7 (bK d 7))).trans B.1;clear z;go_simp;exact m.out _ f (Pl.any rfl) (by simpa [upd] using F.s8 (λ h=>g (j 11 8 (by kernel_rfl) h)) B.2)
    refine rN rfl (λ L a A f g d j U F K m=>?_) ?_
    ·have z:=U.x 7 21;have B:=F.f6 (bK d 6);refine B.elim λ vv B=>?_
     have em:=(z.trans (F.f7 (bK d 7))).trans B.1;clear z;go_simp;exact pF m (F.skip 9 _)
    refine rN rfl (λ L a A f g d j U F K m=>?_) ?_
    ·have z:=U.x 7 21;have B:=F.f6 (bK d 6);refine B.elim λ vv B=>?_
     have em:=(z.trans (F.f7 (bK d 7))).trans B.1;clear z;go_simp;exact pF m (F.skip 10 _)
    refine rN rfl (λ L a A f g d j U F K m=>?_) ?_
    ·have az:=U.x 8 29;go_simp;exact m.out _ f (Pl.any rfl) (by simpa [upd] using F.s11)
    refine rN rfl (λ L a A f g d j U F K m=>?_) ?_
    ·have ay:=U.v 9 30;have O:=q.out f F.bel;go_simp;exact pF m (F.skip 12 _)
    refine rN rfl (λ L a A f g d j U F K m=>?_) ?_
    ·have ax:=U.v 10 31;have O:=q.out f F.bel;go_simp;exact pF m (F.skip 13 _)
    exact RelFrom.nil (by decide)
   case gfin_1 =>
    intro a f hp F;simp only [Fr,Act.put,sX,Nat.reduceAdd];have I:=F.bel;have ai:a 12=.int .i64 (G:Int):=hp 12 (by decide) _ rfl;rw [ai];clear F hp ai;have K:=K.below I;have HS:Hid ((if t<G then (G:Int) else (t:Int))=((max t G:Nat):Int)):=kD (by split <;> omega);have HG:Hid (max (max t G) (usedP v b (E.drop (k+1)))=RR):=kD (by rw [<-D,Nat.max_assoc]);clear D I R S T q;go_wp2_with fail;go_roundw
    case rel=>exact⟨k+1,max t G,by omega,by go_num,by first | rw [HS.out] | (congr 1;omega),K,HG⟩
    case measure=>simp [intOf];omega
  ·obtain rfl:k=N:=by omega
   have av:¬ ((k:Int)<(k:Int)):=by omega
   obtain rfl:t=RR:=by rw [<-HG.out,List.drop_of_length_le (by rw [HN.out];exact Nat.le_refl _)];exact(Nat.max_zero _).symm
   have I:=K.bel;clear HG K;go_wp2_with fail;go_ret;exact⟨rfl,I⟩
end Bd23
namespace Bd24
open Go.ChangeShapes Go.WideShapes Go.ChangeAt Go.RowKit Base Ints Own Clone RelG PlP Bd1 Bd4 Bd5 Bd6 Bd7 Bd7S Bd8 Bd9 Bd11 RegInv RegF RegG Bd16 Bd17 Bd18 Bd19 Bd20 Bd21 Bd22 Bd23
structure As1 (w wr:World) (v:Vr) (cs:List Value) (vl:Value) (X:List Pl) (n m:Nat) (uo:Value) (os:List (List Int)):Prop where
 bel:Below w.heap.size w wr
 rv:RowB wr w.heap.size 25 (vL v)
 rb:RowB wr (w.heap.size+1) 51 cs
 ge:w.heap.size+3<=wr.heap.size
 og:OwnG RelP wr (w.heap.size+3) wr.heap.size 98 3 enP vl X
 co:Coll v n m X
 or_:SlG RelI 1 en1 wr (NotIn vl 0) uo os
structure As2 (w wr:World) (v:Vr) (cs:List Value) (vl:Value) (X:List Pl) (n m:Nat) (uo:Value) (os:List (List Int)) (lv:Value) (ps:List Pl):Prop where
 k1:As1 w wr v cs vl X n m uo os
 pl:SlG RelP 3 enP wr (NotIn vl (w.heap.size+3)) lv ps
section
variable {w wr w':World} {v:Vr} {cs:List Value} {vl:Value} {X:List Pl} {n m m':Nat} {uo lv:Value} {os:List (List Int)} {ps:List Pl}
theorem As1.below (h:As1 w wr v cs vl X n m uo os) (hb:Below wr.heap.size wr w'):As1 w w' v cs vl X n m uo os :=
 ⟨h.bel.trans (hb.mono h.bel.size),h.rv.below hb h.rv.lt,h.rb.below hb h.rb.lt,Nat.le_trans h.ge hb.size,(h.og.below_ hb).more hb.size,h.co,(relSl RelI 1 en1).keep h.or_ (.below hb)⟩
theorem As1.more (h:As1 w wr v cs vl X n m uo os) (hm:m<=m'):As1 w wr v cs vl X n m' uo os:=⟨h.bel,h.rv,h.rb,h.ge,h.og,h.co.more hm,h.or_⟩
theorem As1.blk (h:As1 w wr v cs vl X n m uo os):∀ g,vl.ownBlock=some g->w.heap.size+3<=g∧g<wr.heap.size:=λ g hg=>by obtain⟨rs,h1,-⟩:=h.og;exact h1.block g hg
theorem As2.below (h:As2 w wr v cs vl X n m uo os lv ps) (hb:Below wr.heap.size wr w'):As2 w w' v cs vl X n m uo os lv ps:=⟨h.k1.below hb,(relSl RelP 3 enP).keep h.pl (.below hb)⟩
end
theorem lng_bd {v:Vr} {b:Bd} (hb:Ok v b) {o:List Int} (ho:(∀ d ∈ o,1<=d∧d<=6)∧o.length<=4):RowOk v (lngP v b o).2.1 (lngP v b o).1∧(lngP v b o).1.length<=390625:=by
 obtain⟨e,h⟩:=lng_rows v b o;obtain⟨a,g,f⟩:=rowsP_ok hb (λ d c=>(ho.1 d c).1) ho.2;rw [e];have:=a ((rowsP v b o).1.length - 1) _ (last_of (by omega));exact⟨this.1,Nat.le_trans this.2 (p25 (by omega))⟩
theorem go_skip {v:Vr} {b:Bd} {u i:Nat} {o:List Int} {os:List (List Int)} {X L:List Pl} {f ff:Bool} {kk:Nat} (hL:lngP v b o=(L,kk,ff)) (h:kk≠u∨(u=1∧i=1∧0<X.length)):allGo v b u i (o :: os) X f=allGo v b u (i+1) os X (f && ff):=by
 simp only [allGo,hL];rw [if_pos h]
theorem go_add {v:Vr} {b:Bd} {u i:Nat} {o:List Int} {os:List (List Int)} {X L:List Pl} {f ff:Bool} {kk:Nat} (hL:lngP v b o=(L,kk,ff)) (h:¬ (kk≠u∨(u=1∧i=1∧0<X.length))):allGo v b u i (o :: os) X f=allGo v b u (i+1) os (addAll X L) (f && ff):=by
 simp only [allGo,hL];rw [if_neg h]
theorem all_s (v:Vr) (b:Bd) (hb:Ok v b) (Ao At:Option Addr) (co ct:Nat) (x y:Int) (hx:1<=x∧x<=6) (hy:1<=y∧y<=6) (w:World) (ho:RdS w w.heap.size 1 enI Ao b.1) (ht:RdS w w.heap.size 1 enI At b.2) (hA:Ao=none->co=0) (hT:At=none->ct=0) :
  Calls Tryz.prog 79 #[.agg #[.int .i64 v.p,.int .i64 v.c,.int .i64 v.h,.int .i64 v.s],.agg #[.slice Ao b.1.length co,.slice At b.2.length ct],.agg #[.int .i64 x,.int .i64 y]] w λ e w'=>∃ vv,e=.returned (.tuple #[vv,.bool (allP v b x y).2])∧OwnG RelP w' w.heap.size w'.heap.size 98 3 enP vv (allP v b x y).1∧Below w.heap.size w w':=by
 obtain⟨i3,bt,bp,bo,bn⟩:=info_parts infoP;have hv:=hb.v1;obtain⟨P,hP⟩:∃ P:Nat,v.p=(P:Int):=⟨v.p.toNat,by omega⟩;have HP:=kD hP;have bH:P<=24:=by omega
 obtain⟨q,bQ⟩:∃ n,P+1=n:=⟨_,rfl⟩;have bc:b.1.length=q:=by have:=hb.own.len;omega
 have bb:b.2.length=q:=by have:=hb.oth.len;omega
 have CO:=kD (λ(d:World)=>orders_s x y d);have CU:=kD (λ(d:World) (h:Below w.heap.size w d)=>used_s v b hb Ao At co ct x y hx hy d ((ho.below h (Nat.le_refl _)).more h.size) ((ht.below h (Nat.le_refl _)).more h.size) hA hT);obtain⟨RR,ab⟩:∃ r,allP v b x y=r:=⟨_,rfl⟩;rw [ab];unfold allP at ab;obtain⟨J,aR⟩:∃ J,ordP x y=J:=⟨_,rfl⟩;have HD:=ord_dice hx hy;rw [aR] at HD CO CU ab;have bm:=kD HD.1;have aQ:=HD.2;have bD:=kD (λ o (h:o ∈ J)=>(⟨lng_bd hb (HD.1 o h),lng_len hb (HD.1 o h)⟩:(RowOk v (lngP v b o).2.1 (lngP v b o).1∧(lngP v b o).1.length<=390625)∧(lngP v b o).2.1<=4));obtain⟨E,aB⟩:∃ u,usedP v b J=u:=⟨_,rfl⟩;have bN:E<=4:=by rw [<-aB];exact used_le (λ o h=>lng_len hb (HD.1 o h))
 rw [aB] at CU ab;have bB:=kD ab;have CS:=kD (λ(d:World) (h:Below w.heap.size w d) (o:List Int) (aT:o ∈ J) (u:Value) (hu:SlV 1 enI d All u o)=>longest_s v b hb Ao At co ct o (bm.out o aT).1 (bm.out o aT).2 u d ((ho.below h (Nat.le_refl _)).more h.size) ((ht.below h (Nat.le_refl _)).more h.size) hA hT hu);rw [bc,bb] at CS CU ⊢;obtain⟨N,hN⟩:∃ N,J.length=N:=⟨_,rfl⟩;have HN:=kD hN;rw [hN] at aQ;clear hb ho ht hA hT aR HD bc bb hN hx hy ab hv hP aB;go_enter Tryz.func79,Tryz.ntmps79;go_upto_region 1 with fail;refine wp_gen (λ W'=>Below w.heap.size w W'∧RowB W' w.heap.size 25 (vL v)∧RowB W' (w.heap.size+1) 51 [.slice Ao q co,.slice At q ct]∧RowB W' (w.heap.size+2) 53 [.int .i64 x,.int .i64 y]) ⟨by go_grown,((RowB.new _ _ _).alloc _).alloc _,RowB.alloc (RowB.new' _ _ _ (by simp)) _,RowB.new' _ _ _ (by simp)⟩ ?_;rintro w1 ⟨H,rv,rb,rr⟩;obtain⟨q0,q1,q2,q3⟩:=rv.c4;obtain⟨z0,z1⟩:=rb.c2;obtain⟨r0,r1⟩:=rr.c2;have al:=rv.lt;have aW:=rb.lt;have T:=rr.lt;go_wp2_with fail;refine(CU.out w1 H).mono ?_;rintro e w2 ⟨rfl,ah⟩;have rv:=rv.below ah rv.lt;have rb:=rb.below ah rb.lt;have rr:=rr.below ah rr.lt;have H:=H.trans (ah.mono H.size);have T:=rr.lt;clear q0 q1 q2 q3 z0 z1 r0 r1 al aW ah CU;go_upto_region 3 with fail;refine wp_gen (λ W'=>Below w2.heap.size w2 W'∧OwnG RelP W' (w.heap.size+3) W'.heap.size 98 3 enP (.slice (some ⟨w2.heap.size,0,none⟩) 0 0) []) ⟨by go_grown,⟨[],RowB.own (xs:=([]:List PRow)) (RowB.new w2 98 []) enP_len (by omega) (by simp) (by decide),LsR.nil _ _ _⟩⟩ ?_;rintro w3 ⟨ag,og⟩;have rv:=rv.below ag rv.lt;have rb:=rb.below ag rb.lt;have rr:=rr.below ag rr.lt;have H:=H.trans (ag.mono H.size);have aY:(w2.heap.size)<w3.heap.size:=by obtain⟨Z,h9,-⟩:=og;exact(h9.block _ rfl).2
 obtain⟨gx,aX⟩:∃ g,w2.heap.size=g:=⟨_,rfl⟩;rw [aX] at og aY ⊢;obtain⟨r0,r1⟩:=rr.c2;have aV:=rr.lt;clear ag aX;go_wp2_with fail;refine(CO.out w3).mono ?_;rintro e w4 ⟨uo,rfl,aS,V⟩;have K:As1 w w4 v [.slice Ao q co,.slice At q ct] (.slice (some ⟨gx,0,none⟩) 0 0) [] E 0 uo J :=
  ⟨H.trans (V.mono H.size),rv.below V rv.lt,rb.below V rb.lt,by have:=V.size;omega,(og.below_ V).more V.size,Coll.nil _ _,(relSl RelI 1 en1).weak aS (λ x (hx:w3.heap.size<=x) _=>⟨λ h=>by simp [Value.ownBlock] at h;omega,Nat.zero_le _⟩)⟩
 obtain⟨Ar,cr,bJ,aN,-⟩:=aS;rw [HN.out] at aN;subst aN;clear r0 r1 T aV rb rr rv H V og aY CO;have al:=K.rv.lt;go_wp2_with fail;go_loopw [9,10,12] (λ vl fv i wr=>∃(k:Nat) (X:List Pl) (f:Bool),k<=N∧i=.int .i64 (k:Int)∧fv=.bool f∧As1 w wr v [.slice Ao q co,.slice At q ct] vl X E (k*400000) (.slice Ar N cr) J∧Hid (allGo v b E k (J.drop k) X f=RR)) (λ _ _ i _=>N - (intOf i).toNat)
 case atStart=>exact⟨0,[],true,Nat.zero_le _,by first | rfl | trivial,by first | rfl | trivial,K.more (by omega),bB⟩
 case round =>
  obtain⟨k,X,f,hk,rfl,rfl,K,HG⟩:=hrel;clear al;have al:=K.rv.lt;have aW:=K.rb.lt;by_cases hlt:k<N
  ·obtain⟨A5,c5,rs,e5,av,ae,-⟩:=K.or_;simp only [Value.slice.injEq] at e5;obtain⟨rfl,-,rfl⟩:=e5;obtain⟨b5,o5,r,rfl,-,a2,hr,am⟩:=av.at_ (i:=k) (by rw [ae.1,HN.out];exact hlt);obtain⟨o,ho,a4⟩:=ae.at_ hr;have am:wr.cell? ⟨b5,o5+k,none⟩=some r:=by have:=am 0 r rfl;simpa using this
   have bj:=kD (List.mem_of_getElem? ho);have bg:=kD ((RelI).weak a4 (S':=All) (λ _ _ _=>trivial));have aK:=HG.out;rw [drop_cons ho] at aK;have I:=kD (λ(d:World) (h:Below wr.heap.size wr d)=>(Below.cell h (p:=⟨b5,o5+k,none⟩) a2).trans am);have bR:(k:Int)<(N:Int):=by omega
   have bL:IntKind.i64.wrap ((k:Int)+1)=(k:Int)+1:=IntWalk.i64_in _ (by omega);have aj:=bD.out o bj.out;obtain⟨L,hL⟩:∃ l,lngP v b o=l:=⟨_,rfl⟩;have CS:=kD (λ(d:World) (h:Below wr.heap.size wr d)=>CS.out d (K.bel.trans (h.mono K.bel.size)) o bj.out r (RelI.keep bg.out (.below h)));rw [hL] at CS aj;obtain⟨G,kk,ff⟩:=L;simp only at CS aj;have bl:=kD hL;have bi:=kD aj.1;have aj:=aj.2;have aq:=kD aK;have RV:=kD K.rv;have RB:=kD K.rb;have ax:=kD K.blk;have aF:=K.ge;clear av ae hr ho hL am a2 bg HG aK a4;go_wp2_with fail;refine rG [some 31,some 32,some 33,some 34,some 35,some 36,some 37,some 30,some 38,some 39,some 40,some 13,some 14,some 15] 14 (Pl [some (.agg #[.int .i64 v.p,.int .i64 v.c,.int .i64 v.h,.int .i64 v.s]),some (.agg #[.slice Ao q co,.slice At q ct]),some (.slice (some ⟨b5,o5,none⟩) N cr),some (.int .i64 (k:Int)),some (.pointer (some ⟨b5,o5+k,none⟩)),some (r),none,none,none,some (.int .i64 (kk:Int)),some (.bool ff),none,some (.int .i64 (kk:Int)),some (.bool ff)]) (λ L a w'=>UsF wr G (.int .i64 (kk:Int)) (.bool ff) (L 6) (L 7) (L 8) (L 11) (a 6) (a 7) (a 8) (a 11) w') ?g0_2 ?gst_2 ?gfin_2
   case g0_2=>exact⟨(Below.refl _ _).drew,λ h=>absurd h (by decide),λ h=>absurd h (by decide),λ h=>absurd h (by decide),λ h=>absurd h (by decide)⟩
   case gst_2 =>
    refine rN rfl (λ L a A d t m z U F K D=>?_) ?_
    ·have e3:=U.w 3 (.pointer (some ⟨w.heap.size,0,none⟩));obtain⟨q0,q1,q2,q3⟩:=(RV.out.below F.bel RV.out.lt).c4;obtain⟨z0,z1⟩:=(RB.out.below F.bel RB.out.lt).c2;have c5:=I.out d F.bel
     skip
     go_simp;exact pF D (F.skip 0 _)
    refine rN rfl (λ L a A d t m z U F K D=>?_) ?_
    ·have e4:=U.w 4 (.pointer (some ⟨w.heap.size+1,0,none⟩));obtain⟨q0,q1,q2,q3⟩:=(RV.out.below F.bel RV.out.lt).c4;obtain⟨z0,z1⟩:=(RB.out.below F.bel RB.out.lt).c2;have c5:=I.out d F.bel
     skip
     go_simp;exact pF D (F.skip 1 _)
    refine rN rfl (λ L a A d t m z U F K D=>?_) ?_
    ·have b8:=U.w 11 (.slice (some ⟨b5,o5,none⟩) N cr);have c5:=I.out d F.bel;go_simp;exact pF D (F.skip 2 _)
    refine rN rfl (λ L a A d t m z U F K D=>?_) ?_
    ·have b6:=U.w 12 (.int .i64 (k:Int));have c5:=I.out d F.bel;go_simp;exact pF D (F.skip 3 _)
    refine rN rfl (λ L a A d t m z U F K D=>?_) ?_
    ·have b2:=U.v 2 33;have b1:=U.v 3 34;have c5:=I.out d F.bel;go_simp;exact pF D (F.skip 4 _)
    refine rN rfl (λ L a A d t m z U F K D=>?_) ?_
    ·have b0:=U.v 4 35;obtain⟨q0,q1,q2,q3⟩:=(RV.out.below F.bel RV.out.lt).c4;obtain⟨z0,z1⟩:=(RB.out.below F.bel RB.out.lt).c2;have c5:=I.out d F.bel
     skip
     go_simp;exact pF D (F.skip 5 _)
    refine rN rfl (λ L a A d t m z U F K D=>?_) ?_
    ·have b4:=U.v 0 31;have b3:=U.v 1 32;have bZ:=U.v 5 36;go_simp;refine(CS.out d F.bel).mono ?_;rintro e w6 ⟨vv,rfl,h3,bw⟩;exact D.out _ w6 (Pl.any rfl) (by simpa [upd] using F.s6 (λ h=>t (z 7 6 (by kernel_rfl) h)) (λ h=>t (z 8 6 (by kernel_rfl) h)) (λ h=>t (z 11 6 (by kernel_rfl) h)) bw h3)
    refine rN rfl (λ L a A d t m z U F K D=>?_) ?_
    ·have bY:=U.x 6 37;go_simp;exact D.out _ d (Pl.any rfl) (by simpa [upd] using F.s7)
    refine rN rfl (λ L a A d t m z U F K D=>?_) ?_
    ·have Q:=U.x 7 30;have q6:=F.f6 (bK m 6);refine q6.elim λ vv q6=>?_
     have em:=(Q.trans (F.f7 (bK m 7))).trans q6.1;clear Q;go_simp;exact D.out _ d (Pl.any rfl) (by simpa [upd] using F.s8 (λ h=>t (z 11 8 (by kernel_rfl) h)) q6.2)
    refine rN rfl (λ L a A d t m z U F K D=>?_) ?_
    ·have Q:=U.x 7 30;have q6:=F.f6 (bK m 6);refine q6.elim λ vv q6=>?_
     have em:=(Q.trans (F.f7 (bK m 7))).trans q6.1;clear Q;go_simp;exact pF D (F.skip 9 _)
    refine rN rfl (λ L a A d t m z U F K D=>?_) ?_
    ·have Q:=U.x 7 30;have q6:=F.f6 (bK m 6);refine q6.elim λ vv q6=>?_
     have em:=(Q.trans (F.f7 (bK m 7))).trans q6.1;clear Q;go_simp;exact pF D (F.skip 10 _)
    refine rN rfl (λ L a A d t m z U F K D=>?_) ?_
    ·have bX:=U.x 8 38;go_simp;exact D.out _ d (Pl.any rfl) (by simpa [upd] using F.s11)
    refine rN rfl (λ L a A d t m z U F K D=>?_) ?_
    ·have bW:=U.v 9 39;have c5:=I.out d F.bel;go_simp;exact pF D (F.skip 12 _)
    refine rN rfl (λ L a A d t m z U F K D=>?_) ?_
    ·have bV:=U.v 10 40;have c5:=I.out d F.bel;go_simp;exact pF D (F.skip 13 _)
    exact RelFrom.nil (by decide)
   case gfin_2 =>
    intro a d hp F;simp only [Fr,Act.put,sX,Nat.reduceAdd];have an:=F.bel;have a9:a 12=.int .i64 (kk:Int):=hp 12 (by decide) _ rfl;have a8:a 13=.bool ff:=hp 13 (by decide) _ rfl;have o8:=F.f8 trivial;have ba:=F.f11 trivial;rw [a9,a8,ba];clear F hp a9 a8 ba
    generalize a 8=lv at o8 ⊢
    have a7:SlG RelP 3 enP d (NotIn u9 (w.heap.size+3)) lv G:=(relSl RelP 3 enP).weak (o8.sl enP_len (Nat.le_refl _)) (λ x (hx:wr.heap.size<=x) _=>⟨λ h=>by have:=(ax.out x h).2;omega,by omega⟩);obtain⟨An,cn,aU,-⟩:=Bd19.OwnG.form enP_len o8;obtain⟨M,hM⟩:∃ M,G.length=M:=⟨_,rfl⟩;rw [hM] at aU;subst aU;have bk:=kD hM;have bU:M<=390625:=by rw [<-hM];exact bi.out.2
    have K:=K.below an;obtain⟨Ax,cx,aA,-⟩:=Bd19.OwnG.form enP_len K.og;obtain⟨XL,aG⟩:∃ l,X.length=l:=⟨_,rfl⟩;rw [aG] at aA;have be:=kD aG;have bT:XL<=9223372036854775807:=by obtain⟨Z,h9,bx⟩:=K.og;obtain⟨A8,c8,e8,r8⟩:=h9.form enP_len;have:=r8.len;rw [bx.1] at this;omega
    have B:As2 w d v [.slice Ao q co,.slice At q ct] u9 X E (k*400000) (.slice (some ⟨b5,o5,none⟩) N cr) J (.slice An M cn) G:=⟨K,a7⟩;clear K a7 o8 an RV RB CS I hM aG ax aF;by_cases hs:kk≠E∨(E=1∧k=1∧0<XL)
    ·have W:Hid (allGo v b E (k+1) (J.drop (k+1)) X (f && ff)=RR):=kD (by rw [<-aq.out,go_skip bl.out (by rw [be.out];exact hs)]);have K9:As1 w d v [.slice Ao q co,.slice At q ct] u9 X E ((k+1)*400000) (.slice (some ⟨b5,o5,none⟩) N cr) J:=B.k1.more (by omega);clear aq B;subst aA;by_cases h1:kk≠E
     ·have e1:((kk:Int) != (E:Int))=true:=by simp;omega
      have H1:=kD h1;clear h1 hs
      cases f
      all_goals
       go_wp2_with fail;go_roundw
       case rel=>exact⟨k+1,X,_,by omega,by go_num,by first | rfl | simp,K9,by first | exact W | simpa using W⟩
       case measure=>simp [intOf];omega
     ·obtain⟨h2,h3,h4⟩:=hs.resolve_left h1;have e1:((kk:Int) != (E:Int))=false:=by simp;omega
      have e2:((E:Int) == 1)=true:=by simp;omega
      have e3:((k:Int) == 1)=true:=by simp;omega
      have e4:(0:Int)<(XL:Int):=by omega
      have H1:=kD h1;have H2:=kD h2;have H3:=kD h3;clear h1 h2 h3 h4 hs
      cases f
      all_goals
       go_wp2_with fail;go_roundw
       case rel=>exact⟨k+1,X,_,by omega,by go_num,by first | rfl | simp,K9,by first | exact W | simpa using W⟩
       case measure=>simp [intOf];omega
    ·have aE:kk=E:=by omega
     have W:Hid (allGo v b E (k+1) (J.drop (k+1)) (addAll X G) (f && ff)=RR):=kD (by rw [<-aq.out,go_add bl.out (by rw [be.out];exact hs)]);have bC:Hid (RowOk v E G):=kD (by have:=bi.out.1;rw [aE] at this;exact this);have e1:((kk:Int) != (E:Int))=false:=by simp;omega
     have bv:(¬ E=1)∨(E=1∧¬ k=1)∨(E=1∧k=1∧XL=0):=by omega
     have b9:=kD aE;clear aE hs aq;subst aA;rcases bv with h2 | ⟨h2,h3⟩ | ⟨h2,h3,h4⟩
     all_goals
      first
       | have e2:((E:Int) == 1)=false:=by simp;omega
       | have e2:((E:Int) == 1)=true:=by simp;omega
      first
       | have e3:((k:Int) == 1)=true:=by simp;omega
       | have e3:((k:Int) == 1)=false:=by simp;omega
       | skip
      try have e4:¬ ((0:Int)<(XL:Int)):=by omega
      have H2:=kD h2
      try have H3:=kD h3
      try have H4:=kD h4
      clear h2
      try clear h3
      try clear h4
      cases f
     all_goals
      go_wp2_with fail;go_loopw [9,16] (λ vl i wq=>∃ j:Nat,j<=M∧i=.int .i64 (j:Int)∧As2 w wq v [.slice Ao q co,.slice At q ct] vl (addAll X (G.take j)) E (k*400000+j) (.slice (some ⟨b5,o5,none⟩) N cr) J (.slice An M cn) G) (λ _ i _=>M - (intOf i).toNat)
      case atStart=>exact⟨0,Nat.zero_le _,by first | rfl | trivial,⟨B.k1.more (by omega),B.pl⟩⟩
      case round =>
       obtain⟨j,hj,rfl,B⟩:=hrel;by_cases hlj:j<M
       ·obtain⟨A7,c7,bI,e7,ar,ad,-⟩:=B.pl;simp only [Value.slice.injEq] at e7;obtain⟨rfl,-,rfl⟩:=e7;obtain⟨b7,o7,r7,rfl,-,a1,aP,a0⟩:=ar.at_ (i:=j) (by rw [ad.1,bk.out];exact hlj);obtain⟨p,hp,ai⟩:=ad.at_ aP;have ap:=kD (bC.out p (List.mem_of_getElem? hp));have HS:=kD (show addAll X (G.take (j+1))=addOne (addAll X (G.take j)) p from by rw [takeS hp,addAll_snoc]);obtain⟨Y,hY⟩:∃ Y,addAll X (G.take j)=Y:=⟨_,rfl⟩;rw [hY] at B HS;obtain⟨sp,bd⟩:=p;obtain⟨r0,rl,rm⟩:=r7;have aJ:=kD ai;have a6:=ai.2.1;have a5:=ai.2.2;simp only at a6 a5 ap;obtain⟨A3,c3,rfl,k3,-⟩:=a6;obtain⟨A4,c4,rfl,k4,-⟩:=a5;have T:bd.1.length=q:=by have:=ap.out.1.own.len;have:=HP.out;omega
        have ak:bd.2.length=q:=by have:=ap.out.1.oth.len;have:=HP.out;omega
        obtain⟨A0,n0,S,bq⟩:∃ A n c,r0=.slice A n c:=by
         obtain⟨A0,S,bz,-⟩:=ai.1.1.form enSt_len;exact⟨_,_,_,bz⟩
        subst bq;have PC:=kD (λ(d:World) (h:Below wr.heap.size wr d)=>by
         have e:=λ(i:Nat) (u:Value) (hu:(enP (.slice A0 n0 S,.slice A3 bd.1.length c3,.slice A4 bd.2.length c4))[i]?=some u)=>((Below.cell h (p:=⟨b7,o7+j*3+i,none⟩) a1).trans (a0 i u hu))
         have h0:d.cell? ⟨b7,o7+j*3,none⟩=some (.slice A0 n0 S):=e 0 _ rfl;have h1:d.cell? ⟨b7,o7+j*3+1,none⟩=some (.slice A3 q c3):=by have:=e 1 _ rfl;simp only [T] at this;exact this
         have h2:d.cell? ⟨b7,o7+j*3+2,none⟩=some (.slice A4 q c4):=by have:=e 2 _ rfl;simp only [ak] at this;exact this
         exact(⟨h0,h1,h2⟩:d.cell? ⟨b7,o7+j*3,none⟩=some (.slice A0 n0 S)∧d.cell? ⟨b7,o7+j*3+1,none⟩=some (.slice A3 q c3)∧d.cell? ⟨b7,o7+j*3+2,none⟩=some (.slice A4 q c4)))
        obtain⟨c0,c1,c2⟩:=PC.out wr (Below.refl _ _);have bS:(j:Int)<(M:Int):=by omega
        have bM:IntKind.i64.wrap ((j:Int)+1)=(j:Int)+1:=IntWalk.i64_in _ (by omega);have FI:=kD (find_s Y bd q (by omega) (row_sides B.k1.co.ok (by have:=HP.out;omega)) T ak u9 A3 A4 c3 c4 wr.heap.size wr (Nat.le_refl _) ((relSl RelP 3 enP).weak (B.k1.og.sl enP_len (Nat.le_refl _)) (λ _ _ _=>trivial)) k3.rd k4.rd);have bF:=kD T;have bE:=kD ak;rw [bF.out,bE.out] at aJ;clear hY hp ai a0 ar ad aP k3 k4 T ak a1;go_wp2_with fail;refine FI.out.mono ?_;rintro e w8 ⟨r8,rfl,ac,ao⟩;have B:=B.below ao;have bh:=RelP.keep aJ.out (.below ao);obtain⟨d0,d1,d2⟩:=PC.out w8 ao;clear c0 c1 c2 FI aJ PC ao;obtain⟨x9,az⟩:∃ x,hasB Y bd=x:=⟨_,rfl⟩;rw [az] at ac;have HX:=kD az;clear az
        cases x9
        case true =>
         have ac:decide (r8<0)=false:=ac;have bf:addAll X (G.take (j+1))=Y:=by rw [HS.out];exact addOne_has HX.out
         have K9:As2 w w8 v [.slice Ao q co,.slice At q ct] u9 (addAll X (G.take (j+1))) E (k*400000+(j+1)) (.slice (some ⟨b5,o5,none⟩) N cr) J (.slice (some ⟨b7,o7,none⟩) M cn) G:=by
          rw [bf];exact⟨B.k1.more (by omega),B.pl⟩
         clear B bf;go_wp2_with fail;go_roundw
         case rel=>exact⟨j+1,by omega,by go_num,K9⟩
         case measure=>simp [intOf];omega
        case false =>
         have ac:decide (r8<0)=true:=ac;have bG:Y.length<=10000000:=by have:=B.k1.co.len;omega
         have bA:=kD (show addAll X (G.take (j+1))=Y++[(sp,bd)] from by rw [HS.out];exact addOne_new HX.out);have aZ:=B.k1.co.add (p:=(sp,bd)) ap.out;rw [addOne_new (show hasB Y bd=false from HX.out)] at aZ;obtain⟨Z,aC,aD⟩:=B.k1.og;have aO:=kD aD.1;have hu:=aC.block;have aF:=B.k1.ge;go_wp2_with (at_builtin;refine wpL_one rfl _ _ _ rfl (w.heap.size+3) _ 98 i3 (.agg #[.slice none 0 0,.slice none 0 0,.slice none 0 0]) 3 72 Tryz.underlying94 bt bp bo bn rfl (by decide) enP_len u9 Z (.slice A0 n0 S,.slice A3 q c3,.slice A4 q c4) (one_P _ ⟨rfl,rfl,rfl⟩) rfl (aC.alloc _) w8.heap.size 1 98 rfl (RowB.new _ _ _) ?d1 ?d2 ?d3 ?_)
         case d1=>have:=aO.out;unfold maxLen;omega
         case d2=>have:=aO.out;omega
         case d3=>go_size
         intro aH aI aL aw O C bs;have aa:Below w8.heap.size w8 (w8.alloc (.cells #[.slice A0 n0 S,.slice A3 q c3,.slice A4 q c4] 98)):=by go_grown
         have C:u9.ownBlock=some aH∨aH=(w8.alloc (.cells #[.slice A0 n0 S,.slice A3 q c3,.slice A4 q c4] 98)).heap.size:=by simpa using C
         have af:w8.grownBy aL u9.ownBlock:=below_grown (w:=w8) aa O;have a3:RelP.R w8 (NotIn u9 (w.heap.size+3)) (.slice A0 n0 S,.slice A3 q c3,.slice A4 q c4) (sp,bd):=bh;have og:=own_snoc (aD.keep (.below aa)) (RelP.keep a3 (.below aa)) aw O C;have aM:=app_still (K:=relSl RelI 1 en1) (n:=Z.length+1) (c:=aI) O C ((relSl RelI 1 en1).keep B.k1.or_ (.below aa));have pl:=app_still (K:=relSl RelP 3 enP) (n:=Z.length+1) (c:=aI) O C ((relSl RelP 3 enP).keep B.pl (.below aa));have K9:As2 w aL v [.slice Ao q co,.slice At q ct] (.slice (some ⟨aH,0,none⟩) (Z.length+1) aI) (addAll X (G.take (j+1))) E (k*400000+(j+1)) (.slice (some ⟨b5,o5,none⟩) N cr) J (.slice (some ⟨b7,o7,none⟩) M cn) G:=by
          rw [bA.out];exact⟨⟨B.k1.bel.grown af B.k1.bel.size (λ g hg=>by have:=(hu g hg).1;omega),B.k1.rv.grown af (λ g hg=>by have:=(hu g hg).1;omega),B.k1.rb.grown af (λ g hg=>by have:=(hu g hg).1;omega),Nat.le_trans aF af.size,og,aZ.more (by omega),aM⟩,pl⟩
         clear og aM pl af aa aw O C aC aD hu bh a3 B d0 d1 d2;go_wp2_with fail;go_roundw
         case rel=>exact⟨j+1,by omega,by go_num,K9⟩
         case measure=>simp [intOf];omega
       ·obtain rfl:j=M:=by omega
        have bP:¬ ((j:Int)<(j:Int)):=by omega
        have ay:G.take j=G:=List.take_of_length_le (by rw [bk.out];exact Nat.le_refl _);rw [ay] at B;have K9:As1 w wr v [.slice Ao q co,.slice At q ct] u9 (addAll X G) E ((k+1)*400000) (.slice (some ⟨b5,o5,none⟩) N cr) J:=B.k1.more (by omega);clear ay B;go_wp2_with fail;go_roundw
        case rel=>exact⟨k+1,addAll X G,_,by omega,by go_num,by first | rfl | simp,K9,by first | exact W | simpa using W⟩
        case measure=>simp [intOf];omega
  ·obtain rfl:k=N:=by omega
   have bO:¬ ((k:Int)<(k:Int)):=by omega
   obtain rfl:(X,f)=RR:=by rw [<-HG.out,List.drop_of_length_le (by rw [HN.out];exact Nat.le_refl _)];rfl
   have an:=K.bel;have br:=K.og.less (lo':=w.heap.size) (by omega);clear HG K;go_wp2_with fail;go_ret2;exact⟨_,rfl,br,an⟩
end Bd24
end Go.Proofs.YtjdefiinmicjiaaGreatDoor
