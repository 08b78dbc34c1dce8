/- Parts of the proof of FnHints. Conditions: each theorem's own. -/
import Derived.Test.YtmncnhbjifeoeaaGreatT22
set_option linter.unusedVariables false
set_option linter.unusedSimpArgs false
set_option maxHeartbeats 8000000
set_option maxRecDepth 100000
namespace Go.Proofs.YtmncnhbjifeoeaaGreat
namespace Bd27
open Go.ChangeShapes Go.WideShapes Go.ChangeAt Go.RowKit Base Ints Own Clone RelG PlP Bd1 Bd4 Bd5 Bd6 Bd7 Bd7S Bd8 Bd9 Bd11 RegInv RegF RegG Bd16 Bd17 Bd18 Bd19 Bd20 Bd21 Bd22 Bd23 Bd24 Bd12 Bd14 Bd15 Bd25 Bd26
def SVs (d:Nat):Prop:=∀(v:Vr) (b:Bd) (hb:Ok v b) (Ao At:Option Addr) (co ct:Nat) (w:World),RdS w w.heap.size 1 enI Ao b.1->RdS w w.heap.size 1 enI At b.2->(Ao=none->co=0)->(At=none->ct=0) ->
 Calls Tryz.prog 90 #[.agg #[.int .i64 v.p,.int .i64 v.c,.int .i64 v.h,.int .i64 v.s],.agg #[.slice Ao b.1.length co,.slice At b.2.length ct],.int .i64 (d:Int)] w λ e w'=>e=.returned (.int .i64 (valP v d b))∧Below w.heap.size w w'
def PVs (d:Nat):Prop:=∀(v:Vr) (b:Bd) (hb:Ok v b) (Ao At:Option Addr) (co ct:Nat) (x y:Int) (hx:1<=x∧x<=6) (hy:1<=y∧y<=6) (w:World),RdS w w.heap.size 1 enI Ao b.1->RdS w w.heap.size 1 enI At b.2->(Ao=none->co=0)->(At=none->ct=0) ->
 Calls Tryz.prog 40 #[.agg #[.int .i64 v.p,.int .i64 v.c,.int .i64 v.h,.int .i64 v.s],.agg #[.slice Ao b.1.length co,.slice At b.2.length ct],.agg #[.int .i64 x,.int .i64 y],.int .i64 (d:Int)] w λ e w'=>∃ vv,e=.returned vv∧OwnS w' w.heap.size w'.heap.size 2 1 enI vv (plsP v d b x y)∧Below w.heap.size w w'
structure PlF (w1:World) (lo:Nat) (u:Value) (zs:List Int) (z:Int) (l m:List Int) (n:Nat) (p7 p11 p12 p13:Prop) (v7 v11 v12 v13:Value) (w':World):Prop where
 pre:¬ p12->Below w1.heap.size w1 w'
 f7:p7->¬ p12->∃ A1 c1 A2 c2,v7=.agg #[.slice A1 n c1,.slice A2 n c2]∧OwnV 2 1 enI w' All (.slice A1 n c1) l∧OwnV 2 1 enI w' All (.slice A2 n c2) m
 f11:p11->¬ p12->∃ g,v11=.slice (some ⟨g,0,none⟩) 1 1∧RowB w' g 2 [.int .i64 z]
 f12:p12->∃ g k c,v12=.slice (some ⟨g,0,none⟩) k c∧OwnS w' lo w'.heap.size 2 1 enI v12 (zs++[z])∧w1.grownBy w' u.ownBlock
 f13:p13->v13=v12
section
variable {w1 w' w'':World} {lo:Nat} {u:Value} {zs:List Int} {z:Int} {l m:List Int} {n:Nat} {p7 p11 p12 p13:Prop} {v7 v11 v12 v13 v':Value}
theorem PlF.skip {L:Nat->Prop} {vals:Nat->Value} (F:PlF w1 lo u zs z l m n (L 7) (L 11) (L 12) (L 13) (vals 7) (vals 11) (vals 12) (vals 13) w') (k:Nat) (x:Value) (h7:7≠k:=by decide) (h11:11≠k:=by decide) (h12:12≠k:=by decide) (h13:13≠k:=by decide) :
  PlF w1 lo u zs z l m n (7=k∨L 7) (11=k∨L 11) (12=k∨L 12) (13=k∨L 13) (upd vals k x 7) (upd vals k x 11) (upd vals k x 12) (upd vals k x 13) w':=by
 rw [or_ne h7,or_ne h11,or_ne h12,or_ne h13,upd_ne h7,upd_ne h11,upd_ne h12,upd_ne h13];exact F
theorem PlF.below (F:PlF w1 lo u zs z l m n p7 p11 p12 p13 v7 v11 v12 v13 w') (n12:¬ p12) (hb:Below w'.heap.size w' w''):PlF w1 lo u zs z l m n p7 p11 p12 p13 v7 v11 v12 v13 w'' :=
 ⟨λ h=>(F.pre h).trans (hb.mono (F.pre h).size),λ h hn=>by obtain⟨A1,c1,A2,c2,e,h1,h2⟩:=F.f7 h hn;exact⟨A1,c1,A2,c2,e,h1.keep (.below hb),h2.keep (.below hb)⟩,λ h hn=>by obtain⟨g,e,h1⟩:=F.f11 h hn;exact⟨g,e,h1.below hb h1.lt⟩,λ h=>absurd h n12,F.f13⟩
theorem PlF.s7 (F:PlF w1 lo u zs z l m n p7 p11 p12 p13 v7 v11 v12 v13 w') {A1 A2:Option Addr} {c1 c2:Nat} (n11:¬ p11) (n12:¬ p12) (hb:Below w'.heap.size w' w'') (h1:OwnS w'' w'.heap.size w''.heap.size 2 1 enI (.slice A1 n c1) l) (h2:OwnS w'' w'.heap.size w''.heap.size 2 1 enI (.slice A2 n c2) m) :
  PlF w1 lo u zs z l m n True p11 p12 p13 (.agg #[.slice A1 n c1,.slice A2 n c2]) v11 v12 v13 w'':=by
 have G:=F.below n12 hb;exact⟨G.pre,λ _ _=>⟨A1,c1,A2,c2,rfl,own_all h1 (Nat.le_refl _),own_all h2 (Nat.le_refl _)⟩,λ h=>absurd h n11,G.f12,G.f13⟩
theorem PlF.s11 (F:PlF w1 lo u zs z l m n p7 p11 p12 p13 v7 v11 v12 v13 w') (n12:¬ p12):PlF w1 lo u zs z l m n p7 True p12 p13 v7 (.slice (some ⟨w'.heap.size,0,none⟩) 1 1) v12 v13 (w'.alloc (.cells ⟨[.int .i64 z]⟩ 2)):=by
 have G:=F.below (w'':=w'.alloc (.cells ⟨[.int .i64 z]⟩ 2)) n12 ((Below.refl _ _).alloc (Nat.le_refl _) _);exact⟨G.pre,G.f7,λ _ _=>⟨_,rfl,RowB.new _ _ _⟩,G.f12,G.f13⟩
theorem PlF.s12 (F:PlF w1 lo u zs z l m n p7 p11 p12 p13 v7 v11 v12 v13 w') (n13:¬ p13) {g k c:Nat} (ho:OwnS w'' lo w''.heap.size 2 1 enI (.slice (some ⟨g,0,none⟩) k c) (zs++[z])) (hg:w1.grownBy w'' u.ownBlock) :
  PlF w1 lo u zs z l m n p7 p11 True p13 v7 v11 (.slice (some ⟨g,0,none⟩) k c) v13 w'' :=
 ⟨λ h=>absurd trivial h,λ _ h=>absurd trivial h,λ _ h=>absurd trivial h,λ _=>⟨g,k,c,rfl,ho,hg⟩,λ h=>absurd h n13⟩
theorem PlF.s13 (F:PlF w1 lo u zs z l m n p7 p11 p12 p13 v7 v11 v12 v13 w'):PlF w1 lo u zs z l m n p7 p11 p12 True v7 v11 v12 v12 w':=⟨F.pre,F.f7,F.f11,F.f12,λ _=>rfl⟩
end
structure Ps (w wr:World) (v:Vr) (u:Value) (zs:List Int) (pv:Value) (ps:List Pl) (lo:Nat):Prop where
 bel:Below w.heap.size w wr
 rv:RowB wr w.heap.size 25 (vL v)
 ge:w.heap.size<lo
 gl:lo<=wr.heap.size
 og:OwnS wr lo wr.heap.size 2 1 enI u zs
 pl:SlG RelP 3 enP wr (λ b=>b<lo) pv ps
theorem ps_step (d:Nat) (hd:d<=10) (H:SVs d):PVs d:=by
 intro v b V Ao At co ct x y hx hy w ho ht hA hT;obtain⟨i0,aT,aM,aL,aK⟩:=info_parts Ints.info;have hv:=V.v1;obtain⟨P,hP⟩:∃ P:Nat,v.p=(P:Int):=⟨v.p.toNat,by omega⟩;have HP:=kD hP;obtain⟨n,hn⟩:∃ n,P+1=n:=⟨_,rfl⟩;have a9:n<=25:=by omega
 have aB:b.1.length=n:=by have:=V.own.len;omega
 have aA:b.2.length=n:=by have:=V.oth.len;omega
 have CA:=kD (λ(r:World) (h:Below w.heap.size w r)=>all_s v b V Ao At co ct x y hx hy r ((ho.below h (Nat.le_refl _)).more h.size) ((ht.below h (Nat.le_refl _)).more h.size) hA hT);rw [aB,aA] at CA ⊢;have ar:=all_len V hx hy;have aF:=kD (allP_ok (x:=x) (y:=y) V hx.1 hy.1).1;obtain⟨S,E⟩:∃ S,plsP v d b x y=S:=⟨_,rfl⟩;rw [E];unfold plsP at E;obtain⟨ps,ab⟩:∃ ps,(allP v b x y).1=ps:=⟨_,rfl⟩;obtain⟨fb,an⟩:∃ f,(allP v b x y).2=f:=⟨_,rfl⟩;rw [ab,an] at CA;rw [ab] at ar E aF;have a2:=kD E;obtain⟨M,hM⟩:∃ M,ps.length=M:=⟨_,rfl⟩;have HM:=kD hM;have aE:=kD (show S.length=M from by rw [<-E,List.length_map,hM]);rw [hM] at ar;have HH:=kD H;clear V hv hP aB aA ho ht hA hT ab an E hM hx hy H;go_enter Tryz.func40,Tryz.ntmps40;go_upto_region 1 with fail;refine wp_gen (λ W'=>Below w.heap.size w W'∧RowB W' w.heap.size 25 (vL v)∧RowB W' (w.heap.size+1) 28 [.slice Ao n co,.slice At n ct]∧RowB W' (w.heap.size+2) 30 [.int .i64 x,.int .i64 y]) ⟨by go_grown,((RowB.new _ _ _).alloc _).alloc _,RowB.alloc (RowB.new' _ _ _ (by simp)) _,RowB.new' _ _ _ (by simp)⟩ ?_;rintro w1 ⟨J,rv,rb,rr⟩;obtain⟨q0,q1,q2,q3⟩:=rv.c4;obtain⟨z0,z1⟩:=rb.c2;obtain⟨r0,r1⟩:=rr.c2;have aS:=rv.lt;have aR:=rb.lt;have C:=rr.lt;go_wp2_with fail;refine(CA.out w1 J).mono ?_;rintro e w2 ⟨pv,rfl,ac,T⟩;have rv:=rv.below T rv.lt;have J:=J.trans (T.mono J.size);obtain⟨Aa,ca,aq,-⟩:=Bd19.OwnG.form enP_len ac;rw [HM.out] at aq;subst aq;have HA:=ac.sl enP_len (Nat.le_refl _);have aQ:w.heap.size+3<=w1.heap.size:=by omega
 have aN:=T.size;clear q0 q1 q2 q3 z0 z1 r0 r1 aS aR C rr rb ac CA T;go_upto_region 3 with fail;refine wp_gen (λ W'=>Ps w W' v (.slice (some ⟨w2.heap.size,0,none⟩) 0 0) [] (.slice Aa M ca) ps w2.heap.size) ?_ ?_
 ·exact⟨by go_grown,rv.alloc _,by omega,by simp,RowB.own (xs:=([]:List Int)) (RowB.new w2 2 []) enI_len (Nat.le_refl _) (by simp) (by decide),(relSl RelP 3 enP).keep ((relSl RelP 3 enP).weak HA (λ b _ V=>V)) (.below (by go_grown))⟩
 intro w3 K;obtain⟨lo,aa⟩:∃ g,w2.heap.size=g:=⟨_,rfl⟩;rw [aa] at K ⊢;clear J rv HA aa aN aQ;go_wp2_with fail;go_loopw [11,12] (λ u i wr=>∃ k:Nat,k<=M∧i=.int .i64 (k:Int)∧Ps w wr v u (S.take k) (.slice Aa M ca) ps lo) (λ _ i _=>M - (intOf i).toNat)
 case atStart=>exact⟨0,Nat.zero_le _,by first | rfl | trivial,K⟩
 case round =>
  obtain⟨k,hk,rfl,K⟩:=hrel;by_cases hlt:k<M
  ·obtain⟨A7,c7,a5,e7,Z,G,-⟩:=K.pl;simp only [Value.slice.injEq] at e7;obtain⟨rfl,-,rfl⟩:=e7;obtain⟨R,Q,r7,rfl,-,ap,aj,ao⟩:=Z.at_ (i:=k) (by rw [G.1,HM.out];exact hlt);obtain⟨p,hp,W⟩:=G.at_ aj;obtain⟨sp,D⟩:=p;have O:=kD (aF.out _ (List.mem_of_getElem? hp)).1;obtain⟨X,hX⟩:∃ X,valP v d (swp D)=X:=⟨_,rfl⟩;have HZ:=kD (show S.take (k+1)=S.take k++[1000000 - X] from takeS (by rw [<-a2.out,List.getElem?_map,hp,<-hX];rfl));have N:=kD (show (S.take k).length=k from by rw [List.length_take,aE.out];omega);obtain⟨Y,hY⟩:∃ Y,S.take k=Y:=⟨_,rfl⟩;rw [hY] at K HZ N;obtain⟨r0,rl,rm⟩:=r7;have ax:=W.1.sl enSt_len;have aw:=W.2.1;have av:=W.2.2;simp only at ax aw av O;obtain⟨A0,a0,rfl,-⟩:=ax;obtain⟨A3,c3,rfl,k3,az⟩:=aw;obtain⟨A4,c4,rfl,k4,ay⟩:=av;have C:D.1.length=n:=by have:=O.out.own.len;have:=HP.out;omega
   have I:D.2.length=n:=by have:=O.out.oth.len;have:=HP.out;omega
   have PC:=kD (λ(r:World) (h:Below wr.heap.size wr r)=>by
    have e:=λ(i:Nat) (u:Value) (hu:(enP (.slice A0 sp.length a0,.slice A3 D.1.length c3,.slice A4 D.2.length c4))[i]?=some u)=>((Below.cell h (p:=⟨R,Q+k*3+i,none⟩) ap).trans (ao i u hu))
    have h1:r.cell? ⟨R,Q+k*3+1,none⟩=some (.slice A3 n c3):=by have:=e 1 _ rfl;simp only [C] at this;exact this
    have h2:r.cell? ⟨R,Q+k*3+2,none⟩=some (.slice A4 n c4):=by have:=e 2 _ rfl;simp only [I] at this;exact this
    exact(⟨h1,h2⟩:r.cell? ⟨R,Q+k*3+1,none⟩=some (.slice A3 n c3)∧r.cell? ⟨R,Q+k*3+2,none⟩=some (.slice A4 n c4)))
   have a3:0<=X∧X<=1000000:=by rw [<-hX];exact val_bd d _ (swp_ok O.out)
   have ba:(k:Int)<(M:Int):=by omega
   have a7:IntKind.i64.wrap ((k:Int)+1)=(k:Int)+1:=IntWalk.i64_in _ (by omega);have a6:IntKind.i64.wrap (1000000 - X)=1000000 - X:=IntWalk.i64_in _ (by omega);have ag:=kD (λ(r:World) (h:Below wr.heap.size wr r)=>swap_s D.1 D.2 A3 A4 c3 c4 wr.heap.size r h.size (k3.rd.below h (Nat.le_refl _)) (k4.rd.below h (Nat.le_refl _)) az ay (by omega) (by omega));rw [C,I] at ag;have ah:=kD (λ(r:World) (A1 A2:Option Addr) (c1 c2:Nat) (h1:OwnV 2 1 enI r All (.slice A1 n c1) D.2) (h2:OwnV 2 1 enI r All (.slice A2 n c2) D.1)=>HH.out v (swp D) (swp_ok O.out) A1 A2 c1 c2 r (Bd25.OwnV.rd_ h1) (Bd25.OwnV.rd_ h2) (Bd25.OwnV.none0 h1) (Bd25.OwnV.none0 h2));rw [show (swp D).1.length=n from I,show (swp D).2.length=n from C,hX] at ah;have aH:=kD C;have aG:=kD I;have RV:=kD K.rv;have OG:=kD K.og;have aD:=kD K.pl;have BE:=kD K.bel;have al:=K.ge;have aO:=K.gl;clear hp W ao Z G aj k3 k4 C I az ay hX hY ap K;go_wp2_with fail;refine rG [some 27,some 28,some 29,some 30,some 31,some 32,some 33,some 34,some 35,some 36,some 37,some 38,some 39,some 11] 14 (Pl [some (u11),some (.agg #[.int .i64 v.p,.int .i64 v.c,.int .i64 v.h,.int .i64 v.s]),some (.slice (some ⟨R,Q,none⟩) M ca),some (.int .i64 (k:Int)),some (.pointer (some ⟨R,Q+k*3,none⟩)),some (.pointer (some ⟨R,Q+k*3+1,none⟩)),some (.agg #[.slice A3 n c3,.slice A4 n c4]),none,some (.int .i64 (d:Int)),some (.int .i64 X),some (.int .i64 (1000000 - X)),none,none,none]) (λ L a w'=>PlF wr lo u11 Y (1000000 - X) D.2 D.1 n (L 7) (L 11) (L 12) (L 13) (a 7) (a 11) (a 12) (a 13) w') ?g0_2 ?gst_2 ?gfin_2
   case g0_2=>exact⟨λ _=>(Below.refl _ _).drew,λ h=>absurd h (by decide),λ h=>absurd h (by decide),λ h=>absurd h (by decide),λ h=>absurd h (by decide)⟩
   case gst_2 =>
    refine rN rfl (λ L a A r l t m U F K B=>?_) ?_
    ·have bn:A.tmps[11]?.getD undef=u11:=U.z 11 (λ j hl hj=>by obtain rfl:=nd_of _ (by kernel_rfl) j 13 11 hj rfl;exact l (m 13 0 (by kernel_rfl) hl));go_simp;exact pF B (F.skip 0 _)
    refine rN rfl (λ L a A r l t m U F K B=>?_) ?_
    ·have e4:=U.w 4 (.pointer (some ⟨w.heap.size,0,none⟩));have o:=F.pre (λ h=>l (m 12 1 (by kernel_rfl) h));obtain⟨q0,q1,q2,q3⟩:=(RV.out.below o RV.out.lt).c4;obtain⟨p1,p2⟩:=PC.out r o
     skip
     go_simp;exact pF B (F.skip 1 _)
    refine rN rfl (λ L a A r l t m U F K B=>?_) ?_
    ·have e9:=U.w 9 (.slice (some ⟨R,Q,none⟩) M ca);go_simp;exact pF B (F.skip 2 _)
    refine rN rfl (λ L a A r l t m U F K B=>?_) ?_
    ·have af:=U.w 12 (.int .i64 (k:Int));go_simp;exact pF B (F.skip 3 _)
    refine rN rfl (λ L a A r l t m U F K B=>?_) ?_
    ·have bl:=U.v 2 29;have bk:=U.v 3 30;have o:=F.pre (λ h=>l (m 12 4 (by kernel_rfl) h));have pc:=PC.out r o;clear pc;go_simp;exact pF B (F.skip 4 _)
    refine rN rfl (λ L a A r l t m U F K B=>?_) ?_
    ·have bj:=U.v 4 31;have o:=F.pre (λ h=>l (m 12 5 (by kernel_rfl) h));obtain⟨q0,q1,q2,q3⟩:=(RV.out.below o RV.out.lt).c4;obtain⟨p1,p2⟩:=PC.out r o
     skip
     go_simp;exact pF B (F.skip 5 _)
    refine rN rfl (λ L a A r l t m U F K B=>?_) ?_
    ·have bi:=U.v 5 32;have o:=F.pre (λ h=>l (m 12 6 (by kernel_rfl) h));obtain⟨q0,q1,q2,q3⟩:=(RV.out.below o RV.out.lt).c4;obtain⟨p1,p2⟩:=PC.out r o
     skip
     go_simp;exact pF B (F.skip 6 _)
    refine rN rfl (λ L a A r l t m U F K B=>?_) ?_
    ·have bh:=U.v 6 33;have o:=F.pre (λ h=>l (m 12 7 (by kernel_rfl) h));go_simp;refine(ag.out r o).mono ?_;rintro e w6 ⟨A1,c1,A2,c2,rfl,h1,h2,-,ad⟩;rw [aG.out] at h1;rw [aH.out] at h2;simp only [aH.out,aG.out];exact B.out _ w6 (Pl.any rfl) (by simpa [upd] using F.s7 (λ h=>l (m 11 7 (by kernel_rfl) h)) (λ h=>l (m 12 7 (by kernel_rfl) h)) ad h1 h2)
    refine rN rfl (λ L a A r l t m U F K B=>?_) ?_
    ·have e3:=U.w 3 (.int .i64 (d:Int));have o:=F.pre (λ h=>l (m 12 8 (by kernel_rfl) h));have pc:=PC.out r o;clear pc;go_simp;exact pF B (F.skip 8 _)
    refine rN rfl (λ L a A r l t m U F K B=>?_) ?_
    ·have bm:=U.v 1 28;have aC:=U.x 7 34;have bg:=U.v 8 35;refine(F.f7 (bK t 7) (λ h=>l (m 12 9 (by kernel_rfl) h))).elim λ A1 q=>?_
     refine q.elim λ c1 q=>?_
     refine q.elim λ A2 q=>?_
     refine q.elim λ c2 q=>?_
     have a4:=aC.trans q.1;clear aC;go_simp;refine(ah.out r A1 A2 c1 c2 q.2.1 q.2.2).mono ?_;rintro e w6 ⟨rfl,ad⟩;exact pF B ((F.below (λ h=>l (m 12 9 (by kernel_rfl) h)) ad).skip 9 _)
    refine rN rfl (λ L a A r l t m U F K B=>?_) ?_
    ·have bf:=U.v 9 36;have o:=F.pre (λ h=>l (m 12 10 (by kernel_rfl) h));have pc:=PC.out r o;clear pc;go_simp;exact pF B (F.skip 10 _)
    refine rN rfl (λ L a A r l t m U F K B=>?_) ?_
    ·have be:=U.v 10 37;go_simp;exact B.out _ _ (Pl.any rfl) (by simpa [upd] using F.s11 (λ h=>l (m 12 11 (by kernel_rfl) h)))
    refine rN rfl (λ L a A r l t m U F K B=>?_) ?_
    ·have aY:=U.v 0 27;have aX:=U.x 11 38;have o:=F.pre l;refine(F.f11 (bK t 11) l).elim λ aW ai=>?_
     have o9:=(OG.out.below o (Nat.le_refl _)).more o.size;refine wp_one _ _ _ rfl lo r.heap.size 2 i0 (.int .i64 0) 1 8 Tryz.underlying26 aT aM aL aK rfl (by decide) enI_len u11 Y (1000000 - X) (one_I _) (ev aY) o9 aW 1 2 ((ev aX).trans ai.1) ai.2 (by rw [N.out];unfold maxLen;omega) (by rw [N.out];omega) (by have:=o.size;omega) ?_;intro bb bo aI ak am aU aP;exact B.out _ aI (Pl.any rfl) (by simpa [upd] using F.s12 (λ h=>l (m 13 12 (by kernel_rfl) h)) ak (below_grown o am))
    refine rN rfl (λ L a A r l t m U F K B=>?_) ?_
    ·have bc:=U.x 12 39;go_simp;exact B.out _ r (Pl.any rfl) (by simpa [upd] using F.s13)
    exact RelFrom.nil (by decide)
   case gfin_2 =>
    intro a r hp F;simp only [Fr,Act.put,sX,Nat.reduceAdd];obtain⟨aV,aJ,aZ,af,ho,hg⟩:=F.f12 trivial;have ae:=F.f13 trivial;rw [af] at ae ho;clear F hp af;rw [ae];have hu:=OG.out.block;have K9:Ps w r v (.slice (some ⟨aV,0,none⟩) aJ aZ) (S.take (k+1)) (.slice (some ⟨R,Q,none⟩) M ca) ps lo:=by
     rw [HZ.out];exact⟨BE.out.grown hg BE.out.size (λ g h=>by have:=(hu g h).1;omega),RV.out.grown hg (λ g h=>by have:=(hu g h).1;omega),al,Nat.le_trans aO hg.size,ho,(relSl RelP 3 enP).keep aD.out (Still.grown hg (λ g h hn=>by have:=(hu g h).1;omega))⟩
    clear ho hg ae hu OG aD BE RV ag ah PC;go_wp2_with fail;go_roundw
    case rel=>exact⟨k+1,by omega,by go_num,K9⟩
    case measure=>simp [intOf];omega
  ·obtain rfl:k=M:=by omega
   have a8:¬ ((k:Int)<(k:Int)):=by omega
   have og:=K.og;rw [List.take_of_length_le (by rw [aE.out];exact Nat.le_refl _)] at og;have a1:=K.bel;have al:=K.ge;clear K;go_wp2_with fail;go_ret;exact⟨_,rfl,og.less (by omega),a1⟩
structure VlF (w1:World) (zs:List Int) (p14:Prop) (v14:Value) (w':World):Prop where
 bel:Below w1.heap.size w1 w'
 f14:p14->OwnS w' w1.heap.size w'.heap.size 2 1 enI v14 zs
theorem VlF.skip {w1 w':World} {zs:List Int} {L:Nat->Prop} {vals:Nat->Value} (F:VlF w1 zs (L 14) (vals 14) w') (k:Nat) (x:Value) (h14:14≠k:=by decide):VlF w1 zs (14=k∨L 14) (upd vals k x 14) w':=by
 rw [or_ne h14,upd_ne h14];exact F
theorem VlF.below {w1 w' w'':World} {zs:List Int} {p14:Prop} {v14:Value} (F:VlF w1 zs p14 v14 w') (hb:Below w'.heap.size w' w''):VlF w1 zs p14 v14 w'' :=
 ⟨F.bel.trans (hb.mono F.bel.size),λ h=>((F.f14 h).below hb (Nat.le_refl _)).more hb.size⟩
theorem VlF.s14 {w1 w' w'':World} {zs:List Int} {p14:Prop} {v14 v':Value} (F:VlF w1 zs p14 v14 w') (hb:Below w'.heap.size w' w'') (ho:OwnS w'' w'.heap.size w''.heap.size 2 1 enI v' zs):VlF w1 zs True v' w'' :=
 ⟨F.bel.trans (hb.mono F.bel.size),λ _=>ho.less F.bel.size⟩
theorem ss_zero:SVs 0:=by
 intro v b f y x s r w q o F D;obtain⟨P,E⟩:∃ P:Nat,v.p=(P:Int):=⟨v.p.toNat,by have:=f.v1;omega⟩;obtain⟨n,A⟩:∃ n,P+1=n:=⟨_,rfl⟩;have d:b.1.length=n:=by have:=f.own.len;omega
 have c:b.2.length=n:=by have:=f.oth.len;omega
 obtain⟨X,i⟩:∃ X,valP v 0 b=X:=⟨_,rfl⟩;have t:=kD (λ(k:World) (h:Below w.heap.size w k)=>Bd13.est_s v b f y x s r w.heap.size k h.size (q.below h (Nat.le_refl _)) (o.below h (Nat.le_refl _)));rw [show est v b=X from i,d,c] at t;rw [i,d,c];clear f q o F D i d c A E;go_enter Tryz.func90,Tryz.ntmps90;go_upto_region 1 with fail;refine wp_gen (λ j=>Below w.heap.size w j∧RowB j w.heap.size 25 (vL v)∧RowB j (w.heap.size+1) 28 [.slice y n s,.slice x n r]) ⟨by go_grown,(RowB.new _ _ _).alloc _,RowB.new' _ _ _ (by simp)⟩ ?_;rintro z ⟨a,l,m⟩;obtain⟨M,L,K,J⟩:=l.c4;obtain⟨H,G⟩:=m.c2;have C:=l.lt;have B:=m.lt;go_wp2_with fail;refine(t.out z a).mono ?_;rintro e I ⟨rfl,g⟩;have a:=a.trans (g.mono a.size);go_wp2_with fail;go_ret;exact⟨rfl,a⟩
theorem ss_step (d:Nat) (hd:d<=10) (H:PVs d):SVs (d+1):=by
 intro v b hb Ao At co ct w ho ht hA hT;obtain⟨P,hP⟩:∃ P:Nat,v.p=(P:Int):=⟨v.p.toNat,by have:=hb.v1;omega⟩;obtain⟨n,hn⟩:∃ n,P+1=n:=⟨_,rfl⟩;have aA:b.1.length=n:=by have:=hb.own.len;omega
 have az:b.2.length=n:=by have:=hb.oth.len;omega
 have hv:=hb.v1;have aq:okV v=true:=okV_iff.2 hv;obtain⟨D,hD⟩:∃ D,d+1=D:=⟨_,rfl⟩;obtain⟨S,hS⟩:∃ S:Nat,v.s=(S:Int):=⟨v.s.toNat,by omega⟩;have aP:S<=6∧1<=S:=by omega
 have eS:v.s.toNat=S:=by omega
 obtain⟨ov,ai⟩:∃ o,over b=o:=⟨_,rfl⟩;obtain⟨X,hX⟩:∃ X,valP v (d+1) b=X:=⟨_,rfl⟩;have CE:=kD (λ(f:World) (h:Below w.heap.size w f)=>Bd13.est_s v b hb Ao At co ct w.heap.size f h.size (ho.below h (Nat.le_refl _)) (ht.below h (Nat.le_refl _)));have CO:=kD (λ(f:World) (h:Below w.heap.size w f)=>Bd2.over_s v b hb Ao At co ct w.heap.size f h.size (ho.below h (Nat.le_refl _)) (ht.below h (Nat.le_refl _)) ov ai);have CR:=kD (λ(f:World)=>rolls_s v aq f);have CB:=kD (λ(f:World)=>base_s v aq f);have CP:=kD (λ(f:World) (h:Below w.heap.size w f) (x y:Int) (hr:(x,y) ∈ rollsP S)=>H v b hb Ao At co ct x y (by have:=rolls_mem hr;simp only at this;omega) (by have:=rolls_mem hr;simp only at this;omega) f ((ho.below h (Nat.le_refl _)).more h.size) ((ht.below h (Nat.le_refl _)).more h.size) hA hT);have aB:=kD (λ(x y:Int) (hr:(x,y) ∈ rollsP S)=>(⟨pls_bd (d:=d) hb (x:=x) (y:=y) (by have:=rolls_mem hr;simp only at this;omega) (by have:=rolls_mem hr;simp only at this;omega),term_bd (d:=d) hb (r:=(x,y)) (by have:=rolls_mem hr;simp only at this;omega) (by have:=rolls_mem hr;simp only at this;omega)⟩:(((∀ z ∈ plsP v d b x y,0<=z∧z<=1000000)∧0<(plsP v d b x y).length)∧(0<=wtP (x,y)*grt (plsP v d b x y)∧wtP (x,y)*grt (plsP v d b x y)<=2000000))));have al:=kD (sm_bd (d:=d) hb);have Z:=kD (λ(h:ov=true)=>val_over (v:=v) (d:=d) (b:=b) (ai.trans h));have V:=kD (λ(h:ov=false) (k:Nat) (hk:(rollsP v.s.toNat).length<=k)=>val_sum (v:=v) (d:=d) (b:=b) (ai.trans h) hk);have ak:=kD (λ(k:Nat) (r:Int × Int) (h:(rollsP v.s.toNat)[k]?=some r)=>smP_succ (v:=v) (d:=d) (b:=b) h);have aQ:(rollsP S).length<=42:=by have:=rolls_len S aP.1;omega
 rw [hX] at Z V;rw [eS] at CR al V ak;rw [aA,az] at CE CO CP;rw [hX,aA,az,hD];have a2:IntKind.i64.wrap ((D:Int) - 1)=(d:Int):=by rw [IntWalk.i64_in _ (by omega)];omega
 have a3:((D:Int) == 0)=false:=by simp;omega
 have HS:=kD hS;clear hb ho ht hA hT hX aA az hn hP hv aq hD ai eS hS H;go_enter Tryz.func90,Tryz.ntmps90;go_upto_region 1 with fail;refine wp_gen (λ W'=>Below w.heap.size w W'∧RowB W' w.heap.size 25 (vL v)∧RowB W' (w.heap.size+1) 28 [.slice Ao n co,.slice At n ct]) ⟨by go_grown,(RowB.new _ _ _).alloc _,RowB.new' _ _ _ (by simp)⟩ ?_;rintro w1 ⟨J,rv,rb⟩;obtain⟨q0,q1,q2,q3⟩:=rv.c4;obtain⟨z0,z1⟩:=rb.c2;have Y:=rv.lt;have ae:=rb.lt;go_wp2_with fail;refine(CO.out w1 J).mono ?_;rintro e w2 ⟨rfl,aj⟩;have rv:=rv.below aj rv.lt;have rb:=rb.below aj rb.lt;have J:=J.trans (aj.mono J.size);clear q0 q1 q2 q3 z0 z1 Y ae aj CO;obtain⟨q0,q1,q2,q3⟩:=rv.c4;obtain⟨z0,z1⟩:=rb.c2;have Y:=rv.lt;have ae:=rb.lt
 cases ov
 case true =>
  obtain rfl:X=est v b:=(Z.out rfl);clear V al aB CP CR ak CB;go_wp2_with fail;refine(CE.out w2 J).mono ?_;rintro e w3 ⟨rfl,ab⟩;have J:=J.trans (ab.mono J.size);go_wp2_with fail;go_ret;exact⟨rfl,J⟩
 have an:=kD (V.out rfl);clear CE Z V;go_wp2_with fail;refine(CR.out w2).mono ?_;rintro e w3 ⟨lv,rfl,aH,ab⟩;have rv:=rv.below ab rv.lt;have rb:=rb.below ab rb.lt;have J:=J.trans (ab.mono J.size);obtain⟨Al,cl,aN,aF⟩:=aH.form enI2_len;subst aN;obtain⟨N,hN⟩:∃ N,(rollsP S).length=N:=⟨_,rfl⟩;have HN:=kD hN;rw [hN] at aQ ⊢;have aS:=kD aF;clear q0 q1 q2 q3 z0 z1 Y ae ab CR hN aH aF;have Y:=rv.lt;go_wp2_with fail;go_loopw [8,9] (λ s i wr=>∃ k:Nat,k<=N∧i=.int .i64 (k:Int)∧s=.int .i64 (smP v d b k)∧Below w3.heap.size w3 wr) (λ _ i _=>N - (intOf i).toNat)
 case atStart=>exact⟨0,Nat.zero_le _,by first | rfl | trivial,by first | rfl | trivial,Below.refl _ _⟩
 case round =>
  obtain⟨k,hk,rfl,rfl,O⟩:=hrel;clear Y;have aa:=J.trans (O.mono J.size);have af:=rv.below O rv.lt;have ao:=rb.below O rb.lt;have Y:=af.lt;have ae:=ao.lt;have ah:=al.out k (by rw [HN.out];exact hk);by_cases hlt:k<N
  ·obtain⟨b5,o5,x,y,rfl,aw,ap,c0,c1⟩:=rl2 (aS.out.below O (Nat.le_refl _)) (i:=k) (by rw [HN.out];exact hlt);have R:=kD (λ(f:World) (h:Below wr.heap.size wr f)=>(⟨(Below.cell h (p:=⟨b5,o5+k*2,none⟩) (Nat.lt_of_lt_of_le aw O.size)).trans c0,(Below.cell h (p:=⟨b5,o5+k*2+1,none⟩) (Nat.lt_of_lt_of_le aw O.size)).trans c1⟩:f.cell? ⟨b5,o5+k*2,none⟩=some (.int .i64 x)∧f.cell? ⟨b5,o5+k*2+1,none⟩=some (.int .i64 y)));have HM:=kD (List.mem_of_getElem? ap);have ac:=kD (ak.out k (x,y) ap);obtain⟨Sk,aI⟩:∃ s,smP v d b k=s:=⟨_,rfl⟩;rw [aI] at ah ac ⊢;obtain⟨⟨aG,ad⟩,ag⟩:=aB.out x y HM.out;obtain⟨zs,aE⟩:∃ z,plsP v d b x y=z:=⟨_,rfl⟩;have aD:=kD (λ(f:World) (h:Below w.heap.size w f)=>CP.out f h x y HM.out);have aC:=kD (λ(f:World)=>weight_s x y f);rw [aE] at aG ad ag aD ac;obtain⟨W,hW⟩:∃ q,wtP (x,y)=q:=⟨_,rfl⟩;rw [hW] at aC ag ac;obtain⟨G,hG⟩:∃ g,grt zs=g:=⟨_,rfl⟩;have CG:=kD (λ(f:World) (A:Option Addr) (cp B:Nat) (hr:RdS f B 1 enI A zs)=>great_s A cp B zs f hr ad);rw [hG] at ag ac CG;obtain⟨L,hL⟩:∃ l,zs.length=l:=⟨_,rfl⟩;have HL:=kD hL;rw [hL] at CG;obtain⟨PV,ax⟩:∃ q,W*G=q:=⟨_,rfl⟩;rw [ax] at ag ac;have aX:IntKind.i64.wrap (W*G)=PV:=by rw [ax];exact IntWalk.i64_in _ (by omega)
   have aM:IntKind.i64.wrap (Sk+PV)=Sk+PV:=IntWalk.i64_in _ (by omega);have aZ:(k:Int)<(N:Int):=by omega
   have aW:IntKind.i64.wrap ((k:Int)+1)=(k:Int)+1:=IntWalk.i64_in _ (by omega);have RV:=kD af;have RB:=kD ao;have BE:=kD aa;have BK:=kD O;clear ap aI aE hW hG hL ax aG ad c0 c1 aw af ao aa O Y ae;go_wp2_with fail;refine rG [some 27,some 28,some 29,some 30,some 31,some 32,some 33,some 34,some 35,some 36,some 37,some 38,some 39,some 40,some 41,some 42,some 43,some 44,some 8] 19 (Pl [some (.int .i64 Sk),some (.slice (some ⟨b5,o5,none⟩) N cl),some (.int .i64 (k:Int)),some (.pointer (some ⟨b5,o5+k*2,none⟩)),some (.agg #[.int .i64 x,.int .i64 y]),some (.int .i64 W),some (.agg #[.int .i64 v.p,.int .i64 v.c,.int .i64 v.h,.int .i64 v.s]),some (.agg #[.slice Ao n co,.slice At n ct]),some (.slice (some ⟨b5,o5,none⟩) N cl),some (.int .i64 (k:Int)),some (.pointer (some ⟨b5,o5+k*2,none⟩)),some (.agg #[.int .i64 x,.int .i64 y]),some (.int .i64 (D:Int)),some (.int .i64 (d:Int)),none,some (.int .i64 G),some (.int .i64 PV),some (.int .i64 (Sk+PV)),some (.int .i64 (Sk+PV))]) (λ L a w'=>VlF wr zs (L 14) (a 14) w') ?g0_3 ?gst_3 ?gfin_3
   case g0_3=>exact⟨(Below.refl _ _).drew,λ h=>absurd h (by decide)⟩
   case gst_3 =>
    refine rN rfl (λ L a A f m C E U F K I=>?_) ?_
    ·have e8:A.tmps[8]?.getD undef=.int .i64 Sk:=U.z 8 (λ j hl hj=>by obtain rfl:=nd_of _ (by kernel_rfl) j 18 8 hj rfl;exact m (E 18 0 (by kernel_rfl) hl));have M:=R.out f F.bel;clear M;go_simp;exact pF I (F.skip 0 _)
    refine rN rfl (λ L a A f m C E U F K I=>?_) ?_
    ·have e7:=U.w 7 (.slice (some ⟨b5,o5,none⟩) N cl);have M:=R.out f F.bel;clear M;go_simp;exact pF I (F.skip 1 _)
    refine rN rfl (λ L a A f m C E U F K I=>?_) ?_
    ·have e9:=U.w 9 (.int .i64 (k:Int));have M:=R.out f F.bel;clear M;go_simp;exact pF I (F.skip 2 _)
    refine rN rfl (λ L a A f m C E U F K I=>?_) ?_
    ·have bj:=U.v 1 28;have bi:=U.v 2 29;have M:=R.out f F.bel;clear M;go_simp;exact pF I (F.skip 3 _)
    refine rN rfl (λ L a A f m C E U F K I=>?_) ?_
    ·have bh:=U.v 3 30;obtain⟨q0,q1,q2,q3⟩:=(RV.out.below F.bel RV.out.lt).c4;obtain⟨z0,z1⟩:=(RB.out.below F.bel RB.out.lt).c2;obtain⟨c0,c1⟩:=R.out f F.bel
     skip
     go_simp;exact pF I (F.skip 4 _)
    refine rN rfl (λ L a A f m C E U F K I=>?_) ?_
    ·have bg:=U.v 4 31;go_simp;refine(aC.out f).mono ?_;rintro e w6 ⟨rfl,av⟩;exact pF I ((F.below av).skip 5 _)
    refine rN rfl (λ L a A f m C E U F K I=>?_) ?_
    ·have e3:=U.w 3 (.pointer (some ⟨w.heap.size,0,none⟩));obtain⟨q0,q1,q2,q3⟩:=(RV.out.below F.bel RV.out.lt).c4;obtain⟨z0,z1⟩:=(RB.out.below F.bel RB.out.lt).c2;obtain⟨c0,c1⟩:=R.out f F.bel
     skip
     go_simp;exact pF I (F.skip 6 _)
    refine rN rfl (λ L a A f m C E U F K I=>?_) ?_
    ·have e4:=U.w 4 (.pointer (some ⟨w.heap.size+1,0,none⟩));obtain⟨q0,q1,q2,q3⟩:=(RV.out.below F.bel RV.out.lt).c4;obtain⟨z0,z1⟩:=(RB.out.below F.bel RB.out.lt).c2;obtain⟨c0,c1⟩:=R.out f F.bel
     skip
     go_simp;exact pF I (F.skip 7 _)
    refine rN rfl (λ L a A f m C E U F K I=>?_) ?_
    ·have e7:=U.w 7 (.slice (some ⟨b5,o5,none⟩) N cl);have M:=R.out f F.bel;clear M;go_simp;exact pF I (F.skip 8 _)
    refine rN rfl (λ L a A f m C E U F K I=>?_) ?_
    ·have e9:=U.w 9 (.int .i64 (k:Int));have M:=R.out f F.bel;clear M;go_simp;exact pF I (F.skip 9 _)
    refine rN rfl (λ L a A f m C E U F K I=>?_) ?_
    ·have bc:=U.v 8 35;have bb:=U.v 9 36;have M:=R.out f F.bel;clear M;go_simp;exact pF I (F.skip 10 _)
    refine rN rfl (λ L a A f m C E U F K I=>?_) ?_
    ·have ba:=U.v 10 37;obtain⟨q0,q1,q2,q3⟩:=(RV.out.below F.bel RV.out.lt).c4;obtain⟨z0,z1⟩:=(RB.out.below F.bel RB.out.lt).c2;obtain⟨c0,c1⟩:=R.out f F.bel
     skip
     go_simp;exact pF I (F.skip 11 _)
    refine rN rfl (λ L a A f m C E U F K I=>?_) ?_
    ·have e2:=U.w 2 (.int .i64 (D:Int));have M:=R.out f F.bel;clear M;go_simp;exact pF I (F.skip 12 _)
    refine rN rfl (λ L a A f m C E U F K I=>?_) ?_
    ·have a8:=U.v 12 39;have M:=R.out f F.bel;clear M;go_simp;exact pF I (F.skip 13 _)
    refine rN rfl (λ L a A f m C E U F K I=>?_) ?_
    ·have be:=U.v 6 33;have bd:=U.v 7 34;have a9:=U.v 11 38;have a7:=U.v 13 40;have aO:=BE.out.trans (F.bel.mono BE.out.size);go_simp;refine(aD.out f aO).mono ?_;rintro e w6 ⟨vv,rfl,h3,av⟩;exact I.out _ w6 (Pl.any rfl) (by simpa [upd] using F.s14 av h3)
    refine rN rfl (λ L a A f m C E U F K I=>?_) ?_
    ·have aK:=U.x 14 41;have aL:=F.f14 (bK C 14);refine(aL.form enI_len).elim λ aT q=>?_
     refine q.elim λ aR q=>?_
     have ay:=q.1;rw [HL.out] at ay;have aV:=aK.trans ay;clear aK ay;go_simp;refine(CG.out f aT aR _ q.2).mono ?_;rintro e w6 ⟨rfl,rfl⟩;exact pF I (F.skip 15 _)
    refine rN rfl (λ L a A f m C E U F K I=>?_) ?_
    ·have bf:=U.v 5 32;have a6:=U.v 15 42;have M:=R.out f F.bel;clear M;go_simp;exact pF I (F.skip 16 _)
    refine rN rfl (λ L a A f m C E U F K I=>?_) ?_
    ·have bk:=U.v 0 27;have a5:=U.v 16 43;have M:=R.out f F.bel;clear M;go_simp;exact pF I (F.skip 17 _)
    refine rN rfl (λ L a A f m C E U F K I=>?_) ?_
    ·have a4:=U.v 17 44;have M:=R.out f F.bel;clear M;go_simp;exact pF I (F.skip 18 _)
    exact RelFrom.nil (by decide)
   case gfin_3 =>
    intro a f hp F;simp only [Fr,Act.put,sX,Nat.reduceAdd];have aJ:a 18=.int .i64 (Sk+PV):=hp 18 (by decide) _ rfl;have ar:=BK.out.trans (F.bel.mono BK.out.size);rw [aJ];clear F hp aJ RV RB BE BK R aD aC CG;go_wp2_with fail;go_roundw
    case rel=>exact⟨k+1,by omega,by go_num,by rw [ac.out],ar⟩
    case measure=>simp [intOf];omega
  ·obtain rfl:k=N:=by omega
   have aY:¬ ((k:Int)<(k:Int)):=by omega
   have hX:=an.out k (by rw [HN.out];exact Nat.le_refl _);rw [HS.out] at hX;obtain⟨Q,hQ⟩:∃ q,(S:Int)*(S:Int)=q:=⟨_,rfl⟩;have am:1<=Q∧Q<=36:=by
    rw [<-hQ];have:S=1∨S=2∨S=3∨S=4∨S=5∨S=6:=by omega
    rcases this with rfl | rfl | rfl | rfl | rfl | rfl <;> omega
   obtain⟨T,hT⟩:∃ t,smP v d b k=t:=⟨_,rfl⟩;rw [hT] at hX ah ⊢;rw [hQ] at hX;rw [HS.out,hQ] at CB;have a1:¬ Q=0:=by omega
   have a0:Int.tdiv T Q=X:=by rw [hX,Int.tdiv_eq_ediv_of_nonneg ah.1]
   have aU:0<=X∧X<=100000000:=by
    rw [hX];exact⟨Int.ediv_nonneg ah.1 (by omega),Int.ediv_le_of_le_mul (by omega) (by have:(100000000:Int)*1<=100000000*Q:=Int.mul_le_mul_of_nonneg_left am.1 (by omega);omega)⟩
   have aM:IntKind.i64.wrap X=X:=IntWalk.i64_in _ (by omega);obtain⟨q0,q1,q2,q3⟩:=af.c4;rw [HS.out] at q3;clear hX hT hQ al aB CP an ak am;go_wp2_with fail;refine(CB.out wr).mono ?_;rintro e f ⟨rfl,ar⟩;have aa:=aa.trans (ar.mono aa.size);go_wp2_with fail;go_ret;exact⟨rfl,aa⟩
theorem vals_s:∀ d,d<=5->SVs d∧PVs d:=by
 intro d
 induction d with
 | zero=>intro _;exact⟨ss_zero,ps_step 0 (by omega) ss_zero⟩
 | succ d ih=>intro h;have:=ss_step d (by omega) (ih (by omega)).2;exact⟨this,ps_step (d+1) (by omega) this⟩
end Bd27
namespace Bd29
open Go.ChangeShapes Go.WideShapes Go.ChangeAt Go.RowKit Base Ints Own Clone RelG PlP Bd1 Bd3 Bd3I Bd4 Bd5 Bd6 Bd7 Bd8 Bd9 Bd11 RegInv RegF RegG Bd12 Bd14 Bd15 Bd16 Bd17 Bd18 Bd19 Bd20 Bd21 Bd22 Bd23 Bd24 Bd25 Bd26 Bd27
def codeT (v:Vr) (vb vr:Bool) (d:Int):Int:=if vb=false then 1 else if (decide (0<=d∧d<=1) && vr)=false then 2 else if smV v=false then 3 else 0
theorem codeT_roll (v:Vr) (b:Bd) (r:Bool) (d:Int):codeT v (okB v b) (okV v && r) d=codeT v (okB v b) r d:=by
 unfold codeT
 cases h:okB v b with
 | false=>simp
 | true =>
  have:okV v=true:=okV_iff.2 (okB_iff.1 h).v1;rw [this];simp
theorem codeT_zero {v:Vr} {b:Bd} {r:Bool} {d:Int} (h:codeT v (okB v b) r d=0):Ok v b∧r=true∧(d=0∨d=1)∧v.p<=6∧v.s<=3:=by
 unfold codeT at h
 cases hb:okB v b with
 | false=>rw [hb] at h;simp at h
 | true =>
  rw [hb] at h;simp only [Bool.true_eq_false,if_false] at h
  cases hr:decide (0<=d∧d<=1) && r with
  | false=>rw [hr] at h;simp at h
  | true =>
   rw [hr] at h;simp only [Bool.true_eq_false,if_false] at h;simp only [Bool.and_eq_true,decide_eq_true_eq] at hr
   cases hs:smV v with
   | false=>rw [hs] at h;simp at h
   | true =>
    unfold smV at hs;simp only [Bool.and_eq_true,decide_eq_true_eq] at hs;exact⟨okB_iff.1 hb,hr.2,by omega,by omega,by omega⟩
theorem tutor_i (v:Vr) (vb vr:Bool) (d:Int) (z:Int) (hz:codeT v vb vr d=z) (w:World):Calls Tryz.prog 30 #[.agg #[.int .i64 v.p,.int .i64 v.c,.int .i64 v.h,.int .i64 v.s],.bool vb,.int .i64 d,.bool vr] w λ e w'=>e=.returned (.int .i64 z)∧Below w.heap.size w w':=by
 unfold codeT at hz;obtain⟨l,j⟩:∃ c,decide (0<=d∧d<=1)=c:=⟨_,rfl⟩;obtain⟨k,i⟩:∃ c,smV v=c:=⟨_,rfl⟩;rw [j,i] at hz;have b:=kD hz;have f:=kD (λ w=>in_i d 0 1 l j w);have m:=kD (λ w=>sml_i v k i w);clear hz j i
 cases vb
 ·obtain rfl:z=1:=by rw [<-b.out];rfl
  go_enter Tryz.func30,Tryz.ntmps30;go_wp2_with fail;go_ret;exact⟨rfl,by go_grown⟩
 cases l
 ·obtain rfl:z=2:=by rw [<-b.out];rfl
  go_enter Tryz.func30,Tryz.ntmps30;go_wp2_with fail;refine(f.out _).mono ?_;rintro e g ⟨rfl,rfl⟩;go_wp2_with fail;go_ret;exact⟨rfl,by go_grown⟩
 cases vr
 ·obtain rfl:z=2:=by rw [<-b.out];rfl
  go_enter Tryz.func30,Tryz.ntmps30;go_wp2_with fail;refine(f.out _).mono ?_;rintro e g ⟨rfl,rfl⟩;go_wp2_with fail;go_ret;exact⟨rfl,by go_grown⟩
 cases k
 ·obtain rfl:z=3:=by rw [<-b.out];rfl
  go_enter Tryz.func30,Tryz.ntmps30;go_wp2_with fail;refine(f.out _).mono ?_;rintro e g ⟨rfl,rfl⟩;go_wp2_with fail;refine(m.out _).mono ?_;rintro e n ⟨rfl,a⟩;go_wp2_with fail;go_ret;exact⟨rfl,Below.then_ (by go_grown) a (by go_size)⟩
 ·obtain rfl:z=0:=by rw [<-b.out];rfl
  go_enter Tryz.func30,Tryz.ntmps30;go_wp2_with fail;refine(f.out _).mono ?_;rintro e g ⟨rfl,rfl⟩;go_wp2_with fail;refine(m.out _).mono ?_;rintro e n ⟨rfl,a⟩;go_wp2_with fail;go_ret;exact⟨rfl,Below.then_ (by go_grown) a (by go_size)⟩
structure B3 (w wr:World) (v:Vr) (bs:List Value) (x y:Int):Prop where
 bel:Below w.heap.size w wr
 rv:RowB wr w.heap.size 25 (vL v)
 rb:RowB wr (w.heap.size+1) 28 bs
 rr:RowB wr (w.heap.size+2) 30 [.int .i64 x,.int .i64 y]
theorem B3.below {w wr w':World} {v:Vr} {bs:List Value} {x y:Int} (h:B3 w wr v bs x y) (hb:Below wr.heap.size wr w'):B3 w w' v bs x y :=
 ⟨h.bel.trans (hb.mono h.bel.size),h.rv.below hb h.rv.lt,h.rb.below hb h.rb.lt,h.rr.below hb h.rr.lt⟩
theorem code_s (v:Vr) (b:Bd) (Ao At:Option Addr) (co ct:Nat) (x y d:Int) (z:Int) (hz:codeT v (okB v b) (okR v x y) d=z) (w:World) (ho:RdS w w.heap.size 1 enI Ao b.1) (ht:RdS w w.heap.size 1 enI At b.2) :
  Calls Tryz.prog 39 #[.agg #[.int .i64 v.p,.int .i64 v.c,.int .i64 v.h,.int .i64 v.s],.agg #[.slice Ao b.1.length co,.slice At b.2.length ct],.agg #[.int .i64 x,.int .i64 y],.int .i64 d] w λ e w'=>e=.returned (.int .i64 z)∧Below w.heap.size w w':=by
 unfold codeT at hz;obtain⟨O,I⟩:∃ c,okB v b=c:=⟨_,rfl⟩;obtain⟨N,H⟩:∃ c,decide (0<=d∧d<=1)=c:=⟨_,rfl⟩;obtain⟨M,G⟩:∃ c,smV v=c:=⟨_,rfl⟩;obtain⟨L,F⟩:∃ c,okR v x y=c:=⟨_,rfl⟩;rw [I,H,G,F] at hz;have E:=kD hz;have P:=kD (λ(J:World) (h:Below w.heap.size w J)=>isB_s v b Ao At co ct w.heap.size J h.size (ho.below h (Nat.le_refl _)) (ht.below h (Nat.le_refl _)) O I);have X:=kD (λ w=>in_s d 0 1 N H w);have W:=kD (λ w=>sml_s v M G w);have V:=kD (λ w=>isroll_s v x y L F w);obtain⟨S,A⟩:∃ n,b.1.length=n:=⟨_,rfl⟩;obtain⟨R,t⟩:∃ n,b.2.length=n:=⟨_,rfl⟩;rw [A,t] at P ⊢;clear hz I H G F ho ht A t;go_enter Tryz.func39,Tryz.ntmps39;go_upto_region 1 with fail;refine wp_gen (λ T=>B3 w T v [.slice Ao S co,.slice At R ct] x y) ⟨by go_grown,((RowB.new _ _ _).alloc _).alloc _,RowB.alloc (RowB.new' _ _ _ (by simp)) _,RowB.new' _ _ _ (by simp)⟩ ?_;intro Q K;obtain⟨r,q,o,m⟩:=K.rv.c4;obtain⟨j,i⟩:=K.rb.c2;obtain⟨l,k⟩:=K.rr.c2;have g:=K.rv.lt;have f:=K.rb.lt;have a:=K.rr.lt;go_wp2_with fail;refine(P.out Q K.bel).mono ?_;rintro e w2 ⟨rfl,D⟩;have K:=K.below D;clear r q o m j i l k g f a D;obtain⟨r,q,o,m⟩:=K.rv.c4;obtain⟨j,i⟩:=K.rb.c2;obtain⟨l,k⟩:=K.rr.c2;have g:=K.rv.lt;have f:=K.rb.lt;have a:=K.rr.lt
 cases O
 ·obtain rfl:z=1:=by rw [<-E.out];rfl
  go_wp2_with fail;go_ret;exact⟨rfl,K.bel⟩
 go_wp2_with fail;refine(X.out _).mono ?_;rintro e w3 ⟨rfl,rfl⟩
 cases N
 ·obtain rfl:z=2:=by rw [<-E.out];rfl
  go_wp2_with fail;go_ret;exact⟨rfl,K.bel⟩
 go_wp2_with fail;refine(V.out _).mono ?_;rintro e Z ⟨rfl,C⟩;have K:=K.below C;clear r q o m j i l k g f a C;obtain⟨r,q,o,m⟩:=K.rv.c4;obtain⟨j,i⟩:=K.rb.c2;obtain⟨l,k⟩:=K.rr.c2;have g:=K.rv.lt;have f:=K.rb.lt;have a:=K.rr.lt
 cases L
 ·obtain rfl:z=2:=by rw [<-E.out];rfl
  go_wp2_with fail;go_ret;exact⟨rfl,K.bel⟩
 go_wp2_with fail;refine(W.out _).mono ?_;rintro e Y ⟨rfl,B⟩;have K:=K.below B;clear r q o m j i l k g f a B
 cases M
 ·obtain rfl:z=3:=by rw [<-E.out];rfl
  go_wp2_with fail;go_ret;exact⟨rfl,K.bel⟩
 ·obtain rfl:z=0:=by rw [<-E.out];rfl
  go_wp2_with fail;go_ret;exact⟨rfl,K.bel⟩
end Bd29
end Go.Proofs.YtmncnhbjifeoeaaGreat
