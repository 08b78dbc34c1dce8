/- Parts of the proof of FnHints. Conditions: each theorem's own. -/
import Derived.Test.YtmncnhbjifeoeaaGreatT21
set_option linter.unusedVariables false
set_option linter.unusedSimpArgs false
set_option maxHeartbeats 8000000
set_option maxRecDepth 100000
namespace Go.Proofs.YtmncnhbjifeoeaaGreat
namespace Bd25
open Go.ChangeShapes Go.WideShapes Go.ChangeAt Go.RowKit Base Ints Own Clone RelG PlP Bd1 Bd4 Bd5 Bd6 Bd7 Bd7S Bd8 Bd9 Bd11 RegInv RegF RegG Bd16 Bd17 Bd18 Bd19 Bd20 Bd21 Bd22 Bd23 Bd24
def SVi (d:Nat):Prop:=∀(v:Vr) (b:Bd) (hb:Ok v b) (hp:v.p<=6) (Ao At:Option Addr) (co ct:Nat) (w:World),RdS w w.heap.size 1 enI Ao b.1->RdS w w.heap.size 1 enI At b.2->(Ao=none->co=0)->(At=none->ct=0) ->
 Calls Tryz.prog 87 #[.agg #[.int .i64 v.p,.int .i64 v.c,.int .i64 v.h,.int .i64 v.s],.agg #[.slice Ao b.1.length co,.slice At b.2.length ct],.int .i64 (d:Int)] w λ e w'=>e=.returned (.tuple #[.int .i64 (valP v d b),.bool true])∧Below w.heap.size w w'
def PVi (d:Nat):Prop:=∀(v:Vr) (b:Bd) (hb:Ok v b) (hp:v.p<=6) (Ao At:Option Addr) (co ct:Nat) (x y:Int) (hx:1<=x∧x<=6) (hy:1<=y∧y<=6) (w:World),RdS w w.heap.size 1 enI Ao b.1->RdS w w.heap.size 1 enI At b.2->(Ao=none->co=0)->(At=none->ct=0) ->
 Calls Tryz.prog 34 #[.agg #[.int .i64 v.p,.int .i64 v.c,.int .i64 v.h,.int .i64 v.s],.agg #[.slice Ao b.1.length co,.slice At b.2.length ct],.agg #[.int .i64 x,.int .i64 y],.int .i64 (d:Int)] w λ e w'=>∃ vv,e=.returned (.tuple #[vv,.bool true])∧OwnS w' w.heap.size w'.heap.size 2 1 enI vv (plsP v d b x y)∧Below w.heap.size w w'
theorem addAll_len:∀(ps out:List Pl),(addAll out ps).length<=out.length+ps.length:=by
 intro ps
 induction ps with
 | nil=>intro out;exact Nat.le_refl _
 | cons p ps ih =>
  intro out;have b:=ih (addOne out p);have a:=addOne_len out p;have e:addAll out (p :: ps)=addAll (addOne out p) ps:=rfl;rw [e,List.length_cons];omega
theorem allGo_len {v:Vr} {b:Bd} {u M:Nat}:∀(os:List (List Int)) (i:Nat) (out:List Pl) (f:Bool),(∀ o ∈ os,(lngP v b o).1.length<=M)->(allGo v b u i os out f).1.length<=out.length+os.length*M:=by
 intro os
 induction os with
 | nil=>intro i out f _;simp [allGo]
 | cons o os ih =>
  intro i out f h;have c:=h o (List.mem_cons_self ..);simp only [allGo,List.length_cons,Nat.add_mul,Nat.one_mul];split
  ·have:=ih (i+1) out (f && (lngP v b o).2.2) (λ q a=>h q (List.mem_cons_of_mem _ a));omega
  ·have:=ih (i+1) (addAll out (lngP v b o).1) (f && (lngP v b o).2.2) (λ q a=>h q (List.mem_cons_of_mem _ a));have:=addAll_len (lngP v b o).1 out;omega
theorem all_len {v:Vr} {b:Bd} (hb:Ok v b) {x y:Int} (hx:1<=x∧x<=6) (hy:1<=y∧y<=6):(allP v b x y).1.length<=1000000:=by
 have a:=ord_dice hx hy;have:=allGo_len (v:=v) (b:=b) (u:=usedP v b (ordP x y)) (M:=390625) (ordP x y) 0 [] true (λ o c=>(lng_bd hb (a.1 o c)).2);have d:=a.2;unfold allP;have e:(ordP x y).length*390625<=2*390625:=Nat.mul_le_mul_right _ d;simp only [List.length_nil,Nat.zero_add] at this;omega
theorem allSm_i (v:Vr) (b:Bd) (hb:Ok v b) (hp:v.p<=6) (Ao At:Option Addr) (co ct:Nat) (x y:Int) (hx:1<=x∧x<=6) (hy:1<=y∧y<=6) (w:World) (ho:RdS w w.heap.size 1 enI Ao b.1) (ht:RdS w w.heap.size 1 enI At b.2) (hA:Ao=none->co=0) (hT:At=none->ct=0) :
  Calls Tryz.prog 33 #[.agg #[.int .i64 v.p,.int .i64 v.c,.int .i64 v.h,.int .i64 v.s],.agg #[.slice Ao b.1.length co,.slice At b.2.length ct],.agg #[.int .i64 x,.int .i64 y]] w λ e w'=>∃ vv,e=.returned (.tuple #[vv,.bool true])∧OwnG RelP w' w.heap.size w'.heap.size 44 3 enP vv (allP v b x y).1∧Below w.heap.size w w':=by
 have h:=allPl_i v b hb Ao At co ct x y hx hy w ho ht hA hT;have e:=allI_eq hb hx.1 hy.1 (fits_small (v:=v) (b:=b) (x:=x) (y:=y) hp);have d:(allI v b x y).2=true:=by
  unfold allI;have:((ordP x y).map (rowsP v b)).all (λ r=>r.2)=true:=by
   rw [List.all_eq_true];intro r a;obtain⟨o,ho,rfl⟩:=List.mem_map.1 a;have:=fits_small (v:=v) (b:=b) (x:=x) (y:=y) hp o ho;rw [(lng_rows v b o).1] at this;exact this
  simp only [this,if_true];split <;> rfl
 rw [d,e] at h;exact h
structure PvF (w1:World) (l m:List Int) (n:Nat) (p3:Prop) (v3:Value) (w':World):Prop where
 bel:Below w1.heap.size w1 w'
 f3:p3->∃ A1 c1 A2 c2,v3=.agg #[.slice A1 n c1,.slice A2 n c2]∧OwnV 2 1 enI w' All (.slice A1 n c1) l∧OwnV 2 1 enI w' All (.slice A2 n c2) m
theorem PvF.below {w1 w' w'':World} {l m:List Int} {n:Nat} {p3:Prop} {v3:Value} (F:PvF w1 l m n p3 v3 w') (hb:Below w'.heap.size w' w''):PvF w1 l m n p3 v3 w'' :=
 ⟨F.bel.trans (hb.mono F.bel.size),λ h=>by obtain⟨A1,c1,A2,c2,e,h1,h2⟩:=F.f3 h;exact⟨A1,c1,A2,c2,e,h1.keep (.below hb),h2.keep (.below hb)⟩⟩
theorem PvF.skip {w1 w':World} {l m:List Int} {n:Nat} {L:Nat->Prop} {vals:Nat->Value} (F:PvF w1 l m n (L 3) (vals 3) w') (k:Nat) (x:Value) (h3:3≠k:=by decide):PvF w1 l m n (3=k∨L 3) (upd vals k x 3) w':=by
 rw [or_ne h3,upd_ne h3];exact F
theorem own_all {w:World} {lo hi:Nat} {u:Value} {l:List Int} (h:OwnS w lo hi 2 1 enI u l) (hh:hi<=w.heap.size):OwnV 2 1 enI w All u l:=OwnV.of h hh (λ _ _ _=>trivial)
theorem OwnV.none0 {w:World} {S:Nat->Prop} {A:Option Addr} {n c:Nat} {l:List Int} (h:OwnV 2 1 enI w S (.slice A n c) l):A=none->c=0:=by
 obtain⟨d,b,e,-,a⟩:=h.sl enI_len;simp only [Value.slice.injEq] at e;obtain⟨rfl,-,rfl⟩:=e;exact a
theorem OwnV.rd_ {w:World} {S:Nat->Prop} {A:Option Addr} {n c:Nat} {l:List Int} (h:OwnV 2 1 enI w S (.slice A n c) l):RdS w w.heap.size 1 enI A l:=by
 obtain⟨f,d,e,a,b⟩:=h.sl enI_len;simp only [Value.slice.injEq] at e;obtain⟨rfl,-,rfl⟩:=e;exact a.rd
structure Pv (w wr:World) (v:Vr) (gm n k:Nat) (zs:List Int) (pv:Value) (ps:List Pl):Prop where
 bel:Below w.heap.size w wr
 rv:RowB wr w.heap.size 25 (vL v)
 ge:w.heap.size+2<gm
 row:RowB wr gm 2 ((zs.take k).flatMap enI++List.replicate (n - k) (.int .i64 0))
 pl:SlG RelP 3 enP wr (λ b=>b<gm) pv ps
theorem Pv.below {w wr w':World} {v:Vr} {gm n k:Nat} {zs:List Int} {pv:Value} {ps:List Pl} (h:Pv w wr v gm n k zs pv ps) (hb:Below wr.heap.size wr w'):Pv w w' v gm n k zs pv ps :=
 ⟨h.bel.trans (hb.mono h.bel.size),h.rv.below hb h.rv.lt,h.ge,h.row.below hb h.row.lt,(relSl RelP 3 enP).keep h.pl (.below hb)⟩
theorem Pv.put {w wr:World} {v:Vr} {gm n k:Nat} {zs:List Int} {pv:Value} {ps:List Pl} (h:Pv w wr v gm n k zs pv ps) (hk:k<n) {z:Int} (hz:zs[k]?=some z):Pv w (wr.setCell ⟨gm,k,none⟩ (.int .i64 z)) v gm n (k+1) zs pv ps:=by
 have a:=h.ge;refine⟨h.bel.setCell (p:=⟨gm,k,none⟩) (by show _<=gm;omega) _,h.rv.other (p:=⟨gm,k,none⟩) (by show _≠gm;omega) _,a,?_,(relSl RelP 3 enP).keep h.pl (Still.grown (grownBy_setCell wr gm k _) (λ g c d=>by simp at c;omega))⟩;have:=h.row.set k (.int .i64 z);obtain⟨m,b⟩:∃ m,n - k=m+1:=⟨n - k - 1,by omega⟩;rw [b,fill1 hz rfl enI_len] at this;rw [show n - (k+1)=m from by omega];exact this
theorem pv_step (d:Nat) (hd:d<=10) (H:SVi d):PVi d:=by
 intro v b R D Ao At co ct x y hx hy w ho ht hA hT;obtain⟨i0,aN,aJ,aI,aH⟩:=info_parts Ints.info;have hv:=R.v1;obtain⟨P,hP⟩:∃ P:Nat,v.p=(P:Int):=⟨v.p.toNat,by omega⟩;have HP:=kD hP;obtain⟨n,hn⟩:∃ n,P+1=n:=⟨_,rfl⟩;have aZ:n<=7:=by omega
 have aB:b.1.length=n:=by have:=R.own.len;omega
 have aA:b.2.length=n:=by have:=R.oth.len;omega
 have CA:=kD (λ(f:World) (h:Below w.heap.size w f)=>allSm_i v b R D Ao At co ct x y hx hy f ((ho.below h (Nat.le_refl _)).more h.size) ((ht.below h (Nat.le_refl _)).more h.size) hA hT);rw [aB,aA] at CA ⊢;have ap:=all_len R hx hy;have aE:=kD (allP_ok (x:=x) (y:=y) R hx.1 hy.1).1;obtain⟨zs,B⟩:∃ zs,plsP v d b x y=zs:=⟨_,rfl⟩;rw [B];unfold plsP at B;obtain⟨ps,ak⟩:∃ ps,(allP v b x y).1=ps:=⟨_,rfl⟩;rw [ak] at CA ap B aE;have aR:=kD B;obtain⟨M,hM⟩:∃ M,ps.length=M:=⟨_,rfl⟩;have HM:=kD hM;have T:=kD (show zs.length=M from by rw [<-B,List.length_map,hM]);rw [hM] at ap;have aS:=kD D;have HH:=kD H;clear R hv hP aB aA ho ht hA hT ak B hM D hx hy H;go_enter Tryz.func34,Tryz.ntmps34;go_upto_region 1 with fail;refine wp_gen (λ W'=>Below w.heap.size w W'∧RowB W' w.heap.size 25 (vL v)∧RowB W' (w.heap.size+1) 28 [.slice Ao n co,.slice At n ct]∧RowB W' (w.heap.size+2) 30 [.int .i64 x,.int .i64 y]) ⟨by go_grown,((RowB.new _ _ _).alloc _).alloc _,RowB.alloc (RowB.new' _ _ _ (by simp)) _,RowB.new' _ _ _ (by simp)⟩ ?_;rintro w1 ⟨t,V,rb,rr⟩;obtain⟨q0,q1,q2,q3⟩:=V.c4;obtain⟨z0,z1⟩:=rb.c2;obtain⟨r0,r1⟩:=rr.c2;have ad:=V.lt;have aM:=rb.lt;have r:=rr.lt;go_wp2_with fail;refine(CA.out w1 t).mono ?_;rintro e w2 ⟨pv,rfl,ac,Q⟩;have V:=V.below Q V.lt;have t:=t.trans (Q.mono t.size);obtain⟨Aa,ca,ao,-⟩:=Bd19.OwnG.form enP_len ac;rw [HM.out] at ao;subst ao;have HA:=ac.sl enP_len (Nat.le_refl _);have aL:w.heap.size+3<=w1.heap.size:=by omega
 have aK:=Q.size;clear q0 q1 q2 q3 z0 z1 r0 r1 ad aM r rr rb ac CA Q;go_wp2_with (at_make;refine wpList_make_full _ rfl _ _ _ rfl w2.heap.size 2 i0 _ 1 Tryz.underlying26 aN aJ aI _ _ _ _ M rfl rfl rfl rfl ?c1 ?c2 (Nat.le_refl _) ?_)
 case c1=>rw [aH];omega
 case c2=>unfold maxLen;omega
 intro w3 Z I;have O:Below w2.heap.size w2 w3:=(Below.refl _ _).grown I (Nat.le_refl _) (by simp);have K:Pv w w3 v w2.heap.size M 0 zs (.slice Aa M ca) ps:=⟨t.trans (O.mono t.size),V.below O V.lt,by omega,by simpa [made_rep] using RowB.of_own Z,(relSl RelP 3 enP).keep ((relSl RelP 3 enP).weak HA (λ b _ R=>R)) (.below O)⟩;obtain⟨gm,am⟩:∃ g,w2.heap.size=g:=⟨_,rfl⟩;rw [am] at K ⊢;clear Z I O t V HA am aK aL;go_wp2_with fail;go_loopw [31] (λ i wr=>∃ k:Nat,k<=M∧i=.int .i64 (k:Int)∧Pv w wr v gm M k zs (.slice Aa M ca) ps) (λ i _=>M - (intOf i).toNat)
 case atStart=>exact⟨0,Nat.zero_le _,by first | rfl | trivial,K⟩
 case round =>
  obtain⟨k,hk,rfl,K⟩:=hrel;by_cases hlt:k<M
  ·obtain⟨A7,c7,aV,e7,Y,E,-⟩:=K.pl;simp only [Value.slice.injEq] at e7;obtain⟨rfl,-,rfl⟩:=e7;obtain⟨b7,o7,r7,rfl,-,aO,aj,N⟩:=Y.at_ (i:=k) (by rw [E.1,HM.out];exact hlt);obtain⟨p,D,S⟩:=E.at_ aj;obtain⟨sp,C⟩:=p;have J:=kD (aE.out _ (List.mem_of_getElem? D)).1;obtain⟨X,hX⟩:∃ X,valP v d (swp C)=X:=⟨_,rfl⟩;have HZ:=kD (show zs[k]?=some (1000000 - X) from by rw [<-aR.out,List.getElem?_map,D,<-hX];rfl);obtain⟨r0,rl,rm⟩:=r7;have av:=S.1.sl enSt_len;have ar:=S.2.1;have aq:=S.2.2;simp only at av ar aq J;obtain⟨A0,aD,rfl,-⟩:=av;obtain⟨A3,c3,rfl,k3,ax⟩:=ar;obtain⟨A4,c4,rfl,k4,aw⟩:=aq;have r:C.1.length=n:=by have:=J.out.own.len;have:=HP.out;omega
   have G:C.2.length=n:=by have:=J.out.oth.len;have:=HP.out;omega
   obtain⟨n0,al⟩:∃ n,sp.length=n:=⟨_,rfl⟩;have e0:wr.cell? ⟨b7,o7+k*3,none⟩=some (.slice A0 n0 aD):=by have:=N 0 _ rfl;simp only [al] at this;exact this
   have e1:wr.cell? ⟨b7,o7+k*3+1,none⟩=some (.slice A3 n c3):=by have:=N 1 _ rfl;simp only [r] at this;exact this
   have e2:wr.cell? ⟨b7,o7+k*3+2,none⟩=some (.slice A4 n c4):=by have:=N 2 _ rfl;simp only [G] at this;exact this
   have aT:0<=X∧X<=1000000:=by rw [<-hX];exact val_bd d _ (swp_ok J.out)
   have a0:(k:Int)<(M:Int):=by omega
   have aX:IntKind.i64.wrap ((k:Int)+1)=(k:Int)+1:=IntWalk.i64_in _ (by omega);have aW:IntKind.i64.wrap (1000000 - X)=1000000 - X:=IntWalk.i64_in _ (by omega);have ah:=kD (λ(f:World) (h:Below wr.heap.size wr f)=>swap_i C.1 C.2 A3 A4 c3 c4 wr.heap.size f h.size (k3.rd.below h (Nat.le_refl _)) (k4.rd.below h (Nat.le_refl _)) ax aw (by omega) (by omega));rw [r,G] at ah;have ai:=kD (λ(f:World) (A1 A2:Option Addr) (c1 c2:Nat) (h1:OwnV 2 1 enI f All (.slice A1 n c1) C.2) (h2:OwnV 2 1 enI f All (.slice A2 n c2) C.1)=>HH.out v (swp C) (swp_ok J.out) aS.out A1 A2 c1 c2 f (Bd25.OwnV.rd_ h1) (Bd25.OwnV.rd_ h2) (Bd25.OwnV.none0 h1) (Bd25.OwnV.none0 h2));rw [show (swp C).1.length=n from G,show (swp C).2.length=n from r,hX] at ai;have aG:=kD r;have aF:=kD G;clear D S N Y E aj k3 k4 r G al ax aw hX;have ad:=K.rv.lt;go_upto_region 8 with fail;refine wp_gen (λ W'=>Below wr.heap.size wr W'∧RowB W' wr.heap.size 44 [.slice A0 n0 aD,.slice A3 n c3,.slice A4 n c4]) ?_ ?_
   ·exact⟨(Below.refl _ _).alloc (Nat.le_refl _) _,RowB.new _ _ _⟩
   rintro w5 ⟨af,rp⟩;have K:=K.below af;obtain⟨az,aa⟩:∃ g,wr.heap.size=g:=⟨_,rfl⟩;have ag:=kD af;rw [aa] at rp ⊢;have RP:=kD rp;have RV:=kD K.rv;clear e0 e1 e2 aO rp af ad aa;refine rG [some 37,some 38,some 39,some 40,some 41,some 42,some 36,some 43,some 44,some 15,some 16] 11 (Pl [some (.agg #[.int .i64 v.p,.int .i64 v.c,.int .i64 v.h,.int .i64 v.s]),some (.pointer (some ⟨az,1,none⟩)),some (.agg #[.slice A3 n c3,.slice A4 n c4]),none,some (.int .i64 (d:Int)),some (.tuple #[.int .i64 X,.bool true]),some (.tuple #[.int .i64 X,.bool true]),some (.int .i64 X),some (.bool true),some (.int .i64 X),some (.bool true)]) (λ L a w'=>PvF w5 C.2 C.1 n (L 3) (a 3) w') ?g0_1 ?gst_1 ?gfin_1
   case g0_1=>exact⟨(Below.refl _ _).drew,λ h=>absurd h (by decide)⟩
   case gst_1 =>
    refine rN rfl (λ L a A f l j m U F K o=>?_) ?_
    ·have e4:=U.w 4 (.pointer (some ⟨w.heap.size,0,none⟩));obtain⟨q0,q1,q2,q3⟩:=(RV.out.below F.bel RV.out.lt).c4;obtain⟨p0,p1,p2⟩:=(RP.out.below F.bel RP.out.lt).c3
     skip
     go_simp;exact pF o (F.skip 0 _)
    refine rN rfl (λ L a A f l j m U F K o=>?_) ?_
    ·have bb:=U.w 14 (.pointer (some ⟨az,0,none⟩));obtain⟨q0,q1,q2,q3⟩:=(RV.out.below F.bel RV.out.lt).c4;obtain⟨p0,p1,p2⟩:=(RP.out.below F.bel RP.out.lt).c3
     skip
     go_simp;exact pF o (F.skip 1 _)
    refine rN rfl (λ L a A f l j m U F K o=>?_) ?_
    ·have a9:=U.v 1 38;obtain⟨q0,q1,q2,q3⟩:=(RV.out.below F.bel RV.out.lt).c4;obtain⟨p0,p1,p2⟩:=(RP.out.below F.bel RP.out.lt).c3
     skip
     go_simp;exact pF o (F.skip 2 _)
    refine rN rfl (λ L a A f l j m U F K o=>?_) ?_
    ·have a8:=U.v 2 39;go_simp;refine(ah.out f (ag.out.trans (F.bel.mono ag.out.size))).mono ?_;rintro e w6 ⟨A1,c1,A2,c2,rfl,h1,h2,-,ae⟩;rw [aF.out] at h1;rw [aG.out] at h2;simp only [aG.out,aF.out];exact o.out _ w6 (Pl.any rfl) ⟨F.bel.trans (ae.mono F.bel.size),λ _=>⟨A1,c1,A2,c2,rfl,own_all h1 (Nat.le_refl _),own_all h2 (Nat.le_refl _)⟩⟩
    refine rN rfl (λ L a A f l j m U F K o=>?_) ?_
    ·have e3:=U.w 3 (.int .i64 (d:Int));go_simp;exact pF o (F.skip 4 _)
    refine rN rfl (λ L a A f l j m U F K o=>?_) ?_
    ·have ba:=U.v 0 37;have aC:=U.x 3 40;have a7:=U.v 4 41;refine(F.f3 (bK j 3)).elim λ A1 q=>?_
     refine q.elim λ c1 q=>?_
     refine q.elim λ A2 q=>?_
     refine q.elim λ c2 q=>?_
     have aU:=aC.trans q.1;clear aC;go_simp;refine(ai.out f A1 A2 c1 c2 q.2.1 q.2.2).mono ?_;rintro e w6 ⟨rfl,ae⟩;exact pF o ((F.below ae).skip 5 _)
    refine rN rfl (λ L a A f l j m U F K o=>?_) ?_
    ·have a6:=U.v 5 42;go_simp;exact pF o (F.skip 6 _)
    refine rN rfl (λ L a A f l j m U F K o=>?_) ?_
    ·have aP:=U.v 6 36;go_simp;exact pF o (F.skip 7 _)
    refine rN rfl (λ L a A f l j m U F K o=>?_) ?_
    ·have aP:=U.v 6 36;go_simp;exact pF o (F.skip 8 _)
    refine rN rfl (λ L a A f l j m U F K o=>?_) ?_
    ·have a5:=U.v 7 43;go_simp;exact pF o (F.skip 9 _)
    refine rN rfl (λ L a A f l j m U F K o=>?_) ?_
    ·have a4:=U.v 8 44;go_simp;exact pF o (F.skip 10 _)
    exact RelFrom.nil (by decide)
   case gfin_1 =>
    intro a f D F;simp only [Fr,Act.put,sX,Nat.reduceAdd];have an:=F.bel;have h9:a 9=.int .i64 X:=D 9 (by decide) _ rfl;have ay:a 10=.bool true:=D 10 (by decide) _ rfl;rw [h9,ay];clear F D h9 ay;have K:=K.below an;have K9:=kD (K.put hlt HZ.out);obtain⟨z,hz⟩:∃ z,f.cell? ⟨gm,k,none⟩=some z:=by
     rw [K.row.cell];refine⟨_,List.getElem?_eq_getElem ?_⟩;rw [List.length_append,flatMap_len enI_len,List.length_take,List.length_replicate,T.out];omega
    have a3:=K.row.frozen k;have a1:=K.row.lt;clear K an RP RV ag ah ai;go_wp2_with fail;go_roundw
    case rel=>exact⟨k+1,by omega,by go_num,K9.out⟩
    case measure=>simp [intOf];omega
  ·obtain rfl:k=M:=by omega
   have aY:¬ ((k:Int)<(k:Int)):=by omega
   have ab:=K.row;rw [Nat.sub_self,List.replicate_zero,List.append_nil,List.take_of_length_le (by rw [T.out];exact Nat.le_refl _)] at ab;have aQ:=K.bel;have a2:=K.ge;clear K;go_wp2_with fail;go_ret2;have W:=RowB.own ab enI_len (lo:=w.heap.size) (by omega) ab.lt (by rw [T.out];unfold maxLen;omega);rw [T.out] at W;exact⟨_,rfl,W,aQ⟩
end Bd25
namespace Bd26
open Go.ChangeShapes Go.WideShapes Go.ChangeAt Go.RowKit Base Ints Own Clone RelG PlP Bd1 Bd4 Bd5 Bd6 Bd7 Bd7S Bd8 Bd9 Bd11 RegInv RegF RegG Bd16 Bd17 Bd18 Bd19 Bd20 Bd21 Bd22 Bd23 Bd24 Bd12 Bd15 Bd25
def smP (v:Vr) (d:Nat) (b:Bd) (k:Nat):Int:=(((rollsP v.s.toNat).take k).map λ r=>wtP r*grt (plsP v d b r.1 r.2)).sum
theorem smP_zero (v:Vr) (d:Nat) (b:Bd):smP v d b 0=0:=rfl
theorem smP_succ {v:Vr} {d:Nat} {b:Bd} {k:Nat} {r:Int × Int} (h:(rollsP v.s.toNat)[k]?=some r):smP v d b (k+1)=smP v d b k+wtP r*grt (plsP v d b r.1 r.2):=by
 unfold smP;rw [takeS h,List.map_append,List.sum_append];simp
theorem smP_all {v:Vr} {d:Nat} {b:Bd} {k:Nat} (h:(rollsP v.s.toNat).length<=k):smP v d b k=((rollsP v.s.toNat).map λ r=>wtP r*grt (plsP v d b r.1 r.2)).sum:=by
 unfold smP;rw [List.take_of_length_le h]
theorem grt_bd {v:Vr} {d:Nat} {b:Bd} {x y:Int} (hb:Ok v b) (hx:1<=x) (hy:1<=y):0<=grt (plsP v d b x y)∧grt (plsP v d b x y)<=1000000:=by
 have:=pls_bd (d:=d) hb hx hy;exact gr_bd this.1 _ (by have:=this.2;omega)
theorem term_bd {v:Vr} {d:Nat} {b:Bd} {r:Int × Int} (hb:Ok v b) (hx:1<=r.1) (hy:1<=r.2):0<=wtP r*grt (plsP v d b r.1 r.2)∧wtP r*grt (plsP v d b r.1 r.2)<=2000000:=by
 have a:=grt_bd (d:=d) hb hx hy;unfold wtP;split <;> omega
theorem sm_bd {v:Vr} {d:Nat} {b:Bd} (hb:Ok v b):∀ k,k<=(rollsP v.s.toNat).length->0<=smP v d b k∧smP v d b k<=2000000*(k:Int):=by
 intro k
 induction k with
 | zero=>intro _;rw [smP_zero];omega
 | succ k ih =>
  intro h;have f:=ih (by omega);have a:(rollsP v.s.toNat)[k]?=some ((rollsP v.s.toNat)[k]'(by omega)):=List.getElem?_eq_getElem (by omega);have c:=rolls_mem (List.mem_of_getElem? a);have e:=term_bd (d:=d) hb (r:=(rollsP v.s.toNat)[k]'(by omega)) (by omega) (by omega);rw [smP_succ a];omega
theorem val_over {v:Vr} {d:Nat} {b:Bd} (h:over b=true):valP v (d+1) b=est v b:=by simp only [valP];rw [if_pos h]
theorem val_sum {v:Vr} {d:Nat} {b:Bd} (h:over b=false) {k:Nat} (hk:(rollsP v.s.toNat).length<=k):valP v (d+1) b=smP v d b k / (v.s*v.s):=by
 rw [smP_all hk];simp only [valP];rw [if_neg (by rw [h];simp)];rfl
theorem rl2 {w:World} {B:Nat} {A:Option Addr} {xs:List (Int × Int)} (h:RdS w B 2 enI2 A xs) {i:Nat} (hi:i<xs.length) :
  ∃ b off x y,A=some ⟨b,off,none⟩∧b<B∧xs[i]?=some (x,y)∧w.cell? ⟨b,off+i*2,none⟩=some (.int .i64 x)∧w.cell? ⟨b,off+i*2+1,none⟩=some (.int .i64 y):=by
 obtain⟨b,off,⟨x,y⟩,e,d,c,a⟩:=h.at_ hi;exact⟨b,off,x,y,e,d,c,a 0 _ rfl,a 1 _ rfl⟩
theorem sv_zero:SVi 0:=by
 intro v b f A y x s r w q o G E;obtain⟨P,F⟩:∃ P:Nat,v.p=(P:Int):=⟨v.p.toNat,by have:=f.v1;omega⟩;obtain⟨n,B⟩:∃ n,P+1=n:=⟨_,rfl⟩;have d:b.1.length=n:=by have:=f.own.len;omega
 have c:b.2.length=n:=by have:=f.oth.len;omega
 obtain⟨X,i⟩:∃ X,valP v 0 b=X:=⟨_,rfl⟩;have t:=kD (λ(k:World) (h:Below w.heap.size w k)=>Bd13I.est_i v b f y x s r w.heap.size k h.size (q.below h (Nat.le_refl _)) (o.below h (Nat.le_refl _)));rw [show est v b=X from i,d,c] at t;rw [i,d,c];clear f A q o G E i d c B F;go_enter Tryz.func87,Tryz.ntmps87;go_upto_region 1 with fail;refine wp_gen (λ j=>Below w.heap.size w j∧RowB j w.heap.size 25 (vL v)∧RowB j (w.heap.size+1) 28 [.slice y n s,.slice x n r]) ⟨by go_grown,(RowB.new _ _ _).alloc _,RowB.new' _ _ _ (by simp)⟩ ?_;rintro z ⟨a,l,m⟩;obtain⟨N,M,L,K⟩:=l.c4;obtain⟨I,H⟩:=m.c2;have D:=l.lt;have C:=m.lt;go_wp2_with fail;refine(t.out z a).mono ?_;rintro e J ⟨rfl,g⟩;have a:=a.trans (g.mono a.size);go_wp2_with fail;go_ret2;exact⟨rfl,a⟩
theorem sv_step (d:Nat) (hd:d<=10) (H:PVi d):SVi (d+1):=by
 intro v b hb hp Ao At co ct w ho ht hA hT;obtain⟨P,hP⟩:∃ P:Nat,v.p=(P:Int):=⟨v.p.toNat,by have:=hb.v1;omega⟩;obtain⟨n,hn⟩:∃ n,P+1=n:=⟨_,rfl⟩;have aw:b.1.length=n:=by have:=hb.own.len;omega
 have av:b.2.length=n:=by have:=hb.oth.len;omega
 have hv:=hb.v1;have am:okV v=true:=okV_iff.2 hv;obtain⟨D,hD⟩:∃ D,d+1=D:=⟨_,rfl⟩;obtain⟨S,hS⟩:∃ S:Nat,v.s=(S:Int):=⟨v.s.toNat,by omega⟩;have aN:S<=6∧1<=S:=by omega
 have eS:v.s.toNat=S:=by omega
 obtain⟨ov,ae⟩:∃ o,over b=o:=⟨_,rfl⟩;obtain⟨X,hX⟩:∃ X,valP v (d+1) b=X:=⟨_,rfl⟩;have CE:=kD (λ(E:World) (h:Below w.heap.size w E)=>Bd13I.est_i v b hb Ao At co ct w.heap.size E h.size (ho.below h (Nat.le_refl _)) (ht.below h (Nat.le_refl _)));have CO:=kD (λ(E:World) (h:Below w.heap.size w E)=>Bd2.over_i v b hb Ao At co ct w.heap.size E h.size (ho.below h (Nat.le_refl _)) (ht.below h (Nat.le_refl _)) ov ae);have CR:=kD (λ(E:World)=>rolls_i v am E);have CP:=kD (λ(E:World) (h:Below w.heap.size w E) (x y:Int) (hr:(x,y) ∈ rollsP S)=>H v b hb hp Ao At co ct x y (by have:=rolls_mem hr;simp only at this;omega) (by have:=rolls_mem hr;simp only at this;omega) E ((ho.below h (Nat.le_refl _)).more h.size) ((ht.below h (Nat.le_refl _)).more h.size) hA hT);have CW:=kD (λ(E:World) (x y:Int) (hr:(x,y) ∈ rollsP S)=>weight_i v am x y (okR_iff.2 (by have:=rolls_mem hr;simp only at this;omega)) E);have ax:=kD (λ(x y:Int) (hr:(x,y) ∈ rollsP S)=>(⟨pls_bd (d:=d) hb (x:=x) (y:=y) (by have:=rolls_mem hr;simp only at this;omega) (by have:=rolls_mem hr;simp only at this;omega),term_bd (d:=d) hb (r:=(x,y)) (by have:=rolls_mem hr;simp only at this;omega) (by have:=rolls_mem hr;simp only at this;omega)⟩:(((∀ z ∈ plsP v d b x y,0<=z∧z<=1000000)∧0<(plsP v d b x y).length)∧(0<=wtP (x,y)*grt (plsP v d b x y)∧wtP (x,y)*grt (plsP v d b x y)<=2000000))));have ai:=kD (sm_bd (d:=d) hb);have M:=kD (λ(h:ov=true)=>val_over (v:=v) (d:=d) (b:=b) (ae.trans h));have I:=kD (λ(h:ov=false) (k:Nat) (hk:(rollsP v.s.toNat).length<=k)=>val_sum (v:=v) (d:=d) (b:=b) (ae.trans h) hk);have ah:=kD (λ(k:Nat) (r:Int × Int) (h:(rollsP v.s.toNat)[k]?=some r)=>smP_succ (v:=v) (d:=d) (b:=b) h);have aO:(rollsP S).length<=42:=by have:=rolls_len S aN.1;omega
 rw [hX] at M I;rw [eS] at CR ai I ah;rw [aw,av] at CE CO CP;rw [hX,aw,av,hD];have a0:IntKind.i64.wrap ((D:Int) - 1)=(d:Int):=by rw [IntWalk.i64_in _ (by omega)];omega
 have a1:((D:Int) == 0)=false:=by simp;omega
 have HS:=kD hS;clear hb hp ho ht hA hT hX aw av hn hP hv am hD ae eS hS H;go_enter Tryz.func87,Tryz.ntmps87;go_upto_region 1 with fail;refine wp_gen (λ W'=>Below w.heap.size w W'∧RowB W' w.heap.size 25 (vL v)∧RowB W' (w.heap.size+1) 28 [.slice Ao n co,.slice At n ct]) ⟨by go_grown,(RowB.new _ _ _).alloc _,RowB.new' _ _ _ (by simp)⟩ ?_;rintro w1 ⟨c,R,rb⟩;obtain⟨q0,q1,q2,q3⟩:=R.c4;obtain⟨z0,z1⟩:=rb.c2;have m:=R.lt;have J:=rb.lt;go_wp2_with fail;refine(CO.out w1 c).mono ?_;rintro e w2 ⟨rfl,af⟩;have R:=R.below af R.lt;have rb:=rb.below af rb.lt;have c:=c.trans (af.mono c.size);clear q0 q1 q2 q3 z0 z1 m J af CO;obtain⟨q0,q1,q2,q3⟩:=R.c4;obtain⟨z0,z1⟩:=rb.c2;have m:=R.lt;have J:=rb.lt
 cases ov
 case true =>
  obtain rfl:X=est v b:=(M.out rfl);clear I ai ax CP CW CR ah;go_wp2_with fail;refine(CE.out w2 c).mono ?_;rintro e w3 ⟨rfl,Y⟩;have c:=c.trans (Y.mono c.size);go_wp2_with fail;go_ret2;exact⟨rfl,c⟩
 have ak:=kD (I.out rfl);clear CE M I;go_wp2_with fail;refine(CR.out w2).mono ?_;rintro e w3 ⟨lv,rfl,aG,Y⟩;have R:=R.below Y R.lt;have rb:=rb.below Y rb.lt;have c:=c.trans (Y.mono c.size);obtain⟨Al,cl,aK,aE⟩:=aG.form enI2_len;subst aK;obtain⟨N,hN⟩:∃ N,(rollsP S).length=N:=⟨_,rfl⟩;have HN:=kD hN;rw [hN] at aO ⊢;have aQ:=kD aE;clear q0 q1 q2 q3 z0 z1 m J Y CR hN aG aE;have m:=R.lt;go_wp2_with fail;go_loopw [8,25] (λ s i wr=>∃ k:Nat,k<=N∧i=.int .i64 (k:Int)∧s=.int .i64 (smP v d b k)∧Below w3.heap.size w3 wr) (λ _ i _=>N - (intOf i).toNat)
 case atStart=>exact⟨0,Nat.zero_le _,by first | rfl | trivial,by first | rfl | trivial,Below.refl _ _⟩
 case round =>
  obtain⟨k,hk,rfl,rfl,a⟩:=hrel;clear m;have V:=c.trans (a.mono c.size);have j:=R.below a R.lt;have C:=rb.below a rb.lt;have m:=j.lt;have J:=C.lt;have ad:=ai.out k (by rw [HN.out];exact hk);by_cases hlt:k<N
  ·obtain⟨b5,o5,x,y,rfl,aM,al,c0,c1⟩:=rl2 (aQ.out.below a (Nat.le_refl _)) (i:=k) (by rw [HN.out];exact hlt);have HM:=kD (List.mem_of_getElem? al);have Z:=kD (ah.out k (x,y) al);obtain⟨Sk,aH⟩:∃ s,smP v d b k=s:=⟨_,rfl⟩;rw [aH] at ad Z ⊢;obtain⟨⟨aF,aa⟩,ac⟩:=ax.out x y HM.out;obtain⟨O,aA⟩:∃ z,plsP v d b x y=z:=⟨_,rfl⟩;have az:=kD (λ(E:World) (h:Below w.heap.size w E)=>CP.out E h x y HM.out);have ay:=kD (λ(E:World)=>CW.out E x y HM.out);rw [aA] at aF aa ac az Z;obtain⟨W,hW⟩:∃ q,wtP (x,y)=q:=⟨_,rfl⟩;rw [hW] at ay ac Z;have ap:=fg_gr O (O.length - 1);have K:at_ O (fgP O)=grt O:=ap.1;have ao:fgP O<O.length:=by have:=ap.2;show fgU O (O.length - 1)<_;omega
   obtain⟨G,hG⟩:∃ g,grt O=g:=⟨_,rfl⟩;rw [hG] at ac Z K;obtain⟨fg,hf⟩:∃ f,fgP O=f:=⟨_,rfl⟩;have CF:=kD (λ(E:World) (A:Option Addr) (cp B:Nat) (hr:RdS E B 1 enI A O)=>first_i A cp B O E hr aa);rw [hf] at CF ao K;obtain⟨L,hL⟩:∃ l,O.length=l:=⟨_,rfl⟩;have HL:=kD hL;have aR:=kD ao;have aP:=kD K;rw [hL] at ao CF;obtain⟨PV,ar⟩:∃ q,W*G=q:=⟨_,rfl⟩;rw [ar] at ac Z;have aJ:IntKind.i64.wrap (W*G)=PV:=by rw [ar];exact IntWalk.i64_in _ (by omega)
   have aI:IntKind.i64.wrap (Sk+PV)=Sk+PV:=IntWalk.i64_in _ (by omega);have aV:(k:Int)<(N:Int):=by omega
   have aT:IntKind.i64.wrap ((k:Int)+1)=(k:Int)+1:=IntWalk.i64_in _ (by omega);have aW:(fg:Int)<(L:Int):=by omega
   clear al aH aA hW hG hf hL ar aF aa ap K;go_upto_region 7 with fail;refine wp_gen (λ W'=>Below wr.heap.size wr W'∧RowB W' wr.heap.size 30 [.int .i64 x,.int .i64 y]) ?_ ?_
   ·exact⟨(Below.refl _ _).alloc (Nat.le_refl _) _,RowB.new _ _ _⟩
   rintro w5 ⟨F,rr⟩;have j:=j.below F j.lt;have C:=C.below F C.lt;have V:=V.trans (F.mono V.size);have a:=a.trans (F.mono a.size);obtain⟨gr,K⟩:∃ g,wr.heap.size=g:=⟨_,rfl⟩;rw [K] at rr ⊢;clear c0 c1 aM F m J K;obtain⟨q0,q1,q2,q3⟩:=j.c4;obtain⟨z0,z1⟩:=C.c2;obtain⟨r0,r1⟩:=rr.c2;have m:=j.lt;have J:=C.lt;have an:=rr.lt;go_wp2_with fail;refine(az.out w5 V).mono ?_;rintro e w6 ⟨vv,rfl,aD,ab⟩;have j:=j.below ab j.lt;have C:=C.below ab C.lt;have rr:=rr.below ab rr.lt;have a:=a.trans (ab.mono a.size);obtain⟨Av,cv,aB,aC⟩:=aD.form enI_len;rw [HL.out] at aB;subst aB;have ag:=kD aC;clear q0 q1 q2 q3 z0 z1 r0 r1 m J an ab aD aC az V;obtain⟨q0,q1,q2,q3⟩:=j.c4;obtain⟨r0,r1⟩:=rr.c2;have m:=j.lt;have an:=rr.lt;go_wp2_with fail;refine(ay.out w6).mono ?_;rintro e w7 ⟨rfl,aq⟩;have a:=a.trans (aq.mono a.size);have ag:=kD (ag.out.below aq (Nat.le_refl _));clear q0 q1 q2 q3 r0 r1 m an j C rr aq ay;obtain⟨b8,o8,rfl,aX,aL⟩:=at_rd ag.out (i:=fg) aR.out;rw [aP.out] at aL;go_wp2_with fail;refine(CF.out w7 _ cv _ ag.out).mono ?_;rintro e w8 ⟨rfl,rfl⟩;go_wp2_with fail;go_roundw
   case rel=>exact⟨k+1,by omega,by go_num,by rw [Z.out],a⟩
   case measure=>simp [intOf];omega
  ·obtain rfl:k=N:=by omega
   have aU:¬ ((k:Int)<(k:Int)):=by omega
   have hX:=ak.out k (by rw [HN.out];exact Nat.le_refl _);rw [HS.out] at hX;obtain⟨Q,hQ⟩:∃ q,(S:Int)*(S:Int)=q:=⟨_,rfl⟩;have aj:1<=Q∧Q<=36:=by
    rw [<-hQ];have:S=1∨S=2∨S=3∨S=4∨S=5∨S=6:=by omega
    rcases this with rfl | rfl | rfl | rfl | rfl | rfl <;> omega
   obtain⟨T,hT⟩:∃ t,smP v d b k=t:=⟨_,rfl⟩;rw [hT] at hX ad ⊢;rw [hQ] at hX;have aJ:IntKind.i64.wrap ((S:Int)*(S:Int))=Q:=by rw [hQ];exact IntWalk.i64_in _ (by omega)
   have aZ:¬ Q=0:=by omega
   have aY:Int.tdiv T Q=X:=by rw [hX,Int.tdiv_eq_ediv_of_nonneg ad.1]
   have aS:0<=X∧X<=100000000:=by
    rw [hX];exact⟨Int.ediv_nonneg ad.1 (by omega),Int.ediv_le_of_le_mul (by omega) (by have:(100000000:Int)*1<=100000000*Q:=Int.mul_le_mul_of_nonneg_left aj.1 (by omega);omega)⟩
   have aI:IntKind.i64.wrap X=X:=IntWalk.i64_in _ (by omega);obtain⟨q0,q1,q2,q3⟩:=j.c4;rw [HS.out] at q3;clear hX hT hQ ai ax CP CW ak ah aj;go_wp2_with fail;go_ret2;exact⟨rfl,V⟩
theorem vals_i:∀ d,d<=5->SVi d∧PVi d:=by
 intro d
 induction d with
 | zero=>intro _;exact⟨sv_zero,pv_step 0 (by omega) sv_zero⟩
 | succ d ih=>intro h;have:=sv_step d (by omega) (ih (by omega)).2;exact⟨this,pv_step (d+1) (by omega) this⟩
end Bd26
end Go.Proofs.YtmncnhbjifeoeaaGreat
