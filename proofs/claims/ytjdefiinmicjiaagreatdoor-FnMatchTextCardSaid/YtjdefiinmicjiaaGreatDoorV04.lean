/- Parts of a proof. Conditions: each theorem's own. -/
import Derived.Test.YtjdefiinmicjiaaGreatDoorV03
import Derived.Laws.IdiomStrings
import Derived.Maps.Own
import Derived.Maps.OwnSet
import Derived.Maps.Views
import Derived.StringKeys
set_option linter.unusedVariables false
set_option linter.unusedSimpArgs false
set_option maxHeartbeats 8000000
set_option maxRecDepth 100000
namespace Go.Proofs.YtjdefiinmicjiaaGreatDoor
theorem lR {n:Nat}:n<=n:=Nat.le_refl n
theorem zRf {B:Nat} {w:Go.World}:Go.RowKit.Below B w w:=Go.RowKit.Below.refl B w
theorem nW {w:Go.World} {e:Go.TypeId} {c:List Go.Value}:Base.RowB (w.alloc (.cells ⟨c⟩ e)) w.heap.size e c:=Base.RowB.new w e c
theorem nX {w:Go.World} {e:Go.TypeId} {c:List Go.Value} {g:Nat} (h:g=w.heap.size:=by simp):Base.RowB (w.alloc (.cells ⟨c⟩ e)) g e c:=Base.RowB.new' w e c h
open _root_.Go.Proofs.Tryz
namespace Gm
open Go Go.ChangeShapes Go.WideShapes Go.ChangeAt Go.RowKit Base Ints Own Clone RelG PlP Bd1 Bd2 Bd4 Bd5 Bd6 Bd7 Bd8 RegInv RegF RegG
def aggC:Value->List Value
 | .agg a=>a.toList
 | _=>[]
theorem two_set:∀(cs:List Value),cs.length=2->∀ a b,setL cs 0 [a,b]=aggC (.agg #[a,b])
 | [_,_],_,_,_=>rfl
structure F3 (w wr:World) (v:Vr) (us:List Value):Prop where
 bel:Below w.heap.size w wr
 rv:RowB wr w.heap.size 25 (vL v)
 rb:RowB wr (w.heap.size+1) 51 us
 rr:RowB wr (w.heap.size+2) 51 [.slice none 0 0,.slice none 0 0]
theorem F3.below {w wr w':World} {v:Vr} {us:List Value} (k:F3 w wr v us) (hb:zB wr w'):F3 w w' v us :=
 ⟨k.bel.tR hb,k.rv.below hb k.rv.lt,k.rb.below hb k.rb.lt,k.rr.below hb k.rr.lt⟩
structure Fl (w wr:World) (v:Vr) (us:List Value) (gb:Nat) (a1 a2:Value) (bk:Bd):Prop where
 k:F3 w wr v us
 rg:RowB wr gb 51 [a1,a2]
 o1:SlV 1 enI wr (λ b=>w.heap.size+3<=b∧b≠gb) a1 bk.1
 o2:SlV 1 enI wr (λ b=>w.heap.size+3<=b∧b≠gb) a2 bk.2
theorem Fl.below {w wr w':World} {v:Vr} {us:List Value} {gb:Nat} {a1 a2:Value} {bk:Bd} (h:Fl w wr v us gb a1 a2 bk) (hb:zB wr w'):Fl w w' v us gb a1 a2 bk :=
 ⟨h.k.below hb,h.rg.below hb h.rg.lt,(relV 1 enI).keep h.o1 (.below hb),(relV 1 enI).keep h.o2 (.below hb)⟩
theorem drop_at {α:Type} {l:List α} {k:Nat} {x:α} (h:l[k]?=some x):l.drop k=x :: l.drop (k+1):=by
 have a:=(List.getElem?_eq_some_iff.1 h);rw [List.drop_eq_getElem_cons a.1,a.2]
theorem st_at {w:World} {B:Nat} {A:Option Addr} {ss:List Stp} (h:RdS w B 4 enSt A ss) {k:Nat} (hk:k<ss.length) :
  ∃ sb so f t d hh,A=some ⟨sb,so,none⟩∧sb<B∧ss[k]?=some (f,t,d,hh)∧w.cell? ⟨sb,so+k*4,none⟩=some (iL f)∧w.cell? ⟨sb,so+k*4+1,none⟩=some (iL t)∧w.cell? ⟨sb,so+k*4+2,none⟩=some (iL d)∧w.cell? ⟨sb,so+k*4+3,none⟩=some (.bool hh):=by
 obtain⟨b,c,⟨p,q,r,s⟩,e,i,g,a⟩:=h.at_ hk;exact⟨b,c,p,q,r,s,e,i,g,a 0 _ rfl,a 1 _ rfl,a 2 _ rfl,a 3 _ rfl⟩
theorem in_at {w:World} {S:Nat->Prop} {A:Option Addr} {ds:List Int} (h:RdF w S 1 enI A ds) {k:Nat} (hk:k<ds.length) :
  ∃ db do_ d,A=some ⟨db,do_,none⟩∧db<w.heap.size∧ds[k]?=some d∧w.cell? ⟨db,do_+k,none⟩=some (iL d):=by
 obtain⟨b,a,x,e,-,g,c,f⟩:=h.at_ hk;exact⟨b,a,x,e,g,c,by simpa using f 0 _ rfl⟩
theorem F3.two {w wr:World} {v:Vr} {us:List Value} {gb:Nat} (k:F3 w wr v us) (h:w.heap.size+3<=gb) (a b:Value):F3 w ((wr.setCell ⟨gb,0,none⟩ a).setCell ⟨gb,1,none⟩ b) v us :=
 ⟨below_two k.bel (by omega) _ _,oth2 k.rv (by omega) _ _,oth2 k.rb (by omega) _ _,oth2 k.rr (by omega) _ _⟩
theorem two_grown (w:World) (g:Nat) (a b:Value):w.grownBy ((w.setCell ⟨g,0,none⟩ a).setCell ⟨g,1,none⟩ b) (some g):=Base.grownBy_trans (Base.grownBy_setCell _ _ _ _) (Base.grownBy_setCell _ _ _ _)
theorem sl_two {w:World} {lo g:Nat} {u:Value} {l:List Int} {S:Nat->Prop} (h:OwnS w lo w.heap.size 2 1 enI u l) (hg:g<lo) (hS:∀ b,lo<=b->S b) (a b:Value):SlV 1 enI ((w.setCell ⟨g,0,none⟩ a).setCell ⟨g,1,none⟩ b) S u l :=
 (relV 1 enI).weak ((relV 1 enI).keep (OwnV.sl enI_len (OwnV.of h lR (S:=λ b=>lo<=b) (λ b hb _=>hb))) (Still.grown (two_grown w g a b) (λ k hk hs=>by simp at hk;omega))) (λ b hb _=>hS b hb)
theorem sl_two' {w:World} {g:Nat} {u:Value} {l:List Int} {S:Nat->Prop} (h:SlV 1 enI w S u l) (hg:¬ S g) (a b:Value):SlV 1 enI ((w.setCell ⟨g,0,none⟩ a).setCell ⟨g,1,none⟩ b) S u l :=
 (relV 1 enI).keep h (Still.grown (two_grown w g a b) (λ k hk hs=>by simp at hk;subst hk;exact hg hs))
theorem legal_stok {v:Vr} {b:Bd} {s:Stp} (hb:Ok v b) (h:legal1 v b s=true):StOk v s:=by
 obtain⟨_,m,e,g⟩:=legal1_iff.1 h;obtain⟨k,j,i,f⟩:=step_parts e hb g;have l:=hb.v1;unfold StOk;rcases f with ⟨a,b,c,d⟩ | ⟨a,b,c⟩
 ·exact⟨e,by omega,λ _=>by omega⟩
 ·exact⟨e,by omega,λ h=>by rw [c] at h;cases h⟩
theorem follow_s (v:Vr) (b:Bd) (hb:Ok v b) (S:Nat->Prop) (u1 u2:Value) (ds:List Int) (hd4:ds.length<=4) (uo:Value) (ss:List Stp) (A:Option Addr) (cp BS:Nat) (w:World) (hBS:BS<=w.heap.size) (hR:BdR w S u1 u2 b) (ho:SlV 1 enI w All uo ds) (hs:RdS w BS 4 enSt A ss) :
  Calls prog 179 #[vA v,.agg #[u1,u2],uo,.slice A ss.length cp] w λ e w'=>Ret RelBB (followP v b ds ss) (λ _=>False) w e w':=by
 obtain⟨⟨A1,c1,rfl,r1,k1⟩,⟨A2,c2,rfl,r2,k2⟩⟩:=hR;obtain⟨Ao,co,rfl,ro,ko⟩:=ho;have aK:b.1.length<=1048577:=by have:=hb.own.len;have:=hb.v1.1;omega
 have aJ:b.2.length<=1048577:=by have:=hb.oth.len;have:=hb.v1.1;omega
 have aA:=kD (λ(z:World) (h9:zB w z)=>own02 A1 c1 z.heap.size b.1 z lR (r1.keep (.below h9)).rd k1 aK);have az:=kD (λ(z:World) (h9:zB w z)=>own02 A2 c2 z.heap.size b.2 z lR (r2.keep (.below h9)).rd k2 aJ);obtain⟨n1,af⟩:=eX (b.1.length);obtain⟨n2,ae⟩:=eX (b.2.length);rw [af] at aA;rw [ae] at az;rw [af,ae];have bh:=kD af;have bg:=kD ae;obtain⟨N,hN⟩:=eX (ss.length);obtain⟨m,hm⟩:=eX (ds.length);have ba:N<=9223372036854775807:=by have:=hs.len;omega
 rw [hm] at hd4;rw [hN,hm];have HN:=kD hN;have HM:=kD hm;have RS:=kD hs;have RO:=kD ro;have HB:=kD hb;obtain⟨R,hR⟩:=eX (followP v b ds ss);rw [hR];have HR:=kD hR;clear af ae hN hm hs ro hb r1 r2 aK aJ hR;go_enter func179,ntmps179;go_upto_region 1 with fail;refine wp_gen (λ H=>F3 w H v [.slice A1 n1 c1,.slice A2 n2 c2]) ⟨by go_grown,((nW).alloc _).alloc _,(nX).alloc _,nX⟩ ?_;intro w1 Q;have aa:=Q.rb.lt;refine rG [some 12,some 13,some 14,some 15,some 16,some 17,some 18,some 10,none] 9 (Pl [some (pT (w.heap.size+1) 0),some (.slice A1 n1 c1),none,some (pT (w.heap.size+1) 1),some (.slice A2 n2 c2),none,none,none,none]) (λ L j w'=>C2F RelI b.1 RelI b.2 w1 2 5 6 7 8 (λ a b=>.agg #[a,b]) aggC 51 2 L j w') ?g0_1 ?gst_1 ?gfin_1
 case g0_1=>exact⟨(zRf).drew,λ h=>absurd h (by decide),λ h=>absurd h (by decide),λ h=>absurd h (by decide),λ h=>absurd h (by decide),λ h=>absurd h (by decide)⟩
 case gst_1 =>
  refine rN rfl (λ L j A z o l D U F K G=>?_) ?_
  ·have e5:=U.w 5 (pT (w.heap.size+1) 0);have rb:=Q.rb.below F.bel aa;obtain⟨y0,y1⟩:=rb.c2;clear rb;go_simp;exact pF G (F.skip 0 _)
  refine rN rfl (λ L j A z o l D U F K G=>?_) ?_
  ·have be:=U.v 0 12;have rb:=Q.rb.below F.bel aa;obtain⟨y0,y1⟩:=rb.c2;clear rb;go_simp;exact pF G (F.skip 1 _)
  refine rN rfl (λ L j A z o l D U F K G=>?_) ?_
  ·have bd:=U.v 1 13;go_simp;refine(aA.out z (Q.bel.trans (F.bel.mono Q.bel.size))).mono ?_;rintro e w6 ⟨⟨v6,rfl,ao⟩,av⟩;exact G.out v6 w6 (Pl.any rfl) (F.call1 o (by decide) av (OwnV.sl enI_len (OwnV.of ao lR (λ b hb _=>hb))))
  refine rN rfl (λ L j A z o l D U F K G=>?_) ?_
  ·have e5:=U.w 5 (pT (w.heap.size+1) 0);have rb:=Q.rb.below F.bel aa;obtain⟨y0,y1⟩:=rb.c2;clear rb;go_simp;exact pF G (F.skip 3 _)
  refine rN rfl (λ L j A z o l D U F K G=>?_) ?_
  ·have bc:=U.v 3 15;have rb:=Q.rb.below F.bel aa;obtain⟨y0,y1⟩:=rb.c2;clear rb;go_simp;exact pF G (F.skip 4 _)
  refine rN rfl (λ L j A z o l D U F K G=>?_) ?_
  ·have bb:=U.v 4 16;go_simp;refine(az.out z (Q.bel.trans (F.bel.mono Q.bel.size))).mono ?_;rintro e w6 ⟨⟨v6,rfl,ao⟩,av⟩;exact G.out v6 w6 (Pl.any rfl) (F.call2 o (by decide) av (OwnV.sl enI_len (OwnV.of ao lR (λ b hb _=>hb))))
  refine rN rfl (λ L j A z o l D U F K G=>?_) ?_
  ·have aM:=U.x 2 14;have aL:=U.x 5 17;refine(F.f1 (bK l 2)).elim λ A3 Z=>?_
   refine Z.elim λ c3 Z=>?_
   refine(F.f2 (bK l 5)).elim λ A4 Y=>?_
   refine Y.elim λ c4 Y=>?_
   have a3:=aM.trans Z.1;have a0:=aL.trans Y.1;clear aM aL;go_simp;exact G.out _ z (Pl.any rfl) (F.built o (by decide) (bK l 2) (bK l 5) (by rw [Z.1,Y.1]))
  refine rN rfl (λ L j A z o l D U F K G=>?_) ?_
  ·go_simp;exact G.out _ _ (Pl.any rfl) (F.box (by decide) (λ h=>o (D 8 7 (by kernel_rfl) h)) rfl)
  refine rN rfl (λ L j A z o l D U F K G=>?_) ?_
  ·have aU:=U.x 7 10;have aT:=U.x 6 18;have fb:=F.fb (bK l 6);refine(F.f1 fb.1).elim λ A3 Z=>?_
   refine Z.elim λ c3 Z=>?_
   refine(F.f2 fb.2.1).elim λ A4 Y=>?_
   refine Y.elim λ c4 Y=>?_
   refine(F.fa (bK l 7)).elim λ g q=>?_
   refine q.2.2.1.elim λ cs qc=>?_
   have T:j 6=.agg #[.slice A3 b.1.length c3,.slice A4 b.2.length c4]:=by rw [fb.2.2,Z.1,Y.1]
   have aI:cs.length=2:=qc.1;refine wp_sm 51 _ _ rfl g 0 [.slice A3 b.1.length c3,.slice A4 b.2.length c4] cs (ev (aU.trans q.1)) (ev (aT.trans T)) 51 qc.2 (by kernel_rfl) (by simp [aI]) rfl ?_;exact G.out undef _ (Pl.any rfl) (F.wrote (by decide) (bK l 6) (bK l 7) q.1 qc.2 (by rw [T];exact two_set cs aI _ _))
  exact RelFrom.nil (by decide)
 intro j z hp F;simp only [Fr,Act.put,sX,Nat.reduceAdd];obtain⟨gb,aq,aH,-,f1,f2⟩:=F.fa trivial;have r:=(F.fw trivial).2 gb aq;obtain⟨-,-,T⟩:=F.fb (F.fw trivial).1;obtain⟨A3,c3,e3,aC,aE⟩:=f1 trivial;obtain⟨A4,c4,e4,aB,aD⟩:=f2 trivial;rw [e3,e4] at T;rw [T] at r;rw [aq];have aP:w.heap.size+3<=gb:=by have:=Q.rr.lt;omega
 have K:Fl w z v [.slice A1 n1 c1,.slice A2 n2 c2] gb (.slice A3 b.1.length c3) (.slice A4 b.2.length c4) b:=⟨Q.below F.bel,r,⟨A3,c3,rfl,aC.weak (λ _ h _=>⟨by have:=Q.rr.lt;have:=h.1;omega,h.2⟩),aE⟩,⟨A4,c4,rfl,aB.weak (λ _ h _=>⟨by have:=Q.rr.lt;have:=h.1;omega,h.2⟩),aD⟩⟩;clear F hp Q aa f1 f2 r T e3 e4 aC aB aE aD aA az aq aH;have aV:Hid (R=followP v b (ds.drop 0) (ss.drop 0)):=HR.out.symm;clear HR;go_wp2_with fail;go_loopw [11] (λ i wr=>∃(k:Nat) (y:Bd) (a1 a2:Value),k<=N∧i=iL (k:Int)∧Fl w wr v [.slice A1 n1 c1,.slice A2 n2 c2] gb a1 a2 y∧Hid (Ok v y)∧Hid (R=followP v y (ds.drop k) (ss.drop k))) (λ i _=>N - (intOf i).toNat)
 case atStart=>exact⟨0,b,_,_,Nat.zero_le _,by first | rfl | trivial,K,HB,aV⟩
 case round =>
  obtain⟨k,y,a1,a2,hk,rfl,K,am,ac⟩:=hrel;by_cases hlt:k<N
  ·obtain⟨⟨B1,e1,rfl,p1,p2⟩,⟨B2,e2,rfl,p3,p4⟩⟩:SlV 1 enI wr _ a1 y.1∧SlV 1 enI wr _ a2 y.2:=⟨K.o1,K.o2⟩;have hw:=K.k.bel;obtain⟨sb,so,f,t,d,hh,rfl,a5,ad,s0,s1,s2,s3⟩:=st_at (RS.out.below hw hBS) (by rw [HN.out];exact hlt);have al:=kD (drop_at ad);obtain⟨W,V⟩:=K.k.rr.c2;have ag:=K.k.rr.lt;have ak:=K.k.rr.frozen;by_cases hmk:m<=k
   ·have O:R=none:=by
     rw [ac.out,al.out,List.drop_eq_nil_of_le (by rw [HM.out];exact hmk)];rfl
    subst O;have aF:decide ((m:Int)<=(k:Int))=true:=decide_eq_true (by omega);have aO:(k:Int)<(N:Int):=by omega
    have a6:¬ k<m:=by omega
    clear ad s0 s1 s2 s3 p1 p2 p3 p4;go_wp2_with fail;go_quiet (fail);go_wp2_with fail;refine bp_gen (λ H=>Below w.heap.size w H∧RowB H (w.heap.size+2) 51 [.slice none 0 0,.slice none 0 0]) ⟨below_two (below_drewN K.k.bel nq) (by omega) _ _,two_ (K.k.rr.drewN nq) _ _⟩ ?_;rintro w8 ⟨M,r8⟩;obtain⟨W,V⟩:=r8.c2;refine bodyPost_ret (v:=.tuple #[.agg #[.slice none 0 0,.slice none 0 0],.bool false]) (by simp [results,results179,go_sem,W,V]) rfl ?_;exact⟨_,rfl,⟨_,_,([],[]),rfl,BdR.nil _ _,λ _ h=>by cases h⟩,M⟩
   obtain⟨db,bf,d2,aR,a9,ar,t0⟩:=in_at (RO.out.keep (.below hw)) (k:=k) (by rw [HM.out];omega);subst aR;have ay:=kD (drop_at ar);have aF:decide ((m:Int)<=(k:Int))=false:=decide_eq_false (by omega);have aO:(k:Int)<(N:Int):=by omega
   have a7:(k:Int)<(m:Int):=by omega
   have aZ:k<m:=by omega
   have aY:decide (m<=k)=false:=decide_eq_false (by omega);by_cases hd:d=d2
   rotate_left
   ·have O:R=none:=by
     rw [ac.out,al.out,ay.out];simp only [followP];rw [if_neg (λ h=>hd h.1)]
    subst O;have aQ:(d != d2)=true:=by simpa using hd
    clear ad ar s0 s1 s3 p1 p2 p3 p4 hmk hd;go_wp2_with fail;go_quiet (fail);go_wp2_with fail;refine bp_gen (λ H=>Below w.heap.size w H∧RowB H (w.heap.size+2) 51 [.slice none 0 0,.slice none 0 0]) ⟨below_two (below_drewN K.k.bel nq) (by omega) _ _,two_ (K.k.rr.drewN nq) _ _⟩ ?_;rintro w8 ⟨M,r8⟩;obtain⟨W,V⟩:=r8.c2;refine bodyPost_ret (v:=.tuple #[.agg #[.slice none 0 0,.slice none 0 0],.bool false]) (by simp [results,results179,go_sem,W,V]) rfl ?_;exact⟨_,rfl,⟨_,_,([],[]),rfl,BdR.nil _ _,λ _ h=>by cases h⟩,M⟩
   subst hd;obtain⟨x,hx⟩:=eX (legal1 v y (f,t,d,hh));have CL:=kD (λ(z:World) (h9:zB wr z)=>legal_s v y am.out _ (.slice B1 y.1.length e1) (.slice B2 y.2.length e2) (f,t,d,hh) z ⟨⟨B1,e1,rfl,p1.keep (.below h9),p2⟩,⟨B2,e2,rfl,p3.keep (.below h9),p4⟩⟩ x hx);simp only at CL;have HX:=kD hx;have P1:=kD p1;have P3:=kD p3;obtain⟨l1,J⟩:=eX (y.1.length);obtain⟨l2,I⟩:=eX (y.2.length);have E:=K.rg;rw [J,I] at CL E;have ax:=kD J;have aw:=kD I;have aQ:(d != d)=false:=by simp
   obtain⟨q0,Z,Y,q3⟩:=K.k.rv.c4;obtain⟨y0,y1⟩:=E.c2;have ap:=K.k.rv.lt;have C:=E.lt;have P:sb<wr.heap.size:=by have:=hw.size;omega
   clear ad ar p1 p3 J I hx hmk;go_wp2_with fail;go_still_tail 23,(by kernel_rfl);go_wp2_with fail;refine(CL.out _ (zRf).drew).mono ?_;rintro e X ⟨rfl,B⟩;have B:Below wr.heap.size wr X:=(Below.refl wr.heap.size wr).drew.trans B;have K:=K.below B;have hw:=hw.tR B;have s0:=B.cell P |>.trans s0
   have s1:=B.cell P |>.trans s1
   have s2:=B.cell P |>.trans s2
   have s3:=B.cell P |>.trans s3
   have E:RowB X gb 51 [.slice B1 l1 e1,.slice B2 l2 e2]:=E.below B C;clear q0 Z Y q3 y0 y1 W V ap ag ak t0 CL C;obtain⟨q0,Z,Y,q3⟩:=K.k.rv.c4;obtain⟨y0,y1⟩:=E.c2;obtain⟨W,V⟩:=K.k.rr.c2;have ap:=K.k.rv.lt;have C:=E.lt;have ag:=K.k.rr.lt;have ak:=K.k.rr.frozen
   cases x
   case false =>
    have O:R=none:=by
     rw [ac.out,al.out,ay.out];simp only [followP];rw [if_neg (λ h=>by rw [HX.out] at h;exact absurd h.2 (by decide))]
    subst O;clear s0 s1 s2 s3;go_wp2_with fail;refine bp_gen (λ H=>Below w.heap.size w H∧RowB H (w.heap.size+2) 51 [.slice none 0 0,.slice none 0 0]) ⟨below_two (K.k.bel) (by omega) _ _,two_ (K.k.rr) _ _⟩ ?_;rintro w8 ⟨M,r8⟩;obtain⟨W,V⟩:=r8.c2;refine bodyPost_ret (v:=.tuple #[.agg #[.slice none 0 0,.slice none 0 0],.bool false]) (by simp [results,results179,go_sem,W,V]) rfl ?_;exact⟨_,rfl,⟨_,_,([],[]),rfl,BdR.nil _ _,λ _ h=>by cases h⟩,M⟩
   case true =>
    have aN:Hid (R=followP v (afterP v y (f,t,d,hh)) (ds.drop (k+1)) (ss.drop (k+1))):=by
     show _=_
     rw [ac.out,al.out,ay.out];simp only [followP];rw [if_pos ⟨trivial,HX.out⟩]
    have an:=kD (legal1_ok am.out HX.out);go_wp2_with fail;go_still_tail 6,(by kernel_rfl);go_wp2_with fail;have CA:=Bd7S.after_s v y am.out B1 B2 e1 e2 X.drew.heap.size (f,t,d,hh) (legal_stok am.out HX.out) X.drew lR (P1.out.keep (.below (B.drew))).rd (P3.out.keep (.below (B.drew))).rd p2 p4;rw [ax.out,aw.out] at CA;refine CA.mono ?_;clear CA;rintro e w3 ⟨B3,e3,B4,e4,rfl,o3,o4,-,aj⟩;have aj:Below X.heap.size X w3:=(Below.refl X.heap.size X).drew.trans aj;have K:=K.below aj;have E:RowB w3 gb 51 [.slice B1 l1 e1,.slice B2 l2 e2]:=E.below aj C;have aG:gb<X.heap.size:=C;clear q0 Z Y q3 y0 y1 W V ap ag ak s0 s1 s2 s3 C;obtain⟨y0,y1⟩:=E.c2;have C:=E.lt;have aS:=E.frozen;obtain⟨b2,ab⟩:=eX (afterP v y (f,t,d,hh));rw [ab] at o3 o4 aN an;rw [ab];obtain⟨l3,ai⟩:=eX (b2.1.length);obtain⟨l4,ah⟩:=eX (b2.2.length);rw [ai] at o3;rw [ah] at o4;rw [ai,ah];have aX:=kD (show OwnS w3 X.heap.size w3.heap.size 2 1 enI (.slice B3 l3 e3) b2.1 from o3);have aW:=kD (show OwnS w3 X.heap.size w3.heap.size 2 1 enI (.slice B4 l4 e4) b2.2 from o4);have a4:w.heap.size+3<=X.heap.size:=by omega
    have bj:=kD ai;have bi:=kD ah;clear o3 o4 ai ah ab;go_upto_region 4 with fail;refine wp_gen (λ H=>Fl w H v [.slice A1 n1 c1,.slice A2 n2 c2] gb (.slice B3 l3 e3) (.slice B4 l4 e4) b2) ⟨K.k.two aP _ _,two_ E _ _,sl_two aX.out aG (λ b hb=>⟨by omega,by omega⟩) _ _,sl_two aW.out aG (λ b hb=>⟨by omega,by omega⟩) _ _⟩ ?_;clear K y0 y1 C aS E;intro w4 K;have a8:=iW (((k:Int)+1));go_wp2_with fail;go_roundw
    case rel=>exact⟨k+1,b2,_,_,by omega,by go_num,K,an,aN⟩
    case measure=>simp [intOf];omega
  ·obtain rfl:N=k:=by omega
   have O:R=some y:=by
    rw [ac.out,show ss.drop N=[] from List.drop_eq_nil_of_le (by rw [HN.out];exact Nat.le_refl _)]
    cases ds.drop N <;> rfl
   subst O;obtain⟨⟨B1,e1,rfl,p1,p2⟩,⟨B2,e2,rfl,p3,p4⟩⟩:SlV 1 enI wr _ a1 y.1∧SlV 1 enI wr _ a2 y.2:=⟨K.o1,K.o2⟩;have E:=K.rg;obtain⟨l1,J⟩:=eX (y.1.length);obtain⟨l2,I⟩:=eX (y.2.length);rw [J,I] at E;have ax:=kD J;have aw:=kD I;obtain⟨y0,y1⟩:=E.c2;obtain⟨W,V⟩:=K.k.rr.c2;have C:=E.lt;have ag:=K.k.rr.lt;have ak:=K.k.rr.frozen;have P1:=kD p1;have P3:=kD p3;clear J I p1 p3;go_wp2_with fail;refine bp_gen (λ H=>Below w.heap.size w H∧RowB H (w.heap.size+2) 51 [.slice B1 l1 e1,.slice B2 l2 e2]∧Hid (SlV 1 enI H (λ b=>(λ _=>False) b∨w.heap.size<=b) (.slice B1 l1 e1) y.1)∧Hid (SlV 1 enI H (λ b=>(λ _=>False) b∨w.heap.size<=b) (.slice B2 l2 e2) y.2)) ⟨below_two K.k.bel (by omega) _ _,two_ K.k.rr _ _,kD ?_,kD ?_⟩ ?_
   ·exact(relV 1 enI).weak (sl_two' (S:=λ b=>b≠w.heap.size+2∧w.heap.size<=b) ((relV 1 enI).weak (show SlV 1 enI wr (λ b=>w.heap.size+3<=b∧b≠gb) (.slice B1 l1 e1) y.1 from⟨B1,e1,by rw [ax.out],P1.out,p2⟩) (λ b hb _=>⟨by have:=hb.1;omega,by have:=hb.1;omega⟩)) (λ h=>h.1 rfl) _ _) (λ b hb _=>.inr hb.2)
   ·exact(relV 1 enI).weak (sl_two' (S:=λ b=>b≠w.heap.size+2∧w.heap.size<=b) ((relV 1 enI).weak (show SlV 1 enI wr (λ b=>w.heap.size+3<=b∧b≠gb) (.slice B2 l2 e2) y.2 from⟨B2,e2,by rw [aw.out],P3.out,p4⟩) (λ b hb _=>⟨by have:=hb.1;omega,by have:=hb.1;omega⟩)) (λ h=>h.1 rfl) _ _) (λ b hb _=>.inr hb.2)
   rintro w8 ⟨M,r8,h1,h2⟩;obtain⟨W,V⟩:=r8.c2;refine bodyPost_ret (v:=.tuple #[.agg #[.slice B1 l1 e1,.slice B2 l2 e2],.bool true]) (by simp [results,results179,go_sem,W,V]) rfl ?_;exact⟨_,rfl,⟨_,_,y,rfl,⟨h1.out,h2.out⟩,λ _ h=>by simpa using h⟩,M⟩
theorem follow_long {v:Vr}:∀(ds:List Int) (b:Bd) (ss:List Stp),ds.length<ss.length->followP v b ds ss=none
 | _,_,[],h=>by simp at h
 | [],_,_ :: _,_=>rfl
 | d :: ds,b,s :: ss,h=>by
  simp only [followP];split
  ·exact follow_long ds _ ss (by simpa using h)
  ·rfl
structure Fm (w wr:World) (v:Vr) (a1 a2:Value) (bk:Bd):Prop where
 k:F3 w wr v [a1,a2]
 o1:SlV 1 enI wr (λ b=>w.heap.size+3<=b) a1 bk.1
 o2:SlV 1 enI wr (λ b=>w.heap.size+3<=b) a2 bk.2
theorem Fm.below {w wr w':World} {v:Vr} {a1 a2:Value} {bk:Bd} (h:Fm w wr v a1 a2 bk) (hb:zB wr w'):Fm w w' v a1 a2 bk :=
 ⟨h.k.below hb,(relV 1 enI).keep h.o1 (.below hb),(relV 1 enI).keep h.o2 (.below hb)⟩
theorem F3.put {w wr:World} {v:Vr} {x y:Value} (k:F3 w wr v [x,y]) (a b:Value):F3 w ((wr.setCell ⟨w.heap.size+1,0,none⟩ a).setCell ⟨w.heap.size+1,1,none⟩ b) v [a,b] :=
 ⟨below_two k.bel (by omega) _ _,oth2 k.rv (by omega) _ _,two_ k.rb _ _,oth2 k.rr (by omega) _ _⟩
theorem follow_i (v:Vr) (b:Bd) (hb:Ok v b) (S:Nat->Prop) (u1 u2:Value) (ds:List Int) (hd4:ds.length<=4) (uo:Value) (ss:List Stp) (A:Option Addr) (cp BS:Nat) (w:World) (hBS:BS<=w.heap.size) (hR:BdR w S u1 u2 b) (ho:SlV 1 enI w All uo ds) (hs:RdS w BS 4 enSt A ss) :
  Calls prog 174 #[vA v,.agg #[u1,u2],uo,.slice A ss.length cp] w λ e w'=>Ret RelBB (followP v b ds ss) (λ _=>False) w e w':=by
 obtain⟨⟨A1,c1,rfl,r1,k1⟩,⟨A2,c2,rfl,r2,k2⟩⟩:=hR;obtain⟨Ao,co,rfl,ro,ko⟩:=ho;have CC:=kD (λ(w9:World) (h9:zB w w9)=>clone_i b.1 b.2 A1 A2 c1 c2 w9.heap.size w9 lR (r1.keep (.below h9)).rd (r2.keep (.below h9)).rd k1 k2 (by have:=hb.own.len;have:=hb.v1.1;omega) (by have:=hb.oth.len;have:=hb.v1.1;omega));obtain⟨n1,I⟩:=eX (b.1.length);obtain⟨n2,H⟩:=eX (b.2.length);rw [I,H] at CC;rw [I,H];have aH:=kD I;have aG:=kD H;obtain⟨N,hN⟩:=eX (ss.length);obtain⟨m,hm⟩:=eX (ds.length);have aE:N<=9223372036854775807:=by have:=hs.len;omega
 rw [hm] at hd4;rw [hN,hm];have HN:=kD hN;have HM:=kD hm;have RS:=kD hs;have RO:=kD ro;have HB:=kD hb;obtain⟨R,hR⟩:=eX (followP v b ds ss);rw [hR];have HR:=kD hR;clear I H hN hm hs ro hb r1 r2 hR;go_enter func174,ntmps174;go_upto_region 1 with fail;refine wp_gen (λ g=>F3 w g v [.slice A1 n1 c1,.slice A2 n2 c2]) ⟨by go_grown,((nW).alloc _).alloc _,(nX).alloc _,nX⟩ ?_;intro w1 K;obtain⟨B,z⟩:=K.rr.c2;have C:=K.rr.lt;have D:=K.rr.frozen;by_cases hlong:m<N
 ·have y:R=none:=by rw [<-HR.out];exact follow_long ds b ss (by rw [HN.out,HM.out];exact hlong)
  subst y;have aj:decide (m<N)=true:=decide_eq_true hlong;clear HR;go_wp2_with fail;refine bp_gen (λ g=>Below w.heap.size w g∧RowB g (w.heap.size+2) 51 [.slice none 0 0,.slice none 0 0]) ⟨below_two (K.bel) (by omega) _ _,two_ (K.rr) _ _⟩ ?_;rintro w8 ⟨q,W⟩;obtain⟨B,z⟩:=W.c2;refine bodyPost_ret (v:=.tuple #[.agg #[.slice none 0 0,.slice none 0 0],.bool false]) (by simp [results,results174,go_sem,B,z]) rfl ?_;exact⟨_,rfl,⟨_,_,([],[]),rfl,BdR.nil _ _,λ _ h=>by cases h⟩,q⟩
 have aj:decide (m<N)=false:=decide_eq_false hlong;obtain⟨G,F⟩:=K.rb.c2;go_wp2_with fail;refine(CC.out _ K.bel).mono ?_;rintro e w2 ⟨A3,c3,A4,c4,rfl,o3,o4,-,hb⟩;have K:=K.below hb;have aw:w.heap.size+3<=w1.heap.size:=by omega
 clear B z C D G F hb CC;obtain⟨G,F⟩:=K.rb.c2;have l:=K.rb.lt;have X:=K.rb.frozen;have T:=kD o3;have Q:=kD o4;clear o3 o4;go_upto_region 4 with fail;refine wp_gen (λ g=>Fm w g v (.slice A3 b.1.length c3) (.slice A4 b.2.length c4) b) ⟨(K.put _ _),sl_two T.out (by omega) (λ b hb=>by omega) _ _,sl_two Q.out (by omega) (λ b hb=>by omega) _ _⟩ ?_;clear K G F l X T Q;intro w3 K;have ap:Hid (R=followP v b (ds.drop 0) (ss.drop 0)):=HR.out.symm;clear HR;go_wp2_with fail;go_loopw [22] (λ i wr=>∃(k:Nat) (j:Bd) (a1 a2:Value),k<=N∧i=iL (k:Int)∧Fm w wr v a1 a2 j∧Hid (Ok v j)∧Hid (R=followP v j (ds.drop k) (ss.drop k))) (λ i _=>N - (intOf i).toNat)
 case atStart=>exact⟨0,b,_,_,Nat.zero_le _,by first | rfl | trivial,K,HB,ap⟩
 case round =>
  obtain⟨k,j,a1,a2,hk,rfl,K,P,O⟩:=hrel;obtain⟨⟨B1,e1,rfl,p1,p2⟩,⟨B2,e2,rfl,p3,p4⟩⟩:SlV 1 enI wr _ a1 j.1∧SlV 1 enI wr _ a2 j.2:=⟨K.o1,K.o2⟩;by_cases hlt:k<N
  ·have hw:=K.k.bel;obtain⟨sb,so,f,t,d,hh,rfl,az,aa,s0,s1,s2,s3⟩:=st_at (RS.out.below hw hBS) (by rw [HN.out];exact hlt);have Y:=kD (drop_at aa);obtain⟨db,aF,d2,ao,al,ab,t0⟩:=in_at (RO.out.keep (.below hw)) (k:=k) (by rw [HM.out];omega);subst ao;have Z:=kD (drop_at ab);have aB:(k:Int)<(N:Int):=by omega
   have aC:(k:Int)<(m:Int):=by omega
   have ay:k<m:=by omega
   have ax:k<N:=hlt;obtain⟨l1,o⟩:=eX (j.1.length);obtain⟨l2,a⟩:=eX (j.2.length);rw [o,a] at K;have ag:=kD o;have af:=kD a;have P1:=kD p1;have P3:=kD p3;have av:sb<wr.heap.size:=by have:=hw.size;omega
   clear aa ab p1 p3 o a;go_upto_region 7 with fail;refine wp_gen (λ g=>Below wr.heap.size wr g∧Fm w g v (.slice B1 l1 e1) (.slice B2 l2 e2) j∧RowB g wr.heap.size 111 [iL f,iL t,iL d,.bool hh]) ⟨(zRf).alloc lR _,K.below ((zRf).alloc lR _),nW⟩ ?_;rintro w4 ⟨an,K,rs⟩;have t0:=(an.cell al).trans t0;clear s0 s1 s2 s3;obtain⟨s0,s1,s2,s3⟩:=rs.c4;have ai:=rs.lt;obtain⟨B,z⟩:=K.k.rr.c2;have C:=K.k.rr.lt;have D:=K.k.rr.frozen;by_cases hd:d=d2
   rotate_left
   ·have y:R=none:=by
     rw [O.out,Y.out,Z.out];simp only [followP];rw [if_neg (λ h=>hd h.1)]
    subst y;have ak:(d != d2)=true:=by simpa using hd
    clear hd;go_wp2_with fail;go_quiet (fail);go_wp2_with fail;refine bp_gen (λ g=>Below w.heap.size w g∧RowB g (w.heap.size+2) 51 [.slice none 0 0,.slice none 0 0]) ⟨below_two (below_drewN K.k.bel nq) (by omega) _ _,two_ (K.k.rr.drewN nq) _ _⟩ ?_;rintro w8 ⟨q,W⟩;obtain⟨B,z⟩:=W.c2;refine bodyPost_ret (v:=.tuple #[.agg #[.slice none 0 0,.slice none 0 0],.bool false]) (by simp [results,results174,go_sem,B,z]) rfl ?_;exact⟨_,rfl,⟨_,_,([],[]),rfl,BdR.nil _ _,λ _ h=>by cases h⟩,q⟩
   subst hd;obtain⟨x,hx⟩:=eX (legal1 v j (f,t,d,hh));have CL:=legal_i v j P.out _ (.slice B1 l1 e1) (.slice B2 l2 e2) (f,t,d,hh) w4.drew ⟨(relV 1 enI).keep K.o1 (.below (zRf).drew),(relV 1 enI).keep K.o2 (.below (zRf).drew)⟩ x hx;have CL:=kD CL;simp only at CL;have HX:=kD hx;have ak:(d != d)=false:=by simp
   obtain⟨q0,q1,q2,q3⟩:=K.k.rv.c4;obtain⟨G,F⟩:=K.k.rb.c2;have ah:=K.k.rv.lt;have l:=K.k.rb.lt;clear hx;go_wp2_with fail;go_still_tail 11,(by kernel_rfl);go_wp2_with fail;refine CL.out.mono ?_;rintro e w5 ⟨rfl,J⟩;have J:Below w4.heap.size w4 w5:=(Below.refl w4.heap.size w4).drew.trans J;have K:=K.below J;have rs:=rs.below J ai;clear q0 q1 q2 q3 G F B z ah C D t0 CL l s0 s1 s2 s3;obtain⟨q0,q1,q2,q3⟩:=K.k.rv.c4;obtain⟨G,F⟩:=K.k.rb.c2;obtain⟨B,z⟩:=K.k.rr.c2;obtain⟨s0,s1,s2,s3⟩:=rs.c4;have C:=K.k.rr.lt;have D:=K.k.rr.frozen
   cases x
   case false =>
    have y:R=none:=by
     rw [O.out,Y.out,Z.out];simp only [followP];rw [if_neg (λ h=>by rw [HX.out] at h;exact absurd h.2 (by decide))]
    subst y;go_wp2_with fail;refine bp_gen (λ g=>Below w.heap.size w g∧RowB g (w.heap.size+2) 51 [.slice none 0 0,.slice none 0 0]) ⟨below_two (K.k.bel) (by omega) _ _,two_ (K.k.rr) _ _⟩ ?_;rintro w8 ⟨q,W⟩;obtain⟨B,z⟩:=W.c2;refine bodyPost_ret (v:=.tuple #[.agg #[.slice none 0 0,.slice none 0 0],.bool false]) (by simp [results,results174,go_sem,B,z]) rfl ?_;exact⟨_,rfl,⟨_,_,([],[]),rfl,BdR.nil _ _,λ _ h=>by cases h⟩,q⟩
   have ae:Hid (R=followP v (afterP v j (f,t,d,hh)) (ds.drop (k+1)) (ss.drop (k+1))):=by
    show _=_
    rw [O.out,Y.out,Z.out];simp only [followP];rw [if_pos ⟨trivial,HX.out⟩]
   have V:=kD (legal1_ok P.out HX.out);obtain⟨⟨ar,ad,M,p1,p2⟩,⟨aq,ac,L,p3,p4⟩⟩:SlV 1 enI w5 _ _ j.1∧SlV 1 enI w5 _ _ j.2:=⟨K.o1,K.o2⟩;obtain⟨rfl,rfl⟩:ar=B1∧ad=e1:=by simp only [Value.slice.injEq] at M;exact⟨M.1.symm,M.2.2.symm⟩
   obtain⟨rfl,rfl⟩:aq=B2∧ac=e2:=by simp only [Value.slice.injEq] at L;exact⟨L.1.symm,L.2.2.symm⟩
   have CA:=kD (after_i v j P.out _ _ ad ac w5.heap.size (f,t,d,hh) (legal_stok P.out HX.out) w5 lR p1.rd p3.rd p2 p4);rw [ag.out,af.out] at CA;simp only at CA;have l:=K.k.rb.lt;have aA:w.heap.size+3<=w5.heap.size:=by omega
   clear p1 p3 M L;go_wp2_with fail;refine CA.out.mono ?_;clear CA;rintro e w6 ⟨B3,e3,B4,e4,rfl,o3,o4,-,am⟩;have K:=K.below am;clear q0 q1 q2 q3 G F B z C D s0 s1 s2 s3;obtain⟨G,F⟩:=K.k.rb.c2;have l:=K.k.rb.lt;have X:=K.k.rb.frozen;obtain⟨b2,E⟩:=eX (afterP v j (f,t,d,hh));rw [E] at o3 o4 ae V;rw [E];have T:=kD o3;have Q:=kD o4;clear o3 o4 E;go_upto_region 10 with fail;refine wp_gen (λ g=>Fm w g v (.slice B3 b2.1.length e3) (.slice B4 b2.2.length e4) b2) ⟨K.k.put _ _,sl_two T.out (by omega) (λ b hb=>by omega) _ _,sl_two Q.out (by omega) (λ b hb=>by omega) _ _⟩ ?_;clear K G F l X;intro w7 K;have aD:=iW (((k:Int)+1));go_wp2_with fail;go_roundw
   case rel=>exact⟨k+1,b2,_,_,by omega,by go_num,K,V,ae⟩
   case measure=>simp [intOf];omega
  ·obtain rfl:N=k:=by omega
   have y:R=some j:=by
    rw [O.out,show ss.drop N=[] from List.drop_eq_nil_of_le (by rw [HN.out];exact Nat.le_refl _)]
    cases ds.drop N <;> rfl
   subst y;obtain⟨l1,o⟩:=eX (j.1.length);obtain⟨l2,a⟩:=eX (j.2.length);rw [o,a] at K;have ag:=kD o;have af:=kD a;obtain⟨G,F⟩:=K.k.rb.c2;obtain⟨B,z⟩:=K.k.rr.c2;have l:=K.k.rb.lt;have C:=K.k.rr.lt;have D:=K.k.rr.frozen;clear o a p1 p3;go_wp2_with fail;refine bp_gen (λ g=>Below w.heap.size w g∧RowB g (w.heap.size+2) 51 [.slice B1 l1 e1,.slice B2 l2 e2]∧Hid (SlV 1 enI g (λ b=>(λ _=>False) b∨w.heap.size<=b) (.slice B1 l1 e1) j.1)∧Hid (SlV 1 enI g (λ b=>(λ _=>False) b∨w.heap.size<=b) (.slice B2 l2 e2) j.2)) ⟨below_two K.k.bel (by omega) _ _,two_ K.k.rr _ _,kD ?_,kD ?_⟩ ?_
   ·exact(relV 1 enI).weak (sl_two' K.o1 (by omega) _ _) (λ b hb _=>.inr (by omega))
   ·exact(relV 1 enI).weak (sl_two' K.o2 (by omega) _ _) (λ b hb _=>.inr (by omega))
   rintro w8 ⟨q,W,h1,h2⟩;obtain⟨B,z⟩:=W.c2;refine bodyPost_ret (v:=.tuple #[.agg #[.slice B1 l1 e1,.slice B2 l2 e2],.bool true]) (by simp [results,results174,go_sem,B,z]) rfl ?_;exact⟨_,rfl,⟨_,_,j,rfl,⟨h1.out,h2.out⟩,λ _ h=>by simpa using h⟩,q⟩
end Gm
namespace Bd15
open Go.ChangeShapes Go.WideShapes Go.ChangeAt Go.RowKit Base Ints Own PlP Bd1
def okR (v:Vr) (a b:Int):Bool:=decide (1<=a∧a<=v.s) && decide (1<=b∧b<=a)
theorem isroll_i (v:Vr) (a b:Int) (x:Bool) (hx:(okV v && okR v a b)=x) (w:World):Calls prog 54 #[vA v,.agg #[iL a,iL b]] w λ e w'=>e=.returned (.bool x)∧Below w.heap.size w w':=by
 unfold okR at hx;obtain⟨o,k⟩:=eX (okV v);obtain⟨n,j⟩:∃ c,decide (1<=a∧a<=v.s)=c:=⟨_,rfl⟩;obtain⟨m,i⟩:∃ c,decide (1<=b∧b<=a)=c:=⟨_,rfl⟩;rw [k,j,i] at hx;have A:=kD (λ w=>var_i v o k w);have z:=kD (λ w=>in_i a 1 v.s n j w);have y:=kD (λ w=>in_i b 1 a m i w);have l:=kD hx;clear k j i hx;go_enter func54,ntmps54;go_wp2_with fail;refine(A.out _).mono ?_;rintro e q ⟨rfl,d⟩;have r:=(RowB.alloc (RowB.new w 25 [iL v.p,iL v.c,iL v.h,iL v.s]) _).below d (by go_size);have t:=(RowB.new' (w.alloc (.cells #[iL v.p,iL v.c,iL v.h,iL v.s] 25)) 53 [iL a,iL b] (g:=w.heap.size+1) (by simp)).below d (by go_size);have f:Below w.heap.size w q:=Below.then_ (by go_grown) d (by go_size);clear d;obtain⟨I,H,G,F⟩:=r.c4;obtain⟨E,D⟩:=t.c2
 cases o
 case false =>
  obtain rfl:x=false:=by rw [<-l.out];rfl
  go_wp2_with fail;go_ret;exact⟨rfl,f⟩
 go_wp2_with fail;refine(z.out _).mono ?_;rintro e C ⟨rfl,rfl⟩
 cases n
 case false =>
  obtain rfl:x=false:=by rw [<-l.out];rfl
  go_wp2_with fail;go_ret;exact⟨rfl,f⟩
 go_wp2_with fail;refine(y.out _).mono ?_;rintro e B ⟨rfl,rfl⟩;obtain rfl:x=m:=by rw [<-l.out];simp
 go_wp2_with fail;go_ret;exact⟨rfl,f⟩
end Bd15
namespace RegF
open Go Go.RowKit Base RegInv
theorem FixFrom.gd {P:Program} {ops:Array Oper} {Q:Exit->Act->World->Prop} {a0:Act} {ds:List (Option Nat)} {vals:Nat->Value} {B:(Nat->Prop)->World->Prop} {n:Nat} {o:Oper} (G:Bool) (ho:ops[n]?=some o) (hG:wantV o vals=G) (h0:G=false->vals n=undef) (hb:∀ L w',B L w'->B (λ j=>j=n∨L j) w') (h:G=true->FixAt P ops Q a0 ds vals B n o) (r:FixFrom P ops Q a0 ds vals B (n+1)):FixFrom P ops Q a0 ds vals B n:=by
 intro k d c a;by_cases e:k=n
 ·subst e;rw [ho] at a;simp only [Option.some.injEq] at a;subst a;exact⟨λ b=>h (hG.symm.trans b),λ b=>⟨h0 (hG.symm.trans b),hb⟩⟩
 ·exact r k (by omega) c a
end RegF
namespace Bd3
open Go.ChangeShapes Go.WideShapes Go.ChangeAt Go.RowKit Base Ints Own Clone RelG PlP Bd1 Bd2 RegInv RegF
theorem apart_no {v:Vr} {b:Bd} {n k:Nat} (hk:k<n) (h:0<at_ b.1 k∧0<at_ b.2 (v.p.toNat - 1 - k)):apart v b n=false:=by
 cases hc:apart v b n with
 | false=>rfl
 | true=>exact absurd h ((apart_iff n).1 hc k hk)
theorem apart_step {v:Vr} {b:Bd} {k:Nat} (h:apart v b k=true) (hn:¬ (0<at_ b.1 k∧0<at_ b.2 (v.p.toNat - 1 - k))):apart v b (k+1)=true:=by
 refine(apart_iff (k+1)).2 λ i a=>?_
 by_cases e:i=k
 ·subst e;exact hn
 ·exact(apart_iff k).1 h i (by omega)
theorem okB_eq (v:Vr) (b:Bd):okB v b=(okV v && okS v b.1 && okS v b.2 && !(decide (b.1.sum=0) && decide (b.2.sum=0)) && apart v b v.p.toNat):=rfl
theorem isB_s (v:Vr) (b:Bd) (Ao At:Option Addr) (co ct B:Nat) (w:World) (hB:B<=w.heap.size) (ho:RdS w B 1 enI Ao b.1) (ht:RdS w B 1 enI At b.2) (x:Bool) (hx:okB v b=x) :
  Calls prog 104 #[vA v,.agg #[.slice Ao b.1.length co,.slice At b.2.length ct]] w λ e w'=>e=.returned (.bool x)∧Below w.heap.size w w':=by
 rw [okB_eq] at hx;obtain⟨a,ha⟩:=eX (okV v);obtain⟨f,ab⟩:=eX (okS v b.1);obtain⟨m,aa⟩:=eX (okS v b.2);rw [ha,ab,aa] at hx;have HX:=kD hx;have HA:=kD ha;have H1:=kD ab;have H2:=kD aa;have HO:=kD ho;have HT:=kD ht;have CV:=kD (λ w=>var_s v a ha w);clear hx ha ab aa ho ht;go_enter func104,ntmps104;go_upto_region 1 with fail;refine wp_gen (λ W'=>Below w.heap.size w W'∧RowB W' w.heap.size 25 (vL v)∧RowB W' (w.heap.size+1) 51 [.slice Ao b.1.length co,.slice At b.2.length ct]) ⟨by go_grown,(nW).alloc _,nX⟩ ?_;rintro w1 ⟨ag,l,o⟩;obtain⟨P,O,N,M⟩:=l.c4;obtain⟨J,I⟩:=o.c2;have G:=l.lt;have F:=o.lt;clear P O N M J I G F;have W:=kD (λ(h:(a && f && m)=true)=>okV_iff.1 (HA.out.trans (by revert h;cases a <;> simp)));have Y:=kD (λ(h:(a && f && m)=true)=>okS_iff.1 (H1.out.trans (by revert h;cases f <;> simp)));have X:=kD (λ(h:(a && f && m)=true)=>okS_iff.1 (H2.out.trans (by revert h;cases m <;> simp)));have C1:=kD (λ(g:a=true) t (h:zB w t)=>side_s v (HA.out.trans g) Ao co B b.1 f H1.out t (Nat.le_trans hB h.size) (HO.out.below h hB));have C2:=kD (λ(g:(a && f)=true) t (h:zB w t)=>side_s v (HA.out.trans (by revert g;cases a <;> simp)) At ct B b.2 m H2.out t (Nat.le_trans hB h.size) (HT.out.below h hB));obtain⟨T,ae⟩:=eX (b.1.sum);obtain⟨S,ad⟩:=eX (b.2.sum);have S1:=kD (λ(g:(a && f && m)=true) t (h:zB w t)=>sum_s Ao co B b.1 t (HO.out.below h hB) (λ i=>⟨(Y.out g).nn i,by have:=(Y.out g).top i;have:=W.out g;omega⟩) (by have:=(Y.out g).len;have:=W.out g;omega));have S2:=kD (λ(g:(a && f && m)=true) t (h:zB w t)=>sum_s At ct B b.2 t (HT.out.below h hB) (λ i=>⟨(X.out g).nn i,by have:=(X.out g).top i;have:=W.out g;omega⟩) (by have:=(X.out g).len;have:=W.out g;omega));have zz:=kD (λ(g:(a && f && m)=true)=>And.intro (Y.out g).sum0 (And.intro (X.out g).sum0 (And.intro (Y.out g).sum (X.out g).sum)));have R:=kD HX.out;simp only [ae,ad] at S1 S2 zz R;clear ae ad HX;have EZ:=kD (λ(g:(a && f && m)=true)=>(show IntKind.i64.wrap (T+S)=T+S from IntWalk.i64_in _ (by have:=zz.out g;have:=W.out g;omega)));obtain⟨qz,e0⟩:=eX ((T+S == 0));have XT:Hid ((a && f && m)=true->qz=false->apart v b v.p.toNat=x):=kD (λ g e=>by
  have h:=zz.out g;rw [e,beq_eq_false_iff_ne] at e0;rw [<-R.out,g,show (decide (T=0) && decide (S=0))=false by simp;omega];rfl)
 have XF:Hid ((bif a && f && m then qz else true)=true->x=false):=kD (λ e=>by
  cases g:(a && f && m) with
  | false=>rw [<-R.out,g];rfl
  | true =>
   rw [g] at e;have h:=zz.out g;have e:qz=true:=e;rw [e,beq_iff_eq] at e0;obtain rfl:T=0:=by omega
   obtain rfl:S=0:=by omega
   rw [<-R.out,g];rfl)
 clear R zz H1 H2 HA;go_upto_region 1 with fail;refine region_fix [some 6,some 7,some 8,some 9,some 10,some 11,some 12,some 13,some 14,some 15,some 16,some 17,some 18,some 19,some 20,some 21,some 22,some 23,some 24,some 25,some 26,some 27,some 28,some 29,some 30,some 31,some 32] (λ j_=>([vA v,.bool a,.bool (!a),.bool (!a),(bif (!a) == false then vA v else undef),(bif (!a) == false then pT (w.heap.size+1) 0 else undef),(bif (!a) == false then .slice Ao b.1.length co else undef),(bif (!a) == false then .bool f else undef),(bif (!a) == false then .bool (!f) else undef),.bool (!(a && f)),.bool (!(a && f)),(bif (!(a && f)) == false then vA v else undef),(bif (!(a && f)) == false then pT (w.heap.size+1) 1 else undef),(bif (!(a && f)) == false then .slice At b.2.length ct else undef),(bif (!(a && f)) == false then .bool m else undef),(bif (!(a && f)) == false then .bool (!m) else undef),.bool (!(a && f && m)),.bool (!(a && f && m)),(bif (!(a && f && m)) == false then pT (w.heap.size+1) 0 else undef),(bif (!(a && f && m)) == false then .slice Ao b.1.length co else undef),(bif (!(a && f && m)) == false then iL T else undef),(bif (!(a && f && m)) == false then pT (w.heap.size+1) 1 else undef),(bif (!(a && f && m)) == false then .slice At b.2.length ct else undef),(bif (!(a && f && m)) == false then iL S else undef),(bif (!(a && f && m)) == false then iL (T+S) else undef),(bif (!(a && f && m)) == false then .bool qz else undef),.bool (bif a && f && m then qz else true)]:List Value).getD j_ undef) (λ L w'=>Below w.heap.size w w'∧RowB w' w.heap.size 25 (vL v)∧RowB w' (w.heap.size+1) 51 [.slice Ao b.1.length co,.slice At b.2.length ct]) (by kernel_rfl) (by kernel_rfl) (by kernel_rfl) (by kernel_rfl) (by first | kernel_rfl | rfl) (by first | kernel_rfl | rfl) ?hB1 ?hBL1 ?hst1 ?fin1
 case hB1=>exact⟨ag.drew,l.drew,o.drew⟩
 case hBL1=>exact λ _ _ _ _ h=>h
 case hst1 =>
  refine FixFrom.run rfl rfl (λ L A t C n y d K D=>?_) ?_
  ·have e2:A.tmps[2]?.getD undef=pT w.heap.size 0:=y 2 (by decide);clear n y
   cases a <;> cases f <;> cases m <;>
    (have l:=d.2.1
     have o:=d.2.2;replace d:=d.1;have P:=l.c4.1;have O:=l.c4.2.1;have N:=l.c4.2.2.1;have M:=l.c4.2.2.2;have J:=o.c2.1;have I:=o.c2.2;have G:=l.lt;have F:=o.lt;go_simp;exact D.out t ⟨d,l,o⟩)
  refine FixFrom.run rfl rfl (λ L A t C n y d K D=>?_) ?_
  ·have e6:A.tmps[6]?.getD undef=vA v:=gu n 0 6;clear n y
   cases a <;> cases f <;> cases m <;>
    (have l:=d.2.1
     have o:=d.2.2;replace d:=d.1;have P:=l.c4.1;have O:=l.c4.2.1;have N:=l.c4.2.2.1;have M:=l.c4.2.2.2;have J:=o.c2.1;have I:=o.c2.2;have G:=l.lt;have F:=o.lt;go_simp;refine(CV.out t).mono ?_;rintro e Z ⟨rfl,H⟩;exact D.out Z ⟨d.tR H,l.below H l.lt,o.below H o.lt⟩)
  refine FixFrom.run rfl rfl (λ L A t C n y d K D=>?_) ?_
  ·have e7:A.tmps[7]?.getD undef=.bool a:=gu n 1 7;clear n y
   cases a <;> cases f <;> cases m <;>
    (go_simp
     exact D.out t d)
  refine FixFrom.run rfl rfl (λ L A t C n y d K D=>?_) ?_
  ·have e8:A.tmps[8]?.getD undef=.bool (!a):=gu n 2 8;clear n y
   cases a <;> cases f <;> cases m <;>
    (go_simp
     exact D.out t d)
  refine FixFrom.gd ((!a) == false) rfl rfl (by cases a <;> cases f <;> cases m <;> first | exact λ _=>rfl | exact λ h=>absurd h (by decide)) (λ _ _ h=>h) (λ E L A t C n y d K D=>?_) ?_
  ·have e2:A.tmps[2]?.getD undef=pT w.heap.size 0:=y 2 (by decide);clear n y
   cases a <;> cases f <;> cases m <;> first
    | exact absurd E (by decide)
    | (have l:=d.2.1
       have o:=d.2.2;replace d:=d.1;have P:=l.c4.1;have O:=l.c4.2.1;have N:=l.c4.2.2.1;have M:=l.c4.2.2.2;have J:=o.c2.1;have I:=o.c2.2;have G:=l.lt;have F:=o.lt;go_simp;exact D.out t ⟨d,l,o⟩)
  refine FixFrom.gd ((!a) == false) rfl rfl (by cases a <;> cases f <;> cases m <;> first | exact λ _=>rfl | exact λ h=>absurd h (by decide)) (λ _ _ h=>h) (λ E L A t C n y d K D=>?_) ?_
  ·have e3:A.tmps[3]?.getD undef=pT (w.heap.size+1) 0:=y 3 (by decide);clear n y
   cases a <;> cases f <;> cases m <;> first
    | exact absurd E (by decide)
    | (go_simp
       exact D.out t d)
  refine FixFrom.gd ((!a) == false) rfl rfl (by cases a <;> cases f <;> cases m <;> first | exact λ _=>rfl | exact λ h=>absurd h (by decide)) (λ _ _ h=>h) (λ E L A t C n y d K D=>?_) ?_
  ·have aK:A.tmps[11]?.getD undef=(bif (!a) == false then pT (w.heap.size+1) 0 else undef):=gu n 5 11;clear n y
   cases a <;> cases f <;> cases m <;> first
    | exact absurd E (by decide)
    | (have l:=d.2.1
       have o:=d.2.2;replace d:=d.1;have P:=l.c4.1;have O:=l.c4.2.1;have N:=l.c4.2.2.1;have M:=l.c4.2.2.2;have J:=o.c2.1;have I:=o.c2.2;have G:=l.lt;have F:=o.lt;go_simp;exact D.out t ⟨d,l,o⟩)
  refine FixFrom.gd ((!a) == false) rfl rfl (by cases a <;> cases f <;> cases m <;> first | exact λ _=>rfl | exact λ h=>absurd h (by decide)) (λ _ _ h=>h) (λ E L A t C n y d K D=>?_) ?_
  ·have aL:A.tmps[10]?.getD undef=(bif (!a) == false then vA v else undef):=gu n 4 10;have aJ:A.tmps[12]?.getD undef=(bif (!a) == false then .slice Ao b.1.length co else undef):=gu n 6 12;clear n y
   cases a <;> cases f <;> cases m <;> first
    | exact absurd E (by decide)
    | (have l:=d.2.1
       have o:=d.2.2;replace d:=d.1;have P:=l.c4.1;have O:=l.c4.2.1;have N:=l.c4.2.2.1;have M:=l.c4.2.2.2;have J:=o.c2.1;have I:=o.c2.2;have G:=l.lt;have F:=o.lt;go_simp;refine(C1.out rfl t d).mono ?_;rintro e Z ⟨rfl,H⟩;exact D.out Z ⟨d.tR H,l.below H l.lt,o.below H o.lt⟩)
  refine FixFrom.gd ((!a) == false) rfl rfl (by cases a <;> cases f <;> cases m <;> first | exact λ _=>rfl | exact λ h=>absurd h (by decide)) (λ _ _ h=>h) (λ E L A t C n y d K D=>?_) ?_
  ·have aI:A.tmps[13]?.getD undef=(bif (!a) == false then .bool f else undef):=gu n 7 13;clear n y
   cases a <;> cases f <;> cases m <;> first
    | exact absurd E (by decide)
    | (go_simp
       exact D.out t d)
  refine FixFrom.run rfl rfl (λ L A t C n y d K D=>?_) ?_
  ·have e9:A.tmps[9]?.getD undef=.bool (!a):=gu n 3 9;have aH:A.tmps[14]?.getD undef=(bif (!a) == false then .bool (!f) else undef):=gu n 8 14;clear n y
   cases a <;> cases f <;> cases m <;>
    (go_simp
     exact D.out t d)
  refine FixFrom.run rfl rfl (λ L A t C n y d K D=>?_) ?_
  ·have aG:A.tmps[15]?.getD undef=.bool (!(a && f)):=gu n 9 15;clear n y
   cases a <;> cases f <;> cases m <;>
    (go_simp
     exact D.out t d)
  refine FixFrom.gd ((!(a && f)) == false) rfl rfl (by cases a <;> cases f <;> cases m <;> first | exact λ _=>rfl | exact λ h=>absurd h (by decide)) (λ _ _ h=>h) (λ E L A t C n y d K D=>?_) ?_
  ·have e2:A.tmps[2]?.getD undef=pT w.heap.size 0:=y 2 (by decide);clear n y
   cases a <;> cases f <;> cases m <;> first
    | exact absurd E (by decide)
    | (have l:=d.2.1
       have o:=d.2.2;replace d:=d.1;have P:=l.c4.1;have O:=l.c4.2.1;have N:=l.c4.2.2.1;have M:=l.c4.2.2.2;have J:=o.c2.1;have I:=o.c2.2;have G:=l.lt;have F:=o.lt;go_simp;exact D.out t ⟨d,l,o⟩)
  refine FixFrom.gd ((!(a && f)) == false) rfl rfl (by cases a <;> cases f <;> cases m <;> first | exact λ _=>rfl | exact λ h=>absurd h (by decide)) (λ _ _ h=>h) (λ E L A t C n y d K D=>?_) ?_
  ·have e3:A.tmps[3]?.getD undef=pT (w.heap.size+1) 0:=y 3 (by decide);clear n y
   cases a <;> cases f <;> cases m <;> first
    | exact absurd E (by decide)
    | (go_simp
       exact D.out t d)
  refine FixFrom.gd ((!(a && f)) == false) rfl rfl (by cases a <;> cases f <;> cases m <;> first | exact λ _=>rfl | exact λ h=>absurd h (by decide)) (λ _ _ h=>h) (λ E L A t C n y d K D=>?_) ?_
  ·have aD:A.tmps[18]?.getD undef=(bif (!(a && f)) == false then pT (w.heap.size+1) 1 else undef):=gu n 12 18;clear n y
   cases a <;> cases f <;> cases m <;> first
    | exact absurd E (by decide)
    | (have l:=d.2.1
       have o:=d.2.2;replace d:=d.1;have P:=l.c4.1;have O:=l.c4.2.1;have N:=l.c4.2.2.1;have M:=l.c4.2.2.2;have J:=o.c2.1;have I:=o.c2.2;have G:=l.lt;have F:=o.lt;go_simp;exact D.out t ⟨d,l,o⟩)
  refine FixFrom.gd ((!(a && f)) == false) rfl rfl (by cases a <;> cases f <;> cases m <;> first | exact λ _=>rfl | exact λ h=>absurd h (by decide)) (λ _ _ h=>h) (λ E L A t C n y d K D=>?_) ?_
  ·have aE:A.tmps[17]?.getD undef=(bif (!(a && f)) == false then vA v else undef):=gu n 11 17;have aC:A.tmps[19]?.getD undef=(bif (!(a && f)) == false then .slice At b.2.length ct else undef):=gu n 13 19;clear n y
   cases a <;> cases f <;> cases m <;> first
    | exact absurd E (by decide)
    | (have l:=d.2.1
       have o:=d.2.2;replace d:=d.1;have P:=l.c4.1;have O:=l.c4.2.1;have N:=l.c4.2.2.1;have M:=l.c4.2.2.2;have J:=o.c2.1;have I:=o.c2.2;have G:=l.lt;have F:=o.lt;go_simp;refine(C2.out rfl t d).mono ?_;rintro e Z ⟨rfl,H⟩;exact D.out Z ⟨d.tR H,l.below H l.lt,o.below H o.lt⟩)
  refine FixFrom.gd ((!(a && f)) == false) rfl rfl (by cases a <;> cases f <;> cases m <;> first | exact λ _=>rfl | exact λ h=>absurd h (by decide)) (λ _ _ h=>h) (λ E L A t C n y d K D=>?_) ?_
  ·have aB:A.tmps[20]?.getD undef=(bif (!(a && f)) == false then .bool m else undef):=gu n 14 20;clear n y
   cases a <;> cases f <;> cases m <;> first
    | exact absurd E (by decide)
    | (go_simp
       exact D.out t d)
  refine FixFrom.run rfl rfl (λ L A t C n y d K D=>?_) ?_
  ·have aF:A.tmps[16]?.getD undef=.bool (!(a && f)):=gu n 10 16;have aA:A.tmps[21]?.getD undef=(bif (!(a && f)) == false then .bool (!m) else undef):=gu n 15 21;clear n y
   cases a <;> cases f <;> cases m <;>
    (go_simp
     exact D.out t d)
  refine FixFrom.run rfl rfl (λ L A t C n y d K D=>?_) ?_
  ·have az:A.tmps[22]?.getD undef=.bool (!(a && f && m)):=gu n 16 22;clear n y
   cases a <;> cases f <;> cases m <;>
    (go_simp
     exact D.out t d)
  refine FixFrom.gd ((!(a && f && m)) == false) rfl rfl (by cases a <;> cases f <;> cases m <;> first | exact λ _=>rfl | exact λ h=>absurd h (by decide)) (λ _ _ h=>h) (λ E L A t C n y d K D=>?_) ?_
  ·have e3:A.tmps[3]?.getD undef=pT (w.heap.size+1) 0:=y 3 (by decide);clear n y
   cases a <;> cases f <;> cases m <;> first
    | exact absurd E (by decide)
    | (go_simp
       exact D.out t d)
  refine FixFrom.gd ((!(a && f && m)) == false) rfl rfl (by cases a <;> cases f <;> cases m <;> first | exact λ _=>rfl | exact λ h=>absurd h (by decide)) (λ _ _ h=>h) (λ E L A t C n y d K D=>?_) ?_
  ·have ax:A.tmps[24]?.getD undef=(bif (!(a && f && m)) == false then pT (w.heap.size+1) 0 else undef):=gu n 18 24;clear n y
   cases a <;> cases f <;> cases m <;> first
    | exact absurd E (by decide)
    | (have l:=d.2.1
       have o:=d.2.2;replace d:=d.1;have P:=l.c4.1;have O:=l.c4.2.1;have N:=l.c4.2.2.1;have M:=l.c4.2.2.2;have J:=o.c2.1;have I:=o.c2.2;have G:=l.lt;have F:=o.lt;go_simp;exact D.out t ⟨d,l,o⟩)
  refine FixFrom.gd ((!(a && f && m)) == false) rfl rfl (by cases a <;> cases f <;> cases m <;> first | exact λ _=>rfl | exact λ h=>absurd h (by decide)) (λ _ _ h=>h) (λ E L A t C n y d K D=>?_) ?_
  ·have aw:A.tmps[25]?.getD undef=(bif (!(a && f && m)) == false then .slice Ao b.1.length co else undef):=gu n 19 25;clear n y
   cases a <;> cases f <;> cases m <;> first
    | exact absurd E (by decide)
    | (have l:=d.2.1
       have o:=d.2.2;replace d:=d.1;have P:=l.c4.1;have O:=l.c4.2.1;have N:=l.c4.2.2.1;have M:=l.c4.2.2.2;have J:=o.c2.1;have I:=o.c2.2;have G:=l.lt;have F:=o.lt;go_simp;refine(S1.out rfl t d).mono ?_;rintro e Z ⟨rfl,rfl⟩;exact D.out t ⟨d,l,o⟩)
  refine FixFrom.gd ((!(a && f && m)) == false) rfl rfl (by cases a <;> cases f <;> cases m <;> first | exact λ _=>rfl | exact λ h=>absurd h (by decide)) (λ _ _ h=>h) (λ E L A t C n y d K D=>?_) ?_
  ·have e3:A.tmps[3]?.getD undef=pT (w.heap.size+1) 0:=y 3 (by decide);clear n y
   cases a <;> cases f <;> cases m <;> first
    | exact absurd E (by decide)
    | (go_simp
       exact D.out t d)
  refine FixFrom.gd ((!(a && f && m)) == false) rfl rfl (by cases a <;> cases f <;> cases m <;> first | exact λ _=>rfl | exact λ h=>absurd h (by decide)) (λ _ _ h=>h) (λ E L A t C n y d K D=>?_) ?_
  ·have ar:A.tmps[27]?.getD undef=(bif (!(a && f && m)) == false then pT (w.heap.size+1) 1 else undef):=gu n 21 27;clear n y
   cases a <;> cases f <;> cases m <;> first
    | exact absurd E (by decide)
    | (have l:=d.2.1
       have o:=d.2.2;replace d:=d.1;have P:=l.c4.1;have O:=l.c4.2.1;have N:=l.c4.2.2.1;have M:=l.c4.2.2.2;have J:=o.c2.1;have I:=o.c2.2;have G:=l.lt;have F:=o.lt;go_simp;exact D.out t ⟨d,l,o⟩)
  refine FixFrom.gd ((!(a && f && m)) == false) rfl rfl (by cases a <;> cases f <;> cases m <;> first | exact λ _=>rfl | exact λ h=>absurd h (by decide)) (λ _ _ h=>h) (λ E L A t C n y d K D=>?_) ?_
  ·have aq:A.tmps[28]?.getD undef=(bif (!(a && f && m)) == false then .slice At b.2.length ct else undef):=gu n 22 28;clear n y
   cases a <;> cases f <;> cases m <;> first
    | exact absurd E (by decide)
    | (have l:=d.2.1
       have o:=d.2.2;replace d:=d.1;have P:=l.c4.1;have O:=l.c4.2.1;have N:=l.c4.2.2.1;have M:=l.c4.2.2.2;have J:=o.c2.1;have I:=o.c2.2;have G:=l.lt;have F:=o.lt;go_simp;refine(S2.out rfl t d).mono ?_;rintro e Z ⟨rfl,rfl⟩;exact D.out t ⟨d,l,o⟩)
  refine FixFrom.gd ((!(a && f && m)) == false) rfl rfl (by cases a <;> cases f <;> cases m <;> first | exact λ _=>rfl | exact λ h=>absurd h (by decide)) (λ _ _ h=>h) (λ E L A t C n y d K D=>?_) ?_
  ·have av:A.tmps[26]?.getD undef=(bif (!(a && f && m)) == false then iL T else undef):=gu n 20 26;have ap:A.tmps[29]?.getD undef=(bif (!(a && f && m)) == false then iL S else undef):=gu n 23 29;clear n y
   cases a <;> cases f <;> cases m <;> first
    | exact absurd E (by decide)
    | (have ez:=EZ.out rfl
       go_simp;exact D.out t d)
  refine FixFrom.gd ((!(a && f && m)) == false) rfl rfl (by cases a <;> cases f <;> cases m <;> first | exact λ _=>rfl | exact λ h=>absurd h (by decide)) (λ _ _ h=>h) (λ E L A t C n y d K D=>?_) ?_
  ·have ao:A.tmps[30]?.getD undef=(bif (!(a && f && m)) == false then iL (T+S) else undef):=gu n 24 30;clear n y
   cases a <;> cases f <;> cases m <;> first
    | exact absurd E (by decide)
    | (go_simp
       exact D.out t d)
  refine FixFrom.run rfl rfl (λ L A t C n y d K D=>?_) ?_
  ·have ay:A.tmps[23]?.getD undef=.bool (!(a && f && m)):=gu n 17 23;have an:A.tmps[31]?.getD undef=(bif (!(a && f && m)) == false then .bool qz else undef):=gu n 25 31;clear n y
   cases a <;> cases f <;> cases m <;>
    (go_simp
     exact D.out t d)
  exact FixFrom.nil (by decide)
 case fin1 =>
  intro t d;simp only [Fr,Act.put,sX,Nat.reduceAdd,List.getD_cons_zero,List.getD_cons_succ];obtain⟨V,l,o⟩:=d;obtain⟨P,O,N,M⟩:=l.c4;obtain⟨J,I⟩:=o.c2;have G:=l.lt;have F:=o.lt;obtain⟨r,hr⟩:=eX ((bif a && f && m then qz else true));rw [hr] at XF ⊢
  cases r
  case true =>
   obtain rfl:=XF.out rfl;clear XF XT EZ S1 S2 C1 C2 Y X W hr e0;go_wp2_with fail;go_ret;exact⟨rfl,V⟩
  have g:(a && f && m)=true:=by
   cases g:(a && f && m) with
   | true=>rfl
   | false=>rw [g] at hr;cases hr
  rw [g] at hr;have af:=kD (XT.out g hr);have aj:=W.out g;have N1:=(Y.out g).len;have N2:=(X.out g).len;have ak:0<=v.p:=by omega
  clear XF XT EZ S1 S2 C1 C2 Y X W hr e0 g;go_wp2_with fail;go_loopw [5] (λ i wr=>∃(k:Nat),(k:Int)<=v.p∧i=iL (k:Int)∧Hid (Below w.heap.size w wr)∧RowB wr w.heap.size 25 (vL v)∧RowB wr (w.heap.size+1) 51 [.slice Ao b.1.length co,.slice At b.2.length ct]∧Hid (apart v b k=true)) (λ i _=>v.p.toNat - (intOf i).toNat)
  case atStart=>exact⟨0,by omega,by first | rfl | trivial,kD V,l,o,rfl⟩
  case round =>
   obtain⟨k,hk,rfl,V,l,o,ac⟩:=hrel;clear P O N M J I G F;obtain⟨P,O,N,M⟩:=l.c4;obtain⟨J,I⟩:=o.c2;by_cases hlt:(k:Int)<v.p
   ·obtain⟨b1,o1,rfl,ai,am⟩:=at_rd (HO.out.below V.out hB) (i:=k) (by omega);have ei:(v.p - 1 - (k:Int)).toNat=v.p.toNat - 1 - k:=by omega
    obtain⟨j,hj⟩:∃ j:Nat,v.p - 1 - (k:Int)=(j:Int):=⟨(v.p - 1 - (k:Int)).toNat,by omega⟩;have Q:v.p.toNat - 1 - k=j:=by omega
    obtain⟨b2,o2,rfl,ah,al⟩:=at_rd (HT.out.below V.out hB) (i:=j) (by omega);have e1:=iW ((v.p - 1));have e2:IntKind.i64.wrap (v.p - 1 - (k:Int))=(j:Int):=by rw [hj];exact IntWalk.i64_in _ (by omega)
    by_cases g1:0<at_ b.1 k
    ·by_cases g2:0<at_ b.2 j
     ·obtain rfl:x=false:=by rw [<-af.out];exact apart_no (k:=k) (by omega) ⟨g1,by rw [Q];exact g2⟩
      clear ei Q;go_wp2_with fail;go_ret;exact⟨rfl,V.out⟩
     ·have HP:Hid (apart v b (k+1)=true):=kD (apart_step ac.out (λ h=>g2 (by rw [<-Q];exact h.2)));clear ei Q;go_wp2_with fail;go_roundw
      case rel=>exact⟨k+1,by omega,by go_num,V,l,o,HP⟩
      case measure=>simp [intOf];omega
    ·have HP:Hid (apart v b (k+1)=true):=kD (apart_step ac.out (λ h=>g1 h.1));clear ei Q;go_wp2_with fail;go_roundw
     case rel=>exact⟨k+1,by omega,by go_num,V,l,o,HP⟩
     case measure=>simp [intOf];omega
   ·obtain rfl:x=true:=by rw [<-af.out,<-ac.out];congr 1;omega
    go_wp2_with fail;go_ret;exact⟨rfl,V.out⟩
end Bd3
namespace Bd9
open Go.ChangeShapes Go.WideShapes Go.ChangeAt Go.RowKit Base Ints Own Clone PlP Bd1
theorem one_B (x:Int):∀ u ∈ enB x,u.oneCell'=true:=by intro u a;simp [enB] at a;subst a;rfl
theorem infoB:(Tryz.prog.info? 5).map (λ i=>(i.zero,i.size,i.bytes))=some (some (.int .u8 0),1,1):=by kernel_rfl
def nums (l:List UInt8):List Int:=l.map λ b=>(b.toNat:Int)
theorem nums_len (l:List UInt8):(nums l).length=l.length:=by unfold nums;rw [List.length_map]
theorem convL (W:World) (B:Nat) (b off cap:Nat) (l:List UInt8) (h:RdS W B 1 enB (sA b off) (nums l)):(convert 22 9 (.slice (sA b off) l.length cap)).run prog W=.ok (.string ⟨l.toArray⟩) W:=by
 refine run_convert_bytes_back W 22 9 5 ⟨b,off,none⟩ cap l Tryz.underlying22 Tryz.underlying5 Tryz.underlying9 ?_;intro j f;obtain⟨k,c,d,_,g⟩:=h.2 (by rw [nums_len];omega);simp only [Option.some.injEq,Addr.mk.injEq,and_true] at d;obtain⟨rfl,rfl⟩:=d;have e:(nums l)[j]?=some ((l[j].toNat:Nat):Int):=by unfold nums;rw [List.getElem?_map,List.getElem?_eq_getElem f];rfl
 have i:=g j _ e 0 _ rfl;have a:(⟨b,off,none⟩:Addr).add j=⟨b,off+j,none⟩:=by unfold Addr.add;split <;> simp_all
 rw [a]
 simpa using i
theorem key_nums {b:Bd} (h1:∀ i,0<=at_ b.1 i∧at_ b.1 i<=200) (h2:∀ i,0<=at_ b.2 i∧at_ b.2 i<=200):nums (keyP b)=b.1++b.2:=by
 have a:∀ l:List Int,(∀ i,0<=at_ l i∧at_ l i<=200)->(l.map λ n:Int=>UInt8.ofNat n.toNat).map (λ b:UInt8=>(b.toNat:Int))=l:=by
  intro l d;rw [List.map_map];refine List.map_congr_left (f:=_) (g:=id) (λ x c=>?_) |>.trans (List.map_id _)
  obtain⟨i,h,rfl⟩:=List.mem_iff_getElem.1 c;have:=d i;have e:at_ l i=l[i]:=by unfold at_;rw [List.getD_eq_getElem?_getD,List.getElem?_eq_getElem h];rfl
  rw [e] at this;simp only [Function.comp,id];rw [UInt8.toNat_ofNat_of_lt' (by show _<256;omega)];omega
 unfold nums keyP;rw [List.map_append,List.map_append,a _ h1,a _ h2]
theorem key_len (b:Bd):(keyP b).length=b.1.length+b.2.length:=by unfold keyP;simp
theorem take_at {l:List Int} {k:Nat} (h:k<l.length):l.take (k+1)=l.take k++[at_ l k]:=take_succ l k _ (at_get h)
theorem key_i (l m:List Int) (n:Nat) (hln:l.length=n) (hmn:m.length=n) (hn:0<n∧n<=1000) (h1:∀ i,0<=at_ l i∧at_ l i<=200) (h2:∀ i,0<=at_ m i∧at_ m i<=200) (Ao At:Option Addr) (co ct B:Nat) (w:World) (hB:B<=w.heap.size) (hr1:RdS w B 1 enI Ao l) (hr2:RdS w B 1 enI At m) :
  Calls prog 208 #[.agg #[.slice Ao n co,.slice At n ct]] w λ e w'=>e=.returned (.string ⟨(keyP (l,m)).toArray⟩)∧Below w.heap.size w w':=by
 obtain⟨iB,Q,y,x,v⟩:=info_parts infoB;have HL:=kD hln;have HM:=kD hmn;have ac:=kD h1;have ab:=kD h2;have ai:=kD hr1;have ah:=kD hr2;have W:IntKind.i64.wrap ((n:Int)+(n:Int))=((n+n:Nat):Int):=by rw [IntWalk.i64_in _ (by omega)];omega
 clear hln hmn h1 h2 hr1 hr2;go_enter func208,ntmps208;go_upto_region 1 with fail;refine wp_gen (λ W'=>Below w.heap.size w W'∧RowB W' w.heap.size 51 [.slice Ao n co,.slice At n ct]) ⟨by go_grown,nW⟩ ?_;rintro w1 ⟨G,f⟩;obtain⟨V,T⟩:=f.c2;have t:=f.lt;go_wp2_with (at_make;refine wpList_make_own _ rfl _ _ _ rfl (w.heap.size+1) 5 iB (.int .u8 0) 1 Tryz.underlying22 Q y x _ _ _ (n+n) rfl rfl ?c0 ?c1 ?c2 (by omega) ?_)
 case c0=>first | rfl | exact W | (simp [W];done) | (simp;omega)
 case c1=>rw [v];omega
 case c2=>unfold maxLen;omega
 intro w2 A j;have ae:Hid (OwnS w2 (w.heap.size+1) w2.heap.size 5 1 enB (.slice (sA w1.heap.size 0) 0 (n+n)) (l.take 0)):=kD ⟨by simpa using A,λ g s=>by simp [Value.ownBlock] at s;subst s;exact(A.lt _ rfl).2⟩;have f:=f.grown j (λ _ h=>by simp at h);have G:=G.grown j G.size (λ _ h=>by simp at h);clear A j V T t;obtain⟨V,T⟩:=f.c2;have t:=f.lt;go_wp2_with fail;go_loopw [3,19] (λ vl i wr=>∃ k:Nat,k<=n∧i=iL (k:Int)∧Hid (Below w.heap.size w wr)∧RowB wr w.heap.size 51 [.slice Ao n co,.slice At n ct]∧Hid (OwnS wr (w.heap.size+1) wr.heap.size 5 1 enB vl (l.take k))∧Hid ((l.take k).length=0+k)) (λ _ i _=>n - (intOf i).toNat)
 case atStart=>exact⟨0,Nat.zero_le _,by first | rfl | trivial,kD G,f,ae,kD (by simp)⟩
 case round =>
  obtain⟨k,hk,rfl,E,f,q,a⟩:=hrel;clear V T t;obtain⟨V,T⟩:=f.c2;have t:=f.lt;by_cases hlt:k<n
  ·obtain⟨b1,o1,rfl,aa,ag⟩:=at_rd (ai.out.below E.out hB) (i:=k) (by rw [HL.out];exact hlt);have af:(k:Int)<(n:Int):=by omega
   have ad:IntKind.u8.wrap (at_ l k)=at_ l k:=IntWalk.u8_in _ (by have:=ac.out k;omega);have S:=kD (show l.take (k+1)=l.take k++[at_ l k] from take_at (by rw [HL.out];exact hlt));obtain⟨X,hX⟩:=eX (l.take k);rw [hX] at q a S;clear hX;obtain⟨I,H,z,_⟩:=q.out.form enB_len;subst z;go_wp2_with (at_builtin;refine wpL_app rfl _ _ _ rfl (w.heap.size+1) _ 5 iB (.int .u8 0) 1 1 Tryz.underlying22 Q y x v rfl (by decide) enB_len one_B (.slice I X.length H) X [at_ l k] rfl (q.out.alloc _) ⟨wr.heap.size,0,none⟩ 1 1 (by first | rfl | (simp;rfl) | (simp [go_sem];done)) rfl (news_new (nW)) (by decide) ?c1 ?c2 ?c3 ?_)
   case c1=>have:=a.out;unfold maxLen;omega
   case c2=>have:=a.out;omega
   case c3=>go_size
   intro k2 c2 L C D F Y;have d:∀ g,(Value.slice I X.length H).ownBlock=some g->w.heap.size+1<=g:=λ g s=>(q.out.block g s).1
   have p:wr.grownBy L (Value.slice I X.length H).ownBlock:=below_grown (w:=wr) (by go_grown) D;have f:=f.grown p (λ g s=>by have:=d g s;omega);have R:=kD (E.out.grown p E.out.size (λ g s=>by have:=d g s;omega));have M:=kD (show OwnS L (w.heap.size+1) L.heap.size 5 1 enB (.slice (sA k2 0) (X.length+1) c2) (l.take (k+1)) from by rw [S.out];exact C);have O:Hid ((l.take (k+1)).length=0+(k+1)):=kD (by rw [S.out,List.length_append,a.out,List.length_singleton];omega);clear D p F C d E q a;go_wp2_with fail;go_roundw
   case rel=>exact⟨k+1,by omega,by go_num,R,f,M,O⟩
   case measure=>simp [intOf];omega
  ·obtain rfl:n=k:=by omega
   have Z:l.take n=l:=by rw [<-HL.out];exact List.take_length
   go_wp2_with fail;go_loopw [3,32] (λ vl i wr=>∃ k:Nat,k<=n∧i=iL (k:Int)∧Hid (Below w.heap.size w wr)∧RowB wr w.heap.size 51 [.slice Ao n co,.slice At n ct]∧Hid (OwnS wr (w.heap.size+1) wr.heap.size 5 1 enB vl (l++m.take k))∧Hid ((l++m.take k).length=n+k)) (λ _ i _=>n - (intOf i).toNat)
   case atStart=>exact⟨0,Nat.zero_le _,by first | rfl | trivial,E,f,by simpa [Z] using q,kD (by simp [HL.out])⟩
   case round =>
    obtain⟨k,hk,rfl,E,f,q,a⟩:=hrel;clear V T t;obtain⟨V,T⟩:=f.c2;have t:=f.lt;by_cases hlt:k<n
    ·obtain⟨b1,o1,rfl,aa,ag⟩:=at_rd (ah.out.below E.out hB) (i:=k) (by rw [HM.out];exact hlt);have af:(k:Int)<(n:Int):=by omega
     have ad:IntKind.u8.wrap (at_ m k)=at_ m k:=IntWalk.u8_in _ (by have:=ab.out k;omega);have S:=kD (show l++m.take (k+1)=l++m.take k++[at_ m k] from by rw [take_at (by rw [HM.out];exact hlt),List.append_assoc]);obtain⟨X,hX⟩:=eX (l++m.take k);rw [hX] at q a S;clear hX;obtain⟨I,H,z,_⟩:=q.out.form enB_len;subst z;go_wp2_with (at_builtin;refine wpL_app rfl _ _ _ rfl (w.heap.size+1) _ 5 iB (.int .u8 0) 1 1 Tryz.underlying22 Q y x v rfl (by decide) enB_len one_B (.slice I X.length H) X [at_ m k] rfl (q.out.alloc _) ⟨wr.heap.size,0,none⟩ 1 1 (by first | rfl | (simp;rfl) | (simp [go_sem];done)) rfl (news_new (nW)) (by decide) ?c1 ?c2 ?c3 ?_)
     case c1=>have:=a.out;unfold maxLen;omega
     case c2=>have:=a.out;omega
     case c3=>go_size
     intro k2 c2 L C D F Y;have d:∀ g,(Value.slice I X.length H).ownBlock=some g->w.heap.size+1<=g:=λ g s=>(q.out.block g s).1
     have p:wr.grownBy L (Value.slice I X.length H).ownBlock:=below_grown (w:=wr) (by go_grown) D;have f:=f.grown p (λ g s=>by have:=d g s;omega);have R:=kD (E.out.grown p E.out.size (λ g s=>by have:=d g s;omega));have M:=kD (show OwnS L (w.heap.size+1) L.heap.size 5 1 enB (.slice (sA k2 0) (X.length+1) c2) (l++m.take (k+1)) from by rw [S.out];exact C);have O:Hid ((l++m.take (k+1)).length=n+(k+1)):=kD (by rw [S.out,List.length_append,a.out,List.length_singleton];omega);clear D p F C d E q a;go_wp2_with fail;go_roundw
     case rel=>exact⟨k+1,by omega,by go_num,R,f,M,O⟩
     case measure=>simp [intOf];omega
    ·obtain rfl:n=k:=by omega
     have N:m.take n=m:=by rw [<-HM.out];exact List.take_length
     have J:=key_nums (b:=(l,m)) ac.out ab.out;have P:=key_len (l,m);have o:=q.out;rw [N,<-J] at o;obtain⟨I,H,z,_⟩:=q.out.form enB_len;subst z;have K:(l++List.take n m).length=(keyP (l,m)).length:=by rw [P,N];simp
     rw [K] at o ⊢;obtain⟨b9,rfl⟩:∃ b9,I=some ⟨b9,0,none⟩:=by
      rcases o.cases_ with ⟨-,e⟩ | ⟨g,c,r,e,-⟩
      ·exact absurd (congrArg List.length e) (by rw [nums_len,P];simp only [HL.out,HM.out,List.length_nil];omega)
      ·simp only [Value.slice.injEq] at e;exact⟨g,e.1⟩
     have qc:=convL wr _ b9 0 H _ (o.rd enB_len);clear N J P o K;go_wp2_with fail;go_ret;exact⟨rfl,E.out⟩
end Bd9
namespace Bd10
open Go.ChangeShapes Go.WideShapes Go.ChangeAt Go.RowKit Base Ints Own Clone PlP Bd1
theorem eq_at {a b:List Int} (hl:a.length=b.length):decide (a=b)=decide (∀ i,i<a.length->at_ a i=at_ b i) :=
 decide_eq_decide.2 ⟨λ h i _=>by rw [h],list_ext hl⟩
theorem same_s (a b:Bd) (n:Nat) (h1:a.1.length=n) (h2:a.2.length=n) (h3:b.1.length=n) (h4:b.2.length=n) (hn:0<n∧n<=1000) (A1 A2 A3 A4:Option Addr) (c1 c2 c3 c4 B:Nat) (w:World) (hB:B<=w.heap.size)
  (r1:RdS w B 1 enI A1 a.1) (r2:RdS w B 1 enI A2 a.2) (r3:RdS w B 1 enI A3 b.1) (r4:RdS w B 1 enI A4 b.2) (x:Bool) (hx:decide (a=b)=x) :
  Calls prog 144 #[.agg #[.slice A1 n c1,.slice A2 n c2],.agg #[.slice A3 n c3,.slice A4 n c4]] w λ e w'=>e=.returned (.bool x)∧Below w.heap.size w w':=by
 obtain⟨l,m⟩:=a;obtain⟨p,q⟩:=b;simp only at *;have K:Hid (decide ((∀ i,i<n->at_ l i=at_ p i)∧(∀ i,i<n->at_ m i=at_ q i))=x):=kD (by
  rw [<-hx];refine decide_eq_decide.2 ⟨λ h=>?_,λ h=>?_⟩
  ·exact Prod.ext (list_ext (by simp only;omega) (λ i s=>h.1 i (by simp only at s;omega))) (list_ext (by simp only;omega) (λ i s=>h.2 i (by simp only at s;omega)))
  ·simp only [Prod.mk.injEq] at h;rw [h.1,h.2];exact⟨λ _ _=>rfl,λ _ _=>rfl⟩)
 have Z:=kD h1;have Y:=kD h2;have X:=kD h3;have W:=kD h4;have T:=kD r1;have S:=kD r2;have R:=kD r3;have Q:=kD r4;clear h1 h2 h3 h4 r1 r2 r3 r4 hx;go_enter func144,ntmps144;go_upto_region 1 with fail;refine wp_gen (λ J=>Below w.heap.size w J∧RowB J w.heap.size 51 [.slice A1 n c1,.slice A2 n c2]∧RowB J (w.heap.size+1) 51 [.slice A3 n c3,.slice A4 n c4]) ⟨by go_grown,RowB.alloc (nW) _,RowB.new' _ _ _ (by first | simp | go_size | rfl)⟩ ?_;rintro w1 ⟨H,f,d⟩;obtain⟨C,A⟩:=f.c2;obtain⟨z,y⟩:=d.c2;have o:=f.lt;have j:=d.lt;go_wp2_with fail;go_loopw [5] (λ i wr=>∃ k:Nat,k<=n∧i=iL (k:Int)∧Hid (Below w.heap.size w wr)∧RowB wr w.heap.size 51 [.slice A1 n c1,.slice A2 n c2]∧RowB wr (w.heap.size+1) 51 [.slice A3 n c3,.slice A4 n c4]∧Hid (∀ i,i<k->at_ l i=at_ p i)) (λ i _=>n - (intOf i).toNat)
 case atStart=>exact⟨0,Nat.zero_le _,by first | rfl | trivial,kD H,f,d,kD (λ i h=>absurd h (Nat.not_lt_zero _))⟩
 case round =>
  obtain⟨k,N,rfl,g,f,d,c⟩:=hrel;clear C A z y o j;obtain⟨C,A⟩:=f.c2;obtain⟨z,y⟩:=d.c2;have o:=f.lt;have j:=d.lt;by_cases hlt:k<n
  ·obtain⟨P,M,rfl,v,G⟩:=at_rd (T.out.below g.out hB) (i:=k) (by rw [Z.out];exact hlt);obtain⟨O,L,rfl,t,F⟩:=at_rd (R.out.below g.out hB) (i:=k) (by rw [X.out];exact hlt);have E:(k:Int)<(n:Int):=by omega
   have D:=iW (((k:Int)+1));by_cases hv:at_ l k=at_ p k
   ·have I:(at_ l k != at_ p k)=false:=by simp [hv]
    have r:=kD (show ∀ i,i<k+1->at_ l i=at_ p i from λ i s=>by
     by_cases e:i=k
     ·rw [e];exact hv
     ·exact c.out i (by omega))
    clear hv;go_wp2_with fail;go_quiet (fail);go_wp2_with fail;go_roundw
    case rel=>exact⟨k+1,by omega,by go_num,kD (below_drewN g.out _),f.drewN _,d.drewN _,r⟩
    case measure=>simp [intOf];omega
   ·have I:(at_ l k != at_ p k)=true:=by simp [hv]
    obtain rfl:x=false:=by rw [<-K.out];exact decide_eq_false (λ h=>hv (h.1 k hlt))
    clear hv;go_wp2_with fail;go_quiet (fail);go_wp2_with fail;go_ret;exact⟨rfl,below_drewN g.out _⟩
  ·obtain rfl:n=k:=by omega
   have V:=c;clear c;go_wp2_with fail;go_loopw [6] (λ i wr=>∃ k:Nat,k<=n∧i=iL (k:Int)∧Hid (Below w.heap.size w wr)∧RowB wr w.heap.size 51 [.slice A1 n c1,.slice A2 n c2]∧RowB wr (w.heap.size+1) 51 [.slice A3 n c3,.slice A4 n c4]∧Hid (∀ i,i<k->at_ m i=at_ q i)) (λ i _=>n - (intOf i).toNat)
   case atStart=>exact⟨0,Nat.zero_le _,by first | rfl | trivial,g,f,d,kD (λ i h=>absurd h (Nat.not_lt_zero _))⟩
   case round =>
    obtain⟨k,N,rfl,g,f,d,c⟩:=hrel;clear C A z y o j;obtain⟨C,A⟩:=f.c2;obtain⟨z,y⟩:=d.c2;have o:=f.lt;have j:=d.lt;by_cases hlt:k<n
    ·obtain⟨P,M,rfl,v,G⟩:=at_rd (S.out.below g.out hB) (i:=k) (by rw [Y.out];exact hlt);obtain⟨O,L,rfl,t,F⟩:=at_rd (Q.out.below g.out hB) (i:=k) (by rw [W.out];exact hlt);have E:(k:Int)<(n:Int):=by omega
     have D:=iW (((k:Int)+1));by_cases hv:at_ m k=at_ q k
     ·have I:(at_ m k != at_ q k)=false:=by simp [hv]
      have r:=kD (show ∀ i,i<k+1->at_ m i=at_ q i from λ i s=>by
       by_cases e:i=k
       ·rw [e];exact hv
       ·exact c.out i (by omega))
      clear hv;go_wp2_with fail;go_quiet (fail);go_wp2_with fail;go_roundw
      case rel=>exact⟨k+1,by omega,by go_num,kD (below_drewN g.out _),f.drewN _,d.drewN _,r⟩
      case measure=>simp [intOf];omega
     ·have I:(at_ m k != at_ q k)=true:=by simp [hv]
      obtain rfl:x=false:=by rw [<-K.out];exact decide_eq_false (λ h=>hv (h.2 k hlt))
      clear hv;go_wp2_with fail;go_quiet (fail);go_wp2_with fail;go_ret;exact⟨rfl,below_drewN g.out _⟩
    ·obtain rfl:n=k:=by omega
     obtain rfl:x=true:=by rw [<-K.out];exact decide_eq_true ⟨V.out,c.out⟩
     go_wp2_with fail;go_ret;exact⟨rfl,g.out⟩
end Bd10
namespace Bd11
open Go.ChangeShapes Go.WideShapes Go.ChangeAt Go.RowKit Base Ints Own Clone RelG PlP Bd1 Bd5 Bd8 Bd10
abbrev PRow:=Value × Value × Value
def enP (r:PRow):List Value:=[r.1,r.2.1,r.2.2]
theorem enP_len (r:PRow):(enP r).length=3:=rfl
def RelP:Rel PRow Pl where
 R:=λ w S r x=>OwnV 111 4 enSt w S r.1 x.1∧SlV 1 enI w S r.2.1 x.2.1∧SlV 1 enI w S r.2.2 x.2.2
 keep:=λ h hs=>⟨(relO 111 4 enSt).keep h.1 hs,(relV 1 enI).keep h.2.1 hs,(relV 1 enI).keep h.2.2 hs⟩
 weak:=λ h hs=>⟨(relO 111 4 enSt).weak h.1 hs,(relV 1 enI).weak h.2.1 hs,(relV 1 enI).weak h.2.2 hs⟩
theorem hasB_snoc (out:List Pl) (p:Pl) (b:Bd):hasB (out++[p]) b=(hasB out b || decide (p.2=b)):=by unfold hasB;simp
theorem find_s (out:List Pl) (b:Bd) (n:Nat) (hn:0<n∧n<=1000) (hout:∀ q ∈ out,q.2.1.length=n∧q.2.2.length=n) (h1:b.1.length=n) (h2:b.2.length=n) (u:Value) (A1 A2:Option Addr) (c1 c2 B:Nat) (w:World) (hB:B<=w.heap.size)
  (hu:SlG RelP 3 enP w All u out) (r1:RdS w B 1 enI A1 b.1) (r2:RdS w B 1 enI A2 b.2) :
  Calls prog 109 #[u,.agg #[.slice A1 n c1,.slice A2 n c2]] w λ e w'=>∃ r:Int,e=.returned (iL r)∧decide (r<0)=!hasB out b∧Below w.heap.size w w':=by
 obtain⟨Ap,cp,rs,rfl,j,l,-⟩:=hu;have v:=j.len;rw [l.1] at v;obtain⟨N,T⟩:=eX (out.length);rw [T] at v ⊢;have G:=kD T;have Z:=kD j;have H:=kD l;have F:=kD hout;have H1:=kD h1;have H2:=kD h2;have R1:=kD r1;have R2:=kD r2;have CS:=kD (λ(q:Bd) (O M:Option Addr) (X V:Nat) (q1:q.1.length=n) (q2:q.2.length=n) (f:World) (h:zB w f) (L:RdS f f.heap.size 1 enI O q.1) (K:RdS f f.heap.size 1 enI M q.2) (x:Bool) (p:decide (q=b)=x) =>
  same_s q b n q1 q2 h1 h2 hn O M A1 A2 X V c1 c2 f.heap.size f lR L K ((r1.below h hB).more (Nat.le_trans hB h.size)) ((r2.below h hB).more (Nat.le_trans hB h.size)) x p)
 clear T j l hout h1 h2 r1 r2;go_enter func109,ntmps109;go_upto_region 1 with fail;refine wp_gen (λ W'=>Below w.heap.size w W'∧RowB W' w.heap.size 51 [.slice A1 n c1,.slice A2 n c2]) ⟨by go_grown,nW⟩ ?_;rintro w1 ⟨R,c⟩;obtain⟨J,I⟩:=c.c2;have d:=c.lt;go_wp2_with fail;go_loopw [5] (λ i wr=>∃ k:Nat,k<=N∧i=iL (k:Int)∧Hid (Below w.heap.size w wr)∧RowB wr w.heap.size 51 [.slice A1 n c1,.slice A2 n c2]∧Hid (hasB (out.take k) b=false)) (λ i _=>N - (intOf i).toNat)
 case atStart=>exact⟨0,Nat.zero_le _,by first | rfl | trivial,kD R,c,kD rfl⟩
 case round =>
  obtain⟨k,hk,rfl,o,c,t⟩:=hrel;clear J I d;obtain⟨J,I⟩:=c.c2;have d:=c.lt;by_cases hlt:k<N
  ·have g:Still All w wr:=Still.below o.out;obtain⟨b1,o1,r,rfl,-,ac,hr,Q⟩:=(Z.out.keep g).at_ (i:=k) (by rw [H.out.1,G.out];exact hlt);obtain⟨q,s,S⟩:=(H.out.keep g).at_ hr;obtain⟨ss,Y⟩:=q;obtain⟨r0,rl,rm⟩:=r;have E:=S.2.1;have D:=S.2.2;simp only at E D;obtain⟨O,X,rfl,L,-⟩:=E;obtain⟨M,V,rfl,K,-⟩:=D;have a:=F.out _ (List.mem_of_getElem? s);simp only at a;have z:=Q 1 _ rfl;have y:=Q 2 _ rfl;rw [a.1] at z;rw [a.2] at y;have HT:=kD (show out.take (k+1)=out.take k++[(ss,Y)] from take_succ out k _ s);obtain⟨x,p⟩:∃ x,decide (Y=b)=x:=⟨_,rfl⟩;have C:=kD (λ W (h:wr=W)=>CS.out Y O M X V a.1 a.2 wr.drew o.out.drew L.rd K.rd x p);have HX:=kD p;have ab:(k:Int)<(N:Int):=by omega
   have aa:=iW (((k:Int)+1));clear g hr s S Q L K a p;go_wp2_with fail;go_still_tail 6,(by kernel_rfl);go_wp2_with fail;refine(C.out _ rfl).mono ?_;rintro e w2 ⟨rfl,m⟩;have c:=c.drew.below m c.drew.lt;have A:=kD (o.out.drew.tR m);clear J I d o m z y C;obtain⟨J,I⟩:=c.c2;have d:=c.lt
   cases x
   case false =>
    have P:Hid (hasB (out.take (k+1)) b=false):=kD (by rw [HT.out,hasB_snoc,t.out,HX.out];rfl);go_wp2_with fail;go_roundw
    case rel=>exact⟨k+1,by omega,by go_num,A,c,P⟩
    case measure=>simp [intOf];omega
   case true =>
    have hY:Hid (hasB out b=true):=kD (by
     have h0:hasB (out.take (k+1)) b=true:=by rw [HT.out,hasB_snoc,HX.out,Bool.or_true]
     unfold hasB at h0 ⊢;obtain⟨q,s,he⟩:=List.any_eq_true.1 h0;exact List.any_eq_true.2 ⟨q,List.mem_of_mem_take s,he⟩)
    go_wp2_with fail;go_ret;exact⟨(k:Int),rfl,by rw [hY.out];simp,A.out⟩
  ·obtain rfl:N=k:=by omega
   have hA:Hid (hasB out b=false):=kD (by rw [<-t.out,<-G.out,List.take_length]);go_wp2_with fail;go_ret;exact⟨-1,rfl,by rw [hA.out];rfl,o.out⟩
end Bd11
namespace Seen
open Go Go.RowKit Base
open Go.Maps (Keyed IsMap isMap_empty)
open Go.WideMaps (keyOf_string_mk)
theorem law:Keyed prog 9:=Go.Maps.string_keyed Tryz.underlying9
theorem zeroB (w:World):(zeroValue 4).run prog w=.ok (.bool false) w:=by kernel_rfl
theorem bool_inv {P:Program} {e:TypeId} (he:P.underlying e=some .bool) {v:Value} {c:Bool} {ps:List MemPlace} (hv:plainElem (H:=Unit) P e v=some (.lit (.bool c),ps)):v=.bool c:=by
 unfold plainElem at hv;rw [he] at hv
 cases v <;> simp at hv
 rw [hv.1]
def Seen (w:World) (b n:Nat) (S:List (List UInt8)):Prop :=
 ∃ D:DataW Unit,w.ownsMap prog 9 (plainElem prog 4) b n D∧IsMap D∧∀ s:ByteArray,s.size<=maxLen->D.atKey (.string s.data.toList) (.lit (.bool false))=.lit (.bool (decide (s.data.toList ∈ S)))
section
variable {w w':World} {b n:Nat} {S:List (List UInt8)}
theorem Seen.made (w:World):Seen (w.alloc (.map #[] 0)) w.heap.size 0 []:=⟨_,World.ownsMap_made _ _ _ _,isMap_empty,λ s _=>by simp;rfl⟩
theorem Seen.lt (h:Seen w b n S):b<w.heap.size:=by obtain⟨D,h,_⟩:=h;exact h.lt
theorem Seen.grown {row:Option Nat} (h:Seen w b n S) (hg:w.grownBy w' row) (hr:row≠some b):Seen w' b n S:=by
 obtain⟨D,c,a⟩:=h;exact⟨D,c.kept hg (λ e=>hr e.symm),a⟩
theorem Seen.below (h:Seen w b n S) (hb:zB w w'):Seen w' b n S :=
 h.grown (row:=none) ⟨hb.os,hb.tape,hb.output,hb.size,λ i hi _=>hb.block i hi⟩ (by simp)
theorem Seen.look (h:Seen w b n S) {t:TypeId} (ht:Tryz.prog.underlying t=some (.map 9 4)) (s:ByteArray) (hs:s.size<=maxLen) (x:Bool) (hx:decide (s.data.toList ∈ S)=x) :
  (Instr.lookup t (.map (some b)) (.string s) false).run prog w=.ok (.bool x) w:=by
 subst hx;obtain⟨D,e,g,d⟩:=h;obtain⟨v,f,a,c⟩:=e.lookup law ht (zeroB w) (plainElem_bool Tryz.underlying4 false) (keyOf_string_mk Tryz.underlying9 hs);rw [d s hs] at c;have:=bool_inv Tryz.underlying4 c;rw [this] at a;exact a
theorem Seen.put (h:Seen w b n S) {t:TypeId} (ht:Tryz.prog.underlying t=some (.map 9 4)) (hn:n<maxLen) (s:ByteArray) (hs:s.size<=maxLen) :
  ∃ w',(Instr.mapUpdate t (.map (some b)) (.string s) (.bool true)).run prog w=.ok () w'∧Seen w' b (n+1) (s.data.toList :: S)∧w.grownBy w' (some b):=by
 obtain⟨D,j,d,i⟩:=h;obtain⟨w',a,c,g⟩:=j.update law ht hn (keyOf_string_mk Tryz.underlying9 hs) (plainElem_bool Tryz.underlying4 true);refine⟨w',a,⟨_,c,d.put _ _,λ u f=>?_⟩,g⟩;by_cases e:u.data.toList=s.data.toList
 ·rw [e,Go.Maps.atKey_put_same d (show WideAt.IsKeyLit (.string s.data.toList) from trivial)];simp
 ·rw [Go.Maps.atKey_put_other (λ h=>e (by injection h))];rw [i u f];simp [e]
end
theorem wpL_put {ops:Array Oper} {rest:List Oper} {o:Oper} {a:Act} {Q:Exit->Act->World->Prop} {w:World} {b n:Nat} {S:List (List UInt8)} (hgd:o.guard=none) (m x v:Operand) (t:TypeId) (hop:o.op=Op.mapUpdate t m x v)
  (ht:Tryz.prog.underlying t=some (.map 9 4)) (hm:a.eval m=.map (some b)) (h:Seen w b n S) (hn:n<maxLen) (s:ByteArray) (hs:s.size<=maxLen) (hx:a.eval x=.string s) (hv:a.eval v=.bool true)
  (hK:∀ w',Seen w' b (n+1) (s.data.toList :: S)->w.grownBy w' (some b)->wpList prog ops Q rest (a.put o.dst undef) w'):wpList prog ops Q (o :: rest) a w:=by
 refine wpList_plain hgd λ g d=>?_
 obtain⟨w',c,f,e⟩:=h.put ht hn s hs;unfold Oper.wp;simp [execOp,hop,hm,hx,hv,c,Result.andThen];exact d _ _ (hK w' f e)
end Seen
namespace Bd16
open Go.ChangeShapes Go.WideShapes Go.ChangeAt Go.RowKit Base Ints Own Clone RelG PlP Bd1 Bd5 Bd6 Bd7 Bd8 Bd9 Bd11 RegInv RegF RegG Seen
theorem infoP:(Tryz.prog.info? 98).map (λ i=>(i.zero,i.size,i.bytes))=some (some (.agg #[.slice none 0 0,.slice none 0 0,.slice none 0 0]),3,72):=by kernel_rfl
theorem one_P (r:PRow) (h:r.1.oneCell'=true∧r.2.1.oneCell'=true∧r.2.2.oneCell'=true):∀ u ∈ enP r,u.oneCell'=true:=by
 intro u a;simp [enP] at a;rcases a with rfl | rfl | rfl
 ·exact h.1
 ·exact h.2.1
 ·exact h.2.2
theorem rd_row {α:Type} {en:α->List Value} {w:World} {g sz B:Nat} {e:TypeId} {x:α} (h:RowB w g e (en x)) (hg:g<B):RdS w B sz en (sA g 0) [x] :=
 ⟨by show 1<=maxLen;decide,λ _=>⟨g,0,rfl,hg,λ i y hy j u hu=>by
  cases i with
  | zero =>
   simp at hy;subst hy;rw [show 0+0*sz+j=j from by omega,h.cell j];exact hu
  | succ i=>simp at hy⟩⟩
section
variable {ρ α:Type} {K:Rel ρ α} {w w':World} {lo hi sz:Nat} {e:TypeId} {en:ρ->List Value} {v:Value} {xs:List α}
theorem own_low {g:Nat} (h:OwnG K w lo hi e sz en v xs) (hg:w.grownBy w' (some g)) (hl:g<lo):OwnG K w' lo hi e sz en v xs:=by
 obtain⟨b,f,d⟩:=h;exact⟨b,f.grown hg (λ k a=>by simp at a;omega),d.keep (Still.grown hg (λ k a c=>by simp at a;have:=c.2;omega))⟩
theorem own_snoc {rs:List ρ} {r:ρ} {x:α} {g n c:Nat} (h2:LsR K w (NotIn v lo) rs xs) (hx:K.R w (NotIn v lo) r x) (ho:OwnS w' lo w'.heap.size e sz en (.slice (sA g 0) n c) (rs++[r])) (hg:w.grownBy w' v.ownBlock) (hat:v.ownBlock=some g∨g=w.heap.size) :
  OwnG K w' lo w'.heap.size e sz en (.slice (sA g 0) n c) (xs++[x]) :=
 ⟨rs++[r],ho,LsR.snoc ⟨h2.1,λ i r' x' hr hx'=>app_still hg hat (h2.2 i r' x' hr hx')⟩ (app_still hg hat hx)⟩
end
theorem app_still' {w w':World} {lo g n c:Nat} {v:Value} (hg:w.grownBy w' v.ownBlock) (hat:v.ownBlock=some g∨w.heap.size<=g) {ρ α:Type} {K:Rel ρ α} {r:ρ} {x:α} (h:K.R w (NotIn v lo) r x):K.R w' (NotIn (.slice (sA g 0) n c) lo) r x:=by
 have l:K.R w (λ b=>NotIn v lo b∧b<w.heap.size) r x:=K.weak h (λ b a f=>⟨a,f⟩);have j:=K.keep l (Still.grown (S:=λ b=>NotIn v lo b∧b<w.heap.size) hg (λ k i d=>d.1.1 i));refine K.weak j (λ b a _=>⟨?_,a.1.2⟩);intro e;simp [Value.ownBlock] at e;subst e;rcases hat with hat | hat
 ·exact a.1.1 hat
 ·have:=a.2;omega
theorem Seen.same {w:World} {b n:Nat} {S S':List (List UInt8)} (h:Seen w b n S) (hs:∀ s,s ∈ S↔s ∈ S'):Seen w b n S':=by
 obtain⟨D,e,d,c⟩:=h;exact⟨D,e,d,λ s a=>by rw [c s a];congr 2;exact decide_eq_decide.2 (hs _)⟩
def keysP (X:List Pl):List (List UInt8):=X.map λ q=>keyP q.2
structure Go1 (w wr:World) (v:Vr) (gs:Nat) (vl:Value) (X:List Pl) (k m:Nat):Prop where
 bel:Below w.heap.size w wr
 rv:RowB wr w.heap.size 25 (vL v)
 ge:w.heap.size<gs
 sn:Seen wr gs X.length (keysP X)
 og:OwnG RelP wr (gs+1) wr.heap.size 98 3 enP vl X
 co:Coll v k m X
theorem Go1.below {w wr w':World} {v:Vr} {gs:Nat} {vl:Value} {X:List Pl} {k m:Nat} (h:Go1 w wr v gs vl X k m) (hb:zB wr w'):Go1 w w' v gs vl X k m :=
 ⟨h.bel.tR hb,h.rv.below hb h.rv.lt,h.ge,h.sn.below hb,(h.og.below_ hb).more hb.size,h.co⟩
structure Go2 (w wr:World) (v:Vr) (gs:Nat) (vl:Value) (X:List Pl) (k m:Nat) (g:Nat) (cs:List Value) (sv:Value) (ss:List Stp):Prop where
 k1:Go1 w wr v gs vl X k m
 gg:gs<g
 rp:RowB wr g 98 cs
 np:vl.ownBlock≠some g
 st:SlV 4 enSt wr (NotIn vl (gs+1)) sv ss
theorem Go2.below {w wr w':World} {v:Vr} {gs:Nat} {vl:Value} {X:List Pl} {k m g:Nat} {cs:List Value} {sv:Value} {ss:List Stp} (h:Go2 w wr v gs vl X k m g cs sv ss) (hb:zB wr w'):Go2 w w' v gs vl X k m g cs sv ss :=
 ⟨h.k1.below hb,h.gg,h.rp.below hb h.rp.lt,h.np,(relV 4 enSt).keep h.st (.below hb)⟩
theorem Go2.put {w wr w':World} {v:Vr} {gs:Nat} {vl:Value} {X:List Pl} {k m g:Nat} {cs:List Value} {sv:Value} {ss:List Stp} (h:Go2 w wr v gs vl X k m g cs sv ss) (hg:wr.grownBy w' (some gs)) :
  Below w.heap.size w w'∧RowB w' w.heap.size 25 (vL v)∧OwnG RelP w' (gs+1) w'.heap.size 98 3 enP vl X∧RowB w' g 98 cs∧SlV 4 enSt w' (NotIn vl (gs+1)) sv ss :=
 ⟨h.k1.bel.grown hg h.k1.bel.size (λ k hk=>by simp at hk;have:=h.k1.ge;omega),h.k1.rv.grown hg (λ k hk=>by simp at hk;have:=h.k1.ge;omega),(own_low h.k1.og hg (by omega)).more hg.size,h.rp.grown hg (λ k hk=>by simp at hk;have:=h.gg;omega),(relV 4 enSt).keep h.st (Still.grown hg (λ k hk hn=>by simp at hk;have:=hn.2;omega))⟩
end Bd16
namespace Bd17
open Go.ChangeShapes Go.WideShapes Go.ChangeAt Go.RowKit Base Ints Own Clone RelG PlP Bd1 Bd4 Bd5 Bd6 Bd7 Bd8 Bd9 Bd11 RegInv RegF RegG Seen Bd16
structure GoF (w9:World) (sp:List Stp) (s:Stp) (p4 p7 p9 p10 p11:Prop) (v4 v7 v9 v10 v11:Value) (w':World):Prop where
 bel:Below w9.heap.size w9 w'
 f4:p4->¬ p7->OwnS w' w9.heap.size w'.heap.size 111 4 enSt v4 []
 f7:p7->¬ p10->OwnS w' w9.heap.size w'.heap.size 111 4 enSt v7 sp
 f9:p9->¬ p10->∃ g,v9=.slice (sA g 0) 1 1∧w9.heap.size<=g∧RowB w' g 111 (enSt s)∧(p4->¬ p7->v4.ownBlock≠some g)∧(p7->v7.ownBlock≠some g)
 f10:p10->OwnS w' w9.heap.size w'.heap.size 111 4 enSt v10 (sp++[s])
 f11:p11->v11=v10
theorem GoF.skip {w9:World} {sp:List Stp} {s:Stp} {L:Nat->Prop} {vals:Nat->Value} {w':World} (F:GoF w9 sp s (L 4) (L 7) (L 9) (L 10) (L 11) (vals 4) (vals 7) (vals 9) (vals 10) (vals 11) w') (k:Nat) (x:Value) (h4:4≠k:=by decide) (h7:7≠k:=by decide) (h9:9≠k:=by decide) (h10:10≠k:=by decide) (h11:11≠k:=by decide) :
  GoF w9 sp s (4=k∨L 4) (7=k∨L 7) (9=k∨L 9) (10=k∨L 10) (11=k∨L 11) (upd vals k x 4) (upd vals k x 7) (upd vals k x 9) (upd vals k x 10) (upd vals k x 11) w':=by
 rw [or_ne h4,or_ne h7,or_ne h9,or_ne h10,or_ne h11,upd_ne h4,upd_ne h7,upd_ne h9,upd_ne h10,upd_ne h11];exact F
section
variable {w9 w' w'':World} {sp:List Stp} {s:Stp} {p4 p7 p9 p10 p11:Prop} {v4 v7 v9 v10 v11 v':Value}
theorem GoF.s4 (F:GoF w9 sp s p4 p7 p9 p10 p11 v4 v7 v9 v10 v11 w') {c:Nat} (n7:¬ p7) (n10:¬ p10) (n11:¬ p11) (hown:OwnS w'' w9.heap.size w''.heap.size 111 4 enSt (.slice (sA w'.heap.size 0) 0 c) []) (hg:w'.grownBy w'' none) :
  GoF w9 sp s True p7 p9 p10 p11 (.slice (sA w'.heap.size 0) 0 c) v7 v9 v10 v11 w'':=by
 refine⟨F.bel.grown hg F.bel.size (λ g h=>by simp at h),λ _ _=>hown,λ h=>absurd h n7,λ h b=>?_,λ h=>absurd h n10,λ h=>absurd h n11⟩;obtain⟨g,e,i,a,l,j⟩:=F.f9 h b;refine⟨g,e,i,a.grown hg (λ k d=>by simp at d),λ _ _ f=>?_,λ h=>absurd h n7⟩;have:=a.lt;simp [Value.ownBlock] at f;omega
theorem GoF.s7 (F:GoF w9 sp s p4 p7 p9 p10 p11 v4 v7 v9 v10 v11 w') (y4:p4) (n7:¬ p7) (n10:¬ p10) (n11:¬ p11) (hown:OwnS w'' w9.heap.size w''.heap.size 111 4 enSt v' sp) (hg:w'.grownBy w'' v4.ownBlock) (hat:∀ g,v'.ownBlock=some g->v4.ownBlock=some g∨g=w'.heap.size) :
  GoF w9 sp s p4 True p9 p10 p11 v4 v' v9 v10 v11 w'':=by
 have d:=F.f4 y4 n7;refine⟨F.bel.grown hg F.bel.size (λ g h=>(d.block g h).1),λ _ h=>absurd trivial h,λ _ _=>hown,λ h f=>?_,λ h=>absurd h n10,λ h=>absurd h n11⟩;obtain⟨g,e,j,c,b,l⟩:=F.f9 h f;refine⟨g,e,j,c.grown hg (λ k i a=>b y4 n7 (by rw [i,a])),λ _ h=>absurd trivial h,λ _ a=>?_⟩;rcases hat g a with h5 | h5
 ·exact b y4 n7 h5
 ·have:=c.lt;omega
theorem GoF.s9 (F:GoF w9 sp s p4 p7 p9 p10 p11 v4 v7 v9 v10 v11 w') (n10:¬ p10) (n11:¬ p11) :
  GoF w9 sp s p4 p7 True p10 p11 v4 v7 (.slice (sA w'.heap.size 0) 1 1) v10 v11 (w'.alloc (.cells ⟨enSt s⟩ 111)):=by
 refine⟨F.bel.alloc F.bel.size _,λ h a=>((F.f4 h a).alloc _).more (by simp),λ h a=>((F.f7 h a).alloc _).more (by simp),λ _ _=>⟨_,rfl,F.bel.size,nW,λ h a b=>?_,λ h b=>?_⟩,λ h=>absurd h n10,λ h=>absurd h n11⟩
 ·have:=((F.f4 h a).block _ b).2;omega
 ·have:=((F.f7 h n10).block _ b).2;omega
theorem GoF.s10 (F:GoF w9 sp s p4 p7 p9 p10 p11 v4 v7 v9 v10 v11 w') (y7:p7) (n10:¬ p10) (n11:¬ p11) (hown:OwnS w'' w9.heap.size w''.heap.size 111 4 enSt v' (sp++[s])) (hg:w'.grownBy w'' v7.ownBlock) :
  GoF w9 sp s p4 p7 p9 True p11 v4 v7 v9 v' v11 w'':=by
 have a:=F.f7 y7 n10;exact⟨F.bel.grown hg F.bel.size (λ g h=>(a.block g h).1),λ _ h=>absurd y7 h,λ _ h=>absurd trivial h,λ _ h=>absurd trivial h,λ _=>hown,λ h=>absurd h n11⟩
theorem GoF.s11 (F:GoF w9 sp s p4 p7 p9 p10 p11 v4 v7 v9 v10 v11 w'):GoF w9 sp s p4 p7 p9 p10 True v4 v7 v9 v10 v10 w' :=
 ⟨F.bel,F.f4,F.f7,F.f9,F.f10,λ _=>rfl⟩
end
theorem goOn_i (v:Vr) (hv:okV v=true) (m:Nat) (hm:m<=10) (ps:List Pl) (hps:RowOk v m ps) (hN:ps.length<=20000) (d:Int) (hd:1<=d∧d<=6) (u:Value) (S0:Nat->Prop) (w:World) (hu:SlG RelP 3 enP w S0 u ps) :
  Calls prog 204 #[vA v,u,iL d] w λ e w'=>∃ vv,e=.returned vv∧OwnG RelP w' w.heap.size w'.heap.size 98 3 enP vv (nextP v d ps)∧Below w.heap.size w w':=by
 obtain⟨i4,a7,aU,aT,aS⟩:=info_parts infoSt;obtain⟨i3,b9,b3,b2,b0⟩:=info_parts infoP;have b4:=okV_iff.1 hv;obtain⟨Ap,cp,rs,rfl,bn,bt,-⟩:=hu;obtain⟨N,bc⟩:=eX (ps.length);rw [bc] at hN ⊢;have bV:=kD bc;have cl:=kD bn;have bX:=kD bt;have cm:=kD hps;obtain⟨P,hP⟩:∃ P:Nat,v.p=(P:Int):=⟨v.p.toNat,by omega⟩;have HP:=kD hP;have cA:P<=24:=by omega
 have HC:=kD (show v.c<=15 by omega);have bW:Tryz.prog.underlying 235=some (.map 9 4):=by first | exact Tryz.underlying235 | kernel_rfl
 have cS:∀ w:World,(Instr.makeMap 235 none).run prog w=.ok (.map (some w.heap.size)) (w.alloc (.map #[] 0)):=λ _=>rfl
 clear bc bn bt hps hP hv b4;go_enter func204,ntmps204;go_upto_region 1 with fail;refine wp_gen (λ W'=>Below w.heap.size w W'∧RowB W' w.heap.size 25 (vL v)) ⟨by go_grown,nW⟩ ?_;rintro w1 ⟨aA,rv⟩;go_upto_region 2 with fail;refine wp_gen (λ W'=>Go1 w W' v w1.heap.size (.slice none 0 0) [] (m+1) 0) ⟨(aA.alloc aA.size _),rv.alloc _,rv.lt,Seen.made _,OwnG.nil_ _ _ _ _ _ _ _,Coll.nil _ _⟩ ?_;intro w2 K;obtain⟨S,bA⟩:=eX (w1.heap.size);rw [bA] at K ⊢;have C:=K.rv.lt;clear aA rv bA;go_wp2_with fail;go_loopw [8,19] (λ vl i wr=>∃ k:Nat,k<=N∧i=iL (k:Int)∧Go1 w wr v S vl (nxGo v d (ps.take k) []) (m+1) (k*25)) (λ _ i _=>N - (intOf i).toNat)
 case atStart=>exact⟨0,Nat.zero_le _,by first | rfl | trivial,K⟩
 case round =>
  obtain⟨k,hk,rfl,K⟩:=hrel;clear C;have C:=K.rv.lt;by_cases hlt:k<N
  ·obtain⟨b1,o1,r,rfl,-,aA,hr,hc⟩:=(cl.out.keep (.below K.bel)).at_ (i:=k) (by rw [bX.out.1,bV.out];exact hlt);obtain⟨p,hp,hR⟩:=bX.out.at_ hr;have HT:=kD (show nxGo v d (ps.take (k+1)) []=nxIn v p (legalP v p.2 d) (nxGo v d (ps.take k) []) from by rw [takeS hp,nxGo_snoc]);have ac:=kD (cm.out p (List.mem_of_getElem? hp));obtain⟨X,hX⟩:=eX (nxGo v d (ps.take k) []);rw [hX] at K HT;clear hX;obtain⟨V,B⟩:=p;obtain⟨r0,rl,rm⟩:=r;have bL:=hR.1.sl enSt_len;have bJ:=hR.2.1;have bI:=hR.2.2;simp only at bL bJ bI ac HT;obtain⟨As,cs,rfl,ks,-⟩:=bL;obtain⟨Ao,co,rfl,ko,bP⟩:=bJ;obtain⟨At,ct,rfl,kt,bN⟩:=bI;have bF:wr.cell? ⟨b1,o1+k*3,none⟩=some (.slice As V.length cs):=hc 0 _ rfl;have bE:wr.cell? ⟨b1,o1+k*3+1,none⟩=some (.slice Ao B.1.length co):=hc 1 _ rfl;have bD:wr.cell? ⟨b1,o1+k*3+2,none⟩=some (.slice At B.2.length ct):=hc 2 _ rfl;have cH:(k:Int)<(N:Int):=by omega
   have cC:=iW (((k:Int)+1));have bw:=ac.out.1.own.len;have bv:=ac.out.1.oth.len;obtain⟨n,hn⟩:=eX (P+1);have aH:B.1.length=n:=by have:=HP.out;omega
   have aG:B.2.length=n:=by have:=HP.out;omega
   obtain⟨ns,aY⟩:=eX (V.length);have bh:=kD aY;have b7:ns<=10:=by have:=ac.out.2;omega
   have bO:=kD bP;have bM:=kD bN;have RS:=kD (λ(o:World) (h:zB w o)=>(ks.rd.below h lR));have RO:=kD (λ(o:World) (h:zB w o)=>(ko.rd.below h lR));have bg:=kD (λ(o:World) (h:zB w o)=>(kt.rd.below h lR));have cq:=kD aH;have cn:=kD aG;have CL:=kD (λ(o:World) (h:zB w o)=>legal_i v B ac.out.1 Ao At co ct w.heap.size d hd o h.size (RO.out o h) (bg.out o h));rw [aH,aG] at CL;rw [aH] at bE;rw [aG] at bD;rw [aY] at bF;clear hr hp hR hc ks ko kt bP bN bw bv aH aG aY;go_upto_region 6 with fail;refine wp_gen (λ W'=>Below wr.heap.size wr W'∧RowB W' wr.heap.size 98 [.slice As ns cs,.slice Ao n co,.slice At n ct]) ?_ ?_
   ·exact⟨(zRf).alloc lR _,nW⟩
   rintro w3 ⟨bH,rp⟩;have a8:S<wr.heap.size:=K.sn.lt;have aZ:u8.ownBlock≠some wr.heap.size:=λ h=>by obtain⟨W,h9,-⟩:=K.og;have:=(h9.block _ h).2;omega
   have K:=K.below bH;obtain⟨gp,bB⟩:=eX (wr.heap.size);rw [bB] at rp a8 aZ ⊢;clear bF bE bD aA bH C bB;obtain⟨q0,q1,q2,q3⟩:=K.rv.c4;obtain⟨p0,p1,p2⟩:=rp.c3;have C:=K.rv.lt;have a4:=rp.lt;go_wp2_with fail;refine(CL.out w3 K.bel).mono ?_;rintro e w4 ⟨sv,rfl,aV,bb⟩;obtain⟨cw,be,b6,-⟩:=aV.form enSt_len;have aJ:SlV 4 enSt w4 (NotIn u8 (S+1)) sv (legalP v B d):=by
    have h1:OwnV 111 4 enSt w4 (NotIn u8 (S+1)) sv (legalP v B d):=OwnV.of aV lR (λ b hb _=>⟨λ h=>by obtain⟨W,h9,-⟩:=K.og;have:=(h9.block _ h).2;omega,by omega⟩);exact h1.sl enSt_len
   have f:Go2 w w4 v S u8 X (m+1) (k*25) gp [.slice As ns cs,.slice Ao n co,.slice At n ct] sv (legalP v B d):=⟨K.below bb,a8,rp.below bb rp.lt,aZ,aJ⟩;subst b6;clear K rp aV aJ bb a8 aZ q0 q1 q2 q3 p0 p1 p2 C a4;have C:=f.k1.rv.lt;obtain⟨M,hM⟩:=eX ((legalP v B d).length);have HM:=kD hM;have cB:M<=25:=by have:=legal_len v B d;have:=HP.out;omega
   rw [hM] at f ⊢;clear hM;go_wp2_with fail;go_loopw [8,29] (λ vl i wq=>∃ j:Nat,j<=M∧i=iL (j:Int)∧Go2 w wq v S vl (nxIn v (V,B) ((legalP v B d).take j) X) (m+1) (k*25+j) gp [.slice As ns cs,.slice Ao n co,.slice At n ct] (.slice cw M be) (legalP v B d)) (λ _ i _=>M - (intOf i).toNat)
   case atStart=>exact⟨0,Nat.zero_le _,by first | rfl | trivial,f⟩
   case round =>
    obtain⟨j,hj,rfl,f⟩:=hrel;clear C;have C:=f.k1.rv.lt;by_cases hlj:j<M
    ·obtain⟨A5,c5,e5,aL,-⟩:=f.st;simp only [Value.slice.injEq] at e5;obtain⟨rfl,-,rfl⟩:=e5;obtain⟨b5,o5,s,rfl,-,cb,aW,ay⟩:=aL.at_ (i:=j) (by rw [HM.out];exact hlj);have bT:=kD (List.mem_of_getElem? aW);have aK:StOk v s:=legal_parts hd.1 ac.out.1 bT.out;obtain⟨G,aD⟩:=eX (afterP v B s);have ah:=kD (show Ok v G from by rw [<-aD];exact legal_ok hd.1 ac.out.1 bT.out);have HS:=kD (show nxIn v (V,B) ((legalP v B d).take (j+1)) X=addOne (nxIn v (V,B) ((legalP v B d).take j) X) (V++[s],G) from by rw [takeS aW,nxIn_snoc,aD]);obtain⟨Y,hY⟩:=eX (nxIn v (V,B) ((legalP v B d).take j) X);rw [hY] at f HS;have aw:G.1.length=n:=by have:=ah.out.own.len;have:=HP.out;omega
     have ar:G.2.length=n:=by have:=ah.out.oth.len;have:=HP.out;omega
     have CA:=kD (λ(o:World) (h:zB w o)=>after_i v B ac.out.1 Ao At co ct w.heap.size s aK o h.size (RO.out o h) (bg.out o h) bO.out bM.out);rw [aD,cq.out,cn.out] at CA;obtain⟨sf,E,sd,sh⟩:=s;have d0:wr.cell? ⟨b5,o5+j*4,none⟩=some (iL sf):=ay 0 _ rfl;have d1:wr.cell? ⟨b5,o5+j*4+1,none⟩=some (iL E):=ay 1 _ rfl;have d2:wr.cell? ⟨b5,o5+j*4+2,none⟩=some (iL sd):=ay 2 _ rfl;have d3:wr.cell? ⟨b5,o5+j*4+3,none⟩=some (.bool sh):=ay 3 _ rfl;have cI:(j:Int)<(M:Int):=by omega
     have cD:=iW (((j:Int)+1));simp only at CA;clear hY aD aW ay aK aL;go_upto_region 9 with fail;refine wp_gen (λ W'=>Below wr.heap.size wr W'∧RowB W' wr.heap.size 111 [iL sf,iL E,iL sd,.bool sh]) ?_ ?_
     ·exact⟨(zRf).alloc lR _,nW⟩
     rintro w5 ⟨aQ,y⟩;have ba:S<wr.heap.size:=f.k1.sn.lt;have br:u8.ownBlock≠some wr.heap.size:=λ h=>by obtain⟨W,h9,-⟩:=f.k1.og;have:=(h9.block _ h).2;omega
     have a2:gp≠wr.heap.size:=by have:=f.rp.lt;omega
     have f:=f.below aQ;obtain⟨bQ,O⟩:=eX (wr.heap.size);rw [O] at y ba br a2 ⊢;clear d0 d1 d2 d3 cb aQ C O;obtain⟨q0,q1,q2,q3⟩:=f.k1.rv.c4;obtain⟨p0,p1,p2⟩:=f.rp.c3;obtain⟨s0,s1,s2,s3⟩:=y.c4;have C:=f.k1.rv.lt;have a4:=f.rp.lt;have bx:=y.lt;go_wp2_with fail;refine(CA.out w5 f.k1.bel).mono ?_;rintro e w6 ⟨A3,c3,A4,c4,rfl,bp,bo,cc,aE⟩;have bG:=f.k1.bel;have bq:u8.ownBlock≠some w6.heap.size:=λ h=>by obtain⟨W,h9,-⟩:=f.k1.og;have:=(h9.block _ h).2;have:=aE.size;omega
     have a0:∀ b,u8.ownBlock=some b->b<w5.heap.size:=λ b h=>by obtain⟨W,h9,-⟩:=f.k1.og;exact(h9.block _ h).2
     have bz:S<w5.heap.size:=f.k1.sn.lt;have J:SlV 1 enI w6 (NotIn u8 (S+1)) (.slice A3 G.1.length c3) G.1:=(OwnV.of bp lR (λ b hb _=>⟨λ h=>by have:=a0 b h;omega,by omega⟩):OwnV 2 1 enI w6 (NotIn u8 (S+1)) _ G.1).sl enI_len;have I:SlV 1 enI w6 (NotIn u8 (S+1)) (.slice A4 G.2.length c4) G.2:=(OwnV.of bo lR (λ b hb _=>⟨λ h=>by have:=a0 b h;omega,by omega⟩):OwnV 2 1 enI w6 (NotIn u8 (S+1)) _ G.2).sl enI_len;have f:=f.below aE;have y:=y.below aE y.lt;have av:=y.lt;have aO:=f.rp.lt;rw [aw] at J ⊢;rw [ar] at I ⊢;clear q0 q1 q2 q3 p0 p1 p2 s0 s1 s2 s3 C a4 bx aE bp bo cc a0 bG CA;go_upto_region 10 with fail;refine wp_gen (λ W'=>Below w6.heap.size w6 W'∧RowB W' w6.heap.size 51 [.slice A3 n c3,.slice A4 n c4]) ?_ ?_
     ·exact⟨(zRf).alloc lR _,nW⟩
     rintro w7 ⟨az,rn⟩;have f:=f.below az;have y:=y.below az y.lt;have J:=(relV 1 enI).keep J (.below az);have I:=(relV 1 enI).keep I (.below az);have a9:S<w6.heap.size:=by omega
     have a1:gp<w6.heap.size∧bQ<w6.heap.size:=⟨aO,av⟩;obtain⟨cK,aP⟩:=eX (w6.heap.size);rw [aP] at rn bq a9 a1 ⊢;clear az aP av bz aO;obtain⟨z0,z1⟩:=rn.c2;have C:=rn.lt;have bS:=kD (by
      obtain⟨Ax,cx,ex,kx,-⟩:=J;obtain⟨Ay,cy,ey,ky,-⟩:=I;simp only [Value.slice.injEq] at ex ey;obtain⟨rfl,-,rfl⟩:=ex;obtain⟨rfl,-,rfl⟩:=ey;exact key_i G.1 G.2 n aw ar (by omega) (λ i=>⟨ah.out.own.nn i,by have:=ah.out.own.top i;have:=HC.out;omega⟩) (λ i=>⟨ah.out.oth.nn i,by have:=ah.out.oth.top i;have:=HC.out;omega⟩) A3 A4 c3 c4 w7.heap.size w7 lR kx.rd ky.rd)
     go_wp2_with fail;refine bS.out.mono ?_;rintro e w8 ⟨rfl,ap⟩;have f:=f.below ap;have y:=y.below ap y.lt;have rn:=rn.below ap rn.lt;have J:=(relV 1 enI).keep J (.below ap);have I:=(relV 1 enI).keep I (.below ap);have aw:=kD aw;have ar:=kD ar;clear z0 z1 C ap bS;obtain⟨aj,am⟩:∃ aj:ByteArray,(⟨(keyP (G.1,G.2)).toArray⟩:ByteArray)=aj:=⟨_,rfl⟩;rw [am];have a6:aj.data.toList=keyP G:=by rw [<-am]
     have a5:aj.size<=maxLen:=by rw [<-am];show (keyP G).toArray.size<=maxLen;rw [List.size_toArray,key_len,aw.out,ar.out];unfold maxLen;omega
     obtain⟨x,hx⟩:=eX (decide (aj.data.toList ∈ keysP Y));have cr:=f.k1.sn.look bW aj a5 x hx;have aI:=kD (show x=hasB Y G from by rw [<-hx,a6];exact has_key (λ q hq=>(f.k1.co.ok q hq).1) ah.out);have bZ:=kD a6;have bY:=kD a5;clear am a6 a5 hx
     cases x
     case true =>
      have bU:nxIn v (V,B) ((legalP v B d).take (j+1)) X=Y:=by rw [HS.out];exact addOne_has aI.out.symm
      have K9:Go2 w w8 v S u8 (nxIn v (V,B) ((legalP v B d).take (j+1)) X) (m+1) (k*25+(j+1)) gp [.slice As ns cs,.slice Ao n co,.slice At n ct] (.slice (sA b5 o5) M be) (legalP v B d):=by
       rw [bU];exact⟨⟨f.k1.bel,f.k1.rv,f.k1.ge,f.k1.sn,f.k1.og,f.k1.co.more (by omega)⟩,f.gg,f.rp,f.np,f.st⟩
      clear f bU;go_wp2_with fail;go_roundw
      case rel=>exact⟨j+1,by omega,by go_num,K9⟩
      case measure=>simp [intOf];omega
     case false =>
      have cz:Y.length<=1000000:=by have:=f.k1.co.len;omega
      go_wp2_with (refine Seen.wpL_put rfl _ _ _ _ rfl bW rfl f.k1.sn (by unfold maxLen;omega) aj bY.out rfl rfl ?_);intro aa ad Z;obtain⟨ab,rv,og,rp,st⟩:=f.put Z;have y:=y.grown Z (λ k hk=>by simp at hk;omega);have rn:=rn.grown Z (λ k hk=>by simp at hk;omega);have J:=(relV 1 enI).keep J (Still.grown Z (λ k hk hn=>by simp at hk;have:=hn.2;omega));have I:=(relV 1 enI).keep I (Still.grown Z (λ k hk hn=>by simp at hk;have:=hn.2;omega));have ad:Seen aa S (Y++[(V++[(sf,E,sd,sh)],G)]).length (keysP (Y++[(V++[(sf,E,sd,sh)],G)])):=by
       rw [List.length_append];refine Bd16.Seen.same ad (λ q=>?_);rw [bZ.out];unfold keysP;rw [List.map_append];simp [or_comm]
      have ck:=kD (show nxIn v (V,B) ((legalP v B d).take (j+1)) X=Y++[(V++[(sf,E,sd,sh)],G)] from by rw [HS.out];exact addOne_new aI.out.symm);have bC:=f.k1.co.add (p:=(V++[(sf,E,sd,sh)],G)) ⟨ah.out,by simp [ac.out.2]⟩;rw [addOne_new (show hasB Y G=false from aI.out.symm)] at bC;have ge:=f.k1.ge;have gg:=f.gg;have np:=f.np;clear f Z cr aI bZ bY HS;have RP:=kD rp;have T:=kD y;have bR:=kD (RS.out aa ab);have cv:w.heap.size<=aa.heap.size:=ab.size;have cE:IntKind.i64.wrap ((ns:Int)+1)=((ns+1:Nat):Int):=by rw [IntWalk.i64_in _ (by omega)];omega
      have BE:=kD ab;have RV:=kD rv;have ca:S<aa.heap.size:=ad.lt;have cj:∀ b,u8.ownBlock=some b->¬ aa.heap.size<=b:=λ b h=>by obtain⟨W,h9,-⟩:=og;have:=(h9.block _ h).2;omega
      clear ab rv rp y;go_wp2_with fail;refine rG [some 45,some 46,some 47,some 48,some 49,some 50,some 51,some 52,some 53,some 54,some 55,some 15] 12 (Pl [some (pT gp 0),some (.slice As ns cs),some (iL (ns:Int)),some (iL ((ns+1:Nat):Int)),none,some (pT gp 0),some (.slice As ns cs),none,some (.agg #[iL sf,iL E,iL sd,.bool sh]),none,none,none]) (λ L a w'=>GoF aa V (sf,E,sd,sh) (L 4) (L 7) (L 9) (L 10) (L 11) (a 4) (a 7) (a 9) (a 10) (a 11) w') ?g0_1 ?gst_1 ?gfin_1
      case g0_1=>exact⟨(zRf).drew,λ h=>absurd h (by decide),λ h=>absurd h (by decide),λ h=>absurd h (by decide),λ h=>absurd h (by decide),λ h=>absurd h (by decide)⟩
      case gst_1 =>
       refine rN rfl (λ L a A o l z t U F K Q=>?_) ?_
       ·have ci:=U.w 10 (pT gp 0);have cp:=(RP.out.below F.bel RP.out.lt).c3;have cs:=(T.out.below F.bel T.out.lt).c4;have c0:=cp.1;obtain⟨d0,d1,d2,d3⟩:=cs;clear cp;go_simp;exact pF Q (F.skip 0 _)
       refine rN rfl (λ L a A o l z t U F K Q=>?_) ?_
       ·have cQ:=U.v 0 45;have cp:=(RP.out.below F.bel RP.out.lt).c3;have cs:=(T.out.below F.bel T.out.lt).c4;have c0:=cp.1;obtain⟨d0,d1,d2,d3⟩:=cs;clear cp;go_simp;exact pF Q (F.skip 1 _)
       refine rN rfl (λ L a A o l z t U F K Q=>?_) ?_
       ·have cP:=U.v 1 46;go_simp;exact pF Q (F.skip 2 _)
       refine rN rfl (λ L a A o l z t U F K Q=>?_) ?_
       ·have cO:=U.v 2 47;go_simp;exact pF Q (F.skip 3 _)
       refine rN rfl (λ L a A o l z t U F K Q=>?_) ?_
       ·have ch:=U.v 3 48;refine wp_make (en:=enSt) _ _ _ rfl aa.heap.size 111 i4 (.agg #[iL 0,iL 0,iL 0,.bool false]) 4 Tryz.underlying26 a7 aU aT .i64 .i64 (ns+1) rfl (ev ch) (by rw [aS];omega) (by unfold maxLen;omega) F.bel.size ?_;intro aq ae af;exact Q.out _ aq (Pl.any rfl) (by simpa [upd] using F.s4 (λ h=>l (t 7 4 (by kernel_rfl) h)) (λ h=>l (t 10 4 (by kernel_rfl) h)) (λ h=>l (t 11 4 (by kernel_rfl) h)) ae af)
       refine rN rfl (λ L a A o l z t U F K Q=>?_) ?_
       ·have ci:=U.w 10 (pT gp 0);have cp:=(RP.out.below F.bel RP.out.lt).c3;have cs:=(T.out.below F.bel T.out.lt).c4;have c0:=cp.1;obtain⟨d0,d1,d2,d3⟩:=cs;clear cp;go_simp;exact pF Q (F.skip 5 _)
       refine rN rfl (λ L a A o l z t U F K Q=>?_) ?_
       ·have cN:=U.v 5 50;have cp:=(RP.out.below F.bel RP.out.lt).c3;have cs:=(T.out.below F.bel T.out.lt).c4;have c0:=cp.1;obtain⟨d0,d1,d2,d3⟩:=cs;clear cp;go_simp;exact pF Q (F.skip 6 _)
       refine rN rfl (λ L a A o l z t U F K Q=>?_) ?_
       ·have cg:=U.x 4 49;have cf:=U.v 6 51;have o4:=F.f4 (bK z 4) l;refine wp_app (en:=enSt) _ _ _ rfl aa.heap.size o.heap.size 111 i4 (.agg #[iL 0,iL 0,iL 0,.bool false]) 4 32 Tryz.underlying26 a7 aU aT aS rfl (by decide) enSt_len (a 4) [] V (λ x _=>one_St x) (ev cg) o4 As ns cs w.heap.size (ev cf) bh.out.symm (bR.out.below F.bel cv) (by unfold maxLen;simp;omega) (by simp;omega) F.bel.size lR ?_;intro v' aq ae af aB;exact Q.out _ aq (Pl.any rfl) (by simpa [upd] using F.s7 (bK z 4) l (λ h=>l (t 10 7 (by kernel_rfl) h)) (λ h=>l (t 11 7 (by kernel_rfl) h)) (by simpa using ae) af aB)
       refine rN rfl (λ L a A o l z t U F K Q=>?_) ?_
       ·have cR:=U.w 12 (pT bQ 0);have cp:=(RP.out.below F.bel RP.out.lt).c3;have cs:=(T.out.below F.bel T.out.lt).c4;have c0:=cp.1;obtain⟨d0,d1,d2,d3⟩:=cs;clear cp;go_simp;exact pF Q (F.skip 8 _)
       refine rN rfl (λ L a A o l z t U F K Q=>?_) ?_
       ·have cM:=U.v 8 53;go_simp;exact Q.out _ _ (Pl.any rfl) (by simpa [upd,enSt] using F.s9 (λ h=>l (t 10 9 (by kernel_rfl) h)) (λ h=>l (t 11 9 (by kernel_rfl) h)))
       refine rN rfl (λ L a A o l z t U F K Q=>?_) ?_
       ·have ce:=U.x 7 52;have cd:=U.x 9 54;have o7:=F.f7 (bK z 7) l;have q9:=F.f9 (bK z 9) l;refine q9.elim λ g9 q9=>?_
        refine wp_app (en:=enSt) _ _ _ rfl aa.heap.size o.heap.size 111 i4 (.agg #[iL 0,iL 0,iL 0,.bool false]) 4 32 Tryz.underlying26 a7 aU aT aS rfl (by decide) enSt_len (a 7) V [(sf,E,sd,sh)] (λ x _=>one_St x) (ev ce) o7 (sA g9 0) 1 1 (g9+1) ((ev cd).trans q9.1) rfl (rd_row q9.2.2.1 (Nat.lt_succ_self _)) (by rw [bh.out];unfold maxLen;omega) (by rw [bh.out];omega) F.bel.size lR ?_;intro v' aq ae af aB;exact Q.out _ aq (Pl.any rfl) (by simpa [upd] using F.s10 (bK z 7) l (λ h=>l (t 11 10 (by kernel_rfl) h)) ae af)
       refine rN rfl (λ L a A o l z t U F K Q=>?_) ?_
       ·have cL:=U.x 10 55;go_simp;exact Q.out _ o (Pl.any rfl) (by simpa [upd] using F.s11)
       exact RelFrom.nil (by decide)
      case gfin_1 =>
       intro a o hp F;simp only [Fr,Act.put,sX,Nat.reduceAdd];have an:=F.f10 trivial;rw [<-F.f11 trivial] at an;have H:=F.bel;clear F hp
       generalize a 11=v15 at an ⊢
       obtain⟨al,ak,bl,-⟩:=an.form enSt_len;subst bl;obtain⟨ai,aN⟩:=eX ((V++[(sf,E,sd,sh)]).length);rw [aN] at an ⊢;clear aN;have ab:=BE.out.tR H;have rv:=RV.out.below H RV.out.lt;have og:=(og.below_ H).more H.size;have rp:=RP.out.below H RP.out.lt;have st:=(relV 4 enSt).keep st (.below H);have rn:=rn.below H rn.lt;have J:=(relV 1 enI).keep J (.below H);have I:=(relV 1 enI).keep I (.below H);have ad:=ad.below H;have bs:=H.size;obtain⟨W,aX,a3⟩:=og;have bm:=kD a3.1;have aC:∀ g,u8.ownBlock=some g->S+1<=g∧g<o.heap.size:=λ g hg=>aX.block g hg
       have aR:OwnV 111 4 enSt o (NotIn u8 (S+1)) (.slice al ai ak) (V++[(sf,E,sd,sh)]):=OwnV.of an lR (λ b hb cJ=>⟨λ h=>cj b h hb,by omega⟩);clear an RS RO bg bR H BE RV RP T;obtain⟨z0,z1⟩:=rn.c2;have C:=rn.lt;go_wp2_with (at_builtin;go_loud (refine wpL_one rfl _ _ _ rfl (S+1) _ 98 i3 (.agg #[.slice none 0 0,.slice none 0 0,.slice none 0 0]) 3 72 Tryz.underlying94 b9 b3 b2 b0 rfl (by decide) enP_len u8 W (.slice al ai ak,.slice A3 n c3,.slice A4 n c4) (one_P _ ⟨rfl,rfl,rfl⟩) rfl (aX.alloc _) o.heap.size 1 98 rfl (nW) ?c1 ?c2 ?c3 ?_))
       case c1=>have:=bm.out;unfold maxLen;omega
       case c2=>have:=bm.out;omega
       case c3=>have:=ab.size;have:=ad.lt;go_size
       intro aF bf bi aM O D b8;have ao:Below o.heap.size o (o.alloc (.cells #[.slice al ai ak,.slice A3 n c3,.slice A4 n c4] 98)):=by go_grown
       have D:u8.ownBlock=some aF∨aF=(o.alloc (.cells #[.slice al ai ak,.slice A3 n c3,.slice A4 n c4] 98)).heap.size:=by simpa using D
       have cF:(o.alloc (.cells #[.slice al ai ak,.slice A3 n c3,.slice A4 n c4] 98)).heap.size=o.heap.size+1:=by simp
       have ax:o.grownBy bi u8.ownBlock:=below_grown (w:=o) ao O;have bk:RelP.R (o.alloc (.cells #[.slice al ai ak,.slice A3 n c3,.slice A4 n c4] 98)) (NotIn u8 (S+1)) (.slice al ai ak,.slice A3 n c3,.slice A4 n c4) (V++[(sf,E,sd,sh)],G):=RelP.keep ⟨aR,J,I⟩ (.below ao);have og:=own_snoc (a3.keep (.below ao)) bk aM O D;have st:=app_still (K:=relV 4 enSt) (n:=W.length+1) (c:=bf) O D ((relV 4 enSt).keep st (.below ao));have bj:(Value.slice (sA aF 0) (W.length+1) bf).ownBlock≠some gp:=λ h=>by
        simp [Value.ownBlock] at h;rcases D with h9 | h9
        ·exact np (by rw [h9,h])
        ·have:=rp.lt;have:=ao.size;omega
       have K9:Go2 w bi v S (.slice (sA aF 0) (W.length+1) bf) (nxIn v (V,B) ((legalP v B d).take (j+1)) X) (m+1) (k*25+(j+1)) gp [.slice As ns cs,.slice Ao n co,.slice At n ct] (.slice (sA b5 o5) M be) (legalP v B d):=by
        rw [ck.out];exact⟨⟨ab.grown ax ab.size (λ g hg=>by have:=(aC g hg).1;omega),rv.grown ax (λ g hg=>by have:=(aC g hg).1;omega),ge,ad.grown ax (λ hg=>by have:=(aC S hg).1;omega),og,bC⟩,gg,rp.grown ax (λ g hg hh=>np (by rw [hg,hh])),bj,st⟩
       clear og st bj bk ax ao aM O D ab rv rp rn J I ad bs aX a3 aC aR z0 z1 C;go_wp2_with fail;go_roundw
       case rel=>exact⟨j+1,by omega,by go_num,K9⟩
       case measure=>simp [intOf];omega
    ·obtain rfl:j=M:=by omega
     have ag:nxIn v (V,B) ((legalP v B d).take j) X=nxGo v d (ps.take (k+1)) []:=by rw [<-HM.out,List.take_length];exact HT.out.symm
     have K9:=f.k1;rw [ag] at K9;have K9:Go1 w wr v S u8 (nxGo v d (ps.take (k+1)) []) (m+1) ((k+1)*25):=⟨K9.bel,K9.rv,K9.ge,K9.sn,K9.og,K9.co.more (by omega)⟩;clear f ag;go_wp2_with fail;go_roundw
     case rel=>exact⟨k+1,by omega,by go_num,K9⟩
     case measure=>simp [intOf];omega
  ·obtain rfl:k=N:=by omega
   have ag:nxGo v d (ps.take k) []=nextP v d ps:=by rw [<-bV.out,List.take_length];rfl
   rw [ag] at K;have cG:¬ ((k:Int)<(k:Int)):=by omega
   clear ag;go_wp2_with fail;go_ret;exact⟨_,rfl,K.og.less (by have:=K.ge;omega),K.bel⟩
end Bd17
end Go.Proofs.YtjdefiinmicjiaaGreatDoor
