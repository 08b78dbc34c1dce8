/- Parts of the proof of FnEventText. Conditions: each theorem's own. -/
import Derived.Test.YtjdefiinmicjiaaGreatDoorU08
set_option linter.unusedVariables false
set_option linter.unusedSimpArgs false
set_option maxHeartbeats 8000000
set_option maxRecDepth 100000
namespace Go.Proofs.YtjdefiinmicjiaaGreatDoor
namespace Gm
open Go Go.ChangeShapes Go.WideShapes Go.ChangeAt Go.RowKit Base Ints Own Clone RelG PlP Bd1 Bd2 Bd4 Bd5 Bd6 Bd7 Bd8 RegInv RegF RegG
def aggC:Value->List Value
 | .agg a=>a.toList
 | _=>[]
theorem two_set:∀(cs:List Value),cs.length=2->∀ a b,setL cs 0 [a,b]=aggC (.agg #[a,b])
 | [_,_],_,_,_=>rfl
structure F3 (w wr:World) (v:Vr) (us:List Value):Prop where
 bel:Below w.heap.size w wr
 rv:RowB wr w.heap.size 25 (vL v)
 rb:RowB wr (w.heap.size+1) 51 us
 rr:RowB wr (w.heap.size+2) 51 [.slice none 0 0,.slice none 0 0]
theorem F3.below {w wr w':World} {v:Vr} {us:List Value} (k:F3 w wr v us) (hb:Below wr.heap.size wr w'):F3 w w' v us :=
 ⟨k.bel.trans (hb.mono k.bel.size),k.rv.below hb k.rv.lt,k.rb.below hb k.rb.lt,k.rr.below hb k.rr.lt⟩
structure Fl (w wr:World) (v:Vr) (us:List Value) (gb:Nat) (a1 a2:Value) (bk:Bd):Prop where
 k:F3 w wr v us
 rg:RowB wr gb 51 [a1,a2]
 o1:SlV 1 enI wr (λ b=>w.heap.size+3<=b∧b≠gb) a1 bk.1
 o2:SlV 1 enI wr (λ b=>w.heap.size+3<=b∧b≠gb) a2 bk.2
theorem Fl.below {w wr w':World} {v:Vr} {us:List Value} {gb:Nat} {a1 a2:Value} {bk:Bd} (h:Fl w wr v us gb a1 a2 bk) (hb:Below wr.heap.size wr w'):Fl w w' v us gb a1 a2 bk :=
 ⟨h.k.below hb,h.rg.below hb h.rg.lt,(relV 1 enI).keep h.o1 (.below hb),(relV 1 enI).keep h.o2 (.below hb)⟩
theorem drop_at {α:Type} {l:List α} {k:Nat} {x:α} (h:l[k]?=some x):l.drop k=x :: l.drop (k+1):=by
 have a:=(List.getElem?_eq_some_iff.1 h);rw [List.drop_eq_getElem_cons a.1,a.2]
theorem st_at {w:World} {B:Nat} {A:Option Addr} {ss:List Stp} (h:RdS w B 4 enSt A ss) {k:Nat} (hk:k<ss.length) :
  ∃ sb so f t d hh,A=some ⟨sb,so,none⟩∧sb<B∧ss[k]?=some (f,t,d,hh)∧w.cell? ⟨sb,so+k*4,none⟩=some (.int .i64 f)∧w.cell? ⟨sb,so+k*4+1,none⟩=some (.int .i64 t)∧w.cell? ⟨sb,so+k*4+2,none⟩=some (.int .i64 d)∧w.cell? ⟨sb,so+k*4+3,none⟩=some (.bool hh):=by
 obtain⟨b,c,⟨p,q,r,s⟩,e,i,g,a⟩:=h.at_ hk;exact⟨b,c,p,q,r,s,e,i,g,a 0 _ rfl,a 1 _ rfl,a 2 _ rfl,a 3 _ rfl⟩
theorem in_at {w:World} {S:Nat->Prop} {A:Option Addr} {ds:List Int} (h:RdF w S 1 enI A ds) {k:Nat} (hk:k<ds.length) :
  ∃ db do_ d,A=some ⟨db,do_,none⟩∧db<w.heap.size∧ds[k]?=some d∧w.cell? ⟨db,do_+k,none⟩=some (.int .i64 d):=by
 obtain⟨b,a,x,e,-,g,c,f⟩:=h.at_ hk;exact⟨b,a,x,e,g,c,by simpa using f 0 _ rfl⟩
theorem F3.two {w wr:World} {v:Vr} {us:List Value} {gb:Nat} (k:F3 w wr v us) (h:w.heap.size+3<=gb) (a b:Value):F3 w ((wr.setCell ⟨gb,0,none⟩ a).setCell ⟨gb,1,none⟩ b) v us :=
 ⟨below_two k.bel (by omega) _ _,oth2 k.rv (by omega) _ _,oth2 k.rb (by omega) _ _,oth2 k.rr (by omega) _ _⟩
theorem two_grown (w:World) (g:Nat) (a b:Value):w.grownBy ((w.setCell ⟨g,0,none⟩ a).setCell ⟨g,1,none⟩ b) (some g):=Base.grownBy_trans (Base.grownBy_setCell _ _ _ _) (Base.grownBy_setCell _ _ _ _)
theorem sl_two {w:World} {lo g:Nat} {u:Value} {l:List Int} {S:Nat->Prop} (h:OwnS w lo w.heap.size 2 1 enI u l) (hg:g<lo) (hS:∀ b,lo<=b->S b) (a b:Value):SlV 1 enI ((w.setCell ⟨g,0,none⟩ a).setCell ⟨g,1,none⟩ b) S u l :=
 (relV 1 enI).weak ((relV 1 enI).keep (OwnV.sl enI_len (OwnV.of h (Nat.le_refl _) (S:=λ b=>lo<=b) (λ b hb _=>hb))) (Still.grown (two_grown w g a b) (λ k hk hs=>by simp at hk;omega))) (λ b hb _=>hS b hb)
theorem sl_two' {w:World} {g:Nat} {u:Value} {l:List Int} {S:Nat->Prop} (h:SlV 1 enI w S u l) (hg:¬ S g) (a b:Value):SlV 1 enI ((w.setCell ⟨g,0,none⟩ a).setCell ⟨g,1,none⟩ b) S u l :=
 (relV 1 enI).keep h (Still.grown (two_grown w g a b) (λ k hk hs=>by simp at hk;subst hk;exact hg hs))
theorem legal_stok {v:Vr} {b:Bd} {s:Stp} (hb:Ok v b) (h:legal1 v b s=true):StOk v s:=by
 obtain⟨_,m,e,g⟩:=legal1_iff.1 h;obtain⟨k,j,i,f⟩:=step_parts e hb g;have l:=hb.v1;unfold StOk;rcases f with ⟨a,b,c,d⟩ | ⟨a,b,c⟩
 ·exact⟨e,by omega,λ _=>by omega⟩
 ·exact⟨e,by omega,λ h=>by rw [c] at h;cases h⟩
theorem follow_s (v:Vr) (b:Bd) (hb:Ok v b) (S:Nat->Prop) (u1 u2:Value) (ds:List Int) (hd4:ds.length<=4) (uo:Value) (ss:List Stp) (A:Option Addr) (cp BS:Nat) (w:World) (hBS:BS<=w.heap.size) (hR:BdR w S u1 u2 b) (ho:SlV 1 enI w All uo ds) (hs:RdS w BS 4 enSt A ss) :
  Calls Tryz.prog 179 #[.agg #[.int .i64 v.p,.int .i64 v.c,.int .i64 v.h,.int .i64 v.s],.agg #[u1,u2],uo,.slice A ss.length cp] w λ e w'=>Ret RelBB (followP v b ds ss) (λ _=>False) w e w':=by
 obtain⟨⟨A1,c1,rfl,r1,k1⟩,⟨A2,c2,rfl,r2,k2⟩⟩:=hR;obtain⟨Ao,co,rfl,ro,ko⟩:=ho;have aK:b.1.length<=1048577:=by have:=hb.own.len;have:=hb.v1.1;omega
 have aJ:b.2.length<=1048577:=by have:=hb.oth.len;have:=hb.v1.1;omega
 have aA:=kD (λ(z:World) (h9:Below w.heap.size w z)=>own02 A1 c1 z.heap.size b.1 z (Nat.le_refl _) (r1.keep (.below h9)).rd k1 aK);have az:=kD (λ(z:World) (h9:Below w.heap.size w z)=>own02 A2 c2 z.heap.size b.2 z (Nat.le_refl _) (r2.keep (.below h9)).rd k2 aJ);obtain⟨n1,af⟩:∃ n,b.1.length=n:=⟨_,rfl⟩;obtain⟨n2,ae⟩:∃ n,b.2.length=n:=⟨_,rfl⟩;rw [af] at aA;rw [ae] at az;rw [af,ae];have bh:=kD af;have bg:=kD ae;obtain⟨N,hN⟩:∃ n,ss.length=n:=⟨_,rfl⟩;obtain⟨m,hm⟩:∃ n,ds.length=n:=⟨_,rfl⟩;have ba:N<=9223372036854775807:=by have:=hs.len;omega
 rw [hm] at hd4;rw [hN,hm];have HN:=kD hN;have HM:=kD hm;have RS:=kD hs;have RO:=kD ro;have HB:=kD hb;obtain⟨R,hR⟩:∃ r,followP v b ds ss=r:=⟨_,rfl⟩;rw [hR];have HR:=kD hR;clear af ae hN hm hs ro hb r1 r2 aK aJ hR;go_enter Tryz.func179,Tryz.ntmps179;go_upto_region 1 with fail;refine wp_gen (λ H=>F3 w H v [.slice A1 n1 c1,.slice A2 n2 c2]) ⟨by go_grown,((RowB.new _ _ _).alloc _).alloc _,(RowB.new' _ _ _ (by simp)).alloc _,RowB.new' _ _ _ (by simp)⟩ ?_;intro w1 Q;have aa:=Q.rb.lt;refine rG [some 12,some 13,some 14,some 15,some 16,some 17,some 18,some 10,none] 9 (Pl [some (.pointer (some ⟨w.heap.size+1,0,none⟩)),some (.slice A1 n1 c1),none,some (.pointer (some ⟨w.heap.size+1,1,none⟩)),some (.slice A2 n2 c2),none,none,none,none]) (λ L j w'=>C2F RelI b.1 RelI b.2 w1 2 5 6 7 8 (λ a b=>.agg #[a,b]) aggC 51 2 L j w') ?g0_1 ?gst_1 ?gfin_1
 case g0_1=>exact⟨(Below.refl _ _).drew,λ h=>absurd h (by decide),λ h=>absurd h (by decide),λ h=>absurd h (by decide),λ h=>absurd h (by decide),λ h=>absurd h (by decide)⟩
 case gst_1 =>
  refine rN rfl (λ L j A z o l D U F K G=>?_) ?_
  ·have e5:=U.w 5 (.pointer (some ⟨w.heap.size+1,0,none⟩));have rb:=Q.rb.below F.bel aa;obtain⟨y0,y1⟩:=rb.c2;clear rb;go_simp;exact pF G (F.skip 0 _)
  refine rN rfl (λ L j A z o l D U F K G=>?_) ?_
  ·have be:=U.v 0 12;have rb:=Q.rb.below F.bel aa;obtain⟨y0,y1⟩:=rb.c2;clear rb;go_simp;exact pF G (F.skip 1 _)
  refine rN rfl (λ L j A z o l D U F K G=>?_) ?_
  ·have bd:=U.v 1 13;go_simp;refine(aA.out z (Q.bel.trans (F.bel.mono Q.bel.size))).mono ?_;rintro e w6 ⟨⟨v6,rfl,ao⟩,av⟩;exact G.out v6 w6 (Pl.any rfl) (F.call1 o (by decide) av (OwnV.sl enI_len (OwnV.of ao (Nat.le_refl _) (λ b hb _=>hb))))
  refine rN rfl (λ L j A z o l D U F K G=>?_) ?_
  ·have e5:=U.w 5 (.pointer (some ⟨w.heap.size+1,0,none⟩));have rb:=Q.rb.below F.bel aa;obtain⟨y0,y1⟩:=rb.c2;clear rb;go_simp;exact pF G (F.skip 3 _)
  refine rN rfl (λ L j A z o l D U F K G=>?_) ?_
  ·have bc:=U.v 3 15;have rb:=Q.rb.below F.bel aa;obtain⟨y0,y1⟩:=rb.c2;clear rb;go_simp;exact pF G (F.skip 4 _)
  refine rN rfl (λ L j A z o l D U F K G=>?_) ?_
  ·have bb:=U.v 4 16;go_simp;refine(az.out z (Q.bel.trans (F.bel.mono Q.bel.size))).mono ?_;rintro e w6 ⟨⟨v6,rfl,ao⟩,av⟩;exact G.out v6 w6 (Pl.any rfl) (F.call2 o (by decide) av (OwnV.sl enI_len (OwnV.of ao (Nat.le_refl _) (λ b hb _=>hb))))
  refine rN rfl (λ L j A z o l D U F K G=>?_) ?_
  ·have aM:=U.x 2 14;have aL:=U.x 5 17;refine(F.f1 (bK l 2)).elim λ A3 Z=>?_
   refine Z.elim λ c3 Z=>?_
   refine(F.f2 (bK l 5)).elim λ A4 Y=>?_
   refine Y.elim λ c4 Y=>?_
   have a3:=aM.trans Z.1;have a0:=aL.trans Y.1;clear aM aL;go_simp;exact G.out _ z (Pl.any rfl) (F.built o (by decide) (bK l 2) (bK l 5) (by rw [Z.1,Y.1]))
  refine rN rfl (λ L j A z o l D U F K G=>?_) ?_
  ·go_simp;exact G.out _ _ (Pl.any rfl) (F.box (by decide) (λ h=>o (D 8 7 (by kernel_rfl) h)) rfl)
  refine rN rfl (λ L j A z o l D U F K G=>?_) ?_
  ·have aU:=U.x 7 10;have aT:=U.x 6 18;have fb:=F.fb (bK l 6);refine(F.f1 fb.1).elim λ A3 Z=>?_
   refine Z.elim λ c3 Z=>?_
   refine(F.f2 fb.2.1).elim λ A4 Y=>?_
   refine Y.elim λ c4 Y=>?_
   refine(F.fa (bK l 7)).elim λ g q=>?_
   refine q.2.2.1.elim λ cs qc=>?_
   have T:j 6=.agg #[.slice A3 b.1.length c3,.slice A4 b.2.length c4]:=by rw [fb.2.2,Z.1,Y.1]
   have aI:cs.length=2:=qc.1;refine wp_sm 51 _ _ rfl g 0 [.slice A3 b.1.length c3,.slice A4 b.2.length c4] cs (ev (aU.trans q.1)) (ev (aT.trans T)) 51 qc.2 (by kernel_rfl) (by simp [aI]) rfl ?_;exact G.out undef _ (Pl.any rfl) (F.wrote (by decide) (bK l 6) (bK l 7) q.1 qc.2 (by rw [T];exact two_set cs aI _ _))
  exact RelFrom.nil (by decide)
 intro j z hp F;simp only [Fr,Act.put,sX,Nat.reduceAdd];obtain⟨gb,aq,aH,-,f1,f2⟩:=F.fa trivial;have r:=(F.fw trivial).2 gb aq;obtain⟨-,-,T⟩:=F.fb (F.fw trivial).1;obtain⟨A3,c3,e3,aC,aE⟩:=f1 trivial;obtain⟨A4,c4,e4,aB,aD⟩:=f2 trivial;rw [e3,e4] at T;rw [T] at r;rw [aq];have aP:w.heap.size+3<=gb:=by have:=Q.rr.lt;omega
 have K:Fl w z v [.slice A1 n1 c1,.slice A2 n2 c2] gb (.slice A3 b.1.length c3) (.slice A4 b.2.length c4) b:=⟨Q.below F.bel,r,⟨A3,c3,rfl,aC.weak (λ _ h _=>⟨by have:=Q.rr.lt;have:=h.1;omega,h.2⟩),aE⟩,⟨A4,c4,rfl,aB.weak (λ _ h _=>⟨by have:=Q.rr.lt;have:=h.1;omega,h.2⟩),aD⟩⟩;clear F hp Q aa f1 f2 r T e3 e4 aC aB aE aD aA az aq aH;have aV:Hid (R=followP v b (ds.drop 0) (ss.drop 0)):=HR.out.symm;clear HR;go_wp2_with fail;go_loopw [11] (λ i wr=>∃(k:Nat) (y:Bd) (a1 a2:Value),k<=N∧i=.int .i64 (k:Int)∧Fl w wr v [.slice A1 n1 c1,.slice A2 n2 c2] gb a1 a2 y∧Hid (Ok v y)∧Hid (R=followP v y (ds.drop k) (ss.drop k))) (λ i _=>N - (intOf i).toNat)
 case atStart=>exact⟨0,b,_,_,Nat.zero_le _,by first | rfl | trivial,K,HB,aV⟩
 case round =>
  obtain⟨k,y,a1,a2,hk,rfl,K,am,ac⟩:=hrel;by_cases hlt:k<N
  ·obtain⟨⟨B1,e1,rfl,p1,p2⟩,⟨B2,e2,rfl,p3,p4⟩⟩:SlV 1 enI wr _ a1 y.1∧SlV 1 enI wr _ a2 y.2:=⟨K.o1,K.o2⟩;have hw:=K.k.bel;obtain⟨sb,so,f,t,d,hh,rfl,a5,ad,s0,s1,s2,s3⟩:=st_at (RS.out.below hw hBS) (by rw [HN.out];exact hlt);have al:=kD (drop_at ad);obtain⟨W,V⟩:=K.k.rr.c2;have ag:=K.k.rr.lt;have ak:=K.k.rr.frozen;by_cases hmk:m<=k
   ·have O:R=none:=by
     rw [ac.out,al.out,List.drop_eq_nil_of_le (by rw [HM.out];exact hmk)];rfl
    subst O;have aF:decide ((m:Int)<=(k:Int))=true:=decide_eq_true (by omega);have aO:(k:Int)<(N:Int):=by omega
    have a6:¬ k<m:=by omega
    clear ad s0 s1 s2 s3 p1 p2 p3 p4;go_wp2_with fail;go_quiet (fail);go_wp2_with fail;refine bp_gen (λ H=>Below w.heap.size w H∧RowB H (w.heap.size+2) 51 [.slice none 0 0,.slice none 0 0]) ⟨below_two (below_drewN K.k.bel nq) (by omega) _ _,two_ (K.k.rr.drewN nq) _ _⟩ ?_;rintro w8 ⟨M,r8⟩;obtain⟨W,V⟩:=r8.c2;refine bodyPost_ret (v:=.tuple #[.agg #[.slice none 0 0,.slice none 0 0],.bool false]) (by simp [results,Tryz.results179,go_sem,W,V]) rfl ?_;exact⟨_,rfl,⟨_,_,([],[]),rfl,BdR.nil _ _,λ _ h=>by cases h⟩,M⟩
   obtain⟨db,bf,d2,aR,a9,ar,t0⟩:=in_at (RO.out.keep (.below hw)) (k:=k) (by rw [HM.out];omega);subst aR;have ay:=kD (drop_at ar);have aF:decide ((m:Int)<=(k:Int))=false:=decide_eq_false (by omega);have aO:(k:Int)<(N:Int):=by omega
   have a7:(k:Int)<(m:Int):=by omega
   have aZ:k<m:=by omega
   have aY:decide (m<=k)=false:=decide_eq_false (by omega);by_cases hd:d=d2
   rotate_left
   ·have O:R=none:=by
     rw [ac.out,al.out,ay.out];simp only [followP];rw [if_neg (λ h=>hd h.1)]
    subst O;have aQ:(d != d2)=true:=by simpa using hd
    clear ad ar s0 s1 s3 p1 p2 p3 p4 hmk hd;go_wp2_with fail;go_quiet (fail);go_wp2_with fail;refine bp_gen (λ H=>Below w.heap.size w H∧RowB H (w.heap.size+2) 51 [.slice none 0 0,.slice none 0 0]) ⟨below_two (below_drewN K.k.bel nq) (by omega) _ _,two_ (K.k.rr.drewN nq) _ _⟩ ?_;rintro w8 ⟨M,r8⟩;obtain⟨W,V⟩:=r8.c2;refine bodyPost_ret (v:=.tuple #[.agg #[.slice none 0 0,.slice none 0 0],.bool false]) (by simp [results,Tryz.results179,go_sem,W,V]) rfl ?_;exact⟨_,rfl,⟨_,_,([],[]),rfl,BdR.nil _ _,λ _ h=>by cases h⟩,M⟩
   subst hd;obtain⟨x,hx⟩:∃ x,legal1 v y (f,t,d,hh)=x:=⟨_,rfl⟩;have CL:=kD (λ(z:World) (h9:Below wr.heap.size wr z)=>legal_s v y am.out _ (.slice B1 y.1.length e1) (.slice B2 y.2.length e2) (f,t,d,hh) z ⟨⟨B1,e1,rfl,p1.keep (.below h9),p2⟩,⟨B2,e2,rfl,p3.keep (.below h9),p4⟩⟩ x hx);simp only at CL;have HX:=kD hx;have P1:=kD p1;have P3:=kD p3;obtain⟨l1,J⟩:∃ n,y.1.length=n:=⟨_,rfl⟩;obtain⟨l2,I⟩:∃ n,y.2.length=n:=⟨_,rfl⟩;have E:=K.rg;rw [J,I] at CL E;have ax:=kD J;have aw:=kD I;have aQ:(d != d)=false:=by simp
   obtain⟨q0,Z,Y,q3⟩:=K.k.rv.c4;obtain⟨y0,y1⟩:=E.c2;have ap:=K.k.rv.lt;have C:=E.lt;have P:sb<wr.heap.size:=by have:=hw.size;omega
   clear ad ar p1 p3 J I hx hmk;go_wp2_with fail;go_still_tail 23,(by kernel_rfl);go_wp2_with fail;refine(CL.out _ (Below.refl _ _).drew).mono ?_;rintro e X ⟨rfl,B⟩;have B:Below wr.heap.size wr X:=(Below.refl wr.heap.size wr).drew.trans B;have K:=K.below B;have hw:=hw.trans (B.mono hw.size);have s0:=B.cell P |>.trans s0
   have s1:=B.cell P |>.trans s1
   have s2:=B.cell P |>.trans s2
   have s3:=B.cell P |>.trans s3
   have E:RowB X gb 51 [.slice B1 l1 e1,.slice B2 l2 e2]:=E.below B C;clear q0 Z Y q3 y0 y1 W V ap ag ak t0 CL C;obtain⟨q0,Z,Y,q3⟩:=K.k.rv.c4;obtain⟨y0,y1⟩:=E.c2;obtain⟨W,V⟩:=K.k.rr.c2;have ap:=K.k.rv.lt;have C:=E.lt;have ag:=K.k.rr.lt;have ak:=K.k.rr.frozen
   cases x
   case false =>
    have O:R=none:=by
     rw [ac.out,al.out,ay.out];simp only [followP];rw [if_neg (λ h=>by rw [HX.out] at h;exact absurd h.2 (by decide))]
    subst O;clear s0 s1 s2 s3;go_wp2_with fail;refine bp_gen (λ H=>Below w.heap.size w H∧RowB H (w.heap.size+2) 51 [.slice none 0 0,.slice none 0 0]) ⟨below_two (K.k.bel) (by omega) _ _,two_ (K.k.rr) _ _⟩ ?_;rintro w8 ⟨M,r8⟩;obtain⟨W,V⟩:=r8.c2;refine bodyPost_ret (v:=.tuple #[.agg #[.slice none 0 0,.slice none 0 0],.bool false]) (by simp [results,Tryz.results179,go_sem,W,V]) rfl ?_;exact⟨_,rfl,⟨_,_,([],[]),rfl,BdR.nil _ _,λ _ h=>by cases h⟩,M⟩
   case true =>
    have aN:Hid (R=followP v (afterP v y (f,t,d,hh)) (ds.drop (k+1)) (ss.drop (k+1))):=by
     show _=_
     rw [ac.out,al.out,ay.out];simp only [followP];rw [if_pos ⟨trivial,HX.out⟩]
    have an:=kD (legal1_ok am.out HX.out);go_wp2_with fail;go_still_tail 6,(by kernel_rfl);go_wp2_with fail;have CA:=Bd7S.after_s v y am.out B1 B2 e1 e2 X.drew.heap.size (f,t,d,hh) (legal_stok am.out HX.out) X.drew (Nat.le_refl _) (P1.out.keep (.below (B.drew))).rd (P3.out.keep (.below (B.drew))).rd p2 p4;rw [ax.out,aw.out] at CA;refine CA.mono ?_;clear CA;rintro e w3 ⟨B3,e3,B4,e4,rfl,o3,o4,-,aj⟩;have aj:Below X.heap.size X w3:=(Below.refl X.heap.size X).drew.trans aj;have K:=K.below aj;have E:RowB w3 gb 51 [.slice B1 l1 e1,.slice B2 l2 e2]:=E.below aj C;have aG:gb<X.heap.size:=C;clear q0 Z Y q3 y0 y1 W V ap ag ak s0 s1 s2 s3 C;obtain⟨y0,y1⟩:=E.c2;have C:=E.lt;have aS:=E.frozen;obtain⟨b2,ab⟩:∃ b2,afterP v y (f,t,d,hh)=b2:=⟨_,rfl⟩;rw [ab] at o3 o4 aN an;rw [ab];obtain⟨l3,ai⟩:∃ n,b2.1.length=n:=⟨_,rfl⟩;obtain⟨l4,ah⟩:∃ n,b2.2.length=n:=⟨_,rfl⟩;rw [ai] at o3;rw [ah] at o4;rw [ai,ah];have aX:=kD (show OwnS w3 X.heap.size w3.heap.size 2 1 enI (.slice B3 l3 e3) b2.1 from o3);have aW:=kD (show OwnS w3 X.heap.size w3.heap.size 2 1 enI (.slice B4 l4 e4) b2.2 from o4);have a4:w.heap.size+3<=X.heap.size:=by omega
    have bj:=kD ai;have bi:=kD ah;clear o3 o4 ai ah ab;go_upto_region 4 with fail;refine wp_gen (λ H=>Fl w H v [.slice A1 n1 c1,.slice A2 n2 c2] gb (.slice B3 l3 e3) (.slice B4 l4 e4) b2) ⟨K.k.two aP _ _,two_ E _ _,sl_two aX.out aG (λ b hb=>⟨by omega,by omega⟩) _ _,sl_two aW.out aG (λ b hb=>⟨by omega,by omega⟩) _ _⟩ ?_;clear K y0 y1 C aS E;intro w4 K;have a8:IntKind.i64.wrap ((k:Int)+1)=(k:Int)+1:=IntWalk.i64_in _ (by omega);go_wp2_with fail;go_roundw
    case rel=>exact⟨k+1,b2,_,_,by omega,by go_num,K,an,aN⟩
    case measure=>simp [intOf];omega
  ·obtain rfl:N=k:=by omega
   have O:R=some y:=by
    rw [ac.out,show ss.drop N=[] from List.drop_eq_nil_of_le (by rw [HN.out];exact Nat.le_refl _)]
    cases ds.drop N <;> rfl
   subst O;obtain⟨⟨B1,e1,rfl,p1,p2⟩,⟨B2,e2,rfl,p3,p4⟩⟩:SlV 1 enI wr _ a1 y.1∧SlV 1 enI wr _ a2 y.2:=⟨K.o1,K.o2⟩;have E:=K.rg;obtain⟨l1,J⟩:∃ n,y.1.length=n:=⟨_,rfl⟩;obtain⟨l2,I⟩:∃ n,y.2.length=n:=⟨_,rfl⟩;rw [J,I] at E;have ax:=kD J;have aw:=kD I;obtain⟨y0,y1⟩:=E.c2;obtain⟨W,V⟩:=K.k.rr.c2;have C:=E.lt;have ag:=K.k.rr.lt;have ak:=K.k.rr.frozen;have P1:=kD p1;have P3:=kD p3;clear J I p1 p3;go_wp2_with fail;refine bp_gen (λ H=>Below w.heap.size w H∧RowB H (w.heap.size+2) 51 [.slice B1 l1 e1,.slice B2 l2 e2]∧Hid (SlV 1 enI H (λ b=>(λ _=>False) b∨w.heap.size<=b) (.slice B1 l1 e1) y.1)∧Hid (SlV 1 enI H (λ b=>(λ _=>False) b∨w.heap.size<=b) (.slice B2 l2 e2) y.2)) ⟨below_two K.k.bel (by omega) _ _,two_ K.k.rr _ _,kD ?_,kD ?_⟩ ?_
   ·exact(relV 1 enI).weak (sl_two' (S:=λ b=>b≠w.heap.size+2∧w.heap.size<=b) ((relV 1 enI).weak (show SlV 1 enI wr (λ b=>w.heap.size+3<=b∧b≠gb) (.slice B1 l1 e1) y.1 from⟨B1,e1,by rw [ax.out],P1.out,p2⟩) (λ b hb _=>⟨by have:=hb.1;omega,by have:=hb.1;omega⟩)) (λ h=>h.1 rfl) _ _) (λ b hb _=>.inr hb.2)
   ·exact(relV 1 enI).weak (sl_two' (S:=λ b=>b≠w.heap.size+2∧w.heap.size<=b) ((relV 1 enI).weak (show SlV 1 enI wr (λ b=>w.heap.size+3<=b∧b≠gb) (.slice B2 l2 e2) y.2 from⟨B2,e2,by rw [aw.out],P3.out,p4⟩) (λ b hb _=>⟨by have:=hb.1;omega,by have:=hb.1;omega⟩)) (λ h=>h.1 rfl) _ _) (λ b hb _=>.inr hb.2)
   rintro w8 ⟨M,r8,h1,h2⟩;obtain⟨W,V⟩:=r8.c2;refine bodyPost_ret (v:=.tuple #[.agg #[.slice B1 l1 e1,.slice B2 l2 e2],.bool true]) (by simp [results,Tryz.results179,go_sem,W,V]) rfl ?_;exact⟨_,rfl,⟨_,_,y,rfl,⟨h1.out,h2.out⟩,λ _ h=>by simpa using h⟩,M⟩
end Gm
namespace RegF
open Go Go.RowKit Base RegInv
theorem FixFrom.gd {P:Program} {ops:Array Oper} {Q:Exit->Act->World->Prop} {a0:Act} {ds:List (Option Nat)} {vals:Nat->Value} {B:(Nat->Prop)->World->Prop} {n:Nat} {o:Oper} (G:Bool) (ho:ops[n]?=some o) (hG:wantV o vals=G) (h0:G=false->vals n=undef) (hb:∀ L w',B L w'->B (λ j=>j=n∨L j) w') (h:G=true->FixAt P ops Q a0 ds vals B n o) (r:FixFrom P ops Q a0 ds vals B (n+1)):FixFrom P ops Q a0 ds vals B n:=by
 intro k d c a;by_cases e:k=n
 ·subst e;rw [ho] at a;simp only [Option.some.injEq] at a;subst a;exact⟨λ b=>h (hG.symm.trans b),λ b=>⟨h0 (hG.symm.trans b),hb⟩⟩
 ·exact r k (by omega) c a
end RegF
namespace Bd3
open Go.ChangeShapes Go.WideShapes Go.ChangeAt Go.RowKit Base Ints Own Clone RelG PlP Bd1 Bd2 RegInv RegF
theorem apart_no {v:Vr} {b:Bd} {n k:Nat} (hk:k<n) (h:0<at_ b.1 k∧0<at_ b.2 (v.p.toNat - 1 - k)):apart v b n=false:=by
 cases hc:apart v b n with
 | false=>rfl
 | true=>exact absurd h ((apart_iff n).1 hc k hk)
theorem apart_step {v:Vr} {b:Bd} {k:Nat} (h:apart v b k=true) (hn:¬ (0<at_ b.1 k∧0<at_ b.2 (v.p.toNat - 1 - k))):apart v b (k+1)=true:=by
 refine(apart_iff (k+1)).2 λ i a=>?_
 by_cases e:i=k
 ·subst e;exact hn
 ·exact(apart_iff k).1 h i (by omega)
theorem okB_eq (v:Vr) (b:Bd):okB v b=(okV v && okS v b.1 && okS v b.2 && !(decide (b.1.sum=0) && decide (b.2.sum=0)) && apart v b v.p.toNat):=rfl
theorem isB_s (v:Vr) (b:Bd) (Ao At:Option Addr) (co ct B:Nat) (w:World) (hB:B<=w.heap.size) (ho:RdS w B 1 enI Ao b.1) (ht:RdS w B 1 enI At b.2) (x:Bool) (hx:okB v b=x) :
  Calls Tryz.prog 104 #[.agg #[.int .i64 v.p,.int .i64 v.c,.int .i64 v.h,.int .i64 v.s],.agg #[.slice Ao b.1.length co,.slice At b.2.length ct]] w λ e w'=>e=.returned (.bool x)∧Below w.heap.size w w':=by
 rw [okB_eq] at hx;obtain⟨a,ha⟩:∃ a,okV v=a:=⟨_,rfl⟩;obtain⟨f,ab⟩:∃ a,okS v b.1=a:=⟨_,rfl⟩;obtain⟨m,aa⟩:∃ a,okS v b.2=a:=⟨_,rfl⟩;rw [ha,ab,aa] at hx;have HX:=kD hx;have HA:=kD ha;have H1:=kD ab;have H2:=kD aa;have HO:=kD ho;have HT:=kD ht;have CV:=kD (λ w=>var_s v a ha w);clear hx ha ab aa ho ht;go_enter Tryz.func104,Tryz.ntmps104;go_upto_region 1 with fail;refine wp_gen (λ W'=>Below w.heap.size w W'∧RowB W' w.heap.size 25 (vL v)∧RowB W' (w.heap.size+1) 51 [.slice Ao b.1.length co,.slice At b.2.length ct]) ⟨by go_grown,(RowB.new _ _ _).alloc _,RowB.new' _ _ _ (by simp)⟩ ?_;rintro w1 ⟨ag,l,o⟩;obtain⟨P,O,N,M⟩:=l.c4;obtain⟨J,I⟩:=o.c2;have G:=l.lt;have F:=o.lt;clear P O N M J I G F;have W:=kD (λ(h:(a && f && m)=true)=>okV_iff.1 (HA.out.trans (by revert h;cases a <;> simp)));have Y:=kD (λ(h:(a && f && m)=true)=>okS_iff.1 (H1.out.trans (by revert h;cases f <;> simp)));have X:=kD (λ(h:(a && f && m)=true)=>okS_iff.1 (H2.out.trans (by revert h;cases m <;> simp)));have C1:=kD (λ(g:a=true) t (h:Below w.heap.size w t)=>side_s v (HA.out.trans g) Ao co B b.1 f H1.out t (Nat.le_trans hB h.size) (HO.out.below h hB));have C2:=kD (λ(g:(a && f)=true) t (h:Below w.heap.size w t)=>side_s v (HA.out.trans (by revert g;cases a <;> simp)) At ct B b.2 m H2.out t (Nat.le_trans hB h.size) (HT.out.below h hB));obtain⟨T,ae⟩:∃ z,b.1.sum=z:=⟨_,rfl⟩;obtain⟨S,ad⟩:∃ z,b.2.sum=z:=⟨_,rfl⟩;have S1:=kD (λ(g:(a && f && m)=true) t (h:Below w.heap.size w t)=>sum_s Ao co B b.1 t (HO.out.below h hB) (λ i=>⟨(Y.out g).nn i,by have:=(Y.out g).top i;have:=W.out g;omega⟩) (by have:=(Y.out g).len;have:=W.out g;omega));have S2:=kD (λ(g:(a && f && m)=true) t (h:Below w.heap.size w t)=>sum_s At ct B b.2 t (HT.out.below h hB) (λ i=>⟨(X.out g).nn i,by have:=(X.out g).top i;have:=W.out g;omega⟩) (by have:=(X.out g).len;have:=W.out g;omega));have zz:=kD (λ(g:(a && f && m)=true)=>And.intro (Y.out g).sum0 (And.intro (X.out g).sum0 (And.intro (Y.out g).sum (X.out g).sum)));have R:=kD HX.out;simp only [ae,ad] at S1 S2 zz R;clear ae ad HX;have EZ:=kD (λ(g:(a && f && m)=true)=>(show IntKind.i64.wrap (T+S)=T+S from IntWalk.i64_in _ (by have:=zz.out g;have:=W.out g;omega)));obtain⟨qz,e0⟩:∃ q,(T+S == 0)=q:=⟨_,rfl⟩;have XT:Hid ((a && f && m)=true->qz=false->apart v b v.p.toNat=x):=kD (λ g e=>by
  have h:=zz.out g;rw [e,beq_eq_false_iff_ne] at e0;rw [<-R.out,g,show (decide (T=0) && decide (S=0))=false by simp;omega];rfl)
 have XF:Hid ((bif a && f && m then qz else true)=true->x=false):=kD (λ e=>by
  cases g:(a && f && m) with
  | false=>rw [<-R.out,g];rfl
  | true =>
   rw [g] at e;have h:=zz.out g;have e:qz=true:=e;rw [e,beq_iff_eq] at e0;obtain rfl:T=0:=by omega
   obtain rfl:S=0:=by omega
   rw [<-R.out,g];rfl)
 clear R zz H1 H2 HA;go_upto_region 1 with fail;refine region_fix [some 6,some 7,some 8,some 9,some 10,some 11,some 12,some 13,some 14,some 15,some 16,some 17,some 18,some 19,some 20,some 21,some 22,some 23,some 24,some 25,some 26,some 27,some 28,some 29,some 30,some 31,some 32] (λ j_=>([.agg #[.int .i64 v.p,.int .i64 v.c,.int .i64 v.h,.int .i64 v.s],.bool a,.bool (!a),.bool (!a),(bif (!a) == false then .agg #[.int .i64 v.p,.int .i64 v.c,.int .i64 v.h,.int .i64 v.s] else undef),(bif (!a) == false then .pointer (some ⟨w.heap.size+1,0,none⟩) else undef),(bif (!a) == false then .slice Ao b.1.length co else undef),(bif (!a) == false then .bool f else undef),(bif (!a) == false then .bool (!f) else undef),.bool (!(a && f)),.bool (!(a && f)),(bif (!(a && f)) == false then .agg #[.int .i64 v.p,.int .i64 v.c,.int .i64 v.h,.int .i64 v.s] else undef),(bif (!(a && f)) == false then .pointer (some ⟨w.heap.size+1,1,none⟩) else undef),(bif (!(a && f)) == false then .slice At b.2.length ct else undef),(bif (!(a && f)) == false then .bool m else undef),(bif (!(a && f)) == false then .bool (!m) else undef),.bool (!(a && f && m)),.bool (!(a && f && m)),(bif (!(a && f && m)) == false then .pointer (some ⟨w.heap.size+1,0,none⟩) else undef),(bif (!(a && f && m)) == false then .slice Ao b.1.length co else undef),(bif (!(a && f && m)) == false then .int .i64 T else undef),(bif (!(a && f && m)) == false then .pointer (some ⟨w.heap.size+1,1,none⟩) else undef),(bif (!(a && f && m)) == false then .slice At b.2.length ct else undef),(bif (!(a && f && m)) == false then .int .i64 S else undef),(bif (!(a && f && m)) == false then .int .i64 (T+S) else undef),(bif (!(a && f && m)) == false then .bool qz else undef),.bool (bif a && f && m then qz else true)]:List Value).getD j_ undef) (λ L w'=>Below w.heap.size w w'∧RowB w' w.heap.size 25 (vL v)∧RowB w' (w.heap.size+1) 51 [.slice Ao b.1.length co,.slice At b.2.length ct]) (by kernel_rfl) (by kernel_rfl) (by kernel_rfl) (by kernel_rfl) (by first | kernel_rfl | rfl) (by first | kernel_rfl | rfl) ?hB1 ?hBL1 ?hst1 ?fin1
 case hB1=>exact⟨ag.drew,l.drew,o.drew⟩
 case hBL1=>exact λ _ _ _ _ h=>h
 case hst1 =>
  refine FixFrom.run rfl rfl (λ L A t C n y d K D=>?_) ?_
  ·have e2:A.tmps[2]?.getD undef=.pointer (some ⟨w.heap.size,0,none⟩):=y 2 (by decide);clear n y
   cases a <;> cases f <;> cases m <;>
    (have l:=d.2.1
     have o:=d.2.2;replace d:=d.1;have P:=l.c4.1;have O:=l.c4.2.1;have N:=l.c4.2.2.1;have M:=l.c4.2.2.2;have J:=o.c2.1;have I:=o.c2.2;have G:=l.lt;have F:=o.lt;go_simp;exact D.out t ⟨d,l,o⟩)
  refine FixFrom.run rfl rfl (λ L A t C n y d K D=>?_) ?_
  ·have e6:A.tmps[6]?.getD undef=.agg #[.int .i64 v.p,.int .i64 v.c,.int .i64 v.h,.int .i64 v.s]:=gu n 0 6;clear n y
   cases a <;> cases f <;> cases m <;>
    (have l:=d.2.1
     have o:=d.2.2;replace d:=d.1;have P:=l.c4.1;have O:=l.c4.2.1;have N:=l.c4.2.2.1;have M:=l.c4.2.2.2;have J:=o.c2.1;have I:=o.c2.2;have G:=l.lt;have F:=o.lt;go_simp;refine(CV.out t).mono ?_;rintro e Z ⟨rfl,H⟩;exact D.out Z ⟨d.trans (H.mono d.size),l.below H l.lt,o.below H o.lt⟩)
  refine FixFrom.run rfl rfl (λ L A t C n y d K D=>?_) ?_
  ·have e7:A.tmps[7]?.getD undef=.bool a:=gu n 1 7;clear n y
   cases a <;> cases f <;> cases m <;>
    (go_simp
     exact D.out t d)
  refine FixFrom.run rfl rfl (λ L A t C n y d K D=>?_) ?_
  ·have e8:A.tmps[8]?.getD undef=.bool (!a):=gu n 2 8;clear n y
   cases a <;> cases f <;> cases m <;>
    (go_simp
     exact D.out t d)
  refine FixFrom.gd ((!a) == false) rfl rfl (by cases a <;> cases f <;> cases m <;> first | exact λ _=>rfl | exact λ h=>absurd h (by decide)) (λ _ _ h=>h) (λ E L A t C n y d K D=>?_) ?_
  ·have e2:A.tmps[2]?.getD undef=.pointer (some ⟨w.heap.size,0,none⟩):=y 2 (by decide);clear n y
   cases a <;> cases f <;> cases m <;> first
    | exact absurd E (by decide)
    | (have l:=d.2.1
       have o:=d.2.2;replace d:=d.1;have P:=l.c4.1;have O:=l.c4.2.1;have N:=l.c4.2.2.1;have M:=l.c4.2.2.2;have J:=o.c2.1;have I:=o.c2.2;have G:=l.lt;have F:=o.lt;go_simp;exact D.out t ⟨d,l,o⟩)
  refine FixFrom.gd ((!a) == false) rfl rfl (by cases a <;> cases f <;> cases m <;> first | exact λ _=>rfl | exact λ h=>absurd h (by decide)) (λ _ _ h=>h) (λ E L A t C n y d K D=>?_) ?_
  ·have e3:A.tmps[3]?.getD undef=.pointer (some ⟨w.heap.size+1,0,none⟩):=y 3 (by decide);clear n y
   cases a <;> cases f <;> cases m <;> first
    | exact absurd E (by decide)
    | (go_simp
       exact D.out t d)
  refine FixFrom.gd ((!a) == false) rfl rfl (by cases a <;> cases f <;> cases m <;> first | exact λ _=>rfl | exact λ h=>absurd h (by decide)) (λ _ _ h=>h) (λ E L A t C n y d K D=>?_) ?_
  ·have aK:A.tmps[11]?.getD undef=(bif (!a) == false then .pointer (some ⟨w.heap.size+1,0,none⟩) else undef):=gu n 5 11;clear n y
   cases a <;> cases f <;> cases m <;> first
    | exact absurd E (by decide)
    | (have l:=d.2.1
       have o:=d.2.2;replace d:=d.1;have P:=l.c4.1;have O:=l.c4.2.1;have N:=l.c4.2.2.1;have M:=l.c4.2.2.2;have J:=o.c2.1;have I:=o.c2.2;have G:=l.lt;have F:=o.lt;go_simp;exact D.out t ⟨d,l,o⟩)
  refine FixFrom.gd ((!a) == false) rfl rfl (by cases a <;> cases f <;> cases m <;> first | exact λ _=>rfl | exact λ h=>absurd h (by decide)) (λ _ _ h=>h) (λ E L A t C n y d K D=>?_) ?_
  ·have aL:A.tmps[10]?.getD undef=(bif (!a) == false then .agg #[.int .i64 v.p,.int .i64 v.c,.int .i64 v.h,.int .i64 v.s] else undef):=gu n 4 10;have aJ:A.tmps[12]?.getD undef=(bif (!a) == false then .slice Ao b.1.length co else undef):=gu n 6 12;clear n y
   cases a <;> cases f <;> cases m <;> first
    | exact absurd E (by decide)
    | (have l:=d.2.1
       have o:=d.2.2;replace d:=d.1;have P:=l.c4.1;have O:=l.c4.2.1;have N:=l.c4.2.2.1;have M:=l.c4.2.2.2;have J:=o.c2.1;have I:=o.c2.2;have G:=l.lt;have F:=o.lt;go_simp;refine(C1.out rfl t d).mono ?_;rintro e Z ⟨rfl,H⟩;exact D.out Z ⟨d.trans (H.mono d.size),l.below H l.lt,o.below H o.lt⟩)
  refine FixFrom.gd ((!a) == false) rfl rfl (by cases a <;> cases f <;> cases m <;> first | exact λ _=>rfl | exact λ h=>absurd h (by decide)) (λ _ _ h=>h) (λ E L A t C n y d K D=>?_) ?_
  ·have aI:A.tmps[13]?.getD undef=(bif (!a) == false then .bool f else undef):=gu n 7 13;clear n y
   cases a <;> cases f <;> cases m <;> first
    | exact absurd E (by decide)
    | (go_simp
       exact D.out t d)
  refine FixFrom.run rfl rfl (λ L A t C n y d K D=>?_) ?_
  ·have e9:A.tmps[9]?.getD undef=.bool (!a):=gu n 3 9;have aH:A.tmps[14]?.getD undef=(bif (!a) == false then .bool (!f) else undef):=gu n 8 14;clear n y
   cases a <;> cases f <;> cases m <;>
    (go_simp
     exact D.out t d)
  refine FixFrom.run rfl rfl (λ L A t C n y d K D=>?_) ?_
  ·have aG:A.tmps[15]?.getD undef=.bool (!(a && f)):=gu n 9 15;clear n y
   cases a <;> cases f <;> cases m <;>
    (go_simp
     exact D.out t d)
  refine FixFrom.gd ((!(a && f)) == false) rfl rfl (by cases a <;> cases f <;> cases m <;> first | exact λ _=>rfl | exact λ h=>absurd h (by decide)) (λ _ _ h=>h) (λ E L A t C n y d K D=>?_) ?_
  ·have e2:A.tmps[2]?.getD undef=.pointer (some ⟨w.heap.size,0,none⟩):=y 2 (by decide);clear n y
   cases a <;> cases f <;> cases m <;> first
    | exact absurd E (by decide)
    | (have l:=d.2.1
       have o:=d.2.2;replace d:=d.1;have P:=l.c4.1;have O:=l.c4.2.1;have N:=l.c4.2.2.1;have M:=l.c4.2.2.2;have J:=o.c2.1;have I:=o.c2.2;have G:=l.lt;have F:=o.lt;go_simp;exact D.out t ⟨d,l,o⟩)
  refine FixFrom.gd ((!(a && f)) == false) rfl rfl (by cases a <;> cases f <;> cases m <;> first | exact λ _=>rfl | exact λ h=>absurd h (by decide)) (λ _ _ h=>h) (λ E L A t C n y d K D=>?_) ?_
  ·have e3:A.tmps[3]?.getD undef=.pointer (some ⟨w.heap.size+1,0,none⟩):=y 3 (by decide);clear n y
   cases a <;> cases f <;> cases m <;> first
    | exact absurd E (by decide)
    | (go_simp
       exact D.out t d)
  refine FixFrom.gd ((!(a && f)) == false) rfl rfl (by cases a <;> cases f <;> cases m <;> first | exact λ _=>rfl | exact λ h=>absurd h (by decide)) (λ _ _ h=>h) (λ E L A t C n y d K D=>?_) ?_
  ·have aD:A.tmps[18]?.getD undef=(bif (!(a && f)) == false then .pointer (some ⟨w.heap.size+1,1,none⟩) else undef):=gu n 12 18;clear n y
   cases a <;> cases f <;> cases m <;> first
    | exact absurd E (by decide)
    | (have l:=d.2.1
       have o:=d.2.2;replace d:=d.1;have P:=l.c4.1;have O:=l.c4.2.1;have N:=l.c4.2.2.1;have M:=l.c4.2.2.2;have J:=o.c2.1;have I:=o.c2.2;have G:=l.lt;have F:=o.lt;go_simp;exact D.out t ⟨d,l,o⟩)
  refine FixFrom.gd ((!(a && f)) == false) rfl rfl (by cases a <;> cases f <;> cases m <;> first | exact λ _=>rfl | exact λ h=>absurd h (by decide)) (λ _ _ h=>h) (λ E L A t C n y d K D=>?_) ?_
  ·have aE:A.tmps[17]?.getD undef=(bif (!(a && f)) == false then .agg #[.int .i64 v.p,.int .i64 v.c,.int .i64 v.h,.int .i64 v.s] else undef):=gu n 11 17;have aC:A.tmps[19]?.getD undef=(bif (!(a && f)) == false then .slice At b.2.length ct else undef):=gu n 13 19;clear n y
   cases a <;> cases f <;> cases m <;> first
    | exact absurd E (by decide)
    | (have l:=d.2.1
       have o:=d.2.2;replace d:=d.1;have P:=l.c4.1;have O:=l.c4.2.1;have N:=l.c4.2.2.1;have M:=l.c4.2.2.2;have J:=o.c2.1;have I:=o.c2.2;have G:=l.lt;have F:=o.lt;go_simp;refine(C2.out rfl t d).mono ?_;rintro e Z ⟨rfl,H⟩;exact D.out Z ⟨d.trans (H.mono d.size),l.below H l.lt,o.below H o.lt⟩)
  refine FixFrom.gd ((!(a && f)) == false) rfl rfl (by cases a <;> cases f <;> cases m <;> first | exact λ _=>rfl | exact λ h=>absurd h (by decide)) (λ _ _ h=>h) (λ E L A t C n y d K D=>?_) ?_
  ·have aB:A.tmps[20]?.getD undef=(bif (!(a && f)) == false then .bool m else undef):=gu n 14 20;clear n y
   cases a <;> cases f <;> cases m <;> first
    | exact absurd E (by decide)
    | (go_simp
       exact D.out t d)
  refine FixFrom.run rfl rfl (λ L A t C n y d K D=>?_) ?_
  ·have aF:A.tmps[16]?.getD undef=.bool (!(a && f)):=gu n 10 16;have aA:A.tmps[21]?.getD undef=(bif (!(a && f)) == false then .bool (!m) else undef):=gu n 15 21;clear n y
   cases a <;> cases f <;> cases m <;>
    (go_simp
     exact D.out t d)
  refine FixFrom.run rfl rfl (λ L A t C n y d K D=>?_) ?_
  ·have az:A.tmps[22]?.getD undef=.bool (!(a && f && m)):=gu n 16 22;clear n y
   cases a <;> cases f <;> cases m <;>
    (go_simp
     exact D.out t d)
  refine FixFrom.gd ((!(a && f && m)) == false) rfl rfl (by cases a <;> cases f <;> cases m <;> first | exact λ _=>rfl | exact λ h=>absurd h (by decide)) (λ _ _ h=>h) (λ E L A t C n y d K D=>?_) ?_
  ·have e3:A.tmps[3]?.getD undef=.pointer (some ⟨w.heap.size+1,0,none⟩):=y 3 (by decide);clear n y
   cases a <;> cases f <;> cases m <;> first
    | exact absurd E (by decide)
    | (go_simp
       exact D.out t d)
  refine FixFrom.gd ((!(a && f && m)) == false) rfl rfl (by cases a <;> cases f <;> cases m <;> first | exact λ _=>rfl | exact λ h=>absurd h (by decide)) (λ _ _ h=>h) (λ E L A t C n y d K D=>?_) ?_
  ·have ax:A.tmps[24]?.getD undef=(bif (!(a && f && m)) == false then .pointer (some ⟨w.heap.size+1,0,none⟩) else undef):=gu n 18 24;clear n y
   cases a <;> cases f <;> cases m <;> first
    | exact absurd E (by decide)
    | (have l:=d.2.1
       have o:=d.2.2;replace d:=d.1;have P:=l.c4.1;have O:=l.c4.2.1;have N:=l.c4.2.2.1;have M:=l.c4.2.2.2;have J:=o.c2.1;have I:=o.c2.2;have G:=l.lt;have F:=o.lt;go_simp;exact D.out t ⟨d,l,o⟩)
  refine FixFrom.gd ((!(a && f && m)) == false) rfl rfl (by cases a <;> cases f <;> cases m <;> first | exact λ _=>rfl | exact λ h=>absurd h (by decide)) (λ _ _ h=>h) (λ E L A t C n y d K D=>?_) ?_
  ·have aw:A.tmps[25]?.getD undef=(bif (!(a && f && m)) == false then .slice Ao b.1.length co else undef):=gu n 19 25;clear n y
   cases a <;> cases f <;> cases m <;> first
    | exact absurd E (by decide)
    | (have l:=d.2.1
       have o:=d.2.2;replace d:=d.1;have P:=l.c4.1;have O:=l.c4.2.1;have N:=l.c4.2.2.1;have M:=l.c4.2.2.2;have J:=o.c2.1;have I:=o.c2.2;have G:=l.lt;have F:=o.lt;go_simp;refine(S1.out rfl t d).mono ?_;rintro e Z ⟨rfl,rfl⟩;exact D.out t ⟨d,l,o⟩)
  refine FixFrom.gd ((!(a && f && m)) == false) rfl rfl (by cases a <;> cases f <;> cases m <;> first | exact λ _=>rfl | exact λ h=>absurd h (by decide)) (λ _ _ h=>h) (λ E L A t C n y d K D=>?_) ?_
  ·have e3:A.tmps[3]?.getD undef=.pointer (some ⟨w.heap.size+1,0,none⟩):=y 3 (by decide);clear n y
   cases a <;> cases f <;> cases m <;> first
    | exact absurd E (by decide)
    | (go_simp
       exact D.out t d)
  refine FixFrom.gd ((!(a && f && m)) == false) rfl rfl (by cases a <;> cases f <;> cases m <;> first | exact λ _=>rfl | exact λ h=>absurd h (by decide)) (λ _ _ h=>h) (λ E L A t C n y d K D=>?_) ?_
  ·have ar:A.tmps[27]?.getD undef=(bif (!(a && f && m)) == false then .pointer (some ⟨w.heap.size+1,1,none⟩) else undef):=gu n 21 27;clear n y
   cases a <;> cases f <;> cases m <;> first
    | exact absurd E (by decide)
    | (have l:=d.2.1
       have o:=d.2.2;replace d:=d.1;have P:=l.c4.1;have O:=l.c4.2.1;have N:=l.c4.2.2.1;have M:=l.c4.2.2.2;have J:=o.c2.1;have I:=o.c2.2;have G:=l.lt;have F:=o.lt;go_simp;exact D.out t ⟨d,l,o⟩)
  refine FixFrom.gd ((!(a && f && m)) == false) rfl rfl (by cases a <;> cases f <;> cases m <;> first | exact λ _=>rfl | exact λ h=>absurd h (by decide)) (λ _ _ h=>h) (λ E L A t C n y d K D=>?_) ?_
  ·have aq:A.tmps[28]?.getD undef=(bif (!(a && f && m)) == false then .slice At b.2.length ct else undef):=gu n 22 28;clear n y
   cases a <;> cases f <;> cases m <;> first
    | exact absurd E (by decide)
    | (have l:=d.2.1
       have o:=d.2.2;replace d:=d.1;have P:=l.c4.1;have O:=l.c4.2.1;have N:=l.c4.2.2.1;have M:=l.c4.2.2.2;have J:=o.c2.1;have I:=o.c2.2;have G:=l.lt;have F:=o.lt;go_simp;refine(S2.out rfl t d).mono ?_;rintro e Z ⟨rfl,rfl⟩;exact D.out t ⟨d,l,o⟩)
  refine FixFrom.gd ((!(a && f && m)) == false) rfl rfl (by cases a <;> cases f <;> cases m <;> first | exact λ _=>rfl | exact λ h=>absurd h (by decide)) (λ _ _ h=>h) (λ E L A t C n y d K D=>?_) ?_
  ·have av:A.tmps[26]?.getD undef=(bif (!(a && f && m)) == false then .int .i64 T else undef):=gu n 20 26;have ap:A.tmps[29]?.getD undef=(bif (!(a && f && m)) == false then .int .i64 S else undef):=gu n 23 29;clear n y
   cases a <;> cases f <;> cases m <;> first
    | exact absurd E (by decide)
    | (have ez:=EZ.out rfl
       go_simp;exact D.out t d)
  refine FixFrom.gd ((!(a && f && m)) == false) rfl rfl (by cases a <;> cases f <;> cases m <;> first | exact λ _=>rfl | exact λ h=>absurd h (by decide)) (λ _ _ h=>h) (λ E L A t C n y d K D=>?_) ?_
  ·have ao:A.tmps[30]?.getD undef=(bif (!(a && f && m)) == false then .int .i64 (T+S) else undef):=gu n 24 30;clear n y
   cases a <;> cases f <;> cases m <;> first
    | exact absurd E (by decide)
    | (go_simp
       exact D.out t d)
  refine FixFrom.run rfl rfl (λ L A t C n y d K D=>?_) ?_
  ·have ay:A.tmps[23]?.getD undef=.bool (!(a && f && m)):=gu n 17 23;have an:A.tmps[31]?.getD undef=(bif (!(a && f && m)) == false then .bool qz else undef):=gu n 25 31;clear n y
   cases a <;> cases f <;> cases m <;>
    (go_simp
     exact D.out t d)
  exact FixFrom.nil (by decide)
 case fin1 =>
  intro t d;simp only [Fr,Act.put,sX,Nat.reduceAdd,List.getD_cons_zero,List.getD_cons_succ];obtain⟨V,l,o⟩:=d;obtain⟨P,O,N,M⟩:=l.c4;obtain⟨J,I⟩:=o.c2;have G:=l.lt;have F:=o.lt;obtain⟨r,hr⟩:∃ r,(bif a && f && m then qz else true)=r:=⟨_,rfl⟩;rw [hr] at XF ⊢
  cases r
  case true =>
   obtain rfl:=XF.out rfl;clear XF XT EZ S1 S2 C1 C2 Y X W hr e0;go_wp2_with fail;go_ret;exact⟨rfl,V⟩
  have g:(a && f && m)=true:=by
   cases g:(a && f && m) with
   | true=>rfl
   | false=>rw [g] at hr;cases hr
  rw [g] at hr;have af:=kD (XT.out g hr);have aj:=W.out g;have N1:=(Y.out g).len;have N2:=(X.out g).len;have ak:0<=v.p:=by omega
  clear XF XT EZ S1 S2 C1 C2 Y X W hr e0 g;go_wp2_with fail;go_loopw [5] (λ i wr=>∃(k:Nat),(k:Int)<=v.p∧i=.int .i64 (k:Int)∧Hid (Below w.heap.size w wr)∧RowB wr w.heap.size 25 (vL v)∧RowB wr (w.heap.size+1) 51 [.slice Ao b.1.length co,.slice At b.2.length ct]∧Hid (apart v b k=true)) (λ i _=>v.p.toNat - (intOf i).toNat)
  case atStart=>exact⟨0,by omega,by first | rfl | trivial,kD V,l,o,rfl⟩
  case round =>
   obtain⟨k,hk,rfl,V,l,o,ac⟩:=hrel;clear P O N M J I G F;obtain⟨P,O,N,M⟩:=l.c4;obtain⟨J,I⟩:=o.c2;by_cases hlt:(k:Int)<v.p
   ·obtain⟨b1,o1,rfl,ai,am⟩:=at_rd (HO.out.below V.out hB) (i:=k) (by omega);have ei:(v.p - 1 - (k:Int)).toNat=v.p.toNat - 1 - k:=by omega
    obtain⟨j,hj⟩:∃ j:Nat,v.p - 1 - (k:Int)=(j:Int):=⟨(v.p - 1 - (k:Int)).toNat,by omega⟩;have Q:v.p.toNat - 1 - k=j:=by omega
    obtain⟨b2,o2,rfl,ah,al⟩:=at_rd (HT.out.below V.out hB) (i:=j) (by omega);have e1:IntKind.i64.wrap (v.p - 1)=v.p - 1:=IntWalk.i64_in _ (by omega);have e2:IntKind.i64.wrap (v.p - 1 - (k:Int))=(j:Int):=by rw [hj];exact IntWalk.i64_in _ (by omega)
    by_cases g1:0<at_ b.1 k
    ·by_cases g2:0<at_ b.2 j
     ·obtain rfl:x=false:=by rw [<-af.out];exact apart_no (k:=k) (by omega) ⟨g1,by rw [Q];exact g2⟩
      clear ei Q;go_wp2_with fail;go_ret;exact⟨rfl,V.out⟩
     ·have HP:Hid (apart v b (k+1)=true):=kD (apart_step ac.out (λ h=>g2 (by rw [<-Q];exact h.2)));clear ei Q;go_wp2_with fail;go_roundw
      case rel=>exact⟨k+1,by omega,by go_num,V,l,o,HP⟩
      case measure=>simp [intOf];omega
    ·have HP:Hid (apart v b (k+1)=true):=kD (apart_step ac.out (λ h=>g1 h.1));clear ei Q;go_wp2_with fail;go_roundw
     case rel=>exact⟨k+1,by omega,by go_num,V,l,o,HP⟩
     case measure=>simp [intOf];omega
   ·obtain rfl:x=true:=by rw [<-af.out,<-ac.out];congr 1;omega
    go_wp2_with fail;go_ret;exact⟨rfl,V.out⟩
end Bd3
end Go.Proofs.YtjdefiinmicjiaaGreatDoor
