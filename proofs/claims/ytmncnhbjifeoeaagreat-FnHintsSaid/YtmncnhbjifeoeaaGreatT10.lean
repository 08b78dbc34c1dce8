/- Parts of the proof of FnHints. Conditions: each theorem's own. -/
import Derived.Test.YtmncnhbjifeoeaaGreatT09
set_option linter.unusedVariables false
set_option linter.unusedSimpArgs false
set_option maxHeartbeats 8000000
set_option maxRecDepth 100000
namespace Go.Proofs.YtmncnhbjifeoeaaGreat
namespace Gm
open Go Go.ChangeShapes Go.WideShapes Go.ChangeAt Go.RowKit Base Ints Own Clone RelG PlP Bd1 Bd2 Bd4 Bd5 Bd6 Bd7 Bd8 RegInv RegF RegG
structure F3 (w wr:World) (v:Vr) (us:List Value):Prop where
 bel:Below w.heap.size w wr
 rv:RowB wr w.heap.size 25 (vL v)
 rb:RowB wr (w.heap.size+1) 28 us
 rr:RowB wr (w.heap.size+2) 28 [.slice none 0 0,.slice none 0 0]
theorem F3.below {w wr w':World} {v:Vr} {us:List Value} (k:F3 w wr v us) (hb:Below wr.heap.size wr w'):F3 w w' v us :=
 ⟨k.bel.trans (hb.mono k.bel.size),k.rv.below hb k.rv.lt,k.rb.below hb k.rb.lt,k.rr.below hb k.rr.lt⟩
theorem drop_at {α:Type} {l:List α} {k:Nat} {x:α} (h:l[k]?=some x):l.drop k=x :: l.drop (k+1):=by
 have a:=(List.getElem?_eq_some_iff.1 h);rw [List.drop_eq_getElem_cons a.1,a.2]
theorem st_at {w:World} {B:Nat} {A:Option Addr} {ss:List Stp} (h:RdS w B 4 enSt A ss) {k:Nat} (hk:k<ss.length) :
  ∃ sb so f t d hh,A=some ⟨sb,so,none⟩∧sb<B∧ss[k]?=some (f,t,d,hh)∧w.cell? ⟨sb,so+k*4,none⟩=some (.int .i64 f)∧w.cell? ⟨sb,so+k*4+1,none⟩=some (.int .i64 t)∧w.cell? ⟨sb,so+k*4+2,none⟩=some (.int .i64 d)∧w.cell? ⟨sb,so+k*4+3,none⟩=some (.bool hh):=by
 obtain⟨b,c,⟨p,q,r,s⟩,e,i,g,a⟩:=h.at_ hk;exact⟨b,c,p,q,r,s,e,i,g,a 0 _ rfl,a 1 _ rfl,a 2 _ rfl,a 3 _ rfl⟩
theorem in_at {w:World} {S:Nat->Prop} {A:Option Addr} {ds:List Int} (h:RdF w S 1 enI A ds) {k:Nat} (hk:k<ds.length) :
  ∃ db do_ d,A=some ⟨db,do_,none⟩∧db<w.heap.size∧ds[k]?=some d∧w.cell? ⟨db,do_+k,none⟩=some (.int .i64 d):=by
 obtain⟨b,a,x,e,-,g,c,f⟩:=h.at_ hk;exact⟨b,a,x,e,g,c,by simpa using f 0 _ rfl⟩
theorem two_grown (w:World) (g:Nat) (a b:Value):w.grownBy ((w.setCell ⟨g,0,none⟩ a).setCell ⟨g,1,none⟩ b) (some g):=Base.grownBy_trans (Base.grownBy_setCell _ _ _ _) (Base.grownBy_setCell _ _ _ _)
theorem sl_two {w:World} {lo g:Nat} {u:Value} {l:List Int} {S:Nat->Prop} (h:OwnS w lo w.heap.size 2 1 enI u l) (hg:g<lo) (hS:∀ b,lo<=b->S b) (a b:Value):SlV 1 enI ((w.setCell ⟨g,0,none⟩ a).setCell ⟨g,1,none⟩ b) S u l :=
 (relV 1 enI).weak ((relV 1 enI).keep (OwnV.sl enI_len (OwnV.of h (Nat.le_refl _) (S:=λ b=>lo<=b) (λ b hb _=>hb))) (Still.grown (two_grown w g a b) (λ k hk hs=>by simp at hk;omega))) (λ b hb _=>hS b hb)
theorem sl_two' {w:World} {g:Nat} {u:Value} {l:List Int} {S:Nat->Prop} (h:SlV 1 enI w S u l) (hg:¬ S g) (a b:Value):SlV 1 enI ((w.setCell ⟨g,0,none⟩ a).setCell ⟨g,1,none⟩ b) S u l :=
 (relV 1 enI).keep h (Still.grown (two_grown w g a b) (λ k hk hs=>by simp at hk;subst hk;exact hg hs))
theorem legal_stok {v:Vr} {b:Bd} {s:Stp} (hb:Ok v b) (h:legal1 v b s=true):StOk v s:=by
 obtain⟨_,m,e,g⟩:=legal1_iff.1 h;obtain⟨k,j,i,f⟩:=step_parts e hb g;have l:=hb.v1;unfold StOk;rcases f with ⟨a,b,c,d⟩ | ⟨a,b,c⟩
 ·exact⟨e,by omega,λ _=>by omega⟩
 ·exact⟨e,by omega,λ h=>by rw [c] at h;cases h⟩
theorem follow_long {v:Vr}:∀(ds:List Int) (b:Bd) (ss:List Stp),ds.length<ss.length->followP v b ds ss=none
 | _,_,[],h=>by simp at h
 | [],_,_ :: _,_=>rfl
 | d :: ds,b,s :: ss,h=>by
  simp only [followP];split
  ·exact follow_long ds _ ss (by simpa using h)
  ·rfl
structure Fm (w wr:World) (v:Vr) (a1 a2:Value) (bk:Bd):Prop where
 k:F3 w wr v [a1,a2]
 o1:SlV 1 enI wr (λ b=>w.heap.size+3<=b) a1 bk.1
 o2:SlV 1 enI wr (λ b=>w.heap.size+3<=b) a2 bk.2
theorem Fm.below {w wr w':World} {v:Vr} {a1 a2:Value} {bk:Bd} (h:Fm w wr v a1 a2 bk) (hb:Below wr.heap.size wr w'):Fm w w' v a1 a2 bk :=
 ⟨h.k.below hb,(relV 1 enI).keep h.o1 (.below hb),(relV 1 enI).keep h.o2 (.below hb)⟩
theorem F3.put {w wr:World} {v:Vr} {x y:Value} (k:F3 w wr v [x,y]) (a b:Value):F3 w ((wr.setCell ⟨w.heap.size+1,0,none⟩ a).setCell ⟨w.heap.size+1,1,none⟩ b) v [a,b] :=
 ⟨below_two k.bel (by omega) _ _,oth2 k.rv (by omega) _ _,two_ k.rb _ _,oth2 k.rr (by omega) _ _⟩
theorem follow_i (v:Vr) (b:Bd) (hb:Ok v b) (S:Nat->Prop) (u1 u2:Value) (ds:List Int) (hd4:ds.length<=4) (uo:Value) (ss:List Stp) (A:Option Addr) (cp BS:Nat) (w:World) (hBS:BS<=w.heap.size) (hR:BdR w S u1 u2 b) (ho:SlV 1 enI w All uo ds) (hs:RdS w BS 4 enSt A ss) :
  Calls Tryz.prog 94 #[.agg #[.int .i64 v.p,.int .i64 v.c,.int .i64 v.h,.int .i64 v.s],.agg #[u1,u2],uo,.slice A ss.length cp] w λ e w'=>Ret RelBB (followP v b ds ss) (λ _=>False) w e w':=by
 obtain⟨⟨A1,c1,rfl,r1,k1⟩,⟨A2,c2,rfl,r2,k2⟩⟩:=hR;obtain⟨Ao,co,rfl,ro,ko⟩:=ho;have CC:=kD (λ(w9:World) (h9:Below w.heap.size w w9)=>clone_i b.1 b.2 A1 A2 c1 c2 w9.heap.size w9 (Nat.le_refl _) (r1.keep (.below h9)).rd (r2.keep (.below h9)).rd k1 k2 (by have:=hb.own.len;have:=hb.v1.1;omega) (by have:=hb.oth.len;have:=hb.v1.1;omega));obtain⟨n1,I⟩:∃ n,b.1.length=n:=⟨_,rfl⟩;obtain⟨n2,H⟩:∃ n,b.2.length=n:=⟨_,rfl⟩;rw [I,H] at CC;rw [I,H];have aH:=kD I;have aG:=kD H;obtain⟨N,hN⟩:∃ n,ss.length=n:=⟨_,rfl⟩;obtain⟨m,hm⟩:∃ n,ds.length=n:=⟨_,rfl⟩;have aE:N<=9223372036854775807:=by have:=hs.len;omega
 rw [hm] at hd4;rw [hN,hm];have HN:=kD hN;have HM:=kD hm;have RS:=kD hs;have RO:=kD ro;have HB:=kD hb;obtain⟨R,hR⟩:∃ r,followP v b ds ss=r:=⟨_,rfl⟩;rw [hR];have HR:=kD hR;clear I H hN hm hs ro hb r1 r2 hR;go_enter Tryz.func94,Tryz.ntmps94;go_upto_region 1 with fail;refine wp_gen (λ g=>F3 w g v [.slice A1 n1 c1,.slice A2 n2 c2]) ⟨by go_grown,((RowB.new _ _ _).alloc _).alloc _,(RowB.new' _ _ _ (by simp)).alloc _,RowB.new' _ _ _ (by simp)⟩ ?_;intro w1 K;obtain⟨B,z⟩:=K.rr.c2;have C:=K.rr.lt;have D:=K.rr.frozen;by_cases hlong:m<N
 ·have y:R=none:=by rw [<-HR.out];exact follow_long ds b ss (by rw [HN.out,HM.out];exact hlong)
  subst y;have aj:decide (m<N)=true:=decide_eq_true hlong;clear HR;go_wp2_with fail;refine bp_gen (λ g=>Below w.heap.size w g∧RowB g (w.heap.size+2) 28 [.slice none 0 0,.slice none 0 0]) ⟨below_two (K.bel) (by omega) _ _,two_ (K.rr) _ _⟩ ?_;rintro w8 ⟨q,W⟩;obtain⟨B,z⟩:=W.c2;refine bodyPost_ret (v:=.tuple #[.agg #[.slice none 0 0,.slice none 0 0],.bool false]) (by simp [results,Tryz.results94,go_sem,B,z]) rfl ?_;exact⟨_,rfl,⟨_,_,([],[]),rfl,BdR.nil _ _,λ _ h=>by cases h⟩,q⟩
 have aj:decide (m<N)=false:=decide_eq_false hlong;obtain⟨G,F⟩:=K.rb.c2;go_wp2_with fail;refine(CC.out _ K.bel).mono ?_;rintro e w2 ⟨A3,c3,A4,c4,rfl,o3,o4,-,hb⟩;have K:=K.below hb;have aw:w.heap.size+3<=w1.heap.size:=by omega
 clear B z C D G F hb CC;obtain⟨G,F⟩:=K.rb.c2;have l:=K.rb.lt;have X:=K.rb.frozen;have T:=kD o3;have Q:=kD o4;clear o3 o4;go_upto_region 4 with fail;refine wp_gen (λ g=>Fm w g v (.slice A3 b.1.length c3) (.slice A4 b.2.length c4) b) ⟨(K.put _ _),sl_two T.out (by omega) (λ b hb=>by omega) _ _,sl_two Q.out (by omega) (λ b hb=>by omega) _ _⟩ ?_;clear K G F l X T Q;intro w3 K;have ap:Hid (R=followP v b (ds.drop 0) (ss.drop 0)):=HR.out.symm;clear HR;go_wp2_with fail;go_loopw [22] (λ i wr=>∃(k:Nat) (j:Bd) (a1 a2:Value),k<=N∧i=.int .i64 (k:Int)∧Fm w wr v a1 a2 j∧Hid (Ok v j)∧Hid (R=followP v j (ds.drop k) (ss.drop k))) (λ i _=>N - (intOf i).toNat)
 case atStart=>exact⟨0,b,_,_,Nat.zero_le _,by first | rfl | trivial,K,HB,ap⟩
 case round =>
  obtain⟨k,j,a1,a2,hk,rfl,K,P,O⟩:=hrel;obtain⟨⟨B1,e1,rfl,p1,p2⟩,⟨B2,e2,rfl,p3,p4⟩⟩:SlV 1 enI wr _ a1 j.1∧SlV 1 enI wr _ a2 j.2:=⟨K.o1,K.o2⟩;by_cases hlt:k<N
  ·have hw:=K.k.bel;obtain⟨sb,so,f,t,d,hh,rfl,az,aa,s0,s1,s2,s3⟩:=st_at (RS.out.below hw hBS) (by rw [HN.out];exact hlt);have Y:=kD (drop_at aa);obtain⟨db,aF,d2,ao,al,ab,t0⟩:=in_at (RO.out.keep (.below hw)) (k:=k) (by rw [HM.out];omega);subst ao;have Z:=kD (drop_at ab);have aB:(k:Int)<(N:Int):=by omega
   have aC:(k:Int)<(m:Int):=by omega
   have ay:k<m:=by omega
   have ax:k<N:=hlt;obtain⟨l1,o⟩:∃ n,j.1.length=n:=⟨_,rfl⟩;obtain⟨l2,a⟩:∃ n,j.2.length=n:=⟨_,rfl⟩;rw [o,a] at K;have ag:=kD o;have af:=kD a;have P1:=kD p1;have P3:=kD p3;have av:sb<wr.heap.size:=by have:=hw.size;omega
   clear aa ab p1 p3 o a;go_upto_region 7 with fail;refine wp_gen (λ g=>Below wr.heap.size wr g∧Fm w g v (.slice B1 l1 e1) (.slice B2 l2 e2) j∧RowB g wr.heap.size 150 [.int .i64 f,.int .i64 t,.int .i64 d,.bool hh]) ⟨(Below.refl _ _).alloc (Nat.le_refl _) _,K.below ((Below.refl _ _).alloc (Nat.le_refl _) _),RowB.new _ _ _⟩ ?_;rintro w4 ⟨an,K,rs⟩;have t0:=(an.cell al).trans t0;clear s0 s1 s2 s3;obtain⟨s0,s1,s2,s3⟩:=rs.c4;have ai:=rs.lt;obtain⟨B,z⟩:=K.k.rr.c2;have C:=K.k.rr.lt;have D:=K.k.rr.frozen;by_cases hd:d=d2
   rotate_left
   ·have y:R=none:=by
     rw [O.out,Y.out,Z.out];simp only [followP];rw [if_neg (λ h=>hd h.1)]
    subst y;have ak:(d != d2)=true:=by simpa using hd
    clear hd;go_wp2_with fail;go_quiet (fail);go_wp2_with fail;refine bp_gen (λ g=>Below w.heap.size w g∧RowB g (w.heap.size+2) 28 [.slice none 0 0,.slice none 0 0]) ⟨below_two (below_drewN K.k.bel nq) (by omega) _ _,two_ (K.k.rr.drewN nq) _ _⟩ ?_;rintro w8 ⟨q,W⟩;obtain⟨B,z⟩:=W.c2;refine bodyPost_ret (v:=.tuple #[.agg #[.slice none 0 0,.slice none 0 0],.bool false]) (by simp [results,Tryz.results94,go_sem,B,z]) rfl ?_;exact⟨_,rfl,⟨_,_,([],[]),rfl,BdR.nil _ _,λ _ h=>by cases h⟩,q⟩
   subst hd;obtain⟨x,hx⟩:∃ x,legal1 v j (f,t,d,hh)=x:=⟨_,rfl⟩;have CL:=legal_i v j P.out _ (.slice B1 l1 e1) (.slice B2 l2 e2) (f,t,d,hh) w4.drew ⟨(relV 1 enI).keep K.o1 (.below (Below.refl _ _).drew),(relV 1 enI).keep K.o2 (.below (Below.refl _ _).drew)⟩ x hx;have CL:=kD CL;simp only at CL;have HX:=kD hx;have ak:(d != d)=false:=by simp
   obtain⟨q0,q1,q2,q3⟩:=K.k.rv.c4;obtain⟨G,F⟩:=K.k.rb.c2;have ah:=K.k.rv.lt;have l:=K.k.rb.lt;clear hx;go_wp2_with fail;go_still_tail 11,(by kernel_rfl);go_wp2_with fail;refine CL.out.mono ?_;rintro e w5 ⟨rfl,J⟩;have J:Below w4.heap.size w4 w5:=(Below.refl w4.heap.size w4).drew.trans J;have K:=K.below J;have rs:=rs.below J ai;clear q0 q1 q2 q3 G F B z ah C D t0 CL l s0 s1 s2 s3;obtain⟨q0,q1,q2,q3⟩:=K.k.rv.c4;obtain⟨G,F⟩:=K.k.rb.c2;obtain⟨B,z⟩:=K.k.rr.c2;obtain⟨s0,s1,s2,s3⟩:=rs.c4;have C:=K.k.rr.lt;have D:=K.k.rr.frozen
   cases x
   case false =>
    have y:R=none:=by
     rw [O.out,Y.out,Z.out];simp only [followP];rw [if_neg (λ h=>by rw [HX.out] at h;exact absurd h.2 (by decide))]
    subst y;go_wp2_with fail;refine bp_gen (λ g=>Below w.heap.size w g∧RowB g (w.heap.size+2) 28 [.slice none 0 0,.slice none 0 0]) ⟨below_two (K.k.bel) (by omega) _ _,two_ (K.k.rr) _ _⟩ ?_;rintro w8 ⟨q,W⟩;obtain⟨B,z⟩:=W.c2;refine bodyPost_ret (v:=.tuple #[.agg #[.slice none 0 0,.slice none 0 0],.bool false]) (by simp [results,Tryz.results94,go_sem,B,z]) rfl ?_;exact⟨_,rfl,⟨_,_,([],[]),rfl,BdR.nil _ _,λ _ h=>by cases h⟩,q⟩
   have ae:Hid (R=followP v (afterP v j (f,t,d,hh)) (ds.drop (k+1)) (ss.drop (k+1))):=by
    show _=_
    rw [O.out,Y.out,Z.out];simp only [followP];rw [if_pos ⟨trivial,HX.out⟩]
   have V:=kD (legal1_ok P.out HX.out);obtain⟨⟨ar,ad,M,p1,p2⟩,⟨aq,ac,L,p3,p4⟩⟩:SlV 1 enI w5 _ _ j.1∧SlV 1 enI w5 _ _ j.2:=⟨K.o1,K.o2⟩;obtain⟨rfl,rfl⟩:ar=B1∧ad=e1:=by simp only [Value.slice.injEq] at M;exact⟨M.1.symm,M.2.2.symm⟩
   obtain⟨rfl,rfl⟩:aq=B2∧ac=e2:=by simp only [Value.slice.injEq] at L;exact⟨L.1.symm,L.2.2.symm⟩
   have CA:=kD (after_i v j P.out _ _ ad ac w5.heap.size (f,t,d,hh) (legal_stok P.out HX.out) w5 (Nat.le_refl _) p1.rd p3.rd p2 p4);rw [ag.out,af.out] at CA;simp only at CA;have l:=K.k.rb.lt;have aA:w.heap.size+3<=w5.heap.size:=by omega
   clear p1 p3 M L;go_wp2_with fail;refine CA.out.mono ?_;clear CA;rintro e w6 ⟨B3,e3,B4,e4,rfl,o3,o4,-,am⟩;have K:=K.below am;clear q0 q1 q2 q3 G F B z C D s0 s1 s2 s3;obtain⟨G,F⟩:=K.k.rb.c2;have l:=K.k.rb.lt;have X:=K.k.rb.frozen;obtain⟨b2,E⟩:∃ b2,afterP v j (f,t,d,hh)=b2:=⟨_,rfl⟩;rw [E] at o3 o4 ae V;rw [E];have T:=kD o3;have Q:=kD o4;clear o3 o4 E;go_upto_region 10 with fail;refine wp_gen (λ g=>Fm w g v (.slice B3 b2.1.length e3) (.slice B4 b2.2.length e4) b2) ⟨K.k.put _ _,sl_two T.out (by omega) (λ b hb=>by omega) _ _,sl_two Q.out (by omega) (λ b hb=>by omega) _ _⟩ ?_;clear K G F l X;intro w7 K;have aD:IntKind.i64.wrap ((k:Int)+1)=(k:Int)+1:=IntWalk.i64_in _ (by omega);go_wp2_with fail;go_roundw
   case rel=>exact⟨k+1,b2,_,_,by omega,by go_num,K,V,ae⟩
   case measure=>simp [intOf];omega
  ·obtain rfl:N=k:=by omega
   have y:R=some j:=by
    rw [O.out,show ss.drop N=[] from List.drop_eq_nil_of_le (by rw [HN.out];exact Nat.le_refl _)]
    cases ds.drop N <;> rfl
   subst y;obtain⟨l1,o⟩:∃ n,j.1.length=n:=⟨_,rfl⟩;obtain⟨l2,a⟩:∃ n,j.2.length=n:=⟨_,rfl⟩;rw [o,a] at K;have ag:=kD o;have af:=kD a;obtain⟨G,F⟩:=K.k.rb.c2;obtain⟨B,z⟩:=K.k.rr.c2;have l:=K.k.rb.lt;have C:=K.k.rr.lt;have D:=K.k.rr.frozen;clear o a p1 p3;go_wp2_with fail;refine bp_gen (λ g=>Below w.heap.size w g∧RowB g (w.heap.size+2) 28 [.slice B1 l1 e1,.slice B2 l2 e2]∧Hid (SlV 1 enI g (λ b=>(λ _=>False) b∨w.heap.size<=b) (.slice B1 l1 e1) j.1)∧Hid (SlV 1 enI g (λ b=>(λ _=>False) b∨w.heap.size<=b) (.slice B2 l2 e2) j.2)) ⟨below_two K.k.bel (by omega) _ _,two_ K.k.rr _ _,kD ?_,kD ?_⟩ ?_
   ·exact(relV 1 enI).weak (sl_two' K.o1 (by omega) _ _) (λ b hb _=>.inr (by omega))
   ·exact(relV 1 enI).weak (sl_two' K.o2 (by omega) _ _) (λ b hb _=>.inr (by omega))
   rintro w8 ⟨q,W,h1,h2⟩;obtain⟨B,z⟩:=W.c2;refine bodyPost_ret (v:=.tuple #[.agg #[.slice B1 l1 e1,.slice B2 l2 e2],.bool true]) (by simp [results,Tryz.results94,go_sem,B,z]) rfl ?_;exact⟨_,rfl,⟨_,_,j,rfl,⟨h1.out,h2.out⟩,λ _ h=>by simpa using h⟩,q⟩
end Gm
namespace Bd15
open Go.ChangeShapes Go.WideShapes Go.ChangeAt Go.RowKit Base Ints Own PlP Bd1
theorem infoR:(Tryz.prog.info? 30).map (λ i=>(i.zero,i.size,i.bytes))=some (some (.agg #[.int .i64 0,.int .i64 0]),2,16):=by kernel_rfl
theorem one_R (s:Int × Int):∀ u ∈ enI2 s,u.oneCell'=true:=by intro u a;simp [enI2] at a;rcases a with rfl | rfl <;> rfl
def rlU (a k:Nat):List (Int × Int):=rollsP a++(List.range k).map λ b=>(((a+1:Nat):Int),((b+1:Nat):Int))
theorem rlU_zero (a:Nat):rlU a 0=rollsP a:=by simp [rlU]
theorem rlU_all (a:Nat):rlU a (a+1)=rollsP (a+1):=rfl
theorem rlU_succ (a k:Nat):rlU a (k+1)=rlU a k++[(((a+1:Nat):Int),((k+1:Nat):Int))]:=by
 unfold rlU;rw [List.range_succ,List.map_append,List.append_assoc];rfl
theorem rolls_len:∀ a,a<=6->(rollsP a).length<=a*7:=by
 intro a
 induction a with
 | zero=>intro _;exact Nat.le_refl _
 | succ a ih =>
  intro h;have:=ih (by omega);simp only [rollsP,List.length_append,List.length_map,List.length_range];omega
def okR (v:Vr) (a b:Int):Bool:=decide (1<=a∧a<=v.s) && decide (1<=b∧b<=a)
theorem okR_iff {v:Vr} {a b:Int}:okR v a b=true↔(1<=a∧a<=v.s)∧1<=b∧b<=a:=by
 unfold okR;simp only [Bool.and_eq_true,decide_eq_true_eq]
theorem rolls_i (v:Vr) (hv:okV v=true) (w:World):Calls Tryz.prog 123 #[.agg #[.int .i64 v.p,.int .i64 v.c,.int .i64 v.h,.int .i64 v.s]] w λ e w'=>∃ vv,e=.returned vv∧OwnS w' w.heap.size w'.heap.size 30 2 enI2 vv (rollsP v.s.toNat)∧Below w.heap.size w w':=by
 obtain⟨i2,N,I,H,G⟩:=info_parts infoR;have hs:=(okV_iff.1 hv).2.2.2;obtain⟨S,hS⟩:∃ S:Nat,v.s=(S:Int):=⟨v.s.toNat,by omega⟩;have ae:S<=6:=by omega
 have eS:v.s.toNat=S:=by omega
 rw [eS];have CV:=kD (λ w9=>var_i v true hv w9);have R:=hv;obtain⟨p,c,h,s⟩:=v;simp only at hS;subst hS;clear hs eS R;go_enter Tryz.func123,Tryz.ntmps123;go_wp2_with fail;refine(CV.out _).mono ?_;rintro e w1 ⟨rfl,n⟩;have d:=(RowB.new w 25 [.int .i64 p,.int .i64 c,.int .i64 h,.int .i64 (S:Int)]).below n (by go_size);have P:Below w.heap.size w w1:=Below.then_ (by go_grown) n (by go_size);obtain⟨D,C,B,A⟩:=d.c4;have l:=d.lt;clear n;go_wp2_with fail;go_loopw [3,4] (λ F i wr=>∃ a:Nat,a<=S∧i=.int .i64 ((a:Int)+1)∧Hid (Below w.heap.size w wr)∧RowB wr w.heap.size 25 [.int .i64 p,.int .i64 c,.int .i64 h,.int .i64 (S:Int)]∧Hid (OwnS wr (w.heap.size+1) wr.heap.size 30 2 enI2 F (rollsP a))) (λ _ i _=>S+1 - (intOf i).toNat)
 case atStart=>exact⟨0,Nat.zero_le _,by first | rfl | trivial,kD P,d,kD (OwnS.nil_ _ _ _ _ _ _)⟩
 case round =>
  obtain⟨a,ha,rfl,o,d,j⟩:=hrel;clear D C B A l;obtain⟨D,C,B,A⟩:=d.c4;have l:=d.lt;by_cases hlt:a<S
  ·have ad:(a:Int)+1<=(S:Int):=by omega
   have ab:IntKind.i64.wrap ((a:Int)+1+1)=(a:Int)+1+1:=IntWalk.i64_in _ (by omega);have V:=kD (rolls_len a (by omega));go_wp2_with fail;go_loopw [3,5] (λ F i z=>∃ k:Nat,k<=a+1∧i=.int .i64 ((k:Int)+1)∧Hid (Below w.heap.size w z)∧RowB z w.heap.size 25 [.int .i64 p,.int .i64 c,.int .i64 h,.int .i64 (S:Int)]∧Hid (OwnS z (w.heap.size+1) z.heap.size 30 2 enI2 F (rlU a k))∧Hid ((rlU a k).length<=a*7+k)) (λ _ i _=>a+2 - (intOf i).toNat)
   case atStart=>exact⟨0,Nat.zero_le _,by first | rfl | trivial,o,d,by rw [rlU_zero];exact j,kD (by rw [rlU_zero];exact V.out)⟩
   case round =>
    obtain⟨k,hk,rfl,o,d,j,b⟩:=hrel;clear D C B A l;obtain⟨D,C,B,A⟩:=d.c4;have l:=d.lt;by_cases hlk:k<a+1
    ·have ac:(k:Int)+1<=(a:Int)+1:=by omega
     have aa:IntKind.i64.wrap ((k:Int)+1+1)=(k:Int)+1+1:=IntWalk.i64_in _ (by omega);have T:=kD (rlU_succ a k);obtain⟨X,Z⟩:∃ X,rlU a k=X:=⟨_,rfl⟩;rw [Z] at j b T;clear Z;obtain⟨W,Q,J,_⟩:=j.out.form enI2_len;subst J;go_wp2_with (at_builtin;refine wpL_app rfl _ _ _ rfl (w.heap.size+1) _ 30 i2 (.agg #[.int .i64 0,.int .i64 0]) 2 16 Tryz.underlying169 N I H G rfl (by decide) enI2_len one_R (.slice W X.length Q) X [((a:Int)+1,(k:Int)+1)] rfl (j.out.alloc _) ⟨wr.heap.size,0,none⟩ 1 1 (by first | rfl | (simp;rfl) | (simp [go_sem];done)) rfl (news_new (RowB.new _ _ _)) (by decide) ?c1 ?c2 ?c3 ?_)
     case c1=>have:=b.out;unfold maxLen;omega
     case c2=>have:=b.out;omega
     case c3=>go_size
     intro k2 c2 E r t y Y;have f:∀ g,(Value.slice W X.length Q).ownBlock=some g->w.heap.size+1<=g:=λ g x=>(j.out.block g x).1
     have m:wr.grownBy E (Value.slice W X.length Q).ownBlock:=below_grown (w:=wr) (by go_grown) t;have d:=d.grown m (λ g x=>by have:=f g x;omega);have O:=kD (o.out.grown m o.out.size (λ g x=>by have:=f g x;omega));have K:=kD (show OwnS E (w.heap.size+1) E.heap.size 30 2 enI2 (.slice (some ⟨k2,0,none⟩) (X.length+1) c2) (rlU a (k+1)) from by rw [T.out];exact r);have L:Hid ((rlU a (k+1)).length<=a*7+(k+1)):=kD (by rw [T.out,List.length_append,List.length_singleton];have:=b.out;omega);clear t m y r f o j b;go_wp2_with fail;go_roundw
     case rel=>exact⟨k+1,by omega,by go_num,O,d,K,L⟩
     case measure=>simp [intOf];omega
    ·obtain rfl:k=a+1:=by omega
     have M:¬ (((a+1:Nat):Int)+1<=(a:Int)+1):=by omega
     have q:=kD j.out;rw [rlU_all] at q;go_wp2_with fail;go_roundw
     case rel=>exact⟨a+1,by omega,by go_num,o,d,q⟩
     case measure=>simp [intOf];omega
  ·obtain rfl:a=S:=by omega
   have M:¬ ((a:Int)+1<=(a:Int)):=by omega
   go_wp2_with fail;go_ret;exact⟨_,rfl,j.out.less (by omega),o.out⟩
theorem rolls_s (v:Vr) (hv:okV v=true) (w:World):Calls Tryz.prog 127 #[.agg #[.int .i64 v.p,.int .i64 v.c,.int .i64 v.h,.int .i64 v.s]] w λ e w'=>∃ vv,e=.returned vv∧OwnS w' w.heap.size w'.heap.size 30 2 enI2 vv (rollsP v.s.toNat)∧Below w.heap.size w w':=by
 obtain⟨i2,O,I,H,G⟩:=info_parts infoR;have hs:=(okV_iff.1 hv).2.2.2;obtain⟨S,hS⟩:∃ S:Nat,v.s=(S:Int):=⟨v.s.toNat,by omega⟩;have ae:S<=6:=by omega
 have eS:v.s.toNat=S:=by omega
 rw [eS];have T:=hv;obtain⟨p,c,h,s⟩:=v;simp only at hS;subst hS;clear hs eS T;go_enter Tryz.func127,Tryz.ntmps127;go_upto_region 2 with fail;refine wp_gen (λ D=>Below w.heap.size w D∧RowB D w.heap.size 25 [.int .i64 p,.int .i64 c,.int .i64 h,.int .i64 (S:Int)]∧OwnS D (w.heap.size+1) D.heap.size 30 2 enI2 (.slice (some ⟨w.heap.size+1,0,none⟩) 0 0) []) ⟨by go_grown,(RowB.new _ _ _).alloc _,RowB.own (xs:=([]:List (Int × Int))) (RowB.new' _ _ _ (by first | simp | go_size | rfl)) enI2_len (Nat.le_refl _) (by go_size) (by decide)⟩ ?_;rintro w1 ⟨Q,d,L⟩;obtain⟨C,B,A,z⟩:=d.c4;have l:=d.lt;go_wp2_with fail;go_loopw [3,4] (λ F i wr=>∃ a:Nat,a<=S∧i=.int .i64 ((a:Int)+1)∧Hid (Below w.heap.size w wr)∧RowB wr w.heap.size 25 [.int .i64 p,.int .i64 c,.int .i64 h,.int .i64 (S:Int)]∧Hid (OwnS wr (w.heap.size+1) wr.heap.size 30 2 enI2 F (rollsP a))) (λ _ i _=>S+1 - (intOf i).toNat)
 case atStart=>exact⟨0,Nat.zero_le _,by first | rfl | trivial,kD Q,d,kD L⟩
 case round =>
  obtain⟨a,ha,rfl,n,d,j⟩:=hrel;clear C B A z l;obtain⟨C,B,A,z⟩:=d.c4;have l:=d.lt;by_cases hlt:a<S
  ·have ad:(a:Int)+1<=(S:Int):=by omega
   have ab:IntKind.i64.wrap ((a:Int)+1+1)=(a:Int)+1+1:=IntWalk.i64_in _ (by omega);have W:=kD (rolls_len a (by omega));go_wp2_with fail;go_loopw [3,5] (λ F i y=>∃ k:Nat,k<=a+1∧i=.int .i64 ((k:Int)+1)∧Hid (Below w.heap.size w y)∧RowB y w.heap.size 25 [.int .i64 p,.int .i64 c,.int .i64 h,.int .i64 (S:Int)]∧Hid (OwnS y (w.heap.size+1) y.heap.size 30 2 enI2 F (rlU a k))∧Hid ((rlU a k).length<=a*7+k)) (λ _ i _=>a+2 - (intOf i).toNat)
   case atStart=>exact⟨0,Nat.zero_le _,by first | rfl | trivial,n,d,by rw [rlU_zero];exact j,kD (by rw [rlU_zero];exact W.out)⟩
   case round =>
    obtain⟨k,hk,rfl,n,d,j,b⟩:=hrel;clear C B A z l;obtain⟨C,B,A,z⟩:=d.c4;have l:=d.lt;by_cases hlk:k<a+1
    ·have ac:(k:Int)+1<=(a:Int)+1:=by omega
     have aa:IntKind.i64.wrap ((k:Int)+1+1)=(k:Int)+1+1:=IntWalk.i64_in _ (by omega);have V:=kD (rlU_succ a k);obtain⟨X,hX⟩:∃ X,rlU a k=X:=⟨_,rfl⟩;rw [hX] at j b V;clear hX;obtain⟨Y,R,J,_⟩:=j.out.form enI2_len;subst J;go_wp2_with (at_builtin;refine wpL_app rfl _ _ _ rfl (w.heap.size+1) _ 30 i2 (.agg #[.int .i64 0,.int .i64 0]) 2 16 Tryz.underlying169 O I H G rfl (by decide) enI2_len one_R (.slice Y X.length R) X [((a:Int)+1,(k:Int)+1)] rfl (j.out.alloc _) ⟨wr.heap.size,0,none⟩ 1 1 (by first | rfl | (simp;rfl) | (simp [go_sem];done)) rfl (news_new (RowB.new _ _ _)) (by decide) ?c1 ?c2 ?c3 ?_)
     case c1=>have:=b.out;unfold maxLen;omega
     case c2=>have:=b.out;omega
     case c3=>go_size
     intro k2 c2 E q r x Z;have f:∀ g,(Value.slice Y X.length R).ownBlock=some g->w.heap.size+1<=g:=λ g t=>(j.out.block g t).1
     have m:wr.grownBy E (Value.slice Y X.length R).ownBlock:=below_grown (w:=wr) (by go_grown) r;have d:=d.grown m (λ g t=>by have:=f g t;omega);have P:=kD (n.out.grown m n.out.size (λ g t=>by have:=f g t;omega));have K:=kD (show OwnS E (w.heap.size+1) E.heap.size 30 2 enI2 (.slice (some ⟨k2,0,none⟩) (X.length+1) c2) (rlU a (k+1)) from by rw [V.out];exact q);have M:Hid ((rlU a (k+1)).length<=a*7+(k+1)):=kD (by rw [V.out,List.length_append,List.length_singleton];have:=b.out;omega);clear r m x q f n j b;go_wp2_with fail;go_roundw
     case rel=>exact⟨k+1,by omega,by go_num,P,d,K,M⟩
     case measure=>simp [intOf];omega
    ·obtain rfl:k=a+1:=by omega
     have N:¬ (((a+1:Nat):Int)+1<=(a:Int)+1):=by omega
     have o:=kD j.out;rw [rlU_all] at o;go_wp2_with fail;go_roundw
     case rel=>exact⟨a+1,by omega,by go_num,n,d,o⟩
     case measure=>simp [intOf];omega
  ·obtain rfl:a=S:=by omega
   have N:¬ ((a:Int)+1<=(a:Int)):=by omega
   go_wp2_with fail;go_ret;exact⟨_,rfl,j.out.less (by omega),n.out⟩
theorem isroll_i (v:Vr) (a b:Int) (x:Bool) (hx:(okV v && okR v a b)=x) (w:World):Calls Tryz.prog 32 #[.agg #[.int .i64 v.p,.int .i64 v.c,.int .i64 v.h,.int .i64 v.s],.agg #[.int .i64 a,.int .i64 b]] w λ e w'=>e=.returned (.bool x)∧Below w.heap.size w w':=by
 unfold okR at hx;obtain⟨o,k⟩:∃ a,okV v=a:=⟨_,rfl⟩;obtain⟨n,j⟩:∃ c,decide (1<=a∧a<=v.s)=c:=⟨_,rfl⟩;obtain⟨m,i⟩:∃ c,decide (1<=b∧b<=a)=c:=⟨_,rfl⟩;rw [k,j,i] at hx;have A:=kD (λ w=>var_i v o k w);have z:=kD (λ w=>in_i a 1 v.s n j w);have y:=kD (λ w=>in_i b 1 a m i w);have l:=kD hx;clear k j i hx;go_enter Tryz.func32,Tryz.ntmps32;go_wp2_with fail;refine(A.out _).mono ?_;rintro e q ⟨rfl,d⟩;have r:=(RowB.alloc (RowB.new w 25 [.int .i64 v.p,.int .i64 v.c,.int .i64 v.h,.int .i64 v.s]) _).below d (by go_size);have t:=(RowB.new' (w.alloc (.cells #[.int .i64 v.p,.int .i64 v.c,.int .i64 v.h,.int .i64 v.s] 25)) 30 [.int .i64 a,.int .i64 b] (g:=w.heap.size+1) (by simp)).below d (by go_size);have f:Below w.heap.size w q:=Below.then_ (by go_grown) d (by go_size);clear d;obtain⟨I,H,G,F⟩:=r.c4;obtain⟨E,D⟩:=t.c2
 cases o
 case false =>
  obtain rfl:x=false:=by rw [<-l.out];rfl
  go_wp2_with fail;go_ret;exact⟨rfl,f⟩
 go_wp2_with fail;refine(z.out _).mono ?_;rintro e C ⟨rfl,rfl⟩
 cases n
 case false =>
  obtain rfl:x=false:=by rw [<-l.out];rfl
  go_wp2_with fail;go_ret;exact⟨rfl,f⟩
 go_wp2_with fail;refine(y.out _).mono ?_;rintro e B ⟨rfl,rfl⟩;obtain rfl:x=m:=by rw [<-l.out];simp
 go_wp2_with fail;go_ret;exact⟨rfl,f⟩
theorem isroll_s (v:Vr) (a b:Int) (x:Bool) (hx:okR v a b=x) (w:World):Calls Tryz.prog 89 #[.agg #[.int .i64 v.p,.int .i64 v.c,.int .i64 v.h,.int .i64 v.s],.agg #[.int .i64 a,.int .i64 b]] w λ e w'=>e=.returned (.bool x)∧Below w.heap.size w w':=by
 unfold okR at hx;obtain⟨i,f⟩:∃ c,decide (1<=a∧a<=v.s)=c:=⟨_,rfl⟩;obtain⟨g,d⟩:∃ c,decide (1<=b∧b<=a)=c:=⟨_,rfl⟩;rw [f,d] at hx;have l:=kD (λ w=>in_s a 1 v.s i f w);have k:=kD (λ w=>in_s b 1 a g d w);have j:=kD hx;clear f d hx;go_enter Tryz.func89,Tryz.ntmps89;go_wp2_with fail;refine(l.out _).mono ?_;rintro e n ⟨rfl,rfl⟩
 cases i
 case false =>
  obtain rfl:x=false:=by rw [<-j.out];rfl
  go_wp2_with fail;go_ret;exact⟨rfl,by go_grown⟩
 go_wp2_with fail;refine(k.out _).mono ?_;rintro e m ⟨rfl,rfl⟩;obtain rfl:x=g:=by rw [<-j.out];simp
 go_wp2_with fail;go_ret;exact⟨rfl,by go_grown⟩
theorem weight_i (v:Vr) (hv:okV v=true) (a b:Int) (hr:okR v a b=true) (w:World):Calls Tryz.prog 124 #[.agg #[.int .i64 v.p,.int .i64 v.c,.int .i64 v.h,.int .i64 v.s],.agg #[.int .i64 a,.int .i64 b]] w λ e w'=>e=.returned (.int .i64 (wtP (a,b)))∧Below w.heap.size w w':=by
 have k:=kD (λ w=>isroll_i v a b true (by rw [hv,hr];rfl) w);obtain⟨z,i⟩:∃ z,wtP (a,b)=z:=⟨_,rfl⟩;rw [i];have f:=kD i;clear hv hr i;go_enter Tryz.func124,Tryz.ntmps124;go_wp2_with fail;refine(k.out _).mono ?_;rintro e l ⟨rfl,d⟩;have m:=(RowB.new' (w.alloc (.cells #[.int .i64 v.p,.int .i64 v.c,.int .i64 v.h,.int .i64 v.s] 25)) 30 [.int .i64 a,.int .i64 b] (g:=w.heap.size+1) (by simp)).below d (by go_size);have j:Below w.heap.size w l:=Below.then_ (by go_grown) d (by go_size);clear d k;obtain⟨q,o⟩:=m.c2;by_cases h:a=b
 ·obtain rfl:z=1:=by rw [<-f.out];unfold wtP;rw [if_pos h]
  have n:(a == b)=true:=by simp [h]
  clear h f;go_wp2_with fail;go_ret;exact⟨rfl,j⟩
 ·obtain rfl:z=2:=by rw [<-f.out];unfold wtP;rw [if_neg h]
  have n:(a == b)=false:=by simp [h]
  clear h f;go_wp2_with fail;go_ret;exact⟨rfl,j⟩
theorem base_s (v:Vr) (hv:okV v=true) (w:World):Calls Tryz.prog 129 #[.agg #[.int .i64 v.p,.int .i64 v.c,.int .i64 v.h,.int .i64 v.s]] w λ e w'=>e=.returned (.int .i64 (v.s*v.s))∧Below w.heap.size w w':=by
 have a:=(okV_iff.1 hv).2.2.2;have b:0<=v.s*v.s∧v.s*v.s<=36:=⟨Int.mul_nonneg (by omega) (by omega),Int.mul_le_mul a.2 a.2 (by omega) (by omega)⟩;have d:IntKind.i64.wrap (v.s*v.s)=v.s*v.s:=IntWalk.i64_in _ (by omega);clear hv a b;go_enter Tryz.func129,Tryz.ntmps129;go_wp2_with fail;go_ret;exact⟨rfl,by go_grown⟩
end Bd15
namespace RegF
open Go Go.RowKit Base RegInv
theorem FixFrom.gd {P:Program} {ops:Array Oper} {Q:Exit->Act->World->Prop} {a0:Act} {ds:List (Option Nat)} {vals:Nat->Value} {B:(Nat->Prop)->World->Prop} {n:Nat} {o:Oper} (G:Bool) (ho:ops[n]?=some o) (hG:wantV o vals=G) (h0:G=false->vals n=undef) (hb:∀ L w',B L w'->B (λ j=>j=n∨L j) w') (h:G=true->FixAt P ops Q a0 ds vals B n o) (r:FixFrom P ops Q a0 ds vals B (n+1)):FixFrom P ops Q a0 ds vals B n:=by
 intro k d c a;by_cases e:k=n
 ·subst e;rw [ho] at a;simp only [Option.some.injEq] at a;subst a;exact⟨λ b=>h (hG.symm.trans b),λ b=>⟨h0 (hG.symm.trans b),hb⟩⟩
 ·exact r k (by omega) c a
end RegF
end Go.Proofs.YtmncnhbjifeoeaaGreat
