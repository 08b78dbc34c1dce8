/- Parts of the proof of FnHints. Conditions: each theorem's own. -/
import Derived.Test.YtmncnhbjifeoeaaGreatT16
set_option linter.unusedVariables false
set_option linter.unusedSimpArgs false
set_option maxHeartbeats 8000000
set_option maxRecDepth 100000
namespace Go.Proofs.YtmncnhbjifeoeaaGreat
namespace Bd3I
open Go.ChangeShapes Go.WideShapes Go.ChangeAt Go.RowKit Base Ints Own Clone RelG PlP Bd1 Bd2 RegInv RegF
theorem apart_no {v:Vr} {b:Bd} {n k:Nat} (hk:k<n) (h:0<at_ b.1 k∧0<at_ b.2 (v.p.toNat - 1 - k)):apart v b n=false:=by
 cases hc:apart v b n with
 | false=>rfl
 | true=>exact absurd h ((apart_iff n).1 hc k hk)
theorem apart_step {v:Vr} {b:Bd} {k:Nat} (h:apart v b k=true) (hn:¬ (0<at_ b.1 k∧0<at_ b.2 (v.p.toNat - 1 - k))):apart v b (k+1)=true:=by
 refine(apart_iff (k+1)).2 λ i a=>?_
 by_cases e:i=k
 ·subst e;exact hn
 ·exact(apart_iff k).1 h i (by omega)
theorem okB_eq (v:Vr) (b:Bd):okB v b=(okV v && okS v b.1 && okS v b.2 && !(decide (b.1.sum=0) && decide (b.2.sum=0)) && apart v b v.p.toNat):=rfl
theorem isB_i (v:Vr) (b:Bd) (Ao At:Option Addr) (co ct B:Nat) (w:World) (hB:B<=w.heap.size) (ho:RdS w B 1 enI Ao b.1) (ht:RdS w B 1 enI At b.2) (x:Bool) (hx:okB v b=x) :
  Calls Tryz.prog 31 #[.agg #[.int .i64 v.p,.int .i64 v.c,.int .i64 v.h,.int .i64 v.s],.agg #[.slice Ao b.1.length co,.slice At b.2.length ct]] w λ e w'=>e=.returned (.bool x)∧Below w.heap.size w w':=by
 rw [okB_eq] at hx;obtain⟨a,ha⟩:∃ a,okV v=a:=⟨_,rfl⟩;obtain⟨s1,N⟩:∃ a,okS v b.1=a:=⟨_,rfl⟩;obtain⟨s2,M⟩:∃ a,okS v b.2=a:=⟨_,rfl⟩;rw [ha,N,M] at hx;have S:=kD hx;have HA:=kD ha;have H1:=kD N;have H2:=kD M;have HO:=kD ho;have HT:=kD ht;have CV:=kD (λ w=>var_i v a ha w);clear hx ha N M ho ht;go_enter Tryz.func31,Tryz.ntmps31;go_upto_region 1 with fail;refine wp_gen (λ W'=>Below w.heap.size w W'∧RowB W' w.heap.size 25 (vL v)∧RowB W' (w.heap.size+1) 28 [.slice Ao b.1.length co,.slice At b.2.length ct]) ⟨by go_grown,(RowB.new _ _ _).alloc _,RowB.new' _ _ _ (by simp)⟩ ?_;rintro w1 ⟨O,d,f⟩;obtain⟨G,F,E,D⟩:=d.c4;obtain⟨C,A⟩:=f.c2;have q:=d.lt;have o:=f.lt;go_wp2_with fail;refine(CV.out _).mono ?_;rintro e w2 ⟨rfl,n⟩;have d:=d.below n d.lt;have f:=f.below n f.lt;have n:=O.trans (n.mono O.size);clear G F E D C A q o O;obtain⟨G,F,E,D⟩:=d.c4;obtain⟨C,A⟩:=f.c2;have q:=d.lt;have o:=f.lt
 cases a
 case false =>
  obtain rfl:x=false:=by rw [<-S.out];rfl
  go_wp2_with fail;go_ret;exact⟨rfl,n⟩
 have ac:=okV_iff.1 HA.out;go_wp2_with fail;refine(side_i v HA.out Ao co B b.1 s1 H1.out w2 (Nat.le_trans hB n.size) (HO.out.below n hB)).mono ?_;rintro e w3 ⟨rfl,m⟩;have d:=d.below m d.lt;have f:=f.below m f.lt;have m:=n.trans (m.mono n.size);clear G F E D C A q o n;obtain⟨G,F,E,D⟩:=d.c4;obtain⟨C,A⟩:=f.c2;have q:=d.lt;have o:=f.lt
 cases s1
 case false =>
  obtain rfl:x=false:=by rw [<-S.out];rfl
  go_wp2_with fail;go_ret;exact⟨rfl,m⟩
 have d1:=okS_iff.1 H1.out;go_wp2_with fail;refine(side_i v HA.out At ct B b.2 s2 H2.out w3 (Nat.le_trans hB m.size) (HT.out.below m hB)).mono ?_;rintro e w4 ⟨rfl,l⟩;have d:=d.below l d.lt;have f:=f.below l f.lt;have l:=m.trans (l.mono m.size);clear G F E D C A q o m;obtain⟨G,F,E,D⟩:=d.c4;obtain⟨C,A⟩:=f.c2;have q:=d.lt;have o:=f.lt
 cases s2
 case false =>
  obtain rfl:x=false:=by rw [<-S.out];rfl
  go_wp2_with fail;go_ret;exact⟨rfl,l⟩
 have Z:=okS_iff.1 H2.out;have D1:=kD d1;have D2:=kD Z;have N1:=d1.len;have N2:=Z.len;have S1:=kD (λ w (h:RdS w B 1 enI Ao b.1)=>sum_i Ao co B b.1 w h (λ i=>⟨d1.nn i,by have:=d1.top i;omega⟩) (by omega));have S2:=kD (λ w (h:RdS w B 1 enI At b.2)=>sum_i At ct B b.2 w h (λ i=>⟨Z.nn i,by have:=Z.top i;omega⟩) (by omega));clear d1 Z;go_wp2_with fail;refine(S1.out _ (HO.out.below l hB)).mono ?_;rintro e w5 ⟨rfl,rfl⟩;have t:Hid (¬ (b.1.sum=0∧b.2.sum=0)->apart v b v.p.toNat=x):=kD (λ h=>by
  rw [<-S.out];have:(decide (b.1.sum=0) && decide (b.2.sum=0))=false:=by
   cases e:(decide (b.1.sum=0) && decide (b.2.sum=0)) with
   | false=>rfl
   | true=>exact absurd (by simpa using e) h
  rw [this];rfl)
 obtain⟨z1,I⟩:∃ z,b.1.sum=z:=⟨_,rfl⟩;obtain⟨W,H⟩:∃ z,b.2.sum=z:=⟨_,rfl⟩;have R:=kD S2.out;rw [I] at t S ⊢;rw [H] at t S R;clear S2 S1;by_cases hzz:z1=0∧W=0
 case pos =>
  obtain rfl:x=false:=by rw [<-S.out];simp [hzz]
  obtain⟨rfl,rfl⟩:=hzz;clear I H;go_wp2_with fail;refine(R.out _ (HT.out.below l hB)).mono ?_;rintro e w5 ⟨rfl,rfl⟩;go_wp2_with fail;go_ret;exact⟨rfl,l⟩
 have J:=kD (t.out hzz);clear t;have ad:0<=v.p:=by omega
 have go:∀(K:World->Prop),K w4->True:=λ _ _=>trivial
 clear go;have e5:(W == 0)=decide (W=0):=by first | rfl | simp
 by_cases hz10:z1=0
 ·have L:¬ W=0:=λ h=>hzz ⟨hz10,h⟩
  have P:(z1 == 0)=true:=by simp [hz10]
  have V:(W == 0)=false:=by simp [L]
  clear hzz hz10 L I H e5;go_wp2_with fail;refine(R.out _ (HT.out.below l hB)).mono ?_;rintro e w5 ⟨rfl,rfl⟩;go_wp2_with fail;go_loopw [37] (λ i wr=>∃(k:Nat),(k:Int)<=v.p∧i=.int .i64 (k:Int)∧Hid (Below w.heap.size w wr)∧RowB wr w.heap.size 25 (vL v)∧RowB wr (w.heap.size+1) 28 [.slice Ao b.1.length co,.slice At b.2.length ct]∧Hid (apart v b k=true)) (λ i _=>v.p.toNat - (intOf i).toNat)
  case atStart=>exact⟨0,by omega,by first | rfl | trivial,kD l,d,f,rfl⟩
  case round =>
   obtain⟨k,hk,rfl,y,d,f,r⟩:=hrel;clear G F E D C A q o;obtain⟨G,F,E,D⟩:=d.c4;obtain⟨C,A⟩:=f.c2;by_cases hlt:(k:Int)<v.p
   ·obtain⟨b1,o1,rfl,Y,ab⟩:=at_rd (HO.out.below y.out hB) (i:=k) (by omega);have Q:(v.p - 1 - (k:Int)).toNat=v.p.toNat - 1 - k:=by omega
    obtain⟨j,hj⟩:∃ j:Nat,v.p - 1 - (k:Int)=(j:Int):=⟨(v.p - 1 - (k:Int)).toNat,by omega⟩;have g:v.p.toNat - 1 - k=j:=by omega
    obtain⟨b2,o2,rfl,X,aa⟩:=at_rd (HT.out.below y.out hB) (i:=j) (by omega);have e1:IntKind.i64.wrap (v.p - 1)=v.p - 1:=IntWalk.i64_in _ (by omega);have e2:IntKind.i64.wrap (v.p - 1 - (k:Int))=(j:Int):=by rw [hj];exact IntWalk.i64_in _ (by omega)
    by_cases P:0<at_ b.1 k
    ·by_cases V:0<at_ b.2 j
     ·obtain rfl:x=false:=by rw [<-J.out];exact apart_no (k:=k) (by omega) ⟨P,by rw [g];exact V⟩
      clear Q g;go_wp2_with fail;go_ret;exact⟨rfl,y.out⟩
     ·have T:Hid (apart v b (k+1)=true):=kD (apart_step r.out (λ h=>V (by rw [<-g];exact h.2)));clear Q g;go_wp2_with fail;go_roundw
      case rel=>exact⟨k+1,by omega,by go_num,y,d,f,T⟩
      case measure=>simp [intOf];omega
    ·have T:Hid (apart v b (k+1)=true):=kD (apart_step r.out (λ h=>P h.1));clear Q g;go_wp2_with fail;go_roundw
     case rel=>exact⟨k+1,by omega,by go_num,y,d,f,T⟩
     case measure=>simp [intOf];omega
   ·obtain rfl:x=true:=by rw [<-J.out,<-r.out];congr 1;omega
    go_wp2_with fail;go_ret;exact⟨rfl,y.out⟩
 ·have P:(z1 == 0)=false:=by simp [hz10]
  clear hzz hz10 I H e5;go_wp2_with fail;go_loopw [37] (λ i wr=>∃(k:Nat),(k:Int)<=v.p∧i=.int .i64 (k:Int)∧Hid (Below w.heap.size w wr)∧RowB wr w.heap.size 25 (vL v)∧RowB wr (w.heap.size+1) 28 [.slice Ao b.1.length co,.slice At b.2.length ct]∧Hid (apart v b k=true)) (λ i _=>v.p.toNat - (intOf i).toNat)
  case atStart=>exact⟨0,by omega,by first | rfl | trivial,kD l,d,f,rfl⟩
  case round =>
   obtain⟨k,hk,rfl,y,d,f,r⟩:=hrel;clear G F E D C A q o;obtain⟨G,F,E,D⟩:=d.c4;obtain⟨C,A⟩:=f.c2;by_cases hlt:(k:Int)<v.p
   ·obtain⟨b1,o1,rfl,Y,ab⟩:=at_rd (HO.out.below y.out hB) (i:=k) (by omega);have Q:(v.p - 1 - (k:Int)).toNat=v.p.toNat - 1 - k:=by omega
    obtain⟨j,hj⟩:∃ j:Nat,v.p - 1 - (k:Int)=(j:Int):=⟨(v.p - 1 - (k:Int)).toNat,by omega⟩;have g:v.p.toNat - 1 - k=j:=by omega
    obtain⟨b2,o2,rfl,X,aa⟩:=at_rd (HT.out.below y.out hB) (i:=j) (by omega);have e1:IntKind.i64.wrap (v.p - 1)=v.p - 1:=IntWalk.i64_in _ (by omega);have e2:IntKind.i64.wrap (v.p - 1 - (k:Int))=(j:Int):=by rw [hj];exact IntWalk.i64_in _ (by omega)
    by_cases P:0<at_ b.1 k
    ·by_cases V:0<at_ b.2 j
     ·obtain rfl:x=false:=by rw [<-J.out];exact apart_no (k:=k) (by omega) ⟨P,by rw [g];exact V⟩
      clear Q g;go_wp2_with fail;go_ret;exact⟨rfl,y.out⟩
     ·have T:Hid (apart v b (k+1)=true):=kD (apart_step r.out (λ h=>V (by rw [<-g];exact h.2)));clear Q g;go_wp2_with fail;go_roundw
      case rel=>exact⟨k+1,by omega,by go_num,y,d,f,T⟩
      case measure=>simp [intOf];omega
    ·have T:Hid (apart v b (k+1)=true):=kD (apart_step r.out (λ h=>P h.1));clear Q g;go_wp2_with fail;go_roundw
     case rel=>exact⟨k+1,by omega,by go_num,y,d,f,T⟩
     case measure=>simp [intOf];omega
   ·obtain rfl:x=true:=by rw [<-J.out,<-r.out];congr 1;omega
    go_wp2_with fail;go_ret;exact⟨rfl,y.out⟩
end Bd3I
namespace Gm
open Go Go.ChangeShapes Go.WideShapes Go.ChangeAt Go.RowKit Base Ints Own Clone RelG PlP Bd1 Bd2 Bd5 Bd6 Bd7 Bd8 RegInv RegF RegG
structure Rows (w wr:World) (L:List (Nat × TypeId × List Value)):Prop where
 bel:Below w.heap.size w wr
 at_:∀ p ∈ L,RowB wr (w.heap.size+p.1) p.2.1 p.2.2
section
variable {w wr w':World} {L:List (Nat × TypeId × List Value)}
theorem Rows.below (k:Rows w wr L) (hb:Below wr.heap.size wr w'):Rows w w' L :=
 ⟨k.bel.trans (hb.mono k.bel.size),λ p hp=>(k.at_ p hp).below hb (k.at_ p hp).lt⟩
theorem Rows.nth (k:Rows w wr L) (i:Nat) {o:Nat} {t:TypeId} {cs:List Value} (h:L[i]?=some (o,t,cs)):RowB wr (w.heap.size+o) t cs:=k.at_ _ (List.mem_of_getElem? h)
theorem Rows.nth0 (k:Rows w wr L) (i:Nat) {t:TypeId} {cs:List Value} (h:L[i]?=some (0,t,cs)):RowB wr w.heap.size t cs:=k.at_ _ (List.mem_of_getElem? h)
end
end Gm
namespace HdB
open Go Go.ChangeShapes Go.WideShapes Go.ChangeAt Go.RowKit Base Ints Own Clone RelG PlP Gm Bd1 Bd2 Bd5 Bd6 Bd7 Bd8 RegInv RegF RegG Draw DrawD DwP DwQ DwA HdP HdA
structure Bo (W:World) (lo:Nat) (u1 u2:Value) (b:Bd):Prop where
 o1:OwnS W lo W.heap.size 2 1 enI u1 b.1
 o2:OwnS W lo W.heap.size 2 1 enI u2 b.2
 ap:Apart u1 u2
section
variable {W W':World} {lo:Nat} {u1 u2:Value} {b:Bd}
theorem Bo.below (h:Bo W lo u1 u2 b) (hb:Below W.heap.size W W'):Bo W' lo u1 u2 b:=⟨(h.o1.below hb (Nat.le_refl _)).more hb.size,(h.o2.below hb (Nat.le_refl _)).more hb.size,h.ap⟩
theorem Bo.low {g:Nat} (h:Bo W lo u1 u2 b) (hg:W.grownBy W' (some g)) (hl:g<lo):Bo W' lo u1 u2 b:=⟨(h.o1.grown hg (λ k hk=>by simp at hk;omega)).more hg.size,(h.o2.grown hg (λ k hk=>by simp at hk;omega)).more hg.size,h.ap⟩
theorem Bo.less {lo':Nat} (h:Bo W lo u1 u2 b) (hl:lo'<=lo):Bo W lo' u1 u2 b:=⟨h.o1.less hl,h.o2.less hl,h.ap⟩
end
structure SbF (w w1:World) (l:List Int) (n:Nat) (p1 p3 p4 p5:Prop) (v1 v3 v4:Value) (w':World):Prop where
 bel:¬ p5->Below w1.heap.size w1 w'
 f1:p1->∃ A c,v1=.slice A n c∧OwnS w' w1.heap.size w'.heap.size 2 1 enI v1 l
 f3:p3->p1∧∃ A c,v3=.slice A n c∧OwnS w' w1.heap.size w'.heap.size 2 1 enI v3 l∧Apart v1 v3
 f4:p4->p3∧v4=.agg #[v1,v3]
 fin:p5->p3∧RowB w' (w.heap.size+1) 28 [v1,v3]∧Below w.heap.size w w'
section
variable {w w1 w' w'':World} {l:List Int} {n:Nat} {L:Nat->Prop} {vals:Nat->Value}
theorem SbF.skip (F:SbF w w1 l n (L 1) (L 3) (L 4) (L 5) (vals 1) (vals 3) (vals 4) w') (k:Nat) (y:Value) (h:1≠k∧3≠k∧4≠k∧5≠k:=by decide):SbF w w1 l n (1=k∨L 1) (3=k∨L 3) (4=k∨L 4) (5=k∨L 5) (upd vals k y 1) (upd vals k y 3) (upd vals k y 4) w':=by
 rw [or_ne h.1,or_ne h.2.1,or_ne h.2.2.1,or_ne h.2.2.2,upd_ne h.1,upd_ne h.2.1,upd_ne h.2.2.1];exact F
end
theorem start2_s (v:Vr) (hok:okV v=true) (h4:4<=v.p) (n:Nat) (hn:(startL v).length=n) (w:World) :
  Calls Tryz.prog 171 #[.agg #[.int .i64 v.p,.int .i64 v.c,.int .i64 v.h,.int .i64 v.s]] w λ e w'=>∃ A1 c1 A2 c2,e=.returned (.tuple #[.agg #[.slice A1 n c1,.slice A2 n c2],.bool true])∧Bo w' w.heap.size (.slice A1 n c1) (.slice A2 n c2) (startB v)∧Below w.heap.size w w':=by
 have CV:=kD (λ(l:World)=>var_s v true hok l);have CS:=kD (λ(l:World)=>start_s v hok h4 l);have HN:=kD hn;have ab:¬ v.p<4:=by omega
 have ak:decide (v.p<4)=false:=decide_eq_false ab;clear hok hn h4;go_enter Tryz.func171,Tryz.ntmps171;go_upto_region 1 with fail;refine wp_gen (λ W'=>Gm.Rows w W' [(0,25,vL v),(1,28,[.slice none 0 0,.slice none 0 0])]) ⟨by go_grown,λ p T=>?_⟩ ?_
 ·simp only [List.mem_cons,List.not_mem_nil,or_false] at T;rcases T with rfl | rfl
  ·exact(RowB.new _ _ _).alloc _
  ·exact RowB.new' _ _ _ (by simp)
 intro w1 K;obtain⟨S,R,Q,P⟩:=(K.nth0 0 rfl).c4;have o:=(K.nth0 0 rfl).lt;go_wp2_with fail;refine(CV.out w1).mono ?_;rintro e w2 ⟨rfl,hb⟩;have y:=kD (K.below hb);clear K S R Q P o hb CV;obtain⟨S,R,Q,P⟩:=(y.out.nth0 0 rfl).c4;have o:=(y.out.nth0 0 rfl).lt;have aa:=(y.out.nth 1 rfl).lt;go_upto_region 3 with fail;clear S R Q P o;refine region_rel [some 13,some 14,some 15,some 16,some 17,none,some 3] 7 (Pl [some (.agg #[.int .i64 v.p,.int .i64 v.c,.int .i64 v.h,.int .i64 v.s]),none,some (.agg #[.int .i64 v.p,.int .i64 v.c,.int .i64 v.h,.int .i64 v.s]),none,none,none,some (.bool true)]) (λ L a w'=>SbF w w2 (startL v) n (L 1) (L 3) (L 4) (L 5) (a 1) (a 3) (a 4) w') (by kernel_rfl) (by kernel_rfl) (by kernel_rfl) (by kernel_rfl) (by kernel_rfl) (by kernel_rfl) (by first | kernel_rfl | rfl) ?g0_1 ?gst_1 ?gfin_1
 case g0_1=>exact⟨λ _=>(Below.refl _ _).drew,λ h=>absurd h (by decide),λ h=>absurd h (by decide),λ h=>absurd h (by decide),λ h=>absurd h (by decide)⟩
 case gst_1 =>
  refine rN rfl (λ L a A l b i d U F K m=>?_) ?_
  ·have e1:=U.w 1 (.pointer (some ⟨w.heap.size,0,none⟩));have C:=(y.out.nth0 0 rfl).below (F.bel (λ h=>b (d 5 0 (by kernel_rfl) h))) (by omega);obtain⟨S,R,Q,P⟩:=C.c4;have o:=C.lt;clear C;go_simp;exact pF m (F.skip 0 _)
  refine rN rfl (λ L a A l b i d U F K m=>?_) ?_
  ·have am:=U.v 0 13;have f:=F.bel (λ h=>b (d 5 1 (by kernel_rfl) h));go_simp;refine(CS.out l).mono ?_;rintro e w6 ⟨⟨sv,rfl,I⟩,t⟩;refine(I.form enI_len).elim λ X q=>?_
   refine q.elim λ c q=>?_
   have N:=q.1;rw [HN.out] at N;exact m.out sv w6 (Pl.any rfl) ⟨λ _=>f.trans (t.mono f.size),λ _=>⟨X,c,by rw [upd_same];exact N,by rw [upd_same];exact I.less f.size⟩,λ h=>absurd (d 3 1 (by kernel_rfl) (rL h)) b,λ h=>absurd (d 4 1 (by kernel_rfl) (rL h)) b,λ h=>absurd (d 5 1 (by kernel_rfl) (rL h)) b⟩
  refine rN rfl (λ L a A l b i d U F K m=>?_) ?_
  ·have e1:=U.w 1 (.pointer (some ⟨w.heap.size,0,none⟩));have C:=(y.out.nth0 0 rfl).below (F.bel (λ h=>b (d 5 2 (by kernel_rfl) h))) (by omega);obtain⟨S,R,Q,P⟩:=C.c4;have o:=C.lt;clear C;go_simp;exact pF m (F.skip 2 _)
  refine rN rfl (λ L a A l b i d U F K m=>?_) ?_
  ·have al:=U.v 2 15;have f:=F.bel (λ h=>b (d 5 3 (by kernel_rfl) h));go_simp;refine(CS.out l).mono ?_;rintro e w6 ⟨⟨sv,rfl,I⟩,t⟩;refine(I.form enI_len).elim λ X q=>?_
   refine q.elim λ c q=>?_
   have N:=q.1;rw [HN.out] at N;refine(F.f1 (bK i 1)).elim λ M r=>?_
   refine r.elim λ J r=>?_
   have Z:=r.1;have r2:=r.2;exact m.out sv w6 (Pl.any rfl) ⟨λ _=>f.trans (t.mono f.size),λ _=>⟨M,J,by rw [upd_ne (by decide)];exact Z,by rw [upd_ne (by decide)];exact(r2.below t (Nat.le_refl _)).more t.size⟩,λ _=>⟨.inr (bK i 1),X,c,by rw [upd_same];exact N,by rw [upd_same];exact I.less f.size,by rw [upd_ne (by decide),upd_same];intro g G ac;have b1:=(r2.block g G).2;have b2:=(I.block g ac).1;omega⟩,λ h=>absurd (d 4 3 (by kernel_rfl) (rL h)) b,λ h=>absurd (d 5 3 (by kernel_rfl) (rL h)) b⟩
  refine rN rfl (λ L a A l b i d U F K m=>?_) ?_
  ·have Y:=U.x 1 14;have W:=U.x 3 16;have f:=F.bel (λ h=>b (d 5 4 (by kernel_rfl) h));refine(F.f1 (bK i 1)).elim λ M r=>?_
   refine r.elim λ J r=>?_
   have Z:=r.1;have H:=F.f3 (bK i 3);refine H.2.elim λ X2 s=>?_
   refine s.elim λ d2 s=>?_
   have s1:=s.1;have ai:=Y.trans Z;have ah:=W.trans s1;clear Y W r s H;go_simp;exact m.out _ l (Pl.any rfl) ⟨λ _=>f,λ h=>by rw [upd_ne (by decide)];exact F.f1 (rL h),λ h=>by rw [upd_ne (by decide),upd_ne (by decide)];exact⟨.inr (F.f3 (rL h)).1,(F.f3 (rL h)).2⟩,λ _=>⟨.inr (bK i 3),by rw [upd_same,upd_ne (by decide),upd_ne (by decide),Z,s1]⟩,λ h=>absurd (d 5 4 (by kernel_rfl) (rL h)) b⟩
  refine rN rfl (λ L a A l b i d U F K m=>?_) ?_
  ·have e2:=U.w 2 (.pointer (some ⟨w.heap.size+1,0,none⟩));have ag:=U.x 4 17;have f:=F.bel b;have O:=F.f4 (bK i 4);have H:=F.f3 O.1;refine(F.f1 H.1).elim λ M r=>?_
   refine r.elim λ J r=>?_
   refine H.2.elim λ X2 s=>?_
   refine s.elim λ d2 s=>?_
   have h4:=O.2;rw [r.1,s.1] at h4;have rr:=(y.out.nth 1 rfl).below f aa;refine wp_sm 28 _ _ rfl (w.heap.size+1) 0 [.slice M n J,.slice X2 n d2] _ (ev e2) (ev (ag.trans h4)) 28 rr (by kernel_rfl) (Nat.le_refl _) rfl ?_;have G:=grown_cells (w.heap.size+1) [.slice M n J,.slice X2 n d2] 0 l;have z:=y.out.bel.size;exact m.out undef _ (Pl.any rfl) ⟨λ h=>absurd (.inl rfl) h,λ h=>⟨M,J,by rw [upd_ne (by decide)];exact r.1,by rw [upd_ne (by decide)];exact(r.2.grown G (λ k V=>by simp at V;omega)).more G.size⟩,λ _=>⟨.inr H.1,X2,d2,by rw [upd_ne (by decide)];exact s.1,by rw [upd_ne (by decide)];exact(s.2.1.grown G (λ k V=>by simp at V;omega)).more G.size,by rw [upd_ne (by decide),upd_ne (by decide)];exact s.2.2⟩,λ _=>⟨.inr O.1,by rw [upd_ne (by decide),upd_ne (by decide),upd_ne (by decide)];exact O.2⟩,λ _=>⟨.inr O.1,by rw [upd_ne (by decide),upd_ne (by decide),r.1,s.1];exact row_cells _ _ _ _ rr,(y.out.bel.trans (f.mono z)).grown G (by have:=f.size;omega) (λ k V=>by simp at V;omega)⟩⟩
  refine rN rfl (λ L a A l b i d U F K m=>?_) ?_
  ·go_simp;exact pF m (F.skip 6 _)
  exact RelFrom.nil (by decide)
 intro a wf T F;simp only [Fr,Act.put,sX,Nat.reduceAdd];obtain⟨h3,j,ad⟩:=F.fin trivial;obtain⟨A1,c1,e1,E⟩:=F.f1 trivial;obtain⟨-,A2,c2,e2,D,B⟩:=F.f3 trivial;rw [e1] at E j B;rw [e2] at D j B;have z:=y.out.bel.size;have ae:=kD (show Bo wf w.heap.size (.slice A1 n c1) (.slice A2 n c2) (startB v) from⟨E.less z,D.less z,B⟩);have af:a 6=.bool true:=T 6 (by decide) _ rfl;rw [af];obtain⟨z0,z1⟩:=j.c2;have aj:=j.lt;clear F T E D B j e1 e2 y
 repeat (first | go_values | go_skip | go_step | go_upon)
 refine bodyPost_ret (v:=.tuple #[.agg #[.slice A1 n c1,.slice A2 n c2],.bool true]) (by simp [results,Tryz.results171,go_sem,z0,z1]) rfl ?_;exact⟨A1,c1,A2,c2,rfl,ae.out,ad⟩
structure DsF (w0 we:World) (B g:Nat) (A:Option Addr) (cp:Nat) (xs:List Int) (st:Nat × Int) (v:Vr) (n:Nat) (p3 p4 p5:Prop) (v3 v4 v5:Value) (w':World):Prop where
 d0:¬ p4->Dx w0 B g A cp xs st w'∧we.grownBy w' (some g)
 e3:p3->¬ p4->∃ ge,v3=.slice (some ⟨ge,0,none⟩) n n∧RowI w' ge (List.replicate n 0) []∧we.heap.size<=ge
 d4:p4->∃(q:Nat) (l:List Int) (st':St),v4=.slice (some ⟨q,0,none⟩) n n∧sd02 xs v (zr v) st=(l,st')∧(RowI w' q l []∧we.heap.size<=q∧Sb n v.c l)∧Dx w0 B g A cp xs st' w'∧we.grownBy w' (some g)
 d5:p5->p4∧v5=v4
section
variable {w0 we w' w'':World} {B g cp:Nat} {A:Option Addr} {xs:List Int} {st:Nat × Int} {v:Vr} {n:Nat} {L:Nat->Prop} {vals:Nat->Value}
theorem DsF.skip (F:DsF w0 we B g A cp xs st v n (L 3) (L 4) (L 5) (vals 3) (vals 4) (vals 5) w') (k:Nat) (y:Value) (h:3≠k∧4≠k∧5≠k:=by decide):DsF w0 we B g A cp xs st v n (3=k∨L 3) (4=k∨L 4) (5=k∨L 5) (upd vals k y 3) (upd vals k y 4) (upd vals k y 5) w':=by
 rw [or_ne h.1,or_ne h.2.1,or_ne h.2.2,upd_ne h.1,upd_ne h.2.1,upd_ne h.2.2];exact F
theorem DsF.gr (F:DsF w0 we B g A cp xs st v n (L 3) (L 4) (L 5) (vals 3) (vals 4) (vals 5) w'):we.grownBy w' (some g)∧g<w'.heap.size:=by
 by_cases h:L 4
 ·obtain⟨q,l,a,f,e,d,c,b⟩:=F.d4 h;exact⟨b,c.lt⟩
 ·have:=F.d0 h;exact⟨this.2,this.1.lt⟩
end
theorem sb_zero {n:Nat} {m:Int} (hm:0<=m):Sb n m (List.replicate n 0):=⟨List.length_replicate ..,λ i=>by
 have h0:at_ (List.replicate n (0:Int)) i=0:=at_rep _ _;rw [h0];omega⟩
theorem row_rdf {W:World} {q:Nat} {l:List Int} {S:Nat->Prop} (h:RowI W q l []) (hS:S q) (hl:l.length<=1000):RdF W S 1 enI (some ⟨q,0,none⟩) l :=
 ⟨by unfold maxLen;omega,λ _=>⟨q,0,rfl,hS,RowB.lt h,λ i x hx j u hu=>by
  have hj:j=0:=by have:=(List.getElem?_eq_some_iff.1 hu).1;simp [enI] at this;exact this
  subst hj;have a:=(List.getElem?_eq_some_iff.1 hx).1;have:=RowI.at_ h a;rw [show at_ l i=x by unfold at_;rw [List.getD_eq_getElem?_getD,hx];rfl] at this;simp [enI] at hu;subst hu
  simpa using this⟩⟩
theorem Sb.set {n:Nat} {m:Int} {l:List Int} (h:Sb n m l) (i:Nat) (x:Int) (hx:0<=x∧x<=m) (hi:i<n):Sb n m (l.set i x):=by
 refine⟨by rw [List.length_set];exact h.1,λ j=>?_⟩;rw [at_set l i j x (by rw [h.1];exact hi)];have:=h.2 j;split <;> omega
def BEnd (n:Nat) (f:Bd->St->Prop) (w0 w:World) (B g:Nat) (A:Option Addr) (cp:Nat) (xs:List Int) (e:Ending) (w':World):Prop :=
 ∃(A1:Option Addr) (c1:Nat) (A2:Option Addr) (c2:Nat) (b:Bd) (st':St),e=.returned (.agg #[.slice A1 n c1,.slice A2 n c2])∧f b st'∧(Bo w' w.heap.size (.slice A1 n c1) (.slice A2 n c2) b∧Sb n 1000 b.1∧Sb n 1000 b.2)∧Dx w0 B g A cp xs st' w'∧w.grownBy w' (some g)
section
variable {w0 w:World} {B g cp:Nat} {A:Option Addr} {xs:List Int} {st:Nat × Int}
theorem bd02_x (v:Vr) (hok:okV v=true) (n:Nat) (hn:(n:Int)=v.p+1) (h:Dx w0 B g A cp xs st w) :
  Calls Tryz.prog 150 #[.pointer (some ⟨g,0,none⟩),.agg #[.int .i64 v.p,.int .i64 v.c,.int .i64 v.h,.int .i64 v.s]] w λ e w'=>BEnd n (λ b st'=>bd02 xs v st=(b,st')) w0 w B g A cp xs e w':=by
 have aX:=okV_iff.1 hok;have CE:=kD (λ(w9:World)=>empty_s v hok w9);have HN:=kD hn;have aR:n<=25∧3<=n:=by omega
 go_enter Tryz.func150,Tryz.ntmps150;go_upto_region 1 with fail;refine wp_gen (λ W'=>Rx w0 w B g A cp xs st [(0,25,vL v),(1,28,[.slice none 0 0,.slice none 0 0])] W') ⟨((h.alloc _).alloc _),grown_bel (by go_grown),λ p hp=>?_,h.lt⟩ ?_
 ·simp only [List.mem_cons,List.not_mem_nil,or_false] at hp;rcases hp with rfl | rfl
  ·exact(RowB.new _ _ _).alloc _
  ·exact RowB.new' _ _ _ (by simp)
 clear h;intro w1 K;go_wp2_with fail;refine(nextX K.D (4) (by decide)).mono ?_;rintro e aO ⟨t,aH,⟨rfl,bj,aP,-,aJ⟩,hD,hg,-⟩;have aP:=aP (by decide);have K:=K.next hD hg;clear hD hg;obtain⟨q0,j,H,q3⟩:=(K.nth0 0 rfl).c4;have an:=(K.nth0 0 rfl).lt;obtain⟨g4,bb⟩:∃ b,decide (4<=v.p)=b:=⟨_,rfl⟩;by_cases hc:t=0∧4<=v.p
 ·obtain⟨e0,h4⟩:=hc;subst e0;have ba:decide (4<=v.p)=true:=decide_eq_true h4;have ar:=(start_ok hok h4).1;have aF:(startL v).length=n:=by have:=ar.own.len;rw [show (startB v).1=startL v from rfl] at this;omega
  have af:=kD (show Sb n 1000 (startB v).1∧Sb n 1000 (startB v).2 from⟨⟨aF,λ i=>⟨ar.own.nn i,by have:=ar.own.top i;omega⟩⟩,⟨aF,λ i=>⟨ar.oth.nn i,by have:=ar.oth.top i;omega⟩⟩⟩);have ai:=kD (bd02_0 aJ h4);go_wp2_with fail;refine(start2_s v hok h4 n aF _).mono ?_;rintro e w3 ⟨A1,c1,A2,c2,rfl,R,hb⟩;have av:=K.gr.size;have bk:=(K.nth 1 rfl).lt;have K:=K.below hb;have aa:=kD (R.less (lo':=w.heap.size+2) (by omega));clear R hb q0 j H q3 an aF ar ba;go_upto_region 3 with fail;obtain⟨g5,aG⟩:∃ q,w3.heap.size=q:=⟨_,rfl⟩;refine wp_gen (λ W'=>Below w3.heap.size w3 W'∧RowB W' g5 28 [.slice A1 n c1,.slice A2 n c2]) ⟨(Below.refl _ _).alloc (Nat.le_refl _) _,by rw [<-aG];exact RowB.new _ _ _⟩ ?_
  try simp only [aG]
  rintro w4 ⟨hb,R5⟩;rw [<-aG] at hb;have K:=K.below hb;have aa:=kD (aa.out.below hb);clear hb aG;obtain⟨q0,j⟩:=R5.c2;have bl:=R5.lt;have rr:=K.nth 1 rfl;have P:=kD K;clear K;go_wp2_with (refine wM 28 0 [.slice A1 n c1,.slice A2 n c2] rr ?_;intro aD C f ab;refine Hid.out ?_);obtain⟨z0,z1⟩:=C.c2;have aq:=C.lt;have K:=kD (P.out.grown 1 C f);have R:=kD ((aa.out.low f (by omega)).less (lo':=w.heap.size) (by omega));clear P rr f ab;refine kD ?_
  repeat (first | go_values | go_skip | go_step | go_upon)
  refine bodyPost_ret (v:=.agg #[.slice A1 n c1,.slice A2 n c2]) (by simp [results,Tryz.results150,go_sem,z0,z1]) rfl ?_;exact⟨_,c1,_,c2,startB v,aH,rfl,ai.out,⟨R.out,af.out⟩,K.out.D,K.out.gr⟩
 ·have aj:=kD aJ;have HC:=kD hc;have a7:((t == 0)=false∧decide (t=0)=false)∨(t=0∧decide (4<=v.p)=false):=by
   by_cases h0:t=0
   ·exact .inr ⟨h0,decide_eq_false (λ h4=>hc ⟨h0,h4⟩)⟩
   ·exact .inl ⟨by simp [h0],by simp [h0]⟩
  clear hc bb;have ax:=kD (λ(w9:World) (s9:St) (tk:List Int) (aY:Sb n 1000 tk) (At:Option Addr) (ct:Nat) (ht:RdF w9 (λ b=>b≠g) 1 enI At tk) (h9:Dx w0 B g A cp xs s9 w9)=>sd02_x (w0:=w0) (B:=B) (A:=A) (cp:=cp) (xs:=xs) v hok n hn tk aY At ct ht h9);have HZ:Hid (zr v=List.replicate n 0):=kD (by unfold zr;rw [show v.p.toNat+1=n by omega]);have aU:Hid (Sb n 1000 (zr v)):=kD (by rw [HZ.out];exact sb_zero (by decide));have aV:Hid ((zr v).length<=1000):=kD (by rw [HZ.out,List.length_replicate];omega);have aw:=kD K.D;have T:=kD K;have aE:n<=1000∧v.c<=15∧3<=n:=by omega
  clear K aJ aX hn hok aR;rcases a7 with ⟨ht0,ht1⟩ | ⟨rfl,hp4⟩
  ·go_upto_region 4 with fail;clear q0 j H q3 an;refine region_rel [some 23,some 24,some 25,some 26,some 27,some 7] 6 (Pl [some (.pointer (some ⟨g,0,none⟩)),some (.agg #[.int .i64 v.p,.int .i64 v.c,.int .i64 v.h,.int .i64 v.s]),some (.agg #[.int .i64 v.p,.int .i64 v.c,.int .i64 v.h,.int .i64 v.s]),none,none,none]) (λ L d w'=>DsF w0 aO B g A cp xs aH v n (L 3) (L 4) (L 5) (d 3) (d 4) (d 5) w') (by kernel_rfl) (by kernel_rfl) (by kernel_rfl) (by kernel_rfl) (by kernel_rfl) (by kernel_rfl) (by first | kernel_rfl | rfl) ?g0_2 ?gst_2 ?gfin_2
   case g0_2=>exact⟨λ _=>⟨aw.out.below (Below.refl _ _).drew aw.out.lt,grown_bel (Below.refl _ _).drew⟩,λ h=>absurd h (by decide),λ h=>absurd h (by decide),λ h=>absurd h (by decide)⟩
   case gst_2 =>
    refine rN rfl (λ L d A w9 m O G U F K Z=>?_) ?_
    ·have e0:=U.w 0 (.pointer (some ⟨g,0,none⟩));have V:=(T.out.nth0 0 rfl).grown F.gr.1 (λ k hk=>by simp at hk;have:=T.out.lt;omega);obtain⟨q0,j,H,q3⟩:=V.c4;have aA:=V.lt;clear V;go_simp;exact pF Z (F.skip 0 _)
    refine rN rfl (λ L d A w9 m O G U F K Z=>?_) ?_
    ·have e3:=U.w 3 (.pointer (some ⟨w.heap.size,0,none⟩));have V:=(T.out.nth0 0 rfl).grown F.gr.1 (λ k hk=>by simp at hk;have:=T.out.lt;omega);obtain⟨q0,j,H,q3⟩:=V.c4;have aA:=V.lt;clear V;go_simp;exact pF Z (F.skip 1 _)
    refine rN rfl (λ L d A w9 m O G U F K Z=>?_) ?_
    ·have e3:=U.w 3 (.pointer (some ⟨w.heap.size,0,none⟩));have V:=(T.out.nth0 0 rfl).grown F.gr.1 (λ k hk=>by simp at hk;have:=T.out.lt;omega);obtain⟨q0,j,H,q3⟩:=V.c4;have aA:=V.lt;clear V;go_simp;exact pF Z (F.skip 2 _)
    refine rN rfl (λ L d A w9 m O G U F K Z=>?_) ?_
    ·have bf:=U.v 2 25;have D0:=F.d0 (λ h=>m (G 4 3 (by kernel_rfl) h));go_simp;refine(CE.out w9).mono ?_;rintro e Q ⟨⟨ge,n',a5,rfl,hq,J⟩,aB⟩;obtain rfl:n'=n:=by have:=HN.out;omega
     exact Z.out _ Q (Pl.any rfl) ⟨λ _=>⟨D0.1.below aB D0.1.lt,grownBy_trans D0.2 (grown_bel aB)⟩,λ _ _=>⟨ge,by rw [upd_same],J,Nat.le_trans D0.2.size hq⟩,λ h=>absurd (G 4 3 (by kernel_rfl) (rL h)) m,λ h=>absurd (G 5 3 (by kernel_rfl) (rL h)) m⟩
    refine rN rfl (λ L d A w9 m O G U F K Z=>?_) ?_
    ·have bh:=U.v 0 23;have bg:=U.v 1 24;have aC:=U.x 3 26;have D0:=F.d0 m;refine(F.e3 (bK O 3) m).elim λ ge q=>?_
     obtain⟨j,H,q3⟩:=q;have aT:=aC.trans j;have a8:=T.out.lt;have ac:=T.out.gr.size;have ay:=HZ.out;rw [<-ay] at H;clear aC ay;go_simp;refine(ax.out w9 _ (zr v) aU.out (some ⟨ge,0,none⟩) n (row_rdf H (by omega) aV.out) D0.1).mono ?_;rintro e Q ⟨q,l,st',rfl,aK,J,aN,aM⟩;exact Z.out _ Q (Pl.any rfl) ⟨λ h=>absurd (.inl rfl) h,λ _ h=>absurd (.inl rfl) h,λ _=>⟨q,l,st',by rw [upd_same],aK,⟨J.1,by have:=J.2.1;have:=D0.2.size;omega,J.2.2⟩,aN,grownBy_trans D0.2 aM⟩,λ h=>absurd (G 5 4 (by kernel_rfl) (rL h)) m⟩
    refine rN rfl (λ L d A w9 m O G U F K Z=>?_) ?_
    ·have be:=U.x 4 27;go_simp;exact Z.out _ w9 (Pl.any rfl) ⟨λ h=>F.d0 (λ h'=>h (.inr h')),λ h3 h4=>by rw [upd_ne (by decide)];exact F.e3 (rL h3) (λ h'=>h4 (.inr h')),λ h=>by rw [upd_ne (by decide)];exact F.d4 (rL h),λ _=>⟨.inr (bK O 4),by rw [upd_same,upd_ne (by decide)]⟩⟩
    exact RelFrom.nil (by decide)
   intro d wf hp F;simp only [Fr,Act.put,sX,Nat.reduceAdd];obtain⟨-,e5⟩:=F.d5 trivial;obtain⟨j,r,s1,e4,az,⟨a,a2,Y⟩,hD,hg⟩:=F.d4 trivial;rw [e5,e4];have K:=T.out.next hD hg;have ah:=kD az;have a0:=(T.out.nth 1 rfl).lt;have aS:=T.out.D.lt;have aL:=a.lt;have aZ:=hg.size;have E:r.length<=1000:=by rw [Y.1];exact aE.1
   have o:=kD Y;clear F hp T aw e5 e4 az hD hg;obtain⟨q0,y1,y2,y3⟩:=(K.nth0 0 rfl).c4;have an:=(K.nth0 0 rfl).lt;go_wp2_with fail;refine(ax.out _ s1 r (o.out.more (by omega)) (some ⟨j,0,none⟩) n (row_rdf a (by omega) E) K.D).mono ?_;rintro e Q ⟨H,I,s2,rfl,av,⟨y,a1,X⟩,hD,hg⟩;have K:=K.next hD hg;have a:=RowB.grown a hg (λ k hk=>by simp at hk;omega);have ag:=kD av;have N:I.length<=1000:=by rw [X.1];exact aE.1
   clear q0 y1 y2 y3 an av hD ax;have N1:∀ i,0<=at_ r i∧at_ r i<=1000:=λ i=>by have:=Y.2 i;omega
   have N2:∀ i,0<=at_ I i∧at_ I i<=1000:=λ i=>by have:=X.2 i;omega
   have S1:=sum_s (some ⟨j,0,none⟩) n Q.heap.size r Q (row_rdf (S:=λ _=>True) a trivial E).rd N1 E;have S2:=sum_s (some ⟨H,0,none⟩) n Q.heap.size I Q (row_rdf (S:=λ _=>True) y trivial N).rd N2 N;have b1:=sumU_bd N1 r.length;have b2:=sumU_bd N2 I.length;rw [sumU_all] at b1 b2;rw [Y.1] at S1;rw [X.1] at S2;obtain⟨z1,am⟩:∃ z,r.sum=z:=⟨_,rfl⟩;obtain⟨z2,al⟩:∃ z,I.sum=z:=⟨_,rfl⟩;rw [am] at S1 b1;rw [al] at S2 b2;have S1:=kD S1;have S2:=kD S2;have M:=kD X;have ae:=kD am;have ad:=kD al;have aW:IntKind.i64.wrap (z1+z2)=z1+z2:=IntWalk.i64_in _ (by omega);clear N1 N2 b1 b2 am al Y X E N;go_wp2_with fail;refine S1.out.mono ?_;rintro e w7 ⟨rfl,rfl⟩;go_wp2_with fail;refine S2.out.mono ?_;rintro e w7 ⟨rfl,rfl⟩;clear S1 S2;have a6:=y.lt;have aQ:=hg.size;have a3:j≠H:=by omega
   by_cases hz:z1+z2=0
   ·have ez:(z1+z2 == 0)=true:=by simp [hz]
    have ak:0<n:=by omega
    have a4:(0:Int)<(n:Int):=by omega
    have bd:Q.cell? ⟨j,0,none⟩=some (.int .i64 (at_ r 0)):=RowI.at_ a (by rw [o.out.1];exact ak);have bc:=RowB.frozen a;have aL:=a.lt;have ap:Hid (ow r I=r.set 0 1):=kD (by unfold ow;rw [ae.out,ad.out,if_pos hz]);have a:=RowI.put a (i:=0) (by rw [o.out.1];exact ak) 1;have ac:=Base.grownBy_setCell Q j 0 (.int .i64 1);have y:=RowB.grown y ac (λ k hk=>by simp at hk;omega);have a9:=K.lt;have K:=K.put (q:=j) (λ p hp=>by simp only [List.mem_cons,List.not_mem_nil,or_false] at hp;rcases hp with rfl | rfl <;> (simp only;omega)) (by omega) ac;have aa:Hid (Bo (Q.setCell ⟨j,0,none⟩ (.int .i64 1)) (w.heap.size+2) (.slice (some ⟨j,0,none⟩) n n) (.slice (some ⟨H,0,none⟩) n n) (r.set 0 1,I)):=kD ⟨by have h:=RowI.own a (show w.heap.size+2<=j by omega) (RowB.lt a) (show (r.set 0 1).length+([]:List Value).length=n by rw [List.length_set,o.out.1];rfl) (by unfold maxLen;omega);rw [List.length_set,o.out.1] at h;exact h,by have h:=RowI.own y (show w.heap.size+2<=H by omega) (RowB.lt y) (show I.length+([]:List Value).length=n by rw [M.out.1];rfl) (by unfold maxLen;omega);rw [M.out.1] at h;exact h,λ g' ao W=>by simp [Value.ownBlock] at ao W;omega⟩;have af:=kD (show Sb n 1000 (r.set 0 1)∧Sb n 1000 I from⟨Sb.set (Sb.more o.out (show v.c<=1000 by omega)) 0 1 (by decide) ak,Sb.more M.out (show v.c<=1000 by omega)⟩);have ai:Hid (bd02 xs v st=((r.set 0 1,I),s2)):=kD (by have h:=bd02_1 aj.out (λ h=>HC.out (by simpa using h)) ah.out ag.out;rw [ap.out] at h;exact h);have bi:=kD (show w.heap.size+1<j from by omega);clear a y ac ah ag ae ad o M aj HC;obtain⟨q0,aI⟩:=(K.nth 1 rfl).c2;have rr:=K.nth 1 rfl;have P:=kD K;clear K;go_wp2_with (refine wM 28 0 [.slice (some ⟨j,0,none⟩) n n,.slice (some ⟨H,0,none⟩) n n] rr ?_;intro aD C f ab;refine Hid.out ?_);obtain⟨z0,z1⟩:=C.c2;have aq:=C.lt;have K:=kD (P.out.grown 1 C f);have R:=kD ((aa.out.low f (by omega)).less (lo':=w.heap.size) (by omega));clear P rr f ab;refine kD ?_
    repeat (first | go_values | go_skip | go_step | go_upon)
    refine bodyPost_ret (v:=.agg #[.slice (some ⟨j,0,none⟩) n n,.slice (some ⟨H,0,none⟩) n n]) (by simp [results,Tryz.results150,go_sem,z0,z1]) rfl ?_;exact⟨_,n,_,n,(r.set 0 1,I),s2,rfl,ai.out,⟨R.out,af.out⟩,K.out.D,K.out.gr⟩
   ·have ez:(z1+z2 == 0)=false:=by simp [hz]
    have ap:Hid (ow r I=r):=kD (by unfold ow;rw [ae.out,ad.out,if_neg hz]);have aa:Hid (Bo Q (w.heap.size+2) (.slice (some ⟨j,0,none⟩) n n) (.slice (some ⟨H,0,none⟩) n n) (r,I)):=kD ⟨by have h:=RowI.own a (show w.heap.size+2<=j by omega) (RowB.lt a) (show r.length+([]:List Value).length=n by rw [o.out.1];rfl) (by unfold maxLen;omega);rw [o.out.1] at h;exact h,by have h:=RowI.own y (show w.heap.size+2<=H by omega) (RowB.lt y) (show I.length+([]:List Value).length=n by rw [M.out.1];rfl) (by unfold maxLen;omega);rw [M.out.1] at h;exact h,λ g' ao W=>by simp [Value.ownBlock] at ao W;omega⟩;have af:=kD (show Sb n 1000 r∧Sb n 1000 I from⟨Sb.more o.out (show v.c<=1000 by omega),Sb.more M.out (show v.c<=1000 by omega)⟩);have ai:Hid (bd02 xs v st=((r,I),s2)):=kD (by have h:=bd02_1 aj.out (λ h=>HC.out (by simpa using h)) ah.out ag.out;rw [ap.out] at h;exact h);clear a y ah ag ae ad o M aj HC hz;obtain⟨q0,aI⟩:=(K.nth 1 rfl).c2;have rr:=K.nth 1 rfl;have P:=kD K;clear K;go_wp2_with (refine wM 28 0 [.slice (some ⟨j,0,none⟩) n n,.slice (some ⟨H,0,none⟩) n n] rr ?_;intro aD C f ab;refine Hid.out ?_);obtain⟨z0,z1⟩:=C.c2;have aq:=C.lt;have K:=kD (P.out.grown 1 C f);have R:=kD ((aa.out.low f (by omega)).less (lo':=w.heap.size) (by omega));clear P rr f ab;refine kD ?_
    repeat (first | go_values | go_skip | go_step | go_upon)
    refine bodyPost_ret (v:=.agg #[.slice (some ⟨j,0,none⟩) n n,.slice (some ⟨H,0,none⟩) n n]) (by simp [results,Tryz.results150,go_sem,z0,z1]) rfl ?_;exact⟨_,n,_,n,(r,I),s2,rfl,ai.out,⟨R.out,af.out⟩,K.out.D,K.out.gr⟩
  ·go_upto_region 4 with fail;clear q0 j H q3 an;refine region_rel [some 23,some 24,some 25,some 26,some 27,some 7] 6 (Pl [some (.pointer (some ⟨g,0,none⟩)),some (.agg #[.int .i64 v.p,.int .i64 v.c,.int .i64 v.h,.int .i64 v.s]),some (.agg #[.int .i64 v.p,.int .i64 v.c,.int .i64 v.h,.int .i64 v.s]),none,none,none]) (λ L d w'=>DsF w0 aO B g A cp xs aH v n (L 3) (L 4) (L 5) (d 3) (d 4) (d 5) w') (by kernel_rfl) (by kernel_rfl) (by kernel_rfl) (by kernel_rfl) (by kernel_rfl) (by kernel_rfl) (by first | kernel_rfl | rfl) ?g0_3 ?gst_3 ?gfin_3
   case g0_3=>exact⟨λ _=>⟨aw.out.below (Below.refl _ _).drew aw.out.lt,grown_bel (Below.refl _ _).drew⟩,λ h=>absurd h (by decide),λ h=>absurd h (by decide),λ h=>absurd h (by decide)⟩
   case gst_3 =>
    refine rN rfl (λ L d A w9 m O G U F K Z=>?_) ?_
    ·have e0:=U.w 0 (.pointer (some ⟨g,0,none⟩));have V:=(T.out.nth0 0 rfl).grown F.gr.1 (λ k hk=>by simp at hk;have:=T.out.lt;omega);obtain⟨q0,j,H,q3⟩:=V.c4;have aA:=V.lt;clear V;go_simp;exact pF Z (F.skip 0 _)
    refine rN rfl (λ L d A w9 m O G U F K Z=>?_) ?_
    ·have e3:=U.w 3 (.pointer (some ⟨w.heap.size,0,none⟩));have V:=(T.out.nth0 0 rfl).grown F.gr.1 (λ k hk=>by simp at hk;have:=T.out.lt;omega);obtain⟨q0,j,H,q3⟩:=V.c4;have aA:=V.lt;clear V;go_simp;exact pF Z (F.skip 1 _)
    refine rN rfl (λ L d A w9 m O G U F K Z=>?_) ?_
    ·have e3:=U.w 3 (.pointer (some ⟨w.heap.size,0,none⟩));have V:=(T.out.nth0 0 rfl).grown F.gr.1 (λ k hk=>by simp at hk;have:=T.out.lt;omega);obtain⟨q0,j,H,q3⟩:=V.c4;have aA:=V.lt;clear V;go_simp;exact pF Z (F.skip 2 _)
    refine rN rfl (λ L d A w9 m O G U F K Z=>?_) ?_
    ·have bf:=U.v 2 25;have D0:=F.d0 (λ h=>m (G 4 3 (by kernel_rfl) h));go_simp;refine(CE.out w9).mono ?_;rintro e Q ⟨⟨ge,n',a5,rfl,hq,J⟩,aB⟩;obtain rfl:n'=n:=by have:=HN.out;omega
     exact Z.out _ Q (Pl.any rfl) ⟨λ _=>⟨D0.1.below aB D0.1.lt,grownBy_trans D0.2 (grown_bel aB)⟩,λ _ _=>⟨ge,by rw [upd_same],J,Nat.le_trans D0.2.size hq⟩,λ h=>absurd (G 4 3 (by kernel_rfl) (rL h)) m,λ h=>absurd (G 5 3 (by kernel_rfl) (rL h)) m⟩
    refine rN rfl (λ L d A w9 m O G U F K Z=>?_) ?_
    ·have bh:=U.v 0 23;have bg:=U.v 1 24;have aC:=U.x 3 26;have D0:=F.d0 m;refine(F.e3 (bK O 3) m).elim λ ge q=>?_
     obtain⟨j,H,q3⟩:=q;have aT:=aC.trans j;have a8:=T.out.lt;have ac:=T.out.gr.size;have ay:=HZ.out;rw [<-ay] at H;clear aC ay;go_simp;refine(ax.out w9 _ (zr v) aU.out (some ⟨ge,0,none⟩) n (row_rdf H (by omega) aV.out) D0.1).mono ?_;rintro e Q ⟨q,l,st',rfl,aK,J,aN,aM⟩;exact Z.out _ Q (Pl.any rfl) ⟨λ h=>absurd (.inl rfl) h,λ _ h=>absurd (.inl rfl) h,λ _=>⟨q,l,st',by rw [upd_same],aK,⟨J.1,by have:=J.2.1;have:=D0.2.size;omega,J.2.2⟩,aN,grownBy_trans D0.2 aM⟩,λ h=>absurd (G 5 4 (by kernel_rfl) (rL h)) m⟩
    refine rN rfl (λ L d A w9 m O G U F K Z=>?_) ?_
    ·have be:=U.x 4 27;go_simp;exact Z.out _ w9 (Pl.any rfl) ⟨λ h=>F.d0 (λ h'=>h (.inr h')),λ h3 h4=>by rw [upd_ne (by decide)];exact F.e3 (rL h3) (λ h'=>h4 (.inr h')),λ h=>by rw [upd_ne (by decide)];exact F.d4 (rL h),λ _=>⟨.inr (bK O 4),by rw [upd_same,upd_ne (by decide)]⟩⟩
    exact RelFrom.nil (by decide)
   intro d wf hp F;simp only [Fr,Act.put,sX,Nat.reduceAdd];obtain⟨-,e5⟩:=F.d5 trivial;obtain⟨j,r,s1,e4,az,⟨a,a2,Y⟩,hD,hg⟩:=F.d4 trivial;rw [e5,e4];have K:=T.out.next hD hg;have ah:=kD az;have a0:=(T.out.nth 1 rfl).lt;have aS:=T.out.D.lt;have aL:=a.lt;have aZ:=hg.size;have E:r.length<=1000:=by rw [Y.1];exact aE.1
   have o:=kD Y;clear F hp T aw e5 e4 az hD hg;obtain⟨q0,y1,y2,y3⟩:=(K.nth0 0 rfl).c4;have an:=(K.nth0 0 rfl).lt;go_wp2_with fail;refine(ax.out _ s1 r (o.out.more (by omega)) (some ⟨j,0,none⟩) n (row_rdf a (by omega) E) K.D).mono ?_;rintro e Q ⟨H,I,s2,rfl,av,⟨y,a1,X⟩,hD,hg⟩;have K:=K.next hD hg;have a:=RowB.grown a hg (λ k hk=>by simp at hk;omega);have ag:=kD av;have N:I.length<=1000:=by rw [X.1];exact aE.1
   clear q0 y1 y2 y3 an av hD ax;have N1:∀ i,0<=at_ r i∧at_ r i<=1000:=λ i=>by have:=Y.2 i;omega
   have N2:∀ i,0<=at_ I i∧at_ I i<=1000:=λ i=>by have:=X.2 i;omega
   have S1:=sum_s (some ⟨j,0,none⟩) n Q.heap.size r Q (row_rdf (S:=λ _=>True) a trivial E).rd N1 E;have S2:=sum_s (some ⟨H,0,none⟩) n Q.heap.size I Q (row_rdf (S:=λ _=>True) y trivial N).rd N2 N;have b1:=sumU_bd N1 r.length;have b2:=sumU_bd N2 I.length;rw [sumU_all] at b1 b2;rw [Y.1] at S1;rw [X.1] at S2;obtain⟨z1,am⟩:∃ z,r.sum=z:=⟨_,rfl⟩;obtain⟨z2,al⟩:∃ z,I.sum=z:=⟨_,rfl⟩;rw [am] at S1 b1;rw [al] at S2 b2;have S1:=kD S1;have S2:=kD S2;have M:=kD X;have ae:=kD am;have ad:=kD al;have aW:IntKind.i64.wrap (z1+z2)=z1+z2:=IntWalk.i64_in _ (by omega);clear N1 N2 b1 b2 am al Y X E N;go_wp2_with fail;refine S1.out.mono ?_;rintro e w7 ⟨rfl,rfl⟩;go_wp2_with fail;refine S2.out.mono ?_;rintro e w7 ⟨rfl,rfl⟩;clear S1 S2;have a6:=y.lt;have aQ:=hg.size;have a3:j≠H:=by omega
   by_cases hz:z1+z2=0
   ·have ez:(z1+z2 == 0)=true:=by simp [hz]
    have ak:0<n:=by omega
    have a4:(0:Int)<(n:Int):=by omega
    have bd:Q.cell? ⟨j,0,none⟩=some (.int .i64 (at_ r 0)):=RowI.at_ a (by rw [o.out.1];exact ak);have bc:=RowB.frozen a;have aL:=a.lt;have ap:Hid (ow r I=r.set 0 1):=kD (by unfold ow;rw [ae.out,ad.out,if_pos hz]);have a:=RowI.put a (i:=0) (by rw [o.out.1];exact ak) 1;have ac:=Base.grownBy_setCell Q j 0 (.int .i64 1);have y:=RowB.grown y ac (λ k hk=>by simp at hk;omega);have a9:=K.lt;have K:=K.put (q:=j) (λ p hp=>by simp only [List.mem_cons,List.not_mem_nil,or_false] at hp;rcases hp with rfl | rfl <;> (simp only;omega)) (by omega) ac;have aa:Hid (Bo (Q.setCell ⟨j,0,none⟩ (.int .i64 1)) (w.heap.size+2) (.slice (some ⟨j,0,none⟩) n n) (.slice (some ⟨H,0,none⟩) n n) (r.set 0 1,I)):=kD ⟨by have h:=RowI.own a (show w.heap.size+2<=j by omega) (RowB.lt a) (show (r.set 0 1).length+([]:List Value).length=n by rw [List.length_set,o.out.1];rfl) (by unfold maxLen;omega);rw [List.length_set,o.out.1] at h;exact h,by have h:=RowI.own y (show w.heap.size+2<=H by omega) (RowB.lt y) (show I.length+([]:List Value).length=n by rw [M.out.1];rfl) (by unfold maxLen;omega);rw [M.out.1] at h;exact h,λ g' ao W=>by simp [Value.ownBlock] at ao W;omega⟩;have af:=kD (show Sb n 1000 (r.set 0 1)∧Sb n 1000 I from⟨Sb.set (Sb.more o.out (show v.c<=1000 by omega)) 0 1 (by decide) ak,Sb.more M.out (show v.c<=1000 by omega)⟩);have ai:Hid (bd02 xs v st=((r.set 0 1,I),s2)):=kD (by have h:=bd02_1 aj.out (λ h=>HC.out (by simpa using h)) ah.out ag.out;rw [ap.out] at h;exact h);have bi:=kD (show w.heap.size+1<j from by omega);clear a y ac ah ag ae ad o M aj HC;obtain⟨q0,aI⟩:=(K.nth 1 rfl).c2;have rr:=K.nth 1 rfl;have P:=kD K;clear K;go_wp2_with (refine wM 28 0 [.slice (some ⟨j,0,none⟩) n n,.slice (some ⟨H,0,none⟩) n n] rr ?_;intro aD C f ab;refine Hid.out ?_);obtain⟨z0,z1⟩:=C.c2;have aq:=C.lt;have K:=kD (P.out.grown 1 C f);have R:=kD ((aa.out.low f (by omega)).less (lo':=w.heap.size) (by omega));clear P rr f ab;refine kD ?_
    repeat (first | go_values | go_skip | go_step | go_upon)
    refine bodyPost_ret (v:=.agg #[.slice (some ⟨j,0,none⟩) n n,.slice (some ⟨H,0,none⟩) n n]) (by simp [results,Tryz.results150,go_sem,z0,z1]) rfl ?_;exact⟨_,n,_,n,(r.set 0 1,I),s2,rfl,ai.out,⟨R.out,af.out⟩,K.out.D,K.out.gr⟩
   ·have ez:(z1+z2 == 0)=false:=by simp [hz]
    have ap:Hid (ow r I=r):=kD (by unfold ow;rw [ae.out,ad.out,if_neg hz]);have aa:Hid (Bo Q (w.heap.size+2) (.slice (some ⟨j,0,none⟩) n n) (.slice (some ⟨H,0,none⟩) n n) (r,I)):=kD ⟨by have h:=RowI.own a (show w.heap.size+2<=j by omega) (RowB.lt a) (show r.length+([]:List Value).length=n by rw [o.out.1];rfl) (by unfold maxLen;omega);rw [o.out.1] at h;exact h,by have h:=RowI.own y (show w.heap.size+2<=H by omega) (RowB.lt y) (show I.length+([]:List Value).length=n by rw [M.out.1];rfl) (by unfold maxLen;omega);rw [M.out.1] at h;exact h,λ g' ao W=>by simp [Value.ownBlock] at ao W;omega⟩;have af:=kD (show Sb n 1000 r∧Sb n 1000 I from⟨Sb.more o.out (show v.c<=1000 by omega),Sb.more M.out (show v.c<=1000 by omega)⟩);have ai:Hid (bd02 xs v st=((r,I),s2)):=kD (by have h:=bd02_1 aj.out (λ h=>HC.out (by simpa using h)) ah.out ag.out;rw [ap.out] at h;exact h);clear a y ah ag ae ad o M aj HC hz;obtain⟨q0,aI⟩:=(K.nth 1 rfl).c2;have rr:=K.nth 1 rfl;have P:=kD K;clear K;go_wp2_with (refine wM 28 0 [.slice (some ⟨j,0,none⟩) n n,.slice (some ⟨H,0,none⟩) n n] rr ?_;intro aD C f ab;refine Hid.out ?_);obtain⟨z0,z1⟩:=C.c2;have aq:=C.lt;have K:=kD (P.out.grown 1 C f);have R:=kD ((aa.out.low f (by omega)).less (lo':=w.heap.size) (by omega));clear P rr f ab;refine kD ?_
    repeat (first | go_values | go_skip | go_step | go_upon)
    refine bodyPost_ret (v:=.agg #[.slice (some ⟨j,0,none⟩) n n,.slice (some ⟨H,0,none⟩) n n]) (by simp [results,Tryz.results150,go_sem,z0,z1]) rfl ?_;exact⟨_,n,_,n,(r,I),s2,rfl,ai.out,⟨R.out,af.out⟩,K.out.D,K.out.gr⟩
end
end HdB
end Go.Proofs.YtmncnhbjifeoeaaGreat
