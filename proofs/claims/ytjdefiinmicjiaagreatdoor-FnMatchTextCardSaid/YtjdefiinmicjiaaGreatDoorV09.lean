/- Parts of a proof. Conditions: each theorem's own. -/
import Derived.Test.YtjdefiinmicjiaaGreatDoorV08
set_option linter.unusedVariables false
set_option linter.unusedSimpArgs false
set_option maxHeartbeats 8000000
set_option maxRecDepth 100000
namespace Go.Proofs.YtjdefiinmicjiaaGreatDoor
open _root_.Go.Proofs.Tryz
namespace Bd3I
open Go.ChangeShapes Go.WideShapes Go.ChangeAt Go.RowKit Base Ints Own Clone RelG PlP Bd1 Bd2 RegInv RegF
theorem apart_no {v:Vr} {b:Bd} {n k:Nat} (hk:k<n) (h:0<at_ b.1 k∧0<at_ b.2 (v.p.toNat - 1 - k)):apart v b n=false:=by
 cases hc:apart v b n with
 | false=>rfl
 | true=>exact absurd h ((apart_iff n).1 hc k hk)
theorem apart_step {v:Vr} {b:Bd} {k:Nat} (h:apart v b k=true) (hn:¬ (0<at_ b.1 k∧0<at_ b.2 (v.p.toNat - 1 - k))):apart v b (k+1)=true:=by
 refine(apart_iff (k+1)).2 λ i a=>?_
 by_cases e:i=k
 ·subst e;exact hn
 ·exact(apart_iff k).1 h i (by omega)
theorem okB_eq (v:Vr) (b:Bd):okB v b=(okV v && okS v b.1 && okS v b.2 && !(decide (b.1.sum=0) && decide (b.2.sum=0)) && apart v b v.p.toNat):=rfl
theorem isB_i (v:Vr) (b:Bd) (Ao At:Option Addr) (co ct B:Nat) (w:World) (hB:B<=w.heap.size) (ho:RdS w B 1 enI Ao b.1) (ht:RdS w B 1 enI At b.2) (x:Bool) (hx:okB v b=x) :
  Calls prog 165 #[vA v,.agg #[.slice Ao b.1.length co,.slice At b.2.length ct]] w λ e w'=>e=.returned (.bool x)∧Below w.heap.size w w':=by
 rw [okB_eq] at hx;obtain⟨a,ha⟩:=eX (okV v);obtain⟨s1,N⟩:=eX (okS v b.1);obtain⟨s2,M⟩:=eX (okS v b.2);rw [ha,N,M] at hx;have S:=kD hx;have HA:=kD ha;have H1:=kD N;have H2:=kD M;have HO:=kD ho;have HT:=kD ht;have CV:=kD (λ w=>var_i v a ha w);clear hx ha N M ho ht;go_enter func165,ntmps165;go_upto_region 1 with fail;refine wp_gen (λ W'=>Below w.heap.size w W'∧RowB W' w.heap.size 25 (vL v)∧RowB W' (w.heap.size+1) 51 [.slice Ao b.1.length co,.slice At b.2.length ct]) ⟨by go_grown,(nW).alloc _,nX⟩ ?_;rintro w1 ⟨O,d,f⟩;obtain⟨G,F,E,D⟩:=d.c4;obtain⟨C,A⟩:=f.c2;have q:=d.lt;have o:=f.lt;go_wp2_with fail;refine(CV.out _).mono ?_;rintro e w2 ⟨rfl,n⟩;have d:=d.below n d.lt;have f:=f.below n f.lt;have n:=O.tR n;clear G F E D C A q o O;obtain⟨G,F,E,D⟩:=d.c4;obtain⟨C,A⟩:=f.c2;have q:=d.lt;have o:=f.lt
 cases a
 case false =>
  obtain rfl:x=false:=by rw [<-S.out];rfl
  go_wp2_with fail;go_ret;exact⟨rfl,n⟩
 have ac:=okV_iff.1 HA.out;go_wp2_with fail;refine(side_i v HA.out Ao co B b.1 s1 H1.out w2 (Nat.le_trans hB n.size) (HO.out.below n hB)).mono ?_;rintro e w3 ⟨rfl,m⟩;have d:=d.below m d.lt;have f:=f.below m f.lt;have m:=n.tR m;clear G F E D C A q o n;obtain⟨G,F,E,D⟩:=d.c4;obtain⟨C,A⟩:=f.c2;have q:=d.lt;have o:=f.lt
 cases s1
 case false =>
  obtain rfl:x=false:=by rw [<-S.out];rfl
  go_wp2_with fail;go_ret;exact⟨rfl,m⟩
 have d1:=okS_iff.1 H1.out;go_wp2_with fail;refine(side_i v HA.out At ct B b.2 s2 H2.out w3 (Nat.le_trans hB m.size) (HT.out.below m hB)).mono ?_;rintro e w4 ⟨rfl,l⟩;have d:=d.below l d.lt;have f:=f.below l f.lt;have l:=m.tR l;clear G F E D C A q o m;obtain⟨G,F,E,D⟩:=d.c4;obtain⟨C,A⟩:=f.c2;have q:=d.lt;have o:=f.lt
 cases s2
 case false =>
  obtain rfl:x=false:=by rw [<-S.out];rfl
  go_wp2_with fail;go_ret;exact⟨rfl,l⟩
 have Z:=okS_iff.1 H2.out;have D1:=kD d1;have D2:=kD Z;have N1:=d1.len;have N2:=Z.len;have S1:=kD (λ w (h:RdS w B 1 enI Ao b.1)=>sum_i Ao co B b.1 w h (λ i=>⟨d1.nn i,by have:=d1.top i;omega⟩) (by omega));have S2:=kD (λ w (h:RdS w B 1 enI At b.2)=>sum_i At ct B b.2 w h (λ i=>⟨Z.nn i,by have:=Z.top i;omega⟩) (by omega));clear d1 Z;go_wp2_with fail;refine(S1.out _ (HO.out.below l hB)).mono ?_;rintro e w5 ⟨rfl,rfl⟩;have t:Hid (¬ (b.1.sum=0∧b.2.sum=0)->apart v b v.p.toNat=x):=kD (λ h=>by
  rw [<-S.out];have:(decide (b.1.sum=0) && decide (b.2.sum=0))=false:=by
   cases e:(decide (b.1.sum=0) && decide (b.2.sum=0)) with
   | false=>rfl
   | true=>exact absurd (by simpa using e) h
  rw [this];rfl)
 obtain⟨z1,I⟩:=eX (b.1.sum);obtain⟨W,H⟩:=eX (b.2.sum);have R:=kD S2.out;rw [I] at t S ⊢;rw [H] at t S R;clear S2 S1;by_cases hzz:z1=0∧W=0
 case pos =>
  obtain rfl:x=false:=by rw [<-S.out];simp [hzz]
  obtain⟨rfl,rfl⟩:=hzz;clear I H;go_wp2_with fail;refine(R.out _ (HT.out.below l hB)).mono ?_;rintro e w5 ⟨rfl,rfl⟩;go_wp2_with fail;go_ret;exact⟨rfl,l⟩
 have J:=kD (t.out hzz);clear t;have ad:0<=v.p:=by omega
 have go:∀(K:World->Prop),K w4->True:=λ _ _=>trivial
 clear go;have e5:(W == 0)=decide (W=0):=by first | rfl | simp
 by_cases hz10:z1=0
 ·have L:¬ W=0:=λ h=>hzz ⟨hz10,h⟩
  have P:(z1 == 0)=true:=by simp [hz10]
  have V:(W == 0)=false:=by simp [L]
  clear hzz hz10 L I H e5;go_wp2_with fail;refine(R.out _ (HT.out.below l hB)).mono ?_;rintro e w5 ⟨rfl,rfl⟩;go_wp2_with fail;go_loopw [37] (λ i wr=>∃(k:Nat),(k:Int)<=v.p∧i=iL (k:Int)∧Hid (Below w.heap.size w wr)∧RowB wr w.heap.size 25 (vL v)∧RowB wr (w.heap.size+1) 51 [.slice Ao b.1.length co,.slice At b.2.length ct]∧Hid (apart v b k=true)) (λ i _=>v.p.toNat - (intOf i).toNat)
  case atStart=>exact⟨0,by omega,by first | rfl | trivial,kD l,d,f,rfl⟩
  case round =>
   obtain⟨k,hk,rfl,y,d,f,r⟩:=hrel;clear G F E D C A q o;obtain⟨G,F,E,D⟩:=d.c4;obtain⟨C,A⟩:=f.c2;by_cases hlt:(k:Int)<v.p
   ·obtain⟨b1,o1,rfl,Y,ab⟩:=at_rd (HO.out.below y.out hB) (i:=k) (by omega);have Q:(v.p - 1 - (k:Int)).toNat=v.p.toNat - 1 - k:=by omega
    obtain⟨j,hj⟩:∃ j:Nat,v.p - 1 - (k:Int)=(j:Int):=⟨(v.p - 1 - (k:Int)).toNat,by omega⟩;have g:v.p.toNat - 1 - k=j:=by omega
    obtain⟨b2,o2,rfl,X,aa⟩:=at_rd (HT.out.below y.out hB) (i:=j) (by omega);have e1:=iW ((v.p - 1));have e2:IntKind.i64.wrap (v.p - 1 - (k:Int))=(j:Int):=by rw [hj];exact IntWalk.i64_in _ (by omega)
    by_cases P:0<at_ b.1 k
    ·by_cases V:0<at_ b.2 j
     ·obtain rfl:x=false:=by rw [<-J.out];exact apart_no (k:=k) (by omega) ⟨P,by rw [g];exact V⟩
      clear Q g;go_wp2_with fail;go_ret;exact⟨rfl,y.out⟩
     ·have T:Hid (apart v b (k+1)=true):=kD (apart_step r.out (λ h=>V (by rw [<-g];exact h.2)));clear Q g;go_wp2_with fail;go_roundw
      case rel=>exact⟨k+1,by omega,by go_num,y,d,f,T⟩
      case measure=>simp [intOf];omega
    ·have T:Hid (apart v b (k+1)=true):=kD (apart_step r.out (λ h=>P h.1));clear Q g;go_wp2_with fail;go_roundw
     case rel=>exact⟨k+1,by omega,by go_num,y,d,f,T⟩
     case measure=>simp [intOf];omega
   ·obtain rfl:x=true:=by rw [<-J.out,<-r.out];congr 1;omega
    go_wp2_with fail;go_ret;exact⟨rfl,y.out⟩
 ·have P:(z1 == 0)=false:=by simp [hz10]
  clear hzz hz10 I H e5;go_wp2_with fail;go_loopw [37] (λ i wr=>∃(k:Nat),(k:Int)<=v.p∧i=iL (k:Int)∧Hid (Below w.heap.size w wr)∧RowB wr w.heap.size 25 (vL v)∧RowB wr (w.heap.size+1) 51 [.slice Ao b.1.length co,.slice At b.2.length ct]∧Hid (apart v b k=true)) (λ i _=>v.p.toNat - (intOf i).toNat)
  case atStart=>exact⟨0,by omega,by first | rfl | trivial,kD l,d,f,rfl⟩
  case round =>
   obtain⟨k,hk,rfl,y,d,f,r⟩:=hrel;clear G F E D C A q o;obtain⟨G,F,E,D⟩:=d.c4;obtain⟨C,A⟩:=f.c2;by_cases hlt:(k:Int)<v.p
   ·obtain⟨b1,o1,rfl,Y,ab⟩:=at_rd (HO.out.below y.out hB) (i:=k) (by omega);have Q:(v.p - 1 - (k:Int)).toNat=v.p.toNat - 1 - k:=by omega
    obtain⟨j,hj⟩:∃ j:Nat,v.p - 1 - (k:Int)=(j:Int):=⟨(v.p - 1 - (k:Int)).toNat,by omega⟩;have g:v.p.toNat - 1 - k=j:=by omega
    obtain⟨b2,o2,rfl,X,aa⟩:=at_rd (HT.out.below y.out hB) (i:=j) (by omega);have e1:=iW ((v.p - 1));have e2:IntKind.i64.wrap (v.p - 1 - (k:Int))=(j:Int):=by rw [hj];exact IntWalk.i64_in _ (by omega)
    by_cases P:0<at_ b.1 k
    ·by_cases V:0<at_ b.2 j
     ·obtain rfl:x=false:=by rw [<-J.out];exact apart_no (k:=k) (by omega) ⟨P,by rw [g];exact V⟩
      clear Q g;go_wp2_with fail;go_ret;exact⟨rfl,y.out⟩
     ·have T:Hid (apart v b (k+1)=true):=kD (apart_step r.out (λ h=>V (by rw [<-g];exact h.2)));clear Q g;go_wp2_with fail;go_roundw
      case rel=>exact⟨k+1,by omega,by go_num,y,d,f,T⟩
      case measure=>simp [intOf];omega
    ·have T:Hid (apart v b (k+1)=true):=kD (apart_step r.out (λ h=>P h.1));clear Q g;go_wp2_with fail;go_roundw
     case rel=>exact⟨k+1,by omega,by go_num,y,d,f,T⟩
     case measure=>simp [intOf];omega
   ·obtain rfl:x=true:=by rw [<-J.out,<-r.out];congr 1;omega
    go_wp2_with fail;go_ret;exact⟨rfl,y.out⟩
end Bd3I
namespace Gm
open Go Go.ChangeShapes Go.WideShapes Go.ChangeAt Go.RowKit Base Ints Own Clone RelG PlP Bd1 Bd2 Bd5 Bd6 Bd7 Bd8 RegInv RegF RegG
theorem newg_i (v:Vr) (hv:okV v=true) (h4:4<=v.p) (w:World):Calls prog 70 #[vA v] w λ e w'=>Ret RelGI (some (newG v)) (λ _=>False) w e w':=by
 have CV:=kD (λ E=>var_i v true hv E);have CS:=kD (λ E=>start_i v hv h4 E);clear hv h4;go_enter func70,ntmps70;go_upto_region 1 with fail;refine wp_gen (λ l=>Below w.heap.size w l∧RowB l w.heap.size 25 (vL v)∧RowB l (w.heap.size+1) 55 gM) ⟨by go_grown,(nW).alloc _,nX⟩ ?_;rintro w1 ⟨a,z,f⟩;obtain⟨J,I,H,G⟩:=z.c4;go_wp2_with fail;refine(CV.out _).mono ?_;rintro e w2 ⟨rfl,k⟩;have a:=a.tR k;have z:=z.below k z.lt;have f:=f.below k f.lt;clear J I H G k;obtain⟨J,I,H,G⟩:=z.c4;go_wp2_with fail;refine(CS.out _).mono ?_;rintro e O ⟨v6,rfl,⟨u3,u4,b3,rfl,j,i⟩,q⟩;obtain rfl:=i _ rfl;have aa:w.heap.size+2<=w2.heap.size:=f.lt;have a:=a.tR q;have f:=f.below q f.lt;obtain⟨⟨y,t,rfl,Q,k5⟩,⟨x,r,rfl,P,k6⟩⟩:=j;have j:BdR O (λ b=>w.heap.size+2<=b) (.slice y (startB v).1.length t) (.slice x (startB v).2.length r) (startB v):=⟨⟨y,t,rfl,Q.weak (λ b C _=>C.elim False.elim (λ h=>by omega)),k5⟩,⟨x,r,rfl,P.weak (λ b C _=>C.elim False.elim (λ h=>by omega)),k6⟩⟩;have d:=kD j;obtain⟨B,o⟩:=eX ((startB v).1.length);obtain⟨A,m⟩:=eX ((startB v).2.length);rw [o,m] at d;rw [o,m];clear J I H G z j Q P o m q i;go_upto_region 4 with fail;refine wp_gen (λ l=>Below w.heap.size w l∧RowB l (w.heap.size+1) 55 gM∧RowB l O.heap.size 51 [.slice y B t,.slice x A r]∧Hid (BdR l (λ b=>w.heap.size+2<=b) (.slice y B t) (.slice x A r) (startB v))) ⟨a.alloc a.size _,f.alloc _,nW,kD (d.out.keep (.below ((zRf).alloc lR _)))⟩ ?_;clear a f d;rintro w4 ⟨a,f,F,d⟩;obtain⟨x0,x1⟩:=F.c2;have K:=F.lt;go_wp2_with (refine wpL_sm 55 _ _ rfl (w.heap.size+1) 0 (gmC (.slice y B t) (.slice x A r) (newG v)) (gmC (.slice none 0 0) (.slice none 0 0) nulG) (gmC (.slice y B t) (.slice x A r) (newG v)) rfl rfl 55 f (by kernel_rfl) lR rfl rfl ?_;intro w7 s7 N z7);have M:Below w.heap.size w w7:=a.grown N a.size (λ g L=>by simp at L;omega);have d:=kD (d.out.keep (Still.grown N (λ g L hs=>by simp at L;omega)));obtain⟨Z,Y,X,W,V,T,S,D,R⟩:=row9 s7;clear a f F x0 x1 K N;go_wp2_with fail;refine bodyPost_ret (v:=.tuple #[.agg ⟨gmC (.slice y B t) (.slice x A r) (newG v)⟩,iL 0]) (by simp [results,results70,go_sem,gmC,newG,Z,Y,X,W,V,T,S,D,R]) rfl ?_;exact⟨_,rfl,⟨_,_,_,0,rfl,d.out.weak (λ b C _=>.inr (by omega)),(λ g0 h=>⟨by simpa using h,rfl⟩),(λ h=>by cases h)⟩,M⟩
theorem gm_zero {v:Vr} {g:Gm} (h:gmB v g=true) (h0:g.ph=0):g=newG v:=by
 obtain⟨b,n,x,y,o,k,m,l⟩:=g;simp only at h0;subst h0;unfold gmB at h;simp at h;obtain⟨⟨-,c,a⟩,j,i,f,e,d⟩:=h;subst j i f e d c a
 rfl
theorem gm_rest {v:Vr} {g:Gm} (h:gmB v g=true):(g.ph=2->rollB v g.x g.y=true)∧(¬ g.ph=2->g.x=0∧g.y=0)∧(g.ph=0∨g.ph=1∨g.ph=2∨g.ph=3)∧(g.ph=3->(over g.b=true->g.b.1.sum=0∧g.wn=g.pl∧g.rs=resP v g.b)∧(over g.b=false->g.wn=1 - g.pl∧1<=g.rs∧g.rs<=3)):=by
 unfold gmB at h;simp only [Bool.and_eq_true,decide_eq_true_eq] at h;obtain⟨⟨⟨⟨⟨n,m⟩,l⟩,k⟩,i⟩,e⟩:=h;refine⟨λ f=>by rw [if_pos f] at i;exact i,λ f=>by rw [if_neg f] at i;exact of_decide_eq_true i,?_,λ f=>?_⟩
 ·by_cases a:g.ph=0
  ·exact .inl a
  ·rw [if_neg a] at e;by_cases c:g.ph=1∨g.ph=2
   ·rcases c with c | c
    ·exact .inr (.inl c)
    ·exact .inr (.inr (.inl c))
   ·rw [if_neg c] at e;by_cases d:g.ph=3
    ·exact .inr (.inr (.inr d))
    ·rw [if_neg d] at e;cases e
 ·rw [if_neg (by omega),if_neg (by omega),if_pos f] at e;refine⟨λ j=>by rw [if_pos j] at e;exact of_decide_eq_true e,λ j=>?_⟩;rw [if_neg (by rw [j];decide)] at e;exact of_decide_eq_true e
structure Gb (w wr:World) (v:Vr) (u1 u2:Value) (g:Gm):Prop where
 bel:Below w.heap.size w wr
 rv:RowB wr w.heap.size 25 (vL v)
 rg:RowB wr (w.heap.size+1) 55 [u1,u2,iL g.pl,iL g.x,iL g.y,iL g.ph,iL g.wn,iL g.rs,iL g.tn]
theorem Gb.below {w wr w':World} {v:Vr} {u1 u2:Value} {g:Gm} (k:Gb w wr v u1 u2 g) (hb:zB wr w'):Gb w w' v u1 u2 g :=
 ⟨k.bel.tR hb,k.rv.below hb k.rv.lt,k.rg.below hb k.rg.lt⟩
structure NwF (w1:World) (v:Vr) (p22 p23:Prop) (v22 v23:Value) (w':World):Prop where
 bel:Below w1.heap.size w1 w'
 f22:p22->RelGV.R w' All v22 (newG v)
 f23:p23->RelBV.R w' All v23 (startB v)
section
variable {w1 w' w'':World} {v:Vr} {p22 p23:Prop} {v22 v23:Value}
theorem NwF.below (F:NwF w1 v p22 p23 v22 v23 w') (hb:zB w' w''):NwF w1 v p22 p23 v22 v23 w'' :=
 ⟨F.bel.tR hb,λ h=>RelGV.keep (F.f22 h) (.below hb),λ h=>RelBV.keep (F.f23 h) (.below hb)⟩
theorem NwF.skip {L:Nat->Prop} {vals:Nat->Value} (F:NwF w1 v (L 22) (L 23) (vals 22) (vals 23) w') (k:Nat) (z:Value) (h1:22≠k:=by decide) (h2:23≠k:=by decide):NwF w1 v (22=k∨L 22) (23=k∨L 23) (upd vals k z 22) (upd vals k z 23) w':=by
 rw [or_ne h1,or_ne h2,upd_ne h1,upd_ne h2];exact F
theorem NwF.s22 (F:NwF w1 v p22 p23 v22 v23 w') (hb:zB w' w'') {z:Value} (h:RelGV.R w'' All z (newG v)):NwF w1 v True p23 z v23 w'' :=
 ⟨F.bel.tR hb,λ _=>h,λ h=>RelBV.keep (F.f23 h) (.below hb)⟩
theorem NwF.s23 (F:NwF w1 v p22 p23 v22 v23 w') {z:Value} (h:RelBV.R w' All z (startB v)):NwF w1 v p22 True v22 z w' :=
 ⟨F.bel,F.f22,λ _=>h⟩
end
theorem isg_s (v:Vr) (g:Gm) (hg:gmB v g=true) (S:Nat->Prop) (u1 u2:Value) (w:World) (hR:BdR w S u1 u2 g.b) :
  Calls prog 136 #[vA v,.agg ⟨gmC u1 u2 g⟩] w λ e w'=>e=.returned (.bool true)∧Below w.heap.size w w':=by
 have Y:=gm_parts hg;have hq:=gm_rest hg;have T:=Y.1;have af:okV v=true:=okV_iff.2 T.v1;have aN:=kD (gm_zero hg);have aG:=kD hR;obtain⟨⟨A1,c1,rfl,r1,k1⟩,⟨A2,c2,rfl,r2,k2⟩⟩:=hR;obtain⟨o,ho⟩:=eX (over g.b);have CV:=kD (λ m=>var_s v true af m);have CB:=kD (λ(m:World) (Z:zB w m)=>Bd3.isB_s v g.b A1 A2 c1 c2 m.heap.size m lR (r1.keep (.below Z)).rd (r2.keep (.below Z)).rd true (okB_iff.2 T));have CP:=kD (λ m=>in_s g.pl 0 1 true (decide_eq_true Y.2.2.1) m);have CT:=kD (λ m=>in_s g.tn 0 2000 true (decide_eq_true Y.2.2.2.1) m);have ai:=kD (λ(m:World) (Z:zB w m)=>over_s v g.b T A1 A2 c1 c2 m.heap.size m lR (r1.keep (.below Z)).rd (r2.keep (.below Z)).rd o ho);have ar:=kD (λ(hr:rollB v g.x g.y=true) m=>TsI.isroll_ws v af g.x g.y true hr m);have aP:=kD (λ m=>new_s v af Y.2.1 m);have aq:=kD (λ(m:World) (Z:zB w m)=>sum_s A1 c1 m.heap.size g.b.1 m (r1.keep (.below Z)).rd (λ i=>⟨T.own.nn i,by have:=T.own.top i;have:=T.v1;omega⟩) (by have:=T.own.len;have:=T.v1;omega));have ah:=kD (λ(z:Int) (hz:resP v g.b=z) (m:World) (Z:zB w m)=>res_s v g.b T S _ _ z hz m (aG.out.keep (.below Z)));have av:=kD (λ(h:1<=g.rs∧g.rs<=3) m=>in_s g.rs 1 3 true (decide_eq_true h) m);obtain⟨n1,ab⟩:=eX (g.b.1.length);obtain⟨n2,ag⟩:=eX (g.b.2.length);rw [ab] at aq;rw [ab,ag] at CB ai ah aG;rw [ab,ag];have a8:decide (v.p<4)=false:=decide_eq_false (by have:=Y.2.1;omega);have HQ:=kD hq;have aM:Hid (0<n1∧n1<=1000):=by have:=T.own.len;have:=T.v1;exact⟨by omega,by omega⟩
 have R1:=kD r1;have R2:=kD r2;have HP:=kD Y.2.2.2.2.2;have aL:=kD Y.2.2.1;have HO:=kD ho;have ap:=kD ab;have ao:=kD ag;clear hq Y T af hg ho r1 r2 k1 k2 ab ag;go_enter func136,ntmps136;go_upto_region 1 with fail;refine wp_gen (λ W'=>Gb w W' v (.slice A1 n1 c1) (.slice A2 n2 c2) g) ⟨by go_grown,(nW).alloc _,nX⟩ ?_;intro w1 K;obtain⟨E,D,C,B⟩:=K.rv.c4;obtain⟨Q,P,O,N,M,J,I,H,G⟩:=row9 K.rg;have r:=K.rv.lt;have t:=K.rg.lt;go_wp2_with fail;refine(CV.out _).mono ?_;rintro e w2 ⟨rfl,X⟩;have K:=K.below X;clear E D C B Q P O N M J I H G r t X;obtain⟨E,D,C,B⟩:=K.rv.c4;obtain⟨Q,P,O,N,M,J,I,H,G⟩:=row9 K.rg;have r:=K.rv.lt;have t:=K.rg.lt;go_wp2_with fail;refine(CB.out _ K.bel).mono ?_;rintro e w2 ⟨rfl,X⟩;have K:=K.below X;clear E D C B Q P O N M J I H G r t X;obtain⟨E,D,C,B⟩:=K.rv.c4;obtain⟨Q,P,O,N,M,J,I,H,G⟩:=row9 K.rg;have r:=K.rv.lt;have t:=K.rg.lt;go_wp2_with fail;refine(CP.out _).mono ?_;rintro e w2 ⟨rfl,rfl⟩;go_wp2_with fail;refine(CT.out _).mono ?_;rintro e w2 ⟨rfl,rfl⟩;clear CV CB CP CT;by_cases h2:g.ph=2
 ·have e2:(g.ph == 2)=true:=by rw [h2];rfl
  have ar:=kD (ar.out (HQ.out.1 h2));obtain⟨aa,V,W⟩:=HP.out (.inr h2);obtain rfl:o=false:=HO.out.symm.trans aa;have e0:(g.ph == 0)=false:=by rw [h2];rfl
  have e1:(g.ph == 1)=false:=by rw [h2];rfl
  have ew:(g.wn == 0)=true:=by rw [V];rfl
  have er:(g.rs == 0)=true:=by rw [W];rfl
  clear h2 aa V W;go_wp2_with fail;refine(ar.out _).mono ?_;rintro e w2 ⟨rfl,X⟩;have K:=K.below X;clear E D C B Q P O N M J I H G r t X;obtain⟨E,D,C,B⟩:=K.rv.c4;obtain⟨Q,P,O,N,M,J,I,H,G⟩:=row9 K.rg;have r:=K.rv.lt;have t:=K.rg.lt;go_wp2_with fail;refine(ai.out _ K.bel).mono ?_;rintro e w2 ⟨rfl,X⟩;have K:=K.below X;clear E D C B Q P O N M J I H G r t X;obtain⟨E,D,C,B⟩:=K.rv.c4;obtain⟨Q,P,O,N,M,J,I,H,G⟩:=row9 K.rg;have r:=K.rv.lt;have t:=K.rg.lt;go_wp2_with fail;go_ret;exact⟨rfl,K.bel⟩
 have e2:(g.ph == 2)=false:=by simpa using h2
 obtain⟨ak,aj⟩:=HQ.out.2.1 h2;have ex:(g.x != 0)=false:=by rw [ak];rfl
 have ey:(g.y != 0)=false:=by rw [aj];rfl
 have ba:(g.x == 0)=true:=by rw [ak];rfl
 have a9:(g.y == 0)=true:=by rw [aj];rfl
 clear ak aj;go_wp2_with fail;refine(ai.out _ K.bel).mono ?_;rintro e w2 ⟨rfl,X⟩;have K:=K.below X;clear E D C B Q P O N M J I H G r t X;obtain⟨E,D,C,B⟩:=K.rv.c4;obtain⟨Q,P,O,N,M,J,I,H,G⟩:=row9 K.rg;have r:=K.rv.lt;have t:=K.rg.lt;clear ai;rcases HQ.out.2.2.1 with h0 | h1 | h2' | h3
 ·have HG:=kD (aN.out h0);have e0:(g.ph == 0)=true:=by rw [h0];rfl
  have ew:(g.wn == 0)=true:=by rw [HG.out];rfl
  have er:(g.rs == 0)=true:=by rw [HG.out];rfl
  have ep:(g.pl == 0)=true:=by rw [HG.out];rfl
  have et:(g.tn == 0)=true:=by rw [HG.out];rfl
  have ac:g.b=startB v:=by rw [HG.out];rfl
  have aB:n2=n1:=by rw [<-ap.out,<-ao.out,ac];rfl
  subst aB;have am:(startB v).1.length=n2:=by rw [<-ac];exact ap.out
  have al:(startB v).2.length=n2:=by rw [<-ac];exact ao.out
  have aI:0<n2∧n2<=1000:=aM.out;have aO:=kD (λ(A3 A4:Option Addr) (c3 c4:Nat) (m:World) (Z:zB w m) (p3:RdF m All 1 enI A3 (startB v).1) (p4:RdF m All 1 enI A4 (startB v).2)=>Bd10.same_s g.b (startB v) n2 ap.out ao.out am al aI A1 A2 A3 A4 c1 c2 c3 c4 m.heap.size m lR (R1.out.keep (.below Z)).rd (R2.out.keep (.below Z)).rd p3.rd p4.rd true (decide_eq_true ac));have aK:=kD am;have aJ:=kD al;clear h0 ac am al h2;have R:=K;clear K;go_wp2_with fail;refine region_relG [some 52,some 53,some 54,some 55,some 56,some 57,some 58,some 59,some 60,some 61,some 62,some 63,some 64,some 65,some 66,some 67,some 68,some 69,some 70,some 71,some 72,some 73,some 74,some 75,some 76,some 77,some 4] 27 [some (pT (w.heap.size+1) 2),some (iL g.pl),some (.bool true),some (.bool true),some (pT (w.heap.size+1) 8),some (iL g.tn),some (.bool true),some (.bool true),some (.bool true),some (pT (w.heap.size+1) 6),some (iL g.wn),some (.bool true),some (.bool true),some (.bool true),some (pT (w.heap.size+1) 7),some (iL g.rs),some (.bool true),some (.bool true),some (.bool true),some (pT (w.heap.size+1) 0),some (.agg #[.slice A1 n2 c1,.slice A2 n2 c2]),some (vA v),none,none,some (.bool true),some (.bool true),some (.bool true)] (λ L a w'=>NwF w2 v (L 22) (L 23) (a 22) (a 23) w') (by kernel_rfl) (by kernel_rfl) (by kernel_rfl) (by kernel_rfl) (by kernel_rfl) (by kernel_rfl) (by first | kernel_rfl | rfl) ?g0_1 ?gst_1 ?gfin_1
  case g0_1=>exact⟨(zRf).drew,λ h=>absurd h (by decide),λ h=>absurd h (by decide)⟩
  case gst_1 =>
   refine rN rfl (λ L a A m j f k U F K l=>?_) ?_
   ·have e3:=U.w 3 (pT (w.heap.size+1) 0);have d:=R.below F.bel;obtain⟨E,D,C,B⟩:=d.rv.c4;obtain⟨Q,P,O,N,M,J,I,H,G⟩:=row9 d.rg;have r:=d.rv.lt;have t:=d.rg.lt;clear d;go_simp;exact pF l (F.skip 0 _)
   refine rN rfl (λ L a A m j f k U F K l=>?_) ?_
   ·have bE:=U.v 0 52;have d:=R.below F.bel;obtain⟨E,D,C,B⟩:=d.rv.c4;obtain⟨Q,P,O,N,M,J,I,H,G⟩:=row9 d.rg;have r:=d.rv.lt;have t:=d.rg.lt;clear d;go_simp;exact pF l (F.skip 1 _)
   refine rN rfl (λ L a A m j f k U F K l=>?_) ?_
   ·have bD:=U.v 1 53;go_simp;exact pF l (F.skip 2 _)
   refine rN rfl (λ L a A m j f k U F K l=>?_) ?_
   ·have bC:=U.v 2 54;go_simp;exact pF l (F.skip 3 _)
   refine rN rfl (λ L a A m j f k U F K l=>?_) ?_
   ·have e3:=U.w 3 (pT (w.heap.size+1) 0);have d:=R.below F.bel;obtain⟨E,D,C,B⟩:=d.rv.c4;obtain⟨Q,P,O,N,M,J,I,H,G⟩:=row9 d.rg;have r:=d.rv.lt;have t:=d.rg.lt;clear d;go_simp;exact pF l (F.skip 4 _)
   refine rN rfl (λ L a A m j f k U F K l=>?_) ?_
   ·have bA:=U.v 4 56;have d:=R.below F.bel;obtain⟨E,D,C,B⟩:=d.rv.c4;obtain⟨Q,P,O,N,M,J,I,H,G⟩:=row9 d.rg;have r:=d.rv.lt;have t:=d.rg.lt;clear d;go_simp;exact pF l (F.skip 5 _)
   refine rN rfl (λ L a A m j f k U F K l=>?_) ?_
   ·have bz:=U.v 5 57;go_simp;exact pF l (F.skip 6 _)
   refine rN rfl (λ L a A m j f k U F K l=>?_) ?_
   ·have bB:=U.v 3 55;have bx:=U.v 6 58;go_simp;exact pF l (F.skip 7 _)
   refine rN rfl (λ L a A m j f k U F K l=>?_) ?_
   ·have bw:=U.v 7 59;go_simp;exact pF l (F.skip 8 _)
   refine rN rfl (λ L a A m j f k U F K l=>?_) ?_
   ·have e3:=U.w 3 (pT (w.heap.size+1) 0);have d:=R.below F.bel;obtain⟨E,D,C,B⟩:=d.rv.c4;obtain⟨Q,P,O,N,M,J,I,H,G⟩:=row9 d.rg;have r:=d.rv.lt;have t:=d.rg.lt;clear d;go_simp;exact pF l (F.skip 9 _)
   refine rN rfl (λ L a A m j f k U F K l=>?_) ?_
   ·have bt:=U.v 9 61;have d:=R.below F.bel;obtain⟨E,D,C,B⟩:=d.rv.c4;obtain⟨Q,P,O,N,M,J,I,H,G⟩:=row9 d.rg;have r:=d.rv.lt;have t:=d.rg.lt;clear d;go_simp;exact pF l (F.skip 10 _)
   refine rN rfl (λ L a A m j f k U F K l=>?_) ?_
   ·have bs:=U.v 10 62;go_simp;exact pF l (F.skip 11 _)
   refine rN rfl (λ L a A m j f k U F K l=>?_) ?_
   ·have bv:=U.v 8 60;have br:=U.v 11 63;go_simp;exact pF l (F.skip 12 _)
   refine rN rfl (λ L a A m j f k U F K l=>?_) ?_
   ·have bq:=U.v 12 64;go_simp;exact pF l (F.skip 13 _)
   refine rN rfl (λ L a A m j f k U F K l=>?_) ?_
   ·have e3:=U.w 3 (pT (w.heap.size+1) 0);have d:=R.below F.bel;obtain⟨E,D,C,B⟩:=d.rv.c4;obtain⟨Q,P,O,N,M,J,I,H,G⟩:=row9 d.rg;have r:=d.rv.lt;have t:=d.rg.lt;clear d;go_simp;exact pF l (F.skip 14 _)
   refine rN rfl (λ L a A m j f k U F K l=>?_) ?_
   ·have bo:=U.v 14 66;have d:=R.below F.bel;obtain⟨E,D,C,B⟩:=d.rv.c4;obtain⟨Q,P,O,N,M,J,I,H,G⟩:=row9 d.rg;have r:=d.rv.lt;have t:=d.rg.lt;clear d;go_simp;exact pF l (F.skip 15 _)
   refine rN rfl (λ L a A m j f k U F K l=>?_) ?_
   ·have bn:=U.v 15 67;go_simp;exact pF l (F.skip 16 _)
   refine rN rfl (λ L a A m j f k U F K l=>?_) ?_
   ·have bp:=U.v 13 65;have bm:=U.v 16 68;go_simp;exact pF l (F.skip 17 _)
   refine rN rfl (λ L a A m j f k U F K l=>?_) ?_
   ·have bl:=U.v 17 69;go_simp;exact pF l (F.skip 18 _)
   refine rN rfl (λ L a A m j f k U F K l=>?_) ?_
   ·have e3:=U.w 3 (pT (w.heap.size+1) 0);have d:=R.below F.bel;obtain⟨E,D,C,B⟩:=d.rv.c4;obtain⟨Q,P,O,N,M,J,I,H,G⟩:=row9 d.rg;have r:=d.rv.lt;have t:=d.rg.lt;clear d;go_simp;exact pF l (F.skip 19 _)
   refine rN rfl (λ L a A m j f k U F K l=>?_) ?_
   ·have bj:=U.v 19 71;have d:=R.below F.bel;obtain⟨E,D,C,B⟩:=d.rv.c4;obtain⟨Q,P,O,N,M,J,I,H,G⟩:=row9 d.rg;have r:=d.rv.lt;have t:=d.rg.lt;clear d;go_simp;exact pF l (F.skip 20 _)
   refine rN rfl (λ L a A m j f k U F K l=>?_) ?_
   ·have e2:=U.w 2 (pT w.heap.size 0);have d:=R.below F.bel;obtain⟨E,D,C,B⟩:=d.rv.c4;obtain⟨Q,P,O,N,M,J,I,H,G⟩:=row9 d.rg;have r:=d.rv.lt;have t:=d.rg.lt;clear d;go_simp;exact pF l (F.skip 21 _)
   refine rN rfl (λ L a A m j f k U F K l=>?_) ?_
   ·have bh:=U.v 21 73;go_simp;refine(aP.out m).mono ?_;rintro e w6 ⟨v6,rfl,aH,ad⟩;exact l.out v6 w6 (Pl.any rfl) (by simpa [upd] using F.s22 ad (RelGV.weak aH (λ _ _ _=>trivial)))
   refine rN rfl (λ L a A m j f k U F K l=>?_) ?_
   ·have aF:=U.x 22 74;refine(F.f22 (bK f 22)).elim λ u3 q=>?_
    refine q.elim λ u4 q=>?_
    have aE:=aF.trans q.1;simp only [gmC] at aE;clear aF;have hT:∀(h:51<Tryz.prog.types.size),(Tryz.prog.types[51]'h).size=2:=λ h=>by first | kernel_rfl | rfl
    go_simp;exact l.out (.agg #[u3,u4]) m (Pl.any rfl) (by simpa [upd] using F.s23 ⟨u3,u4,rfl,q.2⟩)
   refine rN rfl (λ L a A m j f k U F K l=>?_) ?_
   ·have bi:=U.v 20 72;have aD:=U.x 23 75;refine(F.f23 (bK f 23)).elim λ u3 q=>?_
    refine q.elim λ u4 q=>?_
    refine q.2.1.elim λ A3 p3=>?_
    refine p3.elim λ c3 p3=>?_
    refine q.2.2.elim λ A4 p4=>?_
    refine p4.elim λ c4 p4=>?_
    have aC:=aD.trans q.1;rw [p3.1,p4.1,aK.out,aJ.out] at aC;clear aD;go_simp;refine(aO.out A3 A4 c3 c4 m (R.bel.trans (F.bel.mono R.bel.size)) p3.2.1 p4.2.1).mono ?_;rintro e w6 ⟨rfl,ad⟩;exact pF l ((F.below ad).skip 24 _)
   refine rN rfl (λ L a A m j f k U F K l=>?_) ?_
   ·have bk:=U.v 18 70;have bg:=U.v 24 76;go_simp;exact pF l (F.skip 25 _)
   refine rN rfl (λ L a A m j f k U F K l=>?_) ?_
   ·have bf:=U.v 25 77;go_simp;exact pF l (F.skip 26 _)
   exact RelFrom.nil (by decide)
  intro a m Y F;simp only [Fr,Act.put,sX,Nat.reduceAdd];go_wp2_with fail;have ay:a 26=.bool true:=Y 26 (by decide) _ rfl;rw [ay];go_ret;exact⟨rfl,(R.below F.bel).bel⟩
 ·obtain⟨aa,V,W⟩:=HP.out (.inl h1);obtain rfl:o=false:=HO.out.symm.trans aa;have e0:(g.ph == 0)=false:=by rw [h1];rfl
  have e1:(g.ph == 1)=true:=by rw [h1];rfl
  have ew:(g.wn == 0)=true:=by rw [V];rfl
  have er:(g.rs == 0)=true:=by rw [W];rfl
  clear h1 aa V W h2;go_wp2_with fail;go_ret;exact⟨rfl,K.bel⟩
 ·exact absurd h2' h2
 ·have e0:(g.ph == 0)=false:=by rw [h3];rfl
  have e1:(g.ph == 1)=false:=by rw [h3];rfl
  have e3:(g.ph == 3)=true:=by rw [h3];rfl
  have ae:=HQ.out.2.2.2 h3;rw [HO.out] at ae;clear h3 h2
  cases o
  case false =>
   obtain⟨ax,aA⟩:=ae.2 rfl;have av:=kD (av.out aA);have a7:IntKind.i64.wrap (1 - g.pl)=1 - g.pl:=IntWalk.i64_in _ (by have:=aL.out;omega);have ew:(g.wn == 1 - g.pl)=true:=by rw [ax];simp
   clear ae ax aA;go_wp2_with fail;refine(av.out _).mono ?_;rintro e w3 ⟨rfl,rfl⟩;go_wp2_with fail;go_ret;exact⟨rfl,K.bel⟩
  case true =>
   obtain⟨an,V,W⟩:=ae.1 rfl;have ah:=kD (ah.out g.rs W.symm);obtain⟨z1,aw⟩:=eX (g.b.1.sum);rw [aw] at aq an;have es:(z1 == 0)=true:=by rw [an];rfl
   have ew:(g.wn == g.pl)=true:=by rw [V];simp
   have er:(g.rs == g.rs)=true:=by simp
   clear ae an V W aw;have R:=K;clear K;go_wp2_with fail;refine region_relG [some 96,some 97,some 98,some 99,some 100,some 101,some 102,some 103,some 104,some 105,some 106,some 107,some 108,some 109,some 110,some 111,some 112,some 113,some 114,some 115,some 116,some 4] 22 [some (pT (w.heap.size+1) 0),some (pT (w.heap.size+1) 0),some (.slice A1 n1 c1),some (iL z1),some (.bool true),some (.bool true),some (pT (w.heap.size+1) 6),some (iL g.wn),some (pT (w.heap.size+1) 2),some (iL g.pl),some (.bool true),some (.bool true),some (.bool true),some (pT (w.heap.size+1) 7),some (iL g.rs),some (vA v),some (pT (w.heap.size+1) 0),some (.agg #[.slice A1 n1 c1,.slice A2 n2 c2]),some (iL g.rs),some (.bool true),some (.bool true),some (.bool true)] (λ L a w'=>Below w2.heap.size w2 w') (by kernel_rfl) (by kernel_rfl) (by kernel_rfl) (by kernel_rfl) (by kernel_rfl) (by kernel_rfl) (by first | kernel_rfl | rfl) ?g0_2 ?gst_2 ?gfin_2
   case g0_2=>exact(zRf).drew
   case gst_2 =>
    refine rN rfl (λ L a A m j f k U F K l=>?_) ?_
    ·have e3:=U.w 3 (pT (w.heap.size+1) 0);have d:=R.below F;obtain⟨E,D,C,B⟩:=d.rv.c4;obtain⟨Q,P,O,N,M,J,I,H,G⟩:=row9 d.rg;have r:=d.rv.lt;have t:=d.rg.lt;clear d;go_simp;exact pF l (F)
    refine rN rfl (λ L a A m j f k U F K l=>?_) ?_
    ·have be:=U.v 0 96;have d:=R.below F;obtain⟨E,D,C,B⟩:=d.rv.c4;obtain⟨Q,P,O,N,M,J,I,H,G⟩:=row9 d.rg;have r:=d.rv.lt;have t:=d.rg.lt;clear d;go_simp;exact pF l (F)
    refine rN rfl (λ L a A m j f k U F K l=>?_) ?_
    ·have bd:=U.v 1 97;have d:=R.below F;obtain⟨E,D,C,B⟩:=d.rv.c4;obtain⟨Q,P,O,N,M,J,I,H,G⟩:=row9 d.rg;have r:=d.rv.lt;have t:=d.rg.lt;clear d;go_simp;exact pF l (F)
    refine rN rfl (λ L a A m j f k U F K l=>?_) ?_
    ·have bc:=U.v 2 98;go_simp;refine(aq.out m (R.bel.tR F)).mono ?_;rintro e w6 ⟨rfl,rfl⟩;exact pF l F
    refine rN rfl (λ L a A m j f k U F K l=>?_) ?_
    ·have bb:=U.v 3 99;go_simp;exact pF l (F)
    refine rN rfl (λ L a A m j f k U F K l=>?_) ?_
    ·have a6:=U.v 4 100;go_simp;exact pF l (F)
    refine rN rfl (λ L a A m j f k U F K l=>?_) ?_
    ·have e3:=U.w 3 (pT (w.heap.size+1) 0);have d:=R.below F;obtain⟨E,D,C,B⟩:=d.rv.c4;obtain⟨Q,P,O,N,M,J,I,H,G⟩:=row9 d.rg;have r:=d.rv.lt;have t:=d.rg.lt;clear d;go_simp;exact pF l (F)
    refine rN rfl (λ L a A m j f k U F K l=>?_) ?_
    ·have a4:=U.v 6 102;have d:=R.below F;obtain⟨E,D,C,B⟩:=d.rv.c4;obtain⟨Q,P,O,N,M,J,I,H,G⟩:=row9 d.rg;have r:=d.rv.lt;have t:=d.rg.lt;clear d;go_simp;exact pF l (F)
    refine rN rfl (λ L a A m j f k U F K l=>?_) ?_
    ·have e3:=U.w 3 (pT (w.heap.size+1) 0);have d:=R.below F;obtain⟨E,D,C,B⟩:=d.rv.c4;obtain⟨Q,P,O,N,M,J,I,H,G⟩:=row9 d.rg;have r:=d.rv.lt;have t:=d.rg.lt;clear d;go_simp;exact pF l (F)
    refine rN rfl (λ L a A m j f k U F K l=>?_) ?_
    ·have a2:=U.v 8 104;have d:=R.below F;obtain⟨E,D,C,B⟩:=d.rv.c4;obtain⟨Q,P,O,N,M,J,I,H,G⟩:=row9 d.rg;have r:=d.rv.lt;have t:=d.rg.lt;clear d;go_simp;exact pF l (F)
    refine rN rfl (λ L a A m j f k U F K l=>?_) ?_
    ·have a3:=U.v 7 103;have a1:=U.v 9 105;go_simp;exact pF l (F)
    refine rN rfl (λ L a A m j f k U F K l=>?_) ?_
    ·have a5:=U.v 5 101;have a0:=U.v 10 106;go_simp;exact pF l (F)
    refine rN rfl (λ L a A m j f k U F K l=>?_) ?_
    ·have aZ:=U.v 11 107;go_simp;exact pF l (F)
    refine rN rfl (λ L a A m j f k U F K l=>?_) ?_
    ·have e3:=U.w 3 (pT (w.heap.size+1) 0);have d:=R.below F;obtain⟨E,D,C,B⟩:=d.rv.c4;obtain⟨Q,P,O,N,M,J,I,H,G⟩:=row9 d.rg;have r:=d.rv.lt;have t:=d.rg.lt;clear d;go_simp;exact pF l (F)
    refine rN rfl (λ L a A m j f k U F K l=>?_) ?_
    ·have aX:=U.v 13 109;have d:=R.below F;obtain⟨E,D,C,B⟩:=d.rv.c4;obtain⟨Q,P,O,N,M,J,I,H,G⟩:=row9 d.rg;have r:=d.rv.lt;have t:=d.rg.lt;clear d;go_simp;exact pF l (F)
    refine rN rfl (λ L a A m j f k U F K l=>?_) ?_
    ·have e2:=U.w 2 (pT w.heap.size 0);have d:=R.below F;obtain⟨E,D,C,B⟩:=d.rv.c4;obtain⟨Q,P,O,N,M,J,I,H,G⟩:=row9 d.rg;have r:=d.rv.lt;have t:=d.rg.lt;clear d;go_simp;exact pF l (F)
    refine rN rfl (λ L a A m j f k U F K l=>?_) ?_
    ·have e3:=U.w 3 (pT (w.heap.size+1) 0);have d:=R.below F;obtain⟨E,D,C,B⟩:=d.rv.c4;obtain⟨Q,P,O,N,M,J,I,H,G⟩:=row9 d.rg;have r:=d.rv.lt;have t:=d.rg.lt;clear d;go_simp;exact pF l (F)
    refine rN rfl (λ L a A m j f k U F K l=>?_) ?_
    ·have aU:=U.v 16 112;have d:=R.below F;obtain⟨E,D,C,B⟩:=d.rv.c4;obtain⟨Q,P,O,N,M,J,I,H,G⟩:=row9 d.rg;have r:=d.rv.lt;have t:=d.rg.lt;clear d;go_simp;exact pF l (F)
    refine rN rfl (λ L a A m j f k U F K l=>?_) ?_
    ·have aV:=U.v 15 111;have aT:=U.v 17 113;go_simp;refine(ah.out m (R.bel.tR F)).mono ?_;rintro e w6 ⟨rfl,ad⟩;exact pF l (F.tR ad)
    refine rN rfl (λ L a A m j f k U F K l=>?_) ?_
    ·have aW:=U.v 14 110;have aS:=U.v 18 114;go_simp;exact pF l (F)
    refine rN rfl (λ L a A m j f k U F K l=>?_) ?_
    ·have aY:=U.v 12 108;have aR:=U.v 19 115;go_simp;exact pF l (F)
    refine rN rfl (λ L a A m j f k U F K l=>?_) ?_
    ·have aQ:=U.v 20 116;go_simp;exact pF l (F)
    exact RelFrom.nil (by decide)
   intro a m Y F;simp only [Fr,Act.put,sX,Nat.reduceAdd];go_wp2_with fail;have az:a 21=.bool true:=Y 21 (by decide) _ rfl;rw [az];go_ret;exact⟨rfl,(R.below F).bel⟩
theorem isg_i (v:Vr) (g:Gm) (hg:gmB v g=true) (S:Nat->Prop) (u1 u2:Value) (w:World) (hR:BdR w S u1 u2 g.b) :
  Calls prog 129 #[vA v,.agg ⟨gmC u1 u2 g⟩] w λ e w'=>e=.returned (.bool true)∧Below w.heap.size w w':=by
 have hp:=gm_parts hg;have hq:=gm_rest hg;have Q:=hp.1;have ae:okV v=true:=okV_iff.2 Q.v1;have aK:=kD (gm_zero hg);have aC:=kD hR;obtain⟨⟨A1,c1,rfl,r1,k1⟩,⟨A2,c2,rfl,r2,k2⟩⟩:=hR;obtain⟨o,ho⟩:=eX (over g.b);have CV:=kD (λ f=>var_i v true ae f);have CB:=kD (λ(f:World) (Y:zB w f)=>Bd3I.isB_i v g.b A1 A2 c1 c2 f.heap.size f lR (r1.keep (.below Y)).rd (r2.keep (.below Y)).rd true (okB_iff.2 Q));have CP:=kD (λ f=>in_i g.pl 0 1 true (decide_eq_true hp.2.2.1) f);have CT:=kD (λ f=>in_i g.tn 0 2000 true (decide_eq_true hp.2.2.2.1) f);have ai:=kD (λ(f:World) (Y:zB w f)=>over_i v g.b Q A1 A2 c1 c2 f.heap.size f lR (r1.keep (.below Y)).rd (r2.keep (.below Y)).rd o ho);have ar:=kD (λ(hr:rollB v g.x g.y=true) f=>Bd15.isroll_i v g.x g.y true (by rw [ae];exact hr) f);have aM:=kD (λ f=>start_i v ae hp.2.1 f);have aq:=kD (λ(f:World) (Y:zB w f)=>sum_i A1 c1 f.heap.size g.b.1 f (r1.keep (.below Y)).rd (λ i=>⟨Q.own.nn i,by have:=Q.own.top i;have:=Q.v1;omega⟩) (by have:=Q.own.len;have:=Q.v1;omega));have ah:=kD (λ(z:Int) (hz:resP v g.b=z) (f:World) (Y:zB w f)=>res_i v g.b Q S _ _ z hz f (aC.out.keep (.below Y)));have av:=kD (λ(h:1<=g.rs∧g.rs<=3) f=>in_i g.rs 1 3 true (decide_eq_true h) f);obtain⟨n1,ab⟩:=eX (g.b.1.length);obtain⟨X,af⟩:=eX (g.b.2.length);rw [ab] at aq;rw [ab,af] at CB ai ah aC;rw [ab,af];have ba:decide (v.p<4)=false:=decide_eq_false (by have:=hp.2.1;omega);have HQ:=kD hq;have aF:=kD (λ h=>(hp.2.2.2.2.1 h).1.1);have aJ:Hid (0<n1∧n1<=1000):=by have:=Q.own.len;have:=Q.v1;exact⟨by omega,by omega⟩
 have R1:=kD r1;have R2:=kD r2;have HP:=kD hp.2.2.2.2.2;have aI:=kD hp.2.2.1;have HO:=kD ho;have ap:=kD ab;have ao:=kD af;clear hq hp Q ae hg ho r1 r2 k1 k2 ab af;go_enter func129,ntmps129;go_upto_region 1 with fail;refine wp_gen (λ W'=>Gb w W' v (.slice A1 n1 c1) (.slice A2 X c2) g) ⟨by go_grown,(nW).alloc _,nX⟩ ?_;intro w1 K;obtain⟨D,C,B,t⟩:=K.rv.c4;obtain⟨P,O,N,M,J,I,H,G,E⟩:=row9 K.rg;have j:=K.rv.lt;have k:=K.rg.lt;go_wp2_with fail;refine(CV.out _).mono ?_;rintro e w2 ⟨rfl,V⟩;have K:=K.below V;clear D C B t P O N M J I H G E j k V;obtain⟨D,C,B,t⟩:=K.rv.c4;obtain⟨P,O,N,M,J,I,H,G,E⟩:=row9 K.rg;have j:=K.rv.lt;have k:=K.rg.lt;go_wp2_with fail;refine(CB.out _ K.bel).mono ?_;rintro e w2 ⟨rfl,V⟩;have K:=K.below V;clear D C B t P O N M J I H G E j k V;obtain⟨D,C,B,t⟩:=K.rv.c4;obtain⟨P,O,N,M,J,I,H,G,E⟩:=row9 K.rg;have j:=K.rv.lt;have k:=K.rg.lt;go_wp2_with fail;refine(CP.out _).mono ?_;rintro e w2 ⟨rfl,rfl⟩;go_wp2_with fail;refine(CT.out _).mono ?_;rintro e w2 ⟨rfl,rfl⟩;clear CV CB CP CT;by_cases h2:g.ph=2
 ·have e2:(g.ph == 2)=true:=by rw [h2];rfl
  have ar:=kD (ar.out (HQ.out.1 h2));obtain⟨aa,R,T⟩:=HP.out (.inr h2);obtain rfl:o=false:=HO.out.symm.trans aa;have e0:(g.ph == 0)=false:=by rw [h2];rfl
  have e1:(g.ph == 1)=false:=by rw [h2];rfl
  have ew:(g.wn == 0)=true:=by rw [R];rfl
  have er:(g.rs == 0)=true:=by rw [T];rfl
  have a8:¬ g.x=0:=by have:=aF.out h2;omega
  clear h2 aa R T;go_wp2_with fail;go_still_tail 16,(by kernel_rfl);go_wp2_with fail;refine(ar.out _).mono ?_;rintro e w2 ⟨rfl,V⟩;have K:=K.below ((zRf).drew.trans V);clear D C B t P O N M J I H G E j k V;obtain⟨D,C,B,t⟩:=K.rv.c4;obtain⟨P,O,N,M,J,I,H,G,E⟩:=row9 K.rg;have j:=K.rv.lt;have k:=K.rg.lt;go_wp2_with fail;refine(ai.out _ K.bel).mono ?_;rintro e w2 ⟨rfl,V⟩;have K:=K.below V;clear D C B t P O N M J I H G E j k V;obtain⟨D,C,B,t⟩:=K.rv.c4;obtain⟨P,O,N,M,J,I,H,G,E⟩:=row9 K.rg;have j:=K.rv.lt;have k:=K.rg.lt;go_wp2_with fail;go_ret;exact⟨rfl,K.bel⟩
 have e2:(g.ph == 2)=false:=by simpa using h2
 obtain⟨ak,aj⟩:=HQ.out.2.1 h2;have ex:(g.x != 0)=false:=by rw [ak];rfl
 have ey:(g.y != 0)=false:=by rw [aj];rfl
 have be:(g.x == 0)=true:=by rw [ak];rfl
 have bd:(g.y == 0)=true:=by rw [aj];rfl
 clear ak aj;go_wp2_with fail;go_quiet (fail);go_wp2_with fail;refine(ai.out _ (below_drewN K.bel nq)).mono ?_;rintro e aD ⟨rfl,V⟩;have K:=K.below ((below_drewN (zRf) nq).trans V);clear D C B t P O N M J I H G E j k V;obtain⟨D,C,B,t⟩:=K.rv.c4;obtain⟨P,O,N,M,J,I,H,G,E⟩:=row9 K.rg;have j:=K.rv.lt;have k:=K.rg.lt;obtain⟨w2,ax⟩:=eX (aD);rw [ax] at K D C B t P O N M J I H G E j k ⊢;clear ax ai;rcases HQ.out.2.2.1 with h0 | h1 | h2' | h3
 ·have HG:=kD (aK.out h0);have e0:(g.ph == 0)=true:=by rw [h0];rfl
  have ew:(g.wn == 0)=true:=by rw [HG.out];rfl
  have er:(g.rs == 0)=true:=by rw [HG.out];rfl
  have ep:(g.pl == 0)=true:=by rw [HG.out];rfl
  have et:(g.tn == 0)=true:=by rw [HG.out];rfl
  have ac:g.b=startB v:=by rw [HG.out];rfl
  have aB:X=n1:=by rw [<-ap.out,<-ao.out,ac];rfl
  subst aB;have am:(startB v).1.length=X:=by rw [<-ac];exact ap.out
  have al:(startB v).2.length=X:=by rw [<-ac];exact ao.out
  have bb:0<X∧X<=1000:=aJ.out;have aL:=kD (λ(A3 A4:Option Addr) (c3 c4:Nat) (f:World) (Y:zB w f) (p3:RdS f f.heap.size 1 enI A3 (startB v).1) (p4:RdS f f.heap.size 1 enI A4 (startB v).2)=>Bd31.same_i g.b (startB v) X ap.out ao.out am al A1 A2 A3 A4 c1 c2 c3 c4 f (R1.out.keep (.below Y)).rd (R2.out.keep (.below Y)).rd p3 p4 true (decide_eq_true ac));have aH:=kD am;have aG:=kD al;clear h0 ac am al h2;go_wp2_with fail;refine(aM.out _).mono ?_;rintro e w3 ⟨v6,rfl,⟨u3,u4,b3,rfl,aE,Z⟩,ag⟩;obtain rfl:=Z _ rfl;have K:=K.below ag;obtain⟨⟨A5,c5,rfl,p5,k5⟩,⟨A6,c6,rfl,p6,k6⟩⟩:=aE;rw [aH.out,aG.out];have P5:=kD p5;have P6:=kD p6;clear D C B t P O N M J I H G E j k ag p5 p6 Z;go_upto_region 9 with fail;refine wp_gen (λ W'=>Gb w W' v (.slice A1 X c1) (.slice A2 X c2) g∧RowB W' w3.heap.size 51 [.slice A5 X c5,.slice A6 X c6]∧Hid (RdS W' W'.heap.size 1 enI A5 (startB v).1)∧Hid (RdS W' W'.heap.size 1 enI A6 (startB v).2)) ⟨K.below ((zRf).alloc lR _),nW,kD (P5.out.keep (.below ((zRf).alloc lR _))).rd,kD (P6.out.keep (.below ((zRf).alloc lR _))).rd⟩ ?_;clear K P5 P6;rintro w4 ⟨K,rx,P5,P6⟩;obtain⟨D,C,B,t⟩:=K.rv.c4;obtain⟨P,O,N,M,J,I,H,G,E⟩:=row9 K.rg;have j:=K.rv.lt;have k:=K.rg.lt;obtain⟨x0,x1⟩:=rx.c2;have bc:=rx.lt;go_wp2_with fail;refine(aL.out A5 A6 c5 c6 _ K.bel P5.out P6.out).mono ?_;rintro e w2 ⟨rfl,V⟩;have K:=K.below V;clear D C B t P O N M J I H G E j k V;obtain⟨D,C,B,t⟩:=K.rv.c4;obtain⟨P,O,N,M,J,I,H,G,E⟩:=row9 K.rg;have j:=K.rv.lt;have k:=K.rg.lt;go_wp2_with fail;go_ret;exact⟨rfl,K.bel⟩
 ·obtain⟨aa,R,T⟩:=HP.out (.inl h1);obtain rfl:o=false:=HO.out.symm.trans aa;have e0:(g.ph == 0)=false:=by rw [h1];rfl
  have e1:(g.ph == 1)=true:=by rw [h1];rfl
  have ew:(g.wn == 0)=true:=by rw [R];rfl
  have er:(g.rs == 0)=true:=by rw [T];rfl
  clear h1 aa R T h2;go_wp2_with fail;go_ret;exact⟨rfl,K.bel⟩
 ·exact absurd h2' h2
 ·have e0:(g.ph == 0)=false:=by rw [h3];rfl
  have e1:(g.ph == 1)=false:=by rw [h3];rfl
  have e3:(g.ph == 3)=true:=by rw [h3];rfl
  have ad:=HQ.out.2.2.2 h3;rw [HO.out] at ad;clear h3 h2
  cases o
  case false =>
   obtain⟨ay,aA⟩:=ad.2 rfl;have av:=kD (av.out aA);have a9:IntKind.i64.wrap (1 - g.pl)=1 - g.pl:=IntWalk.i64_in _ (by have:=aI.out;omega);have ew:(g.wn == 1 - g.pl)=true:=by rw [ay];simp
   clear ad ay aA;go_wp2_with fail;refine(av.out _).mono ?_;rintro e w3 ⟨rfl,rfl⟩;go_wp2_with fail;go_ret;exact⟨rfl,K.bel⟩
  case true =>
   obtain⟨an,R,T⟩:=ad.1 rfl;have ah:=kD (ah.out g.rs T.symm);obtain⟨z1,aw⟩:=eX (g.b.1.sum);rw [aw] at aq an;have es:(z1 == 0)=true:=by rw [an];rfl
   have ew:(g.wn == g.pl)=true:=by rw [R];simp
   have er:(g.rs == g.rs)=true:=by simp
   clear ad an R T aw;have W:=K;clear K;go_wp2_with fail;refine region_relG [some 109,some 110,some 111,some 112,some 113,some 114,some 115,some 116,some 117,some 118,some 119,some 120,some 121,some 122,some 123,some 124,some 125,some 126,some 127,some 128,some 129,some 4] 22 [some (pT (w.heap.size+1) 0),some (pT (w.heap.size+1) 0),some (.slice A1 n1 c1),some (iL z1),some (.bool true),some (.bool true),some (pT (w.heap.size+1) 6),some (iL g.wn),some (pT (w.heap.size+1) 2),some (iL g.pl),some (.bool true),some (.bool true),some (.bool true),some (pT (w.heap.size+1) 7),some (iL g.rs),some (vA v),some (pT (w.heap.size+1) 0),some (.agg #[.slice A1 n1 c1,.slice A2 X c2]),some (iL g.rs),some (.bool true),some (.bool true),some (.bool true)] (λ L a w'=>Below w2.heap.size w2 w') (by kernel_rfl) (by kernel_rfl) (by kernel_rfl) (by kernel_rfl) (by kernel_rfl) (by kernel_rfl) (by first | kernel_rfl | rfl) ?g0_1 ?gst_1 ?gfin_1
   case g0_1=>exact(zRf).drew
   case gst_1 =>
    refine rN rfl (λ L a A f l m q U F K r=>?_) ?_
    ·have e3:=U.w 3 (pT (w.heap.size+1) 0);have d:=W.below F;obtain⟨D,C,B,t⟩:=d.rv.c4;obtain⟨P,O,N,M,J,I,H,G,E⟩:=row9 d.rg;have j:=d.rv.lt;have k:=d.rg.lt;clear d;go_simp;exact pF r (F)
    refine rN rfl (λ L a A f l m q U F K r=>?_) ?_
    ·have a7:=U.v 0 109;have d:=W.below F;obtain⟨D,C,B,t⟩:=d.rv.c4;obtain⟨P,O,N,M,J,I,H,G,E⟩:=row9 d.rg;have j:=d.rv.lt;have k:=d.rg.lt;clear d;go_simp;exact pF r (F)
    refine rN rfl (λ L a A f l m q U F K r=>?_) ?_
    ·have a6:=U.v 1 110;have d:=W.below F;obtain⟨D,C,B,t⟩:=d.rv.c4;obtain⟨P,O,N,M,J,I,H,G,E⟩:=row9 d.rg;have j:=d.rv.lt;have k:=d.rg.lt;clear d;go_simp;exact pF r (F)
    refine rN rfl (λ L a A f l m q U F K r=>?_) ?_
    ·have a5:=U.v 2 111;go_simp;refine(aq.out f (W.bel.tR F)).mono ?_;rintro e w6 ⟨rfl,rfl⟩;exact pF r F
    refine rN rfl (λ L a A f l m q U F K r=>?_) ?_
    ·have a4:=U.v 3 112;go_simp;exact pF r (F)
    refine rN rfl (λ L a A f l m q U F K r=>?_) ?_
    ·have a3:=U.v 4 113;go_simp;exact pF r (F)
    refine rN rfl (λ L a A f l m q U F K r=>?_) ?_
    ·have e3:=U.w 3 (pT (w.heap.size+1) 0);have d:=W.below F;obtain⟨D,C,B,t⟩:=d.rv.c4;obtain⟨P,O,N,M,J,I,H,G,E⟩:=row9 d.rg;have j:=d.rv.lt;have k:=d.rg.lt;clear d;go_simp;exact pF r (F)
    refine rN rfl (λ L a A f l m q U F K r=>?_) ?_
    ·have a1:=U.v 6 115;have d:=W.below F;obtain⟨D,C,B,t⟩:=d.rv.c4;obtain⟨P,O,N,M,J,I,H,G,E⟩:=row9 d.rg;have j:=d.rv.lt;have k:=d.rg.lt;clear d;go_simp;exact pF r (F)
    refine rN rfl (λ L a A f l m q U F K r=>?_) ?_
    ·have e3:=U.w 3 (pT (w.heap.size+1) 0);have d:=W.below F;obtain⟨D,C,B,t⟩:=d.rv.c4;obtain⟨P,O,N,M,J,I,H,G,E⟩:=row9 d.rg;have j:=d.rv.lt;have k:=d.rg.lt;clear d;go_simp;exact pF r (F)
    refine rN rfl (λ L a A f l m q U F K r=>?_) ?_
    ·have aZ:=U.v 8 117;have d:=W.below F;obtain⟨D,C,B,t⟩:=d.rv.c4;obtain⟨P,O,N,M,J,I,H,G,E⟩:=row9 d.rg;have j:=d.rv.lt;have k:=d.rg.lt;clear d;go_simp;exact pF r (F)
    refine rN rfl (λ L a A f l m q U F K r=>?_) ?_
    ·have a0:=U.v 7 116;have aY:=U.v 9 118;go_simp;exact pF r (F)
    refine rN rfl (λ L a A f l m q U F K r=>?_) ?_
    ·have a2:=U.v 5 114;have aX:=U.v 10 119;go_simp;exact pF r (F)
    refine rN rfl (λ L a A f l m q U F K r=>?_) ?_
    ·have aW:=U.v 11 120;go_simp;exact pF r (F)
    refine rN rfl (λ L a A f l m q U F K r=>?_) ?_
    ·have e3:=U.w 3 (pT (w.heap.size+1) 0);have d:=W.below F;obtain⟨D,C,B,t⟩:=d.rv.c4;obtain⟨P,O,N,M,J,I,H,G,E⟩:=row9 d.rg;have j:=d.rv.lt;have k:=d.rg.lt;clear d;go_simp;exact pF r (F)
    refine rN rfl (λ L a A f l m q U F K r=>?_) ?_
    ·have aU:=U.v 13 122;have d:=W.below F;obtain⟨D,C,B,t⟩:=d.rv.c4;obtain⟨P,O,N,M,J,I,H,G,E⟩:=row9 d.rg;have j:=d.rv.lt;have k:=d.rg.lt;clear d;go_simp;exact pF r (F)
    refine rN rfl (λ L a A f l m q U F K r=>?_) ?_
    ·have e2:=U.w 2 (pT w.heap.size 0);have d:=W.below F;obtain⟨D,C,B,t⟩:=d.rv.c4;obtain⟨P,O,N,M,J,I,H,G,E⟩:=row9 d.rg;have j:=d.rv.lt;have k:=d.rg.lt;clear d;go_simp;exact pF r (F)
    refine rN rfl (λ L a A f l m q U F K r=>?_) ?_
    ·have e3:=U.w 3 (pT (w.heap.size+1) 0);have d:=W.below F;obtain⟨D,C,B,t⟩:=d.rv.c4;obtain⟨P,O,N,M,J,I,H,G,E⟩:=row9 d.rg;have j:=d.rv.lt;have k:=d.rg.lt;clear d;go_simp;exact pF r (F)
    refine rN rfl (λ L a A f l m q U F K r=>?_) ?_
    ·have aR:=U.v 16 125;have d:=W.below F;obtain⟨D,C,B,t⟩:=d.rv.c4;obtain⟨P,O,N,M,J,I,H,G,E⟩:=row9 d.rg;have j:=d.rv.lt;have k:=d.rg.lt;clear d;go_simp;exact pF r (F)
    refine rN rfl (λ L a A f l m q U F K r=>?_) ?_
    ·have aS:=U.v 15 124;have aQ:=U.v 17 126;go_simp;refine(ah.out f (W.bel.tR F)).mono ?_;rintro e w6 ⟨rfl,ag⟩;exact pF r (F.tR ag)
    refine rN rfl (λ L a A f l m q U F K r=>?_) ?_
    ·have aT:=U.v 14 123;have aP:=U.v 18 127;go_simp;exact pF r (F)
    refine rN rfl (λ L a A f l m q U F K r=>?_) ?_
    ·have aV:=U.v 12 121;have aO:=U.v 19 128;go_simp;exact pF r (F)
    refine rN rfl (λ L a A f l m q U F K r=>?_) ?_
    ·have aN:=U.v 20 129;go_simp;exact pF r (F)
    exact RelFrom.nil (by decide)
   intro a f hp F;simp only [Fr,Act.put,sX,Nat.reduceAdd];go_wp2_with fail;have az:a 21=.bool true:=hp 21 (by decide) _ rfl;rw [az];go_ret;exact⟨rfl,(W.below F).bel⟩
structure Rows (w wr:World) (L:List (Nat × TypeId × List Value)):Prop where
 bel:Below w.heap.size w wr
 at_:∀ p ∈ L,RowB wr (w.heap.size+p.1) p.2.1 p.2.2
section
variable {w wr w':World} {L:List (Nat × TypeId × List Value)}
theorem Rows.below (k:Rows w wr L) (hb:zB wr w'):Rows w w' L :=
 ⟨k.bel.tR hb,λ p hp=>(k.at_ p hp).below hb (k.at_ p hp).lt⟩
theorem Rows.nth (k:Rows w wr L) (i:Nat) {o:Nat} {t:TypeId} {cs:List Value} (h:L[i]?=some (o,t,cs)):RowB wr (w.heap.size+o) t cs:=k.at_ _ (List.mem_of_getElem? h)
theorem Rows.nth0 (k:Rows w wr L) (i:Nat) {t:TypeId} {cs:List Value} (h:L[i]?=some (0,t,cs)):RowB wr w.heap.size t cs:=k.at_ _ (List.mem_of_getElem? h)
theorem Rows.grown (k:Rows w wr L) (o:Nat) {t:TypeId} {new:List Value} (h:RowB w' (w.heap.size+o) t new) (hg:wr.grownBy w' (some (w.heap.size+o))):Rows w w' (L.map λ p=>if p.1=o then (o,t,new) else p):=by
 refine⟨⟨hg.os.trans k.bel.os,hg.tape.trans k.bel.tape,hg.output.trans k.bel.output,Nat.le_trans k.bel.size hg.size,λ i a=>(hg.block i (Nat.lt_of_lt_of_le a k.bel.size) (λ e=>by simp at e;omega)).trans (k.bel.block i a)⟩,λ p d=>?_⟩;obtain⟨q,c,rfl⟩:=List.mem_map.1 d;by_cases e:q.1=o
 ·rw [if_pos e];exact h
 ·rw [if_neg e];have r:=k.at_ q c;exact(hg.block _ r.lt (λ b=>by simp at b;exact e b)).trans r
theorem Rows.set1 (k:Rows w wr L) (o j:Nat) (v:Value):Rows w (wr.setCell ⟨w.heap.size+o,j,none⟩ v) (L.map λ p=>if p.1=o then (p.1,p.2.1,p.2.2.set j v) else p):=by
 have a:=Base.grownBy_setCell wr (w.heap.size+o) j v;refine⟨⟨a.os.trans k.bel.os,a.tape.trans k.bel.tape,a.output.trans k.bel.output,Nat.le_trans k.bel.size a.size,λ i b=>(a.block i (Nat.lt_of_lt_of_le b k.bel.size) (λ e=>by simp at e;omega)).trans (k.bel.block i b)⟩,λ p f=>?_⟩;obtain⟨q,d,rfl⟩:=List.mem_map.1 f;have r:=k.at_ q d;by_cases e:q.1=o
 ·rw [if_pos e];have:=r.set j v;rw [<-e];exact this
 ·rw [if_neg e];exact(a.block _ r.lt (λ c=>by simp at c;exact e c)).trans r
end
theorem BdR.grown {w w':World} {S:Nat->Prop} {u1 u2:Value} {b:Bd} {row:Option Nat} (h:BdR w S u1 u2 b) (hg:w.grownBy w' row) (hr:∀ g,row=some g->¬ S g):BdR w' S u1 u2 b:=h.keep (Still.grown hg hr)
theorem pair_s (a b:Int) (w:World):Calls prog 49 #[iL a,iL b] w λ e w'=>e=.returned (.agg #[iL (max a b),iL (min a b)])∧Below w.heap.size w w':=by
 go_enter func49,ntmps49;go_wp2_with fail
 all_goals go_returns
 all_goals (refine⟨?_,by go_grown⟩;first | rfl | ((have c:a=b:=(by omega));subst c;simp) | (rw [show max a b=b by omega,show min a b=a by omega]) | (rw [show max a b=a by omega,show min a b=b by omega]))
theorem pair_i (a b:Int) (w:World):Calls prog 132 #[iL a,iL b] w λ e w'=>e=.returned (.agg #[iL (max a b),iL (min a b)])∧Below w.heap.size w w':=by
 go_enter func132,ntmps132;go_wp2_with fail
 all_goals go_returns
 all_goals (refine⟨?_,by go_grown⟩;first | rfl | ((have c:a=b:=(by omega));subst c;simp) | (rw [show max a b=b by omega,show min a b=a by omega]) | (rw [show max a b=a by omega,show min a b=b by omega]))
theorem cloneg_i (v:Vr) (g:Gm) (hok:Ok v g.b) (S:Nat->Prop) (u1 u2:Value) (w:World) (hR:BdR w S u1 u2 g.b) :
  Calls prog 130 #[.agg ⟨gmC u1 u2 g⟩] w λ e w'=>Ret RelGV g (λ _=>False) w e w':=by
 obtain⟨⟨A1,c1,rfl,Y,k1⟩,⟨A2,c2,rfl,X,k2⟩⟩:=hR;have R:=kD (λ(L:World) (h9:zB w L)=>clone_i g.b.1 g.b.2 A1 A2 c1 c2 L.heap.size L lR (Y.keep (.below h9)).rd (X.keep (.below h9)).rd k1 k2 (by have:=hok.own.len;have:=hok.v1.1;omega) (by have:=hok.oth.len;have:=hok.v1.1;omega));obtain⟨l,h⟩:=eX (g.b.1.length);obtain⟨k,f⟩:=eX (g.b.2.length);rw [h,f] at R;rw [h,f];have E:=kD h;have D:=kD f;clear Y X hok h f;go_enter func130,ntmps130;go_upto_region 1 with fail;refine wp_gen (λ I=>Rows w I [(0,55,gmC (.slice A1 l c1) (.slice A2 k c2) g),(1,55,gM)]) ⟨by go_grown,λ p Z=>?_⟩ ?_
 ·simp only [List.mem_cons,List.not_mem_nil,or_false] at Z;rcases Z with rfl | rfl
  ·exact(nW).alloc _
  ·exact nX
 intro H K;have c:=K.nth0 0 rfl;obtain⟨A,z,y,x,t,s,r,q,o⟩:=row9 c;have d:=c.lt;have Q:Hid (w.heap.size+2<=H.heap.size):=(K.nth 1 rfl).lt;go_wp2_with fail;refine(R.out _ K.bel).mono ?_;rintro e T ⟨G,C,F,B,rfl,N,M,-,i⟩;have K:=K.below i;have aa:w.heap.size+2<=H.heap.size:=Q.out;have c:=K.nth0 0 rfl;clear A z y x t s r q o d i R;obtain⟨A,z,y,x,t,s,r,q,o⟩:=row9 c;have d:=c.lt;have P:=c.frozen;rw [E.out] at N;rw [D.out] at M;have m:BdR T (λ b=>w.heap.size+2<=b) (.slice G l C) (.slice F k B) g.b:=⟨(relV 1 enI).weak (OwnV.sl enI_len (OwnV.of N lR (S:=λ b=>H.heap.size<=b) (λ b i _=>i))) (λ b i _=>by omega),(relV 1 enI).weak (OwnV.sl enI_len (OwnV.of M lR (S:=λ b=>H.heap.size<=b) (λ b i _=>i))) (λ b i _=>by omega)⟩;have a:=kD m;clear N M m c;rw [E.out,D.out];go_upto_region 2 with fail;refine wp_gen (λ I=>Rows w I [(0,55,gmC (.slice G l C) (.slice F k B) g),(1,55,gM)]∧Hid (BdR I (λ b=>w.heap.size+2<=b) (.slice G l C) (.slice F k B) g.b)) ⟨(K.set1 0 0 _).set1 0 1 _,kD (a.out.grown (two_grown T (w.heap.size+0) _ _) (λ g O hs=>by simp at O;omega))⟩ ?_;clear K a A z y x t s r q o d P;rintro w3 ⟨K,a⟩;have c:=K.nth0 0 rfl;obtain⟨A,z,y,x,t,s,r,q,o⟩:=row9 c;have d:=c.lt;have W:=K.nth 1 rfl;go_wp2_with (refine wM 55 0 (gmC (.slice G l C) (.slice F k B) g) W ?_;intro w7 V j z7);have K:=K.grown 1 V j;have a:=kD (a.out.grown j (λ g O hs=>by simp at O;omega));obtain⟨z0,z1,z2,z3,z4,z5,z6,J,z8⟩:=row9 V;clear j A z y x t s r q o d c W;go_wp2_with fail;refine bodyPost_ret (v:=.agg ⟨gmC (.slice G l C) (.slice F k B) g⟩) (by simp [results,results130,go_sem,gmC,z0,z1,z2,z3,z4,z5,z6,J,z8]) rfl ?_;exact⟨_,rfl,⟨_,_,rfl,a.out.weak (λ b i _=>.inr (by omega))⟩,K.bel⟩
theorem owng_s (v:Vr) (g:Gm) (hok:Ok v g.b) (S:Nat->Prop) (u1 u2:Value) (w:World) (hR:BdR w S u1 u2 g.b) :
  Calls prog 138 #[.agg ⟨gmC u1 u2 g⟩] w λ e w'=>Ret RelGV g (λ _=>False) w e w':=by
 obtain⟨⟨X,V,rfl,r1,k1⟩,⟨W,T,rfl,r2,k2⟩⟩:=hR;have R:=kD (λ(i:World) (h9:zB w i)=>own02 X V i.heap.size g.b.1 i lR (r1.keep (.below h9)).rd k1 (by have:=hok.own.len;have:=hok.v1.1;omega));have Q:=kD (λ(i:World) (h9:zB w i)=>own02 W T i.heap.size g.b.2 i lR (r2.keep (.below h9)).rd k2 (by have:=hok.oth.len;have:=hok.v1.1;omega));obtain⟨H,s⟩:=eX (g.b.1.length);obtain⟨G,q⟩:=eX (g.b.2.length);rw [s] at R;rw [q] at Q;rw [s,q];have an:=kD s;have am:=kD q;clear r1 r2 hok s q;go_enter func138,ntmps138;go_upto_region 1 with fail;refine wp_gen (λ W'=>Rows w W' [(0,55,gmC (.slice X H V) (.slice W G T) g),(1,55,gM)]) ⟨by go_grown,λ p hp=>?_⟩ ?_
 ·simp only [List.mem_cons,List.not_mem_nil,or_false] at hp;rcases hp with rfl | rfl
  ·exact(nW).alloc _
  ·exact nX
 intro w1 m;have E:=m.nth0 0 rfl;have ad:=E.lt;have ag:Hid (w.heap.size+2<=w1.heap.size):=(m.nth 1 rfl).lt;refine region_rel [some 3,some 4,some 5,some 6,some 7,some 8,some 9,some 10,some 11,some 12,none] 11 (Pl [some (pT w.heap.size 0),some (pT w.heap.size 0),some (.slice X H V),none,some (pT w.heap.size 0),some (pT w.heap.size 1),some (.slice W G T),none,none,some (pT w.heap.size 0),none]) (λ L c w'=>C2E RelI g.b.1 RelI g.b.2 w1 3 7 8 10 (λ a b=>.agg #[a,b]) w.heap.size 55 (gmC (.slice X H V) (.slice W G T) g) (λ x=>aggC x++(gmC (.slice X H V) (.slice W G T) g).drop 2) L c w') (by kernel_rfl) (by kernel_rfl) (by kernel_rfl) (by kernel_rfl) (by kernel_rfl) (by kernel_rfl) (by first | kernel_rfl | rfl) ?g0_1 ?gst_1 ?gfin_1
 case g0_1=>exact⟨⟨rfl,rfl,rfl,Nat.le_refl _,λ _ _ _=>rfl⟩,ad,λ h=>absurd h (by decide),λ h=>absurd h (by decide),λ h=>absurd h (by decide),λ _=>E,λ h=>absurd h (by decide)⟩
 case gst_1 =>
  refine rN rfl (λ L c A i d f j U F K l=>?_) ?_
  ·have e1:=U.w 1 (pT w.heap.size 0);go_simp;exact pF l (F.skip 0 _)
  refine rN rfl (λ L c A i d f j U F K l=>?_) ?_
  ·have e3:=U.v 0 3;go_simp;exact pF l (F.skip 1 _)
  refine rN rfl (λ L c A i d f j U F K l=>?_) ?_
  ·have e4:=U.v 1 4;have r:=F.row (λ h=>d (j 10 2 (by kernel_rfl) h));have o:=row9 r;have g0:=o.1;have g1:=o.2.1;have ai:=r.lt;clear o;go_simp;exact pF l (F.skip 2 _)
  refine rN rfl (λ L c A i d f j U F K l=>?_) ?_
  ·have e5:=U.v 2 5;go_simp;refine(R.out i ⟨F.bel.os.trans m.bel.os,F.bel.tape.trans m.bel.tape,F.bel.output.trans m.bel.output,Nat.le_trans m.bel.size F.bel.size,λ k hk=>(F.bel.block k (Nat.lt_of_lt_of_le hk m.bel.size) (λ e=>by simp at e;omega)).trans (m.bel.block k hk)⟩).mono ?_;rintro e w6 ⟨⟨v6,rfl,I⟩,M⟩;exact l.out v6 w6 (Pl.any rfl) (F.call1 d (by decide) M (OwnV.sl enI_len (OwnV.of I lR (λ b hb _=>hb))))
  refine rN rfl (λ L c A i d f j U F K l=>?_) ?_
  ·have e1:=U.w 1 (pT w.heap.size 0);go_simp;exact pF l (F.skip 4 _)
  refine rN rfl (λ L c A i d f j U F K l=>?_) ?_
  ·have e7:=U.v 4 7;go_simp;exact pF l (F.skip 5 _)
  refine rN rfl (λ L c A i d f j U F K l=>?_) ?_
  ·have e8:=U.v 5 8;have r:=F.row (λ h=>d (j 10 6 (by kernel_rfl) h));have o:=row9 r;have g0:=o.1;have g1:=o.2.1;have ai:=r.lt;clear o;go_simp;exact pF l (F.skip 6 _)
  refine rN rfl (λ L c A i d f j U F K l=>?_) ?_
  ·have e9:=U.v 6 9;go_simp;refine(Q.out i ⟨F.bel.os.trans m.bel.os,F.bel.tape.trans m.bel.tape,F.bel.output.trans m.bel.output,Nat.le_trans m.bel.size F.bel.size,λ k hk=>(F.bel.block k (Nat.lt_of_lt_of_le hk m.bel.size) (λ e=>by simp at e;omega)).trans (m.bel.block k hk)⟩).mono ?_;rintro e w6 ⟨⟨v6,rfl,I⟩,M⟩;exact l.out v6 w6 (Pl.any rfl) (F.call2 d (by decide) M (OwnV.sl enI_len (OwnV.of I lR (λ b hb _=>hb))))
  refine rN rfl (λ L c A i d f j U F K l=>?_) ?_
  ·have e6:=U.x 3 6;have af:=U.x 7 10;refine(F.f1 (bK f 3)).elim λ B D=>?_
   refine D.elim λ y D=>?_
   refine(F.f2 (bK f 7)).elim λ z C=>?_
   refine C.elim λ t C=>?_
   have ap:=e6.trans D.1;have ao:=af.trans C.1;clear e6 af;go_simp;exact l.out _ i (Pl.any rfl) (F.built d (by decide) (bK f 3) (bK f 7) (by rw [D.1,C.1]))
  refine rN rfl (λ L c A i d f j U F K l=>?_) ?_
  ·have e1:=U.w 1 (pT w.heap.size 0);go_simp;exact pF l (F.skip 9 _)
  refine rN rfl (λ L c A i d f j U F K l=>?_) ?_
  ·have ak:=U.v 9 12;have al:=U.x 8 11;have fb:=F.fb (bK f 8);refine(F.f1 fb.1).elim λ B D=>?_
   refine D.elim λ y D=>?_
   refine(F.f2 fb.2.1).elim λ z C=>?_
   refine C.elim λ t C=>?_
   have N:=fb.2.2;rw [D.1,C.1] at N;refine wp_sm 51 _ _ rfl w.heap.size 0 [.slice B g.b.1.length y,.slice z g.b.2.length t] (gmC (.slice X H V) (.slice W G T) g) (ev ak) (ev (al.trans N)) 55 (F.row d) (by kernel_rfl) (show 2<=9 by decide) rfl ?_;exact l.out undef _ (Pl.any rfl) (F.wrote (by decide) d (bK f 8) 0 (by rw [N];rfl))
  exact RelFrom.nil (by decide)
 intro c i hp F;simp only [Fr,Act.put,sX,Nat.reduceAdd];obtain⟨-,r⟩:=F.fw trivial;obtain⟨-,-,ac⟩:=F.fb (F.fw trivial).1;obtain⟨B,y,e3,Z,ab⟩:=F.f1 trivial;obtain⟨z,t,e4,Y,aa⟩:=F.f2 trivial;rw [ac,e3,e4] at r;have ae:=F.bel;have J:BdR i (λ b=>w.heap.size+2<=b) (.slice B g.b.1.length y) (.slice z g.b.2.length t) g.b:=⟨⟨B,y,rfl,Z.weak (λ b h _=>by have:=ag.out;omega),ab⟩,⟨z,t,rfl,Y.weak (λ b h _=>by have:=ag.out;omega),aa⟩⟩;have r:RowB i (w.heap.size+0) 55 (gmC (.slice B g.b.1.length y) (.slice z g.b.2.length t) g):=r;have K:Rows w i [(0,55,gmC (.slice B g.b.1.length y) (.slice z g.b.2.length t) g),(1,55,gM)]:=m.grown 0 r ae;rw [an.out,am.out] at K J;have P:=kD J;clear F hp ac e3 e4 Z Y ab aa ae J r R Q m E ad;have rg:=K.nth0 0 rfl;obtain⟨g0,g1,g2,g3,g4,g5,g6,g7,g8⟩:=row9 rg;have aj:=rg.lt;have o:=K.nth 1 rfl;go_wp2_with (refine wM 55 0 (gmC (.slice B H y) (.slice z G t) g) o ?_;intro w7 s7 O z7);have K:=K.grown 1 s7 O;have P:=kD (P.out.grown O (λ g hg hs=>by simp at hg;omega));obtain⟨z0,z1,z2,z3,z4,z5,z6,ah,z8⟩:=row9 s7;clear O g0 g1 g2 g3 g4 g5 g6 g7 g8 aj rg o;go_wp2_with fail;refine bodyPost_ret (v:=.agg ⟨gmC (.slice B H y) (.slice z G t) g⟩) (by simp [results,results138,go_sem,gmC,z0,z1,z2,z3,z4,z5,z6,ah,z8]) rfl ?_;exact⟨_,rfl,⟨_,_,rfl,P.out.weak (λ b hb _=>.inr (by omega))⟩,K.bel⟩
theorem Rows.far {w wr w':World} {L:List (Nat × TypeId × List Value)} (k:Rows w wr L) {gx:Nat} (hg:wr.grownBy w' (some gx)) (h0:w.heap.size<=gx) (h:∀ p ∈ L,w.heap.size+p.1≠gx):Rows w w' L :=
 ⟨⟨hg.os.trans k.bel.os,hg.tape.trans k.bel.tape,hg.output.trans k.bel.output,Nat.le_trans k.bel.size hg.size,λ i hi=>(hg.block i (Nat.lt_of_lt_of_le hi k.bel.size) (λ e=>by simp at e;omega)).trans (k.bel.block i hi)⟩,λ p hp=>(hg.block _ (k.at_ p hp).lt (λ e=>by simp at e;exact h p hp e)).trans (k.at_ p hp)⟩
structure Gx (w wr:World) (L:List (Nat × TypeId × List Value)) (gx:Nat) (cs:List Value) (u3 u4:Value) (bd:Bd) (m:Nat):Prop where
 k:Rows w wr L
 rx:RowB wr gx 55 cs
 sd:BdR wr (λ b=>w.heap.size+m<=b∧b≠gx) u3 u4 bd
section
variable {w wr w':World} {L:List (Nat × TypeId × List Value)} {gx m:Nat} {cs:List Value} {u3 u4:Value} {bd:Bd}
theorem Gx.below (h:Gx w wr L gx cs u3 u4 bd m) (hb:zB wr w'):Gx w w' L gx cs u3 u4 bd m:=⟨h.k.below hb,h.rx.below hb h.rx.lt,h.sd.below hb⟩
theorem Gx.set1 (h:Gx w wr L gx cs u3 u4 bd m) (hx:w.heap.size+m<=gx) (hL:(L.all λ p=>decide (p.1<m))=true) (j:Nat) (v:Value):Gx w (wr.setCell ⟨gx,j,none⟩ v) L gx (cs.set j v) u3 u4 bd m :=
 ⟨h.k.far (Base.grownBy_setCell _ _ _ _) (by omega) (λ p hp=>by have:=of_decide_eq_true (List.all_eq_true.1 hL p hp);omega),h.rx.set j v,h.sd.grown (Base.grownBy_setCell _ _ _ _) (λ g hg hs=>by simp at hg;omega)⟩
theorem Gx.sides (h:Gx w wr L gx cs u3 u4 bd m) {v3 v4:Value} {b2:Bd} (hs:BdR wr (λ b=>w.heap.size+m<=b∧b≠gx) v3 v4 b2):Gx w wr L gx cs v3 v4 b2 m:=⟨h.k,h.rx,hs⟩
end
theorem side_new {w w':World} {l m:List Int} {A1 A2:Option Addr} {c1 c2:Nat} {S:Nat->Prop} (o1:OwnS w' w.heap.size w'.heap.size 2 1 enI (.slice A1 l.length c1) l) (o2:OwnS w' w.heap.size w'.heap.size 2 1 enI (.slice A2 m.length c2) m) (hS:∀ b,w.heap.size<=b->S b):BdR w' S (.slice A1 l.length c1) (.slice A2 m.length c2) (l,m) :=
 ⟨(relV 1 enI).weak (OwnV.sl enI_len (OwnV.of o1 lR (S:=λ b=>w.heap.size<=b) (λ b hb _=>hb))) (λ b hb _=>hS b hb),(relV 1 enI).weak (OwnV.sl enI_len (OwnV.of o2 lR (S:=λ b=>w.heap.size<=b) (λ b hb _=>hb))) (λ b hb _=>hS b hb)⟩
theorem open_s (v:Vr) (g:Gm) (hok:Ok v g.b) (S:Nat->Prop) (u1 u2:Value) (a b:Int) (w:World) (hR:BdR w S u1 u2 g.b) :
  Calls prog 137 #[.agg ⟨gmC u1 u2 g⟩,iL a,iL b] w λ e w'=>Ret RelGV (openG g a b) (λ _=>False) w e w':=by
 have HR:=kD hR;have CO:=kD (λ(P:World) (h9:zB w P)=>owng_s v g hok S u1 u2 P (HR.out.keep (.below h9)));have CP:=kD (λ(P:World)=>pair_s a b P);obtain⟨⟨A1,c1,rfl,r1,k1⟩,⟨A2,c2,rfl,r2,k2⟩⟩:=hR;have CS:=kD (λ(P:World) (h9:zB w P)=>swap_s g.b.1 g.b.2 A1 A2 c1 c2 P.heap.size P lR (r1.keep (.below h9)).rd (r2.keep (.below h9)).rd k1 k2 (by have:=hok.own.len;have:=hok.v1.1;omega) (by have:=hok.oth.len;have:=hok.v1.1;omega));obtain⟨i,R⟩:=eX (g.b.1.length);obtain⟨f,Q⟩:=eX (g.b.2.length);rw [R,Q] at CO CS;rw [R,Q];have W:=kD R;have V:=kD Q;obtain⟨x,hx⟩:=eX (max a b);obtain⟨y,hy⟩:=eX (min a b);rw [hx,hy] at CP;obtain⟨G,hG⟩:=eX (openG g a b);have ac:G=if a=b then g else { g with b:=if a<b then swp g.b else g.b,pl:=if a<b then 1 else g.pl,ph:=2,x:=x,y:=y }:=by rw [<-hG,<-hx,<-hy];rfl
 rw [hG];have HG:=kD ac;clear hG ac hx hy r1 r2 k1 k2 hok R Q;go_enter func137,ntmps137;go_upto_region 1 with fail;refine wp_gen (λ O=>Rows w O [(0,55,gmC (.slice A1 i c1) (.slice A2 f c2) g),(1,55,gM)]) ⟨by go_grown,λ p hp=>?_⟩ ?_
 ·simp only [List.mem_cons,List.not_mem_nil,or_false] at hp;rcases hp with rfl | rfl
  ·exact(nW).alloc _
  ·exact nX
 intro w1 K;have Z:=K.nth0 0 rfl;obtain⟨g0,g1,g2,g3,g4,g5,g6,g7,g8⟩:=row9 Z;have aa:=Z.lt;have ah:w.heap.size+2<=w1.heap.size:=(K.nth 1 rfl).lt;go_wp2_with fail;refine(CO.out _ K.bel).mono ?_;rintro e w2 ⟨v6,rfl,⟨u3,u4,rfl,T⟩,m⟩;have K:=K.below m;have ag:=m.size;have T:BdR w2 (λ b=>w.heap.size+2<=b) u3 u4 g.b:=T.weak (λ b m _=>m.elim False.elim (λ h=>by omega));have j:=kD T;clear g0 g1 g2 g3 g4 g5 g6 g7 g8 aa Z m T CO;obtain⟨⟨J,H,rfl,-,-⟩,⟨I,F,rfl,-,-⟩⟩:=id j.out;rw [W.out,V.out] at j;rw [W.out,V.out];simp only [gmC];go_upto_region 2 with fail;refine wp_gen (λ O=>Gx w O [(0,55,gmC (.slice A1 i c1) (.slice A2 f c2) g),(1,55,gM)] w2.heap.size (gmC (.slice J i H) (.slice I f F) g) (.slice J i H) (.slice I f F) g.b 2) ⟨K.below ((zRf).alloc lR _),nW,(j.out.weak (λ b h1 h2=>⟨h1,by omega⟩)).below ((zRf).alloc lR _)⟩ ?_;clear K j;intro w3 K;obtain⟨gx,ab⟩:=eX (w2.heap.size);rw [ab] at K ⊢;have l:w.heap.size+2<=gx:=by omega
 clear ab;by_cases hab:a=b
 ·have N:G=g:=by rw [HG.out,if_pos hab]
  subst N;have af:(a == b)=true:=by simpa using hab
  clear hab HG;obtain⟨E,D,C,B,A,z,t,s,r⟩:=row9 K.rx;have c:=K.rx.lt;have Y:=K.k.nth 1 rfl;go_wp2_with (refine wM 55 0 (gmC (.slice J i H) (.slice I f F) G) Y ?_;intro w7 X d z7);have j:=kD (K.sd.grown d (λ g hg hs=>by simp at hg;omega));have M:=(K.k.grown 1 X d).bel;obtain⟨z0,z1,z2,z3,z4,z5,z6,L,z8⟩:=row9 X;clear d E D C B A z t s r c Y K;go_wp2_with fail;refine bodyPost_ret (v:=.agg ⟨gmC (.slice J i H) (.slice I f F) G⟩) (by simp [results,results137,go_sem,gmC,z0,z1,z2,z3,z4,z5,z6,L,z8]) rfl ?_;exact⟨_,rfl,⟨_,_,rfl,j.out.weak (λ b m _=>.inr (by omega))⟩,M⟩
 have af:(a == b)=false:=by simpa using hab
 rw [if_neg hab] at HG;have o:=K.rx.frozen;have c:=K.rx.lt;obtain⟨E,D,C,B,A,z,t,s,r⟩:=row9 K.rx;clear hab;go_upto_region 5 with fail;refine wp_gen (λ O=>Gx w O [(0,55,gmC (.slice A1 i c1) (.slice A2 f c2) g),(1,55,gM)] gx (gmC (.slice J i H) (.slice I f F) { g with ph:=2 }) (.slice J i H) (.slice I f F) g.b 2) (K.set1 l rfl 5 _) ?_;clear K o c E D C B A z t s r;intro w4 K;go_wp2_with fail;refine(CP.out _).mono ?_;rintro e w5 ⟨rfl,m⟩;have K:=K.below m;have o:=K.rx.frozen;have c:=K.rx.lt;obtain⟨E,D,C,B,A,z,t,s,r⟩:=row9 K.rx;clear m CP;go_upto_region 6 with fail;refine wp_gen (λ O=>Gx w O [(0,55,gmC (.slice A1 i c1) (.slice A2 f c2) g),(1,55,gM)] gx (gmC (.slice J i H) (.slice I f F) { g with ph:=2,x:=x,y:=y }) (.slice J i H) (.slice I f F) g.b 2) ((K.set1 l rfl 3 _).set1 l rfl 4 _) ?_;clear K o c E D C B A z t s r;intro w6 K;by_cases hlt:a<b
 rotate_left
 ·have ae:decide (a<b)=false:=decide_eq_false hlt;have N:G={ g with ph:=2,x:=x,y:=y }:=by rw [HG.out];simp only [if_neg hlt]
  subst N;clear HG hlt;obtain⟨E,D,C,B,A,z,t,s,r⟩:=row9 K.rx;have c:=K.rx.lt;have Y:=K.k.nth 1 rfl;go_wp2_with (refine wM 55 0 (gmC (.slice J i H) (.slice I f F) { g with ph:=2,x:=x,y:=y }) Y ?_;intro w7 X d z7);have j:=kD (K.sd.grown d (λ g hg hs=>by simp at hg;omega));have M:=(K.k.grown 1 X d).bel;obtain⟨z0,z1,z2,z3,z4,z5,z6,L,z8⟩:=row9 X;clear d E D C B A z t s r c Y K;go_wp2_with fail;refine bodyPost_ret (v:=.agg ⟨gmC (.slice J i H) (.slice I f F) { g with ph:=2,x:=x,y:=y }⟩) (by simp [results,results137,go_sem,gmC,z0,z1,z2,z3,z4,z5,z6,L,z8]) rfl ?_;exact⟨_,rfl,⟨_,_,rfl,j.out.weak (λ b m _=>.inr (by omega))⟩,M⟩
 have ae:decide (a<b)=true:=decide_eq_true hlt;have N:G={ g with b:=swp g.b,pl:=1,ph:=2,x:=x,y:=y }:=by rw [HG.out];simp only [if_pos hlt]
 subst N;have o:=K.rx.frozen;have c:=K.rx.lt;obtain⟨E,D,C,B,A,z,t,s,r⟩:=row9 K.rx;clear HG hlt;go_upto_region 8 with fail;refine wp_gen (λ O=>Gx w O [(0,55,gmC (.slice A1 i c1) (.slice A2 f c2) g),(1,55,gM)] gx (gmC (.slice J i H) (.slice I f F) { g with pl:=1,ph:=2,x:=x,y:=y }) (.slice J i H) (.slice I f F) g.b 2) (K.set1 l rfl 2 _) ?_;clear K o c E D C B A z t s r;intro ad K;have Z:=K.k.nth0 0 rfl;obtain⟨g0,g1,g2,g3,g4,g5,g6,g7,g8⟩:=row9 Z;have aa:=Z.lt;go_wp2_with fail;refine(CS.out _ K.k.bel).mono ?_;rintro e w8 ⟨A5,c5,A6,c6,rfl,o5,o6,-,m⟩;have ai:gx<ad.heap.size:=K.rx.lt;have K:=K.below m;have K:=K.sides (side_new (S:=λ b=>w.heap.size+2<=b∧b≠gx) o5 o6 (λ b m=>⟨by omega,by omega⟩));have o:=K.rx.frozen;have c:=K.rx.lt;obtain⟨E,D,C,B,A,z,t,s,r⟩:=row9 K.rx;clear m o5 o6 CS g0 g1 g2 g3 g4 g5 g6 g7 g8 aa Z;rw [W.out,V.out] at K;rw [W.out,V.out];go_upto_region 9 with fail;refine wp_gen (λ O=>Gx w O [(0,55,gmC (.slice A1 i c1) (.slice A2 f c2) g),(1,55,gM)] gx (gmC (.slice A5 f c5) (.slice A6 i c6) { g with b:=swp g.b,pl:=1,ph:=2,x:=x,y:=y }) (.slice A5 f c5) (.slice A6 i c6) (swp g.b) 2) ((K.set1 l rfl 0 _).set1 l rfl 1 _) ?_;clear K o c E D C B A z t s r;intro P K;obtain⟨E,D,C,B,A,z,t,s,r⟩:=row9 K.rx;have c:=K.rx.lt;have Y:=K.k.nth 1 rfl;go_wp2_with (refine wM 55 0 (gmC (.slice A5 f c5) (.slice A6 i c6) { g with b:=swp g.b,pl:=1,ph:=2,x:=x,y:=y }) Y ?_;intro w7 X d z7);have j:=kD (K.sd.grown d (λ g hg hs=>by simp at hg;omega));have M:=(K.k.grown 1 X d).bel;obtain⟨z0,z1,z2,z3,z4,z5,z6,L,z8⟩:=row9 X;clear d E D C B A z t s r c Y K;go_wp2_with fail;refine bodyPost_ret (v:=.agg ⟨gmC (.slice A5 f c5) (.slice A6 i c6) { g with b:=swp g.b,pl:=1,ph:=2,x:=x,y:=y }⟩) (by simp [results,results137,go_sem,gmC,z0,z1,z2,z3,z4,z5,z6,L,z8]) rfl ?_;exact⟨_,rfl,⟨_,_,rfl,j.out.weak (λ b m _=>.inr (by omega))⟩,M⟩
end Gm
end Go.Proofs.YtjdefiinmicjiaaGreatDoor
