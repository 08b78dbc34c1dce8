/- Parts of the proof of FnExactMatchText. Conditions: each theorem's own. -/
import Derived.Test.YtblipmifflfnoaaGreatDoorV18
set_option linter.unusedVariables false
set_option linter.unusedSimpArgs false
set_option maxHeartbeats 8000000
set_option maxRecDepth 100000
namespace Go.Proofs.YtblipmifflfnoaaGreatDoor
namespace Bd3I
open Go.ChangeShapes Go.WideShapes Go.ChangeAt Go.RowKit Base Ints Own Clone RelG PlP Bd1 Bd2 RegInv RegF
theorem apart_no {v:Vr} {b:Bd} {n k:Nat} (hk:k<n) (h:0<at_ b.1 k∧0<at_ b.2 (v.p.toNat - 1 - k)):apart v b n=false:=by
 cases hc:apart v b n with
 | false=>rfl
 | true=>exact absurd h ((apart_iff n).1 hc k hk)
theorem apart_step {v:Vr} {b:Bd} {k:Nat} (h:apart v b k=true) (hn:¬ (0<at_ b.1 k∧0<at_ b.2 (v.p.toNat - 1 - k))):apart v b (k+1)=true:=by
 refine(apart_iff (k+1)).2 λ i a=>?_
 by_cases e:i=k
 ·subst e;exact hn
 ·exact(apart_iff k).1 h i (by omega)
theorem okB_eq (v:Vr) (b:Bd):okB v b=(okV v && okS v b.1 && okS v b.2 && !(decide (b.1.sum=0) && decide (b.2.sum=0)) && apart v b v.p.toNat):=rfl
theorem isB_i (v:Vr) (b:Bd) (Ao At:Option Addr) (co ct B:Nat) (w:World) (hB:B<=w.heap.size) (ho:RdS w B 1 enI Ao b.1) (ht:RdS w B 1 enI At b.2) (x:Bool) (hx:okB v b=x) :
  Calls Tryz.prog 168 #[.agg #[.int .i64 v.p,.int .i64 v.c,.int .i64 v.h,.int .i64 v.s],.agg #[.slice Ao b.1.length co,.slice At b.2.length ct]] w λ e w'=>e=.returned (.bool x)∧Below w.heap.size w w':=by
 rw [okB_eq] at hx;obtain⟨a,ha⟩:∃ a,okV v=a:=⟨_,rfl⟩;obtain⟨s1,N⟩:∃ a,okS v b.1=a:=⟨_,rfl⟩;obtain⟨s2,M⟩:∃ a,okS v b.2=a:=⟨_,rfl⟩;rw [ha,N,M] at hx;have S:=kD hx;have HA:=kD ha;have H1:=kD N;have H2:=kD M;have HO:=kD ho;have HT:=kD ht;have CV:=kD (λ w=>var_i v a ha w);clear hx ha N M ho ht;go_enter Tryz.func168,Tryz.ntmps168;go_upto_region 1 with fail;refine wp_gen (λ W'=>Below w.heap.size w W'∧RowB W' w.heap.size 23 (vL v)∧RowB W' (w.heap.size+1) 46 [.slice Ao b.1.length co,.slice At b.2.length ct]) ⟨by go_grown,(RowB.new _ _ _).alloc _,RowB.new' _ _ _ (by simp)⟩ ?_;rintro w1 ⟨O,d,f⟩;obtain⟨G,F,E,D⟩:=d.c4;obtain⟨C,A⟩:=f.c2;have q:=d.lt;have o:=f.lt;go_wp2_with fail;refine(CV.out _).mono ?_;rintro e w2 ⟨rfl,n⟩;have d:=d.below n d.lt;have f:=f.below n f.lt;have n:=O.trans (n.mono O.size);clear G F E D C A q o O;obtain⟨G,F,E,D⟩:=d.c4;obtain⟨C,A⟩:=f.c2;have q:=d.lt;have o:=f.lt
 cases a
 case false =>
  obtain rfl:x=false:=by rw [<-S.out];rfl
  go_wp2_with fail;go_ret;exact⟨rfl,n⟩
 have ac:=okV_iff.1 HA.out;go_wp2_with fail;refine(side_i v HA.out Ao co B b.1 s1 H1.out w2 (Nat.le_trans hB n.size) (HO.out.below n hB)).mono ?_;rintro e w3 ⟨rfl,m⟩;have d:=d.below m d.lt;have f:=f.below m f.lt;have m:=n.trans (m.mono n.size);clear G F E D C A q o n;obtain⟨G,F,E,D⟩:=d.c4;obtain⟨C,A⟩:=f.c2;have q:=d.lt;have o:=f.lt
 cases s1
 case false =>
  obtain rfl:x=false:=by rw [<-S.out];rfl
  go_wp2_with fail;go_ret;exact⟨rfl,m⟩
 have d1:=okS_iff.1 H1.out;go_wp2_with fail;refine(side_i v HA.out At ct B b.2 s2 H2.out w3 (Nat.le_trans hB m.size) (HT.out.below m hB)).mono ?_;rintro e w4 ⟨rfl,l⟩;have d:=d.below l d.lt;have f:=f.below l f.lt;have l:=m.trans (l.mono m.size);clear G F E D C A q o m;obtain⟨G,F,E,D⟩:=d.c4;obtain⟨C,A⟩:=f.c2;have q:=d.lt;have o:=f.lt
 cases s2
 case false =>
  obtain rfl:x=false:=by rw [<-S.out];rfl
  go_wp2_with fail;go_ret;exact⟨rfl,l⟩
 have Z:=okS_iff.1 H2.out;have D1:=kD d1;have D2:=kD Z;have N1:=d1.len;have N2:=Z.len;have S1:=kD (λ w (h:RdS w B 1 enI Ao b.1)=>sum_i Ao co B b.1 w h (λ i=>⟨d1.nn i,by have:=d1.top i;omega⟩) (by omega));have S2:=kD (λ w (h:RdS w B 1 enI At b.2)=>sum_i At ct B b.2 w h (λ i=>⟨Z.nn i,by have:=Z.top i;omega⟩) (by omega));clear d1 Z;go_wp2_with fail;refine(S1.out _ (HO.out.below l hB)).mono ?_;rintro e w5 ⟨rfl,rfl⟩;have t:Hid (¬ (b.1.sum=0∧b.2.sum=0)->apart v b v.p.toNat=x):=kD (λ h=>by
  rw [<-S.out];have:(decide (b.1.sum=0) && decide (b.2.sum=0))=false:=by
   cases e:(decide (b.1.sum=0) && decide (b.2.sum=0)) with
   | false=>rfl
   | true=>exact absurd (by simpa using e) h
  rw [this];rfl)
 obtain⟨z1,I⟩:∃ z,b.1.sum=z:=⟨_,rfl⟩;obtain⟨W,H⟩:∃ z,b.2.sum=z:=⟨_,rfl⟩;have R:=kD S2.out;rw [I] at t S ⊢;rw [H] at t S R;clear S2 S1;by_cases hzz:z1=0∧W=0
 case pos =>
  obtain rfl:x=false:=by rw [<-S.out];simp [hzz]
  obtain⟨rfl,rfl⟩:=hzz;clear I H;go_wp2_with fail;refine(R.out _ (HT.out.below l hB)).mono ?_;rintro e w5 ⟨rfl,rfl⟩;go_wp2_with fail;go_ret;exact⟨rfl,l⟩
 have J:=kD (t.out hzz);clear t;have ad:0<=v.p:=by omega
 have go:∀(K:World->Prop),K w4->True:=λ _ _=>trivial
 clear go;have e5:(W == 0)=decide (W=0):=by first | rfl | simp
 by_cases hz10:z1=0
 ·have L:¬ W=0:=λ h=>hzz ⟨hz10,h⟩
  have P:(z1 == 0)=true:=by simp [hz10]
  have V:(W == 0)=false:=by simp [L]
  clear hzz hz10 L I H e5;go_wp2_with fail;refine(R.out _ (HT.out.below l hB)).mono ?_;rintro e w5 ⟨rfl,rfl⟩;go_wp2_with fail;go_loopw [37] (λ i wr=>∃(k:Nat),(k:Int)<=v.p∧i=.int .i64 (k:Int)∧Hid (Below w.heap.size w wr)∧RowB wr w.heap.size 23 (vL v)∧RowB wr (w.heap.size+1) 46 [.slice Ao b.1.length co,.slice At b.2.length ct]∧Hid (apart v b k=true)) (λ i _=>v.p.toNat - (intOf i).toNat)
  case atStart=>exact⟨0,by omega,by first | rfl | trivial,kD l,d,f,rfl⟩
  case round =>
   obtain⟨k,hk,rfl,y,d,f,r⟩:=hrel;clear G F E D C A q o;obtain⟨G,F,E,D⟩:=d.c4;obtain⟨C,A⟩:=f.c2;by_cases hlt:(k:Int)<v.p
   ·obtain⟨b1,o1,rfl,Y,ab⟩:=at_rd (HO.out.below y.out hB) (i:=k) (by omega);have Q:(v.p - 1 - (k:Int)).toNat=v.p.toNat - 1 - k:=by omega
    obtain⟨j,hj⟩:∃ j:Nat,v.p - 1 - (k:Int)=(j:Int):=⟨(v.p - 1 - (k:Int)).toNat,by omega⟩;have g:v.p.toNat - 1 - k=j:=by omega
    obtain⟨b2,o2,rfl,X,aa⟩:=at_rd (HT.out.below y.out hB) (i:=j) (by omega);have e1:IntKind.i64.wrap (v.p - 1)=v.p - 1:=IntWalk.i64_in _ (by omega);have e2:IntKind.i64.wrap (v.p - 1 - (k:Int))=(j:Int):=by rw [hj];exact IntWalk.i64_in _ (by omega)
    by_cases P:0<at_ b.1 k
    ·by_cases V:0<at_ b.2 j
     ·obtain rfl:x=false:=by rw [<-J.out];exact apart_no (k:=k) (by omega) ⟨P,by rw [g];exact V⟩
      clear Q g;go_wp2_with fail;go_ret;exact⟨rfl,y.out⟩
     ·have T:Hid (apart v b (k+1)=true):=kD (apart_step r.out (λ h=>V (by rw [<-g];exact h.2)));clear Q g;go_wp2_with fail;go_roundw
      case rel=>exact⟨k+1,by omega,by go_num,y,d,f,T⟩
      case measure=>simp [intOf];omega
    ·have T:Hid (apart v b (k+1)=true):=kD (apart_step r.out (λ h=>P h.1));clear Q g;go_wp2_with fail;go_roundw
     case rel=>exact⟨k+1,by omega,by go_num,y,d,f,T⟩
     case measure=>simp [intOf];omega
   ·obtain rfl:x=true:=by rw [<-J.out,<-r.out];congr 1;omega
    go_wp2_with fail;go_ret;exact⟨rfl,y.out⟩
 ·have P:(z1 == 0)=false:=by simp [hz10]
  clear hzz hz10 I H e5;go_wp2_with fail;go_loopw [37] (λ i wr=>∃(k:Nat),(k:Int)<=v.p∧i=.int .i64 (k:Int)∧Hid (Below w.heap.size w wr)∧RowB wr w.heap.size 23 (vL v)∧RowB wr (w.heap.size+1) 46 [.slice Ao b.1.length co,.slice At b.2.length ct]∧Hid (apart v b k=true)) (λ i _=>v.p.toNat - (intOf i).toNat)
  case atStart=>exact⟨0,by omega,by first | rfl | trivial,kD l,d,f,rfl⟩
  case round =>
   obtain⟨k,hk,rfl,y,d,f,r⟩:=hrel;clear G F E D C A q o;obtain⟨G,F,E,D⟩:=d.c4;obtain⟨C,A⟩:=f.c2;by_cases hlt:(k:Int)<v.p
   ·obtain⟨b1,o1,rfl,Y,ab⟩:=at_rd (HO.out.below y.out hB) (i:=k) (by omega);have Q:(v.p - 1 - (k:Int)).toNat=v.p.toNat - 1 - k:=by omega
    obtain⟨j,hj⟩:∃ j:Nat,v.p - 1 - (k:Int)=(j:Int):=⟨(v.p - 1 - (k:Int)).toNat,by omega⟩;have g:v.p.toNat - 1 - k=j:=by omega
    obtain⟨b2,o2,rfl,X,aa⟩:=at_rd (HT.out.below y.out hB) (i:=j) (by omega);have e1:IntKind.i64.wrap (v.p - 1)=v.p - 1:=IntWalk.i64_in _ (by omega);have e2:IntKind.i64.wrap (v.p - 1 - (k:Int))=(j:Int):=by rw [hj];exact IntWalk.i64_in _ (by omega)
    by_cases P:0<at_ b.1 k
    ·by_cases V:0<at_ b.2 j
     ·obtain rfl:x=false:=by rw [<-J.out];exact apart_no (k:=k) (by omega) ⟨P,by rw [g];exact V⟩
      clear Q g;go_wp2_with fail;go_ret;exact⟨rfl,y.out⟩
     ·have T:Hid (apart v b (k+1)=true):=kD (apart_step r.out (λ h=>V (by rw [<-g];exact h.2)));clear Q g;go_wp2_with fail;go_roundw
      case rel=>exact⟨k+1,by omega,by go_num,y,d,f,T⟩
      case measure=>simp [intOf];omega
    ·have T:Hid (apart v b (k+1)=true):=kD (apart_step r.out (λ h=>P h.1));clear Q g;go_wp2_with fail;go_roundw
     case rel=>exact⟨k+1,by omega,by go_num,y,d,f,T⟩
     case measure=>simp [intOf];omega
   ·obtain rfl:x=true:=by rw [<-J.out,<-r.out];congr 1;omega
    go_wp2_with fail;go_ret;exact⟨rfl,y.out⟩
end Bd3I
namespace Gm
open Go Go.ChangeShapes Go.WideShapes Go.ChangeAt Go.RowKit Base Ints Own Clone RelG PlP Bd1 Bd2 Bd5 Bd6 Bd7 Bd8 RegInv RegF RegG
theorem newg_i (v:Vr) (hv:okV v=true) (h4:4<=v.p) (w:World):Calls Tryz.prog 53 #[.agg #[.int .i64 v.p,.int .i64 v.c,.int .i64 v.h,.int .i64 v.s]] w λ e w'=>Ret RelGI (some (newG v)) (λ _=>False) w e w':=by
 have CV:=kD (λ E=>var_i v true hv E);have CS:=kD (λ E=>start_i v hv h4 E);clear hv h4;go_enter Tryz.func53,Tryz.ntmps53;go_upto_region 1 with fail;refine wp_gen (λ l=>Below w.heap.size w l∧RowB l w.heap.size 23 (vL v)∧RowB l (w.heap.size+1) 50 gM) ⟨by go_grown,(RowB.new _ _ _).alloc _,RowB.new' _ _ _ (by simp)⟩ ?_;rintro w1 ⟨a,z,f⟩;obtain⟨J,I,H,G⟩:=z.c4;go_wp2_with fail;refine(CV.out _).mono ?_;rintro e w2 ⟨rfl,k⟩;have a:=a.trans (k.mono a.size);have z:=z.below k z.lt;have f:=f.below k f.lt;clear J I H G k;obtain⟨J,I,H,G⟩:=z.c4;go_wp2_with fail;refine(CS.out _).mono ?_;rintro e O ⟨v6,rfl,⟨u3,u4,b3,rfl,j,i⟩,q⟩;obtain rfl:=i _ rfl;have aa:w.heap.size+2<=w2.heap.size:=f.lt;have a:=a.trans (q.mono a.size);have f:=f.below q f.lt;obtain⟨⟨y,t,rfl,Q,k5⟩,⟨x,r,rfl,P,k6⟩⟩:=j;have j:BdR O (λ b=>w.heap.size+2<=b) (.slice y (startB v).1.length t) (.slice x (startB v).2.length r) (startB v):=⟨⟨y,t,rfl,Q.weak (λ b C _=>C.elim False.elim (λ h=>by omega)),k5⟩,⟨x,r,rfl,P.weak (λ b C _=>C.elim False.elim (λ h=>by omega)),k6⟩⟩;have d:=kD j;obtain⟨B,o⟩:∃ n,(startB v).1.length=n:=⟨_,rfl⟩;obtain⟨A,m⟩:∃ n,(startB v).2.length=n:=⟨_,rfl⟩;rw [o,m] at d;rw [o,m];clear J I H G z j Q P o m q i;go_upto_region 4 with fail;refine wp_gen (λ l=>Below w.heap.size w l∧RowB l (w.heap.size+1) 50 gM∧RowB l O.heap.size 46 [.slice y B t,.slice x A r]∧Hid (BdR l (λ b=>w.heap.size+2<=b) (.slice y B t) (.slice x A r) (startB v))) ⟨a.alloc a.size _,f.alloc _,RowB.new _ _ _,kD (d.out.keep (.below ((Below.refl _ _).alloc (Nat.le_refl _) _)))⟩ ?_;clear a f d;rintro w4 ⟨a,f,F,d⟩;obtain⟨x0,x1⟩:=F.c2;have K:=F.lt;go_wp2_with (refine wpL_sm 50 _ _ rfl (w.heap.size+1) 0 (gmC (.slice y B t) (.slice x A r) (newG v)) (gmC (.slice none 0 0) (.slice none 0 0) nulG) (gmC (.slice y B t) (.slice x A r) (newG v)) rfl rfl 50 f (by kernel_rfl) (Nat.le_refl _) rfl rfl ?_;intro w7 s7 N z7);have M:Below w.heap.size w w7:=a.grown N a.size (λ g L=>by simp at L;omega);have d:=kD (d.out.keep (Still.grown N (λ g L hs=>by simp at L;omega)));obtain⟨Z,Y,X,W,V,T,S,D,R⟩:=row9 s7;clear a f F x0 x1 K N;go_wp2_with fail;refine bodyPost_ret (v:=.tuple #[.agg ⟨gmC (.slice y B t) (.slice x A r) (newG v)⟩,.int .i64 0]) (by simp [results,Tryz.results53,go_sem,gmC,newG,Z,Y,X,W,V,T,S,D,R]) rfl ?_;exact⟨_,rfl,⟨_,_,_,0,rfl,d.out.weak (λ b C _=>.inr (by omega)),(λ g0 h=>⟨by simpa using h,rfl⟩),(λ h=>by cases h)⟩,M⟩
theorem gm_zero {v:Vr} {g:Gm} (h:gmB v g=true) (h0:g.ph=0):g=newG v:=by
 obtain⟨b,n,x,y,o,k,m,l⟩:=g;simp only at h0;subst h0;unfold gmB at h;simp at h;obtain⟨⟨-,c,a⟩,j,i,f,e,d⟩:=h;subst j i f e d c a
 rfl
theorem gm_rest {v:Vr} {g:Gm} (h:gmB v g=true):(g.ph=2->rollB v g.x g.y=true)∧(¬ g.ph=2->g.x=0∧g.y=0)∧(g.ph=0∨g.ph=1∨g.ph=2∨g.ph=3)∧(g.ph=3->(over g.b=true->g.b.1.sum=0∧g.wn=g.pl∧g.rs=resP v g.b)∧(over g.b=false->g.wn=1 - g.pl∧1<=g.rs∧g.rs<=3)):=by
 unfold gmB at h;simp only [Bool.and_eq_true,decide_eq_true_eq] at h;obtain⟨⟨⟨⟨⟨n,m⟩,l⟩,k⟩,i⟩,e⟩:=h;refine⟨λ f=>by rw [if_pos f] at i;exact i,λ f=>by rw [if_neg f] at i;exact of_decide_eq_true i,?_,λ f=>?_⟩
 ·by_cases a:g.ph=0
  ·exact .inl a
  ·rw [if_neg a] at e;by_cases c:g.ph=1∨g.ph=2
   ·rcases c with c | c
    ·exact .inr (.inl c)
    ·exact .inr (.inr (.inl c))
   ·rw [if_neg c] at e;by_cases d:g.ph=3
    ·exact .inr (.inr (.inr d))
    ·rw [if_neg d] at e;cases e
 ·rw [if_neg (by omega),if_neg (by omega),if_pos f] at e;refine⟨λ j=>by rw [if_pos j] at e;exact of_decide_eq_true e,λ j=>?_⟩;rw [if_neg (by rw [j];decide)] at e;exact of_decide_eq_true e
structure Gb (w wr:World) (v:Vr) (u1 u2:Value) (g:Gm):Prop where
 bel:Below w.heap.size w wr
 rv:RowB wr w.heap.size 23 (vL v)
 rg:RowB wr (w.heap.size+1) 50 [u1,u2,.int .i64 g.pl,.int .i64 g.x,.int .i64 g.y,.int .i64 g.ph,.int .i64 g.wn,.int .i64 g.rs,.int .i64 g.tn]
theorem Gb.below {w wr w':World} {v:Vr} {u1 u2:Value} {g:Gm} (k:Gb w wr v u1 u2 g) (hb:Below wr.heap.size wr w'):Gb w w' v u1 u2 g :=
 ⟨k.bel.trans (hb.mono k.bel.size),k.rv.below hb k.rv.lt,k.rg.below hb k.rg.lt⟩
structure NwF (w1:World) (v:Vr) (p22 p23:Prop) (v22 v23:Value) (w':World):Prop where
 bel:Below w1.heap.size w1 w'
 f22:p22->RelGV.R w' All v22 (newG v)
 f23:p23->RelBV.R w' All v23 (startB v)
section
variable {w1 w' w'':World} {v:Vr} {p22 p23:Prop} {v22 v23:Value}
theorem NwF.below (F:NwF w1 v p22 p23 v22 v23 w') (hb:Below w'.heap.size w' w''):NwF w1 v p22 p23 v22 v23 w'' :=
 ⟨F.bel.trans (hb.mono F.bel.size),λ h=>RelGV.keep (F.f22 h) (.below hb),λ h=>RelBV.keep (F.f23 h) (.below hb)⟩
theorem NwF.skip {L:Nat->Prop} {vals:Nat->Value} (F:NwF w1 v (L 22) (L 23) (vals 22) (vals 23) w') (k:Nat) (z:Value) (h1:22≠k:=by decide) (h2:23≠k:=by decide):NwF w1 v (22=k∨L 22) (23=k∨L 23) (upd vals k z 22) (upd vals k z 23) w':=by
 rw [or_ne h1,or_ne h2,upd_ne h1,upd_ne h2];exact F
theorem NwF.s22 (F:NwF w1 v p22 p23 v22 v23 w') (hb:Below w'.heap.size w' w'') {z:Value} (h:RelGV.R w'' All z (newG v)):NwF w1 v True p23 z v23 w'' :=
 ⟨F.bel.trans (hb.mono F.bel.size),λ _=>h,λ h=>RelBV.keep (F.f23 h) (.below hb)⟩
theorem NwF.s23 (F:NwF w1 v p22 p23 v22 v23 w') {z:Value} (h:RelBV.R w' All z (startB v)):NwF w1 v p22 True v22 z w' :=
 ⟨F.bel,F.f22,λ _=>h⟩
end
theorem isg_s (v:Vr) (g:Gm) (hg:gmB v g=true) (S:Nat->Prop) (u1 u2:Value) (w:World) (hR:BdR w S u1 u2 g.b) :
  Calls Tryz.prog 108 #[.agg #[.int .i64 v.p,.int .i64 v.c,.int .i64 v.h,.int .i64 v.s],.agg ⟨gmC u1 u2 g⟩] w λ e w'=>e=.returned (.bool true)∧Below w.heap.size w w':=by
 have Y:=gm_parts hg;have hq:=gm_rest hg;have T:=Y.1;have af:okV v=true:=okV_iff.2 T.v1;have aN:=kD (gm_zero hg);have aG:=kD hR;obtain⟨⟨A1,c1,rfl,r1,k1⟩,⟨A2,c2,rfl,r2,k2⟩⟩:=hR;obtain⟨o,ho⟩:∃ o,over g.b=o:=⟨_,rfl⟩;have CV:=kD (λ m=>var_s v true af m);have CB:=kD (λ(m:World) (Z:Below w.heap.size w m)=>Bd3.isB_s v g.b A1 A2 c1 c2 m.heap.size m (Nat.le_refl _) (r1.keep (.below Z)).rd (r2.keep (.below Z)).rd true (okB_iff.2 T));have CP:=kD (λ m=>in_s g.pl 0 1 true (decide_eq_true Y.2.2.1) m);have CT:=kD (λ m=>in_s g.tn 0 2000 true (decide_eq_true Y.2.2.2.1) m);have ai:=kD (λ(m:World) (Z:Below w.heap.size w m)=>over_s v g.b T A1 A2 c1 c2 m.heap.size m (Nat.le_refl _) (r1.keep (.below Z)).rd (r2.keep (.below Z)).rd o ho);have ar:=kD (λ(hr:rollB v g.x g.y=true) m=>TsI.isroll_ws v af g.x g.y true hr m);have aP:=kD (λ m=>new_s v af Y.2.1 m);have aq:=kD (λ(m:World) (Z:Below w.heap.size w m)=>sum_s A1 c1 m.heap.size g.b.1 m (r1.keep (.below Z)).rd (λ i=>⟨T.own.nn i,by have:=T.own.top i;have:=T.v1;omega⟩) (by have:=T.own.len;have:=T.v1;omega));have ah:=kD (λ(z:Int) (hz:resP v g.b=z) (m:World) (Z:Below w.heap.size w m)=>res_s v g.b T S _ _ z hz m (aG.out.keep (.below Z)));have av:=kD (λ(h:1<=g.rs∧g.rs<=3) m=>in_s g.rs 1 3 true (decide_eq_true h) m);obtain⟨n1,ab⟩:∃ n,g.b.1.length=n:=⟨_,rfl⟩;obtain⟨n2,ag⟩:∃ n,g.b.2.length=n:=⟨_,rfl⟩;rw [ab] at aq;rw [ab,ag] at CB ai ah aG;rw [ab,ag];have a8:decide (v.p<4)=false:=decide_eq_false (by have:=Y.2.1;omega);have HQ:=kD hq;have aM:Hid (0<n1∧n1<=1000):=by have:=T.own.len;have:=T.v1;exact⟨by omega,by omega⟩
 have R1:=kD r1;have R2:=kD r2;have HP:=kD Y.2.2.2.2.2;have aL:=kD Y.2.2.1;have HO:=kD ho;have ap:=kD ab;have ao:=kD ag;clear hq Y T af hg ho r1 r2 k1 k2 ab ag;go_enter Tryz.func108,Tryz.ntmps108;go_upto_region 1 with fail;refine wp_gen (λ W'=>Gb w W' v (.slice A1 n1 c1) (.slice A2 n2 c2) g) ⟨by go_grown,(RowB.new _ _ _).alloc _,RowB.new' _ _ _ (by simp)⟩ ?_;intro w1 K;obtain⟨E,D,C,B⟩:=K.rv.c4;obtain⟨Q,P,O,N,M,J,I,H,G⟩:=row9 K.rg;have r:=K.rv.lt;have t:=K.rg.lt;go_wp2_with fail;refine(CV.out _).mono ?_;rintro e w2 ⟨rfl,X⟩;have K:=K.below X;clear E D C B Q P O N M J I H G r t;clear X;obtain⟨E,D,C,B⟩:=K.rv.c4;obtain⟨Q,P,O,N,M,J,I,H,G⟩:=row9 K.rg;have r:=K.rv.lt;have t:=K.rg.lt;go_wp2_with fail;refine(CB.out _ K.bel).mono ?_;rintro e w2 ⟨rfl,X⟩;have K:=K.below X;clear E D C B Q P O N M J I H G r t;clear X;obtain⟨E,D,C,B⟩:=K.rv.c4;obtain⟨Q,P,O,N,M,J,I,H,G⟩:=row9 K.rg;have r:=K.rv.lt;have t:=K.rg.lt;go_wp2_with fail;refine(CP.out _).mono ?_;rintro e w2 ⟨rfl,rfl⟩;go_wp2_with fail;refine(CT.out _).mono ?_;rintro e w2 ⟨rfl,rfl⟩;clear CV CB CP CT;by_cases h2:g.ph=2
 ·have e2:(g.ph == 2)=true:=by rw [h2];rfl
  have ar:=kD (ar.out (HQ.out.1 h2));obtain⟨aa,V,W⟩:=HP.out (.inr h2);obtain rfl:o=false:=HO.out.symm.trans aa;have e0:(g.ph == 0)=false:=by rw [h2];rfl
  have e1:(g.ph == 1)=false:=by rw [h2];rfl
  have ew:(g.wn == 0)=true:=by rw [V];rfl
  have er:(g.rs == 0)=true:=by rw [W];rfl
  clear h2 aa V W;go_wp2_with fail;refine(ar.out _).mono ?_;rintro e w2 ⟨rfl,X⟩;have K:=K.below X;clear E D C B Q P O N M J I H G r t;clear X;obtain⟨E,D,C,B⟩:=K.rv.c4;obtain⟨Q,P,O,N,M,J,I,H,G⟩:=row9 K.rg;have r:=K.rv.lt;have t:=K.rg.lt;go_wp2_with fail;refine(ai.out _ K.bel).mono ?_;rintro e w2 ⟨rfl,X⟩;have K:=K.below X;clear E D C B Q P O N M J I H G r t;clear X;obtain⟨E,D,C,B⟩:=K.rv.c4;obtain⟨Q,P,O,N,M,J,I,H,G⟩:=row9 K.rg;have r:=K.rv.lt;have t:=K.rg.lt;go_wp2_with fail;go_ret;exact⟨rfl,K.bel⟩
 have e2:(g.ph == 2)=false:=by simpa using h2
 obtain⟨ak,aj⟩:=HQ.out.2.1 h2;have ex:(g.x != 0)=false:=by rw [ak];rfl
 have ey:(g.y != 0)=false:=by rw [aj];rfl
 have ba:(g.x == 0)=true:=by rw [ak];rfl
 have a9:(g.y == 0)=true:=by rw [aj];rfl
 clear ak aj;go_wp2_with fail;refine(ai.out _ K.bel).mono ?_;rintro e w2 ⟨rfl,X⟩;have K:=K.below X;clear E D C B Q P O N M J I H G r t;clear X;obtain⟨E,D,C,B⟩:=K.rv.c4;obtain⟨Q,P,O,N,M,J,I,H,G⟩:=row9 K.rg;have r:=K.rv.lt;have t:=K.rg.lt;clear ai;rcases HQ.out.2.2.1 with h0 | h1 | h2' | h3
 ·have HG:=kD (aN.out h0);have e0:(g.ph == 0)=true:=by rw [h0];rfl
  have ew:(g.wn == 0)=true:=by rw [HG.out];rfl
  have er:(g.rs == 0)=true:=by rw [HG.out];rfl
  have ep:(g.pl == 0)=true:=by rw [HG.out];rfl
  have et:(g.tn == 0)=true:=by rw [HG.out];rfl
  have ac:g.b=startB v:=by rw [HG.out];rfl
  have aB:n2=n1:=by rw [<-ap.out,<-ao.out,ac];rfl
  subst aB;have am:(startB v).1.length=n2:=by rw [<-ac];exact ap.out
  have al:(startB v).2.length=n2:=by rw [<-ac];exact ao.out
  have aI:0<n2∧n2<=1000:=aM.out;have aO:=kD (λ(A3 A4:Option Addr) (c3 c4:Nat) (m:World) (Z:Below w.heap.size w m) (p3:RdF m All 1 enI A3 (startB v).1) (p4:RdF m All 1 enI A4 (startB v).2)=>Bd10.same_s g.b (startB v) n2 ap.out ao.out am al aI A1 A2 A3 A4 c1 c2 c3 c4 m.heap.size m (Nat.le_refl _) (R1.out.keep (.below Z)).rd (R2.out.keep (.below Z)).rd p3.rd p4.rd true (decide_eq_true ac));have aK:=kD am;have aJ:=kD al;clear h0 ac am al h2;have R:=K;clear K;go_wp2_with fail;refine region_relG [some 52,some 53,some 54,some 55,some 56,some 57,some 58,some 59,some 60,some 61,some 62,some 63,some 64,some 65,some 66,some 67,some 68,some 69,some 70,some 71,some 72,some 73,some 74,some 75,some 76,some 77,some 4] 27 [some (.pointer (some ⟨w.heap.size+1,2,none⟩)),some (.int .i64 g.pl),some (.bool true),some (.bool true),some (.pointer (some ⟨w.heap.size+1,8,none⟩)),some (.int .i64 g.tn),some (.bool true),some (.bool true),some (.bool true),some (.pointer (some ⟨w.heap.size+1,6,none⟩)),some (.int .i64 g.wn),some (.bool true),some (.bool true),some (.bool true),some (.pointer (some ⟨w.heap.size+1,7,none⟩)),some (.int .i64 g.rs),some (.bool true),some (.bool true),some (.bool true),some (.pointer (some ⟨w.heap.size+1,0,none⟩)),some (.agg #[.slice A1 n2 c1,.slice A2 n2 c2]),some (.agg #[.int .i64 v.p,.int .i64 v.c,.int .i64 v.h,.int .i64 v.s]),none,none,some (.bool true),some (.bool true),some (.bool true)] (λ L a w'=>NwF w2 v (L 22) (L 23) (a 22) (a 23) w') (by kernel_rfl) (by kernel_rfl) (by kernel_rfl) (by kernel_rfl) (by kernel_rfl) (by kernel_rfl) (by first | kernel_rfl | rfl) ?g0_1 ?gst_1 ?gfin_1
  case g0_1=>exact⟨(Below.refl _ _).drew,λ h=>absurd h (by decide),λ h=>absurd h (by decide)⟩
  case gst_1 =>
   refine rN rfl (λ L a A m j f k U F K l=>?_) ?_
   ·have e3:=U.w 3 (.pointer (some ⟨w.heap.size+1,0,none⟩));have d:=R.below F.bel;obtain⟨E,D,C,B⟩:=d.rv.c4;obtain⟨Q,P,O,N,M,J,I,H,G⟩:=row9 d.rg;have r:=d.rv.lt;have t:=d.rg.lt;clear d;go_simp;exact pF l (F.skip 0 _)
   refine rN rfl (λ L a A m j f k U F K l=>?_) ?_
   ·have bE:=U.v 0 52;have d:=R.below F.bel;obtain⟨E,D,C,B⟩:=d.rv.c4;obtain⟨Q,P,O,N,M,J,I,H,G⟩:=row9 d.rg;have r:=d.rv.lt;have t:=d.rg.lt;clear d;go_simp;exact pF l (F.skip 1 _)
   refine rN rfl (λ L a A m j f k U F K l=>?_) ?_
   ·have bD:=U.v 1 53;go_simp;exact pF l (F.skip 2 _)
   refine rN rfl (λ L a A m j f k U F K l=>?_) ?_
   ·have bC:=U.v 2 54;go_simp;exact pF l (F.skip 3 _)
   refine rN rfl (λ L a A m j f k U F K l=>?_) ?_
   ·have e3:=U.w 3 (.pointer (some ⟨w.heap.size+1,0,none⟩));have d:=R.below F.bel;obtain⟨E,D,C,B⟩:=d.rv.c4;obtain⟨Q,P,O,N,M,J,I,H,G⟩:=row9 d.rg;have r:=d.rv.lt;have t:=d.rg.lt;clear d;go_simp;exact pF l (F.skip 4 _)
   refine rN rfl (λ L a A m j f k U F K l=>?_) ?_
   ·have bA:=U.v 4 56;have d:=R.below F.bel;obtain⟨E,D,C,B⟩:=d.rv.c4;obtain⟨Q,P,O,N,M,J,I,H,G⟩:=row9 d.rg;have r:=d.rv.lt;have t:=d.rg.lt;clear d;go_simp;exact pF l (F.skip 5 _)
   refine rN rfl (λ L a A m j f k U F K l=>?_) ?_
   ·have bz:=U.v 5 57;go_simp;exact pF l (F.skip 6 _)
   refine rN rfl (λ L a A m j f k U F K l=>?_) ?_
   ·have bB:=U.v 3 55;have bx:=U.v 6 58;go_simp;exact pF l (F.skip 7 _)
   refine rN rfl (λ L a A m j f k U F K l=>?_) ?_
   ·have bw:=U.v 7 59;go_simp;exact pF l (F.skip 8 _)
   refine rN rfl (λ L a A m j f k U F K l=>?_) ?_
   ·have e3:=U.w 3 (.pointer (some ⟨w.heap.size+1,0,none⟩));have d:=R.below F.bel;obtain⟨E,D,C,B⟩:=d.rv.c4;obtain⟨Q,P,O,N,M,J,I,H,G⟩:=row9 d.rg;have r:=d.rv.lt;have t:=d.rg.lt;clear d;go_simp;exact pF l (F.skip 9 _)
   refine rN rfl (λ L a A m j f k U F K l=>?_) ?_
   ·have bt:=U.v 9 61;have d:=R.below F.bel;obtain⟨E,D,C,B⟩:=d.rv.c4;obtain⟨Q,P,O,N,M,J,I,H,G⟩:=row9 d.rg;have r:=d.rv.lt;have t:=d.rg.lt;clear d;go_simp;exact pF l (F.skip 10 _)
   refine rN rfl (λ L a A m j f k U F K l=>?_) ?_
   ·have bs:=U.v 10 62;go_simp;exact pF l (F.skip 11 _)
   refine rN rfl (λ L a A m j f k U F K l=>?_) ?_
   ·have bv:=U.v 8 60;have br:=U.v 11 63;go_simp;exact pF l (F.skip 12 _)
   refine rN rfl (λ L a A m j f k U F K l=>?_) ?_
   ·have bq:=U.v 12 64;go_simp;exact pF l (F.skip 13 _)
   refine rN rfl (λ L a A m j f k U F K l=>?_) ?_
   ·have e3:=U.w 3 (.pointer (some ⟨w.heap.size+1,0,none⟩));have d:=R.below F.bel;obtain⟨E,D,C,B⟩:=d.rv.c4;obtain⟨Q,P,O,N,M,J,I,H,G⟩:=row9 d.rg;have r:=d.rv.lt;have t:=d.rg.lt;clear d;go_simp;exact pF l (F.skip 14 _)
   refine rN rfl (λ L a A m j f k U F K l=>?_) ?_
   ·have bo:=U.v 14 66;have d:=R.below F.bel;obtain⟨E,D,C,B⟩:=d.rv.c4;obtain⟨Q,P,O,N,M,J,I,H,G⟩:=row9 d.rg;have r:=d.rv.lt;have t:=d.rg.lt;clear d;go_simp;exact pF l (F.skip 15 _)
   refine rN rfl (λ L a A m j f k U F K l=>?_) ?_
   ·have bn:=U.v 15 67;go_simp;exact pF l (F.skip 16 _)
   refine rN rfl (λ L a A m j f k U F K l=>?_) ?_
   ·have bp:=U.v 13 65;have bm:=U.v 16 68;go_simp;exact pF l (F.skip 17 _)
   refine rN rfl (λ L a A m j f k U F K l=>?_) ?_
   ·have bl:=U.v 17 69;go_simp;exact pF l (F.skip 18 _)
   refine rN rfl (λ L a A m j f k U F K l=>?_) ?_
   ·have e3:=U.w 3 (.pointer (some ⟨w.heap.size+1,0,none⟩));have d:=R.below F.bel;obtain⟨E,D,C,B⟩:=d.rv.c4;obtain⟨Q,P,O,N,M,J,I,H,G⟩:=row9 d.rg;have r:=d.rv.lt;have t:=d.rg.lt;clear d;go_simp;exact pF l (F.skip 19 _)
   refine rN rfl (λ L a A m j f k U F K l=>?_) ?_
   ·have bj:=U.v 19 71;have d:=R.below F.bel;obtain⟨E,D,C,B⟩:=d.rv.c4;obtain⟨Q,P,O,N,M,J,I,H,G⟩:=row9 d.rg;have r:=d.rv.lt;have t:=d.rg.lt;clear d;go_simp;exact pF l (F.skip 20 _)
   refine rN rfl (λ L a A m j f k U F K l=>?_) ?_
   ·have e2:=U.w 2 (.pointer (some ⟨w.heap.size,0,none⟩));have d:=R.below F.bel;obtain⟨E,D,C,B⟩:=d.rv.c4;obtain⟨Q,P,O,N,M,J,I,H,G⟩:=row9 d.rg;have r:=d.rv.lt;have t:=d.rg.lt;clear d;go_simp;exact pF l (F.skip 21 _)
   refine rN rfl (λ L a A m j f k U F K l=>?_) ?_
   ·have bh:=U.v 21 73;go_simp;refine(aP.out m).mono ?_;rintro e w6 ⟨v6,rfl,aH,ad⟩;exact l.out v6 w6 (Pl.any rfl) (by simpa [upd] using F.s22 ad (RelGV.weak aH (λ _ _ _=>trivial)))
   refine rN rfl (λ L a A m j f k U F K l=>?_) ?_
   ·have aF:=U.x 22 74;refine(F.f22 (bK f 22)).elim λ u3 q=>?_
    refine q.elim λ u4 q=>?_
    have aE:=aF.trans q.1;simp only [gmC] at aE;clear aF;have hT:∀(h:46<Tryz.prog.types.size),(Tryz.prog.types[46]'h).size=2:=λ h=>by first | kernel_rfl | rfl
    go_simp;exact l.out (.agg #[u3,u4]) m (Pl.any rfl) (by simpa [upd] using F.s23 ⟨u3,u4,rfl,q.2⟩)
   refine rN rfl (λ L a A m j f k U F K l=>?_) ?_
   ·have bi:=U.v 20 72;have aD:=U.x 23 75;refine(F.f23 (bK f 23)).elim λ u3 q=>?_
    refine q.elim λ u4 q=>?_
    refine q.2.1.elim λ A3 p3=>?_
    refine p3.elim λ c3 p3=>?_
    refine q.2.2.elim λ A4 p4=>?_
    refine p4.elim λ c4 p4=>?_
    have aC:=aD.trans q.1;rw [p3.1,p4.1,aK.out,aJ.out] at aC;clear aD;go_simp;refine(aO.out A3 A4 c3 c4 m (R.bel.trans (F.bel.mono R.bel.size)) p3.2.1 p4.2.1).mono ?_;rintro e w6 ⟨rfl,ad⟩;exact pF l ((F.below ad).skip 24 _)
   refine rN rfl (λ L a A m j f k U F K l=>?_) ?_
   ·have bk:=U.v 18 70;have bg:=U.v 24 76;go_simp;exact pF l (F.skip 25 _)
   refine rN rfl (λ L a A m j f k U F K l=>?_) ?_
   ·have bf:=U.v 25 77;go_simp;exact pF l (F.skip 26 _)
   exact RelFrom.nil (by decide)
  intro a m Y F;simp only [Fr,Act.put,sX,Nat.reduceAdd];go_wp2_with fail;have ay:a 26=.bool true:=Y 26 (by decide) _ rfl;rw [ay];go_ret;exact⟨rfl,(R.below F.bel).bel⟩
 ·obtain⟨aa,V,W⟩:=HP.out (.inl h1);obtain rfl:o=false:=HO.out.symm.trans aa;have e0:(g.ph == 0)=false:=by rw [h1];rfl
  have e1:(g.ph == 1)=true:=by rw [h1];rfl
  have ew:(g.wn == 0)=true:=by rw [V];rfl
  have er:(g.rs == 0)=true:=by rw [W];rfl
  clear h1 aa V W h2;go_wp2_with fail;go_ret;exact⟨rfl,K.bel⟩
 ·exact absurd h2' h2
 ·have e0:(g.ph == 0)=false:=by rw [h3];rfl
  have e1:(g.ph == 1)=false:=by rw [h3];rfl
  have e3:(g.ph == 3)=true:=by rw [h3];rfl
  have ae:=HQ.out.2.2.2 h3;rw [HO.out] at ae;clear h3 h2
  cases o
  case false =>
   obtain⟨ax,aA⟩:=ae.2 rfl;have av:=kD (av.out aA);have a7:IntKind.i64.wrap (1 - g.pl)=1 - g.pl:=IntWalk.i64_in _ (by have:=aL.out;omega);have ew:(g.wn == 1 - g.pl)=true:=by rw [ax];simp
   clear ae ax aA;go_wp2_with fail;refine(av.out _).mono ?_;rintro e w3 ⟨rfl,rfl⟩;go_wp2_with fail;go_ret;exact⟨rfl,K.bel⟩
  case true =>
   obtain⟨an,V,W⟩:=ae.1 rfl;have ah:=kD (ah.out g.rs W.symm);obtain⟨z1,aw⟩:∃ z,g.b.1.sum=z:=⟨_,rfl⟩;rw [aw] at aq an;have es:(z1 == 0)=true:=by rw [an];rfl
   have ew:(g.wn == g.pl)=true:=by rw [V];simp
   have er:(g.rs == g.rs)=true:=by simp
   clear ae an V W aw;have R:=K;clear K;go_wp2_with fail;refine region_relG [some 96,some 97,some 98,some 99,some 100,some 101,some 102,some 103,some 104,some 105,some 106,some 107,some 108,some 109,some 110,some 111,some 112,some 113,some 114,some 115,some 116,some 4] 22 [some (.pointer (some ⟨w.heap.size+1,0,none⟩)),some (.pointer (some ⟨w.heap.size+1,0,none⟩)),some (.slice A1 n1 c1),some (.int .i64 z1),some (.bool true),some (.bool true),some (.pointer (some ⟨w.heap.size+1,6,none⟩)),some (.int .i64 g.wn),some (.pointer (some ⟨w.heap.size+1,2,none⟩)),some (.int .i64 g.pl),some (.bool true),some (.bool true),some (.bool true),some (.pointer (some ⟨w.heap.size+1,7,none⟩)),some (.int .i64 g.rs),some (.agg #[.int .i64 v.p,.int .i64 v.c,.int .i64 v.h,.int .i64 v.s]),some (.pointer (some ⟨w.heap.size+1,0,none⟩)),some (.agg #[.slice A1 n1 c1,.slice A2 n2 c2]),some (.int .i64 g.rs),some (.bool true),some (.bool true),some (.bool true)] (λ L a w'=>Below w2.heap.size w2 w') (by kernel_rfl) (by kernel_rfl) (by kernel_rfl) (by kernel_rfl) (by kernel_rfl) (by kernel_rfl) (by first | kernel_rfl | rfl) ?g0_2 ?gst_2 ?gfin_2
   case g0_2=>exact(Below.refl _ _).drew
   case gst_2 =>
    refine rN rfl (λ L a A m j f k U F K l=>?_) ?_
    ·have e3:=U.w 3 (.pointer (some ⟨w.heap.size+1,0,none⟩));have d:=R.below F;obtain⟨E,D,C,B⟩:=d.rv.c4;obtain⟨Q,P,O,N,M,J,I,H,G⟩:=row9 d.rg;have r:=d.rv.lt;have t:=d.rg.lt;clear d;go_simp;exact pF l (F)
    refine rN rfl (λ L a A m j f k U F K l=>?_) ?_
    ·have be:=U.v 0 96;have d:=R.below F;obtain⟨E,D,C,B⟩:=d.rv.c4;obtain⟨Q,P,O,N,M,J,I,H,G⟩:=row9 d.rg;have r:=d.rv.lt;have t:=d.rg.lt;clear d;go_simp;exact pF l (F)
    refine rN rfl (λ L a A m j f k U F K l=>?_) ?_
    ·have bd:=U.v 1 97;have d:=R.below F;obtain⟨E,D,C,B⟩:=d.rv.c4;obtain⟨Q,P,O,N,M,J,I,H,G⟩:=row9 d.rg;have r:=d.rv.lt;have t:=d.rg.lt;clear d;go_simp;exact pF l (F)
    refine rN rfl (λ L a A m j f k U F K l=>?_) ?_
    ·have bc:=U.v 2 98;go_simp;refine(aq.out m (R.bel.trans (F.mono R.bel.size))).mono ?_;rintro e w6 ⟨rfl,rfl⟩;exact pF l F
    refine rN rfl (λ L a A m j f k U F K l=>?_) ?_
    ·have bb:=U.v 3 99;go_simp;exact pF l (F)
    refine rN rfl (λ L a A m j f k U F K l=>?_) ?_
    ·have a6:=U.v 4 100;go_simp;exact pF l (F)
    refine rN rfl (λ L a A m j f k U F K l=>?_) ?_
    ·have e3:=U.w 3 (.pointer (some ⟨w.heap.size+1,0,none⟩));have d:=R.below F;obtain⟨E,D,C,B⟩:=d.rv.c4;obtain⟨Q,P,O,N,M,J,I,H,G⟩:=row9 d.rg;have r:=d.rv.lt;have t:=d.rg.lt;clear d;go_simp;exact pF l (F)
    refine rN rfl (λ L a A m j f k U F K l=>?_) ?_
    ·have a4:=U.v 6 102;have d:=R.below F;obtain⟨E,D,C,B⟩:=d.rv.c4;obtain⟨Q,P,O,N,M,J,I,H,G⟩:=row9 d.rg;have r:=d.rv.lt;have t:=d.rg.lt;clear d;go_simp;exact pF l (F)
    refine rN rfl (λ L a A m j f k U F K l=>?_) ?_
    ·have e3:=U.w 3 (.pointer (some ⟨w.heap.size+1,0,none⟩));have d:=R.below F;obtain⟨E,D,C,B⟩:=d.rv.c4;obtain⟨Q,P,O,N,M,J,I,H,G⟩:=row9 d.rg;have r:=d.rv.lt;have t:=d.rg.lt;clear d;go_simp;exact pF l (F)
    refine rN rfl (λ L a A m j f k U F K l=>?_) ?_
    ·have a2:=U.v 8 104;have d:=R.below F;obtain⟨E,D,C,B⟩:=d.rv.c4;obtain⟨Q,P,O,N,M,J,I,H,G⟩:=row9 d.rg;have r:=d.rv.lt;have t:=d.rg.lt;clear d;go_simp;exact pF l (F)
    refine rN rfl (λ L a A m j f k U F K l=>?_) ?_
    ·have a3:=U.v 7 103;have a1:=U.v 9 105;go_simp;exact pF l (F)
    refine rN rfl (λ L a A m j f k U F K l=>?_) ?_
    ·have a5:=U.v 5 101;have a0:=U.v 10 106;go_simp;exact pF l (F)
    refine rN rfl (λ L a A m j f k U F K l=>?_) ?_
    ·have aZ:=U.v 11 107;go_simp;exact pF l (F)
    refine rN rfl (λ L a A m j f k U F K l=>?_) ?_
    ·have e3:=U.w 3 (.pointer (some ⟨w.heap.size+1,0,none⟩));have d:=R.below F;obtain⟨E,D,C,B⟩:=d.rv.c4;obtain⟨Q,P,O,N,M,J,I,H,G⟩:=row9 d.rg;have r:=d.rv.lt;have t:=d.rg.lt;clear d;go_simp;exact pF l (F)
    refine rN rfl (λ L a A m j f k U F K l=>?_) ?_
    ·have aX:=U.v 13 109;have d:=R.below F;obtain⟨E,D,C,B⟩:=d.rv.c4;obtain⟨Q,P,O,N,M,J,I,H,G⟩:=row9 d.rg;have r:=d.rv.lt;have t:=d.rg.lt;clear d;go_simp;exact pF l (F)
    refine rN rfl (λ L a A m j f k U F K l=>?_) ?_
    ·have e2:=U.w 2 (.pointer (some ⟨w.heap.size,0,none⟩));have d:=R.below F;obtain⟨E,D,C,B⟩:=d.rv.c4;obtain⟨Q,P,O,N,M,J,I,H,G⟩:=row9 d.rg;have r:=d.rv.lt;have t:=d.rg.lt;clear d;go_simp;exact pF l (F)
    refine rN rfl (λ L a A m j f k U F K l=>?_) ?_
    ·have e3:=U.w 3 (.pointer (some ⟨w.heap.size+1,0,none⟩));have d:=R.below F;obtain⟨E,D,C,B⟩:=d.rv.c4;obtain⟨Q,P,O,N,M,J,I,H,G⟩:=row9 d.rg;have r:=d.rv.lt;have t:=d.rg.lt;clear d;go_simp;exact pF l (F)
    refine rN rfl (λ L a A m j f k U F K l=>?_) ?_
    ·have aU:=U.v 16 112;have d:=R.below F;obtain⟨E,D,C,B⟩:=d.rv.c4;obtain⟨Q,P,O,N,M,J,I,H,G⟩:=row9 d.rg;have r:=d.rv.lt;have t:=d.rg.lt;clear d;go_simp;exact pF l (F)
    refine rN rfl (λ L a A m j f k U F K l=>?_) ?_
    ·have aV:=U.v 15 111;have aT:=U.v 17 113;go_simp;refine(ah.out m (R.bel.trans (F.mono R.bel.size))).mono ?_;rintro e w6 ⟨rfl,ad⟩;exact pF l (F.trans (ad.mono F.size))
    refine rN rfl (λ L a A m j f k U F K l=>?_) ?_
    ·have aW:=U.v 14 110;have aS:=U.v 18 114;go_simp;exact pF l (F)
    refine rN rfl (λ L a A m j f k U F K l=>?_) ?_
    ·have aY:=U.v 12 108;have aR:=U.v 19 115;go_simp;exact pF l (F)
    refine rN rfl (λ L a A m j f k U F K l=>?_) ?_
    ·have aQ:=U.v 20 116;go_simp;exact pF l (F)
    exact RelFrom.nil (by decide)
   intro a m Y F;simp only [Fr,Act.put,sX,Nat.reduceAdd];go_wp2_with fail;have az:a 21=.bool true:=Y 21 (by decide) _ rfl;rw [az];go_ret;exact⟨rfl,(R.below F).bel⟩
end Gm
end Go.Proofs.YtblipmifflfnoaaGreatDoor
