/- Parts of the proof of FnVerdicts. Conditions: each theorem's own. -/
import Derived.Test.YtmncnhbjifeoeaaGreatT24
import Derived.Test.YtmncnhbjifeoeaaGreatT33
import Derived.Deep.RegionLaw
import Derived.Lib.SliceRun
import Derived.Lib.LazyBuf
set_option linter.unusedVariables false
set_option linter.unusedSimpArgs false
set_option maxHeartbeats 8000000
set_option maxRecDepth 100000
namespace Go.Proofs.YtmncnhbjifeoeaaGreat
namespace Bd29
open Go.ChangeShapes Go.WideShapes Go.ChangeAt Go.RowKit Base Ints Own Clone RelG PlP Bd1 Bd3 Bd3I Bd4 Bd5 Bd6 Bd7 Bd8 Bd9 Bd11 RegInv RegF RegG Bd12 Bd14 Bd15 Bd16 Bd17 Bd18 Bd19 Bd20 Bd21 Bd22 Bd23 Bd24 Bd25 Bd26 Bd27
def codeT (v:Vr) (vb vr:Bool) (d:Int):Int:=if vb=false then 1 else if (decide (0<=d∧d<=1) && vr)=false then 2 else if smV v=false then 3 else 0
theorem codeT_roll (v:Vr) (b:Bd) (r:Bool) (d:Int):codeT v (okB v b) (okV v && r) d=codeT v (okB v b) r d:=by
 unfold codeT
 cases h:okB v b with
 | false=>simp
 | true =>
  have:okV v=true:=okV_iff.2 (okB_iff.1 h).v1;rw [this];simp
theorem codeT_zero {v:Vr} {b:Bd} {r:Bool} {d:Int} (h:codeT v (okB v b) r d=0):Ok v b∧r=true∧(d=0∨d=1)∧v.p<=6∧v.s<=3:=by
 unfold codeT at h
 cases hb:okB v b with
 | false=>rw [hb] at h;simp at h
 | true =>
  rw [hb] at h;simp only [Bool.true_eq_false,if_false] at h
  cases hr:decide (0<=d∧d<=1) && r with
  | false=>rw [hr] at h;simp at h
  | true =>
   rw [hr] at h;simp only [Bool.true_eq_false,if_false] at h;simp only [Bool.and_eq_true,decide_eq_true_eq] at hr
   cases hs:smV v with
   | false=>rw [hs] at h;simp at h
   | true =>
    unfold smV at hs;simp only [Bool.and_eq_true,decide_eq_true_eq] at hs;exact⟨okB_iff.1 hb,hr.2,by omega,by omega,by omega⟩
def luckP (v:Vr) (d:Nat) (b:Bd) (x y:Int):Int:=grt (plsP v d b x y) - valP v (d+1) b
def luckR (v:Vr) (b:Bd) (x y d:Int):Int × Int:=if codeT v (okB v b) (okR v x y) d=0 then (luckP v d.toNat b x y,0) else (0,codeT v (okB v b) (okR v x y) d)
theorem tutor_i (v:Vr) (vb vr:Bool) (d:Int) (z:Int) (hz:codeT v vb vr d=z) (w:World):Calls Tryz.prog 30 #[.agg #[.int .i64 v.p,.int .i64 v.c,.int .i64 v.h,.int .i64 v.s],.bool vb,.int .i64 d,.bool vr] w λ e w'=>e=.returned (.int .i64 z)∧Below w.heap.size w w':=by
 unfold codeT at hz;obtain⟨l,j⟩:∃ c,decide (0<=d∧d<=1)=c:=⟨_,rfl⟩;obtain⟨k,i⟩:∃ c,smV v=c:=⟨_,rfl⟩;rw [j,i] at hz;have b:=kD hz;have f:=kD (λ w=>in_i d 0 1 l j w);have m:=kD (λ w=>sml_i v k i w);clear hz j i
 cases vb
 ·obtain rfl:z=1:=by rw [<-b.out];rfl
  go_enter Tryz.func30,Tryz.ntmps30;go_wp2_with fail;go_ret;exact⟨rfl,by go_grown⟩
 cases l
 ·obtain rfl:z=2:=by rw [<-b.out];rfl
  go_enter Tryz.func30,Tryz.ntmps30;go_wp2_with fail;refine(f.out _).mono ?_;rintro e g ⟨rfl,rfl⟩;go_wp2_with fail;go_ret;exact⟨rfl,by go_grown⟩
 cases vr
 ·obtain rfl:z=2:=by rw [<-b.out];rfl
  go_enter Tryz.func30,Tryz.ntmps30;go_wp2_with fail;refine(f.out _).mono ?_;rintro e g ⟨rfl,rfl⟩;go_wp2_with fail;go_ret;exact⟨rfl,by go_grown⟩
 cases k
 ·obtain rfl:z=3:=by rw [<-b.out];rfl
  go_enter Tryz.func30,Tryz.ntmps30;go_wp2_with fail;refine(f.out _).mono ?_;rintro e g ⟨rfl,rfl⟩;go_wp2_with fail;refine(m.out _).mono ?_;rintro e n ⟨rfl,a⟩;go_wp2_with fail;go_ret;exact⟨rfl,Below.then_ (by go_grown) a (by go_size)⟩
 ·obtain rfl:z=0:=by rw [<-b.out];rfl
  go_enter Tryz.func30,Tryz.ntmps30;go_wp2_with fail;refine(f.out _).mono ?_;rintro e g ⟨rfl,rfl⟩;go_wp2_with fail;refine(m.out _).mono ?_;rintro e n ⟨rfl,a⟩;go_wp2_with fail;go_ret;exact⟨rfl,Below.then_ (by go_grown) a (by go_size)⟩
structure B3 (w wr:World) (v:Vr) (bs:List Value) (x y:Int):Prop where
 bel:Below w.heap.size w wr
 rv:RowB wr w.heap.size 25 (vL v)
 rb:RowB wr (w.heap.size+1) 28 bs
 rr:RowB wr (w.heap.size+2) 30 [.int .i64 x,.int .i64 y]
theorem B3.below {w wr w':World} {v:Vr} {bs:List Value} {x y:Int} (h:B3 w wr v bs x y) (hb:Below wr.heap.size wr w'):B3 w w' v bs x y :=
 ⟨h.bel.trans (hb.mono h.bel.size),h.rv.below hb h.rv.lt,h.rb.below hb h.rb.lt,h.rr.below hb h.rr.lt⟩
theorem luckOf_i (v:Vr) (b:Bd) (hb:Ok v b) (hp:v.p<=6) (Ao At:Option Addr) (co ct:Nat) (x y:Int) (hx:1<=x∧x<=6) (hy:1<=y∧y<=6) (d:Nat) (hd:d<=1) (w:World) (ho:RdS w w.heap.size 1 enI Ao b.1) (ht:RdS w w.heap.size 1 enI At b.2) (hA:Ao=none->co=0) (hT:At=none->ct=0) :
  Calls Tryz.prog 56 #[.agg #[.int .i64 v.p,.int .i64 v.c,.int .i64 v.h,.int .i64 v.s],.agg #[.slice Ao b.1.length co,.slice At b.2.length ct],.agg #[.int .i64 x,.int .i64 y],.int .i64 (d:Int)] w λ e w'=>e=.returned (.int .i64 (luckP v d b x y))∧Below w.heap.size w w':=by
 have CP:=kD (λ(m:World) (h:Below w.heap.size w m)=>(vals_i d (by omega)).2 v b hb hp Ao At co ct x y hx hy m ((ho.below h (Nat.le_refl _)).more h.size) ((ht.below h (Nat.le_refl _)).more h.size) hA hT);have T:=kD (λ(m:World) (h:Below w.heap.size w m)=>(vals_i (d+1) (by omega)).1 v b hb hp Ao At co ct m ((ho.below h (Nat.le_refl _)).more h.size) ((ht.below h (Nat.le_refl _)).more h.size) hA hT);have q:=pls_bd (d:=d) hb hx.1 hy.1;have P:=val_bd (d+1) b hb;have E:=grt_bd (d:=d) hb hx.1 hy.1;unfold luckP;obtain⟨a,J⟩:∃ z,plsP v d b x y=z:=⟨_,rfl⟩;obtain⟨X,hX⟩:∃ z,valP v (d+1) b=z:=⟨_,rfl⟩;rw [J] at CP q E ⊢;rw [hX] at T P ⊢;have o:=q.2;have H:=fg_gr a (a.length - 1);have j:at_ a (fgP a)=grt a:=H.1;have F:fgP a<a.length:=by have:=H.2;show fgU a (a.length - 1)<_;omega
 obtain⟨G,hG⟩:∃ g,grt a=g:=⟨_,rfl⟩;rw [hG] at E j ⊢;obtain⟨fg,hf⟩:∃ f,fgP a=f:=⟨_,rfl⟩;have CF:=kD (λ(m:World) (A:Option Addr) (cp B:Nat) (hr:RdS m B 1 enI A a)=>first_i A cp B a m hr o);rw [hf] at CF F j;obtain⟨L,hL⟩:∃ l,a.length=l:=⟨_,rfl⟩;have HL:=kD hL;have ac:=kD F;have ab:=kD j;rw [hL] at F CF;have af:(fg:Int)<(L:Int):=by omega
 obtain⟨D,hD⟩:∃ D,d+1=D:=⟨_,rfl⟩;rw [hD] at T;have ae:IntKind.i64.wrap ((d:Int)+1)=(D:Int):=by rw [IntWalk.i64_in _ (by omega)];omega
 have ad:IntKind.i64.wrap (G - X)=G - X:=IntWalk.i64_in _ (by omega);obtain⟨n1,R⟩:∃ n,b.1.length=n:=⟨_,rfl⟩;obtain⟨n2,Q⟩:∃ n,b.2.length=n:=⟨_,rfl⟩;rw [R,Q] at CP T ⊢;clear hb hp ho ht hA hT hx hy q P E J hX o H j hG hf hL hD R Q;go_enter Tryz.func56,Tryz.ntmps56;go_upto_region 1 with fail;refine wp_gen (λ W'=>B3 w W' v [.slice Ao n1 co,.slice At n2 ct] x y) ⟨by go_grown,((RowB.new _ _ _).alloc _).alloc _,RowB.alloc (RowB.new' _ _ _ (by simp)) _,RowB.new' _ _ _ (by simp)⟩ ?_;intro w1 K;obtain⟨q0,q1,q2,q3⟩:=K.rv.c4;obtain⟨W,V⟩:=K.rb.c2;obtain⟨Z,Y⟩:=K.rr.c2;have C:=K.rv.lt;have t:=K.rb.lt;have r:=K.rr.lt;go_wp2_with fail;refine(CP.out w1 K.bel).mono ?_;rintro e w2 ⟨vv,rfl,O,S⟩;have K:=K.below S;obtain⟨Av,cv,M,N⟩:=O.form enI_len;rw [HL.out] at M;subst M;have k:=kD N;clear q0 q1 q2 q3 W V Z Y C t r S O N;obtain⟨q0,q1,q2,q3⟩:=K.rv.c4;obtain⟨W,V⟩:=K.rb.c2;obtain⟨Z,Y⟩:=K.rr.c2;have C:=K.rv.lt;have t:=K.rb.lt;have r:=K.rr.lt;go_wp2_with fail;refine(T.out w2 K.bel).mono ?_;rintro e w3 ⟨rfl,I⟩;have K:=K.below I;have k:=kD (k.out.below I (Nat.le_refl _));obtain⟨b8,o8,rfl,ag,aa⟩:=at_rd k.out (i:=fg) ac.out;rw [ab.out] at aa;clear q0 q1 q2 q3 W V Z Y C t r I;go_wp2_with fail;refine(CF.out w3 _ cv _ k.out).mono ?_;rintro e w4 ⟨rfl,rfl⟩;go_wp2_with fail;go_ret;exact⟨rfl,K.bel⟩
structure LuF (w1:World) (zs:List Int) (p4:Prop) (v4:Value) (w':World):Prop where
 bel:Below w1.heap.size w1 w'
 f4:p4->OwnS w' w1.heap.size w'.heap.size 2 1 enI v4 zs
theorem LuF.skip {w1 w':World} {zs:List Int} {L:Nat->Prop} {vals:Nat->Value} (F:LuF w1 zs (L 4) (vals 4) w') (k:Nat) (x:Value) (h4:4≠k:=by decide):LuF w1 zs (4=k∨L 4) (upd vals k x 4) w':=by
 rw [or_ne h4,upd_ne h4];exact F
theorem LuF.below {w1 w' w'':World} {zs:List Int} {p4:Prop} {v4:Value} (F:LuF w1 zs p4 v4 w') (hb:Below w'.heap.size w' w''):LuF w1 zs p4 v4 w'' :=
 ⟨F.bel.trans (hb.mono F.bel.size),λ h=>((F.f4 h).below hb (Nat.le_refl _)).more hb.size⟩
theorem LuF.s4 {w1 w' w'':World} {zs:List Int} {p4:Prop} {v4 v':Value} (F:LuF w1 zs p4 v4 w') (hb:Below w'.heap.size w' w'') (ho:OwnS w'' w'.heap.size w''.heap.size 2 1 enI v' zs):LuF w1 zs True v' w'' :=
 ⟨F.bel.trans (hb.mono F.bel.size),λ _=>ho.less F.bel.size⟩
theorem luck_s (v:Vr) (b:Bd) (hb:Ok v b) (Ao At:Option Addr) (co ct:Nat) (x y:Int) (hx:1<=x∧x<=6) (hy:1<=y∧y<=6) (d:Nat) (hd:d<=1) (w:World) (ho:RdS w w.heap.size 1 enI Ao b.1) (ht:RdS w w.heap.size 1 enI At b.2) (hA:Ao=none->co=0) (hT:At=none->ct=0) :
  Calls Tryz.prog 62 #[.agg #[.int .i64 v.p,.int .i64 v.c,.int .i64 v.h,.int .i64 v.s],.agg #[.slice Ao b.1.length co,.slice At b.2.length ct],.agg #[.int .i64 x,.int .i64 y],.int .i64 (d:Int)] w λ e w'=>e=.returned (.int .i64 (luckP v d b x y))∧Below w.heap.size w w':=by
 have CP:=kD (λ(i:World) (h:Below w.heap.size w i)=>(vals_s d (by omega)).2 v b hb Ao At co ct x y hx hy i ((ho.below h (Nat.le_refl _)).more h.size) ((ht.below h (Nat.le_refl _)).more h.size) hA hT);have CV:=kD (λ(i:World) (h:Below w.heap.size w i)=>(vals_s (d+1) (by omega)).1 v b hb Ao At co ct i ((ho.below h (Nat.le_refl _)).more h.size) ((ht.below h (Nat.le_refl _)).more h.size) hA hT);have C:=pls_bd (d:=d) hb hx.1 hy.1;have N:=val_bd (d+1) b hb;have E:=grt_bd (d:=d) hb hx.1 hy.1;unfold luckP;obtain⟨J,M⟩:∃ z,plsP v d b x y=z:=⟨_,rfl⟩;obtain⟨X,hX⟩:∃ z,valP v (d+1) b=z:=⟨_,rfl⟩;rw [M] at CP C E ⊢;rw [hX] at CV N ⊢;have r:=C.2;obtain⟨G,hG⟩:∃ g,grt J=g:=⟨_,rfl⟩;have CG:=kD (λ(i:World) (A:Option Addr) (cp B:Nat) (hr:RdS i B 1 enI A J)=>great_s A cp B J i hr r);rw [hG] at E CG ⊢;obtain⟨L,hL⟩:∃ l,J.length=l:=⟨_,rfl⟩;have HL:=kD hL;rw [hL] at CG;obtain⟨D,hD⟩:∃ D,d+1=D:=⟨_,rfl⟩;rw [hD] at CV;have af:IntKind.i64.wrap ((d:Int)+1)=(D:Int):=by rw [IntWalk.i64_in _ (by omega)];omega
 have ae:IntKind.i64.wrap (G - X)=G - X:=IntWalk.i64_in _ (by omega);obtain⟨n1,P⟩:∃ n,b.1.length=n:=⟨_,rfl⟩;obtain⟨n2,O⟩:∃ n,b.2.length=n:=⟨_,rfl⟩;rw [P,O] at CP CV ⊢;clear hb ho ht hA hT hx hy C N E M hX r hG hL hD P O;go_enter Tryz.func62,Tryz.ntmps62;go_upto_region 1 with fail;refine wp_gen (λ W'=>B3 w W' v [.slice Ao n1 co,.slice At n2 ct] x y) ⟨by go_grown,((RowB.new _ _ _).alloc _).alloc _,RowB.alloc (RowB.new' _ _ _ (by simp)) _,RowB.new' _ _ _ (by simp)⟩ ?_;intro w1 K;have t:=kD K;clear K;refine rG [some 9,some 10,some 11,some 12,some 13,some 14,some 15,some 16,some 17,some 18,some 19,some 20,some 8] 13 (Pl [some (.agg #[.int .i64 v.p,.int .i64 v.c,.int .i64 v.h,.int .i64 v.s]),some (.agg #[.slice Ao n1 co,.slice At n2 ct]),some (.agg #[.int .i64 x,.int .i64 y]),some (.int .i64 (d:Int)),none,some (.int .i64 G),some (.agg #[.int .i64 v.p,.int .i64 v.c,.int .i64 v.h,.int .i64 v.s]),some (.agg #[.slice Ao n1 co,.slice At n2 ct]),some (.int .i64 (d:Int)),some (.int .i64 (D:Int)),some (.int .i64 X),some (.int .i64 (G - X)),some (.int .i64 (G - X))]) (λ L a w'=>LuF w1 J (L 4) (a 4) w') ?g0_1 ?gst_1 ?gfin_1
 case g0_1=>exact⟨(Below.refl _ _).drew,λ h=>absurd h (by decide)⟩
 case gst_1 =>
  refine rN rfl (λ L a A i j f k U F K m=>?_) ?_
  ·have e4:=U.w 4 (.pointer (some ⟨w.heap.size,0,none⟩));have o:=t.out.below F.bel;obtain⟨q0,q1,Z,Y⟩:=o.rv.c4;obtain⟨T,S⟩:=o.rb.c2;obtain⟨W,V⟩:=o.rr.c2;clear o;go_simp;exact pF m (F.skip 0 _)
  refine rN rfl (λ L a A i j f k U F K m=>?_) ?_
  ·have e5:=U.w 5 (.pointer (some ⟨w.heap.size+1,0,none⟩));have o:=t.out.below F.bel;obtain⟨q0,q1,Z,Y⟩:=o.rv.c4;obtain⟨T,S⟩:=o.rb.c2;obtain⟨W,V⟩:=o.rr.c2;clear o;go_simp;exact pF m (F.skip 1 _)
  refine rN rfl (λ L a A i j f k U F K m=>?_) ?_
  ·have e6:=U.w 6 (.pointer (some ⟨w.heap.size+2,0,none⟩));have o:=t.out.below F.bel;obtain⟨q0,q1,Z,Y⟩:=o.rv.c4;obtain⟨T,S⟩:=o.rb.c2;obtain⟨W,V⟩:=o.rr.c2;clear o;go_simp;exact pF m (F.skip 2 _)
  refine rN rfl (λ L a A i j f k U F K m=>?_) ?_
  ·have e3:=U.w 3 (.int .i64 (d:Int));go_simp;exact pF m (F.skip 3 _)
  refine rN rfl (λ L a A i j f k U F K m=>?_) ?_
  ·have e9:=U.v 0 9;have ap:=U.v 1 10;have ao:=U.v 2 11;have an:=U.v 3 12;go_simp;refine(CP.out i (t.out.below F.bel).bel).mono ?_;rintro e w6 ⟨vv,rfl,h3,H⟩;exact m.out _ w6 (Pl.any rfl) (by simpa [upd] using F.s4 H h3)
  refine rN rfl (λ L a A i j f k U F K m=>?_) ?_
  ·have R:=U.x 4 13;have o4:=F.f4 (bK f 4);refine(o4.form enI_len).elim λ ac q=>?_
   refine q.elim λ ab q=>?_
   have I:=q.1;rw [HL.out] at I;have ad:=R.trans I;clear R I;go_simp;refine(CG.out i ac ab _ q.2).mono ?_;rintro e w6 ⟨rfl,rfl⟩;exact pF m (F.skip 5 _)
  refine rN rfl (λ L a A i j f k U F K m=>?_) ?_
  ·have e4:=U.w 4 (.pointer (some ⟨w.heap.size,0,none⟩));have o:=t.out.below F.bel;obtain⟨q0,q1,Z,Y⟩:=o.rv.c4;obtain⟨T,S⟩:=o.rb.c2;obtain⟨W,V⟩:=o.rr.c2;clear o;go_simp;exact pF m (F.skip 6 _)
  refine rN rfl (λ L a A i j f k U F K m=>?_) ?_
  ·have e5:=U.w 5 (.pointer (some ⟨w.heap.size+1,0,none⟩));have o:=t.out.below F.bel;obtain⟨q0,q1,Z,Y⟩:=o.rv.c4;obtain⟨T,S⟩:=o.rb.c2;obtain⟨W,V⟩:=o.rr.c2;clear o;go_simp;exact pF m (F.skip 7 _)
  refine rN rfl (λ L a A i j f k U F K m=>?_) ?_
  ·have e3:=U.w 3 (.int .i64 (d:Int));go_simp;exact pF m (F.skip 8 _)
  refine rN rfl (λ L a A i j f k U F K m=>?_) ?_
  ·have aj:=U.v 8 17;go_simp;exact pF m (F.skip 9 _)
  refine rN rfl (λ L a A i j f k U F K m=>?_) ?_
  ·have al:=U.v 6 15;have ak:=U.v 7 16;have ai:=U.v 9 18;go_simp;refine(CV.out i (t.out.below F.bel).bel).mono ?_;rintro e w6 ⟨rfl,H⟩;exact pF m ((F.below H).skip 10 _)
  refine rN rfl (λ L a A i j f k U F K m=>?_) ?_
  ·have am:=U.v 5 14;have ah:=U.v 10 19;go_simp;exact pF m (F.skip 11 _)
  refine rN rfl (λ L a A i j f k U F K m=>?_) ?_
  ·have ag:=U.v 11 20;go_simp;exact pF m (F.skip 12 _)
  exact RelFrom.nil (by decide)
 case gfin_1 =>
  intro a i hp F;simp only [Fr,Act.put,sX,Nat.reduceAdd];have Q:a 12=.int .i64 (G - X):=hp 12 (by decide) _ rfl;have aa:=(t.out.below F.bel).bel;rw [Q];clear F hp Q;go_wp2_with fail;go_ret;exact⟨rfl,aa⟩
theorem luckX_i (v:Vr) (b:Bd) (Ao At:Option Addr) (co ct:Nat) (x y d:Int) (w:World) (ho:RdS w w.heap.size 1 enI Ao b.1) (ht:RdS w w.heap.size 1 enI At b.2) (hA:Ao=none->co=0) (hT:At=none->ct=0) :
  Calls Tryz.prog 21 #[.agg #[.int .i64 v.p,.int .i64 v.c,.int .i64 v.h,.int .i64 v.s],.agg #[.slice Ao b.1.length co,.slice At b.2.length ct],.agg #[.int .i64 x,.int .i64 y],.int .i64 d] w λ e w'=>e=.returned (.tuple #[.int .i64 (luckR v b x y d).1,.int .i64 (luckR v b x y d).2])∧Below w.heap.size w w':=by
 obtain⟨X,o⟩:∃ c,okB v b=c:=⟨_,rfl⟩;obtain⟨W,h1⟩:∃ c,(okV v && okR v x y)=c:=⟨_,rfl⟩;obtain⟨z,T⟩:∃ z,codeT v (okB v b) (okR v x y) d=z:=⟨_,rfl⟩;have N:codeT v X W d=z:=by rw [<-o,<-h1,codeT_roll];exact T
 have B:luckR v b x y d=if z=0 then (luckP v d.toNat b x y,0) else (0,z):=by unfold luckR;rw [T]
 obtain⟨Rz,Q⟩:∃ r,luckR v b x y d=r:=⟨_,rfl⟩;rw [Q] at B ⊢;obtain⟨g1,g2⟩:=Rz;have Y:=kD B;simp only;clear B Q;have C0:=kD (λ(g:World) (h:Below w.heap.size w g)=>Bd3I.isB_i v b Ao At co ct w.heap.size g h.size (ho.below h (Nat.le_refl _)) (ht.below h (Nat.le_refl _)) X o);have C1:=kD (λ w=>isroll_i v x y W h1 w);have C2:=kD (λ w=>tutor_i v X W d z N w);have S:=kD (λ(h:z=0) (g:World) (V:Below w.heap.size w g)=>show Calls Tryz.prog 56 #[.agg #[.int .i64 v.p,.int .i64 v.c,.int .i64 v.h,.int .i64 v.s],.agg #[.slice Ao b.1.length co,.slice At b.2.length ct],.agg #[.int .i64 x,.int .i64 y],.int .i64 d] g λ e w'=>e=.returned (.int .i64 (luckP v d.toNat b x y))∧Below g.heap.size g w' from by
  have Z:=codeT_zero (T.trans h);have hr:=okR_iff.1 Z.2.1;obtain⟨dn,rfl⟩:∃ n:Nat,d=(n:Int):=⟨d.toNat,by omega⟩;rw [Int.toNat_natCast];exact luckOf_i v b Z.1 Z.2.2.2.1 Ao At co ct x y (by omega) (by omega) dn (by omega) g ((ho.below V (Nat.le_refl _)).more V.size) ((ht.below V (Nat.le_refl _)).more V.size) hA hT)
 obtain⟨n1,P⟩:∃ n,b.1.length=n:=⟨_,rfl⟩;obtain⟨n2,O⟩:∃ n,b.2.length=n:=⟨_,rfl⟩;rw [P,O] at C0 S ⊢;clear ho ht hA hT o h1 T N P O;go_enter Tryz.func21,Tryz.ntmps21;go_upto_region 1 with fail;refine wp_gen (λ W'=>B3 w W' v [.slice Ao n1 co,.slice At n2 ct] x y) ⟨by go_grown,((RowB.new _ _ _).alloc _).alloc _,RowB.alloc (RowB.new' _ _ _ (by simp)) _,RowB.new' _ _ _ (by simp)⟩ ?_;intro w1 K;have t:=kD K;clear K;refine rG [some 11,some 12,some 13,some 14,some 15,some 16,some 17,some 18,some 19,some 10] 10 (Pl [some (.agg #[.int .i64 v.p,.int .i64 v.c,.int .i64 v.h,.int .i64 v.s]),some (.agg #[.int .i64 v.p,.int .i64 v.c,.int .i64 v.h,.int .i64 v.s]),some (.agg #[.slice Ao n1 co,.slice At n2 ct]),some (.bool X),some (.int .i64 d),some (.agg #[.int .i64 v.p,.int .i64 v.c,.int .i64 v.h,.int .i64 v.s]),some (.agg #[.int .i64 x,.int .i64 y]),some (.bool W),some (.int .i64 z),some (.int .i64 z)]) (λ L a w'=>Below w1.heap.size w1 w') ?g0_2 ?gst_2 ?gfin_2
 case g0_2=>exact(Below.refl _ _).drew
 case gst_2 =>
  refine rN rfl (λ L a A g i j k U F K l=>?_) ?_
  ·have e4:=U.w 4 (.pointer (some ⟨w.heap.size,0,none⟩));have f:=t.out.below F;obtain⟨M,J,I,H⟩:=f.rv.c4;obtain⟨D,C⟩:=f.rb.c2;obtain⟨G,E⟩:=f.rr.c2;clear f;go_simp;exact pF l (F)
  refine rN rfl (λ L a A g i j k U F K l=>?_) ?_
  ·have e4:=U.w 4 (.pointer (some ⟨w.heap.size,0,none⟩));have f:=t.out.below F;obtain⟨M,J,I,H⟩:=f.rv.c4;obtain⟨D,C⟩:=f.rb.c2;obtain⟨G,E⟩:=f.rr.c2;clear f;go_simp;exact pF l (F)
  refine rN rfl (λ L a A g i j k U F K l=>?_) ?_
  ·have e5:=U.w 5 (.pointer (some ⟨w.heap.size+1,0,none⟩));have f:=t.out.below F;obtain⟨M,J,I,H⟩:=f.rv.c4;obtain⟨D,C⟩:=f.rb.c2;obtain⟨G,E⟩:=f.rr.c2;clear f;go_simp;exact pF l (F)
  refine rN rfl (λ L a A g i j k U F K l=>?_) ?_
  ·have al:=U.v 1 12;have ak:=U.v 2 13;go_simp;refine(C0.out g (t.out.below F).bel).mono ?_;rintro e w6 ⟨rfl,q⟩;exact pF l (F.trans (q.mono F.size))
  refine rN rfl (λ L a A g i j k U F K l=>?_) ?_
  ·have e3:=U.w 3 (.int .i64 d);go_simp;exact pF l (F)
  refine rN rfl (λ L a A g i j k U F K l=>?_) ?_
  ·have e4:=U.w 4 (.pointer (some ⟨w.heap.size,0,none⟩));have f:=t.out.below F;obtain⟨M,J,I,H⟩:=f.rv.c4;obtain⟨D,C⟩:=f.rb.c2;obtain⟨G,E⟩:=f.rr.c2;clear f;go_simp;exact pF l (F)
  refine rN rfl (λ L a A g i j k U F K l=>?_) ?_
  ·have e6:=U.w 6 (.pointer (some ⟨w.heap.size+2,0,none⟩));have f:=t.out.below F;obtain⟨M,J,I,H⟩:=f.rv.c4;obtain⟨D,C⟩:=f.rb.c2;obtain⟨G,E⟩:=f.rr.c2;clear f;go_simp;exact pF l (F)
  refine rN rfl (λ L a A g i j k U F K l=>?_) ?_
  ·have ah:=U.v 5 16;have ag:=U.v 6 17;go_simp;refine(C1.out g).mono ?_;rintro e w6 ⟨rfl,q⟩;exact pF l (F.trans (q.mono F.size))
  refine rN rfl (λ L a A g i j k U F K l=>?_) ?_
  ·have am:=U.v 0 11;have aj:=U.v 3 14;have ai:=U.v 4 15;have af:=U.v 7 18;go_simp;refine(C2.out g).mono ?_;rintro e w6 ⟨rfl,q⟩;exact pF l (F.trans (q.mono F.size))
  refine rN rfl (λ L a A g i j k U F K l=>?_) ?_
  ·have ae:=U.v 8 19;go_simp;exact pF l (F)
  exact RelFrom.nil (by decide)
 case gfin_2 =>
  intro a g hp F;simp only [Fr,Act.put,sX,Nat.reduceAdd];have h9:a 9=.int .i64 z:=hp 9 (by decide) _ rfl;have K:=t.out.below F;rw [h9];clear F hp h9 t;obtain⟨M,J,I,H⟩:=K.rv.c4;obtain⟨D,C⟩:=K.rb.c2;obtain⟨G,E⟩:=K.rr.c2;have ad:=K.rv.lt;have ac:=K.rb.lt;have ab:=K.rr.lt;by_cases o:z=0
  ·have m:=Y.out;rw [if_pos o] at m;have R:=kD (λ _:Unit=>Prod.mk.inj m);have e0:(z != 0)=false:=by simp [o]
   have S:=kD (S.out o g K.bel);have H0:=kD o;clear o Y m;go_wp2_with fail;refine S.out.mono ?_;rintro e w4 ⟨rfl,aa⟩;have K:=K.below aa;go_wp2_with fail;go_ret2;refine⟨?_,K.bel⟩;rw [(R.out ()).1,(R.out ()).2]
   rfl
  ·have m:=Y.out;rw [if_neg o] at m;have R:=kD (λ _:Unit=>Prod.mk.inj m);have e0:(z != 0)=true:=by simp [o]
   clear o Y m S;go_wp2_with fail;go_ret2;refine⟨?_,K.bel⟩;rw [(R.out ()).1,(R.out ()).2]
   rfl
end Bd29
namespace DwC
open Go Go.ChangeShapes Go.WideShapes Go.ChangeAt Go.RowKit Base Ints Own RelG PlP Gm RegInv RegF RegG Bd1 Bd5 Draw DrawD DwP DwQ DwA DwB
theorem own_below {w w1 w2:World} {o:Obj} {row:Option Nat} (hb:Below w.heap.size w w1) (hg:(w1.alloc o).grownBy w2 row) (hr:∀ q,row=some q->w1.heap.size<=q):Below w1.heap.size w1 w2 :=
 ((Below.refl _ _).alloc (Nat.le_refl _) _).grown hg (by simp) hr
theorem eown_s (e:Ev) (As:Option Addr) (cs:Nat) (w:World) (hs:RdF w All 4 enSt As e.ss) (hl:e.ss.length<=1048576) :
  Calls Tryz.prog 102 #[.agg #[.int .i64 e.k,.int .i64 e.a,.int .i64 e.b,.slice As e.ss.length cs,.int .i64 e.r]] w λ f w'=>∃ A' c',f=.returned (.agg #[.int .i64 e.k,.int .i64 e.a,.int .i64 e.b,.slice A' e.ss.length c',.int .i64 e.r])∧OwnS w' w.heap.size w'.heap.size 150 4 enSt (.slice A' e.ss.length c') e.ss∧Below w.heap.size w w':=by
 obtain⟨i4,L,H,G,F⟩:=info_parts infoSt;obtain⟨k,a,b,D,r⟩:=e;simp only at hs hl ⊢;obtain⟨n,J⟩:∃ n,D.length=n:=⟨_,rfl⟩;have Y:=kD J;have HS:=kD (λ(S:World) (h9:Below w.heap.size w S)=>(hs.keep (.below h9)).rd);rw [J] at hl ⊢;clear J hs;go_enter Tryz.func102,Tryz.ntmps102;go_upto_region 1 with fail;refine wp_gen (λ B=>Gm.Rows w B [(0,63,[.int .i64 k,.int .i64 a,.int .i64 b,.slice As n cs,.int .i64 r]),(1,63,[.int .i64 0,.int .i64 0,.int .i64 0,.slice none 0 0,.int .i64 0])]) ⟨by go_grown,λ p V=>?_⟩ ?_
 ·simp only [List.mem_cons,List.not_mem_nil,or_false] at V;rcases V with rfl | rfl
  ·exact(RowB.new _ _ _).alloc _
  ·exact RowB.new' _ _ _ (by simp)
 intro C K;have d:=K.nth0 0 rfl;obtain⟨s,o,m,l,j⟩:=d.c5;have g:=d.lt;have R:=kD K;have ab:=(K.nth 1 rfl).lt;have X:=kD (HS.out (C.alloc (.cells #[] 150)) (K.bel.alloc K.bel.size _));go_wp2_with (at_builtin;refine wpL_appR rfl _ _ _ rfl C.heap.size _ 150 i4 (.agg #[.int .i64 0,.int .i64 0,.int .i64 0,.bool false]) 4 32 Tryz.underlying33 L H G F rfl (by decide) enSt_len _ [] D (λ x _=>one_St x) rfl ((RowB.new C 150 []).own (xs:=([]:List Stp)) (en:=enSt) enSt_len (Nat.le_refl _) (Nat.lt_succ_self _) (by decide)) As n cs _ (by first | rfl | (simp;rfl)) Y.out.symm X.out (by unfold maxLen;simp;omega) (by simp;omega) ?c1 ?c2 ?_)
 case c1=>simp
 case c2=>simp
 intro v' S c W O
 try rw [List.nil_append] at c
 have A:=own_below R.out.bel W (λ q y=>by simp [Value.ownBlock] at y;omega);obtain⟨A',c',t,-⟩:=c.form enSt_len;rw [Y.out] at t;subst t;have K:=R.out.below A;have i:=kD (c.less (lo':=w.heap.size+2) (by omega));clear W O c s o m l j g d X R A;have d:=K.nth0 0 rfl;obtain⟨s,o,m,l,j⟩:=d.c5;have g:=d.lt;have M:=d.frozen;have I:=(K.nth 1 rfl).lt;have z:=i.out.block;have Q:=kD z;clear z;go_upto_region 2 with fail;refine wp_gen (λ B=>Gm.Rows w B [(0,63,[.int .i64 k,.int .i64 a,.int .i64 b,.slice A' n c',.int .i64 r]),(1,63,[.int .i64 0,.int .i64 0,.int .i64 0,.slice none 0 0,.int .i64 0])]∧OwnS B (w.heap.size+2) B.heap.size 150 4 enSt (.slice A' n c') D) ⟨by have:=K.set1 0 3 (.slice A' n c');simpa using this,(i.out.grown (Base.grownBy_setCell _ _ _ _) (λ q y=>by simp at y;omega)).more (by simp)⟩ ?_;clear K i s o m l j g M d I Q;rintro aa ⟨K,i⟩;have d:=K.nth0 0 rfl;obtain⟨s,o,m,l,j⟩:=d.c5;have g:=d.lt;have T:=K.nth 1 rfl;have i:=kD i;go_wp2_with (refine wM 63 0 [.int .i64 k,.int .i64 a,.int .i64 b,.slice A' n c',.int .i64 r] T ?_;intro w7 E h z7;refine Hid.out ?_);have N:=(K.grown 1 E h).bel;have P:=(i.out.grown h (λ q y=>by simp at y;omega)).more h.size;obtain⟨z0,z1,z2,z3,Z⟩:=E.c5;have ac:=E.lt;clear h T K i s o m l j g d;refine kD ?_
 repeat (first | go_values | go_skip | go_step | go_upon)
 refine bodyPost_ret (v:=.agg #[.int .i64 k,.int .i64 a,.int .i64 b,.slice A' n c',.int .i64 r]) (by simp [results,Tryz.results102,go_sem,z0,z1,z2,z3,Z]) rfl ?_;exact⟨A',c',rfl,P.less (by omega),N⟩
structure AdF (w w1:World) (lo:Nat) (u:Value) (v:Vr) (n:Int) (X:List Ev) (e:Ev) (N:Nat) (P:World->Prop) (p6 p7 p8 p9 p10:Prop) (v6 v7 v8 v9:Value) (w':World):Prop where
 rw:¬ p10->P w'
 pre:¬ p8->Below w1.heap.size w1 w'
 f6:p6->¬ p8->∃ A' c',v6=.agg #[.int .i64 e.k,.int .i64 e.a,.int .i64 e.b,.slice A' N c',.int .i64 e.r]∧OwnS w' w1.heap.size w'.heap.size 150 4 enSt (.slice A' N c') e.ss
 f7:p7->¬ p8->∃ A' c' q,v7=.slice (some ⟨q,0,none⟩) 1 1∧RowB w' q 63 [.int .i64 e.k,.int .i64 e.a,.int .i64 e.b,.slice A' N c',.int .i64 e.r]∧OwnS w' w1.heap.size w'.heap.size 150 4 enSt (.slice A' N c') e.ss
 f8:p8->¬ p10->∃ g m c,v8=.slice (some ⟨g,0,none⟩) m c∧Evs w' lo v8 X∧w1.grownBy w' u.ownBlock
 f9:p9->∃ g m c,v8=.slice (some ⟨g,0,none⟩) m c∧v9=.agg #[.int .i64 v.p,.int .i64 v.c,.int .i64 v.h,.int .i64 v.s,.int .i64 n,v8]
 f10:p10->∃ g m c,v8=.slice (some ⟨g,0,none⟩) m c∧Evs w' lo v8 X∧RowB w' (w.heap.size+2) 48 [.int .i64 v.p,.int .i64 v.c,.int .i64 v.h,.int .i64 v.s,.int .i64 n,v8]∧Below w.heap.size w w'
section
variable {w w1 w' w'':World} {lo N:Nat} {u:Value} {v:Vr} {n:Int} {X:List Ev} {e:Ev} {P:World->Prop} {L:Nat->Prop} {vals:Nat->Value}
theorem AdF.skip (F:AdF w w1 lo u v n X e N P (L 6) (L 7) (L 8) (L 9) (L 10) (vals 6) (vals 7) (vals 8) (vals 9) w') (k:Nat) (x:Value) (h:6≠k∧7≠k∧8≠k∧9≠k∧10≠k:=by decide) :
  AdF w w1 lo u v n X e N P (6=k∨L 6) (7=k∨L 7) (8=k∨L 8) (9=k∨L 9) (10=k∨L 10) (upd vals k x 6) (upd vals k x 7) (upd vals k x 8) (upd vals k x 9) w':=by
 rw [or_ne h.1,or_ne h.2.1,or_ne h.2.2.1,or_ne h.2.2.2.1,or_ne h.2.2.2.2,upd_ne h.1,upd_ne h.2.1,upd_ne h.2.2.1,upd_ne h.2.2.2.1];exact F
end
theorem add_s (v:Vr) (n:Int) (es:List Ev) (Ae:Option Addr) (ce:Nat) (e:Ev) (As:Option Addr) (cs:Nat) (w:World) (hes:EvL w All Ae es) (hs:RdF w All 4 enSt As e.ss) (hl:e.ss.length<=1048576) (hls:∀ x ∈ es,x.ss.length<=1048576) (hle:es.length<=1048576) :
  Calls Tryz.prog 53 #[.agg #[.int .i64 v.p,.int .i64 v.c,.int .i64 v.h,.int .i64 v.s,.int .i64 n,.slice Ae es.length ce],.agg #[.int .i64 e.k,.int .i64 e.a,.int .i64 e.b,.slice As e.ss.length cs,.int .i64 e.r]] w λ f w'=>∃ A' c',f=.returned (.agg #[.int .i64 v.p,.int .i64 v.c,.int .i64 v.h,.int .i64 v.s,.int .i64 n,.slice A' (es.length+1) c'])∧Evs w' w.heap.size (.slice A' (es.length+1) c') (es++[e])∧Below w.heap.size w w':=by
 obtain⟨i5,ao,ak,aj,ai⟩:=info_parts infoE;have CO:=kD (λ(x:Ev) (A1:Option Addr) (c1:Nat) (y:World) (h1:RdF y All 4 enSt A1 x.ss) (h2:x.ss.length<=1048576)=>eown_s x A1 c1 y h1 h2);have CE:=kD (λ(y:World) (h9:Below w.heap.size w y)=>eown_s e As cs y (hs.keep (.below h9)) hl);have aM:=kD hls;have aO:=kD hes;obtain⟨k,a,b,ss,r⟩:=e;simp only at CE ⊢;obtain⟨N,hN⟩:∃ N,ss.length=N:=⟨_,rfl⟩;rw [hN] at CE ⊢;obtain⟨M,hM⟩:∃ M,es.length=M:=⟨_,rfl⟩;have HM:=kD hM;rw [hM] at hle ⊢;have aE:=hes.len;rw [hM] at aE;clear hes hs hl hls hN hM;go_enter Tryz.func53,Tryz.ntmps53;go_upto_region 1 with fail;refine wp_gen (λ W'=>Gm.Rows w W' [(0,48,[.int .i64 v.p,.int .i64 v.c,.int .i64 v.h,.int .i64 v.s,.int .i64 n,.slice Ae M ce]),(1,63,[.int .i64 k,.int .i64 a,.int .i64 b,.slice As N cs,.int .i64 r]),(2,48,[.int .i64 0,.int .i64 0,.int .i64 0,.int .i64 0,.int .i64 0,.slice none 0 0])]) ⟨by go_grown,λ p J=>?_⟩ ?_
 ·simp only [List.mem_cons,List.not_mem_nil,or_false] at J;rcases J with rfl | rfl | rfl
  ·exact((RowB.new _ _ _).alloc _).alloc _
  ·exact(RowB.new' _ _ _ (by simp)).alloc _
  ·exact RowB.new' _ _ _ (by simp)
 intro w1 K;have aW:=(K.nth 2 rfl).lt;have C:Hid (Evs (w1.alloc (.cells #[] 63)) (w.heap.size+3) (.slice (some ⟨w1.heap.size,0,none⟩) 0 0) (es.take 0)):=kD ⟨[],(RowB.new w1 63 []).own (xs:=([]:List ERow)) (en:=enEv) enEv_len (by omega) (by simp) (by simp),LsR.nil _ _ _,List.Pairwise.nil⟩;have R:=kD (K.below ((Below.refl w1.heap.size w1).alloc (Nat.le_refl _) (.cells #[] 63)));clear K;go_wp2_with fail;go_loopw [5,6] (λ s5 s6 wr=>∃(i:Nat),s6=.int .i64 (i:Int)∧i<=M∧Hid (Evs wr (w.heap.size+3) s5 (es.take i))∧Hid (Gm.Rows w wr [(0,48,[.int .i64 v.p,.int .i64 v.c,.int .i64 v.h,.int .i64 v.s,.int .i64 n,.slice Ae M ce]),(1,63,[.int .i64 k,.int .i64 a,.int .i64 b,.slice As N cs,.int .i64 r]),(2,48,[.int .i64 0,.int .i64 0,.int .i64 0,.int .i64 0,.int .i64 0,.slice none 0 0])])) (λ _ s6 _=>M - (intOf s6).toNat)
 case atStart=>exact⟨0,by first | rfl | trivial,Nat.zero_le _,C,R⟩
 case round =>
  obtain⟨i,rfl,O,C,R⟩:=hrel;obtain⟨A5,c5,e5⟩:=C.out.form;rw [List.length_take,HM.out,Nat.min_eq_left O] at e5;subst e5;have K:=R.out;have rm:=K.nth0 0 rfl;obtain⟨q0,q1,q2,q3,q4,q5⟩:=rm.c6;have H:=rm.lt;by_cases hlt:i<M
  ·obtain⟨ba,oa,x,A1,c1,rfl,ae,G,al,ca,cb,cc,cd,Z⟩:=aO.out.at_ (i:=i) (by rw [HM.out];exact hlt);have D:=K.bel;have ca:=(D.cell (p:=⟨ba,oa+i*5,none⟩) G).trans ca;have cb:=(D.cell (p:=⟨ba,oa+i*5+1,none⟩) G).trans cb;have cc:=(D.cell (p:=⟨ba,oa+i*5+2,none⟩) G).trans cc;have cd:=(D.cell (p:=⟨ba,oa+i*5+3,none⟩) G).trans cd;have Z:=(D.cell (p:=⟨ba,oa+i*5+4,none⟩) G).trans Z;have G:=Nat.lt_of_lt_of_le G D.size;have C1:=kD (CO.out x A1 c1 wr (al.keep (.below D)) (aM.out x (List.mem_of_getElem? ae)));have HT:=kD (show es.take (i+1)=es.take i++[x] from takeS ae);obtain⟨xk,xa,xb,xs,xr⟩:=x;simp only at ca cb cc cd Z C1;obtain⟨m,hm⟩:∃ m,xs.length=m:=⟨_,rfl⟩;rw [hm] at cd C1;clear ae al D hm;go_wp2_with fail;refine C1.out.mono ?_;rintro f w2 ⟨A',c',rfl,S,hb⟩;have aU:=hb.size;have K:=R.out.below hb;have aV:=(K.nth 2 rfl).lt;have aB:=(R.out.nth 2 rfl).lt;obtain⟨rs,ab,P,ac⟩:=Evs.app C.out (by omega) (grown_bel (row:=some w.heap.size) (hb.alloc hb.size (.cells #[.int .i64 xk,.int .i64 xa,.int .i64 xb,.slice A' m c',.int .i64 xr] 63))) (by omega) xk xa xb xr (.slice A' m c') xs ((S.alloc _).more (by simp));rw [List.length_take,HM.out,Nat.min_eq_left O] at P;have az:=kD ac;have aa:=kD (K.below ((Below.refl _ _).alloc (Nat.le_refl _) (.cells #[.int .i64 xk,.int .i64 xa,.int .i64 xb,.slice A' m c',.int .i64 xr] 63)));have E:=C.out.block;have ah:=kD E;clear E ac S K R C q0 q1 q2 q3 q4 q5 H rm ca cb cc cd Z G hb C1;go_wp2_with (at_builtin;refine wpL_one rfl _ _ _ rfl (w.heap.size+3) _ 63 i5 (.agg #[.int .i64 0,.int .i64 0,.int .i64 0,.slice none 0 0,.int .i64 0]) 5 56 Tryz.underlying46 ao ak aj ai rfl (by decide) enEv_len (.slice A5 i c5) rs (xk,xa,xb,.slice A' m c',xr) (one_Ev _ rfl) rfl ab w2.heap.size 1 63 (by first | rfl | (simp;rfl)) (RowB.new _ _ _) ?c1 ?c2 ?c3 ?_)
   case c1=>unfold maxLen;omega
   case c2=>omega
   case c3=>first | omega | (simp;omega)
   intro g aK w3 S hg aq an;have ag:=kD (az.out g _ _ _ S hg (aq.imp id (λ h=>by rw [World.size_alloc];exact h)))
   try rw [P] at ag
   have K3:Gm.Rows w w3 [(0,48,[.int .i64 v.p,.int .i64 v.c,.int .i64 v.h,.int .i64 v.s,.int .i64 n,.slice (some ⟨ba,oa,none⟩) M ce]),(1,63,[.int .i64 k,.int .i64 a,.int .i64 b,.slice As N cs,.int .i64 r]),(2,48,[.int .i64 0,.int .i64 0,.int .i64 0,.int .i64 0,.int .i64 0,.slice none 0 0])]:=⟨aa.out.bel.grown hg aa.out.bel.size (λ q hq=>by have:=(ah.out q hq).1;omega),λ p J=>by
    have h0:=aa.out.at_ _ J;simp only [List.mem_cons,List.not_mem_nil,or_false] at J;rcases J with rfl | rfl | rfl <;> exact h0.grown hg (λ q hq=>by have:=(ah.out q hq).1;simp only;omega)⟩
   have aN:=kD K3;have aP:Hid (Evs w3 (w.heap.size+3) (.slice (some ⟨g,0,none⟩) (i+1) aK) (es.take (i+1))):=by
    show Evs _ _ _ _
    rw [HT.out];exact ag.out
   have aT:IntKind.i64.wrap ((i:Int)+1)=(i:Int)+1:=IntWalk.i64_in _ (by omega)
   try rw [P]
   clear S hg aq an ag K3 ab az aa ah P;go_wp2_with fail;go_roundw
   case rel=>exact⟨i+1,by first | rfl | go_num,by omega,aP,aN⟩
   case measure=>simp [intOf];omega
  ·obtain rfl:M=i:=by omega
   have HX:Hid (es.take M=es):=kD (by rw [<-HM.out];exact List.take_length);rw [HX.out] at C;have aQ:=kD (λ(y:World) (h9:Below wr.heap.size wr y)=>CE.out y (K.bel.trans (h9.mono K.bel.size)));go_upto_region 6 with fail;clear q0 q1 q2 q3 q4 q5 H rm;have aB:=(K.nth 2 rfl).lt;clear K;refine region_rel [some 24,some 25,some 26,some 27,some 28,some 29,some 30,some 31,some 32,some 33,none] 11 (Pl [some (.pointer (some ⟨w.heap.size,0,none⟩)),some (.agg #[.int .i64 v.p,.int .i64 v.c,.int .i64 v.h,.int .i64 v.s]),some (.pointer (some ⟨w.heap.size,4,none⟩)),some (.int .i64 n),some (.slice A5 M c5),some (.agg #[.int .i64 k,.int .i64 a,.int .i64 b,.slice As N cs,.int .i64 r]),none,none,none,none,none]) (λ L l w'=>AdF w wr (w.heap.size+3) (.slice A5 M c5) v n (es++[⟨k,a,b,ss,r⟩]) ⟨k,a,b,ss,r⟩ N (λ W=>Gm.Rows w W [(0,48,[.int .i64 v.p,.int .i64 v.c,.int .i64 v.h,.int .i64 v.s,.int .i64 n,.slice Ae M ce]),(1,63,[.int .i64 k,.int .i64 a,.int .i64 b,.slice As N cs,.int .i64 r]),(2,48,[.int .i64 0,.int .i64 0,.int .i64 0,.int .i64 0,.int .i64 0,.slice none 0 0])]) (L 6) (L 7) (L 8) (L 9) (L 10) (l 6) (l 7) (l 8) (l 9) w') (by kernel_rfl) (by kernel_rfl) (by kernel_rfl) (by kernel_rfl) (by kernel_rfl) (by kernel_rfl) (by first | kernel_rfl | rfl) ?g0_1 ?gst_1 ?gfin_1
   case g0_1=>exact⟨λ _=>R.out.below (Below.refl _ _).drew,λ _=>(Below.refl _ _).drew,λ h=>absurd h (by decide),λ h=>absurd h (by decide),λ h=>absurd h (by decide),λ h=>absurd h (by decide),λ h=>absurd h (by decide)⟩
   case gst_1 =>
    refine rN rfl (λ L l A y d o j U F K B=>?_) ?_
    ·have e2:=U.w 2 (.pointer (some ⟨w.heap.size,0,none⟩));have t:=F.rw (λ h=>d (j 10 0 (by kernel_rfl) h));obtain⟨q0,q1,q2,q3,q4,q5⟩:=(t.nth0 0 rfl).c6;have H:=(t.nth0 0 rfl).lt;obtain⟨r0,r1,r2,r3,r4⟩:=(t.nth 1 rfl).c5;have V:=(t.nth 1 rfl).lt;clear t;go_simp;exact pF B (F.skip 0 _)
    refine rN rfl (λ L l A y d o j U F K B=>?_) ?_
    ·have a2:=U.v 0 24;have t:=F.rw (λ h=>d (j 10 1 (by kernel_rfl) h));obtain⟨q0,q1,q2,q3,q4,q5⟩:=(t.nth0 0 rfl).c6;have H:=(t.nth0 0 rfl).lt;obtain⟨r0,r1,r2,r3,r4⟩:=(t.nth 1 rfl).c5;have V:=(t.nth 1 rfl).lt;clear t;go_simp;exact pF B (F.skip 1 _)
    refine rN rfl (λ L l A y d o j U F K B=>?_) ?_
    ·have e2:=U.w 2 (.pointer (some ⟨w.heap.size,0,none⟩));have t:=F.rw (λ h=>d (j 10 2 (by kernel_rfl) h));obtain⟨q0,q1,q2,q3,q4,q5⟩:=(t.nth0 0 rfl).c6;have H:=(t.nth0 0 rfl).lt;obtain⟨r0,r1,r2,r3,r4⟩:=(t.nth 1 rfl).c5;have V:=(t.nth 1 rfl).lt;clear t;go_simp;exact pF B (F.skip 2 _)
    refine rN rfl (λ L l A y d o j U F K B=>?_) ?_
    ·have a0:=U.v 2 26;have t:=F.rw (λ h=>d (j 10 3 (by kernel_rfl) h));obtain⟨q0,q1,q2,q3,q4,q5⟩:=(t.nth0 0 rfl).c6;have H:=(t.nth0 0 rfl).lt;obtain⟨r0,r1,r2,r3,r4⟩:=(t.nth 1 rfl).c5;have V:=(t.nth 1 rfl).lt;clear t;go_simp;exact pF B (F.skip 3 _)
    refine rN rfl (λ L l A y d o j U F K B=>?_) ?_
    ·have e5:=U.w 5 (.slice A5 M c5);have t:=F.rw (λ h=>d (j 10 4 (by kernel_rfl) h));clear t;go_simp;exact pF B (F.skip 4 _)
    refine rN rfl (λ L l A y d o j U F K B=>?_) ?_
    ·have e3:=U.w 3 (.pointer (some ⟨w.heap.size+1,0,none⟩));have t:=F.rw (λ h=>d (j 10 5 (by kernel_rfl) h));obtain⟨q0,q1,q2,q3,q4,q5⟩:=(t.nth0 0 rfl).c6;have H:=(t.nth0 0 rfl).lt;obtain⟨r0,r1,r2,r3,r4⟩:=(t.nth 1 rfl).c5;have V:=(t.nth 1 rfl).lt;clear t;go_simp;exact pF B (F.skip 5 _)
    refine rN rfl (λ L l A y d o j U F K B=>?_) ?_
    ·have aY:=U.v 5 29;have z:=F.pre (λ h=>d (j 8 6 (by kernel_rfl) h));go_simp;refine(aQ.out y z).mono ?_;rintro f w6 ⟨A7,c7,rfl,S,ap⟩;exact B.out _ w6 (Pl.any rfl) ⟨λ h=>(F.rw (λ q=>h (.inr q))).below ap,λ _=>z.trans (ap.mono z.size),λ _ _=>⟨A7,c7,upd_same _ _ _,S.less z.size⟩,λ h hn=>absurd (j 7 6 (by kernel_rfl) (rL h)) d,λ h=>absurd (j 8 6 (by kernel_rfl) (rL h)) d,λ h=>absurd (j 9 6 (by kernel_rfl) (rL h)) d,λ h=>absurd (j 10 6 (by kernel_rfl) (rL h)) d⟩
    refine rN rfl (λ L l A y d o j U F K B=>?_) ?_
    ·have ay:=U.x 6 30;have z:=F.pre (λ h=>d (j 8 7 (by kernel_rfl) h));refine(F.f6 (bK o 6) (λ h=>d (j 8 7 (by kernel_rfl) h))).elim λ A7 q=>?_
     refine q.elim λ c7 q=>?_
     have aS:=ay.trans q.1;have S:=q.2;have qv:=q.1;clear ay q;go_simp;exact B.out _ _ (Pl.any rfl) ⟨λ h=>(F.rw (λ q=>h (.inr q))).below ((Below.refl _ _).alloc (Nat.le_refl _) _),λ _=>z.alloc z.size _,λ _ _=>⟨A7,c7,by rw [upd_ne (by decide)];exact qv,(S.alloc _).more (by simp)⟩,λ _ _=>⟨A7,c7,y.heap.size,upd_same _ _ _,RowB.new _ _ _,(S.alloc _).more (by simp)⟩,λ h=>absurd (j 8 7 (by kernel_rfl) (rL h)) d,λ h=>absurd (j 9 7 (by kernel_rfl) (rL h)) d,λ h=>absurd (j 10 7 (by kernel_rfl) (rL h)) d⟩
    refine rN rfl (λ L l A y d o j U F K B=>?_) ?_
    ·have aJ:=U.v 4 28;have aI:=U.x 7 31;have z:=F.pre d;refine(F.f7 (bK o 7) d).elim λ A7 q=>?_
     refine q.elim λ c7 q=>?_
     refine q.elim λ gq q=>?_
     have hE:=Evs.app C.out (by omega) (grown_bel (row:=some w.heap.size) z) (by omega) k a b r (.slice A7 N c7) ss q.2.2;refine hE.elim λ rs hE=>?_
     have P:rs.length=M:=hE.2.1.trans HM.out;have E:=C.out.block;refine wp_one _ _ _ rfl (w.heap.size+3) y.heap.size 63 i5 (.agg #[.int .i64 0,.int .i64 0,.int .i64 0,.slice none 0 0,.int .i64 0]) 5 56 Tryz.underlying46 ao ak aj ai rfl (by decide) enEv_len (.slice A5 M c5) rs (k,a,b,.slice A7 N c7,r) (one_Ev _ rfl) (ev aJ) hE.1 gq 1 63 ((ev aI).trans q.1) q.2.1 (by unfold maxLen;omega) (by omega) (by have:=z.size;omega) ?_;intro ar aL ad am I af aC;have Q:=hE.2.2 ar _ _ ad am I af;have KW:=F.rw (λ h=>d (j 10 8 (by kernel_rfl) h));have KR:Gm.Rows w ad [(0,48,[.int .i64 v.p,.int .i64 v.c,.int .i64 v.h,.int .i64 v.s,.int .i64 n,.slice Ae M ce]),(1,63,[.int .i64 k,.int .i64 a,.int .i64 b,.slice As N cs,.int .i64 r]),(2,48,[.int .i64 0,.int .i64 0,.int .i64 0,.int .i64 0,.int .i64 0,.slice none 0 0])]:=⟨KW.bel.grown I KW.bel.size (λ i O=>by have:=(E i O).1;omega),λ p J=>by
      have h0:=KW.at_ _ J;simp only [List.mem_cons,List.not_mem_nil,or_false] at J;rcases J with rfl | rfl | rfl <;> exact h0.grown I (λ i O=>by have:=(E i O).1;simp only;omega)⟩
     exact B.out _ ad (Pl.any rfl) ⟨λ _=>KR,λ h=>absurd (.inl rfl) h,λ _ h=>absurd (.inl rfl) h,λ _ h=>absurd (.inl rfl) h,λ _ _=>⟨ar,_,aL,upd_same _ _ _,by rw [upd_same];exact Q,below_grown z I⟩,λ h=>absurd (j 9 8 (by kernel_rfl) (rL h)) d,λ h=>absurd (j 10 8 (by kernel_rfl) (rL h)) d⟩
    refine rN rfl (λ L l A y d o j U F K B=>?_) ?_
    ·have a1:=U.v 1 25;have aZ:=U.v 3 27;have ax:=U.x 8 32;refine(F.f8 (bK o 8) (λ h=>d (j 10 9 (by kernel_rfl) h))).elim λ Y q=>?_
     refine q.elim λ m8 q=>?_
     refine q.elim λ T q=>?_
     have aR:=ax.trans q.1;clear ax;have qv:=q.1;go_simp;exact B.out _ y (Pl.any rfl) ⟨λ h=>F.rw (λ q=>h (.inr q)),λ h=>F.pre (λ X=>h (.inr X)),λ h X=>absurd (.inr (bK o 8)) X,λ h X=>absurd (.inr (bK o 8)) X,λ _ _=>⟨Y,m8,T,by rw [upd_ne (by decide)];exact q⟩,λ _=>⟨Y,m8,T,by rw [upd_ne (by decide)];exact qv,by rw [upd_same,upd_ne (by decide),qv]⟩,λ h=>absurd (j 10 9 (by kernel_rfl) (rL h)) d⟩
    refine rN rfl (λ L l A y d o j U F K B=>?_) ?_
    ·have e4:=U.w 4 (.pointer (some ⟨w.heap.size+2,0,none⟩));have aH:=U.x 9 33;refine(F.f8 (bK o 8) d).elim λ Y q=>?_
     refine q.elim λ m8 q=>?_
     refine q.elim λ T q=>?_
     have q9:=F.f9 (bK o 9);refine q9.elim λ g9 q9=>?_
     refine q9.elim λ m9 q9=>?_
     refine q9.elim λ c9 q9=>?_
     have E:=C.out.block;have rr:=(R.out.nth 2 rfl).grown q.2.2 (λ i O=>by have:=(E i O).1;omega);have aA:l 9=.agg #[.int .i64 v.p,.int .i64 v.c,.int .i64 v.h,.int .i64 v.s,.int .i64 n,.slice (some ⟨Y,0,none⟩) m8 T]:=by rw [q9.2,q.1]
     refine wp_sm 48 _ _ rfl (w.heap.size+2) 0 [.int .i64 v.p,.int .i64 v.c,.int .i64 v.h,.int .i64 v.s,.int .i64 n,.slice (some ⟨Y,0,none⟩) m8 T] _ (ev e4) (ev (aH.trans aA)) 48 rr (by kernel_rfl) (Nat.le_refl _) rfl ?_;exact B.out undef _ (Pl.any rfl) ⟨λ h=>absurd (.inl rfl) h,λ h=>absurd (.inr (bK o 8)) h,λ h X=>absurd (.inr (bK o 8)) X,λ h X=>absurd (.inr (bK o 8)) X,λ h aF=>absurd (.inl rfl) aF,λ _=>⟨Y,m8,T,by rw [upd_ne (by decide)];exact q.1,by rw [upd_ne (by decide),upd_ne (by decide)];exact q9.2⟩,λ _=>⟨Y,m8,T,by rw [upd_ne (by decide)];exact q.1,by rw [upd_ne (by decide)];exact Evs.low q.2.1 (grown_cells _ _ _ _) (by omega),by rw [upd_ne (by decide),q.1];exact row_cells _ _ _ _ rr,(R.out.bel.grown q.2.2 R.out.bel.size (λ i O=>by have:=(E i O).1;omega)).grown (grown_cells _ _ _ _) (by have:=q.2.2.size;have:=R.out.bel.size;omega) (λ i O=>by simp at O;omega)⟩⟩
    exact RelFrom.nil (by decide)
   intro l y J F;simp only [Fr,Act.put,sX,Nat.reduceAdd];obtain⟨Y,m8,T,e8,Q,rr,aD⟩:=F.f10 trivial;obtain⟨A8,a3,aw⟩:=Q.form;have e9:=e8.symm.trans aw;simp only [Value.slice.injEq] at e9;rw [List.length_append,HM.out] at e9;obtain⟨aG,av,rfl⟩:=e9;simp only [List.length_cons,List.length_nil,Nat.zero_add] at av;subst av;rw [e8] at rr Q;clear F J aw aG;obtain⟨z0,z1,z2,z3,z4,z5⟩:=rr.c6;have aX:=rr.lt
   repeat (first | go_values | go_skip | go_step | go_upon)
   refine bodyPost_ret (v:=.agg #[.int .i64 v.p,.int .i64 v.c,.int .i64 v.h,.int .i64 v.s,.int .i64 n,.slice (some ⟨Y,0,none⟩) (M+1) T]) (by simp [results,Tryz.results53,go_sem,z0,z1,z2,z3,z4,z5]) rfl ?_;exact⟨_,T,rfl,Q.less (by omega),aD⟩
end DwC
end Go.Proofs.YtmncnhbjifeoeaaGreat
