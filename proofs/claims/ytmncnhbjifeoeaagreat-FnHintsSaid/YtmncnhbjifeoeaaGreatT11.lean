/- Parts of the proof of FnHints. Conditions: each theorem's own. -/
import Derived.Test.YtmncnhbjifeoeaaGreatT10
import Derived.Laws.IdiomStrings
import Derived.Maps.Own
import Derived.Maps.OwnSet
import Derived.Maps.Views
import Derived.StringKeys
set_option linter.unusedVariables false
set_option linter.unusedSimpArgs false
set_option maxHeartbeats 8000000
set_option maxRecDepth 100000
namespace Go.Proofs.YtmncnhbjifeoeaaGreat
namespace Bd3
open Go.ChangeShapes Go.WideShapes Go.ChangeAt Go.RowKit Base Ints Own Clone RelG PlP Bd1 Bd2 RegInv RegF
theorem apart_no {v:Vr} {b:Bd} {n k:Nat} (hk:k<n) (h:0<at_ b.1 k∧0<at_ b.2 (v.p.toNat - 1 - k)):apart v b n=false:=by
 cases hc:apart v b n with
 | false=>rfl
 | true=>exact absurd h ((apart_iff n).1 hc k hk)
theorem apart_step {v:Vr} {b:Bd} {k:Nat} (h:apart v b k=true) (hn:¬ (0<at_ b.1 k∧0<at_ b.2 (v.p.toNat - 1 - k))):apart v b (k+1)=true:=by
 refine(apart_iff (k+1)).2 λ i a=>?_
 by_cases e:i=k
 ·subst e;exact hn
 ·exact(apart_iff k).1 h i (by omega)
theorem okB_eq (v:Vr) (b:Bd):okB v b=(okV v && okS v b.1 && okS v b.2 && !(decide (b.1.sum=0) && decide (b.2.sum=0)) && apart v b v.p.toNat):=rfl
theorem isB_s (v:Vr) (b:Bd) (Ao At:Option Addr) (co ct B:Nat) (w:World) (hB:B<=w.heap.size) (ho:RdS w B 1 enI Ao b.1) (ht:RdS w B 1 enI At b.2) (x:Bool) (hx:okB v b=x) :
  Calls Tryz.prog 18 #[.agg #[.int .i64 v.p,.int .i64 v.c,.int .i64 v.h,.int .i64 v.s],.agg #[.slice Ao b.1.length co,.slice At b.2.length ct]] w λ e w'=>e=.returned (.bool x)∧Below w.heap.size w w':=by
 rw [okB_eq] at hx;obtain⟨a,ha⟩:∃ a,okV v=a:=⟨_,rfl⟩;obtain⟨f,ab⟩:∃ a,okS v b.1=a:=⟨_,rfl⟩;obtain⟨m,aa⟩:∃ a,okS v b.2=a:=⟨_,rfl⟩;rw [ha,ab,aa] at hx;have HX:=kD hx;have HA:=kD ha;have H1:=kD ab;have H2:=kD aa;have HO:=kD ho;have HT:=kD ht;have CV:=kD (λ w=>var_s v a ha w);clear hx ha ab aa ho ht;go_enter Tryz.func18,Tryz.ntmps18;go_upto_region 1 with fail;refine wp_gen (λ W'=>Below w.heap.size w W'∧RowB W' w.heap.size 25 (vL v)∧RowB W' (w.heap.size+1) 28 [.slice Ao b.1.length co,.slice At b.2.length ct]) ⟨by go_grown,(RowB.new _ _ _).alloc _,RowB.new' _ _ _ (by simp)⟩ ?_;rintro w1 ⟨ag,l,o⟩;obtain⟨P,O,N,M⟩:=l.c4;obtain⟨J,I⟩:=o.c2;have G:=l.lt;have F:=o.lt;clear P O N M J I G F;have W:=kD (λ(h:(a && f && m)=true)=>okV_iff.1 (HA.out.trans (by revert h;cases a <;> simp)));have Y:=kD (λ(h:(a && f && m)=true)=>okS_iff.1 (H1.out.trans (by revert h;cases f <;> simp)));have X:=kD (λ(h:(a && f && m)=true)=>okS_iff.1 (H2.out.trans (by revert h;cases m <;> simp)));have C1:=kD (λ(g:a=true) t (h:Below w.heap.size w t)=>side_s v (HA.out.trans g) Ao co B b.1 f H1.out t (Nat.le_trans hB h.size) (HO.out.below h hB));have C2:=kD (λ(g:(a && f)=true) t (h:Below w.heap.size w t)=>side_s v (HA.out.trans (by revert g;cases a <;> simp)) At ct B b.2 m H2.out t (Nat.le_trans hB h.size) (HT.out.below h hB));obtain⟨T,ae⟩:∃ z,b.1.sum=z:=⟨_,rfl⟩;obtain⟨S,ad⟩:∃ z,b.2.sum=z:=⟨_,rfl⟩;have S1:=kD (λ(g:(a && f && m)=true) t (h:Below w.heap.size w t)=>sum_s Ao co B b.1 t (HO.out.below h hB) (λ i=>⟨(Y.out g).nn i,by have:=(Y.out g).top i;have:=W.out g;omega⟩) (by have:=(Y.out g).len;have:=W.out g;omega));have S2:=kD (λ(g:(a && f && m)=true) t (h:Below w.heap.size w t)=>sum_s At ct B b.2 t (HT.out.below h hB) (λ i=>⟨(X.out g).nn i,by have:=(X.out g).top i;have:=W.out g;omega⟩) (by have:=(X.out g).len;have:=W.out g;omega));have zz:=kD (λ(g:(a && f && m)=true)=>And.intro (Y.out g).sum0 (And.intro (X.out g).sum0 (And.intro (Y.out g).sum (X.out g).sum)));have R:=kD HX.out;simp only [ae,ad] at S1 S2 zz R;clear ae ad HX;have EZ:=kD (λ(g:(a && f && m)=true)=>(show IntKind.i64.wrap (T+S)=T+S from IntWalk.i64_in _ (by have:=zz.out g;have:=W.out g;omega)));obtain⟨qz,e0⟩:∃ q,(T+S == 0)=q:=⟨_,rfl⟩;have XT:Hid ((a && f && m)=true->qz=false->apart v b v.p.toNat=x):=kD (λ g e=>by
  have h:=zz.out g;rw [e,beq_eq_false_iff_ne] at e0;rw [<-R.out,g,show (decide (T=0) && decide (S=0))=false by simp;omega];rfl)
 have XF:Hid ((bif a && f && m then qz else true)=true->x=false):=kD (λ e=>by
  cases g:(a && f && m) with
  | false=>rw [<-R.out,g];rfl
  | true =>
   rw [g] at e;have h:=zz.out g;have e:qz=true:=e;rw [e,beq_iff_eq] at e0;obtain rfl:T=0:=by omega
   obtain rfl:S=0:=by omega
   rw [<-R.out,g];rfl)
 clear R zz H1 H2 HA;go_upto_region 1 with fail;refine region_fix [some 6,some 7,some 8,some 9,some 10,some 11,some 12,some 13,some 14,some 15,some 16,some 17,some 18,some 19,some 20,some 21,some 22,some 23,some 24,some 25,some 26,some 27,some 28,some 29,some 30,some 31,some 32] (λ j_=>([.agg #[.int .i64 v.p,.int .i64 v.c,.int .i64 v.h,.int .i64 v.s],.bool a,.bool (!a),.bool (!a),(bif (!a) == false then .agg #[.int .i64 v.p,.int .i64 v.c,.int .i64 v.h,.int .i64 v.s] else undef),(bif (!a) == false then .pointer (some ⟨w.heap.size+1,0,none⟩) else undef),(bif (!a) == false then .slice Ao b.1.length co else undef),(bif (!a) == false then .bool f else undef),(bif (!a) == false then .bool (!f) else undef),.bool (!(a && f)),.bool (!(a && f)),(bif (!(a && f)) == false then .agg #[.int .i64 v.p,.int .i64 v.c,.int .i64 v.h,.int .i64 v.s] else undef),(bif (!(a && f)) == false then .pointer (some ⟨w.heap.size+1,1,none⟩) else undef),(bif (!(a && f)) == false then .slice At b.2.length ct else undef),(bif (!(a && f)) == false then .bool m else undef),(bif (!(a && f)) == false then .bool (!m) else undef),.bool (!(a && f && m)),.bool (!(a && f && m)),(bif (!(a && f && m)) == false then .pointer (some ⟨w.heap.size+1,0,none⟩) else undef),(bif (!(a && f && m)) == false then .slice Ao b.1.length co else undef),(bif (!(a && f && m)) == false then .int .i64 T else undef),(bif (!(a && f && m)) == false then .pointer (some ⟨w.heap.size+1,1,none⟩) else undef),(bif (!(a && f && m)) == false then .slice At b.2.length ct else undef),(bif (!(a && f && m)) == false then .int .i64 S else undef),(bif (!(a && f && m)) == false then .int .i64 (T+S) else undef),(bif (!(a && f && m)) == false then .bool qz else undef),.bool (bif a && f && m then qz else true)]:List Value).getD j_ undef) (λ L w'=>Below w.heap.size w w'∧RowB w' w.heap.size 25 (vL v)∧RowB w' (w.heap.size+1) 28 [.slice Ao b.1.length co,.slice At b.2.length ct]) (by kernel_rfl) (by kernel_rfl) (by kernel_rfl) (by kernel_rfl) (by first | kernel_rfl | rfl) (by first | kernel_rfl | rfl) ?hB1 ?hBL1 ?hst1 ?fin1
 case hB1=>exact⟨ag.drew,l.drew,o.drew⟩
 case hBL1=>exact λ _ _ _ _ h=>h
 case hst1 =>
  refine FixFrom.run rfl rfl (λ L A t C n y d K D=>?_) ?_
  ·have e2:A.tmps[2]?.getD undef=.pointer (some ⟨w.heap.size,0,none⟩):=y 2 (by decide);clear n y
   cases a <;> cases f <;> cases m <;>
    (have l:=d.2.1
     have o:=d.2.2;replace d:=d.1;have P:=l.c4.1;have O:=l.c4.2.1;have N:=l.c4.2.2.1;have M:=l.c4.2.2.2;have J:=o.c2.1;have I:=o.c2.2;have G:=l.lt;have F:=o.lt;go_simp;exact D.out t ⟨d,l,o⟩)
  refine FixFrom.run rfl rfl (λ L A t C n y d K D=>?_) ?_
  ·have e6:A.tmps[6]?.getD undef=.agg #[.int .i64 v.p,.int .i64 v.c,.int .i64 v.h,.int .i64 v.s]:=gu n 0 6;clear n y
   cases a <;> cases f <;> cases m <;>
    (have l:=d.2.1
     have o:=d.2.2;replace d:=d.1;have P:=l.c4.1;have O:=l.c4.2.1;have N:=l.c4.2.2.1;have M:=l.c4.2.2.2;have J:=o.c2.1;have I:=o.c2.2;have G:=l.lt;have F:=o.lt;go_simp;refine(CV.out t).mono ?_;rintro e Z ⟨rfl,H⟩;exact D.out Z ⟨d.trans (H.mono d.size),l.below H l.lt,o.below H o.lt⟩)
  refine FixFrom.run rfl rfl (λ L A t C n y d K D=>?_) ?_
  ·have e7:A.tmps[7]?.getD undef=.bool a:=gu n 1 7;clear n y
   cases a <;> cases f <;> cases m <;>
    (go_simp
     exact D.out t d)
  refine FixFrom.run rfl rfl (λ L A t C n y d K D=>?_) ?_
  ·have e8:A.tmps[8]?.getD undef=.bool (!a):=gu n 2 8;clear n y
   cases a <;> cases f <;> cases m <;>
    (go_simp
     exact D.out t d)
  refine FixFrom.gd ((!a) == false) rfl rfl (by cases a <;> cases f <;> cases m <;> first | exact λ _=>rfl | exact λ h=>absurd h (by decide)) (λ _ _ h=>h) (λ E L A t C n y d K D=>?_) ?_
  ·have e2:A.tmps[2]?.getD undef=.pointer (some ⟨w.heap.size,0,none⟩):=y 2 (by decide);clear n y
   cases a <;> cases f <;> cases m <;> first
    | exact absurd E (by decide)
    | (have l:=d.2.1
       have o:=d.2.2;replace d:=d.1;have P:=l.c4.1;have O:=l.c4.2.1;have N:=l.c4.2.2.1;have M:=l.c4.2.2.2;have J:=o.c2.1;have I:=o.c2.2;have G:=l.lt;have F:=o.lt;go_simp;exact D.out t ⟨d,l,o⟩)
  refine FixFrom.gd ((!a) == false) rfl rfl (by cases a <;> cases f <;> cases m <;> first | exact λ _=>rfl | exact λ h=>absurd h (by decide)) (λ _ _ h=>h) (λ E L A t C n y d K D=>?_) ?_
  ·have e3:A.tmps[3]?.getD undef=.pointer (some ⟨w.heap.size+1,0,none⟩):=y 3 (by decide);clear n y
   cases a <;> cases f <;> cases m <;> first
    | exact absurd E (by decide)
    | (go_simp
       exact D.out t d)
  refine FixFrom.gd ((!a) == false) rfl rfl (by cases a <;> cases f <;> cases m <;> first | exact λ _=>rfl | exact λ h=>absurd h (by decide)) (λ _ _ h=>h) (λ E L A t C n y d K D=>?_) ?_
  ·have aK:A.tmps[11]?.getD undef=(bif (!a) == false then .pointer (some ⟨w.heap.size+1,0,none⟩) else undef):=gu n 5 11;clear n y
   cases a <;> cases f <;> cases m <;> first
    | exact absurd E (by decide)
    | (have l:=d.2.1
       have o:=d.2.2;replace d:=d.1;have P:=l.c4.1;have O:=l.c4.2.1;have N:=l.c4.2.2.1;have M:=l.c4.2.2.2;have J:=o.c2.1;have I:=o.c2.2;have G:=l.lt;have F:=o.lt;go_simp;exact D.out t ⟨d,l,o⟩)
  refine FixFrom.gd ((!a) == false) rfl rfl (by cases a <;> cases f <;> cases m <;> first | exact λ _=>rfl | exact λ h=>absurd h (by decide)) (λ _ _ h=>h) (λ E L A t C n y d K D=>?_) ?_
  ·have aL:A.tmps[10]?.getD undef=(bif (!a) == false then .agg #[.int .i64 v.p,.int .i64 v.c,.int .i64 v.h,.int .i64 v.s] else undef):=gu n 4 10;have aJ:A.tmps[12]?.getD undef=(bif (!a) == false then .slice Ao b.1.length co else undef):=gu n 6 12;clear n y
   cases a <;> cases f <;> cases m <;> first
    | exact absurd E (by decide)
    | (have l:=d.2.1
       have o:=d.2.2;replace d:=d.1;have P:=l.c4.1;have O:=l.c4.2.1;have N:=l.c4.2.2.1;have M:=l.c4.2.2.2;have J:=o.c2.1;have I:=o.c2.2;have G:=l.lt;have F:=o.lt;go_simp;refine(C1.out rfl t d).mono ?_;rintro e Z ⟨rfl,H⟩;exact D.out Z ⟨d.trans (H.mono d.size),l.below H l.lt,o.below H o.lt⟩)
  refine FixFrom.gd ((!a) == false) rfl rfl (by cases a <;> cases f <;> cases m <;> first | exact λ _=>rfl | exact λ h=>absurd h (by decide)) (λ _ _ h=>h) (λ E L A t C n y d K D=>?_) ?_
  ·have aI:A.tmps[13]?.getD undef=(bif (!a) == false then .bool f else undef):=gu n 7 13;clear n y
   cases a <;> cases f <;> cases m <;> first
    | exact absurd E (by decide)
    | (go_simp
       exact D.out t d)
  refine FixFrom.run rfl rfl (λ L A t C n y d K D=>?_) ?_
  ·have e9:A.tmps[9]?.getD undef=.bool (!a):=gu n 3 9;have aH:A.tmps[14]?.getD undef=(bif (!a) == false then .bool (!f) else undef):=gu n 8 14;clear n y
   cases a <;> cases f <;> cases m <;>
    (go_simp
     exact D.out t d)
  refine FixFrom.run rfl rfl (λ L A t C n y d K D=>?_) ?_
  ·have aG:A.tmps[15]?.getD undef=.bool (!(a && f)):=gu n 9 15;clear n y
   cases a <;> cases f <;> cases m <;>
    (go_simp
     exact D.out t d)
  refine FixFrom.gd ((!(a && f)) == false) rfl rfl (by cases a <;> cases f <;> cases m <;> first | exact λ _=>rfl | exact λ h=>absurd h (by decide)) (λ _ _ h=>h) (λ E L A t C n y d K D=>?_) ?_
  ·have e2:A.tmps[2]?.getD undef=.pointer (some ⟨w.heap.size,0,none⟩):=y 2 (by decide);clear n y
   cases a <;> cases f <;> cases m <;> first
    | exact absurd E (by decide)
    | (have l:=d.2.1
       have o:=d.2.2;replace d:=d.1;have P:=l.c4.1;have O:=l.c4.2.1;have N:=l.c4.2.2.1;have M:=l.c4.2.2.2;have J:=o.c2.1;have I:=o.c2.2;have G:=l.lt;have F:=o.lt;go_simp;exact D.out t ⟨d,l,o⟩)
  refine FixFrom.gd ((!(a && f)) == false) rfl rfl (by cases a <;> cases f <;> cases m <;> first | exact λ _=>rfl | exact λ h=>absurd h (by decide)) (λ _ _ h=>h) (λ E L A t C n y d K D=>?_) ?_
  ·have e3:A.tmps[3]?.getD undef=.pointer (some ⟨w.heap.size+1,0,none⟩):=y 3 (by decide);clear n y
   cases a <;> cases f <;> cases m <;> first
    | exact absurd E (by decide)
    | (go_simp
       exact D.out t d)
  refine FixFrom.gd ((!(a && f)) == false) rfl rfl (by cases a <;> cases f <;> cases m <;> first | exact λ _=>rfl | exact λ h=>absurd h (by decide)) (λ _ _ h=>h) (λ E L A t C n y d K D=>?_) ?_
  ·have aD:A.tmps[18]?.getD undef=(bif (!(a && f)) == false then .pointer (some ⟨w.heap.size+1,1,none⟩) else undef):=gu n 12 18;clear n y
   cases a <;> cases f <;> cases m <;> first
    | exact absurd E (by decide)
    | (have l:=d.2.1
       have o:=d.2.2;replace d:=d.1;have P:=l.c4.1;have O:=l.c4.2.1;have N:=l.c4.2.2.1;have M:=l.c4.2.2.2;have J:=o.c2.1;have I:=o.c2.2;have G:=l.lt;have F:=o.lt;go_simp;exact D.out t ⟨d,l,o⟩)
  refine FixFrom.gd ((!(a && f)) == false) rfl rfl (by cases a <;> cases f <;> cases m <;> first | exact λ _=>rfl | exact λ h=>absurd h (by decide)) (λ _ _ h=>h) (λ E L A t C n y d K D=>?_) ?_
  ·have aE:A.tmps[17]?.getD undef=(bif (!(a && f)) == false then .agg #[.int .i64 v.p,.int .i64 v.c,.int .i64 v.h,.int .i64 v.s] else undef):=gu n 11 17;have aC:A.tmps[19]?.getD undef=(bif (!(a && f)) == false then .slice At b.2.length ct else undef):=gu n 13 19;clear n y
   cases a <;> cases f <;> cases m <;> first
    | exact absurd E (by decide)
    | (have l:=d.2.1
       have o:=d.2.2;replace d:=d.1;have P:=l.c4.1;have O:=l.c4.2.1;have N:=l.c4.2.2.1;have M:=l.c4.2.2.2;have J:=o.c2.1;have I:=o.c2.2;have G:=l.lt;have F:=o.lt;go_simp;refine(C2.out rfl t d).mono ?_;rintro e Z ⟨rfl,H⟩;exact D.out Z ⟨d.trans (H.mono d.size),l.below H l.lt,o.below H o.lt⟩)
  refine FixFrom.gd ((!(a && f)) == false) rfl rfl (by cases a <;> cases f <;> cases m <;> first | exact λ _=>rfl | exact λ h=>absurd h (by decide)) (λ _ _ h=>h) (λ E L A t C n y d K D=>?_) ?_
  ·have aB:A.tmps[20]?.getD undef=(bif (!(a && f)) == false then .bool m else undef):=gu n 14 20;clear n y
   cases a <;> cases f <;> cases m <;> first
    | exact absurd E (by decide)
    | (go_simp
       exact D.out t d)
  refine FixFrom.run rfl rfl (λ L A t C n y d K D=>?_) ?_
  ·have aF:A.tmps[16]?.getD undef=.bool (!(a && f)):=gu n 10 16;have aA:A.tmps[21]?.getD undef=(bif (!(a && f)) == false then .bool (!m) else undef):=gu n 15 21;clear n y
   cases a <;> cases f <;> cases m <;>
    (go_simp
     exact D.out t d)
  refine FixFrom.run rfl rfl (λ L A t C n y d K D=>?_) ?_
  ·have az:A.tmps[22]?.getD undef=.bool (!(a && f && m)):=gu n 16 22;clear n y
   cases a <;> cases f <;> cases m <;>
    (go_simp
     exact D.out t d)
  refine FixFrom.gd ((!(a && f && m)) == false) rfl rfl (by cases a <;> cases f <;> cases m <;> first | exact λ _=>rfl | exact λ h=>absurd h (by decide)) (λ _ _ h=>h) (λ E L A t C n y d K D=>?_) ?_
  ·have e3:A.tmps[3]?.getD undef=.pointer (some ⟨w.heap.size+1,0,none⟩):=y 3 (by decide);clear n y
   cases a <;> cases f <;> cases m <;> first
    | exact absurd E (by decide)
    | (go_simp
       exact D.out t d)
  refine FixFrom.gd ((!(a && f && m)) == false) rfl rfl (by cases a <;> cases f <;> cases m <;> first | exact λ _=>rfl | exact λ h=>absurd h (by decide)) (λ _ _ h=>h) (λ E L A t C n y d K D=>?_) ?_
  ·have ax:A.tmps[24]?.getD undef=(bif (!(a && f && m)) == false then .pointer (some ⟨w.heap.size+1,0,none⟩) else undef):=gu n 18 24;clear n y
   cases a <;> cases f <;> cases m <;> first
    | exact absurd E (by decide)
    | (have l:=d.2.1
       have o:=d.2.2;replace d:=d.1;have P:=l.c4.1;have O:=l.c4.2.1;have N:=l.c4.2.2.1;have M:=l.c4.2.2.2;have J:=o.c2.1;have I:=o.c2.2;have G:=l.lt;have F:=o.lt;go_simp;exact D.out t ⟨d,l,o⟩)
  refine FixFrom.gd ((!(a && f && m)) == false) rfl rfl (by cases a <;> cases f <;> cases m <;> first | exact λ _=>rfl | exact λ h=>absurd h (by decide)) (λ _ _ h=>h) (λ E L A t C n y d K D=>?_) ?_
  ·have aw:A.tmps[25]?.getD undef=(bif (!(a && f && m)) == false then .slice Ao b.1.length co else undef):=gu n 19 25;clear n y
   cases a <;> cases f <;> cases m <;> first
    | exact absurd E (by decide)
    | (have l:=d.2.1
       have o:=d.2.2;replace d:=d.1;have P:=l.c4.1;have O:=l.c4.2.1;have N:=l.c4.2.2.1;have M:=l.c4.2.2.2;have J:=o.c2.1;have I:=o.c2.2;have G:=l.lt;have F:=o.lt;go_simp;refine(S1.out rfl t d).mono ?_;rintro e Z ⟨rfl,rfl⟩;exact D.out t ⟨d,l,o⟩)
  refine FixFrom.gd ((!(a && f && m)) == false) rfl rfl (by cases a <;> cases f <;> cases m <;> first | exact λ _=>rfl | exact λ h=>absurd h (by decide)) (λ _ _ h=>h) (λ E L A t C n y d K D=>?_) ?_
  ·have e3:A.tmps[3]?.getD undef=.pointer (some ⟨w.heap.size+1,0,none⟩):=y 3 (by decide);clear n y
   cases a <;> cases f <;> cases m <;> first
    | exact absurd E (by decide)
    | (go_simp
       exact D.out t d)
  refine FixFrom.gd ((!(a && f && m)) == false) rfl rfl (by cases a <;> cases f <;> cases m <;> first | exact λ _=>rfl | exact λ h=>absurd h (by decide)) (λ _ _ h=>h) (λ E L A t C n y d K D=>?_) ?_
  ·have ar:A.tmps[27]?.getD undef=(bif (!(a && f && m)) == false then .pointer (some ⟨w.heap.size+1,1,none⟩) else undef):=gu n 21 27;clear n y
   cases a <;> cases f <;> cases m <;> first
    | exact absurd E (by decide)
    | (have l:=d.2.1
       have o:=d.2.2;replace d:=d.1;have P:=l.c4.1;have O:=l.c4.2.1;have N:=l.c4.2.2.1;have M:=l.c4.2.2.2;have J:=o.c2.1;have I:=o.c2.2;have G:=l.lt;have F:=o.lt;go_simp;exact D.out t ⟨d,l,o⟩)
  refine FixFrom.gd ((!(a && f && m)) == false) rfl rfl (by cases a <;> cases f <;> cases m <;> first | exact λ _=>rfl | exact λ h=>absurd h (by decide)) (λ _ _ h=>h) (λ E L A t C n y d K D=>?_) ?_
  ·have aq:A.tmps[28]?.getD undef=(bif (!(a && f && m)) == false then .slice At b.2.length ct else undef):=gu n 22 28;clear n y
   cases a <;> cases f <;> cases m <;> first
    | exact absurd E (by decide)
    | (have l:=d.2.1
       have o:=d.2.2;replace d:=d.1;have P:=l.c4.1;have O:=l.c4.2.1;have N:=l.c4.2.2.1;have M:=l.c4.2.2.2;have J:=o.c2.1;have I:=o.c2.2;have G:=l.lt;have F:=o.lt;go_simp;refine(S2.out rfl t d).mono ?_;rintro e Z ⟨rfl,rfl⟩;exact D.out t ⟨d,l,o⟩)
  refine FixFrom.gd ((!(a && f && m)) == false) rfl rfl (by cases a <;> cases f <;> cases m <;> first | exact λ _=>rfl | exact λ h=>absurd h (by decide)) (λ _ _ h=>h) (λ E L A t C n y d K D=>?_) ?_
  ·have av:A.tmps[26]?.getD undef=(bif (!(a && f && m)) == false then .int .i64 T else undef):=gu n 20 26;have ap:A.tmps[29]?.getD undef=(bif (!(a && f && m)) == false then .int .i64 S else undef):=gu n 23 29;clear n y
   cases a <;> cases f <;> cases m <;> first
    | exact absurd E (by decide)
    | (have ez:=EZ.out rfl
       go_simp;exact D.out t d)
  refine FixFrom.gd ((!(a && f && m)) == false) rfl rfl (by cases a <;> cases f <;> cases m <;> first | exact λ _=>rfl | exact λ h=>absurd h (by decide)) (λ _ _ h=>h) (λ E L A t C n y d K D=>?_) ?_
  ·have ao:A.tmps[30]?.getD undef=(bif (!(a && f && m)) == false then .int .i64 (T+S) else undef):=gu n 24 30;clear n y
   cases a <;> cases f <;> cases m <;> first
    | exact absurd E (by decide)
    | (go_simp
       exact D.out t d)
  refine FixFrom.run rfl rfl (λ L A t C n y d K D=>?_) ?_
  ·have ay:A.tmps[23]?.getD undef=.bool (!(a && f && m)):=gu n 17 23;have an:A.tmps[31]?.getD undef=(bif (!(a && f && m)) == false then .bool qz else undef):=gu n 25 31;clear n y
   cases a <;> cases f <;> cases m <;>
    (go_simp
     exact D.out t d)
  exact FixFrom.nil (by decide)
 case fin1 =>
  intro t d;simp only [Fr,Act.put,sX,Nat.reduceAdd,List.getD_cons_zero,List.getD_cons_succ];obtain⟨V,l,o⟩:=d;obtain⟨P,O,N,M⟩:=l.c4;obtain⟨J,I⟩:=o.c2;have G:=l.lt;have F:=o.lt;obtain⟨r,hr⟩:∃ r,(bif a && f && m then qz else true)=r:=⟨_,rfl⟩;rw [hr] at XF ⊢
  cases r
  case true =>
   obtain rfl:=XF.out rfl;clear XF XT EZ S1 S2 C1 C2 Y X W hr e0;go_wp2_with fail;go_ret;exact⟨rfl,V⟩
  have g:(a && f && m)=true:=by
   cases g:(a && f && m) with
   | true=>rfl
   | false=>rw [g] at hr;cases hr
  rw [g] at hr;have af:=kD (XT.out g hr);have aj:=W.out g;have N1:=(Y.out g).len;have N2:=(X.out g).len;have ak:0<=v.p:=by omega
  clear XF XT EZ S1 S2 C1 C2 Y X W hr e0 g;go_wp2_with fail;go_loopw [5] (λ i wr=>∃(k:Nat),(k:Int)<=v.p∧i=.int .i64 (k:Int)∧Hid (Below w.heap.size w wr)∧RowB wr w.heap.size 25 (vL v)∧RowB wr (w.heap.size+1) 28 [.slice Ao b.1.length co,.slice At b.2.length ct]∧Hid (apart v b k=true)) (λ i _=>v.p.toNat - (intOf i).toNat)
  case atStart=>exact⟨0,by omega,by first | rfl | trivial,kD V,l,o,rfl⟩
  case round =>
   obtain⟨k,hk,rfl,V,l,o,ac⟩:=hrel;clear P O N M J I G F;obtain⟨P,O,N,M⟩:=l.c4;obtain⟨J,I⟩:=o.c2;by_cases hlt:(k:Int)<v.p
   ·obtain⟨b1,o1,rfl,ai,am⟩:=at_rd (HO.out.below V.out hB) (i:=k) (by omega);have ei:(v.p - 1 - (k:Int)).toNat=v.p.toNat - 1 - k:=by omega
    obtain⟨j,hj⟩:∃ j:Nat,v.p - 1 - (k:Int)=(j:Int):=⟨(v.p - 1 - (k:Int)).toNat,by omega⟩;have Q:v.p.toNat - 1 - k=j:=by omega
    obtain⟨b2,o2,rfl,ah,al⟩:=at_rd (HT.out.below V.out hB) (i:=j) (by omega);have e1:IntKind.i64.wrap (v.p - 1)=v.p - 1:=IntWalk.i64_in _ (by omega);have e2:IntKind.i64.wrap (v.p - 1 - (k:Int))=(j:Int):=by rw [hj];exact IntWalk.i64_in _ (by omega)
    by_cases g1:0<at_ b.1 k
    ·by_cases g2:0<at_ b.2 j
     ·obtain rfl:x=false:=by rw [<-af.out];exact apart_no (k:=k) (by omega) ⟨g1,by rw [Q];exact g2⟩
      clear ei Q;go_wp2_with fail;go_ret;exact⟨rfl,V.out⟩
     ·have HP:Hid (apart v b (k+1)=true):=kD (apart_step ac.out (λ h=>g2 (by rw [<-Q];exact h.2)));clear ei Q;go_wp2_with fail;go_roundw
      case rel=>exact⟨k+1,by omega,by go_num,V,l,o,HP⟩
      case measure=>simp [intOf];omega
    ·have HP:Hid (apart v b (k+1)=true):=kD (apart_step ac.out (λ h=>g1 h.1));clear ei Q;go_wp2_with fail;go_roundw
     case rel=>exact⟨k+1,by omega,by go_num,V,l,o,HP⟩
     case measure=>simp [intOf];omega
   ·obtain rfl:x=true:=by rw [<-af.out,<-ac.out];congr 1;omega
    go_wp2_with fail;go_ret;exact⟨rfl,V.out⟩
end Bd3
namespace Bd9
open Go.ChangeShapes Go.WideShapes Go.ChangeAt Go.RowKit Base Ints Own Clone PlP Bd1
theorem one_B (x:Int):∀ u ∈ enB x,u.oneCell'=true:=by intro u a;simp [enB] at a;subst a;rfl
theorem infoB:(Tryz.prog.info? 5).map (λ i=>(i.zero,i.size,i.bytes))=some (some (.int .u8 0),1,1):=by kernel_rfl
def nums (l:List UInt8):List Int:=l.map λ b=>(b.toNat:Int)
theorem nums_len (l:List UInt8):(nums l).length=l.length:=by unfold nums;rw [List.length_map]
theorem convL (W:World) (B:Nat) (b off cap:Nat) (l:List UInt8) (h:RdS W B 1 enB (some ⟨b,off,none⟩) (nums l)):(convert 22 9 (.slice (some ⟨b,off,none⟩) l.length cap)).run Tryz.prog W=.ok (.string ⟨l.toArray⟩) W:=by
 refine run_convert_bytes_back W 22 9 5 ⟨b,off,none⟩ cap l Tryz.underlying22 Tryz.underlying5 Tryz.underlying9 ?_;intro j f;obtain⟨k,c,d,_,g⟩:=h.2 (by rw [nums_len];omega);simp only [Option.some.injEq,Addr.mk.injEq,and_true] at d;obtain⟨rfl,rfl⟩:=d;have e:(nums l)[j]?=some ((l[j].toNat:Nat):Int):=by unfold nums;rw [List.getElem?_map,List.getElem?_eq_getElem f];rfl
 have i:=g j _ e 0 _ rfl;have a:(⟨b,off,none⟩:Addr).add j=⟨b,off+j,none⟩:=by unfold Addr.add;split <;> simp_all
 rw [a]
 simpa using i
theorem key_nums {b:Bd} (h1:∀ i,0<=at_ b.1 i∧at_ b.1 i<=200) (h2:∀ i,0<=at_ b.2 i∧at_ b.2 i<=200):nums (keyP b)=b.1++b.2:=by
 have a:∀ l:List Int,(∀ i,0<=at_ l i∧at_ l i<=200)->(l.map λ n:Int=>UInt8.ofNat n.toNat).map (λ b:UInt8=>(b.toNat:Int))=l:=by
  intro l d;rw [List.map_map];refine List.map_congr_left (f:=_) (g:=id) (λ x c=>?_) |>.trans (List.map_id _)
  obtain⟨i,h,rfl⟩:=List.mem_iff_getElem.1 c;have:=d i;have e:at_ l i=l[i]:=by unfold at_;rw [List.getD_eq_getElem?_getD,List.getElem?_eq_getElem h];rfl
  rw [e] at this;simp only [Function.comp,id];rw [UInt8.toNat_ofNat_of_lt' (by show _<256;omega)];omega
 unfold nums keyP;rw [List.map_append,List.map_append,a _ h1,a _ h2]
theorem key_len (b:Bd):(keyP b).length=b.1.length+b.2.length:=by unfold keyP;simp
theorem take_at {l:List Int} {k:Nat} (h:k<l.length):l.take (k+1)=l.take k++[at_ l k]:=take_succ l k _ (at_get h)
theorem key_i (l m:List Int) (n:Nat) (hln:l.length=n) (hmn:m.length=n) (hn:0<n∧n<=1000) (h1:∀ i,0<=at_ l i∧at_ l i<=200) (h2:∀ i,0<=at_ m i∧at_ m i<=200) (Ao At:Option Addr) (co ct B:Nat) (w:World) (hB:B<=w.heap.size) (hr1:RdS w B 1 enI Ao l) (hr2:RdS w B 1 enI At m) :
  Calls Tryz.prog 86 #[.agg #[.slice Ao n co,.slice At n ct]] w λ e w'=>e=.returned (.string ⟨(keyP (l,m)).toArray⟩)∧Below w.heap.size w w':=by
 obtain⟨iB,Q,y,x,v⟩:=info_parts infoB;have HL:=kD hln;have HM:=kD hmn;have ac:=kD h1;have ab:=kD h2;have ai:=kD hr1;have ah:=kD hr2;have W:IntKind.i64.wrap ((n:Int)+(n:Int))=((n+n:Nat):Int):=by rw [IntWalk.i64_in _ (by omega)];omega
 clear hln hmn h1 h2 hr1 hr2;go_enter Tryz.func86,Tryz.ntmps86;go_upto_region 1 with fail;refine wp_gen (λ W'=>Below w.heap.size w W'∧RowB W' w.heap.size 28 [.slice Ao n co,.slice At n ct]) ⟨by go_grown,RowB.new _ _ _⟩ ?_;rintro w1 ⟨G,f⟩;obtain⟨V,T⟩:=f.c2;have t:=f.lt;go_wp2_with (at_make;refine wpList_make_own _ rfl _ _ _ rfl (w.heap.size+1) 5 iB (.int .u8 0) 1 Tryz.underlying22 Q y x _ _ _ (n+n) rfl rfl ?c0 ?c1 ?c2 (by omega) ?_)
 case c0=>first | rfl | exact W | (simp [W];done) | (simp;omega)
 case c1=>rw [v];omega
 case c2=>unfold maxLen;omega
 intro w2 A j;have ae:Hid (OwnS w2 (w.heap.size+1) w2.heap.size 5 1 enB (.slice (some ⟨w1.heap.size,0,none⟩) 0 (n+n)) (l.take 0)):=kD ⟨by simpa using A,λ g s=>by simp [Value.ownBlock] at s;subst s;exact(A.lt _ rfl).2⟩;have f:=f.grown j (λ _ h=>by simp at h);have G:=G.grown j G.size (λ _ h=>by simp at h);clear A j V T t;obtain⟨V,T⟩:=f.c2;have t:=f.lt;go_wp2_with fail;go_loopw [3,19] (λ vl i wr=>∃ k:Nat,k<=n∧i=.int .i64 (k:Int)∧Hid (Below w.heap.size w wr)∧RowB wr w.heap.size 28 [.slice Ao n co,.slice At n ct]∧Hid (OwnS wr (w.heap.size+1) wr.heap.size 5 1 enB vl (l.take k))∧Hid ((l.take k).length=0+k)) (λ _ i _=>n - (intOf i).toNat)
 case atStart=>exact⟨0,Nat.zero_le _,by first | rfl | trivial,kD G,f,ae,kD (by simp)⟩
 case round =>
  obtain⟨k,hk,rfl,E,f,q,a⟩:=hrel;clear V T t;obtain⟨V,T⟩:=f.c2;have t:=f.lt;by_cases hlt:k<n
  ·obtain⟨b1,o1,rfl,aa,ag⟩:=at_rd (ai.out.below E.out hB) (i:=k) (by rw [HL.out];exact hlt);have af:(k:Int)<(n:Int):=by omega
   have ad:IntKind.u8.wrap (at_ l k)=at_ l k:=IntWalk.u8_in _ (by have:=ac.out k;omega);have S:=kD (show l.take (k+1)=l.take k++[at_ l k] from take_at (by rw [HL.out];exact hlt));obtain⟨X,hX⟩:∃ X,l.take k=X:=⟨_,rfl⟩;rw [hX] at q a S;clear hX;obtain⟨I,H,z,_⟩:=q.out.form enB_len;subst z;go_wp2_with (at_builtin;refine wpL_app rfl _ _ _ rfl (w.heap.size+1) _ 5 iB (.int .u8 0) 1 1 Tryz.underlying22 Q y x v rfl (by decide) enB_len one_B (.slice I X.length H) X [at_ l k] rfl (q.out.alloc _) ⟨wr.heap.size,0,none⟩ 1 1 (by first | rfl | (simp;rfl) | (simp [go_sem];done)) rfl (news_new (RowB.new _ _ _)) (by decide) ?c1 ?c2 ?c3 ?_)
   case c1=>have:=a.out;unfold maxLen;omega
   case c2=>have:=a.out;omega
   case c3=>go_size
   intro k2 c2 L C D F Y;have d:∀ g,(Value.slice I X.length H).ownBlock=some g->w.heap.size+1<=g:=λ g s=>(q.out.block g s).1
   have p:wr.grownBy L (Value.slice I X.length H).ownBlock:=below_grown (w:=wr) (by go_grown) D;have f:=f.grown p (λ g s=>by have:=d g s;omega);have R:=kD (E.out.grown p E.out.size (λ g s=>by have:=d g s;omega));have M:=kD (show OwnS L (w.heap.size+1) L.heap.size 5 1 enB (.slice (some ⟨k2,0,none⟩) (X.length+1) c2) (l.take (k+1)) from by rw [S.out];exact C);have O:Hid ((l.take (k+1)).length=0+(k+1)):=kD (by rw [S.out,List.length_append,a.out,List.length_singleton];omega);clear D p F C d E q a;go_wp2_with fail;go_roundw
   case rel=>exact⟨k+1,by omega,by go_num,R,f,M,O⟩
   case measure=>simp [intOf];omega
  ·obtain rfl:n=k:=by omega
   have Z:l.take n=l:=by rw [<-HL.out];exact List.take_length
   go_wp2_with fail;go_loopw [3,32] (λ vl i wr=>∃ k:Nat,k<=n∧i=.int .i64 (k:Int)∧Hid (Below w.heap.size w wr)∧RowB wr w.heap.size 28 [.slice Ao n co,.slice At n ct]∧Hid (OwnS wr (w.heap.size+1) wr.heap.size 5 1 enB vl (l++m.take k))∧Hid ((l++m.take k).length=n+k)) (λ _ i _=>n - (intOf i).toNat)
   case atStart=>exact⟨0,Nat.zero_le _,by first | rfl | trivial,E,f,by simpa [Z] using q,kD (by simp [HL.out])⟩
   case round =>
    obtain⟨k,hk,rfl,E,f,q,a⟩:=hrel;clear V T t;obtain⟨V,T⟩:=f.c2;have t:=f.lt;by_cases hlt:k<n
    ·obtain⟨b1,o1,rfl,aa,ag⟩:=at_rd (ah.out.below E.out hB) (i:=k) (by rw [HM.out];exact hlt);have af:(k:Int)<(n:Int):=by omega
     have ad:IntKind.u8.wrap (at_ m k)=at_ m k:=IntWalk.u8_in _ (by have:=ab.out k;omega);have S:=kD (show l++m.take (k+1)=l++m.take k++[at_ m k] from by rw [take_at (by rw [HM.out];exact hlt),List.append_assoc]);obtain⟨X,hX⟩:∃ X,l++m.take k=X:=⟨_,rfl⟩;rw [hX] at q a S;clear hX;obtain⟨I,H,z,_⟩:=q.out.form enB_len;subst z;go_wp2_with (at_builtin;refine wpL_app rfl _ _ _ rfl (w.heap.size+1) _ 5 iB (.int .u8 0) 1 1 Tryz.underlying22 Q y x v rfl (by decide) enB_len one_B (.slice I X.length H) X [at_ m k] rfl (q.out.alloc _) ⟨wr.heap.size,0,none⟩ 1 1 (by first | rfl | (simp;rfl) | (simp [go_sem];done)) rfl (news_new (RowB.new _ _ _)) (by decide) ?c1 ?c2 ?c3 ?_)
     case c1=>have:=a.out;unfold maxLen;omega
     case c2=>have:=a.out;omega
     case c3=>go_size
     intro k2 c2 L C D F Y;have d:∀ g,(Value.slice I X.length H).ownBlock=some g->w.heap.size+1<=g:=λ g s=>(q.out.block g s).1
     have p:wr.grownBy L (Value.slice I X.length H).ownBlock:=below_grown (w:=wr) (by go_grown) D;have f:=f.grown p (λ g s=>by have:=d g s;omega);have R:=kD (E.out.grown p E.out.size (λ g s=>by have:=d g s;omega));have M:=kD (show OwnS L (w.heap.size+1) L.heap.size 5 1 enB (.slice (some ⟨k2,0,none⟩) (X.length+1) c2) (l++m.take (k+1)) from by rw [S.out];exact C);have O:Hid ((l++m.take (k+1)).length=n+(k+1)):=kD (by rw [S.out,List.length_append,a.out,List.length_singleton];omega);clear D p F C d E q a;go_wp2_with fail;go_roundw
     case rel=>exact⟨k+1,by omega,by go_num,R,f,M,O⟩
     case measure=>simp [intOf];omega
    ·obtain rfl:n=k:=by omega
     have N:m.take n=m:=by rw [<-HM.out];exact List.take_length
     have J:=key_nums (b:=(l,m)) ac.out ab.out;have P:=key_len (l,m);have o:=q.out;rw [N,<-J] at o;obtain⟨I,H,z,_⟩:=q.out.form enB_len;subst z;have K:(l++List.take n m).length=(keyP (l,m)).length:=by rw [P,N];simp
     rw [K] at o ⊢;obtain⟨b9,rfl⟩:∃ b9,I=some ⟨b9,0,none⟩:=by
      rcases o.cases_ with ⟨-,e⟩ | ⟨g,c,r,e,-⟩
      ·exact absurd (congrArg List.length e) (by rw [nums_len,P];simp only [HL.out,HM.out,List.length_nil];omega)
      ·simp only [Value.slice.injEq] at e;exact⟨g,e.1⟩
     have qc:=convL wr _ b9 0 H _ (o.rd enB_len);clear N J P o K;go_wp2_with fail;go_ret;exact⟨rfl,E.out⟩
end Bd9
namespace Bd10
open Go.ChangeShapes Go.WideShapes Go.ChangeAt Go.RowKit Base Ints Own Clone PlP Bd1
theorem eq_at {a b:List Int} (hl:a.length=b.length):decide (a=b)=decide (∀ i,i<a.length->at_ a i=at_ b i) :=
 decide_eq_decide.2 ⟨λ h i _=>by rw [h],list_ext hl⟩
theorem same_s (a b:Bd) (n:Nat) (h1:a.1.length=n) (h2:a.2.length=n) (h3:b.1.length=n) (h4:b.2.length=n) (hn:0<n∧n<=1000) (A1 A2 A3 A4:Option Addr) (c1 c2 c3 c4 B:Nat) (w:World) (hB:B<=w.heap.size)
  (r1:RdS w B 1 enI A1 a.1) (r2:RdS w B 1 enI A2 a.2) (r3:RdS w B 1 enI A3 b.1) (r4:RdS w B 1 enI A4 b.2) (x:Bool) (hx:decide (a=b)=x) :
  Calls Tryz.prog 110 #[.agg #[.slice A1 n c1,.slice A2 n c2],.agg #[.slice A3 n c3,.slice A4 n c4]] w λ e w'=>e=.returned (.bool x)∧Below w.heap.size w w':=by
 obtain⟨l,m⟩:=a;obtain⟨p,q⟩:=b;simp only at *;have K:Hid (decide ((∀ i,i<n->at_ l i=at_ p i)∧(∀ i,i<n->at_ m i=at_ q i))=x):=kD (by
  rw [<-hx];refine decide_eq_decide.2 ⟨λ h=>?_,λ h=>?_⟩
  ·exact Prod.ext (list_ext (by simp only;omega) (λ i s=>h.1 i (by simp only at s;omega))) (list_ext (by simp only;omega) (λ i s=>h.2 i (by simp only at s;omega)))
  ·simp only [Prod.mk.injEq] at h;rw [h.1,h.2];exact⟨λ _ _=>rfl,λ _ _=>rfl⟩)
 have Z:=kD h1;have Y:=kD h2;have X:=kD h3;have W:=kD h4;have T:=kD r1;have S:=kD r2;have R:=kD r3;have Q:=kD r4;clear h1 h2 h3 h4 r1 r2 r3 r4 hx;go_enter Tryz.func110,Tryz.ntmps110;go_upto_region 1 with fail;refine wp_gen (λ J=>Below w.heap.size w J∧RowB J w.heap.size 28 [.slice A1 n c1,.slice A2 n c2]∧RowB J (w.heap.size+1) 28 [.slice A3 n c3,.slice A4 n c4]) ⟨by go_grown,RowB.alloc (RowB.new _ _ _) _,RowB.new' _ _ _ (by first | simp | go_size | rfl)⟩ ?_;rintro w1 ⟨H,f,d⟩;obtain⟨C,A⟩:=f.c2;obtain⟨z,y⟩:=d.c2;have o:=f.lt;have j:=d.lt;go_wp2_with fail;go_loopw [5] (λ i wr=>∃ k:Nat,k<=n∧i=.int .i64 (k:Int)∧Hid (Below w.heap.size w wr)∧RowB wr w.heap.size 28 [.slice A1 n c1,.slice A2 n c2]∧RowB wr (w.heap.size+1) 28 [.slice A3 n c3,.slice A4 n c4]∧Hid (∀ i,i<k->at_ l i=at_ p i)) (λ i _=>n - (intOf i).toNat)
 case atStart=>exact⟨0,Nat.zero_le _,by first | rfl | trivial,kD H,f,d,kD (λ i h=>absurd h (Nat.not_lt_zero _))⟩
 case round =>
  obtain⟨k,N,rfl,g,f,d,c⟩:=hrel;clear C A z y o j;obtain⟨C,A⟩:=f.c2;obtain⟨z,y⟩:=d.c2;have o:=f.lt;have j:=d.lt;by_cases hlt:k<n
  ·obtain⟨P,M,rfl,v,G⟩:=at_rd (T.out.below g.out hB) (i:=k) (by rw [Z.out];exact hlt);obtain⟨O,L,rfl,t,F⟩:=at_rd (R.out.below g.out hB) (i:=k) (by rw [X.out];exact hlt);have E:(k:Int)<(n:Int):=by omega
   have D:IntKind.i64.wrap ((k:Int)+1)=(k:Int)+1:=IntWalk.i64_in _ (by omega);by_cases hv:at_ l k=at_ p k
   ·have I:(at_ l k != at_ p k)=false:=by simp [hv]
    have r:=kD (show ∀ i,i<k+1->at_ l i=at_ p i from λ i s=>by
     by_cases e:i=k
     ·rw [e];exact hv
     ·exact c.out i (by omega))
    clear hv;go_wp2_with fail;go_quiet (fail);go_wp2_with fail;go_roundw
    case rel=>exact⟨k+1,by omega,by go_num,kD (below_drewN g.out _),f.drewN _,d.drewN _,r⟩
    case measure=>simp [intOf];omega
   ·have I:(at_ l k != at_ p k)=true:=by simp [hv]
    obtain rfl:x=false:=by rw [<-K.out];exact decide_eq_false (λ h=>hv (h.1 k hlt))
    clear hv;go_wp2_with fail;go_quiet (fail);go_wp2_with fail;go_ret;exact⟨rfl,below_drewN g.out _⟩
  ·obtain rfl:n=k:=by omega
   have V:=c;clear c;go_wp2_with fail;go_loopw [6] (λ i wr=>∃ k:Nat,k<=n∧i=.int .i64 (k:Int)∧Hid (Below w.heap.size w wr)∧RowB wr w.heap.size 28 [.slice A1 n c1,.slice A2 n c2]∧RowB wr (w.heap.size+1) 28 [.slice A3 n c3,.slice A4 n c4]∧Hid (∀ i,i<k->at_ m i=at_ q i)) (λ i _=>n - (intOf i).toNat)
   case atStart=>exact⟨0,Nat.zero_le _,by first | rfl | trivial,g,f,d,kD (λ i h=>absurd h (Nat.not_lt_zero _))⟩
   case round =>
    obtain⟨k,N,rfl,g,f,d,c⟩:=hrel;clear C A z y o j;obtain⟨C,A⟩:=f.c2;obtain⟨z,y⟩:=d.c2;have o:=f.lt;have j:=d.lt;by_cases hlt:k<n
    ·obtain⟨P,M,rfl,v,G⟩:=at_rd (S.out.below g.out hB) (i:=k) (by rw [Y.out];exact hlt);obtain⟨O,L,rfl,t,F⟩:=at_rd (Q.out.below g.out hB) (i:=k) (by rw [W.out];exact hlt);have E:(k:Int)<(n:Int):=by omega
     have D:IntKind.i64.wrap ((k:Int)+1)=(k:Int)+1:=IntWalk.i64_in _ (by omega);by_cases hv:at_ m k=at_ q k
     ·have I:(at_ m k != at_ q k)=false:=by simp [hv]
      have r:=kD (show ∀ i,i<k+1->at_ m i=at_ q i from λ i s=>by
       by_cases e:i=k
       ·rw [e];exact hv
       ·exact c.out i (by omega))
      clear hv;go_wp2_with fail;go_quiet (fail);go_wp2_with fail;go_roundw
      case rel=>exact⟨k+1,by omega,by go_num,kD (below_drewN g.out _),f.drewN _,d.drewN _,r⟩
      case measure=>simp [intOf];omega
     ·have I:(at_ m k != at_ q k)=true:=by simp [hv]
      obtain rfl:x=false:=by rw [<-K.out];exact decide_eq_false (λ h=>hv (h.2 k hlt))
      clear hv;go_wp2_with fail;go_quiet (fail);go_wp2_with fail;go_ret;exact⟨rfl,below_drewN g.out _⟩
    ·obtain rfl:n=k:=by omega
     obtain rfl:x=true:=by rw [<-K.out];exact decide_eq_true ⟨V.out,c.out⟩
     go_wp2_with fail;go_ret;exact⟨rfl,g.out⟩
end Bd10
namespace Bd11
open Go.ChangeShapes Go.WideShapes Go.ChangeAt Go.RowKit Base Ints Own Clone RelG PlP Bd1 Bd5 Bd8 Bd10
abbrev PRow:=Value × Value × Value
def enP (r:PRow):List Value:=[r.1,r.2.1,r.2.2]
theorem enP_len (r:PRow):(enP r).length=3:=rfl
def RelP:Rel PRow Pl where
 R:=λ w S r x=>OwnV 150 4 enSt w S r.1 x.1∧SlV 1 enI w S r.2.1 x.2.1∧SlV 1 enI w S r.2.2 x.2.2
 keep:=λ h hs=>⟨(relO 150 4 enSt).keep h.1 hs,(relV 1 enI).keep h.2.1 hs,(relV 1 enI).keep h.2.2 hs⟩
 weak:=λ h hs=>⟨(relO 150 4 enSt).weak h.1 hs,(relV 1 enI).weak h.2.1 hs,(relV 1 enI).weak h.2.2 hs⟩
theorem hasB_snoc (out:List Pl) (p:Pl) (b:Bd):hasB (out++[p]) b=(hasB out b || decide (p.2=b)):=by unfold hasB;simp
theorem find_s (out:List Pl) (b:Bd) (n:Nat) (hn:0<n∧n<=1000) (hout:∀ q ∈ out,q.2.1.length=n∧q.2.2.length=n) (h1:b.1.length=n) (h2:b.2.length=n) (u:Value) (A1 A2:Option Addr) (c1 c2 B:Nat) (w:World) (hB:B<=w.heap.size)
  (hu:SlG RelP 3 enP w All u out) (r1:RdS w B 1 enI A1 b.1) (r2:RdS w B 1 enI A2 b.2) :
  Calls Tryz.prog 61 #[u,.agg #[.slice A1 n c1,.slice A2 n c2]] w λ e w'=>∃ r:Int,e=.returned (.int .i64 r)∧decide (r<0)=!hasB out b∧Below w.heap.size w w':=by
 obtain⟨Ap,cp,rs,rfl,j,l,-⟩:=hu;have v:=j.len;rw [l.1] at v;obtain⟨N,T⟩:∃ N,out.length=N:=⟨_,rfl⟩;rw [T] at v ⊢;have G:=kD T;have Z:=kD j;have H:=kD l;have F:=kD hout;have H1:=kD h1;have H2:=kD h2;have R1:=kD r1;have R2:=kD r2;have CS:=kD (λ(q:Bd) (O M:Option Addr) (X V:Nat) (q1:q.1.length=n) (q2:q.2.length=n) (f:World) (h:Below w.heap.size w f) (L:RdS f f.heap.size 1 enI O q.1) (K:RdS f f.heap.size 1 enI M q.2) (x:Bool) (p:decide (q=b)=x) =>
  same_s q b n q1 q2 h1 h2 hn O M A1 A2 X V c1 c2 f.heap.size f (Nat.le_refl _) L K ((r1.below h hB).more (Nat.le_trans hB h.size)) ((r2.below h hB).more (Nat.le_trans hB h.size)) x p)
 clear T j l hout h1 h2 r1 r2;go_enter Tryz.func61,Tryz.ntmps61;go_upto_region 1 with fail;refine wp_gen (λ W'=>Below w.heap.size w W'∧RowB W' w.heap.size 28 [.slice A1 n c1,.slice A2 n c2]) ⟨by go_grown,RowB.new _ _ _⟩ ?_;rintro w1 ⟨R,c⟩;obtain⟨J,I⟩:=c.c2;have d:=c.lt;go_wp2_with fail;go_loopw [5] (λ i wr=>∃ k:Nat,k<=N∧i=.int .i64 (k:Int)∧Hid (Below w.heap.size w wr)∧RowB wr w.heap.size 28 [.slice A1 n c1,.slice A2 n c2]∧Hid (hasB (out.take k) b=false)) (λ i _=>N - (intOf i).toNat)
 case atStart=>exact⟨0,Nat.zero_le _,by first | rfl | trivial,kD R,c,kD rfl⟩
 case round =>
  obtain⟨k,hk,rfl,o,c,t⟩:=hrel;clear J I d;obtain⟨J,I⟩:=c.c2;have d:=c.lt;by_cases hlt:k<N
  ·have g:Still All w wr:=Still.below o.out;obtain⟨b1,o1,r,rfl,-,ac,hr,Q⟩:=(Z.out.keep g).at_ (i:=k) (by rw [H.out.1,G.out];exact hlt);obtain⟨q,s,S⟩:=(H.out.keep g).at_ hr;obtain⟨ss,Y⟩:=q;obtain⟨r0,rl,rm⟩:=r;have E:=S.2.1;have D:=S.2.2;simp only at E D;obtain⟨O,X,rfl,L,-⟩:=E;obtain⟨M,V,rfl,K,-⟩:=D;have a:=F.out _ (List.mem_of_getElem? s);simp only at a;have z:=Q 1 _ rfl;have y:=Q 2 _ rfl;rw [a.1] at z;rw [a.2] at y;have HT:=kD (show out.take (k+1)=out.take k++[(ss,Y)] from take_succ out k _ s);obtain⟨x,p⟩:∃ x,decide (Y=b)=x:=⟨_,rfl⟩;have C:=kD (λ W (h:wr=W)=>CS.out Y O M X V a.1 a.2 wr.drew o.out.drew L.rd K.rd x p);have HX:=kD p;have ab:(k:Int)<(N:Int):=by omega
   have aa:IntKind.i64.wrap ((k:Int)+1)=(k:Int)+1:=IntWalk.i64_in _ (by omega);clear g hr s S Q L K a p;go_wp2_with fail;go_still_tail 6,(by kernel_rfl);go_wp2_with fail;refine(C.out _ rfl).mono ?_;rintro e w2 ⟨rfl,m⟩;have c:=c.drew.below m c.drew.lt;have A:=kD (o.out.drew.trans (m.mono o.out.drew.size));clear J I d o m z y C;obtain⟨J,I⟩:=c.c2;have d:=c.lt
   cases x
   case false =>
    have P:Hid (hasB (out.take (k+1)) b=false):=kD (by rw [HT.out,hasB_snoc,t.out,HX.out];rfl);go_wp2_with fail;go_roundw
    case rel=>exact⟨k+1,by omega,by go_num,A,c,P⟩
    case measure=>simp [intOf];omega
   case true =>
    have hY:Hid (hasB out b=true):=kD (by
     have h0:hasB (out.take (k+1)) b=true:=by rw [HT.out,hasB_snoc,HX.out,Bool.or_true]
     unfold hasB at h0 ⊢;obtain⟨q,s,he⟩:=List.any_eq_true.1 h0;exact List.any_eq_true.2 ⟨q,List.mem_of_mem_take s,he⟩)
    go_wp2_with fail;go_ret;exact⟨(k:Int),rfl,by rw [hY.out];simp,A.out⟩
  ·obtain rfl:N=k:=by omega
   have hA:Hid (hasB out b=false):=kD (by rw [<-t.out,<-G.out,List.take_length]);go_wp2_with fail;go_ret;exact⟨-1,rfl,by rw [hA.out];rfl,o.out⟩
end Bd11
namespace Seen
open Go Go.RowKit Base
open Go.Maps (Keyed IsMap isMap_empty)
open Go.WideMaps (keyOf_string_mk)
theorem law:Keyed Tryz.prog 9:=Go.Maps.string_keyed Tryz.underlying9
theorem zeroB (w:World):(zeroValue 4).run Tryz.prog w=.ok (.bool false) w:=by kernel_rfl
theorem bool_inv {P:Program} {e:TypeId} (he:P.underlying e=some .bool) {v:Value} {c:Bool} {ps:List MemPlace} (hv:plainElem (H:=Unit) P e v=some (.lit (.bool c),ps)):v=.bool c:=by
 unfold plainElem at hv;rw [he] at hv
 cases v <;> simp at hv
 rw [hv.1]
def Seen (w:World) (b n:Nat) (S:List (List UInt8)):Prop :=
 ∃ D:DataW Unit,w.ownsMap Tryz.prog 9 (plainElem Tryz.prog 4) b n D∧IsMap D∧∀ s:ByteArray,s.size<=maxLen->D.atKey (.string s.data.toList) (.lit (.bool false))=.lit (.bool (decide (s.data.toList ∈ S)))
section
variable {w w':World} {b n:Nat} {S:List (List UInt8)}
theorem Seen.made (w:World):Seen (w.alloc (.map #[] 0)) w.heap.size 0 []:=⟨_,World.ownsMap_made _ _ _ _,isMap_empty,λ s _=>by simp;rfl⟩
theorem Seen.lt (h:Seen w b n S):b<w.heap.size:=by obtain⟨D,h,_⟩:=h;exact h.lt
theorem Seen.grown {row:Option Nat} (h:Seen w b n S) (hg:w.grownBy w' row) (hr:row≠some b):Seen w' b n S:=by
 obtain⟨D,c,a⟩:=h;exact⟨D,c.kept hg (λ e=>hr e.symm),a⟩
theorem Seen.below (h:Seen w b n S) (hb:Below w.heap.size w w'):Seen w' b n S :=
 h.grown (row:=none) ⟨hb.os,hb.tape,hb.output,hb.size,λ i hi _=>hb.block i hi⟩ (by simp)
theorem Seen.look (h:Seen w b n S) {t:TypeId} (ht:Tryz.prog.underlying t=some (.map 9 4)) (s:ByteArray) (hs:s.size<=maxLen) (x:Bool) (hx:decide (s.data.toList ∈ S)=x) :
  (Instr.lookup t (.map (some b)) (.string s) false).run Tryz.prog w=.ok (.bool x) w:=by
 subst hx;obtain⟨D,e,g,d⟩:=h;obtain⟨v,f,a,c⟩:=e.lookup law ht (zeroB w) (plainElem_bool Tryz.underlying4 false) (keyOf_string_mk Tryz.underlying9 hs);rw [d s hs] at c;have:=bool_inv Tryz.underlying4 c;rw [this] at a;exact a
theorem Seen.put (h:Seen w b n S) {t:TypeId} (ht:Tryz.prog.underlying t=some (.map 9 4)) (hn:n<maxLen) (s:ByteArray) (hs:s.size<=maxLen) :
  ∃ w',(Instr.mapUpdate t (.map (some b)) (.string s) (.bool true)).run Tryz.prog w=.ok () w'∧Seen w' b (n+1) (s.data.toList :: S)∧w.grownBy w' (some b):=by
 obtain⟨D,j,d,i⟩:=h;obtain⟨w',a,c,g⟩:=j.update law ht hn (keyOf_string_mk Tryz.underlying9 hs) (plainElem_bool Tryz.underlying4 true);refine⟨w',a,⟨_,c,d.put _ _,λ u f=>?_⟩,g⟩;by_cases e:u.data.toList=s.data.toList
 ·rw [e,Go.Maps.atKey_put_same d (show WideAt.IsKeyLit (.string s.data.toList) from trivial)];simp
 ·rw [Go.Maps.atKey_put_other (λ h=>e (by injection h))];rw [i u f];simp [e]
end
theorem wpL_put {ops:Array Oper} {rest:List Oper} {o:Oper} {a:Act} {Q:Exit->Act->World->Prop} {w:World} {b n:Nat} {S:List (List UInt8)} (hgd:o.guard=none) (m x v:Operand) (t:TypeId) (hop:o.op=Op.mapUpdate t m x v)
  (ht:Tryz.prog.underlying t=some (.map 9 4)) (hm:a.eval m=.map (some b)) (h:Seen w b n S) (hn:n<maxLen) (s:ByteArray) (hs:s.size<=maxLen) (hx:a.eval x=.string s) (hv:a.eval v=.bool true)
  (hK:∀ w',Seen w' b (n+1) (s.data.toList :: S)->w.grownBy w' (some b)->wpList Tryz.prog ops Q rest (a.put o.dst undef) w'):wpList Tryz.prog ops Q (o :: rest) a w:=by
 refine wpList_plain hgd λ g d=>?_
 obtain⟨w',c,f,e⟩:=h.put ht hn s hs;unfold Oper.wp;simp [execOp,hop,hm,hx,hv,c,Result.andThen];exact d _ _ (hK w' f e)
end Seen
end Go.Proofs.YtmncnhbjifeoeaaGreat
