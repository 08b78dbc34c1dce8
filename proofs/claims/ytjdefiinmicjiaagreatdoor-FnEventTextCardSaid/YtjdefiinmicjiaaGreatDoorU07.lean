/- Parts of the proof of FnEventText. Conditions: each theorem's own. -/
import Derived.Test.YtjdefiinmicjiaaGreatDoorU06
set_option linter.unusedVariables false
set_option linter.unusedSimpArgs false
set_option maxHeartbeats 8000000
set_option maxRecDepth 100000
namespace Go.Proofs.YtjdefiinmicjiaaGreatDoor
namespace Bd4
open Go.ChangeShapes Go.WideShapes Go.ChangeAt Go.RowKit Base Ints Own Clone RelG PlP Bd1 Bd2 RegInv RegF
theorem four {W:World} {g:Nat} {t:TypeId} {a b c d:Value} (h:RowB W g t [a,b,c,d]) (u v x y:Value):RowB ((((W.setCell ⟨g,0,none⟩ u).setCell ⟨g,1,none⟩ v).setCell ⟨g,2,none⟩ x).setCell ⟨g,3,none⟩ y) g t [u,v,x,y] :=
 (((h.set 0 u).set 1 v).set 2 x).set 3 y
theorem oth4 {W:World} {g g':Nat} {t:TypeId} {cs:List Value} (h:RowB W g t cs) (hn:g≠g') (u v x y:Value):RowB ((((W.setCell ⟨g',0,none⟩ u).setCell ⟨g',1,none⟩ v).setCell ⟨g',2,none⟩ x).setCell ⟨g',3,none⟩ y) g t cs :=
 (((h.other (p:=⟨g',0,none⟩) hn _).other (p:=⟨g',1,none⟩) hn _).other (p:=⟨g',2,none⟩) hn _).other (p:=⟨g',3,none⟩) hn _
theorem below_four {B:Nat} {w W:World} (h:Below B w W) {g:Nat} (hg:B<=g) (u v x y:Value):Below B w ((((W.setCell ⟨g,0,none⟩ u).setCell ⟨g,1,none⟩ v).setCell ⟨g,2,none⟩ x).setCell ⟨g,3,none⟩ y) :=
 (((h.setCell (p:=⟨g,0,none⟩) hg _).setCell (p:=⟨g,1,none⟩) hg _).setCell (p:=⟨g,2,none⟩) hg _).setCell (p:=⟨g,3,none⟩) hg _
theorem at_rd' {w:World} {B:Nat} {bk o:Nat} {xs:List Int} (h:RdS w B 1 enI (some ⟨bk,o,none⟩) xs) {i:Nat} (hi:i<xs.length):w.cell? ⟨bk,o+i,none⟩=some (.int .i64 (at_ xs i)):=by
 obtain⟨d,c,a,-,b⟩:=at_rd h hi;simp only [Option.some.injEq,Addr.mk.injEq,and_true] at a;obtain⟨rfl,rfl⟩:=a;exact b
def opt (s:Stp) (ok:Bool):Option Stp:=if ok then some s else none
def StepR (t:Option Stp) (w:World) (e:Ending) (w':World):Prop :=
 ∃(s:Stp) (ok:Bool),e=.returned (.tuple #[.agg #[.int .i64 s.1,.int .i64 s.2.1,.int .i64 s.2.2.1,.bool s.2.2.2],.bool ok])∧opt s ok=t∧Below w.heap.size w w'
theorem step_none1 {v:Vr} {b:Bd} {f d:Int} (h:at_ b.1 f.toNat=0∨(0<at_ b.1 v.p.toNat∧f≠v.p)):stepP v b f d=none:=by unfold stepP;rw [if_pos h]
theorem step_in {v:Vr} {b:Bd} {f d:Int} (h:¬ (at_ b.1 f.toNat=0∨(0<at_ b.1 v.p.toNat∧f≠v.p))) (h2:0<=f - d) :
  stepP v b f d=opt (f,f - d,d,decide (at_ b.2 (v.p - 1 - (f - d)).toNat=1)) (decide (at_ b.2 (v.p - 1 - (f - d)).toNat<=1)):=by
 unfold stepP opt;rw [if_neg h,if_pos h2];simp only [decide_eq_true_eq]
theorem step_off {v:Vr} {b:Bd} {f d:Int} (h:¬ (at_ b.1 f.toNat=0∨(0<at_ b.1 v.p.toNat∧f≠v.p))) (h2:¬ 0<=f - d) (h3:¬ (v.h<=last b.1∨(f - d < -1∧f<last b.1))):stepP v b f d=some (f,-1,d,false):=by
 unfold stepP;rw [if_neg h,if_neg h2,if_neg h3]
theorem step_none3 {v:Vr} {b:Bd} {f d:Int} (h2:¬ 0<=f - d) (h3:v.h<=last b.1∨(f - d < -1∧f<last b.1)):stepP v b f d=none:=by
 unfold stepP;by_cases c:at_ b.1 f.toNat=0∨(0<at_ b.1 v.p.toNat∧f≠v.p)
 ·rw [if_pos c]
 ·rw [if_neg c,if_neg h2,if_pos h3]
theorem lastU_bd (l:List Int):∀ k,-1<=lastU l k∧lastU l k<(k:Int):=by
 intro k
 induction k with
 | zero=>simp [lastU]
 | succ k ih=>simp only [lastU];split <;> omega
theorem open_s (v:Vr) (b:Bd) (hb:Ok v b) (Ao At:Option Addr) (co ct B:Nat) (i:Int) (hi:0<=i∧i<v.p) (w:World) (hB:B<=w.heap.size) (ht:RdS w B 1 enI At b.2) :
  Calls Tryz.prog 206 #[.agg #[.int .i64 v.p,.int .i64 v.c,.int .i64 v.h,.int .i64 v.s],.agg #[.slice Ao b.1.length co,.slice At b.2.length ct],.int .i64 i] w λ e w'=>e=.returned (.bool (decide (at_ b.2 (v.p - 1 - i).toNat<=1)))∧Below w.heap.size w w':=by
 have l:=hb.v1;have m:=hb.oth.len;obtain⟨j,f⟩:∃ j:Nat,v.p - 1 - i=(j:Int):=⟨(v.p - 1 - i).toNat,by omega⟩;have a:(v.p - 1 - i).toNat=j:=by omega
 rw [a];obtain⟨r,k,rfl,g,n⟩:=at_rd (ht.below (show Below w.heap.size w ((w.alloc (.cells #[.int .i64 v.p,.int .i64 v.c,.int .i64 v.h,.int .i64 v.s] 25)).alloc (.cells #[.slice Ao b.1.length co,.slice At b.2.length ct] 51)) from by go_grown) hB) (i:=j) (by omega);have q:IntKind.i64.wrap (v.p - 1)=v.p - 1:=IntWalk.i64_in _ (by omega);have o:IntKind.i64.wrap (v.p - 1 - i)=(j:Int):=by rw [f];exact IntWalk.i64_in _ (by omega)
 have d:(j:Int)<(b.2.length:Int):=by omega
 clear a;go_enter Tryz.func206,Tryz.ntmps206;go_wp2_with fail;go_ret;exact⟨rfl,by go_grown⟩
theorem step_s (v:Vr) (b:Bd) (hb:Ok v b) (Ao At:Option Addr) (co ct B:Nat) (f:Nat) (d:Int) (hf:(f:Int)<=v.p) (hd:1<=d∧d<=6) (w:World) (hB:B<=w.heap.size) (ho:RdS w B 1 enI Ao b.1) (ht:RdS w B 1 enI At b.2) :
  Calls Tryz.prog 200 #[.agg #[.int .i64 v.p,.int .i64 v.c,.int .i64 v.h,.int .i64 v.s],.agg #[.slice Ao b.1.length co,.slice At b.2.length ct],.int .i64 (f:Int),.int .i64 d] w λ e w'=>StepR ((if over b then none else stepP v b (f:Int) d)) w e w':=by
 have hv:=hb.v1;have N1:=hb.own.len;have N2:=hb.oth.len;have am:=kD hb;have HO:=kD ho;have HT:=kD ht;obtain⟨T,hT⟩:∃ T,((if over b then none else stepP v b (f:Int) d))=T:=⟨_,rfl⟩;rw [hT];have ae:=kD hT;have aC:0<=at_ b.1 f:=hb.own.nn f;have az:0<=at_ b.1 v.p.toNat:=hb.own.nn _;have ef:IntKind.i64.wrap ((f:Int) - d)=(f:Int) - d:=IntWalk.i64_in _ (by omega);have ay:v.p<(b.1.length:Int):=by omega
 have aB:(f:Int)<(b.1.length:Int):=by omega
 have ag:f<b.1.length:=by omega
 clear hb ho ht hT;go_enter Tryz.func200,Tryz.ntmps200;go_upto_region 1 with fail;refine wp_gen (λ W'=>Below w.heap.size w W'∧RowB W' w.heap.size 25 (vL v)∧RowB W' (w.heap.size+1) 51 [.slice Ao b.1.length co,.slice At b.2.length ct]∧RowB W' (w.heap.size+2) 111 [.int .i64 0,.int .i64 0,.int .i64 0,.bool false]) ⟨by go_grown,((RowB.new _ _ _).alloc _).alloc _,(RowB.new' _ _ _ (by simp)).alloc _,RowB.new' _ _ _ (by simp)⟩ ?_;rintro w1 ⟨E,m,o,I⟩;obtain⟨ov,ah⟩:∃ a,over b=a:=⟨_,rfl⟩;have ad:=kD ah;have CO:=kD (λ D (h:Below w.heap.size w D)=>over_s v b am.out Ao At co ct B D (Nat.le_trans hB h.size) (HO.out.below h hB) (HT.out.below h hB) ov ah);clear ah;obtain⟨b1,o1,rfl,av,-⟩:=at_rd (HO.out.below E hB) (i:=f) ag;obtain⟨Q,af⟩:∃ q,(ov || decide (at_ b.1 ((f:Int)).toNat=0∨(0<at_ b.1 v.p.toNat∧(f:Int)≠v.p)))=q:=⟨_,rfl⟩;have P:=kD af;clear af;go_cut [36] from 12 to 36 (λ an wx=>an=.bool Q∧Below w.heap.size w wx∧RowB wx w.heap.size 25 (vL v)∧RowB wx (w.heap.size+1) 51 [.slice (some ⟨b1,o1,none⟩) b.1.length co,.slice At b.2.length ct]∧RowB wx (w.heap.size+2) 111 [.int .i64 0,.int .i64 0,.int .i64 0,.bool false])
 case first =>
  obtain⟨Y,X,W,V⟩:=m.c4;obtain⟨S,R⟩:=o.c2;obtain⟨y0,y1,y2,y3⟩:=I.c4;have M:=m.lt;have J:=o.lt;have ab:=I.lt;have fr:=I.frozen;go_wp2_with fail;refine(CO.out w1 E).mono ?_;rintro e w2 ⟨rfl,ac⟩;have m:=m.below ac m.lt;have o:=o.below ac o.lt;have I:=I.below ac I.lt;have E:=E.trans (ac.mono E.size);clear Y X W V S R y0 y1 y2 y3 M J ab fr ac;obtain⟨Y,X,W,V⟩:=m.c4;obtain⟨S,R⟩:=o.c2;obtain⟨y0,y1,y2,y3⟩:=I.c4;have M:=m.lt;have J:=o.lt;have ab:=I.lt;have fr:=I.frozen
  cases ov
  case true =>
   obtain rfl:Q=true:=by rw [<-P.out];rfl
   go_wp2_with fail;go_meet;exact⟨rfl,E,m,o,I⟩
  have aE:=at_rd' (HO.out.below E hB) (i:=f) ag;have aD:=at_rd' (HO.out.below E hB) (i:=v.p.toNat) (by omega);by_cases g1:at_ b.1 f=0
  ·obtain rfl:Q=true:=by rw [<-P.out];simp [g1]
   have e1:(at_ b.1 f == 0)=true:=by simp [g1]
   clear g1;go_wp2_with fail;go_meet;exact⟨rfl,E,m,o,I⟩
  have e1:(at_ b.1 f == 0)=false:=by simp [g1]
  by_cases g3:0<at_ b.1 v.p.toNat
  ·obtain⟨g2,e2⟩:∃ g,((f:Int) != v.p)=g:=⟨_,rfl⟩;obtain rfl:Q=g2:=by
    rw [<-P.out,<-e2];by_cases h:(f:Int)=v.p <;> simp [g1,g3,h] <;> omega
   clear g1;go_wp2_with fail;go_meet;exact⟨rfl,E,m,o,I⟩
  ·obtain rfl:Q=false:=by rw [<-P.out];simp [g1,g3]
   clear g1;go_wp2_with fail;go_meet;exact⟨rfl,E,m,o,I⟩
 case rest =>
 obtain⟨rfl,E,m,o,I⟩:=hcut;obtain⟨Y,X,W,V⟩:=m.c4;obtain⟨S,R⟩:=o.c2;obtain⟨y0,y1,y2,y3⟩:=I.c4;have M:=m.lt;have J:=o.lt;have ab:=I.lt;have fr:=I.frozen
 cases Q
 case true =>
  obtain rfl:T=none:=by
   rw [<-ae.out]
   cases ov with
   | true=>rw [ad.out];rfl
   | false=>rw [ad.out];exact step_none1 (of_decide_eq_true P.out)
  go_wp2_with fail;refine bp_row2 [.int .i64 0,.int .i64 0,.int .i64 0,.bool false] (.bool false) (below_four E (by omega) _ _ _ _) (four I _ _ _ _) (λ w8 Z=>by simp [results,Tryz.results200,go_sem,Z]) rfl λ w8 O=>?_;exact⟨(0,0,0,false),false,rfl,by rfl,O⟩
 cases ov
 case true=>exact absurd P.out (by simp)
 have G:=kD (show ¬ (at_ b.1 ((f:Int)).toNat=0∨(0<at_ b.1 v.p.toNat∧(f:Int)≠v.p)) from of_decide_eq_false P.out);by_cases g5:0<=(f:Int) - d
 ·obtain⟨j,hj⟩:∃ j:Nat,v.p - 1 - ((f:Int) - d)=(j:Int):=⟨(v.p - 1 - ((f:Int) - d)).toNat,by omega⟩;have ej:(v.p - 1 - ((f:Int) - d)).toNat=j:=by omega
  have aj:T=opt (f,f - d,d,decide (at_ b.2 j=1)) (decide (at_ b.2 j<=1)):=by rw [<-ae.out,ad.out];exact(by have:=step_in (v:=v) (b:=b) (f:=(f:Int)) (d:=d) G.out g5;rw [ej] at this;exact this)
  have al:=kD aj;have ao:=kD ej;clear aj ej;obtain⟨bt,ot,rfl,aF,N⟩:=at_rd (HT.out.below E hB) (i:=j) (by omega);have e5:IntKind.i64.wrap (v.p - 1)=v.p - 1:=IntWalk.i64_in _ (by omega);have e6:IntKind.i64.wrap (v.p - 1 - ((f:Int) - d))=(j:Int):=by rw [hj];exact IntWalk.i64_in _ (by omega)
  have e7:IntKind.i64.wrap (j:Int)=(j:Int):=IntWalk.i64_in _ (by omega);have ar:(j:Int)<v.p+1:=by omega
  have aA:(j:Int)<(b.2.length:Int):=by omega
  have CP:=kD (λ D (h:Below w.heap.size w D)=>open_s v b am.out (some ⟨b1,o1,none⟩) (some ⟨bt,ot,none⟩) co ct B ((f:Int) - d) (by omega) D (Nat.le_trans hB h.size) (HT.out.below h hB));rw [ao.out] at CP;obtain⟨z,hz⟩:∃ z,decide (at_ b.2 j=1)=z:=⟨_,rfl⟩;have aw:(at_ b.2 j == 1)=z:=by rw [<-hz];rfl
  obtain⟨y,hy⟩:∃ y,decide (at_ b.2 j<=1)=y:=⟨_,rfl⟩;rw [hz,hy] at al;rw [hy] at CP;clear hz hy;have g4:decide ((f:Int) - d<0)=false:=decide_eq_false (by omega);go_upto_region 5 with fail;clear Y X W V S R y0 y1 y2 y3 M J ab fr N;refine region_fix [some 43,some 44,some 45,some 46,some 47,some 48,some 49,some 50,some 51,some 52,some 53,some 54,some 55,some 56,some 57,some 58,some 59,some 60,none,some 9] (λ j_=>([.int .i64 (f:Int),.int .i64 ((f:Int) - d),.int .i64 d,.pointer (some ⟨w.heap.size+1,1,none⟩),.slice (some ⟨bt,ot,none⟩) b.2.length ct,.pointer (some ⟨w.heap.size,0,none⟩),.int .i64 v.p,.int .i64 (v.p - 1),.int .i64 ((f:Int) - d),.int .i64 (j:Int),.pointer (some ⟨bt,ot+j,none⟩),.int .i64 (at_ b.2 j),.bool z,.agg #[.int .i64 (f:Int),.int .i64 ((f:Int) - d),.int .i64 d,.bool z],.agg #[.int .i64 v.p,.int .i64 v.c,.int .i64 v.h,.int .i64 v.s],.agg #[.slice (some ⟨b1,o1,none⟩) b.1.length co,.slice (some ⟨bt,ot,none⟩) b.2.length ct],.int .i64 ((f:Int) - d),.bool y,undef,.bool y]:List Value).getD j_ undef) (λ L w'=>Below w.heap.size w w'∧RowB w' w.heap.size 25 (vL v)∧RowB w' (w.heap.size+1) 51 [.slice (some ⟨b1,o1,none⟩) b.1.length co,.slice (some ⟨bt,ot,none⟩) b.2.length ct]∧(¬ L 18->RowB w' (w.heap.size+2) 111 [.int .i64 0,.int .i64 0,.int .i64 0,.bool false])∧(L 18->RowB w' (w.heap.size+2) 111 [.int .i64 (f:Int),.int .i64 ((f:Int) - d),.int .i64 d,.bool z])) (by kernel_rfl) (by kernel_rfl) (by kernel_rfl) (by kernel_rfl) (by first | kernel_rfl | rfl) (by first | kernel_rfl | rfl) ?hB1 ?hBL1 ?hst1 ?fin1
  case hB1=>exact⟨E.drew,m.drew,o.drew,λ _=>I.drew,λ h=>h.elim⟩
  case hBL1=>exact λ L L' w' h hb=>⟨hb.1,hb.2.1,hb.2.2.1,λ hn=>hb.2.2.2.1 (λ x=>hn ((h 18 (by decide)).1 x)),λ hy=>hb.2.2.2.2 ((h 18 (by decide)).2 hy)⟩
  case hst1 =>
   refine FixFrom.run rfl rfl (λ L A D F t C k K H=>?_) ?_
   ·have e2:A.tmps[2]?.getD undef=.int .i64 (f:Int):=C 2 (by decide);clear t C;have m:=k.2.1;have o:=k.2.2.1;have n:=kD k.2.2.2.1;have r:=kD k.2.2.2.2;replace k:=k.1;go_simp;exact H.out D ⟨k,m,o,λ h=>n.out (λ x=>h (Or.inr x)),λ h=>r.out (rL h)⟩
   refine FixFrom.run rfl rfl (λ L A D F t C k K H=>?_) ?_
   ·have ak:A.tmps[10]?.getD undef=.int .i64 ((f:Int) - d):=C 10 (by decide);clear t C;have m:=k.2.1;have o:=k.2.2.1;have n:=kD k.2.2.2.1;have r:=kD k.2.2.2.2;replace k:=k.1;go_simp;exact H.out D ⟨k,m,o,λ h=>n.out (λ x=>h (Or.inr x)),λ h=>r.out (rL h)⟩
   refine FixFrom.run rfl rfl (λ L A D F t C k K H=>?_) ?_
   ·have e3:A.tmps[3]?.getD undef=.int .i64 d:=C 3 (by decide);clear t C;have m:=k.2.1;have o:=k.2.2.1;have n:=kD k.2.2.2.1;have r:=kD k.2.2.2.2;replace k:=k.1;go_simp;exact H.out D ⟨k,m,o,λ h=>n.out (λ x=>h (Or.inr x)),λ h=>r.out (rL h)⟩
   refine FixFrom.run rfl rfl (λ L A D F t C k K H=>?_) ?_
   ·have e5:A.tmps[5]?.getD undef=.pointer (some ⟨w.heap.size+1,0,none⟩):=C 5 (by decide);clear t C;have m:=k.2.1;have o:=k.2.2.1;have n:=kD k.2.2.2.1;have r:=kD k.2.2.2.2;replace k:=k.1;have Y:=m.c4.1;have X:=m.c4.2.1;have W:=m.c4.2.2.1;have V:=m.c4.2.2.2;have S:=o.c2.1;have R:=o.c2.2;have M:=m.lt;have J:=o.lt;have N:=at_rd' (HT.out.below k hB) (i:=j) (by omega);go_simp;exact H.out D ⟨k,m,o,λ h=>n.out (λ x=>h (Or.inr x)),λ h=>r.out (rL h)⟩
   refine FixFrom.run rfl rfl (λ L A D F t C k K H=>?_) ?_
   ·have aU:A.tmps[46]?.getD undef=.pointer (some ⟨w.heap.size+1,1,none⟩):=gu t 3 46;clear t C;have m:=k.2.1;have o:=k.2.2.1;have n:=kD k.2.2.2.1;have r:=kD k.2.2.2.2;replace k:=k.1;have Y:=m.c4.1;have X:=m.c4.2.1;have W:=m.c4.2.2.1;have V:=m.c4.2.2.2;have S:=o.c2.1;have R:=o.c2.2;have M:=m.lt;have J:=o.lt;have N:=at_rd' (HT.out.below k hB) (i:=j) (by omega);go_simp;exact H.out D ⟨k,m,o,λ h=>n.out (λ x=>h (Or.inr x)),λ h=>r.out (rL h)⟩
   refine FixFrom.run rfl rfl (λ L A D F t C k K H=>?_) ?_
   ·have e4:A.tmps[4]?.getD undef=.pointer (some ⟨w.heap.size,0,none⟩):=C 4 (by decide);clear t C;have m:=k.2.1;have o:=k.2.2.1;have n:=kD k.2.2.2.1;have r:=kD k.2.2.2.2;replace k:=k.1;have Y:=m.c4.1;have X:=m.c4.2.1;have W:=m.c4.2.2.1;have V:=m.c4.2.2.2;have S:=o.c2.1;have R:=o.c2.2;have M:=m.lt;have J:=o.lt;have N:=at_rd' (HT.out.below k hB) (i:=j) (by omega);go_simp;exact H.out D ⟨k,m,o,λ h=>n.out (λ x=>h (Or.inr x)),λ h=>r.out (rL h)⟩
   refine FixFrom.run rfl rfl (λ L A D F t C k K H=>?_) ?_
   ·have aS:A.tmps[48]?.getD undef=.pointer (some ⟨w.heap.size,0,none⟩):=gu t 5 48;clear t C;have m:=k.2.1;have o:=k.2.2.1;have n:=kD k.2.2.2.1;have r:=kD k.2.2.2.2;replace k:=k.1;have Y:=m.c4.1;have X:=m.c4.2.1;have W:=m.c4.2.2.1;have V:=m.c4.2.2.2;have S:=o.c2.1;have R:=o.c2.2;have M:=m.lt;have J:=o.lt;have N:=at_rd' (HT.out.below k hB) (i:=j) (by omega);go_simp;exact H.out D ⟨k,m,o,λ h=>n.out (λ x=>h (Or.inr x)),λ h=>r.out (rL h)⟩
   refine FixFrom.run rfl rfl (λ L A D F t C k K H=>?_) ?_
   ·have aR:A.tmps[49]?.getD undef=.int .i64 v.p:=gu t 6 49;clear t C;have m:=k.2.1;have o:=k.2.2.1;have n:=kD k.2.2.2.1;have r:=kD k.2.2.2.2;replace k:=k.1;go_simp;exact H.out D ⟨k,m,o,λ h=>n.out (λ x=>h (Or.inr x)),λ h=>r.out (rL h)⟩
   refine FixFrom.run rfl rfl (λ L A D F t C k K H=>?_) ?_
   ·have ak:A.tmps[10]?.getD undef=.int .i64 ((f:Int) - d):=C 10 (by decide);clear t C;have m:=k.2.1;have o:=k.2.2.1;have n:=kD k.2.2.2.1;have r:=kD k.2.2.2.2;replace k:=k.1;go_simp;exact H.out D ⟨k,m,o,λ h=>n.out (λ x=>h (Or.inr x)),λ h=>r.out (rL h)⟩
   refine FixFrom.run rfl rfl (λ L A D F t C k K H=>?_) ?_
   ·have aQ:A.tmps[50]?.getD undef=.int .i64 (v.p - 1):=gu t 7 50;have aP:A.tmps[51]?.getD undef=.int .i64 ((f:Int) - d):=gu t 8 51;clear t C;have m:=k.2.1;have o:=k.2.2.1;have n:=kD k.2.2.2.1;have r:=kD k.2.2.2.2;replace k:=k.1;go_simp;exact H.out D ⟨k,m,o,λ h=>n.out (λ x=>h (Or.inr x)),λ h=>r.out (rL h)⟩
   refine FixFrom.run rfl rfl (λ L A D F t C k K H=>?_) ?_
   ·have aT:A.tmps[47]?.getD undef=.slice (some ⟨bt,ot,none⟩) b.2.length ct:=gu t 4 47;have aO:A.tmps[52]?.getD undef=.int .i64 (j:Int):=gu t 9 52;clear t C;have m:=k.2.1;have o:=k.2.2.1;have n:=kD k.2.2.2.1;have r:=kD k.2.2.2.2;replace k:=k.1;go_simp;exact H.out D ⟨k,m,o,λ h=>n.out (λ x=>h (Or.inr x)),λ h=>r.out (rL h)⟩
   refine FixFrom.run rfl rfl (λ L A D F t C k K H=>?_) ?_
   ·have aN:A.tmps[53]?.getD undef=.pointer (some ⟨bt,ot+j,none⟩):=gu t 10 53;clear t C;have m:=k.2.1;have o:=k.2.2.1;have n:=kD k.2.2.2.1;have r:=kD k.2.2.2.2;replace k:=k.1;have Y:=m.c4.1;have X:=m.c4.2.1;have W:=m.c4.2.2.1;have V:=m.c4.2.2.2;have S:=o.c2.1;have R:=o.c2.2;have M:=m.lt;have J:=o.lt;have N:=at_rd' (HT.out.below k hB) (i:=j) (by omega);go_simp;exact H.out D ⟨k,m,o,λ h=>n.out (λ x=>h (Or.inr x)),λ h=>r.out (rL h)⟩
   refine FixFrom.run rfl rfl (λ L A D F t C k K H=>?_) ?_
   ·have aM:A.tmps[54]?.getD undef=.int .i64 (at_ b.2 j):=gu t 11 54;clear t C;have m:=k.2.1;have o:=k.2.2.1;have n:=kD k.2.2.2.1;have r:=kD k.2.2.2.2;replace k:=k.1;go_simp;exact H.out D ⟨k,m,o,λ h=>n.out (λ x=>h (Or.inr x)),λ h=>r.out (rL h)⟩
   refine FixFrom.run rfl rfl (λ L A D F t C k K H=>?_) ?_
   ·have aX:A.tmps[43]?.getD undef=.int .i64 (f:Int):=gu t 0 43;have aW:A.tmps[44]?.getD undef=.int .i64 ((f:Int) - d):=gu t 1 44;have aV:A.tmps[45]?.getD undef=.int .i64 d:=gu t 2 45;have aL:A.tmps[55]?.getD undef=.bool z:=gu t 12 55;clear t C;have m:=k.2.1;have o:=k.2.2.1;have n:=kD k.2.2.2.1;have r:=kD k.2.2.2.2;replace k:=k.1;go_simp;exact H.out D ⟨k,m,o,λ h=>n.out (λ x=>h (Or.inr x)),λ h=>r.out (rL h)⟩
   refine FixFrom.run rfl rfl (λ L A D F t C k K H=>?_) ?_
   ·have e4:A.tmps[4]?.getD undef=.pointer (some ⟨w.heap.size,0,none⟩):=C 4 (by decide);clear t C;have m:=k.2.1;have o:=k.2.2.1;have n:=kD k.2.2.2.1;have r:=kD k.2.2.2.2;replace k:=k.1;have Y:=m.c4.1;have X:=m.c4.2.1;have W:=m.c4.2.2.1;have V:=m.c4.2.2.2;have S:=o.c2.1;have R:=o.c2.2;have M:=m.lt;have J:=o.lt;have N:=at_rd' (HT.out.below k hB) (i:=j) (by omega);go_simp;exact H.out D ⟨k,m,o,λ h=>n.out (λ x=>h (Or.inr x)),λ h=>r.out (rL h)⟩
   refine FixFrom.run rfl rfl (λ L A D F t C k K H=>?_) ?_
   ·have e5:A.tmps[5]?.getD undef=.pointer (some ⟨w.heap.size+1,0,none⟩):=C 5 (by decide);clear t C;have m:=k.2.1;have o:=k.2.2.1;have n:=kD k.2.2.2.1;have r:=kD k.2.2.2.2;replace k:=k.1;have Y:=m.c4.1;have X:=m.c4.2.1;have W:=m.c4.2.2.1;have V:=m.c4.2.2.2;have S:=o.c2.1;have R:=o.c2.2;have M:=m.lt;have J:=o.lt;have N:=at_rd' (HT.out.below k hB) (i:=j) (by omega);go_simp;exact H.out D ⟨k,m,o,λ h=>n.out (λ x=>h (Or.inr x)),λ h=>r.out (rL h)⟩
   refine FixFrom.run rfl rfl (λ L A D F t C k K H=>?_) ?_
   ·have ak:A.tmps[10]?.getD undef=.int .i64 ((f:Int) - d):=C 10 (by decide);clear t C;have m:=k.2.1;have o:=k.2.2.1;have n:=kD k.2.2.2.1;have r:=kD k.2.2.2.2;replace k:=k.1;go_simp;exact H.out D ⟨k,m,o,λ h=>n.out (λ x=>h (Or.inr x)),λ h=>r.out (rL h)⟩
   refine FixFrom.run rfl rfl (λ L A D F t C k K H=>?_) ?_
   ·have aJ:A.tmps[57]?.getD undef=.agg #[.int .i64 v.p,.int .i64 v.c,.int .i64 v.h,.int .i64 v.s]:=gu t 14 57;have aI:A.tmps[58]?.getD undef=.agg #[.slice (some ⟨b1,o1,none⟩) b.1.length co,.slice (some ⟨bt,ot,none⟩) b.2.length ct]:=gu t 15 58;have aH:A.tmps[59]?.getD undef=.int .i64 ((f:Int) - d):=gu t 16 59;clear t C;have m:=k.2.1;have o:=k.2.2.1;have n:=kD k.2.2.2.1;have r:=kD k.2.2.2.2;replace k:=k.1;go_simp;refine(CP.out D k).mono ?_;rintro e w2 ⟨rfl,aa⟩;exact H.out w2 ⟨k.trans (aa.mono k.size),m.below aa m.lt,o.below aa o.lt,λ h=>(n.out (λ x=>h (Or.inr x))).below aa (n.out (λ x=>h (Or.inr x))).lt,λ h=>(r.out (rL h)).below aa (r.out (rL h)).lt⟩
   refine FixFrom.run rfl rfl (λ L A D F t C k K H=>?_) ?_
   ·have e8:A.tmps[8]?.getD undef=.pointer (some ⟨w.heap.size+2,0,none⟩):=C 8 (by decide);have aK:A.tmps[56]?.getD undef=.agg #[.int .i64 (f:Int),.int .i64 ((f:Int) - d),.int .i64 d,.bool z]:=gu t 13 56;clear t C;have m:=k.2.1;have o:=k.2.2.1;have n:=kD k.2.2.2.1;have r:=kD k.2.2.2.2;replace k:=k.1;have Y:=m.c4.1;have X:=m.c4.2.1;have W:=m.c4.2.2.1;have V:=m.c4.2.2.2;have S:=o.c2.1;have R:=o.c2.2;have M:=m.lt;have J:=o.lt;have N:=at_rd' (HT.out.below k hB) (i:=j) (by omega);have I:=n.out F;have y0:=I.c4.1;have y1:=I.c4.2.1;have y2:=I.c4.2.2.1;have y3:=I.c4.2.2.2;have ab:=I.lt;have fr:=I.frozen;go_simp;exact H.out _ ⟨below_four k (by omega) _ _ _ _,oth4 m (by omega) _ _ _ _,oth4 o (by omega) _ _ _ _,λ h=>absurd (Or.inl rfl) h,λ _=>four (n.out F) _ _ _ _⟩
   refine FixFrom.run rfl rfl (λ L A D F t C k K H=>?_) ?_
   ·have aG:A.tmps[60]?.getD undef=.bool y:=gu t 17 60;clear t C;have m:=k.2.1;have o:=k.2.2.1;have n:=kD k.2.2.2.1;have r:=kD k.2.2.2.2;replace k:=k.1;go_simp;exact H.out D ⟨k,m,o,λ h=>n.out (λ x=>h (Or.inr x)),λ h=>r.out (rL h)⟩
   exact FixFrom.nil (by decide)
  case fin1 =>
   intro D k;simp only [Fr,Act.put,sX,Nat.reduceAdd,List.getD_cons_zero,List.getD_cons_succ];have E:=k.1;have Z:=k.2.2.2.2 trivial;obtain⟨z0,z1,z2,z3⟩:=Z.c4;have HR:Hid (opt (f,f - d,d,z) y=T):=kD (by rw [al.out]);clear k;go_wp2_with fail;refine bodyPost_ret (v:=.tuple #[.agg #[.int .i64 (f:Int),.int .i64 ((f:Int) - d),.int .i64 d,.bool z],.bool y]) (by simp [results,Tryz.results200,go_sem,z0,z1,z2,z3]) rfl ?_;exact⟨((f:Int),(f:Int) - d,d,z),y,rfl,HR.out,E⟩
 ·have ax:(f:Int) - d<0:=by omega
  have CL:=kD (λ D (h:Below w.heap.size w D)=>last_s (some ⟨b1,o1,none⟩) co B b.1 D (HO.out.below h hB) (by omega));obtain⟨l,hl⟩:∃ l,last b.1=l:=⟨_,rfl⟩;have ai:=lastU_bd b.1 b.1.length;rw [show lastU b.1 b.1.length=last b.1 from rfl,hl] at ai;obtain⟨aq,ap⟩:=ai;have HL:=kD hl;rw [hl] at CL;clear hl;have GN:=kD (show (v.h<=l∨((f:Int) - d < -1∧(f:Int)<l))->T=none from λ h=>by rw [<-ae.out,ad.out];exact step_none3 g5 (by rw [HL.out];exact h));have GS:=kD (show ¬ (v.h<=l∨((f:Int) - d < -1∧(f:Int)<l))->T=some ((f:Int),-1,d,false) from λ h=>by rw [<-ae.out,ad.out];exact step_off G.out g5 (by rw [HL.out];exact h));go_wp2_with fail;refine(CL.out _ E).mono ?_;rintro e w2 ⟨rfl,rfl⟩;by_cases k1:v.h<=l
  ·obtain rfl:T=none:=GN.out (.inl k1);go_wp2_with fail;refine bp_row2 [.int .i64 0,.int .i64 0,.int .i64 0,.bool false] (.bool false) (below_four E (by omega) _ _ _ _) (four I _ _ _ _) (λ w8 Z=>by simp [results,Tryz.results200,go_sem,Z]) rfl λ w8 O=>?_;exact⟨(0,0,0,false),false,rfl,by rfl,O⟩
  by_cases k2:(f:Int) - d < -1
  ·have k3:decide ((f:Int) - d < -1)=true:=decide_eq_true k2;by_cases k4:(f:Int)<l
   ·obtain rfl:T=none:=GN.out (.inr ⟨k2,k4⟩);go_wp2_with fail;refine bp_row2 [.int .i64 0,.int .i64 0,.int .i64 0,.bool false] (.bool false) (below_four E (by omega) _ _ _ _) (four I _ _ _ _) (λ w8 Z=>by simp [results,Tryz.results200,go_sem,Z]) rfl λ w8 O=>?_;exact⟨(0,0,0,false),false,rfl,by rfl,O⟩
   ·obtain rfl:T=some ((f:Int),-1,d,false):=GS.out (by rintro(h | h);exact k1 h;exact k4 h.2);go_wp2_with fail;refine bp_row2 [.int .i64 (f:Int),.int .i64 (-1),.int .i64 d,.bool false] (.bool true) (below_four E (by omega) _ _ _ _) (four I _ _ _ _) (λ w8 Z=>by simp [results,Tryz.results200,go_sem,Z]) rfl λ w8 O=>?_;exact⟨((f:Int),(-1),d,false),true,rfl,by rfl,O⟩
  ·have k3:decide ((f:Int) - d < -1)=false:=decide_eq_false k2;obtain rfl:T=some ((f:Int),-1,d,false):=GS.out (by rintro(h | h);exact k1 h;exact k2 h.1);go_wp2_with fail;refine bp_row2 [.int .i64 (f:Int),.int .i64 (-1),.int .i64 d,.bool false] (.bool true) (below_four E (by omega) _ _ _ _) (four I _ _ _ _) (λ w8 Z=>by simp [results,Tryz.results200,go_sem,Z]) rfl λ w8 O=>?_;exact⟨((f:Int),(-1),d,false),true,rfl,by rfl,O⟩
end Bd4
namespace Bd5
open Go.ChangeShapes Go.WideShapes Go.ChangeAt Go.RowKit Base Ints Own Clone RelG PlP Bd1 Bd2 Bd4
def StepsR (ss:List Stp) (w:World) (e:Ending) (w':World):Prop :=
 ∃ vv,e=.returned vv∧OwnS w' w.heap.size w'.heap.size 111 4 enSt vv ss∧Below w.heap.size w w'
theorem opt_list {s:Stp} {ok:Bool} {t:Option Stp} (h:opt s ok=t):t.toList=if ok=true then [s] else []:=by
 subst h;unfold opt;cases ok <;> rfl
def lgX (v:Vr) (b:Bd) (d:Int):Nat->List Stp
 | 0=>[]
 | k+1=>lgX v b d k++((if over b then none else stepP v b (v.p - (k:Int)) d):Option Stp).toList
theorem lgX_step (v:Vr) (b:Bd) (d:Int) {P k f:Nat} (hP:v.p=(P:Int)) (h:f+k=P):lgX v b d (k+1)=lgX v b d k++((if over b then none else stepP v b (f:Int) d):Option Stp).toList:=by
 simp only [lgX];rw [show v.p - (k:Int)=(f:Int) from by omega]
theorem lgX_end (v:Vr) (b:Bd) (d:Int):∀ k,lgX v b d k=if over b=true then [] else lgU v b d k:=by
 intro k
 induction k with
 | zero=>simp [lgX,lgU]
 | succ k ih=>simp only [lgX,lgU,ih];split <;> simp
theorem legal_s (v:Vr) (b:Bd) (hb:Ok v b) (Ao At:Option Addr) (co ct B:Nat) (d:Int) (hd:1<=d∧d<=6) (w:World) (hB:B<=w.heap.size) (ho:RdS w B 1 enI Ao b.1) (ht:RdS w B 1 enI At b.2) :
  Calls Tryz.prog 178 #[.agg #[.int .i64 v.p,.int .i64 v.c,.int .i64 v.h,.int .i64 v.s],.agg #[.slice Ao b.1.length co,.slice At b.2.length ct],.int .i64 d] w λ e w'=>StepsR (legalP v b d) w e w':=by
 obtain⟨i4,ag,ac,ab,aa⟩:=info_parts infoSt;have hv:=hb.v1;have HO:=kD ho;have HT:=kD ht;obtain⟨P,hP⟩:∃ P:Nat,v.p=(P:Int):=⟨v.p.toNat,by omega⟩;have HP:=kD hP;have ak:P<=24:=by omega
 obtain⟨ov,t⟩:∃ a,over b=a:=⟨_,rfl⟩;have ai:=kD t;have M:legalP v b d=if ov=true then [] else lgU v b d (P+1):=by unfold legalP;rw [t,show v.p.toNat=P from by omega]
 have Q:=kD M;obtain⟨LG,hL⟩:∃ l,legalP v b d=l:=⟨_,rfl⟩;rw [hL] at Q ⊢;have CS:=kD (λ(f:Nat) (hf:f<=P) (F:World) (h:Below w.heap.size w F)=>step_s v b hb Ao At co ct B f d (by omega) hd F (Nat.le_trans hB h.size) (HO.out.below h hB) (HT.out.below h hB));have CO:=kD (λ(F:World) (h:Below w.heap.size w F)=>over_i v b hb Ao At co ct B F (Nat.le_trans hB h.size) (HO.out.below h hB) (HT.out.below h hB) ov t);clear hb ho ht t M hL hP;go_enter Tryz.func178,Tryz.ntmps178;go_upto_region 1 with fail;refine wp_gen (λ W'=>Below w.heap.size w W'∧RowB W' w.heap.size 25 (vL v)∧RowB W' (w.heap.size+1) 51 [.slice Ao b.1.length co,.slice At b.2.length ct]) ⟨by go_grown,(RowB.new _ _ _).alloc _,RowB.new' _ _ _ (by simp)⟩ ?_;rintro w1 ⟨K,j,m⟩;obtain⟨X,W,V,T⟩:=j.c4;obtain⟨S,R⟩:=m.c2;have y:=j.lt;have x:=m.lt;have ah:Hid ((if ov=true then [] else lgU v b d (P+1))=LG):=kD (by rw [Q.out]);go_wp2_with fail;go_loopw [7,8] (λ vl i wr=>∃(o k:Nat),o+k=P+1∧i=.int .i64 ((o:Int) - 1)∧Hid (Below w.heap.size w wr)∧RowB wr w.heap.size 25 (vL v)∧RowB wr (w.heap.size+1) 51 [.slice Ao b.1.length co,.slice At b.2.length ct]∧Hid (OwnS wr (w.heap.size+2) wr.heap.size 111 4 enSt vl (lgX v b d k))∧Hid ((lgX v b d k).length<=k)) (λ _ i _=>(intOf i+1).toNat)
 case atStart=>exact⟨P+1,0,by omega,by rw [HP.out,show (((P+1:Nat):Int) - 1)=(P:Int) from by omega],kD (by first | exact K.alloc K.size _ | go_grown),j.alloc _,m.alloc _,kD (by rw [show lgX v b d 0=[] from rfl];exact(RowB.new _ _ []).own (xs:=([]:List Stp)) (en:=enSt) enSt_len (by omega) (by simp) (by decide)),kD (by show ([]:List Stp).length<=0;simp)⟩
 case round =>
  obtain⟨o,k,ao,rfl,hb,j,m,ho,I⟩:=hrel;clear X W V T S R y x;obtain⟨X,W,V,T⟩:=j.c4;obtain⟨S,R⟩:=m.c2;have y:=j.lt;have x:=m.lt;by_cases hF:0<o
  ·obtain⟨f,rfl⟩:∃ f,o=f+1:=⟨o - 1,by omega⟩;have ef:(((f+1:Nat):Int) - 1)=(f:Int):=by omega
   rw [ef];obtain⟨Av,cv,ad,_⟩:=ho.out.form enSt_len;have al:w.heap.size+2<=wr.heap.size:=by omega
   have O:=kD (lgX_step v b d (P:=P) (k:=k) (f:=f) HP.out (by omega));clear ef;subst ad;go_wp2_with fail;refine(CS.out f (by omega) wr hb.out).mono ?_;rintro e Z ⟨s,ok,rfl,A,n⟩;have D:=kD (opt_list A);clear A;have j:=j.below n j.lt;have m:=m.below n m.lt;have ho:=kD ((ho.out.below n (Nat.le_refl _)).more n.size);have r:=kD (hb.out.trans (n.mono hb.out.size));have am:=n.size;clear hb n X W V T S R y x;obtain⟨X,W,V,T⟩:=j.c4;obtain⟨S,R⟩:=m.c2;have y:=j.lt;have x:=m.lt;have an:=I.out
   cases ok
   case false =>
    have N:Hid (lgX v b d (k+1)=lgX v b d k):=kD (by rw [O.out,D.out];simp);go_wp2_with fail;go_roundw
    case rel=>exact⟨f,k+1,by omega,by first | rfl | trivial | go_num,kD (r.out.alloc r.out.size _),j.alloc _,m.alloc _,kD (by rw [N.out];exact(ho.out.alloc _).more (by simp)),kD (by rw [N.out];omega)⟩
    case measure=>simp [intOf] <;> omega
   case true =>
    have N:Hid (lgX v b d (k+1)=lgX v b d k++[s]):=kD (by rw [O.out,D.out];simp);have af:=kD (show (lgX v b d (k+1)).length<=k+1 from by rw [N.out,List.length_append];simp;omega);go_wp2_with (at_builtin;refine wpL_app rfl _ _ _ rfl (w.heap.size+2) _ 111 i4 (.agg #[.int .i64 0,.int .i64 0,.int .i64 0,.bool false]) 4 32 Tryz.underlying26 ag ac ab aa rfl (by decide) enSt_len one_St (.slice Av (lgX v b d k).length cv) (lgX v b d k) [s] rfl ((ho.out.alloc _).alloc _) ⟨(Z.alloc (.cells #[.int .i64 s.1,.int .i64 s.2.1,.int .i64 s.2.2.1,.bool s.2.2.2] 111)).heap.size,0,none⟩ 1 1 (by first | rfl | (simp;rfl) | (simp [go_sem];done)) rfl (news_new (RowB.new _ _ _)) (by decide) ?c1 ?c2 ?c3 ?_)
    case c1=>unfold maxLen;omega
    case c2=>omega
    case c3=>go_size
    intro k2 c2 Y H J L aj;have q:∀ g,(Value.slice Av (lgX v b d k).length cv).ownBlock=some g->w.heap.size+2<=g:=λ g E=>(ho.out.block g E).1
    have z:Z.grownBy Y (Value.slice Av (lgX v b d k).length cv).ownBlock:=below_grown (w:=Z) (by go_grown) J;have j:=j.grown z (λ g E=>by have:=q g E;omega);have m:=m.grown z (λ g E=>by have:=q g E;omega);have r:=kD (r.out.grown z r.out.size (λ g E=>by have:=q g E;omega));have ae:=kD (show OwnS Y (w.heap.size+2) Y.heap.size 111 4 enSt (.slice (some ⟨k2,0,none⟩) ((lgX v b d k).length+1) c2) (lgX v b d (k+1)) from by rw [N.out];exact H);clear J z L H q;go_wp2_with fail;go_roundw
    case rel=>exact⟨f,k+1,by omega,by first | rfl | trivial | go_num,r,j,m,ae,af⟩
    case measure=>simp [intOf] <;> omega
  ·obtain rfl:o=0:=by omega
   obtain rfl:k=P+1:=by omega
   have C:lgX v b d (P+1)=LG:=(by rw [<-ah.out,<-ai.out];exact lgX_end v b d _);have G:=kD ho.out;rw [C] at G;clear C;go_wp2_with fail;go_ret;exact⟨_,rfl,G.out.less (by omega),hb.out⟩
end Bd5
namespace Bd6
open Go.ChangeShapes Go.WideShapes Go.ChangeAt Go.RowKit Base Ints Own Clone RelG PlP Bd1 RegInv
def BoardR (l m:List Int) (w:World) (e:Ending) (w':World):Prop :=
 ∃(A1:Option Addr) (c1:Nat) (A2:Option Addr) (c2:Nat),e=.returned (.agg #[.slice A1 l.length c1,.slice A2 m.length c2])∧OwnS w' w.heap.size w'.heap.size 2 1 enI (.slice A1 l.length c1) l∧OwnS w' w.heap.size w'.heap.size 2 1 enI (.slice A2 m.length c2) m∧Own.Apart (.slice A1 l.length c1) (.slice A2 m.length c2)∧Below w.heap.size w w'
theorem two_ {W:World} {g:Nat} {t:TypeId} {a b:Value} (h:RowB W g t [a,b]) (u v:Value):RowB ((W.setCell ⟨g,0,none⟩ u).setCell ⟨g,1,none⟩ v) g t [u,v]:=(h.set 0 u).set 1 v
theorem below_two {B:Nat} {w W:World} (h:Below B w W) {g:Nat} (hg:B<=g) (u v:Value):Below B w ((W.setCell ⟨g,0,none⟩ u).setCell ⟨g,1,none⟩ v) :=
 (h.setCell (p:=⟨g,0,none⟩) hg _).setCell (p:=⟨g,1,none⟩) hg _
theorem oth2 {W:World} {g g':Nat} {t:TypeId} {cs:List Value} (h:RowB W g t cs) (hn:g≠g') (u v:Value):RowB ((W.setCell ⟨g',0,none⟩ u).setCell ⟨g',1,none⟩ v) g t cs:=(h.other (p:=⟨g',0,none⟩) hn _).other (p:=⟨g',1,none⟩) hn _
theorem own2 {w:World} {lo hi:Nat} {v:Value} {xs:List Int} (h:OwnS w lo hi 2 1 enI v xs) {g:Nat} (hg:g<lo) (a b:Value):OwnS ((w.setCell ⟨g,0,none⟩ a).setCell ⟨g,1,none⟩ b) lo hi 2 1 enI v xs :=
 (h.setCell (p:=⟨g,0,none⟩) hg _).setCell (p:=⟨g,1,none⟩) hg _
structure ClF_swap_s (w:World) (g1 g2:Nat) (Ao At:Option Addr) (co ct:Nat) (l m:List Int) (L:Nat->Prop) (v3 v4 v5 v6 v7 v8 v9:Value) (w':World):Prop where
 bel:Below w.heap.size w w'
 rb:RowB w' g1 51 [.slice Ao l.length co,.slice At m.length ct]
 rr:¬ L 7->RowB w' g2 51 [.slice none 0 0,.slice none 0 0]
 ge:g1=w.heap.size∧g2=w.heap.size+1∧w.heap.size+2<=w'.heap.size
 f0:L 0->v3=.pointer (some ⟨g1,1,none⟩)
 f1:L 1->v4=.slice At m.length ct
 f2:L 2->∃(A1:Option Addr) (c1:Nat),v5=.slice A1 m.length c1∧OwnS w' (w.heap.size+2) w'.heap.size 2 1 enI (.slice A1 m.length c1) m
 f3:L 3->v6=.pointer (some ⟨g1,0,none⟩)
 f4:L 4->v7=.slice Ao l.length co
 f5:L 5->(∃(A1:Option Addr) (c1:Nat),v8=.slice A1 l.length c1∧OwnS w' (w.heap.size+2) w'.heap.size 2 1 enI (.slice A1 l.length c1) l)∧(L 2->Own.Apart v5 v8)
 f6:L 6->v9=.agg #[v5,v8]
 f7:L 7->RowB w' g2 51 [v5,v8]
theorem swap_s (l m:List Int) (Ao At:Option Addr) (co ct B:Nat) (w:World) (hB:B<=w.heap.size) (ho:RdS w B 1 enI Ao l) (ht:RdS w B 1 enI At m) (hA:Ao=none->co=0) (hT:At=none->ct=0) (hl:l.length<=1000) (hm:m.length<=1000) :
  Calls Tryz.prog 177 #[.agg #[.slice Ao l.length co,.slice At m.length ct]] w λ e w'=>BoardR m l w e w':=by
 have V:=kD (λ(M:World) (h:Below w.heap.size w M)=>own02 Ao co B l M (Nat.le_trans hB h.size) (ho.below h hB) hA (by omega));have T:=kD (λ(M:World) (h:Below w.heap.size w M)=>own02 At ct B m M (Nat.le_trans hB h.size) (ht.below h hB) hT (by omega));clear ho ht;go_enter Tryz.func177,Tryz.ntmps177;go_upto_region 1 with fail;refine wp_gen (λ Z=>Below w.heap.size w Z∧RowB Z w.heap.size 51 [.slice Ao l.length co,.slice At m.length ct]∧RowB Z (w.heap.size+1) 51 [.slice none 0 0,.slice none 0 0]) ⟨by go_grown,(RowB.new _ _ _).alloc _,RowB.new' _ _ _ (by simp)⟩ ?_;rintro w1 ⟨Y,rb,G⟩;refine region_inv (λ a0 L a w'=>∃ q p i o n g j:Value,a=(((((((a0.put (some 3) q).put (some 4) p).put (some 5) i).put (some 6) o).put (some 7) n).put (some 8) g).put (some 9) j)∧ClF_swap_s w w.heap.size (w.heap.size+1) Ao At co ct l m L q p i o n g j w') (by kernel_rfl) (by kernel_rfl) ?h0 ?hst ?fin
 case h0 =>
  exact⟨_,_,_,_,_,_,_,by simp only [Act.put,sX];exact rfl,⟨Y.drew,rb.drew,λ _=>G.drew,⟨rfl,rfl,G.lt⟩,λ h=>(h:False).elim,λ h=>(h:False).elim,λ h=>(h:False).elim,λ h=>(h:False).elim,λ h=>(h:False).elim,λ h=>(h:False).elim,λ h=>(h:False).elim,λ h=>(h:False).elim⟩⟩
 case hst =>
  refine StepsFrom.cons rfl (λ L a w' t c b d K s=>?_) ?_
  ·obtain⟨q,p,i,o,n,g,j,r,F⟩:=t;subst r;simp only [Act.put,sX];go_simp;exact s.out _ _ ⟨_,p,i,o,n,g,j,by simp only [Act.put,sX],⟨F.bel,F.rb,λ h=>F.rr (λ x=>h (Or.inr x)),F.ge,λ _=>rfl,λ h=>F.f1 (rL h),λ h=>F.f2 (rL h),λ h=>F.f3 (rL h),λ h=>F.f4 (rL h),λ h=>⟨(F.f5 (rL h)).1,λ f=>(F.f5 (rL h)).2 (rL f)⟩,λ h=>F.f6 (rL h),λ h=>F.f7 (rL h)⟩⟩
  refine StepsFrom.cons rfl (λ L a w' t c b d K s=>?_) ?_
  ·obtain⟨q,p,i,o,n,g,j,r,F⟩:=t;have r0:=F.rb.c2.1;have r1:=F.rb.c2.2;have hl:=F.rb.lt;have e3:=F.f0 (bK b 0);subst r;simp only [Act.put,sX,e3];go_simp;exact s.out _ _ ⟨q,_,i,o,n,g,j,by simp only [Act.put,sX,e3],⟨F.bel,F.rb,λ h=>F.rr (λ x=>h (Or.inr x)),F.ge,λ h=>F.f0 (rL h),λ _=>rfl,λ h=>F.f2 (rL h),λ h=>F.f3 (rL h),λ h=>F.f4 (rL h),λ h=>⟨(F.f5 (rL h)).1,λ f=>(F.f5 (rL h)).2 (rL f)⟩,λ h=>F.f6 (rL h),λ h=>F.f7 (rL h)⟩⟩
  refine StepsFrom.cons rfl (λ L a w' t c b d K s=>?_) ?_
  ·obtain⟨q,p,i,o,n,g,j,r,F⟩:=t;have e4:=F.f1 (bK b 1);have Q:=F.ge;have y:=F.bel.size;have P:=F.rb.lt;subst r;simp only [Act.put,sX,e4];go_simp;refine(T.out w' F.bel).mono ?_;rintro e w2 ⟨⟨vv,rfl,ho⟩,z⟩;obtain⟨O,N,rfl,-⟩:=ho.form enI_len;exact s.out _ _ ⟨q,p,_,o,n,g,j,by simp only [Act.put,sX,e4],⟨F.bel.trans (z.mono F.bel.size),F.rb.below z F.rb.lt,λ h=>(F.rr (λ x=>h (Or.inr x))).below z (F.rr (λ x=>h (Or.inr x))).lt,⟨F.ge.1,F.ge.2.1,Nat.le_trans F.ge.2.2 z.size⟩,λ h=>F.f0 (rL h),λ h=>F.f1 (rL h),λ _=>⟨O,N,rfl,ho.less (by omega)⟩,λ h=>F.f3 (rL h),λ h=>F.f4 (rL h),λ h=>by obtain⟨⟨D,C,E,f⟩,W⟩:=F.f5 (rL h);exact⟨⟨D,C,E,(f.below z (Nat.le_refl _)).more z.size⟩,λ _=>by rw [E];exact λ k X J=>by have:=f.2 k J;have:=(ho.block k X).1;omega⟩,λ h=>absurd (d 6 2 (by kernel_rfl) (rL h)) c,λ h=>absurd (d 7 2 (by kernel_rfl) (rL h)) c⟩⟩
  refine StepsFrom.cons rfl (λ L a w' t c b d K s=>?_) ?_
  ·obtain⟨q,p,i,o,n,g,j,r,F⟩:=t;subst r;simp only [Act.put,sX];go_simp;exact s.out _ _ ⟨q,p,i,_,n,g,j,by simp only [Act.put,sX],⟨F.bel,F.rb,λ h=>F.rr (λ x=>h (Or.inr x)),F.ge,λ h=>F.f0 (rL h),λ h=>F.f1 (rL h),λ h=>F.f2 (rL h),λ _=>rfl,λ h=>F.f4 (rL h),λ h=>⟨(F.f5 (rL h)).1,λ f=>(F.f5 (rL h)).2 (rL f)⟩,λ h=>F.f6 (rL h),λ h=>F.f7 (rL h)⟩⟩
  refine StepsFrom.cons rfl (λ L a w' t c b d K s=>?_) ?_
  ·obtain⟨q,p,i,o,n,g,j,r,F⟩:=t;have r0:=F.rb.c2.1;have r1:=F.rb.c2.2;have hl:=F.rb.lt;have e6:=F.f3 (bK b 3);subst r;simp only [Act.put,sX,e6];go_simp;exact s.out _ _ ⟨q,p,i,o,_,g,j,by simp only [Act.put,sX,e6],⟨F.bel,F.rb,λ h=>F.rr (λ x=>h (Or.inr x)),F.ge,λ h=>F.f0 (rL h),λ h=>F.f1 (rL h),λ h=>F.f2 (rL h),λ h=>F.f3 (rL h),λ _=>rfl,λ h=>⟨(F.f5 (rL h)).1,λ f=>(F.f5 (rL h)).2 (rL f)⟩,λ h=>F.f6 (rL h),λ h=>F.f7 (rL h)⟩⟩
  refine StepsFrom.cons rfl (λ L a w' t c b d K s=>?_) ?_
  ·obtain⟨q,p,i,o,n,g,j,r,F⟩:=t;have e7:=F.f4 (bK b 4);have Q:=F.ge;have y:=F.bel.size;have P:=F.rb.lt;subst r;simp only [Act.put,sX,e7];go_simp;refine(V.out w' F.bel).mono ?_;rintro e w2 ⟨⟨vv,rfl,ho⟩,z⟩;obtain⟨O,N,rfl,-⟩:=ho.form enI_len;exact s.out _ _ ⟨q,p,i,o,n,_,j,by simp only [Act.put,sX,e7],⟨F.bel.trans (z.mono F.bel.size),F.rb.below z F.rb.lt,λ h=>(F.rr (λ x=>h (Or.inr x))).below z (F.rr (λ x=>h (Or.inr x))).lt,⟨F.ge.1,F.ge.2.1,Nat.le_trans F.ge.2.2 z.size⟩,λ h=>F.f0 (rL h),λ h=>F.f1 (rL h),λ h=>by obtain⟨D,C,E,f⟩:=F.f2 (rL h);exact⟨D,C,E,(f.below z (Nat.le_refl _)).more z.size⟩,λ h=>F.f3 (rL h),λ h=>F.f4 (rL h),λ _=>⟨⟨O,N,rfl,ho.less (by omega)⟩,λ f=>by obtain⟨D,C,E,W⟩:=F.f2 (rL f);rw [E];exact λ k X J=>by have:=W.2 k X;have:=(ho.block k J).1;omega⟩,λ h=>absurd (d 6 5 (by kernel_rfl) (rL h)) c,λ h=>absurd (d 7 5 (by kernel_rfl) (rL h)) c⟩⟩
  refine StepsFrom.cons rfl (λ L a w' t c b d K s=>?_) ?_
  ·obtain⟨q,p,i,o,n,g,j,r,F⟩:=t;obtain⟨A5,c5,I,o5⟩:=F.f2 (bK b 2);obtain⟨⟨A8,c8,H,o8⟩,A⟩:=F.f5 (bK b 5);subst r;simp only [Act.put,sX,I,H];go_simp;exact s.out _ _ ⟨q,p,i,o,n,g,.agg #[i,g],by simp only [Act.put,sX,I,H],⟨F.bel,F.rb,λ h=>F.rr (λ x=>h (Or.inr x)),F.ge,λ h=>F.f0 (rL h),λ h=>F.f1 (rL h),λ h=>F.f2 (rL h),λ h=>F.f3 (rL h),λ h=>F.f4 (rL h),λ h=>⟨(F.f5 (rL h)).1,λ f=>(F.f5 (rL h)).2 (rL f)⟩,λ _=>rfl,λ h=>absurd (d 7 6 (by kernel_rfl) (rL h)) c⟩⟩
  refine StepsFrom.cons rfl (λ L a w' t c b d K s=>?_) ?_
  ·obtain⟨q,p,i,o,n,g,j,r,F⟩:=t;obtain⟨A5,c5,I,o5⟩:=F.f2 (bK b 2);obtain⟨⟨A8,c8,H,o8⟩,A⟩:=F.f5 (bK b 5);have e9:=F.f6 (bK b 6);have G:=F.rr c;have z0:=G.c2.1;have z1:=G.c2.2;have fr:=G.frozen;have hl:=G.lt;have Q:=F.ge;have y:=F.bel.size;subst r;simp only [Act.put,sX,e9,I,H];go_simp;exact s.out _ _ ⟨q,p,i,o,n,g,j,by simp only [Act.put,sX,e9,I,H],⟨below_two F.bel (by omega) _ _,oth2 F.rb (by omega) _ _,λ h=>absurd (Or.inl rfl) h,⟨F.ge.1,F.ge.2.1,by rw [World.size_setCell,World.size_setCell];exact F.ge.2.2⟩,λ h=>F.f0 (rL h),λ h=>F.f1 (rL h),λ h=>by obtain⟨D,C,E,f⟩:=F.f2 (rL h);exact⟨D,C,E,by rw [World.size_setCell,World.size_setCell];exact own2 f (by omega) _ _⟩,λ h=>F.f3 (rL h),λ h=>F.f4 (rL h),λ h=>by obtain⟨⟨D,C,E,f⟩,W⟩:=F.f5 (rL h);exact⟨⟨D,C,E,by rw [World.size_setCell,World.size_setCell];exact own2 f (by omega) _ _⟩,λ h4=>W (rL h4)⟩,λ h=>F.f6 (rL h),λ _=>by rw [I,H];exact two_ G _ _⟩⟩
  exact StepsFrom.nil (by decide)
 case fin =>
  rintro L a' M ⟨q,p,i,o,n,g,j,rfl,S⟩ R;have r7:=S.f7 (R 7 (by decide));obtain⟨⟨D,C,H,o2⟩,A⟩:=S.f5 (R 5 (by decide));obtain⟨O,N,I,o1⟩:=S.f2 (R 2 (by decide));have A:=A (R 2 (by decide));have y:=S.bel;clear S R;subst H I;obtain⟨z0,z1⟩:=r7.c2;simp only [Act.put,sX];go_wp2_with fail;refine bodyPost_ret (v:=.agg #[.slice O m.length N,.slice D l.length C]) (by simp [results,Tryz.results177,go_sem,z0,z1]) rfl ?_;exact⟨O,N,D,C,rfl,o1.less (by omega),o2.less (by omega),A,y⟩
end Bd6
end Go.Proofs.YtjdefiinmicjiaaGreatDoor
