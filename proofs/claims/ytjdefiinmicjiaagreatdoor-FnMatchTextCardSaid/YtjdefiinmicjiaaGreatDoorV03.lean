/- Parts of the proof of FnMatchText. Conditions: each theorem's own. -/
import Derived.Test.YtjdefiinmicjiaaGreatDoorV02
set_option linter.unusedVariables false
set_option linter.unusedSimpArgs false
set_option maxHeartbeats 8000000
set_option maxRecDepth 100000
namespace Go.Proofs.YtjdefiinmicjiaaGreatDoor
open _root_.Go.Proofs.Tryz
namespace Bd4
open Go.ChangeShapes Go.WideShapes Go.ChangeAt Go.RowKit Base Ints Own Clone RelG PlP Bd1 Bd2 RegInv RegF
theorem four {W:World} {g:Nat} {t:TypeId} {a b c d:Value} (h:RowB W g t [a,b,c,d]) (u v x y:Value):RowB ((((W.setCell ⟨g,0,none⟩ u).setCell ⟨g,1,none⟩ v).setCell ⟨g,2,none⟩ x).setCell ⟨g,3,none⟩ y) g t [u,v,x,y] :=
 (((h.set 0 u).set 1 v).set 2 x).set 3 y
theorem oth4 {W:World} {g g':Nat} {t:TypeId} {cs:List Value} (h:RowB W g t cs) (hn:g≠g') (u v x y:Value):RowB ((((W.setCell ⟨g',0,none⟩ u).setCell ⟨g',1,none⟩ v).setCell ⟨g',2,none⟩ x).setCell ⟨g',3,none⟩ y) g t cs :=
 (((h.other (p:=⟨g',0,none⟩) hn _).other (p:=⟨g',1,none⟩) hn _).other (p:=⟨g',2,none⟩) hn _).other (p:=⟨g',3,none⟩) hn _
theorem below_four {B:Nat} {w W:World} (h:Below B w W) {g:Nat} (hg:B<=g) (u v x y:Value):Below B w ((((W.setCell ⟨g,0,none⟩ u).setCell ⟨g,1,none⟩ v).setCell ⟨g,2,none⟩ x).setCell ⟨g,3,none⟩ y) :=
 (((h.setCell (p:=⟨g,0,none⟩) hg _).setCell (p:=⟨g,1,none⟩) hg _).setCell (p:=⟨g,2,none⟩) hg _).setCell (p:=⟨g,3,none⟩) hg _
theorem at_rd' {w:World} {B:Nat} {bk o:Nat} {xs:List Int} (h:RdS w B 1 enI (sA bk o) xs) {i:Nat} (hi:i<xs.length):w.cell? ⟨bk,o+i,none⟩=some (iL (at_ xs i)):=by
 obtain⟨d,c,a,-,b⟩:=at_rd h hi;simp only [Option.some.injEq,Addr.mk.injEq,and_true] at a;obtain⟨rfl,rfl⟩:=a;exact b
def opt (s:Stp) (ok:Bool):Option Stp:=if ok then some s else none
def StepR (t:Option Stp) (w:World) (e:Ending) (w':World):Prop :=
 ∃(s:Stp) (ok:Bool),e=.returned (.tuple #[.agg #[iL s.1,iL s.2.1,iL s.2.2.1,.bool s.2.2.2],.bool ok])∧opt s ok=t∧zB w w'
theorem step_none1 {v:Vr} {b:Bd} {f d:Int} (h:at_ b.1 f.toNat=0∨(0<at_ b.1 v.p.toNat∧f≠v.p)):stepP v b f d=none:=by unfold stepP;rw [if_pos h]
theorem step_in {v:Vr} {b:Bd} {f d:Int} (h:¬ (at_ b.1 f.toNat=0∨(0<at_ b.1 v.p.toNat∧f≠v.p))) (h2:0<=f - d) :
  stepP v b f d=opt (f,f - d,d,decide (at_ b.2 (v.p - 1 - (f - d)).toNat=1)) (decide (at_ b.2 (v.p - 1 - (f - d)).toNat<=1)):=by
 unfold stepP opt;rw [if_neg h,if_pos h2];simp only [decide_eq_true_eq]
theorem step_off {v:Vr} {b:Bd} {f d:Int} (h:¬ (at_ b.1 f.toNat=0∨(0<at_ b.1 v.p.toNat∧f≠v.p))) (h2:¬ 0<=f - d) (h3:¬ (v.h<=last b.1∨(f - d < -1∧f<last b.1))):stepP v b f d=some (f,-1,d,false):=by
 unfold stepP;rw [if_neg h,if_neg h2,if_neg h3]
theorem step_none3 {v:Vr} {b:Bd} {f d:Int} (h2:¬ 0<=f - d) (h3:v.h<=last b.1∨(f - d < -1∧f<last b.1)):stepP v b f d=none:=by
 unfold stepP;by_cases c:at_ b.1 f.toNat=0∨(0<at_ b.1 v.p.toNat∧f≠v.p)
 ·rw [if_pos c]
 ·rw [if_neg c,if_neg h2,if_pos h3]
theorem lastU_bd (l:List Int):∀ k,-1<=lastU l k∧lastU l k<(k:Int):=by
 intro k
 induction k with
 | zero=>simp [lastU]
 | succ k ih=>simp only [lastU];split <;> omega
theorem open_s (v:Vr) (b:Bd) (hb:Ok v b) (Ao At:Option Addr) (co ct B:Nat) (i:Int) (hi:0<=i∧i<v.p) (w:World) (hB:B<=w.heap.size) (ht:RdS w B 1 enI At b.2) :
  Calls prog 206 #[vA v,.agg #[.slice Ao b.1.length co,.slice At b.2.length ct],iL i] w λ e w'=>e=.returned (.bool (decide (at_ b.2 (v.p - 1 - i).toNat<=1)))∧zB w w':=by
 have l:=hb.v1;have m:=hb.oth.len;obtain⟨j,f⟩:∃ j:Nat,v.p - 1 - i=(j:Int):=⟨(v.p - 1 - i).toNat,by omega⟩;have a:(v.p - 1 - i).toNat=j:=by omega
 rw [a];obtain⟨r,k,rfl,g,n⟩:=at_rd (ht.below (show zB w ((w.alloc (.cells #[iL v.p,iL v.c,iL v.h,iL v.s] 25)).alloc (.cells #[.slice Ao b.1.length co,.slice At b.2.length ct] 51)) from by go_grown) hB) (i:=j) (by omega);have q:=iW ((v.p - 1));have o:IntKind.i64.wrap (v.p - 1 - i)=(j:Int):=by rw [f];exact IntWalk.i64_in _ (by omega)
 have d:(j:Int)<(b.2.length:Int):=by omega
 clear a;go_enter func206,ntmps206;go_wp2_with fail;go_ret;exact⟨rfl,by go_grown⟩
theorem open_i (v:Vr) (b:Bd) (hb:Ok v b) (Ao At:Option Addr) (co ct B:Nat) (i:Int) (hi:0<=i∧i<v.p) (w:World) (hB:B<=w.heap.size) (ht:RdS w B 1 enI At b.2) :
  Calls prog 209 #[vA v,.agg #[.slice Ao b.1.length co,.slice At b.2.length ct],iL i] w λ e w'=>e=.returned (.bool (decide (at_ b.2 (v.p - 1 - i).toNat<=1)))∧zB w w':=by
 have l:=hb.v1;have m:=hb.oth.len;obtain⟨j,f⟩:∃ j:Nat,v.p - 1 - i=(j:Int):=⟨(v.p - 1 - i).toNat,by omega⟩;have a:(v.p - 1 - i).toNat=j:=by omega
 rw [a];obtain⟨r,k,rfl,g,n⟩:=at_rd (ht.below (show zB w ((w.alloc (.cells #[iL v.p,iL v.c,iL v.h,iL v.s] 25)).alloc (.cells #[.slice Ao b.1.length co,.slice At b.2.length ct] 51)) from by go_grown) hB) (i:=j) (by omega);have q:=iW ((v.p - 1));have o:IntKind.i64.wrap (v.p - 1 - i)=(j:Int):=by rw [f];exact IntWalk.i64_in _ (by omega)
 have d:(j:Int)<(b.2.length:Int):=by omega
 clear a;go_enter func209,ntmps209;go_wp2_with fail;go_ret;exact⟨rfl,by go_grown⟩
theorem step_i (v:Vr) (b:Bd) (hb:Ok v b) (Ao At:Option Addr) (co ct B:Nat) (f:Nat) (d:Int) (hf:(f:Int)<=v.p) (hd:1<=d∧d<=6) (w:World) (hB:B<=w.heap.size) (ho:RdS w B 1 enI Ao b.1) (ht:RdS w B 1 enI At b.2) :
  Calls prog 205 #[vA v,.agg #[.slice Ao b.1.length co,.slice At b.2.length ct],iL (f:Int),iL d] w λ e w'=>StepR (stepP v b (f:Int) d) w e w':=by
 have hv:=hb.v1;have N1:=hb.own.len;have N2:=hb.oth.len;have ab:=kD hb;have Q:=kD ho;have HT:=kD ht;obtain⟨T,hT⟩:=eX ((stepP v b (f:Int) d));rw [hT];have C:=kD hT;have an:0<=at_ b.1 f:=hb.own.nn f;have ak:0<=at_ b.1 v.p.toNat:=hb.own.nn _;have ef:=iW (((f:Int) - d));have aj:v.p<(b.1.length:Int):=by omega
 have am:(f:Int)<(b.1.length:Int):=by omega
 have E:f<b.1.length:=by omega
 clear hb ho ht hT;go_enter func205,ntmps205;go_upto_region 1 with fail;refine wp_gen (λ P=>zB w P∧RowB P w.heap.size 25 (vL v)∧RowB P (w.heap.size+1) 51 [.slice Ao b.1.length co,.slice At b.2.length ct]∧RowB P (w.heap.size+2) 111 [iL 0,iL 0,iL 0,.bool false]) ⟨by go_grown,((RowB.new _ _ _).alloc _).alloc _,(RowB.new' _ _ _ (by simp)).alloc _,RowB.new' _ _ _ (by simp)⟩ ?_;rintro w1 ⟨a,o,r,m⟩;obtain⟨b1,o1,rfl,af,-⟩:=at_rd (Q.out.below a hB) (i:=f) E;obtain⟨x,D⟩:∃ q,(decide (at_ b.1 ((f:Int)).toNat=0∨(0<at_ b.1 v.p.toNat∧(f:Int)≠v.p)))=q:=⟨_,rfl⟩;have A:=kD D;clear D;go_cut [32] from 12 to 32 (λ X N=>X=.bool x∧zB w N∧RowB N w.heap.size 25 (vL v)∧RowB N (w.heap.size+1) 51 [.slice (sA b1 o1) b.1.length co,.slice At b.2.length ct]∧RowB N (w.heap.size+2) 111 [iL 0,iL 0,iL 0,.bool false])
 case first =>
  obtain⟨q0,q1,q2,q3⟩:=o.c4;obtain⟨Z,Y⟩:=r.c2;obtain⟨W,V,S,R⟩:=m.c4;have I:=o.lt;have H:=r.lt;have F:=m.lt;have fr:=m.frozen;have ap:=at_rd' (Q.out.below a hB) (i:=f) E;have ao:=at_rd' (Q.out.below a hB) (i:=v.p.toNat) (by omega);by_cases g1:at_ b.1 f=0
  ·obtain rfl:x=true:=by rw [<-A.out];simp [g1]
   have e1:(at_ b.1 f == 0)=true:=by simp [g1]
   clear g1;go_wp2_with fail;go_meet;exact⟨rfl,a,o,r,m⟩
  have e1:(at_ b.1 f == 0)=false:=by simp [g1]
  by_cases g3:0<at_ b.1 v.p.toNat
  ·obtain⟨g2,e2⟩:=eX (((f:Int) != v.p));obtain rfl:x=g2:=by
    rw [<-A.out,<-e2];by_cases h:(f:Int)=v.p <;> simp [g1,g3,h] <;> omega
   clear g1;go_wp2_with fail;go_meet;exact⟨rfl,a,o,r,m⟩
  ·obtain rfl:x=false:=by rw [<-A.out];simp [g1,g3]
   clear g1;go_wp2_with fail;go_meet;exact⟨rfl,a,o,r,m⟩
 case rest =>
 obtain⟨rfl,a,o,r,m⟩:=hcut;obtain⟨q0,q1,q2,q3⟩:=o.c4;obtain⟨Z,Y⟩:=r.c2;obtain⟨W,V,S,R⟩:=m.c4;have I:=o.lt;have H:=r.lt;have F:=m.lt;have fr:=m.frozen
 cases x
 case true =>
  obtain rfl:T=none:=by rw [<-C.out];exact step_none1 (of_decide_eq_true A.out)
  go_wp2_with fail;refine bp_row2 [iL 0,iL 0,iL 0,.bool false] (.bool false) (below_four a (by omega) _ _ _ _) (four m _ _ _ _) (λ n t=>by simp [results,results205,go_sem,t]) rfl λ n k=>?_;exact⟨(0,0,0,false),false,rfl,by rfl,k⟩
 have G:=kD (show ¬ (at_ b.1 ((f:Int)).toNat=0∨(0<at_ b.1 v.p.toNat∧(f:Int)≠v.p)) from of_decide_eq_false A.out);by_cases g5:0<=(f:Int) - d
 ·obtain⟨j,hj⟩:∃ j:Nat,v.p - 1 - ((f:Int) - d)=(j:Int):=⟨(v.p - 1 - ((f:Int) - d)).toNat,by omega⟩;have ej:(v.p - 1 - ((f:Int) - d)).toNat=j:=by omega
  have L:T=opt (f,f - d,d,decide (at_ b.2 j=1)) (decide (at_ b.2 j<=1)):=by rw [<-C.out];exact(by have:=step_in (v:=v) (b:=b) (f:=(f:Int)) (d:=d) G.out g5;rw [ej] at this;exact this)
  have M:=kD L;have aa:=kD ej;clear L ej;obtain⟨bt,ot,rfl,aq,K⟩:=at_rd (HT.out.below a hB) (i:=j) (by omega);have e5:=iW ((v.p - 1));have e6:IntKind.i64.wrap (v.p - 1 - ((f:Int) - d))=(j:Int):=by rw [hj];exact IntWalk.i64_in _ (by omega)
  have e7:=iW ((j:Int));have ae:(j:Int)<v.p+1:=by omega
  have al:(j:Int)<(b.2.length:Int):=by omega
  have CP:=kD (λ w9 (h:zB w w9)=>open_i v b ab.out (sA b1 o1) (sA bt ot) co ct B ((f:Int) - d) (by omega) w9 (Nat.le_trans hB h.size) (HT.out.below h hB));rw [aa.out] at CP;go_wp2_with fail;refine(CP.out _ a).mono ?_;rintro e w2 ⟨rfl,y⟩;have o:=o.below y o.lt;have r:=r.below y r.lt;have m:=m.below y m.lt;have a:=a.tR y;clear q0 q1 q2 q3 Z Y W V S R I H F fr y K;obtain⟨q0,q1,q2,q3⟩:=o.c4;obtain⟨Z,Y⟩:=r.c2;obtain⟨W,V,S,R⟩:=m.c4;have I:=o.lt;have H:=r.lt;have F:=m.lt;have fr:=m.frozen;obtain⟨ar,ag,hA,-,K⟩:=at_rd (HT.out.below a hB) (i:=j) (by omega);simp only [Option.some.injEq,Addr.mk.injEq,and_true] at hA;obtain⟨rfl,rfl⟩:=hA;by_cases g6:at_ b.2 j<=1
  ·have g7:decide (at_ b.2 j<=1)=true:=decide_eq_true g6;have hR:opt (f,f - d,d,decide (at_ b.2 j=1)) true=T:=by rw [M.out,g7]
   obtain⟨z,hz⟩:∃ z,decide (at_ b.2 j=1)=z:=⟨_,rfl⟩;have ah:(at_ b.2 j == 1)=z:=by rw [<-hz];rfl
   rw [hz] at hR;have HR:=kD hR;clear g6 hz hR;go_wp2_with fail;refine bp_row2 [iL (f:Int),iL ((f:Int) - d),iL d,.bool z] (.bool true) (below_four a (by omega) _ _ _ _) (four m _ _ _ _) (λ n t=>by simp [results,results205,go_sem,t]) rfl λ n k=>?_;exact⟨((f:Int),((f:Int) - d),d,z),true,rfl,by exact HR.out,k⟩
  ·have g7:decide (at_ b.2 j<=1)=false:=decide_eq_false g6;obtain rfl:T=none:=by rw [M.out,g7];rfl
   clear g6;go_wp2_with fail;refine bp_row2 [iL 0,iL 0,iL 0,.bool false] (.bool false) (below_four a (by omega) _ _ _ _) (four m _ _ _ _) (λ n t=>by simp [results,results205,go_sem,t]) rfl λ n k=>?_;exact⟨(0,0,0,false),false,rfl,by rfl,k⟩
 ·have ai:(f:Int) - d<0:=by omega
  have CL:=kD (λ w9 (h:zB w w9)=>last_i (sA b1 o1) co B b.1 w9 (Q.out.below h hB) (by omega));obtain⟨l,O⟩:=eX (last b.1);have J:=lastU_bd b.1 b.1.length;rw [show lastU b.1 b.1.length=last b.1 from rfl,O] at J;obtain⟨ad,ac⟩:=J;have HL:=kD O;rw [O] at CL;clear O;have GN:=kD (show (v.h<=l∨((f:Int) - d < -1∧(f:Int)<l))->T=none from λ h=>by rw [<-C.out];exact step_none3 g5 (by rw [HL.out];exact h));have GS:=kD (show ¬ (v.h<=l∨((f:Int) - d < -1∧(f:Int)<l))->T=some ((f:Int),-1,d,false) from λ h=>by rw [<-C.out];exact step_off G.out g5 (by rw [HL.out];exact h));go_wp2_with fail;refine(CL.out _ a).mono ?_;rintro e w2 ⟨rfl,rfl⟩;by_cases k1:v.h<=l
  ·obtain rfl:T=none:=GN.out (.inl k1);go_wp2_with fail;refine bp_row2 [iL 0,iL 0,iL 0,.bool false] (.bool false) (below_four a (by omega) _ _ _ _) (four m _ _ _ _) (λ n t=>by simp [results,results205,go_sem,t]) rfl λ n k=>?_;exact⟨(0,0,0,false),false,rfl,by rfl,k⟩
  by_cases k2:(f:Int) - d < -1
  ·have k3:((f:Int) != d - 1)=true:=by simp;omega
   by_cases k4:(f:Int)<l
   ·obtain rfl:T=none:=GN.out (.inr ⟨k2,k4⟩);go_wp2_with fail;refine bp_row2 [iL 0,iL 0,iL 0,.bool false] (.bool false) (below_four a (by omega) _ _ _ _) (four m _ _ _ _) (λ n t=>by simp [results,results205,go_sem,t]) rfl λ n k=>?_;exact⟨(0,0,0,false),false,rfl,by rfl,k⟩
   ·obtain rfl:T=some ((f:Int),-1,d,false):=GS.out (by rintro(h | h);exact k1 h;exact k4 h.2);go_wp2_with fail;refine bp_row2 [iL (f:Int),iL (-1),iL d,.bool false] (.bool true) (below_four a (by omega) _ _ _ _) (four m _ _ _ _) (λ n t=>by simp [results,results205,go_sem,t]) rfl λ n k=>?_;exact⟨((f:Int),(-1),d,false),true,rfl,by rfl,k⟩
  ·have k3:((f:Int) != d - 1)=false:=by simp;omega
   obtain rfl:T=some ((f:Int),-1,d,false):=GS.out (by rintro(h | h);exact k1 h;exact k2 h.1);go_wp2_with fail;refine bp_row2 [iL (f:Int),iL (-1),iL d,.bool false] (.bool true) (below_four a (by omega) _ _ _ _) (four m _ _ _ _) (λ n t=>by simp [results,results205,go_sem,t]) rfl λ n k=>?_;exact⟨((f:Int),(-1),d,false),true,rfl,by rfl,k⟩
theorem step_s (v:Vr) (b:Bd) (hb:Ok v b) (Ao At:Option Addr) (co ct B:Nat) (f:Nat) (d:Int) (hf:(f:Int)<=v.p) (hd:1<=d∧d<=6) (w:World) (hB:B<=w.heap.size) (ho:RdS w B 1 enI Ao b.1) (ht:RdS w B 1 enI At b.2) :
  Calls prog 200 #[vA v,.agg #[.slice Ao b.1.length co,.slice At b.2.length ct],iL (f:Int),iL d] w λ e w'=>StepR ((if over b then none else stepP v b (f:Int) d)) w e w':=by
 have hv:=hb.v1;have N1:=hb.own.len;have N2:=hb.oth.len;have am:=kD hb;have HO:=kD ho;have HT:=kD ht;obtain⟨T,hT⟩:=eX (((if over b then none else stepP v b (f:Int) d)));rw [hT];have ae:=kD hT;have aC:0<=at_ b.1 f:=hb.own.nn f;have az:0<=at_ b.1 v.p.toNat:=hb.own.nn _;have ef:=iW (((f:Int) - d));have ay:v.p<(b.1.length:Int):=by omega
 have aB:(f:Int)<(b.1.length:Int):=by omega
 have ag:f<b.1.length:=by omega
 clear hb ho ht hT;go_enter func200,ntmps200;go_upto_region 1 with fail;refine wp_gen (λ W'=>zB w W'∧RowB W' w.heap.size 25 (vL v)∧RowB W' (w.heap.size+1) 51 [.slice Ao b.1.length co,.slice At b.2.length ct]∧RowB W' (w.heap.size+2) 111 [iL 0,iL 0,iL 0,.bool false]) ⟨by go_grown,((RowB.new _ _ _).alloc _).alloc _,(RowB.new' _ _ _ (by simp)).alloc _,RowB.new' _ _ _ (by simp)⟩ ?_;rintro w1 ⟨E,m,o,I⟩;obtain⟨ov,ah⟩:=eX (over b);have ad:=kD ah;have CO:=kD (λ D (h:zB w D)=>over_s v b am.out Ao At co ct B D (Nat.le_trans hB h.size) (HO.out.below h hB) (HT.out.below h hB) ov ah);clear ah;obtain⟨b1,o1,rfl,av,-⟩:=at_rd (HO.out.below E hB) (i:=f) ag;obtain⟨Q,af⟩:∃ q,(ov || decide (at_ b.1 ((f:Int)).toNat=0∨(0<at_ b.1 v.p.toNat∧(f:Int)≠v.p)))=q:=⟨_,rfl⟩;have P:=kD af;clear af;go_cut [36] from 12 to 36 (λ an wx=>an=.bool Q∧zB w wx∧RowB wx w.heap.size 25 (vL v)∧RowB wx (w.heap.size+1) 51 [.slice (sA b1 o1) b.1.length co,.slice At b.2.length ct]∧RowB wx (w.heap.size+2) 111 [iL 0,iL 0,iL 0,.bool false])
 case first =>
  obtain⟨Y,X,W,V⟩:=m.c4;obtain⟨S,R⟩:=o.c2;obtain⟨y0,y1,y2,y3⟩:=I.c4;have M:=m.lt;have J:=o.lt;have ab:=I.lt;have fr:=I.frozen;go_wp2_with fail;refine(CO.out w1 E).mono ?_;rintro e w2 ⟨rfl,ac⟩;have m:=m.below ac m.lt;have o:=o.below ac o.lt;have I:=I.below ac I.lt;have E:=E.tR ac;clear Y X W V S R y0 y1 y2 y3 M J ab fr ac;obtain⟨Y,X,W,V⟩:=m.c4;obtain⟨S,R⟩:=o.c2;obtain⟨y0,y1,y2,y3⟩:=I.c4;have M:=m.lt;have J:=o.lt;have ab:=I.lt;have fr:=I.frozen
  cases ov
  case true =>
   obtain rfl:Q=true:=by rw [<-P.out];rfl
   go_wp2_with fail;go_meet;exact⟨rfl,E,m,o,I⟩
  have aE:=at_rd' (HO.out.below E hB) (i:=f) ag;have aD:=at_rd' (HO.out.below E hB) (i:=v.p.toNat) (by omega);by_cases g1:at_ b.1 f=0
  ·obtain rfl:Q=true:=by rw [<-P.out];simp [g1]
   have e1:(at_ b.1 f == 0)=true:=by simp [g1]
   clear g1;go_wp2_with fail;go_meet;exact⟨rfl,E,m,o,I⟩
  have e1:(at_ b.1 f == 0)=false:=by simp [g1]
  by_cases g3:0<at_ b.1 v.p.toNat
  ·obtain⟨g2,e2⟩:=eX (((f:Int) != v.p));obtain rfl:Q=g2:=by
    rw [<-P.out,<-e2];by_cases h:(f:Int)=v.p <;> simp [g1,g3,h] <;> omega
   clear g1;go_wp2_with fail;go_meet;exact⟨rfl,E,m,o,I⟩
  ·obtain rfl:Q=false:=by rw [<-P.out];simp [g1,g3]
   clear g1;go_wp2_with fail;go_meet;exact⟨rfl,E,m,o,I⟩
 case rest =>
 obtain⟨rfl,E,m,o,I⟩:=hcut;obtain⟨Y,X,W,V⟩:=m.c4;obtain⟨S,R⟩:=o.c2;obtain⟨y0,y1,y2,y3⟩:=I.c4;have M:=m.lt;have J:=o.lt;have ab:=I.lt;have fr:=I.frozen
 cases Q
 case true =>
  obtain rfl:T=none:=by
   rw [<-ae.out]
   cases ov with
   | true=>rw [ad.out];rfl
   | false=>rw [ad.out];exact step_none1 (of_decide_eq_true P.out)
  go_wp2_with fail;refine bp_row2 [iL 0,iL 0,iL 0,.bool false] (.bool false) (below_four E (by omega) _ _ _ _) (four I _ _ _ _) (λ w8 Z=>by simp [results,results200,go_sem,Z]) rfl λ w8 O=>?_;exact⟨(0,0,0,false),false,rfl,by rfl,O⟩
 cases ov
 case true=>exact absurd P.out (by simp)
 have G:=kD (show ¬ (at_ b.1 ((f:Int)).toNat=0∨(0<at_ b.1 v.p.toNat∧(f:Int)≠v.p)) from of_decide_eq_false P.out);by_cases g5:0<=(f:Int) - d
 ·obtain⟨j,hj⟩:∃ j:Nat,v.p - 1 - ((f:Int) - d)=(j:Int):=⟨(v.p - 1 - ((f:Int) - d)).toNat,by omega⟩;have ej:(v.p - 1 - ((f:Int) - d)).toNat=j:=by omega
  have aj:T=opt (f,f - d,d,decide (at_ b.2 j=1)) (decide (at_ b.2 j<=1)):=by rw [<-ae.out,ad.out];exact(by have:=step_in (v:=v) (b:=b) (f:=(f:Int)) (d:=d) G.out g5;rw [ej] at this;exact this)
  have al:=kD aj;have ao:=kD ej;clear aj ej;obtain⟨bt,ot,rfl,aF,N⟩:=at_rd (HT.out.below E hB) (i:=j) (by omega);have e5:=iW ((v.p - 1));have e6:IntKind.i64.wrap (v.p - 1 - ((f:Int) - d))=(j:Int):=by rw [hj];exact IntWalk.i64_in _ (by omega)
  have e7:=iW ((j:Int));have ar:(j:Int)<v.p+1:=by omega
  have aA:(j:Int)<(b.2.length:Int):=by omega
  have CP:=kD (λ D (h:zB w D)=>open_s v b am.out (sA b1 o1) (sA bt ot) co ct B ((f:Int) - d) (by omega) D (Nat.le_trans hB h.size) (HT.out.below h hB));rw [ao.out] at CP;obtain⟨z,hz⟩:∃ z,decide (at_ b.2 j=1)=z:=⟨_,rfl⟩;have aw:(at_ b.2 j == 1)=z:=by rw [<-hz];rfl
  obtain⟨y,hy⟩:=eX (decide (at_ b.2 j<=1));rw [hz,hy] at al;rw [hy] at CP;clear hz hy;have g4:decide ((f:Int) - d<0)=false:=decide_eq_false (by omega);go_upto_region 5 with fail;clear Y X W V S R y0 y1 y2 y3 M J ab fr N;refine region_fix [some 43,some 44,some 45,some 46,some 47,some 48,some 49,some 50,some 51,some 52,some 53,some 54,some 55,some 56,some 57,some 58,some 59,some 60,none,some 9] (λ j_=>([iL (f:Int),iL ((f:Int) - d),iL d,pT (w.heap.size+1) 1,.slice (sA bt ot) b.2.length ct,pT w.heap.size 0,iL v.p,iL (v.p - 1),iL ((f:Int) - d),iL (j:Int),pT bt (ot+j),iL (at_ b.2 j),.bool z,.agg #[iL (f:Int),iL ((f:Int) - d),iL d,.bool z],vA v,.agg #[.slice (sA b1 o1) b.1.length co,.slice (sA bt ot) b.2.length ct],iL ((f:Int) - d),.bool y,undef,.bool y]:List Value).getD j_ undef) (λ L w'=>zB w w'∧RowB w' w.heap.size 25 (vL v)∧RowB w' (w.heap.size+1) 51 [.slice (sA b1 o1) b.1.length co,.slice (sA bt ot) b.2.length ct]∧(¬ L 18->RowB w' (w.heap.size+2) 111 [iL 0,iL 0,iL 0,.bool false])∧(L 18->RowB w' (w.heap.size+2) 111 [iL (f:Int),iL ((f:Int) - d),iL d,.bool z])) (by kernel_rfl) (by kernel_rfl) (by kernel_rfl) (by kernel_rfl) (by first | kernel_rfl | rfl) (by first | kernel_rfl | rfl) ?hB1 ?hBL1 ?hst1 ?fin1
  case hB1=>exact⟨E.drew,m.drew,o.drew,λ _=>I.drew,λ h=>h.elim⟩
  case hBL1=>exact λ L L' w' h hb=>⟨hb.1,hb.2.1,hb.2.2.1,λ hn=>hb.2.2.2.1 (λ x=>hn ((h 18 (by decide)).1 x)),λ hy=>hb.2.2.2.2 ((h 18 (by decide)).2 hy)⟩
  case hst1 =>
   refine FixFrom.run rfl rfl (λ L A D F t C k K H=>?_) ?_
   ·have e2:A.tmps[2]?.getD undef=iL (f:Int):=C 2 (by decide);clear t C;have m:=k.2.1;have o:=k.2.2.1;have n:=kD k.2.2.2.1;have r:=kD k.2.2.2.2;replace k:=k.1;go_simp;exact H.out D ⟨k,m,o,λ h=>n.out (λ x=>h (Or.inr x)),λ h=>r.out (rL h)⟩
   refine FixFrom.run rfl rfl (λ L A D F t C k K H=>?_) ?_
   ·have ak:A.tmps[10]?.getD undef=iL ((f:Int) - d):=C 10 (by decide);clear t C;have m:=k.2.1;have o:=k.2.2.1;have n:=kD k.2.2.2.1;have r:=kD k.2.2.2.2;replace k:=k.1;go_simp;exact H.out D ⟨k,m,o,λ h=>n.out (λ x=>h (Or.inr x)),λ h=>r.out (rL h)⟩
   refine FixFrom.run rfl rfl (λ L A D F t C k K H=>?_) ?_
   ·have e3:A.tmps[3]?.getD undef=iL d:=C 3 (by decide);clear t C;have m:=k.2.1;have o:=k.2.2.1;have n:=kD k.2.2.2.1;have r:=kD k.2.2.2.2;replace k:=k.1;go_simp;exact H.out D ⟨k,m,o,λ h=>n.out (λ x=>h (Or.inr x)),λ h=>r.out (rL h)⟩
   refine FixFrom.run rfl rfl (λ L A D F t C k K H=>?_) ?_
   ·have e5:A.tmps[5]?.getD undef=pT (w.heap.size+1) 0:=C 5 (by decide);clear t C;have m:=k.2.1;have o:=k.2.2.1;have n:=kD k.2.2.2.1;have r:=kD k.2.2.2.2;replace k:=k.1;have Y:=m.c4.1;have X:=m.c4.2.1;have W:=m.c4.2.2.1;have V:=m.c4.2.2.2;have S:=o.c2.1;have R:=o.c2.2;have M:=m.lt;have J:=o.lt;have N:=at_rd' (HT.out.below k hB) (i:=j) (by omega);go_simp;exact H.out D ⟨k,m,o,λ h=>n.out (λ x=>h (Or.inr x)),λ h=>r.out (rL h)⟩
   refine FixFrom.run rfl rfl (λ L A D F t C k K H=>?_) ?_
   ·have aU:A.tmps[46]?.getD undef=pT (w.heap.size+1) 1:=gu t 3 46;clear t C;have m:=k.2.1;have o:=k.2.2.1;have n:=kD k.2.2.2.1;have r:=kD k.2.2.2.2;replace k:=k.1;have Y:=m.c4.1;have X:=m.c4.2.1;have W:=m.c4.2.2.1;have V:=m.c4.2.2.2;have S:=o.c2.1;have R:=o.c2.2;have M:=m.lt;have J:=o.lt;have N:=at_rd' (HT.out.below k hB) (i:=j) (by omega);go_simp;exact H.out D ⟨k,m,o,λ h=>n.out (λ x=>h (Or.inr x)),λ h=>r.out (rL h)⟩
   refine FixFrom.run rfl rfl (λ L A D F t C k K H=>?_) ?_
   ·have e4:A.tmps[4]?.getD undef=pT w.heap.size 0:=C 4 (by decide);clear t C;have m:=k.2.1;have o:=k.2.2.1;have n:=kD k.2.2.2.1;have r:=kD k.2.2.2.2;replace k:=k.1;have Y:=m.c4.1;have X:=m.c4.2.1;have W:=m.c4.2.2.1;have V:=m.c4.2.2.2;have S:=o.c2.1;have R:=o.c2.2;have M:=m.lt;have J:=o.lt;have N:=at_rd' (HT.out.below k hB) (i:=j) (by omega);go_simp;exact H.out D ⟨k,m,o,λ h=>n.out (λ x=>h (Or.inr x)),λ h=>r.out (rL h)⟩
   refine FixFrom.run rfl rfl (λ L A D F t C k K H=>?_) ?_
   ·have aS:A.tmps[48]?.getD undef=pT w.heap.size 0:=gu t 5 48;clear t C;have m:=k.2.1;have o:=k.2.2.1;have n:=kD k.2.2.2.1;have r:=kD k.2.2.2.2;replace k:=k.1;have Y:=m.c4.1;have X:=m.c4.2.1;have W:=m.c4.2.2.1;have V:=m.c4.2.2.2;have S:=o.c2.1;have R:=o.c2.2;have M:=m.lt;have J:=o.lt;have N:=at_rd' (HT.out.below k hB) (i:=j) (by omega);go_simp;exact H.out D ⟨k,m,o,λ h=>n.out (λ x=>h (Or.inr x)),λ h=>r.out (rL h)⟩
   refine FixFrom.run rfl rfl (λ L A D F t C k K H=>?_) ?_
   ·have aR:A.tmps[49]?.getD undef=iL v.p:=gu t 6 49;clear t C;have m:=k.2.1;have o:=k.2.2.1;have n:=kD k.2.2.2.1;have r:=kD k.2.2.2.2;replace k:=k.1;go_simp;exact H.out D ⟨k,m,o,λ h=>n.out (λ x=>h (Or.inr x)),λ h=>r.out (rL h)⟩
   refine FixFrom.run rfl rfl (λ L A D F t C k K H=>?_) ?_
   ·have ak:A.tmps[10]?.getD undef=iL ((f:Int) - d):=C 10 (by decide);clear t C;have m:=k.2.1;have o:=k.2.2.1;have n:=kD k.2.2.2.1;have r:=kD k.2.2.2.2;replace k:=k.1;go_simp;exact H.out D ⟨k,m,o,λ h=>n.out (λ x=>h (Or.inr x)),λ h=>r.out (rL h)⟩
   refine FixFrom.run rfl rfl (λ L A D F t C k K H=>?_) ?_
   ·have aQ:A.tmps[50]?.getD undef=iL (v.p - 1):=gu t 7 50;have aP:A.tmps[51]?.getD undef=iL ((f:Int) - d):=gu t 8 51;clear t C;have m:=k.2.1;have o:=k.2.2.1;have n:=kD k.2.2.2.1;have r:=kD k.2.2.2.2;replace k:=k.1;go_simp;exact H.out D ⟨k,m,o,λ h=>n.out (λ x=>h (Or.inr x)),λ h=>r.out (rL h)⟩
   refine FixFrom.run rfl rfl (λ L A D F t C k K H=>?_) ?_
   ·have aT:A.tmps[47]?.getD undef=.slice (sA bt ot) b.2.length ct:=gu t 4 47;have aO:A.tmps[52]?.getD undef=iL (j:Int):=gu t 9 52;clear t C;have m:=k.2.1;have o:=k.2.2.1;have n:=kD k.2.2.2.1;have r:=kD k.2.2.2.2;replace k:=k.1;go_simp;exact H.out D ⟨k,m,o,λ h=>n.out (λ x=>h (Or.inr x)),λ h=>r.out (rL h)⟩
   refine FixFrom.run rfl rfl (λ L A D F t C k K H=>?_) ?_
   ·have aN:A.tmps[53]?.getD undef=pT bt (ot+j):=gu t 10 53;clear t C;have m:=k.2.1;have o:=k.2.2.1;have n:=kD k.2.2.2.1;have r:=kD k.2.2.2.2;replace k:=k.1;have Y:=m.c4.1;have X:=m.c4.2.1;have W:=m.c4.2.2.1;have V:=m.c4.2.2.2;have S:=o.c2.1;have R:=o.c2.2;have M:=m.lt;have J:=o.lt;have N:=at_rd' (HT.out.below k hB) (i:=j) (by omega);go_simp;exact H.out D ⟨k,m,o,λ h=>n.out (λ x=>h (Or.inr x)),λ h=>r.out (rL h)⟩
   refine FixFrom.run rfl rfl (λ L A D F t C k K H=>?_) ?_
   ·have aM:A.tmps[54]?.getD undef=iL (at_ b.2 j):=gu t 11 54;clear t C;have m:=k.2.1;have o:=k.2.2.1;have n:=kD k.2.2.2.1;have r:=kD k.2.2.2.2;replace k:=k.1;go_simp;exact H.out D ⟨k,m,o,λ h=>n.out (λ x=>h (Or.inr x)),λ h=>r.out (rL h)⟩
   refine FixFrom.run rfl rfl (λ L A D F t C k K H=>?_) ?_
   ·have aX:A.tmps[43]?.getD undef=iL (f:Int):=gu t 0 43;have aW:A.tmps[44]?.getD undef=iL ((f:Int) - d):=gu t 1 44;have aV:A.tmps[45]?.getD undef=iL d:=gu t 2 45;have aL:A.tmps[55]?.getD undef=.bool z:=gu t 12 55;clear t C;have m:=k.2.1;have o:=k.2.2.1;have n:=kD k.2.2.2.1;have r:=kD k.2.2.2.2;replace k:=k.1;go_simp;exact H.out D ⟨k,m,o,λ h=>n.out (λ x=>h (Or.inr x)),λ h=>r.out (rL h)⟩
   refine FixFrom.run rfl rfl (λ L A D F t C k K H=>?_) ?_
   ·have e4:A.tmps[4]?.getD undef=pT w.heap.size 0:=C 4 (by decide);clear t C;have m:=k.2.1;have o:=k.2.2.1;have n:=kD k.2.2.2.1;have r:=kD k.2.2.2.2;replace k:=k.1;have Y:=m.c4.1;have X:=m.c4.2.1;have W:=m.c4.2.2.1;have V:=m.c4.2.2.2;have S:=o.c2.1;have R:=o.c2.2;have M:=m.lt;have J:=o.lt;have N:=at_rd' (HT.out.below k hB) (i:=j) (by omega);go_simp;exact H.out D ⟨k,m,o,λ h=>n.out (λ x=>h (Or.inr x)),λ h=>r.out (rL h)⟩
   refine FixFrom.run rfl rfl (λ L A D F t C k K H=>?_) ?_
   ·have e5:A.tmps[5]?.getD undef=pT (w.heap.size+1) 0:=C 5 (by decide);clear t C;have m:=k.2.1;have o:=k.2.2.1;have n:=kD k.2.2.2.1;have r:=kD k.2.2.2.2;replace k:=k.1;have Y:=m.c4.1;have X:=m.c4.2.1;have W:=m.c4.2.2.1;have V:=m.c4.2.2.2;have S:=o.c2.1;have R:=o.c2.2;have M:=m.lt;have J:=o.lt;have N:=at_rd' (HT.out.below k hB) (i:=j) (by omega);go_simp;exact H.out D ⟨k,m,o,λ h=>n.out (λ x=>h (Or.inr x)),λ h=>r.out (rL h)⟩
   refine FixFrom.run rfl rfl (λ L A D F t C k K H=>?_) ?_
   ·have ak:A.tmps[10]?.getD undef=iL ((f:Int) - d):=C 10 (by decide);clear t C;have m:=k.2.1;have o:=k.2.2.1;have n:=kD k.2.2.2.1;have r:=kD k.2.2.2.2;replace k:=k.1;go_simp;exact H.out D ⟨k,m,o,λ h=>n.out (λ x=>h (Or.inr x)),λ h=>r.out (rL h)⟩
   refine FixFrom.run rfl rfl (λ L A D F t C k K H=>?_) ?_
   ·have aJ:A.tmps[57]?.getD undef=vA v:=gu t 14 57;have aI:A.tmps[58]?.getD undef=.agg #[.slice (sA b1 o1) b.1.length co,.slice (sA bt ot) b.2.length ct]:=gu t 15 58;have aH:A.tmps[59]?.getD undef=iL ((f:Int) - d):=gu t 16 59;clear t C;have m:=k.2.1;have o:=k.2.2.1;have n:=kD k.2.2.2.1;have r:=kD k.2.2.2.2;replace k:=k.1;go_simp;refine(CP.out D k).mono ?_;rintro e w2 ⟨rfl,aa⟩;exact H.out w2 ⟨k.tR aa,m.below aa m.lt,o.below aa o.lt,λ h=>(n.out (λ x=>h (Or.inr x))).below aa (n.out (λ x=>h (Or.inr x))).lt,λ h=>(r.out (rL h)).below aa (r.out (rL h)).lt⟩
   refine FixFrom.run rfl rfl (λ L A D F t C k K H=>?_) ?_
   ·have e8:A.tmps[8]?.getD undef=pT (w.heap.size+2) 0:=C 8 (by decide);have aK:A.tmps[56]?.getD undef=.agg #[iL (f:Int),iL ((f:Int) - d),iL d,.bool z]:=gu t 13 56;clear t C;have m:=k.2.1;have o:=k.2.2.1;have n:=kD k.2.2.2.1;have r:=kD k.2.2.2.2;replace k:=k.1;have Y:=m.c4.1;have X:=m.c4.2.1;have W:=m.c4.2.2.1;have V:=m.c4.2.2.2;have S:=o.c2.1;have R:=o.c2.2;have M:=m.lt;have J:=o.lt;have N:=at_rd' (HT.out.below k hB) (i:=j) (by omega);have I:=n.out F;have y0:=I.c4.1;have y1:=I.c4.2.1;have y2:=I.c4.2.2.1;have y3:=I.c4.2.2.2;have ab:=I.lt;have fr:=I.frozen;go_simp;exact H.out _ ⟨below_four k (by omega) _ _ _ _,oth4 m (by omega) _ _ _ _,oth4 o (by omega) _ _ _ _,λ h=>absurd (Or.inl rfl) h,λ _=>four (n.out F) _ _ _ _⟩
   refine FixFrom.run rfl rfl (λ L A D F t C k K H=>?_) ?_
   ·have aG:A.tmps[60]?.getD undef=.bool y:=gu t 17 60;clear t C;have m:=k.2.1;have o:=k.2.2.1;have n:=kD k.2.2.2.1;have r:=kD k.2.2.2.2;replace k:=k.1;go_simp;exact H.out D ⟨k,m,o,λ h=>n.out (λ x=>h (Or.inr x)),λ h=>r.out (rL h)⟩
   exact FixFrom.nil (by decide)
  case fin1 =>
   intro D k;simp only [Fr,Act.put,sX,Nat.reduceAdd,List.getD_cons_zero,List.getD_cons_succ];have E:=k.1;have Z:=k.2.2.2.2 trivial;obtain⟨z0,z1,z2,z3⟩:=Z.c4;have HR:Hid (opt (f,f - d,d,z) y=T):=kD (by rw [al.out]);clear k;go_wp2_with fail;refine bodyPost_ret (v:=.tuple #[.agg #[iL (f:Int),iL ((f:Int) - d),iL d,.bool z],.bool y]) (by simp [results,results200,go_sem,z0,z1,z2,z3]) rfl ?_;exact⟨((f:Int),(f:Int) - d,d,z),y,rfl,HR.out,E⟩
 ·have ax:(f:Int) - d<0:=by omega
  have CL:=kD (λ D (h:zB w D)=>last_s (sA b1 o1) co B b.1 D (HO.out.below h hB) (by omega));obtain⟨l,hl⟩:=eX (last b.1);have ai:=lastU_bd b.1 b.1.length;rw [show lastU b.1 b.1.length=last b.1 from rfl,hl] at ai;obtain⟨aq,ap⟩:=ai;have HL:=kD hl;rw [hl] at CL;clear hl;have GN:=kD (show (v.h<=l∨((f:Int) - d < -1∧(f:Int)<l))->T=none from λ h=>by rw [<-ae.out,ad.out];exact step_none3 g5 (by rw [HL.out];exact h));have GS:=kD (show ¬ (v.h<=l∨((f:Int) - d < -1∧(f:Int)<l))->T=some ((f:Int),-1,d,false) from λ h=>by rw [<-ae.out,ad.out];exact step_off G.out g5 (by rw [HL.out];exact h));go_wp2_with fail;refine(CL.out _ E).mono ?_;rintro e w2 ⟨rfl,rfl⟩;by_cases k1:v.h<=l
  ·obtain rfl:T=none:=GN.out (.inl k1);go_wp2_with fail;refine bp_row2 [iL 0,iL 0,iL 0,.bool false] (.bool false) (below_four E (by omega) _ _ _ _) (four I _ _ _ _) (λ w8 Z=>by simp [results,results200,go_sem,Z]) rfl λ w8 O=>?_;exact⟨(0,0,0,false),false,rfl,by rfl,O⟩
  by_cases k2:(f:Int) - d < -1
  ·have k3:decide ((f:Int) - d < -1)=true:=decide_eq_true k2;by_cases k4:(f:Int)<l
   ·obtain rfl:T=none:=GN.out (.inr ⟨k2,k4⟩);go_wp2_with fail;refine bp_row2 [iL 0,iL 0,iL 0,.bool false] (.bool false) (below_four E (by omega) _ _ _ _) (four I _ _ _ _) (λ w8 Z=>by simp [results,results200,go_sem,Z]) rfl λ w8 O=>?_;exact⟨(0,0,0,false),false,rfl,by rfl,O⟩
   ·obtain rfl:T=some ((f:Int),-1,d,false):=GS.out (by rintro(h | h);exact k1 h;exact k4 h.2);go_wp2_with fail;refine bp_row2 [iL (f:Int),iL (-1),iL d,.bool false] (.bool true) (below_four E (by omega) _ _ _ _) (four I _ _ _ _) (λ w8 Z=>by simp [results,results200,go_sem,Z]) rfl λ w8 O=>?_;exact⟨((f:Int),(-1),d,false),true,rfl,by rfl,O⟩
  ·have k3:decide ((f:Int) - d < -1)=false:=decide_eq_false k2;obtain rfl:T=some ((f:Int),-1,d,false):=GS.out (by rintro(h | h);exact k1 h;exact k2 h.1);go_wp2_with fail;refine bp_row2 [iL (f:Int),iL (-1),iL d,.bool false] (.bool true) (below_four E (by omega) _ _ _ _) (four I _ _ _ _) (λ w8 Z=>by simp [results,results200,go_sem,Z]) rfl λ w8 O=>?_;exact⟨((f:Int),(-1),d,false),true,rfl,by rfl,O⟩
end Bd4
namespace Bd5
open Go.ChangeShapes Go.WideShapes Go.ChangeAt Go.RowKit Base Ints Own Clone RelG PlP Bd1 Bd2 Bd4
def StepsR (ss:List Stp) (w:World) (e:Ending) (w':World):Prop :=
 ∃ vv,e=.returned vv∧OwnS w' w.heap.size w'.heap.size 111 4 enSt vv ss∧zB w w'
theorem opt_list {s:Stp} {ok:Bool} {t:Option Stp} (h:opt s ok=t):t.toList=if ok=true then [s] else []:=by
 subst h;unfold opt;cases ok <;> rfl
theorem lgU_step (v:Vr) (b:Bd) (d:Int) {P k f:Nat} (hP:v.p=(P:Int)) (h:f+k=P):lgU v b d (k+1)=lgU v b d k++(stepP v b (f:Int) d).toList:=by
 simp only [lgU];rw [show v.p - (k:Int)=(f:Int) from by omega]
def lgX (v:Vr) (b:Bd) (d:Int):Nat->List Stp
 | 0=>[]
 | k+1=>lgX v b d k++((if over b then none else stepP v b (v.p - (k:Int)) d):Option Stp).toList
theorem lgX_step (v:Vr) (b:Bd) (d:Int) {P k f:Nat} (hP:v.p=(P:Int)) (h:f+k=P):lgX v b d (k+1)=lgX v b d k++((if over b then none else stepP v b (f:Int) d):Option Stp).toList:=by
 simp only [lgX];rw [show v.p - (k:Int)=(f:Int) from by omega]
theorem lgX_end (v:Vr) (b:Bd) (d:Int):∀ k,lgX v b d k=if over b=true then [] else lgU v b d k:=by
 intro k
 induction k with
 | zero=>simp [lgX,lgU]
 | succ k ih=>simp only [lgX,lgU,ih];split <;> simp
theorem legal_i (v:Vr) (b:Bd) (hb:Ok v b) (Ao At:Option Addr) (co ct B:Nat) (d:Int) (hd:1<=d∧d<=6) (w:World) (hB:B<=w.heap.size) (ho:RdS w B 1 enI Ao b.1) (ht:RdS w B 1 enI At b.2) :
  Calls prog 207 #[vA v,.agg #[.slice Ao b.1.length co,.slice At b.2.length ct],iL d] w λ e w'=>StepsR (legalP v b d) w e w':=by
 obtain⟨i4,ag,ac,ab,aa⟩:=info_parts infoSt;have hv:=hb.v1;have HO:=kD ho;have HT:=kD ht;obtain⟨P,hP⟩:∃ P:Nat,v.p=(P:Int):=⟨v.p.toNat,by omega⟩;have HP:=kD hP;have aj:P<=24:=by omega
 obtain⟨ov,z⟩:=eX (over b);have ap:=kD z;have W:legalP v b d=if ov=true then [] else lgU v b d (P+1):=by unfold legalP;rw [z,show v.p.toNat=P from by omega]
 have H:=kD W;obtain⟨LG,hL⟩:=eX (legalP v b d);rw [hL] at H ⊢;have CS:=kD (λ(f:Nat) (hf:f<=P) (O:World) (h:zB w O)=>step_i v b hb Ao At co ct B f d (by omega) hd O (Nat.le_trans hB h.size) (HO.out.below h hB) (HT.out.below h hB));have CO:=kD (λ(O:World) (h:zB w O)=>over_i v b hb Ao At co ct B O (Nat.le_trans hB h.size) (HO.out.below h hB) (HT.out.below h hB) ov z);clear hb ho ht z W hL hP;go_enter func207,ntmps207;go_upto_region 1 with fail;refine wp_gen (λ W'=>zB w W'∧RowB W' w.heap.size 25 (vL v)∧RowB W' (w.heap.size+1) 51 [.slice Ao b.1.length co,.slice At b.2.length ct]) ⟨by go_grown,(RowB.new _ _ _).alloc _,RowB.new' _ _ _ (by simp)⟩ ?_;rintro w1 ⟨y,j,m⟩;obtain⟨N,M,L,K⟩:=j.c4;obtain⟨J,I⟩:=m.c2;have t:=j.lt;have r:=m.lt;go_wp2_with fail;refine(CO.out w1 y).mono ?_;rintro e w2 ⟨rfl,C⟩;have j:=j.below C j.lt;have m:=m.below C m.lt;have y:=y.tR C;clear N M L K J I t r C;obtain⟨N,M,L,K⟩:=j.c4;obtain⟨J,I⟩:=m.c2;have t:=j.lt;have r:=m.lt
 cases ov
 case true =>
  obtain rfl:LG=[]:=by rw [H.out];rfl
  go_wp2_with fail;go_ret;exact⟨_,rfl,OwnS.nil_ _ _ _ _ _ _,y⟩
 have ah:Hid (lgU v b d (P+1)=LG):=kD (by rw [H.out];rfl);have an:Hid (∀ f:Int,(stepP v b f d)=stepP v b f d):=kD (λ _=>rfl);go_wp2_with fail;go_loopw [7,8] (λ vl i wr=>∃(o k:Nat),o+k=P+1∧i=iL ((o:Int) - 1)∧Hid (zB w wr)∧RowB wr w.heap.size 25 (vL v)∧RowB wr (w.heap.size+1) 51 [.slice Ao b.1.length co,.slice At b.2.length ct]∧Hid (OwnS wr (w.heap.size+2) wr.heap.size 111 4 enSt vl (lgU v b d k))∧Hid ((lgU v b d k).length<=k)) (λ _ i _=>(intOf i+1).toNat)
 case atStart=>exact⟨P+1,0,by omega,by rw [HP.out,show (((P+1:Nat):Int) - 1)=(P:Int) from by omega],kD y,j,m,kD (OwnS.nil_ _ _ _ _ _ _),kD (by show ([]:List Stp).length<=0;simp)⟩
 case round =>
  obtain⟨o,k,ao,rfl,hb,j,m,ho,S⟩:=hrel;clear N M L K J I t r;obtain⟨N,M,L,K⟩:=j.c4;obtain⟨J,I⟩:=m.c2;have t:=j.lt;have r:=m.lt;by_cases hF:0<o
  ·obtain⟨f,rfl⟩:∃ f,o=f+1:=⟨o - 1,by omega⟩;have ef:(((f+1:Nat):Int) - 1)=(f:Int):=by omega
   rw [ef];obtain⟨Av,cv,ad,_⟩:=ho.out.form enSt_len;have ak:w.heap.size+2<=wr.heap.size:=by omega
   have Y:=kD (lgU_step v b d (P:=P) (k:=k) (f:=f) HP.out (by omega));clear ef;subst ad;go_wp2_with fail;refine(CS.out f (by omega) wr hb.out).mono ?_;rintro e w5 ⟨s,ok,rfl,D,n⟩;have F:=kD (opt_list D);clear D;have j:=j.below n j.lt;have m:=m.below n m.lt;have ho:=kD ((ho.out.below n (Nat.le_refl _)).more n.size);have x:=kD (hb.out.tR n);have al:=n.size;clear hb n N M L K J I t r;obtain⟨N,M,L,K⟩:=j.c4;obtain⟨J,I⟩:=m.c2;have t:=j.lt;have r:=m.lt;have am:=S.out
   cases ok
   case false =>
    have X:Hid (lgU v b d (k+1)=lgU v b d k):=kD (by rw [Y.out,F.out];simp);go_wp2_with fail;go_roundw
    case rel=>exact⟨f,k+1,by omega,by first | rfl | trivial | go_num,kD (x.out.alloc x.out.size _),j.alloc _,m.alloc _,kD (by rw [X.out];exact(ho.out.alloc _).more (by simp)),kD (by rw [X.out];omega)⟩
    case measure=>simp [intOf] <;> omega
   case true =>
    have X:Hid (lgU v b d (k+1)=lgU v b d k++[s]):=kD (by rw [Y.out,F.out];simp);have af:=kD (show (lgU v b d (k+1)).length<=k+1 from by rw [X.out,List.length_append];simp;omega);go_wp2_with (at_builtin;refine wpL_app rfl _ _ _ rfl (w.heap.size+2) _ 111 i4 (.agg #[iL 0,iL 0,iL 0,.bool false]) 4 32 Tryz.underlying26 ag ac ab aa rfl (by decide) enSt_len one_St (.slice Av (lgU v b d k).length cv) (lgU v b d k) [s] rfl ((ho.out.alloc _).alloc _) ⟨(w5.alloc (.cells #[iL s.1,iL s.2.1,iL s.2.2.1,.bool s.2.2.2] 111)).heap.size,0,none⟩ 1 1 (by first | rfl | (simp;rfl) | (simp [go_sem];done)) rfl (news_new (RowB.new _ _ _)) (by decide) ?c1 ?c2 ?c3 ?_)
    case c1=>unfold maxLen;omega
    case c2=>omega
    case c3=>go_size
    intro k2 c2 Z R T V ai;have q:∀ g,(Value.slice Av (lgU v b d k).length cv).ownBlock=some g->w.heap.size+2<=g:=λ g G=>(ho.out.block g G).1
    have A:w5.grownBy Z (Value.slice Av (lgU v b d k).length cv).ownBlock:=below_grown (w:=w5) (by go_grown) T;have j:=j.grown A (λ g G=>by have:=q g G;omega);have m:=m.grown A (λ g G=>by have:=q g G;omega);have x:=kD (x.out.grown A x.out.size (λ g G=>by have:=q g G;omega));have ae:=kD (show OwnS Z (w.heap.size+2) Z.heap.size 111 4 enSt (.slice (sA k2 0) ((lgU v b d k).length+1) c2) (lgU v b d (k+1)) from by rw [X.out];exact R);clear T A V R q;go_wp2_with fail;go_roundw
    case rel=>exact⟨f,k+1,by omega,by first | rfl | trivial | go_num,x,j,m,ae,af⟩
    case measure=>simp [intOf] <;> omega
  ·obtain rfl:o=0:=by omega
   obtain rfl:k=P+1:=by omega
   have E:lgU v b d (P+1)=LG:=ah.out;have Q:=kD ho.out;rw [E] at Q;clear E;go_wp2_with fail;go_ret;exact⟨_,rfl,Q.out.less (by omega),hb.out⟩
theorem legal_s (v:Vr) (b:Bd) (hb:Ok v b) (Ao At:Option Addr) (co ct B:Nat) (d:Int) (hd:1<=d∧d<=6) (w:World) (hB:B<=w.heap.size) (ho:RdS w B 1 enI Ao b.1) (ht:RdS w B 1 enI At b.2) :
  Calls prog 178 #[vA v,.agg #[.slice Ao b.1.length co,.slice At b.2.length ct],iL d] w λ e w'=>StepsR (legalP v b d) w e w':=by
 obtain⟨i4,ag,ac,ab,aa⟩:=info_parts infoSt;have hv:=hb.v1;have HO:=kD ho;have HT:=kD ht;obtain⟨P,hP⟩:∃ P:Nat,v.p=(P:Int):=⟨v.p.toNat,by omega⟩;have HP:=kD hP;have ak:P<=24:=by omega
 obtain⟨ov,t⟩:=eX (over b);have ai:=kD t;have M:legalP v b d=if ov=true then [] else lgU v b d (P+1):=by unfold legalP;rw [t,show v.p.toNat=P from by omega]
 have Q:=kD M;obtain⟨LG,hL⟩:=eX (legalP v b d);rw [hL] at Q ⊢;have CS:=kD (λ(f:Nat) (hf:f<=P) (F:World) (h:zB w F)=>step_s v b hb Ao At co ct B f d (by omega) hd F (Nat.le_trans hB h.size) (HO.out.below h hB) (HT.out.below h hB));have CO:=kD (λ(F:World) (h:zB w F)=>over_i v b hb Ao At co ct B F (Nat.le_trans hB h.size) (HO.out.below h hB) (HT.out.below h hB) ov t);clear hb ho ht t M hL hP;go_enter func178,ntmps178;go_upto_region 1 with fail;refine wp_gen (λ W'=>zB w W'∧RowB W' w.heap.size 25 (vL v)∧RowB W' (w.heap.size+1) 51 [.slice Ao b.1.length co,.slice At b.2.length ct]) ⟨by go_grown,(RowB.new _ _ _).alloc _,RowB.new' _ _ _ (by simp)⟩ ?_;rintro w1 ⟨K,j,m⟩;obtain⟨X,W,V,T⟩:=j.c4;obtain⟨S,R⟩:=m.c2;have y:=j.lt;have x:=m.lt;have ah:Hid ((if ov=true then [] else lgU v b d (P+1))=LG):=kD (by rw [Q.out]);go_wp2_with fail;go_loopw [7,8] (λ vl i wr=>∃(o k:Nat),o+k=P+1∧i=iL ((o:Int) - 1)∧Hid (zB w wr)∧RowB wr w.heap.size 25 (vL v)∧RowB wr (w.heap.size+1) 51 [.slice Ao b.1.length co,.slice At b.2.length ct]∧Hid (OwnS wr (w.heap.size+2) wr.heap.size 111 4 enSt vl (lgX v b d k))∧Hid ((lgX v b d k).length<=k)) (λ _ i _=>(intOf i+1).toNat)
 case atStart=>exact⟨P+1,0,by omega,by rw [HP.out,show (((P+1:Nat):Int) - 1)=(P:Int) from by omega],kD (by first | exact K.alloc K.size _ | go_grown),j.alloc _,m.alloc _,kD (by rw [show lgX v b d 0=[] from rfl];exact(RowB.new _ _ []).own (xs:=([]:List Stp)) (en:=enSt) enSt_len (by omega) (by simp) (by decide)),kD (by show ([]:List Stp).length<=0;simp)⟩
 case round =>
  obtain⟨o,k,ao,rfl,hb,j,m,ho,I⟩:=hrel;clear X W V T S R y x;obtain⟨X,W,V,T⟩:=j.c4;obtain⟨S,R⟩:=m.c2;have y:=j.lt;have x:=m.lt;by_cases hF:0<o
  ·obtain⟨f,rfl⟩:∃ f,o=f+1:=⟨o - 1,by omega⟩;have ef:(((f+1:Nat):Int) - 1)=(f:Int):=by omega
   rw [ef];obtain⟨Av,cv,ad,_⟩:=ho.out.form enSt_len;have al:w.heap.size+2<=wr.heap.size:=by omega
   have O:=kD (lgX_step v b d (P:=P) (k:=k) (f:=f) HP.out (by omega));clear ef;subst ad;go_wp2_with fail;refine(CS.out f (by omega) wr hb.out).mono ?_;rintro e Z ⟨s,ok,rfl,A,n⟩;have D:=kD (opt_list A);clear A;have j:=j.below n j.lt;have m:=m.below n m.lt;have ho:=kD ((ho.out.below n (Nat.le_refl _)).more n.size);have r:=kD (hb.out.tR n);have am:=n.size;clear hb n X W V T S R y x;obtain⟨X,W,V,T⟩:=j.c4;obtain⟨S,R⟩:=m.c2;have y:=j.lt;have x:=m.lt;have an:=I.out
   cases ok
   case false =>
    have N:Hid (lgX v b d (k+1)=lgX v b d k):=kD (by rw [O.out,D.out];simp);go_wp2_with fail;go_roundw
    case rel=>exact⟨f,k+1,by omega,by first | rfl | trivial | go_num,kD (r.out.alloc r.out.size _),j.alloc _,m.alloc _,kD (by rw [N.out];exact(ho.out.alloc _).more (by simp)),kD (by rw [N.out];omega)⟩
    case measure=>simp [intOf] <;> omega
   case true =>
    have N:Hid (lgX v b d (k+1)=lgX v b d k++[s]):=kD (by rw [O.out,D.out];simp);have af:=kD (show (lgX v b d (k+1)).length<=k+1 from by rw [N.out,List.length_append];simp;omega);go_wp2_with (at_builtin;refine wpL_app rfl _ _ _ rfl (w.heap.size+2) _ 111 i4 (.agg #[iL 0,iL 0,iL 0,.bool false]) 4 32 Tryz.underlying26 ag ac ab aa rfl (by decide) enSt_len one_St (.slice Av (lgX v b d k).length cv) (lgX v b d k) [s] rfl ((ho.out.alloc _).alloc _) ⟨(Z.alloc (.cells #[iL s.1,iL s.2.1,iL s.2.2.1,.bool s.2.2.2] 111)).heap.size,0,none⟩ 1 1 (by first | rfl | (simp;rfl) | (simp [go_sem];done)) rfl (news_new (RowB.new _ _ _)) (by decide) ?c1 ?c2 ?c3 ?_)
    case c1=>unfold maxLen;omega
    case c2=>omega
    case c3=>go_size
    intro k2 c2 Y H J L aj;have q:∀ g,(Value.slice Av (lgX v b d k).length cv).ownBlock=some g->w.heap.size+2<=g:=λ g E=>(ho.out.block g E).1
    have z:Z.grownBy Y (Value.slice Av (lgX v b d k).length cv).ownBlock:=below_grown (w:=Z) (by go_grown) J;have j:=j.grown z (λ g E=>by have:=q g E;omega);have m:=m.grown z (λ g E=>by have:=q g E;omega);have r:=kD (r.out.grown z r.out.size (λ g E=>by have:=q g E;omega));have ae:=kD (show OwnS Y (w.heap.size+2) Y.heap.size 111 4 enSt (.slice (sA k2 0) ((lgX v b d k).length+1) c2) (lgX v b d (k+1)) from by rw [N.out];exact H);clear J z L H q;go_wp2_with fail;go_roundw
    case rel=>exact⟨f,k+1,by omega,by first | rfl | trivial | go_num,r,j,m,ae,af⟩
    case measure=>simp [intOf] <;> omega
  ·obtain rfl:o=0:=by omega
   obtain rfl:k=P+1:=by omega
   have C:lgX v b d (P+1)=LG:=(by rw [<-ah.out,<-ai.out];exact lgX_end v b d _);have G:=kD ho.out;rw [C] at G;clear C;go_wp2_with fail;go_ret;exact⟨_,rfl,G.out.less (by omega),hb.out⟩
end Bd5
namespace Bd6
open Go.ChangeShapes Go.WideShapes Go.ChangeAt Go.RowKit Base Ints Own Clone RelG PlP Bd1 RegInv
def BoardR (l m:List Int) (w:World) (e:Ending) (w':World):Prop :=
 ∃(A1:Option Addr) (c1:Nat) (A2:Option Addr) (c2:Nat),e=.returned (.agg #[.slice A1 l.length c1,.slice A2 m.length c2])∧OwnS w' w.heap.size w'.heap.size 2 1 enI (.slice A1 l.length c1) l∧OwnS w' w.heap.size w'.heap.size 2 1 enI (.slice A2 m.length c2) m∧Own.Apart (.slice A1 l.length c1) (.slice A2 m.length c2)∧zB w w'
theorem two_ {W:World} {g:Nat} {t:TypeId} {a b:Value} (h:RowB W g t [a,b]) (u v:Value):RowB ((W.setCell ⟨g,0,none⟩ u).setCell ⟨g,1,none⟩ v) g t [u,v]:=(h.set 0 u).set 1 v
theorem below_two {B:Nat} {w W:World} (h:Below B w W) {g:Nat} (hg:B<=g) (u v:Value):Below B w ((W.setCell ⟨g,0,none⟩ u).setCell ⟨g,1,none⟩ v) :=
 (h.setCell (p:=⟨g,0,none⟩) hg _).setCell (p:=⟨g,1,none⟩) hg _
theorem oth2 {W:World} {g g':Nat} {t:TypeId} {cs:List Value} (h:RowB W g t cs) (hn:g≠g') (u v:Value):RowB ((W.setCell ⟨g',0,none⟩ u).setCell ⟨g',1,none⟩ v) g t cs:=(h.other (p:=⟨g',0,none⟩) hn _).other (p:=⟨g',1,none⟩) hn _
theorem own2 {w:World} {lo hi:Nat} {v:Value} {xs:List Int} (h:OwnS w lo hi 2 1 enI v xs) {g:Nat} (hg:g<lo) (a b:Value):OwnS ((w.setCell ⟨g,0,none⟩ a).setCell ⟨g,1,none⟩ b) lo hi 2 1 enI v xs :=
 (h.setCell (p:=⟨g,0,none⟩) hg _).setCell (p:=⟨g,1,none⟩) hg _
structure ClF_clone_i (w:World) (g1 g2:Nat) (Ao At:Option Addr) (co ct:Nat) (l m:List Int) (L:Nat->Prop) (v3 v4 v5 v6 v7 v8 v9:Value) (w':World):Prop where
 bel:zB w w'
 rb:RowB w' g1 51 [.slice Ao l.length co,.slice At m.length ct]
 rr:¬ L 7->RowB w' g2 51 [.slice none 0 0,.slice none 0 0]
 ge:g1=w.heap.size∧g2=w.heap.size+1∧w.heap.size+2<=w'.heap.size
 f0:L 0->v3=pT g1 0
 f1:L 1->v4=.slice Ao l.length co
 f2:L 2->∃(A1:Option Addr) (c1:Nat),v5=.slice A1 l.length c1∧OwnS w' (w.heap.size+2) w'.heap.size 2 1 enI (.slice A1 l.length c1) l
 f3:L 3->v6=pT g1 1
 f4:L 4->v7=.slice At m.length ct
 f5:L 5->(∃(A1:Option Addr) (c1:Nat),v8=.slice A1 m.length c1∧OwnS w' (w.heap.size+2) w'.heap.size 2 1 enI (.slice A1 m.length c1) m)∧(L 2->Own.Apart v5 v8)
 f6:L 6->v9=.agg #[v5,v8]
 f7:L 7->RowB w' g2 51 [v5,v8]
theorem clone_i (l m:List Int) (Ao At:Option Addr) (co ct B:Nat) (w:World) (hB:B<=w.heap.size) (ho:RdS w B 1 enI Ao l) (ht:RdS w B 1 enI At m) (hA:Ao=none->co=0) (hT:At=none->ct=0) (hl:l.length<=1000) (hm:m.length<=1000) :
  Calls prog 170 #[.agg #[.slice Ao l.length co,.slice At m.length ct]] w λ e w'=>BoardR l m w e w':=by
 have V:=kD (λ(M:World) (h:zB w M)=>clone Ao co B l M (Nat.le_trans hB h.size) (ho.below h hB) hA (by omega));have T:=kD (λ(M:World) (h:zB w M)=>clone At ct B m M (Nat.le_trans hB h.size) (ht.below h hB) hT (by omega));clear ho ht;go_enter func170,ntmps170;go_upto_region 1 with fail;refine wp_gen (λ Z=>zB w Z∧RowB Z w.heap.size 51 [.slice Ao l.length co,.slice At m.length ct]∧RowB Z (w.heap.size+1) 51 [.slice none 0 0,.slice none 0 0]) ⟨by go_grown,(RowB.new _ _ _).alloc _,RowB.new' _ _ _ (by simp)⟩ ?_;rintro w1 ⟨Y,rb,G⟩;refine region_inv (λ a0 L a w'=>∃ q p i o n g j:Value,a=(((((((a0.put (some 3) q).put (some 4) p).put (some 5) i).put (some 6) o).put (some 7) n).put (some 8) g).put (some 9) j)∧ClF_clone_i w w.heap.size (w.heap.size+1) Ao At co ct l m L q p i o n g j w') (by kernel_rfl) (by kernel_rfl) ?h0 ?hst ?fin
 case h0 =>
  exact⟨_,_,_,_,_,_,_,by simp only [Act.put,sX];exact rfl,⟨Y.drew,rb.drew,λ _=>G.drew,⟨rfl,rfl,G.lt⟩,λ h=>(h:False).elim,λ h=>(h:False).elim,λ h=>(h:False).elim,λ h=>(h:False).elim,λ h=>(h:False).elim,λ h=>(h:False).elim,λ h=>(h:False).elim,λ h=>(h:False).elim⟩⟩
 case hst =>
  refine StepsFrom.cons rfl (λ L a w' t c b d K s=>?_) ?_
  ·obtain⟨q,p,i,o,n,g,j,r,F⟩:=t;subst r;simp only [Act.put,sX];go_simp;exact s.out _ _ ⟨_,p,i,o,n,g,j,by simp only [Act.put,sX],⟨F.bel,F.rb,λ h=>F.rr (λ x=>h (Or.inr x)),F.ge,λ _=>rfl,λ h=>F.f1 (rL h),λ h=>F.f2 (rL h),λ h=>F.f3 (rL h),λ h=>F.f4 (rL h),λ h=>⟨(F.f5 (rL h)).1,λ f=>(F.f5 (rL h)).2 (rL f)⟩,λ h=>F.f6 (rL h),λ h=>F.f7 (rL h)⟩⟩
  refine StepsFrom.cons rfl (λ L a w' t c b d K s=>?_) ?_
  ·obtain⟨q,p,i,o,n,g,j,r,F⟩:=t;have r0:=F.rb.c2.1;have r1:=F.rb.c2.2;have hl:=F.rb.lt;have e3:=F.f0 (bK b 0);subst r;simp only [Act.put,sX,e3];go_simp;exact s.out _ _ ⟨q,_,i,o,n,g,j,by simp only [Act.put,sX,e3],⟨F.bel,F.rb,λ h=>F.rr (λ x=>h (Or.inr x)),F.ge,λ h=>F.f0 (rL h),λ _=>rfl,λ h=>F.f2 (rL h),λ h=>F.f3 (rL h),λ h=>F.f4 (rL h),λ h=>⟨(F.f5 (rL h)).1,λ f=>(F.f5 (rL h)).2 (rL f)⟩,λ h=>F.f6 (rL h),λ h=>F.f7 (rL h)⟩⟩
  refine StepsFrom.cons rfl (λ L a w' t c b d K s=>?_) ?_
  ·obtain⟨q,p,i,o,n,g,j,r,F⟩:=t;have e4:=F.f1 (bK b 1);have Q:=F.ge;have y:=F.bel.size;have P:=F.rb.lt;subst r;simp only [Act.put,sX,e4];go_simp;refine(V.out w' F.bel).mono ?_;rintro e w2 ⟨⟨vv,rfl,ho⟩,z⟩;obtain⟨O,N,rfl,-⟩:=ho.form enI_len;exact s.out _ _ ⟨q,p,_,o,n,g,j,by simp only [Act.put,sX,e4],⟨F.bel.tR z,F.rb.below z F.rb.lt,λ h=>(F.rr (λ x=>h (Or.inr x))).below z (F.rr (λ x=>h (Or.inr x))).lt,⟨F.ge.1,F.ge.2.1,Nat.le_trans F.ge.2.2 z.size⟩,λ h=>F.f0 (rL h),λ h=>F.f1 (rL h),λ _=>⟨O,N,rfl,ho.less (by omega)⟩,λ h=>F.f3 (rL h),λ h=>F.f4 (rL h),λ h=>by obtain⟨⟨D,C,E,f⟩,W⟩:=F.f5 (rL h);exact⟨⟨D,C,E,(f.below z (Nat.le_refl _)).more z.size⟩,λ _=>by rw [E];exact λ k X J=>by have:=f.2 k J;have:=(ho.block k X).1;omega⟩,λ h=>absurd (d 6 2 (by kernel_rfl) (rL h)) c,λ h=>absurd (d 7 2 (by kernel_rfl) (rL h)) c⟩⟩
  refine StepsFrom.cons rfl (λ L a w' t c b d K s=>?_) ?_
  ·obtain⟨q,p,i,o,n,g,j,r,F⟩:=t;subst r;simp only [Act.put,sX];go_simp;exact s.out _ _ ⟨q,p,i,_,n,g,j,by simp only [Act.put,sX],⟨F.bel,F.rb,λ h=>F.rr (λ x=>h (Or.inr x)),F.ge,λ h=>F.f0 (rL h),λ h=>F.f1 (rL h),λ h=>F.f2 (rL h),λ _=>rfl,λ h=>F.f4 (rL h),λ h=>⟨(F.f5 (rL h)).1,λ f=>(F.f5 (rL h)).2 (rL f)⟩,λ h=>F.f6 (rL h),λ h=>F.f7 (rL h)⟩⟩
  refine StepsFrom.cons rfl (λ L a w' t c b d K s=>?_) ?_
  ·obtain⟨q,p,i,o,n,g,j,r,F⟩:=t;have r0:=F.rb.c2.1;have r1:=F.rb.c2.2;have hl:=F.rb.lt;have e6:=F.f3 (bK b 3);subst r;simp only [Act.put,sX,e6];go_simp;exact s.out _ _ ⟨q,p,i,o,_,g,j,by simp only [Act.put,sX,e6],⟨F.bel,F.rb,λ h=>F.rr (λ x=>h (Or.inr x)),F.ge,λ h=>F.f0 (rL h),λ h=>F.f1 (rL h),λ h=>F.f2 (rL h),λ h=>F.f3 (rL h),λ _=>rfl,λ h=>⟨(F.f5 (rL h)).1,λ f=>(F.f5 (rL h)).2 (rL f)⟩,λ h=>F.f6 (rL h),λ h=>F.f7 (rL h)⟩⟩
  refine StepsFrom.cons rfl (λ L a w' t c b d K s=>?_) ?_
  ·obtain⟨q,p,i,o,n,g,j,r,F⟩:=t;have e7:=F.f4 (bK b 4);have Q:=F.ge;have y:=F.bel.size;have P:=F.rb.lt;subst r;simp only [Act.put,sX,e7];go_simp;refine(T.out w' F.bel).mono ?_;rintro e w2 ⟨⟨vv,rfl,ho⟩,z⟩;obtain⟨O,N,rfl,-⟩:=ho.form enI_len;exact s.out _ _ ⟨q,p,i,o,n,_,j,by simp only [Act.put,sX,e7],⟨F.bel.tR z,F.rb.below z F.rb.lt,λ h=>(F.rr (λ x=>h (Or.inr x))).below z (F.rr (λ x=>h (Or.inr x))).lt,⟨F.ge.1,F.ge.2.1,Nat.le_trans F.ge.2.2 z.size⟩,λ h=>F.f0 (rL h),λ h=>F.f1 (rL h),λ h=>by obtain⟨D,C,E,f⟩:=F.f2 (rL h);exact⟨D,C,E,(f.below z (Nat.le_refl _)).more z.size⟩,λ h=>F.f3 (rL h),λ h=>F.f4 (rL h),λ _=>⟨⟨O,N,rfl,ho.less (by omega)⟩,λ f=>by obtain⟨D,C,E,W⟩:=F.f2 (rL f);rw [E];exact λ k X J=>by have:=W.2 k X;have:=(ho.block k J).1;omega⟩,λ h=>absurd (d 6 5 (by kernel_rfl) (rL h)) c,λ h=>absurd (d 7 5 (by kernel_rfl) (rL h)) c⟩⟩
  refine StepsFrom.cons rfl (λ L a w' t c b d K s=>?_) ?_
  ·obtain⟨q,p,i,o,n,g,j,r,F⟩:=t;obtain⟨A5,c5,I,o5⟩:=F.f2 (bK b 2);obtain⟨⟨A8,c8,H,o8⟩,A⟩:=F.f5 (bK b 5);subst r;simp only [Act.put,sX,I,H];go_simp;exact s.out _ _ ⟨q,p,i,o,n,g,.agg #[i,g],by simp only [Act.put,sX,I,H],⟨F.bel,F.rb,λ h=>F.rr (λ x=>h (Or.inr x)),F.ge,λ h=>F.f0 (rL h),λ h=>F.f1 (rL h),λ h=>F.f2 (rL h),λ h=>F.f3 (rL h),λ h=>F.f4 (rL h),λ h=>⟨(F.f5 (rL h)).1,λ f=>(F.f5 (rL h)).2 (rL f)⟩,λ _=>rfl,λ h=>absurd (d 7 6 (by kernel_rfl) (rL h)) c⟩⟩
  refine StepsFrom.cons rfl (λ L a w' t c b d K s=>?_) ?_
  ·obtain⟨q,p,i,o,n,g,j,r,F⟩:=t;obtain⟨A5,c5,I,o5⟩:=F.f2 (bK b 2);obtain⟨⟨A8,c8,H,o8⟩,A⟩:=F.f5 (bK b 5);have e9:=F.f6 (bK b 6);have G:=F.rr c;have z0:=G.c2.1;have z1:=G.c2.2;have fr:=G.frozen;have hl:=G.lt;have Q:=F.ge;have y:=F.bel.size;subst r;simp only [Act.put,sX,e9,I,H];go_simp;exact s.out _ _ ⟨q,p,i,o,n,g,j,by simp only [Act.put,sX,e9,I,H],⟨below_two F.bel (by omega) _ _,oth2 F.rb (by omega) _ _,λ h=>absurd (Or.inl rfl) h,⟨F.ge.1,F.ge.2.1,by rw [World.size_setCell,World.size_setCell];exact F.ge.2.2⟩,λ h=>F.f0 (rL h),λ h=>F.f1 (rL h),λ h=>by obtain⟨D,C,E,f⟩:=F.f2 (rL h);exact⟨D,C,E,by rw [World.size_setCell,World.size_setCell];exact own2 f (by omega) _ _⟩,λ h=>F.f3 (rL h),λ h=>F.f4 (rL h),λ h=>by obtain⟨⟨D,C,E,f⟩,W⟩:=F.f5 (rL h);exact⟨⟨D,C,E,by rw [World.size_setCell,World.size_setCell];exact own2 f (by omega) _ _⟩,λ h4=>W (rL h4)⟩,λ h=>F.f6 (rL h),λ _=>by rw [I,H];exact two_ G _ _⟩⟩
  exact StepsFrom.nil (by decide)
 case fin =>
  rintro L a' M ⟨q,p,i,o,n,g,j,rfl,S⟩ R;have r7:=S.f7 (R 7 (by decide));obtain⟨⟨D,C,H,o2⟩,A⟩:=S.f5 (R 5 (by decide));obtain⟨O,N,I,o1⟩:=S.f2 (R 2 (by decide));have A:=A (R 2 (by decide));have y:=S.bel;clear S R;subst H I;obtain⟨z0,z1⟩:=r7.c2;simp only [Act.put,sX];go_wp2_with fail;refine bodyPost_ret (v:=.agg #[.slice O l.length N,.slice D m.length C]) (by simp [results,results170,go_sem,z0,z1]) rfl ?_;exact⟨O,N,D,C,rfl,o1.less (by omega),o2.less (by omega),A,y⟩
structure ClF_swap_i (w:World) (g1 g2:Nat) (Ao At:Option Addr) (co ct:Nat) (l m:List Int) (L:Nat->Prop) (v3 v4 v5 v6 v7 v8 v9:Value) (w':World):Prop where
 bel:zB w w'
 rb:RowB w' g1 51 [.slice Ao l.length co,.slice At m.length ct]
 rr:¬ L 7->RowB w' g2 51 [.slice none 0 0,.slice none 0 0]
 ge:g1=w.heap.size∧g2=w.heap.size+1∧w.heap.size+2<=w'.heap.size
 f0:L 0->v3=pT g1 1
 f1:L 1->v4=.slice At m.length ct
 f2:L 2->∃(A1:Option Addr) (c1:Nat),v5=.slice A1 m.length c1∧OwnS w' (w.heap.size+2) w'.heap.size 2 1 enI (.slice A1 m.length c1) m
 f3:L 3->v6=pT g1 0
 f4:L 4->v7=.slice Ao l.length co
 f5:L 5->(∃(A1:Option Addr) (c1:Nat),v8=.slice A1 l.length c1∧OwnS w' (w.heap.size+2) w'.heap.size 2 1 enI (.slice A1 l.length c1) l)∧(L 2->Own.Apart v5 v8)
 f6:L 6->v9=.agg #[v5,v8]
 f7:L 7->RowB w' g2 51 [v5,v8]
theorem swap_i (l m:List Int) (Ao At:Option Addr) (co ct B:Nat) (w:World) (hB:B<=w.heap.size) (ho:RdS w B 1 enI Ao l) (ht:RdS w B 1 enI At m) (hA:Ao=none->co=0) (hT:At=none->ct=0) (hl:l.length<=1000) (hm:m.length<=1000) :
  Calls prog 131 #[.agg #[.slice Ao l.length co,.slice At m.length ct]] w λ e w'=>BoardR m l w e w':=by
 have V:=kD (λ(M:World) (h:zB w M)=>clone Ao co B l M (Nat.le_trans hB h.size) (ho.below h hB) hA (by omega));have T:=kD (λ(M:World) (h:zB w M)=>clone At ct B m M (Nat.le_trans hB h.size) (ht.below h hB) hT (by omega));clear ho ht;go_enter func131,ntmps131;go_upto_region 1 with fail;refine wp_gen (λ Z=>zB w Z∧RowB Z w.heap.size 51 [.slice Ao l.length co,.slice At m.length ct]∧RowB Z (w.heap.size+1) 51 [.slice none 0 0,.slice none 0 0]) ⟨by go_grown,(RowB.new _ _ _).alloc _,RowB.new' _ _ _ (by simp)⟩ ?_;rintro w1 ⟨Y,rb,G⟩;refine region_inv (λ a0 L a w'=>∃ q p i o n g j:Value,a=(((((((a0.put (some 3) q).put (some 4) p).put (some 5) i).put (some 6) o).put (some 7) n).put (some 8) g).put (some 9) j)∧ClF_swap_i w w.heap.size (w.heap.size+1) Ao At co ct l m L q p i o n g j w') (by kernel_rfl) (by kernel_rfl) ?h0 ?hst ?fin
 case h0 =>
  exact⟨_,_,_,_,_,_,_,by simp only [Act.put,sX];exact rfl,⟨Y.drew,rb.drew,λ _=>G.drew,⟨rfl,rfl,G.lt⟩,λ h=>(h:False).elim,λ h=>(h:False).elim,λ h=>(h:False).elim,λ h=>(h:False).elim,λ h=>(h:False).elim,λ h=>(h:False).elim,λ h=>(h:False).elim,λ h=>(h:False).elim⟩⟩
 case hst =>
  refine StepsFrom.cons rfl (λ L a w' t c b d K s=>?_) ?_
  ·obtain⟨q,p,i,o,n,g,j,r,F⟩:=t;subst r;simp only [Act.put,sX];go_simp;exact s.out _ _ ⟨_,p,i,o,n,g,j,by simp only [Act.put,sX],⟨F.bel,F.rb,λ h=>F.rr (λ x=>h (Or.inr x)),F.ge,λ _=>rfl,λ h=>F.f1 (rL h),λ h=>F.f2 (rL h),λ h=>F.f3 (rL h),λ h=>F.f4 (rL h),λ h=>⟨(F.f5 (rL h)).1,λ f=>(F.f5 (rL h)).2 (rL f)⟩,λ h=>F.f6 (rL h),λ h=>F.f7 (rL h)⟩⟩
  refine StepsFrom.cons rfl (λ L a w' t c b d K s=>?_) ?_
  ·obtain⟨q,p,i,o,n,g,j,r,F⟩:=t;have r0:=F.rb.c2.1;have r1:=F.rb.c2.2;have hl:=F.rb.lt;have e3:=F.f0 (bK b 0);subst r;simp only [Act.put,sX,e3];go_simp;exact s.out _ _ ⟨q,_,i,o,n,g,j,by simp only [Act.put,sX,e3],⟨F.bel,F.rb,λ h=>F.rr (λ x=>h (Or.inr x)),F.ge,λ h=>F.f0 (rL h),λ _=>rfl,λ h=>F.f2 (rL h),λ h=>F.f3 (rL h),λ h=>F.f4 (rL h),λ h=>⟨(F.f5 (rL h)).1,λ f=>(F.f5 (rL h)).2 (rL f)⟩,λ h=>F.f6 (rL h),λ h=>F.f7 (rL h)⟩⟩
  refine StepsFrom.cons rfl (λ L a w' t c b d K s=>?_) ?_
  ·obtain⟨q,p,i,o,n,g,j,r,F⟩:=t;have e4:=F.f1 (bK b 1);have Q:=F.ge;have y:=F.bel.size;have P:=F.rb.lt;subst r;simp only [Act.put,sX,e4];go_simp;refine(T.out w' F.bel).mono ?_;rintro e w2 ⟨⟨vv,rfl,ho⟩,z⟩;obtain⟨O,N,rfl,-⟩:=ho.form enI_len;exact s.out _ _ ⟨q,p,_,o,n,g,j,by simp only [Act.put,sX,e4],⟨F.bel.tR z,F.rb.below z F.rb.lt,λ h=>(F.rr (λ x=>h (Or.inr x))).below z (F.rr (λ x=>h (Or.inr x))).lt,⟨F.ge.1,F.ge.2.1,Nat.le_trans F.ge.2.2 z.size⟩,λ h=>F.f0 (rL h),λ h=>F.f1 (rL h),λ _=>⟨O,N,rfl,ho.less (by omega)⟩,λ h=>F.f3 (rL h),λ h=>F.f4 (rL h),λ h=>by obtain⟨⟨D,C,E,f⟩,W⟩:=F.f5 (rL h);exact⟨⟨D,C,E,(f.below z (Nat.le_refl _)).more z.size⟩,λ _=>by rw [E];exact λ k X J=>by have:=f.2 k J;have:=(ho.block k X).1;omega⟩,λ h=>absurd (d 6 2 (by kernel_rfl) (rL h)) c,λ h=>absurd (d 7 2 (by kernel_rfl) (rL h)) c⟩⟩
  refine StepsFrom.cons rfl (λ L a w' t c b d K s=>?_) ?_
  ·obtain⟨q,p,i,o,n,g,j,r,F⟩:=t;subst r;simp only [Act.put,sX];go_simp;exact s.out _ _ ⟨q,p,i,_,n,g,j,by simp only [Act.put,sX],⟨F.bel,F.rb,λ h=>F.rr (λ x=>h (Or.inr x)),F.ge,λ h=>F.f0 (rL h),λ h=>F.f1 (rL h),λ h=>F.f2 (rL h),λ _=>rfl,λ h=>F.f4 (rL h),λ h=>⟨(F.f5 (rL h)).1,λ f=>(F.f5 (rL h)).2 (rL f)⟩,λ h=>F.f6 (rL h),λ h=>F.f7 (rL h)⟩⟩
  refine StepsFrom.cons rfl (λ L a w' t c b d K s=>?_) ?_
  ·obtain⟨q,p,i,o,n,g,j,r,F⟩:=t;have r0:=F.rb.c2.1;have r1:=F.rb.c2.2;have hl:=F.rb.lt;have e6:=F.f3 (bK b 3);subst r;simp only [Act.put,sX,e6];go_simp;exact s.out _ _ ⟨q,p,i,o,_,g,j,by simp only [Act.put,sX,e6],⟨F.bel,F.rb,λ h=>F.rr (λ x=>h (Or.inr x)),F.ge,λ h=>F.f0 (rL h),λ h=>F.f1 (rL h),λ h=>F.f2 (rL h),λ h=>F.f3 (rL h),λ _=>rfl,λ h=>⟨(F.f5 (rL h)).1,λ f=>(F.f5 (rL h)).2 (rL f)⟩,λ h=>F.f6 (rL h),λ h=>F.f7 (rL h)⟩⟩
  refine StepsFrom.cons rfl (λ L a w' t c b d K s=>?_) ?_
  ·obtain⟨q,p,i,o,n,g,j,r,F⟩:=t;have e7:=F.f4 (bK b 4);have Q:=F.ge;have y:=F.bel.size;have P:=F.rb.lt;subst r;simp only [Act.put,sX,e7];go_simp;refine(V.out w' F.bel).mono ?_;rintro e w2 ⟨⟨vv,rfl,ho⟩,z⟩;obtain⟨O,N,rfl,-⟩:=ho.form enI_len;exact s.out _ _ ⟨q,p,i,o,n,_,j,by simp only [Act.put,sX,e7],⟨F.bel.tR z,F.rb.below z F.rb.lt,λ h=>(F.rr (λ x=>h (Or.inr x))).below z (F.rr (λ x=>h (Or.inr x))).lt,⟨F.ge.1,F.ge.2.1,Nat.le_trans F.ge.2.2 z.size⟩,λ h=>F.f0 (rL h),λ h=>F.f1 (rL h),λ h=>by obtain⟨D,C,E,f⟩:=F.f2 (rL h);exact⟨D,C,E,(f.below z (Nat.le_refl _)).more z.size⟩,λ h=>F.f3 (rL h),λ h=>F.f4 (rL h),λ _=>⟨⟨O,N,rfl,ho.less (by omega)⟩,λ f=>by obtain⟨D,C,E,W⟩:=F.f2 (rL f);rw [E];exact λ k X J=>by have:=W.2 k X;have:=(ho.block k J).1;omega⟩,λ h=>absurd (d 6 5 (by kernel_rfl) (rL h)) c,λ h=>absurd (d 7 5 (by kernel_rfl) (rL h)) c⟩⟩
  refine StepsFrom.cons rfl (λ L a w' t c b d K s=>?_) ?_
  ·obtain⟨q,p,i,o,n,g,j,r,F⟩:=t;obtain⟨A5,c5,I,o5⟩:=F.f2 (bK b 2);obtain⟨⟨A8,c8,H,o8⟩,A⟩:=F.f5 (bK b 5);subst r;simp only [Act.put,sX,I,H];go_simp;exact s.out _ _ ⟨q,p,i,o,n,g,.agg #[i,g],by simp only [Act.put,sX,I,H],⟨F.bel,F.rb,λ h=>F.rr (λ x=>h (Or.inr x)),F.ge,λ h=>F.f0 (rL h),λ h=>F.f1 (rL h),λ h=>F.f2 (rL h),λ h=>F.f3 (rL h),λ h=>F.f4 (rL h),λ h=>⟨(F.f5 (rL h)).1,λ f=>(F.f5 (rL h)).2 (rL f)⟩,λ _=>rfl,λ h=>absurd (d 7 6 (by kernel_rfl) (rL h)) c⟩⟩
  refine StepsFrom.cons rfl (λ L a w' t c b d K s=>?_) ?_
  ·obtain⟨q,p,i,o,n,g,j,r,F⟩:=t;obtain⟨A5,c5,I,o5⟩:=F.f2 (bK b 2);obtain⟨⟨A8,c8,H,o8⟩,A⟩:=F.f5 (bK b 5);have e9:=F.f6 (bK b 6);have G:=F.rr c;have z0:=G.c2.1;have z1:=G.c2.2;have fr:=G.frozen;have hl:=G.lt;have Q:=F.ge;have y:=F.bel.size;subst r;simp only [Act.put,sX,e9,I,H];go_simp;exact s.out _ _ ⟨q,p,i,o,n,g,j,by simp only [Act.put,sX,e9,I,H],⟨below_two F.bel (by omega) _ _,oth2 F.rb (by omega) _ _,λ h=>absurd (Or.inl rfl) h,⟨F.ge.1,F.ge.2.1,by rw [World.size_setCell,World.size_setCell];exact F.ge.2.2⟩,λ h=>F.f0 (rL h),λ h=>F.f1 (rL h),λ h=>by obtain⟨D,C,E,f⟩:=F.f2 (rL h);exact⟨D,C,E,by rw [World.size_setCell,World.size_setCell];exact own2 f (by omega) _ _⟩,λ h=>F.f3 (rL h),λ h=>F.f4 (rL h),λ h=>by obtain⟨⟨D,C,E,f⟩,W⟩:=F.f5 (rL h);exact⟨⟨D,C,E,by rw [World.size_setCell,World.size_setCell];exact own2 f (by omega) _ _⟩,λ h4=>W (rL h4)⟩,λ h=>F.f6 (rL h),λ _=>by rw [I,H];exact two_ G _ _⟩⟩
  exact StepsFrom.nil (by decide)
 case fin =>
  rintro L a' M ⟨q,p,i,o,n,g,j,rfl,S⟩ R;have r7:=S.f7 (R 7 (by decide));obtain⟨⟨D,C,H,o2⟩,A⟩:=S.f5 (R 5 (by decide));obtain⟨O,N,I,o1⟩:=S.f2 (R 2 (by decide));have A:=A (R 2 (by decide));have y:=S.bel;clear S R;subst H I;obtain⟨z0,z1⟩:=r7.c2;simp only [Act.put,sX];go_wp2_with fail;refine bodyPost_ret (v:=.agg #[.slice O m.length N,.slice D l.length C]) (by simp [results,results131,go_sem,z0,z1]) rfl ?_;exact⟨O,N,D,C,rfl,o1.less (by omega),o2.less (by omega),A,y⟩
structure ClF_swap_s (w:World) (g1 g2:Nat) (Ao At:Option Addr) (co ct:Nat) (l m:List Int) (L:Nat->Prop) (v3 v4 v5 v6 v7 v8 v9:Value) (w':World):Prop where
 bel:zB w w'
 rb:RowB w' g1 51 [.slice Ao l.length co,.slice At m.length ct]
 rr:¬ L 7->RowB w' g2 51 [.slice none 0 0,.slice none 0 0]
 ge:g1=w.heap.size∧g2=w.heap.size+1∧w.heap.size+2<=w'.heap.size
 f0:L 0->v3=pT g1 1
 f1:L 1->v4=.slice At m.length ct
 f2:L 2->∃(A1:Option Addr) (c1:Nat),v5=.slice A1 m.length c1∧OwnS w' (w.heap.size+2) w'.heap.size 2 1 enI (.slice A1 m.length c1) m
 f3:L 3->v6=pT g1 0
 f4:L 4->v7=.slice Ao l.length co
 f5:L 5->(∃(A1:Option Addr) (c1:Nat),v8=.slice A1 l.length c1∧OwnS w' (w.heap.size+2) w'.heap.size 2 1 enI (.slice A1 l.length c1) l)∧(L 2->Own.Apart v5 v8)
 f6:L 6->v9=.agg #[v5,v8]
 f7:L 7->RowB w' g2 51 [v5,v8]
theorem swap_s (l m:List Int) (Ao At:Option Addr) (co ct B:Nat) (w:World) (hB:B<=w.heap.size) (ho:RdS w B 1 enI Ao l) (ht:RdS w B 1 enI At m) (hA:Ao=none->co=0) (hT:At=none->ct=0) (hl:l.length<=1000) (hm:m.length<=1000) :
  Calls prog 177 #[.agg #[.slice Ao l.length co,.slice At m.length ct]] w λ e w'=>BoardR m l w e w':=by
 have V:=kD (λ(M:World) (h:zB w M)=>own02 Ao co B l M (Nat.le_trans hB h.size) (ho.below h hB) hA (by omega));have T:=kD (λ(M:World) (h:zB w M)=>own02 At ct B m M (Nat.le_trans hB h.size) (ht.below h hB) hT (by omega));clear ho ht;go_enter func177,ntmps177;go_upto_region 1 with fail;refine wp_gen (λ Z=>zB w Z∧RowB Z w.heap.size 51 [.slice Ao l.length co,.slice At m.length ct]∧RowB Z (w.heap.size+1) 51 [.slice none 0 0,.slice none 0 0]) ⟨by go_grown,(RowB.new _ _ _).alloc _,RowB.new' _ _ _ (by simp)⟩ ?_;rintro w1 ⟨Y,rb,G⟩;refine region_inv (λ a0 L a w'=>∃ q p i o n g j:Value,a=(((((((a0.put (some 3) q).put (some 4) p).put (some 5) i).put (some 6) o).put (some 7) n).put (some 8) g).put (some 9) j)∧ClF_swap_s w w.heap.size (w.heap.size+1) Ao At co ct l m L q p i o n g j w') (by kernel_rfl) (by kernel_rfl) ?h0 ?hst ?fin
 case h0 =>
  exact⟨_,_,_,_,_,_,_,by simp only [Act.put,sX];exact rfl,⟨Y.drew,rb.drew,λ _=>G.drew,⟨rfl,rfl,G.lt⟩,λ h=>(h:False).elim,λ h=>(h:False).elim,λ h=>(h:False).elim,λ h=>(h:False).elim,λ h=>(h:False).elim,λ h=>(h:False).elim,λ h=>(h:False).elim,λ h=>(h:False).elim⟩⟩
 case hst =>
  refine StepsFrom.cons rfl (λ L a w' t c b d K s=>?_) ?_
  ·obtain⟨q,p,i,o,n,g,j,r,F⟩:=t;subst r;simp only [Act.put,sX];go_simp;exact s.out _ _ ⟨_,p,i,o,n,g,j,by simp only [Act.put,sX],⟨F.bel,F.rb,λ h=>F.rr (λ x=>h (Or.inr x)),F.ge,λ _=>rfl,λ h=>F.f1 (rL h),λ h=>F.f2 (rL h),λ h=>F.f3 (rL h),λ h=>F.f4 (rL h),λ h=>⟨(F.f5 (rL h)).1,λ f=>(F.f5 (rL h)).2 (rL f)⟩,λ h=>F.f6 (rL h),λ h=>F.f7 (rL h)⟩⟩
  refine StepsFrom.cons rfl (λ L a w' t c b d K s=>?_) ?_
  ·obtain⟨q,p,i,o,n,g,j,r,F⟩:=t;have r0:=F.rb.c2.1;have r1:=F.rb.c2.2;have hl:=F.rb.lt;have e3:=F.f0 (bK b 0);subst r;simp only [Act.put,sX,e3];go_simp;exact s.out _ _ ⟨q,_,i,o,n,g,j,by simp only [Act.put,sX,e3],⟨F.bel,F.rb,λ h=>F.rr (λ x=>h (Or.inr x)),F.ge,λ h=>F.f0 (rL h),λ _=>rfl,λ h=>F.f2 (rL h),λ h=>F.f3 (rL h),λ h=>F.f4 (rL h),λ h=>⟨(F.f5 (rL h)).1,λ f=>(F.f5 (rL h)).2 (rL f)⟩,λ h=>F.f6 (rL h),λ h=>F.f7 (rL h)⟩⟩
  refine StepsFrom.cons rfl (λ L a w' t c b d K s=>?_) ?_
  ·obtain⟨q,p,i,o,n,g,j,r,F⟩:=t;have e4:=F.f1 (bK b 1);have Q:=F.ge;have y:=F.bel.size;have P:=F.rb.lt;subst r;simp only [Act.put,sX,e4];go_simp;refine(T.out w' F.bel).mono ?_;rintro e w2 ⟨⟨vv,rfl,ho⟩,z⟩;obtain⟨O,N,rfl,-⟩:=ho.form enI_len;exact s.out _ _ ⟨q,p,_,o,n,g,j,by simp only [Act.put,sX,e4],⟨F.bel.tR z,F.rb.below z F.rb.lt,λ h=>(F.rr (λ x=>h (Or.inr x))).below z (F.rr (λ x=>h (Or.inr x))).lt,⟨F.ge.1,F.ge.2.1,Nat.le_trans F.ge.2.2 z.size⟩,λ h=>F.f0 (rL h),λ h=>F.f1 (rL h),λ _=>⟨O,N,rfl,ho.less (by omega)⟩,λ h=>F.f3 (rL h),λ h=>F.f4 (rL h),λ h=>by obtain⟨⟨D,C,E,f⟩,W⟩:=F.f5 (rL h);exact⟨⟨D,C,E,(f.below z (Nat.le_refl _)).more z.size⟩,λ _=>by rw [E];exact λ k X J=>by have:=f.2 k J;have:=(ho.block k X).1;omega⟩,λ h=>absurd (d 6 2 (by kernel_rfl) (rL h)) c,λ h=>absurd (d 7 2 (by kernel_rfl) (rL h)) c⟩⟩
  refine StepsFrom.cons rfl (λ L a w' t c b d K s=>?_) ?_
  ·obtain⟨q,p,i,o,n,g,j,r,F⟩:=t;subst r;simp only [Act.put,sX];go_simp;exact s.out _ _ ⟨q,p,i,_,n,g,j,by simp only [Act.put,sX],⟨F.bel,F.rb,λ h=>F.rr (λ x=>h (Or.inr x)),F.ge,λ h=>F.f0 (rL h),λ h=>F.f1 (rL h),λ h=>F.f2 (rL h),λ _=>rfl,λ h=>F.f4 (rL h),λ h=>⟨(F.f5 (rL h)).1,λ f=>(F.f5 (rL h)).2 (rL f)⟩,λ h=>F.f6 (rL h),λ h=>F.f7 (rL h)⟩⟩
  refine StepsFrom.cons rfl (λ L a w' t c b d K s=>?_) ?_
  ·obtain⟨q,p,i,o,n,g,j,r,F⟩:=t;have r0:=F.rb.c2.1;have r1:=F.rb.c2.2;have hl:=F.rb.lt;have e6:=F.f3 (bK b 3);subst r;simp only [Act.put,sX,e6];go_simp;exact s.out _ _ ⟨q,p,i,o,_,g,j,by simp only [Act.put,sX,e6],⟨F.bel,F.rb,λ h=>F.rr (λ x=>h (Or.inr x)),F.ge,λ h=>F.f0 (rL h),λ h=>F.f1 (rL h),λ h=>F.f2 (rL h),λ h=>F.f3 (rL h),λ _=>rfl,λ h=>⟨(F.f5 (rL h)).1,λ f=>(F.f5 (rL h)).2 (rL f)⟩,λ h=>F.f6 (rL h),λ h=>F.f7 (rL h)⟩⟩
  refine StepsFrom.cons rfl (λ L a w' t c b d K s=>?_) ?_
  ·obtain⟨q,p,i,o,n,g,j,r,F⟩:=t;have e7:=F.f4 (bK b 4);have Q:=F.ge;have y:=F.bel.size;have P:=F.rb.lt;subst r;simp only [Act.put,sX,e7];go_simp;refine(V.out w' F.bel).mono ?_;rintro e w2 ⟨⟨vv,rfl,ho⟩,z⟩;obtain⟨O,N,rfl,-⟩:=ho.form enI_len;exact s.out _ _ ⟨q,p,i,o,n,_,j,by simp only [Act.put,sX,e7],⟨F.bel.tR z,F.rb.below z F.rb.lt,λ h=>(F.rr (λ x=>h (Or.inr x))).below z (F.rr (λ x=>h (Or.inr x))).lt,⟨F.ge.1,F.ge.2.1,Nat.le_trans F.ge.2.2 z.size⟩,λ h=>F.f0 (rL h),λ h=>F.f1 (rL h),λ h=>by obtain⟨D,C,E,f⟩:=F.f2 (rL h);exact⟨D,C,E,(f.below z (Nat.le_refl _)).more z.size⟩,λ h=>F.f3 (rL h),λ h=>F.f4 (rL h),λ _=>⟨⟨O,N,rfl,ho.less (by omega)⟩,λ f=>by obtain⟨D,C,E,W⟩:=F.f2 (rL f);rw [E];exact λ k X J=>by have:=W.2 k X;have:=(ho.block k J).1;omega⟩,λ h=>absurd (d 6 5 (by kernel_rfl) (rL h)) c,λ h=>absurd (d 7 5 (by kernel_rfl) (rL h)) c⟩⟩
  refine StepsFrom.cons rfl (λ L a w' t c b d K s=>?_) ?_
  ·obtain⟨q,p,i,o,n,g,j,r,F⟩:=t;obtain⟨A5,c5,I,o5⟩:=F.f2 (bK b 2);obtain⟨⟨A8,c8,H,o8⟩,A⟩:=F.f5 (bK b 5);subst r;simp only [Act.put,sX,I,H];go_simp;exact s.out _ _ ⟨q,p,i,o,n,g,.agg #[i,g],by simp only [Act.put,sX,I,H],⟨F.bel,F.rb,λ h=>F.rr (λ x=>h (Or.inr x)),F.ge,λ h=>F.f0 (rL h),λ h=>F.f1 (rL h),λ h=>F.f2 (rL h),λ h=>F.f3 (rL h),λ h=>F.f4 (rL h),λ h=>⟨(F.f5 (rL h)).1,λ f=>(F.f5 (rL h)).2 (rL f)⟩,λ _=>rfl,λ h=>absurd (d 7 6 (by kernel_rfl) (rL h)) c⟩⟩
  refine StepsFrom.cons rfl (λ L a w' t c b d K s=>?_) ?_
  ·obtain⟨q,p,i,o,n,g,j,r,F⟩:=t;obtain⟨A5,c5,I,o5⟩:=F.f2 (bK b 2);obtain⟨⟨A8,c8,H,o8⟩,A⟩:=F.f5 (bK b 5);have e9:=F.f6 (bK b 6);have G:=F.rr c;have z0:=G.c2.1;have z1:=G.c2.2;have fr:=G.frozen;have hl:=G.lt;have Q:=F.ge;have y:=F.bel.size;subst r;simp only [Act.put,sX,e9,I,H];go_simp;exact s.out _ _ ⟨q,p,i,o,n,g,j,by simp only [Act.put,sX,e9,I,H],⟨below_two F.bel (by omega) _ _,oth2 F.rb (by omega) _ _,λ h=>absurd (Or.inl rfl) h,⟨F.ge.1,F.ge.2.1,by rw [World.size_setCell,World.size_setCell];exact F.ge.2.2⟩,λ h=>F.f0 (rL h),λ h=>F.f1 (rL h),λ h=>by obtain⟨D,C,E,f⟩:=F.f2 (rL h);exact⟨D,C,E,by rw [World.size_setCell,World.size_setCell];exact own2 f (by omega) _ _⟩,λ h=>F.f3 (rL h),λ h=>F.f4 (rL h),λ h=>by obtain⟨⟨D,C,E,f⟩,W⟩:=F.f5 (rL h);exact⟨⟨D,C,E,by rw [World.size_setCell,World.size_setCell];exact own2 f (by omega) _ _⟩,λ h4=>W (rL h4)⟩,λ h=>F.f6 (rL h),λ _=>by rw [I,H];exact two_ G _ _⟩⟩
  exact StepsFrom.nil (by decide)
 case fin =>
  rintro L a' M ⟨q,p,i,o,n,g,j,rfl,S⟩ R;have r7:=S.f7 (R 7 (by decide));obtain⟨⟨D,C,H,o2⟩,A⟩:=S.f5 (R 5 (by decide));obtain⟨O,N,I,o1⟩:=S.f2 (R 2 (by decide));have A:=A (R 2 (by decide));have y:=S.bel;clear S R;subst H I;obtain⟨z0,z1⟩:=r7.c2;simp only [Act.put,sX];go_wp2_with fail;refine bodyPost_ret (v:=.agg #[.slice O m.length N,.slice D l.length C]) (by simp [results,results177,go_sem,z0,z1]) rfl ?_;exact⟨O,N,D,C,rfl,o1.less (by omega),o2.less (by omega),A,y⟩
end Bd6
namespace Bd7
open Go.ChangeShapes Go.WideShapes Go.ChangeAt Go.RowKit Base Ints Own Clone RelG PlP Bd1 Bd6
def RowI (w:World) (g:Nat) (l:List Int) (r:List Value):Prop:=RowB w g 2 (l.flatMap enI++r)
theorem flatI (l:List Int):l.flatMap enI=l.map (λ x=>iL x):=by
 induction l with
 | nil=>rfl
 | cons x l ih=>rw [List.flatMap_cons,ih];rfl
theorem RowI.at_ {w:World} {g:Nat} {l:List Int} {r:List Value} (h:RowI w g l r) {i:Nat} (hi:i<l.length):w.cell? ⟨g,i,none⟩=some (iL (PlP.at_ l i)):=by
 have:=RowB.cell h i;rw [this,flatI,List.getElem?_append_left (by simpa using hi),List.getElem?_map,at_get hi];rfl
theorem RowI.put {w:World} {g:Nat} {l:List Int} {r:List Value} (h:RowI w g l r) {i:Nat} (hi:i<l.length) (x:Int):RowI (w.setCell ⟨g,i,none⟩ (iL x)) g (l.set i x) r:=by
 have:=RowB.set h i (iL x);unfold RowI;rw [flatI] at this ⊢;rw [List.set_append_left _ _ (by simpa using hi),<-List.map_set] at this;exact this
theorem RowI.of {w:World} {lo hi:Nat} {u:Value} {l:List Int} (h:OwnS w lo hi 2 1 enI u l) (hl:0<l.length) :
  ∃(g c:Nat) (r:List Value),u=.slice (sA g 0) l.length c∧lo<=g∧g<hi∧c<=maxLen∧l.length+r.length=c∧RowI w g l r:=by
 rcases h.cases_ with ⟨-,rfl⟩ | ⟨g,c,r,h1,h2,h3,h4,h5,h6,h7⟩
 ·simp at hl
 ·exact⟨g,c,r,h1,h2,h3,h6,by omega,h4⟩
theorem RowI.own {w:World} {lo hi g c:Nat} {l:List Int} {r:List Value} (h:RowI w g l r) (hlo:lo<=g) (hhi:g<hi) (hc:l.length+r.length=c) (hm:c<=maxLen) :
  OwnS w lo hi 2 1 enI (.slice (sA g 0) l.length c) l :=
 OwnS.mk_ enI_len h hlo hhi (by omega) hm (by omega)
structure St (w W:World) (vs ss:List Value) (gv gs gr g7 a c n ca cc:Nat) (l m:List Int) (ra rc:List Value):Prop where
 bel:zB w W
 rv:RowB W gv 25 vs
 rs:RowB W gs 111 ss
 rr:RowB W gr 51 [.slice none 0 0,.slice none 0 0]
 r7:RowB W g7 51 [.slice (sA a 0) n ca,.slice (sA c 0) n cc]
 hl:RowI W a l ra
 hm:RowI W c m rc
 ll:l.length=n
 lm:m.length=n
 ne:(a≠c∧a≠gv∧a≠gs∧a≠gr∧a≠g7)∧(c≠gv∧c≠gs∧c≠gr∧c≠g7)
 ge:w.heap.size<=a∧w.heap.size<=c
section
variable {w W:World} {vs ss:List Value} {gv gs gr g7 a c n ca cc:Nat} {l m:List Int} {ra rc:List Value}
theorem St.putA (h:St w W vs ss gv gs gr g7 a c n ca cc l m ra rc) {i:Nat} (hi:i<n) (x y:Int) (hx:PlP.at_ l i+y=x):St w (W.setCell ⟨a,i,none⟩ (iL x)) vs ss gv gs gr g7 a c n ca cc (inc l i y) m ra rc:=by
 obtain⟨D,C,B,A,z,v,t,s,r,e,d⟩:=h;have k:=e;obtain⟨⟨q,o,j,g,f⟩,-⟩:=k;have b:inc l i y=l.set i x:=by unfold inc;rw [hx]
 exact⟨D.setCell (p:=⟨a,i,none⟩) d.1 _,C.other (p:=⟨a,i,none⟩) (Ne.symm o) _,B.other (p:=⟨a,i,none⟩) (Ne.symm j) _,A.other (p:=⟨a,i,none⟩) (Ne.symm g) _,z.other (p:=⟨a,i,none⟩) (Ne.symm f) _,by rw [b];exact v.put (by omega) _,RowB.other t (p:=⟨a,i,none⟩) (Ne.symm q) _,by rw [b,List.length_set];exact s,r,e,d⟩
theorem St.putC (h:St w W vs ss gv gs gr g7 a c n ca cc l m ra rc) {i:Nat} (hi:i<n) (x y:Int) (hx:PlP.at_ m i+y=x):St w (W.setCell ⟨c,i,none⟩ (iL x)) vs ss gv gs gr g7 a c n ca cc l (inc m i y) ra rc:=by
 obtain⟨D,C,B,A,z,v,t,s,r,e,d⟩:=h;have b:inc m i y=m.set i x:=by unfold inc;rw [hx]
 have k:=e;obtain⟨⟨q,-⟩,o,j,g,f⟩:=k;exact⟨D.setCell (p:=⟨c,i,none⟩) d.2 _,C.other (p:=⟨c,i,none⟩) (Ne.symm o) _,B.other (p:=⟨c,i,none⟩) (Ne.symm j) _,A.other (p:=⟨c,i,none⟩) (Ne.symm g) _,z.other (p:=⟨c,i,none⟩) (Ne.symm f) _,RowB.other v (p:=⟨c,i,none⟩) q _,by rw [b];exact t.put (by omega) _,s,by rw [b,List.length_set];exact r,e,d⟩
end
def StOk (v:Vr) (s:Stp):Prop:=(0<=s.1∧s.1<=v.p)∧(-1<=s.2.1∧s.2.1<v.p)∧(s.2.2.2=true->0<=s.2.1)
theorem inc_bd {l:List Int} {i:Nat} {x:Int} {k:Int} (h:∀ j,-k<=at_ l j∧at_ l j<=1000+k) (hx:-1<=x∧x<=1) (hi:i<l.length):∀ j,-(k+1)<=at_ (inc l i x) j∧at_ (inc l i x) j<=1000+(k+1):=by
 intro j;rw [inc_at l i j x hi];have b:=h i;have a:=h j;split <;> omega
theorem sd_bd {v:Vr} {b:Bd} (hb:Ok v b):(∀ j,-0<=at_ b.1 j∧at_ b.1 j<=1000+0)∧∀ j,-0<=at_ b.2 j∧at_ b.2 j<=1000+0:=by
 have a:=hb.v1;exact⟨λ j=>by have:=hb.own.nn j;have:=(sum_nn _ hb.own.nn).2 j;have:=hb.own.sum;omega,λ j=>by have:=hb.oth.nn j;have:=(sum_nn _ hb.oth.nn).2 j;have:=hb.oth.sum;omega⟩
theorem after_i (v:Vr) (b:Bd) (hb:Ok v b) (Ao At:Option Addr) (co ct B:Nat) (s:Stp) (hs:StOk v s) (w:World) (hB:B<=w.heap.size) (ho:RdS w B 1 enI Ao b.1) (ht:RdS w B 1 enI At b.2) (hA:Ao=none->co=0) (hT:At=none->ct=0) :
  Calls prog 198 #[vA v,.agg #[.slice Ao b.1.length co,.slice At b.2.length ct],.agg #[iL s.1,iL s.2.1,iL s.2.2.1,.bool s.2.2.2]] w λ e w'=>BoardR (afterP v b s).1 (afterP v b s).2 w e w':=by
 have hv:=hb.v1;have am:=kD (sd_bd hb).1;have al:=kD (sd_bd hb).2;have C:=hb.own.len;have y:=hb.oth.len;obtain⟨P,hP⟩:∃ P:Nat,v.p=(P:Int):=⟨v.p.toNat,by omega⟩;have av:P<=24:=by omega
 have CB:=kD (λ(w9:World) (h:zB w w9)=>clone_i b.1 b.2 Ao At co ct B w9 (Nat.le_trans hB h.size) (ho.below h hB) (ht.below h hB) hA hT (by omega) (by omega));obtain⟨F0,T,d,I⟩:=s;obtain⟨⟨ac,ar⟩,⟨aq,ap⟩,hh⟩:=hs;simp only at ac ar aq ap hh;obtain⟨f,rfl⟩:=Int.eq_ofNat_of_zero_le ac;obtain⟨R,hR⟩:=eX (afterP v b ((f:Int),T,d,I));have HR:=kD hR;simp only;rw [hR];obtain⟨p,c,h,s⟩:=v;obtain⟨l,m⟩:=b;simp only at *;subst hP;obtain⟨n,hn⟩:=eX (P+1);have X:l.length=n:=by omega
 have W:m.length=n:=by omega
 have HN:=kD X;have HM:=kD W;clear hb ho ht hR ac hA hT C y X W;go_enter func198,ntmps198;go_upto_region 1 with fail;refine wp_gen (λ o=>zB w o∧RowB o w.heap.size 25 [iL (P:Int),iL c,iL h,iL s]∧RowB o (w.heap.size+1) 51 [.slice Ao l.length co,.slice At m.length ct]∧RowB o (w.heap.size+2) 111 [iL (f:Int),iL T,iL d,.bool I]∧RowB o (w.heap.size+3) 51 [.slice none 0 0,.slice none 0 0]) ⟨by go_grown,(((RowB.new _ _ _).alloc _).alloc _).alloc _,RowB.alloc (RowB.alloc (RowB.new' _ _ _ (by first | simp | go_size | rfl)) _) _,RowB.alloc (RowB.new' _ _ _ (by first | simp | go_size | rfl)) _,RowB.new' _ _ _ (by first | simp | go_size | rfl)⟩ ?_;rintro w1 ⟨J,rv,rb,rs,q⟩;obtain⟨r0,r1⟩:=rb.c2;have y:=rb.lt;have ay:=q.lt;go_wp2_with fail;refine(CB.out w1 J).mono ?_;rintro e w2 ⟨A1,N,A2,M,rfl,o1,o2,aj,S⟩;have X:=HN.out;have W:=HM.out;obtain⟨a,ca,ra,h1,a1,a2,a3,a4,ah⟩:=RowI.of o1 (by omega);obtain⟨g,cc,rc,h2,b1,b2,b3,b4,ag⟩:=RowI.of o2 (by omega);simp only [Value.slice.injEq,true_and] at h1 h2;obtain⟨rfl,rfl⟩:=h1;obtain⟨rfl,rfl⟩:=h2;have Y:a≠g:=λ h=>aj a rfl (by rw [h];rfl)
 have rv:=rv.below S rv.lt;have rs:=rs.below S rs.lt;have q:=q.below S q.lt;have J:=J.tR S;have ax:=S.size;clear r0 r1 y o1 o2 aj S rb CB;rw [X,W];clear X W;go_upto_region 2 with fail;refine wp_gen (λ o=>St w o [iL (P:Int),iL c,iL h,iL s] [iL (f:Int),iL T,iL d,.bool I] w.heap.size (w.heap.size+2) (w.heap.size+3) w2.heap.size a g n N M l m ra rc) ?_ ?_
 ·have E:=rv.lt;exact⟨J.alloc J.size _,rv.alloc _,rs.alloc _,q.alloc _,RowB.new _ _ _,RowB.alloc ah _,RowB.alloc ag _,HN.out,HM.out,⟨⟨Y,by omega,by omega,by omega,by omega⟩,by omega,by omega,by omega,by omega⟩,by omega,by omega⟩
 intro w3 Q;clear rv rs q ah ag J;obtain⟨q0,q1,q2,q3⟩:=Q.rv.c4;obtain⟨s0,s1,s2,Z⟩:=Q.rs.c4;obtain⟨L,K⟩:=Q.r7.c2;have fa:=RowB.frozen Q.hl;have fc:=RowB.frozen Q.hm;have E:=Q.rv.lt;have C:=Q.rs.lt;have y:=Q.r7.lt;have G:=RowB.lt Q.hl;have F:=RowB.lt Q.hm;have ab:f<n:=by omega
 have aA:(f:Int)<(n:Int):=by omega
 have ae:=RowI.at_ Q.hl (i:=f) (by rw [Q.ll];exact ab);have H:IntKind.i64.wrap (at_ l f - 1)=at_ l f - 1:=by have:=am.out f;exact IntWalk.i64_in _ (by omega)
 go_upto_region 3 with fail;refine wp_gen (λ o=>St w o [iL (P:Int),iL c,iL h,iL s] [iL (f:Int),iL T,iL d,.bool I] w.heap.size (w.heap.size+2) (w.heap.size+3) w2.heap.size a g n N M (inc l f (-1)) m ra rc) (Q.putA ab _ (-1) rfl) ?_;intro w4 A;clear q0 q1 q2 q3 s0 s1 s2 Z L K fa fc E C y G F ae H Q;obtain⟨q0,q1,q2,q3⟩:=A.rv.c4;obtain⟨s0,s1,s2,Z⟩:=A.rs.c4;obtain⟨L,K⟩:=A.r7.c2;have fa:=RowB.frozen A.hl;have fc:=RowB.frozen A.hm;have E:=A.rv.lt;have C:=A.rs.lt;have y:=A.r7.lt;have G:=RowB.lt A.hl;have F:=RowB.lt A.hm;by_cases gT:0<=T
 ·obtain⟨t,rfl⟩:=Int.eq_ofNat_of_zero_le gT;have af:t<n:=by omega
  have aw:(t:Int)<(n:Int):=by omega
  have ae:=RowI.at_ A.hl (i:=t) (by rw [A.ll];exact af);have H:IntKind.i64.wrap (at_ (inc l f (-1)) t+1)=at_ (inc l f (-1)) t+1:=by
   have:=inc_bd (k:=0) am.out (x:=-1) (by omega) (i:=f) (by rw [HN.out];exact ab) t;exact IntWalk.i64_in _ (by omega)
  go_upto_region 5 with fail;refine wp_gen (λ o=>St w o [iL (P:Int),iL c,iL h,iL s] [iL (f:Int),iL (t:Int),iL d,.bool I] w.heap.size (w.heap.size+2) (w.heap.size+3) w2.heap.size a g n N M (inc (inc l f (-1)) t 1) m ra rc) (A.putA af _ 1 rfl) ?_;intro w5 z;clear q0 q1 q2 q3 s0 s1 s2 Z L K fa fc E C y G F ae H A;obtain⟨q0,q1,q2,q3⟩:=z.rv.c4;obtain⟨s0,s1,s2,Z⟩:=z.rs.c4;obtain⟨L,K⟩:=z.r7.c2;have fa:=RowB.frozen z.hl;have fc:=RowB.frozen z.hm;have E:=z.rv.lt;have C:=z.rs.lt;have y:=z.r7.lt;have G:=RowB.lt z.hl;have F:=RowB.lt z.hm
  cases I
  case true =>
   obtain⟨j,hj⟩:∃ j:Nat,(P:Int) - 1 - (t:Int)=(j:Int):=⟨((P:Int) - 1 - (t:Int)).toNat,by omega⟩;have ej:((P:Int) - 1 - (t:Int)).toNat=j:=by omega
   obtain rfl:R=(inc (inc l f (-1)) t 1,inc (inc m j (-1)) P 1):=by rw [<-HR.out];simp [afterP,ej]
   clear ej;have aa:j<n:=by omega
   have az:(j:Int)<(n:Int):=by omega
   have ad:=RowI.at_ z.hm (i:=j) (by rw [z.lm];exact aa);have H:IntKind.i64.wrap (at_ m j - 1)=at_ m j - 1:=by have:=al.out j;exact IntWalk.i64_in _ (by omega)
   have ao:=iW (((P:Int) - 1));have an:IntKind.i64.wrap ((P:Int) - 1 - (t:Int))=(j:Int):=by rw [hj];exact IntWalk.i64_in _ (by omega)
   go_upto_region 7 with fail;refine wp_gen (λ o=>St w o [iL (P:Int),iL c,iL h,iL s] [iL (f:Int),iL (t:Int),iL d,.bool true] w.heap.size (w.heap.size+2) (w.heap.size+3) w2.heap.size a g n N M (inc (inc l f (-1)) t 1) (inc m j (-1)) ra rc) (z.putC aa _ (-1) rfl) ?_;intro w6 O;clear q0 q1 q2 q3 s0 s1 s2 Z L K fa fc E C y G F ad H ao an z;obtain⟨q0,q1,q2,q3⟩:=O.rv.c4;obtain⟨s0,s1,s2,Z⟩:=O.rs.c4;obtain⟨L,K⟩:=O.r7.c2;have fa:=RowB.frozen O.hl;have fc:=RowB.frozen O.hm;have E:=O.rv.lt;have C:=O.rs.lt;have y:=O.r7.lt;have G:=RowB.lt O.hl;have F:=RowB.lt O.hm;have ak:P<n:=by omega
   have aB:(P:Int)<(n:Int):=by omega
   have ad:=RowI.at_ O.hm (i:=P) (by rw [O.lm];exact ak);have H:IntKind.i64.wrap (at_ (inc m j (-1)) P+1)=at_ (inc m j (-1)) P+1:=by
    have:=inc_bd (k:=0) al.out (x:=-1) (by omega) (i:=j) (by rw [HM.out];exact aa) P;exact IntWalk.i64_in _ (by omega)
   go_upto_region 8 with fail;refine wp_gen (λ o=>St w o [iL (P:Int),iL c,iL h,iL s] [iL (f:Int),iL (t:Int),iL d,.bool true] w.heap.size (w.heap.size+2) (w.heap.size+3) w2.heap.size a g n N M (inc (inc l f (-1)) t 1) (inc (inc m j (-1)) P 1) ra rc) (O.putC ak _ 1 rfl) ?_;intro w7 D;clear q0 q1 q2 q3 s0 s1 s2 Z L K fa fc E C y G F ad H O;obtain⟨q0,q1,q2,q3⟩:=D.rv.c4;obtain⟨s0,s1,s2,Z⟩:=D.rs.c4;obtain⟨L,K⟩:=D.r7.c2;have fa:=RowB.frozen D.hl;have fc:=RowB.frozen D.hm;have E:=D.rv.lt;have C:=D.rs.lt;have y:=D.r7.lt;have G:=RowB.lt D.hl;have F:=RowB.lt D.hm;have q:=D.rr;have y0:=q.c2.1;have y1:=q.c2.2;have fr:=q.frozen;have ai:=q.lt;go_wp2_with fail;refine bp_gen (λ o=>zB w o∧RowB o (w.heap.size+3) 51 [.slice (sA a 0) n N,.slice (sA g 0) n M]∧RowI o a (inc (inc l f (-1)) t 1) ra∧RowI o g (inc (inc m j (-1)) P 1) rc) ⟨below_two D.bel (by omega) _ _,two_ q _ _,oth2 D.hl D.ne.1.2.2.2.1 _ _,oth2 D.hm D.ne.2.2.2.1 _ _⟩ ?_;rintro o ⟨hb,q,hl,hm⟩;obtain⟨L,K⟩:=q.c2;refine bodyPost_ret (v:=.agg #[.slice (sA a 0) n N,.slice (sA g 0) n M]) (by simp [results,results198,go_sem,L,K]) rfl ?_;have k1:=D.ll;have k2:=D.lm;have k3:=HN.out;have k4:=HM.out;exact⟨some ⟨a,0,none⟩,N,some ⟨g,0,none⟩,M,by simp only [k1,k2],hl.own D.ge.1 (RowB.lt hl) (by omega) a3,hm.own D.ge.2 (RowB.lt hm) (by omega) b3,λ k hk V=>Y (by simp [Value.ownBlock] at hk V;omega),hb⟩
  case false =>
   obtain rfl:R=(inc (inc l f (-1)) t 1,m):=by rw [<-HR.out];simp [afterP]
   have q:=z.rr;have y0:=q.c2.1;have y1:=q.c2.2;have fr:=q.frozen;have ai:=q.lt;go_wp2_with fail;refine bp_gen (λ o=>zB w o∧RowB o (w.heap.size+3) 51 [.slice (sA a 0) n N,.slice (sA g 0) n M]∧RowI o a (inc (inc l f (-1)) t 1) ra∧RowI o g (m) rc) ⟨below_two z.bel (by omega) _ _,two_ q _ _,oth2 z.hl z.ne.1.2.2.2.1 _ _,oth2 z.hm z.ne.2.2.2.1 _ _⟩ ?_;rintro o ⟨hb,q,hl,hm⟩;obtain⟨L,K⟩:=q.c2;refine bodyPost_ret (v:=.agg #[.slice (sA a 0) n N,.slice (sA g 0) n M]) (by simp [results,results198,go_sem,L,K]) rfl ?_;have k1:=z.ll;have k2:=z.lm;have k3:=HN.out;have k4:=HM.out;exact⟨some ⟨a,0,none⟩,N,some ⟨g,0,none⟩,M,by simp only [k1,k2],hl.own z.ge.1 (RowB.lt hl) (by omega) a3,hm.own z.ge.2 (RowB.lt hm) (by omega) b3,λ k hk V=>Y (by simp [Value.ownBlock] at hk V;omega),hb⟩
 ·cases I
  case true=>exact absurd (hh rfl) gT
  case false =>
   obtain rfl:R=(inc l f (-1),m):=by rw [<-HR.out];simp [afterP,gT]
   have q:=A.rr;have y0:=q.c2.1;have y1:=q.c2.2;have fr:=q.frozen;have ai:=q.lt;go_wp2_with fail;refine bp_gen (λ o=>zB w o∧RowB o (w.heap.size+3) 51 [.slice (sA a 0) n N,.slice (sA g 0) n M]∧RowI o a (inc l f (-1)) ra∧RowI o g (m) rc) ⟨below_two A.bel (by omega) _ _,two_ q _ _,oth2 A.hl A.ne.1.2.2.2.1 _ _,oth2 A.hm A.ne.2.2.2.1 _ _⟩ ?_;rintro o ⟨hb,q,hl,hm⟩;obtain⟨L,K⟩:=q.c2;refine bodyPost_ret (v:=.agg #[.slice (sA a 0) n N,.slice (sA g 0) n M]) (by simp [results,results198,go_sem,L,K]) rfl ?_;have k1:=A.ll;have k2:=A.lm;have k3:=HN.out;have k4:=HM.out;exact⟨some ⟨a,0,none⟩,N,some ⟨g,0,none⟩,M,by simp only [k1,k2],hl.own A.ge.1 (RowB.lt hl) (by omega) a3,hm.own A.ge.2 (RowB.lt hm) (by omega) b3,λ k hk V=>Y (by simp [Value.ownBlock] at hk V;omega),hb⟩
end Bd7
namespace Bd7S
open Go.ChangeShapes Go.WideShapes Go.ChangeAt Go.RowKit Base Ints Own Clone RelG PlP Bd1 Bd6 Bd7 RegInv
structure Sr (w W:World) (vs ss:List Value) (gv gs gr a c n:Nat) (l m:List Int) (ra rc:List Value):Prop where
 bel:zB w W
 rv:RowB W gv 25 vs
 rs:RowB W gs 111 ss
 rr:RowB W gr 51 [.slice none 0 0,.slice none 0 0]
 hl:RowI W a l ra
 hm:RowI W c m rc
 ll:l.length=n
 lm:m.length=n
 ne:(a≠c∧a≠gv∧a≠gs∧a≠gr)∧(c≠gv∧c≠gs∧c≠gr)
 ge:w.heap.size<=a∧w.heap.size<=c
section
variable {w W:World} {vs ss:List Value} {gv gs gr a c n:Nat} {l m:List Int} {ra rc:List Value}
theorem Sr.drew (h:Sr w W vs ss gv gs gr a c n l m ra rc):Sr w W.drew vs ss gv gs gr a c n l m ra rc :=
 ⟨h.bel.drew,h.rv.drew,h.rs.drew,h.rr.drew,RowB.drew h.hl,RowB.drew h.hm,h.ll,h.lm,h.ne,h.ge⟩
theorem Sr.putA (h:Sr w W vs ss gv gs gr a c n l m ra rc) {i:Nat} (hi:i<n) (x y:Int) (hx:PlP.at_ l i+y=x):Sr w (W.setCell ⟨a,i,none⟩ (iL x)) vs ss gv gs gr a c n (inc l i y) m ra rc:=by
 obtain⟨B,A,z,v,t,s,r,q,e,d⟩:=h;have k:=e;obtain⟨⟨o,j,g,f⟩,-⟩:=k;have b:inc l i y=l.set i x:=by unfold inc;rw [hx]
 exact⟨B.setCell (p:=⟨a,i,none⟩) d.1 _,A.other (p:=⟨a,i,none⟩) (Ne.symm j) _,z.other (p:=⟨a,i,none⟩) (Ne.symm g) _,v.other (p:=⟨a,i,none⟩) (Ne.symm f) _,by rw [b];exact t.put (by omega) _,RowB.other s (p:=⟨a,i,none⟩) (Ne.symm o) _,by rw [b,List.length_set];exact r,q,e,d⟩
theorem Sr.putC (h:Sr w W vs ss gv gs gr a c n l m ra rc) {i:Nat} (hi:i<n) (x y:Int) (hx:PlP.at_ m i+y=x):Sr w (W.setCell ⟨c,i,none⟩ (iL x)) vs ss gv gs gr a c n l (inc m i y) ra rc:=by
 obtain⟨B,A,z,v,t,s,r,q,e,d⟩:=h;have b:inc m i y=m.set i x:=by unfold inc;rw [hx]
 have k:=e;obtain⟨⟨o,-⟩,j,g,f⟩:=k;exact⟨B.setCell (p:=⟨c,i,none⟩) d.2 _,A.other (p:=⟨c,i,none⟩) (Ne.symm j) _,z.other (p:=⟨c,i,none⟩) (Ne.symm g) _,v.other (p:=⟨c,i,none⟩) (Ne.symm f) _,RowB.other t (p:=⟨c,i,none⟩) o _,by rw [b];exact s.put (by omega) _,r,by rw [b,List.length_set];exact q,e,d⟩
end
structure ApF (w:World) (Ao At:Option Addr) (co ct:Nat) (l m:List Int) (vs ss:List Value) (L:Nat->Prop) (v7 v8 v10 v11 v12 v13 v14 v15:Value) (w':World):Prop where
 bel:zB w w'
 rv:RowB w' w.heap.size 25 vs
 rb:RowB w' (w.heap.size+1) 51 [.slice Ao l.length co,.slice At m.length ct]
 rs:RowB w' (w.heap.size+2) 111 ss
 rr:RowB w' (w.heap.size+3) 51 [.slice none 0 0,.slice none 0 0]
 f0:L 0->v10=pT (w.heap.size+1) 0
 f1:L 1->v11=.slice Ao l.length co
 f2:L 2->∃(A1:Option Addr) (c1:Nat),v12=.slice A1 l.length c1∧OwnS w' (w.heap.size+4) w'.heap.size 2 1 enI (.slice A1 l.length c1) l
 f3:L 3->v13=pT (w.heap.size+1) 1
 f4:L 4->v14=.slice At m.length ct
 f5:L 5->(∃(A1:Option Addr) (c1:Nat),v15=.slice A1 m.length c1∧OwnS w' (w.heap.size+4) w'.heap.size 2 1 enI (.slice A1 m.length c1) m)∧(L 2->Own.Apart v12 v15)
 f6:L 6->v7=v12
 f7:L 7->v8=v15
theorem after_s (v:Vr) (b:Bd) (hb:Ok v b) (Ao At:Option Addr) (co ct B:Nat) (s:Stp) (hs:StOk v s) (w:World) (hB:B<=w.heap.size) (ho:RdS w B 1 enI Ao b.1) (ht:RdS w B 1 enI At b.2) (hA:Ao=none->co=0) (hT:At=none->ct=0) :
  Calls prog 180 #[vA v,.agg #[.slice Ao b.1.length co,.slice At b.2.length ct],.agg #[iL s.1,iL s.2.1,iL s.2.2.1,.bool s.2.2.2]] w λ e w'=>BoardR (afterP v b s).1 (afterP v b s).2 w e w':=by
 have hv:=hb.v1;have av:=kD (sd_bd hb).1;have ar:=kD (sd_bd hb).2;have N:=hb.own.len;have aC:=hb.oth.len;obtain⟨P,hP⟩:∃ P:Nat,v.p=(P:Int):=⟨v.p.toNat,by omega⟩;have aF:P<=24:=by omega
 have ax:=kD (λ(w9:World) (h:zB w w9)=>own02 Ao co B b.1 w9 (Nat.le_trans hB h.size) (ho.below h hB) hA (by omega));have aw:=kD (λ(w9:World) (h:zB w w9)=>own02 At ct B b.2 w9 (Nat.le_trans hB h.size) (ht.below h hB) hT (by omega));obtain⟨F0,T,d,aa⟩:=s;obtain⟨⟨ai,aE⟩,⟨aB,aA⟩,hh⟩:=hs;simp only at ai aE aB aA hh;obtain⟨f,rfl⟩:=Int.eq_ofNat_of_zero_le ai;obtain⟨R,hR⟩:=eX (afterP v b ((f:Int),T,d,aa));have HR:=kD hR;simp only;rw [hR];obtain⟨p,c,h,s⟩:=v;obtain⟨l,m⟩:=b;simp only at *;subst hP;obtain⟨n,hn⟩:=eX (P+1);have ad:l.length=n:=by omega
 have ac:m.length=n:=by omega
 have HN:=kD ad;have HM:=kD ac;clear hb ho ht hR ai hA hT N aC ad ac;go_enter func180,ntmps180;go_upto_region 1 with fail;refine wp_gen (λ E=>zB w E∧RowB E w.heap.size 25 [iL (P:Int),iL c,iL h,iL s]∧RowB E (w.heap.size+1) 51 [.slice Ao l.length co,.slice At m.length ct]∧RowB E (w.heap.size+2) 111 [iL (f:Int),iL T,iL d,.bool aa]∧RowB E (w.heap.size+3) 51 [.slice none 0 0,.slice none 0 0]) ⟨by go_grown,(((RowB.new _ _ _).alloc _).alloc _).alloc _,RowB.alloc (RowB.alloc (RowB.new' _ _ _ (by first | simp | go_size | rfl)) _) _,RowB.alloc (RowB.new' _ _ _ (by first | simp | go_size | rfl)) _,RowB.new' _ _ _ (by first | simp | go_size | rfl)⟩ ?_;rintro w1 ⟨ap,rv,rb,rs,G⟩;refine region_inv (λ a0 L a w'=>∃ V S C A q z y o:Value,a=((((((((a0.put (some 7) V).put (some 8) S).put (some 10) C).put (some 11) A).put (some 12) q).put (some 13) z).put (some 14) y).put (some 15) o)∧ApF w Ao At co ct l m [iL (P:Int),iL c,iL h,iL s] [iL (f:Int),iL T,iL d,.bool aa] L V S C A q z y o w') (by kernel_rfl) (by kernel_rfl) ?h0 ?hst ?fin
 case h0 =>
  exact⟨_,_,_,_,_,_,_,_,by simp only [Act.put,sX];exact rfl,⟨ap.drew,rv.drew,rb.drew,rs.drew,G.drew,λ h=>(h:False).elim,λ h=>(h:False).elim,λ h=>(h:False).elim,λ h=>(h:False).elim,λ h=>(h:False).elim,λ h=>(h:False).elim,λ h=>(h:False).elim,λ h=>(h:False).elim⟩⟩
 case hst =>
  refine StepsFrom.cons rfl (λ L a w' hI H D I K hK=>?_) ?_
  ·obtain⟨V,S,C,A,q,z,y,o,ha,F⟩:=hI;subst ha;simp only [Act.put,sX];go_simp;exact hK.out _ _ ⟨V,S,_,A,q,z,y,o,by simp only [Act.put,sX],⟨F.bel,F.rv,F.rb,F.rs,F.rr,λ _=>rfl,λ h=>F.f1 (rL h),λ h=>F.f2 (rL h),λ h=>F.f3 (rL h),λ h=>F.f4 (rL h),λ h=>⟨(F.f5 (rL h)).1,λ O=>(F.f5 (rL h)).2 (rL O)⟩,λ h=>F.f6 (rL h),λ h=>F.f7 (rL h)⟩⟩
  refine StepsFrom.cons rfl (λ L a w' hI H D I K hK=>?_) ?_
  ·obtain⟨V,S,C,A,q,z,y,o,ha,F⟩:=hI;have r0:=F.rb.c2.1;have r1:=F.rb.c2.2;have hl:=F.rb.lt;have e3:=F.f0 (bK D 0);subst ha;simp only [Act.put,sX,e3];go_simp;exact hK.out _ _ ⟨V,S,C,_,q,z,y,o,by simp only [Act.put,sX,e3],⟨F.bel,F.rv,F.rb,F.rs,F.rr,λ h=>F.f0 (rL h),λ _=>rfl,λ h=>F.f2 (rL h),λ h=>F.f3 (rL h),λ h=>F.f4 (rL h),λ h=>⟨(F.f5 (rL h)).1,λ O=>(F.f5 (rL h)).2 (rL O)⟩,λ h=>F.f6 (rL h),λ h=>F.f7 (rL h)⟩⟩
  refine StepsFrom.cons rfl (λ L a w' hI H D I K hK=>?_) ?_
  ·obtain⟨V,S,C,A,q,z,y,o,ha,F⟩:=hI;have e4:=F.f1 (bK D 1);have aD:=F.rr.lt;subst ha;simp only [Act.put,sX,e4];go_simp;refine(ax.out w' F.bel).mono ?_;rintro e w2 ⟨⟨vv,rfl,ho⟩,hb⟩;obtain⟨A1,c1,rfl,-⟩:=ho.form enI_len;exact hK.out _ _ ⟨V,S,C,A,_,z,y,o,by simp only [Act.put,sX,e4],⟨F.bel.tR hb,F.rv.below hb F.rv.lt,F.rb.below hb F.rb.lt,F.rs.below hb F.rs.lt,F.rr.below hb F.rr.lt,λ h=>F.f0 (rL h),λ h=>F.f1 (rL h),λ _=>⟨A1,c1,rfl,ho.less (by omega)⟩,λ h=>F.f3 (rL h),λ h=>F.f4 (rL h),λ h=>by obtain⟨⟨A2,c2,h1,O⟩,h3⟩:=F.f5 (rL h);exact⟨⟨A2,c2,h1,(O.below hb (Nat.le_refl _)).more hb.size⟩,λ _=>by rw [h1];exact λ k hk Q=>by have:=O.2 k Q;have:=(ho.block k hk).1;omega⟩,λ h=>absurd (I 6 2 (by kernel_rfl) (rL h)) H,λ h=>absurd (I 7 2 (by kernel_rfl) (rL h)) H⟩⟩
  refine StepsFrom.cons rfl (λ L a w' hI H D I K hK=>?_) ?_
  ·obtain⟨V,S,C,A,q,z,y,o,ha,F⟩:=hI;subst ha;simp only [Act.put,sX];go_simp;exact hK.out _ _ ⟨V,S,C,A,q,_,y,o,by simp only [Act.put,sX],⟨F.bel,F.rv,F.rb,F.rs,F.rr,λ h=>F.f0 (rL h),λ h=>F.f1 (rL h),λ h=>F.f2 (rL h),λ _=>rfl,λ h=>F.f4 (rL h),λ h=>⟨(F.f5 (rL h)).1,λ O=>(F.f5 (rL h)).2 (rL O)⟩,λ h=>F.f6 (rL h),λ h=>F.f7 (rL h)⟩⟩
  refine StepsFrom.cons rfl (λ L a w' hI H D I K hK=>?_) ?_
  ·obtain⟨V,S,C,A,q,z,y,o,ha,F⟩:=hI;have r0:=F.rb.c2.1;have r1:=F.rb.c2.2;have hl:=F.rb.lt;have e6:=F.f3 (bK D 3);subst ha;simp only [Act.put,sX,e6];go_simp;exact hK.out _ _ ⟨V,S,C,A,q,z,_,o,by simp only [Act.put,sX,e6],⟨F.bel,F.rv,F.rb,F.rs,F.rr,λ h=>F.f0 (rL h),λ h=>F.f1 (rL h),λ h=>F.f2 (rL h),λ h=>F.f3 (rL h),λ _=>rfl,λ h=>⟨(F.f5 (rL h)).1,λ O=>(F.f5 (rL h)).2 (rL O)⟩,λ h=>F.f6 (rL h),λ h=>F.f7 (rL h)⟩⟩
  refine StepsFrom.cons rfl (λ L a w' hI H D I K hK=>?_) ?_
  ·obtain⟨V,S,C,A,q,z,y,o,ha,F⟩:=hI;have e7:=F.f4 (bK D 4);have aD:=F.rr.lt;subst ha;simp only [Act.put,sX,e7];go_simp;refine(aw.out w' F.bel).mono ?_;rintro e w2 ⟨⟨vv,rfl,ho⟩,hb⟩;obtain⟨A1,c1,rfl,-⟩:=ho.form enI_len;exact hK.out _ _ ⟨V,S,C,A,q,z,y,_,by simp only [Act.put,sX,e7],⟨F.bel.tR hb,F.rv.below hb F.rv.lt,F.rb.below hb F.rb.lt,F.rs.below hb F.rs.lt,F.rr.below hb F.rr.lt,λ h=>F.f0 (rL h),λ h=>F.f1 (rL h),λ h=>by obtain⟨A2,c2,h1,O⟩:=F.f2 (rL h);exact⟨A2,c2,h1,(O.below hb (Nat.le_refl _)).more hb.size⟩,λ h=>F.f3 (rL h),λ h=>F.f4 (rL h),λ _=>⟨⟨A1,c1,rfl,ho.less (by omega)⟩,λ O=>by obtain⟨A2,c2,h1,h3⟩:=F.f2 (rL O);rw [h1];exact λ k hk Q=>by have:=h3.2 k hk;have:=(ho.block k Q).1;omega⟩,λ h=>absurd (I 6 5 (by kernel_rfl) (rL h)) H,λ h=>absurd (I 7 5 (by kernel_rfl) (rL h)) H⟩⟩
  refine StepsFrom.cons rfl (λ L a w' hI H D I K hK=>?_) ?_
  ·obtain⟨V,S,C,A,q,z,y,o,ha,F⟩:=hI;subst ha;simp only [Act.put,sX];go_simp;exact hK.out _ _ ⟨q,S,C,A,q,z,y,o,by simp only [Act.put,sX],⟨F.bel,F.rv,F.rb,F.rs,F.rr,λ h=>F.f0 (rL h),λ h=>F.f1 (rL h),λ h=>F.f2 (rL h),λ h=>F.f3 (rL h),λ h=>F.f4 (rL h),λ h=>⟨(F.f5 (rL h)).1,λ O=>(F.f5 (rL h)).2 (rL O)⟩,λ _=>rfl,λ h=>F.f7 (rL h)⟩⟩
  refine StepsFrom.cons rfl (λ L a w' hI H D I K hK=>?_) ?_
  ·obtain⟨V,S,C,A,q,z,y,o,ha,F⟩:=hI;subst ha;simp only [Act.put,sX];go_simp;exact hK.out _ _ ⟨V,o,C,A,q,z,y,o,by simp only [Act.put,sX],⟨F.bel,F.rv,F.rb,F.rs,F.rr,λ h=>F.f0 (rL h),λ h=>F.f1 (rL h),λ h=>F.f2 (rL h),λ h=>F.f3 (rL h),λ h=>F.f4 (rL h),λ h=>⟨(F.f5 (rL h)).1,λ O=>(F.f5 (rL h)).2 (rL O)⟩,λ h=>F.f6 (rL h),λ _=>rfl⟩⟩
  exact StepsFrom.nil (by decide)
 case fin =>
  rintro L a' w3 ⟨V,S,C,A,q,z,y,o,rfl,Fx⟩ hL;obtain⟨⟨A2,c2,e8,o2⟩,ae⟩:=Fx.f5 (hL 5 (by decide));obtain⟨A1,c1,e5,o1⟩:=Fx.f2 (hL 2 (by decide));have ae:=ae (hL 2 (by decide));have f6:=Fx.f6 (hL 6 (by decide));have f7:=Fx.f7 (hL 7 (by decide));subst f6 f7;subst e8 e5;have ad:=HN.out;have ac:=HM.out;obtain⟨a,ca,ra,h1,a1,a2,a3,a4,an⟩:=RowI.of o1 (by omega);obtain⟨g,cc,rc,O,b1,b2,b3,b4,am⟩:=RowI.of o2 (by omega);simp only [Value.slice.injEq,true_and] at h1 O;obtain⟨rfl,rfl⟩:=h1;obtain⟨rfl,rfl⟩:=O;have af:a≠g:=λ h=>ae a rfl (by rw [h];rfl)
  have K3:Sr w w3 [iL (P:Int),iL c,iL h,iL s] [iL (f:Int),iL T,iL d,.bool aa] w.heap.size (w.heap.size+2) (w.heap.size+3) a g n l m ra rc:=⟨Fx.bel,Fx.rv,Fx.rs,Fx.rr,an,am,ad,ac,⟨⟨af,by omega,by omega,by omega⟩,by omega,by omega,by omega⟩,by omega,by omega⟩;clear Fx hL o1 o2 ae an am rv rb rs G ap;simp only [Act.put,sX,ad,ac];clear ad ac;obtain⟨q0,q1,q2,q3⟩:=K3.rv.c4;obtain⟨s0,s1,s2,s3⟩:=K3.rs.c4;have fa:=RowB.frozen K3.hl;have fc:=RowB.frozen K3.hm;have Z:=K3.rv.lt;have N:=K3.rs.lt;have Y:=RowB.lt K3.hl;have X:=RowB.lt K3.hm;have ah:f<n:=by omega
  have aI:(f:Int)<(n:Int):=by omega
  have ak:=RowI.at_ K3.hl (i:=f) (by rw [K3.ll];exact ah);have ab:IntKind.i64.wrap (at_ l f - 1)=at_ l f - 1:=by have:=av.out f;exact IntWalk.i64_in _ (by omega)
  go_wp2_with fail;go_still_tail 10,(by kernel_rfl);go_upto_region 3 with fail;refine wp_gen (λ E=>Sr w E [iL (P:Int),iL c,iL h,iL s] [iL (f:Int),iL T,iL d,.bool aa] w.heap.size (w.heap.size+2) (w.heap.size+3) a g n (inc l f (-1)) m ra rc) (K3.drew.putA ah _ (-1) rfl) ?_;intro w4 M;clear q0 q1 q2 q3 s0 s1 s2 s3 fa fc Z N Y X ak ab K3;obtain⟨q0,q1,q2,q3⟩:=M.rv.c4;obtain⟨s0,s1,s2,s3⟩:=M.rs.c4;have fa:=RowB.frozen M.hl;have fc:=RowB.frozen M.hm;have Z:=M.rv.lt;have N:=M.rs.lt;have Y:=RowB.lt M.hl;have X:=RowB.lt M.hm;by_cases gT:0<=T
  ·obtain⟨t,rfl⟩:=Int.eq_ofNat_of_zero_le gT;have al:t<n:=by omega
   have aG:(t:Int)<(n:Int):=by omega
   have ak:=RowI.at_ M.hl (i:=t) (by rw [M.ll];exact al);have ab:IntKind.i64.wrap (at_ (inc l f (-1)) t+1)=at_ (inc l f (-1)) t+1:=by
    have:=inc_bd (k:=0) av.out (x:=-1) (by omega) (i:=f) (by rw [HN.out];exact ah) t;exact IntWalk.i64_in _ (by omega)
   go_wp2_with fail;go_still_tail 10,(by kernel_rfl);go_upto_region 5 with fail;refine wp_gen (λ E=>Sr w E [iL (P:Int),iL c,iL h,iL s] [iL (f:Int),iL (t:Int),iL d,.bool aa] w.heap.size (w.heap.size+2) (w.heap.size+3) a g n (inc (inc l f (-1)) t 1) m ra rc) (M.drew.putA al _ 1 rfl) ?_;intro w5 J;clear q0 q1 q2 q3 s0 s1 s2 s3 fa fc Z N Y X ak ab M;obtain⟨q0,q1,q2,q3⟩:=J.rv.c4;obtain⟨s0,s1,s2,s3⟩:=J.rs.c4;have fa:=RowB.frozen J.hl;have fc:=RowB.frozen J.hm;have Z:=J.rv.lt;have N:=J.rs.lt;have Y:=RowB.lt J.hl;have X:=RowB.lt J.hm
   cases aa
   case true =>
    obtain⟨j,hj⟩:∃ j:Nat,(P:Int) - 1 - (t:Int)=(j:Int):=⟨((P:Int) - 1 - (t:Int)).toNat,by omega⟩;have ej:((P:Int) - 1 - (t:Int)).toNat=j:=by omega
    obtain rfl:R=(inc (inc l f (-1)) t 1,inc (inc m j (-1)) P 1):=by rw [<-HR.out];simp [afterP,ej]
    clear ej;have ag:j<n:=by omega
    have aH:(j:Int)<(n:Int):=by omega
    have aj:=RowI.at_ J.hm (i:=j) (by rw [J.lm];exact ag);have ab:IntKind.i64.wrap (at_ m j - 1)=at_ m j - 1:=by have:=ar.out j;exact IntWalk.i64_in _ (by omega)
    have az:=iW (((P:Int) - 1));have ay:IntKind.i64.wrap ((P:Int) - 1 - (t:Int))=(j:Int):=by rw [hj];exact IntWalk.i64_in _ (by omega)
    go_upto_region 8 with fail;refine wp_gen (λ E=>Sr w E [iL (P:Int),iL c,iL h,iL s] [iL (f:Int),iL (t:Int),iL d,.bool true] w.heap.size (w.heap.size+2) (w.heap.size+3) a g n (inc (inc l f (-1)) t 1) (inc m j (-1)) ra rc) (J.putC ag _ (-1) rfl) ?_;intro w6 K6;clear q0 q1 q2 q3 s0 s1 s2 s3 fa fc Z N Y X aj ab az ay J;obtain⟨q0,q1,q2,q3⟩:=K6.rv.c4;obtain⟨s0,s1,s2,s3⟩:=K6.rs.c4;have fa:=RowB.frozen K6.hl;have fc:=RowB.frozen K6.hm;have Z:=K6.rv.lt;have N:=K6.rs.lt;have Y:=RowB.lt K6.hl;have X:=RowB.lt K6.hm;have aq:P<n:=by omega
    have aJ:(P:Int)<(n:Int):=by omega
    have aj:=RowI.at_ K6.hm (i:=P) (by rw [K6.lm];exact aq);have ab:IntKind.i64.wrap (at_ (inc m j (-1)) P+1)=at_ (inc m j (-1)) P+1:=by
     have:=inc_bd (k:=0) ar.out (x:=-1) (by omega) (i:=j) (by rw [HM.out];exact ag) P;exact IntWalk.i64_in _ (by omega)
    go_wp2_with fail;go_still_tail 10,(by kernel_rfl);go_upto_region 9 with fail;refine wp_gen (λ E=>Sr w E [iL (P:Int),iL c,iL h,iL s] [iL (f:Int),iL (t:Int),iL d,.bool true] w.heap.size (w.heap.size+2) (w.heap.size+3) a g n (inc (inc l f (-1)) t 1) (inc (inc m j (-1)) P 1) ra rc) (K6.drew.putC aq _ 1 rfl) ?_;intro w7 W;clear q0 q1 q2 q3 s0 s1 s2 s3 fa fc Z N Y X aj ab K6;obtain⟨q0,q1,q2,q3⟩:=W.rv.c4;obtain⟨s0,s1,s2,s3⟩:=W.rs.c4;have fa:=RowB.frozen W.hl;have fc:=RowB.frozen W.hm;have Z:=W.rv.lt;have N:=W.rs.lt;have Y:=RowB.lt W.hl;have X:=RowB.lt W.hm;have G:=W.rr;have y0:=G.c2.1;have y1:=G.c2.2;have fr:=G.frozen;have ao:=G.lt;go_wp2_with fail;refine bp_gen (λ E=>zB w E∧RowB E (w.heap.size+3) 51 [.slice (sA a 0) n c1,.slice (sA g 0) n c2]∧RowI E a (inc (inc l f (-1)) t 1) ra∧RowI E g (inc (inc m j (-1)) P 1) rc) ⟨below_two W.bel (by omega) _ _,two_ G _ _,oth2 W.hl W.ne.1.2.2.2 _ _,oth2 W.hm W.ne.2.2.2 _ _⟩ ?_;rintro E ⟨hb,G,hl,hm⟩;obtain⟨z0,z1⟩:=G.c2;refine bodyPost_ret (v:=.agg #[.slice (sA a 0) n c1,.slice (sA g 0) n c2]) (by simp [results,results180,go_sem,z0,z1]) rfl ?_;have k1:=W.ll;have k2:=W.lm;have k3:=HN.out;have k4:=HM.out;exact⟨some ⟨a,0,none⟩,c1,some ⟨g,0,none⟩,c2,by simp only [k1,k2],hl.own W.ge.1 (RowB.lt hl) (by omega) a3,hm.own W.ge.2 (RowB.lt hm) (by omega) b3,λ k hk Q=>af (by simp [Value.ownBlock] at hk Q;omega),hb⟩
   case false =>
    obtain rfl:R=(inc (inc l f (-1)) t 1,m):=by rw [<-HR.out];simp [afterP]
    have G:=J.rr;have y0:=G.c2.1;have y1:=G.c2.2;have fr:=G.frozen;have ao:=G.lt;go_wp2_with fail;refine bp_gen (λ E=>zB w E∧RowB E (w.heap.size+3) 51 [.slice (sA a 0) n c1,.slice (sA g 0) n c2]∧RowI E a (inc (inc l f (-1)) t 1) ra∧RowI E g (m) rc) ⟨below_two J.bel (by omega) _ _,two_ G _ _,oth2 J.hl J.ne.1.2.2.2 _ _,oth2 J.hm J.ne.2.2.2 _ _⟩ ?_;rintro E ⟨hb,G,hl,hm⟩;obtain⟨z0,z1⟩:=G.c2;refine bodyPost_ret (v:=.agg #[.slice (sA a 0) n c1,.slice (sA g 0) n c2]) (by simp [results,results180,go_sem,z0,z1]) rfl ?_;have k1:=J.ll;have k2:=J.lm;have k3:=HN.out;have k4:=HM.out;exact⟨some ⟨a,0,none⟩,c1,some ⟨g,0,none⟩,c2,by simp only [k1,k2],hl.own J.ge.1 (RowB.lt hl) (by omega) a3,hm.own J.ge.2 (RowB.lt hm) (by omega) b3,λ k hk Q=>af (by simp [Value.ownBlock] at hk Q;omega),hb⟩
  ·cases aa
   case true=>exact absurd (hh rfl) gT
   case false =>
    obtain rfl:R=(inc l f (-1),m):=by rw [<-HR.out];simp [afterP,gT]
    have G:=M.rr;have y0:=G.c2.1;have y1:=G.c2.2;have fr:=G.frozen;have ao:=G.lt;go_wp2_with fail;refine bp_gen (λ E=>zB w E∧RowB E (w.heap.size+3) 51 [.slice (sA a 0) n c1,.slice (sA g 0) n c2]∧RowI E a (inc l f (-1)) ra∧RowI E g (m) rc) ⟨below_two M.bel (by omega) _ _,two_ G _ _,oth2 M.hl M.ne.1.2.2.2 _ _,oth2 M.hm M.ne.2.2.2 _ _⟩ ?_;rintro E ⟨hb,G,hl,hm⟩;obtain⟨z0,z1⟩:=G.c2;refine bodyPost_ret (v:=.agg #[.slice (sA a 0) n c1,.slice (sA g 0) n c2]) (by simp [results,results180,go_sem,z0,z1]) rfl ?_;have k1:=M.ll;have k2:=M.lm;have k3:=HN.out;have k4:=HM.out;exact⟨some ⟨a,0,none⟩,c1,some ⟨g,0,none⟩,c2,by simp only [k1,k2],hl.own M.ge.1 (RowB.lt hl) (by omega) a3,hm.own M.ge.2 (RowB.lt hm) (by omega) b3,λ k hk Q=>af (by simp [Value.ownBlock] at hk Q;omega),hb⟩
end Bd7S
namespace Bd8
open Go.ChangeShapes Go.WideShapes Go.ChangeAt Go.RowKit Base Ints Own RelG PlP
def en1 (v:Value):List Value:=[v]
theorem en1_len (v:Value):(en1 v).length=1:=rfl
theorem flat1 (rs:List Value):rs.flatMap en1=rs:=by
 induction rs with
 | nil=>rfl
 | cons x l ih=>rw [List.flatMap_cons,ih];rfl
abbrev RelI:Rel Value (List Int):=relV 1 enI
theorem sl_new {w:World} {g lo:Nat} {e:TypeId} {xs:List Int} (h:RowB w g e (xs.flatMap enI)) (hm:xs.length<=maxLen) (hg:lo<=g):SlV 1 enI w (λ b=>lo<=b) (.slice (sA g 0) xs.length xs.length) xs :=
 (OwnV.of (RowB.own (lo:=lo) (hi:=w.heap.size) h enI_len hg h.lt hm) (Nat.le_refl _) (λ b hb _=>hb)).sl enI_len
theorem slg_new {α:Type} {K:Rel Value α} {w:World} {g n lo:Nat} {e:TypeId} {rs:List Value} {xs:List α} (h:RowB w g e rs) (hl:LsR K w (λ b=>lo<=b) rs xs) (hn:xs.length=n) (hm:n<=maxLen) (hg:lo<=g):SlG K 1 en1 w (λ b=>lo<=b) (.slice (sA g 0) n n) xs:=by
 have l:=hl.1;have f:OwnS w lo w.heap.size e 1 en1 (.slice (sA g 0) rs.length rs.length) rs:=RowB.own (by rw [flat1];exact h) en1_len hg h.lt (by omega);have d:=(OwnV.of f (Nat.le_refl _) (S:=λ b=>lo<=b) (λ b i _=>i)).sl en1_len;obtain⟨A,c,a,k,j⟩:=d;simp only [Value.slice.injEq] at a;obtain⟨rfl,-,rfl⟩:=a;exact⟨_,_,rs,by rw [l,hn],k,hl,j⟩
def OrdersR (xs:List (List Int)) (w:World) (e:Ending) (w':World):Prop :=
 ∃ vv,e=.returned vv∧SlG RelI 1 en1 w' (λ b=>w.heap.size<=b) vv xs∧zB w w'
theorem orders_i (a b:Int) (w:World):Calls prog 173 #[.agg #[iL a,iL b]] w λ e w'=>OrdersR (ordP a b) w e w':=by
 by_cases h:a=b
 ·have i:Hid (ordP a b=[[a,a,a,a]]):=kD (by unfold ordP;rw [if_pos h]);have k:(a == b)=true:=by simp [h]
  clear h;go_enter func173,ntmps173;go_wp2_with fail;refine bp_gen (λ c=>zB w c∧RowB c (w.heap.size+1) 2 [iL a,iL a,iL a,iL a]∧RowB c (w.heap.size+2) 49 [.slice (sA (w.heap.size+1) 0) 4 4]) ⟨by go_grown,RowB.alloc (RowB.new' _ _ _ (by first | simp | go_size | rfl)) _,RowB.new' _ _ _ (by first | simp | go_size | rfl)⟩ ?_;rintro c ⟨d,g,f⟩;go_ret;refine⟨_,rfl,?_,d⟩;rw [i.out];exact slg_new f (LsR.snoc (LsR.nil _ _ _) (sl_new (xs:=[a,a,a,a]) g (show (4:Nat)<=maxLen by decide) (by omega))) rfl (by decide) (by omega)
 ·have i:Hid (ordP a b=[[a,b],[b,a]]):=kD (by unfold ordP;rw [if_neg h]);have k:(a == b)=false:=by simp [h]
  clear h;go_enter func173,ntmps173;go_wp2_with fail;refine bp_gen (λ c=>zB w c∧RowB c (w.heap.size+1) 2 [iL a,iL b]∧RowB c (w.heap.size+2) 2 [iL b,iL a]∧RowB c (w.heap.size+3) 49 [.slice (sA (w.heap.size+1) 0) 2 2,.slice (sA (w.heap.size+2) 0) 2 2]) ⟨by go_grown,RowB.alloc (RowB.alloc (RowB.new' _ _ _ (by first | simp | go_size | rfl)) _) _,RowB.alloc (RowB.new' _ _ _ (by first | simp | go_size | rfl)) _,RowB.new' _ _ _ (by first | simp | go_size | rfl)⟩ ?_;rintro c ⟨d,g,f,j⟩;go_ret;refine⟨_,rfl,?_,d⟩;rw [i.out];exact slg_new j (LsR.snoc (LsR.snoc (LsR.nil _ _ _) (sl_new (xs:=[a,b]) g (show (2:Nat)<=maxLen by decide) (by omega))) (sl_new (xs:=[b,a]) f (show (2:Nat)<=maxLen by decide) (by omega))) rfl (by decide) (by omega)
theorem orders_s (a b:Int) (w:World):Calls prog 107 #[.agg #[iL a,iL b]] w λ e w'=>OrdersR (ordP a b) w e w':=by
 by_cases h:a=b
 ·have i:Hid (ordP a b=[[a,a,a,a]]):=kD (by unfold ordP;rw [if_pos h]);have k:(a == b)=true:=by simp [h]
  clear h;go_enter func107,ntmps107;go_wp2_with fail;refine bp_gen (λ c=>zB w c∧RowB c (w.heap.size+1) 2 [iL a,iL a,iL a,iL a]∧RowB c (w.heap.size+2) 49 [.slice (sA (w.heap.size+1) 0) 4 4]) ⟨by go_grown,RowB.alloc (RowB.new' _ _ _ (by first | simp | go_size | rfl)) _,RowB.new' _ _ _ (by first | simp | go_size | rfl)⟩ ?_;rintro c ⟨d,g,f⟩;go_ret;refine⟨_,rfl,?_,d⟩;rw [i.out];exact slg_new f (LsR.snoc (LsR.nil _ _ _) (sl_new (xs:=[a,a,a,a]) g (show (4:Nat)<=maxLen by decide) (by omega))) rfl (by decide) (by omega)
 ·have i:Hid (ordP a b=[[a,b],[b,a]]):=kD (by unfold ordP;rw [if_neg h]);have k:(a == b)=false:=by simp [h]
  clear h;go_enter func107,ntmps107;go_wp2_with fail;refine bp_gen (λ c=>zB w c∧RowB c (w.heap.size+1) 2 [iL a,iL b]∧RowB c (w.heap.size+2) 2 [iL b,iL a]∧RowB c (w.heap.size+3) 49 [.slice (sA (w.heap.size+1) 0) 2 2,.slice (sA (w.heap.size+2) 0) 2 2]) ⟨by go_grown,RowB.alloc (RowB.alloc (RowB.new' _ _ _ (by first | simp | go_size | rfl)) _) _,RowB.alloc (RowB.new' _ _ _ (by first | simp | go_size | rfl)) _,RowB.new' _ _ _ (by first | simp | go_size | rfl)⟩ ?_;rintro c ⟨d,g,f,j⟩;go_ret;refine⟨_,rfl,?_,d⟩;rw [i.out];exact slg_new j (LsR.snoc (LsR.snoc (LsR.nil _ _ _) (sl_new (xs:=[a,b]) g (show (2:Nat)<=maxLen by decide) (by omega))) (sl_new (xs:=[b,a]) f (show (2:Nat)<=maxLen by decide) (by omega))) rfl (by decide) (by omega)
end Bd8
namespace Gm
open Go Go.ChangeShapes Go.WideShapes Go.ChangeAt Go.RowKit Base Ints Own Clone RelG PlP Bd1 Bd2 Bd4 Bd5 Bd6 Bd7 Bd8 RegInv RegF RegG
structure B3 (w wr:World) (v:Vr) (u1 u2:Value) (s:Stp):Prop where
 bel:zB w wr
 rv:RowB wr w.heap.size 25 (vL v)
 rb:RowB wr (w.heap.size+1) 51 [u1,u2]
 rs:RowB wr (w.heap.size+2) 111 [iL s.1,iL s.2.1,iL s.2.2.1,.bool s.2.2.2]
theorem B3.below {w wr w':World} {v:Vr} {u1 u2:Value} {s:Stp} (k:B3 w wr v u1 u2 s) (hb:zB wr w'):B3 w w' v u1 u2 s :=
 ⟨k.bel.tR hb,k.rv.below hb k.rv.lt,k.rb.below hb k.rb.lt,k.rs.below hb k.rs.lt⟩
theorem legal_s (v:Vr) (b:Bd) (hb:Ok v b) (S:Nat->Prop) (u1 u2:Value) (s:Stp) (w:World) (hR:BdR w S u1 u2 b) (x:Bool) (hx:legal1 v b s=x) :
  Calls prog 201 #[vA v,.agg #[u1,u2],.agg #[iL s.1,iL s.2.1,iL s.2.2.1,.bool s.2.2.2]] w λ e w'=>e=.returned (.bool x)∧zB w w':=by
 obtain⟨⟨P,L,rfl,W,_⟩,⟨O,J,rfl,V,_⟩⟩:=hR;obtain⟨f,t,d,h⟩:=s;simp only;obtain⟨a,H⟩:∃ a,decide (1<=d∧d<=v.s)=a:=⟨_,rfl⟩;obtain⟨c,G⟩:∃ a,decide (0<=f∧f<=v.p)=a:=⟨_,rfl⟩;have r:x=(a && c && (!over b && decide (stepP v b f d=some (f,t,d,h)))):=by
  rw [<-hx,<-H,<-G];unfold legal1;simp only;cases over b <;> simp
 have CA:=kD (λ m=>in_s d 1 v.s a H m);have CC:=kD (λ m=>in_s f 0 v.p c G m);have HA:=kD H;have HC:=kD G;have z:=kD r;have j:=kD (λ(l:Nat) (E:(l:Int)<=v.p) (F:1<=d∧d<=6) (m:World) (Z:zB w m)=>Bd4.step_s v b hb P O L J m.heap.size l d E F m (Nat.le_refl _) (W.keep (.below Z)).rd (V.keep (.below Z)).rd);obtain⟨Y,q⟩:=eX (b.1.length);obtain⟨X,o⟩:=eX (b.2.length);rw [q,o] at j;rw [q,o];have y:=hb.v1.2.2.2.2;have N:=kD y;clear r hx H G q o W V hb y;go_enter func201,ntmps201;go_upto_region 1 with fail;refine wp_gen (λ I=>B3 w I v (.slice P Y L) (.slice O X J) (f,t,d,h)) ⟨by go_grown,((RowB.new _ _ _).alloc _).alloc _,(RowB.new' _ _ _ (by simp)).alloc _,RowB.new' _ _ _ (by simp)⟩ ?_;intro w1 K;obtain⟨q0,q1,q2,q3⟩:=K.rv.c4;obtain⟨R,Q⟩:=K.rb.c2;obtain⟨D,C,B,A⟩:=K.rs.c4;go_wp2_with fail;refine(CA.out _).mono ?_;rintro e w2 ⟨rfl,rfl⟩
 cases a
 case false =>
  obtain rfl:x=false:=by rw [z.out];rfl
  go_wp2_with fail;go_ret;exact⟨rfl,K.bel⟩
 go_wp2_with fail;refine(CC.out _).mono ?_;rintro e w2 ⟨rfl,rfl⟩
 cases c
 case false =>
  obtain rfl:x=false:=by rw [z.out];rfl
  go_wp2_with fail;go_ret;exact⟨rfl,K.bel⟩
 have E:=of_decide_eq_true HC.out;have F:=of_decide_eq_true HA.out;obtain⟨l,rfl⟩:∃ l:Nat,f=l:=⟨f.toNat,by omega⟩;have j:=kD (j.out l E.2 ⟨F.1,by have:=N.out;omega⟩);clear E F;go_wp2_with fail;refine(j.out _ K.bel).mono ?_;rintro e w3 ⟨⟨f2,T,d2,h2⟩,ok,rfl,k,hb⟩;have K:=K.below hb;have i:=kD k;clear q0 q1 q2 q3 R Q D C B A k hb;obtain⟨D,C,B,A⟩:=K.rs.c4
 cases ok
 case false =>
  obtain rfl:x=false:=by
   rw [z.out];have g:=i.out;unfold opt at g
   cases ho:over b with
   | true=>simp
   | false=>rw [ho] at g;simp at g;rw [<-g];simp
  go_wp2_with fail;go_ret;exact⟨rfl,K.bel.alloc K.bel.size _⟩
 go_upto_region 4 with fail;refine wp_gen (λ I=>B3 w I v (.slice P Y L) (.slice O X J) ((l:Int),t,d,h)∧RowB I w3.heap.size 111 [iL f2,iL T,iL d2,.bool h2]) ⟨K.below ((Below.refl _ _).alloc (Nat.le_refl _) _),RowB.new _ _ _⟩ ?_;have M:Hid (x=decide ((f2,T,d2,h2)=((l:Int),t,d,h))):=by
  show _=_
  rw [z.out];have g:=i.out;unfold opt at g
  cases ho:over b with
  | true=>rw [ho] at g;simp at g
  | false =>
   rw [ho] at g;simp only [Bool.false_eq_true,if_false,if_true] at g;rw [<-g];simp
 clear z i K D C B A;rintro w4 ⟨K,r4⟩;obtain⟨D,C,B,A⟩:=K.rs.c4;obtain⟨R,Q,y2,y3⟩:=r4.c4;go_wp2_with fail
 all_goals (go_ret;refine⟨?_,K.bel⟩;rw [M.out];simp [*])
theorem legal_i (v:Vr) (b:Bd) (hb:Ok v b) (S:Nat->Prop) (u1 u2:Value) (s:Stp) (w:World) (hR:BdR w S u1 u2 b) (x:Bool) (hx:legal1 v b s=x) :
  Calls prog 197 #[vA v,.agg #[u1,u2],.agg #[iL s.1,iL s.2.1,iL s.2.2.1,.bool s.2.2.2]] w λ e w'=>e=.returned (.bool x)∧zB w w':=by
 obtain⟨⟨R,O,rfl,V,_⟩,⟨Q,N,rfl,T,_⟩⟩:=hR;obtain⟨f,t,d,h⟩:=s;simp only;obtain⟨a,M⟩:∃ a,decide (1<=d∧d<=v.s)=a:=⟨_,rfl⟩;obtain⟨c,L⟩:∃ a,decide (0<=f∧f<=v.p)=a:=⟨_,rfl⟩;have m:x=(a && c && (!over b && decide (stepP v b f d=some (f,t,d,h)))):=by
  rw [<-hx,<-M,<-L];unfold legal1;simp only;cases over b <;> simp
 have CA:=kD (λ g=>in_i d 1 v.s a M g);have CC:=kD (λ g=>in_i f 0 v.p c L g);obtain⟨o,ho⟩:=eX (over b);rw [ho] at m;have CO:=kD (λ(g:World) (F:zB w g)=>Bd2.over_i v b hb R Q O N g.heap.size g (Nat.le_refl _) (V.keep (.below F)).rd (T.keep (.below F)).rd o ho);have HA:=kD M;have HC:=kD L;have D:=kD m;have j:=kD (λ(l:Nat) (I:(l:Int)<=v.p) (J:1<=d∧d<=6) (g:World) (F:zB w g)=>Bd4.step_i v b hb R Q O N g.heap.size l d I J g (Nat.le_refl _) (V.keep (.below F)).rd (T.keep (.below F)).rd);obtain⟨n1,r⟩:=eX (b.1.length);obtain⟨n2,q⟩:=eX (b.2.length);rw [r,q] at j CO;rw [r,q];have E:=hb.v1.2.2.2.2;have ab:=kD E;clear m hx M L ho r q V T hb E;go_enter func197,ntmps197;go_upto_region 1 with fail;refine wp_gen (λ P=>B3 w P v (.slice R n1 O) (.slice Q n2 N) (f,t,d,h)) ⟨by go_grown,((RowB.new _ _ _).alloc _).alloc _,(RowB.new' _ _ _ (by simp)).alloc _,RowB.new' _ _ _ (by simp)⟩ ?_;intro w1 K;obtain⟨Z,Y,X,W⟩:=K.rv.c4;obtain⟨H,G⟩:=K.rb.c2;obtain⟨C,B,A,z⟩:=K.rs.c4;go_wp2_with fail;refine(CO.out _ K.bel).mono ?_;rintro e ac ⟨rfl,hb⟩;have K:=K.below hb;clear Z Y X W H G C B A z hb CO;obtain⟨Z,Y,X,W⟩:=K.rv.c4;obtain⟨H,G⟩:=K.rb.c2;obtain⟨C,B,A,z⟩:=K.rs.c4
 cases o
 case true =>
  obtain rfl:x=false:=by rw [D.out];simp
  go_wp2_with fail;go_ret;exact⟨rfl,K.bel⟩
 go_wp2_with fail;refine(CA.out _).mono ?_;rintro e w2 ⟨rfl,rfl⟩
 cases a
 case false =>
  obtain rfl:x=false:=by rw [D.out];rfl
  go_wp2_with fail;go_ret;exact⟨rfl,K.bel⟩
 go_wp2_with fail;refine(CC.out _).mono ?_;rintro e w2 ⟨rfl,rfl⟩
 cases c
 case false =>
  obtain rfl:x=false:=by rw [D.out];rfl
  go_wp2_with fail;go_ret;exact⟨rfl,K.bel⟩
 have I:=of_decide_eq_true HC.out;have J:=of_decide_eq_true HA.out;obtain⟨l,rfl⟩:∃ l:Nat,f=l:=⟨f.toNat,by omega⟩;have j:=kD (j.out l I.2 ⟨J.1,by have:=ab.out;omega⟩);clear I J;go_wp2_with fail;refine(j.out _ K.bel).mono ?_;rintro e w3 ⟨⟨f2,t2,d2,h2⟩,ok,rfl,k,hb⟩;have K:=K.below hb;have i:=kD k;clear Z Y X W H G C B A z k hb;obtain⟨C,B,A,z⟩:=K.rs.c4
 cases ok
 case false =>
  obtain rfl:x=false:=by
   rw [D.out];have y:=i.out;unfold opt at y;simp at y;rw [<-y];simp
  go_wp2_with fail;go_ret;exact⟨rfl,K.bel.alloc K.bel.size _⟩
 go_upto_region 4 with fail;refine wp_gen (λ P=>B3 w P v (.slice R n1 O) (.slice Q n2 N) ((l:Int),t,d,h)∧RowB P w3.heap.size 111 [iL f2,iL t2,iL d2,.bool h2]) ⟨K.below ((Below.refl _ _).alloc (Nat.le_refl _) _),RowB.new _ _ _⟩ ?_;have aa:Hid (x=decide ((f2,t2,d2,h2)=((l:Int),t,d,h))):=by
  show _=_
  rw [D.out];have y:=i.out;unfold opt at y;simp only [if_true] at y;rw [<-y];simp
 clear D i K C B A z;rintro w4 ⟨K,r4⟩;obtain⟨C,B,A,z⟩:=K.rs.c4;obtain⟨H,G,y2,y3⟩:=r4.c4;go_wp2_with fail
 all_goals (go_ret;refine⟨?_,K.bel⟩;rw [aa.out];simp [*])
end Gm
end Go.Proofs.YtjdefiinmicjiaaGreatDoor
