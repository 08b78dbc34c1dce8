/- Parts of the proof of FnExactReviewMatch. Conditions: each theorem's own. -/
import Derived.Test.YtmncnhbjifeoeaaGreatQ06
import Derived.Deep.DeepCutAuto
set_option linter.unusedVariables false
set_option linter.unusedSimpArgs false
set_option maxHeartbeats 8000000
set_option maxRecDepth 100000
namespace Go.Proofs.YtmncnhbjifeoeaaGreat
namespace Bd12
open Go.ChangeShapes Go.WideShapes Go.ChangeAt Go.RowKit Base Ints Own PlP Bd1
theorem pipU_bd {l:List Int} (h:∀ i,0<=at_ l i∧at_ l i<=1000):∀ k,k<=1000->0<=pipU l k∧pipU l k<=1000000*(k:Int):=by
 intro k
 induction k with
 | zero=>intro _;simp [pipU]
 | succ k ih =>
  intro b;have e:=ih (by omega);have a:=h k;have d:0<=((k:Int)+1)*at_ l k:=Int.mul_nonneg (by omega) a.1;have c:((k:Int)+1)*at_ l k<=1000*1000:=Int.mul_le_mul (by omega) a.2 a.1 (by omega);simp only [pipU];omega
theorem pips_i (A:Option Addr) (cp B:Nat) (xs:List Int) (w:World) (hr:RdS w B 1 enI A xs) (hx:∀ i,0<=at_ xs i∧at_ xs i<=1000) (hl:xs.length<=1000) :
  Calls Tryz.prog 152 #[.slice A xs.length cp] w λ e w'=>e=.returned (.int .i64 (pipP xs))∧w=w':=by
 obtain⟨n,b⟩:∃ n,xs.length=n:=⟨_,rfl⟩;obtain⟨z,d⟩:∃ z,pipP xs=z:=⟨_,rfl⟩;have C:=kD b;have l:=kD hx;have x:Hid (pipU xs n=z):=kD (by rw [<-b,<-d];rfl);rw [b] at hl;rw [b,d];clear b d hx;go_enter Tryz.func152,Tryz.ntmps152;go_wp2_with fail;go_loopw [3,8] (λ s i wr=>∃(k:Nat) (t:Int),k<=n∧s=.int .i64 t∧i=.int .i64 (k:Int)∧Hid (w=wr)∧Hid (t=pipU xs k)) (λ _ i _=>n - (intOf i).toNat)
 case atStart=>exact⟨0,0,Nat.zero_le _,by first | rfl | trivial,by first | rfl | trivial,kD (by first | rfl | trivial),kD rfl⟩
 case round =>
  obtain⟨k,t,D,rfl,rfl,f,g⟩:=hrel;by_cases hlt:k<n
  ·obtain⟨H,o,rfl,r,q⟩:=at_rd hr (i:=k) (by rw [C.out];exact hlt);rw [f.out] at q;have p:(k:Int)<(n:Int):=by omega
   have c:=l.out k;have j:=pipU_bd l.out k (by omega);have h:=pipU_bd l.out (k+1) (by omega);have m:pipU xs (k+1)=t+((k:Int)+1)*at_ xs k:=by rw [g.out];rfl
   have v:=g.out;have a:0<=((k:Int)+1)*at_ xs k:=Int.mul_nonneg (by omega) c.1;have G:IntKind.i64.wrap ((k:Int)+1)=(k:Int)+1:=IntWalk.i64_in _ (by omega);have F:IntKind.i64.wrap (((k:Int)+1)*at_ xs k)=((k:Int)+1)*at_ xs k:=IntWalk.i64_in _ (by omega);have E:IntKind.i64.wrap (t+((k:Int)+1)*at_ xs k)=t+((k:Int)+1)*at_ xs k:=IntWalk.i64_in _ (by omega);have y:=kD m.symm;clear m v j h c a;go_wp2_with fail;go_roundw
   case rel=>exact⟨k+1,_,by omega,rfl,by go_num,f,y⟩
   case measure=>simp [intOf];omega
  ·obtain rfl:n=k:=by omega
   obtain rfl:t=z:=by rw [g.out,x.out]
   go_wp2_with fail;go_ret;exact⟨rfl,f.out⟩
theorem pips_s (A:Option Addr) (cp B:Nat) (xs:List Int) (w:World) (hr:RdS w B 1 enI A xs) (hx:∀ i,0<=at_ xs i∧at_ xs i<=1000) (hl:xs.length<=1000) :
  Calls Tryz.prog 154 #[.slice A xs.length cp] w λ e w'=>e=.returned (.int .i64 (pipP xs))∧w=w':=by
 obtain⟨n,b⟩:∃ n,xs.length=n:=⟨_,rfl⟩;obtain⟨z,d⟩:∃ z,pipP xs=z:=⟨_,rfl⟩;have C:=kD b;have l:=kD hx;have x:Hid (pipU xs n=z):=kD (by rw [<-b,<-d];rfl);rw [b] at hl;rw [b,d];clear b d hx;go_enter Tryz.func154,Tryz.ntmps154;go_wp2_with fail;go_loopw [3,4] (λ s i wr=>∃(k:Nat) (t:Int),k<=n∧s=.int .i64 t∧i=.int .i64 (k:Int)∧Hid (w=wr)∧Hid (t=pipU xs k)) (λ _ i _=>n - (intOf i).toNat)
 case atStart=>exact⟨0,0,Nat.zero_le _,by first | rfl | trivial,by first | rfl | trivial,kD (by first | rfl | trivial),kD rfl⟩
 case round =>
  obtain⟨k,t,D,rfl,rfl,f,g⟩:=hrel;by_cases hlt:k<n
  ·obtain⟨H,o,rfl,r,q⟩:=at_rd hr (i:=k) (by rw [C.out];exact hlt);rw [f.out] at q;have p:(k:Int)<(n:Int):=by omega
   have c:=l.out k;have j:=pipU_bd l.out k (by omega);have h:=pipU_bd l.out (k+1) (by omega);have m:pipU xs (k+1)=t+((k:Int)+1)*at_ xs k:=by rw [g.out];rfl
   have v:=g.out;have a:0<=((k:Int)+1)*at_ xs k:=Int.mul_nonneg (by omega) c.1;have G:IntKind.i64.wrap ((k:Int)+1)=(k:Int)+1:=IntWalk.i64_in _ (by omega);have F:IntKind.i64.wrap (((k:Int)+1)*at_ xs k)=((k:Int)+1)*at_ xs k:=IntWalk.i64_in _ (by omega);have E:IntKind.i64.wrap (t+((k:Int)+1)*at_ xs k)=t+((k:Int)+1)*at_ xs k:=IntWalk.i64_in _ (by omega);have y:=kD m.symm;clear m v j h c a;go_wp2_with fail;go_roundw
   case rel=>exact⟨k+1,_,by omega,rfl,by go_num,f,y⟩
   case measure=>simp [intOf];omega
  ·obtain rfl:n=k:=by omega
   obtain rfl:t=z:=by rw [g.out,x.out]
   go_wp2_with fail;go_ret;exact⟨rfl,f.out⟩
theorem first_i (A:Option Addr) (cp B:Nat) (xs:List Int) (w:World) (hr:RdS w B 1 enI A xs) (hl:0<xs.length) :
  Calls Tryz.prog 35 #[.slice A xs.length cp] w λ e w'=>e=.returned (.int .i64 (fgP xs:Nat))∧w=w':=by
 have h:=hr.len;obtain⟨n,d⟩:∃ n,xs.length=n:=⟨_,rfl⟩;obtain⟨z,g⟩:∃ z,fgP xs=z:=⟨_,rfl⟩;have r:=kD d;have E:Hid (fgU xs (n - 1)=z):=kD (by rw [<-d,<-g];rfl);rw [d] at hl h;rw [d,g];clear d g;go_enter Tryz.func35,Tryz.ntmps35;go_wp2_with fail;go_loopw [3,8] (λ s i wr=>∃(k t:Nat),k<=n∧t<n∧s=.int .i64 (t:Int)∧i=.int .i64 (k:Int)∧Hid (w=wr)∧Hid (t=fgU xs (k - 1))) (λ _ i _=>n - (intOf i).toNat)
 case atStart=>exact⟨0,0,Nat.zero_le _,hl,by first | rfl | trivial,by first | rfl | trivial,kD (by first | rfl | trivial),kD rfl⟩
 case round =>
  obtain⟨k,t,F,b,rfl,rfl,f,c⟩:=hrel;by_cases hlt:k<n
  ·obtain⟨H,v,rfl,C,y⟩:=at_rd hr (i:=k) (by rw [r.out];exact hlt);obtain⟨D,o,q,-,l⟩:=at_rd hr (i:=t) (by rw [r.out];exact b);simp only [Option.some.injEq,Addr.mk.injEq,and_true] at q;obtain⟨rfl,rfl⟩:=q;rw [f.out] at y l;have x:(k:Int)<(n:Int):=by omega
   have p:(t:Int)<(n:Int):=by omega
   have G:IntKind.i64.wrap ((k:Int)+1)=(k:Int)+1:=IntWalk.i64_in _ (by omega);by_cases hv:at_ xs t<at_ xs k
   ·have m:Hid (k=fgU xs (k+1 - 1)):=kD (by
     cases k with
     | zero=>have a:=c.out;simp [fgU] at a;subst a;omega
     | succ j=>have a:=c.out;simp only [Nat.add_sub_cancel] at a ⊢;simp only [fgU];rw [<-a,if_pos hv])
    go_wp2_with fail;go_roundw
    case rel=>exact⟨k+1,k,by omega,hlt,by first | rfl | go_num,by go_num,f,m⟩
    case measure=>simp [intOf];omega
   ·have m:Hid (t=fgU xs (k+1 - 1)):=kD (by
     cases k with
     | zero=>have a:=c.out;simp [fgU] at a;subst a;rfl
     | succ j=>have a:=c.out;simp only [Nat.add_sub_cancel] at a ⊢;simp only [fgU];rw [<-a,if_neg hv])
    go_wp2_with fail;go_roundw
    case rel=>exact⟨k+1,t,by omega,b,rfl,by go_num,f,m⟩
    case measure=>simp [intOf];omega
  ·obtain rfl:n=k:=by omega
   obtain rfl:t=z:=by rw [c.out,E.out]
   go_wp2_with fail;go_ret;exact⟨rfl,f.out⟩
theorem great_s (A:Option Addr) (cp B:Nat) (xs:List Int) (w:World) (hr:RdS w B 1 enI A xs) (hl:0<xs.length) :
  Calls Tryz.prog 109 #[.slice A xs.length cp] w λ e w'=>e=.returned (.int .i64 (grt xs))∧w=w':=by
 have d:=hr.len;obtain⟨n,a⟩:∃ n,xs.length=n:=⟨_,rfl⟩;obtain⟨z,b⟩:∃ z,grt xs=z:=⟨_,rfl⟩;have o:=kD a;have D:Hid (grU xs (n - 1)=z):=kD (by rw [<-a,<-b];rfl);rw [a] at hl d;rw [a,b];clear a b;obtain⟨H,p,rfl,y,f⟩:=at_rd hr (i:=0) (by rw [o.out];exact hl);simp only [Nat.add_zero] at f;have q:(0:Int)<(n:Int):=by omega
 go_enter Tryz.func109,Tryz.ntmps109;go_wp2_with fail;go_loopw [3,4] (λ s i wr=>∃(k:Nat) (t:Int),k<=n∧1<=k∧s=.int .i64 t∧i=.int .i64 (k:Int)∧Hid (w=wr)∧Hid (t=grU xs (k - 1))) (λ _ i _=>n - (intOf i).toNat)
 case atStart=>exact⟨1,at_ xs 0,by omega,by omega,by first | rfl | trivial,by first | rfl | trivial,kD (by first | rfl | trivial),kD rfl⟩
 case round =>
  obtain⟨k,t,F,v,rfl,rfl,c,h⟩:=hrel;by_cases hlt:k<n
  ·obtain⟨C,g,l,-,x⟩:=at_rd hr (i:=k) (by rw [o.out];exact hlt);simp only [Option.some.injEq,Addr.mk.injEq,and_true] at l;obtain⟨rfl,rfl⟩:=l;rw [c.out] at x;have r:(k:Int)<(n:Int):=by omega
   have G:IntKind.i64.wrap ((k:Int)+1)=(k:Int)+1:=IntWalk.i64_in _ (by omega);have E:Hid ((if t<at_ xs k then at_ xs k else t)=grU xs (k+1 - 1)):=kD (by
    obtain⟨j,rfl⟩:∃ j,k=j+1:=⟨k - 1,by omega⟩;have m:=h.out;simp only [Nat.add_sub_cancel] at m ⊢;simp only [grU];rw [<-m];split <;> omega)
   go_wp2_with fail;go_roundw
   case rel=>exact⟨k+1,_,by omega,by omega,rfl,by go_num,c,E⟩
   case measure=>simp [intOf];omega
  ·obtain rfl:n=k:=by omega
   obtain rfl:t=z:=by rw [h.out,D.out]
   go_wp2_with fail;go_ret;exact⟨rfl,c.out⟩
theorem floor_i (x y:Int) (hy:0<y∧y<=1000000000) (hx:-1000000000000000<=x∧x<=1000000000000000) (w:World) :
  Calls Tryz.prog 153 #[.int .i64 x,.int .i64 y] w λ e w'=>e=.returned (.int .i64 (x / y))∧w=w':=by
 have a:=floor_eq (x:=x) hy.1;have g:-1000000000000000<=x.tdiv y∧x.tdiv y<=1000000000000000:=by
  have h:=Int.natAbs_tdiv_le_natAbs x y;omega
 have f:(y == 0)=false:=by simp;omega
 have c:¬ y=0:=by omega
 have d:-1000000000000<=x.tmod y∧x.tmod y<=1000000000000:=by
  have j:=Int.tmod_lt_of_pos x hy.1;have i:-y<x.tmod y:=by
   by_cases h0:0<=x
   ·have:=Int.tmod_nonneg y h0;omega
   ·have:=Int.tmod_lt_of_pos (-x) hy.1;rw [Int.neg_tmod] at this;omega
  omega
 have m:IntKind.i64.wrap (x.tdiv y)=x.tdiv y:=IntWalk.i64_in _ (by omega);have l:IntKind.i64.wrap (x.tmod y)=x.tmod y:=IntWalk.i64_in _ (by omega);have k:IntKind.i64.wrap (x.tdiv y - 1)=x.tdiv y - 1:=IntWalk.i64_in _ (by omega);by_cases hr:x.tmod y<0
 ·rw [if_pos hr] at a;have b:=kD a;clear a;go_enter Tryz.func153,Tryz.ntmps153;go_wp2_with fail;go_ret;exact⟨ret1 b.out,rfl⟩
 ·rw [if_neg hr] at a;have b:=kD a;clear a;go_enter Tryz.func153,Tryz.ntmps153;go_wp2_with fail;go_ret;exact⟨ret1 b.out,rfl⟩
theorem floor_s (x y:Int) (hy:0<y∧y<=1000000000) (hx:-1000000000000000<=x∧x<=1000000000000000) (w:World) :
  Calls Tryz.prog 155 #[.int .i64 x,.int .i64 y] w λ e w'=>e=.returned (.int .i64 (x / y))∧w=w':=by
 have a:=floor_eq (x:=x) hy.1;have g:-1000000000000000<=x.tdiv y∧x.tdiv y<=1000000000000000:=by
  have h:=Int.natAbs_tdiv_le_natAbs x y;omega
 have f:(y == 0)=false:=by simp;omega
 have c:¬ y=0:=by omega
 have d:-1000000000000<=x.tmod y∧x.tmod y<=1000000000000:=by
  have j:=Int.tmod_lt_of_pos x hy.1;have i:-y<x.tmod y:=by
   by_cases h0:0<=x
   ·have:=Int.tmod_nonneg y h0;omega
   ·have:=Int.tmod_lt_of_pos (-x) hy.1;rw [Int.neg_tmod] at this;omega
  omega
 have m:IntKind.i64.wrap (x.tdiv y)=x.tdiv y:=IntWalk.i64_in _ (by omega);have l:IntKind.i64.wrap (x.tmod y)=x.tmod y:=IntWalk.i64_in _ (by omega);have k:IntKind.i64.wrap (x.tdiv y - 1)=x.tdiv y - 1:=IntWalk.i64_in _ (by omega);by_cases hr:x.tmod y<0
 ·rw [if_pos hr] at a;have b:=kD a;clear a;go_enter Tryz.func155,Tryz.ntmps155;go_wp2_with fail;go_ret;exact⟨ret1 b.out,rfl⟩
 ·rw [if_neg hr] at a;have b:=kD a;clear a;go_enter Tryz.func155,Tryz.ntmps155;go_wp2_with fail;go_ret;exact⟨ret1 b.out,rfl⟩
end Bd12
namespace Bd14
open Go.ChangeShapes Go.WideShapes Go.ChangeAt Go.RowKit Base Ints Own PlP
theorem weight_s (a b:Int) (w:World):Calls Tryz.prog 128 #[.agg #[.int .i64 a,.int .i64 b]] w λ e w'=>e=.returned (.int .i64 (wtP (a,b)))∧Below w.heap.size w w':=by
 by_cases h:a=b
 ·have c:Hid (wtP (a,b)=1):=kD (by unfold wtP;rw [if_pos h]);have d:(a == b)=true:=by simp [h]
  clear h;go_enter Tryz.func128,Tryz.ntmps128;go_wp2_with fail;go_ret;exact⟨ret1 c.out.symm,by go_grown⟩
 ·have c:Hid (wtP (a,b)=2):=kD (by unfold wtP;rw [if_neg h]);have d:(a == b)=false:=by simp [h]
  clear h;go_enter Tryz.func128,Tryz.ntmps128;go_wp2_with fail;go_ret;exact⟨ret1 c.out.symm,by go_grown⟩
end Bd14
namespace Bd13
open Go.ChangeShapes Go.WideShapes Go.ChangeAt Go.RowKit Base Ints Own PlP Bd1 Bd2 Bd12
theorem pips_iq (A:Option Addr) (n cp B:Nat) (xs:List Int) (z:Int) (hn:xs.length=n) (hz:pipP xs=z) (w:World) (k:Nat) (hr:RdS w B 1 enI A xs) (hx:∀ i,0<=at_ xs i∧at_ xs i<=1000) (hl:xs.length<=1000):Calls Tryz.prog 152 #[.slice A n cp] (w.drewN k) λ e w''=>e=.returned (.int .i64 z)∧∃ m,w''=w.drewN m:=by
 subst hn hz;exact Calls.quiet_of_same ((pips_i A cp B xs (w.drewN k) hr hx hl).mono λ _ _ h=>⟨h.1,h.2.symm⟩)
theorem est_mid {S D:Int} (hS:0<S):(500000*S+1000000*D) / S=500000+1000000*D / S:=by
 rw [Int.add_comm,Int.mul_comm 500000 S,Int.add_mul_ediv_left _ _ (by omega),Int.add_comm]
theorem est_s (v:Vr) (b:Bd) (hb:Ok v b) (Ao At:Option Addr) (co ct B:Nat) (w:World) (hB:B<=w.heap.size) (ho:RdS w B 1 enI Ao b.1) (ht:RdS w B 1 enI At b.2) :
  Calls Tryz.prog 126 #[.agg #[.int .i64 v.p,.int .i64 v.c,.int .i64 v.h,.int .i64 v.s],.agg #[.slice Ao b.1.length co,.slice At b.2.length ct]] w λ e w'=>e=.returned (.int .i64 (est v b))∧Below w.heap.size w w':=by
 have z:=hb.v1;have y:=kD (λ i=>(⟨hb.own.nn i,by have:=hb.own.top i;omega⟩:0<=at_ b.1 i∧at_ b.1 i<=1000));have x:=kD (λ i=>(⟨hb.oth.nn i,by have:=hb.oth.top i;omega⟩:0<=at_ b.2 i∧at_ b.2 i<=1000));have q:=hb.own.len;have o:=hb.oth.len;obtain⟨d,g⟩:∃ p,pipP b.1=p:=⟨_,rfl⟩;obtain⟨a,f⟩:∃ p,pipP b.2=p:=⟨_,rfl⟩;have b1:0<=d∧d<=25000000:=by have:=pipU_bd y.out b.1.length (by omega);rw [<-g];unfold pipP;omega
 have b2:0<=a∧a<=25000000:=by have:=pipU_bd x.out b.2.length (by omega);rw [<-f];unfold pipP;omega
 obtain⟨E,t⟩:∃ e,est v b=e:=⟨_,rfl⟩;have j:=t;unfold est at j;rw [g,f] at j;have n:=kD j;rw [t];have N:=kD (λ w (h:RdS w B 1 enI Ao b.1)=>sum_s Ao co B b.1 w h y.out (by omega));have M:=kD (λ w (h:RdS w B 1 enI At b.2)=>sum_s At ct B b.2 w h x.out (by omega));have L:=kD g;have K:=kD f;have C:=kD (λ w (h:RdS w B 1 enI Ao b.1)=>pips_s Ao co B b.1 w h y.out (by omega));have A:=kD (λ w (h:RdS w B 1 enI At b.2)=>pips_s At ct B b.2 w h x.out (by omega));rw [g] at C;rw [f] at A;have H:=kD (show b.1.length<=1000 by omega);have G:=kD (show b.2.length<=1000 by omega);have F:1<=v.s∧v.s<=6:=z.2.2.2;clear hb z t j g f q o;go_enter Tryz.func126,Tryz.ntmps126;go_wp2_with fail;refine(N.out _ (ho.below (by go_grown) hB)).mono ?_;rintro e T ⟨rfl,rfl⟩;by_cases m:b.1.sum=0
 ·obtain rfl:E=1000000:=by rw [<-n.out];simp [m]
  have J:(b.1.sum == 0)=true:=by simp [m]
  clear m;go_wp2_with fail;go_ret;exact⟨rfl,by go_grown⟩
 ·have J:(b.1.sum == 0)=false:=by simp [m]
  rw [if_neg m] at n;clear m;go_wp2_with fail;refine(M.out _ (ht.below (by go_grown) hB)).mono ?_;rintro e S ⟨rfl,rfl⟩;by_cases l:b.2.sum=0
  ·obtain rfl:E=0:=by rw [<-n.out];simp [l]
   have I:(b.2.sum == 0)=true:=by simp [l]
   clear l;go_wp2_with fail;go_ret;exact⟨rfl,by go_grown⟩
  ·have I:(b.2.sum == 0)=false:=by simp [l]
   rw [if_neg l] at n;clear l;have g1:IntKind.i64.wrap (d+a)=d+a:=IntWalk.i64_in _ (by omega);have Z:IntKind.i64.wrap (d+a+v.s)=d+a+v.s:=IntWalk.i64_in _ (by omega);have Y:IntKind.i64.wrap (a - d)=a - d:=IntWalk.i64_in _ (by omega);have X:IntKind.i64.wrap (a - d+v.s)=a - d+v.s:=IntWalk.i64_in _ (by omega);have W:IntKind.i64.wrap (1000000*(a - d+v.s))=1000000*(a - d+v.s):=IntWalk.i64_in _ (by omega);have r:500000+1000000*(a - d+v.s) / (d+a+v.s)<=1000000000000000∧-1000000000000000<=500000+1000000*(a - d+v.s) / (d+a+v.s):=by
    have k:0<d+a+v.s:=by omega
    have m:-1000000<=1000000*(a - d+v.s) / (d+a+v.s):=(Int.le_ediv_iff_mul_le k).2 (by omega);have l:1000000*(a - d+v.s) / (d+a+v.s)<=1000000:=Int.ediv_le_of_le_mul k (by omega);omega
   have D:=kD (λ w=>floor_s (1000000*(a - d+v.s)) (d+a+v.s) (by omega) (by omega) w)
   generalize 1000000*(a - d+v.s) / (d+a+v.s)=Q at n D r ⊢
   have V:IntKind.i64.wrap (500000+Q)=500000+Q:=IntWalk.i64_in _ (by omega);go_wp2_with fail;refine(C.out _ (ho.below (by go_grown) hB)).mono ?_;rintro e R ⟨rfl,rfl⟩;go_wp2_with fail;refine(A.out _ (ht.below (by go_grown) hB)).mono ?_;rintro e P ⟨rfl,rfl⟩;go_wp2_with fail;refine(D.out _).mono ?_;rintro e O ⟨rfl,rfl⟩;go_wp2_with fail
   all_goals
    go_ret;refine⟨ret1 ?_,by go_grown⟩;rw [<-n.out];omega
end Bd13
namespace Bd13I
open Go.ChangeShapes Go.WideShapes Go.ChangeAt Go.RowKit Base Ints Own PlP Bd1 Bd2 Bd12
theorem pips_iq (A:Option Addr) (n cp B:Nat) (xs:List Int) (z:Int) (hn:xs.length=n) (hz:pipP xs=z) (w:World) (k:Nat) (hr:RdS w B 1 enI A xs) (hx:∀ i,0<=at_ xs i∧at_ xs i<=1000) (hl:xs.length<=1000):Calls Tryz.prog 152 #[.slice A n cp] (w.drewN k) λ e w''=>e=.returned (.int .i64 z)∧∃ m,w''=w.drewN m:=by
 subst hn hz;exact Calls.quiet_of_same ((pips_i A cp B xs (w.drewN k) hr hx hl).mono λ _ _ h=>⟨h.1,h.2.symm⟩)
theorem est_mid {S D:Int} (hS:0<S):(500000*S+1000000*D) / S=500000+1000000*D / S:=by
 rw [Int.add_comm,Int.mul_comm 500000 S,Int.add_mul_ediv_left _ _ (by omega),Int.add_comm]
theorem est_i (v:Vr) (b:Bd) (hb:Ok v b) (Ao At:Option Addr) (co ct B:Nat) (w:World) (hB:B<=w.heap.size) (ho:RdS w B 1 enI Ao b.1) (ht:RdS w B 1 enI At b.2) :
  Calls Tryz.prog 122 #[.agg #[.int .i64 v.p,.int .i64 v.c,.int .i64 v.h,.int .i64 v.s],.agg #[.slice Ao b.1.length co,.slice At b.2.length ct]] w λ e w'=>e=.returned (.int .i64 (est v b))∧Below w.heap.size w w':=by
 have G:=hb.v1;have n:=kD (λ i=>(⟨hb.own.nn i,by have:=hb.own.top i;omega⟩:0<=at_ b.1 i∧at_ b.1 i<=1000));have m:=kD (λ i=>(⟨hb.oth.nn i,by have:=hb.oth.top i;omega⟩:0<=at_ b.2 i∧at_ b.2 i<=1000));have r:=hb.own.len;have q:=hb.oth.len;obtain⟨d,g⟩:∃ p,pipP b.1=p:=⟨_,rfl⟩;obtain⟨a,f⟩:∃ p,pipP b.2=p:=⟨_,rfl⟩;have b1:0<=d∧d<=25000000:=by have:=pipU_bd n.out b.1.length (by omega);rw [<-g];unfold pipP;omega
 have b2:0<=a∧a<=25000000:=by have:=pipU_bd m.out b.2.length (by omega);rw [<-f];unfold pipP;omega
 obtain⟨E,y⟩:∃ e,est v b=e:=⟨_,rfl⟩;have j:=y;unfold est at j;rw [g,f] at j;have l:=kD j;rw [y];have P:=kD (λ w (h:RdS w B 1 enI Ao b.1)=>sum_i Ao co B b.1 w h n.out (by omega));have O:=kD (λ w (h:RdS w B 1 enI At b.2)=>sum_i At ct B b.2 w h m.out (by omega));have C:=kD g;have A:=kD f;have M:=kD (λ w (h:RdS w B 1 enI Ao b.1)=>pips_i Ao co B b.1 w h n.out (by omega));have L:=kD (λ w (h:RdS w B 1 enI At b.2)=>pips_i At ct B b.2 w h m.out (by omega));rw [g] at M;rw [f] at L;have x:=kD (show b.1.length<=1000 by omega);have t:=kD (show b.2.length<=1000 by omega);have R:1<=v.s∧v.s<=6:=G.2.2.2;clear hb G y j g f r q;go_enter Tryz.func122,Tryz.ntmps122;go_wp2_with fail;refine(P.out _ (ho.below (by go_grown) hB)).mono ?_;rintro e o ⟨rfl,rfl⟩;by_cases h1:b.1.sum=0
 ·obtain rfl:E=1000000:=by rw [<-l.out];simp [h1]
  have I:(b.1.sum == 0)=true:=by simp [h1]
  clear h1;go_wp2_with fail;go_ret;exact⟨rfl,by go_grown⟩
 ·have I:(b.1.sum == 0)=false:=by simp [h1]
  rw [if_neg h1] at l;clear h1;go_wp2_with fail;refine(O.out _ (ht.below (by go_grown) hB)).mono ?_;rintro e Y ⟨rfl,rfl⟩;by_cases h2:b.2.sum=0
  ·obtain rfl:E=0:=by rw [<-l.out];simp [h2]
   have H:(b.2.sum == 0)=true:=by simp [h2]
   clear h2;go_wp2_with fail;go_ret;exact⟨rfl,by go_grown⟩
  ·have H:(b.2.sum == 0)=false:=by simp [h2]
   rw [if_neg h2] at l;clear h2;have g1:IntKind.i64.wrap (d+a)=d+a:=IntWalk.i64_in _ (by omega);have g2:IntKind.i64.wrap (d+a+v.s)=d+a+v.s:=IntWalk.i64_in _ (by omega);have g3:IntKind.i64.wrap (a - d)=a - d:=IntWalk.i64_in _ (by omega);have g4:IntKind.i64.wrap (a - d+v.s)=a - d+v.s:=IntWalk.i64_in _ (by omega);have g5:IntKind.i64.wrap (1000000*(a - d+v.s))=1000000*(a - d+v.s):=IntWalk.i64_in _ (by omega);have g6:IntKind.i64.wrap (500000*(d+a+v.s))=500000*(d+a+v.s):=IntWalk.i64_in _ (by omega);have g7:IntKind.i64.wrap (500000*(d+a+v.s)+1000000*(a - d+v.s))=500000*(d+a+v.s)+1000000*(a - d+v.s):=IntWalk.i64_in _ (by omega);have N:=kD (λ w=>floor_i (500000*(d+a+v.s)+1000000*(a - d+v.s)) (d+a+v.s) (by omega) (by omega) w);rw [est_mid (by omega)] at N;have K:=kD ho;have J:=kD ht;clear ho ht P O M L;go_upto_region 5 with fail;refine wp_gen (λ z=>Below w.heap.size w z∧RowB z w.heap.size 25 (vL v)∧RowB z (w.heap.size+1) 28 [.slice Ao b.1.length co,.slice At b.2.length ct]) ⟨by go_grown,(RowB.new _ _ _).alloc _,RowB.new' _ _ _ (by simp)⟩ ?_;rintro o ⟨hb,D,F⟩;obtain⟨q0,q1,q2,q3⟩:=D.c4;obtain⟨r0,Z⟩:=F.c2;have T:=D.lt;have S:=F.lt;have W:=kD (λ k=>pips_iq Ao _ co B b.1 d rfl C.out o k ((K.out.below hb hB)) n.out x.out);have V:=kD (λ k=>pips_iq At _ ct B b.2 a rfl A.out o k ((J.out.below hb hB)) m.out t.out);clear K J I H;go_wp2_with fail;go_quiet ((go_at_call 152;first | with_reducible exact W.out _ | with_reducible exact V.out _));go_wp2_with fail;refine(N.out _).mono ?_;rintro e X ⟨rfl,rfl⟩
   generalize 500000+1000000*(a - d+v.s) / (d+a+v.s)=Q at l ⊢
   go_wp2_with fail
   all_goals
    go_ret;refine⟨ret1 ?_,below_drewN hb _⟩;rw [<-l.out];omega
end Bd13I
end Go.Proofs.YtmncnhbjifeoeaaGreat
