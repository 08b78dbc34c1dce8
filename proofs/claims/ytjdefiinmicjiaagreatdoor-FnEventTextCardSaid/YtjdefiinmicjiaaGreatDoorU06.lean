/- Parts of the proof of FnEventText. Conditions: each theorem's own. -/
import Derived.Test.YtjdefiinmicjiaaGreatDoorU04
set_option linter.unusedVariables false
set_option linter.unusedSimpArgs false
set_option maxHeartbeats 8000000
set_option maxRecDepth 100000
namespace Go.Proofs.YtjdefiinmicjiaaGreatDoor
namespace Clone
open Go.ChangeShapes Go.WideShapes Go.ChangeAt Go.RowKit Base Ints Own
theorem news_rd {w:World} {B:Nat} {ad:Addr} {xs:List Int} (h:RdS w B 1 enI (some ad) xs):∀ j u,(xs.flatMap enI)[j]?=some u->w.cell? (ad.add j)=some u:=by
 intro j u e;have f:j<(xs.flatMap enI).length:=(List.getElem?_eq_some_iff.1 e).1;rw [flatMap_len enI_len,Nat.mul_one] at f;obtain⟨b,a,g,_,l⟩:=h.2 (by omega);simp only [Option.some.injEq] at g;subst g;have d:xs[j]?=some xs[j]:=List.getElem?_eq_getElem f;have k:=flatMap_at enI_len xs j _ d 0 _ rfl;rw [Nat.mul_one,Nat.add_zero,e] at k;have i:=l j _ d 0 _ rfl;rw [<-k,Nat.mul_one,Nat.add_zero] at i;have c:(⟨b,a,none⟩:Addr).add j=⟨b,a+j,none⟩:=by unfold Addr.add;split <;> simp_all
 rw [c];exact i
theorem rd_none {w:World} {B:Nat} {xs:List Int} (h:RdS w B 1 enI none xs):xs=[]:=by
 cases xs with
 | nil=>rfl
 | cons x xs=>obtain⟨b,a,c,_⟩:=h.2 (by simp);cases c
theorem one_Is (xs:List Int):∀ u ∈ xs.flatMap enI,u.oneCell'=true:=by
 intro u b;obtain⟨y,_,a⟩:=List.mem_flatMap.1 b;exact one_I y u a
theorem own02 (A:Option Addr) (cp B:Nat) (xs:List Int) (w:World) (hB:B<=w.heap.size) (hr:RdS w B 1 enI A xs) (hA:A=none->cp=0) (hn:xs.length<=1048577) :
  Calls Tryz.prog 76 #[.slice A xs.length cp] w λ e w'=>(∃ v,e=.returned v∧OwnS w' w.heap.size w'.heap.size 2 1 enI v xs)∧Below w.heap.size w w':=by
 obtain⟨j,b,f,d,c⟩:=info_parts Ints.info
 cases A with
 | none =>
  obtain rfl:=rd_none hr;obtain rfl:=hA rfl;go_enter Tryz.func76,Tryz.ntmps76;go_wp2_with (at_builtin;refine wpList_append_own_none rfl _ _ _ rfl w.heap.size 2 j 1 Tryz.underlying49 b _ 0 [] rfl ((RowB.new w 2 []).own (xs:=([]:List Int)) (en:=enI) enI_len (Nat.le_refl _) (by simp) (by decide):OwnS _ w.heap.size (w.alloc (.cells #[] 2)).heap.size 2 1 enI _ []).1 rfl ?_);go_wp2;go_ret;exact⟨⟨_,rfl,(RowB.new w 2 []).own (xs:=[]) enI_len (Nat.le_refl _) (by simp) (by decide)⟩,by go_grown⟩
 | some ad =>
  go_enter Tryz.func76,Tryz.ntmps76;go_wp2_with (at_builtin;refine wpList_append_own _ rfl _ _ _ rfl w.heap.size 2 j (.int .i64 0) 1 8 Tryz.underlying49 b f d c rfl (by decide) _ 0 [] rfl ((RowB.new w 2 []).own (xs:=([]:List Int)) (en:=enI) enI_len (Nat.le_refl _) (by simp) (by decide):OwnS _ w.heap.size (w.alloc (.cells #[] 2)).heap.size 2 1 enI _ []).1 ad xs.length cp (xs.flatMap enI) rfl (by rw [flatMap_len enI_len]) (news_rd (hr.below (by go_grown) hB)) (one_Is xs) ?c1 ?c2 ?c3 ?_)
  case c1=>unfold maxLen;omega
  case c2=>omega
  case c3=>go_size
  intro k w' a h _;have a:w'.ownsRow w.heap.size 2 1 k xs.length (xs.flatMap enI):=by simpa using a
  go_wp2;go_ret;refine⟨⟨_,rfl,a,λ g i=>(a.lt g i).2⟩,?_⟩;exact((Below.refl w.heap.size w).alloc (Nat.le_refl _) _).grown h (by go_size) (λ g i=>by simp [Value.ownBlock] at i;omega)
end Clone
abbrev vL (v:PlP.Vr):List Go.Value:=[.int .i64 v.p,.int .i64 v.c,.int .i64 v.h,.int .i64 v.s]
namespace Bd1
open Go.ChangeShapes Go.WideShapes Go.ChangeAt Go.RowKit Base Ints Own Clone RelG PlP
theorem at_rd {w:World} {B:Nat} {A:Option Addr} {xs:List Int} (h:RdS w B 1 enI A xs) {i:Nat} (hi:i<xs.length) :
  ∃ b off,A=some ⟨b,off,none⟩∧b<B∧w.cell? ⟨b,off+i,none⟩=some (.int .i64 (at_ xs i)):=by
 obtain⟨b,off,x,rfl,d,a,c⟩:=rdI_at h hi;rw [at_get hi] at a;simp only [Option.some.injEq] at a;subst a;exact⟨b,off,rfl,d,c⟩
def sumU (l:List Int):Nat->Int
 | 0=>0
 | k+1=>sumU l k+at_ l k
theorem sumU_take (l:List Int):∀ k,k<=l.length->sumU l k=(l.take k).sum:=by
 intro k
 induction k with
 | zero=>intro _;simp [sumU]
 | succ k ih =>
  intro a;simp only [sumU];rw [ih (by omega),take_succ l k (at_ l k) (at_get (by omega)),List.sum_append];simp
theorem sumU_all (l:List Int):sumU l l.length=l.sum:=by rw [sumU_take l _ (Nat.le_refl _),List.take_length]
theorem in_s (n a b:Int) (x:Bool) (hx:decide (a<=n∧n<=b)=x) (w:World):Calls Tryz.prog 56 #[.int .i64 n,.int .i64 a,.int .i64 b] w λ e w'=>e=.returned (.bool x)∧w=w':=by
 subst hx;by_cases h1:a<=n
 ·have c:decide (a<=n∧n<=b)=decide (n<=b):=by simp [h1]
  rw [c];go_enter Tryz.func56,Tryz.ntmps56;go_wp2;go_ret;exact⟨rfl,rfl⟩
 ·have c:decide (a<=n∧n<=b)=false:=decide_eq_false (λ h=>h1 h.1);rw [c];go_enter Tryz.func56,Tryz.ntmps56;go_wp2;go_ret;exact⟨rfl,rfl⟩
theorem in_sq (n a b:Int) (x:Bool) (hx:decide (a<=n∧n<=b)=x) (w:World) (k:Nat):Calls Tryz.prog 56 #[.int .i64 n,.int .i64 a,.int .i64 b] (w.drewN k) λ e w''=>e=.returned (.bool x)∧∃ m,w''=w.drewN m :=
 Calls.quiet_of_same ((in_s n a b x hx (w.drewN k)).mono λ _ _ h=>⟨h.1,h.2.symm⟩)
theorem in_i (n a b:Int) (x:Bool) (hx:decide (a<=n∧n<=b)=x) (w:World):Calls Tryz.prog 26 #[.int .i64 n,.int .i64 a,.int .i64 b] w λ e w'=>e=.returned (.bool x)∧w=w':=by
 subst hx;by_cases h1:a<=n
 ·have c:decide (a<=n∧n<=b)=decide (n<=b):=by simp [h1]
  rw [c];go_enter Tryz.func26,Tryz.ntmps26;go_wp2;go_ret;exact⟨rfl,rfl⟩
 ·have c:decide (a<=n∧n<=b)=false:=decide_eq_false (λ h=>h1 h.1);rw [c];go_enter Tryz.func26,Tryz.ntmps26;go_wp2;go_ret;exact⟨rfl,rfl⟩
theorem var_s (v:Vr) (x:Bool) (hx:okV v=x) (w:World):Calls Tryz.prog 29 #[.agg #[.int .i64 v.p,.int .i64 v.c,.int .i64 v.h,.int .i64 v.s]] w λ e w'=>e=.returned (.bool x)∧Below w.heap.size w w':=by
 unfold okV at hx;have m:=kD hx;clear hx;obtain⟨a,l⟩:∃ a,decide (2<=v.p∧v.p<=24)=a:=⟨_,rfl⟩;obtain⟨b,k⟩:∃ b,decide (1<=v.c∧v.c<=15)=b:=⟨_,rfl⟩;obtain⟨c,j⟩:∃ c,decide (1<=v.h∧v.h<=v.p)=c:=⟨_,rfl⟩;obtain⟨d,i⟩:∃ d,decide (1<=v.s∧v.s<=6)=d:=⟨_,rfl⟩;have f:Hid (x=(a && b && c && d)):=kD (by rw [<-m.out,<-l,<-k,<-j,<-i];simp only [Bool.decide_and];simp [Bool.and_assoc]);have r:=kD (λ w=>in_s v.p 2 24 a l w);have q:=kD (λ w=>in_s v.c 1 15 b k w);have o:=kD (λ w=>in_s v.h 1 v.p c j w);have n:=kD (λ w=>in_s v.s 1 6 d i w);clear l k j i m;go_enter Tryz.func29,Tryz.ntmps29;go_wp2_with fail;refine(r.out _).mono ?_;rintro e g ⟨rfl,rfl⟩
 cases a
 case false =>
  obtain rfl:x=false:=by rw [f.out];rfl
  go_wp2_with fail;go_ret;exact⟨rfl,by go_grown⟩
 go_wp2_with fail;refine(q.out _).mono ?_;rintro e g ⟨rfl,rfl⟩
 cases b
 case false =>
  obtain rfl:x=false:=by rw [f.out];rfl
  go_wp2_with fail;go_ret;exact⟨rfl,by go_grown⟩
 go_wp2_with fail;refine(o.out _).mono ?_;rintro e g ⟨rfl,rfl⟩
 cases c
 case false =>
  obtain rfl:x=false:=by rw [f.out];rfl
  go_wp2_with fail;go_ret;exact⟨rfl,by go_grown⟩
 go_wp2_with fail;refine(n.out _).mono ?_;rintro e g ⟨rfl,rfl⟩;obtain rfl:x=d:=by rw [f.out];rfl
 go_wp2_with fail;go_ret;exact⟨rfl,by go_grown⟩
theorem var_i (v:Vr) (x:Bool) (hx:okV v=x) (w:World):Calls Tryz.prog 25 #[.agg #[.int .i64 v.p,.int .i64 v.c,.int .i64 v.h,.int .i64 v.s]] w λ e w'=>e=.returned (.bool x)∧Below w.heap.size w w':=by
 unfold okV at hx;have m:=kD hx;clear hx;obtain⟨a,l⟩:∃ a,decide (2<=v.p∧v.p<=24)=a:=⟨_,rfl⟩;obtain⟨b,k⟩:∃ b,decide (1<=v.c∧v.c<=15)=b:=⟨_,rfl⟩;obtain⟨c,j⟩:∃ c,decide (1<=v.h∧v.h<=v.p)=c:=⟨_,rfl⟩;obtain⟨d,i⟩:∃ d,decide (1<=v.s∧v.s<=6)=d:=⟨_,rfl⟩;have f:Hid (x=(a && b && c && d)):=kD (by rw [<-m.out,<-l,<-k,<-j,<-i];simp only [Bool.decide_and];simp [Bool.and_assoc]);have r:=kD (λ w=>in_i v.p 2 24 a l w);have q:=kD (λ w=>in_i v.c 1 15 b k w);have o:=kD (λ w=>in_i v.h 1 v.p c j w);have n:=kD (λ w=>in_i v.s 1 6 d i w);clear l k j i m;go_enter Tryz.func25,Tryz.ntmps25;go_wp2_with fail;refine(r.out _).mono ?_;rintro e g ⟨rfl,rfl⟩
 cases a
 case false =>
  obtain rfl:x=false:=by rw [f.out];rfl
  go_wp2_with fail;go_ret;exact⟨rfl,by go_grown⟩
 go_wp2_with fail;refine(q.out _).mono ?_;rintro e g ⟨rfl,rfl⟩
 cases b
 case false =>
  obtain rfl:x=false:=by rw [f.out];rfl
  go_wp2_with fail;go_ret;exact⟨rfl,by go_grown⟩
 go_wp2_with fail;refine(o.out _).mono ?_;rintro e g ⟨rfl,rfl⟩
 cases c
 case false =>
  obtain rfl:x=false:=by rw [f.out];rfl
  go_wp2_with fail;go_ret;exact⟨rfl,by go_grown⟩
 go_wp2_with fail;refine(n.out _).mono ?_;rintro e g ⟨rfl,rfl⟩;obtain rfl:x=d:=by rw [f.out];rfl
 go_wp2_with fail;go_ret;exact⟨rfl,by go_grown⟩
theorem sum_s (A:Option Addr) (cp B:Nat) (xs:List Int) (w:World) (hr:RdS w B 1 enI A xs) (hx:∀ i,0<=at_ xs i∧at_ xs i<=1000) (hl:xs.length<=1000) :
  Calls Tryz.prog 142 #[.slice A xs.length cp] w λ e w'=>e=.returned (.int .i64 xs.sum)∧w=w':=by
 obtain⟨n,a⟩:∃ n,xs.length=n:=⟨_,rfl⟩;obtain⟨z,c⟩:∃ z,xs.sum=z:=⟨_,rfl⟩;have m:=kD a;have j:=kD hx;have h:Hid (sumU xs n=z):=kD (by rw [<-a,sumU_all,c]);rw [a] at hl;rw [a,c];clear a c hx;go_enter Tryz.func142,Tryz.ntmps142;go_wp2_with fail;go_loopw [3,4] (λ s i wr=>∃(k:Nat) (t:Int),k<=n∧s=.int .i64 t∧i=.int .i64 (k:Int)∧Hid (w=wr)∧0<=t∧t<=1000*(k:Int)∧Hid (t=sumU xs k)) (λ _ i _=>n - (intOf i).toNat)
 case atStart=>exact⟨0,0,Nat.zero_le _,by first | rfl | trivial,by first | rfl | trivial,kD (by first | rfl | trivial),by omega,by omega,rfl⟩
 case round =>
  obtain⟨k,t,v,rfl,rfl,d,r,q,f⟩:=hrel;obtain rfl:=d.out;clear d;by_cases hlt:k<n
  ·obtain⟨b,g,rfl,y,x⟩:=at_rd hr (i:=k) (by rw [m.out];exact hlt);obtain⟨p,o⟩:=j.out k;have l:Hid (t+at_ xs k=sumU xs (k+1)):=kD (by simp only [sumU];rw [f.out]);go_wp2_with fail;go_roundw
   case rel=>exact⟨k+1,t+at_ xs k,by omega,by first | rfl | trivial,by go_num,kD (by first | rfl | trivial),by omega,by omega,l⟩
   case measure=>simp [intOf];omega
  ·obtain rfl:k=n:=by omega
   obtain rfl:t=z:=by rw [f.out,h.out]
   go_wp2_with fail;go_ret;exact⟨rfl,rfl⟩
theorem sum_sq (A:Option Addr) (n cp B:Nat) (xs:List Int) (z:Int) (hn:xs.length=n) (hz:xs.sum=z) (w:World) (k:Nat) (hr:RdS w B 1 enI A xs) (hx:∀ i,0<=at_ xs i∧at_ xs i<=1000) (hl:xs.length<=1000):Calls Tryz.prog 142 #[.slice A n cp] (w.drewN k) λ e w''=>e=.returned (.int .i64 z)∧∃ m,w''=w.drewN m:=by
 subst hn hz;exact Calls.quiet_of_same ((sum_s A cp B xs (w.drewN k) hr hx hl).mono λ _ _ h=>⟨h.1,h.2.symm⟩)
theorem sum_i (A:Option Addr) (cp B:Nat) (xs:List Int) (w:World) (hr:RdS w B 1 enI A xs) (hx:∀ i,0<=at_ xs i∧at_ xs i<=1000) (hl:xs.length<=1000) :
  Calls Tryz.prog 168 #[.slice A xs.length cp] w λ e w'=>e=.returned (.int .i64 xs.sum)∧w=w':=by
 obtain⟨n,a⟩:∃ n,xs.length=n:=⟨_,rfl⟩;obtain⟨z,c⟩:∃ z,xs.sum=z:=⟨_,rfl⟩;have m:=kD a;have j:=kD hx;have h:Hid (sumU xs n=z):=kD (by rw [<-a,sumU_all,c]);rw [a] at hl;rw [a,c];clear a c hx;go_enter Tryz.func168,Tryz.ntmps168;go_wp2_with fail;go_loopw [3,8] (λ s i wr=>∃(k:Nat) (t:Int),k<=n∧s=.int .i64 t∧i=.int .i64 (k:Int)∧Hid (w=wr)∧0<=t∧t<=1000*(k:Int)∧Hid (t=sumU xs k)) (λ _ i _=>n - (intOf i).toNat)
 case atStart=>exact⟨0,0,Nat.zero_le _,by first | rfl | trivial,by first | rfl | trivial,kD (by first | rfl | trivial),by omega,by omega,rfl⟩
 case round =>
  obtain⟨k,t,v,rfl,rfl,d,r,q,f⟩:=hrel;obtain rfl:=d.out;clear d;by_cases hlt:k<n
  ·obtain⟨b,g,rfl,y,x⟩:=at_rd hr (i:=k) (by rw [m.out];exact hlt);obtain⟨p,o⟩:=j.out k;have l:Hid (t+at_ xs k=sumU xs (k+1)):=kD (by simp only [sumU];rw [f.out]);go_wp2_with fail;go_roundw
   case rel=>exact⟨k+1,t+at_ xs k,by omega,by first | rfl | trivial,by go_num,kD (by first | rfl | trivial),by omega,by omega,l⟩
   case measure=>simp [intOf];omega
  ·obtain rfl:k=n:=by omega
   obtain rfl:t=z:=by rw [f.out,h.out]
   go_wp2_with fail;go_ret;exact⟨rfl,rfl⟩
theorem last_s (A:Option Addr) (cp B:Nat) (xs:List Int) (w:World) (hr:RdS w B 1 enI A xs) (hl:xs.length<=1000) :
  Calls Tryz.prog 199 #[.slice A xs.length cp] w λ e w'=>e=.returned (.int .i64 (last xs))∧w=w':=by
 obtain⟨n,a⟩:∃ n,xs.length=n:=⟨_,rfl⟩;obtain⟨z,c⟩:∃ z,last xs=z:=⟨_,rfl⟩;have l:=kD a;have j:Hid (lastU xs n=z):=kD (by rw [<-a,<-c];rfl);rw [a] at hl;rw [a,c];clear a c;go_enter Tryz.func199,Tryz.ntmps199;go_wp2_with fail;go_loopw [3,4] (λ s i wr=>∃(k:Nat) (t:Int),k<=n∧s=.int .i64 t∧i=.int .i64 (k:Int)∧Hid (w=wr)∧Hid (t=lastU xs k)) (λ _ i _=>n - (intOf i).toNat)
 case atStart=>exact⟨0,-1,Nat.zero_le _,by first | rfl | trivial,by first | rfl | trivial,kD (by first | rfl | trivial),rfl⟩
 case round =>
  obtain⟨k,t,m,rfl,rfl,f,g⟩:=hrel;obtain rfl:=f.out;clear f;by_cases hlt:k<n
  ·obtain⟨b,h,rfl,p,o⟩:=at_rd hr (i:=k) (by rw [l.out];exact hlt);by_cases hp:0<at_ xs k
   ·have d:Hid ((k:Int)=lastU xs (k+1)):=kD (by simp only [lastU];rw [if_pos hp]);go_wp2_with fail;go_roundw
    case rel=>exact⟨k+1,(k:Int),by omega,by first | rfl | trivial,by go_num,kD (by first | rfl | trivial),d⟩
    case measure=>simp [intOf];omega
   ·have d:Hid (t=lastU xs (k+1)):=kD (by simp only [lastU];rw [if_neg hp,g.out]);go_wp2_with fail;go_roundw
    case rel=>exact⟨k+1,t,by omega,by first | rfl | trivial,by go_num,kD (by first | rfl | trivial),d⟩
    case measure=>simp [intOf];omega
  ·obtain rfl:k=n:=by omega
   obtain rfl:t=z:=by rw [g.out,j.out]
   go_wp2_with fail;go_ret;exact⟨rfl,rfl⟩
end Bd1
namespace Bd2
open Go.ChangeShapes Go.WideShapes Go.ChangeAt Go.RowKit Base Ints Own Clone RelG PlP Bd1
theorem okS_len {v:Vr} {l:List Int} (h:¬ (l.length:Int)=v.p+1):okS v l=false:=by
 cases hc:okS v l with
 | false=>rfl
 | true=>exact absurd (okS_iff.1 hc).len h
theorem okS_at {v:Vr} {l:List Int} (k:Nat) (h:¬ (0<=at_ l k∧at_ l k<=v.c)):okS v l=false:=by
 cases hc:okS v l with
 | false=>rfl
 | true=>exact absurd ⟨(okS_iff.1 hc).nn k,(okS_iff.1 hc).top k⟩ h
theorem okS_all {v:Vr} {l:List Int} (h1:(l.length:Int)=v.p+1) (h2:∀ i,0<=at_ l i):okS v l=decide (l.sum<=v.c):=by
 by_cases h:l.sum<=v.c
 ·rw [decide_eq_true h];exact okS_iff.2 ⟨h1,h2,h⟩
 ·rw [decide_eq_false h]
  cases hc:okS v l with
  | false=>rfl
  | true=>exact absurd (okS_iff.1 hc).sum h
theorem nn_of {l:List Int} {c:Int} (h:∀ i,i<l.length->0<=at_ l i∧at_ l i<=c) (hc:0<=c):∀ i,0<=at_ l i∧at_ l i<=c:=by
 intro i;rcases Nat.lt_or_ge i l.length with hi | hi
 ·exact h i hi
 ·rw [at_out hi];omega
theorem side_s (v:Vr) (hv:okV v=true) (A:Option Addr) (cp B:Nat) (l:List Int) (x:Bool) (hx:okS v l=x) (w:World) (hB:B<=w.heap.size) (hr:RdS w B 1 enI A l) :
  Calls Tryz.prog 141 #[.agg #[.int .i64 v.p,.int .i64 v.c,.int .i64 v.h,.int .i64 v.s],.slice A l.length cp] w λ e w'=>e=.returned (.bool x)∧Below w.heap.size w w':=by
 have hv:=okV_iff.1 hv;obtain⟨⟨R,Q⟩,⟨X,W⟩,-,-⟩:=hv;have r:=hr.len;obtain⟨n,m⟩:∃ n,l.length=n:=⟨_,rfl⟩;have b:=kD m;have t:=kD hx;have F:=kD hr;have V:IntKind.i64.wrap (v.p+1)=v.p+1:=IntWalk.i64_in _ (by omega);rw [m] at r;rw [m];clear m hx hr;by_cases hlen:(n:Int)=v.p+1
 case neg =>
  obtain rfl:x=false:=by rw [<-t.out,okS_len (by rw [b.out];exact hlen)]
  have I:((n:Int) != v.p+1)=true:=by simp [hlen]
  clear hlen;go_enter Tryz.func141,Tryz.ntmps141;go_wp2_with fail;go_ret;exact⟨rfl,by go_grown⟩
 have I:((n:Int) != v.p+1)=false:=by simp [hlen]
 have K:=kD hlen;have D:n<=25:=by omega
 clear hlen;go_enter Tryz.func141,Tryz.ntmps141;go_wp2_with fail;go_loopw [5] (λ i wr=>∃(k:Nat),k<=n∧i=.int .i64 (k:Int)∧Hid (Below w.heap.size w wr)∧RowB wr w.heap.size 25 [.int .i64 v.p,.int .i64 v.c,.int .i64 v.h,.int .i64 v.s]∧Hid (∀ j,j<k->0<=at_ l j∧at_ l j<=v.c)) (λ i _=>n - (intOf i).toNat)
 case atStart=>exact⟨0,Nat.zero_le _,by first | rfl | trivial,kD (by go_grown),RowB.new _ _ _,λ j E=>absurd E (by omega)⟩
 case round =>
  obtain⟨k,S,rfl,g,d,a⟩:=hrel;obtain⟨P,O,N,M⟩:=d.c4;by_cases hlt:k<n
  ·obtain⟨Y,G,rfl,H,T⟩:=at_rd (F.out.below g.out hB) (i:=k) (by rw [b.out];exact hlt);obtain⟨y,C⟩:∃ y,decide (0<=at_ l k∧at_ l k<=v.c)=y:=⟨_,rfl⟩;have o:=kD C;clear C
   cases y
   case false =>
    obtain rfl:x=false:=by rw [<-t.out];exact okS_at k (of_decide_eq_false o.out)
    go_wp2_with fail;go_quiet ((go_at_call 56;exact in_sq _ _ _ false o.out _ _));go_wp2_with fail;go_ret;exact⟨rfl,below_drewN g.out _⟩
   case true =>
    have L:Hid (∀ j,j<k+1->0<=at_ l j∧at_ l j<=v.c):=kD (λ j E=>by
     by_cases e:j=k
     ·subst e;exact of_decide_eq_true o.out
     ·exact a.out j (by omega))
    go_wp2_with fail;go_quiet ((go_at_call 56;exact in_sq _ _ _ true o.out _ _));go_wp2_with fail;go_roundw
    case rel=>exact⟨k+1,by omega,by go_num,kD (below_drewN g.out _),d.drewN _,L⟩
    case measure=>simp [intOf];omega
  ·obtain rfl:k=n:=by omega
   have f:=kD (nn_of (l:=l) (by rw [b.out];exact a.out) (by omega));obtain⟨z,q⟩:∃ z,l.sum=z:=⟨_,rfl⟩;obtain rfl:x=decide (z<=v.c):=by rw [<-t.out,okS_all (by rw [b.out];exact K.out) (λ i=>(f.out i).1),q]
   have J:=kD q;clear q;go_wp2_with fail;go_quiet ((go_at_call 142;exact sum_sq A _ cp B l z b.out J.out _ _ (F.out.below g.out hB) (λ i=>by have:=f.out i;omega) (by rw [b.out];omega)));go_wp2_with fail;go_ret;exact⟨rfl,below_drewN g.out _⟩
theorem over_s (v:Vr) (b:Bd) (hb:Ok v b) (Ao At:Option Addr) (co ct B:Nat) (w:World) (hB:B<=w.heap.size) (ho:RdS w B 1 enI Ao b.1) (ht:RdS w B 1 enI At b.2) (x:Bool) (hx:over b=x) :
  Calls Tryz.prog 175 #[.agg #[.slice Ao b.1.length co,.slice At b.2.length ct]] w λ e w'=>e=.returned (.bool x)∧Below w.heap.size w w':=by
 have c:=hb.v1;have g:=kD (λ w (h:RdS w B 1 enI Ao b.1)=>sum_s Ao co B b.1 w h (λ i=>⟨hb.own.nn i,by have:=hb.own.top i;omega⟩) (by have:=hb.own.len;omega));have f:=kD (λ w (h:RdS w B 1 enI At b.2)=>sum_s At ct B b.2 w h (λ i=>⟨hb.oth.nn i,by have:=hb.oth.top i;omega⟩) (by have:=hb.oth.len;omega));unfold over at hx;have a:=kD hx;clear hx hb c;go_enter Tryz.func175,Tryz.ntmps175;go_wp2_with fail;refine(g.out _ (ho.below (by go_grown) hB)).mono ?_;rintro e k ⟨rfl,rfl⟩;by_cases h1:b.1.sum=0
 ·obtain rfl:x=true:=by rw [<-a.out];simp [h1]
  have d:(b.1.sum == 0)=true:=by simp [h1]
  clear h1;go_wp2_with fail;go_ret;exact⟨rfl,by go_grown⟩
 ·obtain rfl:x=(b.2.sum == 0):=by rw [<-a.out];simp [h1];rfl
  have d:(b.1.sum == 0)=false:=by simp [h1]
  clear h1;go_wp2_with fail;refine(f.out _ (ht.below (by go_grown) hB)).mono ?_;rintro e j ⟨rfl,rfl⟩;go_wp2_with fail;go_ret;exact⟨rfl,by go_grown⟩
theorem over_i (v:Vr) (b:Bd) (hb:Ok v b) (Ao At:Option Addr) (co ct B:Nat) (w:World) (hB:B<=w.heap.size) (ho:RdS w B 1 enI Ao b.1) (ht:RdS w B 1 enI At b.2) (x:Bool) (hx:over b=x) :
  Calls Tryz.prog 166 #[.agg #[.slice Ao b.1.length co,.slice At b.2.length ct]] w λ e w'=>e=.returned (.bool x)∧Below w.heap.size w w':=by
 have c:=hb.v1;have g:=kD (λ w (h:RdS w B 1 enI Ao b.1)=>sum_i Ao co B b.1 w h (λ i=>⟨hb.own.nn i,by have:=hb.own.top i;omega⟩) (by have:=hb.own.len;omega));have f:=kD (λ w (h:RdS w B 1 enI At b.2)=>sum_i At ct B b.2 w h (λ i=>⟨hb.oth.nn i,by have:=hb.oth.top i;omega⟩) (by have:=hb.oth.len;omega));unfold over at hx;have a:=kD hx;clear hx hb c;go_enter Tryz.func166,Tryz.ntmps166;go_wp2_with fail;refine(g.out _ (ho.below (by go_grown) hB)).mono ?_;rintro e k ⟨rfl,rfl⟩;by_cases h1:b.1.sum=0
 ·obtain rfl:x=true:=by rw [<-a.out];simp [h1]
  have d:(b.1.sum == 0)=true:=by simp [h1]
  clear h1;go_wp2_with fail;go_ret;exact⟨rfl,by go_grown⟩
 ·obtain rfl:x=(b.2.sum == 0):=by rw [<-a.out];simp [h1];rfl
  have d:(b.1.sum == 0)=false:=by simp [h1]
  clear h1;go_wp2_with fail;refine(f.out _ (ht.below (by go_grown) hB)).mono ?_;rintro e j ⟨rfl,rfl⟩;go_wp2_with fail;go_ret;exact⟨rfl,by go_grown⟩
end Bd2
namespace Bd5
open Go.ChangeShapes Go.WideShapes Go.RowKit Base PlP
def enSt (s:Stp):List Value:=[.int .i64 s.1,.int .i64 s.2.1,.int .i64 s.2.2.1,.bool s.2.2.2]
theorem enSt_len (s:Stp):(enSt s).length=4:=rfl
theorem one_St (s:Stp):∀ u ∈ enSt s,u.oneCell'=true:=by intro u a;simp [enSt] at a;rcases a with rfl | rfl | rfl | rfl <;> rfl
theorem infoSt:(Tryz.prog.info? 111).map (λ i=>(i.zero,i.size,i.bytes))=some (some (.agg #[.int .i64 0,.int .i64 0,.int .i64 0,.bool false]),4,32):=by kernel_rfl
theorem rdStp_at {w:World} {B:Nat} {A:Option Addr} {xs:List Stp} (h:RdS w B 4 enSt A xs) {i:Nat} (hi:i<xs.length) :
  ∃ b off p q r s,A=some ⟨b,off,none⟩∧b<B∧xs[i]?=some (p,q,r,s)∧w.cell? ⟨b,off+i*4,none⟩=some (.int .i64 p)∧w.cell? ⟨b,off+i*4+1,none⟩=some (.int .i64 q)∧w.cell? ⟨b,off+i*4+2,none⟩=some (.int .i64 r)∧w.cell? ⟨b,off+i*4+3,none⟩=some (.bool s):=by
 obtain⟨b,off,⟨p,q,r,s⟩,e,d,c,a⟩:=h.at_ hi;exact⟨b,off,p,q,r,s,e,d,c,a 0 _ rfl,a 1 _ rfl,a 2 _ rfl,a 3 _ rfl⟩
end Bd5
end Go.Proofs.YtjdefiinmicjiaaGreatDoor
