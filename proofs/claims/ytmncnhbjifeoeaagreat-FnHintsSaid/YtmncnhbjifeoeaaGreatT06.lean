/- Parts of the proof of FnHints. Conditions: each theorem's own. -/
import Derived.Test.YtmncnhbjifeoeaaGreatT05
set_option linter.unusedVariables false
set_option linter.unusedSimpArgs false
set_option maxHeartbeats 8000000
set_option maxRecDepth 100000
namespace Go.Proofs.YtmncnhbjifeoeaaGreat
abbrev vL (v:PlP.Vr):List Go.Value:=[.int .i64 v.p,.int .i64 v.c,.int .i64 v.h,.int .i64 v.s]
namespace Bd1
open Go.ChangeShapes Go.WideShapes Go.ChangeAt Go.RowKit Base Ints Own Clone RelG PlP
theorem at_rd {w:World} {B:Nat} {A:Option Addr} {xs:List Int} (h:RdS w B 1 enI A xs) {i:Nat} (hi:i<xs.length) :
  ∃ b off,A=some ⟨b,off,none⟩∧b<B∧w.cell? ⟨b,off+i,none⟩=some (.int .i64 (at_ xs i)):=by
 obtain⟨b,off,x,rfl,d,a,c⟩:=rdI_at h hi;rw [at_get hi] at a;simp only [Option.some.injEq] at a;subst a;exact⟨b,off,rfl,d,c⟩
def sumU (l:List Int):Nat->Int
 | 0=>0
 | k+1=>sumU l k+at_ l k
theorem sumU_take (l:List Int):∀ k,k<=l.length->sumU l k=(l.take k).sum:=by
 intro k
 induction k with
 | zero=>intro _;simp [sumU]
 | succ k ih =>
  intro a;simp only [sumU];rw [ih (by omega),take_succ l k (at_ l k) (at_get (by omega)),List.sum_append];simp
theorem sumU_all (l:List Int):sumU l l.length=l.sum:=by rw [sumU_take l _ (Nat.le_refl _),List.take_length]
theorem sumU_bd {l:List Int} (h:∀ i,0<=at_ l i∧at_ l i<=1000):∀ k,0<=sumU l k∧sumU l k<=1000*(k:Int):=by
 intro k
 induction k with
 | zero=>simp [sumU]
 | succ k ih=>have:=h k;simp only [sumU];omega
theorem in_s (n a b:Int) (x:Bool) (hx:decide (a<=n∧n<=b)=x) (w:World):Calls Tryz.prog 58 #[.int .i64 n,.int .i64 a,.int .i64 b] w λ e w'=>e=.returned (.bool x)∧w=w':=by
 subst hx;by_cases h1:a<=n
 ·have c:decide (a<=n∧n<=b)=decide (n<=b):=by simp [h1]
  rw [c];go_enter Tryz.func58,Tryz.ntmps58;go_wp2;go_ret;exact⟨rfl,rfl⟩
 ·have c:decide (a<=n∧n<=b)=false:=decide_eq_false (λ h=>h1 h.1);rw [c];go_enter Tryz.func58,Tryz.ntmps58;go_wp2;go_ret;exact⟨rfl,rfl⟩
theorem in_sq (n a b:Int) (x:Bool) (hx:decide (a<=n∧n<=b)=x) (w:World) (k:Nat):Calls Tryz.prog 58 #[.int .i64 n,.int .i64 a,.int .i64 b] (w.drewN k) λ e w''=>e=.returned (.bool x)∧∃ m,w''=w.drewN m :=
 Calls.quiet_of_same ((in_s n a b x hx (w.drewN k)).mono λ _ _ h=>⟨h.1,h.2.symm⟩)
theorem in_i (n a b:Int) (x:Bool) (hx:decide (a<=n∧n<=b)=x) (w:World):Calls Tryz.prog 78 #[.int .i64 n,.int .i64 a,.int .i64 b] w λ e w'=>e=.returned (.bool x)∧w=w':=by
 subst hx;by_cases h1:a<=n
 ·have c:decide (a<=n∧n<=b)=decide (n<=b):=by simp [h1]
  rw [c];go_enter Tryz.func78,Tryz.ntmps78;go_wp2;go_ret;exact⟨rfl,rfl⟩
 ·have c:decide (a<=n∧n<=b)=false:=decide_eq_false (λ h=>h1 h.1);rw [c];go_enter Tryz.func78,Tryz.ntmps78;go_wp2;go_ret;exact⟨rfl,rfl⟩
theorem var_s (v:Vr) (x:Bool) (hx:okV v=x) (w:World):Calls Tryz.prog 63 #[.agg #[.int .i64 v.p,.int .i64 v.c,.int .i64 v.h,.int .i64 v.s]] w λ e w'=>e=.returned (.bool x)∧Below w.heap.size w w':=by
 unfold okV at hx;have m:=kD hx;clear hx;obtain⟨a,l⟩:∃ a,decide (2<=v.p∧v.p<=24)=a:=⟨_,rfl⟩;obtain⟨b,k⟩:∃ b,decide (1<=v.c∧v.c<=15)=b:=⟨_,rfl⟩;obtain⟨c,j⟩:∃ c,decide (1<=v.h∧v.h<=v.p)=c:=⟨_,rfl⟩;obtain⟨d,i⟩:∃ d,decide (1<=v.s∧v.s<=6)=d:=⟨_,rfl⟩;have f:Hid (x=(a && b && c && d)):=kD (by rw [<-m.out,<-l,<-k,<-j,<-i];simp only [Bool.decide_and];simp [Bool.and_assoc]);have r:=kD (λ w=>in_s v.p 2 24 a l w);have q:=kD (λ w=>in_s v.c 1 15 b k w);have o:=kD (λ w=>in_s v.h 1 v.p c j w);have n:=kD (λ w=>in_s v.s 1 6 d i w);clear l k j i m;go_enter Tryz.func63,Tryz.ntmps63;go_wp2_with fail;refine(r.out _).mono ?_;rintro e g ⟨rfl,rfl⟩
 cases a
 case false =>
  obtain rfl:x=false:=by rw [f.out];rfl
  go_wp2_with fail;go_ret;exact⟨rfl,by go_grown⟩
 go_wp2_with fail;refine(q.out _).mono ?_;rintro e g ⟨rfl,rfl⟩
 cases b
 case false =>
  obtain rfl:x=false:=by rw [f.out];rfl
  go_wp2_with fail;go_ret;exact⟨rfl,by go_grown⟩
 go_wp2_with fail;refine(o.out _).mono ?_;rintro e g ⟨rfl,rfl⟩
 cases c
 case false =>
  obtain rfl:x=false:=by rw [f.out];rfl
  go_wp2_with fail;go_ret;exact⟨rfl,by go_grown⟩
 go_wp2_with fail;refine(n.out _).mono ?_;rintro e g ⟨rfl,rfl⟩;obtain rfl:x=d:=by rw [f.out];rfl
 go_wp2_with fail;go_ret;exact⟨rfl,by go_grown⟩
theorem var_i (v:Vr) (x:Bool) (hx:okV v=x) (w:World):Calls Tryz.prog 80 #[.agg #[.int .i64 v.p,.int .i64 v.c,.int .i64 v.h,.int .i64 v.s]] w λ e w'=>e=.returned (.bool x)∧Below w.heap.size w w':=by
 unfold okV at hx;have m:=kD hx;clear hx;obtain⟨a,l⟩:∃ a,decide (2<=v.p∧v.p<=24)=a:=⟨_,rfl⟩;obtain⟨b,k⟩:∃ b,decide (1<=v.c∧v.c<=15)=b:=⟨_,rfl⟩;obtain⟨c,j⟩:∃ c,decide (1<=v.h∧v.h<=v.p)=c:=⟨_,rfl⟩;obtain⟨d,i⟩:∃ d,decide (1<=v.s∧v.s<=6)=d:=⟨_,rfl⟩;have f:Hid (x=(a && b && c && d)):=kD (by rw [<-m.out,<-l,<-k,<-j,<-i];simp only [Bool.decide_and];simp [Bool.and_assoc]);have r:=kD (λ w=>in_i v.p 2 24 a l w);have q:=kD (λ w=>in_i v.c 1 15 b k w);have o:=kD (λ w=>in_i v.h 1 v.p c j w);have n:=kD (λ w=>in_i v.s 1 6 d i w);clear l k j i m;go_enter Tryz.func80,Tryz.ntmps80;go_wp2_with fail;refine(r.out _).mono ?_;rintro e g ⟨rfl,rfl⟩
 cases a
 case false =>
  obtain rfl:x=false:=by rw [f.out];rfl
  go_wp2_with fail;go_ret;exact⟨rfl,by go_grown⟩
 go_wp2_with fail;refine(q.out _).mono ?_;rintro e g ⟨rfl,rfl⟩
 cases b
 case false =>
  obtain rfl:x=false:=by rw [f.out];rfl
  go_wp2_with fail;go_ret;exact⟨rfl,by go_grown⟩
 go_wp2_with fail;refine(o.out _).mono ?_;rintro e g ⟨rfl,rfl⟩
 cases c
 case false =>
  obtain rfl:x=false:=by rw [f.out];rfl
  go_wp2_with fail;go_ret;exact⟨rfl,by go_grown⟩
 go_wp2_with fail;refine(n.out _).mono ?_;rintro e g ⟨rfl,rfl⟩;obtain rfl:x=d:=by rw [f.out];rfl
 go_wp2_with fail;go_ret;exact⟨rfl,by go_grown⟩
theorem sml_s (v:Vr) (x:Bool) (hx:smV v=x) (w:World):Calls Tryz.prog 59 #[.agg #[.int .i64 v.p,.int .i64 v.c,.int .i64 v.h,.int .i64 v.s]] w λ e w'=>e=.returned (.bool x)∧Below w.heap.size w w':=by
 unfold smV at hx;obtain⟨a,g⟩:∃ a,okV v=a:=⟨_,rfl⟩;rw [g] at hx;have k:=kD (λ w=>var_s v a g w);have f:=kD hx;clear g hx;go_enter Tryz.func59,Tryz.ntmps59;go_wp2_with fail;refine(k.out _).mono ?_;rintro e i ⟨rfl,b⟩;have j:=RowB.below (RowB.new _ _ _) b (by go_size);have d:Below w.heap.size w i:=Below.then_ (by go_grown) b (by go_size);clear b;obtain⟨o,n,m,l⟩:=j.c4
 cases a
 case false =>
  obtain rfl:x=false:=by rw [<-f.out];rfl
  go_wp2_with fail;go_ret;exact⟨rfl,d⟩
 by_cases h1:v.p<=6
 ·by_cases h2:v.c<=3
  ·obtain rfl:x=decide (v.s<=3):=by rw [<-f.out];simp [h1,h2]
   go_wp2_with fail;go_ret;exact⟨rfl,d⟩
  ·obtain rfl:x=false:=by rw [<-f.out];simp;intro _ h;exact absurd h h2
   go_wp2_with fail;go_ret;exact⟨rfl,d⟩
 ·obtain rfl:x=false:=by rw [<-f.out];simp;intro h;exact absurd h h1
  go_wp2_with fail;go_ret;exact⟨rfl,d⟩
theorem sml_i (v:Vr) (x:Bool) (hx:smV v=x) (w:World):Calls Tryz.prog 79 #[.agg #[.int .i64 v.p,.int .i64 v.c,.int .i64 v.h,.int .i64 v.s]] w λ e w'=>e=.returned (.bool x)∧Below w.heap.size w w':=by
 unfold smV at hx;obtain⟨a,g⟩:∃ a,okV v=a:=⟨_,rfl⟩;rw [g] at hx;have k:=kD (λ w=>var_i v a g w);have f:=kD hx;clear g hx;go_enter Tryz.func79,Tryz.ntmps79;go_wp2_with fail;refine(k.out _).mono ?_;rintro e i ⟨rfl,b⟩;have j:=RowB.below (RowB.new _ _ _) b (by go_size);have d:Below w.heap.size w i:=Below.then_ (by go_grown) b (by go_size);clear b;obtain⟨o,n,m,l⟩:=j.c4
 cases a
 case false =>
  obtain rfl:x=false:=by rw [<-f.out];rfl
  go_wp2_with fail;go_ret;exact⟨rfl,d⟩
 by_cases h1:v.p<=6
 ·by_cases h2:v.c<=3
  ·obtain rfl:x=decide (v.s<=3):=by rw [<-f.out];simp [h1,h2]
   go_wp2_with fail;go_ret;exact⟨rfl,d⟩
  ·obtain rfl:x=false:=by rw [<-f.out];simp;intro _ h;exact absurd h h2
   go_wp2_with fail;go_ret;exact⟨rfl,d⟩
 ·obtain rfl:x=false:=by rw [<-f.out];simp;intro h;exact absurd h h1
  go_wp2_with fail;go_ret;exact⟨rfl,d⟩
theorem sum_s (A:Option Addr) (cp B:Nat) (xs:List Int) (w:World) (hr:RdS w B 1 enI A xs) (hx:∀ i,0<=at_ xs i∧at_ xs i<=1000) (hl:xs.length<=1000) :
  Calls Tryz.prog 65 #[.slice A xs.length cp] w λ e w'=>e=.returned (.int .i64 xs.sum)∧w=w':=by
 obtain⟨n,a⟩:∃ n,xs.length=n:=⟨_,rfl⟩;obtain⟨z,c⟩:∃ z,xs.sum=z:=⟨_,rfl⟩;have m:=kD a;have j:=kD hx;have h:Hid (sumU xs n=z):=kD (by rw [<-a,sumU_all,c]);rw [a] at hl;rw [a,c];clear a c hx;go_enter Tryz.func65,Tryz.ntmps65;go_wp2_with fail;go_loopw [3,4] (λ s i wr=>∃(k:Nat) (t:Int),k<=n∧s=.int .i64 t∧i=.int .i64 (k:Int)∧Hid (w=wr)∧0<=t∧t<=1000*(k:Int)∧Hid (t=sumU xs k)) (λ _ i _=>n - (intOf i).toNat)
 case atStart=>exact⟨0,0,Nat.zero_le _,by first | rfl | trivial,by first | rfl | trivial,kD (by first | rfl | trivial),by omega,by omega,rfl⟩
 case round =>
  obtain⟨k,t,v,rfl,rfl,d,r,q,f⟩:=hrel;obtain rfl:=d.out;clear d;by_cases hlt:k<n
  ·obtain⟨b,g,rfl,y,x⟩:=at_rd hr (i:=k) (by rw [m.out];exact hlt);obtain⟨p,o⟩:=j.out k;have l:Hid (t+at_ xs k=sumU xs (k+1)):=kD (by simp only [sumU];rw [f.out]);go_wp2_with fail;go_roundw
   case rel=>exact⟨k+1,t+at_ xs k,by omega,by first | rfl | trivial,by go_num,kD (by first | rfl | trivial),by omega,by omega,l⟩
   case measure=>simp [intOf];omega
  ·obtain rfl:k=n:=by omega
   obtain rfl:t=z:=by rw [f.out,h.out]
   go_wp2_with fail;go_ret;exact⟨rfl,rfl⟩
theorem sum_sq (A:Option Addr) (n cp B:Nat) (xs:List Int) (z:Int) (hn:xs.length=n) (hz:xs.sum=z) (w:World) (k:Nat) (hr:RdS w B 1 enI A xs) (hx:∀ i,0<=at_ xs i∧at_ xs i<=1000) (hl:xs.length<=1000):Calls Tryz.prog 65 #[.slice A n cp] (w.drewN k) λ e w''=>e=.returned (.int .i64 z)∧∃ m,w''=w.drewN m:=by
 subst hn hz;exact Calls.quiet_of_same ((sum_s A cp B xs (w.drewN k) hr hx hl).mono λ _ _ h=>⟨h.1,h.2.symm⟩)
theorem sum_i (A:Option Addr) (cp B:Nat) (xs:List Int) (w:World) (hr:RdS w B 1 enI A xs) (hx:∀ i,0<=at_ xs i∧at_ xs i<=1000) (hl:xs.length<=1000) :
  Calls Tryz.prog 82 #[.slice A xs.length cp] w λ e w'=>e=.returned (.int .i64 xs.sum)∧w=w':=by
 obtain⟨n,a⟩:∃ n,xs.length=n:=⟨_,rfl⟩;obtain⟨z,c⟩:∃ z,xs.sum=z:=⟨_,rfl⟩;have m:=kD a;have j:=kD hx;have h:Hid (sumU xs n=z):=kD (by rw [<-a,sumU_all,c]);rw [a] at hl;rw [a,c];clear a c hx;go_enter Tryz.func82,Tryz.ntmps82;go_wp2_with fail;go_loopw [3,8] (λ s i wr=>∃(k:Nat) (t:Int),k<=n∧s=.int .i64 t∧i=.int .i64 (k:Int)∧Hid (w=wr)∧0<=t∧t<=1000*(k:Int)∧Hid (t=sumU xs k)) (λ _ i _=>n - (intOf i).toNat)
 case atStart=>exact⟨0,0,Nat.zero_le _,by first | rfl | trivial,by first | rfl | trivial,kD (by first | rfl | trivial),by omega,by omega,rfl⟩
 case round =>
  obtain⟨k,t,v,rfl,rfl,d,r,q,f⟩:=hrel;obtain rfl:=d.out;clear d;by_cases hlt:k<n
  ·obtain⟨b,g,rfl,y,x⟩:=at_rd hr (i:=k) (by rw [m.out];exact hlt);obtain⟨p,o⟩:=j.out k;have l:Hid (t+at_ xs k=sumU xs (k+1)):=kD (by simp only [sumU];rw [f.out]);go_wp2_with fail;go_roundw
   case rel=>exact⟨k+1,t+at_ xs k,by omega,by first | rfl | trivial,by go_num,kD (by first | rfl | trivial),by omega,by omega,l⟩
   case measure=>simp [intOf];omega
  ·obtain rfl:k=n:=by omega
   obtain rfl:t=z:=by rw [f.out,h.out]
   go_wp2_with fail;go_ret;exact⟨rfl,rfl⟩
theorem last_s (A:Option Addr) (cp B:Nat) (xs:List Int) (w:World) (hr:RdS w B 1 enI A xs) (hl:xs.length<=1000) :
  Calls Tryz.prog 145 #[.slice A xs.length cp] w λ e w'=>e=.returned (.int .i64 (last xs))∧w=w':=by
 obtain⟨n,a⟩:∃ n,xs.length=n:=⟨_,rfl⟩;obtain⟨z,c⟩:∃ z,last xs=z:=⟨_,rfl⟩;have l:=kD a;have j:Hid (lastU xs n=z):=kD (by rw [<-a,<-c];rfl);rw [a] at hl;rw [a,c];clear a c;go_enter Tryz.func145,Tryz.ntmps145;go_wp2_with fail;go_loopw [3,4] (λ s i wr=>∃(k:Nat) (t:Int),k<=n∧s=.int .i64 t∧i=.int .i64 (k:Int)∧Hid (w=wr)∧Hid (t=lastU xs k)) (λ _ i _=>n - (intOf i).toNat)
 case atStart=>exact⟨0,-1,Nat.zero_le _,by first | rfl | trivial,by first | rfl | trivial,kD (by first | rfl | trivial),rfl⟩
 case round =>
  obtain⟨k,t,m,rfl,rfl,f,g⟩:=hrel;obtain rfl:=f.out;clear f;by_cases hlt:k<n
  ·obtain⟨b,h,rfl,p,o⟩:=at_rd hr (i:=k) (by rw [l.out];exact hlt);by_cases hp:0<at_ xs k
   ·have d:Hid ((k:Int)=lastU xs (k+1)):=kD (by simp only [lastU];rw [if_pos hp]);go_wp2_with fail;go_roundw
    case rel=>exact⟨k+1,(k:Int),by omega,by first | rfl | trivial,by go_num,kD (by first | rfl | trivial),d⟩
    case measure=>simp [intOf];omega
   ·have d:Hid (t=lastU xs (k+1)):=kD (by simp only [lastU];rw [if_neg hp,g.out]);go_wp2_with fail;go_roundw
    case rel=>exact⟨k+1,t,by omega,by first | rfl | trivial,by go_num,kD (by first | rfl | trivial),d⟩
    case measure=>simp [intOf];omega
  ·obtain rfl:k=n:=by omega
   obtain rfl:t=z:=by rw [g.out,j.out]
   go_wp2_with fail;go_ret;exact⟨rfl,rfl⟩
theorem last_i (A:Option Addr) (cp B:Nat) (xs:List Int) (w:World) (hr:RdS w B 1 enI A xs) (hl:xs.length<=1000) :
  Calls Tryz.prog 175 #[.slice A xs.length cp] w λ e w'=>e=.returned (.int .i64 (last xs))∧w=w':=by
 obtain⟨n,a⟩:∃ n,xs.length=n:=⟨_,rfl⟩;obtain⟨z,c⟩:∃ z,last xs=z:=⟨_,rfl⟩;have o:=kD a;have l:Hid (lastU xs n=z):=kD (by rw [<-a,<-c];rfl);rw [a] at hl;rw [a,c];clear a c;go_enter Tryz.func175,Tryz.ntmps175;go_wp2_with fail;go_loopw [3] (λ i wr=>∃(k:Nat),k<=n∧i=.int .i64 ((k:Int) - 1)∧Hid (w=wr)∧Hid (lastU xs k=z)) (λ i _=>(intOf i+1).toNat)
 case atStart=>exact⟨n,Nat.le_refl _,by first | rfl | trivial,kD (by first | rfl | trivial),l⟩
 case round =>
  obtain⟨k,p,rfl,g,d⟩:=hrel;obtain rfl:=g.out;clear g;by_cases hlt:0<k
  ·obtain⟨j,rfl⟩:∃ j,k=j+1:=⟨k - 1,by omega⟩;have f:(((j+1:Nat):Int) - 1)=(j:Int):=by omega
   rw [f];obtain⟨b,h,rfl,r,q⟩:=at_rd hr (i:=j) (by rw [o.out];omega);by_cases hp:0<at_ xs j
   ·obtain rfl:(j:Int)=z:=by rw [<-d.out];simp only [lastU];rw [if_pos hp]
    clear f;go_wp2_with fail;go_ret;exact⟨rfl,rfl⟩
   ·have m:Hid (lastU xs j=z):=kD (by rw [<-d.out];simp only [lastU];rw [if_neg hp]);clear f;go_wp2_with fail;go_roundw
    case rel=>exact⟨j,by omega,by first | rfl | trivial | go_num,kD (by first | rfl | trivial),m⟩
    case measure=>simp [intOf] <;> omega
  ·obtain rfl:k=0:=by omega
   obtain rfl:-1=z:=by rw [<-d.out];rfl
   go_wp2_with fail;go_ret;exact⟨rfl,rfl⟩
end Bd1
namespace Bd2
open Go.ChangeShapes Go.WideShapes Go.ChangeAt Go.RowKit Base Ints Own Clone RelG PlP Bd1
theorem sumU_le {l:List Int} (h:∀ i,0<=at_ l i):∀ k,0<=sumU l k∧∀ j,j<=k->sumU l j<=sumU l k:=by
 intro k
 induction k with
 | zero=>exact⟨by simp [sumU],λ j a=>by rw [show j=0 from by omega];exact Int.le_refl _⟩
 | succ k ih =>
  have b:=h k;simp only [sumU];refine⟨by omega,λ j a=>?_⟩;by_cases e:j=k+1
  ·subst e;simp only [sumU];omega
  ·have:=ih.2 j (by omega);omega
theorem okS_len {v:Vr} {l:List Int} (h:¬ (l.length:Int)=v.p+1):okS v l=false:=by
 cases hc:okS v l with
 | false=>rfl
 | true=>exact absurd (okS_iff.1 hc).len h
theorem okS_at {v:Vr} {l:List Int} (k:Nat) (h:¬ (0<=at_ l k∧at_ l k<=v.c)):okS v l=false:=by
 cases hc:okS v l with
 | false=>rfl
 | true=>exact absurd ⟨(okS_iff.1 hc).nn k,(okS_iff.1 hc).top k⟩ h
theorem okS_left {v:Vr} {l:List Int} {k:Nat} (hk:k<l.length) (h:v.c<sumU l (k+1)):okS v l=false:=by
 cases hc:okS v l with
 | false=>rfl
 | true =>
  have a:=(sumU_le (okS_iff.1 hc).nn l.length).2 (k+1) (by omega);rw [sumU_all] at a;have:=(okS_iff.1 hc).sum;omega
theorem okS_all {v:Vr} {l:List Int} (h1:(l.length:Int)=v.p+1) (h2:∀ i,0<=at_ l i):okS v l=decide (l.sum<=v.c):=by
 by_cases h:l.sum<=v.c
 ·rw [decide_eq_true h];exact okS_iff.2 ⟨h1,h2,h⟩
 ·rw [decide_eq_false h]
  cases hc:okS v l with
  | false=>rfl
  | true=>exact absurd (okS_iff.1 hc).sum h
theorem nn_of {l:List Int} {c:Int} (h:∀ i,i<l.length->0<=at_ l i∧at_ l i<=c) (hc:0<=c):∀ i,0<=at_ l i∧at_ l i<=c:=by
 intro i;rcases Nat.lt_or_ge i l.length with hi | hi
 ·exact h i hi
 ·rw [at_out hi];omega
theorem side_s (v:Vr) (hv:okV v=true) (A:Option Addr) (cp B:Nat) (l:List Int) (x:Bool) (hx:okS v l=x) (w:World) (hB:B<=w.heap.size) (hr:RdS w B 1 enI A l) :
  Calls Tryz.prog 64 #[.agg #[.int .i64 v.p,.int .i64 v.c,.int .i64 v.h,.int .i64 v.s],.slice A l.length cp] w λ e w'=>e=.returned (.bool x)∧Below w.heap.size w w':=by
 have hv:=okV_iff.1 hv;obtain⟨⟨R,Q⟩,⟨X,W⟩,-,-⟩:=hv;have r:=hr.len;obtain⟨n,m⟩:∃ n,l.length=n:=⟨_,rfl⟩;have b:=kD m;have t:=kD hx;have F:=kD hr;have V:IntKind.i64.wrap (v.p+1)=v.p+1:=IntWalk.i64_in _ (by omega);rw [m] at r;rw [m];clear m hx hr;by_cases hlen:(n:Int)=v.p+1
 case neg =>
  obtain rfl:x=false:=by rw [<-t.out,okS_len (by rw [b.out];exact hlen)]
  have I:((n:Int) != v.p+1)=true:=by simp [hlen]
  clear hlen;go_enter Tryz.func64,Tryz.ntmps64;go_wp2_with fail;go_ret;exact⟨rfl,by go_grown⟩
 have I:((n:Int) != v.p+1)=false:=by simp [hlen]
 have K:=kD hlen;have D:n<=25:=by omega
 clear hlen;go_enter Tryz.func64,Tryz.ntmps64;go_wp2_with fail;go_loopw [5] (λ i wr=>∃(k:Nat),k<=n∧i=.int .i64 (k:Int)∧Hid (Below w.heap.size w wr)∧RowB wr w.heap.size 25 [.int .i64 v.p,.int .i64 v.c,.int .i64 v.h,.int .i64 v.s]∧Hid (∀ j,j<k->0<=at_ l j∧at_ l j<=v.c)) (λ i _=>n - (intOf i).toNat)
 case atStart=>exact⟨0,Nat.zero_le _,by first | rfl | trivial,kD (by go_grown),RowB.new _ _ _,λ j E=>absurd E (by omega)⟩
 case round =>
  obtain⟨k,S,rfl,g,d,a⟩:=hrel;obtain⟨P,O,N,M⟩:=d.c4;by_cases hlt:k<n
  ·obtain⟨Y,G,rfl,H,T⟩:=at_rd (F.out.below g.out hB) (i:=k) (by rw [b.out];exact hlt);obtain⟨y,C⟩:∃ y,decide (0<=at_ l k∧at_ l k<=v.c)=y:=⟨_,rfl⟩;have o:=kD C;clear C
   cases y
   case false =>
    obtain rfl:x=false:=by rw [<-t.out];exact okS_at k (of_decide_eq_false o.out)
    go_wp2_with fail;go_quiet ((go_at_call 58;exact in_sq _ _ _ false o.out _ _));go_wp2_with fail;go_ret;exact⟨rfl,below_drewN g.out _⟩
   case true =>
    have L:Hid (∀ j,j<k+1->0<=at_ l j∧at_ l j<=v.c):=kD (λ j E=>by
     by_cases e:j=k
     ·subst e;exact of_decide_eq_true o.out
     ·exact a.out j (by omega))
    go_wp2_with fail;go_quiet ((go_at_call 58;exact in_sq _ _ _ true o.out _ _));go_wp2_with fail;go_roundw
    case rel=>exact⟨k+1,by omega,by go_num,kD (below_drewN g.out _),d.drewN _,L⟩
    case measure=>simp [intOf];omega
  ·obtain rfl:k=n:=by omega
   have f:=kD (nn_of (l:=l) (by rw [b.out];exact a.out) (by omega));obtain⟨z,q⟩:∃ z,l.sum=z:=⟨_,rfl⟩;obtain rfl:x=decide (z<=v.c):=by rw [<-t.out,okS_all (by rw [b.out];exact K.out) (λ i=>(f.out i).1),q]
   have J:=kD q;clear q;go_wp2_with fail;go_quiet ((go_at_call 65;exact sum_sq A _ cp B l z b.out J.out _ _ (F.out.below g.out hB) (λ i=>by have:=f.out i;omega) (by rw [b.out];omega)));go_wp2_with fail;go_ret;exact⟨rfl,below_drewN g.out _⟩
theorem side_i (v:Vr) (hv:okV v=true) (A:Option Addr) (cp B:Nat) (l:List Int) (x:Bool) (hx:okS v l=x) (w:World) (hB:B<=w.heap.size) (hr:RdS w B 1 enI A l) :
  Calls Tryz.prog 81 #[.agg #[.int .i64 v.p,.int .i64 v.c,.int .i64 v.h,.int .i64 v.s],.slice A l.length cp] w λ e w'=>e=.returned (.bool x)∧Below w.heap.size w w':=by
 have hv:=okV_iff.1 hv;obtain⟨⟨M,L⟩,⟨R,Q⟩,-,-⟩:=hv;have q:=hr.len;obtain⟨n,g⟩:∃ n,l.length=n:=⟨_,rfl⟩;have b:=kD g;have m:=kD hx;have G:=kD hr;have P:IntKind.i64.wrap (v.p+1)=v.p+1:=IntWalk.i64_in _ (by omega);rw [g] at q;rw [g];clear g hx hr;by_cases hlen:(n:Int)=v.p+1
 case neg =>
  obtain rfl:x=false:=by rw [<-m.out,okS_len (by rw [b.out];exact hlen)]
  have E:((n:Int) != v.p+1)=true:=by simp [hlen]
  clear hlen;go_enter Tryz.func81,Tryz.ntmps81;go_wp2_with fail;go_ret;exact⟨rfl,by go_grown⟩
 have E:((n:Int) != v.p+1)=false:=by simp [hlen]
 have H:=kD hlen;have r:n<=25:=by omega
 clear hlen;go_enter Tryz.func81,Tryz.ntmps81;go_wp2_with fail;go_loopw [5,18] (λ t i wr=>∃(k:Nat) (y:Int),k<=n∧t=.int .i64 y∧i=.int .i64 (k:Int)∧Hid (Below w.heap.size w wr)∧0<=y∧y<=15∧Hid (y=v.c - sumU l k)∧Hid (∀ j,j<k->0<=at_ l j)) (λ _ i _=>n - (intOf i).toNat)
 case atStart=>exact⟨0,v.c,Nat.zero_le _,by first | rfl | trivial,by first | rfl | trivial,kD (by go_grown),by omega,by omega,kD (by simp [sumU]),λ j z=>absurd z (by omega)⟩
 case round =>
  obtain⟨k,y,N,rfl,rfl,f,K,J,o,a⟩:=hrel;by_cases hlt:k<n
  ·obtain⟨S,C,rfl,D,O⟩:=at_rd (G.out.below f.out hB) (i:=k) (by rw [b.out];exact hlt);by_cases h0:at_ l k<0
   ·obtain rfl:x=false:=by rw [<-m.out];exact okS_at k (λ h=>by omega)
    go_wp2_with fail;go_ret;exact⟨rfl,f.out⟩
   by_cases h1:y<at_ l k
   ·obtain rfl:x=false:=by rw [<-m.out];exact okS_left (k:=k) (by rw [b.out];exact hlt) (by simp only [sumU];have:=o.out;omega)
    go_wp2_with fail;go_ret;exact⟨rfl,f.out⟩
   ·have I:Hid (∀ j,j<k+1->0<=at_ l j):=kD (λ j z=>by
     by_cases e:j=k
     ·subst e;omega
     ·exact a.out j (by omega))
    have F:Hid (y - at_ l k=v.c - sumU l (k+1)):=kD (by simp only [sumU];have:=o.out;omega);go_wp2_with fail;go_roundw
    case rel=>exact⟨k+1,y - at_ l k,by omega,by first | rfl | trivial,by go_num,f,by omega,by omega,F,I⟩
    case measure=>simp [intOf];omega
  ·obtain rfl:k=n:=by omega
   have d:∀ i,0<=at_ l i:=λ i=>by
    rcases Nat.lt_or_ge i l.length with hi | hi
    ·exact a.out i (by rw [<-b.out];exact hi)
    ·rw [at_out hi];exact Int.le_refl _
   obtain rfl:x=true:=by
    rw [<-m.out,okS_all (by rw [b.out];exact H.out) d];refine decide_eq_true ?_;rw [<-sumU_all,b.out];have:=o.out;omega
   clear d;go_wp2_with fail;go_ret;exact⟨rfl,f.out⟩
theorem over_s (v:Vr) (b:Bd) (hb:Ok v b) (Ao At:Option Addr) (co ct B:Nat) (w:World) (hB:B<=w.heap.size) (ho:RdS w B 1 enI Ao b.1) (ht:RdS w B 1 enI At b.2) (x:Bool) (hx:over b=x) :
  Calls Tryz.prog 125 #[.agg #[.slice Ao b.1.length co,.slice At b.2.length ct]] w λ e w'=>e=.returned (.bool x)∧Below w.heap.size w w':=by
 have c:=hb.v1;have g:=kD (λ w (h:RdS w B 1 enI Ao b.1)=>sum_s Ao co B b.1 w h (λ i=>⟨hb.own.nn i,by have:=hb.own.top i;omega⟩) (by have:=hb.own.len;omega));have f:=kD (λ w (h:RdS w B 1 enI At b.2)=>sum_s At ct B b.2 w h (λ i=>⟨hb.oth.nn i,by have:=hb.oth.top i;omega⟩) (by have:=hb.oth.len;omega));unfold over at hx;have a:=kD hx;clear hx hb c;go_enter Tryz.func125,Tryz.ntmps125;go_wp2_with fail;refine(g.out _ (ho.below (by go_grown) hB)).mono ?_;rintro e k ⟨rfl,rfl⟩;by_cases h1:b.1.sum=0
 ·obtain rfl:x=true:=by rw [<-a.out];simp [h1]
  have d:(b.1.sum == 0)=true:=by simp [h1]
  clear h1;go_wp2_with fail;go_ret;exact⟨rfl,by go_grown⟩
 ·obtain rfl:x=(b.2.sum == 0):=by rw [<-a.out];simp [h1];rfl
  have d:(b.1.sum == 0)=false:=by simp [h1]
  clear h1;go_wp2_with fail;refine(f.out _ (ht.below (by go_grown) hB)).mono ?_;rintro e j ⟨rfl,rfl⟩;go_wp2_with fail;go_ret;exact⟨rfl,by go_grown⟩
theorem over_i (v:Vr) (b:Bd) (hb:Ok v b) (Ao At:Option Addr) (co ct B:Nat) (w:World) (hB:B<=w.heap.size) (ho:RdS w B 1 enI Ao b.1) (ht:RdS w B 1 enI At b.2) (x:Bool) (hx:over b=x) :
  Calls Tryz.prog 121 #[.agg #[.slice Ao b.1.length co,.slice At b.2.length ct]] w λ e w'=>e=.returned (.bool x)∧Below w.heap.size w w':=by
 have c:=hb.v1;have g:=kD (λ w (h:RdS w B 1 enI Ao b.1)=>sum_i Ao co B b.1 w h (λ i=>⟨hb.own.nn i,by have:=hb.own.top i;omega⟩) (by have:=hb.own.len;omega));have f:=kD (λ w (h:RdS w B 1 enI At b.2)=>sum_i At ct B b.2 w h (λ i=>⟨hb.oth.nn i,by have:=hb.oth.top i;omega⟩) (by have:=hb.oth.len;omega));unfold over at hx;have a:=kD hx;clear hx hb c;go_enter Tryz.func121,Tryz.ntmps121;go_wp2_with fail;refine(g.out _ (ho.below (by go_grown) hB)).mono ?_;rintro e k ⟨rfl,rfl⟩;by_cases h1:b.1.sum=0
 ·obtain rfl:x=true:=by rw [<-a.out];simp [h1]
  have d:(b.1.sum == 0)=true:=by simp [h1]
  clear h1;go_wp2_with fail;go_ret;exact⟨rfl,by go_grown⟩
 ·obtain rfl:x=(b.2.sum == 0):=by rw [<-a.out];simp [h1];rfl
  have d:(b.1.sum == 0)=false:=by simp [h1]
  clear h1;go_wp2_with fail;refine(f.out _ (ht.below (by go_grown) hB)).mono ?_;rintro e j ⟨rfl,rfl⟩;go_wp2_with fail;go_ret;exact⟨rfl,by go_grown⟩
end Bd2
namespace Bd5
open Go.ChangeShapes Go.WideShapes Go.RowKit Base PlP
def enSt (s:Stp):List Value:=[.int .i64 s.1,.int .i64 s.2.1,.int .i64 s.2.2.1,.bool s.2.2.2]
theorem enSt_len (s:Stp):(enSt s).length=4:=rfl
theorem one_St (s:Stp):∀ u ∈ enSt s,u.oneCell'=true:=by intro u a;simp [enSt] at a;rcases a with rfl | rfl | rfl | rfl <;> rfl
theorem infoSt:(Tryz.prog.info? 150).map (λ i=>(i.zero,i.size,i.bytes))=some (some (.agg #[.int .i64 0,.int .i64 0,.int .i64 0,.bool false]),4,32):=by kernel_rfl
end Bd5
end Go.Proofs.YtmncnhbjifeoeaaGreat
