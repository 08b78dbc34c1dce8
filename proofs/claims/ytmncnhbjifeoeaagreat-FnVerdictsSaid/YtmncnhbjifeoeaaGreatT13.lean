/- Parts of the proof of FnVerdicts. Conditions: each theorem's own. -/
import Derived.Test.YtmncnhbjifeoeaaGreatT08
set_option linter.unusedVariables false
set_option linter.unusedSimpArgs false
set_option maxHeartbeats 8000000
set_option maxRecDepth 100000
namespace Go.Proofs.YtmncnhbjifeoeaaGreat
namespace Bd15
open Go.ChangeShapes Go.WideShapes Go.ChangeAt Go.RowKit Base Ints Own PlP Bd1
theorem infoR:(Tryz.prog.info? 30).map (λ i=>(i.zero,i.size,i.bytes))=some (some (.agg #[.int .i64 0,.int .i64 0]),2,16):=by kernel_rfl
theorem one_R (s:Int × Int):∀ u ∈ enI2 s,u.oneCell'=true:=by intro u a;simp [enI2] at a;rcases a with rfl | rfl <;> rfl
def rlU (a k:Nat):List (Int × Int):=rollsP a++(List.range k).map λ b=>(((a+1:Nat):Int),((b+1:Nat):Int))
theorem rlU_zero (a:Nat):rlU a 0=rollsP a:=by simp [rlU]
theorem rlU_all (a:Nat):rlU a (a+1)=rollsP (a+1):=rfl
theorem rlU_succ (a k:Nat):rlU a (k+1)=rlU a k++[(((a+1:Nat):Int),((k+1:Nat):Int))]:=by
 unfold rlU;rw [List.range_succ,List.map_append,List.append_assoc];rfl
theorem rolls_len:∀ a,a<=6->(rollsP a).length<=a*7:=by
 intro a
 induction a with
 | zero=>intro _;exact Nat.le_refl _
 | succ a ih =>
  intro h;have:=ih (by omega);simp only [rollsP,List.length_append,List.length_map,List.length_range];omega
def okR (v:Vr) (a b:Int):Bool:=decide (1<=a∧a<=v.s) && decide (1<=b∧b<=a)
theorem okR_iff {v:Vr} {a b:Int}:okR v a b=true↔(1<=a∧a<=v.s)∧1<=b∧b<=a:=by
 unfold okR;simp only [Bool.and_eq_true,decide_eq_true_eq]
theorem rolls_i (v:Vr) (hv:okV v=true) (w:World):Calls Tryz.prog 123 #[.agg #[.int .i64 v.p,.int .i64 v.c,.int .i64 v.h,.int .i64 v.s]] w λ e w'=>∃ vv,e=.returned vv∧OwnS w' w.heap.size w'.heap.size 30 2 enI2 vv (rollsP v.s.toNat)∧Below w.heap.size w w':=by
 obtain⟨i2,N,I,H,G⟩:=info_parts infoR;have hs:=(okV_iff.1 hv).2.2.2;obtain⟨S,hS⟩:∃ S:Nat,v.s=(S:Int):=⟨v.s.toNat,by omega⟩;have ae:S<=6:=by omega
 have eS:v.s.toNat=S:=by omega
 rw [eS];have CV:=kD (λ w9=>var_i v true hv w9);have R:=hv;obtain⟨p,c,h,s⟩:=v;simp only at hS;subst hS;clear hs eS R;go_enter Tryz.func123,Tryz.ntmps123;go_wp2_with fail;refine(CV.out _).mono ?_;rintro e w1 ⟨rfl,n⟩;have d:=(RowB.new w 25 [.int .i64 p,.int .i64 c,.int .i64 h,.int .i64 (S:Int)]).below n (by go_size);have P:Below w.heap.size w w1:=Below.then_ (by go_grown) n (by go_size);obtain⟨D,C,B,A⟩:=d.c4;have l:=d.lt;clear n;go_wp2_with fail;go_loopw [3,4] (λ F i wr=>∃ a:Nat,a<=S∧i=.int .i64 ((a:Int)+1)∧Hid (Below w.heap.size w wr)∧RowB wr w.heap.size 25 [.int .i64 p,.int .i64 c,.int .i64 h,.int .i64 (S:Int)]∧Hid (OwnS wr (w.heap.size+1) wr.heap.size 30 2 enI2 F (rollsP a))) (λ _ i _=>S+1 - (intOf i).toNat)
 case atStart=>exact⟨0,Nat.zero_le _,by first | rfl | trivial,kD P,d,kD (OwnS.nil_ _ _ _ _ _ _)⟩
 case round =>
  obtain⟨a,ha,rfl,o,d,j⟩:=hrel;clear D C B A l;obtain⟨D,C,B,A⟩:=d.c4;have l:=d.lt;by_cases hlt:a<S
  ·have ad:(a:Int)+1<=(S:Int):=by omega
   have ab:IntKind.i64.wrap ((a:Int)+1+1)=(a:Int)+1+1:=IntWalk.i64_in _ (by omega);have V:=kD (rolls_len a (by omega));go_wp2_with fail;go_loopw [3,5] (λ F i z=>∃ k:Nat,k<=a+1∧i=.int .i64 ((k:Int)+1)∧Hid (Below w.heap.size w z)∧RowB z w.heap.size 25 [.int .i64 p,.int .i64 c,.int .i64 h,.int .i64 (S:Int)]∧Hid (OwnS z (w.heap.size+1) z.heap.size 30 2 enI2 F (rlU a k))∧Hid ((rlU a k).length<=a*7+k)) (λ _ i _=>a+2 - (intOf i).toNat)
   case atStart=>exact⟨0,Nat.zero_le _,by first | rfl | trivial,o,d,by rw [rlU_zero];exact j,kD (by rw [rlU_zero];exact V.out)⟩
   case round =>
    obtain⟨k,hk,rfl,o,d,j,b⟩:=hrel;clear D C B A l;obtain⟨D,C,B,A⟩:=d.c4;have l:=d.lt;by_cases hlk:k<a+1
    ·have ac:(k:Int)+1<=(a:Int)+1:=by omega
     have aa:IntKind.i64.wrap ((k:Int)+1+1)=(k:Int)+1+1:=IntWalk.i64_in _ (by omega);have T:=kD (rlU_succ a k);obtain⟨X,Z⟩:∃ X,rlU a k=X:=⟨_,rfl⟩;rw [Z] at j b T;clear Z;obtain⟨W,Q,J,_⟩:=j.out.form enI2_len;subst J;go_wp2_with (at_builtin;refine wpL_app rfl _ _ _ rfl (w.heap.size+1) _ 30 i2 (.agg #[.int .i64 0,.int .i64 0]) 2 16 Tryz.underlying169 N I H G rfl (by decide) enI2_len one_R (.slice W X.length Q) X [((a:Int)+1,(k:Int)+1)] rfl (j.out.alloc _) ⟨wr.heap.size,0,none⟩ 1 1 (by first | rfl | (simp;rfl) | (simp [go_sem];done)) rfl (news_new (RowB.new _ _ _)) (by decide) ?c1 ?c2 ?c3 ?_)
     case c1=>have:=b.out;unfold maxLen;omega
     case c2=>have:=b.out;omega
     case c3=>go_size
     intro k2 c2 E r t y Y;have f:∀ g,(Value.slice W X.length Q).ownBlock=some g->w.heap.size+1<=g:=λ g x=>(j.out.block g x).1
     have m:wr.grownBy E (Value.slice W X.length Q).ownBlock:=below_grown (w:=wr) (by go_grown) t;have d:=d.grown m (λ g x=>by have:=f g x;omega);have O:=kD (o.out.grown m o.out.size (λ g x=>by have:=f g x;omega));have K:=kD (show OwnS E (w.heap.size+1) E.heap.size 30 2 enI2 (.slice (some ⟨k2,0,none⟩) (X.length+1) c2) (rlU a (k+1)) from by rw [T.out];exact r);have L:Hid ((rlU a (k+1)).length<=a*7+(k+1)):=kD (by rw [T.out,List.length_append,List.length_singleton];have:=b.out;omega);clear t m y r f o j b;go_wp2_with fail;go_roundw
     case rel=>exact⟨k+1,by omega,by go_num,O,d,K,L⟩
     case measure=>simp [intOf];omega
    ·obtain rfl:k=a+1:=by omega
     have M:¬ (((a+1:Nat):Int)+1<=(a:Int)+1):=by omega
     have q:=kD j.out;rw [rlU_all] at q;go_wp2_with fail;go_roundw
     case rel=>exact⟨a+1,by omega,by go_num,o,d,q⟩
     case measure=>simp [intOf];omega
  ·obtain rfl:a=S:=by omega
   have M:¬ ((a:Int)+1<=(a:Int)):=by omega
   go_wp2_with fail;go_ret;exact⟨_,rfl,j.out.less (by omega),o.out⟩
theorem rolls_s (v:Vr) (hv:okV v=true) (w:World):Calls Tryz.prog 127 #[.agg #[.int .i64 v.p,.int .i64 v.c,.int .i64 v.h,.int .i64 v.s]] w λ e w'=>∃ vv,e=.returned vv∧OwnS w' w.heap.size w'.heap.size 30 2 enI2 vv (rollsP v.s.toNat)∧Below w.heap.size w w':=by
 obtain⟨i2,O,I,H,G⟩:=info_parts infoR;have hs:=(okV_iff.1 hv).2.2.2;obtain⟨S,hS⟩:∃ S:Nat,v.s=(S:Int):=⟨v.s.toNat,by omega⟩;have ae:S<=6:=by omega
 have eS:v.s.toNat=S:=by omega
 rw [eS];have T:=hv;obtain⟨p,c,h,s⟩:=v;simp only at hS;subst hS;clear hs eS T;go_enter Tryz.func127,Tryz.ntmps127;go_upto_region 2 with fail;refine wp_gen (λ D=>Below w.heap.size w D∧RowB D w.heap.size 25 [.int .i64 p,.int .i64 c,.int .i64 h,.int .i64 (S:Int)]∧OwnS D (w.heap.size+1) D.heap.size 30 2 enI2 (.slice (some ⟨w.heap.size+1,0,none⟩) 0 0) []) ⟨by go_grown,(RowB.new _ _ _).alloc _,RowB.own (xs:=([]:List (Int × Int))) (RowB.new' _ _ _ (by first | simp | go_size | rfl)) enI2_len (Nat.le_refl _) (by go_size) (by decide)⟩ ?_;rintro w1 ⟨Q,d,L⟩;obtain⟨C,B,A,z⟩:=d.c4;have l:=d.lt;go_wp2_with fail;go_loopw [3,4] (λ F i wr=>∃ a:Nat,a<=S∧i=.int .i64 ((a:Int)+1)∧Hid (Below w.heap.size w wr)∧RowB wr w.heap.size 25 [.int .i64 p,.int .i64 c,.int .i64 h,.int .i64 (S:Int)]∧Hid (OwnS wr (w.heap.size+1) wr.heap.size 30 2 enI2 F (rollsP a))) (λ _ i _=>S+1 - (intOf i).toNat)
 case atStart=>exact⟨0,Nat.zero_le _,by first | rfl | trivial,kD Q,d,kD L⟩
 case round =>
  obtain⟨a,ha,rfl,n,d,j⟩:=hrel;clear C B A z l;obtain⟨C,B,A,z⟩:=d.c4;have l:=d.lt;by_cases hlt:a<S
  ·have ad:(a:Int)+1<=(S:Int):=by omega
   have ab:IntKind.i64.wrap ((a:Int)+1+1)=(a:Int)+1+1:=IntWalk.i64_in _ (by omega);have W:=kD (rolls_len a (by omega));go_wp2_with fail;go_loopw [3,5] (λ F i y=>∃ k:Nat,k<=a+1∧i=.int .i64 ((k:Int)+1)∧Hid (Below w.heap.size w y)∧RowB y w.heap.size 25 [.int .i64 p,.int .i64 c,.int .i64 h,.int .i64 (S:Int)]∧Hid (OwnS y (w.heap.size+1) y.heap.size 30 2 enI2 F (rlU a k))∧Hid ((rlU a k).length<=a*7+k)) (λ _ i _=>a+2 - (intOf i).toNat)
   case atStart=>exact⟨0,Nat.zero_le _,by first | rfl | trivial,n,d,by rw [rlU_zero];exact j,kD (by rw [rlU_zero];exact W.out)⟩
   case round =>
    obtain⟨k,hk,rfl,n,d,j,b⟩:=hrel;clear C B A z l;obtain⟨C,B,A,z⟩:=d.c4;have l:=d.lt;by_cases hlk:k<a+1
    ·have ac:(k:Int)+1<=(a:Int)+1:=by omega
     have aa:IntKind.i64.wrap ((k:Int)+1+1)=(k:Int)+1+1:=IntWalk.i64_in _ (by omega);have V:=kD (rlU_succ a k);obtain⟨X,hX⟩:∃ X,rlU a k=X:=⟨_,rfl⟩;rw [hX] at j b V;clear hX;obtain⟨Y,R,J,_⟩:=j.out.form enI2_len;subst J;go_wp2_with (at_builtin;refine wpL_app rfl _ _ _ rfl (w.heap.size+1) _ 30 i2 (.agg #[.int .i64 0,.int .i64 0]) 2 16 Tryz.underlying169 O I H G rfl (by decide) enI2_len one_R (.slice Y X.length R) X [((a:Int)+1,(k:Int)+1)] rfl (j.out.alloc _) ⟨wr.heap.size,0,none⟩ 1 1 (by first | rfl | (simp;rfl) | (simp [go_sem];done)) rfl (news_new (RowB.new _ _ _)) (by decide) ?c1 ?c2 ?c3 ?_)
     case c1=>have:=b.out;unfold maxLen;omega
     case c2=>have:=b.out;omega
     case c3=>go_size
     intro k2 c2 E q r x Z;have f:∀ g,(Value.slice Y X.length R).ownBlock=some g->w.heap.size+1<=g:=λ g t=>(j.out.block g t).1
     have m:wr.grownBy E (Value.slice Y X.length R).ownBlock:=below_grown (w:=wr) (by go_grown) r;have d:=d.grown m (λ g t=>by have:=f g t;omega);have P:=kD (n.out.grown m n.out.size (λ g t=>by have:=f g t;omega));have K:=kD (show OwnS E (w.heap.size+1) E.heap.size 30 2 enI2 (.slice (some ⟨k2,0,none⟩) (X.length+1) c2) (rlU a (k+1)) from by rw [V.out];exact q);have M:Hid ((rlU a (k+1)).length<=a*7+(k+1)):=kD (by rw [V.out,List.length_append,List.length_singleton];have:=b.out;omega);clear r m x q f n j b;go_wp2_with fail;go_roundw
     case rel=>exact⟨k+1,by omega,by go_num,P,d,K,M⟩
     case measure=>simp [intOf];omega
    ·obtain rfl:k=a+1:=by omega
     have N:¬ (((a+1:Nat):Int)+1<=(a:Int)+1):=by omega
     have o:=kD j.out;rw [rlU_all] at o;go_wp2_with fail;go_roundw
     case rel=>exact⟨a+1,by omega,by go_num,n,d,o⟩
     case measure=>simp [intOf];omega
  ·obtain rfl:a=S:=by omega
   have N:¬ ((a:Int)+1<=(a:Int)):=by omega
   go_wp2_with fail;go_ret;exact⟨_,rfl,j.out.less (by omega),n.out⟩
theorem isroll_i (v:Vr) (a b:Int) (x:Bool) (hx:(okV v && okR v a b)=x) (w:World):Calls Tryz.prog 32 #[.agg #[.int .i64 v.p,.int .i64 v.c,.int .i64 v.h,.int .i64 v.s],.agg #[.int .i64 a,.int .i64 b]] w λ e w'=>e=.returned (.bool x)∧Below w.heap.size w w':=by
 unfold okR at hx;obtain⟨o,k⟩:∃ a,okV v=a:=⟨_,rfl⟩;obtain⟨n,j⟩:∃ c,decide (1<=a∧a<=v.s)=c:=⟨_,rfl⟩;obtain⟨m,i⟩:∃ c,decide (1<=b∧b<=a)=c:=⟨_,rfl⟩;rw [k,j,i] at hx;have A:=kD (λ w=>var_i v o k w);have z:=kD (λ w=>in_i a 1 v.s n j w);have y:=kD (λ w=>in_i b 1 a m i w);have l:=kD hx;clear k j i hx;go_enter Tryz.func32,Tryz.ntmps32;go_wp2_with fail;refine(A.out _).mono ?_;rintro e q ⟨rfl,d⟩;have r:=(RowB.alloc (RowB.new w 25 [.int .i64 v.p,.int .i64 v.c,.int .i64 v.h,.int .i64 v.s]) _).below d (by go_size);have t:=(RowB.new' (w.alloc (.cells #[.int .i64 v.p,.int .i64 v.c,.int .i64 v.h,.int .i64 v.s] 25)) 30 [.int .i64 a,.int .i64 b] (g:=w.heap.size+1) (by simp)).below d (by go_size);have f:Below w.heap.size w q:=Below.then_ (by go_grown) d (by go_size);clear d;obtain⟨I,H,G,F⟩:=r.c4;obtain⟨E,D⟩:=t.c2
 cases o
 case false =>
  obtain rfl:x=false:=by rw [<-l.out];rfl
  go_wp2_with fail;go_ret;exact⟨rfl,f⟩
 go_wp2_with fail;refine(z.out _).mono ?_;rintro e C ⟨rfl,rfl⟩
 cases n
 case false =>
  obtain rfl:x=false:=by rw [<-l.out];rfl
  go_wp2_with fail;go_ret;exact⟨rfl,f⟩
 go_wp2_with fail;refine(y.out _).mono ?_;rintro e B ⟨rfl,rfl⟩;obtain rfl:x=m:=by rw [<-l.out];simp
 go_wp2_with fail;go_ret;exact⟨rfl,f⟩
theorem weight_i (v:Vr) (hv:okV v=true) (a b:Int) (hr:okR v a b=true) (w:World):Calls Tryz.prog 124 #[.agg #[.int .i64 v.p,.int .i64 v.c,.int .i64 v.h,.int .i64 v.s],.agg #[.int .i64 a,.int .i64 b]] w λ e w'=>e=.returned (.int .i64 (wtP (a,b)))∧Below w.heap.size w w':=by
 have k:=kD (λ w=>isroll_i v a b true (by rw [hv,hr];rfl) w);obtain⟨z,i⟩:∃ z,wtP (a,b)=z:=⟨_,rfl⟩;rw [i];have f:=kD i;clear hv hr i;go_enter Tryz.func124,Tryz.ntmps124;go_wp2_with fail;refine(k.out _).mono ?_;rintro e l ⟨rfl,d⟩;have m:=(RowB.new' (w.alloc (.cells #[.int .i64 v.p,.int .i64 v.c,.int .i64 v.h,.int .i64 v.s] 25)) 30 [.int .i64 a,.int .i64 b] (g:=w.heap.size+1) (by simp)).below d (by go_size);have j:Below w.heap.size w l:=Below.then_ (by go_grown) d (by go_size);clear d k;obtain⟨q,o⟩:=m.c2;by_cases h:a=b
 ·obtain rfl:z=1:=by rw [<-f.out];unfold wtP;rw [if_pos h]
  have n:(a == b)=true:=by simp [h]
  clear h f;go_wp2_with fail;go_ret;exact⟨rfl,j⟩
 ·obtain rfl:z=2:=by rw [<-f.out];unfold wtP;rw [if_neg h]
  have n:(a == b)=false:=by simp [h]
  clear h f;go_wp2_with fail;go_ret;exact⟨rfl,j⟩
theorem base_s (v:Vr) (hv:okV v=true) (w:World):Calls Tryz.prog 129 #[.agg #[.int .i64 v.p,.int .i64 v.c,.int .i64 v.h,.int .i64 v.s]] w λ e w'=>e=.returned (.int .i64 (v.s*v.s))∧Below w.heap.size w w':=by
 have a:=(okV_iff.1 hv).2.2.2;have b:0<=v.s*v.s∧v.s*v.s<=36:=⟨Int.mul_nonneg (by omega) (by omega),Int.mul_le_mul a.2 a.2 (by omega) (by omega)⟩;have d:IntKind.i64.wrap (v.s*v.s)=v.s*v.s:=IntWalk.i64_in _ (by omega);clear hv a b;go_enter Tryz.func129,Tryz.ntmps129;go_wp2_with fail;go_ret;exact⟨rfl,by go_grown⟩
end Bd15
namespace RegF
open Go Go.RowKit Base RegInv
theorem FixFrom.gd {P:Program} {ops:Array Oper} {Q:Exit->Act->World->Prop} {a0:Act} {ds:List (Option Nat)} {vals:Nat->Value} {B:(Nat->Prop)->World->Prop} {n:Nat} {o:Oper} (G:Bool) (ho:ops[n]?=some o) (hG:wantV o vals=G) (h0:G=false->vals n=undef) (hb:∀ L w',B L w'->B (λ j=>j=n∨L j) w') (h:G=true->FixAt P ops Q a0 ds vals B n o) (r:FixFrom P ops Q a0 ds vals B (n+1)):FixFrom P ops Q a0 ds vals B n:=by
 intro k d c a;by_cases e:k=n
 ·subst e;rw [ho] at a;simp only [Option.some.injEq] at a;subst a;exact⟨λ b=>h (hG.symm.trans b),λ b=>⟨h0 (hG.symm.trans b),hb⟩⟩
 ·exact r k (by omega) c a
end RegF
namespace Bd3
open Go.ChangeShapes Go.WideShapes Go.ChangeAt Go.RowKit Base Ints Own Clone RelG PlP Bd1 Bd2 RegInv RegF
theorem apart_no {v:Vr} {b:Bd} {n k:Nat} (hk:k<n) (h:0<at_ b.1 k∧0<at_ b.2 (v.p.toNat - 1 - k)):apart v b n=false:=by
 cases hc:apart v b n with
 | false=>rfl
 | true=>exact absurd h ((apart_iff n).1 hc k hk)
theorem apart_step {v:Vr} {b:Bd} {k:Nat} (h:apart v b k=true) (hn:¬ (0<at_ b.1 k∧0<at_ b.2 (v.p.toNat - 1 - k))):apart v b (k+1)=true:=by
 refine(apart_iff (k+1)).2 λ i a=>?_
 by_cases e:i=k
 ·subst e;exact hn
 ·exact(apart_iff k).1 h i (by omega)
theorem okB_eq (v:Vr) (b:Bd):okB v b=(okV v && okS v b.1 && okS v b.2 && !(decide (b.1.sum=0) && decide (b.2.sum=0)) && apart v b v.p.toNat):=rfl
theorem isB_s (v:Vr) (b:Bd) (Ao At:Option Addr) (co ct B:Nat) (w:World) (hB:B<=w.heap.size) (ho:RdS w B 1 enI Ao b.1) (ht:RdS w B 1 enI At b.2) (x:Bool) (hx:okB v b=x) :
  Calls Tryz.prog 18 #[.agg #[.int .i64 v.p,.int .i64 v.c,.int .i64 v.h,.int .i64 v.s],.agg #[.slice Ao b.1.length co,.slice At b.2.length ct]] w λ e w'=>e=.returned (.bool x)∧Below w.heap.size w w':=by
 rw [okB_eq] at hx;obtain⟨a,ha⟩:∃ a,okV v=a:=⟨_,rfl⟩;obtain⟨f,ab⟩:∃ a,okS v b.1=a:=⟨_,rfl⟩;obtain⟨m,aa⟩:∃ a,okS v b.2=a:=⟨_,rfl⟩;rw [ha,ab,aa] at hx;have HX:=kD hx;have HA:=kD ha;have H1:=kD ab;have H2:=kD aa;have HO:=kD ho;have HT:=kD ht;have CV:=kD (λ w=>var_s v a ha w);clear hx ha ab aa ho ht;go_enter Tryz.func18,Tryz.ntmps18;go_upto_region 1 with fail;refine wp_gen (λ W'=>Below w.heap.size w W'∧RowB W' w.heap.size 25 (vL v)∧RowB W' (w.heap.size+1) 28 [.slice Ao b.1.length co,.slice At b.2.length ct]) ⟨by go_grown,(RowB.new _ _ _).alloc _,RowB.new' _ _ _ (by simp)⟩ ?_;rintro w1 ⟨ag,l,o⟩;obtain⟨P,O,N,M⟩:=l.c4;obtain⟨J,I⟩:=o.c2;have G:=l.lt;have F:=o.lt;clear P O N M J I G F;have W:=kD (λ(h:(a && f && m)=true)=>okV_iff.1 (HA.out.trans (by revert h;cases a <;> simp)));have Y:=kD (λ(h:(a && f && m)=true)=>okS_iff.1 (H1.out.trans (by revert h;cases f <;> simp)));have X:=kD (λ(h:(a && f && m)=true)=>okS_iff.1 (H2.out.trans (by revert h;cases m <;> simp)));have C1:=kD (λ(g:a=true) t (h:Below w.heap.size w t)=>side_s v (HA.out.trans g) Ao co B b.1 f H1.out t (Nat.le_trans hB h.size) (HO.out.below h hB));have C2:=kD (λ(g:(a && f)=true) t (h:Below w.heap.size w t)=>side_s v (HA.out.trans (by revert g;cases a <;> simp)) At ct B b.2 m H2.out t (Nat.le_trans hB h.size) (HT.out.below h hB));obtain⟨T,ae⟩:∃ z,b.1.sum=z:=⟨_,rfl⟩;obtain⟨S,ad⟩:∃ z,b.2.sum=z:=⟨_,rfl⟩;have S1:=kD (λ(g:(a && f && m)=true) t (h:Below w.heap.size w t)=>sum_s Ao co B b.1 t (HO.out.below h hB) (λ i=>⟨(Y.out g).nn i,by have:=(Y.out g).top i;have:=W.out g;omega⟩) (by have:=(Y.out g).len;have:=W.out g;omega));have S2:=kD (λ(g:(a && f && m)=true) t (h:Below w.heap.size w t)=>sum_s At ct B b.2 t (HT.out.below h hB) (λ i=>⟨(X.out g).nn i,by have:=(X.out g).top i;have:=W.out g;omega⟩) (by have:=(X.out g).len;have:=W.out g;omega));have zz:=kD (λ(g:(a && f && m)=true)=>And.intro (Y.out g).sum0 (And.intro (X.out g).sum0 (And.intro (Y.out g).sum (X.out g).sum)));have R:=kD HX.out;simp only [ae,ad] at S1 S2 zz R;clear ae ad HX;have EZ:=kD (λ(g:(a && f && m)=true)=>(show IntKind.i64.wrap (T+S)=T+S from IntWalk.i64_in _ (by have:=zz.out g;have:=W.out g;omega)));obtain⟨qz,e0⟩:∃ q,(T+S == 0)=q:=⟨_,rfl⟩;have XT:Hid ((a && f && m)=true->qz=false->apart v b v.p.toNat=x):=kD (λ g e=>by
  have h:=zz.out g;rw [e,beq_eq_false_iff_ne] at e0;rw [<-R.out,g,show (decide (T=0) && decide (S=0))=false by simp;omega];rfl)
 have XF:Hid ((bif a && f && m then qz else true)=true->x=false):=kD (λ e=>by
  cases g:(a && f && m) with
  | false=>rw [<-R.out,g];rfl
  | true =>
   rw [g] at e;have h:=zz.out g;have e:qz=true:=e;rw [e,beq_iff_eq] at e0;obtain rfl:T=0:=by omega
   obtain rfl:S=0:=by omega
   rw [<-R.out,g];rfl)
 clear R zz H1 H2 HA;go_upto_region 1 with fail;refine region_fix [some 6,some 7,some 8,some 9,some 10,some 11,some 12,some 13,some 14,some 15,some 16,some 17,some 18,some 19,some 20,some 21,some 22,some 23,some 24,some 25,some 26,some 27,some 28,some 29,some 30,some 31,some 32] (λ j_=>([.agg #[.int .i64 v.p,.int .i64 v.c,.int .i64 v.h,.int .i64 v.s],.bool a,.bool (!a),.bool (!a),(bif (!a) == false then .agg #[.int .i64 v.p,.int .i64 v.c,.int .i64 v.h,.int .i64 v.s] else undef),(bif (!a) == false then .pointer (some ⟨w.heap.size+1,0,none⟩) else undef),(bif (!a) == false then .slice Ao b.1.length co else undef),(bif (!a) == false then .bool f else undef),(bif (!a) == false then .bool (!f) else undef),.bool (!(a && f)),.bool (!(a && f)),(bif (!(a && f)) == false then .agg #[.int .i64 v.p,.int .i64 v.c,.int .i64 v.h,.int .i64 v.s] else undef),(bif (!(a && f)) == false then .pointer (some ⟨w.heap.size+1,1,none⟩) else undef),(bif (!(a && f)) == false then .slice At b.2.length ct else undef),(bif (!(a && f)) == false then .bool m else undef),(bif (!(a && f)) == false then .bool (!m) else undef),.bool (!(a && f && m)),.bool (!(a && f && m)),(bif (!(a && f && m)) == false then .pointer (some ⟨w.heap.size+1,0,none⟩) else undef),(bif (!(a && f && m)) == false then .slice Ao b.1.length co else undef),(bif (!(a && f && m)) == false then .int .i64 T else undef),(bif (!(a && f && m)) == false then .pointer (some ⟨w.heap.size+1,1,none⟩) else undef),(bif (!(a && f && m)) == false then .slice At b.2.length ct else undef),(bif (!(a && f && m)) == false then .int .i64 S else undef),(bif (!(a && f && m)) == false then .int .i64 (T+S) else undef),(bif (!(a && f && m)) == false then .bool qz else undef),.bool (bif a && f && m then qz else true)]:List Value).getD j_ undef) (λ L w'=>Below w.heap.size w w'∧RowB w' w.heap.size 25 (vL v)∧RowB w' (w.heap.size+1) 28 [.slice Ao b.1.length co,.slice At b.2.length ct]) (by kernel_rfl) (by kernel_rfl) (by kernel_rfl) (by kernel_rfl) (by first | kernel_rfl | rfl) (by first | kernel_rfl | rfl) ?hB1 ?hBL1 ?hst1 ?fin1
 case hB1=>exact⟨ag.drew,l.drew,o.drew⟩
 case hBL1=>exact λ _ _ _ _ h=>h
 case hst1 =>
  refine FixFrom.run rfl rfl (λ L A t C n y d K D=>?_) ?_
  ·have e2:A.tmps[2]?.getD undef=.pointer (some ⟨w.heap.size,0,none⟩):=y 2 (by decide);clear n y
   cases a <;> cases f <;> cases m <;>
    (have l:=d.2.1
     have o:=d.2.2;replace d:=d.1;have P:=l.c4.1;have O:=l.c4.2.1;have N:=l.c4.2.2.1;have M:=l.c4.2.2.2;have J:=o.c2.1;have I:=o.c2.2;have G:=l.lt;have F:=o.lt;go_simp;exact D.out t ⟨d,l,o⟩)
  refine FixFrom.run rfl rfl (λ L A t C n y d K D=>?_) ?_
  ·have e6:A.tmps[6]?.getD undef=.agg #[.int .i64 v.p,.int .i64 v.c,.int .i64 v.h,.int .i64 v.s]:=gu n 0 6;clear n y
   cases a <;> cases f <;> cases m <;>
    (have l:=d.2.1
     have o:=d.2.2;replace d:=d.1;have P:=l.c4.1;have O:=l.c4.2.1;have N:=l.c4.2.2.1;have M:=l.c4.2.2.2;have J:=o.c2.1;have I:=o.c2.2;have G:=l.lt;have F:=o.lt;go_simp;refine(CV.out t).mono ?_;rintro e Z ⟨rfl,H⟩;exact D.out Z ⟨d.trans (H.mono d.size),l.below H l.lt,o.below H o.lt⟩)
  refine FixFrom.run rfl rfl (λ L A t C n y d K D=>?_) ?_
  ·have e7:A.tmps[7]?.getD undef=.bool a:=gu n 1 7;clear n y
   cases a <;> cases f <;> cases m <;>
    (go_simp
     exact D.out t d)
  refine FixFrom.run rfl rfl (λ L A t C n y d K D=>?_) ?_
  ·have e8:A.tmps[8]?.getD undef=.bool (!a):=gu n 2 8;clear n y
   cases a <;> cases f <;> cases m <;>
    (go_simp
     exact D.out t d)
  refine FixFrom.gd ((!a) == false) rfl rfl (by cases a <;> cases f <;> cases m <;> first | exact λ _=>rfl | exact λ h=>absurd h (by decide)) (λ _ _ h=>h) (λ E L A t C n y d K D=>?_) ?_
  ·have e2:A.tmps[2]?.getD undef=.pointer (some ⟨w.heap.size,0,none⟩):=y 2 (by decide);clear n y
   cases a <;> cases f <;> cases m <;> first
    | exact absurd E (by decide)
    | (have l:=d.2.1
       have o:=d.2.2;replace d:=d.1;have P:=l.c4.1;have O:=l.c4.2.1;have N:=l.c4.2.2.1;have M:=l.c4.2.2.2;have J:=o.c2.1;have I:=o.c2.2;have G:=l.lt;have F:=o.lt;go_simp;exact D.out t ⟨d,l,o⟩)
  refine FixFrom.gd ((!a) == false) rfl rfl (by cases a <;> cases f <;> cases m <;> first | exact λ _=>rfl | exact λ h=>absurd h (by decide)) (λ _ _ h=>h) (λ E L A t C n y d K D=>?_) ?_
  ·have e3:A.tmps[3]?.getD undef=.pointer (some ⟨w.heap.size+1,0,none⟩):=y 3 (by decide);clear n y
   cases a <;> cases f <;> cases m <;> first
    | exact absurd E (by decide)
    | (go_simp
       exact D.out t d)
  refine FixFrom.gd ((!a) == false) rfl rfl (by cases a <;> cases f <;> cases m <;> first | exact λ _=>rfl | exact λ h=>absurd h (by decide)) (λ _ _ h=>h) (λ E L A t C n y d K D=>?_) ?_
  ·have aK:A.tmps[11]?.getD undef=(bif (!a) == false then .pointer (some ⟨w.heap.size+1,0,none⟩) else undef):=gu n 5 11;clear n y
   cases a <;> cases f <;> cases m <;> first
    | exact absurd E (by decide)
    | (have l:=d.2.1
       have o:=d.2.2;replace d:=d.1;have P:=l.c4.1;have O:=l.c4.2.1;have N:=l.c4.2.2.1;have M:=l.c4.2.2.2;have J:=o.c2.1;have I:=o.c2.2;have G:=l.lt;have F:=o.lt;go_simp;exact D.out t ⟨d,l,o⟩)
  refine FixFrom.gd ((!a) == false) rfl rfl (by cases a <;> cases f <;> cases m <;> first | exact λ _=>rfl | exact λ h=>absurd h (by decide)) (λ _ _ h=>h) (λ E L A t C n y d K D=>?_) ?_
  ·have aL:A.tmps[10]?.getD undef=(bif (!a) == false then .agg #[.int .i64 v.p,.int .i64 v.c,.int .i64 v.h,.int .i64 v.s] else undef):=gu n 4 10;have aJ:A.tmps[12]?.getD undef=(bif (!a) == false then .slice Ao b.1.length co else undef):=gu n 6 12;clear n y
   cases a <;> cases f <;> cases m <;> first
    | exact absurd E (by decide)
    | (have l:=d.2.1
       have o:=d.2.2;replace d:=d.1;have P:=l.c4.1;have O:=l.c4.2.1;have N:=l.c4.2.2.1;have M:=l.c4.2.2.2;have J:=o.c2.1;have I:=o.c2.2;have G:=l.lt;have F:=o.lt;go_simp;refine(C1.out rfl t d).mono ?_;rintro e Z ⟨rfl,H⟩;exact D.out Z ⟨d.trans (H.mono d.size),l.below H l.lt,o.below H o.lt⟩)
  refine FixFrom.gd ((!a) == false) rfl rfl (by cases a <;> cases f <;> cases m <;> first | exact λ _=>rfl | exact λ h=>absurd h (by decide)) (λ _ _ h=>h) (λ E L A t C n y d K D=>?_) ?_
  ·have aI:A.tmps[13]?.getD undef=(bif (!a) == false then .bool f else undef):=gu n 7 13;clear n y
   cases a <;> cases f <;> cases m <;> first
    | exact absurd E (by decide)
    | (go_simp
       exact D.out t d)
  refine FixFrom.run rfl rfl (λ L A t C n y d K D=>?_) ?_
  ·have e9:A.tmps[9]?.getD undef=.bool (!a):=gu n 3 9;have aH:A.tmps[14]?.getD undef=(bif (!a) == false then .bool (!f) else undef):=gu n 8 14;clear n y
   cases a <;> cases f <;> cases m <;>
    (go_simp
     exact D.out t d)
  refine FixFrom.run rfl rfl (λ L A t C n y d K D=>?_) ?_
  ·have aG:A.tmps[15]?.getD undef=.bool (!(a && f)):=gu n 9 15;clear n y
   cases a <;> cases f <;> cases m <;>
    (go_simp
     exact D.out t d)
  refine FixFrom.gd ((!(a && f)) == false) rfl rfl (by cases a <;> cases f <;> cases m <;> first | exact λ _=>rfl | exact λ h=>absurd h (by decide)) (λ _ _ h=>h) (λ E L A t C n y d K D=>?_) ?_
  ·have e2:A.tmps[2]?.getD undef=.pointer (some ⟨w.heap.size,0,none⟩):=y 2 (by decide);clear n y
   cases a <;> cases f <;> cases m <;> first
    | exact absurd E (by decide)
    | (have l:=d.2.1
       have o:=d.2.2;replace d:=d.1;have P:=l.c4.1;have O:=l.c4.2.1;have N:=l.c4.2.2.1;have M:=l.c4.2.2.2;have J:=o.c2.1;have I:=o.c2.2;have G:=l.lt;have F:=o.lt;go_simp;exact D.out t ⟨d,l,o⟩)
  refine FixFrom.gd ((!(a && f)) == false) rfl rfl (by cases a <;> cases f <;> cases m <;> first | exact λ _=>rfl | exact λ h=>absurd h (by decide)) (λ _ _ h=>h) (λ E L A t C n y d K D=>?_) ?_
  ·have e3:A.tmps[3]?.getD undef=.pointer (some ⟨w.heap.size+1,0,none⟩):=y 3 (by decide);clear n y
   cases a <;> cases f <;> cases m <;> first
    | exact absurd E (by decide)
    | (go_simp
       exact D.out t d)
  refine FixFrom.gd ((!(a && f)) == false) rfl rfl (by cases a <;> cases f <;> cases m <;> first | exact λ _=>rfl | exact λ h=>absurd h (by decide)) (λ _ _ h=>h) (λ E L A t C n y d K D=>?_) ?_
  ·have aD:A.tmps[18]?.getD undef=(bif (!(a && f)) == false then .pointer (some ⟨w.heap.size+1,1,none⟩) else undef):=gu n 12 18;clear n y
   cases a <;> cases f <;> cases m <;> first
    | exact absurd E (by decide)
    | (have l:=d.2.1
       have o:=d.2.2;replace d:=d.1;have P:=l.c4.1;have O:=l.c4.2.1;have N:=l.c4.2.2.1;have M:=l.c4.2.2.2;have J:=o.c2.1;have I:=o.c2.2;have G:=l.lt;have F:=o.lt;go_simp;exact D.out t ⟨d,l,o⟩)
  refine FixFrom.gd ((!(a && f)) == false) rfl rfl (by cases a <;> cases f <;> cases m <;> first | exact λ _=>rfl | exact λ h=>absurd h (by decide)) (λ _ _ h=>h) (λ E L A t C n y d K D=>?_) ?_
  ·have aE:A.tmps[17]?.getD undef=(bif (!(a && f)) == false then .agg #[.int .i64 v.p,.int .i64 v.c,.int .i64 v.h,.int .i64 v.s] else undef):=gu n 11 17;have aC:A.tmps[19]?.getD undef=(bif (!(a && f)) == false then .slice At b.2.length ct else undef):=gu n 13 19;clear n y
   cases a <;> cases f <;> cases m <;> first
    | exact absurd E (by decide)
    | (have l:=d.2.1
       have o:=d.2.2;replace d:=d.1;have P:=l.c4.1;have O:=l.c4.2.1;have N:=l.c4.2.2.1;have M:=l.c4.2.2.2;have J:=o.c2.1;have I:=o.c2.2;have G:=l.lt;have F:=o.lt;go_simp;refine(C2.out rfl t d).mono ?_;rintro e Z ⟨rfl,H⟩;exact D.out Z ⟨d.trans (H.mono d.size),l.below H l.lt,o.below H o.lt⟩)
  refine FixFrom.gd ((!(a && f)) == false) rfl rfl (by cases a <;> cases f <;> cases m <;> first | exact λ _=>rfl | exact λ h=>absurd h (by decide)) (λ _ _ h=>h) (λ E L A t C n y d K D=>?_) ?_
  ·have aB:A.tmps[20]?.getD undef=(bif (!(a && f)) == false then .bool m else undef):=gu n 14 20;clear n y
   cases a <;> cases f <;> cases m <;> first
    | exact absurd E (by decide)
    | (go_simp
       exact D.out t d)
  refine FixFrom.run rfl rfl (λ L A t C n y d K D=>?_) ?_
  ·have aF:A.tmps[16]?.getD undef=.bool (!(a && f)):=gu n 10 16;have aA:A.tmps[21]?.getD undef=(bif (!(a && f)) == false then .bool (!m) else undef):=gu n 15 21;clear n y
   cases a <;> cases f <;> cases m <;>
    (go_simp
     exact D.out t d)
  refine FixFrom.run rfl rfl (λ L A t C n y d K D=>?_) ?_
  ·have az:A.tmps[22]?.getD undef=.bool (!(a && f && m)):=gu n 16 22;clear n y
   cases a <;> cases f <;> cases m <;>
    (go_simp
     exact D.out t d)
  refine FixFrom.gd ((!(a && f && m)) == false) rfl rfl (by cases a <;> cases f <;> cases m <;> first | exact λ _=>rfl | exact λ h=>absurd h (by decide)) (λ _ _ h=>h) (λ E L A t C n y d K D=>?_) ?_
  ·have e3:A.tmps[3]?.getD undef=.pointer (some ⟨w.heap.size+1,0,none⟩):=y 3 (by decide);clear n y
   cases a <;> cases f <;> cases m <;> first
    | exact absurd E (by decide)
    | (go_simp
       exact D.out t d)
  refine FixFrom.gd ((!(a && f && m)) == false) rfl rfl (by cases a <;> cases f <;> cases m <;> first | exact λ _=>rfl | exact λ h=>absurd h (by decide)) (λ _ _ h=>h) (λ E L A t C n y d K D=>?_) ?_
  ·have ax:A.tmps[24]?.getD undef=(bif (!(a && f && m)) == false then .pointer (some ⟨w.heap.size+1,0,none⟩) else undef):=gu n 18 24;clear n y
   cases a <;> cases f <;> cases m <;> first
    | exact absurd E (by decide)
    | (have l:=d.2.1
       have o:=d.2.2;replace d:=d.1;have P:=l.c4.1;have O:=l.c4.2.1;have N:=l.c4.2.2.1;have M:=l.c4.2.2.2;have J:=o.c2.1;have I:=o.c2.2;have G:=l.lt;have F:=o.lt;go_simp;exact D.out t ⟨d,l,o⟩)
  refine FixFrom.gd ((!(a && f && m)) == false) rfl rfl (by cases a <;> cases f <;> cases m <;> first | exact λ _=>rfl | exact λ h=>absurd h (by decide)) (λ _ _ h=>h) (λ E L A t C n y d K D=>?_) ?_
  ·have aw:A.tmps[25]?.getD undef=(bif (!(a && f && m)) == false then .slice Ao b.1.length co else undef):=gu n 19 25;clear n y
   cases a <;> cases f <;> cases m <;> first
    | exact absurd E (by decide)
    | (have l:=d.2.1
       have o:=d.2.2;replace d:=d.1;have P:=l.c4.1;have O:=l.c4.2.1;have N:=l.c4.2.2.1;have M:=l.c4.2.2.2;have J:=o.c2.1;have I:=o.c2.2;have G:=l.lt;have F:=o.lt;go_simp;refine(S1.out rfl t d).mono ?_;rintro e Z ⟨rfl,rfl⟩;exact D.out t ⟨d,l,o⟩)
  refine FixFrom.gd ((!(a && f && m)) == false) rfl rfl (by cases a <;> cases f <;> cases m <;> first | exact λ _=>rfl | exact λ h=>absurd h (by decide)) (λ _ _ h=>h) (λ E L A t C n y d K D=>?_) ?_
  ·have e3:A.tmps[3]?.getD undef=.pointer (some ⟨w.heap.size+1,0,none⟩):=y 3 (by decide);clear n y
   cases a <;> cases f <;> cases m <;> first
    | exact absurd E (by decide)
    | (go_simp
       exact D.out t d)
  refine FixFrom.gd ((!(a && f && m)) == false) rfl rfl (by cases a <;> cases f <;> cases m <;> first | exact λ _=>rfl | exact λ h=>absurd h (by decide)) (λ _ _ h=>h) (λ E L A t C n y d K D=>?_) ?_
  ·have ar:A.tmps[27]?.getD undef=(bif (!(a && f && m)) == false then .pointer (some ⟨w.heap.size+1,1,none⟩) else undef):=gu n 21 27;clear n y
   cases a <;> cases f <;> cases m <;> first
    | exact absurd E (by decide)
    | (have l:=d.2.1
       have o:=d.2.2;replace d:=d.1;have P:=l.c4.1;have O:=l.c4.2.1;have N:=l.c4.2.2.1;have M:=l.c4.2.2.2;have J:=o.c2.1;have I:=o.c2.2;have G:=l.lt;have F:=o.lt;go_simp;exact D.out t ⟨d,l,o⟩)
  refine FixFrom.gd ((!(a && f && m)) == false) rfl rfl (by cases a <;> cases f <;> cases m <;> first | exact λ _=>rfl | exact λ h=>absurd h (by decide)) (λ _ _ h=>h) (λ E L A t C n y d K D=>?_) ?_
  ·have aq:A.tmps[28]?.getD undef=(bif (!(a && f && m)) == false then .slice At b.2.length ct else undef):=gu n 22 28;clear n y
   cases a <;> cases f <;> cases m <;> first
    | exact absurd E (by decide)
    | (have l:=d.2.1
       have o:=d.2.2;replace d:=d.1;have P:=l.c4.1;have O:=l.c4.2.1;have N:=l.c4.2.2.1;have M:=l.c4.2.2.2;have J:=o.c2.1;have I:=o.c2.2;have G:=l.lt;have F:=o.lt;go_simp;refine(S2.out rfl t d).mono ?_;rintro e Z ⟨rfl,rfl⟩;exact D.out t ⟨d,l,o⟩)
  refine FixFrom.gd ((!(a && f && m)) == false) rfl rfl (by cases a <;> cases f <;> cases m <;> first | exact λ _=>rfl | exact λ h=>absurd h (by decide)) (λ _ _ h=>h) (λ E L A t C n y d K D=>?_) ?_
  ·have av:A.tmps[26]?.getD undef=(bif (!(a && f && m)) == false then .int .i64 T else undef):=gu n 20 26;have ap:A.tmps[29]?.getD undef=(bif (!(a && f && m)) == false then .int .i64 S else undef):=gu n 23 29;clear n y
   cases a <;> cases f <;> cases m <;> first
    | exact absurd E (by decide)
    | (have ez:=EZ.out rfl
       go_simp;exact D.out t d)
  refine FixFrom.gd ((!(a && f && m)) == false) rfl rfl (by cases a <;> cases f <;> cases m <;> first | exact λ _=>rfl | exact λ h=>absurd h (by decide)) (λ _ _ h=>h) (λ E L A t C n y d K D=>?_) ?_
  ·have ao:A.tmps[30]?.getD undef=(bif (!(a && f && m)) == false then .int .i64 (T+S) else undef):=gu n 24 30;clear n y
   cases a <;> cases f <;> cases m <;> first
    | exact absurd E (by decide)
    | (go_simp
       exact D.out t d)
  refine FixFrom.run rfl rfl (λ L A t C n y d K D=>?_) ?_
  ·have ay:A.tmps[23]?.getD undef=.bool (!(a && f && m)):=gu n 17 23;have an:A.tmps[31]?.getD undef=(bif (!(a && f && m)) == false then .bool qz else undef):=gu n 25 31;clear n y
   cases a <;> cases f <;> cases m <;>
    (go_simp
     exact D.out t d)
  exact FixFrom.nil (by decide)
 case fin1 =>
  intro t d;simp only [Fr,Act.put,sX,Nat.reduceAdd,List.getD_cons_zero,List.getD_cons_succ];obtain⟨V,l,o⟩:=d;obtain⟨P,O,N,M⟩:=l.c4;obtain⟨J,I⟩:=o.c2;have G:=l.lt;have F:=o.lt;obtain⟨r,hr⟩:∃ r,(bif a && f && m then qz else true)=r:=⟨_,rfl⟩;rw [hr] at XF ⊢
  cases r
  case true =>
   obtain rfl:=XF.out rfl;clear XF XT EZ S1 S2 C1 C2 Y X W hr e0;go_wp2_with fail;go_ret;exact⟨rfl,V⟩
  have g:(a && f && m)=true:=by
   cases g:(a && f && m) with
   | true=>rfl
   | false=>rw [g] at hr;cases hr
  rw [g] at hr;have af:=kD (XT.out g hr);have aj:=W.out g;have N1:=(Y.out g).len;have N2:=(X.out g).len;have ak:0<=v.p:=by omega
  clear XF XT EZ S1 S2 C1 C2 Y X W hr e0 g;go_wp2_with fail;go_loopw [5] (λ i wr=>∃(k:Nat),(k:Int)<=v.p∧i=.int .i64 (k:Int)∧Hid (Below w.heap.size w wr)∧RowB wr w.heap.size 25 (vL v)∧RowB wr (w.heap.size+1) 28 [.slice Ao b.1.length co,.slice At b.2.length ct]∧Hid (apart v b k=true)) (λ i _=>v.p.toNat - (intOf i).toNat)
  case atStart=>exact⟨0,by omega,by first | rfl | trivial,kD V,l,o,rfl⟩
  case round =>
   obtain⟨k,hk,rfl,V,l,o,ac⟩:=hrel;clear P O N M J I G F;obtain⟨P,O,N,M⟩:=l.c4;obtain⟨J,I⟩:=o.c2;by_cases hlt:(k:Int)<v.p
   ·obtain⟨b1,o1,rfl,ai,am⟩:=at_rd (HO.out.below V.out hB) (i:=k) (by omega);have ei:(v.p - 1 - (k:Int)).toNat=v.p.toNat - 1 - k:=by omega
    obtain⟨j,hj⟩:∃ j:Nat,v.p - 1 - (k:Int)=(j:Int):=⟨(v.p - 1 - (k:Int)).toNat,by omega⟩;have Q:v.p.toNat - 1 - k=j:=by omega
    obtain⟨b2,o2,rfl,ah,al⟩:=at_rd (HT.out.below V.out hB) (i:=j) (by omega);have e1:IntKind.i64.wrap (v.p - 1)=v.p - 1:=IntWalk.i64_in _ (by omega);have e2:IntKind.i64.wrap (v.p - 1 - (k:Int))=(j:Int):=by rw [hj];exact IntWalk.i64_in _ (by omega)
    by_cases g1:0<at_ b.1 k
    ·by_cases g2:0<at_ b.2 j
     ·obtain rfl:x=false:=by rw [<-af.out];exact apart_no (k:=k) (by omega) ⟨g1,by rw [Q];exact g2⟩
      clear ei Q;go_wp2_with fail;go_ret;exact⟨rfl,V.out⟩
     ·have HP:Hid (apart v b (k+1)=true):=kD (apart_step ac.out (λ h=>g2 (by rw [<-Q];exact h.2)));clear ei Q;go_wp2_with fail;go_roundw
      case rel=>exact⟨k+1,by omega,by go_num,V,l,o,HP⟩
      case measure=>simp [intOf];omega
    ·have HP:Hid (apart v b (k+1)=true):=kD (apart_step ac.out (λ h=>g1 h.1));clear ei Q;go_wp2_with fail;go_roundw
     case rel=>exact⟨k+1,by omega,by go_num,V,l,o,HP⟩
     case measure=>simp [intOf];omega
   ·obtain rfl:x=true:=by rw [<-af.out,<-ac.out];congr 1;omega
    go_wp2_with fail;go_ret;exact⟨rfl,V.out⟩
end Bd3
end Go.Proofs.YtmncnhbjifeoeaaGreat
