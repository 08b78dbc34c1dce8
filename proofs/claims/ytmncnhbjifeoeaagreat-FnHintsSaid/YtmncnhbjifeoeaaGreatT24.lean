/- Parts of the proof of FnHints. Conditions: each theorem's own. -/
import Derived.Test.YtmncnhbjifeoeaaGreatT23
import Derived.Deep.RegionLaw
import Derived.Lib.SliceRun
import Derived.Lib.LazyBuf
set_option linter.unusedVariables false
set_option linter.unusedSimpArgs false
set_option maxHeartbeats 8000000
set_option maxRecDepth 100000
namespace Go.Proofs.YtmncnhbjifeoeaaGreat
namespace Bd34
open Go.ChangeShapes Go.WideShapes Go.ChangeAt Go.RowKit Base Ints Own PlP Bd1 Bd12
theorem max_i (A:Option Addr) (cp B:Nat) (xs:List Int) (w:World) (hr:RdS w B 1 enI A xs) (hl:0<xs.length) :
  Calls Tryz.prog 38 #[.slice A xs.length cp] w λ e w'=>e=.returned (.int .i64 (grt xs))∧w=w':=by
 have d:=hr.len;obtain⟨n,a⟩:∃ n,xs.length=n:=⟨_,rfl⟩;obtain⟨z,b⟩:∃ z,grt xs=z:=⟨_,rfl⟩;have q:=kD a;have G:Hid (grU xs (n - 1)=z):=kD (by rw [<-a,<-b];rfl);rw [a] at hl d;rw [a,b];clear a b;obtain⟨J,r,rfl,E,f⟩:=at_rd hr (i:=0) (by rw [q.out];exact hl);simp only [Nat.add_zero] at f;have x:¬ (n:Int)<1:=by omega
 go_enter Tryz.func38,Tryz.ntmps38;go_wp2_with fail;go_loopw [3,4] (λ s i wr=>∃(k:Nat) (t:Int),k<=n∧1<=k∧s=.int .i64 t∧i=.int .i64 (k:Int)∧Hid (w=wr)∧Hid (t=grU xs (k - 1))) (λ _ i _=>n - (intOf i).toNat)
 case atStart=>exact⟨1,at_ xs 0,by omega,by omega,by first | rfl | trivial,by first | rfl | trivial,kD (by first | rfl | trivial),kD rfl⟩
 case round =>
  obtain⟨k,t,H,C,rfl,rfl,c,h⟩:=hrel;by_cases hlt:k<n
  ·obtain⟨F,g,l,-,D⟩:=at_rd hr (i:=k) (by rw [q.out];exact hlt);simp only [Option.some.injEq,Addr.mk.injEq,and_true] at l;obtain⟨rfl,rfl⟩:=l;rw [c.out] at D;have y:(k:Int)<(n:Int):=by omega
   have I:IntKind.i64.wrap ((k:Int)+1)=(k:Int)+1:=IntWalk.i64_in _ (by omega);have p:Hid ((if t<at_ xs k then at_ xs k else t)=grU xs (k+1 - 1)):=kD (by
    obtain⟨j,rfl⟩:∃ j,k=j+1:=⟨k - 1,by omega⟩;have o:=h.out;simp only [Nat.add_sub_cancel] at o ⊢;simp only [grU];rw [<-o];split <;> omega)
   obtain⟨m,v⟩:∃ m,(if t<at_ xs k then at_ xs k else t)=m:=⟨_,rfl⟩;rw [v] at p;go_wp2_with fail;go_roundw
   case rel=>exact⟨k+1,_,by omega,by omega,rfl,by go_num,c,p⟩
   case measure=>simp [intOf];omega
  ·obtain rfl:n=k:=by omega
   obtain rfl:t=z:=by rw [h.out,G.out]
   go_wp2_with fail;go_ret;exact⟨rfl,c.out⟩
theorem first_s (A:Option Addr) (cp B:Nat) (xs:List Int) (w:World) (hr:RdS w B 1 enI A xs) (hl:0<xs.length) :
  Calls Tryz.prog 41 #[.slice A xs.length cp] w λ e w'=>e=.returned (.int .i64 (fgP xs:Nat))∧Below w.heap.size w w':=by
 have l:=hr.len;obtain⟨n,b⟩:∃ n,xs.length=n:=⟨_,rfl⟩;obtain⟨z,f⟩:∃ z,fgP xs=z:=⟨_,rfl⟩;have r:=kD b;have G:Hid (fgU xs (n - 1)=z):=kD (by rw [<-b,<-f];rfl);rw [b] at hl l;rw [b,f];clear b f;go_enter Tryz.func41,Tryz.ntmps41;go_wp2_with fail;go_loopw [3,4] (λ s i wr=>∃(k t:Nat),k<=n∧1<=k∧t<n∧s=.int .i64 (t:Int)∧i=.int .i64 (k:Int)∧Hid (Below w.heap.size w wr)∧RdS wr B 1 enI A xs∧Hid (t=fgU xs (k - 1))) (λ _ i _=>n - (intOf i).toNat)
 case atStart=>exact⟨1,0,by omega,by omega,hl,by first | rfl | trivial,by first | rfl | trivial,kD (Below.refl _ _),hr,kD rfl⟩
 case round =>
  obtain⟨k,t,H,y,a,rfl,rfl,g,d,h⟩:=hrel;by_cases hlt:k<n
  ·obtain⟨K,v,rfl,E,I⟩:=at_rd d (i:=k) (by rw [r.out];exact hlt);obtain⟨F,o,q,-,D⟩:=at_rd d (i:=t) (by rw [r.out];exact a);simp only [Option.some.injEq,Addr.mk.injEq,and_true] at q;obtain⟨rfl,rfl⟩:=q;have x:(k:Int)<(n:Int):=by omega
   have p:(t:Int)<(n:Int):=by omega
   have J:IntKind.i64.wrap ((k:Int)+1)=(k:Int)+1:=IntWalk.i64_in _ (by omega);by_cases hv:at_ xs t<at_ xs k
   ·have m:Hid (k=fgU xs (k+1 - 1)):=kD (by
     obtain⟨j,rfl⟩:∃ j,k=j+1:=⟨k - 1,by omega⟩;have c:=h.out;simp only [Nat.add_sub_cancel] at c ⊢;simp only [fgU];rw [<-c,if_pos hv])
    have C:decide (at_ xs t<at_ xs k)=true:=by simp [hv]
    go_wp2_with fail;go_quiet (fail);go_wp2_with fail;go_roundw
    case rel=>exact⟨k+1,k,by omega,by omega,hlt,by first | rfl | go_num,by go_num,kD (below_drewN g.out _),d,m⟩
    case measure=>simp [intOf];omega
   ·have m:Hid (t=fgU xs (k+1 - 1)):=kD (by
     obtain⟨j,rfl⟩:∃ j,k=j+1:=⟨k - 1,by omega⟩;have c:=h.out;simp only [Nat.add_sub_cancel] at c ⊢;simp only [fgU];rw [<-c,if_neg hv])
    have C:decide (at_ xs t<at_ xs k)=false:=by simp [hv]
    go_wp2_with fail;go_quiet (fail);go_wp2_with fail;go_roundw
    case rel=>exact⟨k+1,t,by omega,by omega,a,rfl,by go_num,kD (below_drewN g.out _),d,m⟩
    case measure=>simp [intOf];omega
  ·obtain rfl:n=k:=by omega
   obtain rfl:t=z:=by rw [h.out,G.out]
   go_wp2_with fail;go_ret;exact⟨rfl,g.out⟩
end Bd34
namespace Bd35
open Go.ChangeShapes Go.WideShapes Go.ChangeAt Go.RowKit Base Ints Own
def gone (xs:List Int) (i:Nat):List Int:=xs.take i++xs.drop (i+1)
theorem gone_len {xs:List Int} {i:Nat} (hi:i<xs.length):(gone xs i).length=xs.length - 1:=by simp [gone];omega
theorem gone_get {xs:List Int} {i j:Nat} (hi:i<xs.length) (hj:j<xs.length - 1):(gone xs i)[j]?=if j<i then xs[j]? else xs[j+1]?:=by
 unfold gone;split
 ·next h=>rw [List.getElem?_append_left (by simp;omega),List.getElem?_take_of_lt h]
 ·next h =>
  rw [List.getElem?_append_right (by simp;omega),List.getElem?_drop,List.length_take,show i+1+(j - min i xs.length)=j+1 by omega]
theorem del_walk (g cap i:Nat) (xs:List Int) (w:World) (hi:i<xs.length) (hl:xs.length<=cap) (hm:cap<=9223372036854775807)
  (hc:∀ j x,xs[j]?=some x->w.cell? ⟨g,j,none⟩=some (.int .i64 x)) (hf:∀ j,j<xs.length->w.frozen? ⟨g,j,none⟩=false) :
  Calls Tryz.prog 36 #[.slice (some ⟨g,0,none⟩) xs.length cap,.int .i64 (i:Int),.int .i64 ((i:Int)+1)] w λ e w'=>e=.returned (.slice (some ⟨g,0,none⟩) (xs.length - 1) cap) ∧
   w'=(w.drew.setCells g i ((xs.drop (i+1)).map (Value.int .i64))).setCells g (xs.length - 1) [.int .i64 0]:=by
 obtain⟨H,D,J,C,I⟩:=info_parts Ints.info;obtain⟨a,b⟩:∃ a,(xs.drop (i+1)).map (Value.int .i64)=a:=⟨_,rfl⟩;obtain⟨n,z⟩:∃ n,xs.length=n:=⟨_,rfl⟩;have c:a.length=n - (i+1):=by rw [<-b,<-z];simp
 have d:∀ j,j<n->∃ x,w.cell? ⟨g,j,none⟩=some (.int .i64 x):=λ j m=>⟨xs[j]'(by omega),hc j _ (List.getElem?_eq_getElem (by omega))⟩
 obtain⟨A,V,q⟩:∃ A:Addr,(if cap=i+1 then some (⟨g,0,none⟩:Addr) else some ⟨g,i+1,none⟩)=some A∧Hid (∀ t u,a[t]?=some u->w.drew.cell? (A.add t)=some u):=by
  by_cases h:cap=i+1
  ·refine⟨⟨g,0,none⟩,by simp [h],λ t u l=>?_⟩;have T:a.length=0:=by rw [c];omega
   rw [List.length_eq_zero_iff.1 T] at l;simp at l
  ·refine⟨⟨g,i+1,none⟩,by simp [h],λ t u l=>?_⟩;rw [<-b,List.getElem?_map,List.getElem?_drop] at l;obtain⟨x,p,rfl⟩:=Option.map_eq_some_iff.1 l;rw [Addr.add_lit];exact hc _ _ p
 have G:Hid (a.length=(n - (i+1))*1):=by rw [Nat.mul_one];exact c
 have F:Hid (∀ u ∈ a,u.oneCell'=true):=by
  intro u l;rw [<-b] at l;obtain⟨x,_,rfl⟩:=List.mem_map.1 l
  rfl
 have E:Hid (∀ j,j<a.length->(w.drew.cell? ⟨g,0+i*1+j,none⟩).isSome=true∧w.drew.frozen? ⟨g,0+i*1+j,none⟩=false):=by
  intro j m;rw [c] at m;rw [show 0+i*1+j=i+j by omega];obtain⟨x,p⟩:=d (i+j) (by omega);exact⟨by show (w.cell? _).isSome=true;rw [p];rfl,hf (i+j) (by omega)⟩
 obtain⟨k,f⟩:∃ k,w.drew.setCells g (0+i*1) a=k:=⟨_,rfl⟩;have y:(k.cell? ⟨g,n - 1,none⟩).isSome=true:=by
  rw [<-f];rw [World.cell?_setCells_out g a _ _ ⟨g,n - 1,none⟩ (λ _ _=>.inr (by show 0+i*1+a.length<=n - 1;rw [c];omega))];obtain⟨x,p⟩:=d (n - 1) (by omega);show (w.cell? _).isSome=true;rw [p];rfl
 have v:k.frozen? ⟨g,n - 1,none⟩=false:=by
  rw [<-f,World.frozen?_setCells];exact hf (n - 1) (by omega)
 have s:∀ j,j<1->(k.cell? ⟨g,n - 1+j,none⟩).isSome=true:=by
  intro j m;have o:j=0:=by omega
  rw [o];exact y
 have r:∀ j,j<1->k.frozen? ⟨g,n - 1+j,none⟩=false:=by
  intro j m;have o:j=0:=by omega
  rw [o];exact v
 have Q:∀ B,(Builtin.clear_ #[26] B #[.slice (some ⟨g,i+(n - (i+1)),none⟩) (n - (i+(n - (i+1)))) (cap - (i+(n - (i+1))))]).run Tryz.prog k=.ok (.tuple #[]) (k.setCells g (n - 1) [.int .i64 0]):=by
  intro B;rw [show i+(n - (i+1))=n - 1 by omega,show n - (n - 1)=1 by omega];exact Lib.run_clear_slice k 26 2 B (.int .i64 0) Tryz.underlying26 (λ w=>by first | exact zero_i64 w | rfl | kernel_rfl) rfl rfl g (n - 1) 1 (cap - (n - 1)) (by omega) (λ j m=>s j m) (λ j m=>r j m)
 have R:Hid (w.drew.setCells g (0+i*1) a=k):=f;have S:Hid (k=w.drew.setCells g i a):=kD (by rw [<-f];simp);have N:(0:Int)<=(i:Int)+1:=by omega
 have M:(i:Int)+1<=(n:Int):=by omega
 have L:((i:Int)+1).toNat=i+1:=by omega
 have K:¬ (i:Int)=(i:Int)+1:=by omega
 have P:i<=cap:=by omega
 have O:i+1<=cap:=by omega
 rw [z] at hl hi;rw [b,z];clear f y v s r hc hf d z b c;go_enter Tryz.func36,Tryz.ntmps36;go_wp2_with fail;go_region_law (refine step_append_room rfl (.tmp 22) (.tmp 25) 26 rfl 2 H 1 Tryz.underlying26 D C g 0 i cap (by simp [Act.eval,Act.put]) A (n - (i+1)) (cap - (i+1)) a (by simp [Act.eval,Act.put]) G.out q.out F.out (by omega) E.out ?_;rw [R.out]);go_wp2;go_ret;refine⟨?_,?_⟩
 ·rw [show i+(n - (i+1))=n - 1 by omega];rfl
 ·rw [<-S.out]
theorem flat (xs:List Int):xs.flatMap enI=xs.map (Value.int .i64):=by
 induction xs with
 | nil=>rfl
 | cons x xs ih=>simp [enI,ih]
theorem own_cells {w:World} {lo g n cap:Nat} {xs:List Int} (h:OwnS w lo w.heap.size 2 1 enI (.slice (some ⟨g,0,none⟩) n cap) xs) (hn:n=xs.length) (h0:0<xs.length) :
  xs.length<=cap∧cap<=9223372036854775807∧lo<=g∧g<w.heap.size∧(∀ j x,xs[j]?=some x->w.cell? ⟨g,j,none⟩=some (.int .i64 x))∧(∀ j,j<xs.length->w.frozen? ⟨g,j,none⟩=false):=by
 subst hn;obtain⟨i,f⟩:=h;obtain⟨-,e⟩:=i;rcases e with ⟨hx,-⟩ | ⟨g',cap',cur,hx,hlo,hg,hle,hmx,hsz,htk⟩
 ·cases hx
 ·simp only [Value.slice.injEq,Option.some.injEq,Addr.mk.injEq,and_true,true_and] at hx;obtain⟨rfl,rfl⟩:=hx;refine⟨hle,hmx,hlo,f _ rfl,λ j x a=>?_,λ j a=>?_⟩
  ·have d:j<xs.length:=(List.getElem?_eq_some_iff.1 a).1;have c:(cur.toList.take (xs.length*1))[j]?=(xs.flatMap enI)[j]?:=by rw [htk]
   rw [List.getElem?_take_of_lt (by omega),flat,List.getElem?_map,a] at c;have b:RowB w g 2 cur.toList:=hg;rw [b.cell j,c];rfl
  ·have b:RowB w g 2 cur.toList:=hg;exact b.frozen j
theorem del (lo g n cap i:Nat) (xs:List Int) (w:World) (h:OwnS w lo w.heap.size 2 1 enI (.slice (some ⟨g,0,none⟩) n cap) xs) (hn:n=xs.length) (hi:i<xs.length) :
  Calls Tryz.prog 36 #[.slice (some ⟨g,0,none⟩) n cap,.int .i64 (i:Int),.int .i64 ((i:Int)+1)] w λ e w'=>e=.returned (.slice (some ⟨g,0,none⟩) (n - 1) cap) ∧
   RdS w' w.heap.size 1 enI (some ⟨g,0,none⟩) (gone xs i)∧Below lo w w':=by
 obtain⟨m,l,c,o,p,v⟩:=own_cells h hn (by omega);subst hn;refine(del_walk g cap i xs w hi m l p v).mono ?_;rintro e w' ⟨rfl,rfl⟩;refine⟨rfl,⟨?_,λ y=>⟨g,0,rfl,o,λ j x a t u k=>?_⟩⟩,?_⟩
 ·rw [gone_len hi];unfold maxLen;omega
 ·have d:j<xs.length - 1:=by have:=(List.getElem?_eq_some_iff.1 a).1;rw [gone_len hi] at this;exact this
  rw [gone_get hi d] at a;obtain⟨rfl,rfl⟩:t=0∧u=.int .i64 x:=by
   cases t with
   | zero=>simp [enI] at k;exact⟨rfl,k.symm⟩
   | succ t=>simp [enI] at k
  rw [show 0+j*1+0=j by omega];rw [World.cell?_setCells_out g _ _ _ _ (λ _ _=>.inl (by show j<xs.length - 1;exact d))];by_cases hji:j<i
  ·rw [if_pos hji] at a;rw [World.cell?_setCells_out g _ _ _ _ (λ _ _=>.inl (by show j<i;exact hji))];exact p j x a
  ·rw [if_neg hji] at a;have b:((xs.drop (i+1)).map (Value.int .i64)).length=xs.length - (i+1):=by simp
   have:=World.cell?_setCells_in g ((xs.drop (i+1)).map (Value.int .i64)) i w.drew (λ q s=>by
    rw [b] at s;show (w.cell? ⟨g,i+q,none⟩).isSome=true
    rw [p (i+q) _ (List.getElem?_eq_getElem (by omega))];rfl) (j - i) (by rw [b];omega)
   rw [show i+(j - i)=j by omega] at this;rw [this];have r:xs[i+1+(j - i)]?=some x:=by rw [show i+1+(j - i)=j+1 by omega];exact a
   have f:=(List.getElem?_eq_some_iff.1 r).2;simp [f]
 ·exact below_setCells c _ _ _ (below_setCells c _ _ _ (below_drewN (Below.refl _ _) 1))
end Bd35
namespace Bd38
open PlP Bd35
def leadS (zs:List Int) (at':Nat):Nat->Int × Bool
 | 0=>(0,false)
 | k+1=>if k=at' then leadS zs at' k else (if (leadS zs at' k).2=false∨at_ zs at' - at_ zs k<(leadS zs at' k).1 then at_ zs at' - at_ zs k else (leadS zs at' k).1,true)
theorem leadS_bd (zs:List Int) (a:Nat):∀ k,((leadS zs a k).2=false->(leadS zs a k).1=0∧∀ i,i<k->i=a) ∧
  ((leadS zs a k).2=true->(∀ i,i<k->i≠a->(leadS zs a k).1<=at_ zs a - at_ zs i)∧∃ i,i<k∧i≠a∧(leadS zs a k).1=at_ zs a - at_ zs i):=by
 intro k
 induction k with
 | zero=>exact⟨λ _=>⟨rfl,λ i c=>by omega⟩,λ h=>by simp [leadS] at h⟩
 | succ k ih =>
  obtain⟨e,d⟩:=ih;unfold leadS;by_cases hk:k=a
  ·rw [if_pos hk];refine⟨λ h=>⟨(e h).1,λ i c=>?_⟩,λ h=>⟨λ i c b=>(d h).1 i (by omega) b,?_⟩⟩
   ·by_cases hik:i=k
    ·omega
    ·exact(e h).2 i (by omega)
   ·obtain⟨i,m,g,f⟩:=(d h).2;exact⟨i,by omega,g,f⟩
  ·rw [if_neg hk];refine⟨λ h=>by simp at h,λ _=>?_⟩;simp only
   cases hs:(leadS zs a k).2 with
   | false =>
    rw [if_pos (.inl rfl)];refine⟨λ i c b=>?_,k,by omega,hk,rfl⟩;by_cases hik:i=k
    ·rw [hik];exact Int.le_refl _
    ·exact absurd ((e hs).2 i (by omega)) b
   | true =>
    obtain⟨l,j,m,g,f⟩:=d hs;by_cases hlt:at_ zs a - at_ zs k<(leadS zs a k).1
    ·rw [if_pos (.inr hlt)];refine⟨λ i c b=>?_,k,by omega,hk,rfl⟩;by_cases hik:i=k
     ·rw [hik];exact Int.le_refl _
     ·have:=l i (by omega) b;omega
    ·rw [if_neg (by simp [hlt])];refine⟨λ i c b=>?_,j,by omega,g,f⟩;by_cases hik:i=k
     ·rw [hik];omega
     ·exact l i (by omega) b
theorem grU_ge (l:List Int):∀ k i,i<=k->at_ l i<=grU l k:=by
 intro k
 induction k with
 | zero=>
  intro i a;obtain rfl:i=0:=by omega
  exact Int.le_refl _
 | succ k ih =>
  intro i a;unfold grU;by_cases h:i=k+1
  ·rw [h];exact Int.le_max_right _ _
  ·exact Int.le_trans (ih i (by omega)) (Int.le_max_left _ _)
theorem grt_ge {l:List Int} {i:Nat} (h:i<l.length):at_ l i<=grt l:=grU_ge l _ i (by omega)
theorem grt_at {l:List Int} (h:0<l.length):∃ i,i<l.length∧at_ l i=grt l :=
 ⟨fgU l (l.length - 1),by have:=(fg_gr l (l.length - 1)).2;omega,(fg_gr l (l.length - 1)).1⟩
theorem at_gone {xs:List Int} {i j:Nat} (hi:i<xs.length) (hj:j<xs.length - 1):at_ (gone xs i) j=if j<i then at_ xs j else at_ xs (j+1):=by
 unfold at_;rw [List.getD_eq_getElem?_getD,gone_get hi hj];split <;> rw [List.getD_eq_getElem?_getD]
theorem lead_eq {zs:List Int} {a:Nat} (ha:a<zs.length):(leadS zs a zs.length).1=if zs.length=1 then 0 else at_ zs a - grt (gone zs a):=by
 have b:=leadS_bd zs a zs.length;by_cases h1:zs.length=1
 ·rw [if_pos h1]
  cases hs:(leadS zs a zs.length).2 with
  | false=>exact(b.1 hs).1
  | true=>obtain⟨-,i,e,f,-⟩:=b.2 hs;omega
 ·rw [if_neg h1];have g:(gone zs a).length=zs.length - 1:=gone_len ha
  cases hs:(leadS zs a zs.length).2 with
  | false =>
   have n:=(b.1 hs).2 0 (by omega);have e:=(b.1 hs).2 1 (by omega);omega
  | true =>
   obtain⟨c,j,e,f,m⟩:=b.2 hs;obtain⟨i,k,d⟩:=grt_at (l:=gone zs a) (by omega);rw [at_gone ha (by omega)] at d;have u1:(leadS zs a zs.length).1<=at_ zs a - grt (gone zs a):=by
    rw [<-d];split
    ·next h=>exact c i (by omega) (by omega)
    ·next h=>exact c (i+1) (by omega) (by omega)
   have u2:at_ zs j<=grt (gone zs a):=by
    by_cases hja:j<a
    ·have:=grt_ge (l:=gone zs a) (i:=j) (by omega);rw [at_gone ha (by omega),if_pos hja] at this;exact this
    ·have:=grt_ge (l:=gone zs a) (i:=j - 1) (by omega);rw [at_gone ha (by omega),if_neg (by omega),show j - 1+1=j by omega] at this;exact this
   omega
theorem leadS_num {zs:List Int} {a:Nat} (M:Int) (hM:0<=M) (ha:a<zs.length) (h:∀ i,i<zs.length->-M<=at_ zs i∧at_ zs i<=M) (k:Nat) (hk:k<=zs.length):-(2*M)<=(leadS zs a k).1∧(leadS zs a k).1<=2*M:=by
 have b:=leadS_bd zs a k
 cases hs:(leadS zs a k).2 with
 | false=>rw [(b.1 hs).1];omega
 | true =>
  obtain⟨-,i,e,d,c⟩:=b.2 hs;have:=h i (by omega);have:=h a ha;rw [c];omega
end Bd38
namespace Bd39
open Go.ChangeShapes Go.WideShapes Go.ChangeAt Go.RowKit Base Ints Own Clone RelG PlP Bd1 Bd5 Bd11 RegInv RegF RegG Bd12 Bd14 Bd15 Bd16 Bd22 Bd23 Bd24 Bd25 Bd26 Bd27 Bd29 Bd34 Bd35 Bd38
def stepsP (v:Vr) (d:Nat) (b:Bd) (x y:Int):List Stp:=(((allP v b x y).1[fgP (plsP v d b x y)]?).getD ([],([],[]))).1
def leadP (v:Vr) (d:Nat) (b:Bd) (x y:Int):Int:=(leadS (plsP v d b x y) (fgP (plsP v d b x y)) (plsP v d b x y).length).1
def hintR (v:Vr) (b:Bd) (x y d:Int):List Stp × Int × Int :=
 if codeT v (okB v b) (okR v x y) d=0 then (stepsP v d.toNat b x y,leadP v d.toNat b x y,0) else ([],0,codeT v (okB v b) (okR v x y) d)
theorem hintX_s (v:Vr) (b:Bd) (Ao At:Option Addr) (co ct:Nat) (x y d:Int) (w:World) (ho:RdS w w.heap.size 1 enI Ao b.1) (ht:RdS w w.heap.size 1 enI At b.2) (hA:Ao=none->co=0) (hT:At=none->ct=0) :
  Calls Tryz.prog 9 #[.agg #[.int .i64 v.p,.int .i64 v.c,.int .i64 v.h,.int .i64 v.s],.agg #[.slice Ao b.1.length co,.slice At b.2.length ct],.agg #[.int .i64 x,.int .i64 y],.int .i64 d] w λ e w'=>∃ sv,e=.returned (.tuple #[sv,.int .i64 (hintR v b x y d).2.1,.int .i64 (hintR v b x y d).2.2])∧OwnS w' w.heap.size w'.heap.size 150 4 enSt sv (hintR v b x y d).1∧Below w.heap.size w w':=by
 obtain⟨i4,aQ,aN,aM,aL⟩:=info_parts infoSt;obtain⟨z,hz⟩:∃ z,codeT v (okB v b) (okR v x y) d=z:=⟨_,rfl⟩;have G:hintR v b x y d=if z=0 then (stepsP v d.toNat b x y,leadP v d.toNat b x y,0) else ([],0,z):=by unfold hintR;rw [hz]
 obtain⟨Rz,aD⟩:∃ r,hintR v b x y d=r:=⟨_,rfl⟩;rw [aD] at G ⊢;have HR:=kD G;clear G aD;have C2:=kD (λ(H:World) (hw:Below w.heap.size w H)=>code_s v b Ao At co ct x y d z hz H ((ho.below hw (Nat.le_refl _)).more hw.size) ((ht.below hw (Nat.le_refl _)).more hw.size));obtain⟨n1,E⟩:∃ n,b.1.length=n:=⟨_,rfl⟩;obtain⟨n2,D⟩:∃ n,b.2.length=n:=⟨_,rfl⟩;have Y:=kD (⟨hz,ho,ht,hA,hT,E,D⟩:codeT v (okB v b) (okR v x y) d=z∧RdS w w.heap.size 1 enI Ao b.1∧RdS w w.heap.size 1 enI At b.2∧(Ao=none->co=0)∧(At=none->ct=0)∧b.1.length=n1∧b.2.length=n2);rw [E,D] at C2 ⊢;clear ho ht hA hT hz E D;go_enter Tryz.func9,Tryz.ntmps9;go_upto_region 1 with fail;refine wp_gen (λ W'=>B3 w W' v [.slice Ao n1 co,.slice At n2 ct] x y) ⟨by go_grown,((RowB.new _ _ _).alloc _).alloc _,RowB.alloc (RowB.new' _ _ _ (by simp)) _,RowB.new' _ _ _ (by simp)⟩ ?_;intro w1 K;obtain⟨q0,q1,q2,q3⟩:=K.rv.c4;obtain⟨z0,z1⟩:=K.rb.c2;obtain⟨r0,r1⟩:=K.rr.c2;have N:=K.rv.lt;have M:=K.rb.lt;have L:=K.rr.lt;go_wp2_with fail;refine(C2.out w1 K.bel).mono ?_;rintro e w2 ⟨rfl,aB⟩;have K:=K.below aB;clear q0 q1 q2 q3 z0 z1 r0 r1 N M L aB C2;obtain⟨q0,q1,q2,q3⟩:=K.rv.c4;obtain⟨z0,z1⟩:=K.rb.c2;obtain⟨r0,r1⟩:=K.rr.c2;have N:=K.rv.lt;have M:=K.rb.lt;have L:=K.rr.lt;by_cases h0:z=0
 ·have j:=HR.out;rw [if_pos h0] at j;have e0:(z != 0)=false:=by simp [h0]
  obtain⟨p1,ho,ht,hA,hT,E,D⟩:=Y.out;have hk:=codeT_zero (p1.trans h0);have hr:=okR_iff.1 hk.2.1;have hb:=hk.1;obtain⟨dn,R⟩:∃ n:Nat,d=(n:Int):=⟨d.toNat,by omega⟩;have a3:dn<=1:=by omega
  have m:(1<=x∧x<=6)∧(1<=y∧y<=6):=by omega
  rw [R,Int.toNat_natCast] at j;have C:=pls_bd (d:=dn) hb m.1.1 m.2.1;have I:(allP v b x y).1.length=(plsP v dn b x y).length:=by unfold plsP;rw [List.length_map]
  have ag:=(allP_ok (x:=x) (y:=y) hb m.1.1 m.2.1).1;have CA:=kD (λ(H:World) (h:Below w.heap.size w H)=>all_s v b hb Ao At co ct x y m.1 m.2 H ((ho.below h (Nat.le_refl _)).more h.size) ((ht.below h (Nat.le_refl _)).more h.size) hA hT);have CP:=kD (λ(H:World) (h:Below w.heap.size w H)=>(vals_s dn (by omega)).2 v b hb Ao At co ct x y m.1 m.2 H ((ho.below h (Nat.le_refl _)).more h.size) ((ht.below h (Nat.le_refl _)).more h.size) hA hT);have ad:=fg_gr (plsP v dn b x y) ((plsP v dn b x y).length - 1);unfold stepsP leadP at j;obtain⟨zs,ah⟩:∃ z,plsP v dn b x y=z:=⟨_,rfl⟩;rw [ah] at CP C I j ad;obtain⟨ps,Z⟩:∃ ps,(allP v b x y).1=ps:=⟨_,rfl⟩;obtain⟨fb,aq⟩:∃ ps,(allP v b x y).2=ps:=⟨_,rfl⟩;rw [Z] at CA I ag j;rw [aq] at CA;rw [E,D] at CA CP;have F:fgP zs<zs.length:=by have:=ad.2;have:=C.2;show fgU zs (zs.length - 1)<_;omega
  have CF:=kD (λ(A:Option Addr) (cp B:Nat) (H:World) (hr:RdS H B 1 enI A zs)=>first_s A cp B zs H hr C.2);obtain⟨a,ha⟩:∃ a,fgP zs=a:=⟨_,rfl⟩;rw [ha] at j F CF;have aF:=λ k hk=>leadS_num (zs:=zs) (a:=a) 1000000 (by omega) F (λ i hi=>by have:=C.1 _ (List.mem_of_getElem? (at_get hi));omega) k hk
  have aH:=kD (λ(k:Nat) (h:k<zs.length)=>C.1 _ (List.mem_of_getElem? (at_get h)));obtain⟨q,W⟩:∃ q,ps[a]?=some q:=⟨_,List.getElem?_eq_getElem (by omega)⟩;obtain⟨sp,bd⟩:=q;rw [W] at j;simp only [Option.getD_some] at j;have am:sp.length<=4:=(ag _ (List.mem_of_getElem? W)).2;obtain⟨Ln,ae⟩:∃ l,zs.length=l:=⟨_,rfl⟩;have Q:=kD ae;rw [ae] at F CF I j;have a8:=kD aF;have aP:=C.1;have aK:=kD j;have HQ:=kD W;have aJ:=kD I;have aT:=kD am;have a9:=kD R;have a6:Ln<=1000000:=by have:=all_len hb m.1 m.2;rw [Z] at this;omega
  rw [<-R] at CP;have H0:=kD h0;clear Y HR p1 ho ht hA hT E D hk hr hb m C I ag ah Z aq ae j R ad ha W am aF aP h0;go_wp2_with fail;refine(CP.out w2 K.bel).mono ?_;rintro e w3 ⟨vv,rfl,al,aA⟩;have K:=K.below aA;obtain⟨Av,cv,ak,t⟩:=al.form enI_len;rw [Q.out] at ak;subst ak;clear q0 q1 q2 q3 z0 z1 r0 r1 N M L aA al CP;go_wp2_with fail;refine(CF.out Av cv w3.heap.size w3 t).mono ?_;rintro e w4 ⟨rfl,S⟩;have K:=K.below S;have t:=(t.below S (Nat.le_refl _)).more S.size;clear S CF;obtain⟨q0,q1,q2,q3⟩:=K.rv.c4;obtain⟨z0,z1⟩:=K.rb.c2;obtain⟨r0,r1⟩:=K.rr.c2;have N:=K.rv.lt;have M:=K.rb.lt;have L:=K.rr.lt;go_wp2_with fail;refine(CA.out w4 K.bel).mono ?_;rintro e w5 ⟨pv,rfl,aa,P⟩;have K:=K.below P;have t:=(t.below P (Nat.le_refl _)).more P.size;have a2:w.heap.size<=w4.heap.size:=by have:=P.size;have:=K.bel.size;omega
  clear q0 q1 q2 q3 z0 z1 r0 r1 N M L P CA;obtain⟨Aa,ca,aC,-⟩:=Bd19.OwnG.form enP_len aa;rw [aJ.out] at aC;subst aC;have HA:=kD (aa.sl enP_len (Nat.le_refl _));have aI:=kD t;have HK:=kD K;clear aa t K;go_wp2_with fail;go_loopw [16,17,18,19] (λ l f i u wr=>∃ k:Nat,k<=Ln∧i=.int .i64 (k:Int)∧l=.int .i64 (leadS zs a k).1∧f=.bool (leadS zs a k).2∧Below w5.heap.size w5 wr) (λ _ _ i _ _=>Ln - (intOf i).toNat)
  case atStart=>exact⟨0,Nat.zero_le _,by first | rfl | trivial,by first | rfl | trivial,by first | rfl | trivial,Below.refl _ _⟩
  case round =>
   obtain⟨k,hk,rfl,rfl,rfl,o⟩:=hrel;by_cases hlt:k<Ln
   ·obtain⟨L1,af⟩:∃ p,leadS zs a k=p:=⟨_,rfl⟩;obtain⟨l,f⟩:=L1;rw [af];simp only;have hS:leadS zs a (k+1)=if k=a then (l,f) else (if f=false∨at_ zs a - at_ zs k<l then at_ zs a - at_ zs k else l,true):=by rw [leadS,af]
    obtain⟨b8,o8,rfl,az,aw⟩:=at_rd aI.out (i:=a) (by rw [Q.out];exact F);obtain⟨b9,o9,ar,ay,av⟩:=at_rd aI.out (i:=k) (by rw [Q.out];exact hlt);simp only [Option.some.injEq,Addr.mk.injEq,and_true] at ar;obtain⟨rfl,rfl⟩:=ar;have c8:=(Below.cell o (p:=⟨b8,o8+a,none⟩) az).trans aw;have c9:=(Below.cell o (p:=⟨b8,o8+k,none⟩) ay).trans av;have ha:=aH.out a (by rw [Q.out];exact F);have ap:=aH.out k (by rw [Q.out];exact hlt);obtain⟨za,aj⟩:∃ z,at_ zs a=z:=⟨_,rfl⟩;obtain⟨zk,ai⟩:∃ z,at_ zs k=z:=⟨_,rfl⟩;rw [aj] at hS ha c8;rw [ai] at hS ap c9;have X:=kD hS;have aX:IntKind.i64.wrap (za - zk)=za - zk:=IntWalk.i64_in _ (by omega);have aY:IntKind.i64.wrap ((k:Int)+1)=(k:Int)+1:=IntWalk.i64_in _ (by omega);have a1:(k:Int)<(Ln:Int):=by omega
    have aS:(a:Int)<(Ln:Int):=by omega
    clear af hS aj ai az ay aw av ha ap;by_cases hka:k=a
    ·have e1:((k:Int) == (a:Int))=true:=by simp [hka]
     have T:=kD (λ _:Unit=>hka);clear hka;go_wp2_with fail;go_roundw
     case rel=>exact⟨k+1,by omega,by go_num,by rw [X.out,if_pos (T.out ())],by rw [X.out,if_pos (T.out ())],o⟩
     case measure=>simp [intOf];omega
    ·have e1:((k:Int) == (a:Int))=false:=by simp;omega
     have T:=kD (λ _:Unit=>hka);clear hka
     cases f
     case false =>
      go_wp2_with fail;go_quiet (fail);go_wp2_with fail;go_roundw
      case rel=>exact⟨k+1,by omega,by go_num,by rw [X.out,if_neg (T.out ()),if_pos (.inl (by first | rfl | trivial))],by rw [X.out,if_neg (T.out ())],below_drewN o _⟩
      case measure=>simp [intOf];omega
     case true =>
      by_cases hx:za - zk<l
      ·have HX:=kD (λ _:Unit=>hx);have hd:decide (za - zk<l)=true:=by simp [hx]
       clear hx;go_wp2_with fail;go_quiet (fail);go_wp2_with fail;go_roundw
       case rel=>exact⟨k+1,by omega,by go_num,by rw [X.out,if_neg (T.out ()),if_pos (.inr (HX.out ()))],by rw [X.out,if_neg (T.out ())],below_drewN o _⟩
       case measure=>simp [intOf];omega
      ·have HX:=kD (λ _:Unit=>hx);have hd:decide (za - zk<l)=false:=by simp [hx]
       clear hx;go_wp2_with fail;go_quiet (fail);go_wp2_with fail;go_roundw
       case rel=>exact⟨k+1,by omega,by go_num,by rw [X.out,if_neg (T.out ()),if_neg (λ h=>h.elim (λ h=>by cases h) (λ h2=>absurd h2 (by have:=HX.out ();omega)))],by rw [X.out,if_neg (T.out ())],below_drewN o _⟩
       case measure=>simp [intOf];omega
   ·obtain rfl:k=Ln:=by omega
    obtain⟨A7,c7,aV,e7,V,J,-⟩:=(relSl RelP 3 enP).keep HA.out (.below o);simp only [Value.slice.injEq] at e7;obtain⟨rfl,-,rfl⟩:=e7;obtain⟨b7,o7,r7,rfl,-,a4,an,ax⟩:=V.at_ (i:=a) (by rw [J.1,aJ.out];exact F);obtain⟨q,W,aE⟩:=J.at_ an;have aO:q=(sp,bd):=by rw [HQ.out] at W;exact(Option.some.inj W).symm
    subst aO;obtain⟨aW,rl,rm⟩:=r7;have G:=aE.1.sl enSt_len;simp only at G;obtain⟨A0,aG,rfl,k0,-⟩:=G;obtain⟨n0,ab⟩:∃ n,sp.length=n:=⟨_,rfl⟩;have a7:wr.cell? ⟨b7,o7+a*3,none⟩=some (.slice A0 n0 aG):=by have:=ax 0 _ rfl;simp only [ab] at this;exact this
    have aU:=kD ab;have a0:n0<=4:=by have:=aT.out;omega
    have aS:(a:Int)<(k:Int):=by omega
    have aZ:¬ ((k:Int)<(k:Int)):=by omega
    have K0:=kD (k0.rd.below ((Below.refl _ _).alloc (Nat.le_refl _) (.cells #[] 150)) (Nat.le_refl _));have O:=HK.out.bel.trans (o.mono HK.out.bel.size);obtain⟨lz,ac⟩:∃ p,(leadS zs a k).1=p:=⟨_,rfl⟩;have HG:=aK.out;rw [ac] at HG;have HG:=kD (λ _:Unit=>HG);rw [ac];clear W aE ax V J an ab k0 ac aK;go_wp2_with (at_builtin;refine wpL_appR rfl _ _ _ rfl wr.heap.size _ 150 i4 (.agg #[.int .i64 0,.int .i64 0,.int .i64 0,.bool false]) 4 32 Tryz.underlying33 aQ aN aM aL rfl (by decide) enSt_len _ [] sp (λ x _=>one_St x) rfl ((RowB.new wr 150 []).own (xs:=([]:List Stp)) (en:=enSt) enSt_len (Nat.le_refl _) (Nat.lt_succ_self _) (by decide)) A0 n0 aG _ (by first | rfl | (simp;rfl)) aU.out.symm K0.out (by unfold maxLen;simp;omega) (by simp;omega) ?c1 ?c2 ?_);intro v' H ao hg a5;go_wp2_with fail;go_ret3;rw [HG.out ()];refine⟨v',rfl,?_,?_⟩
    ·exact ao.less O.size
    ·exact(O.alloc O.size _).grown hg (by have:=O.size;simp;omega) (λ g aR=>by simp [Value.ownBlock] at aR;have:=O.size;omega)
 ·have j:=HR.out;rw [if_neg h0] at j;have HG:=kD (λ _:Unit=>j);have e0:(z != 0)=true:=by simp [h0]
  clear h0 HR j;go_wp2_with fail;go_ret3;rw [HG.out ()];exact⟨_,rfl,OwnS.nil_ _ _ _ _ _ _,K.bel⟩
end Bd39
namespace Bd40
open Go.ChangeShapes Go.WideShapes Go.ChangeAt Go.RowKit Base Ints Own Clone RelG PlP Bd1 Bd5 Bd11 RegInv RegF RegG Bd12 Bd14 Bd15 Bd16 Bd22 Bd23 Bd24 Bd25 Bd26 Bd27 Bd29 Bd34 Bd35 Bd38 Bd39
theorem own_up {α:Type} {w:World} {lo0 lo hi sz:Nat} {e:TypeId} {en:α->List Value} {v:Value} {xs:List α} (h:OwnS w lo0 hi e sz en v xs) (hg:∀ g,v.ownBlock=some g->lo<=g):OwnS w lo hi e sz en v xs:=by
 refine⟨⟨h.1.1,?_⟩,h.2⟩;rcases h.1.2 with h0 | ⟨g,cap,cur,rfl,-,rest⟩
 ·exact .inl h0
 ·exact .inr ⟨g,cap,cur,rfl,hg g rfl,rest⟩
theorem hintX_i (v:Vr) (b:Bd) (Ao At:Option Addr) (co ct:Nat) (x y d:Int) (w:World) (ho:RdS w w.heap.size 1 enI Ao b.1) (ht:RdS w w.heap.size 1 enI At b.2) (hA:Ao=none->co=0) (hT:At=none->ct=0) :
  Calls Tryz.prog 8 #[.agg #[.int .i64 v.p,.int .i64 v.c,.int .i64 v.h,.int .i64 v.s],.agg #[.slice Ao b.1.length co,.slice At b.2.length ct],.agg #[.int .i64 x,.int .i64 y],.int .i64 d] w λ e w'=>∃ sv,e=.returned (.tuple #[sv,.int .i64 (hintR v b x y d).2.1,.int .i64 (hintR v b x y d).2.2])∧OwnS w' w.heap.size w'.heap.size 150 4 enSt sv (hintR v b x y d).1∧Below w.heap.size w w':=by
 obtain⟨c0,X⟩:∃ c,okB v b=c:=⟨_,rfl⟩;obtain⟨c1,h1⟩:∃ c,(okV v && okR v x y)=c:=⟨_,rfl⟩;obtain⟨z,hz⟩:∃ z,codeT v (okB v b) (okR v x y) d=z:=⟨_,rfl⟩;have aG:codeT v c0 c1 d=z:=by rw [<-X,<-h1,codeT_roll];exact hz
 have S:hintR v b x y d=if z=0 then (stepsP v d.toNat b x y,leadP v d.toNat b x y,0) else ([],0,z):=by unfold hintR;rw [hz]
 obtain⟨Rz,aT⟩:∃ r,hintR v b x y d=r:=⟨_,rfl⟩;rw [aT] at S ⊢;have HR:=kD S;clear S aT;have C0:=kD (λ(o:World) (h:Below w.heap.size w o)=>Bd3I.isB_i v b Ao At co ct w.heap.size o h.size (ho.below h (Nat.le_refl _)) (ht.below h (Nat.le_refl _)) c0 X);have C1:=kD (λ w=>isroll_i v x y c1 h1 w);have C2:=kD (λ w=>tutor_i v c0 c1 d z aG w);obtain⟨n1,R⟩:∃ n,b.1.length=n:=⟨_,rfl⟩;obtain⟨n2,Q⟩:∃ n,b.2.length=n:=⟨_,rfl⟩;have ai:=kD (⟨hz,ho,ht,hA,hT,R,Q⟩:codeT v (okB v b) (okR v x y) d=z∧RdS w w.heap.size 1 enI Ao b.1∧RdS w w.heap.size 1 enI At b.2∧(Ao=none->co=0)∧(At=none->ct=0)∧b.1.length=n1∧b.2.length=n2);rw [R,Q] at C0 ⊢;clear ho ht hA hT X h1 hz aG R Q;go_enter Tryz.func8,Tryz.ntmps8;go_upto_region 1 with fail;refine wp_gen (λ W'=>B3 w W' v [.slice Ao n1 co,.slice At n2 ct] x y) ⟨by go_grown,((RowB.new _ _ _).alloc _).alloc _,RowB.alloc (RowB.new' _ _ _ (by simp)) _,RowB.new' _ _ _ (by simp)⟩ ?_;intro w1 K;have HK:=kD K;clear K;refine rG [some 18,some 19,some 20,some 21,some 22,some 23,some 24,some 25,some 26,some 11] 10 (Pl [some (.agg #[.int .i64 v.p,.int .i64 v.c,.int .i64 v.h,.int .i64 v.s]),some (.agg #[.int .i64 v.p,.int .i64 v.c,.int .i64 v.h,.int .i64 v.s]),some (.agg #[.slice Ao n1 co,.slice At n2 ct]),some (.bool c0),some (.int .i64 d),some (.agg #[.int .i64 v.p,.int .i64 v.c,.int .i64 v.h,.int .i64 v.s]),some (.agg #[.int .i64 x,.int .i64 y]),some (.bool c1),some (.int .i64 z),some (.int .i64 z)]) (λ L j w'=>Below w1.heap.size w1 w') ?g0_1 ?gst_1 ?gfin_1
 case g0_1=>exact(Below.refl _ _).drew
 case gst_1 =>
  refine rN rfl (λ L j A o D E H U F K I=>?_) ?_
  ·have e4:=U.w 4 (.pointer (some ⟨w.heap.size,0,none⟩));have t:=HK.out.below F;obtain⟨q0,q1,q2,q3⟩:=t.rv.c4;obtain⟨z0,z1⟩:=t.rb.c2;obtain⟨r0,r1⟩:=t.rr.c2;clear t;go_simp;exact pF I (F)
  refine rN rfl (λ L j A o D E H U F K I=>?_) ?_
  ·have e4:=U.w 4 (.pointer (some ⟨w.heap.size,0,none⟩));have t:=HK.out.below F;obtain⟨q0,q1,q2,q3⟩:=t.rv.c4;obtain⟨z0,z1⟩:=t.rb.c2;obtain⟨r0,r1⟩:=t.rr.c2;clear t;go_simp;exact pF I (F)
  refine rN rfl (λ L j A o D E H U F K I=>?_) ?_
  ·have e5:=U.w 5 (.pointer (some ⟨w.heap.size+1,0,none⟩));have t:=HK.out.below F;obtain⟨q0,q1,q2,q3⟩:=t.rv.c4;obtain⟨z0,z1⟩:=t.rb.c2;obtain⟨r0,r1⟩:=t.rr.c2;clear t;go_simp;exact pF I (F)
  refine rN rfl (λ L j A o D E H U F K I=>?_) ?_
  ·have bl:=U.v 1 19;have bk:=U.v 2 20;go_simp;refine(C0.out o (HK.out.below F).bel).mono ?_;rintro e w6 ⟨rfl,N⟩;exact pF I (F.trans (N.mono F.size))
  refine rN rfl (λ L j A o D E H U F K I=>?_) ?_
  ·have e3:=U.w 3 (.int .i64 d);go_simp;exact pF I (F)
  refine rN rfl (λ L j A o D E H U F K I=>?_) ?_
  ·have e4:=U.w 4 (.pointer (some ⟨w.heap.size,0,none⟩));have t:=HK.out.below F;obtain⟨q0,q1,q2,q3⟩:=t.rv.c4;obtain⟨z0,z1⟩:=t.rb.c2;obtain⟨r0,r1⟩:=t.rr.c2;clear t;go_simp;exact pF I (F)
  refine rN rfl (λ L j A o D E H U F K I=>?_) ?_
  ·have e6:=U.w 6 (.pointer (some ⟨w.heap.size+2,0,none⟩));have t:=HK.out.below F;obtain⟨q0,q1,q2,q3⟩:=t.rv.c4;obtain⟨z0,z1⟩:=t.rb.c2;obtain⟨r0,r1⟩:=t.rr.c2;clear t;go_simp;exact pF I (F)
  refine rN rfl (λ L j A o D E H U F K I=>?_) ?_
  ·have bh:=U.v 5 23;have bg:=U.v 6 24;go_simp;refine(C1.out o).mono ?_;rintro e w6 ⟨rfl,N⟩;exact pF I (F.trans (N.mono F.size))
  refine rN rfl (λ L j A o D E H U F K I=>?_) ?_
  ·have bm:=U.v 0 18;have bj:=U.v 3 21;have bi:=U.v 4 22;have bf:=U.v 7 25;go_simp;refine(C2.out o).mono ?_;rintro e w6 ⟨rfl,N⟩;exact pF I (F.trans (N.mono F.size))
  refine rN rfl (λ L j A o D E H U F K I=>?_) ?_
  ·have be:=U.v 8 26;go_simp;exact pF I (F)
  exact RelFrom.nil (by decide)
 case gfin_1 =>
  intro j o hp F;simp only [Fr,Act.put,sX,Nat.reduceAdd];have h9:j 9=.int .i64 z:=hp 9 (by decide) _ rfl;have K:=HK.out.below F;rw [h9];clear F hp h9 HK;obtain⟨q0,q1,q2,q3⟩:=K.rv.c4;obtain⟨z0,z1⟩:=K.rb.c2;obtain⟨r0,r1⟩:=K.rr.c2;have ao:=K.rv.lt;have an:=K.rb.lt;have am:=K.rr.lt;by_cases X:z=0
  ·have f:=HR.out;rw [if_pos X] at f;have e0:(z != 0)=false:=by simp [X]
   obtain⟨p1,ho,ht,hA,hT,R,Q⟩:=ai.out;have hk:=codeT_zero (p1.trans X);have hr:=okR_iff.1 hk.2.1;have hb:=hk.1;obtain⟨dn,aq⟩:∃ n:Nat,d=(n:Int):=⟨d.toNat,by omega⟩;have bb:dn<=1:=by omega
   have C:(1<=x∧x<=6)∧(1<=y∧y<=6):=by omega
   rw [aq,Int.toNat_natCast] at f;have O:=pls_bd (d:=dn) hb C.1.1 C.2.1;have T:(allP v b x y).1.length=(plsP v dn b x y).length:=by unfold plsP;rw [List.length_map]
   have aA:=(allP_ok (x:=x) (y:=y) hb C.1.1 C.2.1).1;have CA:=kD (λ(o:World) (h:Below w.heap.size w o)=>allSm_i v b hb hk.2.2.2.1 Ao At co ct x y C.1 C.2 o ((ho.below h (Nat.le_refl _)).more h.size) ((ht.below h (Nat.le_refl _)).more h.size) hA hT);have CP:=kD (λ(o:World) (h:Below w.heap.size w o)=>(vals_i dn (by omega)).2 v b hb hk.2.2.2.1 Ao At co ct x y C.1 C.2 o ((ho.below h (Nat.le_refl _)).more h.size) ((ht.below h (Nat.le_refl _)).more h.size) hA hT);have ap:=fg_gr (plsP v dn b x y) ((plsP v dn b x y).length - 1);unfold stepsP leadP at f;obtain⟨J,aC⟩:∃ z,plsP v dn b x y=z:=⟨_,rfl⟩;rw [aC] at CP O T f ap;obtain⟨ps,aj⟩:∃ ps,(allP v b x y).1=ps:=⟨_,rfl⟩;rw [aj] at CA T aA f;rw [R,Q] at CA CP;have M:fgP J<J.length:=by have:=ap.2;have:=O.2;show fgU J (J.length - 1)<_;omega
   have ag:=O.2;have CF:=kD (λ(A:Option Addr) (cp B:Nat) (o:World) (hr:RdS o B 1 enI A J)=>first_i A cp B J o hr ag);obtain⟨a,ha⟩:∃ a,fgP J=a:=⟨_,rfl⟩;rw [ha] at f M CF;have aN:=lead_eq M;rw [aN] at f;obtain⟨q,hq⟩:∃ q,ps[a]?=some q:=⟨_,List.getElem?_eq_getElem (by omega)⟩;obtain⟨sp,bd⟩:=q;rw [hq] at f;simp only [Option.getD_some] at f;have aK:sp.length<=4:=(aA _ (List.mem_of_getElem? hq)).2;have a1:J.length<=1000000:=by have:=all_len hb C.1 C.2;rw [aj] at this;omega
   have CC:=kD (λ(A:Option Addr) (cp:Nat) (o:World) (hr:RdS o o.heap.size 1 enI A J) (hA:A=none->cp=0)=>clone A cp o.heap.size J o (Nat.le_refl _) hr hA (by omega));have CD:=kD (λ(lo g Y:Nat) (o:World) (h:OwnS o lo o.heap.size 2 1 enI (.slice (some ⟨g,0,none⟩) J.length Y) J)=>del lo g J.length Y a J o h rfl M);have W:=gone_len M;have ax:∀ u ∈ gone J a,0<=u∧u<=1000000:=by
    intro u hu;unfold gone at hu;rcases List.mem_append.1 hu with h | h
    ·exact O.1 u (List.mem_of_mem_take h)
    ·exact O.1 u (List.mem_of_mem_drop h)
   have aD:=O.1 _ (List.mem_of_getElem? (at_get M));obtain⟨ys,aH⟩:∃ l,gone J a=l:=⟨_,rfl⟩;rw [aH] at f CD W ax;obtain⟨Ln,ay⟩:∃ l,J.length=l:=⟨_,rfl⟩;have ad:=kD ay;rw [ay] at M CF T f CC CD W a1;obtain⟨m,hm⟩:∃ m,Ln - 1=m:=⟨_,rfl⟩;rw [hm] at CD W;have ae:=kD f;have HQ:=kD hq;have aV:=kD T;have bo:=kD aK;have a4:=kD ax;have aB:=kD W;have a3:=kD aD;have aX:=kD (λ _:Unit=>hm);rw [<-aq] at CP;clear ai HR p1 ho ht hA hT R Q hk hr hb C O T aA aC aj ay f aq ap ha hq aK X aN aH W ax ag hm aD;go_wp2_with fail;refine(CA.out o K.bel).mono ?_;rintro e w3 ⟨pv,rfl,ak,av⟩;have K:=K.below av;have a0:w.heap.size<=o.heap.size:=by have:=av.size;have:=K.bel.size;omega
   obtain⟨Aa,ca,aS,-⟩:=Bd19.OwnG.form enP_len ak;rw [aV.out] at aS;subst aS;have HA:=ak.sl enP_len (Nat.le_refl _);clear q0 q1 q2 q3 z0 z1 r0 r1 ao an am av ak CA;obtain⟨q0,q1,q2,q3⟩:=K.rv.c4;obtain⟨z0,z1⟩:=K.rb.c2;obtain⟨r0,r1⟩:=K.rr.c2;have ao:=K.rv.lt;have an:=K.rb.lt;have am:=K.rr.lt;go_wp2_with fail;refine(CP.out w3 K.bel).mono ?_;rintro e w4 ⟨vv,rfl,aJ,ar⟩;have K:=K.below ar;have HA:=(relSl RelP 3 enP).keep HA (.below ar);obtain⟨Av,cv,aI,Z⟩:=aJ.form enI_len;rw [ad.out] at aI;subst aI;clear q0 q1 q2 q3 z0 z1 r0 r1 ao an am ar aJ CP;go_wp2_with fail;refine(CF.out Av cv _ w4 Z).mono ?_;rintro e w5 ⟨rfl,rfl⟩;clear CF;obtain⟨b8,o8,az,aQ,aO⟩:=at_rd Z (i:=a) (by rw [ad.out];exact M);have aU:Av=none->cv=0:=λ h=>by rw [h] at az;cases az
   have ba:IntKind.i64.wrap ((a:Int)+1)=(a:Int)+1:=IntWalk.i64_in _ (by omega);have a6:=kD aQ;have a5:=kD aO;subst az;go_wp2_with fail;refine(CC.out _ cv w4 Z aU).mono ?_;rintro e w6 ⟨⟨u,rfl,ab⟩,N⟩;rcases ab.cases_ with ⟨-,hnil⟩ | ⟨g,Y,rest,rfl,hlo,hhi,-⟩
   ·exfalso
    have h5:=ad.out;rw [hnil] at h5;simp at h5;omega
   rw [ad.out] at ab ⊢;have CD:=kD (CD.out w4.heap.size g Y w6 ab);clear ab hlo hhi aU aQ aO CC;go_wp2_with fail;refine CD.out.mono ?_;rintro e w7 ⟨rfl,aL,aR⟩;have P:=N.trans aR;have K:=K.below P;have HA:=(relSl RelP 3 enP).keep HA (.below P);have c8:=(Below.cell P (p:=⟨b8,o8+a,none⟩) a6.out).trans a5.out;obtain⟨A7,c7,a8,e7,af,V,-⟩:=HA;simp only [Value.slice.injEq] at e7;obtain⟨rfl,-,rfl⟩:=e7;obtain⟨b7,o7,r7,rfl,-,a7,aM,aP⟩:=af.at_ (i:=a) (by rw [V.1,aV.out];exact M);obtain⟨q,hq,ac⟩:=V.at_ aM;have aZ:q=(sp,bd):=by rw [HQ.out] at hq;exact(Option.some.inj hq).symm
   subst aZ;obtain⟨aY,rl,rm⟩:=r7;have S:=ac.1.sl enSt_len;have aw:OwnS w7 w.heap.size w7.heap.size 150 4 enSt aY sp:=own_up ac.1.1 (λ g hg=>by have h7:=ac.1.2 g hg;exact Nat.le_trans a0 h7);simp only at S;obtain⟨A0,a2,rfl,k0,-⟩:=S;obtain⟨n0,al⟩:∃ n,sp.length=n:=⟨_,rfl⟩;have bn:w7.cell? ⟨b7,o7+a*3,none⟩=some (.slice A0 n0 a2):=by have:=aP 0 _ rfl;simp only [al] at this;exact this
   rw [al] at aw;have aW:=kD aw;have ah:=kD K.bel;have bc:(a:Int)<(Ln:Int):=by omega
   clear hq ac aP af V aM al k0 aR P N aw Z K CD;by_cases hm0:m=0
   ·have e8:((m:Int) == 0)=true:=by simp [hm0]
    have f:=ae.out;rw [if_pos (by have:=aX.out ();omega)] at f;have HG:=kD (λ _:Unit=>f);clear f ae hm0;go_wp2_with fail;go_ret3;rw [HG.out ()];exact⟨_,rfl,aW.out,ah.out⟩
   ·have e8:((m:Int) == 0)=false:=by simp;omega
    have f:=ae.out;rw [if_neg (by have:=aX.out ();omega)] at f;have aa:=gr_bd a4.out (ys.length - 1) (by rw [aB.out];omega);have aF:=a3.out;obtain⟨za,aE⟩:∃ z,at_ J a=z:=⟨_,rfl⟩;have aa:0<=grt ys∧grt ys<=1000000:=aa;rw [aE] at f aF c8;have CM:=kD (λ(k:Nat)=>Calls.quiet_of_same ((max_i _ Y _ ys (w7.drewN k) aL (by rw [aB.out];omega)).mono λ _ _ h=>⟨h.1,h.2.symm⟩));rw [aB.out] at CM;obtain⟨G,hG⟩:∃ g,grt ys=g:=⟨_,rfl⟩;rw [hG] at CM f aa;have a9:IntKind.i64.wrap (za - G)=za - G:=IntWalk.i64_in _ (by omega);have HG:=kD (λ _:Unit=>f);clear f ae hm0 aL aa aF aE hG;go_wp2_with fail;go_quiet ((go_at_call 38;exact CM.out _));go_wp2_with fail;go_ret3;rw [HG.out ()];exact⟨_,rfl,aW.out.drewN _,below_drewN ah.out _⟩
  ·have f:=HR.out;rw [if_neg X] at f;have HG:=kD (λ _:Unit=>f);have e0:(z != 0)=true:=by simp [X]
   clear X HR f;go_wp2_with fail;go_ret3;rw [HG.out ()];exact⟨_,rfl,OwnS.nil_ _ _ _ _ _ _,K.bel⟩
end Bd40
end Go.Proofs.YtmncnhbjifeoeaaGreat
