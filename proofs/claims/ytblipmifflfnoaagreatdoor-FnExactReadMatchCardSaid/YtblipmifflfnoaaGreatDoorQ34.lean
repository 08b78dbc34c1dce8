/- Parts of the proof of FnExactReadMatch. Conditions: each theorem's own. -/
import Derived.Test.YtblipmifflfnoaaGreatDoorQ33
set_option linter.unusedVariables false
set_option linter.unusedSimpArgs false
set_option maxHeartbeats 8000000
set_option maxRecDepth 100000
namespace Go.Proofs.YtblipmifflfnoaaGreatDoor
namespace TsI
open Go.ChangeShapes Go.WideShapes Go.ChangeAt Go.RowKit Base Ints Own JoinN PlP TxP Num Bd1 Bd5 RegF RegG TxI
theorem pow15 {k:Nat} (h:k<=15):((10:Int) ^ k)<=1000000000000000:=by
 have:(10:Nat) ^ k<=10 ^ 15:=Nat.pow_le_pow_right (by omega) h;have a:((10 ^ k:Nat):Int)<=((10 ^ 15:Nat):Int):=by exact_mod_cast this
 simpa using a
theorem all_take {l:By} {k:Nat} {x:UInt8} (h:(l.take k).all isD=true) (hx:l[k]?=some x) (hd:isD x=true):(l.take (k+1)).all isD=true:=by
 rw [take_succ l k x hx,List.all_append,h];simp [hd]
theorem numU_take {l:By}:∀(k j:Nat),k<=j->numU (l.take j) k=numU l k:=by
 intro k
 induction k with
 | zero=>intro j _;rfl
 | succ k ih =>
  intro j a;simp only [numU];rw [ih j (by omega)];have:(l.take j).getD k 0=l.getD k 0:=by rw [List.getD_eq_getElem?_getD,List.getD_eq_getElem?_getD,List.getElem?_take,if_pos (by omega)]
  rw [this]
theorem val_s (l:By) (hl:l.length<=4194304) (w:World) :
  Calls Tryz.prog 40 #[.string (bs l)] w λ e w'=>e=.returned (.tuple #[.int .i64 (valS l).1,.bool (valS l).2])∧Below w.heap.size w w':=by
 obtain⟨⟨y,A⟩,hR⟩:∃ z,valS l=z:=⟨_,rfl⟩;rw [hR];simp only;obtain⟨s,hs⟩:∃ s,bs l=s:=⟨_,rfl⟩;have b:s.size=l.length:=by rw [<-hs];exact bs_size l
 have T:s.data.toList=l:=by rw [<-hs];rfl
 obtain⟨n,hn⟩:∃ n,l.length=n:=⟨_,rfl⟩;rw [hn] at b hl;rw [hs];have E:=kD hR;have F:=kD hn;have R:=kD T;have v:=kD b;clear hR hs hn T;by_cases n0:n=0
 ·obtain⟨rfl,rfl⟩:(0:Int)=y∧false=A:=by have:=E.out;unfold valS at this;rw [if_pos (.inl (by rw [F.out];exact n0))] at this;simpa using this
  have e0:((s.size:Int) == 0)=true:=by rw [b];simp [n0]
  clear b n0 E;go_enter Tryz.func40,Tryz.ntmps40;go_wp2_with fail;go_ret2;exact⟨rfl,Below.refl _ _⟩
 have e0:((s.size:Int) == 0)=false:=by rw [b];simp;omega
 by_cases n15:15<n
 ·obtain⟨rfl,rfl⟩:(0:Int)=y∧false=A:=by have:=E.out;unfold valS at this;rw [if_pos (.inr (.inl (by rw [F.out];exact n15)))] at this;simpa using this
  have e1:decide ((15:Int)<(s.size:Int))=true:=decide_eq_true (by rw [b];omega);clear b n0 E n15;go_enter Tryz.func40,Tryz.ntmps40;go_wp2_with fail;go_ret2;exact⟨rfl,Below.refl _ _⟩
 have e1:decide ((15:Int)<(s.size:Int))=false:=decide_eq_false (by rw [b];omega);have h0:0<s.size:=by omega
 obtain⟨x0,I⟩:∃ x,(s[0]'h0)=x:=⟨_,rfl⟩;have W:l[0]?=some x0:=by have:=Lib.data_getElem? s 0 h0;rw [R.out,I] at this;exact this
 obtain⟨S,G⟩:∃ z:Nat,x0.toNat=z:=⟨_,rfl⟩;have B:(s[0]'h0).toNat=S:=by rw [I,G]
 have X:l.getD 0 0=x0:=by rw [List.getD_eq_getElem?_getD,W];rfl
 have g:(l.getD 0 0=48)↔S=48:=by
  rw [X,<-G]
  constructor
  ·intro h;rw [h];rfl
  ·intro h;exact UInt8.toNat_inj.1 (by rw [h];rfl)
 have aa:=kD g;clear I W G X g;by_cases hf:1<n∧S=48
 ·obtain⟨rfl,rfl⟩:(0:Int)=y∧false=A:=by have:=E.out;unfold valS at this;rw [if_pos (.inr (.inr ⟨by rw [F.out];exact hf.1,aa.out.2 hf.2⟩))] at this;simpa using this
  have e2:decide ((1:Int)<(s.size:Int))=true:=decide_eq_true (by rw [b];omega);have e3:((S:Int) == 48)=true:=by simp [hf.2]
  clear b n0 E n15 hf;go_enter Tryz.func40,Tryz.ntmps40;go_wp2_with fail;go_ret2;exact⟨rfl,Below.refl _ _⟩
 have D:Hid ((y,A)=if l.all isD then (numU l n,true) else (0,false)):=by
  show _=_
  rw [<-E.out];unfold valS;rw [F.out,if_neg (by
   rintro(h | h | h)
   ·exact n0 h
   ·exact n15 h
   ·exact hf ⟨h.1,aa.out.1 h.2⟩)]
 have ag:n<=15:=by omega
 have HF:Hid (¬ (1<n∧S=48)):=kD hf;have C:(s.size:Int)=(n:Int):=by rw [b]
 clear E n15 hf;by_cases p:1<n
 ·have e2:decide ((1:Int)<(s.size:Int))=true:=decide_eq_true (by rw [b];omega);have e3:((S:Int) == 48)=false:=by have:=HF.out;simp;omega
  clear b C n0;go_enter Tryz.func40,Tryz.ntmps40;go_wp2_with fail;clear e0 e1 e2 B;go_loopw [4,5] (λ m i wr=>∃(k:Nat) (a:Int),k<=n∧i=.int .i64 (k:Int)∧m=.int .i64 a∧Hid (numU l k=a)∧Hid ((l.take k).all isD=true)∧(0<=a∧a<1000000000000000)∧wr=w) (λ _ i _=>n - (intOf i).toNat)
  case atStart=>exact⟨0,0,Nat.zero_le _,rfl,rfl,rfl,rfl,⟨by omega,by omega⟩,rfl⟩
  case round =>
   obtain⟨k,a,hk,rfl,rfl,K,c,⟨a0,a1⟩,rfl⟩:=hrel;by_cases hlt:k<n
   ·have hlt':k<s.size:=by rw [v.out];exact hlt
    have O:decide ((k:Int)<(s.size:Int))=true:=decide_eq_true (by omega);obtain⟨x,j⟩:∃ x,(s[k]'hlt')=x:=⟨_,rfl⟩;have J:=Lib.data_getElem? s k hlt';rw [j,R.out] at J;obtain⟨z,H⟩:∃ z:Nat,x.toNat=z:=⟨_,rfl⟩;have ab:(s[k]'hlt').toNat=z:=by rw [j,H]
    have Q:=kD J;have P:=kD H;clear j J H;by_cases hD:48<=z∧z<=57
    ·have q:isD x=true:=by unfold isD;rw [P.out];exact decide_eq_true hD
     have d:=kD (all_take c.out Q.out q);have Y:l.getD k 0=x:=by rw [List.getD_eq_getElem?_getD,Q.out];rfl
     have r:Hid (numU l (k+1)=10*a+((z:Int) - 48)):=by show _=_;simp only [numU];rw [K.out,Y,P.out]
     have f:=num_bd (l:=l.take (k+1)) d.out (k+1) (by rw [List.length_take,F.out];omega);rw [numU_take (k+1) (k+1) (Nat.le_refl _),r.out] at f;have V:=pow15 (k:=k+1) (by omega);have N:0<=10*a+((z:Int) - 48)∧10*a+((z:Int) - 48)<1000000000000000:=⟨f.1,Int.lt_of_lt_of_le f.2 V⟩;obtain⟨ad,ac⟩:=hD;have Z:decide ((z:Int)<48)=false:=decide_eq_false (by omega);have d2:decide ((57:Int)<(z:Int))=false:=decide_eq_false (by omega);have eu:IntKind.u8.wrap ((z:Int) - 48)=(z:Int) - 48:=IntWalk.u8_in _ (by omega);have af:IntKind.i64.wrap (10*a)=10*a:=IntWalk.i64_in _ (by omega);have ae:IntKind.i64.wrap (10*a+((z:Int) - 48))=10*a+((z:Int) - 48):=IntWalk.i64_in _ (by omega);have ez:IntKind.i64.wrap ((z:Int) - 48)=(z:Int) - 48:=IntWalk.i64_in _ (by omega);clear q Y f V;go_wp2_with fail;go_roundw
     case rel=>exact⟨k+1,10*a+((z:Int) - 48),by omega,by go_num,rfl,r,d,N,by first | rfl | trivial⟩
     case measure=>simp [intOf];omega
    ·have o:(0:Int)=y∧false=A:=by
      have p:=D.out;have L:¬ l.all isD=true:=by
       intro t;have:=List.all_eq_true.1 t x (List.mem_of_getElem? Q.out);unfold isD at this;rw [P.out] at this;exact hD (of_decide_eq_true this)
      rw [if_neg L] at p
      simpa using p.symm
     obtain⟨rfl,rfl⟩:=o;clear D;by_cases g:z<48
     ·have Z:decide ((z:Int)<48)=true:=decide_eq_true (by omega);clear hD g;go_wp2_with fail;go_ret2;exact⟨rfl,Below.refl _ _⟩
     ·have Z:decide ((z:Int)<48)=false:=decide_eq_false (by omega);have d2:decide ((57:Int)<(z:Int))=true:=decide_eq_true (by omega);clear hD g;go_wp2_with fail;go_ret2;exact⟨rfl,Below.refl _ _⟩
   ·obtain rfl:k=n:=by omega
    have M:¬ k<s.size:=by have:=v.out;omega
    have O:decide (k<s.size)=false:=decide_eq_false M;have o:a=y∧true=A:=by
     have p:=D.out;have t:=c.out;rw [List.take_of_length_le (by rw [F.out];exact Nat.le_refl _)] at t;rw [if_pos t,K.out] at p
     simpa using p.symm
    obtain⟨rfl,rfl⟩:=o;clear D K c;go_wp2_with fail;go_ret2;exact⟨rfl,Below.refl _ _⟩
 ·have e2:decide ((1:Int)<(s.size:Int))=false:=decide_eq_false (by rw [b];omega);clear b C n0;go_enter Tryz.func40,Tryz.ntmps40;go_wp2_with fail;clear e0 e1 e2 B;go_loopw [4,5] (λ m i wr=>∃(k:Nat) (a:Int),k<=n∧i=.int .i64 (k:Int)∧m=.int .i64 a∧Hid (numU l k=a)∧Hid ((l.take k).all isD=true)∧(0<=a∧a<1000000000000000)∧wr=w) (λ _ i _=>n - (intOf i).toNat)
  case atStart=>exact⟨0,0,Nat.zero_le _,rfl,rfl,rfl,rfl,⟨by omega,by omega⟩,rfl⟩
  case round =>
   obtain⟨k,a,hk,rfl,rfl,K,c,⟨a0,a1⟩,rfl⟩:=hrel;by_cases hlt:k<n
   ·have hlt':k<s.size:=by rw [v.out];exact hlt
    have O:decide ((k:Int)<(s.size:Int))=true:=decide_eq_true (by omega);obtain⟨x,j⟩:∃ x,(s[k]'hlt')=x:=⟨_,rfl⟩;have J:=Lib.data_getElem? s k hlt';rw [j,R.out] at J;obtain⟨z,H⟩:∃ z:Nat,x.toNat=z:=⟨_,rfl⟩;have ab:(s[k]'hlt').toNat=z:=by rw [j,H]
    have Q:=kD J;have P:=kD H;clear j J H;by_cases hD:48<=z∧z<=57
    ·have q:isD x=true:=by unfold isD;rw [P.out];exact decide_eq_true hD
     have d:=kD (all_take c.out Q.out q);have Y:l.getD k 0=x:=by rw [List.getD_eq_getElem?_getD,Q.out];rfl
     have r:Hid (numU l (k+1)=10*a+((z:Int) - 48)):=by show _=_;simp only [numU];rw [K.out,Y,P.out]
     have f:=num_bd (l:=l.take (k+1)) d.out (k+1) (by rw [List.length_take,F.out];omega);rw [numU_take (k+1) (k+1) (Nat.le_refl _),r.out] at f;have V:=pow15 (k:=k+1) (by omega);have N:0<=10*a+((z:Int) - 48)∧10*a+((z:Int) - 48)<1000000000000000:=⟨f.1,Int.lt_of_lt_of_le f.2 V⟩;obtain⟨ad,ac⟩:=hD;have Z:decide ((z:Int)<48)=false:=decide_eq_false (by omega);have d2:decide ((57:Int)<(z:Int))=false:=decide_eq_false (by omega);have eu:IntKind.u8.wrap ((z:Int) - 48)=(z:Int) - 48:=IntWalk.u8_in _ (by omega);have af:IntKind.i64.wrap (10*a)=10*a:=IntWalk.i64_in _ (by omega);have ae:IntKind.i64.wrap (10*a+((z:Int) - 48))=10*a+((z:Int) - 48):=IntWalk.i64_in _ (by omega);have ez:IntKind.i64.wrap ((z:Int) - 48)=(z:Int) - 48:=IntWalk.i64_in _ (by omega);clear q Y f V;go_wp2_with fail;go_roundw
     case rel=>exact⟨k+1,10*a+((z:Int) - 48),by omega,by go_num,rfl,r,d,N,by first | rfl | trivial⟩
     case measure=>simp [intOf];omega
    ·have o:(0:Int)=y∧false=A:=by
      have p:=D.out;have L:¬ l.all isD=true:=by
       intro t;have:=List.all_eq_true.1 t x (List.mem_of_getElem? Q.out);unfold isD at this;rw [P.out] at this;exact hD (of_decide_eq_true this)
      rw [if_neg L] at p
      simpa using p.symm
     obtain⟨rfl,rfl⟩:=o;clear D;by_cases g:z<48
     ·have Z:decide ((z:Int)<48)=true:=decide_eq_true (by omega);clear hD g;go_wp2_with fail;go_ret2;exact⟨rfl,Below.refl _ _⟩
     ·have Z:decide ((z:Int)<48)=false:=decide_eq_false (by omega);have d2:decide ((57:Int)<(z:Int))=true:=decide_eq_true (by omega);clear hD g;go_wp2_with fail;go_ret2;exact⟨rfl,Below.refl _ _⟩
   ·obtain rfl:k=n:=by omega
    have M:¬ k<s.size:=by have:=v.out;omega
    have O:decide (k<s.size)=false:=decide_eq_false M;have o:a=y∧true=A:=by
     have p:=D.out;have t:=c.out;rw [List.take_of_length_le (by rw [F.out];exact Nat.le_refl _)] at t;rw [if_pos t,K.out] at p
     simpa using p.symm
    obtain⟨rfl,rfl⟩:=o;clear D K c;go_wp2_with fail;go_ret2;exact⟨rfl,Below.refl _ _⟩
theorem rroll_s (v:Vr) (hv:okV v=true) (t:By) (hl:t.length<=4194304) (w:World) :
  Calls Tryz.prog 75 #[.agg #[.int .i64 v.p,.int .i64 v.c,.int .i64 v.h,.int .i64 v.s],.string (bs t)] w λ e w'=>e=.returned (.tuple #[.agg #[.int .i64 (optR (rdR v t)).1.1,.int .i64 (optR (rdR v t)).1.2],.bool (optR (rdR v t)).2])∧Below w.heap.size w w':=by
 obtain⟨R,hR⟩:∃ r,optR (rdR v t)=r:=⟨_,rfl⟩;rw [hR];have HR:=kD hR;have S:=bs_size t;clear hR;go_enter Tryz.func75,Tryz.ntmps75;go_upto_region 1 with fail;refine wp_gen (λ B=>Below w.heap.size w B∧RowB B w.heap.size 23 (vL v)∧RowB B (w.heap.size+1) 48 [.int .i64 0,.int .i64 0]) ⟨by go_grown,(RowB.new _ _ _).alloc _,RowB.new' _ _ _ (by simp)⟩ ?_;rintro w1 ⟨l,T,m⟩;have W:=m.lt;have Z:=m.frozen;by_cases h2:t.length=2
 case neg =>
  have D:R=((0,0),false):=by rw [<-HR.out];unfold rdR;rw [if_neg (λ h=>h2 h.1)];rfl
  subst D;have e1:(((bs t).size:Int) == 2)=false:=by rw [S];simp;omega
  have e2:(((bs t).size:Int) != 2)=true:=by rw [S];simp;omega
  obtain⟨r0,r1⟩:=m.c2;clear S h2;go_wp2_with fail;refine bp_gen (λ B=>Below w.heap.size w B∧RowB B (w.heap.size+1) 48 [.int .i64 0,.int .i64 0]) ⟨(l.setCell (p:=⟨w.heap.size+1,0,none⟩) (by show w.heap.size<=w.heap.size+1;omega) _).setCell (p:=⟨w.heap.size+1,1,none⟩) (by show w.heap.size<=w.heap.size+1;omega) _,(m.set 0 _).set 1 _⟩ ?_;rintro w8 ⟨C,V⟩;obtain⟨P,O⟩:=V.c2;refine bodyPost_ret (v:=.tuple #[.agg #[.int .i64 0,.int .i64 0],.bool false]) (by simp [results,Tryz.results75,go_sem,P,O]) rfl ?_;exact⟨rfl,C⟩
 obtain⟨a,b,rfl⟩:=list2 h2;have e1:(((bs [a,b]).size:Int) != 2)=false:=by rw [S];rfl
 have g0:(bs [a,b]).size=2:=by rw [S];rfl
 clear S h2 hl;go_upto_region 3 with fail;refine rG [some 11,some 12,some 13,some 14,some 15,some 16,some 17,some 18,some 19,some 6,none] 11 (Pl [some (.string (bs [a,b])),some (.int .u8 (a.toNat:Int)),some (.int .i64 (a.toNat:Int)),some (.int .i64 ((a.toNat:Int) - 48)),some (.string (bs [a,b])),some (.int .u8 (b.toNat:Int)),some (.int .i64 (b.toNat:Int)),some (.int .i64 ((b.toNat:Int) - 48)),some (.agg #[.int .i64 ((a.toNat:Int) - 48),.int .i64 ((b.toNat:Int) - 48)]),none,none]) (λ L d w'=>RrF w1 ((a.toNat:Int) - 48) ((b.toNat:Int) - 48) (L 9) (L 10) (d 9) w') ?g0_1 ?gst_1 ?gfin_1
 case g0_1=>exact⟨(Below.refl _ _).drew,λ h=>absurd h (by decide),λ h=>absurd h (by decide)⟩
 case gst_1 =>
  refine rN rfl (λ L d A o f i j U F K k=>?_) ?_
  ·have e1:=U.w 1 (.string (bs [a,b]));have M:=a.toNat_lt;have z:=b.toNat_lt;have J:IntKind.i64.wrap (a.toNat:Int)=(a.toNat:Int):=IntWalk.i64_in _ (by omega);have I:IntKind.i64.wrap (b.toNat:Int)=(b.toNat:Int):=IntWalk.i64_in _ (by omega);have wc:IntKind.i64.wrap ((a.toNat:Int) - 48)=(a.toNat:Int) - 48:=IntWalk.i64_in _ (by omega);have H:IntKind.i64.wrap ((b.toNat:Int) - 48)=(b.toNat:Int) - 48:=IntWalk.i64_in _ (by omega);go_simp;exact pF k (F.skip 0 _)
  refine rN rfl (λ L d A o f i j U F K k=>?_) ?_
  ·have al:=U.v 0 11;have M:=a.toNat_lt;have z:=b.toNat_lt;have J:IntKind.i64.wrap (a.toNat:Int)=(a.toNat:Int):=IntWalk.i64_in _ (by omega);have I:IntKind.i64.wrap (b.toNat:Int)=(b.toNat:Int):=IntWalk.i64_in _ (by omega);have wc:IntKind.i64.wrap ((a.toNat:Int) - 48)=(a.toNat:Int) - 48:=IntWalk.i64_in _ (by omega);have H:IntKind.i64.wrap ((b.toNat:Int) - 48)=(b.toNat:Int) - 48:=IntWalk.i64_in _ (by omega);go_simp;exact pF k (F.skip 1 _)
  refine rN rfl (λ L d A o f i j U F K k=>?_) ?_
  ·have ak:=U.v 1 12;have M:=a.toNat_lt;have z:=b.toNat_lt;have J:IntKind.i64.wrap (a.toNat:Int)=(a.toNat:Int):=IntWalk.i64_in _ (by omega);have I:IntKind.i64.wrap (b.toNat:Int)=(b.toNat:Int):=IntWalk.i64_in _ (by omega);have wc:IntKind.i64.wrap ((a.toNat:Int) - 48)=(a.toNat:Int) - 48:=IntWalk.i64_in _ (by omega);have H:IntKind.i64.wrap ((b.toNat:Int) - 48)=(b.toNat:Int) - 48:=IntWalk.i64_in _ (by omega);go_simp;exact pF k (F.skip 2 _)
  refine rN rfl (λ L d A o f i j U F K k=>?_) ?_
  ·have aj:=U.v 2 13;have M:=a.toNat_lt;have z:=b.toNat_lt;have J:IntKind.i64.wrap (a.toNat:Int)=(a.toNat:Int):=IntWalk.i64_in _ (by omega);have I:IntKind.i64.wrap (b.toNat:Int)=(b.toNat:Int):=IntWalk.i64_in _ (by omega);have wc:IntKind.i64.wrap ((a.toNat:Int) - 48)=(a.toNat:Int) - 48:=IntWalk.i64_in _ (by omega);have H:IntKind.i64.wrap ((b.toNat:Int) - 48)=(b.toNat:Int) - 48:=IntWalk.i64_in _ (by omega);go_simp;exact pF k (F.skip 3 _)
  refine rN rfl (λ L d A o f i j U F K k=>?_) ?_
  ·have e1:=U.w 1 (.string (bs [a,b]));have M:=a.toNat_lt;have z:=b.toNat_lt;have J:IntKind.i64.wrap (a.toNat:Int)=(a.toNat:Int):=IntWalk.i64_in _ (by omega);have I:IntKind.i64.wrap (b.toNat:Int)=(b.toNat:Int):=IntWalk.i64_in _ (by omega);have wc:IntKind.i64.wrap ((a.toNat:Int) - 48)=(a.toNat:Int) - 48:=IntWalk.i64_in _ (by omega);have H:IntKind.i64.wrap ((b.toNat:Int) - 48)=(b.toNat:Int) - 48:=IntWalk.i64_in _ (by omega);go_simp;exact pF k (F.skip 4 _)
  refine rN rfl (λ L d A o f i j U F K k=>?_) ?_
  ·have ah:=U.v 4 15;have M:=a.toNat_lt;have z:=b.toNat_lt;have J:IntKind.i64.wrap (a.toNat:Int)=(a.toNat:Int):=IntWalk.i64_in _ (by omega);have I:IntKind.i64.wrap (b.toNat:Int)=(b.toNat:Int):=IntWalk.i64_in _ (by omega);have wc:IntKind.i64.wrap ((a.toNat:Int) - 48)=(a.toNat:Int) - 48:=IntWalk.i64_in _ (by omega);have H:IntKind.i64.wrap ((b.toNat:Int) - 48)=(b.toNat:Int) - 48:=IntWalk.i64_in _ (by omega);go_simp;exact pF k (F.skip 5 _)
  refine rN rfl (λ L d A o f i j U F K k=>?_) ?_
  ·have ag:=U.v 5 16;have M:=a.toNat_lt;have z:=b.toNat_lt;have J:IntKind.i64.wrap (a.toNat:Int)=(a.toNat:Int):=IntWalk.i64_in _ (by omega);have I:IntKind.i64.wrap (b.toNat:Int)=(b.toNat:Int):=IntWalk.i64_in _ (by omega);have wc:IntKind.i64.wrap ((a.toNat:Int) - 48)=(a.toNat:Int) - 48:=IntWalk.i64_in _ (by omega);have H:IntKind.i64.wrap ((b.toNat:Int) - 48)=(b.toNat:Int) - 48:=IntWalk.i64_in _ (by omega);go_simp;exact pF k (F.skip 6 _)
  refine rN rfl (λ L d A o f i j U F K k=>?_) ?_
  ·have af:=U.v 6 17;have M:=a.toNat_lt;have z:=b.toNat_lt;have J:IntKind.i64.wrap (a.toNat:Int)=(a.toNat:Int):=IntWalk.i64_in _ (by omega);have I:IntKind.i64.wrap (b.toNat:Int)=(b.toNat:Int):=IntWalk.i64_in _ (by omega);have wc:IntKind.i64.wrap ((a.toNat:Int) - 48)=(a.toNat:Int) - 48:=IntWalk.i64_in _ (by omega);have H:IntKind.i64.wrap ((b.toNat:Int) - 48)=(b.toNat:Int) - 48:=IntWalk.i64_in _ (by omega);go_simp;exact pF k (F.skip 7 _)
  refine rN rfl (λ L d A o f i j U F K k=>?_) ?_
  ·have ai:=U.v 3 14;have ae:=U.v 7 18;have M:=a.toNat_lt;have z:=b.toNat_lt;have J:IntKind.i64.wrap (a.toNat:Int)=(a.toNat:Int):=IntWalk.i64_in _ (by omega);have I:IntKind.i64.wrap (b.toNat:Int)=(b.toNat:Int):=IntWalk.i64_in _ (by omega);have wc:IntKind.i64.wrap ((a.toNat:Int) - 48)=(a.toNat:Int) - 48:=IntWalk.i64_in _ (by omega);have H:IntKind.i64.wrap ((b.toNat:Int) - 48)=(b.toNat:Int) - 48:=IntWalk.i64_in _ (by omega);go_simp;exact pF k (F.skip 8 _)
  refine rN rfl (λ L d A o f i j U F K k=>?_) ?_
  ·go_simp;exact k.out _ _ (Pl.any rfl) (by simpa [upd] using F.s9 (λ h=>f (j 10 9 (by kernel_rfl) h)))
  refine rN rfl (λ L d A o f i j U F K k=>?_) ?_
  ·have e6:=U.x 9 6;have ad:=U.v 8 19;refine(F.f9 (bK i 9)).elim λ g q=>?_
   refine q.2.2.elim λ p0 q2=>?_
   refine q2.elim λ p1 Q=>?_
   have em:=e6.trans q.1;clear e6;have fr:=Q.frozen;have hl:=Q.lt;obtain⟨P,O⟩:=Q.c2;go_simp;exact k.out undef _ (Pl.any rfl) (by simpa [upd,q.1] using F.s10 q.1 q.2.1 Q)
  exact RelFrom.nil (by decide)
 case gfin_1 =>
  intro d o hp F;simp only [Fr,Act.put,sX,Nat.reduceAdd];have E:=F.bel;obtain⟨g,X,ab,n⟩:=F.f10 trivial;rw [X];have T:=T.below E T.lt;have m:=m.below E m.lt;have l:=l.trans (E.mono l.size);have ac:w.heap.size+2<=g:=by omega
  clear F hp X ab E W Z;obtain⟨x,hx⟩:∃ x,(a.toNat:Int) - 48=x:=⟨_,rfl⟩;obtain⟨y,hy⟩:∃ y,(b.toNat:Int) - 48=y:=⟨_,rfl⟩;rw [hx,hy] at n;obtain⟨c,hc⟩:∃ c,rollB v x y=c:=⟨_,rfl⟩;have Y:R=if c=true then ((x,y),true) else ((0,0),false):=by
   rw [<-HR.out];unfold rdR;simp only [List.getD_cons_zero,List.getD_cons_succ,hx,hy,hc,List.length_cons,List.length_nil]
   cases c <;> rfl
  have CR:=kD (λ o=>isroll_ws v hv x y c hc o);have G:=kD Y;clear Y hc hx hy HR;obtain⟨q0,q1,q2,Q⟩:=T.c4;obtain⟨x0,x1⟩:=n.c2;have aa:=T.lt;have N:=n.lt;go_wp2_with fail;refine(CR.out _).mono ?_;rintro e w5 ⟨rfl,z⟩;have l:=l.trans (z.mono l.size);have m:=m.below z m.lt;have n:=n.below z N;clear q0 q1 q2 Q x0 x1 aa N z CR;obtain⟨x0,x1⟩:=n.c2;have N:=n.lt;have W:=m.lt;have Z:=m.frozen;obtain⟨r0,r1⟩:=m.c2
  cases c
  case false =>
   have D:R=((0,0),false):=G.out;subst D;clear G;go_wp2_with fail;refine bp_gen (λ B=>Below w.heap.size w B∧RowB B (w.heap.size+1) 48 [.int .i64 0,.int .i64 0]) ⟨(l.setCell (p:=⟨w.heap.size+1,0,none⟩) (by show w.heap.size<=w.heap.size+1;omega) _).setCell (p:=⟨w.heap.size+1,1,none⟩) (by show w.heap.size<=w.heap.size+1;omega) _,(m.set 0 _).set 1 _⟩ ?_;rintro w8 ⟨C,V⟩;obtain⟨P,O⟩:=V.c2;refine bodyPost_ret (v:=.tuple #[.agg #[.int .i64 0,.int .i64 0],.bool false]) (by simp [results,Tryz.results75,go_sem,P,O]) rfl ?_;exact⟨rfl,C⟩
  have D:R=((x,y),true):=G.out;subst D;clear G;go_wp2_with fail;refine bp_gen (λ B=>Below w.heap.size w B∧RowB B (w.heap.size+1) 48 [.int .i64 x,.int .i64 y]) ⟨(l.setCell (p:=⟨w.heap.size+1,0,none⟩) (by show w.heap.size<=w.heap.size+1;omega) _).setCell (p:=⟨w.heap.size+1,1,none⟩) (by show w.heap.size<=w.heap.size+1;omega) _,(m.set 0 _).set 1 _⟩ ?_;rintro w8 ⟨C,V⟩;obtain⟨P,O⟩:=V.c2;refine bodyPost_ret (v:=.tuple #[.agg #[.int .i64 x,.int .i64 y],.bool true]) (by simp [results,Tryz.results75,go_sem,P,O]) rfl ?_;exact⟨rfl,C⟩
theorem one_Bst (x:By):∀ u ∈ enBs x,u.oneCell'=true:=by intro u a;simp [enBs] at a;subst a;rfl
structure Spl (c:UInt8) (l:By) (f k:Nat) (X:List By):Prop where
 fk:f<=k
 kl:k<=l.length
 no:∀ x ∈ (l.drop f).take (k - f),x≠c
 eq:spl c l=X++spl c (l.drop f)
 len:X.length<=k
theorem Spl.zero (c:UInt8) (l:By):Spl c l 0 0 []:=⟨Nat.le_refl _,Nat.zero_le _,by simp,by simp,by simp⟩
theorem Spl.end_ {c:UInt8} {l:By} {f:Nat} {X:List By} (h:Spl c l f l.length X):spl c l=X++[(l.drop f).take (l.length - f)]:=by
 have e:(l.drop f).take (l.length - f)=l.drop f:=List.take_of_length_le (by simp);have a:=h.no;rw [e] at a ⊢;rw [h.eq,spl_no _ _ a]
theorem drop_at {l:By} {f k:Nat} {x:UInt8} (hf:f<=k) (hx:l[k]?=some x):l.drop f=(l.drop f).take (k - f)++x :: l.drop (k+1):=by
 have d:(l.drop f).drop (k - f)=x :: l.drop (k+1):=by
  rw [List.drop_drop,show f+(k - f)=k by omega];have c:=(List.getElem?_eq_some_iff.1 hx);obtain⟨b,a⟩:=c;rw [List.drop_eq_getElem_cons b,a]
 conv=>lhs;rw [<-List.take_append_drop (k - f) (l.drop f)]
 rw [d]
theorem Spl.hit {c:UInt8} {l:By} {f k:Nat} {X:List By} (h:Spl c l f k X) (hx:l[k]?=some c):Spl c l (k+1) (k+1) (X++[(l.drop f).take (k - f)]):=by
 have a:=(List.getElem?_eq_some_iff.1 hx).1;refine⟨Nat.le_refl _,a,by simp,?_,by have:=h.len;simp;omega⟩;rw [h.eq,List.append_assoc]
 congr 1
 rw [drop_at h.fk hx,spl_at _ _ _ h.no];have e:((l.drop f).take (k - f)++c :: l.drop (k+1)).take (k - f)=(l.drop f).take (k - f):=by
  rw [List.take_append_of_le_length (by rw [List.length_take,List.length_drop];omega),List.take_of_length_le (by rw [List.length_take];omega)]
 simp [e]
theorem Spl.go {c x:UInt8} {l:By} {f k:Nat} {X:List By} (h:Spl c l f k X) (hx:l[k]?=some x) (hn:x≠c):Spl c l f (k+1) X:=by
 have b:=(List.getElem?_eq_some_iff.1 hx).1;refine⟨by have:=h.fk;omega,b,?_,h.eq,by have:=h.len;omega⟩;intro y a;have e:=h.fk;have d:(l.drop f)[k - f]?=some x:=by rw [List.getElem?_drop,show f+(k - f)=k by omega];exact hx
 rw [show k+1 - f=(k - f)+1 by omega,take_succ _ _ _ d,List.mem_append] at a;rcases a with a | a
 ·exact h.no y a
 ·simp at a;rw [a];exact hn
theorem split_s (l:By) (c:UInt8) (cz:Int) (hcz:(c.toNat:Int)=cz) (hl:l.length<=4194304) (w:World) :
  Calls Tryz.prog 14 #[.string (bs l),.int .u8 cz] w λ e w'=>∃ sv,e=.returned sv∧OwnS w' w.heap.size w'.heap.size 9 1 enBs sv (spl c l)∧Below w.heap.size w w':=by
 obtain⟨i4,S,O,N,M⟩:=info_parts infoT;obtain⟨s,hs⟩:∃ s,bs l=s:=⟨_,rfl⟩;have D:s.size=l.length:=by rw [<-hs];exact bs_size l
 have E:s.data.toList=l:=by rw [<-hs];rfl
 obtain⟨n,hn⟩:∃ n,l.length=n:=⟨_,rfl⟩;have ai:=kD (λ a b=>show s.extract a b=bs ((l.drop a).take (b - a)) from by rw [Lib.extract_eq,E];rfl);rw [hn] at D hl;rw [hs];have HN:=kD hn;have ag:=kD E;have j:=kD D;have Z:=kD hcz;clear hs hn E D hcz;go_enter Tryz.func14,Tryz.ntmps14;go_wp2_with fail;go_loopw [5,6,7] (λ vl fr i wr=>∃(f k:Nat) (X:List By),k<=n+1∧i=.int .i64 (k:Int)∧fr=.int .i64 (f:Int)∧Hid (Below w.heap.size w wr)∧Hid (OwnS wr w.heap.size wr.heap.size 9 1 enBs vl X)∧Hid (if k<=n then Spl c l f k X else spl c l=X)∧f<=k) (λ _ _ i _=>n+1 - (intOf i).toNat)
 case atStart=>exact⟨0,0,[],Nat.zero_le _,rfl,rfl,kD ((Below.refl _ _).alloc (Nat.le_refl _) _),kD ((RowB.new w 9 []).own (xs:=([]:List By)) (en:=enBs) enBs_len (Nat.le_refl _) (by simp) (by decide)),kD (by rw [if_pos (Nat.zero_le _)];exact Spl.zero c l),Nat.le_refl _⟩
 case round =>
  obtain⟨f,k,X,hk,rfl,rfl,y,A,hX,al⟩:=hrel;obtain⟨L,K,C,_⟩:=A.out.form enBs_len;by_cases hlt:k<=n
  ·have J:Spl c l f k X:=by have:=hX.out;rw [if_pos hlt] at this;exact this
   have W:=kD J;have aa:=J.len;obtain⟨I,P⟩:∃ m,X.length=m:=⟨_,rfl⟩;rw [P] at C aa;subst C;have an:=kD P;have aj:k<=s.size:=by rw [j.out];exact hlt
   have ab:s.size<=4194304:=by rw [j.out];exact hl
   have T:=ai.out f k;obtain⟨p,hp⟩:∃ p,(l.drop f).take (k - f)=p:=⟨_,rfl⟩;rw [hp] at T;have HP:=kD hp;clear hX J hp;by_cases hend:k=n
   ·have e0:((k:Int) == (s.size:Int))=true:=by have:=j.out;simp;omega
    have af:k=s.size:=by rw [j.out];exact hend
    have H:Hid (spl c l=X++[p]):=by
     have h:=W.out;have ad:k=l.length:=by rw [HN.out];exact hend
     subst ad;show _=_
     rw [h.end_,HP.out]
    have ah:=kD hend;have ac:=y.out.size;clear af hend;go_wp2_with (at_builtin;refine wpL_app rfl _ _ _ rfl w.heap.size _ 9 i4 (.string ⟨#[]⟩) 1 16 Tryz.underlying40 S O N M rfl (by decide) enBs_len one_Bst (.slice L I K) X [p] rfl (A.out.alloc _) ⟨wr.heap.size,0,none⟩ 1 1 (by first | rfl | (simp;rfl) | (simp [go_sem];done)) rfl (news_new (RowB.new _ _ _)) (by decide) ?c1 ?c2 ?c3 ?_)
    case c1=>unfold maxLen;omega
    case c2=>omega
    case c3=>go_size
    intro k2 c2 w7 q t v Q;have d:∀ g,(Value.slice L I K).ownBlock=some g->w.heap.size<=g:=λ g F=>(A.out.block g F).1
    have r:wr.grownBy w7 (Value.slice L I K).ownBlock:=below_grown (w:=wr) (by go_grown) t;have G:=kD (y.out.grown r y.out.size (λ g F=>d g F));have o:=kD q;obtain⟨Y,V⟩:∃ Y,X++[p]=Y:=⟨_,rfl⟩;rw [V] at H o;clear t r v q d V y A;go_wp2_with fail;go_roundw
    case rel=>exact⟨k+1,k+1,Y,by omega,by first | rfl | trivial | go_num,by first | rfl | trivial | go_num,G,o,kD (by have:=ah.out;rw [if_neg (by omega)];exact H.out),Nat.le_refl _⟩
    case measure=>simp [intOf];omega
   ·have hlt':k<s.size:=by rw [j.out];omega
    have e0:((k:Int) == (s.size:Int))=false:=by simp;omega
    obtain⟨x,B⟩:∃ x,(s[k]'hlt')=x:=⟨_,rfl⟩;have hx:=Lib.data_getElem? s k hlt';rw [B,ag.out] at hx;obtain⟨z,hz⟩:∃ z:Nat,x.toNat=z:=⟨_,rfl⟩;have ak:(s[k]'hlt').toNat=z:=by rw [B,hz]
    have HX:=kD hx;have HZ:=kD hz;have R:k+1<=n:=by omega
    have ac:=y.out.size;clear B hx hz;by_cases hxc:x=c
    ·have e1:((z:Int) == cz)=true:=by rw [<-Z.out,<-HZ.out,hxc];simp
     have H:Hid (Spl c l (k+1) (k+1) (X++[p])):=by
      have h:=W.out.hit (by rw [HX.out,hxc]);rw [HP.out] at h;exact kD h
     clear hxc;go_wp2_with (at_builtin;refine wpL_app rfl _ _ _ rfl w.heap.size _ 9 i4 (.string ⟨#[]⟩) 1 16 Tryz.underlying40 S O N M rfl (by decide) enBs_len one_Bst (.slice L I K) X [p] rfl (A.out.alloc _) ⟨wr.heap.size,0,none⟩ 1 1 (by first | rfl | (simp;rfl) | (simp [go_sem];done)) rfl (news_new (RowB.new _ _ _)) (by decide) ?c1 ?c2 ?c3 ?_)
     case c1=>unfold maxLen;omega
     case c2=>omega
     case c3=>go_size
     intro k2 c2 w7 q t v Q;have d:∀ g,(Value.slice L I K).ownBlock=some g->w.heap.size<=g:=λ g F=>(A.out.block g F).1
     have r:wr.grownBy w7 (Value.slice L I K).ownBlock:=below_grown (w:=wr) (by go_grown) t;have G:=kD (y.out.grown r y.out.size (λ g F=>d g F));have o:=kD q;obtain⟨Y,V⟩:∃ Y,X++[p]=Y:=⟨_,rfl⟩;rw [V] at H o;clear t r v q d V y A;go_wp2_with fail;go_roundw
     case rel=>exact⟨k+1,k+1,Y,by omega,by first | rfl | trivial | go_num,by first | rfl | trivial | go_num,G,o,kD (by rw [if_pos R];exact H.out),Nat.le_refl _⟩
     case measure=>simp [intOf];omega
    ·have e1:((z:Int) == cz)=false:=by
      rw [<-Z.out,<-HZ.out];simp;intro h;exact hxc (UInt8.toNat_inj.1 (by omega))
     have H:=kD (W.out.go HX.out hxc);clear hxc;go_wp2_with fail;go_roundw
     case rel=>exact⟨f,k+1,X,by omega,by first | rfl | trivial | go_num,by first | rfl | trivial | go_num,y,A,kD (by rw [if_pos R];exact H.out),by omega⟩
     case measure=>simp [intOf];omega
  ·have J:spl c l=X:=by have:=hX.out;rw [if_neg hlt] at this;exact this
   have W:=kD J;have ae:¬ k<=s.size:=by rw [j.out];exact hlt
   have am:decide (k<=s.size)=false:=decide_eq_false ae;subst C;clear hX J;go_wp2_with fail;go_ret;exact⟨_,rfl,by rw [W.out];exact A.out,y.out⟩
end TsI
end Go.Proofs.YtblipmifflfnoaaGreatDoor
