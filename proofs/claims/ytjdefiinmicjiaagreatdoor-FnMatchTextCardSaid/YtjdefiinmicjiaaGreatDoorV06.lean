/- Parts of the proof of FnMatchText. Conditions: each theorem's own. -/
import Derived.Test.YtjdefiinmicjiaaGreatDoorV02
import Derived.Test.YtjdefiinmicjiaaGreatDoorShelf
import Derived.Laws.IdiomStrings
import Derived.Lib.ParseIntB
import Derived.Lib.ItoaNum
import Derived.Lib.IndexMore
import Derived.Lib.Strings
import Derived.Lib.SplitLaws
import Derived.Lib.Join
import Derived.IntWalk
import Derived.ShapedOpen
import Derived.ChangeAgain
import Derived.Lib.ParseIntBTie
set_option linter.unusedVariables false
set_option linter.unusedSimpArgs false
set_option maxHeartbeats 8000000
set_option maxRecDepth 100000
namespace Go.Proofs.YtjdefiinmicjiaaGreatDoor
open _root_.Go.Proofs.Tryz
namespace TsN
open Go.ChangeShapes Go.WideShapes Go.ChangeAt Go.RowKit Base Ints RegInv
theorem tmod_nat (n m:Nat):Int.tmod (n:Int) (m:Int)=((n % m:Nat):Int):=by rw [Int.tmod_eq_emod_of_nonneg (by omega)];omega
theorem u8_in (x:Int) (h:0<=x∧x<256):IntKind.u8.wrap x=x:=by
 show x % 2 ^ 8=x
 omega
theorem conv1 (W:World) (b m:Nat) (t:ByteArray) (ht:t=⟨#[UInt8.ofNat m]⟩) (hm:m<256) (hR:RowB W b 5 [.int .u8 (m:Int)]):(convert 22 9 (.slice (sA b 0) 1 1)).run prog W=.ok (.string t) W:=by
 subst ht;refine run_convert_bytes_back W 22 9 5 ⟨b,0,none⟩ 1 [UInt8.ofNat m] Tryz.underlying22 Tryz.underlying5 Tryz.underlying9 ?_;intro j c;have a:j=0:=by simpa using c
 subst a;have e:W.cell? ⟨b,0,none⟩=some (.int .u8 (m:Int)):=hR.cell 0;have d:(UInt8.ofNat m).toNat=m:=by simp;omega
 simpa [Addr.add,d] using e
theorem dd_len (n:Nat):(Lib.decDigits n).length<=n+1:=by
 induction n using Nat.strongRecOn with
 | _ n ih =>
 rw [Lib.decDigits];split
 ·simp
 ·have:=ih (n / 10) (by omega);rw [List.length_append];simp only [List.length_cons,List.length_nil];omega
theorem app_str (a b:List UInt8):((⟨a.toArray⟩:ByteArray)++(⟨b.toArray⟩:ByteArray))=⟨(a++b).toArray⟩:=by
 show ByteArray.append _ _=_
 simp [ByteArray.append]
structure NmF (w:World) (n q m c:Nat) (s t:ByteArray) (L:Nat->Prop) (v2 v10 v11 v12 v13 v14 v15 v16 v17 v18 v19:Value) (w':World):Prop where
 bel:zB w w'
 f0:L 0->v10=iL (n:Int)
 f1:L 1->v11=iL (q:Int)
 f2:L 2->v12=.string s
 f3:L 3->v13=iL (n:Int)
 f4:L 4->v14=iL (m:Int)
 f5:L 5->v15=iL (c:Int)
 f6:L 6->v16=.int .u8 (c:Int)
 f7:L 7->∃ bk,v17=.slice (sA bk 0) 1 1∧RowB w' bk 5 [.int .u8 (c:Int)]
 f8:L 8->v18=.string t
 f9:L 9->v19=.string (s++t)
 f10:L 10->v2=v19
theorem num (n:Nat):n<1000000000000000000->∀ w:World,
  Calls prog 58 #[iL (n:Int)] w λ e w'=>e=.returned (.string ⟨(Lib.decDigits n).toArray⟩)∧zB w w':=by
 induction n using Nat.strongRecOn with
 | _ n IH =>
 intro hn w;by_cases h:n<10
 ·have T:decide ((n:Int)<10)=true:=decide_eq_true (by omega);rw [Lib.decDigits_one h];obtain⟨c,hc⟩:=eX (48+n);rw [hc];have X:c<256:=by omega
  have e0:(48:Int)+(n:Int)=(c:Int):=by omega
  obtain⟨t,E⟩:∃ t:ByteArray,t=⟨#[UInt8.ofNat c]⟩:=⟨_,rfl⟩;have qc:=conv1 (w.alloc (.cells #[.int .u8 (c:Int)] 5)) w.heap.size c t E X (RowB.new _ _ _);rw [show (⟨[UInt8.ofNat c].toArray⟩:ByteArray)=t from E.symm];clear hc E;go_enter func58,ntmps58;go_wp2_with fail;go_ret;exact⟨rfl,by go_grown⟩
 ·have T:decide ((n:Int)<10)=false:=decide_eq_false (by omega);have hd:Lib.decDigits n=Lib.decDigits (n / 10)++[UInt8.ofNat (48+n % 10)]:=by rw [Lib.decDigits,dif_neg h]
  rw [hd,<-app_str];clear hd;have hm:n % 10<10:=Nat.mod_lt _ (by decide);replace IH:=IH (n / 10) (by omega) (by omega);obtain⟨s,V⟩:∃ s:ByteArray,s=⟨(Lib.decDigits (n / 10)).toArray⟩:=⟨_,rfl⟩;obtain⟨t,E⟩:∃ t:ByteArray,t=⟨#[UInt8.ofNat (48+n % 10)]⟩:=⟨_,rfl⟩;rw [<-V] at IH ⊢;rw [show (⟨[UInt8.ofNat (48+n % 10)].toArray⟩:ByteArray)=t from E.symm];have HC:=kD (λ W b hR=>conv1 W b (48+n % 10) t E (by omega) hR);have aa:Hid (¬ 9223372036854775807<s.size+t.size):=by
   show ¬ _
   have T:s.size=(Lib.decDigits (n / 10)).length:=by rw [V];simp [ByteArray.size]
   have G:t.size=1:=by rw [E];rfl
   have:=dd_len (n / 10);omega
  have EQ:Hid (IntKind.i64.wrap ((n:Int) / 10)=((n / 10:Nat):Int)):=by show _=_;rw [IntWalk.i64_in _ (by omega)];omega
  have EM:Hid (((n:Int)).tmod 10=((n % 10:Nat):Int)):=tmod_nat n 10;have EC:Hid (IntKind.i64.wrap (48+((n % 10:Nat):Int))=((48+n % 10:Nat):Int)):=by show _=_;rw [IntWalk.i64_in _ (by omega)];omega
  have EU:Hid (IntKind.u8.wrap ((48+n % 10:Nat):Int)=((48+n % 10:Nat):Int)):=u8_in _ (by omega)
  generalize 48+n % 10=c at *
  generalize n % 10=m at *
  generalize n / 10=q at *
  clear V E hm;go_enter func58,ntmps58;go_wp2_with fail;refine region_inv (λ a0 L a w'=>∃ z v r p o l k j i g f:Value,a=(((((((((((a0.put (some 2) z).put (some 10) v).put (some 11) r).put (some 12) p).put (some 13) o).put (some 14) l).put (some 15) k).put (some 16) j).put (some 17) i).put (some 18) g).put (some 19) f)∧NmF w n q m c s t L z v r p o l k j i g f w') (by kernel_rfl) (by kernel_rfl) ?h0 ?hst ?fin
  case h0 =>
   exact⟨_,_,_,_,_,_,_,_,_,_,_,by simp only [Act.put,sX];exact rfl,⟨(Below.refl _ _).drew,λ h=>(h:False).elim,λ h=>(h:False).elim,λ h=>(h:False).elim,λ h=>(h:False).elim,λ h=>(h:False).elim,λ h=>(h:False).elim,λ h=>(h:False).elim,λ h=>(h:False).elim,λ h=>(h:False).elim,λ h=>(h:False).elim,λ h=>(h:False).elim⟩⟩
  case hst =>
   refine StepsFrom.cons rfl (λ L a w' C x d y K B=>?_) ?_
   ·obtain⟨z,v,r,p,o,l,k,j,i,g,f,A,F⟩:=C;subst A;simp only [Act.put,sX];go_simp;exact B.out _ _ ⟨z,_,r,p,o,l,k,j,i,g,f,by simp only [Act.put,sX],⟨F.bel,λ _=>rfl,λ h=>F.f1 (rL h),λ h=>F.f2 (rL h),λ h=>F.f3 (rL h),λ h=>F.f4 (rL h),λ h=>F.f5 (rL h),λ h=>F.f6 (rL h),λ h=>F.f7 (rL h),λ h=>F.f8 (rL h),λ h=>F.f9 (rL h),λ h=>F.f10 (rL h)⟩⟩
   refine StepsFrom.cons rfl (λ L a w' C x d y K B=>?_) ?_
   ·obtain⟨z,v,r,p,o,l,k,j,i,g,f,A,F⟩:=C;have R:=F.f0 (bK d 0);have Z:=EQ.out;subst A;simp only [Act.put,sX,R];go_simp;exact B.out _ _ ⟨z,v,_,p,o,l,k,j,i,g,f,by simp only [Act.put,sX,R],⟨F.bel,λ h=>F.f0 (rL h),λ _=>rfl,λ h=>F.f2 (rL h),λ h=>F.f3 (rL h),λ h=>F.f4 (rL h),λ h=>F.f5 (rL h),λ h=>F.f6 (rL h),λ h=>F.f7 (rL h),λ h=>F.f8 (rL h),λ h=>F.f9 (rL h),λ h=>F.f10 (rL h)⟩⟩
   refine StepsFrom.cons rfl (λ L a w' C x d y K B=>?_) ?_
   ·obtain⟨z,v,r,p,o,l,k,j,i,g,f,A,F⟩:=C;have Q:=F.f1 (bK d 1);subst A;simp only [Act.put,sX,Q];go_simp;refine(IH w').mono ?_;rintro e w2 ⟨rfl,S⟩;exact B.out _ _ ⟨z,v,r,_,o,l,k,j,i,g,f,by simp only [Act.put,sX,Q],⟨F.bel.tR S,λ h=>F.f0 (rL h),λ h=>F.f1 (rL h),λ _=>rfl,λ h=>F.f3 (rL h),λ h=>F.f4 (rL h),λ h=>F.f5 (rL h),λ h=>F.f6 (rL h),λ h=>by obtain⟨bk,T,G⟩:=F.f7 (rL h);exact⟨bk,T,G.below S G.lt⟩,λ h=>F.f8 (rL h),λ h=>F.f9 (rL h),λ h=>F.f10 (rL h)⟩⟩
   refine StepsFrom.cons rfl (λ L a w' C x d y K B=>?_) ?_
   ·obtain⟨z,v,r,p,o,l,k,j,i,g,f,A,F⟩:=C;subst A;simp only [Act.put,sX];go_simp;exact B.out _ _ ⟨z,v,r,p,_,l,k,j,i,g,f,by simp only [Act.put,sX],⟨F.bel,λ h=>F.f0 (rL h),λ h=>F.f1 (rL h),λ h=>F.f2 (rL h),λ _=>rfl,λ h=>F.f4 (rL h),λ h=>F.f5 (rL h),λ h=>F.f6 (rL h),λ h=>F.f7 (rL h),λ h=>F.f8 (rL h),λ h=>F.f9 (rL h),λ h=>F.f10 (rL h)⟩⟩
   refine StepsFrom.cons rfl (λ L a w' C x d y K B=>?_) ?_
   ·obtain⟨z,v,r,p,o,l,k,j,i,g,f,A,F⟩:=C;have O:=F.f3 (bK d 3);have Z:=EM.out;subst A;simp only [Act.put,sX,O];go_simp;exact B.out _ _ ⟨z,v,r,p,o,_,k,j,i,g,f,by simp only [Act.put,sX,O],⟨F.bel,λ h=>F.f0 (rL h),λ h=>F.f1 (rL h),λ h=>F.f2 (rL h),λ h=>F.f3 (rL h),λ _=>rfl,λ h=>F.f5 (rL h),λ h=>F.f6 (rL h),λ h=>F.f7 (rL h),λ h=>F.f8 (rL h),λ h=>F.f9 (rL h),λ h=>F.f10 (rL h)⟩⟩
   refine StepsFrom.cons rfl (λ L a w' C x d y K B=>?_) ?_
   ·obtain⟨z,v,r,p,o,l,k,j,i,g,f,A,F⟩:=C;have N:=F.f4 (bK d 4);have Z:=EC.out;subst A;simp only [Act.put,sX,N];go_simp;exact B.out _ _ ⟨z,v,r,p,o,l,_,j,i,g,f,by simp only [Act.put,sX,N],⟨F.bel,λ h=>F.f0 (rL h),λ h=>F.f1 (rL h),λ h=>F.f2 (rL h),λ h=>F.f3 (rL h),λ h=>F.f4 (rL h),λ _=>rfl,λ h=>F.f6 (rL h),λ h=>F.f7 (rL h),λ h=>F.f8 (rL h),λ h=>F.f9 (rL h),λ h=>F.f10 (rL h)⟩⟩
   refine StepsFrom.cons rfl (λ L a w' C x d y K B=>?_) ?_
   ·obtain⟨z,v,r,p,o,l,k,j,i,g,f,A,F⟩:=C;have M:=F.f5 (bK d 5);have Z:=EU.out;subst A;simp only [Act.put,sX,M];go_simp;exact B.out _ _ ⟨z,v,r,p,o,l,k,_,i,g,f,by simp only [Act.put,sX,M],⟨F.bel,λ h=>F.f0 (rL h),λ h=>F.f1 (rL h),λ h=>F.f2 (rL h),λ h=>F.f3 (rL h),λ h=>F.f4 (rL h),λ h=>F.f5 (rL h),λ _=>rfl,λ h=>F.f7 (rL h),λ h=>F.f8 (rL h),λ h=>F.f9 (rL h),λ h=>F.f10 (rL h)⟩⟩
   refine StepsFrom.cons rfl (λ L a w' C x d y K B=>?_) ?_
   ·obtain⟨z,v,r,p,o,l,k,j,i,g,f,A,F⟩:=C;have J:=F.f6 (bK d 6);subst A;simp only [Act.put,sX,J];go_simp;exact B.out _ _ ⟨z,v,r,p,o,l,k,j,.slice (sA w'.heap.size 0) 1 1,g,f,by simp only [Act.put,sX,J],⟨F.bel.alloc F.bel.size _,λ h=>F.f0 (rL h),λ h=>F.f1 (rL h),λ h=>F.f2 (rL h),λ h=>F.f3 (rL h),λ h=>F.f4 (rL h),λ h=>F.f5 (rL h),λ h=>F.f6 (rL h),λ _=>⟨_,rfl,RowB.new _ _ _⟩,λ h=>absurd (y 8 7 (by kernel_rfl) (rL h)) x,λ h=>F.f9 (rL h),λ h=>F.f10 (rL h)⟩⟩
   refine StepsFrom.cons rfl (λ L a w' C x d y K B=>?_) ?_
   ·obtain⟨z,v,r,p,o,l,k,j,i,g,f,A,F⟩:=C;obtain⟨bk,I,G⟩:=F.f7 (bK d 7);have qc:=HC.out w' bk G;subst A;simp only [Act.put,sX,I];go_simp;exact B.out _ _ ⟨z,v,r,p,o,l,k,j,i,_,f,by simp only [Act.put,sX,I],⟨F.bel,λ h=>F.f0 (rL h),λ h=>F.f1 (rL h),λ h=>F.f2 (rL h),λ h=>F.f3 (rL h),λ h=>F.f4 (rL h),λ h=>F.f5 (rL h),λ h=>F.f6 (rL h),λ h=>F.f7 (rL h),λ _=>rfl,λ h=>F.f9 (rL h),λ h=>F.f10 (rL h)⟩⟩
   refine StepsFrom.cons rfl (λ L a w' C x d y K B=>?_) ?_
   ·obtain⟨z,v,r,p,o,l,k,j,i,g,f,A,F⟩:=C;have P:=F.f2 (bK d 2);have H:=F.f8 (bK d 8);have ab:=aa.out;subst A;simp only [Act.put,sX,P,H];go_simp;exact B.out _ _ ⟨z,v,r,p,o,l,k,j,i,g,_,by simp only [Act.put,sX,P,H],⟨F.bel,λ h=>F.f0 (rL h),λ h=>F.f1 (rL h),λ h=>F.f2 (rL h),λ h=>F.f3 (rL h),λ h=>F.f4 (rL h),λ h=>F.f5 (rL h),λ h=>F.f6 (rL h),λ h=>F.f7 (rL h),λ h=>F.f8 (rL h),λ _=>rfl,λ h=>absurd (y 10 9 (by kernel_rfl) (rL h)) x⟩⟩
   refine StepsFrom.cons rfl (λ L a w' C x d y K B=>?_) ?_
   ·obtain⟨z,v,r,p,o,l,k,j,i,g,f,A,F⟩:=C;have D:=F.f9 (bK d 9);subst A;simp only [Act.put,sX,D];go_simp;exact B.out _ _ ⟨.string (s++t),v,r,p,o,l,k,j,i,g,f,by simp only [Act.put,sX,D],⟨F.bel,λ h=>F.f0 (rL h),λ h=>F.f1 (rL h),λ h=>F.f2 (rL h),λ h=>F.f3 (rL h),λ h=>F.f4 (rL h),λ h=>F.f5 (rL h),λ h=>F.f6 (rL h),λ h=>F.f7 (rL h),λ h=>F.f8 (rL h),λ h=>F.f9 (rL h),λ _=>D.symm⟩⟩
   exact StepsFrom.nil (by decide)
  case fin =>
   rintro L a' w9 ⟨z,v,r,p,o,l,k,j,i,g,f,rfl,F⟩ Y;have e2:=F.f10 (Y 10 (by decide));have D:=F.f9 (Y 9 (by decide));have S:=F.bel;clear F Y;subst e2 D;simp only [Act.put,sX];go_wp2_with fail;go_ret;exact⟨rfl,S⟩
end TsN
namespace TxP
open Go
abbrev By:=List UInt8
def dg (d:Nat):UInt8:=UInt8.ofNat (48+d)
theorem dg_nat {d:Nat} (h:d<10):(dg d).toNat=48+d:=by unfold dg;rw [UInt8.toNat_ofNat_of_lt' (by show 48+d<256;omega)]
theorem dg_ne {d:Nat} (h:d<10) {c:UInt8} (hc:c.toNat<48∨57<c.toNat):dg d≠c:=by
 intro e;have a:=dg_nat h;rw [e] at a;omega
theorem ito_cases {n:Int} (h0:0<=n) (h1:n<100):(n<10∧Lib.itoa n=[dg n.toNat])∨(10<=n∧Lib.itoa n=[dg (n.toNat / 10),dg (n.toNat % 10)]):=by
 have e:Lib.itoa n=Lib.decDigits n.toNat:=by unfold Lib.itoa;rw [if_neg (by omega)]
 rw [e];by_cases h:n<10
 ·exact .inl ⟨h,Lib.decDigits_one (by omega)⟩
 ·exact .inr ⟨by omega,Lib.decDigits_two (by omega) (by omega)⟩
theorem ito_len {n:Int} (h0:0<=n) (h1:n<100):1<=(Lib.itoa n).length∧(Lib.itoa n).length<=2:=by
 rcases ito_cases h0 h1 with ⟨_,e⟩ | ⟨_,e⟩ <;> rw [e] <;> simp
theorem ito_one {n:Int} (h0:0<=n) (h1:n<10):Lib.itoa n=[dg n.toNat]:=by
 rcases ito_cases h0 (by omega) with ⟨_,e⟩ | ⟨h,e⟩
 ·exact e
 ·omega
theorem ito_ne {n:Int} (h0:0<=n) (h1:n<100) {c:UInt8} (hc:c.toNat<48∨57<c.toNat):∀ x ∈ Lib.itoa n,x≠c:=by
 intro x a;rcases ito_cases h0 h1 with ⟨_,e⟩ | ⟨_,e⟩ <;> rw [e] at a <;> simp at a
 ·subst a;exact dg_ne (by omega) hc
 ·rcases a with rfl | rfl <;> exact dg_ne (by omega) hc
def rdDec (l:By):Int × Bool :=
 if Lib.trimPrefix l [45]=[]∨19<(Lib.trimPrefix l [45]).length then (0,false)
 else match Lib.parseIntB 64 l with
  | .ok v=>if Lib.itoa v=l then (v,true) else (0,false)
  | _=>(0,false)
theorem pu_dg {M acc d:Nat} {l:By} (hd:d<10) (ha:acc<100000) (hM:10000000<=M):Lib.parseUintM M acc (dg d :: l)=Lib.parseUintM M (acc*10+d) l:=by
 have a:=dg_nat hd;rw [Lib.parseUintM,a,if_pos (by omega),if_neg (by omega),if_neg (by omega)]
 congr 1
 omega
theorem pi_of {c:Nat} {l:By} {u:Nat} (hc:c<10) (h:Lib.parseUintM 18446744073709551615 0 (dg c :: l)=.ok u) (hu:u<100000):Lib.parseIntB 64 (dg c :: l)=.ok (u:Int):=by
 have a:=dg_nat hc;unfold Lib.parseIntB;simp only [a];rw [if_neg (by omega)];unfold Lib.parseUintB;rw [if_neg (by simp)];simp only [show 2 ^ 64 - 1=18446744073709551615 from by decide,h];rw [if_neg (by omega),if_neg (by omega),if_neg (by omega)]
theorem pi1 {a:Nat} (ha:a<10):Lib.parseIntB 64 [dg a]=.ok (a:Int):=by
 refine pi_of ha ?_ (by omega);rw [pu_dg ha (by omega) (by omega),Lib.parseUintM];congr 1;omega
theorem pi2 {a b:Nat} (ha:a<10) (hb:b<10):Lib.parseIntB 64 [dg a,dg b]=.ok ((a*10+b:Nat):Int):=by
 refine pi_of ha ?_ (by omega);rw [pu_dg ha (by omega) (by omega),pu_dg hb (by omega) (by omega),Lib.parseUintM];congr 1;omega
theorem trim_dg {c:Nat} {l:By} (hc:c<10):Lib.trimPrefix (dg c :: l) [45]=dg c :: l:=by
 have a:dg c≠45:=dg_ne hc (by decide);unfold Lib.trimPrefix Lib.hasPrefix;rw [if_neg];simp [List.isPrefixOf];exact λ h=>a h.symm
theorem rd_ito {n:Int} (h0:0<=n) (h1:n<100):rdDec (Lib.itoa n)=(n,true):=by
 have a:∀ l:By,Lib.trimPrefix l [45]=l->1<=l.length->l.length<=2->Lib.parseIntB 64 l=.ok n->Lib.itoa n=l->rdDec l=(n,true):=by
  intro l g b i f d;unfold rdDec;have c:¬ (l=[]∨19<l.length):=by
   rintro(h | h)
   ·rw [h] at b;simp at b
   ·omega
  rw [g,if_neg c,f];simp only;rw [if_pos d]
 rcases ito_cases h0 h1 with ⟨hl,e⟩ | ⟨hl,e⟩
 ·refine a _ (by rw [e];exact trim_dg (by omega)) (by rw [e];simp) (by rw [e];simp) ?_ rfl;rw [e,pi1 (by omega)];congr 1;omega
 ·refine a _ (by rw [e];exact trim_dg (by omega)) (by rw [e];simp) (by rw [e];simp) ?_ rfl;rw [e,pi2 (by omega) (by omega)];congr 1;omega
theorem rd_back {l:By} {n:Int} (h:rdDec l=(n,true)):Lib.itoa n=l:=by
 unfold rdDec at h;split at h
 ·simp at h
 ·split at h
  ·split at h
   ·rename_i h1;simp only [Prod.mk.injEq,and_true] at h;rw [<-h];exact h1
   ·simp at h
  ·simp at h
theorem index_at:∀(a b:By) (c:UInt8),(∀ x ∈ a,x≠c)->Lib.index (a++c :: b) [c]=(a.length:Int):=by
 intro a
 induction a with
 | nil=>intro b c _;simp [Lib.index,List.isPrefixOf]
 | cons x a ih =>
  intro b c h;have f:=h x (List.mem_cons_self ..);have:=ih b c (λ y d=>h y (List.mem_cons_of_mem _ d));rw [List.cons_append,Lib.index,this];have g:([c]:By).isPrefixOf (x :: (a++c :: b))=false:=by
   simp [List.isPrefixOf];exact λ e=>f e.symm
  rw [g];simp only [Bool.false_eq_true,if_false];rw [if_neg (by simp;try omega)];simp
theorem index_no:∀(a:By) (c:UInt8),(∀ x ∈ a,x≠c)->Lib.index a [c]=-1:=by
 intro a
 induction a with
 | nil=>intro c _;simp [Lib.index]
 | cons x a ih =>
  intro c h;have d:=h x (List.mem_cons_self ..);have:=ih c (λ y b=>h y (List.mem_cons_of_mem _ b));rw [Lib.index,this];have f:([c]:By).isPrefixOf (x :: a)=false:=by
   simp [List.isPrefixOf];exact λ e=>d e.symm
  rw [f];simp
theorem cut_at (a b:By) (c:UInt8) (h:∀ x ∈ a,x≠c):Lib.cut (a++c :: b) [c]=(a,b,true):=by
 have d:=index_at a b c h;unfold Lib.cut;rw [d,if_pos (by omega)];simp
theorem cut_no (a:By) (c:UInt8) (h:∀ x ∈ a,x≠c):Lib.cut a [c]=(a,[],false):=by
 unfold Lib.cut;rw [index_no a c h,if_neg (by omega)]
theorem cut_len (l sep:By):(Lib.cut l sep).1.length<=l.length∧(Lib.cut l sep).2.1.length<=l.length:=by
 unfold Lib.cut;split
 ·exact⟨by rw [List.length_take];omega,by rw [List.length_drop];omega⟩
 ·exact⟨Nat.le_refl _,by simp⟩
theorem cut_rest (l sep:By) (hs:0<sep.length) (h:(Lib.cut l sep).2.2=true):(Lib.cut l sep).2.1.length<l.length:=by
 unfold Lib.cut at h ⊢;split
 ·rename_i h1
  have:=Lib.index_room l sep h1;simp only [List.length_drop];omega
 ·rename_i h1;rw [if_neg h1] at h;simp at h
theorem cut_join {l sep a b:By} (h:Lib.cut l sep=(a,b,true)):l=a++sep++b:=by
 unfold Lib.cut at h;split at h
 ·rename_i h1
  rcases Lib.index_spec l sep with ⟨h2,_⟩ | ⟨i,h2,h3,h4,_⟩
  ·omega
  ·rw [h2] at h;simp only [Prod.mk.injEq,and_true,Int.toNat_natCast] at h;obtain⟨rfl,rfl⟩:=h;have e:sep <+: l.drop i:=by simpa [Lib.occAt] using h4
   obtain⟨t,c⟩:=e;have d:l.drop (i+sep.length)=t:=by rw [<-List.drop_drop,<-c,List.drop_left]
   rw [d,List.append_assoc,c,List.take_append_drop]
 ·simp at h
def spl (c:UInt8):By->List By
 | []=>[[]]
 | x :: l=>if x=c then [] :: spl c l else match spl c l with
  | p :: ps=>(x :: p) :: ps
  | []=>[[x]]
theorem spl_ne (c:UInt8) (l:By):spl c l≠[]:=by
 cases l with
 | nil=>simp [spl]
 | cons x l =>
  unfold spl;split
  ·simp
  ·split <;> simp
theorem spl_at:∀(a b:By) (c:UInt8),(∀ x ∈ a,x≠c)->spl c (a++c :: b)=a :: spl c b:=by
 intro a
 induction a with
 | nil=>intro b c _;simp [spl]
 | cons x a ih =>
  intro b c h;have e:=h x (List.mem_cons_self ..);rw [List.cons_append,spl,if_neg e,ih b c (λ y d=>h y (List.mem_cons_of_mem _ d))]
theorem spl_no:∀(a:By) (c:UInt8),(∀ x ∈ a,x≠c)->spl c a=[a]:=by
 intro a
 induction a with
 | nil=>intro c _;rfl
 | cons x a ih =>
  intro c h;have d:=h x (List.mem_cons_self ..);rw [spl,if_neg d,ih c (λ y b=>h y (List.mem_cons_of_mem _ b))]
theorem spl_len (c:UInt8):∀ l,(spl c l).length<=l.length+1:=by
 intro l
 induction l with
 | nil=>simp [spl]
 | cons x l ih =>
  unfold spl;split
  ·simp;omega
  ·split
   ·rename_i h;rw [h] at ih;simpa using Nat.le_succ_of_le ih
   ·simp
theorem spl_join (c:UInt8):∀ l,Lib.join (spl c l) [c]=l:=by
 intro l
 induction l with
 | nil=>rfl
 | cons x l ih =>
  unfold spl;have a:=spl_ne c l;split
  ·rename_i h
   subst h
   cases hs:spl x l with
   | nil=>exact absurd hs a
   | cons p ps =>
    rw [hs] at ih;rw [Lib.join_cons] at ih ⊢;simp only [Lib.joinTail,List.map_cons,List.flatten_cons,List.nil_append,List.cons_append,List.singleton_append];rw [<-ih];simp [Lib.joinTail]
  ·cases hs:spl c l with
   | nil=>exact absurd hs a
   | cons p ps =>
    rw [hs] at ih;rw [Lib.join_cons] at ih ⊢;rw [List.cons_append,ih]
theorem has_split (c:UInt8):∀ l:By,(∃ x ∈ l,x=c)->∃ a b,l=a++c :: b∧∀ x ∈ a,x≠c:=by
 intro l
 induction l with
 | nil=>intro h;obtain⟨x,d,_⟩:=h;simp at d
 | cons y l ih =>
  intro h;by_cases hy:y=c
  ·exact⟨[],l,by simp [hy],by simp⟩
  ·obtain⟨x,d,e⟩:=h;rcases List.mem_cons.1 d with rfl | d
   ·exact absurd e hy
   ·obtain⟨a,b,i,g⟩:=ih ⟨x,d,e⟩;refine⟨y :: a,b,by simp [i],?_⟩;intro z f;rcases List.mem_cons.1 f with rfl | f
    ·exact hy
    ·exact g z f
theorem spl_cut (c:UInt8) (l:By):spl c l=if (Lib.cut l [c]).2.2=true then (Lib.cut l [c]).1 :: spl c (Lib.cut l [c]).2.1 else [l]:=by
 by_cases h:∃ x ∈ l,x=c
 ·have this:=has_split c l h;obtain⟨a,b,rfl,f⟩:=this;rw [spl_at a b c f,cut_at a b c f];simp
 ·have d:∀ x ∈ l,x≠c:=λ x g e=>h ⟨x,g,e⟩
  rw [spl_no l c d,cut_no l c d];simp
theorem split_spl (c:UInt8):∀(n:Nat) (l:By),l.length<=n->Lib.split l [c]=spl c l:=by
 intro n
 induction n with
 | zero =>
  intro l d;have:l=[]:=List.eq_nil_of_length_eq_zero (by omega);subst this
  rfl
 | succ n ih =>
  intro l d;rw [spl_cut];by_cases hm:Lib.index l [c]=-1
  ·have e:Lib.cut l [c]=(l,[],false):=by unfold Lib.cut;rw [hm,if_neg (by omega)]
   rw [e];simp only [Bool.false_eq_true,if_false];unfold Lib.split;rw [Lib.count_miss hm]
   rfl
  ·have f:=Lib.index_ge l [c];obtain⟨j,a⟩:∃ j:Nat,Lib.index l [c]=j:=⟨(Lib.index l [c]).toNat,by omega⟩;have b:=Lib.index_room l [c] (by omega);have e:Lib.cut l [c]=(l.take j,l.drop (j+1),true):=by unfold Lib.cut;rw [a,if_pos (by omega)];simp
   rw [e];simp only [if_true];have g:=ih (l.drop (j+1)) (by rw [List.length_drop];simp at b;omega);rw [<-g];unfold Lib.split;rw [Lib.count_hit (by simp) a,Nat.add_comm,Lib.splitK,if_neg (by rw [a];simp),a];simp
open PlP
def plainB (v:Vr) (s:Stp):Bool :=
 decide (0<=s.1∧s.1<=v.p) && decide (1<=s.2.2.1∧s.2.2.1<=v.s) &&
 (if s.2.1=-1 then !s.2.2.2 && decide (s.1<v.p∧s.1<s.2.2.1) else decide (0<=s.2.1∧s.2.1=s.1 - s.2.2.1))
def fromT (v:Vr) (f:Int):By:=if f<v.p then Lib.itoa (f+1) else [98,97,114]
def stpT (v:Vr) (s:Stp):By :=
 fromT v s.1++[47]++(if 0<=s.2.1 then Lib.itoa (s.2.1+1)++(if s.2.2.2 then [42] else []) else [111,102,102]++(if s.2.2.1=s.1+1 then [] else [40]++Lib.itoa s.2.2.1++[41]))
theorem plain_parts {v:Vr} {s:Stp} (h:plainB v s=true):(0<=s.1∧s.1<=v.p)∧(1<=s.2.2.1∧s.2.2.1<=v.s)∧((s.2.1=-1∧s.2.2.2=false∧s.1<v.p∧s.1<s.2.2.1)∨(0<=s.2.1∧s.2.1=s.1 - s.2.2.1)):=by
 unfold plainB at h;simp only [Bool.and_eq_true,decide_eq_true_eq] at h;obtain⟨⟨c,b⟩,a⟩:=h;refine⟨c,b,?_⟩;split at a
 ·rename_i h4
  simp only [Bool.and_eq_true,decide_eq_true_eq,Bool.not_eq_true'] at a;exact .inl ⟨h4,a.1,a.2⟩
 ·exact .inr (by simpa using a)
theorem from_ne {v:Vr} (hv:okV v=true) {f:Int} (h0:0<=f) {c:UInt8} (hc:c.toNat<48∨(57<c.toNat∧c.toNat<97)):∀ x ∈ fromT v f,x≠c:=by
 intro x a;have b:=(okV_iff.1 hv).1;unfold fromT at a;split at a
 ·exact ito_ne (by omega) (by omega) (by omega) x a
 ·simp at a;rintro rfl;rcases a with rfl | rfl | rfl <;> revert hc <;> decide
theorem from_back {v:Vr} (hv:okV v=true) {f:Int} (h0:0<=f) (h1:f<=v.p):if f<v.p then fromT v f=Lib.itoa (f+1)∧fromT v f≠[98,97,114] else f=v.p∧fromT v f=[98,97,114]:=by
 have a:=(okV_iff.1 hv).1;unfold fromT;split
 ·refine⟨rfl,λ h=>?_⟩;exact ito_ne (n:=f+1) (by omega) (by omega) (c:=98) (by decide) 98 (by rw [h];simp) rfl
 ·exact⟨by omega,rfl⟩
def inner (r:By):By:=Lib.trimSuffix (Lib.trimPrefix r [40]) [41]
def gI (v:Vr) (t:By):Option Stp :=
 if (Lib.cut t [47]).2.2=false then none
 else if ¬ (Lib.cut t [47]).1=[98,97,114]∧(rdDec (Lib.cut t [47]).1).2=false then none
 else
  let f:=if (Lib.cut t [47]).1=[98,97,114] then v.p else IntKind.i64.wrap ((rdDec (Lib.cut t [47]).1).1 - 1)
  let r:=(Lib.cut t [47]).2.1
  if Lib.hasPrefix r [111,102,102]=true then
   (if r.drop 3=[] then some (f,-1,IntKind.i64.wrap (f+1),false)
    else if (rdDec (inner (r.drop 3))).2=true then some (f,-1,(rdDec (inner (r.drop 3))).1,false) else none)
  else if (rdDec (Lib.trimSuffix r [42])).2=true then
   some (f,IntKind.i64.wrap ((rdDec (Lib.trimSuffix r [42])).1 - 1),IntKind.i64.wrap (f - IntKind.i64.wrap ((rdDec (Lib.trimSuffix r [42])).1 - 1)),Lib.hasSuffix r [42])
  else none
def rdI (v:Vr) (t:By):Option Stp:=match gI v t with
 | some s=>if plainB v s=true∧stpT v s=t then some s else none
 | none=>none
theorem suf1 (a:By) (c:UInt8):Lib.hasSuffix (a++[c]) [c]=true:=by
 unfold Lib.hasSuffix;rw [List.isSuffixOf_iff_suffix];exact⟨a,rfl⟩
theorem suf_no {a:By} {c:UInt8} (h:∀ x ∈ a,x≠c):Lib.hasSuffix a [c]=false:=by
 cases h1:Lib.hasSuffix a [c] with
 | false=>rfl
 | true =>
  unfold Lib.hasSuffix at h1;rw [List.isSuffixOf_iff_suffix] at h1;obtain⟨t,b⟩:=h1;exact absurd rfl (h c (by rw [<-b];simp))
theorem tsuf1 (a:By) (c:UInt8):Lib.trimSuffix (a++[c]) [c]=a:=by
 unfold Lib.trimSuffix;rw [suf1,if_pos rfl];simp
theorem tsuf_no {a:By} {c:UInt8} (h:∀ x ∈ a,x≠c):Lib.trimSuffix a [c]=a:=by
 unfold Lib.trimSuffix;rw [suf_no h];simp
theorem pre_no {a b:By} {c:UInt8} (h:a.getD 0 0≠c) (ha:a≠[]) (p:By):Lib.hasPrefix (a++b) (c :: p)=false:=by
 cases a with
 | nil=>exact absurd rfl ha
 | cons x a =>
  unfold Lib.hasPrefix;simp only [List.cons_append,List.isPrefixOf];have:(c == x)=false:=by
   rw [beq_eq_false_iff_ne];intro e;exact h (by rw [<-e];rfl)
  rw [this];rfl
theorem ito_head {n:Int} (h0:0<=n) (h1:n<100) {c:UInt8} (hc:c.toNat<48∨57<c.toNat):(Lib.itoa n).getD 0 0≠c∧Lib.itoa n≠[]:=by
 have b:=ito_len h0 h1;have a:Lib.itoa n≠[]:=by intro e;rw [e] at b;simp at b
 refine⟨?_,a⟩;refine ito_ne h0 h1 hc _ ?_;rw [List.getD_eq_getElem?_getD,List.getElem?_eq_getElem (by omega)];exact List.getElem_mem _
theorem gI_text {v:Vr} (hv:okV v=true) {s:Stp} (h:plainB v s=true):gI v (stpT v s)=some s:=by
 obtain⟨f,t,d,b⟩:=s;obtain⟨l,A,y⟩:=plain_parts h;simp only at l A y;have B:=okV_iff.1 hv;have e:=from_back hv l.1 l.2;have hcut:∀ r:By,Lib.cut (fromT v f++[47]++r) [47]=(fromT v f,r,true):=λ r=>by
  rw [List.append_assoc];exact cut_at _ _ _ (from_ne hv l.1 (by decide))
 obtain⟨R,k⟩:∃ R,(if 0<=t then Lib.itoa (t+1)++(if b then [42] else []) else [111,102,102]++(if d=f+1 then [] else [40]++Lib.itoa d++[41]))=R:=⟨_,rfl⟩;have z:stpT v (f,t,d,b)=fromT v f++[47]++R:=by rw [<-k];rfl
 rw [z];unfold gI;rw [hcut R];have w:(if fromT v f=[98,97,114] then v.p else IntKind.i64.wrap ((rdDec (fromT v f)).1 - 1))=f∧¬ (¬ fromT v f=[98,97,114]∧(rdDec (fromT v f)).2=false):=by
  split at e
  ·obtain⟨q,m⟩:=e;rw [if_neg m,q,rd_ito (by omega) (by omega)];refine⟨?_,by simp⟩;simp only;rw [IntWalk.i64_in _ (by omega)];omega
  ·obtain⟨q,m⟩:=e;rw [if_pos m];exact⟨q.symm,λ h=>h.1 m⟩
 rw [if_neg (by simp),if_neg w.2];simp only [w.1];rcases y with ⟨rfl,rfl,h4,h5⟩ | ⟨h4,h5⟩
 ·rw [if_neg (by omega)] at k;subst k;have j:Lib.hasPrefix ([111,102,102]++(if d=f+1 then [] else [40]++Lib.itoa d++[41])) [111,102,102]=true:=by
   unfold Lib.hasPrefix;simp [List.isPrefixOf]
  rw [if_pos j];have g:([111,102,102]++(if d=f+1 then [] else [40]++Lib.itoa d++[41]):By).drop 3=(if d=f+1 then [] else [40]++Lib.itoa d++[41]):=rfl;rw [g];by_cases i:d=f+1
  ·rw [if_pos i,if_pos rfl,IntWalk.i64_in _ (by omega),i]
  ·rw [if_neg i,if_neg (by simp)];have o:inner ([40]++Lib.itoa d++[41])=Lib.itoa d:=by
    unfold inner;have:Lib.trimPrefix ([40]++Lib.itoa d++[41]) [40]=Lib.itoa d++[41]:=by
     unfold Lib.trimPrefix Lib.hasPrefix;rw [if_pos (by simp [List.isPrefixOf])]
     rfl
    rw [this,tsuf1]
   rw [o,rd_ito (by omega) (by omega)];simp
 ·rw [if_pos h4] at k;subst k;have i:=ito_head (n:=t+1) (by omega) (by omega) (c:=111) (by decide);rw [pre_no i.1 i.2];simp only [Bool.false_eq_true,if_false];have a:∀ x ∈ Lib.itoa (t+1),x≠42:=ito_ne (by omega) (by omega) (by decide)
  cases b with
  | true =>
   simp only [if_true,tsuf1,suf1,rd_ito (show 0<=t+1 by omega) (by omega)];rw [IntWalk.i64_in _ (by omega),IntWalk.i64_in _ (by omega)]
   congr 3
   ·omega
   ·congr 1;omega
  | false =>
   simp only [Bool.false_eq_true,if_false,List.append_nil,tsuf_no a,suf_no a,rd_ito (show 0<=t+1 by omega) (by omega),if_true];rw [IntWalk.i64_in _ (by omega),IntWalk.i64_in _ (by omega)]
   congr 3
   ·omega
   ·congr 1;omega
theorem rdI_iff {v:Vr} (hv:okV v=true) {t:By} {s:Stp}:rdI v t=some s↔plainB v s=true∧stpT v s=t:=by
 unfold rdI
 constructor
 ·intro h;split at h
  ·split at h
   ·rename_i h1;simp only [Option.some.injEq] at h;subst h;exact h1
   ·cases h
  ·cases h
 ·rintro⟨h1,rfl⟩;rw [gI_text hv h1];simp [h1]
theorem step_ne {v:Vr} (hv:okV v=true) {s:Stp} (h:plainB v s=true) {c:UInt8} (hc:c.toNat<40):∀ x ∈ stpT v s,x≠c:=by
 obtain⟨f,t,d,e⟩:=s;obtain⟨b,i,g⟩:=plain_parts h;simp only at b i g;have j:=okV_iff.1 hv;intro x a;unfold stpT at a;simp only [List.mem_append,List.mem_singleton] at a;rcases a with (a | rfl) | a
 ·exact from_ne hv b.1 (by omega) x a
 ·rintro rfl;revert hc;decide
 ·split at a
  ·rw [List.mem_append] at a;rcases a with a | a
   ·exact ito_ne (by omega) (by omega) (by omega) x a
   ·split at a <;> simp at a
    subst a;rintro rfl;revert hc;decide
  ·rw [List.mem_append] at a;rcases a with a | a
   ·simp at a;rcases a with rfl | rfl <;> (rintro rfl;revert hc;decide)
   ·split at a
    ·simp at a
    ·simp only [List.mem_append,List.mem_singleton] at a;rcases a with (rfl | a) | rfl
     ·rintro rfl;revert hc;decide
     ·exact ito_ne (by omega) (by omega) (by omega) x a
     ·rintro rfl;revert hc;decide
theorem step_len {v:Vr} (hv:okV v=true) {s:Stp} (h:plainB v s=true):3<=(stpT v s).length∧(stpT v s).length<=11:=by
 obtain⟨f,t,d,a⟩:=s;obtain⟨e,c,b⟩:=plain_parts h;simp only at e c b;have i:=okV_iff.1 hv;have j:1<=(fromT v f).length∧(fromT v f).length<=3:=by
  unfold fromT;split
  ·have:=ito_len (n:=f+1) (by omega) (by omega);omega
  ·simp
 have k:=ito_len (n:=d) (by omega) (by omega);unfold stpT;simp only [List.length_append,List.length_cons,List.length_nil];split
 ·have g:=ito_len (n:=t+1) (by omega) (by omega);simp only [List.length_append];split <;> simp <;> omega
 ·split <;> simp <;> omega
def allPl (v:Vr) (ss:List Stp):Bool:=ss.all (plainB v)
def stpsT (v:Vr) (ss:List Stp):By:=if 4<ss.length then [] else if ss.length=0 then [45] else if allPl v ss=true then Lib.join (ss.map (stpT v)) [32] else []
def mapO {α β:Type} (f:α->Option β):List α->Option (List β)
 | []=>some []
 | x :: l=>match f x with
  | none=>none
  | some y=>(mapO f l).map (y :: ·)
theorem mapO_iff {α β:Type} {f:α->Option β}:∀ {l:List α} {r:List β},mapO f l=some r↔l.length=r.length∧∀(i:Nat) x y,l[i]?=some x->r[i]?=some y->f x=some y:=by
 intro l
 induction l with
 | nil =>
  intro r;simp only [mapO,Option.some.injEq,List.length_nil]
  constructor
  ·rintro rfl;exact⟨rfl,λ i x y h=>by simp at h⟩
  ·rintro⟨h,_⟩;exact(List.eq_nil_of_length_eq_zero h.symm).symm
 | cons a l ih =>
  intro r;simp only [mapO]
  constructor
  ·intro h;split at h
   ·cases h
   ·rename_i b hb
    cases hm:mapO f l with
    | none=>rw [hm] at h;cases h
    | some q =>
     rw [hm] at h;simp only [Option.map_some,Option.some.injEq] at h;subst h;obtain⟨g,e⟩:=ih.1 hm;refine⟨by simp [g],λ i x y d c=>?_⟩
     cases i with
     | zero=>simp at d c;subst d c;exact hb
     | succ i=>exact e i x y (by simpa using d) (by simpa using c)
  ·rintro⟨g,e⟩
   cases r with
   | nil=>simp at g
   | cons b q =>
    rw [e 0 a b rfl rfl];simp only;have:mapO f l=some q:=ih.2 ⟨by simpa using g,λ i x y d c=>e (i+1) x y (by simpa using d) (by simpa using c)⟩;rw [this];rfl
theorem mapO_snoc {α β:Type} {f:α->Option β}:∀(l:List α) (x:α),mapO f (l++[x])=match mapO f l with
  | none=>none
  | some r=>(f x).map λ y=>r++[y]:=by
 intro l
 induction l with
 | nil=>intro x;simp only [List.nil_append,mapO];cases f x <;> rfl
 | cons a l ih =>
  intro x;simp only [List.cons_append,mapO,ih]
  cases f a with
  | none=>rfl
  | some b =>
   simp only
   cases mapO f l with
   | none=>rfl
   | some r=>cases f x <;> rfl
theorem mapO_none {α β:Type} {f:α->Option β} {x:α} (h:f x=none):∀(l:List α),x ∈ l->mapO f l=none:=by
 intro l
 induction l with
 | nil=>intro b;simp at b
 | cons a l ih =>
  intro b;rcases List.mem_cons.1 b with rfl | b
  ·simp [mapO,h]
  ·simp only [mapO,ih b];cases f a <;> rfl
def rdSs (v:Vr) (t:By):Option (List Stp):=if t=[45] then some [] else if 4<(spl 32 t).length then none else mapO (rdI v) (spl 32 t)
theorem map_spl {f:Stp->By}:∀ {ss:List Stp},ss≠[]->(∀ s ∈ ss,∀ x ∈ f s,x≠(32:UInt8))->spl 32 (Lib.join (ss.map f) [32])=ss.map f:=by
 intro ss
 induction ss with
 | nil=>intro h;exact absurd rfl h
 | cons s ss a =>
  intro _ b;have c:=b s (List.mem_cons_self ..)
  cases ss with
  | nil=>simp only [List.map_cons,List.map_nil,Lib.join_one];exact spl_no _ _ c
  | cons r ss =>
   have a:=a (by simp) (λ x d=>b x (List.mem_cons_of_mem _ d));rw [List.map_cons,Lib.join_cons];have e:f s++Lib.joinTail [32] ((r :: ss).map f)=f s++32 :: Lib.join ((r :: ss).map f) [32]:=by
    rw [List.map_cons,Lib.join_cons];simp [Lib.joinTail]
   rw [e,spl_at _ _ _ c,a]
theorem ss_iff {v:Vr} (hv:okV v=true) {t:By} {ss:List Stp}:rdSs v t=some ss↔ss.length<=4∧allPl v ss=true∧stpsT v ss=t:=by
 unfold rdSs
 constructor
 ·intro h;split at h
  ·rename_i h1
   simp only [Option.some.injEq] at h;subst h;exact⟨by simp,rfl,h1.symm⟩
  ·split at h
   ·cases h
   ·rename_i h1 h2
    obtain⟨z,r⟩:=mapO_iff.1 h;have q:=spl_ne 32 t;have j:ss≠[]:=λ e=>by subst e;exact q (List.eq_nil_of_length_eq_zero z)
    have o:∀ i s,ss[i]?=some s->∃ w,(spl 32 t)[i]?=some w∧plainB v s=true∧stpT v s=w:=λ i s a=>by
     have d:=(List.getElem?_eq_some_iff.1 a).1;have f:(spl 32 t)[i]?=some ((spl 32 t)[i]'(by omega)):=List.getElem?_eq_getElem _;obtain⟨l,k⟩:=(rdI_iff hv).1 (r i _ s f a);exact⟨_,f,l,k⟩
    have n:allPl v ss=true:=by
     unfold allPl;rw [List.all_eq_true];intro s a;obtain⟨i,d⟩:=List.getElem?_of_mem a;obtain⟨_,_,l,_⟩:=o i s d;exact l
    have p:ss.map (stpT v)=spl 32 t:=by
     apply List.ext_getElem?
     intro i;rw [List.getElem?_map]
     cases d:ss[i]? with
     | none =>
      have:=List.getElem?_eq_none_iff.1 d;rw [List.getElem?_eq_none (by omega)];rfl
     | some s =>
      obtain⟨w,f,_,k⟩:=o i s d;rw [f,<-k];rfl
    refine⟨by omega,n,?_⟩;unfold stpsT;rw [if_neg (by omega),if_neg (λ e=>j (List.eq_nil_of_length_eq_zero e)),if_pos n,p,spl_join]
 ·rintro⟨h1,h2,rfl⟩;unfold stpsT;simp only [if_neg (show ¬ 4<ss.length by omega)];by_cases h0:ss.length=0
  ·simp only [if_pos h0,if_true];rw [List.eq_nil_of_length_eq_zero h0]
  ·have c:ss≠[]:=λ e=>h0 (by rw [e];rfl)
   have b:∀ s ∈ ss,plainB v s=true:=λ s a=>List.all_eq_true.1 h2 s a
   simp only [if_neg h0,if_pos h2];rw [map_spl c (λ s a=>step_ne hv (b s a) (by decide))];rw [if_neg]
   ·rw [List.length_map,if_neg (by omega)];refine mapO_iff.2 ⟨by simp,λ i x y g m=>?_⟩;rw [List.getElem?_map,m] at g;simp only [Option.map_some,Option.some.injEq] at g;exact(rdI_iff hv).2 ⟨b y (List.mem_of_getElem? m),g⟩
   ·intro e
    cases ss with
    | nil=>exact c rfl
    | cons s ss =>
     have:=(step_len hv (b s (List.mem_cons_self ..))).1;rw [List.map_cons,Lib.join_cons] at e;have:=congrArg List.length e;simp at this;omega
theorem stpsT_len {v:Vr} (hv:okV v=true) {ss:List Stp}:(stpsT v ss).length<=50:=by
 unfold stpsT;split
 ·simp
 ·split
  ·simp
  ·split
   ·rename_i h4 h0 h1
    have f:∀ s ∈ ss,(stpT v s).length<=11:=λ s j=>(step_len hv (List.all_eq_true.1 h1 s j)).2
    match ss,h4 with
    | [],_=>simp at h0
    | [a],_ =>
     have g:=f a (by simp);simp [Lib.join_one];omega
    | [a,b],_ =>
     have g:=f a (by simp);have i:=f b (by simp);simp [Lib.join_cons,Lib.joinTail];omega
    | [a,b,c],_ =>
     have g:=f a (by simp);have i:=f b (by simp);have k:=f c (by simp);simp [Lib.join_cons,Lib.joinTail];omega
    | [a,b,c,d],_ =>
     have g:=f a (by simp);have i:=f b (by simp);have k:=f c (by simp);have m:=f d (by simp);simp [Lib.join_cons,Lib.joinTail];omega
    | a :: b :: c :: d :: e :: l,h=>simp at h
   ·simp
theorem stpsT_ne {v:Vr} (hv:okV v=true) {ss:List Stp} {c:UInt8} (hc:c.toNat<32):∀ x ∈ stpsT v ss,x≠c:=by
 unfold stpsT;split
 ·simp
 ·split
  ·intro x b;simp at b;subst b;rintro rfl;revert hc;decide
  ·split
   ·rename_i h1
    have d:∀ s ∈ ss,∀ x ∈ stpT v s,x≠c:=λ s h=>step_ne hv (List.all_eq_true.1 h1 s h) (by omega)
    have g:(32:UInt8)≠c:=by rintro rfl;revert hc;decide
    intro x b
    cases ss with
    | nil=>simp [Lib.join_nil] at b
    | cons s ss =>
     rw [List.map_cons,Lib.join_cons,List.mem_append] at b;rcases b with b | b
     ·exact d s (List.mem_cons_self ..) x b
     ·unfold Lib.joinTail at b;rw [List.mem_flatten] at b;obtain⟨k,f,b⟩:=b;rw [List.mem_map] at f;obtain⟨j,e,rfl⟩:=f;rw [List.mem_map] at e;obtain⟨a,i,rfl⟩:=e;rcases List.mem_append.1 b with b | b
      ·simp at b;rw [b];exact g
      ·exact d a (List.mem_cons_of_mem _ i) x b
   ·simp
def rolT (x y:Int):By:=Lib.itoa x++Lib.itoa y
def rdR (v:Vr) (t:By):Option (Int × Int) :=
 if t.length=2∧rollB v (((t.getD 0 0).toNat:Int) - 48) (((t.getD 1 0).toNat:Int) - 48)=true then some ((((t.getD 0 0).toNat:Int) - 48),(((t.getD 1 0).toNat:Int) - 48)) else none
theorem roll_parts {v:Vr} {x y:Int} (h:rollB v x y=true):(1<=x∧x<=v.s)∧1<=y∧y<=x:=by
 unfold rollB at h
 simpa only [Bool.and_eq_true,decide_eq_true_eq] using h
theorem rolT_at {v:Vr} (hv:okV v=true) {x y:Int} (h:rollB v x y=true):rolT x y=[dg x.toNat,dg y.toNat]:=by
 have a:=okV_iff.1 hv;have b:=roll_parts h;unfold rolT;rw [ito_one (by omega) (by omega),ito_one (by omega) (by omega)]
 rfl
theorem rdR_iff {v:Vr} (hv:okV v=true) {t:By} {x y:Int}:rdR v t=some (x,y)↔rollB v x y=true∧rolT x y=t:=by
 have k:=okV_iff.1 hv;unfold rdR
 constructor
 ·intro h;split at h
  ·rename_i h1
   simp only [Option.some.injEq,Prod.mk.injEq] at h;obtain⟨rfl,rfl⟩:=h;refine⟨h1.2,?_⟩;have d:=roll_parts h1.2;rw [rolT_at hv h1.2]
   match t,h1.1 with
   | [a,b],_ =>
    simp only [List.getD_cons_zero,List.getD_cons_succ] at d ⊢;have e:∀ c:UInt8,1<=(c.toNat:Int) - 48->dg (((c.toNat:Int) - 48).toNat)=c:=λ c l=>by
     unfold dg;rw [show 48+((c.toNat:Int) - 48).toNat=c.toNat by omega];exact UInt8.ofNat_toNat
    rw [e a d.1.1,e b d.2.1]
  ·cases h
 ·rintro⟨h1,rfl⟩;have d:=roll_parts h1;rw [rolT_at hv h1];have j:=dg_nat (show x.toNat<10 by omega);have i:=dg_nat (show y.toNat<10 by omega);simp only [List.getD_cons_zero,List.getD_cons_succ,j,i,List.length_cons,List.length_nil];have g:(((48+x.toNat:Nat):Int) - 48)=x:=by omega
  have f:(((48+y.toNat:Nat):Int) - 48)=y:=by omega
  rw [g,f,if_pos ⟨trivial,h1⟩]
def trnT (v:Vr) (x y:Int) (ss:List Stp):By:=if rollB v x y=true∧stpsT v ss≠[] then rolT x y++[58,32]++stpsT v ss else []
def rdTI (v:Vr) (t:By):Option (Int × Int × List Stp) :=
 if 80<t.length then none else if (Lib.cut t [58,32]).2.2=false then none else
  match rdR v (Lib.cut t [58,32]).1,rdSs v (Lib.cut t [58,32]).2.1 with
  | some (x,y),some ss=>some (x,y,ss)
  | _,_=>none
theorem steps_ne_nil {v:Vr} (hv:okV v=true) {ss:List Stp}:stpsT v ss≠[]↔ss.length<=4∧allPl v ss=true:=by
 unfold stpsT
 constructor
 ·intro h;split at h
  ·exact absurd rfl h
  ·split at h
   ·rename_i h1 h2
    rw [List.eq_nil_of_length_eq_zero h2];exact⟨by simp,rfl⟩
   ·split at h
    ·exact⟨by omega,by assumption⟩
    ·exact absurd rfl h
 ·rintro⟨h1,h2⟩;rw [if_neg (by omega)];split
  ·simp
  ·rename_i h0
   try rw [if_pos h2]
   cases ss with
   | nil=>simp at h0
   | cons s ss =>
    have:=(step_len hv (List.all_eq_true.1 h2 s (List.mem_cons_self ..))).1;rw [List.map_cons,Lib.join_cons];intro e;have a:=(List.append_eq_nil_iff.1 e).1;rw [a] at this;simp at this
theorem cut_colon (a b:UInt8) (l:By) (h1:a≠58) (h2:b≠58):Lib.cut ([a,b]++[58,32]++l) [58,32]=([a,b],l,true):=by
 have c:Lib.index (a :: b :: 58 :: 32 :: l) [58,32]=2:=by
  rw [Lib.index,Lib.index,Lib.index];have f:((58:UInt8) == a)=false:=by rw [beq_eq_false_iff_ne];exact λ e=>h1 e.symm
  have d:((58:UInt8) == b)=false:=by rw [beq_eq_false_iff_ne];exact λ e=>h2 e.symm
  simp [List.isPrefixOf,f,d]
 unfold Lib.cut;show (if 0<=Lib.index (a :: b :: 58 :: 32 :: l) [58,32] then _ else _)=_
 rw [if_pos (by rw [c];decide)];simp only [List.cons_append,List.nil_append,c];simp
theorem rdTI_iff {v:Vr} (hv:okV v=true) {t:By} {x y:Int} {ss:List Stp}:rdTI v t=some (x,y,ss)↔trnT v x y ss=t∧t≠[]:=by
 have w:=okV_iff.1 hv
 constructor
 ·intro h;unfold rdTI at h;split at h
  ·cases h
  ·split at h
   ·cases h
   ·rename_i h1 d
    obtain⟨⟨a,b,n⟩,g⟩:=eX (Lib.cut t [58,32]);rw [g] at h d;simp only at h d;have d:n=true:=by simpa using d
    subst d;split at h
    ·rename_i p q r f i
     simp only [Option.some.injEq,Prod.mk.injEq] at h;obtain⟨rfl,rfl,rfl⟩:=h;obtain⟨m,s⟩:=(rdR_iff hv).1 f;obtain⟨l,k,o⟩:=(ss_iff hv).1 i;have j:=cut_join g;unfold trnT;rw [if_pos ⟨m,(steps_ne_nil hv).2 ⟨l,k⟩⟩,s,o,<-j];refine⟨rfl,λ e=>?_⟩;rw [e] at j;have:=congrArg List.length j;simp at this
    ·cases h
 ·rintro⟨rfl,hne⟩;unfold trnT at hne ⊢;split at hne
  ·rename_i h1
   rw [if_pos h1];have m:=roll_parts h1.1;obtain⟨l,k⟩:=(steps_ne_nil hv).1 h1.2;have f:=(rdR_iff hv).2 ⟨h1.1,rfl⟩;have i:=(ss_iff hv).2 ⟨l,k,rfl⟩;have z:=stpsT_len hv (ss:=ss);rw [rolT_at hv h1.1] at f ⊢;have g:=cut_colon (dg x.toNat) (dg y.toNat) (stpsT v ss) (dg_ne (by omega) (by decide)) (dg_ne (by omega) (by decide));unfold rdTI;rw [if_neg (by simp;omega),g];simp only [f,i]
   rfl
  ·exact absurd rfl hne
def opW:By:=[111,112,101,110,105,110,103]
def tuW:By:=[116,117,114,110]
def reW:By:=[114,101,115,105,103,110]
def evnT (v:Vr) (e:Ev):By :=
 if blankP e=false then [] else
 if e.k=1 then (if (1<=e.a∧e.a<=v.s)∧1<=e.b∧e.b<=v.s then opW++[32]++Lib.itoa e.a++[32]++Lib.itoa e.b else [])
 else if e.k=3 then (if 1<=e.r∧e.r<=3 then reW++[32]++Lib.itoa e.r else [])
 else if trnT v e.a e.b e.ss=[] then [] else tuW++[32]++trnT v e.a e.b e.ss
def nulE:Ev:=⟨0,0,0,[],0⟩
def gEI (v:Vr) (t:By):Ev :=
 let w:=(Lib.cut t [32]).1
 let r:=(Lib.cut t [32]).2.1
 if w=opW then
  match mapO (λ x=>if (rdDec x).2=true then some (rdDec x).1 else none) (spl 32 r) with
  | some [a,b]=>⟨1,a,b,[],0⟩
  | _=>nulE
 else if w=tuW then
  match rdTI v r with
  | some (x,y,ss)=>⟨2,x,y,ss,0⟩
  | none=>nulE
 else if w=reW then (if (rdDec r).2=true then ⟨3,0,0,[],(rdDec r).1⟩ else nulE)
 else nulE
def rdE (v:Vr) (t:By):Option Ev:=if evnT v (gEI v t)=t∧t≠[] then some (gEI v t) else none
theorem evnT_nul (v:Vr):evnT v nulE=[]:=by unfold evnT blankP nulE;simp
theorem ev_cases {v:Vr} (hv:okV v=true) {e:Ev} (h:evnT v e≠[]) :
  (e=⟨1,e.a,e.b,[],0⟩∧((1<=e.a∧e.a<=v.s)∧1<=e.b∧e.b<=v.s)∧evnT v e=opW++[32]++Lib.itoa e.a++[32]++Lib.itoa e.b) ∨
  (e=⟨2,e.a,e.b,e.ss,0⟩∧trnT v e.a e.b e.ss≠[]∧evnT v e=tuW++[32]++trnT v e.a e.b e.ss) ∨
  (e=⟨3,0,0,[],e.r⟩∧(1<=e.r∧e.r<=3)∧evnT v e=reW++[32]++Lib.itoa e.r):=by
 obtain⟨k,a,b,c,r⟩:=e;unfold evnT at h ⊢;unfold blankP at h ⊢;simp only at h ⊢;by_cases h1:k=1
 ·subst h1;simp only [if_true] at h ⊢;by_cases h2:c.length=0∧r=0
  ·rw [decide_eq_true h2] at h ⊢;simp only [Bool.true_eq_false,if_false] at h ⊢;split at h
   ·rename_i h3
    rw [if_pos h3];exact .inl ⟨by rw [List.eq_nil_of_length_eq_zero h2.1,h2.2],h3,rfl⟩
   ·exact absurd rfl h
  ·rw [decide_eq_false h2] at h;simp at h
 ·by_cases h2:k=2
  ·subst h2;simp only [h1,if_false,if_true] at h ⊢;by_cases h3:r=0
   ·subst h3;simp only [decide_true,Bool.true_eq_false,if_false,show ¬ (2:Int)=3 by decide,show ¬ (2:Int)=1 by decide] at h ⊢;split at h
    ·exact absurd rfl h
    ·rename_i h4
     rw [if_neg h4];exact .inr (.inl ⟨by simp,h4,rfl⟩)
   ·rw [decide_eq_false h3] at h;simp at h
  ·by_cases h3:k=3
   ·subst h3;simp only [h1,h2,if_false,if_true] at h ⊢;by_cases h4:a=0∧b=0∧c.length=0
    ·rw [decide_eq_true h4] at h ⊢;simp only [Bool.true_eq_false,if_false] at h ⊢;split at h
     ·rename_i h5
      rw [if_pos h5];exact .inr (.inr ⟨by rw [h4.1,h4.2.1,List.eq_nil_of_length_eq_zero h4.2.2],h5,rfl⟩)
     ·exact absurd rfl h
    ·rw [decide_eq_false h4] at h;simp at h
   ·simp [h1,h2,h3] at h
theorem w_ne {w:By} (h:w=opW∨w=tuW∨w=reW):∀ x ∈ w,x≠(32:UInt8):=by
 rcases h with rfl | rfl | rfl <;> decide
theorem gEI_text {v:Vr} (hv:okV v=true) {e:Ev} (h:evnT v e≠[]):gEI v (evnT v e)=e:=by
 have g:=okV_iff.1 hv;rcases ev_cases hv h with ⟨h1,h2,h3⟩ | ⟨h1,h2,h3⟩ | ⟨h1,h2,h3⟩
 ·have f:∀ x ∈ Lib.itoa e.a,x≠(32:UInt8):=ito_ne (by omega) (by omega) (by decide);have d:∀ x ∈ Lib.itoa e.b,x≠(32:UInt8):=ito_ne (by omega) (by omega) (by decide);have c:Lib.cut (opW++[32]++Lib.itoa e.a++[32]++Lib.itoa e.b) [32]=(opW,Lib.itoa e.a++32 :: Lib.itoa e.b,true):=by
   have:=cut_at opW (Lib.itoa e.a++32 :: Lib.itoa e.b) 32 (w_ne (.inl rfl))
   simpa using this
  rw [h3];unfold gEI;simp only [c,if_true,spl_at _ _ _ f,spl_no _ _ d,mapO,rd_ito (show 0<=e.a by omega) (by omega),rd_ito (show 0<=e.b by omega) (by omega),Option.map_some];exact h1.symm
 ·have c:Lib.cut (tuW++[32]++trnT v e.a e.b e.ss) [32]=(tuW,trnT v e.a e.b e.ss,true):=by
   have:=cut_at tuW (trnT v e.a e.b e.ss) 32 (w_ne (.inr (.inl rfl)))
   simpa using this
  rw [h3];unfold gEI;simp only [c,(rdTI_iff hv).2 ⟨rfl,h2⟩,show ¬ tuW=opW by decide,if_true,if_false];exact h1.symm
 ·have c:Lib.cut (reW++[32]++Lib.itoa e.r) [32]=(reW,Lib.itoa e.r,true):=by
   have:=cut_at reW (Lib.itoa e.r) 32 (w_ne (.inr (.inr rfl)))
   simpa using this
  rw [h3];unfold gEI;simp only [c,show ¬ reW=opW by decide,show ¬ reW=tuW by decide,if_true,if_false,rd_ito (show 0<=e.r by omega) (by omega)];exact h1.symm
theorem rdE_iff {v:Vr} (hv:okV v=true) {t:By} {e:Ev}:rdE v t=some e↔evnT v e=t∧t≠[]:=by
 unfold rdE
 constructor
 ·intro h;split at h
  ·rename_i h1;simp only [Option.some.injEq] at h;subst h;exact h1
  ·cases h
 ·rintro⟨rfl,h⟩;rw [gEI_text hv h,if_pos ⟨rfl,h⟩]
theorem trnT_len {v:Vr} (hv:okV v=true) (x y:Int) (ss:List Stp):(trnT v x y ss).length<=54:=by
 unfold trnT;split
 ·rename_i h
  have:=stpsT_len hv (ss:=ss);rw [rolT_at hv h.1];simp;omega
 ·simp
theorem evnT_len {v:Vr} (hv:okV v=true) (e:Ev):(evnT v e).length<=59:=by
 have f:=okV_iff.1 hv;by_cases h:evnT v e=[]
 ·rw [h];simp
 ·rcases ev_cases hv h with ⟨_,h2,h3⟩ | ⟨_,h2,h3⟩ | ⟨_,h2,h3⟩
  ·have c:=ito_len (n:=e.a) (by omega) (by omega);have d:=ito_len (n:=e.b) (by omega) (by omega);rw [h3];simp [opW];omega
  ·have:=trnT_len hv e.a e.b e.ss;rw [h3];simp [tuW];omega
  ·have c:=ito_len (n:=e.r) (by omega) (by omega);rw [h3];simp [reW];omega
theorem evnT_ne {v:Vr} (hv:okV v=true) (e:Ev):∀ x ∈ evnT v e,x≠(10:UInt8):=by
 have c:=okV_iff.1 hv;by_cases h:evnT v e=[]
 ·rw [h];simp
 ·have b:∀ w:By,(w=opW∨w=tuW∨w=reW)->∀ x ∈ w,x≠(10:UInt8):=by
   intro w b;rcases b with rfl | rfl | rfl <;> decide
  rcases ev_cases hv h with ⟨_,h2,h3⟩ | ⟨_,h2,h3⟩ | ⟨_,h2,h3⟩
  ·rw [h3];intro x a;simp only [List.mem_append,List.mem_singleton] at a;rcases a with (((a | rfl) | a) | rfl) | a
   ·exact b _ (.inl rfl) x a
   ·decide
   ·exact ito_ne (by omega) (by omega) (by decide) x a
   ·decide
   ·exact ito_ne (by omega) (by omega) (by decide) x a
  ·rw [h3];intro x a;simp only [List.mem_append,List.mem_singleton] at a;rcases a with (a | rfl) | a
   ·exact b _ (.inr (.inl rfl)) x a
   ·decide
   ·unfold trnT at a;split at a
    ·rename_i h4
     have d:=roll_parts h4.1;rw [rolT_at hv h4.1] at a;simp only [List.mem_append,List.mem_cons,List.not_mem_nil,or_false] at a;rcases a with ((rfl | rfl) | (rfl | rfl)) | a
     ·exact dg_ne (by omega) (by decide)
     ·exact dg_ne (by omega) (by decide)
     ·decide
     ·decide
     ·exact stpsT_ne hv (by decide) x a
    ·simp at a
  ·rw [h3];intro x a;simp only [List.mem_append,List.mem_singleton] at a;rcases a with (a | rfl) | a
   ·exact b _ (.inr (.inr rfl)) x a
   ·decide
   ·exact ito_ne (by omega) (by omega) (by decide) x a
def vT (v:Vr):By:=if okV v=true then Lib.itoa v.p++[47]++Lib.itoa v.c++[47]++Lib.itoa v.h++[47]++Lib.itoa v.s else []
def decO (x:By):Option Int:=if (rdDec x).2=true then some (rdDec x).1 else none
def rdV (t:By):Option Vr :=
 match mapO decO (spl 47 t) with
 | some [a,b,c,d]=>if okV ⟨a,b,c,d⟩=true then some ⟨a,b,c,d⟩ else none
 | _=>none
theorem spl4 {a b c d:By} {x:UInt8} (h1:∀ y ∈ a,y≠x) (h2:∀ y ∈ b,y≠x) (h3:∀ y ∈ c,y≠x) (h4:∀ y ∈ d,y≠x):spl x (a++[x]++b++[x]++c++[x]++d)=[a,b,c,d]:=by
 have e:a++[x]++b++[x]++c++[x]++d=a++x :: (b++x :: (c++x :: d)):=by simp
 rw [e,spl_at _ _ _ h1,spl_at _ _ _ h2,spl_at _ _ _ h3,spl_no _ _ h4]
theorem spl3 {a b c:By} {x:UInt8} (h1:∀ y ∈ a,y≠x) (h2:∀ y ∈ b,y≠x) (h3:∀ y ∈ c,y≠x):spl x (a++[x]++b++[x]++c)=[a,b,c]:=by
 have e:a++[x]++b++[x]++c=a++x :: (b++x :: c):=by simp
 rw [e,spl_at _ _ _ h1,spl_at _ _ _ h2,spl_no _ _ h3]
theorem join4 (a b c d:By) (x:UInt8):Lib.join [a,b,c,d] [x]=a++[x]++b++[x]++c++[x]++d:=by
 rw [Lib.join_cons];simp [Lib.joinTail]
theorem join3 (a b c:By) (x:UInt8):Lib.join [a,b,c] [x]=a++[x]++b++[x]++c:=by
 rw [Lib.join_cons];simp [Lib.joinTail]
theorem vT_at {v:Vr} (hv:okV v=true):vT v=Lib.itoa v.p++[47]++Lib.itoa v.c++[47]++Lib.itoa v.h++[47]++Lib.itoa v.s:=by unfold vT;rw [if_pos hv]
theorem vT_spl {v:Vr} (hv:okV v=true):spl 47 (vT v)=[Lib.itoa v.p,Lib.itoa v.c,Lib.itoa v.h,Lib.itoa v.s]:=by
 have a:=okV_iff.1 hv;rw [vT_at hv];exact spl4 (ito_ne (by omega) (by omega) (by decide)) (ito_ne (by omega) (by omega) (by decide)) (ito_ne (by omega) (by omega) (by decide)) (ito_ne (by omega) (by omega) (by decide))
theorem decO_ito {n:Int} (h0:0<=n) (h1:n<100):decO (Lib.itoa n)=some n:=by unfold decO;rw [rd_ito h0 h1];rfl
theorem decO_back {t:By} {n:Int} (h:decO t=some n):Lib.itoa n=t:=by
 unfold decO at h;split at h
 ·rename_i h1
  simp only [Option.some.injEq] at h;exact rd_back (Prod.ext h h1)
 ·cases h
theorem rdV_iff {t:By} {v:Vr}:rdV t=some v↔okV v=true∧vT v=t:=by
 unfold rdV
 constructor
 ·intro h;split at h
  ·rename_i a b c d hm
   split at h
   ·rename_i h1
    simp only [Option.some.injEq] at h;subst h;refine⟨h1,?_⟩;obtain⟨e,f⟩:=mapO_iff.1 hm;have g:=spl_join 47 t
    cases hs:spl 47 t with
    | nil=>rw [hs] at e;simp at e
    | cons x0 l0=>cases l0 with
     | nil=>rw [hs] at e;simp at e
     | cons x1 l1=>cases l1 with
      | nil=>rw [hs] at e;simp at e
      | cons x2 l2=>cases l2 with
       | nil=>rw [hs] at e;simp at e
       | cons x3 l3=>cases l3 with
        | cons x4 l4=>rw [hs] at e;simp at e
        | nil =>
         rw [hs] at f g;have l:=decO_back (f 0 _ _ rfl rfl);have k:=decO_back (f 1 _ _ rfl rfl);have j:=decO_back (f 2 _ _ rfl rfl);have i:=decO_back (f 3 _ _ rfl rfl);rw [vT_at h1];simp only;rw [l,k,j,i,<-g,join4]
   ·cases h
  ·cases h
 ·rintro⟨hv,rfl⟩;have m:=okV_iff.1 hv;rw [vT_spl hv];simp only [mapO,decO_ito (show 0<=v.p by omega) (by omega),decO_ito (show 0<=v.c by omega) (by omega),decO_ito (show 0<=v.h by omega) (by omega),decO_ito (show 0<=v.s by omega) (by omega),Option.map_some];obtain⟨p,c,h,s⟩:=v;simp only;rw [if_pos hv]
theorem vT_ne {v:Vr} {c:UInt8} (hc:c.toNat<47):∀ x ∈ vT v,x≠c:=by
 unfold vT;split
 ·rename_i hv
  have d:=okV_iff.1 hv;have b:(47:UInt8)≠c:=by rintro rfl;revert hc;decide
  intro x a;simp only [List.mem_append,List.mem_singleton] at a;rcases a with (((((a | rfl) | a) | rfl) | a) | rfl) | a
  ·exact ito_ne (by omega) (by omega) (by omega) x a
  ·exact b
  ·exact ito_ne (by omega) (by omega) (by omega) x a
  ·exact b
  ·exact ito_ne (by omega) (by omega) (by omega) x a
  ·exact b
  ·exact ito_ne (by omega) (by omega) (by omega) x a
 ·simp
def maW:By:=[109,97,116,99,104]
def hdT (v:Vr) (n:Int):By:=maW++[32]++vT v++[32]++Lib.itoa n
def rdH (t:By):Option (Vr × Int) :=
 match spl 32 t with
 | [a,b,c]=>if a=maW then (match rdV b,decO c with
  | some v,some n=>if headB v n=true then some (v,n) else none
  | _,_=>none) else none
 | _=>none
theorem head_parts {v:Vr} {n:Int} (h:headB v n=true):okV v=true∧4<=v.p∧1<=n∧n<=25:=by
 unfold headB at h;simp only [Bool.and_eq_true,decide_eq_true_eq] at h;exact⟨h.1.1,h.1.2,h.2⟩
theorem hd_spl {v:Vr} {n:Int} (h:headB v n=true):spl 32 (hdT v n)=[maW,vT v,Lib.itoa n]:=by
 obtain⟨a,d,c,b⟩:=head_parts h;exact spl3 (by decide) (vT_ne (by decide)) (ito_ne (by omega) (by omega) (by decide))
theorem rdH_iff {t:By} {v:Vr} {n:Int}:rdH t=some (v,n)↔headB v n=true∧hdT v n=t:=by
 unfold rdH
 constructor
 ·intro h;have d:=spl_join 32 t;split at h
  ·rename_i a b c hs
   rw [hs,join3] at d;split at h
   ·rename_i ha
    split at h
    ·rename_i v' n' g f
     split at h
     ·rename_i e
      simp only [Option.some.injEq,Prod.mk.injEq] at h;obtain⟨rfl,rfl⟩:=h;refine⟨e,?_⟩;unfold hdT;rw [(rdV_iff.1 g).2,decO_back f,<-ha];exact d
     ·cases h
    ·cases h
   ·cases h
  ·cases h
 ·rintro⟨h,rfl⟩;obtain⟨i,g,f,e⟩:=head_parts h;rw [hd_spl h];simp only [if_true,rdV_iff.2 ⟨i,rfl⟩,decO_ito (show 0<=n by omega) (by omega),h]
theorem hdT_ne {v:Vr} {n:Int} (h:headB v n=true):∀ x ∈ hdT v n,x≠(10:UInt8):=by
 obtain⟨b,e,d,c⟩:=head_parts h;intro x a;unfold hdT at a;simp only [List.mem_append,List.mem_singleton] at a;rcases a with (((a | rfl) | a) | rfl) | a
 ·exact(by decide:∀ x ∈ maW,x≠(10:UInt8)) x a
 ·decide
 ·exact vT_ne (by decide) x a
 ·decide
 ·exact ito_ne (by omega) (by omega) (by decide) x a
def linesT (v:Vr) (es:List Ev):By:=(es.map λ e=>evnT v e++[10]).flatten
def matT (v:Vr) (n:Int) (es:List Ev):By:=hdT v n++[10]++linesT v es
def rmGo (v:Vr) (n:Int):List By->Ms->List Ev->Int->List Ev × Int × Int
 | [],x,es,k=>(es,0,0)
 | [l],x,es,k=>if l=[] then (es,0,0) else ([],6,k)
 | l :: m :: ls,x,es,k=>match rdE v l with
  | none=>([],6,k)
  | some e=>match nextS v n x e with
   | none=>([],5,k)
   | some y=>if 300<=es.length then ([],5,k) else rmGo v n (m :: ls) y (es++[e]) (k+1)
def rdM (t:By):(Vr × Int × List Ev) × Int × Int :=
 if 20000<t.length then ((⟨0,0,0,0⟩,0,[]),3,0) else
  match spl 10 t with
  | l :: m :: ls=>(match rdH l with
   | some (v,n)=>if (rmGo v n (m :: ls) (startS v) [] 2).2.1=0 then ((v,n,(rmGo v n (m :: ls) (startS v) [] 2).1),0,0) else ((⟨0,0,0,0⟩,0,[]),(rmGo v n (m :: ls) (startS v) [] 2).2)
   | none=>((⟨0,0,0,0⟩,0,[]),6,1))
  | _=>((⟨0,0,0,0⟩,0,[]),6,1)
theorem lines_spl {v:Vr} (hv:okV v=true):∀ es:List Ev,spl 10 (linesT v es)=(es.map (evnT v))++[[]]:=by
 intro es
 induction es with
 | nil=>rfl
 | cons e es ih =>
  have a:linesT v (e :: es)=evnT v e++10 :: linesT v es:=by unfold linesT;simp
  rw [a,spl_at _ _ _ (evnT_ne hv e),ih]
  rfl
end TxP
namespace JoinN
open Go.ChangeShapes Go.WideShapes Go.ChangeAt Go.RowKit Go.Sort Base Ints Own
theorem grow_bel (w:World) (k:Nat) (os:Array Obj):zB w (grow (w.drewN k) os) :=
 ⟨rfl,rfl,rfl,by simp [grow],λ i hi=>by
  show (w.heap++os)[i]?=w.heap[i]?
  exact Array.getElem?_append_left hi⟩
def TabOk (w:World):Prop:=Lib.TabIs prog w "internal/strconv.uint64pow10" .u64 Lib.pow10Tab
theorem tab_glob:∃ g,Tryz.prog.globalNamed "internal/strconv.uint64pow10"=some g:=by
 have h:(Tryz.prog.globalNamed "internal/strconv.uint64pow10").isSome=true:=by kernel_rfl
 exact Option.isSome_iff_exists.1 h
theorem TabOk.below {w w':World} (h:TabOk w) (hb:zB w w'):TabOk w':=by
 obtain⟨g,b⟩:=tab_glob;unfold TabOk Lib.TabIs at h ⊢;rw [<-h];unfold World.var? at h ⊢;rw [b] at h ⊢;have a:g<w.heap.size:=by
  rcases Nat.lt_or_ge g w.heap.size with h1 | h1
  ·exact h1
  ·replace h:(match w.heap[g]? with | some (.cells cs _ _)=>some cs | _=>none)=_:=h;rw [Array.getElem?_eq_none h1] at h
   cases h
 show (match w'.heap[g]? with | some (.cells cs _ _)=>some cs | _=>none)=(match w.heap[g]? with | some (.cells cs _ _)=>some cs | _=>none)
 rw [hb.block g a]
theorem decimal (n:Int) (h0:-9223372036854775808<=n) (h1:n<=9223372036854775807) (w:World) (ht:TabOk w) :
  Calls prog 27 #[iL n] w λ e w'=>e=.returned (.string ⟨(Lib.itoa n).toArray⟩)∧zB w w':=by
 go_enter func27,ntmps27;go_wp2_with fail;refine(Tryz.strconv_FormatInt_10 n h0 h1 _ ht).mono ?_;rintro e a ⟨rfl,k,b,rfl⟩;go_wp2_with fail;go_ret;exact⟨rfl,grow_bel _ _ _⟩
def enT (x:Int):List Value:=[.string ⟨(Lib.itoa x).toArray⟩]
theorem enT_len (x:Int):(enT x).length=1:=rfl
theorem infoT:(Tryz.prog.info? 9).map (λ i=>(i.zero,i.size,i.bytes))=some (some (.string ⟨#[]⟩),1,16):=by kernel_rfl
theorem join (A:Option Addr) (cp B:Nat) (xs:List Int) (sep:ByteArray) (w:World) (hB:B<=w.heap.size) (hr:RdS w B 1 enI A xs) (hx:∀ x ∈ xs,-9223372036854775808<=x∧x<=9223372036854775807) (h0:0<xs.length) (hlen:(Lib.join (xs.map Lib.itoa) sep.data.toList).length<=140737488355328) (hn:xs.length<=1048576) (ht:TabOk w) :
  Calls prog 64 #[.slice A xs.length cp,.string sep] w λ e w'=>e=.returned (.string ⟨(Lib.join (xs.map Lib.itoa) sep.data.toList).toArray⟩)∧zB w w':=by
 obtain⟨P,V,D,C,v⟩:=info_parts infoT
 generalize hnn:xs.length=n at *
 have H:=kD hnn;clear hnn;go_enter func64,ntmps64;go_wp2_with (at_make;refine wpList_make_full _ rfl _ _ _ rfl w.heap.size 9 P _ 1 Tryz.underlying87 V D C _ _ _ _ n rfl rfl rfl rfl ?c1 ?c2 (Nat.le_refl _) ?_)
 case c1=>rw [v];omega
 case c2=>unfold maxLen;omega
 intro F h d;have c:=kD (RowB.of_own h);have l:zB w F:=(Below.refl _ _).grown d (Nat.le_refl _) (by simp);have E:w.heap.size<F.heap.size:=c.out.lt;clear h d;go_wp2_with fail;go_loopw [13] (λ i wr=>∃ k:Nat,k<=n∧i=iL (k:Int)∧zB w wr∧Hid (RowB wr w.heap.size 9 ((xs.take k).flatMap enT++List.replicate (n - k) (.string ⟨#[]⟩)))) (λ i _=>n - (intOf i).toNat)
 case atStart=>exact⟨0,Nat.zero_le _,rfl,l,by simpa [made_rep] using c⟩
 case round =>
  obtain⟨k,hk,rfl,a,s⟩:=hrel;clear l c E;have T:=s.out.lt;by_cases hlt:k<n
  ·obtain⟨b,O,x,rfl,Y,q,X⟩:=rdI_at (hr.below a hB) (by rw [H.out];exact hlt);obtain⟨M,L⟩:=hx x (List.mem_of_getElem? q);have Z:=kD q;clear q;go_wp2_with fail;refine(decimal x M L _ (ht.below a)).mono ?_;rintro e t ⟨rfl,f⟩;have g:=kD (s.out.below f T);have r:=a.tR f;have S:=g.out.lt;have W:=g.out.frozen;obtain⟨z,hz⟩:∃ z,t.cell? ⟨w.heap.size,k,none⟩=some z:=by
    rw [g.out.cell];refine⟨_,List.getElem?_eq_getElem ?_⟩;rw [List.length_append,flatMap_len enT_len,List.length_take,List.length_replicate,H.out];omega
   have HF:Hid (RowB (t.setCell ⟨w.heap.size,k,none⟩ (.string ⟨(Lib.itoa x).toArray⟩)) w.heap.size 9 ((xs.take (k+1)).flatMap enT++List.replicate (n - (k+1)) (.string ⟨#[]⟩))):=by
    have I:=g.out.set k (.string ⟨(Lib.itoa x).toArray⟩);obtain⟨m,R⟩:∃ m,n - k=m+1:=⟨n - k - 1,by omega⟩;rw [R,fill1 Z.out rfl enT_len] at I;rw [show n - (k+1)=m from by omega];exact I
   have N:=kD (r.setCell (p:=⟨w.heap.size,k,none⟩) (Nat.le_refl _) (.string ⟨(Lib.itoa x).toArray⟩));clear X Y;go_wp2_with fail;go_roundw
   case rel=>exact⟨k+1,by omega,by go_num,N.out,HF⟩
   case measure=>simp [intOf];omega
  ·obtain rfl:k=n:=by omega
   have o:=s.out;rw [Nat.sub_self,List.replicate_zero,List.append_nil,List.take_of_length_le (by rw [H.out];exact Nat.le_refl _)] at o;have J:Hid ((xs.map λ x=>(⟨(Lib.itoa x).toArray⟩:ByteArray)).map (·.data.toList)=xs.map Lib.itoa):=by show _=_;rw [List.map_map];exact List.map_congr_left λ x _=>rfl
   have K:=Tryz.strings_Join w.heap.size 0 k (xs.map λ x=>(⟨(Lib.itoa x).toArray⟩:ByteArray)) sep wr (λ j x G=>by
    rw [List.getElem?_map] at G;obtain⟨y,Q,rfl⟩:=Option.map_eq_some_iff.1 G;rw [Nat.zero_add,o.cell];have:=flatMap_at enT_len xs j y Q 0 _ rfl
    simpa using this) o.lt (by rw [List.length_map,H.out];omega) (by rw [List.length_map,H.out];exact Nat.le_refl _) (by rw [J.out];exact hlen)
   rw [List.length_map,H.out,J.out] at K;clear s;go_wp2_with fail;refine K.mono ?_;rintro e t ⟨rfl,f⟩;go_wp2_with fail;go_ret;exact⟨rfl,a.tR f⟩
end JoinN
namespace Num
open Go.ChangeShapes Go.WideShapes Go.ChangeAt Go.RowKit Base JoinN TxP
theorem var_below {w w':World} {n:String} {cs:Array Value} (h:w.var? prog n=some cs) (hb:zB w w'):w'.var? prog n=some cs:=by
 unfold World.var? at h ⊢
 cases hg:Tryz.prog.globalNamed n with
 | none=>rw [hg] at h;simp at h
 | some g =>
  rw [hg] at h;have a:g<w.heap.size:=by
   rcases Nat.lt_or_ge g w.heap.size with h1 | h1
   ·exact h1
   ·replace h:(match w.heap[g]? with | some (.cells cs _ _)=>some cs | _=>none)=_:=h;rw [Array.getElem?_eq_none h1] at h
    cases h
  show (match w'.heap[g]? with | some (.cells cs _ _)=>some cs | _=>none)=_
  rw [hb.block g a];exact h
structure Env (w:World):Prop where
 tab:TabOk w
 syn:∃ tp p,w.var? prog "strconv.ErrSyntax"=some #[.iface tp p]
 rng:∃ tp p,w.var? prog "strconv.ErrRange"=some #[.iface tp p]
 shp:w.ShapedOpen prog
theorem Env.below {w w':World} (h:Env w) (hb:zB w w'):Env w':=by
 obtain⟨i,⟨b,p,g⟩,⟨a,c,f⟩,e⟩:=h;exact⟨i.below hb,⟨b,p,var_below g hb⟩,⟨a,c,var_below f hb⟩,e.keptBut (may:=λ _=>False) (hb.frame _) (λ p d=>d.elim)⟩
theorem decimalZ (n:Int) (h0:-9223372036854775808<=n) (h1:n<=9223372036854775807) (w:World) (ht:TabOk w) :
  Calls prog 27 #[iL n] w λ e w'=>e=.returned (.string ⟨(Lib.itoa n).toArray⟩)∧zB w w':=by
 go_enter func27,ntmps27;go_wp2_with fail;refine(Tryz.strconv_FormatInt_10 n h0 h1 _ ht).mono ?_;rintro e a ⟨rfl,k,b,rfl⟩;go_wp2_with fail;go_ret;exact⟨rfl,grow_bel _ _ _⟩
def PI (s:ByteArray) (e:Ending):Prop :=
 (∃ v,Lib.parseIntB 64 s.data.toList=.ok v∧e=.returned (.tuple #[iL v,.nilIface]))∨((∀ v,Lib.parseIntB 64 s.data.toList≠.ok v)∧∃ v t a,e=.returned (.tuple #[iL v,.iface t a]))
theorem pint (s:ByteArray) (hs:s.size<=4194304) (w:World) (E:Env w) :
  Calls prog 90 #[.string s,iL 10,iL 64] w λ e w'=>PI s e∧zB w w':=by
 obtain⟨f,p,k⟩:=E.syn;obtain⟨b,g,j⟩:=E.rng;by_cases h:∃ v,Lib.parseIntB 64 s.data.toList=.ok v
 ·obtain⟨v,a⟩:=h;refine(Tryz.strconv_ParseInt_10_at64_ok s (by omega) v a w).mono ?_;rintro e w' ⟨rfl,i⟩;refine⟨.inl ⟨v,a,rfl⟩,?_⟩;rcases i with rfl | ⟨t,rfl⟩
  ·exact Below.refl _ _
  ·exact Lib.bytesWorld_below _ _ _
 ·have c:∀ v,Lib.parseIntB 64 s.data.toList≠.ok v:=λ v a=>h ⟨v,a⟩
  by_cases hr:Lib.parseIntB 64 s.data.toList=.range
  ·refine(Tryz.strconv_ParseInt_10_at64_range_var s (by omega) hr b g w j).mono ?_;rintro e w' ⟨N,rfl,_,_,d⟩;exact⟨.inr ⟨c,_,_,_,rfl⟩,d⟩
  ·refine(Tryz.strconv_ParseInt_10_at64_fault_var s (by omega) ⟨c,hr⟩ f p w k).mono ?_;rintro e w' ⟨N,rfl,_,_,d⟩;exact⟨.inr ⟨c,_,_,_,rfl⟩,d⟩
theorem data_len (s:ByteArray):s.data.toList.length=s.size:=by rw [Array.length_toList];rfl
theorem trim_len (l:List UInt8):(Lib.trimPrefix l [45]).length<=l.length:=by
 unfold Lib.trimPrefix;split
 ·simp
 ·exact Nat.le_refl _
theorem readD (s:ByteArray) (hs:s.size<=4194304) (w:World) (E:Env w) :
  Calls prog 62 #[.string s] w λ e w'=>e=.returned (.tuple #[iL (rdDec s.data.toList).1,.bool (rdDec s.data.toList).2])∧zB w w':=by
 obtain⟨T,p⟩:∃ T:List UInt8,Lib.trimPrefix s.data.toList [45]=T:=⟨_,rfl⟩;have D:=trim_len s.data.toList;rw [p,data_len] at D;obtain⟨j,c⟩:∃ j:ByteArray,(⟨T.toArray⟩:ByteArray)=j:=⟨_,rfl⟩;have n:j.size=T.length:=by rw [<-c];simp [ByteArray.size]
 have O:=kD c;have b:=Tryz.strings_TrimPrefix s ⟨#[45]⟩ w;rw [show (⟨#[45]⟩:ByteArray).data.toList=[45] from rfl,p,c] at b;have d:=kD b;by_cases h0:T=[]∨19<T.length
 ·have f:rdDec s.data.toList=(0,false):=by unfold rdDec;rw [p,if_pos h0]
  rw [f];by_cases k:T=[]
  ·have H:j.toList.isEmpty=true:=by rw [<-c,ByteArray.toList_eq,k];rfl
   clear p c b h0 f k n;go_enter func62,ntmps62;go_wp2_with fail;refine d.out.mono ?_;rintro e G ⟨rfl,y⟩;subst y;go_wp2_with fail;go_ret2;exact⟨rfl,Below.refl _ _⟩
  ·have M:19<T.length:=h0.elim (λ h=>absurd h k) (λ h=>h);have H:j.toList.isEmpty=false:=by
    rw [<-c,ByteArray.toList_eq]
    cases T with
    | nil=>exact absurd rfl k
    | cons x l=>rfl
   have L:decide ((19:Int)<(j.size:Int))=true:=decide_eq_true (by omega);clear p c b h0 f k n;go_enter func62,ntmps62;go_wp2_with fail;refine d.out.mono ?_;rintro e G ⟨rfl,y⟩;subst y;go_wp2_with fail;go_ret2;exact⟨rfl,Below.refl _ _⟩
 ·have k:¬ T=[]:=λ h=>h0 (.inl h)
  have M:¬ 19<T.length:=λ h=>h0 (.inr h)
  have A:rdDec s.data.toList=match Lib.parseIntB 64 s.data.toList with
   | .ok v=>if Lib.itoa v=s.data.toList then (v,true) else (0,false)
   | _=>(0,false):=by unfold rdDec;rw [p,if_neg h0];try rfl
  have r:=kD A;obtain⟨R,f⟩:=eX (rdDec s.data.toList);have q:=kD f;rw [f];have H:j.toList.isEmpty=false:=by
   rw [<-c,ByteArray.toList_eq]
   cases T with
   | nil=>exact absurd rfl k
   | cons x l=>rfl
  have L:decide ((19:Int)<(j.size:Int))=false:=decide_eq_false (by omega);clear p c b h0 k n A f;go_enter func62,ntmps62;go_wp2_with fail;refine d.out.mono ?_;rintro e G ⟨rfl,y⟩;subst y;go_wp2_with fail;refine(pint s hs _ E).mono ?_;rintro e S ⟨K,g⟩;have P:=E.below g;rcases K with ⟨v,hv,rfl⟩ | ⟨hv,v,t,a,rfl⟩
  ·have J:=kD hv;have C:=Lib.parseIntB_bounds hv;have B:((2 ^ (64 - 1):Nat):Int)=9223372036854775808:=by decide
   rw [B] at C;clear hv B;go_wp2_with fail;refine(decimalZ v (by omega) (by omega) _ P.tab).mono ?_;rintro e Q ⟨rfl,z⟩;obtain⟨m,o⟩:∃ m:ByteArray,(⟨(Lib.itoa v).toArray⟩:ByteArray)=m:=⟨_,rfl⟩;have i:m.data.toList=Lib.itoa v:=by rw [<-o]
   rw [o];clear o;have I:=g.tR z;clear g z;by_cases hi:Lib.itoa v=s.data.toList
   ·have f:R=(v,true):=by rw [<-q.out,r.out,J.out];simp only;rw [if_pos hi]
    have F:(m.toList == s.toList)=true:=by rw [ByteArray.toList_eq,ByteArray.toList_eq,i];simp [hi]
    have N:(m.toList != s.toList)=false:=by simp only [bne,F];rfl
    subst f;clear hi i;go_wp2_with fail;go_ret2;exact⟨rfl,I⟩
   ·have f:R=(0,false):=by rw [<-q.out,r.out,J.out];simp only;rw [if_neg hi]
    have F:(m.toList == s.toList)=false:=by rw [ByteArray.toList_eq,ByteArray.toList_eq,i];simp [hi]
    have N:(m.toList != s.toList)=true:=by simp only [bne,F];rfl
    subst f;clear hi i;go_wp2_with fail;go_ret2;exact⟨rfl,I⟩
  ·have f:R=(0,false):=by
    rw [<-q.out,r.out];split
    ·rename_i v' h';exact absurd h' (hv v')
    ·rfl
   subst f;clear hv;go_wp2_with fail;go_ret2;exact⟨rfl,g⟩
end Num
namespace TxI
open Go.ChangeShapes Go.WideShapes Go.ChangeAt Go.RowKit Base Ints JoinN PlP TxP Num Bd1
def bs (l:By):ByteArray:=⟨l.toArray⟩
theorem bs_cat (a b:By):bs a++bs b=bs (a++b):=by
 apply ByteArray.ext
 simp [bs,ByteArray.data_append]
theorem bs_size (a:By):(bs a).size=a.length:=by simp [bs,ByteArray.size]
theorem bs_data (a:By):(bs a).data.toList=a:=rfl
theorem bs_of (s:ByteArray):bs s.data.toList=s:=by obtain⟨⟨l⟩⟩:=s;rfl
theorem bs_eq {a b:By}:((bs a).toList == (bs b).toList)=decide (a=b):=by
 rw [ByteArray.toList_eq,ByteArray.toList_eq,bs_data,bs_data];by_cases h:a=b <;> simp [h]
theorem plain_i (v:Vr) (hv:okV v=true) (s:Stp) (c:Bool) (hc:plainB v s=c) (w:World):Calls prog 82 #[vA v,.agg #[iL s.1,iL s.2.1,iL s.2.2.1,.bool s.2.2.2]] w λ e w'=>e=.returned (.bool c)∧zB w w':=by
 have m:=okV_iff.1 hv;obtain⟨f,t,d,h⟩:=s;unfold plainB at hc;simp only at hc ⊢;obtain⟨o,b⟩:∃ c,decide (0<=f∧f<=v.p)=c:=⟨_,rfl⟩;obtain⟨n,a⟩:∃ c,decide (1<=d∧d<=v.s)=c:=⟨_,rfl⟩;rw [b,a] at hc;have l:=kD (λ w=>in_i f 0 v.p o b w);have q:=kD (λ w=>in_i d 1 v.s n a w);have g:=kD (And.intro b a);have E:=kD m;have j:=kD hc;clear hc b a m hv
 cases o
 ·obtain rfl:c=false:=by rw [<-j.out];simp
  go_enter func82,ntmps82;go_wp2_with fail;refine(l.out _).mono ?_;rintro e i ⟨rfl,rfl⟩;go_wp2_with fail;go_ret;exact⟨rfl,by go_grown⟩
 cases n
 ·obtain rfl:c=false:=by rw [<-j.out];simp
  go_enter func82,ntmps82;go_wp2_with fail;refine(l.out _).mono ?_;rintro e i ⟨rfl,rfl⟩;go_wp2_with fail;refine(q.out _).mono ?_;rintro e i ⟨rfl,rfl⟩;go_wp2_with fail;go_ret;exact⟨rfl,by go_grown⟩
 have A:(0<=f∧f<=24)∧1<=d∧d<=6:=by
  have b:=of_decide_eq_true g.out.1;have a:=of_decide_eq_true g.out.2;have:=E.out;omega
 obtain⟨⟨x,r⟩,z,y⟩:=A;go_enter func82,ntmps82;go_wp2_with fail;refine(l.out _).mono ?_;rintro e i ⟨rfl,rfl⟩;go_wp2_with fail;refine(q.out _).mono ?_;rintro e i ⟨rfl,rfl⟩;by_cases ht:t=-1
 ·have C:(t == -1)=true:=by simp [ht]
  have hc:=j.out;rw [if_pos ht] at hc;simp only [Bool.true_and] at hc;clear ht
  cases h
  ·by_cases h3:f<v.p
   ·have k:=decide_eq_true h3;by_cases h4:f<d
    ·obtain rfl:c=true:=by rw [<-hc];simp [h3,h4]
     have D:=decide_eq_true h4;clear hc;go_wp2_with fail;go_ret;exact⟨rfl,by go_grown⟩
    ·obtain rfl:c=false:=by rw [<-hc];simp [h4]
     have D:=decide_eq_false h4;clear hc;go_wp2_with fail;go_ret;exact⟨rfl,by go_grown⟩
   ·obtain rfl:c=false:=by rw [<-hc];simp [h3]
    have k:=decide_eq_false h3;clear hc;go_wp2_with fail;go_ret;exact⟨rfl,by go_grown⟩
  ·obtain rfl:c=false:=by rw [<-hc];simp
   clear hc;go_wp2_with fail;go_ret;exact⟨rfl,by go_grown⟩
 ·have C:(t == -1)=false:=by simp [ht]
  have hc:=j.out;rw [if_neg ht] at hc;simp only [Bool.true_and] at hc;clear ht;by_cases h3:0<=t
  ·have k:=decide_eq_true h3;by_cases h4:t=f - d
   ·obtain rfl:c=true:=by rw [<-hc];exact decide_eq_true ⟨h3,h4⟩
    have B:(t == f - d)=true:=by simp [h4]
    clear hc h4;go_wp2_with fail;go_ret;exact⟨rfl,by go_grown⟩
   ·obtain rfl:c=false:=by rw [<-hc];exact decide_eq_false (λ h=>h4 h.2)
    have B:(t == f - d)=false:=by simp [h4]
    clear hc h4;go_wp2_with fail;go_ret;exact⟨rfl,by go_grown⟩
  ·obtain rfl:c=false:=by rw [<-hc];exact decide_eq_false (λ h=>h3 h.1)
   have k:=decide_eq_false h3;clear hc;go_wp2_with fail;go_ret;exact⟨rfl,by go_grown⟩
structure Bx (w wr:World) (v:Vr) (f t d:Int) (h:Bool):Prop where
 bel:zB w wr
 rv:RowB wr w.heap.size 25 (vL v)
 rs:RowB wr (w.heap.size+1) 111 [iL f,iL t,iL d,.bool h]
theorem Bx.below {w wr w':World} {v:Vr} {f t d:Int} {h:Bool} (k:Bx w wr v f t d h) (hb:zB wr w'):Bx w w' v f t d h :=
 ⟨k.bel.tR hb,k.rv.below hb k.rv.lt,k.rs.below hb k.rs.lt⟩
theorem step_i (v:Vr) (hv:okV v=true) (s:Stp) (hs:plainB v s=true) (w:World) (hT:TabOk w):Calls prog 83 #[vA v,.agg #[iL s.1,iL s.2.1,iL s.2.2.1,.bool s.2.2.2]] w λ e w'=>e=.returned (.string (bs (stpT v s)))∧zB w w':=by
 have hp:=okV_iff.1 hv;obtain⟨h1,h2,Z⟩:=plain_parts hs;obtain⟨f,t,d,h⟩:=s;simp only at h1 h2 Z ⊢;have HB:=kD hp;have k:(0<=f∧f<=24)∧(1<=d∧d<=6)∧-1<=t∧t<=24:=by omega
 have W:=kD (λ(M:World) (P:TabOk M)=>decimalZ (f+1) (by omega) (by omega) M P);have V:=kD (λ(M:World) (P:TabOk M)=>decimalZ (t+1) (by omega) (by omega) M P);have CD:=kD (λ(M:World) (P:TabOk M)=>decimalZ d (by omega) (by omega) M P);obtain⟨H,J⟩:∃ x:ByteArray,(⟨(Lib.itoa (f+1)).toArray⟩:ByteArray)=x:=⟨_,rfl⟩;obtain⟨G,I⟩:∃ x:ByteArray,(⟨(Lib.itoa (t+1)).toArray⟩:ByteArray)=x:=⟨_,rfl⟩;obtain⟨X,L⟩:∃ x:ByteArray,(⟨(Lib.itoa d).toArray⟩:ByteArray)=x:=⟨_,rfl⟩;have zf:H.size<=2:=by rw [<-J];have:=ito_len (n:=f+1) (by omega) (by omega);exact Nat.le_trans (Nat.le_of_eq (bs_size _)) this.2
 have zt:G.size<=2:=by rw [<-I];have:=ito_len (n:=t+1) (by omega) (by omega);exact Nat.le_trans (Nat.le_of_eq (bs_size _)) this.2
 have zd:X.size<=2:=by rw [<-L];have:=ito_len (n:=d) (by omega) (by omega);exact Nat.le_trans (Nat.le_of_eq (bs_size _)) this.2
 have qf:H=bs (Lib.itoa (f+1)):=J.symm;have qt:G=bs (Lib.itoa (t+1)):=I.symm;have qd:X=bs (Lib.itoa d):=L.symm;rw [J] at W;rw [I] at V;rw [L] at CD;have l:=kD (And.intro qf (And.intro qt qd));have H3:=kD Z;obtain⟨R,Y⟩:=eX (bs (stpT v (f,t,d,h)));have B:=kD Y;rw [Y];clear J I L qf qt qd Y hs Z hv hp;obtain⟨⟨ad,ac⟩,⟨af,ae⟩,ab,aa⟩:=k;clear h1 h2;by_cases hfp:f<v.p
 ·by_cases ht:0<=t
  ·cases h
   ·have A:Hid ((((H++⟨#[47]⟩)++G):ByteArray)=R):=by
     show _=_
     rw [<-B.out];simp only [l.out.1,l.out.2.1,l.out.2.2];have j:(⟨#[47]⟩:ByteArray)=bs [47]:=rfl;have i:(⟨#[42]⟩:ByteArray)=bs [42]:=rfl;have g:(⟨#[47,111,102,102]⟩:ByteArray)=bs [47,111,102,102]:=rfl;have E:(⟨#[40]⟩:ByteArray)=bs [40]:=rfl;have D:(⟨#[41]⟩:ByteArray)=bs [41]:=rfl;have C:(⟨#[98,97,114]⟩:ByteArray)=bs [98,97,114]:=rfl;simp only [j,i,g,E,D,C,bs_cat];unfold stpT fromT;simp [hfp,ht]
    have z:Hid (Ending.returned (.string (((H++⟨#[47]⟩)++G)))=Ending.returned (.string R)):=by show _=_;rw [A.out]
    have T:decide (0<=t)=true:=decide_eq_true ht;have S:(t == -1)=false:=by simp;omega
    have Q:decide (f<v.p)=true:=decide_eq_true hfp;clear A l B;go_enter func83,ntmps83;go_upto_region 1 with fail;refine wp_gen (λ F=>Bx w F v f t d false) ⟨by go_grown,(RowB.new _ _ _).alloc _,RowB.new' _ _ _ (by simp)⟩ ?_;intro O K;obtain⟨y,j,i,g⟩:=K.rv.c4;obtain⟨r,q,o,m⟩:=K.rs.c4;have b:=K.rv.lt;have a:=K.rs.lt;go_wp2_with fail;refine(W.out _ (hT.below K.bel)).mono ?_;rintro e N ⟨rfl,k⟩;have K:=K.below k;clear y j i g r q o m b a k;obtain⟨y,j,i,g⟩:=K.rv.c4;obtain⟨r,q,o,m⟩:=K.rs.c4;have b:=K.rv.lt;have a:=K.rs.lt;go_wp2_with fail;refine(V.out _ (hT.below K.bel)).mono ?_;rintro e w3 ⟨rfl,k⟩;have K:=K.below k;clear y j i g r q o m b a k;obtain⟨y,j,i,g⟩:=K.rv.c4;obtain⟨r,q,o,m⟩:=K.rs.c4;have b:=K.rv.lt;have a:=K.rs.lt;go_wp2_with fail;go_ret;exact⟨z.out,K.bel⟩
   ·have A:Hid ((((H++⟨#[47]⟩)++G)++⟨#[42]⟩:ByteArray)=R):=by
     show _=_
     rw [<-B.out];simp only [l.out.1,l.out.2.1,l.out.2.2];have j:(⟨#[47]⟩:ByteArray)=bs [47]:=rfl;have i:(⟨#[42]⟩:ByteArray)=bs [42]:=rfl;have g:(⟨#[47,111,102,102]⟩:ByteArray)=bs [47,111,102,102]:=rfl;have E:(⟨#[40]⟩:ByteArray)=bs [40]:=rfl;have D:(⟨#[41]⟩:ByteArray)=bs [41]:=rfl;have C:(⟨#[98,97,114]⟩:ByteArray)=bs [98,97,114]:=rfl;simp only [j,i,g,E,D,C,bs_cat];unfold stpT fromT;simp [hfp,ht]
    have z:Hid (Ending.returned (.string (((H++⟨#[47]⟩)++G)++⟨#[42]⟩))=Ending.returned (.string R)):=by show _=_;rw [A.out]
    have T:decide (0<=t)=true:=decide_eq_true ht;have S:(t == -1)=false:=by simp;omega
    have Q:decide (f<v.p)=true:=decide_eq_true hfp;clear A l B;go_enter func83,ntmps83;go_upto_region 1 with fail;refine wp_gen (λ F=>Bx w F v f t d true) ⟨by go_grown,(RowB.new _ _ _).alloc _,RowB.new' _ _ _ (by simp)⟩ ?_;intro O K;obtain⟨y,j,i,g⟩:=K.rv.c4;obtain⟨r,q,o,m⟩:=K.rs.c4;have b:=K.rv.lt;have a:=K.rs.lt;go_wp2_with fail;refine(W.out _ (hT.below K.bel)).mono ?_;rintro e N ⟨rfl,k⟩;have K:=K.below k;clear y j i g r q o m b a k;obtain⟨y,j,i,g⟩:=K.rv.c4;obtain⟨r,q,o,m⟩:=K.rs.c4;have b:=K.rv.lt;have a:=K.rs.lt;go_wp2_with fail;refine(V.out _ (hT.below K.bel)).mono ?_;rintro e w3 ⟨rfl,k⟩;have K:=K.below k;clear y j i g r q o m b a k;obtain⟨y,j,i,g⟩:=K.rv.c4;obtain⟨r,q,o,m⟩:=K.rs.c4;have b:=K.rv.lt;have a:=K.rs.lt;go_wp2_with fail;go_ret;exact⟨z.out,K.bel⟩
  ·obtain rfl:h=false:=by have:=H3.out;rcases this with h | h;exact h.2.1;omega
   by_cases hdf:d=f+1
   ·have A:Hid (((H++⟨#[47,111,102,102]⟩):ByteArray)=R):=by
     show _=_
     rw [<-B.out];simp only [l.out.1,l.out.2.1,l.out.2.2];have j:(⟨#[47]⟩:ByteArray)=bs [47]:=rfl;have i:(⟨#[42]⟩:ByteArray)=bs [42]:=rfl;have g:(⟨#[47,111,102,102]⟩:ByteArray)=bs [47,111,102,102]:=rfl;have E:(⟨#[40]⟩:ByteArray)=bs [40]:=rfl;have D:(⟨#[41]⟩:ByteArray)=bs [41]:=rfl;have C:(⟨#[98,97,114]⟩:ByteArray)=bs [98,97,114]:=rfl;simp only [j,i,g,E,D,C,bs_cat];unfold stpT fromT;simp [hfp,ht,hdf]
    have z:Hid (Ending.returned (.string ((H++⟨#[47,111,102,102]⟩)))=Ending.returned (.string R)):=by show _=_;rw [A.out]
    have T:decide (0<=t)=false:=decide_eq_false ht;have S:(t == -1)=true:=by simp;omega
    have g3:(d != f+1)=false:=by simp [hdf]
    have Q:decide (f<v.p)=true:=decide_eq_true hfp;clear A l B hdf;go_enter func83,ntmps83;go_upto_region 1 with fail;refine wp_gen (λ F=>Bx w F v f t d false) ⟨by go_grown,(RowB.new _ _ _).alloc _,RowB.new' _ _ _ (by simp)⟩ ?_;intro O K;obtain⟨y,j,i,g⟩:=K.rv.c4;obtain⟨r,q,o,m⟩:=K.rs.c4;have b:=K.rv.lt;have a:=K.rs.lt;go_wp2_with fail;refine(W.out _ (hT.below K.bel)).mono ?_;rintro e N ⟨rfl,k⟩;have K:=K.below k;clear y j i g r q o m b a k;obtain⟨y,j,i,g⟩:=K.rv.c4;obtain⟨r,q,o,m⟩:=K.rs.c4;have b:=K.rv.lt;have a:=K.rs.lt;go_wp2_with fail;go_ret;exact⟨z.out,K.bel⟩
   ·have A:Hid (((H++⟨#[47,111,102,102]⟩)++(((⟨#[40]⟩:ByteArray)++X)++⟨#[41]⟩):ByteArray)=R):=by
     show _=_
     rw [<-B.out];simp only [l.out.1,l.out.2.1,l.out.2.2];have j:(⟨#[47]⟩:ByteArray)=bs [47]:=rfl;have i:(⟨#[42]⟩:ByteArray)=bs [42]:=rfl;have g:(⟨#[47,111,102,102]⟩:ByteArray)=bs [47,111,102,102]:=rfl;have E:(⟨#[40]⟩:ByteArray)=bs [40]:=rfl;have D:(⟨#[41]⟩:ByteArray)=bs [41]:=rfl;have C:(⟨#[98,97,114]⟩:ByteArray)=bs [98,97,114]:=rfl;simp only [j,i,g,E,D,C,bs_cat];unfold stpT fromT;simp [hfp,ht,hdf]
    have z:Hid (Ending.returned (.string ((H++⟨#[47,111,102,102]⟩)++(((⟨#[40]⟩:ByteArray)++X)++⟨#[41]⟩)))=Ending.returned (.string R)):=by show _=_;rw [A.out]
    have T:decide (0<=t)=false:=decide_eq_false ht;have S:(t == -1)=true:=by simp;omega
    have g3:(d != f+1)=true:=by simp;exact hdf
    have Q:decide (f<v.p)=true:=decide_eq_true hfp;clear A l B hdf;go_enter func83,ntmps83;go_upto_region 1 with fail;refine wp_gen (λ F=>Bx w F v f t d false) ⟨by go_grown,(RowB.new _ _ _).alloc _,RowB.new' _ _ _ (by simp)⟩ ?_;intro O K;obtain⟨y,j,i,g⟩:=K.rv.c4;obtain⟨r,q,o,m⟩:=K.rs.c4;have b:=K.rv.lt;have a:=K.rs.lt;go_wp2_with fail;refine(W.out _ (hT.below K.bel)).mono ?_;rintro e N ⟨rfl,k⟩;have K:=K.below k;clear y j i g r q o m b a k;obtain⟨y,j,i,g⟩:=K.rv.c4;obtain⟨r,q,o,m⟩:=K.rs.c4;have b:=K.rv.lt;have a:=K.rs.lt;go_wp2_with fail;refine(CD.out _ (hT.below K.bel)).mono ?_;rintro e w3 ⟨rfl,k⟩;have K:=K.below k;clear y j i g r q o m b a k;obtain⟨y,j,i,g⟩:=K.rv.c4;obtain⟨r,q,o,m⟩:=K.rs.c4;have b:=K.rv.lt;have a:=K.rs.lt;go_wp2_with fail;go_ret;exact⟨z.out,K.bel⟩
 ·by_cases ht:0<=t
  ·cases h
   ·have A:Hid (((((⟨#[98,97,114]⟩:ByteArray)++⟨#[47]⟩)++G):ByteArray)=R):=by
     show _=_
     rw [<-B.out];simp only [l.out.1,l.out.2.1,l.out.2.2];have j:(⟨#[47]⟩:ByteArray)=bs [47]:=rfl;have i:(⟨#[42]⟩:ByteArray)=bs [42]:=rfl;have g:(⟨#[47,111,102,102]⟩:ByteArray)=bs [47,111,102,102]:=rfl;have E:(⟨#[40]⟩:ByteArray)=bs [40]:=rfl;have D:(⟨#[41]⟩:ByteArray)=bs [41]:=rfl;have C:(⟨#[98,97,114]⟩:ByteArray)=bs [98,97,114]:=rfl;simp only [j,i,g,E,D,C,bs_cat];unfold stpT fromT;simp [hfp,ht]
    have z:Hid (Ending.returned (.string ((((⟨#[98,97,114]⟩:ByteArray)++⟨#[47]⟩)++G)))=Ending.returned (.string R)):=by show _=_;rw [A.out]
    have T:decide (0<=t)=true:=decide_eq_true ht;have S:(t == -1)=false:=by simp;omega
    have Q:decide (f<v.p)=false:=decide_eq_false hfp;clear A l B;go_enter func83,ntmps83;go_upto_region 1 with fail;refine wp_gen (λ F=>Bx w F v f t d false) ⟨by go_grown,(RowB.new _ _ _).alloc _,RowB.new' _ _ _ (by simp)⟩ ?_;intro O K;obtain⟨y,j,i,g⟩:=K.rv.c4;obtain⟨r,q,o,m⟩:=K.rs.c4;have b:=K.rv.lt;have a:=K.rs.lt;go_wp2_with fail;refine(V.out _ (hT.below K.bel)).mono ?_;rintro e N ⟨rfl,k⟩;have K:=K.below k;clear y j i g r q o m b a k;obtain⟨y,j,i,g⟩:=K.rv.c4;obtain⟨r,q,o,m⟩:=K.rs.c4;have b:=K.rv.lt;have a:=K.rs.lt;go_wp2_with fail;go_ret;exact⟨z.out,K.bel⟩
   ·have A:Hid (((((⟨#[98,97,114]⟩:ByteArray)++⟨#[47]⟩)++G)++⟨#[42]⟩:ByteArray)=R):=by
     show _=_
     rw [<-B.out];simp only [l.out.1,l.out.2.1,l.out.2.2];have j:(⟨#[47]⟩:ByteArray)=bs [47]:=rfl;have i:(⟨#[42]⟩:ByteArray)=bs [42]:=rfl;have g:(⟨#[47,111,102,102]⟩:ByteArray)=bs [47,111,102,102]:=rfl;have E:(⟨#[40]⟩:ByteArray)=bs [40]:=rfl;have D:(⟨#[41]⟩:ByteArray)=bs [41]:=rfl;have C:(⟨#[98,97,114]⟩:ByteArray)=bs [98,97,114]:=rfl;simp only [j,i,g,E,D,C,bs_cat];unfold stpT fromT;simp [hfp,ht]
    have z:Hid (Ending.returned (.string ((((⟨#[98,97,114]⟩:ByteArray)++⟨#[47]⟩)++G)++⟨#[42]⟩))=Ending.returned (.string R)):=by show _=_;rw [A.out]
    have T:decide (0<=t)=true:=decide_eq_true ht;have S:(t == -1)=false:=by simp;omega
    have Q:decide (f<v.p)=false:=decide_eq_false hfp;clear A l B;go_enter func83,ntmps83;go_upto_region 1 with fail;refine wp_gen (λ F=>Bx w F v f t d true) ⟨by go_grown,(RowB.new _ _ _).alloc _,RowB.new' _ _ _ (by simp)⟩ ?_;intro O K;obtain⟨y,j,i,g⟩:=K.rv.c4;obtain⟨r,q,o,m⟩:=K.rs.c4;have b:=K.rv.lt;have a:=K.rs.lt;go_wp2_with fail;refine(V.out _ (hT.below K.bel)).mono ?_;rintro e N ⟨rfl,k⟩;have K:=K.below k;clear y j i g r q o m b a k;obtain⟨y,j,i,g⟩:=K.rv.c4;obtain⟨r,q,o,m⟩:=K.rs.c4;have b:=K.rv.lt;have a:=K.rs.lt;go_wp2_with fail;go_ret;exact⟨z.out,K.bel⟩
  ·exfalso;have:=H3.out;omega
theorem cut_w (l sep:By) (hl:l.length<=4194304) (w:World) (E:Env w):Calls prog 40 #[.string (bs l),.string (bs sep)] w λ e w' =>
  e=.returned (.tuple #[.string (bs (Lib.cut l sep).1),.string (bs (Lib.cut l sep).2.1),.bool (Lib.cut l sep).2.2])∧zB w w':=by
 refine(Tryz.strings_Cut_shaped (bs l) (bs sep) w E.shp (by rw [bs_size];omega)).mono ?_;rintro e w' ⟨rfl,n,rfl⟩;exact⟨rfl,below_drewN (Below.refl _ _) _⟩
theorem cpre_w (l p:By) (w:World):Calls prog 151 #[.string (bs l),.string (bs p)] w λ e w'=>e=.returned (.tuple #[.string (bs (Lib.trimPrefix l p)),.bool (Lib.hasPrefix l p)])∧w=w':=by
 refine(Tryz.strings_CutPrefix (bs l) (bs p) w).mono ?_;rintro e w' ⟨rfl,rfl⟩;exact⟨rfl,rfl⟩
theorem csuf_w (l p:By) (hl:l.length<=4194304) (w:World):Calls prog 153 #[.string (bs l),.string (bs p)] w λ e w'=>e=.returned (.tuple #[.string (bs (Lib.trimSuffix l p)),.bool (Lib.hasSuffix l p)])∧w=w':=by
 refine(Tryz.strings_CutSuffix (bs l) (bs p) w (by rw [bs_size];omega)).mono ?_;rintro e w' ⟨rfl,rfl⟩;exact⟨rfl,rfl⟩
theorem tpre_w (l p:By) (w:World):Calls prog 89 #[.string (bs l),.string (bs p)] w λ e w'=>e=.returned (.string (bs (Lib.trimPrefix l p)))∧w=w':=by
 refine(Tryz.strings_TrimPrefix (bs l) (bs p) w).mono ?_;rintro e w' ⟨rfl,rfl⟩;exact⟨rfl,rfl⟩
theorem tsuf_w (l p:By) (hl:l.length<=4194304) (w:World):Calls prog 152 #[.string (bs l),.string (bs p)] w λ e w'=>e=.returned (.string (bs (Lib.trimSuffix l p)))∧w=w':=by
 refine(Tryz.strings_TrimSuffix (bs l) (bs p) w (by rw [bs_size];omega)).mono ?_;rintro e w' ⟨rfl,rfl⟩;exact⟨rfl,rfl⟩
theorem rdd_w (l:By) (hl:l.length<=4194304) (w:World) (E:Env w):Calls prog 62 #[.string (bs l)] w λ e w'=>e=.returned (.tuple #[iL (rdDec l).1,.bool (rdDec l).2])∧zB w w' :=
 readD (bs l) (by rw [bs_size];omega) w E
theorem trp_len (l p:By):(Lib.trimPrefix l p).length<=l.length:=by
 unfold Lib.trimPrefix;split
 ·simp
 ·exact Nat.le_refl _
theorem trs_len (l p:By):(Lib.trimSuffix l p).length<=l.length:=by
 unfold Lib.trimSuffix;split
 ·rw [List.length_take];omega
 ·exact Nat.le_refl _
theorem rd_bd (l:By):-9223372036854775808<=(rdDec l).1∧(rdDec l).1<=9223372036854775807:=by
 unfold rdDec;split
 ·exact⟨by decide,by decide⟩
 ·split
  ·rename_i v hv
   have:=Lib.parseIntB_bounds hv;have a:((2 ^ (64 - 1):Nat):Int)=9223372036854775808:=by decide
   rw [a] at this;split
   ·simp only;omega
   ·exact⟨by decide,by decide⟩
  ·exact⟨by decide,by decide⟩
theorem spB (c:UInt8) (l:By):(Lib.splitB (bs [c]) 0 (Lib.countB (bs l) (bs [c])) (bs l))=(spl c l).map bs∧Lib.countB (bs l) (bs [c])+1=(spl c l).length:=by
 have d:=Lib.splitB_data (bs [c]) 0 (Lib.countB (bs l) (bs [c])) (bs l);have b:=split_spl c l.length l (Nat.le_refl _);have a:(Lib.splitB (bs [c]) 0 (Lib.countB (bs l) (bs [c])) (bs l)).map (·.data.toList)=spl c l:=by rw [d,<-b];rfl
 refine⟨?_,?_⟩
 ·rw [<-a,List.map_map];have:(bs ∘ λ x:ByteArray=>x.data.toList)=id:=funext λ x=>bs_of x
  rw [this,List.map_id]
 ·rw [<-a,List.length_map,Lib.splitB_all (bs [c]) (by rw [bs_size];exact Nat.le_refl _) 0 _ (bs l) rfl]
def enBs (x:By):List Value:=[.string (bs x)]
theorem split_w (l:By) (c:UInt8) (hl:l.length<=4194304) (w:World) (E:Env w):Calls prog 68 #[.string (bs l),.string (bs [c])] w λ e w' =>
  ∃ A cp,e=.returned (.slice A (spl c l).length cp)∧RdS w' w'.heap.size 1 enBs A (spl c l)∧zB w w':=by
 refine(Tryz.strings_Split_shaped (bs l) (bs [c]) w E.shp (by rw [bs_size];omega) (by rw [bs_size];exact Nat.le_refl _)).mono ?_;rintro e w' ⟨rfl,rfl⟩;obtain⟨h,g⟩:=spB c l;have d:=spl_len c l;rw [h,g];refine⟨_,_,rfl,⟨by unfold maxLen;omega,λ _=>⟨w.heap.size,0,rfl,by simp,λ i x b j u a=>?_⟩⟩,(Below.refl _ _).alloc (Nat.le_refl _) _⟩;have f:j=0:=by
  have:=(List.getElem?_eq_some_iff.1 a).1
  simpa [enBs] using this
 subst f;simp only [enBs,List.getElem?_cons_zero,Option.some.injEq] at a;subst a;rw [Nat.mul_one,Nat.add_zero,Nat.zero_add];rw [World.cell?_alloc_at _ _ _ _ rfl,List.getElem?_toArray,List.getElem?_map,List.getElem?_map,b]
 rfl
theorem rdBs_at {w:World} {B:Nat} {A:Option Addr} {xs:List By} (h:RdS w B 1 enBs A xs) {i:Nat} (hi:i<xs.length) :
  ∃ b off x,A=some ⟨b,off,none⟩∧b<B∧xs[i]?=some x∧w.cell? ⟨b,off+i,none⟩=some (.string (bs x)):=by
 obtain⟨b,off,x,e,d,a,c⟩:=h.at_ hi;exact⟨b,off,x,e,d,a,by simpa using c 0 _ rfl⟩
open Own Bd5
theorem enBs_len (x:By):(enBs x).length=1:=rfl
theorem steps_i (v:Vr) (A:Option Addr) (cp B:Nat) (ss:List Stp) (R:By) (hR:(if okV v=true then stpsT v ss else [])=R) (w:World) (hB:B<=w.heap.size) (hr:RdS w B 4 enSt A ss) (E:Env w) :
  Calls prog 53 #[vA v,.slice A ss.length cp] w λ e w'=>e=.returned (.string (bs R))∧zB w w':=by
 obtain⟨i0,hi,ak,aj,ai⟩:=info_parts infoT;have av:=hr.len;obtain⟨n,hn⟩:=eX (ss.length);obtain⟨ok,af⟩:=eX (okV v);have CV:=kD (λ w9=>var_i v ok af w9);rw [hn] at av ⊢;have C:=kD hn;have HR:=kD hR;have HO:=kD af;clear hR hn af;go_enter func53,ntmps53;go_upto_region 1 with fail;refine wp_gen (λ W'=>zB w W'∧RowB W' w.heap.size 25 (vL v)) ⟨by go_grown,RowB.new _ _ _⟩ ?_;rintro w1 ⟨o,l⟩;obtain⟨Z,Y,X,W⟩:=l.c4;have a:=l.lt;go_wp2_with fail;refine(CV.out _).mono ?_;rintro e w2 ⟨rfl,hb⟩;have o:=o.tR hb;have l:=l.below hb a;clear Z Y X W a hb
 cases ok
 case false =>
  obtain rfl:R=[]:=by rw [<-HR.out,HO.out];rfl
  go_wp2_with fail;go_ret;exact⟨rfl,o⟩
 have HS:Hid (stpsT v ss=R):=by show _=_;rw [<-HR.out,HO.out];rfl
 clear HR;by_cases h4:4<n
 ·obtain rfl:R=[]:=by rw [<-HS.out];unfold stpsT;rw [if_pos (by rw [C.out];exact h4)]
  have d4:decide ((4:Int)<(n:Int))=true:=decide_eq_true (by omega);clear h4;go_wp2_with fail;go_ret;exact⟨rfl,o⟩
 have d4:decide ((4:Int)<(n:Int))=false:=decide_eq_false (by omega);by_cases h0:n=0
 ·obtain rfl:R=[45]:=by rw [<-HS.out];unfold stpsT;rw [if_neg (by rw [C.out];exact h4),if_pos (by rw [C.out];exact h0)]
  have d0:((n:Int) == 0)=true:=by simp [h0]
  clear h0 h4;go_wp2_with fail;go_ret;exact⟨rfl,o⟩
 have d0:((n:Int) == 0)=false:=by simp [h0]
 have HT:Hid (R=if allPl v ss=true then Lib.join (ss.map (stpT v)) [32] else []):=by show _=_;rw [<-HS.out];unfold stpsT;rw [if_neg (by rw [C.out];exact h4),if_neg (by rw [C.out];exact h0)]
 have N:=l.lt;clear HS;go_wp2_with (at_make;refine wpList_make_full _ rfl _ _ _ rfl w2.heap.size 9 i0 _ 1 Tryz.underlying87 hi ak aj _ _ _ _ n rfl rfl rfl rfl ?c1 ?c2 (Nat.le_refl _) ?_)
 case c1=>rw [ai];omega
 case c2=>unfold maxLen;omega
 intro w3 aa F;have D:=kD (RowB.of_own aa);have ag:zB w2 w3:=(Below.refl _ _).grown F (Nat.le_refl _) (by simp);have ac:=o.tR ag;have l:=l.below ag N;obtain⟨G,hG⟩:=eX (w2.heap.size);have aE:w.heap.size+1<=G:=by rw [<-hG];exact N
 rw [hG] at D ⊢;have aC:n<=4:=by omega
 have aD:0<n:=by omega
 clear aa F o ag N hG d4 d0 h4 h0 hi ak aj ai;go_wp2_with fail;go_loopw [6,24] (λ _ i wr=>∃ k:Nat,k<=n∧i=iL (k:Int)∧zB w wr∧RowB wr w.heap.size 25 (vL v)∧Hid (RowB wr G 9 (((ss.take k).map (stpT v)).flatMap enBs++List.replicate (n - k) (.string ⟨#[]⟩)))∧Hid (∀ s ∈ ss.take k,plainB v s=true)) (λ _ i _=>n - (intOf i).toNat)
 case atStart=>exact⟨0,Nat.zero_le _,rfl,ac,l,by simpa [made_rep] using D,kD (λ s K=>by simp at K)⟩
 case round =>
  obtain⟨k,hk,rfl,r,l,hR,an⟩:=hrel;clear ac D;have O:=hR.out.lt;have a:=l.lt;obtain⟨Z,Y,X,W⟩:=l.c4;by_cases hlt:k<n
  ·obtain⟨b,aB,f,t,d,h,rfl,hb,al,x0,x1,x2,x3⟩:=rdStp_at (hr.below r hB) (by rw [C.out];exact hlt);have HX:=kD al;have ax:b<wr.heap.size:=by have:=r.size;omega
   clear al;go_upto_region 9 with fail;refine wp_gen (λ W'=>zB wr W'∧RowB W' wr.heap.size 111 [iL f,iL t,iL d,.bool h]) ⟨(Below.refl _ _).alloc (Nat.le_refl _) _,RowB.new _ _ _⟩ ?_;rintro w4 ⟨Q,V⟩;obtain⟨gs,ao⟩:=eX (wr.heap.size);have H:=r.tR Q;have l:=l.below Q a;have hR:=kD (hR.out.below Q O);rw [ao] at V ⊢;clear Z Y X W x0 x1 x2 x3 hb ax O a Q ao r;have O:=hR.out.lt;have a:=l.lt;have M:=V.lt;obtain⟨Z,Y,X,W⟩:=l.c4;obtain⟨x0,x1,x2,x3⟩:=V.c4;obtain⟨pb,ae⟩:=eX (plainB v (f,t,d,h));have CP:=kD (λ w9=>plain_i v HO.out (f,t,d,h) pb ae w9);simp only at CP;have ah:=kD ae;clear ae;go_wp2_with fail;refine(CP.out _).mono ?_;rintro e w5 ⟨rfl,I⟩;have q:=H.tR I;have l:=l.below I a;have V:=V.below I M;have hR:=kD (hR.out.below I O);clear Z Y X W x0 x1 x2 x3 O a M I H CP;have O:=hR.out.lt;have a:=l.lt;have M:=V.lt;obtain⟨Z,Y,X,W⟩:=l.c4;obtain⟨x0,x1,x2,x3⟩:=V.c4
   cases pb
   case false =>
    have az:R=[]:=by
     rw [HT.out,if_neg];intro ha;have:=List.all_eq_true.1 ha _ (List.mem_of_getElem? HX.out);rw [ah.out] at this;simp at this
    subst az;clear HT;go_wp2_with fail;go_ret;exact⟨rfl,q⟩
   have CT:=kD (λ(w9:World) (E9:Env w9)=>step_i v HO.out (f,t,d,h) ah.out w9 E9.tab);obtain⟨tx,ad⟩:=eX (stpT v (f,t,d,h));rw [ad] at CT;simp only at CT;have aA:=kD ad;clear ad;go_wp2_with fail;refine(CT.out _ (E.below q)).mono ?_;rintro e w6 ⟨rfl,P⟩;have ap:=q.tR P;have l:=l.below P a;have T:=kD (hR.out.below P O);clear Z Y X W x0 x1 x2 x3 O a M P q CT V hR;have N:=T.out.lt;have aF:=T.out.frozen;have aw:w.heap.size≠G:=by omega
   obtain⟨z,hz⟩:∃ z,w6.cell? ⟨G,k,none⟩=some z:=by
    rw [T.out.cell];refine⟨_,List.getElem?_eq_getElem ?_⟩;rw [List.length_append,flatMap_len enBs_len,List.length_map,List.length_take,List.length_replicate,C.out];omega
   have HF:Hid (RowB (w6.setCell ⟨G,k,none⟩ (.string (bs tx))) G 9 (((ss.take (k+1)).map (stpT v)).flatMap enBs++List.replicate (n - (k+1)) (.string ⟨#[]⟩))):=by
    have h3:=T.out.set k (.string (bs tx));obtain⟨m,hm⟩:∃ m,n - k=m+1:=⟨n - k - 1,by omega⟩;have ar:(ss.map (stpT v))[k]?=some tx:=by rw [List.getElem?_map,HX.out,<-aA.out];rfl
    rw [hm,List.map_take,fill1 ar rfl enBs_len] at h3;rw [show n - (k+1)=m from by omega,List.map_take];exact h3
   have HQ:Hid (∀ s ∈ ss.take (k+1),plainB v s=true):=by
    show ∀ s ∈ ss.take (k+1),plainB v s=true
    rw [take_succ ss k _ HX.out];intro s K;rcases List.mem_append.1 K with K | K
    ·exact an.out s K
    ·simp at K;subst K;exact ah.out
   have qs:=kD (ap.setCell (p:=⟨G,k,none⟩) (by show w.heap.size<=G;omega) (.string (bs tx)));have qv:=kD (l.other (p:=⟨G,k,none⟩) aw (.string (bs tx)));clear l;go_wp2_with fail;go_roundw
   case rel=>exact⟨k+1,by omega,by go_num,qs.out,qv.out,HF,HQ⟩
   case measure=>simp [intOf];omega
  ·obtain rfl:k=n:=by omega
   have L:=hR.out;rw [Nat.sub_self,List.replicate_zero,List.append_nil,List.take_of_length_le (by rw [C.out];exact Nat.le_refl _)] at L;have J:allPl v ss=true:=by
    unfold allPl;rw [List.all_eq_true];intro s K;exact an.out s (by rw [List.take_of_length_le (by rw [C.out];exact Nat.le_refl _)];exact K)
   have S:R=Lib.join (ss.map (stpT v)) [32]:=by rw [HT.out,if_pos J]
   have ab:=stpsT_len HO.out (ss:=ss);have am:stpsT v ss=Lib.join (ss.map (stpT v)) [32]:=by unfold stpsT;rw [if_neg (by rw [C.out];omega),if_neg (by rw [C.out];omega),if_pos J]
   rw [am,<-S] at ab;have HJ:Hid ((ss.map λ s=>bs (stpT v s)).map (·.data.toList)=ss.map (stpT v)):=by show _=_;rw [List.map_map];exact List.map_congr_left λ x _=>rfl
   have CJ:=Tryz.strings_Join G 0 k (ss.map λ s=>bs (stpT v s)) (bs [32]) wr (λ j x hj=>by
    rw [List.getElem?_map] at hj;obtain⟨y,hy,rfl⟩:=Option.map_eq_some_iff.1 hj;rw [Nat.zero_add,L.cell];have aq:(ss.map (stpT v))[j]?=some (stpT v y):=by rw [List.getElem?_map,hy];rfl
    have:=flatMap_at enBs_len (ss.map (stpT v)) j _ aq 0 _ rfl
    simpa using this) L.lt (by rw [List.length_map,C.out];omega) (by rw [List.length_map,C.out];exact Nat.le_refl _) (by rw [HJ.out,bs_data,<-S];omega)
   rw [List.length_map,C.out,HJ.out,bs_data,<-S] at CJ;have CJ:=kD CJ;clear hR L J S ab am HT HJ Z Y X W O a;go_wp2_with fail;refine CJ.out.mono ?_;rintro e w2 ⟨rfl,ay⟩;go_wp2_with fail;go_ret;exact⟨rfl,r.tR ay⟩
end TxI
end Go.Proofs.YtjdefiinmicjiaaGreatDoor
