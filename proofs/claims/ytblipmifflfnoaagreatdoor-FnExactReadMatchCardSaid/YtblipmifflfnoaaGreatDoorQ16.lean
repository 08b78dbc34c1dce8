/- Parts of the proof of FnExactReadMatch. Conditions: each theorem's own. -/
import Derived.Test.YtblipmifflfnoaaGreatDoorQ05
import Derived.Lib.ParseIntB
import Derived.Lib.ItoaNum
import Derived.Lib.IndexMore
import Derived.Lib.Strings
import Derived.Lib.SplitLaws
import Derived.Lib.Join
import Derived.IntWalk
set_option linter.unusedVariables false
set_option linter.unusedSimpArgs false
set_option maxHeartbeats 8000000
set_option maxRecDepth 100000
namespace Go.Proofs.YtblipmifflfnoaaGreatDoor
namespace TxP
open Go
abbrev By:=List UInt8
def dg (d:Nat):UInt8:=UInt8.ofNat (48+d)
theorem dg_nat {d:Nat} (h:d<10):(dg d).toNat=48+d:=by unfold dg;rw [UInt8.toNat_ofNat_of_lt' (by show 48+d<256;omega)]
theorem dg_ne {d:Nat} (h:d<10) {c:UInt8} (hc:c.toNat<48∨57<c.toNat):dg d≠c:=by
 intro e;have a:=dg_nat h;rw [e] at a;omega
theorem ito_cases {n:Int} (h0:0<=n) (h1:n<100):(n<10∧Lib.itoa n=[dg n.toNat])∨(10<=n∧Lib.itoa n=[dg (n.toNat / 10),dg (n.toNat % 10)]):=by
 have e:Lib.itoa n=Lib.decDigits n.toNat:=by unfold Lib.itoa;rw [if_neg (by omega)]
 rw [e];by_cases h:n<10
 ·exact .inl ⟨h,Lib.decDigits_one (by omega)⟩
 ·exact .inr ⟨by omega,Lib.decDigits_two (by omega) (by omega)⟩
theorem ito_len {n:Int} (h0:0<=n) (h1:n<100):1<=(Lib.itoa n).length∧(Lib.itoa n).length<=2:=by
 rcases ito_cases h0 h1 with ⟨_,e⟩ | ⟨_,e⟩ <;> rw [e] <;> simp
theorem ito_one {n:Int} (h0:0<=n) (h1:n<10):Lib.itoa n=[dg n.toNat]:=by
 rcases ito_cases h0 (by omega) with ⟨_,e⟩ | ⟨h,e⟩
 ·exact e
 ·omega
theorem ito_ne {n:Int} (h0:0<=n) (h1:n<100) {c:UInt8} (hc:c.toNat<48∨57<c.toNat):∀ x ∈ Lib.itoa n,x≠c:=by
 intro x a;rcases ito_cases h0 h1 with ⟨_,e⟩ | ⟨_,e⟩ <;> rw [e] at a <;> simp at a
 ·subst a;exact dg_ne (by omega) hc
 ·rcases a with rfl | rfl <;> exact dg_ne (by omega) hc
def rdDec (l:By):Int × Bool :=
 if Lib.trimPrefix l [45]=[]∨19<(Lib.trimPrefix l [45]).length then (0,false)
 else match Lib.parseIntB 64 l with
  | .ok v=>if Lib.itoa v=l then (v,true) else (0,false)
  | _=>(0,false)
theorem pu_dg {M acc d:Nat} {l:By} (hd:d<10) (ha:acc<100000) (hM:10000000<=M):Lib.parseUintM M acc (dg d :: l)=Lib.parseUintM M (acc*10+d) l:=by
 have a:=dg_nat hd;rw [Lib.parseUintM,a,if_pos (by omega),if_neg (by omega),if_neg (by omega)]
 congr 1
 omega
theorem pi_of {c:Nat} {l:By} {u:Nat} (hc:c<10) (h:Lib.parseUintM 18446744073709551615 0 (dg c :: l)=.ok u) (hu:u<100000):Lib.parseIntB 64 (dg c :: l)=.ok (u:Int):=by
 have a:=dg_nat hc;unfold Lib.parseIntB;simp only [a];rw [if_neg (by omega)];unfold Lib.parseUintB;rw [if_neg (by simp)];simp only [show 2 ^ 64 - 1=18446744073709551615 from by decide,h];rw [if_neg (by omega),if_neg (by omega),if_neg (by omega)]
theorem pi1 {a:Nat} (ha:a<10):Lib.parseIntB 64 [dg a]=.ok (a:Int):=by
 refine pi_of ha ?_ (by omega);rw [pu_dg ha (by omega) (by omega),Lib.parseUintM];congr 1;omega
theorem pi2 {a b:Nat} (ha:a<10) (hb:b<10):Lib.parseIntB 64 [dg a,dg b]=.ok ((a*10+b:Nat):Int):=by
 refine pi_of ha ?_ (by omega);rw [pu_dg ha (by omega) (by omega),pu_dg hb (by omega) (by omega),Lib.parseUintM];congr 1;omega
theorem trim_dg {c:Nat} {l:By} (hc:c<10):Lib.trimPrefix (dg c :: l) [45]=dg c :: l:=by
 have a:dg c≠45:=dg_ne hc (by decide);unfold Lib.trimPrefix Lib.hasPrefix;rw [if_neg];simp [List.isPrefixOf];exact λ h=>a h.symm
theorem rd_ito {n:Int} (h0:0<=n) (h1:n<100):rdDec (Lib.itoa n)=(n,true):=by
 have a:∀ l:By,Lib.trimPrefix l [45]=l->1<=l.length->l.length<=2->Lib.parseIntB 64 l=.ok n->Lib.itoa n=l->rdDec l=(n,true):=by
  intro l g b i f d;unfold rdDec;have c:¬ (l=[]∨19<l.length):=by
   rintro(h | h)
   ·rw [h] at b;simp at b
   ·omega
  rw [g,if_neg c,f];simp only;rw [if_pos d]
 rcases ito_cases h0 h1 with ⟨hl,e⟩ | ⟨hl,e⟩
 ·refine a _ (by rw [e];exact trim_dg (by omega)) (by rw [e];simp) (by rw [e];simp) ?_ rfl;rw [e,pi1 (by omega)];congr 1;omega
 ·refine a _ (by rw [e];exact trim_dg (by omega)) (by rw [e];simp) (by rw [e];simp) ?_ rfl;rw [e,pi2 (by omega) (by omega)];congr 1;omega
theorem rd_back {l:By} {n:Int} (h:rdDec l=(n,true)):Lib.itoa n=l:=by
 unfold rdDec at h;split at h
 ·simp at h
 ·split at h
  ·split at h
   ·rename_i h1;simp only [Prod.mk.injEq,and_true] at h;rw [<-h];exact h1
   ·simp at h
  ·simp at h
def isD (b:UInt8):Bool:=decide (48<=b.toNat∧b.toNat<=57)
def numU (l:By):Nat->Int
 | 0=>0
 | k+1=>10*numU l k+((((l.getD k 0).toNat:Nat):Int) - 48)
def valS (l:By):Int × Bool :=
 if l.length=0∨15<l.length∨(1<l.length∧l.getD 0 0=48) then (0,false) else if l.all isD then (numU l l.length,true) else (0,false)
theorem dgD {d:Nat} (h:d<10):isD (dg d)=true:=by unfold isD;rw [dg_nat h];exact decide_eq_true (by omega)
theorem val_ito {n:Int} (h0:0<=n) (h1:n<100):valS (Lib.itoa n)=(n,true):=by
 rcases ito_cases h0 h1 with ⟨hl,e⟩ | ⟨hl,e⟩
 ·have a:=dg_nat (show n.toNat<10 by omega);have d:=dgD (show n.toNat<10 by omega);rw [e];simp [valS,numU,d,a];omega
 ·have a:=dg_nat (show n.toNat / 10<10 by omega);have d:=dgD (show n.toNat / 10<10 by omega);have b:=dg_nat (show n.toNat % 10<10 by omega);have c:=dgD (show n.toNat % 10<10 by omega);have f:¬ dg (n.toNat / 10)=48:=by
   intro h;have:=congrArg UInt8.toNat h;rw [a] at this;have:(48:UInt8).toNat=48:=rfl;omega
  rw [e];simp [valS,numU,d,a,c,b,f];omega
theorem num_bd {l:By} (h:l.all isD=true):∀ k,k<=l.length->0<=numU l k∧numU l k<10 ^ k:=by
 intro k
 induction k with
 | zero=>intro _;simp [numU]
 | succ k ih =>
  intro b;have c:=ih (by omega);have a:isD (l.getD k 0)=true:=by
   rw [List.getD_eq_getElem?_getD,List.getElem?_eq_getElem (by omega)];exact List.all_eq_true.1 h _ (List.getElem_mem _)
  unfold isD at a;simp only [decide_eq_true_eq] at a;have e:((10:Int) ^ (k+1))=10*10 ^ k:=by rw [Int.pow_succ,Int.mul_comm]
  rw [e];unfold numU;omega
theorem val_back {l:By} {n:Int} (h:valS l=(n,true)) (h0:0<=n) (h1:n<100):Lib.itoa n=l:=by
 unfold valS at h;split at h
 ·simp at h
 ·rename_i hn
  split at h
  ·rename_i ha
   simp only [Prod.mk.injEq,and_true] at h;have r:1<=l.length:=by
    rcases Nat.eq_zero_or_pos l.length with h2 | h2
    ·exact absurd (.inl h2) hn
    ·exact h2
   have p:∀ x ∈ l,∃ d:Nat,d<10∧x=dg d:=by
    intro x f;have:=List.all_eq_true.1 ha x f;unfold isD at this;simp only [decide_eq_true_eq] at this;refine⟨x.toNat - 48,by omega,?_⟩;unfold dg;rw [show 48+(x.toNat - 48)=x.toNat by omega];exact(UInt8.ofNat_toNat).symm
   have j:l.length<=2:=by
    rcases Nat.lt_or_ge 2 l.length with h3 | h3
    ·exfalso
     have q:¬ l.getD 0 0=48:=λ e=>hn (.inr (.inr ⟨by omega,e⟩))
     have m:∀ k,1<=k->k<=l.length->10 ^ (k - 1)<=numU l k:=by
      intro k
      induction k with
      | zero=>intro h;omega
      | succ k ih =>
       intro _ s;have f:isD (l.getD k 0)=true:=by
        rw [List.getD_eq_getElem?_getD,List.getElem?_eq_getElem (by omega)];exact List.all_eq_true.1 ha _ (List.getElem_mem _)
       unfold isD at f;simp only [decide_eq_true_eq] at f;rcases Nat.eq_zero_or_pos k with hk0 | hk0
       ·subst hk0;have:(l.getD 0 0).toNat≠48:=λ e=>q (UInt8.toNat_inj.1 (by rw [e];rfl))
        simp only [numU,Nat.zero_add,Nat.sub_self,Int.pow_zero];omega
       ·have w:=ih hk0 (by omega);have e:((10:Int) ^ (k+1 - 1))=10*10 ^ (k - 1):=by
         rw [show k+1 - 1=(k - 1)+1 by omega,Int.pow_succ,Int.mul_comm]
        rw [e];unfold numU;omega
     have v:=m l.length r (Nat.le_refl _);have t:((10:Int) ^ 2)<=10 ^ (l.length - 1):=by
      have:(10:Nat) ^ 2<=10 ^ (l.length - 1):=Nat.pow_le_pow_right (by omega) (by omega)
      exact_mod_cast this
     omega
    ·exact h3
   match l,r,j with
   | [a],_,_ =>
    obtain⟨d,c,rfl⟩:=p a (by simp);have i:=dg_nat c;simp [numU,i] at h;rw [<-h,ito_one (by omega) (by omega)]
    congr 2
    omega
   | [a,b],_,_ =>
    obtain⟨d,c,rfl⟩:=p a (by simp);obtain⟨y,o,rfl⟩:=p b (by simp);have i:=dg_nat c;have g:=dg_nat o;have q:d≠0:=by
     intro e;subst e;exact hn (.inr (.inr ⟨by simp,rfl⟩))
    simp [numU,i,g] at h;rcases ito_cases h0 h1 with ⟨h7,_⟩ | ⟨_,e⟩
    ·omega
    ·rw [e]
     congr 2
     ·omega
     ·congr 2;omega
  ·simp at h
theorem index_at:∀(a b:By) (c:UInt8),(∀ x ∈ a,x≠c)->Lib.index (a++c :: b) [c]=(a.length:Int):=by
 intro a
 induction a with
 | nil=>intro b c _;simp [Lib.index,List.isPrefixOf]
 | cons x a ih =>
  intro b c h;have f:=h x (List.mem_cons_self ..);have:=ih b c (λ y d=>h y (List.mem_cons_of_mem _ d));rw [List.cons_append,Lib.index,this];have g:([c]:By).isPrefixOf (x :: (a++c :: b))=false:=by
   simp [List.isPrefixOf];exact λ e=>f e.symm
  rw [g];simp only [Bool.false_eq_true,if_false];rw [if_neg (by simp;try omega)];simp
theorem index_no:∀(a:By) (c:UInt8),(∀ x ∈ a,x≠c)->Lib.index a [c]=-1:=by
 intro a
 induction a with
 | nil=>intro c _;simp [Lib.index]
 | cons x a ih =>
  intro c h;have d:=h x (List.mem_cons_self ..);have:=ih c (λ y b=>h y (List.mem_cons_of_mem _ b));rw [Lib.index,this];have f:([c]:By).isPrefixOf (x :: a)=false:=by
   simp [List.isPrefixOf];exact λ e=>d e.symm
  rw [f];simp
theorem cut_at (a b:By) (c:UInt8) (h:∀ x ∈ a,x≠c):Lib.cut (a++c :: b) [c]=(a,b,true):=by
 have d:=index_at a b c h;unfold Lib.cut;rw [d,if_pos (by omega)];simp
theorem cut_no (a:By) (c:UInt8) (h:∀ x ∈ a,x≠c):Lib.cut a [c]=(a,[],false):=by
 unfold Lib.cut;rw [index_no a c h,if_neg (by omega)]
theorem cut_len (l sep:By):(Lib.cut l sep).1.length<=l.length∧(Lib.cut l sep).2.1.length<=l.length:=by
 unfold Lib.cut;split
 ·exact⟨by rw [List.length_take];omega,by rw [List.length_drop];omega⟩
 ·exact⟨Nat.le_refl _,by simp⟩
theorem cut_rest (l sep:By) (hs:0<sep.length) (h:(Lib.cut l sep).2.2=true):(Lib.cut l sep).2.1.length<l.length:=by
 unfold Lib.cut at h ⊢;split
 ·rename_i h1
  have:=Lib.index_room l sep h1;simp only [List.length_drop];omega
 ·rename_i h1;rw [if_neg h1] at h;simp at h
theorem cut_join {l sep a b:By} (h:Lib.cut l sep=(a,b,true)):l=a++sep++b:=by
 unfold Lib.cut at h;split at h
 ·rename_i h1
  rcases Lib.index_spec l sep with ⟨h2,_⟩ | ⟨i,h2,h3,h4,_⟩
  ·omega
  ·rw [h2] at h;simp only [Prod.mk.injEq,and_true,Int.toNat_natCast] at h;obtain⟨rfl,rfl⟩:=h;have e:sep <+: l.drop i:=by simpa [Lib.occAt] using h4
   obtain⟨t,c⟩:=e;have d:l.drop (i+sep.length)=t:=by rw [<-List.drop_drop,<-c,List.drop_left]
   rw [d,List.append_assoc,c,List.take_append_drop]
 ·simp at h
def spl (c:UInt8):By->List By
 | []=>[[]]
 | x :: l=>if x=c then [] :: spl c l else match spl c l with
  | p :: ps=>(x :: p) :: ps
  | []=>[[x]]
theorem spl_ne (c:UInt8) (l:By):spl c l≠[]:=by
 cases l with
 | nil=>simp [spl]
 | cons x l =>
  unfold spl;split
  ·simp
  ·split <;> simp
theorem spl_at:∀(a b:By) (c:UInt8),(∀ x ∈ a,x≠c)->spl c (a++c :: b)=a :: spl c b:=by
 intro a
 induction a with
 | nil=>intro b c _;simp [spl]
 | cons x a ih =>
  intro b c h;have e:=h x (List.mem_cons_self ..);rw [List.cons_append,spl,if_neg e,ih b c (λ y d=>h y (List.mem_cons_of_mem _ d))]
theorem spl_no:∀(a:By) (c:UInt8),(∀ x ∈ a,x≠c)->spl c a=[a]:=by
 intro a
 induction a with
 | nil=>intro c _;rfl
 | cons x a ih =>
  intro c h;have d:=h x (List.mem_cons_self ..);rw [spl,if_neg d,ih c (λ y b=>h y (List.mem_cons_of_mem _ b))]
theorem spl_len (c:UInt8):∀ l,(spl c l).length<=l.length+1:=by
 intro l
 induction l with
 | nil=>simp [spl]
 | cons x l ih =>
  unfold spl;split
  ·simp;omega
  ·split
   ·rename_i h;rw [h] at ih;simpa using Nat.le_succ_of_le ih
   ·simp
theorem spl_join (c:UInt8):∀ l,Lib.join (spl c l) [c]=l:=by
 intro l
 induction l with
 | nil=>rfl
 | cons x l ih =>
  unfold spl;have a:=spl_ne c l;split
  ·rename_i h
   subst h
   cases hs:spl x l with
   | nil=>exact absurd hs a
   | cons p ps =>
    rw [hs] at ih;rw [Lib.join_cons] at ih ⊢;simp only [Lib.joinTail,List.map_cons,List.flatten_cons,List.nil_append,List.cons_append,List.singleton_append];rw [<-ih];simp [Lib.joinTail]
  ·cases hs:spl c l with
   | nil=>exact absurd hs a
   | cons p ps =>
    rw [hs] at ih;rw [Lib.join_cons] at ih ⊢;rw [List.cons_append,ih]
theorem has_split (c:UInt8):∀ l:By,(∃ x ∈ l,x=c)->∃ a b,l=a++c :: b∧∀ x ∈ a,x≠c:=by
 intro l
 induction l with
 | nil=>intro h;obtain⟨x,d,_⟩:=h;simp at d
 | cons y l ih =>
  intro h;by_cases hy:y=c
  ·exact⟨[],l,by simp [hy],by simp⟩
  ·obtain⟨x,d,e⟩:=h;rcases List.mem_cons.1 d with rfl | d
   ·exact absurd e hy
   ·obtain⟨a,b,i,g⟩:=ih ⟨x,d,e⟩;refine⟨y :: a,b,by simp [i],?_⟩;intro z f;rcases List.mem_cons.1 f with rfl | f
    ·exact hy
    ·exact g z f
theorem spl_cut (c:UInt8) (l:By):spl c l=if (Lib.cut l [c]).2.2=true then (Lib.cut l [c]).1 :: spl c (Lib.cut l [c]).2.1 else [l]:=by
 by_cases h:∃ x ∈ l,x=c
 ·have this:=has_split c l h;obtain⟨a,b,rfl,f⟩:=this;rw [spl_at a b c f,cut_at a b c f];simp
 ·have d:∀ x ∈ l,x≠c:=λ x g e=>h ⟨x,g,e⟩
  rw [spl_no l c d,cut_no l c d];simp
theorem split_spl (c:UInt8):∀(n:Nat) (l:By),l.length<=n->Lib.split l [c]=spl c l:=by
 intro n
 induction n with
 | zero =>
  intro l d;have:l=[]:=List.eq_nil_of_length_eq_zero (by omega);subst this
  rfl
 | succ n ih =>
  intro l d;rw [spl_cut];by_cases hm:Lib.index l [c]=-1
  ·have e:Lib.cut l [c]=(l,[],false):=by unfold Lib.cut;rw [hm,if_neg (by omega)]
   rw [e];simp only [Bool.false_eq_true,if_false];unfold Lib.split;rw [Lib.count_miss hm]
   rfl
  ·have f:=Lib.index_ge l [c];obtain⟨j,a⟩:∃ j:Nat,Lib.index l [c]=j:=⟨(Lib.index l [c]).toNat,by omega⟩;have b:=Lib.index_room l [c] (by omega);have e:Lib.cut l [c]=(l.take j,l.drop (j+1),true):=by unfold Lib.cut;rw [a,if_pos (by omega)];simp
   rw [e];simp only [if_true];have g:=ih (l.drop (j+1)) (by rw [List.length_drop];simp at b;omega);rw [<-g];unfold Lib.split;rw [Lib.count_hit (by simp) a,Nat.add_comm,Lib.splitK,if_neg (by rw [a];simp),a];simp
open PlP
def plainB (v:Vr) (s:Stp):Bool :=
 decide (0<=s.1∧s.1<=v.p) && decide (1<=s.2.2.1∧s.2.2.1<=v.s) &&
 (if s.2.1=-1 then !s.2.2.2 && decide (s.1<v.p∧s.1<s.2.2.1) else decide (0<=s.2.1∧s.2.1=s.1 - s.2.2.1))
def fromT (v:Vr) (f:Int):By:=if f<v.p then Lib.itoa (f+1) else [98,97,114]
def stpT (v:Vr) (s:Stp):By :=
 fromT v s.1++[47]++(if 0<=s.2.1 then Lib.itoa (s.2.1+1)++(if s.2.2.2 then [42] else []) else [111,102,102]++(if s.2.2.1=s.1+1 then [] else [40]++Lib.itoa s.2.2.1++[41]))
theorem plain_parts {v:Vr} {s:Stp} (h:plainB v s=true):(0<=s.1∧s.1<=v.p)∧(1<=s.2.2.1∧s.2.2.1<=v.s)∧((s.2.1=-1∧s.2.2.2=false∧s.1<v.p∧s.1<s.2.2.1)∨(0<=s.2.1∧s.2.1=s.1 - s.2.2.1)):=by
 unfold plainB at h;simp only [Bool.and_eq_true,decide_eq_true_eq] at h;obtain⟨⟨c,b⟩,a⟩:=h;refine⟨c,b,?_⟩;split at a
 ·rename_i h4
  simp only [Bool.and_eq_true,decide_eq_true_eq,Bool.not_eq_true'] at a;exact .inl ⟨h4,a.1,a.2⟩
 ·exact .inr (by simpa using a)
theorem from_ne {v:Vr} (hv:okV v=true) {f:Int} (h0:0<=f) {c:UInt8} (hc:c.toNat<48∨(57<c.toNat∧c.toNat<97)):∀ x ∈ fromT v f,x≠c:=by
 intro x a;have b:=(okV_iff.1 hv).1;unfold fromT at a;split at a
 ·exact ito_ne (by omega) (by omega) (by omega) x a
 ·simp at a;rintro rfl;rcases a with rfl | rfl | rfl <;> revert hc <;> decide
theorem from_back {v:Vr} (hv:okV v=true) {f:Int} (h0:0<=f) (h1:f<=v.p):if f<v.p then fromT v f=Lib.itoa (f+1)∧fromT v f≠[98,97,114] else f=v.p∧fromT v f=[98,97,114]:=by
 have a:=(okV_iff.1 hv).1;unfold fromT;split
 ·refine⟨rfl,λ h=>?_⟩;exact ito_ne (n:=f+1) (by omega) (by omega) (c:=98) (by decide) 98 (by rw [h];simp) rfl
 ·exact⟨by omega,rfl⟩
def inner (r:By):By:=Lib.trimSuffix (Lib.trimPrefix r [40]) [41]
def gI (v:Vr) (t:By):Option Stp :=
 if (Lib.cut t [47]).2.2=false then none
 else if ¬ (Lib.cut t [47]).1=[98,97,114]∧(rdDec (Lib.cut t [47]).1).2=false then none
 else
  let f:=if (Lib.cut t [47]).1=[98,97,114] then v.p else IntKind.i64.wrap ((rdDec (Lib.cut t [47]).1).1 - 1)
  let r:=(Lib.cut t [47]).2.1
  if Lib.hasPrefix r [111,102,102]=true then
   (if r.drop 3=[] then some (f,-1,IntKind.i64.wrap (f+1),false)
    else if (rdDec (inner (r.drop 3))).2=true then some (f,-1,(rdDec (inner (r.drop 3))).1,false) else none)
  else if (rdDec (Lib.trimSuffix r [42])).2=true then
   some (f,IntKind.i64.wrap ((rdDec (Lib.trimSuffix r [42])).1 - 1),IntKind.i64.wrap (f - IntKind.i64.wrap ((rdDec (Lib.trimSuffix r [42])).1 - 1)),Lib.hasSuffix r [42])
  else none
def rdI (v:Vr) (t:By):Option Stp:=match gI v t with
 | some s=>if plainB v s=true∧stpT v s=t then some s else none
 | none=>none
def gS (v:Vr) (t:By):Stp :=
 match spl 47 t with
 | [a,e] =>
  let f:=if a=[98,97,114] then v.p else (valS a).1 - 1
  if 3<=e.length∧e.take 3=[111,102,102] then (f,-1,if 5<e.length then (valS ((e.take (e.length - 1)).drop 4)).1 else f+1,false)
  else if 0<e.length∧e.getD (e.length - 1) 0=42 then (f,(valS (e.take (e.length - 1))).1 - 1,f - ((valS (e.take (e.length - 1))).1 - 1),true)
  else (f,(valS e).1 - 1,f - ((valS e).1 - 1),false)
 | _=>(0,0,0,false)
def rdS (v:Vr) (t:By):Option Stp:=if plainB v (gS v t)=true∧stpT v (gS v t)=t then some (gS v t) else none
theorem suf1 (a:By) (c:UInt8):Lib.hasSuffix (a++[c]) [c]=true:=by
 unfold Lib.hasSuffix;rw [List.isSuffixOf_iff_suffix];exact⟨a,rfl⟩
theorem suf_no {a:By} {c:UInt8} (h:∀ x ∈ a,x≠c):Lib.hasSuffix a [c]=false:=by
 cases h1:Lib.hasSuffix a [c] with
 | false=>rfl
 | true =>
  unfold Lib.hasSuffix at h1;rw [List.isSuffixOf_iff_suffix] at h1;obtain⟨t,b⟩:=h1;exact absurd rfl (h c (by rw [<-b];simp))
theorem tsuf1 (a:By) (c:UInt8):Lib.trimSuffix (a++[c]) [c]=a:=by
 unfold Lib.trimSuffix;rw [suf1,if_pos rfl];simp
theorem tsuf_no {a:By} {c:UInt8} (h:∀ x ∈ a,x≠c):Lib.trimSuffix a [c]=a:=by
 unfold Lib.trimSuffix;rw [suf_no h];simp
theorem pre_no {a b:By} {c:UInt8} (h:a.getD 0 0≠c) (ha:a≠[]) (p:By):Lib.hasPrefix (a++b) (c :: p)=false:=by
 cases a with
 | nil=>exact absurd rfl ha
 | cons x a =>
  unfold Lib.hasPrefix;simp only [List.cons_append,List.isPrefixOf];have:(c == x)=false:=by
   rw [beq_eq_false_iff_ne];intro e;exact h (by rw [<-e];rfl)
  rw [this];rfl
theorem ito_head {n:Int} (h0:0<=n) (h1:n<100) {c:UInt8} (hc:c.toNat<48∨57<c.toNat):(Lib.itoa n).getD 0 0≠c∧Lib.itoa n≠[]:=by
 have b:=ito_len h0 h1;have a:Lib.itoa n≠[]:=by intro e;rw [e] at b;simp at b
 refine⟨?_,a⟩;refine ito_ne h0 h1 hc _ ?_;rw [List.getD_eq_getElem?_getD,List.getElem?_eq_getElem (by omega)];exact List.getElem_mem _
theorem gI_text {v:Vr} (hv:okV v=true) {s:Stp} (h:plainB v s=true):gI v (stpT v s)=some s:=by
 obtain⟨f,t,d,b⟩:=s;obtain⟨l,A,y⟩:=plain_parts h;simp only at l A y;have B:=okV_iff.1 hv;have e:=from_back hv l.1 l.2;have hcut:∀ r:By,Lib.cut (fromT v f++[47]++r) [47]=(fromT v f,r,true):=λ r=>by
  rw [List.append_assoc];exact cut_at _ _ _ (from_ne hv l.1 (by decide))
 obtain⟨R,k⟩:∃ R,(if 0<=t then Lib.itoa (t+1)++(if b then [42] else []) else [111,102,102]++(if d=f+1 then [] else [40]++Lib.itoa d++[41]))=R:=⟨_,rfl⟩;have z:stpT v (f,t,d,b)=fromT v f++[47]++R:=by rw [<-k];rfl
 rw [z];unfold gI;rw [hcut R];have w:(if fromT v f=[98,97,114] then v.p else IntKind.i64.wrap ((rdDec (fromT v f)).1 - 1))=f∧¬ (¬ fromT v f=[98,97,114]∧(rdDec (fromT v f)).2=false):=by
  split at e
  ·obtain⟨q,m⟩:=e;rw [if_neg m,q,rd_ito (by omega) (by omega)];refine⟨?_,by simp⟩;simp only;rw [IntWalk.i64_in _ (by omega)];omega
  ·obtain⟨q,m⟩:=e;rw [if_pos m];exact⟨q.symm,λ h=>h.1 m⟩
 rw [if_neg (by simp),if_neg w.2];simp only [w.1];rcases y with ⟨rfl,rfl,h4,h5⟩ | ⟨h4,h5⟩
 ·rw [if_neg (by omega)] at k;subst k;have j:Lib.hasPrefix ([111,102,102]++(if d=f+1 then [] else [40]++Lib.itoa d++[41])) [111,102,102]=true:=by
   unfold Lib.hasPrefix;simp [List.isPrefixOf]
  rw [if_pos j];have g:([111,102,102]++(if d=f+1 then [] else [40]++Lib.itoa d++[41]):By).drop 3=(if d=f+1 then [] else [40]++Lib.itoa d++[41]):=rfl;rw [g];by_cases i:d=f+1
  ·rw [if_pos i,if_pos rfl,IntWalk.i64_in _ (by omega),i]
  ·rw [if_neg i,if_neg (by simp)];have o:inner ([40]++Lib.itoa d++[41])=Lib.itoa d:=by
    unfold inner;have:Lib.trimPrefix ([40]++Lib.itoa d++[41]) [40]=Lib.itoa d++[41]:=by
     unfold Lib.trimPrefix Lib.hasPrefix;rw [if_pos (by simp [List.isPrefixOf])]
     rfl
    rw [this,tsuf1]
   rw [o,rd_ito (by omega) (by omega)];simp
 ·rw [if_pos h4] at k;subst k;have i:=ito_head (n:=t+1) (by omega) (by omega) (c:=111) (by decide);rw [pre_no i.1 i.2];simp only [Bool.false_eq_true,if_false];have a:∀ x ∈ Lib.itoa (t+1),x≠42:=ito_ne (by omega) (by omega) (by decide)
  cases b with
  | true =>
   simp only [if_true,tsuf1,suf1,rd_ito (show 0<=t+1 by omega) (by omega)];rw [IntWalk.i64_in _ (by omega),IntWalk.i64_in _ (by omega)]
   congr 3
   ·omega
   ·congr 1;omega
  | false =>
   simp only [Bool.false_eq_true,if_false,List.append_nil,tsuf_no a,suf_no a,rd_ito (show 0<=t+1 by omega) (by omega),if_true];rw [IntWalk.i64_in _ (by omega),IntWalk.i64_in _ (by omega)]
   congr 3
   ·omega
   ·congr 1;omega
theorem gS_text {v:Vr} (hv:okV v=true) {s:Stp} (h:plainB v s=true):gS v (stpT v s)=s:=by
 obtain⟨f,t,d,b⟩:=s;obtain⟨k,A,r⟩:=plain_parts h;simp only at k A r;have E:=okV_iff.1 hv;have e:=from_back hv k.1 k.2;obtain⟨R,g⟩:∃ R,(if 0<=t then Lib.itoa (t+1)++(if b then [42] else []) else [111,102,102]++(if d=f+1 then [] else [40]++Lib.itoa d++[41]))=R:=⟨_,rfl⟩;have y:stpT v (f,t,d,b)=fromT v f++[47]++R:=by rw [<-g];rfl
 have j:∀ x ∈ R,x≠47:=by
  intro x a;rw [<-g] at a;split at a
  ·rw [List.mem_append] at a;rcases a with a | a
   ·exact ito_ne (by omega) (by omega) (by decide) x a
   ·split at a <;> simp at a
    subst a;decide
  ·rw [List.mem_append] at a;rcases a with a | a
   ·simp at a;rcases a with rfl | rfl <;> decide
   ·split at a
    ·simp at a
    ·simp only [List.mem_append,List.mem_singleton] at a;rcases a with (rfl | a) | rfl
     ·decide
     ·exact ito_ne (by omega) (by omega) (by decide) x a
     ·decide
 have m:spl 47 (fromT v f++[47]++R)=[fromT v f,R]:=by
  rw [List.append_assoc];show spl 47 (fromT v f++47 :: R)=_
  rw [spl_at _ _ _ (from_ne hv k.1 (by decide)),spl_no R 47 j]
 rw [y];unfold gS;rw [m];simp only;have z:(if fromT v f=[98,97,114] then v.p else (valS (fromT v f)).1 - 1)=f:=by
  split at e
  ·obtain⟨D,C⟩:=e;rw [if_neg C,D,val_ito (by omega) (by omega)];simp
  ·rw [if_pos e.2];exact e.1.symm
 rw [z];rcases r with ⟨rfl,rfl,h4,h5⟩ | ⟨h4,h5⟩
 ·rw [if_neg (by omega)] at g;subst g;rw [if_pos ⟨by simp,by simp⟩];by_cases hd:d=f+1
  ·rw [if_pos hd,if_neg (by simp),hd]
  ·have w:=ito_len (n:=d) (by omega) (by omega);rw [if_neg hd];have o:(([111,102,102]++([40]++Lib.itoa d++[41]):By).take (([111,102,102]++([40]++Lib.itoa d++[41]):By).length - 1)).drop 4=Lib.itoa d:=by
    have:([111,102,102]++([40]++Lib.itoa d++[41]):By)=[111,102,102,40]++Lib.itoa d++[41]:=by simp
    rw [this];have B:([111,102,102,40]++Lib.itoa d++[41]:By).length - 1=([111,102,102,40]++Lib.itoa d:By).length:=by simp
    rw [B,List.take_left];simp
   rw [o,val_ito (by omega) (by omega),if_pos (by simp;omega)]
 ·rw [if_pos h4] at g;subst g;have w:=ito_len (n:=t+1) (by omega) (by omega);have i:=ito_head (n:=t+1) (by omega) (by omega) (c:=111) (by decide);rw [if_neg (by
   rintro⟨_,h6⟩
   apply i.1
   have q:((Lib.itoa (t+1)++(if b then [42] else [])).take 3).getD 0 0=111:=by rw [h6];rfl
   cases hi:Lib.itoa (t+1) with
   | nil=>exact absurd hi i.2
   | cons x l=>rw [hi] at q;simpa using q)]
  cases b with
  | true =>
   simp only [if_true];rw [if_pos ⟨by simp,by simp⟩];have o:(Lib.itoa (t+1)++[42]).take ((Lib.itoa (t+1)++[42]).length - 1)=Lib.itoa (t+1):=by simp
   rw [o,val_ito (by omega) (by omega)];simp only [Prod.mk.injEq,true_and,and_true];exact⟨by omega,by omega⟩
  | false =>
   simp only [Bool.false_eq_true,if_false,List.append_nil];rw [if_neg (by
    rintro⟨_,h6⟩;refine ito_ne (n:=t+1) (by omega) (by omega) (c:=42) (by decide) 42 ?_ rfl;rw [<-h6,List.getD_eq_getElem?_getD,List.getElem?_eq_getElem (by omega)];exact List.getElem_mem _),val_ito (by omega) (by omega)]
   simp only [Prod.mk.injEq,true_and,and_true];exact⟨by omega,by omega⟩
theorem rdI_iff {v:Vr} (hv:okV v=true) {t:By} {s:Stp}:rdI v t=some s↔plainB v s=true∧stpT v s=t:=by
 unfold rdI
 constructor
 ·intro h;split at h
  ·split at h
   ·rename_i h1;simp only [Option.some.injEq] at h;subst h;exact h1
   ·cases h
  ·cases h
 ·rintro⟨h1,rfl⟩;rw [gI_text hv h1];simp [h1]
theorem rdS_iff {v:Vr} (hv:okV v=true) {t:By} {s:Stp}:rdS v t=some s↔plainB v s=true∧stpT v s=t:=by
 unfold rdS
 constructor
 ·intro h;split at h
  ·rename_i h1;simp only [Option.some.injEq] at h;subst h;exact h1
  ·cases h
 ·rintro⟨h1,rfl⟩;rw [gS_text hv h1];simp [h1]
theorem rd_eq {v:Vr} (hv:okV v=true) (t:By):rdS v t=rdI v t:=by
 cases h:rdI v t with
 | some s=>exact(rdS_iff hv).2 ((rdI_iff hv).1 h)
 | none =>
  cases h2:rdS v t with
  | none=>rfl
  | some s=>rw [(rdI_iff hv).2 ((rdS_iff hv).1 h2)] at h;cases h
theorem step_ne {v:Vr} (hv:okV v=true) {s:Stp} (h:plainB v s=true) {c:UInt8} (hc:c.toNat<40):∀ x ∈ stpT v s,x≠c:=by
 obtain⟨f,t,d,e⟩:=s;obtain⟨b,i,g⟩:=plain_parts h;simp only at b i g;have j:=okV_iff.1 hv;intro x a;unfold stpT at a;simp only [List.mem_append,List.mem_singleton] at a;rcases a with (a | rfl) | a
 ·exact from_ne hv b.1 (by omega) x a
 ·rintro rfl;revert hc;decide
 ·split at a
  ·rw [List.mem_append] at a;rcases a with a | a
   ·exact ito_ne (by omega) (by omega) (by omega) x a
   ·split at a <;> simp at a
    subst a;rintro rfl;revert hc;decide
  ·rw [List.mem_append] at a;rcases a with a | a
   ·simp at a;rcases a with rfl | rfl <;> (rintro rfl;revert hc;decide)
   ·split at a
    ·simp at a
    ·simp only [List.mem_append,List.mem_singleton] at a;rcases a with (rfl | a) | rfl
     ·rintro rfl;revert hc;decide
     ·exact ito_ne (by omega) (by omega) (by omega) x a
     ·rintro rfl;revert hc;decide
theorem step_len {v:Vr} (hv:okV v=true) {s:Stp} (h:plainB v s=true):3<=(stpT v s).length∧(stpT v s).length<=11:=by
 obtain⟨f,t,d,a⟩:=s;obtain⟨e,c,b⟩:=plain_parts h;simp only at e c b;have i:=okV_iff.1 hv;have j:1<=(fromT v f).length∧(fromT v f).length<=3:=by
  unfold fromT;split
  ·have:=ito_len (n:=f+1) (by omega) (by omega);omega
  ·simp
 have k:=ito_len (n:=d) (by omega) (by omega);unfold stpT;simp only [List.length_append,List.length_cons,List.length_nil];split
 ·have g:=ito_len (n:=t+1) (by omega) (by omega);simp only [List.length_append];split <;> simp <;> omega
 ·split <;> simp <;> omega
end TxP
end Go.Proofs.YtblipmifflfnoaaGreatDoor
