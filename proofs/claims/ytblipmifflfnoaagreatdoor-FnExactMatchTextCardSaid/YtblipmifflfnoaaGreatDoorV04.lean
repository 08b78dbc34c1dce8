/- Parts of the proof of FnExactMatchText. Conditions: each theorem's own. -/
set_option linter.unusedVariables false
set_option linter.unusedSimpArgs false
set_option maxHeartbeats 8000000
set_option maxRecDepth 100000
namespace Go.Proofs.YtblipmifflfnoaaGreatDoor
namespace PlP
structure Vr where
 p:Int
 c:Int
 h:Int
 s:Int
abbrev Bd:=List Int × List Int
abbrev Stp:=Int × Int × Int × Bool
abbrev Pl:=List Stp × Bd
def okV (v:Vr):Bool:=decide ((2<=v.p∧v.p<=24)∧(1<=v.c∧v.c<=15)∧(1<=v.h∧v.h<=v.p)∧1<=v.s∧v.s<=6)
def at_ (l:List Int) (i:Nat):Int:=l.getD i 0
def okS (v:Vr) (l:List Int):Bool:=decide ((l.length:Int)=v.p+1) && (l.all λ x=>decide (0<=x)) && decide (l.sum<=v.c)
def apart (v:Vr) (b:Bd):Nat->Bool
 | 0=>true
 | k+1=>apart v b k && !(decide (0<at_ b.1 k) && decide (0<at_ b.2 (v.p.toNat - 1 - k)))
def okB (v:Vr) (b:Bd):Bool:=okV v && okS v b.1 && okS v b.2 && !(decide (b.1.sum=0) && decide (b.2.sum=0)) && apart v b v.p.toNat
def over (b:Bd):Bool:=decide (b.1.sum=0) || decide (b.2.sum=0)
def lastU (l:List Int):Nat->Int
 | 0=>-1
 | k+1=>if 0<at_ l k then (k:Int) else lastU l k
def last (l:List Int):Int:=lastU l l.length
def stepP (v:Vr) (b:Bd) (f d:Int):Option Stp :=
 if at_ b.1 f.toNat=0∨(0<at_ b.1 v.p.toNat∧f≠v.p) then none
 else if 0<=f - d then
  (if at_ b.2 (v.p - 1 - (f - d)).toNat<=1 then some (f,f - d,d,decide (at_ b.2 (v.p - 1 - (f - d)).toNat=1)) else none)
 else if v.h<=last b.1∨(f - d < -1∧f<last b.1) then none
 else some (f,-1,d,false)
def lgU (v:Vr) (b:Bd) (d:Int):Nat->List Stp
 | 0=>[]
 | k+1=>lgU v b d k++(stepP v b (v.p - (k:Int)) d).toList
def legalP (v:Vr) (b:Bd) (d:Int):List Stp:=if over b then [] else lgU v b d (v.p.toNat+1)
def inc (l:List Int) (i:Nat) (x:Int):List Int:=l.set i (at_ l i+x)
def afterP (v:Vr) (b:Bd) (s:Stp):Bd :=
 (if 0<=s.2.1 then inc (inc b.1 s.1.toNat (-1)) s.2.1.toNat 1 else inc b.1 s.1.toNat (-1),
  if s.2.2.2 then inc (inc b.2 (v.p - 1 - s.2.1).toNat (-1)) v.p.toNat 1 else b.2)
def hasB (out:List Pl) (b:Bd):Bool:=out.any λ q=>decide (q.2=b)
def addOne (out:List Pl) (p:Pl):List Pl:=if hasB out p.2 then out else out++[p]
def nxIn (v:Vr) (p:Pl) (ss:List Stp) (out:List Pl):List Pl:=ss.foldl (λ o s=>addOne o (p.1++[s],afterP v p.2 s)) out
def nextP (v:Vr) (d:Int) (ps:List Pl):List Pl:=ps.foldl (λ o p=>nxIn v p (legalP v p.2 d) o) []
def rowsGo (v:Vr):List Int->List (List Pl)->Bool->List (List Pl) × Bool
 | [],rows,fine=>(rows,fine)
 | d :: ds,rows,fine =>
  let nx:=nextP v d (rows.getLastD [])
  if nx.length=0 then (rows,fine) else rowsGo v ds (rows++[nx]) (fine && decide (nx.length<=3000))
def rowsP (v:Vr) (b:Bd) (ds:List Int):List (List Pl) × Bool:=rowsGo v ds [[([],b)]] true
def lngGo (v:Vr):List Int->List Pl->Nat->Bool->List Pl × Nat × Bool
 | [],ps,k,fine=>(ps,k,fine)
 | d :: ds,ps,k,fine =>
  let nx:=nextP v d ps
  if nx.length=0 then (ps,k,fine && decide (nx.length<=3000)) else lngGo v ds nx (k+1) (fine && decide (nx.length<=3000))
def lngP (v:Vr) (b:Bd) (ds:List Int):List Pl × Nat × Bool:=lngGo v ds [([],b)] 0 true
def ordP (a b:Int):List (List Int):=if a=b then [[a,a,a,a]] else [[a,b],[b,a]]
def addAll (out ps:List Pl):List Pl:=ps.foldl addOne out
def usedP (v:Vr) (b:Bd):List (List Int)->Nat
 | []=>0
 | o :: os=>max (lngP v b o).2.1 (usedP v b os)
def allGo (v:Vr) (b:Bd) (u:Nat):Nat->List (List Int)->List Pl->Bool->List Pl × Bool
 | _,[],out,fine=>(out,fine)
 | i,o :: os,out,fine =>
  let l:=lngP v b o
  allGo v b u (i+1) os (if l.2.1≠u∨(u=1∧i=1∧0<out.length) then out else addAll out l.1) (fine && l.2.2)
theorem at_get {l:List Int} {i:Nat} (h:i<l.length):l[i]?=some (at_ l i):=by
 unfold at_;rw [List.getD_eq_getElem?_getD,List.getElem?_eq_getElem h];rfl
theorem at_out {l:List Int} {i:Nat} (h:l.length<=i):at_ l i=0:=by
 unfold at_;rw [List.getD_eq_getElem?_getD,List.getElem?_eq_none h];rfl
theorem inc_len (l:List Int) (i:Nat) (x:Int):(inc l i x).length=l.length:=by unfold inc;simp
theorem inc_at (l:List Int) (i j:Nat) (x:Int) (h:i<l.length):at_ (inc l i x) j=if j=i then at_ l i+x else at_ l j:=by
 unfold inc at_;rw [List.getD_eq_getElem?_getD,List.getElem?_set];by_cases e:i=j
 ·subst e;simp [h]
 ·rw [if_neg e,if_neg (λ h=>e h.symm),List.getD_eq_getElem?_getD]
theorem sum_set:∀(l:List Int) (i:Nat) (x:Int),i<l.length->(l.set i x).sum=l.sum - at_ l i+x:=by
 intro l
 induction l with
 | nil=>intro i x h;simp at h
 | cons y l ih =>
  intro i x h
  cases i with
  | zero=>simp [at_];omega
  | succ i =>
   have:=ih i x (by simpa using h);simp only [List.set_cons_succ,List.sum_cons,at_,List.getD_cons_succ] at *;omega
theorem inc_sum (l:List Int) (i:Nat) (x:Int) (h:i<l.length):(inc l i x).sum=l.sum+x:=by
 unfold inc;rw [sum_set l i _ h];omega
theorem sum_nn:∀(l:List Int),(∀ i,0<=at_ l i)->0<=l.sum∧∀ i,at_ l i<=l.sum:=by
 intro l
 induction l with
 | nil=>intro _;exact⟨by simp,λ i=>by simp [at_]⟩
 | cons x l ih =>
  intro h;have b:=h 0;have a:=ih (λ i=>by have:=h (i+1);simpa [at_] using this);simp only [at_,List.getD_cons_zero] at b;refine⟨by simp;omega,λ i=>?_⟩
  cases i with
  | zero=>simp [at_];omega
  | succ i=>have:=a.2 i;simp only [at_,List.getD_cons_succ,List.sum_cons] at *;omega
structure Sd (v:Vr) (l:List Int):Prop where
 len:(l.length:Int)=v.p+1
 nn:∀ i,0<=at_ l i
 sum:l.sum<=v.c
theorem okS_iff {v:Vr} {l:List Int}:okS v l=true↔Sd v l:=by
 unfold okS;simp only [Bool.and_eq_true,decide_eq_true_eq,List.all_eq_true]
 constructor
 ·rintro⟨⟨h1,h2⟩,h3⟩;refine⟨h1,λ i=>?_,h3⟩;rcases Nat.lt_or_ge i l.length with h | h
  ·exact h2 _ (List.mem_of_getElem? (at_get h))
  ·rw [at_out h];exact Int.le_refl _
 ·rintro⟨h1,h2,h3⟩;refine⟨⟨h1,λ x b=>?_⟩,h3⟩;obtain⟨i,a⟩:=List.getElem?_of_mem b;have c:=(List.getElem?_eq_some_iff.1 a).1;rw [at_get c] at a;have:=h2 i;simp only [Option.some.injEq] at a;omega
theorem Sd.top {v:Vr} {l:List Int} (h:Sd v l) (i:Nat):at_ l i<=v.c:=by
 have:=(sum_nn l h.nn).2 i;have:=h.sum;omega
theorem Sd.sum0 {v:Vr} {l:List Int} (h:Sd v l):0<=l.sum:=(sum_nn l h.nn).1
theorem okV_iff {v:Vr}:okV v=true↔(2<=v.p∧v.p<=24)∧(1<=v.c∧v.c<=15)∧(1<=v.h∧v.h<=v.p)∧1<=v.s∧v.s<=6:=by
 unfold okV;exact decide_eq_true_iff
theorem apart_iff {v:Vr} {b:Bd}:∀ k,apart v b k=true↔∀ i,i<k->¬ (0<at_ b.1 i∧0<at_ b.2 (v.p.toNat - 1 - i)):=by
 intro k
 induction k with
 | zero=>simp [apart]
 | succ k ih =>
  simp only [apart,Bool.and_eq_true,ih,Bool.not_eq_true',Bool.and_eq_false_iff,decide_eq_false_iff_not]
  constructor
  ·rintro⟨h1,h2⟩ i a;by_cases e:i=k
   ·subst e;omega
   ·exact h1 i (by omega)
  ·intro h;exact⟨λ i a=>h i (by omega),by have:=h k (by omega);omega⟩
structure Ok (v:Vr) (b:Bd):Prop where
 v1:(2<=v.p∧v.p<=24)∧(1<=v.c∧v.c<=15)∧(1<=v.h∧v.h<=v.p)∧1<=v.s∧v.s<=6
 own:Sd v b.1
 oth:Sd v b.2
 some_:¬ (b.1.sum=0∧b.2.sum=0)
 ap:∀ i,i<v.p.toNat->¬ (0<at_ b.1 i∧0<at_ b.2 (v.p.toNat - 1 - i))
theorem okB_iff {v:Vr} {b:Bd}:okB v b=true↔Ok v b:=by
 unfold okB;simp only [Bool.and_eq_true,okV_iff,okS_iff,Bool.not_eq_true',Bool.and_eq_false_iff,decide_eq_false_iff_not,apart_iff]
 constructor
 ·rintro⟨⟨⟨⟨h1,h2⟩,h3⟩,h4⟩,h5⟩;exact⟨h1,h2,h3,by omega,h5⟩
 ·rintro⟨h1,h2,h3,h4,h5⟩;exact⟨⟨⟨⟨h1,h2⟩,h3⟩,by omega⟩,h5⟩
theorem step_parts {v:Vr} {b:Bd} {f d:Int} {s:Stp} (hf:0<=f∧f<=v.p) (hb:Ok v b) (h:stepP v b f d=some s) :
  s.1=f∧s.2.2.1=d∧0<at_ b.1 f.toNat∧((0<=f - d∧s.2.1=f - d∧at_ b.2 (v.p - 1 - (f - d)).toNat<=1∧s.2.2.2=decide (at_ b.2 (v.p - 1 - (f - d)).toNat=1))∨(f - d<0∧s.2.1=-1∧s.2.2.2=false)):=by
 have c:=hb.own.nn f.toNat;unfold stepP at h;split at h
 ·cases h
 ·rename_i h1
  have a:0<at_ b.1 f.toNat:=by omega
  split at h
  ·split at h
   ·simp only [Option.some.injEq] at h;subst h;exact⟨rfl,rfl,a,.inl ⟨by assumption,rfl,by assumption,rfl⟩⟩
   ·cases h
  ·split at h
   ·cases h
   ·simp only [Option.some.injEq] at h;subst h;exact⟨rfl,rfl,a,.inr ⟨by omega,rfl,rfl⟩⟩
theorem after_ok {v:Vr} {b:Bd} {f d:Int} {s:Stp} (hf:0<=f∧f<=v.p) (hd:1<=d) (hb:Ok v b) (ho:over b=false) (h:stepP v b f d=some s):Ok v (afterP v b s):=by
 obtain⟨H,G,R,F⟩:=step_parts hf hb h;obtain⟨a,P,c,O⟩:=s;simp only at H G F;subst H G;have B:=hb.v1;have y:=hb.own.len;have D:=hb.oth.len;have K:=hb.own.sum0;have J:=hb.oth.sum0;have M:=hb.own.sum;have L:=hb.oth.sum;unfold over at ho;simp only [Bool.or_eq_false_iff,decide_eq_false_iff_not] at ho;have l:a.toNat<b.1.length:=by omega
 have o:∀ j,0<=at_ (inc b.1 a.toNat (-1)) j:=by
  intro j;rw [inc_at _ _ _ _ l];split
  ·omega
  ·exact hb.own.nn j
 rcases F with ⟨k0,rfl,k1,rfl⟩ | ⟨k0,rfl,rfl⟩
 ·have q:(a - c).toNat<(inc b.1 a.toNat (-1)).length:=by rw [inc_len];omega
  have x:(v.p - 1 - (a - c)).toNat<b.2.length:=by omega
  have N:(v.p - 1 - (a - c)).toNat=v.p.toNat - 1 - (a - c).toNat:=by omega
  have I:=hb.oth.nn (v.p - 1 - (a - c)).toNat;have k:(afterP v b (a,a - c,c,decide (at_ b.2 (v.p - 1 - (a - c)).toNat=1))).1=inc (inc b.1 a.toNat (-1)) (a - c).toNat 1:=by unfold afterP;simp only [if_pos k0]
  have r:∀ j,at_ (inc (inc b.1 a.toNat (-1)) (a - c).toNat 1) j=(if j=(a - c).toNat then at_ (inc b.1 a.toNat (-1)) (a - c).toNat+1 else at_ (inc b.1 a.toNat (-1)) j):=λ j=>inc_at _ _ _ _ q
  have E:Sd v (inc (inc b.1 a.toNat (-1)) (a - c).toNat 1):=by
   refine⟨by rw [inc_len,inc_len];exact y,λ j=>?_,by rw [inc_sum _ _ _ q,inc_sum _ _ _ l];omega⟩;rw [r];split
   ·have:=o (a - c).toNat;omega
   ·exact o j
  have m:(inc (inc b.1 a.toNat (-1)) (a - c).toNat 1).sum=b.1.sum:=by rw [inc_sum _ _ _ q,inc_sum _ _ _ l];omega
  by_cases hh:at_ b.2 (v.p - 1 - (a - c)).toNat=1
  ·have g:(afterP v b (a,a - c,c,decide (at_ b.2 (v.p - 1 - (a - c)).toNat=1))).2=inc (inc b.2 (v.p - 1 - (a - c)).toNat (-1)) v.p.toNat 1:=by unfold afterP;simp only [hh,decide_true,if_true]
   have w:v.p.toNat<(inc b.2 (v.p - 1 - (a - c)).toNat (-1)).length:=by rw [inc_len];omega
   have A:∀ j,at_ (inc (inc b.2 (v.p - 1 - (a - c)).toNat (-1)) v.p.toNat 1) j=(if j=v.p.toNat then at_ (inc b.2 (v.p - 1 - (a - c)).toNat (-1)) v.p.toNat+1 else at_ (inc b.2 (v.p - 1 - (a - c)).toNat (-1)) j):=λ j=>inc_at _ _ _ _ w
   have n:∀ j,at_ (inc b.2 (v.p - 1 - (a - c)).toNat (-1)) j=(if j=(v.p - 1 - (a - c)).toNat then at_ b.2 (v.p - 1 - (a - c)).toNat+-1 else at_ b.2 j):=λ j=>inc_at _ _ _ _ x
   have t:∀ j,0<=at_ (inc b.2 (v.p - 1 - (a - c)).toNat (-1)) j:=by
    intro j;rw [n];split
    ·omega
    ·exact hb.oth.nn j
   refine⟨B,?_,?_,?_,?_⟩
   ·rw [k];exact E
   ·rw [g];refine⟨by rw [inc_len,inc_len];exact D,λ j=>?_,by rw [inc_sum _ _ _ w,inc_sum _ _ _ x];omega⟩;rw [A];split
    ·have:=t v.p.toNat;omega
    ·exact t j
   ·rw [k,m];omega
   ·rw [k,g];intro i z;have C:¬ v.p.toNat - 1 - i=v.p.toNat:=by omega
    rw [A,if_neg C,n,r];by_cases ei:i=(a - c).toNat
    ·subst ei;rw [if_pos (by omega:v.p.toNat - 1 - (a - c).toNat=(v.p - 1 - (a - c)).toNat)];omega
    ·rw [if_neg ei,if_neg (by omega:¬ v.p.toNat - 1 - i=(v.p - 1 - (a - c)).toNat),inc_at _ _ _ _ l];have:=hb.ap i z;have Q:=hb.own.nn i;split
     ·rename_i e;subst e;omega
     ·exact this
  ·have g:(afterP v b (a,a - c,c,decide (at_ b.2 (v.p - 1 - (a - c)).toNat=1))).2=b.2:=by unfold afterP;simp only [hh,decide_false,Bool.false_eq_true,if_false]
   refine⟨B,?_,?_,?_,?_⟩
   ·rw [k];exact E
   ·rw [g];exact hb.oth
   ·rw [k,m,g];omega
   ·rw [k,g];intro i z;rw [r];by_cases ei:i=(a - c).toNat
    ·subst ei;rw [<-N];omega
    ·rw [if_neg ei,inc_at _ _ _ _ l];have:=hb.ap i z;split
     ·rename_i e;subst e;omega
     ·exact this
 ·have k:(afterP v b (a,-1,c,false)).1=inc b.1 a.toNat (-1):=by unfold afterP;simp
  have g:(afterP v b (a,-1,c,false)).2=b.2:=by unfold afterP;simp
  refine⟨B,?_,?_,?_,?_⟩
  ·rw [k];exact⟨by rw [inc_len];exact y,o,by rw [inc_sum _ _ _ l];omega⟩
  ·rw [g];exact hb.oth
  ·rw [g];omega
  ·rw [k,g];intro i z;rw [inc_at _ _ _ _ l];have:=hb.ap i z;split
   ·rename_i e;subst e;omega
   ·exact this
end PlP
namespace PlP
theorem lgU_mem {v:Vr} {b:Bd} {d:Int} {s:Stp}:∀ k,s ∈ lgU v b d k->∃ j,j<k∧stepP v b (v.p - (j:Int)) d=some s:=by
 intro k
 induction k with
 | zero=>intro h;simp [lgU] at h
 | succ k ih =>
  intro h;simp only [lgU,List.mem_append] at h;rcases h with h | h
  ·obtain⟨j,c,a⟩:=ih h;exact⟨j,by omega,a⟩
  ·refine⟨k,by omega,?_⟩
   cases e:stepP v b (v.p - (k:Int)) d with
   | none=>rw [e] at h;simp at h
   | some t=>rw [e] at h;simp at h;rw [h]
theorem legal_mem {v:Vr} {b:Bd} {d:Int} {s:Stp} (hv:0<=v.p) (h:s ∈ legalP v b d):over b=false∧∃ f,(0<=f∧f<=v.p)∧stepP v b f d=some s:=by
 unfold legalP at h;split at h
 ·simp at h
 ·rename_i ho
  obtain⟨j,c,a⟩:=lgU_mem _ h;exact⟨by simpa using ho,v.p - (j:Int),by omega,a⟩
theorem legal_ok {v:Vr} {b:Bd} {d:Int} {s:Stp} (hd:1<=d) (hb:Ok v b) (h:s ∈ legalP v b d):Ok v (afterP v b s):=by
 obtain⟨e,f,c,a⟩:=legal_mem (by have:=hb.v1;omega) h;exact after_ok c hd hb e a
theorem lgU_len (v:Vr) (b:Bd) (d:Int):∀ k,(lgU v b d k).length<=k:=by
 intro k
 induction k with
 | zero=>simp [lgU]
 | succ k ih =>
  simp only [lgU,List.length_append];have:((stepP v b (v.p - (k:Int)) d).toList).length<=1:=by cases stepP v b (v.p - (k:Int)) d <;> simp
  omega
theorem legal_len (v:Vr) (b:Bd) (d:Int):(legalP v b d).length<=v.p.toNat+1:=by
 unfold legalP;split
 ·simp
 ·exact lgU_len v b d _
theorem addOne_len (out:List Pl) (p:Pl):(addOne out p).length<=out.length+1:=by unfold addOne;split <;> simp
theorem addOne_mem {out:List Pl} {p q:Pl} (h:q ∈ addOne out p):q ∈ out∨q=p:=by
 unfold addOne at h;split at h
 ·exact .inl h
 ·simpa using h
theorem addOne_keep {out:List Pl} {p q:Pl} (h:q ∈ out):q ∈ addOne out p:=by
 unfold addOne;split
 ·exact h
 ·simp [h]
theorem nxIn_len (v:Vr) (p:Pl):∀(ss:List Stp) (out:List Pl),(nxIn v p ss out).length<=out.length+ss.length:=by
 intro ss
 induction ss with
 | nil=>intro out;simp [nxIn]
 | cons s ss ih =>
  intro out;have b:=ih (addOne out (p.1++[s],afterP v p.2 s));have a:=addOne_len out (p.1++[s],afterP v p.2 s);simp only [nxIn,List.foldl_cons,List.length_cons] at *;omega
theorem nxIn_mem {v:Vr} {p q:Pl}:∀(ss:List Stp) (out:List Pl),q ∈ nxIn v p ss out->q ∈ out∨∃ s ∈ ss,q=(p.1++[s],afterP v p.2 s):=by
 intro ss
 induction ss with
 | nil=>intro out h;exact .inl h
 | cons s ss ih =>
  intro out h;rcases ih _ h with h | ⟨t,ht,h⟩
  ·rcases addOne_mem h with h | h
   ·exact .inl h
   ·exact .inr ⟨s,List.mem_cons_self ..,h⟩
  ·exact .inr ⟨t,List.mem_cons_of_mem _ ht,h⟩
def nxGo (v:Vr) (d:Int) (ps:List Pl) (out:List Pl):List Pl:=ps.foldl (λ o p=>nxIn v p (legalP v p.2 d) o) out
theorem nxGo_len (v:Vr) (d:Int):∀(ps out:List Pl),(nxGo v d ps out).length<=out.length+ps.length*(v.p.toNat+1):=by
 intro ps
 induction ps with
 | nil=>intro out;simp [nxGo]
 | cons p ps ih =>
  intro out;have c:=ih (nxIn v p (legalP v p.2 d) out);have b:=nxIn_len v p (legalP v p.2 d) out;have a:=legal_len v p.2 d;simp only [nxGo,List.foldl_cons,List.length_cons,Nat.add_mul,Nat.one_mul] at *;omega
theorem nxGo_mem {v:Vr} {d:Int} {q:Pl}:∀(ps out:List Pl),q ∈ nxGo v d ps out->q ∈ out∨∃ p ∈ ps,∃ s ∈ legalP v p.2 d,q=(p.1++[s],afterP v p.2 s):=by
 intro ps
 induction ps with
 | nil=>intro out h;exact .inl h
 | cons p ps ih =>
  intro out h;rcases ih _ h with h | ⟨r,hr,h⟩
  ·rcases nxIn_mem _ _ h with h | ⟨s,hs,h⟩
   ·exact .inl h
   ·exact .inr ⟨p,List.mem_cons_self ..,s,hs,h⟩
  ·exact .inr ⟨r,List.mem_cons_of_mem _ hr,h⟩
def RowOk (v:Vr) (k:Nat) (ps:List Pl):Prop:=∀ p ∈ ps,Ok v p.2∧p.1.length=k
theorem next_ok {v:Vr} {d:Int} {ps:List Pl} {k:Nat} (hd:1<=d) (h:RowOk v k ps):RowOk v (k+1) (nextP v d ps):=by
 intro q a;rcases nxGo_mem ps [] a with h' | ⟨p,hp,s,hs,rfl⟩
 ·simp at h'
 ·exact⟨legal_ok hd (h p hp).1 hs,by simp [(h p hp).2]⟩
theorem next_len {v:Vr} {d:Int} {ps:List Pl}:(nextP v d ps).length<=ps.length*(v.p.toNat+1):=by
 have:=nxGo_len v d ps [];show (nxGo v d ps []).length<=_
 simpa using this
theorem rows_lng (v:Vr):∀(ds:List Int) (rows:List (List Pl)) (fine:Bool),rows≠[] ->
  lngGo v ds (rows.getLastD []) (rows.length - 1) fine=((rowsGo v ds rows fine).1.getLastD [],(rowsGo v ds rows fine).1.length - 1,(rowsGo v ds rows fine).2)∧(rowsGo v ds rows fine).1≠[]:=by
 intro ds
 induction ds with
 | nil=>intro rows fine h;exact⟨rfl,h⟩
 | cons d ds ih =>
  intro rows fine h;have c:1<=rows.length:=by cases rows with | nil=>exact absurd rfl h | cons x l=>simp
  simp only [lngGo,rowsGo];split
  ·rename_i h0
   refine⟨?_,h⟩;simp only [Prod.mk.injEq,true_and];rw [h0];simp
  ·have:=ih (rows++[nextP v d (rows.getLastD [])]) (fine && decide ((nextP v d (rows.getLastD [])).length<=3000)) (by simp);have b:(rows++[nextP v d (rows.getLastD [])]).getLastD []=nextP v d (rows.getLastD []):=by simp
   have a:(rows++[nextP v d (rows.getLastD [])]).length - 1=rows.length - 1+1:=by simp;omega
   rw [b,a] at this;exact this
theorem lng_rows (v:Vr) (b:Bd) (ds:List Int):lngP v b ds=((rowsP v b ds).1.getLastD [],(rowsP v b ds).1.length - 1,(rowsP v b ds).2)∧(rowsP v b ds).1≠[] :=
 rows_lng v ds [[([],b)]] true (by simp)
theorem lng_ok {v:Vr}:∀(ds:List Int) (ps:List Pl) (k:Nat) (fine:Bool),(∀ d ∈ ds,1<=d)->RowOk v k ps->0<ps.length ->
  RowOk v (lngGo v ds ps k fine).2.1 (lngGo v ds ps k fine).1∧0<(lngGo v ds ps k fine).1.length∧(lngGo v ds ps k fine).2.1<=k+ds.length:=by
 intro ds
 induction ds with
 | nil=>intro ps k fine _ h a;exact⟨h,a,Nat.le_refl _⟩
 | cons d ds ih =>
  intro ps k fine b h a;simp only [lngGo];split
  ·exact⟨h,a,by simp⟩
  ·rename_i h1
   have:=ih (nextP v d ps) (k+1) (fine && decide ((nextP v d ps).length<=3000)) (λ x c=>b x (List.mem_cons_of_mem _ c)) (next_ok (b d (List.mem_cons_self ..)) h) (by omega);refine⟨this.1,this.2.1,?_⟩;simp only [List.length_cons];omega
def usedR (all:List (List (List Pl))) (m:Nat):Nat:=all.foldl (λ m rows=>max m (rows.length - 1)) m
def swp (b:Bd):Bd:=(b.2,b.1)
theorem swp_ok {v:Vr} {b:Bd} (h:Ok v b):Ok v (swp b):=by
 refine⟨h.v1,h.oth,h.own,λ a=>h.some_ ⟨a.2,a.1⟩,λ i c a=>?_⟩;have:=h.ap (v.p.toNat - 1 - i) (by omega);rw [show v.p.toNat - 1 - (v.p.toNat - 1 - i)=i from by omega] at this;exact this ⟨a.2,a.1⟩
end PlP
namespace PlP
def keyP (b:Bd):List UInt8:=(b.1++b.2).map λ n=>UInt8.ofNat n.toNat
theorem list_ext {l m:List Int} (hl:l.length=m.length) (h:∀ i,i<l.length->at_ l i=at_ m i):l=m:=by
 refine List.ext_getElem? λ i=>?_
 rcases Nat.lt_or_ge i l.length with hi | hi
 ·rw [at_get hi,at_get (by omega),h i hi]
 ·rw [List.getElem?_eq_none hi,List.getElem?_eq_none (by omega)]
theorem key_side {v:Vr} {l m:List Int} (hl:Sd v l) (hm:Sd v m) (hc:v.c<=15) (h:l.map (λ n:Int=>UInt8.ofNat n.toNat)=m.map (λ n:Int=>UInt8.ofNat n.toNat)):l=m:=by
 have f:=hl.len;have e:=hm.len;refine list_ext (by omega) λ i b=>?_
 have a:=congrArg (λ l=>l[i]?) h;simp only [List.getElem?_map] at a;rw [at_get b,at_get (by omega:i<m.length)] at a;simp only [Option.map_some,Option.some.injEq] at a;have o:=hl.nn i;have k:=hl.top i;have j:=hm.nn i;have g:=hm.top i;have d:=congrArg UInt8.toNat a;rw [UInt8.toNat_ofNat_of_lt' (by show _<256;omega),UInt8.toNat_ofNat_of_lt' (by show _<256;omega)] at d;omega
theorem key_inj {v:Vr} {a b:Bd} (ha:Ok v a) (hb:Ok v b) (h:keyP a=keyP b):a=b:=by
 unfold keyP at h;have e:=ha.own.len;have d:=hb.own.len;have c:=ha.v1;rw [List.map_append,List.map_append] at h;have:=List.append_inj h (by simp;omega);exact Prod.ext (key_side ha.own hb.own (by omega) this.1) (key_side ha.oth hb.oth (by omega) this.2)
theorem has_key {v:Vr} {out:List Pl} {b:Bd} (ho:∀ q ∈ out,Ok v q.2) (hb:Ok v b):decide (keyP b ∈ out.map λ q=>keyP q.2)=hasB out b:=by
 unfold hasB
 cases h:out.any λ q=>decide (q.2=b) with
 | true =>
  obtain⟨q,c,a⟩:=List.any_eq_true.1 h;have a:=of_decide_eq_true a;refine decide_eq_true (List.mem_map.2 ⟨q,c,by rw [a]⟩)
 | false =>
  refine decide_eq_false λ d=>?_
  obtain⟨q,c,a⟩:=List.mem_map.1 d;have:=key_inj (ho q c) hb a;have e:=List.any_eq_false.1 h q c;exact e (decide_eq_true this)
end PlP
namespace PlP
theorem nxIn_snoc (v:Vr) (p:Pl) (ss:List Stp) (s:Stp) (out:List Pl):nxIn v p (ss++[s]) out=addOne (nxIn v p ss out) (p.1++[s],afterP v p.2 s):=by
 unfold nxIn;rw [List.foldl_append];rfl
theorem nxGo_snoc (v:Vr) (d:Int) (ps:List Pl) (p:Pl) (out:List Pl):nxGo v d (ps++[p]) out=nxIn v p (legalP v p.2 d) (nxGo v d ps out):=by
 unfold nxGo;rw [List.foldl_append];rfl
theorem next_go (v:Vr) (d:Int) (ps:List Pl):nextP v d ps=nxGo v d ps []:=rfl
theorem addOne_has {out:List Pl} {p:Pl} (h:hasB out p.2=true):addOne out p=out:=by unfold addOne;rw [if_pos h]
theorem addOne_new {out:List Pl} {p:Pl} (h:hasB out p.2=false):addOne out p=out++[p]:=by unfold addOne;rw [if_neg (by rw [h];simp)]
theorem takeS {α:Type} {l:List α} {k:Nat} {x:α} (h:l[k]?=some x):l.take (k+1)=l.take k++[x]:=by
 rw [List.take_add_one,h];rfl
structure Coll (v:Vr) (k m:Nat) (out:List Pl):Prop where
 ok:RowOk v k out
 len:out.length<=m
theorem Coll.nil (v:Vr) (k:Nat):Coll v k 0 []:=⟨λ q hq=>by simp at hq,Nat.le_refl _⟩
theorem Coll.more {v:Vr} {k m m':Nat} {out:List Pl} (h:Coll v k m out) (hm:m<=m'):Coll v k m' out:=⟨h.ok,Nat.le_trans h.len hm⟩
theorem Coll.add {v:Vr} {k m:Nat} {out:List Pl} {p:Pl} (h:Coll v k m out) (hp:Ok v p.2∧p.1.length=k):Coll v k (m+1) (addOne out p):=by
 refine⟨λ q a=>?_,?_⟩
 ·rcases addOne_mem a with a | rfl
  ·exact h.ok q a
  ·exact hp
 ·have:=addOne_len out p;have:=h.len;omega
theorem row_sides {v:Vr} {k n:Nat} {out:List Pl} (h:RowOk v k out) (hn:(n:Int)=v.p+1):∀ q ∈ out,q.2.1.length=n∧q.2.2.length=n:=λ q hq=>by
 have h1:=(h q hq).1.own.len;have h2:=(h q hq).1.oth.len;omega
theorem legal_parts {v:Vr} {b:Bd} {d:Int} {s:Stp} (hd:1<=d) (hb:Ok v b) (h:s ∈ legalP v b d):(0<=s.1∧s.1<=v.p)∧(-1<=s.2.1∧s.2.1<v.p)∧(s.2.2.2=true->0<=s.2.1):=by
 obtain⟨m,f,e,j⟩:=legal_mem (by have:=hb.v1;omega) h;obtain⟨g,l,k,i⟩:=step_parts e hb j;rcases i with ⟨a,b1,-,-⟩ | ⟨a,b1,c⟩
 ·rw [g,b1];exact⟨e,by omega,λ _=>a⟩
 ·rw [g,b1,c];exact⟨e,by have:=hb.v1;omega,λ h=>by cases h⟩
end PlP
namespace PlP
def RowsOk (v:Vr) (rows:List (List Pl)):Prop:=∀ i row,rows[i]?=some row->RowOk v i row∧row.length<=25 ^ i
theorem RowsOk.snoc {v:Vr} {rows:List (List Pl)} {row:List Pl} (h:RowsOk v rows) (hr:RowOk v rows.length row∧row.length<=25 ^ rows.length):RowsOk v (rows++[row]):=by
 intro i r a;rcases Nat.lt_trichotomy i rows.length with h1 | h1 | h1
 ·rw [List.getElem?_append_left h1] at a;exact h i r a
 ·subst h1;rw [List.getElem?_append_right (Nat.le_refl _),Nat.sub_self] at a;simp at a;subst a;exact hr
 ·rw [List.getElem?_eq_none (by simp;omega)] at a;cases a
theorem rowsGo_ok {v:Vr} (hp:v.p.toNat+1<=25):∀(ds:List Int) (rows:List (List Pl)) (fine:Bool),(∀ d ∈ ds,1<=d)->rows≠[]->RowsOk v rows ->
  RowsOk v (rowsGo v ds rows fine).1∧(rowsGo v ds rows fine).1.length<=rows.length+ds.length∧rows.length<=(rowsGo v ds rows fine).1.length:=by
 intro ds
 induction ds with
 | nil=>intro rows fine _ _ h;exact⟨h,Nat.le_refl _,Nat.le_refl _⟩
 | cons d ds ih =>
  intro rows fine c a h;simp only [rowsGo];split
  ·exact⟨h,Nat.le_add_right _ _,Nat.le_refl _⟩
  ·obtain⟨m,b⟩:∃ m,rows.length=m+1:=by cases rows with | nil=>exact absurd rfl a | cons x l=>exact⟨l.length,rfl⟩
   have i:rows[m]?=some (rows.getLastD []):=by
    rw [List.getLastD_eq_getLast?,List.getLast?_eq_getElem?,b,Nat.add_sub_cancel,List.getElem?_eq_getElem (by omega)];rfl
   have e:=h m _ i;have g:RowOk v (m+1) (nextP v d (rows.getLastD []))∧(nextP v d (rows.getLastD [])).length<=25 ^ (m+1):=by
    refine⟨next_ok (c d (List.mem_cons_self ..)) e.1,Nat.le_trans next_len ?_⟩;rw [Nat.pow_succ];exact Nat.mul_le_mul e.2 hp
   have:=ih (rows++[nextP v d (rows.getLastD [])]) (fine && decide ((nextP v d (rows.getLastD [])).length<=3000)) (λ x f=>c x (List.mem_cons_of_mem _ f)) (by simp) (h.snoc (by rw [b];exact g));refine⟨this.1,?_,?_⟩
   ·have:=this.2.1;simp only [List.length_append,List.length_cons,List.length_nil] at *;omega
   ·have:=this.2.2;simp only [List.length_append,List.length_cons,List.length_nil] at *;omega
theorem rowsP_ok {v:Vr} {b:Bd} (hb:Ok v b) {ds:List Int} (hd:∀ d ∈ ds,1<=d) (hl:ds.length<=4):RowsOk v (rowsP v b ds).1∧1<=(rowsP v b ds).1.length∧(rowsP v b ds).1.length<=5:=by
 have f:=hb.v1;have:=rowsGo_ok (v:=v) (by omega) ds [[([],b)]] true hd (by simp) (by
  intro i e a
  cases i with
  | zero=>simp at a;subst a;exact⟨λ q c=>by simp at c;subst c;exact⟨hb,rfl⟩,by simp⟩
  | succ i=>simp at a)
 refine⟨this.1,?_,?_⟩
 ·have:=this.2.2;exact this
 ·have:=this.2.1;simp only [List.length_cons,List.length_nil] at this;unfold rowsP;omega
theorem drop_cons {α:Type} {l:List α} {k:Nat} {x:α} (h:l[k]?=some x):l.drop k=x :: l.drop (k+1):=by
 obtain⟨b,a⟩:=List.getElem?_eq_some_iff.1 h;rw [List.drop_eq_getElem_cons b,a]
end PlP
namespace PlP
def rollB (v:Vr) (x y:Int):Bool:=decide (1<=x∧x<=v.s) && decide (1<=y∧y<=x)
def legal1 (v:Vr) (b:Bd) (s:Stp):Bool :=
 !over b && decide (1<=s.2.2.1∧s.2.2.1<=v.s) && decide (0<=s.1∧s.1<=v.p) && decide (stepP v b s.1 s.2.2.1=some s)
def followP (v:Vr):Bd->List Int->List Stp->Option Bd
 | b,_,[]=>some b
 | _,[],_ :: _=>none
 | b,d :: ds,s :: ss=>if s.2.2.1=d∧legal1 v b s=true then followP v (afterP v b s) ds ss else none
def firstF (v:Vr) (b:Bd) (ss:List Stp):List (List Int)->Option Bd
 | []=>none
 | o :: os=>match followP v b o ss with
  | some c=>some c
  | none=>firstF v b ss os
def ordS (v:Vr) (b:Bd) (x y:Int):List (List Int):=if usedP v b (ordP x y)=1∧(ordP x y).length=2∧0<(legalP v b x).length then (ordP x y).take 1 else ordP x y
def playP (v:Vr) (b:Bd) (x y:Int) (ss:List Stp):Option Bd:=if ss.length=usedP v b (ordP x y) then firstF v b ss (ordS v b x y) else none
def playGo (v:Vr) (b:Bd) (ss:List Stp) (n:Nat):List (List Int)->List (List (List Pl))->Option Bd
 | o :: os,R :: Rs=>if R.length<=n then playGo v b ss n os Rs else match followP v b o ss with
  | some c=>some c
  | none=>if n=1 then none else playGo v b ss n os Rs
 | _,_=>none
def playI (v:Vr) (b:Bd) (x y:Int) (ss:List Stp):Option Bd :=
 if ss.length=usedR ((ordP x y).map λ o=>(rowsP v b o).1) 0 then playGo v b ss (usedR ((ordP x y).map λ o=>(rowsP v b o).1) 0) (ordP x y) ((ordP x y).map λ o=>(rowsP v b o).1) else none
theorem legal1_iff {v:Vr} {b:Bd} {s:Stp}:legal1 v b s=true↔over b=false∧(1<=s.2.2.1∧s.2.2.1<=v.s)∧(0<=s.1∧s.1<=v.p)∧stepP v b s.1 s.2.2.1=some s:=by
 unfold legal1;simp only [Bool.and_eq_true,Bool.not_eq_true',decide_eq_true_eq,and_assoc]
theorem lgU_has {v:Vr} {b:Bd} {d:Int} {s:Stp} {j:Nat} (h:stepP v b (v.p - (j:Int)) d=some s):∀ k,j<k->s ∈ lgU v b d k:=by
 intro k
 induction k with
 | zero=>intro c;omega
 | succ k ih =>
  intro a;simp only [lgU,List.mem_append];by_cases e:j=k
  ·subst e;right;rw [h];simp
  ·left;exact ih (by omega)
theorem legal1_mem {v:Vr} {b:Bd} {s:Stp} (hv:0<=v.p) (h:legal1 v b s=true):s ∈ legalP v b s.2.2.1:=by
 obtain⟨c,e,d,a⟩:=legal1_iff.1 h;unfold legalP;rw [if_neg (by rw [c];simp)];refine lgU_has (j:=(v.p - s.1).toNat) ?_ _ (by omega);rw [show v.p - ((v.p - s.1).toNat:Int)=s.1 by omega];exact a
theorem legal1_ok {v:Vr} {b:Bd} {s:Stp} (hb:Ok v b) (h:legal1 v b s=true):Ok v (afterP v b s):=by
 obtain⟨e,d,c,a⟩:=legal1_iff.1 h;exact after_ok c d.1 hb e a
theorem follow_ok {v:Vr}:∀(ds:List Int) (b:Bd) (ss:List Stp) (c:Bd),Ok v b->followP v b ds ss=some c->Ok v c
 | ds,b,[],c,hb,h=>by simp only [followP,Option.some.injEq] at h;subst h;exact hb
 | [],b,s :: ss,c,hb,h=>by simp [followP] at h
 | d :: ds,b,s :: ss,c,hb,h=>by
  simp only [followP] at h;split at h
  ·rename_i h1;exact follow_ok ds _ ss c (legal1_ok hb h1.2) h
  ·cases h
theorem hasB_iff {out:List Pl} {b:Bd}:hasB out b=true↔∃ q ∈ out,q.2=b:=by
 unfold hasB;rw [List.any_eq_true];simp
theorem addOne_hasB {out:List Pl} {p:Pl} {b:Bd} (h:hasB out b=true):hasB (addOne out p) b=true:=by
 obtain⟨q,a,e⟩:=hasB_iff.1 h;exact hasB_iff.2 ⟨q,addOne_keep a,e⟩
theorem addOne_self (out:List Pl) (p:Pl):hasB (addOne out p) p.2=true:=by
 unfold addOne;split
 ·assumption
 ·exact hasB_iff.2 ⟨p,by simp,rfl⟩
theorem nxIn_hasB {v:Vr} {p:Pl} {b:Bd}:∀(ss:List Stp) (out:List Pl),hasB out b=true->hasB (nxIn v p ss out) b=true:=by
 intro ss
 induction ss with
 | nil=>intro out h;exact h
 | cons s ss ih=>intro out h;exact ih _ (addOne_hasB h)
theorem nxIn_at {v:Vr} {p:Pl} {s:Stp}:∀(ss:List Stp) (out:List Pl),s ∈ ss->hasB (nxIn v p ss out) (afterP v p.2 s)=true:=by
 intro ss
 induction ss with
 | nil=>intro out h;simp at h
 | cons t ss ih =>
  intro out h;rcases List.mem_cons.1 h with rfl | h
  ·exact nxIn_hasB ss _ (addOne_self out (p.1++[s],afterP v p.2 s))
  ·exact ih _ h
theorem nxGo_hasB {v:Vr} {d:Int} {b:Bd}:∀(ps out:List Pl),hasB out b=true->hasB (nxGo v d ps out) b=true:=by
 intro ps
 induction ps with
 | nil=>intro out h;exact h
 | cons p ps ih=>intro out h;exact ih _ (nxIn_hasB _ _ h)
theorem nxGo_at {v:Vr} {d:Int} {b:Bd} {s:Stp} (hs:s ∈ legalP v b d):∀(ps out:List Pl),hasB ps b=true->hasB (nxGo v d ps out) (afterP v b s)=true:=by
 intro ps
 induction ps with
 | nil=>intro out h;simp [hasB] at h
 | cons p ps ih =>
  intro out h;obtain⟨q,a,e⟩:=hasB_iff.1 h;rcases List.mem_cons.1 a with rfl | a
  ·refine nxGo_hasB ps _ ?_;subst e;exact nxIn_at _ _ hs
  ·exact ih _ (hasB_iff.2 ⟨q,a,e⟩)
theorem rowsGo_ge (v:Vr):∀(ds:List Int) (rows:List (List Pl)) (fine:Bool),rows.length<=(rowsGo v ds rows fine).1.length:=by
 intro ds
 induction ds with
 | nil=>intro rows fine;exact Nat.le_refl _
 | cons d ds ih =>
  intro rows fine;simp only [rowsGo];split
  ·exact Nat.le_refl _
  ·have:=ih (rows++[nextP v d (rows.getLastD [])]) (fine && decide ((nextP v d (rows.getLastD [])).length<=3000));simp only [List.length_append,List.length_cons,List.length_nil] at this;omega
theorem follow_rows {v:Vr} (hv:0<=v.p):∀(ds:List Int) (b:Bd) (ss:List Stp) (c:Bd) (rows:List (List Pl)) (fine:Bool),hasB (rows.getLastD []) b=true->followP v b ds ss=some c->rows.length+ss.length<=(rowsGo v ds rows fine).1.length
 | ds,b,[],c,rows,fine,hh,h=>rowsGo_ge v ds rows fine
 | [],b,s :: ss,c,rows,fine,hh,h=>by simp [followP] at h
 | d :: ds,b,s :: ss,c,rows,fine,hh,h=>by
  simp only [followP] at h;split at h
  ·rename_i h1
   have hm:=legal1_mem hv h1.2;rw [h1.1] at hm;have hn:hasB (nextP v d (rows.getLastD [])) (afterP v b s)=true:=nxGo_at hm _ _ hh;have hl:¬ (nextP v d (rows.getLastD [])).length=0:=by
    obtain⟨q,a,_⟩:=hasB_iff.1 hn;intro e;rw [List.eq_nil_of_length_eq_zero e] at a;simp at a
   simp only [rowsGo];rw [if_neg hl];have:=follow_rows hv ds _ ss c (rows++[nextP v d (rows.getLastD [])]) (fine && decide ((nextP v d (rows.getLastD [])).length<=3000)) (by simpa using hn) h;simp only [List.length_append,List.length_cons,List.length_nil] at this ⊢;omega
  ·cases h
theorem follow_short {v:Vr} (hv:0<=v.p) {b c:Bd} {o:List Int} {ss:List Stp} (h:followP v b o ss=some c):ss.length<(rowsP v b o).1.length:=by
 have:=follow_rows hv o b ss c [[([],b)]] true (by simp [hasB]) h;unfold rowsP;simp only [List.length_cons,List.length_nil] at this;omega
theorem rows_one {v:Vr} (hv:0<=v.p) (b:Bd) (d:Int) (ds:List Int):(rowsP v b (d :: ds)).1.length<=1↔(legalP v b d).length=0:=by
 have e:rowsP v b (d :: ds)=if (nextP v d [([],b)]).length=0 then ([[([],b)]],true) else rowsGo v ds [[([],b)],nextP v d [([],b)]] (true && decide ((nextP v d [([],b)]).length<=3000)):=rfl
 have c:(nextP v d [([],b)]).length=0↔(legalP v b d).length=0:=by
  constructor
  ·intro h;rcases Nat.eq_zero_or_pos (legalP v b d).length with h0 | h0
   ·exact h0
   ·exfalso
    have g:(legalP v b d)[0] ∈ legalP v b d:=List.getElem_mem h0;have i:hasB (nextP v d [([],b)]) (afterP v b (legalP v b d)[0])=true:=nxGo_at g [([],b)] [] (by simp [hasB]);obtain⟨q,a,_⟩:=hasB_iff.1 i;rw [List.eq_nil_of_length_eq_zero h] at a;simp at a
  ·intro h;rw [next_go];simp only [nxGo,List.foldl,nxIn];rw [List.eq_nil_of_length_eq_zero h]
   rfl
 rw [e];split
 ·rename_i h;simp [c.1 h]
 ·rename_i h
  have:=rowsGo_ge v ds [[([],b)],nextP v d [([],b)]] (true && decide ((nextP v d [([],b)]).length<=3000));simp only [List.length_cons,List.length_nil] at this
  constructor
  ·intro f;omega
  ·intro f;exact absurd (c.2 f) h
theorem usedR_two (a b:List (List Pl)):usedR [a,b] 0=max (a.length - 1) (b.length - 1):=by
 show max (max 0 (a.length - 1)) (b.length - 1)=_
 omega
theorem usedR_one (a:List (List Pl)):usedR [a] 0=a.length - 1:=by
 show max 0 (a.length - 1)=_
 omega
theorem used_eq (v:Vr) (b:Bd) (x y:Int):usedR ((ordP x y).map λ o=>(rowsP v b o).1) 0=usedP v b (ordP x y):=by
 unfold ordP;split
 ·simp only [List.map_cons,List.map_nil,usedR_one,usedP,(lng_rows v b _).1];omega
 ·simp only [List.map_cons,List.map_nil,usedR_two,usedP,(lng_rows v b _).1];omega
theorem playI_eq {v:Vr} (hv:0<=v.p) (b:Bd) (x y:Int) (ss:List Stp):playI v b x y ss=playP v b x y ss:=by
 unfold playI playP;rw [used_eq];obtain⟨n,i⟩:∃ n,usedP v b (ordP x y)=n:=⟨_,rfl⟩;rw [i];by_cases hl:ss.length=n
 case neg=>rw [if_neg hl,if_neg hl]
 rw [if_pos hl,if_pos hl];unfold ordS;rw [i];have a:∀ o,(rowsP v b o).1.length<=n->followP v b o ss=none:=λ o h=>by
  cases hf:followP v b o ss with
  | none=>rfl
  | some c=>have:=follow_short hv hf;omega
 by_cases e:x=y
 ·have g:ordP x y=[[x,x,x,x]]:=by unfold ordP;rw [if_pos e]
  rw [g];have d:¬ (n=1∧([[x,x,x,x]]:List (List Int)).length=2∧0<(legalP v b x).length):=λ h=>by have:=h.2.1;simp at this
  rw [if_neg d];simp only [List.map_cons,List.map_nil,playGo,firstF];split
  ·rename_i h;rw [a _ h]
  ·cases followP v b [x,x,x,x] ss with
   | some c=>rfl
   | none=>simp only [ite_self]
 ·have g:ordP x y=[[x,y],[y,x]]:=by unfold ordP;rw [if_neg e]
  have k:=rows_one hv b x [y];rw [g];have j:=a [y,x];by_cases h1:(rowsP v b [x,y]).1.length<=n
  ·have m:=a _ h1;have d:¬ (n=1∧([[x,y],[y,x]]:List (List Int)).length=2∧0<(legalP v b x).length):=λ h=>by
    have f:=h.1;subst f;have:=k.1 h1;omega
   rw [if_neg d];simp only [List.map_cons,List.map_nil,playGo,firstF,if_pos h1,m];split
   ·rename_i f;rw [j f]
   ·cases followP v b [y,x] ss with
    | some c=>rfl
    | none=>simp only [ite_self]
  ·by_cases hn1:n=1
   ·subst hn1;have l:0<(legalP v b x).length:=by
     rcases Nat.eq_zero_or_pos (legalP v b x).length with h0 | h0
     ·exact absurd (k.2 h0) h1
     ·exact h0
    rw [if_pos ⟨rfl,rfl,l⟩];simp only [List.map_cons,List.map_nil,playGo,firstF,if_neg h1,List.take,if_true]
   ·have d:¬ (n=1∧([[x,y],[y,x]]:List (List Int)).length=2∧0<(legalP v b x).length):=λ h=>hn1 h.1
    rw [if_neg d];simp only [List.map_cons,List.map_nil,playGo,firstF,if_neg h1,if_neg hn1]
    cases followP v b [x,y] ss with
    | some c=>rfl
    | none =>
     simp only;split
     ·rename_i f;rw [j f]
     ·cases followP v b [y,x] ss with
      | some c=>rfl
      | none=>rfl
theorem first_ok {v:Vr} {b c:Bd} {ss:List Stp} (hb:Ok v b):∀(os:List (List Int)),firstF v b ss os=some c->Ok v c
 | [],h=>by simp [firstF] at h
 | o :: os,h=>by
  simp only [firstF] at h;split at h
  ·rename_i d hd
   simp only [Option.some.injEq] at h;subst h;exact follow_ok o b ss _ hb hd
  ·exact first_ok hb os h
theorem play_ok {v:Vr} {b c:Bd} {x y:Int} {ss:List Stp} (hb:Ok v b) (h:playP v b x y ss=some c):Ok v c:=by
 unfold playP at h;split at h
 ·exact first_ok hb _ h
 ·cases h
structure Gm where
 b:Bd
 pl:Int
 x:Int
 y:Int
 ph:Int
 wn:Int
 rs:Int
 tn:Int
structure Ev where
 k:Int
 a:Int
 b:Int
 ss:List Stp
 r:Int
structure Ms where
 s0:Int
 s1:Int
 gs:Int
 g:Gm
 ov:Bool
def resP (v:Vr) (b:Bd):Int :=
 if (if b.1.sum=0 then b.2 else b.1).sum<v.c then 1 else if v.p - v.h<=last (if b.1.sum=0 then b.2 else b.1) then 3 else 2
def startL (v:Vr):List Int :=
 if v.p=24∧v.c=15∧v.h=6∧v.s=6 then ((((List.replicate 25 (0:Int)).set 5 5).set 7 3).set 12 5).set 23 2
 else ((List.replicate (v.p+1).toNat (0:Int)).set (v.p - 1).toNat (v.c / 2)).set (v.p / 2 - 1).toNat (v.c - v.c / 2)
def startB (v:Vr):Bd:=(startL v,startL v)
def newG (v:Vr):Gm:=⟨startB v,0,0,0,0,0,0,0⟩
def gmB (v:Vr) (g:Gm):Bool :=
 okB v g.b && decide (4<=v.p) && decide (0<=g.pl∧g.pl<=1) && decide (0<=g.tn∧g.tn<=2000) &&
 (if g.ph=2 then rollB v g.x g.y else decide (g.x=0∧g.y=0)) &&
 (if g.ph=0 then decide (g.pl=0∧g.wn=0∧g.rs=0∧g.tn=0∧g.b=startB v)
  else if g.ph=1∨g.ph=2 then !over g.b && decide (g.wn=0∧g.rs=0)
  else if g.ph=3 then (if over g.b then decide (g.b.1.sum=0∧g.wn=g.pl∧g.rs=resP v g.b) else decide (g.wn=1 - g.pl∧1<=g.rs∧g.rs<=3))
  else false)
def openC (v:Vr) (g:Gm) (a b:Int):Int:=if gmB v g=false then 1 else if g.ph≠0 then 5 else if decide (1<=a∧a<=v.s)=false∨decide (1<=b∧b<=v.s)=false then 2 else 0
def openG (g:Gm) (a b:Int):Gm :=
 if a=b then g else { g with b:=if a<b then swp g.b else g.b,pl:=if a<b then 1 else g.pl,ph:=2,x:=max a b,y:=min a b }
def rollC (v:Vr) (g:Gm) (x y:Int):Int:=if gmB v g=false then 1 else if g.ph≠1 then 5 else if rollB v x y=false then 2 else 0
def rollG (g:Gm) (x y:Int):Gm:={ g with ph:=2,x:=x,y:=y }
def resgC (v:Vr) (g:Gm) (r:Int):Int:=if gmB v g=false then 1 else if ¬ (g.ph=1∨g.ph=2) then 5 else if decide (1<=r∧r<=3)=false then 2 else 0
def resgG (g:Gm) (r:Int):Gm:={ g with ph:=3,wn:=1 - g.pl,rs:=r,x:=0,y:=0 }
def turnG (v:Vr) (g:Gm) (b:Bd):Gm :=
 if over b then ⟨b,g.pl,0,0,3,g.pl,resP v b,g.tn+1⟩ else ⟨swp b,1 - g.pl,0,0,1,0,0,g.tn+1⟩
def turnP (v:Vr) (g:Gm) (ss:List Stp):Option Gm × Int :=
 if gmB v g=false then (none,1) else if g.ph≠2 then (none,5) else
  match playP v g.b g.x g.y ss with
  | none=>(none,5)
  | some b=>if g.tn=2000 then (none,3) else (some (turnG v g b),0)
def blankP (e:Ev):Bool :=
 if e.k=1 then decide (e.ss.length=0∧e.r=0) else if e.k=2 then decide (e.r=0) else if e.k=3 then decide (e.a=0∧e.b=0∧e.ss.length=0) else false
def gameP (v:Vr) (g:Gm) (e:Ev):Option Gm :=
 if e.k=1 then (if openC v g e.a e.b=0 then some (openG g e.a e.b) else none)
 else if e.k=3 then (if resgC v g e.r=0 then some (resgG g e.r) else none)
 else if g.ph=1 then (if rollC v g e.a e.b=0 then (turnP v (rollG g e.a e.b) e.ss).1 else none)
 else if g.ph=2∧g.x=e.a∧g.y=e.b then (turnP v g e.ss).1 else none
def overS (v:Vr) (len:Int) (x:Ms) (g:Gm):Ms :=
 if g.ph≠3 then ⟨x.s0,x.s1,x.gs,g,false⟩ else
  let t0:=if g.wn=0 then x.s0+g.rs else x.s0
  let t1:=if g.wn=0 then x.s1 else x.s1+g.rs
  if len<=(if g.wn=0 then t0 else t1) then ⟨t0,t1,x.gs+1,g,true⟩ else ⟨t0,t1,x.gs+1,newG v,false⟩
def nextS (v:Vr) (len:Int) (x:Ms) (e:Ev):Option Ms :=
 if x.ov=true∨blankP e=false then none else (gameP v x.g e).map (overS v len x)
def startS (v:Vr):Ms:=⟨0,0,0,newG v,false⟩
def headB (v:Vr) (len:Int):Bool:=okV v && decide (4<=v.p) && decide (1<=len∧len<=25)
def stGo (v:Vr) (len:Int):Ms->List Ev->Option (List Ms)
 | x,[]=>some [x]
 | x,e :: es=>match nextS v len x e with
  | some y=>(stGo v len y es).map (x :: ·)
  | none=>none
def statesP (v:Vr) (len:Int) (es:List Ev):Option (List Ms):=if headB v len=false∨300<es.length then none else stGo v len (startS v) es
theorem gm_parts {v:Vr} {g:Gm} (h:gmB v g=true):Ok v g.b∧4<=v.p∧(0<=g.pl∧g.pl<=1)∧(0<=g.tn∧g.tn<=2000)∧(g.ph=2->(1<=g.x∧g.x<=v.s)∧1<=g.y∧g.y<=g.x)∧(g.ph=1∨g.ph=2->over g.b=false∧g.wn=0∧g.rs=0):=by
 unfold gmB at h;simp only [Bool.and_eq_true,decide_eq_true_eq] at h;obtain⟨⟨⟨⟨⟨j,i⟩,f⟩,e⟩,c⟩,d⟩:=h;refine⟨okB_iff.1 j,i,f,e,λ a=>?_,λ a=>?_⟩
 ·rw [if_pos a] at c;unfold rollB at c
  simpa only [Bool.and_eq_true,decide_eq_true_eq] using c
 ·rw [if_neg (by omega),if_pos a] at d
  simpa only [Bool.and_eq_true,decide_eq_true_eq,Bool.not_eq_true'] using d
theorem game_parts {v:Vr} {g g':Gm} {e:Ev} (h:gameP v g e=some g'):(0<=g'.pl∧g'.pl<=1)∧(0<=g'.tn∧g'.tn<=2000)∧(g'.ph=3->(g'.wn=0∨g'.wn=1)∧1<=g'.rs∧g'.rs<=3)∧Ok v g'.b:=by
 have f:∀ b,1<=resP v b∧resP v b<=3:=λ b=>by unfold resP;split <;> (try split) <;> omega
 have d:∀ {g g':Gm} {l},(turnP v g l).1=some g'->(0<=g'.pl∧g'.pl<=1)∧(0<=g'.tn∧g'.tn<=2000)∧(g'.ph=3->(g'.wn=0∨g'.wn=1)∧1<=g'.rs∧g'.rs<=3)∧Ok v g'.b:=by
  intro g g' l h;unfold turnP at h;split at h
  ·cases h
  ·rename_i h1
   have c:=gm_parts (by simpa using h1);split at h
   ·cases h
   ·split at h
    ·cases h
    ·rename_i b hb
     split at h
     ·cases h
     ·simp only [Option.some.injEq] at h;have i:=play_ok c.1 hb;have n:=f b;unfold turnG at h;split at h
      ·subst h;exact⟨c.2.2.1,⟨by show 0<=g.tn+1;omega,by show g.tn+1<=2000;omega⟩,λ _=>⟨by show g.pl=0∨g.pl=1;omega,n⟩,i⟩
      ·subst h;exact⟨⟨by show 0<=1 - g.pl;omega,by show 1 - g.pl<=1;omega⟩,⟨by show 0<=g.tn+1;omega,by show g.tn+1<=2000;omega⟩,λ j=>absurd (show (1:Int)=3 from j) (by decide),swp_ok i⟩
 unfold gameP at h;split at h
 ·split at h
  ·rename_i h1
   simp only [Option.some.injEq] at h;unfold openC at h1;split at h1
   ·exact absurd h1 (by decide)
   ·rename_i h2
    have c:=gm_parts (by simpa using h2);split at h1
    ·exact absurd h1 (by decide)
    ·rename_i m
     have m:g.ph=0:=by simpa using m
     unfold openG at h;split at h
     ·subst h;exact⟨c.2.2.1,c.2.2.2.1,λ j=>by omega,c.1⟩
     ·subst h;refine⟨?_,c.2.2.2.1,λ j=>absurd (show (2:Int)=3 from j) (by decide),?_⟩
      ·show 0<=(if e.a<e.b then 1 else g.pl)∧(if e.a<e.b then 1 else g.pl)<=1
       have:=c.2.2.1;split <;> omega
      ·show Ok v (if e.a<e.b then swp g.b else g.b)
       split
       ·exact swp_ok c.1
       ·exact c.1
  ·cases h
 ·split at h
  ·split at h
   ·rename_i h1
    simp only [Option.some.injEq] at h;unfold resgC at h1;split at h1
    ·exact absurd h1 (by decide)
    ·rename_i h2
     have c:=gm_parts (by simpa using h2);split at h1
     ·exact absurd h1 (by decide)
     ·split at h1
      ·exact absurd h1 (by decide)
      ·rename_i k
       have k:1<=e.r∧e.r<=3:=by simpa using k
       have:=c.2.2.1;subst h;exact⟨this,c.2.2.2.1,λ _=>⟨by show 1 - g.pl=0∨1 - g.pl=1;omega,k⟩,c.1⟩
   ·cases h
  ·split at h
   ·split at h
    ·exact d h
    ·cases h
   ·split at h
    ·exact d h
    ·cases h
end PlP
namespace PlP
end PlP
end Go.Proofs.YtblipmifflfnoaaGreatDoor
