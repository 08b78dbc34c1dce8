/- Parts of the proof of FnHints. Conditions: each theorem's own. -/
set_option linter.unusedVariables false
set_option linter.unusedSimpArgs false
set_option maxHeartbeats 8000000
set_option maxRecDepth 100000
namespace Go.Proofs.YtmncnhbjifeoeaaGreat
namespace PlP
structure Vr where
 p:Int
 c:Int
 h:Int
 s:Int
abbrev Bd:=List Int × List Int
abbrev Stp:=Int × Int × Int × Bool
abbrev Pl:=List Stp × Bd
def okV (v:Vr):Bool:=decide ((2<=v.p∧v.p<=24)∧(1<=v.c∧v.c<=15)∧(1<=v.h∧v.h<=v.p)∧1<=v.s∧v.s<=6)
def smV (v:Vr):Bool:=okV v && decide (v.p<=6∧v.c<=3∧v.s<=3)
def at_ (l:List Int) (i:Nat):Int:=l.getD i 0
def okS (v:Vr) (l:List Int):Bool:=decide ((l.length:Int)=v.p+1) && (l.all λ x=>decide (0<=x)) && decide (l.sum<=v.c)
def apart (v:Vr) (b:Bd):Nat->Bool
 | 0=>true
 | k+1=>apart v b k && !(decide (0<at_ b.1 k) && decide (0<at_ b.2 (v.p.toNat - 1 - k)))
def okB (v:Vr) (b:Bd):Bool:=okV v && okS v b.1 && okS v b.2 && !(decide (b.1.sum=0) && decide (b.2.sum=0)) && apart v b v.p.toNat
def over (b:Bd):Bool:=decide (b.1.sum=0) || decide (b.2.sum=0)
def lastU (l:List Int):Nat->Int
 | 0=>-1
 | k+1=>if 0<at_ l k then (k:Int) else lastU l k
def last (l:List Int):Int:=lastU l l.length
def stepP (v:Vr) (b:Bd) (f d:Int):Option Stp :=
 if at_ b.1 f.toNat=0∨(0<at_ b.1 v.p.toNat∧f≠v.p) then none
 else if 0<=f - d then
  (if at_ b.2 (v.p - 1 - (f - d)).toNat<=1 then some (f,f - d,d,decide (at_ b.2 (v.p - 1 - (f - d)).toNat=1)) else none)
 else if v.h<=last b.1∨(f - d < -1∧f<last b.1) then none
 else some (f,-1,d,false)
def lgU (v:Vr) (b:Bd) (d:Int):Nat->List Stp
 | 0=>[]
 | k+1=>lgU v b d k++(stepP v b (v.p - (k:Int)) d).toList
def legalP (v:Vr) (b:Bd) (d:Int):List Stp:=if over b then [] else lgU v b d (v.p.toNat+1)
def inc (l:List Int) (i:Nat) (x:Int):List Int:=l.set i (at_ l i+x)
def afterP (v:Vr) (b:Bd) (s:Stp):Bd :=
 (if 0<=s.2.1 then inc (inc b.1 s.1.toNat (-1)) s.2.1.toNat 1 else inc b.1 s.1.toNat (-1),
  if s.2.2.2 then inc (inc b.2 (v.p - 1 - s.2.1).toNat (-1)) v.p.toNat 1 else b.2)
def hasB (out:List Pl) (b:Bd):Bool:=out.any λ q=>decide (q.2=b)
def addOne (out:List Pl) (p:Pl):List Pl:=if hasB out p.2 then out else out++[p]
def nxIn (v:Vr) (p:Pl) (ss:List Stp) (out:List Pl):List Pl:=ss.foldl (λ o s=>addOne o (p.1++[s],afterP v p.2 s)) out
def nextP (v:Vr) (d:Int) (ps:List Pl):List Pl:=ps.foldl (λ o p=>nxIn v p (legalP v p.2 d) o) []
def rowsGo (v:Vr):List Int->List (List Pl)->Bool->List (List Pl) × Bool
 | [],rows,fine=>(rows,fine)
 | d :: ds,rows,fine =>
  let nx:=nextP v d (rows.getLastD [])
  if nx.length=0 then (rows,fine) else rowsGo v ds (rows++[nx]) (fine && decide (nx.length<=3000))
def rowsP (v:Vr) (b:Bd) (ds:List Int):List (List Pl) × Bool:=rowsGo v ds [[([],b)]] true
def lngGo (v:Vr):List Int->List Pl->Nat->Bool->List Pl × Nat × Bool
 | [],ps,k,fine=>(ps,k,fine)
 | d :: ds,ps,k,fine =>
  let nx:=nextP v d ps
  if nx.length=0 then (ps,k,fine && decide (nx.length<=3000)) else lngGo v ds nx (k+1) (fine && decide (nx.length<=3000))
def lngP (v:Vr) (b:Bd) (ds:List Int):List Pl × Nat × Bool:=lngGo v ds [([],b)] 0 true
def ordP (a b:Int):List (List Int):=if a=b then [[a,a,a,a]] else [[a,b],[b,a]]
def addAll (out ps:List Pl):List Pl:=ps.foldl addOne out
def usedP (v:Vr) (b:Bd):List (List Int)->Nat
 | []=>0
 | o :: os=>max (lngP v b o).2.1 (usedP v b os)
def allGo (v:Vr) (b:Bd) (u:Nat):Nat->List (List Int)->List Pl->Bool->List Pl × Bool
 | _,[],out,fine=>(out,fine)
 | i,o :: os,out,fine =>
  let l:=lngP v b o
  allGo v b u (i+1) os (if l.2.1≠u∨(u=1∧i=1∧0<out.length) then out else addAll out l.1) (fine && l.2.2)
def allP (v:Vr) (b:Bd) (x y:Int):List Pl × Bool:=allGo v b (usedP v b (ordP x y)) 0 (ordP x y) [] true
theorem at_get {l:List Int} {i:Nat} (h:i<l.length):l[i]?=some (at_ l i):=by
 unfold at_;rw [List.getD_eq_getElem?_getD,List.getElem?_eq_getElem h];rfl
theorem at_out {l:List Int} {i:Nat} (h:l.length<=i):at_ l i=0:=by
 unfold at_;rw [List.getD_eq_getElem?_getD,List.getElem?_eq_none h];rfl
theorem inc_len (l:List Int) (i:Nat) (x:Int):(inc l i x).length=l.length:=by unfold inc;simp
theorem inc_at (l:List Int) (i j:Nat) (x:Int) (h:i<l.length):at_ (inc l i x) j=if j=i then at_ l i+x else at_ l j:=by
 unfold inc at_;rw [List.getD_eq_getElem?_getD,List.getElem?_set];by_cases e:i=j
 ·subst e;simp [h]
 ·rw [if_neg e,if_neg (λ h=>e h.symm),List.getD_eq_getElem?_getD]
theorem sum_set:∀(l:List Int) (i:Nat) (x:Int),i<l.length->(l.set i x).sum=l.sum - at_ l i+x:=by
 intro l
 induction l with
 | nil=>intro i x h;simp at h
 | cons y l ih =>
  intro i x h
  cases i with
  | zero=>simp [at_];omega
  | succ i =>
   have:=ih i x (by simpa using h);simp only [List.set_cons_succ,List.sum_cons,at_,List.getD_cons_succ] at *;omega
theorem inc_sum (l:List Int) (i:Nat) (x:Int) (h:i<l.length):(inc l i x).sum=l.sum+x:=by
 unfold inc;rw [sum_set l i _ h];omega
theorem sum_nn:∀(l:List Int),(∀ i,0<=at_ l i)->0<=l.sum∧∀ i,at_ l i<=l.sum:=by
 intro l
 induction l with
 | nil=>intro _;exact⟨by simp,λ i=>by simp [at_]⟩
 | cons x l ih =>
  intro h;have b:=h 0;have a:=ih (λ i=>by have:=h (i+1);simpa [at_] using this);simp only [at_,List.getD_cons_zero] at b;refine⟨by simp;omega,λ i=>?_⟩
  cases i with
  | zero=>simp [at_];omega
  | succ i=>have:=a.2 i;simp only [at_,List.getD_cons_succ,List.sum_cons] at *;omega
structure Sd (v:Vr) (l:List Int):Prop where
 len:(l.length:Int)=v.p+1
 nn:∀ i,0<=at_ l i
 sum:l.sum<=v.c
theorem okS_iff {v:Vr} {l:List Int}:okS v l=true↔Sd v l:=by
 unfold okS;simp only [Bool.and_eq_true,decide_eq_true_eq,List.all_eq_true]
 constructor
 ·rintro⟨⟨h1,h2⟩,h3⟩;refine⟨h1,λ i=>?_,h3⟩;rcases Nat.lt_or_ge i l.length with h | h
  ·exact h2 _ (List.mem_of_getElem? (at_get h))
  ·rw [at_out h];exact Int.le_refl _
 ·rintro⟨h1,h2,h3⟩;refine⟨⟨h1,λ x b=>?_⟩,h3⟩;obtain⟨i,a⟩:=List.getElem?_of_mem b;have c:=(List.getElem?_eq_some_iff.1 a).1;rw [at_get c] at a;have:=h2 i;simp only [Option.some.injEq] at a;omega
theorem Sd.top {v:Vr} {l:List Int} (h:Sd v l) (i:Nat):at_ l i<=v.c:=by
 have:=(sum_nn l h.nn).2 i;have:=h.sum;omega
theorem Sd.sum0 {v:Vr} {l:List Int} (h:Sd v l):0<=l.sum:=(sum_nn l h.nn).1
theorem okV_iff {v:Vr}:okV v=true↔(2<=v.p∧v.p<=24)∧(1<=v.c∧v.c<=15)∧(1<=v.h∧v.h<=v.p)∧1<=v.s∧v.s<=6:=by
 unfold okV;exact decide_eq_true_iff
theorem apart_iff {v:Vr} {b:Bd}:∀ k,apart v b k=true↔∀ i,i<k->¬ (0<at_ b.1 i∧0<at_ b.2 (v.p.toNat - 1 - i)):=by
 intro k
 induction k with
 | zero=>simp [apart]
 | succ k ih =>
  simp only [apart,Bool.and_eq_true,ih,Bool.not_eq_true',Bool.and_eq_false_iff,decide_eq_false_iff_not]
  constructor
  ·rintro⟨h1,h2⟩ i a;by_cases e:i=k
   ·subst e;omega
   ·exact h1 i (by omega)
  ·intro h;exact⟨λ i a=>h i (by omega),by have:=h k (by omega);omega⟩
structure Ok (v:Vr) (b:Bd):Prop where
 v1:(2<=v.p∧v.p<=24)∧(1<=v.c∧v.c<=15)∧(1<=v.h∧v.h<=v.p)∧1<=v.s∧v.s<=6
 own:Sd v b.1
 oth:Sd v b.2
 some_:¬ (b.1.sum=0∧b.2.sum=0)
 ap:∀ i,i<v.p.toNat->¬ (0<at_ b.1 i∧0<at_ b.2 (v.p.toNat - 1 - i))
theorem okB_iff {v:Vr} {b:Bd}:okB v b=true↔Ok v b:=by
 unfold okB;simp only [Bool.and_eq_true,okV_iff,okS_iff,Bool.not_eq_true',Bool.and_eq_false_iff,decide_eq_false_iff_not,apart_iff]
 constructor
 ·rintro⟨⟨⟨⟨h1,h2⟩,h3⟩,h4⟩,h5⟩;exact⟨h1,h2,h3,by omega,h5⟩
 ·rintro⟨h1,h2,h3,h4,h5⟩;exact⟨⟨⟨⟨h1,h2⟩,h3⟩,by omega⟩,h5⟩
theorem step_parts {v:Vr} {b:Bd} {f d:Int} {s:Stp} (hf:0<=f∧f<=v.p) (hb:Ok v b) (h:stepP v b f d=some s) :
  s.1=f∧s.2.2.1=d∧0<at_ b.1 f.toNat∧((0<=f - d∧s.2.1=f - d∧at_ b.2 (v.p - 1 - (f - d)).toNat<=1∧s.2.2.2=decide (at_ b.2 (v.p - 1 - (f - d)).toNat=1))∨(f - d<0∧s.2.1=-1∧s.2.2.2=false)):=by
 have c:=hb.own.nn f.toNat;unfold stepP at h;split at h
 ·cases h
 ·rename_i h1
  have a:0<at_ b.1 f.toNat:=by omega
  split at h
  ·split at h
   ·simp only [Option.some.injEq] at h;subst h;exact⟨rfl,rfl,a,.inl ⟨by assumption,rfl,by assumption,rfl⟩⟩
   ·cases h
  ·split at h
   ·cases h
   ·simp only [Option.some.injEq] at h;subst h;exact⟨rfl,rfl,a,.inr ⟨by omega,rfl,rfl⟩⟩
theorem after_ok {v:Vr} {b:Bd} {f d:Int} {s:Stp} (hf:0<=f∧f<=v.p) (hd:1<=d) (hb:Ok v b) (ho:over b=false) (h:stepP v b f d=some s):Ok v (afterP v b s):=by
 obtain⟨H,G,R,F⟩:=step_parts hf hb h;obtain⟨a,P,c,O⟩:=s;simp only at H G F;subst H G;have B:=hb.v1;have y:=hb.own.len;have D:=hb.oth.len;have K:=hb.own.sum0;have J:=hb.oth.sum0;have M:=hb.own.sum;have L:=hb.oth.sum;unfold over at ho;simp only [Bool.or_eq_false_iff,decide_eq_false_iff_not] at ho;have l:a.toNat<b.1.length:=by omega
 have o:∀ j,0<=at_ (inc b.1 a.toNat (-1)) j:=by
  intro j;rw [inc_at _ _ _ _ l];split
  ·omega
  ·exact hb.own.nn j
 rcases F with ⟨k0,rfl,k1,rfl⟩ | ⟨k0,rfl,rfl⟩
 ·have q:(a - c).toNat<(inc b.1 a.toNat (-1)).length:=by rw [inc_len];omega
  have x:(v.p - 1 - (a - c)).toNat<b.2.length:=by omega
  have N:(v.p - 1 - (a - c)).toNat=v.p.toNat - 1 - (a - c).toNat:=by omega
  have I:=hb.oth.nn (v.p - 1 - (a - c)).toNat;have k:(afterP v b (a,a - c,c,decide (at_ b.2 (v.p - 1 - (a - c)).toNat=1))).1=inc (inc b.1 a.toNat (-1)) (a - c).toNat 1:=by unfold afterP;simp only [if_pos k0]
  have r:∀ j,at_ (inc (inc b.1 a.toNat (-1)) (a - c).toNat 1) j=(if j=(a - c).toNat then at_ (inc b.1 a.toNat (-1)) (a - c).toNat+1 else at_ (inc b.1 a.toNat (-1)) j):=λ j=>inc_at _ _ _ _ q
  have E:Sd v (inc (inc b.1 a.toNat (-1)) (a - c).toNat 1):=by
   refine⟨by rw [inc_len,inc_len];exact y,λ j=>?_,by rw [inc_sum _ _ _ q,inc_sum _ _ _ l];omega⟩;rw [r];split
   ·have:=o (a - c).toNat;omega
   ·exact o j
  have m:(inc (inc b.1 a.toNat (-1)) (a - c).toNat 1).sum=b.1.sum:=by rw [inc_sum _ _ _ q,inc_sum _ _ _ l];omega
  by_cases hh:at_ b.2 (v.p - 1 - (a - c)).toNat=1
  ·have g:(afterP v b (a,a - c,c,decide (at_ b.2 (v.p - 1 - (a - c)).toNat=1))).2=inc (inc b.2 (v.p - 1 - (a - c)).toNat (-1)) v.p.toNat 1:=by unfold afterP;simp only [hh,decide_true,if_true]
   have w:v.p.toNat<(inc b.2 (v.p - 1 - (a - c)).toNat (-1)).length:=by rw [inc_len];omega
   have A:∀ j,at_ (inc (inc b.2 (v.p - 1 - (a - c)).toNat (-1)) v.p.toNat 1) j=(if j=v.p.toNat then at_ (inc b.2 (v.p - 1 - (a - c)).toNat (-1)) v.p.toNat+1 else at_ (inc b.2 (v.p - 1 - (a - c)).toNat (-1)) j):=λ j=>inc_at _ _ _ _ w
   have n:∀ j,at_ (inc b.2 (v.p - 1 - (a - c)).toNat (-1)) j=(if j=(v.p - 1 - (a - c)).toNat then at_ b.2 (v.p - 1 - (a - c)).toNat+-1 else at_ b.2 j):=λ j=>inc_at _ _ _ _ x
   have t:∀ j,0<=at_ (inc b.2 (v.p - 1 - (a - c)).toNat (-1)) j:=by
    intro j;rw [n];split
    ·omega
    ·exact hb.oth.nn j
   refine⟨B,?_,?_,?_,?_⟩
   ·rw [k];exact E
   ·rw [g];refine⟨by rw [inc_len,inc_len];exact D,λ j=>?_,by rw [inc_sum _ _ _ w,inc_sum _ _ _ x];omega⟩;rw [A];split
    ·have:=t v.p.toNat;omega
    ·exact t j
   ·rw [k,m];omega
   ·rw [k,g];intro i z;have C:¬ v.p.toNat - 1 - i=v.p.toNat:=by omega
    rw [A,if_neg C,n,r];by_cases ei:i=(a - c).toNat
    ·subst ei;rw [if_pos (by omega:v.p.toNat - 1 - (a - c).toNat=(v.p - 1 - (a - c)).toNat)];omega
    ·rw [if_neg ei,if_neg (by omega:¬ v.p.toNat - 1 - i=(v.p - 1 - (a - c)).toNat),inc_at _ _ _ _ l];have:=hb.ap i z;have Q:=hb.own.nn i;split
     ·rename_i e;subst e;omega
     ·exact this
  ·have g:(afterP v b (a,a - c,c,decide (at_ b.2 (v.p - 1 - (a - c)).toNat=1))).2=b.2:=by unfold afterP;simp only [hh,decide_false,Bool.false_eq_true,if_false]
   refine⟨B,?_,?_,?_,?_⟩
   ·rw [k];exact E
   ·rw [g];exact hb.oth
   ·rw [k,m,g];omega
   ·rw [k,g];intro i z;rw [r];by_cases ei:i=(a - c).toNat
    ·subst ei;rw [<-N];omega
    ·rw [if_neg ei,inc_at _ _ _ _ l];have:=hb.ap i z;split
     ·rename_i e;subst e;omega
     ·exact this
 ·have k:(afterP v b (a,-1,c,false)).1=inc b.1 a.toNat (-1):=by unfold afterP;simp
  have g:(afterP v b (a,-1,c,false)).2=b.2:=by unfold afterP;simp
  refine⟨B,?_,?_,?_,?_⟩
  ·rw [k];exact⟨by rw [inc_len];exact y,o,by rw [inc_sum _ _ _ l];omega⟩
  ·rw [g];exact hb.oth
  ·rw [g];omega
  ·rw [k,g];intro i z;rw [inc_at _ _ _ _ l];have:=hb.ap i z;split
   ·rename_i e;subst e;omega
   ·exact this
end PlP
namespace PlP
theorem lgU_mem {v:Vr} {b:Bd} {d:Int} {s:Stp}:∀ k,s ∈ lgU v b d k->∃ j,j<k∧stepP v b (v.p - (j:Int)) d=some s:=by
 intro k
 induction k with
 | zero=>intro h;simp [lgU] at h
 | succ k ih =>
  intro h;simp only [lgU,List.mem_append] at h;rcases h with h | h
  ·obtain⟨j,c,a⟩:=ih h;exact⟨j,by omega,a⟩
  ·refine⟨k,by omega,?_⟩
   cases e:stepP v b (v.p - (k:Int)) d with
   | none=>rw [e] at h;simp at h
   | some t=>rw [e] at h;simp at h;rw [h]
theorem legal_mem {v:Vr} {b:Bd} {d:Int} {s:Stp} (hv:0<=v.p) (h:s ∈ legalP v b d):over b=false∧∃ f,(0<=f∧f<=v.p)∧stepP v b f d=some s:=by
 unfold legalP at h;split at h
 ·simp at h
 ·rename_i ho
  obtain⟨j,c,a⟩:=lgU_mem _ h;exact⟨by simpa using ho,v.p - (j:Int),by omega,a⟩
theorem legal_ok {v:Vr} {b:Bd} {d:Int} {s:Stp} (hd:1<=d) (hb:Ok v b) (h:s ∈ legalP v b d):Ok v (afterP v b s):=by
 obtain⟨e,f,c,a⟩:=legal_mem (by have:=hb.v1;omega) h;exact after_ok c hd hb e a
theorem lgU_len (v:Vr) (b:Bd) (d:Int):∀ k,(lgU v b d k).length<=k:=by
 intro k
 induction k with
 | zero=>simp [lgU]
 | succ k ih =>
  simp only [lgU,List.length_append];have:((stepP v b (v.p - (k:Int)) d).toList).length<=1:=by cases stepP v b (v.p - (k:Int)) d <;> simp
  omega
theorem legal_len (v:Vr) (b:Bd) (d:Int):(legalP v b d).length<=v.p.toNat+1:=by
 unfold legalP;split
 ·simp
 ·exact lgU_len v b d _
theorem addOne_len (out:List Pl) (p:Pl):(addOne out p).length<=out.length+1:=by unfold addOne;split <;> simp
theorem addOne_mem {out:List Pl} {p q:Pl} (h:q ∈ addOne out p):q ∈ out∨q=p:=by
 unfold addOne at h;split at h
 ·exact .inl h
 ·simpa using h
theorem addOne_pos {out:List Pl} {p:Pl}:0<(addOne out p).length:=by
 unfold addOne;split
 ·rename_i h
  unfold hasB at h
  cases out with
  | nil=>simp at h
  | cons x l=>simp
 ·simp
theorem addOne_keep {out:List Pl} {p q:Pl} (h:q ∈ out):q ∈ addOne out p:=by
 unfold addOne;split
 ·exact h
 ·simp [h]
theorem nxIn_len (v:Vr) (p:Pl):∀(ss:List Stp) (out:List Pl),(nxIn v p ss out).length<=out.length+ss.length:=by
 intro ss
 induction ss with
 | nil=>intro out;simp [nxIn]
 | cons s ss ih =>
  intro out;have b:=ih (addOne out (p.1++[s],afterP v p.2 s));have a:=addOne_len out (p.1++[s],afterP v p.2 s);simp only [nxIn,List.foldl_cons,List.length_cons] at *;omega
theorem nxIn_mem {v:Vr} {p q:Pl}:∀(ss:List Stp) (out:List Pl),q ∈ nxIn v p ss out->q ∈ out∨∃ s ∈ ss,q=(p.1++[s],afterP v p.2 s):=by
 intro ss
 induction ss with
 | nil=>intro out h;exact .inl h
 | cons s ss ih =>
  intro out h;rcases ih _ h with h | ⟨t,ht,h⟩
  ·rcases addOne_mem h with h | h
   ·exact .inl h
   ·exact .inr ⟨s,List.mem_cons_self ..,h⟩
  ·exact .inr ⟨t,List.mem_cons_of_mem _ ht,h⟩
def nxGo (v:Vr) (d:Int) (ps:List Pl) (out:List Pl):List Pl:=ps.foldl (λ o p=>nxIn v p (legalP v p.2 d) o) out
theorem nxGo_len (v:Vr) (d:Int):∀(ps out:List Pl),(nxGo v d ps out).length<=out.length+ps.length*(v.p.toNat+1):=by
 intro ps
 induction ps with
 | nil=>intro out;simp [nxGo]
 | cons p ps ih =>
  intro out;have c:=ih (nxIn v p (legalP v p.2 d) out);have b:=nxIn_len v p (legalP v p.2 d) out;have a:=legal_len v p.2 d;simp only [nxGo,List.foldl_cons,List.length_cons,Nat.add_mul,Nat.one_mul] at *;omega
theorem nxGo_mem {v:Vr} {d:Int} {q:Pl}:∀(ps out:List Pl),q ∈ nxGo v d ps out->q ∈ out∨∃ p ∈ ps,∃ s ∈ legalP v p.2 d,q=(p.1++[s],afterP v p.2 s):=by
 intro ps
 induction ps with
 | nil=>intro out h;exact .inl h
 | cons p ps ih =>
  intro out h;rcases ih _ h with h | ⟨r,hr,h⟩
  ·rcases nxIn_mem _ _ h with h | ⟨s,hs,h⟩
   ·exact .inl h
   ·exact .inr ⟨p,List.mem_cons_self ..,s,hs,h⟩
  ·exact .inr ⟨r,List.mem_cons_of_mem _ hr,h⟩
def RowOk (v:Vr) (k:Nat) (ps:List Pl):Prop:=∀ p ∈ ps,Ok v p.2∧p.1.length=k
theorem next_ok {v:Vr} {d:Int} {ps:List Pl} {k:Nat} (hd:1<=d) (h:RowOk v k ps):RowOk v (k+1) (nextP v d ps):=by
 intro q a;rcases nxGo_mem ps [] a with h' | ⟨p,hp,s,hs,rfl⟩
 ·simp at h'
 ·exact⟨legal_ok hd (h p hp).1 hs,by simp [(h p hp).2]⟩
theorem next_len {v:Vr} {d:Int} {ps:List Pl}:(nextP v d ps).length<=ps.length*(v.p.toNat+1):=by
 have:=nxGo_len v d ps [];show (nxGo v d ps []).length<=_
 simpa using this
theorem rows_lng (v:Vr):∀(ds:List Int) (rows:List (List Pl)) (fine:Bool),rows≠[] ->
  lngGo v ds (rows.getLastD []) (rows.length - 1) fine=((rowsGo v ds rows fine).1.getLastD [],(rowsGo v ds rows fine).1.length - 1,(rowsGo v ds rows fine).2)∧(rowsGo v ds rows fine).1≠[]:=by
 intro ds
 induction ds with
 | nil=>intro rows fine h;exact⟨rfl,h⟩
 | cons d ds ih =>
  intro rows fine h;have c:1<=rows.length:=by cases rows with | nil=>exact absurd rfl h | cons x l=>simp
  simp only [lngGo,rowsGo];split
  ·rename_i h0
   refine⟨?_,h⟩;simp only [Prod.mk.injEq,true_and];rw [h0];simp
  ·have:=ih (rows++[nextP v d (rows.getLastD [])]) (fine && decide ((nextP v d (rows.getLastD [])).length<=3000)) (by simp);have b:(rows++[nextP v d (rows.getLastD [])]).getLastD []=nextP v d (rows.getLastD []):=by simp
   have a:(rows++[nextP v d (rows.getLastD [])]).length - 1=rows.length - 1+1:=by simp;omega
   rw [b,a] at this;exact this
theorem lng_rows (v:Vr) (b:Bd) (ds:List Int):lngP v b ds=((rowsP v b ds).1.getLastD [],(rowsP v b ds).1.length - 1,(rowsP v b ds).2)∧(rowsP v b ds).1≠[] :=
 rows_lng v ds [[([],b)]] true (by simp)
theorem lng_ok {v:Vr}:∀(ds:List Int) (ps:List Pl) (k:Nat) (fine:Bool),(∀ d ∈ ds,1<=d)->RowOk v k ps->0<ps.length ->
  RowOk v (lngGo v ds ps k fine).2.1 (lngGo v ds ps k fine).1∧0<(lngGo v ds ps k fine).1.length∧(lngGo v ds ps k fine).2.1<=k+ds.length:=by
 intro ds
 induction ds with
 | nil=>intro ps k fine _ h a;exact⟨h,a,Nat.le_refl _⟩
 | cons d ds ih =>
  intro ps k fine b h a;simp only [lngGo];split
  ·exact⟨h,a,by simp⟩
  ·rename_i h1
   have:=ih (nextP v d ps) (k+1) (fine && decide ((nextP v d ps).length<=3000)) (λ x c=>b x (List.mem_cons_of_mem _ c)) (next_ok (b d (List.mem_cons_self ..)) h) (by omega);refine⟨this.1,this.2.1,?_⟩;simp only [List.length_cons];omega
theorem lng_fine {v:Vr} (hv:v.p.toNat+1<=7):∀(ds:List Int) (ps:List Pl) (k m:Nat),ps.length<=m->m*7 ^ ds.length<=3000->(lngGo v ds ps k true).2.2=true:=by
 intro ds
 induction ds with
 | nil=>intro ps k m _ _;rfl
 | cons d ds ih =>
  intro ps k m f a;have c:=next_len (v:=v) (d:=d) (ps:=ps);have h:(nextP v d ps).length<=m*7:=Nat.le_trans c (Nat.mul_le_mul f hv);have e:m*7 ^ (ds.length+1)=m*7*7 ^ ds.length:=by rw [Nat.pow_succ,Nat.mul_comm (7 ^ ds.length) 7,<-Nat.mul_assoc]
  rw [List.length_cons,e] at a;have b:1<=7 ^ ds.length:=Nat.one_le_pow _ _ (by omega);have i:m*7<=3000:=Nat.le_trans (Nat.le_mul_of_pos_right _ b) a;have g:decide ((nextP v d ps).length<=3000)=true:=decide_eq_true (by omega);simp only [lngGo,g,Bool.and_true];split
  ·rfl
  ·exact ih _ _ (m*7) h a
def usedR (all:List (List (List Pl))) (m:Nat):Nat:=all.foldl (λ m rows=>max m (rows.length - 1)) m
def implGo (n:Nat):List (List (List Pl))->List Pl->List Pl
 | [],out=>out
 | rows :: rest,out=>if rows.length<=n then implGo n rest out else if n=1 then addAll out (rows.getD n []) else implGo n rest (addAll out (rows.getD n []))
def allI (v:Vr) (b:Bd) (x y:Int):List Pl × Bool :=
 let all:=(ordP x y).map (rowsP v b)
 if (all.all λ r=>r.2) then
  (if usedR (all.map λ r=>r.1) 0=0 then ([([],b)],true) else (implGo (usedR (all.map λ r=>r.1) 0) (all.map λ r=>r.1) [],true))
 else ([],false)
theorem addAll_pos {ps out:List Pl} (h:0<ps.length):0<(addAll out ps).length:=by
 have a:∀(ps out:List Pl),0<out.length->0<(addAll out ps).length:=by
  intro ps
  induction ps with
  | nil=>intro out h;exact h
  | cons p ps ih=>intro out h;exact ih _ addOne_pos
 cases ps with
 | nil=>simp at h
 | cons p ps=>exact a ps (addOne out p) addOne_pos
theorem addAll_mem {q:Pl}:∀(ps out:List Pl),q ∈ addAll out ps->q ∈ out∨q ∈ ps:=by
 intro ps
 induction ps with
 | nil=>intro out h;exact .inl h
 | cons p ps ih =>
  intro out h;rcases ih _ h with h | h
  ·rcases addOne_mem h with h | h
   ·exact .inl h
   ·exact .inr (by rw [h];exact List.mem_cons_self ..)
  ·exact .inr (List.mem_cons_of_mem _ h)
theorem last_at {rows:List (List Pl)} (h:rows≠[]):rows.getLastD []=rows.getD (rows.length - 1) []:=by
 rw [List.getLastD_eq_getLast?,List.getLast?_eq_getElem?,List.getD_eq_getElem?_getD]
theorem lng_ge (v:Vr):∀(ds:List Int) (ps:List Pl) (k:Nat) (fine:Bool),k<=(lngGo v ds ps k fine).2.1∧((lngGo v ds ps k fine).2.1=k->(lngGo v ds ps k fine).1=ps):=by
 intro ds
 induction ds with
 | nil=>intro ps k fine;exact⟨Nat.le_refl _,λ _=>rfl⟩
 | cons d ds ih =>
  intro ps k fine;simp only [lngGo];split
  ·exact⟨Nat.le_refl _,λ _=>rfl⟩
  ·have:=ih (nextP v d ps) (k+1) (fine && decide ((nextP v d ps).length<=3000));exact⟨by omega,λ h=>by omega⟩
theorem lng_zero (v:Vr) (b:Bd) (ds:List Int):(lngP v b ds).2.1=0->(lngP v b ds).1=[([],b)]:=(lng_ge v ds [([],b)] 0 true).2
theorem all_two (v:Vr) (b:Bd) (o1 o2:List Int) (hd1:∀ d ∈ o1,1<=d) (hb:Ok v b) (h1:(lngP v b o1).2.2=true) (h2:(lngP v b o2).2.2=true) :
  (if usedR [(rowsP v b o1).1,(rowsP v b o2).1] 0=0 then ([([],b)],true) else (implGo (usedR [(rowsP v b o1).1,(rowsP v b o2).1] 0) [(rowsP v b o1).1,(rowsP v b o2).1] [],true))=allGo v b (usedP v b [o1,o2]) 0 [o1,o2] [] true:=by
 obtain⟨s,y⟩:=lng_rows v b o1;obtain⟨r,w⟩:=lng_rows v b o2;have f:=(lng_ok (v:=v) o1 [([],b)] 0 true hd1 (by intro p z;simp at z;subst z;exact⟨hb,rfl⟩) (by simp)).2.1;have i:=lng_zero v b o1;have g:=lng_zero v b o2;have C:=last_at y;have B:=last_at w;have F:1<=(rowsP v b o1).1.length:=by cases hr:(rowsP v b o1).1 with | nil=>exact absurd hr y | cons x l=>simp
 have E:1<=(rowsP v b o2).1.length:=by cases hr:(rowsP v b o2).1 with | nil=>exact absurd hr w | cons x l=>simp
 rw [show lngGo v o1 [([],b)] 0 true=lngP v b o1 from rfl] at f;rw [s] at f i h1;rw [r] at g h2;rw [C] at f i;rw [B] at g;simp only at f i g h1 h2;have G:usedP v b [o1,o2]=max ((rowsP v b o1).1.length - 1) (max ((rowsP v b o2).1.length - 1) 0):=by simp only [usedP,s,r]
 have H:usedR [(rowsP v b o1).1,(rowsP v b o2).1] 0=max (max 0 ((rowsP v b o1).1.length - 1)) ((rowsP v b o2).1.length - 1):=rfl;simp only [allGo,s,r,G,H,h1,h2,C,B,Bool.and_true,implGo]
 generalize (rowsP v b o1).1=r1 at *
 generalize (rowsP v b o2).1=r2 at *
 obtain⟨a,k⟩:∃ a,r1.length=a+1:=⟨r1.length - 1,by omega⟩;obtain⟨c,j⟩:∃ c,r2.length=c+1:=⟨r2.length - 1,by omega⟩;rw [k,Nat.add_sub_cancel] at i f;rw [j,Nat.add_sub_cancel] at g;simp only [k,j,Nat.add_sub_cancel];have A:addAll [] (r1.getD a [])≠[]:=λ h=>by have:=addAll_pos (out:=[]) f;rw [h] at this;simp at this
 rw [List.getD_eq_getElem?_getD] at A;have q:¬ a+1<=a:=by omega
 have D:¬ c+1<=c:=by omega
 by_cases hu:a=0∧c=0
 ·obtain⟨rfl,rfl⟩:=hu;rw [i rfl,g rfl];simp [addAll,addOne,hasB]
 ·by_cases c1:c<=a
  ·have o:max (max 0 a) c=a:=by omega
   have n:max a (max c 0)=a:=by omega
   have e:¬ a=0:=by omega
   rw [o,n];by_cases c2:a=1
   ·subst c2;simp [A,q]
   ·by_cases m:c=a
    ·subst m;simp [e,c2,q]
    ·have t:c+1<=a:=by omega
     simp [e,c2,m,t,q]
  ·have o:max (max 0 a) c=c:=by omega
   have n:max a (max c 0)=c:=by omega
   have e:¬ c=0:=by omega
   have m:¬ a=c:=by omega
   have t:a+1<=c:=by omega
   rw [o,n];simp [e,m,t,D]
theorem all_one (v:Vr) (b:Bd) (o1:List Int) (h1:(lngP v b o1).2.2=true) :
  (if usedR [(rowsP v b o1).1] 0=0 then ([([],b)],true) else (implGo (usedR [(rowsP v b o1).1] 0) [(rowsP v b o1).1] [],true))=allGo v b (usedP v b [o1]) 0 [o1] [] true:=by
 obtain⟨e,f⟩:=lng_rows v b o1;have c:=lng_zero v b o1;have g:=last_at f;have k:1<=(rowsP v b o1).1.length:=by cases hr:(rowsP v b o1).1 with | nil=>exact absurd hr f | cons x l=>simp
 rw [e] at c h1;rw [g] at c;simp only at c h1;have m:usedP v b [o1]=max ((rowsP v b o1).1.length - 1) 0:=by simp only [usedP,e]
 have n:usedR [(rowsP v b o1).1] 0=max 0 ((rowsP v b o1).1.length - 1):=rfl;simp only [allGo,e,m,n,h1,g,Bool.and_true,implGo]
 generalize (rowsP v b o1).1=r1 at *
 obtain⟨a,d⟩:∃ a,r1.length=a+1:=⟨r1.length - 1,by omega⟩;rw [d,Nat.add_sub_cancel] at c;simp only [d,Nat.add_sub_cancel];have i:max 0 a=a:=by omega
 have h:max a 0=a:=by omega
 rw [i,h];by_cases hu:a=0
 ·subst hu;rw [c rfl];simp [addAll,addOne,hasB]
 ·have j:¬ a+1<=a:=by omega
  simp [hu,j]
theorem allI_eq {v:Vr} {b:Bd} {x y:Int} (hb:Ok v b) (hx:1<=x) (hy:1<=y) (hf:∀ o ∈ ordP x y,(lngP v b o).2.2=true):allI v b x y=allP v b x y:=by
 unfold allI allP;have a:∀ o ∈ ordP x y,(rowsP v b o).2=true:=λ o g=>by
  have:=hf o g;rw [(lng_rows v b o).1] at this;exact this
 by_cases e:x=y
 ·have f:ordP x y=[[x,x,x,x]]:=by unfold ordP;rw [if_pos e]
  rw [f] at a hf ⊢;have c:=a _ (List.mem_cons_self ..);simp only [List.map_cons,List.map_nil,List.all_cons,List.all_nil,c,Bool.and_true,if_true];exact all_one v b _ (hf _ (List.mem_cons_self ..))
 ·have f:ordP x y=[[x,y],[y,x]]:=by unfold ordP;rw [if_neg e]
  rw [f] at a hf ⊢;have c:=a _ (List.mem_cons_self ..);have i:=a [y,x] (by simp);simp only [List.map_cons,List.map_nil,List.all_cons,List.all_nil,c,i,Bool.and_true,Bool.and_self,if_true];exact all_two v b _ _ (by intro d h;simp at h;omega) hb (hf _ (List.mem_cons_self ..)) (hf _ (by simp))
theorem fits_small {v:Vr} {b:Bd} {x y:Int} (hv:v.p<=6):∀ o ∈ ordP x y,(lngP v b o).2.2=true:=by
 intro o a;refine lng_fine (by omega) o [([],b)] 0 1 (by simp) ?_;unfold ordP at a;split at a
 ·simp at a;subst a;simp
 ·simp at a;rcases a with rfl | rfl <;> simp
theorem allP_ok {v:Vr} {b:Bd} {x y:Int} (hb:Ok v b) (hx:1<=x) (hy:1<=y):(∀ p ∈ (allP v b x y).1,Ok v p.2∧p.1.length<=4)∧0<(allP v b x y).1.length:=by
 have s:∀ o ∈ ordP x y,(∀ p ∈ (lngP v b o).1,Ok v p.2∧p.1.length<=4)∧0<(lngP v b o).1.length:=by
  intro o c;have r:o.length<=4∧∀ d ∈ o,1<=d:=by
   unfold ordP at c;split at c
   ·simp at c;subst c;exact⟨by simp,by intro d B;simp at B;omega⟩
   ·simp at c;rcases c with rfl | rfl <;> exact⟨by simp,by intro d B;simp at B;omega⟩
  have:=lng_ok (v:=v) o [([],b)] 0 true r.2 (by intro p m;simp at m;subst m;exact⟨hb,rfl⟩) (by simp);refine⟨λ p m=>?_,this.2.1⟩;have f:=this.1 p m;refine⟨f.1,?_⟩;have:=this.2.2;have:=r.1;rw [f.2];omega
 have C:∀(u:Nat) (l:List (List Int)) (i:Nat) (out:List Pl) (a:Bool),(∀ o ∈ l,o ∈ ordP x y)->(∀ p ∈ out,Ok v p.2∧p.1.length<=4) ->
   (∀ p ∈ (allGo v b u i l out a).1,Ok v p.2∧p.1.length<=4)∧(0<out.length->0<(allGo v b u i l out a).1.length):=by
  intro u l
  induction l with
  | nil=>intro i out a _ c;exact⟨c,λ h=>h⟩
  | cons o l ih =>
   intro i out a k c;have f:=s o (k o (List.mem_cons_self ..));simp only [allGo];split
   ·exact ih _ _ _ (λ q w=>k q (List.mem_cons_of_mem _ w)) c
   ·have:=ih (i+1) (addAll out (lngP v b o).1) (a && (lngP v b o).2.2) (λ q w=>k q (List.mem_cons_of_mem _ w)) (λ p m=>by
     rcases addAll_mem _ _ m with h | h
     ·exact c p h
     ·exact f.1 p h)
    exact⟨this.1,λ _=>this.2 (addAll_pos f.2)⟩
 refine⟨(C _ _ 0 [] true (λ o c=>c) (by simp)).1,?_⟩;unfold allP;by_cases e:x=y
 ·have n:ordP x y=[[x,x,x,x]]:=by unfold ordP;rw [if_pos e]
  rw [n];have f:=s [x,x,x,x] (by rw [n];simp);simp only [allGo,usedP];simp;exact addAll_pos f.2
 ·have n:ordP x y=[[x,y],[y,x]]:=by unfold ordP;rw [if_neg e]
  rw [n];have f:=s [x,y] (by rw [n];simp);have F:=s [y,x] (by rw [n];simp);have E:∀ out,addAll out (lngP v b [x,y]).1≠[]:=λ out h=>by have:=addAll_pos (out:=out) f.2;rw [h] at this;simp at this
  have D:∀ out,addAll out (lngP v b [y,x]).1≠[]:=λ out h=>by have:=addAll_pos (out:=out) F.2;rw [h] at this;simp at this
  simp only [allGo,usedP];obtain⟨g,A⟩:∃ g,(lngP v b [x,y]).2.1=g:=⟨_,rfl⟩;obtain⟨j,z⟩:∃ j,(lngP v b [y,x]).2.1=j:=⟨_,rfl⟩;simp only [A,z];refine List.length_pos_iff.2 ?_;by_cases c1:j<=g
  ·have t:max g (max j 0)=g:=by omega
   rw [t];simp only [ne_eq,not_true_eq_false,false_or];rw [if_neg (by simp:¬ (g=1∧0=1∧0<([]:List Pl).length))];split
   ·exact E _
   ·exact D _
  ·have t:max g (max j 0)=j:=by omega
   have G:g≠j:=by omega
   rw [t];simp [G,D]
def pipU (l:List Int):Nat->Int
 | 0=>0
 | k+1=>pipU l k+((k:Int)+1)*at_ l k
def pipP (l:List Int):Int:=pipU l l.length
def est (v:Vr) (b:Bd):Int :=
 if b.1.sum=0 then 1000000 else if b.2.sum=0 then 0
 else max 1 (min 999999 (500000+(1000000*(pipP b.2 - pipP b.1+v.s)) / (pipP b.1+pipP b.2+v.s)))
def rollsP:Nat->List (Int × Int)
 | 0=>[]
 | a+1=>rollsP a++(List.range (a+1)).map λ b=>(((a+1:Nat):Int),((b+1:Nat):Int))
def wtP (r:Int × Int):Int:=if r.1=r.2 then 1 else 2
def grU (l:List Int):Nat->Int
 | 0=>at_ l 0
 | k+1=>max (grU l k) (at_ l (k+1))
def grt (l:List Int):Int:=grU l (l.length - 1)
def fgU (l:List Int):Nat->Nat
 | 0=>0
 | k+1=>if at_ l (fgU l k)<at_ l (k+1) then k+1 else fgU l k
def fgP (l:List Int):Nat:=fgU l (l.length - 1)
theorem fg_gr (l:List Int):∀ k,at_ l (fgU l k)=grU l k∧fgU l k<=k:=by
 intro k
 induction k with
 | zero=>exact⟨rfl,Nat.le_refl _⟩
 | succ k ih =>
  simp only [fgU,grU];split
  ·exact⟨by omega,Nat.le_refl _⟩
  ·exact⟨by omega,by omega⟩
theorem gr_bd {l:List Int} {a z:Int} (h:∀ x ∈ l,a<=x∧x<=z):∀ k,k<l.length->a<=grU l k∧grU l k<=z:=by
 intro k
 induction k with
 | zero=>intro b;exact h _ (List.mem_of_getElem? (at_get b))
 | succ k ih =>
  intro b;have d:=ih (by omega);have c:=h _ (List.mem_of_getElem? (at_get b));simp only [grU];omega
def swp (b:Bd):Bd:=(b.2,b.1)
def valP (v:Vr):Nat->Bd->Int
 | 0,b=>est v b
 | d+1,b=>if over b then est v b else ((rollsP v.s.toNat).map λ r=>wtP r*grt ((allP v b r.1 r.2).1.map λ p=>1000000 - valP v d (swp p.2))).sum / (v.s*v.s)
def plsP (v:Vr) (d:Nat) (b:Bd) (x y:Int):List Int:=(allP v b x y).1.map λ p=>1000000 - valP v d (swp p.2)
theorem swp_ok {v:Vr} {b:Bd} (h:Ok v b):Ok v (swp b):=by
 refine⟨h.v1,h.oth,h.own,λ a=>h.some_ ⟨a.2,a.1⟩,λ i c a=>?_⟩;have:=h.ap (v.p.toNat - 1 - i) (by omega);rw [show v.p.toNat - 1 - (v.p.toNat - 1 - i)=i from by omega] at this;exact this ⟨a.2,a.1⟩
theorem est_bd (v:Vr) (b:Bd):0<=est v b∧est v b<=1000000:=by
 unfold est;split
 ·omega
 ·split
  ·omega
  ·omega
theorem rolls_mem {s:Nat} {r:Int × Int} (h:r ∈ rollsP s):(1<=r.1∧r.1<=s)∧1<=r.2∧r.2<=r.1:=by
 induction s with
 | zero=>simp [rollsP] at h
 | succ s ih =>
  simp only [rollsP,List.mem_append,List.mem_map,List.mem_range] at h;rcases h with h | ⟨b,hb,rfl⟩
  ·have:=ih h;omega
  ·simp only;omega
theorem wsum_bd (f:Int × Int->Int):∀(l:List (Int × Int)),(∀ r ∈ l,0<=f r∧f r<=1000000)->0<=(l.map λ r=>wtP r*f r).sum∧(l.map λ r=>wtP r*f r).sum<=1000000*(l.map wtP).sum:=by
 intro l
 induction l with
 | nil=>intro _;simp
 | cons r l ih =>
  intro h;have d:=ih (λ q a=>h q (List.mem_cons_of_mem _ a));have c:=h r (List.mem_cons_self ..);simp only [List.map_cons,List.sum_cons];have b:0<=wtP r*f r∧wtP r*f r<=1000000*wtP r:=by unfold wtP;split <;> omega
  omega
theorem wt_sum {s:Int} (h1:1<=s) (h6:s<=6):((rollsP s.toNat).map wtP).sum=s*s:=by
 have:s=1∨s=2∨s=3∨s=4∨s=5∨s=6:=by omega
 rcases this with rfl | rfl | rfl | rfl | rfl | rfl <;> decide
theorem val_bd {v:Vr}:∀(d:Nat) (b:Bd),Ok v b->0<=valP v d b∧valP v d b<=1000000:=by
 intro d
 induction d with
 | zero=>intro b _;exact est_bd v b
 | succ d ih =>
  intro b c;simp only [valP];split
  ·exact est_bd v b
  ·have j:=c.v1;have a:=wsum_bd (λ r=>grt ((allP v b r.1 r.2).1.map λ p=>1000000 - valP v d (swp p.2))) (rollsP v.s.toNat) (λ r h=>by
    have k:=rolls_mem h;have e:=allP_ok (x:=r.1) (y:=r.2) c (by omega) (by omega);refine gr_bd (λ x f=>?_) _ (by rw [List.length_map];have:=e.2;omega);obtain⟨p,i,rfl⟩:=List.mem_map.1 f;have:=ih _ (swp_ok (e.1 p i).1);omega)
   rw [wt_sum (by omega) (by omega)] at a;have g:0<v.s*v.s:=Int.mul_pos (by omega) (by omega);exact⟨Int.ediv_nonneg a.1 (by omega),by
    refine Int.le_of_lt_add_one (Int.ediv_lt_of_lt_mul g ?_);have:(1000000+1)*(v.s*v.s)=1000000*(v.s*v.s)+v.s*v.s:=by rw [Int.add_mul,Int.one_mul]
    omega⟩
theorem pls_bd {v:Vr} {d:Nat} {b:Bd} {x y:Int} (hb:Ok v b) (hx:1<=x) (hy:1<=y):(∀ z ∈ plsP v d b x y,0<=z∧z<=1000000)∧0<(plsP v d b x y).length:=by
 have a:=allP_ok (x:=x) (y:=y) hb hx hy;refine⟨λ z c=>?_,by unfold plsP;rw [List.length_map];exact a.2⟩;obtain⟨p,e,rfl⟩:=List.mem_map.1 c;have:=val_bd d _ (swp_ok (a.1 p e).1);omega
end PlP
namespace PlP
def keyP (b:Bd):List UInt8:=(b.1++b.2).map λ n=>UInt8.ofNat n.toNat
theorem list_ext {l m:List Int} (hl:l.length=m.length) (h:∀ i,i<l.length->at_ l i=at_ m i):l=m:=by
 refine List.ext_getElem? λ i=>?_
 rcases Nat.lt_or_ge i l.length with hi | hi
 ·rw [at_get hi,at_get (by omega),h i hi]
 ·rw [List.getElem?_eq_none hi,List.getElem?_eq_none (by omega)]
theorem key_side {v:Vr} {l m:List Int} (hl:Sd v l) (hm:Sd v m) (hc:v.c<=15) (h:l.map (λ n:Int=>UInt8.ofNat n.toNat)=m.map (λ n:Int=>UInt8.ofNat n.toNat)):l=m:=by
 have f:=hl.len;have e:=hm.len;refine list_ext (by omega) λ i b=>?_
 have a:=congrArg (λ l=>l[i]?) h;simp only [List.getElem?_map] at a;rw [at_get b,at_get (by omega:i<m.length)] at a;simp only [Option.map_some,Option.some.injEq] at a;have o:=hl.nn i;have k:=hl.top i;have j:=hm.nn i;have g:=hm.top i;have d:=congrArg UInt8.toNat a;rw [UInt8.toNat_ofNat_of_lt' (by show _<256;omega),UInt8.toNat_ofNat_of_lt' (by show _<256;omega)] at d;omega
theorem key_inj {v:Vr} {a b:Bd} (ha:Ok v a) (hb:Ok v b) (h:keyP a=keyP b):a=b:=by
 unfold keyP at h;have e:=ha.own.len;have d:=hb.own.len;have c:=ha.v1;rw [List.map_append,List.map_append] at h;have:=List.append_inj h (by simp;omega);exact Prod.ext (key_side ha.own hb.own (by omega) this.1) (key_side ha.oth hb.oth (by omega) this.2)
theorem has_key {v:Vr} {out:List Pl} {b:Bd} (ho:∀ q ∈ out,Ok v q.2) (hb:Ok v b):decide (keyP b ∈ out.map λ q=>keyP q.2)=hasB out b:=by
 unfold hasB
 cases h:out.any λ q=>decide (q.2=b) with
 | true =>
  obtain⟨q,c,a⟩:=List.any_eq_true.1 h;have a:=of_decide_eq_true a;refine decide_eq_true (List.mem_map.2 ⟨q,c,by rw [a]⟩)
 | false =>
  refine decide_eq_false λ d=>?_
  obtain⟨q,c,a⟩:=List.mem_map.1 d;have:=key_inj (ho q c) hb a;have e:=List.any_eq_false.1 h q c;exact e (decide_eq_true this)
theorem floor_eq {x y:Int} (hy:0<y):(if x.tmod y<0 then x.tdiv y - 1 else x.tdiv y)=x / y:=by
 have g:=Int.tmod_add_mul_tdiv x y;have d:=Int.tmod_lt_of_pos x hy
 generalize x.tdiv y=q at *
 by_cases h:x.tmod y<0
 ·rw [if_pos h];have e:-y<x.tmod y:=by
   by_cases hx:0<=x
   ·have:=Int.tmod_nonneg y hx;omega
   ·have f:(-x).tmod y=-(x.tmod y):=Int.neg_tmod _ _;have:=Int.tmod_lt_of_pos (-x) hy;omega
  refine(Int.ediv_eq_iff_of_pos hy).2 ?_ |>.symm
  have c:y*(q - 1)=y*q - y:=by rw [Int.mul_sub,Int.mul_one]
  have b:(q - 1)*y=y*q - y:=by rw [Int.mul_comm,c]
  have a:(q - 1+1)*y=y*q:=by rw [Int.sub_add_cancel,Int.mul_comm]
  constructor <;> (first | omega | (simp only [c,b,a] at *;omega))
 ·rw [if_neg h];refine(Int.ediv_eq_iff_of_pos hy).2 ?_ |>.symm
  have b:q*y=y*q:=Int.mul_comm _ _;have a:(q+1)*y=y*q+y:=by rw [Int.add_mul,Int.one_mul,Int.mul_comm]
  constructor <;> (first | omega | (simp only [b,a] at *;omega))
end PlP
namespace PlP
theorem nxIn_snoc (v:Vr) (p:Pl) (ss:List Stp) (s:Stp) (out:List Pl):nxIn v p (ss++[s]) out=addOne (nxIn v p ss out) (p.1++[s],afterP v p.2 s):=by
 unfold nxIn;rw [List.foldl_append];rfl
theorem nxGo_snoc (v:Vr) (d:Int) (ps:List Pl) (p:Pl) (out:List Pl):nxGo v d (ps++[p]) out=nxIn v p (legalP v p.2 d) (nxGo v d ps out):=by
 unfold nxGo;rw [List.foldl_append];rfl
theorem next_go (v:Vr) (d:Int) (ps:List Pl):nextP v d ps=nxGo v d ps []:=rfl
theorem addOne_has {out:List Pl} {p:Pl} (h:hasB out p.2=true):addOne out p=out:=by unfold addOne;rw [if_pos h]
theorem addOne_new {out:List Pl} {p:Pl} (h:hasB out p.2=false):addOne out p=out++[p]:=by unfold addOne;rw [if_neg (by rw [h];simp)]
theorem addAll_snoc (out ps:List Pl) (p:Pl):addAll out (ps++[p])=addOne (addAll out ps) p:=by
 unfold addAll;rw [List.foldl_append];rfl
theorem takeS {α:Type} {l:List α} {k:Nat} {x:α} (h:l[k]?=some x):l.take (k+1)=l.take k++[x]:=by
 rw [List.take_add_one,h];rfl
structure Coll (v:Vr) (k m:Nat) (out:List Pl):Prop where
 ok:RowOk v k out
 len:out.length<=m
theorem Coll.nil (v:Vr) (k:Nat):Coll v k 0 []:=⟨λ q hq=>by simp at hq,Nat.le_refl _⟩
theorem Coll.more {v:Vr} {k m m':Nat} {out:List Pl} (h:Coll v k m out) (hm:m<=m'):Coll v k m' out:=⟨h.ok,Nat.le_trans h.len hm⟩
theorem Coll.add {v:Vr} {k m:Nat} {out:List Pl} {p:Pl} (h:Coll v k m out) (hp:Ok v p.2∧p.1.length=k):Coll v k (m+1) (addOne out p):=by
 refine⟨λ q a=>?_,?_⟩
 ·rcases addOne_mem a with a | rfl
  ·exact h.ok q a
  ·exact hp
 ·have:=addOne_len out p;have:=h.len;omega
theorem row_sides {v:Vr} {k n:Nat} {out:List Pl} (h:RowOk v k out) (hn:(n:Int)=v.p+1):∀ q ∈ out,q.2.1.length=n∧q.2.2.length=n:=λ q hq=>by
 have h1:=(h q hq).1.own.len;have h2:=(h q hq).1.oth.len;omega
theorem legal_parts {v:Vr} {b:Bd} {d:Int} {s:Stp} (hd:1<=d) (hb:Ok v b) (h:s ∈ legalP v b d):(0<=s.1∧s.1<=v.p)∧(-1<=s.2.1∧s.2.1<v.p)∧(s.2.2.2=true->0<=s.2.1):=by
 obtain⟨m,f,e,j⟩:=legal_mem (by have:=hb.v1;omega) h;obtain⟨g,l,k,i⟩:=step_parts e hb j;rcases i with ⟨a,b1,-,-⟩ | ⟨a,b1,c⟩
 ·rw [g,b1];exact⟨e,by omega,λ _=>a⟩
 ·rw [g,b1,c];exact⟨e,by have:=hb.v1;omega,λ h=>by cases h⟩
end PlP
namespace PlP
def RowsOk (v:Vr) (rows:List (List Pl)):Prop:=∀ i row,rows[i]?=some row->RowOk v i row∧row.length<=25 ^ i
theorem RowsOk.snoc {v:Vr} {rows:List (List Pl)} {row:List Pl} (h:RowsOk v rows) (hr:RowOk v rows.length row∧row.length<=25 ^ rows.length):RowsOk v (rows++[row]):=by
 intro i r a;rcases Nat.lt_trichotomy i rows.length with h1 | h1 | h1
 ·rw [List.getElem?_append_left h1] at a;exact h i r a
 ·subst h1;rw [List.getElem?_append_right (Nat.le_refl _),Nat.sub_self] at a;simp at a;subst a;exact hr
 ·rw [List.getElem?_eq_none (by simp;omega)] at a;cases a
theorem rowsGo_ok {v:Vr} (hp:v.p.toNat+1<=25):∀(ds:List Int) (rows:List (List Pl)) (fine:Bool),(∀ d ∈ ds,1<=d)->rows≠[]->RowsOk v rows ->
  RowsOk v (rowsGo v ds rows fine).1∧(rowsGo v ds rows fine).1.length<=rows.length+ds.length∧rows.length<=(rowsGo v ds rows fine).1.length:=by
 intro ds
 induction ds with
 | nil=>intro rows fine _ _ h;exact⟨h,Nat.le_refl _,Nat.le_refl _⟩
 | cons d ds ih =>
  intro rows fine c a h;simp only [rowsGo];split
  ·exact⟨h,Nat.le_add_right _ _,Nat.le_refl _⟩
  ·obtain⟨m,b⟩:∃ m,rows.length=m+1:=by cases rows with | nil=>exact absurd rfl a | cons x l=>exact⟨l.length,rfl⟩
   have i:rows[m]?=some (rows.getLastD []):=by
    rw [List.getLastD_eq_getLast?,List.getLast?_eq_getElem?,b,Nat.add_sub_cancel,List.getElem?_eq_getElem (by omega)];rfl
   have e:=h m _ i;have g:RowOk v (m+1) (nextP v d (rows.getLastD []))∧(nextP v d (rows.getLastD [])).length<=25 ^ (m+1):=by
    refine⟨next_ok (c d (List.mem_cons_self ..)) e.1,Nat.le_trans next_len ?_⟩;rw [Nat.pow_succ];exact Nat.mul_le_mul e.2 hp
   have:=ih (rows++[nextP v d (rows.getLastD [])]) (fine && decide ((nextP v d (rows.getLastD [])).length<=3000)) (λ x f=>c x (List.mem_cons_of_mem _ f)) (by simp) (h.snoc (by rw [b];exact g));refine⟨this.1,?_,?_⟩
   ·have:=this.2.1;simp only [List.length_append,List.length_cons,List.length_nil] at *;omega
   ·have:=this.2.2;simp only [List.length_append,List.length_cons,List.length_nil] at *;omega
theorem rowsP_ok {v:Vr} {b:Bd} (hb:Ok v b) {ds:List Int} (hd:∀ d ∈ ds,1<=d) (hl:ds.length<=4):RowsOk v (rowsP v b ds).1∧1<=(rowsP v b ds).1.length∧(rowsP v b ds).1.length<=5:=by
 have f:=hb.v1;have:=rowsGo_ok (v:=v) (by omega) ds [[([],b)]] true hd (by simp) (by
  intro i e a
  cases i with
  | zero=>simp at a;subst a;exact⟨λ q c=>by simp at c;subst c;exact⟨hb,rfl⟩,by simp⟩
  | succ i=>simp at a)
 refine⟨this.1,?_,?_⟩
 ·have:=this.2.2;exact this
 ·have:=this.2.1;simp only [List.length_cons,List.length_nil] at this;unfold rowsP;omega
theorem usedR_bd:∀(all:List (List (List Pl))) (m k:Nat),m<=k->(∀ R ∈ all,R.length<=k+1)->usedR all m<=k:=by
 intro all
 induction all with
 | nil=>intro m k h _;exact h
 | cons R all ih =>
  intro m k h a;have:=a R (List.mem_cons_self ..);exact ih _ _ (show max m (R.length - 1)<=k by omega) (λ Q b=>a Q (List.mem_cons_of_mem _ b))
theorem implGo_skip {n:Nat} {R:List (List Pl)} {rest:List (List (List Pl))} {out:List Pl} (h:R.length<=n):implGo n (R :: rest) out=implGo n rest out:=by
 simp only [implGo];rw [if_pos h]
theorem implGo_one {n:Nat} {R:List (List Pl)} {rest:List (List (List Pl))} {out:List Pl} (h:¬ R.length<=n) (h1:n=1):implGo n (R :: rest) out=addAll out (R.getD n []):=by
 simp only [implGo];rw [if_neg h,if_pos h1]
theorem implGo_more {n:Nat} {R:List (List Pl)} {rest:List (List (List Pl))} {out:List Pl} (h:¬ R.length<=n) (h1:¬ n=1):implGo n (R :: rest) out=implGo n rest (addAll out (R.getD n [])):=by
 simp only [implGo];rw [if_neg h,if_neg h1]
theorem drop_cons {α:Type} {l:List α} {k:Nat} {x:α} (h:l[k]?=some x):l.drop k=x :: l.drop (k+1):=by
 obtain⟨b,a⟩:=List.getElem?_eq_some_iff.1 h;rw [List.drop_eq_getElem_cons b,a]
theorem allI_eq2 (v:Vr) (b:Bd) (x y:Int):allI v b x y=(if ((ordP x y).all λ o=>(rowsP v b o).2)=true then (if usedR ((ordP x y).map λ o=>(rowsP v b o).1) 0=0 then ([([],b)],true) else (implGo (usedR ((ordP x y).map λ o=>(rowsP v b o).1) 0) ((ordP x y).map λ o=>(rowsP v b o).1) [],true)) else ([],false)):=by
 unfold allI;simp only [List.all_map,List.map_map,Function.comp_def]
end PlP
end Go.Proofs.YtmncnhbjifeoeaaGreat
