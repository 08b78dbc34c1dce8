/- Parts of the proof of FnVerdicts. Conditions: each theorem's own. -/
import Derived.Test.YtmncnhbjifeoeaaGreatT01
import Derived.Test.YtmncnhbjifeoeaaGreatT02
set_option linter.unusedVariables false
set_option linter.unusedSimpArgs false
set_option maxHeartbeats 8000000
set_option maxRecDepth 100000
namespace Go.Proofs.YtmncnhbjifeoeaaGreat
namespace PlP
def rollB (v:Vr) (x y:Int):Bool:=decide (1<=x∧x<=v.s) && decide (1<=y∧y<=x)
def legal1 (v:Vr) (b:Bd) (s:Stp):Bool :=
 !over b && decide (1<=s.2.2.1∧s.2.2.1<=v.s) && decide (0<=s.1∧s.1<=v.p) && decide (stepP v b s.1 s.2.2.1=some s)
def followP (v:Vr):Bd->List Int->List Stp->Option Bd
 | b,_,[]=>some b
 | _,[],_ :: _=>none
 | b,d :: ds,s :: ss=>if s.2.2.1=d∧legal1 v b s=true then followP v (afterP v b s) ds ss else none
def firstF (v:Vr) (b:Bd) (ss:List Stp):List (List Int)->Option Bd
 | []=>none
 | o :: os=>match followP v b o ss with
  | some c=>some c
  | none=>firstF v b ss os
def ordS (v:Vr) (b:Bd) (x y:Int):List (List Int):=if usedP v b (ordP x y)=1∧(ordP x y).length=2∧0<(legalP v b x).length then (ordP x y).take 1 else ordP x y
def playP (v:Vr) (b:Bd) (x y:Int) (ss:List Stp):Option Bd:=if ss.length=usedP v b (ordP x y) then firstF v b ss (ordS v b x y) else none
def playGo (v:Vr) (b:Bd) (ss:List Stp) (n:Nat):List (List Int)->List (List (List Pl))->Option Bd
 | o :: os,R :: Rs=>if R.length<=n then playGo v b ss n os Rs else match followP v b o ss with
  | some c=>some c
  | none=>if n=1 then none else playGo v b ss n os Rs
 | _,_=>none
def playI (v:Vr) (b:Bd) (x y:Int) (ss:List Stp):Option Bd :=
 if ss.length=usedR ((ordP x y).map λ o=>(rowsP v b o).1) 0 then playGo v b ss (usedR ((ordP x y).map λ o=>(rowsP v b o).1) 0) (ordP x y) ((ordP x y).map λ o=>(rowsP v b o).1) else none
theorem legal1_iff {v:Vr} {b:Bd} {s:Stp}:legal1 v b s=true↔over b=false∧(1<=s.2.2.1∧s.2.2.1<=v.s)∧(0<=s.1∧s.1<=v.p)∧stepP v b s.1 s.2.2.1=some s:=by
 unfold legal1;simp only [Bool.and_eq_true,Bool.not_eq_true',decide_eq_true_eq,and_assoc]
theorem lgU_has {v:Vr} {b:Bd} {d:Int} {s:Stp} {j:Nat} (h:stepP v b (v.p - (j:Int)) d=some s):∀ k,j<k->s ∈ lgU v b d k:=by
 intro k
 induction k with
 | zero=>intro c;omega
 | succ k ih =>
  intro a;simp only [lgU,List.mem_append];by_cases e:j=k
  ·subst e;right;rw [h];simp
  ·left;exact ih (by omega)
theorem legal1_mem {v:Vr} {b:Bd} {s:Stp} (hv:0<=v.p) (h:legal1 v b s=true):s ∈ legalP v b s.2.2.1:=by
 obtain⟨c,e,d,a⟩:=legal1_iff.1 h;unfold legalP;rw [if_neg (by rw [c];simp)];refine lgU_has (j:=(v.p - s.1).toNat) ?_ _ (by omega);rw [show v.p - ((v.p - s.1).toNat:Int)=s.1 by omega];exact a
theorem legal1_ok {v:Vr} {b:Bd} {s:Stp} (hb:Ok v b) (h:legal1 v b s=true):Ok v (afterP v b s):=by
 obtain⟨e,d,c,a⟩:=legal1_iff.1 h;exact after_ok c d.1 hb e a
theorem follow_ok {v:Vr}:∀(ds:List Int) (b:Bd) (ss:List Stp) (c:Bd),Ok v b->followP v b ds ss=some c->Ok v c
 | ds,b,[],c,hb,h=>by simp only [followP,Option.some.injEq] at h;subst h;exact hb
 | [],b,s :: ss,c,hb,h=>by simp [followP] at h
 | d :: ds,b,s :: ss,c,hb,h=>by
  simp only [followP] at h;split at h
  ·rename_i h1;exact follow_ok ds _ ss c (legal1_ok hb h1.2) h
  ·cases h
theorem hasB_iff {out:List Pl} {b:Bd}:hasB out b=true↔∃ q ∈ out,q.2=b:=by
 unfold hasB;rw [List.any_eq_true];simp
theorem addOne_hasB {out:List Pl} {p:Pl} {b:Bd} (h:hasB out b=true):hasB (addOne out p) b=true:=by
 obtain⟨q,a,e⟩:=hasB_iff.1 h;exact hasB_iff.2 ⟨q,addOne_keep a,e⟩
theorem addOne_self (out:List Pl) (p:Pl):hasB (addOne out p) p.2=true:=by
 unfold addOne;split
 ·assumption
 ·exact hasB_iff.2 ⟨p,by simp,rfl⟩
theorem nxIn_hasB {v:Vr} {p:Pl} {b:Bd}:∀(ss:List Stp) (out:List Pl),hasB out b=true->hasB (nxIn v p ss out) b=true:=by
 intro ss
 induction ss with
 | nil=>intro out h;exact h
 | cons s ss ih=>intro out h;exact ih _ (addOne_hasB h)
theorem nxIn_at {v:Vr} {p:Pl} {s:Stp}:∀(ss:List Stp) (out:List Pl),s ∈ ss->hasB (nxIn v p ss out) (afterP v p.2 s)=true:=by
 intro ss
 induction ss with
 | nil=>intro out h;simp at h
 | cons t ss ih =>
  intro out h;rcases List.mem_cons.1 h with rfl | h
  ·exact nxIn_hasB ss _ (addOne_self out (p.1++[s],afterP v p.2 s))
  ·exact ih _ h
theorem nxGo_hasB {v:Vr} {d:Int} {b:Bd}:∀(ps out:List Pl),hasB out b=true->hasB (nxGo v d ps out) b=true:=by
 intro ps
 induction ps with
 | nil=>intro out h;exact h
 | cons p ps ih=>intro out h;exact ih _ (nxIn_hasB _ _ h)
theorem nxGo_at {v:Vr} {d:Int} {b:Bd} {s:Stp} (hs:s ∈ legalP v b d):∀(ps out:List Pl),hasB ps b=true->hasB (nxGo v d ps out) (afterP v b s)=true:=by
 intro ps
 induction ps with
 | nil=>intro out h;simp [hasB] at h
 | cons p ps ih =>
  intro out h;obtain⟨q,a,e⟩:=hasB_iff.1 h;rcases List.mem_cons.1 a with rfl | a
  ·refine nxGo_hasB ps _ ?_;subst e;exact nxIn_at _ _ hs
  ·exact ih _ (hasB_iff.2 ⟨q,a,e⟩)
theorem rowsGo_ge (v:Vr):∀(ds:List Int) (rows:List (List Pl)) (fine:Bool),rows.length<=(rowsGo v ds rows fine).1.length:=by
 intro ds
 induction ds with
 | nil=>intro rows fine;exact Nat.le_refl _
 | cons d ds ih =>
  intro rows fine;simp only [rowsGo];split
  ·exact Nat.le_refl _
  ·have:=ih (rows++[nextP v d (rows.getLastD [])]) (fine && decide ((nextP v d (rows.getLastD [])).length<=3000));simp only [List.length_append,List.length_cons,List.length_nil] at this;omega
theorem follow_rows {v:Vr} (hv:0<=v.p):∀(ds:List Int) (b:Bd) (ss:List Stp) (c:Bd) (rows:List (List Pl)) (fine:Bool),hasB (rows.getLastD []) b=true->followP v b ds ss=some c->rows.length+ss.length<=(rowsGo v ds rows fine).1.length
 | ds,b,[],c,rows,fine,hh,h=>rowsGo_ge v ds rows fine
 | [],b,s :: ss,c,rows,fine,hh,h=>by simp [followP] at h
 | d :: ds,b,s :: ss,c,rows,fine,hh,h=>by
  simp only [followP] at h;split at h
  ·rename_i h1
   have hm:=legal1_mem hv h1.2;rw [h1.1] at hm;have hn:hasB (nextP v d (rows.getLastD [])) (afterP v b s)=true:=nxGo_at hm _ _ hh;have hl:¬ (nextP v d (rows.getLastD [])).length=0:=by
    obtain⟨q,a,_⟩:=hasB_iff.1 hn;intro e;rw [List.eq_nil_of_length_eq_zero e] at a;simp at a
   simp only [rowsGo];rw [if_neg hl];have:=follow_rows hv ds _ ss c (rows++[nextP v d (rows.getLastD [])]) (fine && decide ((nextP v d (rows.getLastD [])).length<=3000)) (by simpa using hn) h;simp only [List.length_append,List.length_cons,List.length_nil] at this ⊢;omega
  ·cases h
theorem follow_short {v:Vr} (hv:0<=v.p) {b c:Bd} {o:List Int} {ss:List Stp} (h:followP v b o ss=some c):ss.length<(rowsP v b o).1.length:=by
 have:=follow_rows hv o b ss c [[([],b)]] true (by simp [hasB]) h;unfold rowsP;simp only [List.length_cons,List.length_nil] at this;omega
theorem rows_one {v:Vr} (hv:0<=v.p) (b:Bd) (d:Int) (ds:List Int):(rowsP v b (d :: ds)).1.length<=1↔(legalP v b d).length=0:=by
 have e:rowsP v b (d :: ds)=if (nextP v d [([],b)]).length=0 then ([[([],b)]],true) else rowsGo v ds [[([],b)],nextP v d [([],b)]] (true && decide ((nextP v d [([],b)]).length<=3000)):=rfl
 have c:(nextP v d [([],b)]).length=0↔(legalP v b d).length=0:=by
  constructor
  ·intro h;rcases Nat.eq_zero_or_pos (legalP v b d).length with h0 | h0
   ·exact h0
   ·exfalso
    have g:(legalP v b d)[0] ∈ legalP v b d:=List.getElem_mem h0;have i:hasB (nextP v d [([],b)]) (afterP v b (legalP v b d)[0])=true:=nxGo_at g [([],b)] [] (by simp [hasB]);obtain⟨q,a,_⟩:=hasB_iff.1 i;rw [List.eq_nil_of_length_eq_zero h] at a;simp at a
  ·intro h;rw [next_go];simp only [nxGo,List.foldl,nxIn];rw [List.eq_nil_of_length_eq_zero h]
   rfl
 rw [e];split
 ·rename_i h;simp [c.1 h]
 ·rename_i h
  have:=rowsGo_ge v ds [[([],b)],nextP v d [([],b)]] (true && decide ((nextP v d [([],b)]).length<=3000));simp only [List.length_cons,List.length_nil] at this
  constructor
  ·intro f;omega
  ·intro f;exact absurd (c.2 f) h
theorem usedR_two (a b:List (List Pl)):usedR [a,b] 0=max (a.length - 1) (b.length - 1):=by
 show max (max 0 (a.length - 1)) (b.length - 1)=_
 omega
theorem usedR_one (a:List (List Pl)):usedR [a] 0=a.length - 1:=by
 show max 0 (a.length - 1)=_
 omega
theorem used_eq (v:Vr) (b:Bd) (x y:Int):usedR ((ordP x y).map λ o=>(rowsP v b o).1) 0=usedP v b (ordP x y):=by
 unfold ordP;split
 ·simp only [List.map_cons,List.map_nil,usedR_one,usedP,(lng_rows v b _).1];omega
 ·simp only [List.map_cons,List.map_nil,usedR_two,usedP,(lng_rows v b _).1];omega
theorem playI_eq {v:Vr} (hv:0<=v.p) (b:Bd) (x y:Int) (ss:List Stp):playI v b x y ss=playP v b x y ss:=by
 unfold playI playP;rw [used_eq];obtain⟨n,i⟩:∃ n,usedP v b (ordP x y)=n:=⟨_,rfl⟩;rw [i];by_cases hl:ss.length=n
 case neg=>rw [if_neg hl,if_neg hl]
 rw [if_pos hl,if_pos hl];unfold ordS;rw [i];have a:∀ o,(rowsP v b o).1.length<=n->followP v b o ss=none:=λ o h=>by
  cases hf:followP v b o ss with
  | none=>rfl
  | some c=>have:=follow_short hv hf;omega
 by_cases e:x=y
 ·have g:ordP x y=[[x,x,x,x]]:=by unfold ordP;rw [if_pos e]
  rw [g];have d:¬ (n=1∧([[x,x,x,x]]:List (List Int)).length=2∧0<(legalP v b x).length):=λ h=>by have:=h.2.1;simp at this
  rw [if_neg d];simp only [List.map_cons,List.map_nil,playGo,firstF];split
  ·rename_i h;rw [a _ h]
  ·cases followP v b [x,x,x,x] ss with
   | some c=>rfl
   | none=>simp only [ite_self]
 ·have g:ordP x y=[[x,y],[y,x]]:=by unfold ordP;rw [if_neg e]
  have k:=rows_one hv b x [y];rw [g];have j:=a [y,x];by_cases h1:(rowsP v b [x,y]).1.length<=n
  ·have m:=a _ h1;have d:¬ (n=1∧([[x,y],[y,x]]:List (List Int)).length=2∧0<(legalP v b x).length):=λ h=>by
    have f:=h.1;subst f;have:=k.1 h1;omega
   rw [if_neg d];simp only [List.map_cons,List.map_nil,playGo,firstF,if_pos h1,m];split
   ·rename_i f;rw [j f]
   ·cases followP v b [y,x] ss with
    | some c=>rfl
    | none=>simp only [ite_self]
  ·by_cases hn1:n=1
   ·subst hn1;have l:0<(legalP v b x).length:=by
     rcases Nat.eq_zero_or_pos (legalP v b x).length with h0 | h0
     ·exact absurd (k.2 h0) h1
     ·exact h0
    rw [if_pos ⟨rfl,rfl,l⟩];simp only [List.map_cons,List.map_nil,playGo,firstF,if_neg h1,List.take,if_true]
   ·have d:¬ (n=1∧([[x,y],[y,x]]:List (List Int)).length=2∧0<(legalP v b x).length):=λ h=>hn1 h.1
    rw [if_neg d];simp only [List.map_cons,List.map_nil,playGo,firstF,if_neg h1,if_neg hn1]
    cases followP v b [x,y] ss with
    | some c=>rfl
    | none =>
     simp only;split
     ·rename_i f;rw [j f]
     ·cases followP v b [y,x] ss with
      | some c=>rfl
      | none=>rfl
theorem first_ok {v:Vr} {b c:Bd} {ss:List Stp} (hb:Ok v b):∀(os:List (List Int)),firstF v b ss os=some c->Ok v c
 | [],h=>by simp [firstF] at h
 | o :: os,h=>by
  simp only [firstF] at h;split at h
  ·rename_i d hd
   simp only [Option.some.injEq] at h;subst h;exact follow_ok o b ss _ hb hd
  ·exact first_ok hb os h
theorem play_ok {v:Vr} {b c:Bd} {x y:Int} {ss:List Stp} (hb:Ok v b) (h:playP v b x y ss=some c):Ok v c:=by
 unfold playP at h;split at h
 ·exact first_ok hb _ h
 ·cases h
structure Gm where
 b:Bd
 pl:Int
 x:Int
 y:Int
 ph:Int
 wn:Int
 rs:Int
 tn:Int
structure Ev where
 k:Int
 a:Int
 b:Int
 ss:List Stp
 r:Int
structure Ms where
 s0:Int
 s1:Int
 gs:Int
 g:Gm
 ov:Bool
def resP (v:Vr) (b:Bd):Int :=
 if (if b.1.sum=0 then b.2 else b.1).sum<v.c then 1 else if v.p - v.h<=last (if b.1.sum=0 then b.2 else b.1) then 3 else 2
def startL (v:Vr):List Int :=
 if v.p=24∧v.c=15∧v.h=6∧v.s=6 then ((((List.replicate 25 (0:Int)).set 5 5).set 7 3).set 12 5).set 23 2
 else ((List.replicate (v.p+1).toNat (0:Int)).set (v.p - 1).toNat (v.c / 2)).set (v.p / 2 - 1).toNat (v.c - v.c / 2)
def startB (v:Vr):Bd:=(startL v,startL v)
def newG (v:Vr):Gm:=⟨startB v,0,0,0,0,0,0,0⟩
def gmB (v:Vr) (g:Gm):Bool :=
 okB v g.b && decide (4<=v.p) && decide (0<=g.pl∧g.pl<=1) && decide (0<=g.tn∧g.tn<=2000) &&
 (if g.ph=2 then rollB v g.x g.y else decide (g.x=0∧g.y=0)) &&
 (if g.ph=0 then decide (g.pl=0∧g.wn=0∧g.rs=0∧g.tn=0∧g.b=startB v)
  else if g.ph=1∨g.ph=2 then !over g.b && decide (g.wn=0∧g.rs=0)
  else if g.ph=3 then (if over g.b then decide (g.b.1.sum=0∧g.wn=g.pl∧g.rs=resP v g.b) else decide (g.wn=1 - g.pl∧1<=g.rs∧g.rs<=3))
  else false)
def openC (v:Vr) (g:Gm) (a b:Int):Int:=if gmB v g=false then 1 else if g.ph≠0 then 5 else if decide (1<=a∧a<=v.s)=false∨decide (1<=b∧b<=v.s)=false then 2 else 0
def openG (g:Gm) (a b:Int):Gm :=
 if a=b then g else { g with b:=if a<b then swp g.b else g.b,pl:=if a<b then 1 else g.pl,ph:=2,x:=max a b,y:=min a b }
def rollC (v:Vr) (g:Gm) (x y:Int):Int:=if gmB v g=false then 1 else if g.ph≠1 then 5 else if rollB v x y=false then 2 else 0
def rollG (g:Gm) (x y:Int):Gm:={ g with ph:=2,x:=x,y:=y }
def resgC (v:Vr) (g:Gm) (r:Int):Int:=if gmB v g=false then 1 else if ¬ (g.ph=1∨g.ph=2) then 5 else if decide (1<=r∧r<=3)=false then 2 else 0
def resgG (g:Gm) (r:Int):Gm:={ g with ph:=3,wn:=1 - g.pl,rs:=r,x:=0,y:=0 }
def turnG (v:Vr) (g:Gm) (b:Bd):Gm :=
 if over b then ⟨b,g.pl,0,0,3,g.pl,resP v b,g.tn+1⟩ else ⟨swp b,1 - g.pl,0,0,1,0,0,g.tn+1⟩
def turnP (v:Vr) (g:Gm) (ss:List Stp):Option Gm × Int :=
 if gmB v g=false then (none,1) else if g.ph≠2 then (none,5) else
  match playP v g.b g.x g.y ss with
  | none=>(none,5)
  | some b=>if g.tn=2000 then (none,3) else (some (turnG v g b),0)
def blankP (e:Ev):Bool :=
 if e.k=1 then decide (e.ss.length=0∧e.r=0) else if e.k=2 then decide (e.r=0) else if e.k=3 then decide (e.a=0∧e.b=0∧e.ss.length=0) else false
def gameP (v:Vr) (g:Gm) (e:Ev):Option Gm :=
 if e.k=1 then (if openC v g e.a e.b=0 then some (openG g e.a e.b) else none)
 else if e.k=3 then (if resgC v g e.r=0 then some (resgG g e.r) else none)
 else if g.ph=1 then (if rollC v g e.a e.b=0 then (turnP v (rollG g e.a e.b) e.ss).1 else none)
 else if g.ph=2∧g.x=e.a∧g.y=e.b then (turnP v g e.ss).1 else none
def overS (v:Vr) (len:Int) (x:Ms) (g:Gm):Ms :=
 if g.ph≠3 then ⟨x.s0,x.s1,x.gs,g,false⟩ else
  let t0:=if g.wn=0 then x.s0+g.rs else x.s0
  let t1:=if g.wn=0 then x.s1 else x.s1+g.rs
  if len<=(if g.wn=0 then t0 else t1) then ⟨t0,t1,x.gs+1,g,true⟩ else ⟨t0,t1,x.gs+1,newG v,false⟩
def nextS (v:Vr) (len:Int) (x:Ms) (e:Ev):Option Ms :=
 if x.ov=true∨blankP e=false then none else (gameP v x.g e).map (overS v len x)
def startS (v:Vr):Ms:=⟨0,0,0,newG v,false⟩
def headB (v:Vr) (len:Int):Bool:=okV v && decide (4<=v.p) && decide (1<=len∧len<=25)
def stGo (v:Vr) (len:Int):Ms->List Ev->Option (List Ms)
 | x,[]=>some [x]
 | x,e :: es=>match nextS v len x e with
  | some y=>(stGo v len y es).map (x :: ·)
  | none=>none
def statesP (v:Vr) (len:Int) (es:List Ev):Option (List Ms):=if headB v len=false∨300<es.length then none else stGo v len (startS v) es
theorem gm_parts {v:Vr} {g:Gm} (h:gmB v g=true):Ok v g.b∧4<=v.p∧(0<=g.pl∧g.pl<=1)∧(0<=g.tn∧g.tn<=2000)∧(g.ph=2->(1<=g.x∧g.x<=v.s)∧1<=g.y∧g.y<=g.x)∧(g.ph=1∨g.ph=2->over g.b=false∧g.wn=0∧g.rs=0):=by
 unfold gmB at h;simp only [Bool.and_eq_true,decide_eq_true_eq] at h;obtain⟨⟨⟨⟨⟨j,i⟩,f⟩,e⟩,c⟩,d⟩:=h;refine⟨okB_iff.1 j,i,f,e,λ a=>?_,λ a=>?_⟩
 ·rw [if_pos a] at c;unfold rollB at c
  simpa only [Bool.and_eq_true,decide_eq_true_eq] using c
 ·rw [if_neg (by omega),if_pos a] at d
  simpa only [Bool.and_eq_true,decide_eq_true_eq,Bool.not_eq_true'] using d
theorem game_parts {v:Vr} {g g':Gm} {e:Ev} (h:gameP v g e=some g'):(0<=g'.pl∧g'.pl<=1)∧(0<=g'.tn∧g'.tn<=2000)∧(g'.ph=3->(g'.wn=0∨g'.wn=1)∧1<=g'.rs∧g'.rs<=3)∧Ok v g'.b:=by
 have f:∀ b,1<=resP v b∧resP v b<=3:=λ b=>by unfold resP;split <;> (try split) <;> omega
 have d:∀ {g g':Gm} {l},(turnP v g l).1=some g'->(0<=g'.pl∧g'.pl<=1)∧(0<=g'.tn∧g'.tn<=2000)∧(g'.ph=3->(g'.wn=0∨g'.wn=1)∧1<=g'.rs∧g'.rs<=3)∧Ok v g'.b:=by
  intro g g' l h;unfold turnP at h;split at h
  ·cases h
  ·rename_i h1
   have c:=gm_parts (by simpa using h1);split at h
   ·cases h
   ·split at h
    ·cases h
    ·rename_i b hb
     split at h
     ·cases h
     ·simp only [Option.some.injEq] at h;have i:=play_ok c.1 hb;have n:=f b;unfold turnG at h;split at h
      ·subst h;exact⟨c.2.2.1,⟨by show 0<=g.tn+1;omega,by show g.tn+1<=2000;omega⟩,λ _=>⟨by show g.pl=0∨g.pl=1;omega,n⟩,i⟩
      ·subst h;exact⟨⟨by show 0<=1 - g.pl;omega,by show 1 - g.pl<=1;omega⟩,⟨by show 0<=g.tn+1;omega,by show g.tn+1<=2000;omega⟩,λ j=>absurd (show (1:Int)=3 from j) (by decide),swp_ok i⟩
 unfold gameP at h;split at h
 ·split at h
  ·rename_i h1
   simp only [Option.some.injEq] at h;unfold openC at h1;split at h1
   ·exact absurd h1 (by decide)
   ·rename_i h2
    have c:=gm_parts (by simpa using h2);split at h1
    ·exact absurd h1 (by decide)
    ·rename_i m
     have m:g.ph=0:=by simpa using m
     unfold openG at h;split at h
     ·subst h;exact⟨c.2.2.1,c.2.2.2.1,λ j=>by omega,c.1⟩
     ·subst h;refine⟨?_,c.2.2.2.1,λ j=>absurd (show (2:Int)=3 from j) (by decide),?_⟩
      ·show 0<=(if e.a<e.b then 1 else g.pl)∧(if e.a<e.b then 1 else g.pl)<=1
       have:=c.2.2.1;split <;> omega
      ·show Ok v (if e.a<e.b then swp g.b else g.b)
       split
       ·exact swp_ok c.1
       ·exact c.1
  ·cases h
 ·split at h
  ·split at h
   ·rename_i h1
    simp only [Option.some.injEq] at h;unfold resgC at h1;split at h1
    ·exact absurd h1 (by decide)
    ·rename_i h2
     have c:=gm_parts (by simpa using h2);split at h1
     ·exact absurd h1 (by decide)
     ·split at h1
      ·exact absurd h1 (by decide)
      ·rename_i k
       have k:1<=e.r∧e.r<=3:=by simpa using k
       have:=c.2.2.1;subst h;exact⟨this,c.2.2.2.1,λ _=>⟨by show 1 - g.pl=0∨1 - g.pl=1;omega,k⟩,c.1⟩
   ·cases h
  ·split at h
   ·split at h
    ·exact d h
    ·cases h
   ·split at h
    ·exact d h
    ·cases h
end PlP
namespace PlP
end PlP
namespace DwP
open Go PlP DrawD
abbrev St:=Nat × Int
section
variable {xs:List Int} {s s0 s1 s2 s3 s4 s5 s6 s7 s8:St}
def fullV:Vr:=⟨24,15,6,6⟩
def v08 (xs:List Int) (s:St):Vr × St :=
 let a:=nx xs s 6
 if a.1=0 then (fullV,a.2) else
  let p:=nx xs a.2 5;let c:=nx xs p.2 4;let d:=nx xs c.2 3;let h:=nx xs d.2 ((4+p.1) / 2)
  (⟨4+p.1,1+c.1,1+h.1,2+d.1⟩,h.2)
theorem v08_0 (n0:Nx xs s 6 0 s0):v08 xs s=(fullV,s0):=by
 unfold Nx at *;unfold v08;simp only [n0,if_true]
theorem v08_1 {a p c d h:Int} (n0:Nx xs s 6 a s0) (ha:¬ a=0) (n1:Nx xs s0 5 p s1) (n2:Nx xs s1 4 c s2) (n3:Nx xs s2 3 d s3) (n4:Nx xs s3 ((4+p) / 2) h s4):v08 xs s=(⟨4+p,1+c,1+h,2+d⟩,s4):=by
 unfold Nx at *;unfold v08;simp only [n0,if_neg ha,n1,n2,n3,n4]
def v01s (xs:List Int) (s:St):Vr × St :=
 let p:=nx xs s 5;let c:=nx xs p.2 3;let d:=nx xs c.2 3;let h:=nx xs d.2 (2+p.1)
 (⟨2+p.1,1+c.1,1+h.1,1+d.1⟩,h.2)
theorem v01s_0 {p c d h:Int} (n1:Nx xs s 5 p s1) (n2:Nx xs s1 3 c s2) (n3:Nx xs s2 3 d s3) (n4:Nx xs s3 (2+p) h s4):v01s xs s=(⟨2+p,1+c,1+h,1+d⟩,s4):=by
 unfold Nx at *;unfold v01s;simp only [n1,n2,n3,n4]
def v01v (xs:List Int) (s:St):Vr × St :=
 let a:=nx xs s 4
 if a.1=0 then (fullV,a.2) else if a.1=1 then
  let p:=nx xs a.2 21;let c:=nx xs p.2 15;let d:=nx xs c.2 6;let h:=nx xs d.2 ((4+p.1) / 2)
  (⟨4+p.1,1+c.1,1+h.1,1+d.1⟩,h.2)
 else v01s xs a.2
theorem v01v_0 (n0:Nx xs s 4 0 s0):v01v xs s=(fullV,s0):=by
 unfold Nx at *;unfold v01v;simp only [n0,if_true]
theorem v01v_1 {p c d h:Int} (n0:Nx xs s 4 1 s0) (n1:Nx xs s0 21 p s1) (n2:Nx xs s1 15 c s2) (n3:Nx xs s2 6 d s3) (n4:Nx xs s3 ((4+p) / 2) h s4):v01v xs s=(⟨4+p,1+c,1+h,1+d⟩,s4):=by
 unfold Nx at *;unfold v01v;simp only [n0,if_neg (show ¬ (1:Int)=0 by decide),if_true,n1,n2,n3,n4]
theorem v01v_2 {a:Int} {R:Vr × St} (n0:Nx xs s 4 a s0) (h0:¬ a=0) (h1:¬ a=1) (h:v01s xs s0=R):v01v xs s=R:=by
 unfold Nx at *;unfold v01v;simp only [n0,if_neg h0,if_neg h1,h]
def badP (k:Nat):Int:=([1,25,-1,24]:List Int).getD k 0
def anyGo (xs:List Int) (v:Vr) (q:Int × St):Vr × St :=
 if q.1=0 then ({ v with p:=badP (nx xs q.2 4).1.toNat },(nx xs q.2 4).2)
 else if q.1=1 then ({ v with c:=16*(nx xs q.2 2).1 },(nx xs q.2 2).2)
 else if q.1=2 then ({ v with h:=v.p+1 },q.2)
 else if q.1=3 then ({ v with s:=7*(nx xs q.2 2).1 },(nx xs q.2 2).2)
 else (v,q.2)
def v01a (xs:List Int) (s:St):Vr × St:=anyGo xs (v01v xs s).1 (nx xs (v01v xs s).2 40)
theorem v01a_of {v:Vr} {q:Int} {R:Vr × St} (hv:v01v xs s=(v,s0)) (n0:Nx xs s0 40 q s1) (h:anyGo xs v (q,s1)=R):v01a xs s=R:=by
 unfold Nx at *;unfold v01a;rw [hv];simp only [n0,h]
theorem any_0 {v:Vr} {k:Nat} (n1:Nx xs s 4 (k:Int) s1):anyGo xs v (0,s)=({ v with p:=badP k },s1):=by
 unfold Nx at *;unfold anyGo;simp only [if_true,n1,Int.toNat_natCast]
theorem any_1 {v:Vr} {k:Int} (n1:Nx xs s 2 k s1):anyGo xs v (1,s)=({ v with c:=16*k },s1):=by
 unfold Nx at *;unfold anyGo;simp only [if_neg (show ¬ (1:Int)=0 by decide),if_true,n1]
theorem any_2 {v:Vr}:anyGo xs v (2,s)=({ v with h:=v.p+1 },s):=by
 unfold anyGo;simp only [if_neg (show ¬ (2:Int)=0 by decide),if_neg (show ¬ (2:Int)=1 by decide),if_true]
theorem any_3 {v:Vr} {k:Int} (n1:Nx xs s 2 k s1):anyGo xs v (3,s)=({ v with s:=7*k },s1):=by
 unfold Nx at *;unfold anyGo;simp only [if_neg (show ¬ (3:Int)=0 by decide),if_neg (show ¬ (3:Int)=1 by decide),if_neg (show ¬ (3:Int)=2 by decide),if_true,n1]
theorem any_4 {v:Vr} {q:Int} (h0:¬ q=0) (h1:¬ q=1) (h2:¬ q=2) (h3:¬ q=3):anyGo xs v (q,s)=(v,s):=by
 unfold anyGo;simp only [if_neg h0,if_neg h1,if_neg h2,if_neg h3]
def pr28 (x:Ms) (a b:Int):Int × Int:=if x.g.ph=2 then (x.g.x,x.g.y) else (max (1+a) (1+b),min (1+a) (1+b))
def turn28 (xs:List Int) (v:Vr) (x:Ms) (r:Int × Int) (s:St):Ev × St :=
 if (allP v x.g.b r.1 r.2).2=false then (⟨2,r.1,r.2,[],0⟩,s)
 else (⟨2,r.1,r.2,(((allP v x.g.b r.1 r.2).1[(nx xs s (allP v x.g.b r.1 r.2).1.length).1.toNat]?).map (λ q:Pl=>q.1)).getD [],0⟩,(nx xs s (allP v x.g.b r.1 r.2).1.length).2)
def evGo (xs:List Int) (v:Vr) (x:Ms) (r:Int × Int) (t:Int × St):Ev × St :=
 if t.1=0 then
  let k:=nx xs t.2 5;let p:=nx xs k.2 3;let q:=nx xs p.2 3;let z:=nx xs q.2 4
  (⟨k.1,p.1,q.1,[],z.1⟩,z.2)
 else if x.g.ph=0 then
  let p:=nx xs t.2 v.s;let q:=nx xs p.2 v.s
  (⟨1,1+p.1,1+q.1,[],0⟩,q.2)
 else if (nx xs t.2 16).1=0 then (⟨3,0,0,[],1+(nx xs (nx xs t.2 16).2 3).1⟩,(nx xs (nx xs t.2 16).2 3).2)
 else turn28 xs v x r (nx xs t.2 16).2
def ev28 (xs:List Int) (v:Vr) (x:Ms) (s:St):Ev × St :=
 let a:=nx xs s v.s;let b:=nx xs a.2 v.s
 evGo xs v x (pr28 x a.1 b.1) (nx xs b.2 24)
theorem ev_of {v:Vr} {x:Ms} {a b t:Int} {r:Int × Int} {R:Ev × St} (n1:Nx xs s v.s a s1) (n2:Nx xs s1 v.s b s2) (hr:pr28 x a b=r) (n3:Nx xs s2 24 t s3) (h:evGo xs v x r (t,s3)=R):ev28 xs v x s=R:=by
 unfold Nx at *;unfold ev28;simp only [n1,n2,n3,hr,h]
theorem ev_0 {v:Vr} {x:Ms} {r:Int × Int} {k p q z:Int} (n1:Nx xs s 5 k s1) (n2:Nx xs s1 3 p s2) (n3:Nx xs s2 3 q s3) (n4:Nx xs s3 4 z s4):evGo xs v x r (0,s)=(⟨k,p,q,[],z⟩,s4):=by
 unfold Nx at *;unfold evGo;simp only [if_true,n1,n2,n3,n4]
theorem ev_1 {v:Vr} {x:Ms} {r:Int × Int} {t p q:Int} (ht:¬ t=0) (h0:x.g.ph=0) (n1:Nx xs s v.s p s1) (n2:Nx xs s1 v.s q s2):evGo xs v x r (t,s)=(⟨1,1+p,1+q,[],0⟩,s2):=by
 unfold Nx at *;unfold evGo;simp only [if_neg ht,if_pos h0,n1,n2]
theorem ev_2 {v:Vr} {x:Ms} {r:Int × Int} {t z:Int} (ht:¬ t=0) (h0:¬ x.g.ph=0) (n1:Nx xs s 16 0 s1) (n2:Nx xs s1 3 z s2):evGo xs v x r (t,s)=(⟨3,0,0,[],1+z⟩,s2):=by
 unfold Nx at *;unfold evGo;simp only [if_neg ht,if_neg h0,n1,if_true,n2]
theorem ev_3 {v:Vr} {x:Ms} {r:Int × Int} {t y:Int} {R:Ev × St} (ht:¬ t=0) (h0:¬ x.g.ph=0) (n1:Nx xs s 16 y s1) (hy:¬ y=0) (h:turn28 xs v x r s1=R):evGo xs v x r (t,s)=R:=by
 unfold Nx at *;unfold evGo;simp only [if_neg ht,if_neg h0,n1,if_neg hy,h]
theorem turn_0 {v:Vr} {x:Ms} {r:Int × Int} (h:(allP v x.g.b r.1 r.2).2=false):turn28 xs v x r s=(⟨2,r.1,r.2,[],0⟩,s):=by unfold turn28;rw [if_pos h]
theorem turn_1 {v:Vr} {x:Ms} {r:Int × Int} {k:Nat} {ss:List Stp} {c:Bd} (h:(allP v x.g.b r.1 r.2).2=true) (n1:Nx xs s (allP v x.g.b r.1 r.2).1.length (k:Int) s1) (hk:(allP v x.g.b r.1 r.2).1[k]?=some (ss,c)):turn28 xs v x r s=(⟨2,r.1,r.2,ss,0⟩,s1):=by
 unfold Nx at *;unfold turn28;rw [if_neg (by rw [h];decide)];simp only [n1,Int.toNat_natCast,hk,Option.map_some,Option.getD_some]
def go28 (xs:List Int) (v:Vr) (n:Int):Nat->Ms->List Ev->St->List Ev × St
 | 0,_,es,s=>(es,s)
 | j+1,x,es,s=>match nextS v n x (ev28 xs v x s).1 with
  | some y=>go28 xs v n j y (es++[(ev28 xs v x s).1]) (ev28 xs v x s).2
  | none=>go28 xs v n j x es (ev28 xs v x s).2
def Go28 (xs:List Int) (v:Vr) (n:Int) (j:Nat) (x:Ms) (es:List Ev) (s:St) (R:List Ev × St):Prop:=go28 xs v n j x es s=R
theorem go28_some {v:Vr} {n:Int} {j:Nat} {x y:Ms} {es:List Ev} {e:Ev} {R:List Ev × St} (h:Go28 xs v n (j+1) x es s R) (he:ev28 xs v x s=(e,s1)) (hy:nextS v n x e=some y):Go28 xs v n j y (es++[e]) s1 R:=by
 unfold Go28 at *;rw [<-h];simp only [go28,he,hy]
theorem go28_none {v:Vr} {n:Int} {j:Nat} {x:Ms} {es:List Ev} {e:Ev} {R:List Ev × St} (h:Go28 xs v n (j+1) x es s R) (he:ev28 xs v x s=(e,s1)) (hy:nextS v n x e=none):Go28 xs v n j x es s1 R:=by
 unfold Go28 at *;rw [<-h];simp only [go28,he,hy]
theorem go28_end {v:Vr} {n:Int} {x:Ms} {es:List Ev} {R:List Ev × St} (h:Go28 xs v n 0 x es s R):R=(es,s):=h.symm
abbrev Mch:=Vr × Int × List Ev
def dr28 (xs:List Int) (most:Int) (s:St):Mch × St :=
 let v:=v08 xs s;let a:=nx xs v.2 5
 let k:=nx xs a.2 ((if 20<v.1.p then min most 3 else most)+1)
 let R:=go28 xs v.1 (1+a.1) k.1.toNat (startS v.1) [] k.2
 ((v.1,1+a.1,R.1),R.2)
theorem dr28_of {most m a:Int} {k:Nat} {v:Vr} {R:List Ev × St} (hv:v08 xs s=(v,s1)) (hm:(if 20<v.p then min most 3 else most)=m) (n1:Nx xs s1 5 a s2) (n2:Nx xs s2 (m+1) (k:Int) s3) (h:go28 xs v (1+a) k (startS v) [] s3=R):dr28 xs most s=((v,1+a,R.1),R.2):=by
 unfold Nx at *;unfold dr28;simp only [hv,hm,n1,n2,Int.toNat_natCast,h]
def setA (es:List Ev) (i:Nat) (a:Int):List Ev:=match es[i]? with
 | some e=>es.set i { e with a:=a }
 | none=>es
def setR (es:List Ev) (i:Nat) (r:Int):List Ev:=match es[i]? with
 | some e=>es.set i { e with r:=r }
 | none=>es
def ay28 (xs:List Int) (M:Mch) (q:Int × St):Mch × St :=
 if q.1=0 then ((M.1,26*(nx xs q.2 2).1,M.2.2),(nx xs q.2 2).2)
 else if q.1=1 then
  if 0<M.2.2.length then
   let i:=nx xs q.2 M.2.2.length;let a:=nx xs i.2 5
   ((M.1,M.2.1,setA M.2.2 i.1.toNat a.1),a.2)
  else (M,q.2)
 else if q.1=2 then
  let k:=nx xs q.2 5;let z:=nx xs k.2 4
  ((M.1,M.2.1,M.2.2++[⟨k.1,2,1,[],z.1⟩]),z.2)
 else if q.1=3 then ((( v01a xs q.2).1,M.2.1,M.2.2),(v01a xs q.2).2)
 else if q.1=4 then
  if 0<M.2.2.length then ((M.1,M.2.1,setR M.2.2 (nx xs q.2 M.2.2.length).1.toNat 1),(nx xs q.2 M.2.2.length).2) else (M,q.2)
 else (M,q.2)
def an28 (xs:List Int) (s:St):Mch × St:=ay28 xs (dr28 xs 14 s).1 (nx xs (dr28 xs 14 s).2 24)
theorem an28_of {M:Mch} {q:Int} {R:Mch × St} (h0:dr28 xs 14 s=(M,s1)) (n1:Nx xs s1 24 q s2) (h:ay28 xs M (q,s2)=R):an28 xs s=R:=by
 unfold Nx at *;unfold an28;simp only [h0,n1,h]
theorem ay_0 {v:Vr} {n:Int} {es:List Ev} {k:Int} (n1:Nx xs s 2 k s1):ay28 xs (v,n,es) (0,s)=((v,26*k,es),s1):=by
 unfold Nx at *;unfold ay28;simp only [if_true,n1]
theorem ay_1 {v:Vr} {n:Int} {es:List Ev} {i:Nat} {a:Int} (hl:0<es.length) (n1:Nx xs s es.length (i:Int) s1) (n2:Nx xs s1 5 a s2):ay28 xs (v,n,es) (1,s)=((v,n,setA es i a),s2):=by
 unfold Nx at *;unfold ay28;simp only [if_neg (show ¬ (1:Int)=0 by decide),if_true,if_pos hl,n1,n2,Int.toNat_natCast]
theorem ay_1n {M:Mch} (hl:¬ 0<M.2.2.length):ay28 xs M (1,s)=(M,s):=by
 unfold ay28;simp only [if_neg (show ¬ (1:Int)=0 by decide),if_true,if_neg hl]
theorem ay_2 {v:Vr} {n:Int} {es:List Ev} {k z:Int} (n1:Nx xs s 5 k s1) (n2:Nx xs s1 4 z s2):ay28 xs (v,n,es) (2,s)=((v,n,es++[⟨k,2,1,[],z⟩]),s2):=by
 unfold Nx at *;unfold ay28;simp only [if_neg (show ¬ (2:Int)=0 by decide),if_neg (show ¬ (2:Int)=1 by decide),if_true,n1,n2]
theorem ay_3 {v v':Vr} {n:Int} {es:List Ev} (h:v01a xs s=(v',s1)):ay28 xs (v,n,es) (3,s)=((v',n,es),s1):=by
 unfold ay28;simp only [if_neg (show ¬ (3:Int)=0 by decide),if_neg (show ¬ (3:Int)=1 by decide),if_neg (show ¬ (3:Int)=2 by decide),if_true,h]
theorem ay_4 {v:Vr} {n:Int} {es:List Ev} {i:Nat} (hl:0<es.length) (n1:Nx xs s es.length (i:Int) s1):ay28 xs (v,n,es) (4,s)=((v,n,setR es i 1),s1):=by
 unfold Nx at *;unfold ay28;simp only [if_neg (show ¬ (4:Int)=0 by decide),if_neg (show ¬ (4:Int)=1 by decide),if_neg (show ¬ (4:Int)=2 by decide),if_neg (show ¬ (4:Int)=3 by decide),if_true,if_pos hl,n1,Int.toNat_natCast]
theorem ay_4n {M:Mch} (hl:¬ 0<M.2.2.length):ay28 xs M (4,s)=(M,s):=by
 unfold ay28;simp only [if_neg (show ¬ (4:Int)=0 by decide),if_neg (show ¬ (4:Int)=1 by decide),if_neg (show ¬ (4:Int)=2 by decide),if_neg (show ¬ (4:Int)=3 by decide),if_true,if_neg hl]
theorem ay_5 {M:Mch} {q:Int} (h0:¬ q=0) (h1:¬ q=1) (h2:¬ q=2) (h3:¬ q=3) (h4:¬ q=4):ay28 xs M (q,s)=(M,s):=by
 unfold ay28;simp only [if_neg h0,if_neg h1,if_neg h2,if_neg h3,if_neg h4]
def dpth (xs:List Int) (M:Mch) (s:St):Mch × Int :=
 let a:=nx xs s 2;let b:=nx xs a.2 2;let c:=nx xs b.2 24
 (M,a.1*b.1+c.1 / 23)
def rvGo (xs:List Int) (M:Mch) (q:Int × St):Mch × Int :=
 if q.1=0 then dpth xs (an28 xs q.2).1 (an28 xs q.2).2 else dpth xs M q.2
def rev29 (xs:List Int):Mch × Int :=
 let p:=nx xs (st0 xs) 3;let c:=nx xs p.2 2;let h:=nx xs c.2 2;let n:=nx xs h.2 3;let k:=nx xs n.2 9
 let v:Vr:=⟨4+p.1,1+c.1,1+h.1,2⟩
 let R:=go28 xs v (1+n.1) k.1.toNat (startS v) [] k.2
 rvGo xs (v,1+n.1,R.1) (nx xs R.2 16)
theorem rev29_of {p c h n q:Int} {k:Nat} {R:List Ev × St} {O:Mch × Int} (n1:Nx xs (st0 xs) 3 p s1) (n2:Nx xs s1 2 c s2) (n3:Nx xs s2 2 h s3) (n4:Nx xs s3 3 n s4) (n5:Nx xs s4 9 (k:Int) s5) (hR:go28 xs ⟨4+p,1+c,1+h,2⟩ (1+n) k (startS ⟨4+p,1+c,1+h,2⟩) [] s5=R) (n6:Nx xs R.2 16 q s6) (h:rvGo xs (⟨4+p,1+c,1+h,2⟩,1+n,R.1) (q,s6)=O):rev29 xs=O:=by
 unfold Nx at *;unfold rev29;simp only [n1,n2,n3,n4,n5,Int.toNat_natCast,hR,n6,h]
theorem rvGo_0 {M M':Mch} {O:Mch × Int} (h:an28 xs s=(M',s1)) (hO:dpth xs M' s1=O):rvGo xs M (0,s)=O:=by
 unfold rvGo;simp only [if_true,h,hO]
theorem rvGo_1 {M:Mch} {q:Int} {O:Mch × Int} (h:¬ q=0) (hO:dpth xs M s=O):rvGo xs M (q,s)=O:=by
 unfold rvGo;simp only [if_neg h,hO]
theorem dpth_of {M:Mch} {a b c:Int} (n1:Nx xs s 2 a s1) (n2:Nx xs s1 2 b s2) (n3:Nx xs s2 24 c s3):dpth xs M s=(M,a*b+c / 23):=by
 unfold Nx at *;unfold dpth;simp only [n1,n2,n3]
end
end DwP
namespace RegInv
open Go Go.RowKit Base
def downs (ops:Array Oper):Bool:=(List.range ops.size).all λ i=>match ops[i]? with | some o=>o.after.toList.all (λ e=>!Region.binds .any e || decide (e.on<i)) | none=>true
def waitsGo (ops:Array Oper):Nat->Nat->Nat->Bool
 | 0,_,_=>false
 | n+1,k,j=>match ops[k]? with | some o=>o.after.toList.any (λ e=>Region.binds .any e && (e.on == j || waitsGo ops n e.on j)) | none=>false
def waits (ops:Array Oper) (k j:Nat):Bool:=waitsGo ops ops.size k j
def Closed (ops:Array Oper) (L:Nat->Prop):Prop:=∀ k o,ops[k]?=some o->L k->∀ e ∈ o.after,Region.binds .any e=true->L e.on
theorem waitsGo_closed {ops:Array Oper} {L:Nat->Prop} (hc:Closed ops L) (j:Nat):∀(n k:Nat),waitsGo ops n k j=true->(∀ o,ops[k]?=some o->∀ e ∈ o.after,Region.binds .any e=true->L e.on)->L j:=by
 intro n
 induction n with
 | zero=>intro k h;simp [waitsGo] at h
 | succ n ih =>
  intro k h f;unfold waitsGo at h;split at h
  ·rename_i o ho
   obtain⟨e,g,c⟩:=List.any_eq_true.1 h;simp only [Bool.and_eq_true,Bool.or_eq_true,beq_iff_eq] at c;have a:=f o ho e (Array.mem_toList_iff.1 g) c.1;rcases c.2 with h2 | h2
   ·rw [<-h2];exact a
   ·exact ih e.on h2 (λ d b=>hc e.on d b a)
  ·cases h
section
variable {P:Program} {ops:Array Oper} {Q:Exit->Act->World->Prop}
def StepAt (P:Program) (ops:Array Oper) (Q:Exit->Act->World->Prop) (I:Act->(Nat->Prop)->Act->World->Prop) (a0:Act) (i:Nat) (o:Oper):Prop :=
 ∀(L:Nat->Prop) (a:Act) (w:World),I a0 L a w->¬ L i->(∀ j,waits ops i j=true->L j)->(∀ k j,waits ops k j=true->L k->L j) ->
  ∀ K:Act->World->Prop,Hid (∀ a' w',I a0 (λ k=>k=i∨L k) a' w'->K a' w')->if Region.wanted o (yielded ops a.tmps)=true then Oper.wp P o a w K Q else K (a.put o.dst undef) w
def StepsFrom (P:Program) (ops:Array Oper) (Q:Exit->Act->World->Prop) (I:Act->(Nat->Prop)->Act->World->Prop) (a0:Act) (n:Nat):Prop :=
 ∀ i,n<=i->∀ o,ops[i]?=some o->StepAt P ops Q I a0 i o
theorem StepsFrom.cons {I:Act->(Nat->Prop)->Act->World->Prop} {a0:Act} {n:Nat} {o:Oper} (ho:ops[n]?=some o) (h:StepAt P ops Q I a0 n o) (r:StepsFrom P ops Q I a0 (n+1)):StepsFrom P ops Q I a0 n:=by
 intro i c b a;by_cases e:i=n
 ·subst e;rw [ho] at a;simp only [Option.some.injEq] at a;subst a;exact h
 ·exact r i (by omega) b a
theorem StepsFrom.nil {I:Act->(Nat->Prop)->Act->World->Prop} {a0:Act} {n:Nat} (h:ops.size<=n):StepsFrom P ops Q I a0 n:=by
 intro i b o a;have:=(Array.getElem?_eq_some_iff.1 a).1;omega
theorem ready_none (hd:downs ops=true) {listed:Array Bool} (hs:listed.size=ops.size) (hr:Region.ready .any ops listed=[]):∀ k,k<ops.size->listed.getD k false=true:=by
 intro k
 induction k using Nat.strongRecOn with
 | _ k ih =>
  intro c
  cases hl:listed.getD k false with
  | true=>rfl
  | false =>
   exfalso
   have a:k ∈ Region.ready .any ops listed:=by
    rw [mem_ready];refine⟨?_,ops[k],Array.getElem?_eq_getElem c,λ e g h=>?_⟩
    ·have b:k<listed.size:=by omega
     simp only [Array.getD_eq_getD_getElem?,Array.getElem?_eq_getElem b,Option.getD_some] at hl ⊢;exact hl
    ·have f:=List.all_eq_true.1 hd k (List.mem_range.2 c);rw [Array.getElem?_eq_getElem c] at f;have d:=List.all_eq_true.1 f e (Array.mem_toList_iff.2 g);rw [h] at d;have i:e.on<k:=by simpa using d
     exact ih e.on i (by omega)
   rw [hr] at a
   cases a
def leftOf_ (listed:Array Bool):Nat:=listed.toList.countP (λ b=>!b)
theorem left_set {listed:Array Bool} {i:Nat} (h:listed.getD i true=false):leftOf_ (listed.setIfInBounds i true)+1=leftOf_ listed:=by
 have a:i<listed.size:=by
  rcases Nat.lt_or_ge i listed.size with h' | h'
  ·exact h'
  ·simp [Array.getElem?_eq_none h'] at h
 have b:listed.toList[i]?=some false:=by
  simp only [Array.getD_eq_getD_getElem?,Array.getElem?_eq_getElem a,Option.getD_some] at h;simp [a,h]
 unfold leftOf_;rw [Array.toList_setIfInBounds]
 generalize listed.toList=l at b
 clear h a
 induction l generalizing i with
 | nil=>simp at b
 | cons x l ih =>
  cases i with
  | zero=>simp at b;subst b;simp
  | succ i =>
   simp only [List.getElem?_cons_succ] at b;have:=ih b;simp only [List.set_cons_succ,List.countP_cons];omega
theorem left_zero {listed:Array Bool} (h:leftOf_ listed=0):Region.ready .any ops listed=[]:=by
 rw [List.eq_nil_iff_forall_not_mem];intro k a;obtain⟨b,_⟩:=mem_ready.1 a;have:=left_set b;omega
theorem I_ext {I:Act->(Nat->Prop)->Act->World->Prop} {a0:Act} {L L':Nat->Prop} {a:Act} {w:World} (h:∀ k,L k↔L' k) (hI:I a0 L a w):I a0 L' a w:=by
 have e:L=L':=funext λ k=>propext (h k)
 rw [<-e];exact hI
theorem any_inv {I:Act->(Nat->Prop)->Act->World->Prop} {a0:Act} (hd:downs ops=true) (hst:StepsFrom P ops Q I a0 0)
  (fin:∀ L a w,I a0 L a w->(∀ k,k<ops.size->L k)->Q .normal a w) :
  ∀(fuel:Nat) (listed:Array Bool) (a:Act) (w:World),listed.size=ops.size->leftOf_ listed<=fuel->Closed ops (λ k=>listed.getD k false=true)->I a0 (λ k=>listed.getD k false=true) a w->wpAny P .any ops Q fuel listed a w:=by
 intro fuel
 induction fuel with
 | zero =>
  intro listed a w h v f p;have l:=left_zero (ops:=ops) (Nat.le_zero.1 v);exact⟨l,fin _ _ _ p (ready_none hd h l)⟩
 | succ fuel ih =>
  intro listed a w h v f p;refine⟨λ l=>fin _ _ _ p (ready_none hd h l),λ i z=>?_⟩;obtain⟨q,o,m,c⟩:=mem_ready.1 z;have d:i<listed.size:=by
   rcases Nat.lt_or_ge i listed.size with h' | h'
   ·exact h'
   ·simp [Array.getElem?_eq_none h'] at q
  refine wpOp_step m λ B A=>hst i (Nat.zero_le _) o m _ a w p ?_ (λ j r=>waitsGo_closed f j _ i r (λ g b=>by rw [m] at b;simp only [Option.some.injEq] at b;subst b;exact c)) (λ k j r n=>waitsGo_closed f j _ k r (λ g b=>f k g b n)) B (λ D C s=>A _ _ ?_)
  ·simp only [Array.getD_eq_getD_getElem?,Array.getElem?_eq_getElem d,Option.getD_some] at q ⊢;rw [q];simp
  ·have t:=left_set q;refine ih _ _ _ (by simpa using h) (by omega) ?_ (I_ext (λ k=>?_) s)
   ·intro k g b n e x y;refine getD_set_true ?_;by_cases ek:k=i
    ·subst ek;rw [m] at b;simp only [Option.some.injEq] at b;subst b;exact c e x y
    ·refine f k g b ?_ e x y;rw [getD_set_ne false (Ne.symm ek)] at n;exact n
   ·by_cases e:k=i
    ·subst e;simp [d]
    ·rw [getD_set_ne false (Ne.symm e)];simp [e]
theorem region_inv {id:Nat} {a:Act} {w:World} (I:Act->(Nat->Prop)->Act->World->Prop) (hm:P.follows .mixedOrders=true) (hd:downs ops=true)
  (h0:I a (λ _=>False) a w.drew) (hst:StepsFrom P ops Q I a 0) (fin:∀ L a' w',I a L a' w'->(∀ k,k<ops.size->L k)->Q .normal a' w'):(Code.region id ops true).wp P Q a w:=by
 refine wp_region_any hm (any_inv hd hst fin ops.size _ a _ (by simp) ?_ ?_ (I_ext (λ k=>?_) h0))
 ·unfold leftOf_;refine Nat.le_trans List.countP_le_length (by simp)
 ·intro k o c b
  exfalso
  simp only [Array.getD_eq_getD_getElem?,Array.getElem?_replicate] at b;split at b <;> simp at b
 ·simp only [Array.getD_eq_getD_getElem?,Array.getElem?_replicate];split <;> simp
end
end RegInv
theorem bK {ops:Array Go.Oper} {k:Nat} {L:Nat->Prop} (b:∀ j,RegInv.waits ops k j=true->L j) (j:Nat) (h:RegInv.waits ops k j=true:=by kernel_rfl):L j:=b j h

end Go.Proofs.YtmncnhbjifeoeaaGreat
