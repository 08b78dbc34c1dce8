/- Parts of the proof of FnExactReviewMatch. Conditions: each theorem's own. -/
import Derived.Test.YtmncnhbjifeoeaaGreatQ03
import Derived.Test.YtmncnhbjifeoeaaGreatQ04
import Derived.Test.YtmncnhbjifeoeaaGreatRows
import Derived.WalkKit
import Derived.ProofKit
import Derived.Outline
import Derived.WalkLawsBesides
import Derived.Handy
import Derived.Deep.QuietTactic
import Derived.BigQuiet
set_option linter.unusedVariables false
set_option linter.unusedSimpArgs false
set_option maxHeartbeats 8000000
set_option maxRecDepth 100000
namespace Go.Proofs.YtmncnhbjifeoeaaGreat
namespace PlP
def rollB (v:Vr) (x y:Int):Bool:=decide (1<=x∧x<=v.s) && decide (1<=y∧y<=x)
def legal1 (v:Vr) (b:Bd) (s:Stp):Bool :=
 !over b && decide (1<=s.2.2.1∧s.2.2.1<=v.s) && decide (0<=s.1∧s.1<=v.p) && decide (stepP v b s.1 s.2.2.1=some s)
def followP (v:Vr):Bd->List Int->List Stp->Option Bd
 | b,_,[]=>some b
 | _,[],_ :: _=>none
 | b,d :: ds,s :: ss=>if s.2.2.1=d∧legal1 v b s=true then followP v (afterP v b s) ds ss else none
def firstF (v:Vr) (b:Bd) (ss:List Stp):List (List Int)->Option Bd
 | []=>none
 | o :: os=>match followP v b o ss with
  | some c=>some c
  | none=>firstF v b ss os
def ordS (v:Vr) (b:Bd) (x y:Int):List (List Int):=if usedP v b (ordP x y)=1∧(ordP x y).length=2∧0<(legalP v b x).length then (ordP x y).take 1 else ordP x y
def playP (v:Vr) (b:Bd) (x y:Int) (ss:List Stp):Option Bd:=if ss.length=usedP v b (ordP x y) then firstF v b ss (ordS v b x y) else none
def playGo (v:Vr) (b:Bd) (ss:List Stp) (n:Nat):List (List Int)->List (List (List Pl))->Option Bd
 | o :: os,R :: Rs=>if R.length<=n then playGo v b ss n os Rs else match followP v b o ss with
  | some c=>some c
  | none=>if n=1 then none else playGo v b ss n os Rs
 | _,_=>none
def playI (v:Vr) (b:Bd) (x y:Int) (ss:List Stp):Option Bd :=
 if ss.length=usedR ((ordP x y).map λ o=>(rowsP v b o).1) 0 then playGo v b ss (usedR ((ordP x y).map λ o=>(rowsP v b o).1) 0) (ordP x y) ((ordP x y).map λ o=>(rowsP v b o).1) else none
theorem legal1_iff {v:Vr} {b:Bd} {s:Stp}:legal1 v b s=true↔over b=false∧(1<=s.2.2.1∧s.2.2.1<=v.s)∧(0<=s.1∧s.1<=v.p)∧stepP v b s.1 s.2.2.1=some s:=by
 unfold legal1;simp only [Bool.and_eq_true,Bool.not_eq_true',decide_eq_true_eq,and_assoc]
theorem lgU_has {v:Vr} {b:Bd} {d:Int} {s:Stp} {j:Nat} (h:stepP v b (v.p - (j:Int)) d=some s):∀ k,j<k->s ∈ lgU v b d k:=by
 intro k
 induction k with
 | zero=>intro c;omega
 | succ k ih =>
  intro a;simp only [lgU,List.mem_append];by_cases e:j=k
  ·subst e;right;rw [h];simp
  ·left;exact ih (by omega)
theorem legal1_mem {v:Vr} {b:Bd} {s:Stp} (hv:0<=v.p) (h:legal1 v b s=true):s ∈ legalP v b s.2.2.1:=by
 obtain⟨c,e,d,a⟩:=legal1_iff.1 h;unfold legalP;rw [if_neg (by rw [c];simp)];refine lgU_has (j:=(v.p - s.1).toNat) ?_ _ (by omega);rw [show v.p - ((v.p - s.1).toNat:Int)=s.1 by omega];exact a
theorem legal1_ok {v:Vr} {b:Bd} {s:Stp} (hb:Ok v b) (h:legal1 v b s=true):Ok v (afterP v b s):=by
 obtain⟨e,d,c,a⟩:=legal1_iff.1 h;exact after_ok c d.1 hb e a
theorem follow_ok {v:Vr}:∀(ds:List Int) (b:Bd) (ss:List Stp) (c:Bd),Ok v b->followP v b ds ss=some c->Ok v c
 | ds,b,[],c,hb,h=>by simp only [followP,Option.some.injEq] at h;subst h;exact hb
 | [],b,s :: ss,c,hb,h=>by simp [followP] at h
 | d :: ds,b,s :: ss,c,hb,h=>by
  simp only [followP] at h;split at h
  ·rename_i h1;exact follow_ok ds _ ss c (legal1_ok hb h1.2) h
  ·cases h
theorem hasB_iff {out:List Pl} {b:Bd}:hasB out b=true↔∃ q ∈ out,q.2=b:=by
 unfold hasB;rw [List.any_eq_true];simp
theorem addOne_hasB {out:List Pl} {p:Pl} {b:Bd} (h:hasB out b=true):hasB (addOne out p) b=true:=by
 obtain⟨q,a,e⟩:=hasB_iff.1 h;exact hasB_iff.2 ⟨q,addOne_keep a,e⟩
theorem addOne_self (out:List Pl) (p:Pl):hasB (addOne out p) p.2=true:=by
 unfold addOne;split
 ·assumption
 ·exact hasB_iff.2 ⟨p,by simp,rfl⟩
theorem nxIn_hasB {v:Vr} {p:Pl} {b:Bd}:∀(ss:List Stp) (out:List Pl),hasB out b=true->hasB (nxIn v p ss out) b=true:=by
 intro ss
 induction ss with
 | nil=>intro out h;exact h
 | cons s ss ih=>intro out h;exact ih _ (addOne_hasB h)
theorem nxIn_at {v:Vr} {p:Pl} {s:Stp}:∀(ss:List Stp) (out:List Pl),s ∈ ss->hasB (nxIn v p ss out) (afterP v p.2 s)=true:=by
 intro ss
 induction ss with
 | nil=>intro out h;simp at h
 | cons t ss ih =>
  intro out h;rcases List.mem_cons.1 h with rfl | h
  ·exact nxIn_hasB ss _ (addOne_self out (p.1++[s],afterP v p.2 s))
  ·exact ih _ h
theorem nxGo_hasB {v:Vr} {d:Int} {b:Bd}:∀(ps out:List Pl),hasB out b=true->hasB (nxGo v d ps out) b=true:=by
 intro ps
 induction ps with
 | nil=>intro out h;exact h
 | cons p ps ih=>intro out h;exact ih _ (nxIn_hasB _ _ h)
theorem nxGo_at {v:Vr} {d:Int} {b:Bd} {s:Stp} (hs:s ∈ legalP v b d):∀(ps out:List Pl),hasB ps b=true->hasB (nxGo v d ps out) (afterP v b s)=true:=by
 intro ps
 induction ps with
 | nil=>intro out h;simp [hasB] at h
 | cons p ps ih =>
  intro out h;obtain⟨q,a,e⟩:=hasB_iff.1 h;rcases List.mem_cons.1 a with rfl | a
  ·refine nxGo_hasB ps _ ?_;subst e;exact nxIn_at _ _ hs
  ·exact ih _ (hasB_iff.2 ⟨q,a,e⟩)
theorem rowsGo_ge (v:Vr):∀(ds:List Int) (rows:List (List Pl)) (fine:Bool),rows.length<=(rowsGo v ds rows fine).1.length:=by
 intro ds
 induction ds with
 | nil=>intro rows fine;exact Nat.le_refl _
 | cons d ds ih =>
  intro rows fine;simp only [rowsGo];split
  ·exact Nat.le_refl _
  ·have:=ih (rows++[nextP v d (rows.getLastD [])]) (fine && decide ((nextP v d (rows.getLastD [])).length<=3000));simp only [List.length_append,List.length_cons,List.length_nil] at this;omega
theorem follow_rows {v:Vr} (hv:0<=v.p):∀(ds:List Int) (b:Bd) (ss:List Stp) (c:Bd) (rows:List (List Pl)) (fine:Bool),hasB (rows.getLastD []) b=true->followP v b ds ss=some c->rows.length+ss.length<=(rowsGo v ds rows fine).1.length
 | ds,b,[],c,rows,fine,hh,h=>rowsGo_ge v ds rows fine
 | [],b,s :: ss,c,rows,fine,hh,h=>by simp [followP] at h
 | d :: ds,b,s :: ss,c,rows,fine,hh,h=>by
  simp only [followP] at h;split at h
  ·rename_i h1
   have hm:=legal1_mem hv h1.2;rw [h1.1] at hm;have hn:hasB (nextP v d (rows.getLastD [])) (afterP v b s)=true:=nxGo_at hm _ _ hh;have hl:¬ (nextP v d (rows.getLastD [])).length=0:=by
    obtain⟨q,a,_⟩:=hasB_iff.1 hn;intro e;rw [List.eq_nil_of_length_eq_zero e] at a;simp at a
   simp only [rowsGo];rw [if_neg hl];have:=follow_rows hv ds _ ss c (rows++[nextP v d (rows.getLastD [])]) (fine && decide ((nextP v d (rows.getLastD [])).length<=3000)) (by simpa using hn) h;simp only [List.length_append,List.length_cons,List.length_nil] at this ⊢;omega
  ·cases h
theorem follow_short {v:Vr} (hv:0<=v.p) {b c:Bd} {o:List Int} {ss:List Stp} (h:followP v b o ss=some c):ss.length<(rowsP v b o).1.length:=by
 have:=follow_rows hv o b ss c [[([],b)]] true (by simp [hasB]) h;unfold rowsP;simp only [List.length_cons,List.length_nil] at this;omega
theorem rows_one {v:Vr} (hv:0<=v.p) (b:Bd) (d:Int) (ds:List Int):(rowsP v b (d :: ds)).1.length<=1↔(legalP v b d).length=0:=by
 have e:rowsP v b (d :: ds)=if (nextP v d [([],b)]).length=0 then ([[([],b)]],true) else rowsGo v ds [[([],b)],nextP v d [([],b)]] (true && decide ((nextP v d [([],b)]).length<=3000)):=rfl
 have c:(nextP v d [([],b)]).length=0↔(legalP v b d).length=0:=by
  constructor
  ·intro h;rcases Nat.eq_zero_or_pos (legalP v b d).length with h0 | h0
   ·exact h0
   ·exfalso
    have g:(legalP v b d)[0] ∈ legalP v b d:=List.getElem_mem h0;have i:hasB (nextP v d [([],b)]) (afterP v b (legalP v b d)[0])=true:=nxGo_at g [([],b)] [] (by simp [hasB]);obtain⟨q,a,_⟩:=hasB_iff.1 i;rw [List.eq_nil_of_length_eq_zero h] at a;simp at a
  ·intro h;rw [next_go];simp only [nxGo,List.foldl,nxIn];rw [List.eq_nil_of_length_eq_zero h]
   rfl
 rw [e];split
 ·rename_i h;simp [c.1 h]
 ·rename_i h
  have:=rowsGo_ge v ds [[([],b)],nextP v d [([],b)]] (true && decide ((nextP v d [([],b)]).length<=3000));simp only [List.length_cons,List.length_nil] at this
  constructor
  ·intro f;omega
  ·intro f;exact absurd (c.2 f) h
theorem usedR_two (a b:List (List Pl)):usedR [a,b] 0=max (a.length - 1) (b.length - 1):=by
 show max (max 0 (a.length - 1)) (b.length - 1)=_
 omega
theorem usedR_one (a:List (List Pl)):usedR [a] 0=a.length - 1:=by
 show max 0 (a.length - 1)=_
 omega
theorem used_eq (v:Vr) (b:Bd) (x y:Int):usedR ((ordP x y).map λ o=>(rowsP v b o).1) 0=usedP v b (ordP x y):=by
 unfold ordP;split
 ·simp only [List.map_cons,List.map_nil,usedR_one,usedP,(lng_rows v b _).1];omega
 ·simp only [List.map_cons,List.map_nil,usedR_two,usedP,(lng_rows v b _).1];omega
theorem playI_eq {v:Vr} (hv:0<=v.p) (b:Bd) (x y:Int) (ss:List Stp):playI v b x y ss=playP v b x y ss:=by
 unfold playI playP;rw [used_eq];obtain⟨n,i⟩:∃ n,usedP v b (ordP x y)=n:=⟨_,rfl⟩;rw [i];by_cases hl:ss.length=n
 case neg=>rw [if_neg hl,if_neg hl]
 rw [if_pos hl,if_pos hl];unfold ordS;rw [i];have a:∀ o,(rowsP v b o).1.length<=n->followP v b o ss=none:=λ o h=>by
  cases hf:followP v b o ss with
  | none=>rfl
  | some c=>have:=follow_short hv hf;omega
 by_cases e:x=y
 ·have g:ordP x y=[[x,x,x,x]]:=by unfold ordP;rw [if_pos e]
  rw [g];have d:¬ (n=1∧([[x,x,x,x]]:List (List Int)).length=2∧0<(legalP v b x).length):=λ h=>by have:=h.2.1;simp at this
  rw [if_neg d];simp only [List.map_cons,List.map_nil,playGo,firstF];split
  ·rename_i h;rw [a _ h]
  ·cases followP v b [x,x,x,x] ss with
   | some c=>rfl
   | none=>simp only [ite_self]
 ·have g:ordP x y=[[x,y],[y,x]]:=by unfold ordP;rw [if_neg e]
  have k:=rows_one hv b x [y];rw [g];have j:=a [y,x];by_cases h1:(rowsP v b [x,y]).1.length<=n
  ·have m:=a _ h1;have d:¬ (n=1∧([[x,y],[y,x]]:List (List Int)).length=2∧0<(legalP v b x).length):=λ h=>by
    have f:=h.1;subst f;have:=k.1 h1;omega
   rw [if_neg d];simp only [List.map_cons,List.map_nil,playGo,firstF,if_pos h1,m];split
   ·rename_i f;rw [j f]
   ·cases followP v b [y,x] ss with
    | some c=>rfl
    | none=>simp only [ite_self]
  ·by_cases hn1:n=1
   ·subst hn1;have l:0<(legalP v b x).length:=by
     rcases Nat.eq_zero_or_pos (legalP v b x).length with h0 | h0
     ·exact absurd (k.2 h0) h1
     ·exact h0
    rw [if_pos ⟨rfl,rfl,l⟩];simp only [List.map_cons,List.map_nil,playGo,firstF,if_neg h1,List.take,if_true]
   ·have d:¬ (n=1∧([[x,y],[y,x]]:List (List Int)).length=2∧0<(legalP v b x).length):=λ h=>hn1 h.1
    rw [if_neg d];simp only [List.map_cons,List.map_nil,playGo,firstF,if_neg h1,if_neg hn1]
    cases followP v b [x,y] ss with
    | some c=>rfl
    | none =>
     simp only;split
     ·rename_i f;rw [j f]
     ·cases followP v b [y,x] ss with
      | some c=>rfl
      | none=>rfl
theorem first_ok {v:Vr} {b c:Bd} {ss:List Stp} (hb:Ok v b):∀(os:List (List Int)),firstF v b ss os=some c->Ok v c
 | [],h=>by simp [firstF] at h
 | o :: os,h=>by
  simp only [firstF] at h;split at h
  ·rename_i d hd
   simp only [Option.some.injEq] at h;subst h;exact follow_ok o b ss _ hb hd
  ·exact first_ok hb os h
theorem play_ok {v:Vr} {b c:Bd} {x y:Int} {ss:List Stp} (hb:Ok v b) (h:playP v b x y ss=some c):Ok v c:=by
 unfold playP at h;split at h
 ·exact first_ok hb _ h
 ·cases h
structure Gm where
 b:Bd
 pl:Int
 x:Int
 y:Int
 ph:Int
 wn:Int
 rs:Int
 tn:Int
structure Ev where
 k:Int
 a:Int
 b:Int
 ss:List Stp
 r:Int
structure Ms where
 s0:Int
 s1:Int
 gs:Int
 g:Gm
 ov:Bool
def resP (v:Vr) (b:Bd):Int :=
 if (if b.1.sum=0 then b.2 else b.1).sum<v.c then 1 else if v.p - v.h<=last (if b.1.sum=0 then b.2 else b.1) then 3 else 2
def startL (v:Vr):List Int :=
 if v.p=24∧v.c=15∧v.h=6∧v.s=6 then ((((List.replicate 25 (0:Int)).set 5 5).set 7 3).set 12 5).set 23 2
 else ((List.replicate (v.p+1).toNat (0:Int)).set (v.p - 1).toNat (v.c / 2)).set (v.p / 2 - 1).toNat (v.c - v.c / 2)
def startB (v:Vr):Bd:=(startL v,startL v)
def newG (v:Vr):Gm:=⟨startB v,0,0,0,0,0,0,0⟩
def gmB (v:Vr) (g:Gm):Bool :=
 okB v g.b && decide (4<=v.p) && decide (0<=g.pl∧g.pl<=1) && decide (0<=g.tn∧g.tn<=2000) &&
 (if g.ph=2 then rollB v g.x g.y else decide (g.x=0∧g.y=0)) &&
 (if g.ph=0 then decide (g.pl=0∧g.wn=0∧g.rs=0∧g.tn=0∧g.b=startB v)
  else if g.ph=1∨g.ph=2 then !over g.b && decide (g.wn=0∧g.rs=0)
  else if g.ph=3 then (if over g.b then decide (g.b.1.sum=0∧g.wn=g.pl∧g.rs=resP v g.b) else decide (g.wn=1 - g.pl∧1<=g.rs∧g.rs<=3))
  else false)
def openC (v:Vr) (g:Gm) (a b:Int):Int:=if gmB v g=false then 1 else if g.ph≠0 then 5 else if decide (1<=a∧a<=v.s)=false∨decide (1<=b∧b<=v.s)=false then 2 else 0
def openG (g:Gm) (a b:Int):Gm :=
 if a=b then g else { g with b:=if a<b then swp g.b else g.b,pl:=if a<b then 1 else g.pl,ph:=2,x:=max a b,y:=min a b }
def rollC (v:Vr) (g:Gm) (x y:Int):Int:=if gmB v g=false then 1 else if g.ph≠1 then 5 else if rollB v x y=false then 2 else 0
def rollG (g:Gm) (x y:Int):Gm:={ g with ph:=2,x:=x,y:=y }
def resgC (v:Vr) (g:Gm) (r:Int):Int:=if gmB v g=false then 1 else if ¬ (g.ph=1∨g.ph=2) then 5 else if decide (1<=r∧r<=3)=false then 2 else 0
def resgG (g:Gm) (r:Int):Gm:={ g with ph:=3,wn:=1 - g.pl,rs:=r,x:=0,y:=0 }
def turnG (v:Vr) (g:Gm) (b:Bd):Gm :=
 if over b then ⟨b,g.pl,0,0,3,g.pl,resP v b,g.tn+1⟩ else ⟨swp b,1 - g.pl,0,0,1,0,0,g.tn+1⟩
def turnP (v:Vr) (g:Gm) (ss:List Stp):Option Gm × Int :=
 if gmB v g=false then (none,1) else if g.ph≠2 then (none,5) else
  match playP v g.b g.x g.y ss with
  | none=>(none,5)
  | some b=>if g.tn=2000 then (none,3) else (some (turnG v g b),0)
def blankP (e:Ev):Bool :=
 if e.k=1 then decide (e.ss.length=0∧e.r=0) else if e.k=2 then decide (e.r=0) else if e.k=3 then decide (e.a=0∧e.b=0∧e.ss.length=0) else false
def gameP (v:Vr) (g:Gm) (e:Ev):Option Gm :=
 if e.k=1 then (if openC v g e.a e.b=0 then some (openG g e.a e.b) else none)
 else if e.k=3 then (if resgC v g e.r=0 then some (resgG g e.r) else none)
 else if g.ph=1 then (if rollC v g e.a e.b=0 then (turnP v (rollG g e.a e.b) e.ss).1 else none)
 else if g.ph=2∧g.x=e.a∧g.y=e.b then (turnP v g e.ss).1 else none
def overS (v:Vr) (len:Int) (x:Ms) (g:Gm):Ms :=
 if g.ph≠3 then ⟨x.s0,x.s1,x.gs,g,false⟩ else
  let t0:=if g.wn=0 then x.s0+g.rs else x.s0
  let t1:=if g.wn=0 then x.s1 else x.s1+g.rs
  if len<=(if g.wn=0 then t0 else t1) then ⟨t0,t1,x.gs+1,g,true⟩ else ⟨t0,t1,x.gs+1,newG v,false⟩
def nextS (v:Vr) (len:Int) (x:Ms) (e:Ev):Option Ms :=
 if x.ov=true∨blankP e=false then none else (gameP v x.g e).map (overS v len x)
def startS (v:Vr):Ms:=⟨0,0,0,newG v,false⟩
def headB (v:Vr) (len:Int):Bool:=okV v && decide (4<=v.p) && decide (1<=len∧len<=25)
def stGo (v:Vr) (len:Int):Ms->List Ev->Option (List Ms)
 | x,[]=>some [x]
 | x,e :: es=>match nextS v len x e with
  | some y=>(stGo v len y es).map (x :: ·)
  | none=>none
def statesP (v:Vr) (len:Int) (es:List Ev):Option (List Ms):=if headB v len=false∨300<es.length then none else stGo v len (startS v) es
theorem gm_parts {v:Vr} {g:Gm} (h:gmB v g=true):Ok v g.b∧4<=v.p∧(0<=g.pl∧g.pl<=1)∧(0<=g.tn∧g.tn<=2000)∧(g.ph=2->(1<=g.x∧g.x<=v.s)∧1<=g.y∧g.y<=g.x)∧(g.ph=1∨g.ph=2->over g.b=false∧g.wn=0∧g.rs=0):=by
 unfold gmB at h;simp only [Bool.and_eq_true,decide_eq_true_eq] at h;obtain⟨⟨⟨⟨⟨j,i⟩,f⟩,e⟩,c⟩,d⟩:=h;refine⟨okB_iff.1 j,i,f,e,λ a=>?_,λ a=>?_⟩
 ·rw [if_pos a] at c;unfold rollB at c
  simpa only [Bool.and_eq_true,decide_eq_true_eq] using c
 ·rw [if_neg (by omega),if_pos a] at d
  simpa only [Bool.and_eq_true,decide_eq_true_eq,Bool.not_eq_true'] using d
theorem game_parts {v:Vr} {g g':Gm} {e:Ev} (h:gameP v g e=some g'):(0<=g'.pl∧g'.pl<=1)∧(0<=g'.tn∧g'.tn<=2000)∧(g'.ph=3->(g'.wn=0∨g'.wn=1)∧1<=g'.rs∧g'.rs<=3)∧Ok v g'.b:=by
 have f:∀ b,1<=resP v b∧resP v b<=3:=λ b=>by unfold resP;split <;> (try split) <;> omega
 have d:∀ {g g':Gm} {l},(turnP v g l).1=some g'->(0<=g'.pl∧g'.pl<=1)∧(0<=g'.tn∧g'.tn<=2000)∧(g'.ph=3->(g'.wn=0∨g'.wn=1)∧1<=g'.rs∧g'.rs<=3)∧Ok v g'.b:=by
  intro g g' l h;unfold turnP at h;split at h
  ·cases h
  ·rename_i h1
   have c:=gm_parts (by simpa using h1);split at h
   ·cases h
   ·split at h
    ·cases h
    ·rename_i b hb
     split at h
     ·cases h
     ·simp only [Option.some.injEq] at h;have i:=play_ok c.1 hb;have n:=f b;unfold turnG at h;split at h
      ·subst h;exact⟨c.2.2.1,⟨by show 0<=g.tn+1;omega,by show g.tn+1<=2000;omega⟩,λ _=>⟨by show g.pl=0∨g.pl=1;omega,n⟩,i⟩
      ·subst h;exact⟨⟨by show 0<=1 - g.pl;omega,by show 1 - g.pl<=1;omega⟩,⟨by show 0<=g.tn+1;omega,by show g.tn+1<=2000;omega⟩,λ j=>absurd (show (1:Int)=3 from j) (by decide),swp_ok i⟩
 unfold gameP at h;split at h
 ·split at h
  ·rename_i h1
   simp only [Option.some.injEq] at h;unfold openC at h1;split at h1
   ·exact absurd h1 (by decide)
   ·rename_i h2
    have c:=gm_parts (by simpa using h2);split at h1
    ·exact absurd h1 (by decide)
    ·rename_i m
     have m:g.ph=0:=by simpa using m
     unfold openG at h;split at h
     ·subst h;exact⟨c.2.2.1,c.2.2.2.1,λ j=>by omega,c.1⟩
     ·subst h;refine⟨?_,c.2.2.2.1,λ j=>absurd (show (2:Int)=3 from j) (by decide),?_⟩
      ·show 0<=(if e.a<e.b then 1 else g.pl)∧(if e.a<e.b then 1 else g.pl)<=1
       have:=c.2.2.1;split <;> omega
      ·show Ok v (if e.a<e.b then swp g.b else g.b)
       split
       ·exact swp_ok c.1
       ·exact c.1
  ·cases h
 ·split at h
  ·split at h
   ·rename_i h1
    simp only [Option.some.injEq] at h;unfold resgC at h1;split at h1
    ·exact absurd h1 (by decide)
    ·rename_i h2
     have c:=gm_parts (by simpa using h2);split at h1
     ·exact absurd h1 (by decide)
     ·split at h1
      ·exact absurd h1 (by decide)
      ·rename_i k
       have k:1<=e.r∧e.r<=3:=by simpa using k
       have:=c.2.2.1;subst h;exact⟨this,c.2.2.2.1,λ _=>⟨by show 1 - g.pl=0∨1 - g.pl=1;omega,k⟩,c.1⟩
   ·cases h
  ·split at h
   ·split at h
    ·exact d h
    ·cases h
   ·split at h
    ·exact d h
    ·cases h
end PlP
namespace PlP
end PlP
namespace PlP
theorem at_set (l:List Int) (i j:Nat) (x:Int) (h:i<l.length):at_ (l.set i x) j=if j=i then x else at_ l j:=by
 unfold at_;rw [List.getD_eq_getElem?_getD,List.getElem?_set];by_cases e:i=j
 ·subst e;simp [h]
 ·rw [if_neg e,if_neg (λ h=>e h.symm),List.getD_eq_getElem?_getD]
theorem at_rep (n j:Nat):at_ (List.replicate n (0:Int)) j=0:=by
 unfold at_;rw [List.getD_eq_getElem?_getD,List.getElem?_replicate];split <;> rfl
theorem sum_rep (n:Nat):(List.replicate n (0:Int)).sum=0:=by simp
theorem start_ok {v:Vr} (hv:okV v=true) (h4:4<=v.p):Ok v (startB v)∧(startL v).sum=v.c:=by
 have g:=okV_iff.1 hv;unfold startB startL;by_cases hf:v.p=24∧v.c=15∧v.h=6∧v.s=6
 ·obtain⟨p,c,h,s⟩:=v;simp only at hf;obtain⟨rfl,rfl,rfl,rfl⟩:=hf;refine⟨okB_iff.1 (by decide),by decide⟩
 ·simp only [if_neg hf];obtain⟨n,l⟩:∃ n:Nat,(v.p+1).toNat=n:=⟨_,rfl⟩;obtain⟨i,o⟩:∃ i:Nat,(v.p - 1).toNat=i:=⟨_,rfl⟩;obtain⟨j,m⟩:∃ i:Nat,(v.p / 2 - 1).toNat=i:=⟨_,rfl⟩;rw [l,o,m];have b:i<(List.replicate n (0:Int)).length:=by rw [List.length_replicate];omega
  have f:j<((List.replicate n (0:Int)).set i (v.c / 2)).length:=by rw [List.length_set,List.length_replicate];omega
  have d:∀ k,at_ (((List.replicate n (0:Int)).set i (v.c / 2)).set j (v.c - v.c / 2)) k=if k=j then v.c - v.c / 2 else if k=i then v.c / 2 else 0:=by
   intro k;rw [at_set _ _ _ _ f,at_set _ _ _ _ b,at_rep]
  have a:(((List.replicate n (0:Int)).set i (v.c / 2)).set j (v.c - v.c / 2)).sum=v.c:=by
   rw [sum_set _ _ _ f,sum_set _ _ _ b,at_set _ _ _ _ b,at_rep,at_rep,sum_rep,if_neg (by omega)];omega
  have e:Sd v (((List.replicate n (0:Int)).set i (v.c / 2)).set j (v.c - v.c / 2)):=by
   refine⟨by rw [List.length_set,List.length_set,List.length_replicate];omega,λ k=>?_,by rw [a];exact Int.le_refl _⟩;rw [d];split
   ·omega
   ·split <;> omega
  refine⟨⟨g,e,e,by rw [a];omega,λ k q=>?_⟩,a⟩;show ¬ (0<at_ _ k∧0<at_ _ (v.p.toNat - 1 - k))
  rw [d,d];by_cases k1:k=j
  ·rw [if_pos k1];by_cases k2:v.p.toNat - 1 - k=j
   ·omega
   ·rw [if_neg k2];by_cases k3:v.p.toNat - 1 - k=i
    ·omega
    ·rw [if_neg k3];omega
  ·rw [if_neg k1];by_cases k4:k=i
   ·rw [if_pos k4];by_cases k2:v.p.toNat - 1 - k=j
    ·omega
    ·rw [if_neg k2];by_cases k3:v.p.toNat - 1 - k=i
     ·omega
     ·rw [if_neg k3];omega
   ·rw [if_neg k4];omega
theorem start_over {v:Vr} (hv:okV v=true) (h4:4<=v.p):over (startB v)=false:=by
 have a:=okV_iff.1 hv;have:=(start_ok hv h4).2;unfold over startB;simp only [this,Bool.or_self,decide_eq_false_iff_not];omega
theorem new_valid {v:Vr} (hv:okV v=true) (h4:4<=v.p):gmB v (newG v)=true:=by
 unfold gmB newG;simp [okB_iff.2 (start_ok hv h4).1,h4]
theorem step_oth {v:Vr} {b:Bd} {s:Stp} (hb:Ok v b) (h:legal1 v b s=true):(afterP v b s).2.sum=b.2.sum:=by
 obtain⟨m,n,g,f⟩:=legal1_iff.1 h;obtain⟨k,j,i,d⟩:=step_parts g hb f;have e:=hb.oth.len;have l:=hb.v1;unfold afterP;simp only;split
 ·rename_i hh
  rcases d with ⟨a1,a2,a3,a4⟩ | ⟨_,_,a4⟩
  ·have c:(v.p - 1 - s.2.1).toNat<b.2.length:=by omega
   have a:v.p.toNat<(inc b.2 (v.p - 1 - s.2.1).toNat (-1)).length:=by rw [inc_len];omega
   rw [inc_sum _ _ _ a,inc_sum _ _ _ c];omega
  ·rw [a4] at hh;cases hh
 ·rfl
theorem follow_oth {v:Vr}:∀(ds:List Int) (b:Bd) (ss:List Stp) (c:Bd),Ok v b->followP v b ds ss=some c->c.2.sum=b.2.sum
 | ds,b,[],c,hb,h=>by simp only [followP,Option.some.injEq] at h;subst h;rfl
 | [],b,s :: ss,c,hb,h=>by simp [followP] at h
 | d :: ds,b,s :: ss,c,hb,h=>by
  simp only [followP] at h;split at h
  ·rename_i h1
   rw [follow_oth ds _ ss c (legal1_ok hb h1.2) h,step_oth hb h1.2]
  ·cases h
theorem first_oth {v:Vr} {b c:Bd} {ss:List Stp} (hb:Ok v b):∀(os:List (List Int)),firstF v b ss os=some c->c.2.sum=b.2.sum
 | [],h=>by simp [firstF] at h
 | o :: os,h=>by
  simp only [firstF] at h;split at h
  ·rename_i d hd
   simp only [Option.some.injEq] at h;subst h;exact follow_oth o b ss _ hb hd
  ·exact first_oth hb os h
theorem play_oth {v:Vr} {b c:Bd} {x y:Int} {ss:List Stp} (hb:Ok v b) (h:playP v b x y ss=some c):c.2.sum=b.2.sum:=by
 unfold playP at h;split at h
 ·exact first_oth hb _ h
 ·cases h
theorem res_bd (v:Vr) (b:Bd):1<=resP v b∧resP v b<=3:=by unfold resP;split <;> (try split) <;> omega
theorem over_swp (b:Bd):over (swp b)=over b:=by unfold over swp;simp only;rw [Bool.or_comm]
theorem turn_valid {v:Vr} {g g':Gm} {ss:List Stp} (hg:gmB v g=true) (h:(turnP v g ss).1=some g'):gmB v g'=true:=by
 have c:=gm_parts hg;unfold turnP at h;rw [if_neg (by rw [hg];decide)] at h;by_cases h2:g.ph=2
 ·rw [if_neg (by rw [h2];decide)] at h;split at h
  ·cases h
  ·rename_i b hb
   split at h
   ·cases h
   ·rename_i htn
    simp only [Option.some.injEq] at h;have e:=play_ok c.1 hb;have d:=play_oth c.1 hb;have l:=res_bd v b;have f:=(c.2.2.2.2.2 (.inr h2)).1;unfold turnG at h;by_cases a:over b=true
    ·rw [if_pos a] at h;subst h;have i:b.1.sum=0:=by
      unfold over at f a;simp only [Bool.or_eq_true,Bool.or_eq_false_iff,decide_eq_true_eq,decide_eq_false_iff_not] at f a;rcases a with h | h
      ·exact h
      ·rw [d] at h;exact absurd h f.2
     unfold gmB;have k:=c.2.2.1;have j:=c.2.2.2.1;simp [okB_iff.2 e,c.2.1,a,i];omega
    ·rw [if_neg a] at h;subst h;have a:over b=false:=by simpa using a
     unfold gmB;have k:=c.2.2.1;have j:=c.2.2.2.1;simp [okB_iff.2 (swp_ok e),c.2.1,over_swp,a];omega
 ·rw [if_pos h2] at h;cases h
theorem roll_valid {v:Vr} {g:Gm} {x y:Int} (hg:gmB v g=true) (h1:g.ph=1) (hr:rollB v x y=true):gmB v (rollG g x y)=true:=by
 unfold gmB at hg ⊢;unfold rollG;simp only [h1] at hg;simp only [hr];simp only [if_true,Bool.and_eq_true,decide_eq_true_eq,Bool.and_true] at hg ⊢;obtain⟨⟨a,b⟩,c⟩:=hg;refine⟨a,?_⟩
 simpa using c
theorem rollC_zero {v:Vr} {g:Gm} {x y:Int} (h:rollC v g x y=0):gmB v g=true∧g.ph=1∧rollB v x y=true:=by
 unfold rollC at h;split at h
 ·exact absurd h (by decide)
 ·split at h
  ·exact absurd h (by decide)
  ·split at h
   ·exact absurd h (by decide)
   ·rename_i a b c
    exact⟨by simpa using a,by simpa using b,by simpa using c⟩
theorem game_valid {v:Vr} {g g':Gm} {e:Ev} (hg:gmB v g=true) (h:gameP v g e=some g'):gmB v g'=true:=by
 have c:=gm_parts hg;unfold gameP at h;split at h
 ·split at h
  ·rename_i h1
   simp only [Option.some.injEq] at h;unfold openC at h1;rw [if_neg (by rw [hg];decide)] at h1;split at h1
   ·exact absurd h1 (by decide)
   ·rename_i d
    have d:g.ph=0:=by simpa using d
    split at h1
    ·exact absurd h1 (by decide)
    ·rename_i i
     have i:(1<=e.a∧e.a<=v.s)∧1<=e.b∧e.b<=v.s:=by simpa using i
     unfold openG at h;split at h
     ·subst h;exact hg
     ·rename_i hab
      subst h;have p:=okB_iff.2 c.1;have o:okV v=true:=okV_iff.2 c.1.v1;have l:=start_over o c.2.1;unfold gmB at hg;simp only [d,Bool.and_eq_true,decide_eq_true_eq] at hg;have m:=hg.2;simp only [if_true,decide_eq_true_eq] at m;obtain⟨z,y,x,w,n⟩:=m;have q:rollB v (max e.a e.b) (min e.a e.b)=true:=by
       unfold rollB;simp only [Bool.and_eq_true,decide_eq_true_eq];omega
      have k:=okB_iff.2 (swp_ok c.1);have f:over g.b=false:=by rw [n];exact l
      clear n;unfold gmB;simp only [q,y,x,w];by_cases hlt:e.a<e.b
      ·simp [hlt,k,c.2.1,over_swp,f]
      ·simp [hlt,p,c.2.1,f,z]
  ·cases h
 ·split at h
  ·split at h
   ·rename_i h1
    simp only [Option.some.injEq] at h;unfold resgC at h1;rw [if_neg (by rw [hg];decide)] at h1;split at h1
    ·exact absurd h1 (by decide)
    ·rename_i j
     have j:g.ph=1∨g.ph=2:=by omega
     split at h1
     ·exact absurd h1 (by decide)
     ·rename_i i
      have i:1<=e.r∧e.r<=3:=by simpa using i
      subst h;have t:=(c.2.2.2.2.2 j).1;have d:=c.2.2.1;have A:=c.2.2.2.1;unfold gmB resgG;simp [okB_iff.2 c.1,c.2.1,t];omega
   ·cases h
  ·split at h
   ·split at h
    ·rename_i h1 j
     have d:=rollC_zero j;exact turn_valid (roll_valid hg d.2.1 d.2.2) h
    ·cases h
   ·split at h
    ·exact turn_valid hg h
    ·cases h
structure MsOk (v:Vr) (len:Int) (i:Nat) (x:Ms):Prop where
 gm:gmB v x.g=true
 sc:x.ov=false->(0<=x.s0∧x.s0<len)∧0<=x.s1∧x.s1<len
 gs:0<=x.gs∧x.gs<=i
theorem start_ms {v:Vr} {len:Int} (h:headB v len=true):MsOk v len 0 (startS v):=by
 unfold headB at h;simp only [Bool.and_eq_true,decide_eq_true_eq] at h;refine⟨new_valid h.1.1 h.1.2,λ _=>?_,?_⟩
 ·unfold startS;simp only;omega
 ·unfold startS;simp
theorem next_ms {v:Vr} {len:Int} {i:Nat} {x y:Ms} {e:Ev} (hl:1<=len) (hx:MsOk v len i x) (h:nextS v len x e=some y):MsOk v len (i+1) y:=by
 unfold nextS at h;split at h
 ·cases h
 ·rename_i b
  have b:x.ov=false:=by cases c:x.ov with | false=>rfl | true=>exact absurd (.inl c) b
  cases hg:gameP v x.g e with
  | none=>rw [hg] at h;cases h
  | some g =>
   rw [hg] at h;simp only [Option.map_some,Option.some.injEq] at h;have a:=game_valid hx.gm hg;have j:=gm_parts a;have k:okV v=true:=okV_iff.2 j.1.v1;have f:=game_parts hg;have d:=hx.sc b;have l:=hx.gs;unfold overS at h;by_cases h3:g.ph=3
   ·rw [if_neg (by omega)] at h;have m:=f.2.2.1 h3;simp only at h;by_cases hw:g.wn=0
    ·simp only [if_pos hw] at h;by_cases hlt:len<=x.s0+g.rs
     ·rw [if_pos hlt] at h;subst h;exact⟨a,λ c=>by simp at c,by simp only;omega⟩
     ·rw [if_neg hlt] at h;subst h;exact⟨new_valid k j.2.1,λ _=>by simp only;omega,by simp only;omega⟩
    ·simp only [if_neg hw] at h;by_cases hlt:len<=x.s1+g.rs
     ·rw [if_pos hlt] at h;subst h;exact⟨a,λ c=>by simp at c,by simp only;omega⟩
     ·rw [if_neg hlt] at h;subst h;exact⟨new_valid k j.2.1,λ _=>by simp only;omega,by simp only;omega⟩
   ·rw [if_pos h3] at h;subst h;exact⟨a,λ _=>d,by simp only;omega⟩
end PlP
namespace Ints
open Go.ChangeShapes Go.WideShapes Go.ChangeAt Go.RowKit Base
theorem info:(Tryz.prog.info? 2).map (λ i=>(i.zero,i.size,i.bytes))=some (some (.int .i64 0),1,8):=by kernel_rfl
end Ints
namespace Gm
open Go Go.RowKit Base Ints RelG PlP
def BdR (w:World) (S:Nat->Prop) (u1 u2:Value) (b:Bd):Prop:=SlV 1 enI w S u1 b.1∧SlV 1 enI w S u2 b.2
section
variable {w w':World} {S S':Nat->Prop} {u1 u2:Value} {b:Bd}
theorem BdR.keep (h:BdR w S u1 u2 b) (hs:Still S w w'):BdR w' S u1 u2 b:=⟨(relV 1 enI).keep h.1 hs,(relV 1 enI).keep h.2 hs⟩
theorem BdR.weak (h:BdR w S u1 u2 b) (hs:∀ b,S b->b<w.heap.size->S' b):BdR w S' u1 u2 b:=⟨(relV 1 enI).weak h.1 hs,(relV 1 enI).weak h.2 hs⟩
theorem BdR.below (h:BdR w S u1 u2 b) (hb:Below w.heap.size w w'):BdR w' S u1 u2 b:=h.keep (.below hb)
theorem BdR.nil (w:World) (S:Nat->Prop):BdR w S (.slice none 0 0) (.slice none 0 0) ([],[]) :=
 ⟨⟨none,0,rfl,RdF.nil _ _ _ _ _,λ _=>rfl⟩,⟨none,0,rfl,RdF.nil _ _ _ _ _,λ _=>rfl⟩⟩
end
def gmC (u1 u2:Value) (g:Gm):List Value:=[u1,u2,.int .i64 g.pl,.int .i64 g.x,.int .i64 g.y,.int .i64 g.ph,.int .i64 g.wn,.int .i64 g.rs,.int .i64 g.tn]
def msC (su u1 u2:Value) (x:Ms):List Value:=[su,.int .i64 x.gs,u1,u2,.int .i64 x.g.pl,.int .i64 x.g.x,.int .i64 x.g.y,.int .i64 x.g.ph,.int .i64 x.g.wn,.int .i64 x.g.rs,.int .i64 x.g.tn,.bool x.ov]
def nulG:Gm:=⟨([],[]),0,0,0,0,0,0,0⟩
def nulM:Ms:=⟨0,0,0,nulG,false⟩
def RelBV:Rel Value Bd where
 R:=λ w S v b=>∃ u1 u2,v=.agg #[u1,u2]∧BdR w S u1 u2 b
 keep:=λ⟨u1,u2,e,h⟩ hs=>⟨u1,u2,e,h.keep hs⟩
 weak:=λ⟨u1,u2,e,h⟩ hs=>⟨u1,u2,e,h.weak hs⟩
def RelBB:Rel Value (Option Bd) where
 R:=λ w S v x=>∃ u1 u2 b,v=.tuple #[.agg #[u1,u2],.bool x.isSome]∧BdR w S u1 u2 b∧∀ b0,x=some b0->b=b0
 keep:=λ⟨u1,u2,b,e,h,k⟩ hs=>⟨u1,u2,b,e,h.keep hs,k⟩
 weak:=λ⟨u1,u2,b,e,h,k⟩ hs=>⟨u1,u2,b,e,h.weak hs,k⟩
def RelBI:Rel Value (Option Bd) where
 R:=λ w S v x=>∃ u1 u2 b c,v=.tuple #[.agg #[u1,u2],.int .i64 c]∧BdR w S u1 u2 b∧(∀ b0,x=some b0->b=b0∧c=0)∧(x=none->c≠0)
 keep:=λ⟨u1,u2,b,c,e,h,k⟩ hs=>⟨u1,u2,b,c,e,h.keep hs,k⟩
 weak:=λ⟨u1,u2,b,c,e,h,k⟩ hs=>⟨u1,u2,b,c,e,h.weak hs,k⟩
def RelGV:Rel Value Gm where
 R:=λ w S v g=>∃ u1 u2,v=.agg ⟨gmC u1 u2 g⟩∧BdR w S u1 u2 g.b
 keep:=λ⟨u1,u2,e,h⟩ hs=>⟨u1,u2,e,h.keep hs⟩
 weak:=λ⟨u1,u2,e,h⟩ hs=>⟨u1,u2,e,h.weak hs⟩
def RelGI:Rel Value (Option Gm) where
 R:=λ w S v x=>∃ u1 u2 g c,v=.tuple #[.agg ⟨gmC u1 u2 g⟩,.int .i64 c]∧BdR w S u1 u2 g.b∧(∀ g0,x=some g0->g=g0∧c=0)∧(x=none->c≠0)
 keep:=λ⟨u1,u2,g,c,e,h,k⟩ hs=>⟨u1,u2,g,c,e,h.keep hs,k⟩
 weak:=λ⟨u1,u2,g,c,e,h,k⟩ hs=>⟨u1,u2,g,c,e,h.weak hs,k⟩
def RelGB:Rel Value (Option Gm) where
 R:=λ w S v x=>∃ u1 u2 g,v=.tuple #[.agg ⟨gmC u1 u2 g⟩,.bool x.isSome]∧BdR w S u1 u2 g.b∧∀ g0,x=some g0->g=g0
 keep:=λ⟨u1,u2,g,e,h,k⟩ hs=>⟨u1,u2,g,e,h.keep hs,k⟩
 weak:=λ⟨u1,u2,g,e,h,k⟩ hs=>⟨u1,u2,g,e,h.weak hs,k⟩
def MsR (w:World) (S:Nat->Prop) (su u1 u2:Value) (x:Ms):Prop:=SlV 1 enI w S su [x.s0,x.s1]∧BdR w S u1 u2 x.g.b
section
variable {w w':World} {S S':Nat->Prop} {su u1 u2:Value} {x:Ms}
theorem MsR.keep (h:MsR w S su u1 u2 x) (hs:Still S w w'):MsR w' S su u1 u2 x:=⟨(relV 1 enI).keep h.1 hs,h.2.keep hs⟩
theorem MsR.weak (h:MsR w S su u1 u2 x) (hs:∀ b,S b->b<w.heap.size->S' b):MsR w S' su u1 u2 x:=⟨(relV 1 enI).weak h.1 hs,h.2.weak hs⟩
theorem MsR.below (h:MsR w S su u1 u2 x) (hb:Below w.heap.size w w'):MsR w' S su u1 u2 x:=h.keep (.below hb)
end
def RelMV:Rel Value Ms where
 R:=λ w S v x=>∃ su u1 u2,v=.agg ⟨msC su u1 u2 x⟩∧MsR w S su u1 u2 x
 keep:=λ⟨su,u1,u2,e,h⟩ hs=>⟨su,u1,u2,e,h.keep hs⟩
 weak:=λ⟨su,u1,u2,e,h⟩ hs=>⟨su,u1,u2,e,h.weak hs⟩
def Ret {α:Type} (K:Rel Value α) (x:α) (S:Nat->Prop) (w:World) (e:Ending) (w':World):Prop :=
 ∃ v,e=.returned v∧K.R w' (λ b=>S b∨w.heap.size<=b) v x∧Below w.heap.size w w'
section
variable {w:World} {g:Nat} {t:TypeId} {c0 c1 c2 c3 c4 c5 c6 c7 c8 c9 c10 c11:Value}
theorem row9 (h:RowB w g t [c0,c1,c2,c3,c4,c5,c6,c7,c8]):w.cell? ⟨g,0,none⟩=some c0∧w.cell? ⟨g,1,none⟩=some c1∧w.cell? ⟨g,2,none⟩=some c2∧w.cell? ⟨g,3,none⟩=some c3∧w.cell? ⟨g,4,none⟩=some c4∧w.cell? ⟨g,5,none⟩=some c5∧w.cell? ⟨g,6,none⟩=some c6∧w.cell? ⟨g,7,none⟩=some c7∧w.cell? ⟨g,8,none⟩=some c8 :=
 ⟨h.cell 0,h.cell 1,h.cell 2,h.cell 3,h.cell 4,h.cell 5,h.cell 6,h.cell 7,h.cell 8⟩
theorem row12 (h:RowB w g t [c0,c1,c2,c3,c4,c5,c6,c7,c8,c9,c10,c11]):w.cell? ⟨g,0,none⟩=some c0∧w.cell? ⟨g,1,none⟩=some c1∧w.cell? ⟨g,2,none⟩=some c2∧w.cell? ⟨g,3,none⟩=some c3∧w.cell? ⟨g,4,none⟩=some c4∧w.cell? ⟨g,5,none⟩=some c5∧w.cell? ⟨g,6,none⟩=some c6∧w.cell? ⟨g,7,none⟩=some c7∧w.cell? ⟨g,8,none⟩=some c8∧w.cell? ⟨g,9,none⟩=some c9∧w.cell? ⟨g,10,none⟩=some c10∧w.cell? ⟨g,11,none⟩=some c11 :=
 ⟨h.cell 0,h.cell 1,h.cell 2,h.cell 3,h.cell 4,h.cell 5,h.cell 6,h.cell 7,h.cell 8,h.cell 9,h.cell 10,h.cell 11⟩
end
abbrev gM:List Value:=gmC (.slice none 0 0) (.slice none 0 0) nulG
end Gm

namespace Clone
open Go.ChangeShapes Go.WideShapes Go.ChangeAt Go.RowKit Base Ints Own
theorem news_rd {w:World} {B:Nat} {ad:Addr} {xs:List Int} (h:RdS w B 1 enI (some ad) xs):∀ j u,(xs.flatMap enI)[j]?=some u->w.cell? (ad.add j)=some u:=by
 intro j u e;have f:j<(xs.flatMap enI).length:=(List.getElem?_eq_some_iff.1 e).1;rw [flatMap_len enI_len,Nat.mul_one] at f;obtain⟨b,a,g,_,l⟩:=h.2 (by omega);simp only [Option.some.injEq] at g;subst g;have d:xs[j]?=some xs[j]:=List.getElem?_eq_getElem f;have k:=flatMap_at enI_len xs j _ d 0 _ rfl;rw [Nat.mul_one,Nat.add_zero,e] at k;have i:=l j _ d 0 _ rfl;rw [<-k,Nat.mul_one,Nat.add_zero] at i;have c:(⟨b,a,none⟩:Addr).add j=⟨b,a+j,none⟩:=by unfold Addr.add;split <;> simp_all
 rw [c];exact i
theorem rd_none {w:World} {B:Nat} {xs:List Int} (h:RdS w B 1 enI none xs):xs=[]:=by
 cases xs with
 | nil=>rfl
 | cons x xs=>obtain⟨b,a,c,_⟩:=h.2 (by simp);cases c
theorem one_Is (xs:List Int):∀ u ∈ xs.flatMap enI,u.oneCell'=true:=by
 intro u b;obtain⟨y,_,a⟩:=List.mem_flatMap.1 b;exact one_I y u a
theorem clone (A:Option Addr) (cp B:Nat) (xs:List Int) (w:World) (hB:B<=w.heap.size) (hr:RdS w B 1 enI A xs) (hA:A=none->cp=0) (hn:xs.length<=1048577) :
  Calls Tryz.prog 37 #[.slice A xs.length cp] w λ e w'=>(∃ v,e=.returned v∧OwnS w' w.heap.size w'.heap.size 2 1 enI v xs)∧Below w.heap.size w w':=by
 obtain⟨l,f,d,c,b⟩:=info_parts Ints.info
 cases A with
 | none =>
  obtain rfl:=rd_none hr;obtain rfl:=hA rfl;have k:∀ w:World,(binOp .eql 26 (.slice none 0 0) (.slice none 0 0)).run Tryz.prog w=.ok (.bool true) w:=λ w=>Lib.run_eql_slice_nil w _ _ _ _ _ _ _ Tryz.underlying26
  go_enter Tryz.func37,Tryz.ntmps37;go_wp2;go_ret;exact⟨⟨_,rfl,OwnS.nil_ _ _ _ _ _ _⟩,Below.refl _ _⟩
 | some ad =>
  have k:∀ w:World,(binOp .eql 26 (.slice (some ad) xs.length cp) (.slice none 0 0)).run Tryz.prog w=.ok (.bool false) w:=λ w=>Lib.run_eql_slice_nil w _ _ _ _ _ _ _ Tryz.underlying26
  go_enter Tryz.func37,Tryz.ntmps37;go_wp2_with (at_builtin;refine wpList_append_own _ rfl _ _ _ rfl w.heap.size 2 l (.int .i64 0) 1 8 Tryz.underlying26 f d c b rfl (by decide) _ 0 [] rfl ((RowB.new w 2 []).own (xs:=([]:List Int)) (en:=enI) enI_len (Nat.le_refl _) (by simp) (by decide):OwnS _ w.heap.size (w.alloc (.cells #[] 2)).heap.size 2 1 enI _ []).1 ad xs.length cp (xs.flatMap enI) rfl (by rw [flatMap_len enI_len]) (news_rd (hr.below (by go_grown) hB)) (one_Is xs) ?c1 ?c2 ?c3 ?_)
  case c1=>unfold maxLen;omega
  case c2=>omega
  case c3=>go_size
  intro j w' a h _;have a:w'.ownsRow w.heap.size 2 1 j xs.length (xs.flatMap enI):=by simpa using a
  go_wp2;go_ret;refine⟨⟨_,rfl,a,λ g i=>(a.lt g i).2⟩,?_⟩;exact((Below.refl w.heap.size w).alloc (Nat.le_refl _) _).grown h (by go_size) (λ g i=>by simp [Value.ownBlock] at i;omega)
theorem own02 (A:Option Addr) (cp B:Nat) (xs:List Int) (w:World) (hB:B<=w.heap.size) (hr:RdS w B 1 enI A xs) (hA:A=none->cp=0) (hn:xs.length<=1048577) :
  Calls Tryz.prog 101 #[.slice A xs.length cp] w λ e w'=>(∃ v,e=.returned v∧OwnS w' w.heap.size w'.heap.size 2 1 enI v xs)∧Below w.heap.size w w':=by
 obtain⟨j,b,f,d,c⟩:=info_parts Ints.info
 cases A with
 | none =>
  obtain rfl:=rd_none hr;obtain rfl:=hA rfl;go_enter Tryz.func101,Tryz.ntmps101;go_wp2_with (at_builtin;refine wpList_append_own_none rfl _ _ _ rfl w.heap.size 2 j 1 Tryz.underlying26 b _ 0 [] rfl ((RowB.new w 2 []).own (xs:=([]:List Int)) (en:=enI) enI_len (Nat.le_refl _) (by simp) (by decide):OwnS _ w.heap.size (w.alloc (.cells #[] 2)).heap.size 2 1 enI _ []).1 rfl ?_);go_wp2;go_ret;exact⟨⟨_,rfl,(RowB.new w 2 []).own (xs:=[]) enI_len (Nat.le_refl _) (by simp) (by decide)⟩,by go_grown⟩
 | some ad =>
  go_enter Tryz.func101,Tryz.ntmps101;go_wp2_with (at_builtin;refine wpList_append_own _ rfl _ _ _ rfl w.heap.size 2 j (.int .i64 0) 1 8 Tryz.underlying26 b f d c rfl (by decide) _ 0 [] rfl ((RowB.new w 2 []).own (xs:=([]:List Int)) (en:=enI) enI_len (Nat.le_refl _) (by simp) (by decide):OwnS _ w.heap.size (w.alloc (.cells #[] 2)).heap.size 2 1 enI _ []).1 ad xs.length cp (xs.flatMap enI) rfl (by rw [flatMap_len enI_len]) (news_rd (hr.below (by go_grown) hB)) (one_Is xs) ?c1 ?c2 ?c3 ?_)
  case c1=>unfold maxLen;omega
  case c2=>omega
  case c3=>go_size
  intro k w' a h _;have a:w'.ownsRow w.heap.size 2 1 k xs.length (xs.flatMap enI):=by simpa using a
  go_wp2;go_ret;refine⟨⟨_,rfl,a,λ g i=>(a.lt g i).2⟩,?_⟩;exact((Below.refl w.heap.size w).alloc (Nat.le_refl _) _).grown h (by go_size) (λ g i=>by simp [Value.ownBlock] at i;omega)
end Clone
end Go.Proofs.YtmncnhbjifeoeaaGreat
