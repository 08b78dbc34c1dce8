/- Parts of the proof of FnMatchText. Conditions: each theorem's own. -/
import Derived.Test.YtjdefiinmicjiaaGreatDoorV01
import Derived.Deep.MidRow
set_option linter.unusedVariables false
set_option linter.unusedSimpArgs false
set_option maxHeartbeats 8000000
set_option maxRecDepth 100000
namespace Go.Proofs.YtjdefiinmicjiaaGreatDoor
open _root_.Go.Proofs.Tryz
namespace PlP
def rollB (v:Vr) (x y:Int):Bool:=decide (1<=x∧x<=v.s) && decide (1<=y∧y<=x)
def legal1 (v:Vr) (b:Bd) (s:Stp):Bool :=
 !over b && decide (1<=s.2.2.1∧s.2.2.1<=v.s) && decide (0<=s.1∧s.1<=v.p) && decide (stepP v b s.1 s.2.2.1=some s)
def followP (v:Vr):Bd->List Int->List Stp->Option Bd
 | b,_,[]=>some b
 | _,[],_ :: _=>none
 | b,d :: ds,s :: ss=>if s.2.2.1=d∧legal1 v b s=true then followP v (afterP v b s) ds ss else none
def firstF (v:Vr) (b:Bd) (ss:List Stp):List (List Int)->Option Bd
 | []=>none
 | o :: os=>match followP v b o ss with
  | some c=>some c
  | none=>firstF v b ss os
def ordS (v:Vr) (b:Bd) (x y:Int):List (List Int):=if usedP v b (ordP x y)=1∧(ordP x y).length=2∧0<(legalP v b x).length then (ordP x y).take 1 else ordP x y
def playP (v:Vr) (b:Bd) (x y:Int) (ss:List Stp):Option Bd:=if ss.length=usedP v b (ordP x y) then firstF v b ss (ordS v b x y) else none
def playGo (v:Vr) (b:Bd) (ss:List Stp) (n:Nat):List (List Int)->List (List (List Pl))->Option Bd
 | o :: os,R :: Rs=>if R.length<=n then playGo v b ss n os Rs else match followP v b o ss with
  | some c=>some c
  | none=>if n=1 then none else playGo v b ss n os Rs
 | _,_=>none
def playI (v:Vr) (b:Bd) (x y:Int) (ss:List Stp):Option Bd :=
 if ss.length=usedR ((ordP x y).map λ o=>(rowsP v b o).1) 0 then playGo v b ss (usedR ((ordP x y).map λ o=>(rowsP v b o).1) 0) (ordP x y) ((ordP x y).map λ o=>(rowsP v b o).1) else none
theorem legal1_iff {v:Vr} {b:Bd} {s:Stp}:legal1 v b s=true↔over b=false∧(1<=s.2.2.1∧s.2.2.1<=v.s)∧(0<=s.1∧s.1<=v.p)∧stepP v b s.1 s.2.2.1=some s:=by
 unfold legal1;simp only [Bool.and_eq_true,Bool.not_eq_true',decide_eq_true_eq,and_assoc]
theorem lgU_has {v:Vr} {b:Bd} {d:Int} {s:Stp} {j:Nat} (h:stepP v b (v.p - (j:Int)) d=some s):∀ k,j<k->s ∈ lgU v b d k:=by
 intro k
 induction k with
 | zero=>intro c;omega
 | succ k ih =>
  intro a;simp only [lgU,List.mem_append];by_cases e:j=k
  ·subst e;right;rw [h];simp
  ·left;exact ih (by omega)
theorem legal1_mem {v:Vr} {b:Bd} {s:Stp} (hv:0<=v.p) (h:legal1 v b s=true):s ∈ legalP v b s.2.2.1:=by
 obtain⟨c,e,d,a⟩:=legal1_iff.1 h;unfold legalP;rw [if_neg (by rw [c];simp)];refine lgU_has (j:=(v.p - s.1).toNat) ?_ _ (by omega);rw [show v.p - ((v.p - s.1).toNat:Int)=s.1 by omega];exact a
theorem legal1_ok {v:Vr} {b:Bd} {s:Stp} (hb:Ok v b) (h:legal1 v b s=true):Ok v (afterP v b s):=by
 obtain⟨e,d,c,a⟩:=legal1_iff.1 h;exact after_ok c d.1 hb e a
theorem follow_ok {v:Vr}:∀(ds:List Int) (b:Bd) (ss:List Stp) (c:Bd),Ok v b->followP v b ds ss=some c->Ok v c
 | ds,b,[],c,hb,h=>by simp only [followP,Option.some.injEq] at h;subst h;exact hb
 | [],b,s :: ss,c,hb,h=>by simp [followP] at h
 | d :: ds,b,s :: ss,c,hb,h=>by
  simp only [followP] at h;split at h
  ·rename_i h1;exact follow_ok ds _ ss c (legal1_ok hb h1.2) h
  ·cases h
theorem hasB_iff {out:List Pl} {b:Bd}:hasB out b=true↔∃ q ∈ out,q.2=b:=by
 unfold hasB;rw [List.any_eq_true];simp
theorem addOne_hasB {out:List Pl} {p:Pl} {b:Bd} (h:hasB out b=true):hasB (addOne out p) b=true:=by
 obtain⟨q,a,e⟩:=hasB_iff.1 h;exact hasB_iff.2 ⟨q,addOne_keep a,e⟩
theorem addOne_self (out:List Pl) (p:Pl):hasB (addOne out p) p.2=true:=by
 unfold addOne;split
 ·assumption
 ·exact hasB_iff.2 ⟨p,by simp,rfl⟩
theorem nxIn_hasB {v:Vr} {p:Pl} {b:Bd}:∀(ss:List Stp) (out:List Pl),hasB out b=true->hasB (nxIn v p ss out) b=true:=by
 intro ss
 induction ss with
 | nil=>intro out h;exact h
 | cons s ss ih=>intro out h;exact ih _ (addOne_hasB h)
theorem nxIn_at {v:Vr} {p:Pl} {s:Stp}:∀(ss:List Stp) (out:List Pl),s ∈ ss->hasB (nxIn v p ss out) (afterP v p.2 s)=true:=by
 intro ss
 induction ss with
 | nil=>intro out h;simp at h
 | cons t ss ih =>
  intro out h;rcases List.mem_cons.1 h with rfl | h
  ·exact nxIn_hasB ss _ (addOne_self out (p.1++[s],afterP v p.2 s))
  ·exact ih _ h
theorem nxGo_hasB {v:Vr} {d:Int} {b:Bd}:∀(ps out:List Pl),hasB out b=true->hasB (nxGo v d ps out) b=true:=by
 intro ps
 induction ps with
 | nil=>intro out h;exact h
 | cons p ps ih=>intro out h;exact ih _ (nxIn_hasB _ _ h)
theorem nxGo_at {v:Vr} {d:Int} {b:Bd} {s:Stp} (hs:s ∈ legalP v b d):∀(ps out:List Pl),hasB ps b=true->hasB (nxGo v d ps out) (afterP v b s)=true:=by
 intro ps
 induction ps with
 | nil=>intro out h;simp [hasB] at h
 | cons p ps ih =>
  intro out h;obtain⟨q,a,e⟩:=hasB_iff.1 h;rcases List.mem_cons.1 a with rfl | a
  ·refine nxGo_hasB ps _ ?_;subst e;exact nxIn_at _ _ hs
  ·exact ih _ (hasB_iff.2 ⟨q,a,e⟩)
theorem rowsGo_ge (v:Vr):∀(ds:List Int) (rows:List (List Pl)) (fine:Bool),rows.length<=(rowsGo v ds rows fine).1.length:=by
 intro ds
 induction ds with
 | nil=>intro rows fine;exact Nat.le_refl _
 | cons d ds ih =>
  intro rows fine;simp only [rowsGo];split
  ·exact Nat.le_refl _
  ·have:=ih (rows++[nextP v d (rows.getLastD [])]) (fine && decide ((nextP v d (rows.getLastD [])).length<=3000));simp only [List.length_append,List.length_cons,List.length_nil] at this;omega
theorem follow_rows {v:Vr} (hv:0<=v.p):∀(ds:List Int) (b:Bd) (ss:List Stp) (c:Bd) (rows:List (List Pl)) (fine:Bool),hasB (rows.getLastD []) b=true->followP v b ds ss=some c->rows.length+ss.length<=(rowsGo v ds rows fine).1.length
 | ds,b,[],c,rows,fine,hh,h=>rowsGo_ge v ds rows fine
 | [],b,s :: ss,c,rows,fine,hh,h=>by simp [followP] at h
 | d :: ds,b,s :: ss,c,rows,fine,hh,h=>by
  simp only [followP] at h;split at h
  ·rename_i h1
   have hm:=legal1_mem hv h1.2;rw [h1.1] at hm;have hn:hasB (nextP v d (rows.getLastD [])) (afterP v b s)=true:=nxGo_at hm _ _ hh;have hl:¬ (nextP v d (rows.getLastD [])).length=0:=by
    obtain⟨q,a,_⟩:=hasB_iff.1 hn;intro e;rw [List.eq_nil_of_length_eq_zero e] at a;simp at a
   simp only [rowsGo];rw [if_neg hl];have:=follow_rows hv ds _ ss c (rows++[nextP v d (rows.getLastD [])]) (fine && decide ((nextP v d (rows.getLastD [])).length<=3000)) (by simpa using hn) h;simp only [List.length_append,List.length_cons,List.length_nil] at this ⊢;omega
  ·cases h
theorem follow_short {v:Vr} (hv:0<=v.p) {b c:Bd} {o:List Int} {ss:List Stp} (h:followP v b o ss=some c):ss.length<(rowsP v b o).1.length:=by
 have:=follow_rows hv o b ss c [[([],b)]] true (by simp [hasB]) h;unfold rowsP;simp only [List.length_cons,List.length_nil] at this;omega
theorem rows_one {v:Vr} (hv:0<=v.p) (b:Bd) (d:Int) (ds:List Int):(rowsP v b (d :: ds)).1.length<=1↔(legalP v b d).length=0:=by
 have e:rowsP v b (d :: ds)=if (nextP v d [([],b)]).length=0 then ([[([],b)]],true) else rowsGo v ds [[([],b)],nextP v d [([],b)]] (true && decide ((nextP v d [([],b)]).length<=3000)):=rfl
 have c:(nextP v d [([],b)]).length=0↔(legalP v b d).length=0:=by
  constructor
  ·intro h;rcases Nat.eq_zero_or_pos (legalP v b d).length with h0 | h0
   ·exact h0
   ·exfalso
    have g:(legalP v b d)[0] ∈ legalP v b d:=List.getElem_mem h0;have i:hasB (nextP v d [([],b)]) (afterP v b (legalP v b d)[0])=true:=nxGo_at g [([],b)] [] (by simp [hasB]);obtain⟨q,a,_⟩:=hasB_iff.1 i;rw [List.eq_nil_of_length_eq_zero h] at a;simp at a
  ·intro h;rw [next_go];simp only [nxGo,List.foldl,nxIn];rw [List.eq_nil_of_length_eq_zero h]
   rfl
 rw [e];split
 ·rename_i h;simp [c.1 h]
 ·rename_i h
  have:=rowsGo_ge v ds [[([],b)],nextP v d [([],b)]] (true && decide ((nextP v d [([],b)]).length<=3000));simp only [List.length_cons,List.length_nil] at this
  constructor
  ·intro f;omega
  ·intro f;exact absurd (c.2 f) h
theorem usedR_two (a b:List (List Pl)):usedR [a,b] 0=max (a.length - 1) (b.length - 1):=by
 show max (max 0 (a.length - 1)) (b.length - 1)=_
 omega
theorem usedR_one (a:List (List Pl)):usedR [a] 0=a.length - 1:=by
 show max 0 (a.length - 1)=_
 omega
theorem used_eq (v:Vr) (b:Bd) (x y:Int):usedR ((ordP x y).map λ o=>(rowsP v b o).1) 0=usedP v b (ordP x y):=by
 unfold ordP;split
 ·simp only [List.map_cons,List.map_nil,usedR_one,usedP,(lng_rows v b _).1];omega
 ·simp only [List.map_cons,List.map_nil,usedR_two,usedP,(lng_rows v b _).1];omega
theorem playI_eq {v:Vr} (hv:0<=v.p) (b:Bd) (x y:Int) (ss:List Stp):playI v b x y ss=playP v b x y ss:=by
 unfold playI playP;rw [used_eq];obtain⟨n,i⟩:=eX (usedP v b (ordP x y));rw [i];by_cases hl:ss.length=n
 case neg=>rw [if_neg hl,if_neg hl]
 rw [if_pos hl,if_pos hl];unfold ordS;rw [i];have a:∀ o,(rowsP v b o).1.length<=n->followP v b o ss=none:=λ o h=>by
  cases hf:followP v b o ss with
  | none=>rfl
  | some c=>have:=follow_short hv hf;omega
 by_cases e:x=y
 ·have g:ordP x y=[[x,x,x,x]]:=by unfold ordP;rw [if_pos e]
  rw [g];have d:¬ (n=1∧([[x,x,x,x]]:List (List Int)).length=2∧0<(legalP v b x).length):=λ h=>by have:=h.2.1;simp at this
  rw [if_neg d];simp only [List.map_cons,List.map_nil,playGo,firstF];split
  ·rename_i h;rw [a _ h]
  ·cases followP v b [x,x,x,x] ss with
   | some c=>rfl
   | none=>simp only [ite_self]
 ·have g:ordP x y=[[x,y],[y,x]]:=by unfold ordP;rw [if_neg e]
  have k:=rows_one hv b x [y];rw [g];have j:=a [y,x];by_cases h1:(rowsP v b [x,y]).1.length<=n
  ·have m:=a _ h1;have d:¬ (n=1∧([[x,y],[y,x]]:List (List Int)).length=2∧0<(legalP v b x).length):=λ h=>by
    have f:=h.1;subst f;have:=k.1 h1;omega
   rw [if_neg d];simp only [List.map_cons,List.map_nil,playGo,firstF,if_pos h1,m];split
   ·rename_i f;rw [j f]
   ·cases followP v b [y,x] ss with
    | some c=>rfl
    | none=>simp only [ite_self]
  ·by_cases hn1:n=1
   ·subst hn1;have l:0<(legalP v b x).length:=by
     rcases Nat.eq_zero_or_pos (legalP v b x).length with h0 | h0
     ·exact absurd (k.2 h0) h1
     ·exact h0
    rw [if_pos ⟨rfl,rfl,l⟩];simp only [List.map_cons,List.map_nil,playGo,firstF,if_neg h1,List.take,if_true]
   ·have d:¬ (n=1∧([[x,y],[y,x]]:List (List Int)).length=2∧0<(legalP v b x).length):=λ h=>hn1 h.1
    rw [if_neg d];simp only [List.map_cons,List.map_nil,playGo,firstF,if_neg h1,if_neg hn1]
    cases followP v b [x,y] ss with
    | some c=>rfl
    | none =>
     simp only;split
     ·rename_i f;rw [j f]
     ·cases followP v b [y,x] ss with
      | some c=>rfl
      | none=>rfl
theorem first_ok {v:Vr} {b c:Bd} {ss:List Stp} (hb:Ok v b):∀(os:List (List Int)),firstF v b ss os=some c->Ok v c
 | [],h=>by simp [firstF] at h
 | o :: os,h=>by
  simp only [firstF] at h;split at h
  ·rename_i d hd
   simp only [Option.some.injEq] at h;subst h;exact follow_ok o b ss _ hb hd
  ·exact first_ok hb os h
theorem play_ok {v:Vr} {b c:Bd} {x y:Int} {ss:List Stp} (hb:Ok v b) (h:playP v b x y ss=some c):Ok v c:=by
 unfold playP at h;split at h
 ·exact first_ok hb _ h
 ·cases h
structure Gm where
 b:Bd
 pl:Int
 x:Int
 y:Int
 ph:Int
 wn:Int
 rs:Int
 tn:Int
structure Ev where
 k:Int
 a:Int
 b:Int
 ss:List Stp
 r:Int
structure Ms where
 s0:Int
 s1:Int
 gs:Int
 g:Gm
 ov:Bool
def resP (v:Vr) (b:Bd):Int :=
 if (if b.1.sum=0 then b.2 else b.1).sum<v.c then 1 else if v.p - v.h<=last (if b.1.sum=0 then b.2 else b.1) then 3 else 2
def startL (v:Vr):List Int :=
 if v.p=24∧v.c=15∧v.h=6∧v.s=6 then ((((List.replicate 25 (0:Int)).set 5 5).set 7 3).set 12 5).set 23 2
 else ((List.replicate (v.p+1).toNat (0:Int)).set (v.p - 1).toNat (v.c / 2)).set (v.p / 2 - 1).toNat (v.c - v.c / 2)
def startB (v:Vr):Bd:=(startL v,startL v)
def newG (v:Vr):Gm:=⟨startB v,0,0,0,0,0,0,0⟩
def gmB (v:Vr) (g:Gm):Bool :=
 okB v g.b && decide (4<=v.p) && decide (0<=g.pl∧g.pl<=1) && decide (0<=g.tn∧g.tn<=2000) &&
 (if g.ph=2 then rollB v g.x g.y else decide (g.x=0∧g.y=0)) &&
 (if g.ph=0 then decide (g.pl=0∧g.wn=0∧g.rs=0∧g.tn=0∧g.b=startB v)
  else if g.ph=1∨g.ph=2 then !over g.b && decide (g.wn=0∧g.rs=0)
  else if g.ph=3 then (if over g.b then decide (g.b.1.sum=0∧g.wn=g.pl∧g.rs=resP v g.b) else decide (g.wn=1 - g.pl∧1<=g.rs∧g.rs<=3))
  else false)
def openC (v:Vr) (g:Gm) (a b:Int):Int:=if gmB v g=false then 1 else if g.ph≠0 then 5 else if decide (1<=a∧a<=v.s)=false∨decide (1<=b∧b<=v.s)=false then 2 else 0
def openG (g:Gm) (a b:Int):Gm :=
 if a=b then g else { g with b:=if a<b then swp g.b else g.b,pl:=if a<b then 1 else g.pl,ph:=2,x:=max a b,y:=min a b }
def rollC (v:Vr) (g:Gm) (x y:Int):Int:=if gmB v g=false then 1 else if g.ph≠1 then 5 else if rollB v x y=false then 2 else 0
def rollG (g:Gm) (x y:Int):Gm:={ g with ph:=2,x:=x,y:=y }
def resgC (v:Vr) (g:Gm) (r:Int):Int:=if gmB v g=false then 1 else if ¬ (g.ph=1∨g.ph=2) then 5 else if decide (1<=r∧r<=3)=false then 2 else 0
def resgG (g:Gm) (r:Int):Gm:={ g with ph:=3,wn:=1 - g.pl,rs:=r,x:=0,y:=0 }
def turnG (v:Vr) (g:Gm) (b:Bd):Gm :=
 if over b then ⟨b,g.pl,0,0,3,g.pl,resP v b,g.tn+1⟩ else ⟨swp b,1 - g.pl,0,0,1,0,0,g.tn+1⟩
def turnP (v:Vr) (g:Gm) (ss:List Stp):Option Gm × Int :=
 if gmB v g=false then (none,1) else if g.ph≠2 then (none,5) else
  match playP v g.b g.x g.y ss with
  | none=>(none,5)
  | some b=>if g.tn=2000 then (none,3) else (some (turnG v g b),0)
def blankP (e:Ev):Bool :=
 if e.k=1 then decide (e.ss.length=0∧e.r=0) else if e.k=2 then decide (e.r=0) else if e.k=3 then decide (e.a=0∧e.b=0∧e.ss.length=0) else false
def gameP (v:Vr) (g:Gm) (e:Ev):Option Gm :=
 if e.k=1 then (if openC v g e.a e.b=0 then some (openG g e.a e.b) else none)
 else if e.k=3 then (if resgC v g e.r=0 then some (resgG g e.r) else none)
 else if g.ph=1 then (if rollC v g e.a e.b=0 then (turnP v (rollG g e.a e.b) e.ss).1 else none)
 else if g.ph=2∧g.x=e.a∧g.y=e.b then (turnP v g e.ss).1 else none
def overS (v:Vr) (len:Int) (x:Ms) (g:Gm):Ms :=
 if g.ph≠3 then ⟨x.s0,x.s1,x.gs,g,false⟩ else
  let t0:=if g.wn=0 then x.s0+g.rs else x.s0
  let t1:=if g.wn=0 then x.s1 else x.s1+g.rs
  if len<=(if g.wn=0 then t0 else t1) then ⟨t0,t1,x.gs+1,g,true⟩ else ⟨t0,t1,x.gs+1,newG v,false⟩
def nextS (v:Vr) (len:Int) (x:Ms) (e:Ev):Option Ms :=
 if x.ov=true∨blankP e=false then none else (gameP v x.g e).map (overS v len x)
def startS (v:Vr):Ms:=⟨0,0,0,newG v,false⟩
def headB (v:Vr) (len:Int):Bool:=okV v && decide (4<=v.p) && decide (1<=len∧len<=25)
def stGo (v:Vr) (len:Int):Ms->List Ev->Option (List Ms)
 | x,[]=>some [x]
 | x,e :: es=>match nextS v len x e with
  | some y=>(stGo v len y es).map (x :: ·)
  | none=>none
def statesP (v:Vr) (len:Int) (es:List Ev):Option (List Ms):=if headB v len=false∨300<es.length then none else stGo v len (startS v) es
theorem gm_parts {v:Vr} {g:Gm} (h:gmB v g=true):Ok v g.b∧4<=v.p∧(0<=g.pl∧g.pl<=1)∧(0<=g.tn∧g.tn<=2000)∧(g.ph=2->(1<=g.x∧g.x<=v.s)∧1<=g.y∧g.y<=g.x)∧(g.ph=1∨g.ph=2->over g.b=false∧g.wn=0∧g.rs=0):=by
 unfold gmB at h;simp only [Bool.and_eq_true,decide_eq_true_eq] at h;obtain⟨⟨⟨⟨⟨j,i⟩,f⟩,e⟩,c⟩,d⟩:=h;refine⟨okB_iff.1 j,i,f,e,λ a=>?_,λ a=>?_⟩
 ·rw [if_pos a] at c;unfold rollB at c
  simpa only [Bool.and_eq_true,decide_eq_true_eq] using c
 ·rw [if_neg (by omega),if_pos a] at d
  simpa only [Bool.and_eq_true,decide_eq_true_eq,Bool.not_eq_true'] using d
theorem game_parts {v:Vr} {g g':Gm} {e:Ev} (h:gameP v g e=some g'):(0<=g'.pl∧g'.pl<=1)∧(0<=g'.tn∧g'.tn<=2000)∧(g'.ph=3->(g'.wn=0∨g'.wn=1)∧1<=g'.rs∧g'.rs<=3)∧Ok v g'.b:=by
 have f:∀ b,1<=resP v b∧resP v b<=3:=λ b=>by unfold resP;split <;> (try split) <;> omega
 have d:∀ {g g':Gm} {l},(turnP v g l).1=some g'->(0<=g'.pl∧g'.pl<=1)∧(0<=g'.tn∧g'.tn<=2000)∧(g'.ph=3->(g'.wn=0∨g'.wn=1)∧1<=g'.rs∧g'.rs<=3)∧Ok v g'.b:=by
  intro g g' l h;unfold turnP at h;split at h
  ·cases h
  ·rename_i h1
   have c:=gm_parts (by simpa using h1);split at h
   ·cases h
   ·split at h
    ·cases h
    ·rename_i b hb
     split at h
     ·cases h
     ·simp only [Option.some.injEq] at h;have i:=play_ok c.1 hb;have n:=f b;unfold turnG at h;split at h
      ·subst h;exact⟨c.2.2.1,⟨by show 0<=g.tn+1;omega,by show g.tn+1<=2000;omega⟩,λ _=>⟨by show g.pl=0∨g.pl=1;omega,n⟩,i⟩
      ·subst h;exact⟨⟨by show 0<=1 - g.pl;omega,by show 1 - g.pl<=1;omega⟩,⟨by show 0<=g.tn+1;omega,by show g.tn+1<=2000;omega⟩,λ j=>absurd (show (1:Int)=3 from j) (by decide),swp_ok i⟩
 unfold gameP at h;split at h
 ·split at h
  ·rename_i h1
   simp only [Option.some.injEq] at h;unfold openC at h1;split at h1
   ·exact absurd h1 (by decide)
   ·rename_i h2
    have c:=gm_parts (by simpa using h2);split at h1
    ·exact absurd h1 (by decide)
    ·rename_i m
     have m:g.ph=0:=by simpa using m
     unfold openG at h;split at h
     ·subst h;exact⟨c.2.2.1,c.2.2.2.1,λ j=>by omega,c.1⟩
     ·subst h;refine⟨?_,c.2.2.2.1,λ j=>absurd (show (2:Int)=3 from j) (by decide),?_⟩
      ·show 0<=(if e.a<e.b then 1 else g.pl)∧(if e.a<e.b then 1 else g.pl)<=1
       have:=c.2.2.1;split <;> omega
      ·show Ok v (if e.a<e.b then swp g.b else g.b)
       split
       ·exact swp_ok c.1
       ·exact c.1
  ·cases h
 ·split at h
  ·split at h
   ·rename_i h1
    simp only [Option.some.injEq] at h;unfold resgC at h1;split at h1
    ·exact absurd h1 (by decide)
    ·rename_i h2
     have c:=gm_parts (by simpa using h2);split at h1
     ·exact absurd h1 (by decide)
     ·split at h1
      ·exact absurd h1 (by decide)
      ·rename_i k
       have k:1<=e.r∧e.r<=3:=by simpa using k
       have:=c.2.2.1;subst h;exact⟨this,c.2.2.2.1,λ _=>⟨by show 1 - g.pl=0∨1 - g.pl=1;omega,k⟩,c.1⟩
   ·cases h
  ·split at h
   ·split at h
    ·exact d h
    ·cases h
   ·split at h
    ·exact d h
    ·cases h
end PlP
namespace PlP
end PlP
namespace DwP
open Go PlP DrawD
abbrev St:=Nat × Int
section
variable {xs:List Int} {s s0 s1 s2 s3 s4 s5 s6 s7 s8:St}
def fullV:Vr:=⟨24,15,6,6⟩
def v08 (xs:List Int) (s:St):Vr × St :=
 let a:=nx xs s 6
 if a.1=0 then (fullV,a.2) else
  let p:=nx xs a.2 5;let c:=nx xs p.2 4;let d:=nx xs c.2 3;let h:=nx xs d.2 ((4+p.1) / 2)
  (⟨4+p.1,1+c.1,1+h.1,2+d.1⟩,h.2)
theorem v08_0 (n0:Nx xs s 6 0 s0):v08 xs s=(fullV,s0):=by
 unfold Nx at *;unfold v08;simp only [n0,if_true]
theorem v08_1 {a p c d h:Int} (n0:Nx xs s 6 a s0) (ha:¬ a=0) (n1:Nx xs s0 5 p s1) (n2:Nx xs s1 4 c s2) (n3:Nx xs s2 3 d s3) (n4:Nx xs s3 ((4+p) / 2) h s4):v08 xs s=(⟨4+p,1+c,1+h,2+d⟩,s4):=by
 unfold Nx at *;unfold v08;simp only [n0,if_neg ha,n1,n2,n3,n4]
def v01s (xs:List Int) (s:St):Vr × St :=
 let p:=nx xs s 5;let c:=nx xs p.2 3;let d:=nx xs c.2 3;let h:=nx xs d.2 (2+p.1)
 (⟨2+p.1,1+c.1,1+h.1,1+d.1⟩,h.2)
theorem v01s_0 {p c d h:Int} (n1:Nx xs s 5 p s1) (n2:Nx xs s1 3 c s2) (n3:Nx xs s2 3 d s3) (n4:Nx xs s3 (2+p) h s4):v01s xs s=(⟨2+p,1+c,1+h,1+d⟩,s4):=by
 unfold Nx at *;unfold v01s;simp only [n1,n2,n3,n4]
def v01v (xs:List Int) (s:St):Vr × St :=
 let a:=nx xs s 4
 if a.1=0 then (fullV,a.2) else if a.1=1 then
  let p:=nx xs a.2 21;let c:=nx xs p.2 15;let d:=nx xs c.2 6;let h:=nx xs d.2 ((4+p.1) / 2)
  (⟨4+p.1,1+c.1,1+h.1,1+d.1⟩,h.2)
 else v01s xs a.2
theorem v01v_0 (n0:Nx xs s 4 0 s0):v01v xs s=(fullV,s0):=by
 unfold Nx at *;unfold v01v;simp only [n0,if_true]
theorem v01v_1 {p c d h:Int} (n0:Nx xs s 4 1 s0) (n1:Nx xs s0 21 p s1) (n2:Nx xs s1 15 c s2) (n3:Nx xs s2 6 d s3) (n4:Nx xs s3 ((4+p) / 2) h s4):v01v xs s=(⟨4+p,1+c,1+h,1+d⟩,s4):=by
 unfold Nx at *;unfold v01v;simp only [n0,if_neg (show ¬ (1:Int)=0 by decide),if_true,n1,n2,n3,n4]
theorem v01v_2 {a:Int} {R:Vr × St} (n0:Nx xs s 4 a s0) (h0:¬ a=0) (h1:¬ a=1) (h:v01s xs s0=R):v01v xs s=R:=by
 unfold Nx at *;unfold v01v;simp only [n0,if_neg h0,if_neg h1,h]
def badP (k:Nat):Int:=([1,25,-1,24]:List Int).getD k 0
def anyGo (xs:List Int) (v:Vr) (q:Int × St):Vr × St :=
 if q.1=0 then ({ v with p:=badP (nx xs q.2 4).1.toNat },(nx xs q.2 4).2)
 else if q.1=1 then ({ v with c:=16*(nx xs q.2 2).1 },(nx xs q.2 2).2)
 else if q.1=2 then ({ v with h:=v.p+1 },q.2)
 else if q.1=3 then ({ v with s:=7*(nx xs q.2 2).1 },(nx xs q.2 2).2)
 else (v,q.2)
def v01a (xs:List Int) (s:St):Vr × St:=anyGo xs (v01v xs s).1 (nx xs (v01v xs s).2 40)
theorem v01a_of {v:Vr} {q:Int} {R:Vr × St} (hv:v01v xs s=(v,s0)) (n0:Nx xs s0 40 q s1) (h:anyGo xs v (q,s1)=R):v01a xs s=R:=by
 unfold Nx at *;unfold v01a;rw [hv];simp only [n0,h]
theorem any_0 {v:Vr} {k:Nat} (n1:Nx xs s 4 (k:Int) s1):anyGo xs v (0,s)=({ v with p:=badP k },s1):=by
 unfold Nx at *;unfold anyGo;simp only [if_true,n1,Int.toNat_natCast]
theorem any_1 {v:Vr} {k:Int} (n1:Nx xs s 2 k s1):anyGo xs v (1,s)=({ v with c:=16*k },s1):=by
 unfold Nx at *;unfold anyGo;simp only [if_neg (show ¬ (1:Int)=0 by decide),if_true,n1]
theorem any_2 {v:Vr}:anyGo xs v (2,s)=({ v with h:=v.p+1 },s):=by
 unfold anyGo;simp only [if_neg (show ¬ (2:Int)=0 by decide),if_neg (show ¬ (2:Int)=1 by decide),if_true]
theorem any_3 {v:Vr} {k:Int} (n1:Nx xs s 2 k s1):anyGo xs v (3,s)=({ v with s:=7*k },s1):=by
 unfold Nx at *;unfold anyGo;simp only [if_neg (show ¬ (3:Int)=0 by decide),if_neg (show ¬ (3:Int)=1 by decide),if_neg (show ¬ (3:Int)=2 by decide),if_true,n1]
theorem any_4 {v:Vr} {q:Int} (h0:¬ q=0) (h1:¬ q=1) (h2:¬ q=2) (h3:¬ q=3):anyGo xs v (q,s)=(v,s):=by
 unfold anyGo;simp only [if_neg h0,if_neg h1,if_neg h2,if_neg h3]
def pr28 (x:Ms) (a b:Int):Int × Int:=if x.g.ph=2 then (x.g.x,x.g.y) else (max (1+a) (1+b),min (1+a) (1+b))
def turn28 (xs:List Int) (v:Vr) (x:Ms) (r:Int × Int) (s:St):Ev × St :=
 if (allP v x.g.b r.1 r.2).2=false then (⟨2,r.1,r.2,[],0⟩,s)
 else (⟨2,r.1,r.2,(((allP v x.g.b r.1 r.2).1[(nx xs s (allP v x.g.b r.1 r.2).1.length).1.toNat]?).map (λ q:Pl=>q.1)).getD [],0⟩,(nx xs s (allP v x.g.b r.1 r.2).1.length).2)
def evGo (xs:List Int) (v:Vr) (x:Ms) (r:Int × Int) (t:Int × St):Ev × St :=
 if t.1=0 then
  let k:=nx xs t.2 5;let p:=nx xs k.2 3;let q:=nx xs p.2 3;let z:=nx xs q.2 4
  (⟨k.1,p.1,q.1,[],z.1⟩,z.2)
 else if x.g.ph=0 then
  let p:=nx xs t.2 v.s;let q:=nx xs p.2 v.s
  (⟨1,1+p.1,1+q.1,[],0⟩,q.2)
 else if (nx xs t.2 16).1=0 then (⟨3,0,0,[],1+(nx xs (nx xs t.2 16).2 3).1⟩,(nx xs (nx xs t.2 16).2 3).2)
 else turn28 xs v x r (nx xs t.2 16).2
def ev28 (xs:List Int) (v:Vr) (x:Ms) (s:St):Ev × St :=
 let a:=nx xs s v.s;let b:=nx xs a.2 v.s
 evGo xs v x (pr28 x a.1 b.1) (nx xs b.2 24)
theorem ev_of {v:Vr} {x:Ms} {a b t:Int} {r:Int × Int} {R:Ev × St} (n1:Nx xs s v.s a s1) (n2:Nx xs s1 v.s b s2) (hr:pr28 x a b=r) (n3:Nx xs s2 24 t s3) (h:evGo xs v x r (t,s3)=R):ev28 xs v x s=R:=by
 unfold Nx at *;unfold ev28;simp only [n1,n2,n3,hr,h]
theorem ev_0 {v:Vr} {x:Ms} {r:Int × Int} {k p q z:Int} (n1:Nx xs s 5 k s1) (n2:Nx xs s1 3 p s2) (n3:Nx xs s2 3 q s3) (n4:Nx xs s3 4 z s4):evGo xs v x r (0,s)=(⟨k,p,q,[],z⟩,s4):=by
 unfold Nx at *;unfold evGo;simp only [if_true,n1,n2,n3,n4]
theorem ev_1 {v:Vr} {x:Ms} {r:Int × Int} {t p q:Int} (ht:¬ t=0) (h0:x.g.ph=0) (n1:Nx xs s v.s p s1) (n2:Nx xs s1 v.s q s2):evGo xs v x r (t,s)=(⟨1,1+p,1+q,[],0⟩,s2):=by
 unfold Nx at *;unfold evGo;simp only [if_neg ht,if_pos h0,n1,n2]
theorem ev_2 {v:Vr} {x:Ms} {r:Int × Int} {t z:Int} (ht:¬ t=0) (h0:¬ x.g.ph=0) (n1:Nx xs s 16 0 s1) (n2:Nx xs s1 3 z s2):evGo xs v x r (t,s)=(⟨3,0,0,[],1+z⟩,s2):=by
 unfold Nx at *;unfold evGo;simp only [if_neg ht,if_neg h0,n1,if_true,n2]
theorem ev_3 {v:Vr} {x:Ms} {r:Int × Int} {t y:Int} {R:Ev × St} (ht:¬ t=0) (h0:¬ x.g.ph=0) (n1:Nx xs s 16 y s1) (hy:¬ y=0) (h:turn28 xs v x r s1=R):evGo xs v x r (t,s)=R:=by
 unfold Nx at *;unfold evGo;simp only [if_neg ht,if_neg h0,n1,if_neg hy,h]
theorem turn_0 {v:Vr} {x:Ms} {r:Int × Int} (h:(allP v x.g.b r.1 r.2).2=false):turn28 xs v x r s=(⟨2,r.1,r.2,[],0⟩,s):=by unfold turn28;rw [if_pos h]
theorem turn_1 {v:Vr} {x:Ms} {r:Int × Int} {k:Nat} {ss:List Stp} {c:Bd} (h:(allP v x.g.b r.1 r.2).2=true) (n1:Nx xs s (allP v x.g.b r.1 r.2).1.length (k:Int) s1) (hk:(allP v x.g.b r.1 r.2).1[k]?=some (ss,c)):turn28 xs v x r s=(⟨2,r.1,r.2,ss,0⟩,s1):=by
 unfold Nx at *;unfold turn28;rw [if_neg (by rw [h];decide)];simp only [n1,Int.toNat_natCast,hk,Option.map_some,Option.getD_some]
def go28 (xs:List Int) (v:Vr) (n:Int):Nat->Ms->List Ev->St->List Ev × St
 | 0,_,es,s=>(es,s)
 | j+1,x,es,s=>match nextS v n x (ev28 xs v x s).1 with
  | some y=>go28 xs v n j y (es++[(ev28 xs v x s).1]) (ev28 xs v x s).2
  | none=>go28 xs v n j x es (ev28 xs v x s).2
def Go28 (xs:List Int) (v:Vr) (n:Int) (j:Nat) (x:Ms) (es:List Ev) (s:St) (R:List Ev × St):Prop:=go28 xs v n j x es s=R
theorem go28_some {v:Vr} {n:Int} {j:Nat} {x y:Ms} {es:List Ev} {e:Ev} {R:List Ev × St} (h:Go28 xs v n (j+1) x es s R) (he:ev28 xs v x s=(e,s1)) (hy:nextS v n x e=some y):Go28 xs v n j y (es++[e]) s1 R:=by
 unfold Go28 at *;rw [<-h];simp only [go28,he,hy]
theorem go28_none {v:Vr} {n:Int} {j:Nat} {x:Ms} {es:List Ev} {e:Ev} {R:List Ev × St} (h:Go28 xs v n (j+1) x es s R) (he:ev28 xs v x s=(e,s1)) (hy:nextS v n x e=none):Go28 xs v n j x es s1 R:=by
 unfold Go28 at *;rw [<-h];simp only [go28,he,hy]
theorem go28_end {v:Vr} {n:Int} {x:Ms} {es:List Ev} {R:List Ev × St} (h:Go28 xs v n 0 x es s R):R=(es,s):=h.symm
abbrev Mch:=Vr × Int × List Ev
def dr28 (xs:List Int) (most:Int) (s:St):Mch × St :=
 let v:=v08 xs s;let a:=nx xs v.2 5
 let k:=nx xs a.2 ((if 20<v.1.p then min most 3 else most)+1)
 let R:=go28 xs v.1 (1+a.1) k.1.toNat (startS v.1) [] k.2
 ((v.1,1+a.1,R.1),R.2)
theorem dr28_of {most m a:Int} {k:Nat} {v:Vr} {R:List Ev × St} (hv:v08 xs s=(v,s1)) (hm:(if 20<v.p then min most 3 else most)=m) (n1:Nx xs s1 5 a s2) (n2:Nx xs s2 (m+1) (k:Int) s3) (h:go28 xs v (1+a) k (startS v) [] s3=R):dr28 xs most s=((v,1+a,R.1),R.2):=by
 unfold Nx at *;unfold dr28;simp only [hv,hm,n1,n2,Int.toNat_natCast,h]
def setA (es:List Ev) (i:Nat) (a:Int):List Ev:=match es[i]? with
 | some e=>es.set i { e with a:=a }
 | none=>es
def setR (es:List Ev) (i:Nat) (r:Int):List Ev:=match es[i]? with
 | some e=>es.set i { e with r:=r }
 | none=>es
def ay28 (xs:List Int) (M:Mch) (q:Int × St):Mch × St :=
 if q.1=0 then ((M.1,26*(nx xs q.2 2).1,M.2.2),(nx xs q.2 2).2)
 else if q.1=1 then
  if 0<M.2.2.length then
   let i:=nx xs q.2 M.2.2.length;let a:=nx xs i.2 5
   ((M.1,M.2.1,setA M.2.2 i.1.toNat a.1),a.2)
  else (M,q.2)
 else if q.1=2 then
  let k:=nx xs q.2 5;let z:=nx xs k.2 4
  ((M.1,M.2.1,M.2.2++[⟨k.1,2,1,[],z.1⟩]),z.2)
 else if q.1=3 then ((( v01a xs q.2).1,M.2.1,M.2.2),(v01a xs q.2).2)
 else if q.1=4 then
  if 0<M.2.2.length then ((M.1,M.2.1,setR M.2.2 (nx xs q.2 M.2.2.length).1.toNat 1),(nx xs q.2 M.2.2.length).2) else (M,q.2)
 else (M,q.2)
def an28 (xs:List Int) (s:St):Mch × St:=ay28 xs (dr28 xs 14 s).1 (nx xs (dr28 xs 14 s).2 24)
theorem an28_of {M:Mch} {q:Int} {R:Mch × St} (h0:dr28 xs 14 s=(M,s1)) (n1:Nx xs s1 24 q s2) (h:ay28 xs M (q,s2)=R):an28 xs s=R:=by
 unfold Nx at *;unfold an28;simp only [h0,n1,h]
theorem ay_0 {v:Vr} {n:Int} {es:List Ev} {k:Int} (n1:Nx xs s 2 k s1):ay28 xs (v,n,es) (0,s)=((v,26*k,es),s1):=by
 unfold Nx at *;unfold ay28;simp only [if_true,n1]
theorem ay_1 {v:Vr} {n:Int} {es:List Ev} {i:Nat} {a:Int} (hl:0<es.length) (n1:Nx xs s es.length (i:Int) s1) (n2:Nx xs s1 5 a s2):ay28 xs (v,n,es) (1,s)=((v,n,setA es i a),s2):=by
 unfold Nx at *;unfold ay28;simp only [if_neg (show ¬ (1:Int)=0 by decide),if_true,if_pos hl,n1,n2,Int.toNat_natCast]
theorem ay_1n {M:Mch} (hl:¬ 0<M.2.2.length):ay28 xs M (1,s)=(M,s):=by
 unfold ay28;simp only [if_neg (show ¬ (1:Int)=0 by decide),if_true,if_neg hl]
theorem ay_2 {v:Vr} {n:Int} {es:List Ev} {k z:Int} (n1:Nx xs s 5 k s1) (n2:Nx xs s1 4 z s2):ay28 xs (v,n,es) (2,s)=((v,n,es++[⟨k,2,1,[],z⟩]),s2):=by
 unfold Nx at *;unfold ay28;simp only [if_neg (show ¬ (2:Int)=0 by decide),if_neg (show ¬ (2:Int)=1 by decide),if_true,n1,n2]
theorem ay_3 {v v':Vr} {n:Int} {es:List Ev} (h:v01a xs s=(v',s1)):ay28 xs (v,n,es) (3,s)=((v',n,es),s1):=by
 unfold ay28;simp only [if_neg (show ¬ (3:Int)=0 by decide),if_neg (show ¬ (3:Int)=1 by decide),if_neg (show ¬ (3:Int)=2 by decide),if_true,h]
theorem ay_4 {v:Vr} {n:Int} {es:List Ev} {i:Nat} (hl:0<es.length) (n1:Nx xs s es.length (i:Int) s1):ay28 xs (v,n,es) (4,s)=((v,n,setR es i 1),s1):=by
 unfold Nx at *;unfold ay28;simp only [if_neg (show ¬ (4:Int)=0 by decide),if_neg (show ¬ (4:Int)=1 by decide),if_neg (show ¬ (4:Int)=2 by decide),if_neg (show ¬ (4:Int)=3 by decide),if_true,if_pos hl,n1,Int.toNat_natCast]
theorem ay_4n {M:Mch} (hl:¬ 0<M.2.2.length):ay28 xs M (4,s)=(M,s):=by
 unfold ay28;simp only [if_neg (show ¬ (4:Int)=0 by decide),if_neg (show ¬ (4:Int)=1 by decide),if_neg (show ¬ (4:Int)=2 by decide),if_neg (show ¬ (4:Int)=3 by decide),if_true,if_neg hl]
theorem ay_5 {M:Mch} {q:Int} (h0:¬ q=0) (h1:¬ q=1) (h2:¬ q=2) (h3:¬ q=3) (h4:¬ q=4):ay28 xs M (q,s)=(M,s):=by
 unfold ay28;simp only [if_neg h0,if_neg h1,if_neg h2,if_neg h3,if_neg h4]
end
end DwP
namespace RelG
open Go Go.RowKit Base Own
def RdF {α:Type} (w:World) (S:Nat->Prop) (sz:Nat) (en:α->List Value) (A:Option Addr) (xs:List α):Prop :=
 xs.length<=maxLen∧(0<xs.length->∃ b off,A=some ⟨b,off,none⟩∧S b∧b<w.heap.size∧∀ i x,xs[i]?=some x->∀ j u,(en x)[j]?=some u->w.cell? ⟨b,off+i*sz+j,none⟩=some u)
def Still (S:Nat->Prop) (w w':World):Prop:=w.heap.size<=w'.heap.size∧∀ b,S b->b<w.heap.size->w'.heap[b]?=w.heap[b]?
theorem Still.below {S:Nat->Prop} {w w':World} (h:zB w w'):Still S w w':=⟨h.size,λ b _ hb=>h.block b hb⟩
theorem Still.grown {S:Nat->Prop} {w w':World} {row:Option Nat} (h:w.grownBy w' row) (hr:∀ g,row=some g->¬ S g):Still S w w' :=
 ⟨h.size,λ b hs hb=>h.block b hb (λ e=>hr b e.symm hs)⟩
theorem Still.trans {S:Nat->Prop} {a b c:World} (h:Still S a b) (k:Still S b c):Still S a c :=
 ⟨Nat.le_trans h.1 k.1,λ i hs hi=>(k.2 i hs (Nat.lt_of_lt_of_le hi h.1)).trans (h.2 i hs hi)⟩
def All (_:Nat):Prop:=True
section
variable {α:Type} {w w':World} {S S':Nat->Prop} {B sz:Nat} {en:α->List Value} {A:Option Addr} {xs:List α}
theorem RdF.keep (h:RdF w S sz en A xs) (hs:Still S w w'):RdF w' S sz en A xs :=
 ⟨h.1,λ hn=>by
  obtain⟨b,off,e,hS,hb,hc⟩:=h.2 hn;exact⟨b,off,e,hS,Nat.lt_of_lt_of_le hb hs.1,λ i x hx j u hu=>(World.cell?_of_block (hs.2 b hS hb)).trans (hc i x hx j u hu)⟩⟩
theorem RdF.weak (h:RdF w S sz en A xs) (hs:∀ b,S b->b<w.heap.size->S' b):RdF w S' sz en A xs :=
 ⟨h.1,λ hn=>by
  obtain⟨b,off,e,hS,hb,hc⟩:=h.2 hn;exact⟨b,off,e,hs b hS hb,hb,hc⟩⟩
theorem RdF.rd (h:RdF w S sz en A xs):RdS w w.heap.size sz en A xs :=
 ⟨h.1,λ hn=>by
  obtain⟨b,off,e,hS,hb,hc⟩:=h.2 hn;exact⟨b,off,e,hb,hc⟩⟩
theorem RdF.of (h:RdS w B sz en A xs) (hB:B<=w.heap.size) (hS:∀ b,b<B->S b):RdF w S sz en A xs :=
 ⟨h.1,λ hn=>by
  obtain⟨b,off,e,hb,hc⟩:=h.2 hn;exact⟨b,off,e,hS b hb,by omega,hc⟩⟩
theorem RdF.nil (w:World) (S:Nat->Prop) (sz:Nat) (en:α->List Value) (A:Option Addr):RdF w S sz en A []:=⟨Nat.zero_le _,λ h=>by simp at h⟩
theorem RdF.len (h:RdF w S sz en A xs):xs.length<=9223372036854775807:=by have:=h.1;unfold maxLen at this;omega
theorem RdF.at_ (h:RdF w S sz en A xs) {i:Nat} (hi:i<xs.length) :
  ∃ b off x,A=some ⟨b,off,none⟩∧S b∧b<w.heap.size∧xs[i]?=some x∧∀ j u,(en x)[j]?=some u->w.cell? ⟨b,off+i*sz+j,none⟩=some u:=by
 obtain⟨b,off,rfl,d,c,a⟩:=h.2 (by omega);exact⟨b,off,xs[i],rfl,d,c,List.getElem?_eq_getElem hi,a i _ (List.getElem?_eq_getElem hi)⟩
end
structure Rel (ρ α:Type) where
 R:World->(Nat->Prop)->ρ->α->Prop
 keep:∀ {w w':World} {S:Nat->Prop} {r:ρ} {x:α},R w S r x->Still S w w'->R w' S r x
 weak:∀ {w:World} {S S':Nat->Prop} {r:ρ} {x:α},R w S r x->(∀ b,S b->b<w.heap.size->S' b)->R w S' r x
def LsR {ρ α:Type} (K:Rel ρ α) (w:World) (S:Nat->Prop) (rs:List ρ) (xs:List α):Prop :=
 rs.length=xs.length∧∀(i:Nat) (r:ρ) (x:α),rs[i]?=some r->xs[i]?=some x->K.R w S r x
section
variable {ρ α:Type} {K:Rel ρ α} {w w':World} {S S':Nat->Prop} {rs:List ρ} {xs:List α}
theorem LsR.keep (h:LsR K w S rs xs) (hs:Still S w w'):LsR K w' S rs xs:=⟨h.1,λ i r x hr hx=>K.keep (h.2 i r x hr hx) hs⟩
theorem LsR.weak (h:LsR K w S rs xs) (hs:∀ b,S b->b<w.heap.size->S' b):LsR K w S' rs xs:=⟨h.1,λ i r x hr hx=>K.weak (h.2 i r x hr hx) hs⟩
theorem LsR.nil (K:Rel ρ α) (w:World) (S:Nat->Prop):LsR K w S [] []:=⟨rfl,λ i r x hr=>by simp at hr⟩
theorem LsR.snoc (h:LsR K w S rs xs) {r:ρ} {x:α} (hr:K.R w S r x):LsR K w S (rs++[r]) (xs++[x]):=by
 refine⟨by simp [h.1],λ i d c a b=>?_⟩;have e:=h.1;rcases Nat.lt_trichotomy i rs.length with hi | hi | hi
 ·rw [List.getElem?_append_left hi] at a;rw [List.getElem?_append_left (by omega)] at b;exact h.2 i d c a b
 ·subst hi;rw [List.getElem?_append_right (Nat.le_refl _),Nat.sub_self] at a;rw [e,List.getElem?_append_right (Nat.le_refl _),Nat.sub_self] at b;simp at a b;subst a b;exact hr
 ·rw [List.getElem?_eq_none (by simp;omega)] at a;cases a
theorem LsR.at_ (h:LsR K w S rs xs) {i:Nat} {r:ρ} (hr:rs[i]?=some r):∃ x,xs[i]?=some x∧K.R w S r x:=by
 have b:=(List.getElem?_eq_some_iff.1 hr).1;have a:i<xs.length:=by rw [<-h.1];exact b
 exact⟨xs[i],List.getElem?_eq_getElem a,h.2 i r _ hr (List.getElem?_eq_getElem a)⟩
theorem LsR.take (h:LsR K w S rs xs) (k:Nat):LsR K w S (rs.take k) (xs.take k):=by
 refine⟨by simp [h.1],λ i r x a b=>?_⟩;rw [List.getElem?_take] at a b;split at a
 ·rw [if_pos (by assumption)] at b;exact h.2 i r x a b
 ·cases a
end
def SlG {ρ α:Type} (K:Rel ρ α) (sz:Nat) (en:ρ->List Value) (w:World) (S:Nat->Prop) (v:Value) (xs:List α):Prop :=
 ∃(A:Option Addr) (c:Nat) (rs:List ρ),v=.slice A xs.length c∧RdF w S sz en A rs∧LsR K w S rs xs∧(A=none->c=0)
def relSl {ρ α:Type} (K:Rel ρ α) (sz:Nat) (en:ρ->List Value):Rel Value (List α) where
 R:=SlG K sz en
 keep:=λ⟨A,c,rs,h1,h2,h3,h4⟩ hs=>⟨A,c,rs,h1,h2.keep hs,h3.keep hs,h4⟩
 weak:=λ⟨A,c,rs,h1,h2,h3,h4⟩ hs=>⟨A,c,rs,h1,h2.weak hs,h3.weak hs,h4⟩
def SlV {α:Type} (sz:Nat) (en:α->List Value) (w:World) (S:Nat->Prop) (v:Value) (xs:List α):Prop :=
 ∃(A:Option Addr) (c:Nat),v=.slice A xs.length c∧RdF w S sz en A xs∧(A=none->c=0)
def relV {α:Type} (sz:Nat) (en:α->List Value):Rel Value (List α) where
 R:=SlV sz en
 keep:=λ⟨A,c,h1,h2,h4⟩ hs=>⟨A,c,h1,h2.keep hs,h4⟩
 weak:=λ⟨A,c,h1,h2,h4⟩ hs=>⟨A,c,h1,h2.weak hs,h4⟩
def NotIn (v:Value) (lo b:Nat):Prop:=v.ownBlock≠some b∧lo<=b
def OwnG {ρ α:Type} (K:Rel ρ α) (w:World) (lo hi:Nat) (e:TypeId) (sz:Nat) (en:ρ->List Value) (v:Value) (xs:List α):Prop :=
 ∃ rs,OwnS w lo hi e sz en v rs∧LsR K w (NotIn v lo) rs xs
def OwnV {α:Type} (e:TypeId) (sz:Nat) (en:α->List Value) (w:World) (S:Nat->Prop) (v:Value) (xs:List α):Prop :=
 OwnS w 0 w.heap.size e sz en v xs∧∀ g,v.ownBlock=some g->S g
theorem OwnV.keep {α:Type} {e:TypeId} {sz:Nat} {en:α->List Value} {w w':World} {S:Nat->Prop} {v:Value} {xs:List α} (h:OwnV e sz en w S v xs) (hs:Still S w w'):OwnV e sz en w' S v xs:=by
 obtain⟨⟨⟨f,d⟩,b⟩,a⟩:=h;refine⟨⟨⟨f,?_⟩,λ g c=>Nat.lt_of_lt_of_le (b g c) hs.1⟩,a⟩;rcases d with hn | ⟨g,cap,cur,rfl,hbg,hgg,rest⟩
 ·exact .inl hn
 ·refine .inr ⟨g,cap,cur,rfl,hbg,?_,rest⟩;rw [hs.2 g (a g rfl) (b g rfl)];exact hgg
def relO {α:Type} (e:TypeId) (sz:Nat) (en:α->List Value):Rel Value (List α) where
 R:=OwnV e sz en
 keep:=OwnV.keep
 weak:=λ h hs=>⟨h.1,λ g hg=>hs g (h.2 g hg) (h.1.2 g hg)⟩
theorem OwnV.sl {α:Type} {e:TypeId} {sz:Nat} {en:α->List Value} {w:World} {S:Nat->Prop} {v:Value} {xs:List α} (hen:∀ x,(en x).length=sz) (h:OwnV e sz en w S v xs):SlV sz en w S v xs:=by
 obtain⟨A,c,f,k⟩:=h.1.form hen;have l:A=none->c=0:=λ d=>by
  rcases h.1.cases_ with ⟨e2,_⟩ | ⟨g,cap,rest,e2,_⟩
  ·rw [f] at e2;simp only [Value.slice.injEq] at e2;exact e2.2.2
  ·rw [f,d] at e2;simp only [Value.slice.injEq] at e2;exact absurd e2.1 (by simp)
 refine⟨A,c,f,⟨k.1,λ j=>?_⟩,l⟩;obtain⟨b,i,d,m,a⟩:=k.2 j;refine⟨b,i,d,?_,m,a⟩;rcases h.1.cases_ with ⟨e2,e3⟩ | ⟨g,cap,rest,e2,_⟩
 ·rw [e3] at j;simp at j
 ·have n:=h.2 g (by rw [e2];rfl);rw [f,d] at e2;simp only [Value.slice.injEq,Option.some.injEq,Addr.mk.injEq] at e2;rw [e2.1.1];exact n
theorem OwnV.of {α:Type} {e:TypeId} {sz lo hi:Nat} {en:α->List Value} {w:World} {S:Nat->Prop} {v:Value} {xs:List α} (h:OwnS w lo hi e sz en v xs) (hh:hi<=w.heap.size) (hS:∀ b,lo<=b->b<hi->S b):OwnV e sz en w S v xs :=
 ⟨(h.less (Nat.zero_le _)).more hh,λ g hg=>hS g (h.block g hg).1 (h.block g hg).2⟩
section
variable {ρ α:Type} {K:Rel ρ α} {w w':World} {lo hi sz:Nat} {e:TypeId} {en:ρ->List Value} {v:Value} {xs:List α}
theorem OwnG.below (h:OwnG K w lo hi e sz en v xs) (hb:zB w w') (hh:hi<=w.heap.size):OwnG K w' lo hi e sz en v xs:=by
 obtain⟨a,c,b⟩:=h;exact⟨a,c.below hb hh,b.keep (.below hb)⟩
theorem OwnG.more {hi':Nat} (h:OwnG K w lo hi e sz en v xs) (hh:hi<=hi'):OwnG K w lo hi' e sz en v xs:=by
 obtain⟨a,c,b⟩:=h;exact⟨a,c.more hh,b⟩
theorem OwnG.less {lo':Nat} (h:OwnG K w lo hi e sz en v xs) (hh:lo'<=lo):OwnG K w lo' hi e sz en v xs:=by
 obtain⟨c,f,d⟩:=h;exact⟨c,f.less hh,d.weak (λ b a _=>⟨a.1,by have:=a.2;omega⟩)⟩
theorem OwnG.below_ (h:OwnG K w lo hi e sz en v xs) (hb:zB w w'):OwnG K w' lo hi e sz en v xs:=by
 obtain⟨b,a,c⟩:=h;refine⟨b,⟨⟨a.1.1,?_⟩,a.2⟩,c.keep (.below hb)⟩;rcases a.1.2 with hn | ⟨g,cap,cur,rfl,hbg,hgg,rest⟩
 ·exact .inl hn
 ·refine .inr ⟨g,cap,cur,rfl,hbg,?_,rest⟩;rw [hb.block g (Array.getElem?_eq_some_iff.1 hgg).1];exact hgg
theorem OwnG.nil_ (K:Rel ρ α) (w:World) (lo hi:Nat) (e:TypeId) (sz:Nat) (en:ρ->List Value):OwnG K w lo hi e sz en (.slice none 0 0) [] :=
 ⟨[],OwnS.nil_ _ _ _ _ _ _,LsR.nil _ _ _⟩
theorem app_still {v:Value} {g n c:Nat} (hg:w.grownBy w' v.ownBlock) (hat:v.ownBlock=some g∨g=w.heap.size) {ρ α:Type} {K:Rel ρ α} {r:ρ} {x:α} (h:K.R w (NotIn v lo) r x):K.R w' (NotIn (.slice (sA g 0) n c) lo) r x:=by
 have l:K.R w (λ b=>NotIn v lo b∧b<w.heap.size) r x:=K.weak h (λ b a f=>⟨a,f⟩);have j:=K.keep l (Still.grown (S:=λ b=>NotIn v lo b∧b<w.heap.size) hg (λ k i d=>d.1.1 i));refine K.weak j (λ b a _=>⟨?_,a.1.2⟩);intro e;simp [Value.ownBlock] at e;subst e;rcases hat with hat | hat
 ·exact a.1.1 hat
 ·have:=a.2;omega
theorem OwnG.sl (hen:∀ x,(en x).length=sz) (h:OwnG K w lo hi e sz en v xs) (hh:hi<=w.heap.size):SlG K sz en w (λ b=>lo<=b) v xs:=by
 obtain⟨f,k,d⟩:=h;have g:=OwnV.sl (S:=λ b=>lo<=b) hen (OwnV.of k hh (λ b a _=>a));obtain⟨A,c,rfl,i,j⟩:=g;refine⟨A,c,f,by rw [d.1],i,d.weak (λ _ a _=>a.2),j⟩
end
end RelG
namespace RegG
open Go Go.RowKit Base RegInv RegF
section
variable {P:Program} {ops:Array Oper} {Q:Exit->Act->World->Prop}
def gdT (ops:Array Oper) (pl:List (Option Value)):Bool:=(List.range ops.size).all λ k=>match ops[k]? with | some o=>(match o.guard with | none=>true | some (g,b)=>waits ops k g && (match pl[g]? with | some (some (.bool c))=>c == b | _=>false) && (match ops[g]? with | some q=>q.dst.isSome | none=>false)) | none=>true
theorem region_relG {id:Nat} {a0:Act} {w:World} (ds:List (Option Nat)) (N:Nat) (pl:List (Option Value)) (Me:(Nat->Prop)->(Nat->Value)->World->Prop) (hm:P.follows .mixedOrders=true) (hd:downs ops=true) (hds:(ops.map (·.dst)).toList=ds) (hN:ops.size=N) (hnd:ndB ds=true) (hsz:szB a0.tmps.size ds=true) (hg:gdT ops pl=true)
  (h0:Me (λ j=>N<=j) (λ _=>undef) w.drew) (hst:RelFrom P ops Q a0 ds (Pl pl) Me 0) (fin:∀ vals w',(∀ j,j<N->Pl pl j (vals j))->Me (λ _=>True) vals w'->Q .normal (Fr a0 ds 0 vals) w'):(Code.region id ops true).wp P Q a0 w:=by
 subst hN;have z:∀(k:Nat) (o:Oper),ops[k]?=some o->ds[k]?=some o.dst:=λ k o F=>by
  rw [<-hds];simp [F]
 have S:ds.length=ops.size:=by rw [<-hds];simp
 refine region_inv (λ _ L a w'=>∃ vals:Nat->Value,(a.tmps.size=a0.tmps.size∧a.defers=a0.defers)∧(∀ s,(∀ j,L j->ds[j]?=some (some s)->False)->a.eval (.tmp s)=a0.eval (.tmp s))∧(∀ j d,L j->ds[j]?=some (some d)->a.eval (.tmp d)=vals j)∧(∀ j,L j->Pl pl j (vals j))∧Me (λ j=>L j∨ops.size<=j) vals w') hm hd ⟨λ _=>undef,⟨rfl,rfl⟩,λ _ _=>rfl,λ _ _ h=>h.elim,λ _ h=>h.elim,?_⟩ ?_ ?_
 ·have e:(λ j:Nat=>False∨ops.size<=j)=λ j=>ops.size<=j:=funext λ j=>propext ⟨λ h=>h.elim False.elim (λ h=>h),Or.inr⟩
  rw [e];exact h0
 ·intro k _ o F L a w' hI W l ab K hK;obtain⟨vals,t,h0,E,M,T⟩:=hI;have r:=z k o F;have Y:=(Array.getElem?_eq_some_iff.1 F).1;have hw:Region.wanted o (yielded ops a.tmps)=true:=by
   unfold Region.wanted
   cases hgo:o.guard with
   | none=>rfl
   | some gp =>
    obtain⟨g,b⟩:=gp;simp only;have D:=List.all_eq_true.1 hg k (List.mem_range.2 Y);rw [F] at D;simp only [hgo,Bool.and_eq_true] at D;obtain⟨⟨aa,p⟩,y⟩:=D
    cases hq:ops[g]? with
    | none=>rw [hq] at y;simp at y
    | some q =>
     rw [hq] at y;obtain⟨d,I⟩:=Option.isSome_iff_exists.1 y;have C:=z g q hq;rw [I] at C;have G:=l g aa;have hv:=E g d G C;have V:vals g=.bool b:=by
      cases hpg:pl[g]? with
      | none=>rw [hpg] at p;simp at p
      | some ov =>
       rw [hpg] at p
       cases ov with
       | none=>simp at p
       | some v =>
        have h5:=M g G v hpg;rw [h5]
        cases v <;> simp at p
        rw [p]
     rw [V] at hv;have R:d<a.tmps.size:=by rw [t.1];exact sz_of hsz C
     have ht:a.tmps[d]?=some (.bool b):=by
      have:a.tmps.getD d undef=.bool b:=hv;rw [Array.getD_eq_getD_getElem?,Array.getElem?_eq_getElem R] at this;rw [Array.getElem?_eq_getElem R]
      simpa using this
     unfold yielded;rw [hq];simp only [Option.bind_some,I,ht]
     cases b <;> rfl
  rw [if_pos hw];have H:∀ x A,Pl pl k x->Me (λ j=>j=k∨(L j∨ops.size<=j)) (upd vals k x) A->K (a.put o.dst x) A:=λ x A J ac=>by
   refine hK.out _ _ ⟨upd vals k x,⟨by rw [put_size];exact t.1,by rw [put_defers];exact t.2⟩,λ s B=>?_,λ j d f c=>?_,λ j f=>?_,?_⟩
   ·cases hd':o.dst with
    | none=>exact h0 s (λ j f=>B j (.inr f))
    | some d =>
     rw [hd'] at r;have X:¬ s=d:=λ e=>B k (.inl rfl) (by rw [e];exact r)
     show (a.put (some d) x).tmps.getD s undef=_
     rw [getD_put _ _ _ _ (by rw [t.1];exact sz_of hsz r),if_neg X];exact h0 s (λ j f=>B j (.inr f))
   ·cases hd':o.dst with
    | none =>
     rw [hd'] at r;rcases f with rfl | f
     ·rw [r] at c;simp at c
     ·have n:j≠k:=λ e=>by rw [e,r] at c;simp at c
      rw [upd_ne n];exact E j d f c
    | some e =>
     rw [hd'] at r;show (a.put (some e) x).tmps.getD d undef=_
     rw [getD_put _ _ _ _ (by rw [t.1];exact sz_of hsz r)];by_cases hde:d=e
     ·subst hde;rw [if_pos rfl,nd_of ds hnd j k d c r,upd_same]
     ·rw [if_neg hde];rcases f with rfl | f
      ·rw [r] at c;simp only [Option.some.injEq] at c;exact absurd c.symm hde
      ·have n:j≠k:=λ e'=>by rw [e',r] at c;simp only [Option.some.injEq] at c;exact hde c.symm
       rw [upd_ne n];exact E j d f c
   ·rcases f with rfl | f
    ·rw [upd_same];exact J
    ·by_cases n:j=k
     ·subst n;rw [upd_same];exact J
     ·rw [upd_ne n];exact M j f
   ·have e:(λ j:Nat=>(j=k∨L j)∨ops.size<=j)=λ j=>j=k∨(L j∨ops.size<=j):=funext λ j=>propext or_assoc
    rw [e];exact ac
  refine hst k (Nat.zero_le _) o F (λ j=>L j∨ops.size<=j) vals a w' (λ h=>h.elim W (by omega)) (λ j f=>.inl (l j f)) (λ m j O i=>?_) (λ j d f c=>by rw [<-Array.getD_eq_getD_getElem?];exact E j d (l j f) c) (λ j f=>M j (l j f)) (λ s t=>by rw [<-Array.getD_eq_getD_getElem?,<-Array.getD_eq_getD_getElem?];exact h0 s (λ j f=>t j (.inl f))) T K (kD H);rcases i with i | i
  ·exact .inl (ab m j O i)
  ·have:=waits_lt O;omega
 ·rintro L a w' ⟨vals,t,h0,E,M,T⟩ G;have e:a=Fr a0 ds 0 vals:=by
   refine act_ext (by rw [(Fr_size _ _ _ _).1];exact t.1) (by rw [(Fr_size _ _ _ _).2];exact t.2) λ s=>?_
   by_cases i:some s ∈ ds
   ·obtain⟨j,f⟩:=List.getElem?_of_mem i;have Z:j<ops.size:=by rw [<-S];exact(List.getElem?_eq_some_iff.1 f).1
    rw [Fr_get ds a0 0 vals j s hnd f (sz_of hsz f),Nat.zero_add];exact E j s (G j Z) f
   ·rw [Fr_other ds a0 0 vals s i];exact h0 s (λ j _ f=>i (List.mem_of_getElem? f))
  rw [e];have e2:(λ j:Nat=>L j∨ops.size<=j)=λ _=>True:=funext λ j=>propext ⟨λ _=>trivial,λ _=>by
   rcases Nat.lt_or_ge j ops.size with h | h
   ·exact .inl (G j h)
   ·exact .inr h⟩
  rw [e2] at T;exact fin vals w' (λ j f=>M j (G j f)) T
end
def setL:List Value->Nat->List Value->List Value
 | cs,_,[]=>cs
 | cs,o,v :: r=>setL (cs.set o v) (o+1) r
theorem row_cells {g:Nat} {t:TypeId}:∀(vs:List Value) (o:Nat) (w:World) (cs:List Value),RowB w g t cs->RowB (w.setCells g o vs) g t (setL cs o vs)
 | [],_,_,_,h=>h
 | v :: r,o,_,_,h=>row_cells r (o+1) _ _ (h.set o v)
theorem grown_cells (g:Nat):∀(vs:List Value) (o:Nat) (w:World),w.grownBy (w.setCells g o vs) (some g)
 | [],_,w=>Base.grownBy_refl w _
 | v :: r,o,w=>Base.grownBy_trans (Base.grownBy_setCell w g o v) (grown_cells g r (o+1) _)
theorem size_cells (g:Nat):∀(vs:List Value) (o:Nat) (w:World),(w.setCells g o vs).heap.size=w.heap.size
 | [],_,_=>rfl
 | v :: r,o,w=>(size_cells g r (o+1) _).trans (by simp [World.setCell])
theorem setL_len:∀(vs cs:List Value) (o:Nat),(setL cs o vs).length=cs.length
 | [],_,_=>rfl
 | v :: r,cs,o=>(setL_len r _ _).trans (by simp)
theorem there_row {w:World} {g j n:Nat} {t:TypeId} {cs:List Value} (h:RowB w g t cs) (hl:j+n<=cs.length):w.there g j n:=λ i hi =>
 ⟨by rw [h.cell,List.getElem?_eq_getElem (by omega)];rfl,h.frozen _⟩
theorem wpL_sm {P:Program} {ops:Array Oper} {rest:List Oper} {o:Oper} {a:Act} {w:World} {Q:Exit->Act->World->Prop} (ty:TypeId) (x y:Operand) (ho:o={ dst:=none,op:=.store ty x y,type:=o.type,pos:=o.pos,after:=o.after,guard:=none })
  (g j:Nat) (cs old new:List Value) (hx:a.eval x=pT g j) (hy:a.eval y=.agg ⟨cs⟩)
  (t:TypeId) (hg:RowB w g t old) (hi:(P.info? ty).map (·.size)=some cs.length) (hl:j+cs.length<=old.length) (h1:cs.all (·.oneCell')=true) (hn:setL old j cs=new)
  (h:∀ w',RowB w' g t new->w.grownBy w' (some g)->w'.heap.size=w.heap.size->wpList P ops Q rest a w'):wpList P ops Q (o :: rest) a w:=by
 refine wpList_store_mid (by rw [ho]) ty x y (by rw [ho]) g j ⟨cs⟩ hx hy (there_row hg (by simpa using hl)) (by simpa using hi) (by simpa [Array.all_toList] using h1) ?_;rw [show o.dst=none from by rw [ho]];exact h _ (hn ▸ row_cells cs j w old hg) (grown_cells _ _ _ _) (size_cells _ _ _ _)
theorem wM {P:Program} {ops:Array Oper} {rest:List Oper} {o:Oper} {a:Act} {w:World} {Q:Exit->Act->World->Prop} (ty:TypeId) {x y:Operand} (j:Nat) (cs:List Value) {old:List Value} {g:Nat} {t:TypeId} (hg:RowB w g t old) (h:∀ w',RowB w' g t (setL old j cs)->w.grownBy w' (some g)->w'.heap.size=w.heap.size->wpList P ops Q rest a w') (ho:o={ dst:=none,op:=.store ty x y,type:=o.type,pos:=o.pos,after:=o.after,guard:=none }:=by rfl) (hx:a.eval x=pT g j:=by rfl) (hy:a.eval y=.agg ⟨cs⟩:=by rfl) (hi:(P.info? ty).map (·.size)=some cs.length:=by kernel_rfl) (hl:j+cs.length<=old.length:=by exact Nat.le_refl _) (h1:cs.all (·.oneCell')=true:=by rfl):wpList P ops Q (o :: rest) a w:=wpL_sm ty x y ho g j cs old _ hx hy t hg hi hl h1 rfl h
theorem wp_sm {P:Program} {o:Oper} {a:Act} {w:World} {K:Act->World->Prop} {Q:Exit->Act->World->Prop} (ty:TypeId) (x y:Operand) (ho:o.op=.store ty x y)
  (g j:Nat) (cs old:List Value) (hx:a.eval x=pT g j) (hy:a.eval y=.agg ⟨cs⟩)
  (t:TypeId) (hg:RowB w g t old) (hi:(P.info? ty).map (·.size)=some cs.length) (hl:j+cs.length<=old.length) (h1:cs.all (·.oneCell')=true)
  (h:K (a.put o.dst undef) (w.setCells g j cs)):o.wp P a w K Q :=
 wp_store_mid ty x y ho g j ⟨cs⟩ hx hy (there_row hg (by simpa using hl)) (by simpa using hi) (by simpa [Array.all_toList] using h1) h
def ext (i:Nat):Value->Value
 | .tuple a=>a.getD i undef
 | v=>v
structure CbF {α:Type} (K:RelG.Rel Value α) (x:α) (w1:World) (kc ka ks:Nat) (fs:List (Nat × (Value->Value))) (cells:Value->List Value) (t:TypeId) (n:Nat) (L:Nat->Prop) (vals:Nat->Value) (w':World):Prop where
 bel:zB w1 w'
 fc:L kc->K.R w' RelG.All (vals kc) x
 fd:∀ p ∈ fs,L p.1->L kc∧vals p.1=p.2 (vals kc)
 fa:L ka->∃ g,vals ka=pT g 0∧w1.heap.size<=g∧(∃ cs,cs.length=n∧RowB w' g t cs)∧(L kc->K.R w' (λ b=>b≠g) (vals kc) x)
 fw:L ks->L kc∧∀ g,vals ka=pT g 0->RowB w' g t (cells (vals kc))
section
variable {α:Type} {K:RelG.Rel Value α} {x:α} {w1 w' w'':World} {kc ka ks n:Nat} {fs:List (Nat × (Value->Value))} {cells:Value->List Value} {t:TypeId} {L:Nat->Prop} {vals:Nat->Value}
theorem CbF.skip (F:CbF K x w1 kc ka ks fs cells t n L vals w') (k:Nat) (v:Value) (hk:(kc :: ka :: ks :: fs.map (·.1)).all (λ j=>j != k)=true:=by decide):CbF K x w1 kc ka ks fs cells t n (λ j=>j=k∨L j) (upd vals k v) w':=by
 simp only [List.all_cons,Bool.and_eq_true,bne_iff_ne,ne_eq,List.all_map,List.all_eq_true,Function.comp_apply] at hk;obtain⟨e,i,m,l⟩:=hk;refine⟨F.bel,λ h=>?_,λ p f h=>?_,λ h=>?_,λ h=>?_⟩
 ·rw [upd_ne e];exact F.fc (h.resolve_left e)
 ·have:=F.fd p f (h.resolve_left (l p f));rw [upd_ne e,upd_ne (l p f)];exact⟨.inr this.1,this.2⟩
 ·rw [upd_ne i,upd_ne e];obtain⟨g,a,b,c,d⟩:=F.fa (h.resolve_left i);exact⟨g,a,b,c,λ h=>d (h.resolve_left e)⟩
 ·rw [upd_ne i,upd_ne e];have:=F.fw (h.resolve_left m);exact⟨.inr this.1,this.2⟩
theorem CbF.call (F:CbF K x w1 kc ka ks fs cells t n L vals w') (hno:¬ L kc) (hk:(ka :: ks :: fs.map (·.1)).all (λ j=>j != kc)=true) {v:Value} (hb:zB w' w'') (hr:K.R w'' (λ b=>b<w1.heap.size∨w'.heap.size<=b) v x):CbF K x w1 kc ka ks fs cells t n (λ j=>j=kc∨L j) (upd vals kc v) w'':=by
 simp only [List.all_cons,Bool.and_eq_true,bne_iff_ne,ne_eq,List.all_map,List.all_eq_true,Function.comp_apply] at hk;obtain⟨f,l,i⟩:=hk;refine⟨F.bel.tR hb,λ _=>?_,λ p e h=>?_,λ h=>?_,λ h=>?_⟩
 ·rw [upd_same];exact K.weak hr (λ _ _ _=>trivial)
 ·exact absurd (F.fd p e (h.resolve_left (i p e))).1 hno
 ·rw [upd_ne f,upd_same];obtain⟨g,a,b,⟨m,o,c⟩,d⟩:=F.fa (h.resolve_left f);refine⟨g,a,b,⟨m,o,c.below hb c.lt⟩,λ _=>K.weak hr (λ k hk _=>?_)⟩;have:=c.lt;omega
 ·exact absurd (F.fw (h.resolve_left l)).1 hno
theorem CbF.part (F:CbF K x w1 kc ka ks fs cells t n L vals w') (j:Nat) (hj:(kc :: ka :: ks :: []).all (λ i=>i != j)=true) (hc:L kc) {v:Value} (hv:∀ p ∈ fs,p.1=j->v=p.2 (vals kc)):CbF K x w1 kc ka ks fs cells t n (λ i=>i=j∨L i) (upd vals j v) w':=by
 simp only [List.all_cons,Bool.and_eq_true,bne_iff_ne,ne_eq,List.all_nil,and_true] at hj;obtain⟨f,k,m⟩:=hj;refine⟨F.bel,λ h=>?_,λ p l h=>?_,λ h=>?_,λ h=>?_⟩
 ·rw [upd_ne f];exact F.fc hc
 ·rw [upd_ne f];by_cases e:p.1=j
  ·rw [e,upd_same];exact⟨.inr hc,hv p l e⟩
  ·rw [upd_ne e];exact⟨.inr hc,(F.fd p l (h.resolve_left e)).2⟩
 ·rw [upd_ne k,upd_ne f];obtain⟨g,a,b,c,d⟩:=F.fa (h.resolve_left k);exact⟨g,a,b,c,λ _=>d hc⟩
 ·rw [upd_ne k,upd_ne f];have:=F.fw (h.resolve_left m);exact⟨.inr this.1,this.2⟩
theorem CbF.box (F:CbF K x w1 kc ka ks fs cells t n L vals w') (hno:¬ L ka) (hk:(kc :: ks :: fs.map (·.1)).all (λ j=>j != ka)=true) (hdep:¬ L ks) {cs:List Value} (hcs:cs.length=n):CbF K x w1 kc ka ks fs cells t n (λ j=>j=ka∨L j) (upd vals ka (pT w'.heap.size 0)) (w'.alloc (.cells ⟨cs⟩ t)):=by
 simp only [List.all_cons,Bool.and_eq_true,bne_iff_ne,ne_eq,List.all_map,List.all_eq_true,Function.comp_apply] at hk;obtain⟨a,f,e⟩:=hk;have d:zB w' (w'.alloc (.cells ⟨cs⟩ t)):=(Below.refl _ _).alloc (Nat.le_refl _) _;refine⟨F.bel.alloc F.bel.size _,λ h=>?_,λ p c h=>?_,λ _=>?_,λ h=>?_⟩
 ·rw [upd_ne a];exact K.keep (F.fc (h.resolve_left a)) (.below d)
 ·have:=F.fd p c (h.resolve_left (e p c));rw [upd_ne a,upd_ne (e p c)];exact⟨.inr this.1,this.2⟩
 ·rw [upd_same,upd_ne a];refine⟨_,rfl,F.bel.size,⟨cs,hcs,RowB.new _ _ _⟩,λ h=>?_⟩;exact K.keep (K.weak (F.fc (h.resolve_left a)) (λ b _ d=>by omega)) (.below d)
 ·exact absurd (h.resolve_left f) hdep
theorem CbF.wrote (F:CbF K x w1 kc ka ks fs cells t n L vals w') (hk:(kc :: ka :: fs.map (·.1)).all (λ j=>j != ks)=true) (hc:L kc) (ha:L ka) {g:Nat} {cs vs:List Value} (hg:vals ka=pT g 0) (hlo:w1.heap.size<=g) (r:RowB w' g t cs) (hv:setL cs 0 vs=cells (vals kc)):CbF K x w1 kc ka ks fs cells t n (λ j=>j=ks∨L j) (upd vals ks undef) (w'.setCells g 0 vs):=by
 simp only [List.all_cons,Bool.and_eq_true,bne_iff_ne,ne_eq,List.all_map,List.all_eq_true,Function.comp_apply] at hk;obtain⟨i,y,w⟩:=hk;have l:=row_cells vs 0 w' cs r;have f:=grown_cells g vs 0 w';have m:RelG.Still (λ b=>b≠g) w' (w'.setCells g 0 vs):=RelG.Still.grown f (λ k hk z=>z (by simpa using hk.symm));obtain⟨s,a,b,c,d⟩:=F.fa ha;have e:s=g:=by rw [hg] at a;simpa using a.symm
 subst e;have v:=K.keep (d hc) m;refine⟨⟨f.os.trans F.bel.os,f.tape.trans F.bel.tape,f.output.trans F.bel.output,Nat.le_trans F.bel.size f.size,λ k hk=>(f.block k (Nat.lt_of_lt_of_le hk F.bel.size) (λ e=>by simp at e;omega)).trans (F.bel.block k hk)⟩,λ h=>?_,λ p o h=>?_,λ h=>?_,λ _=>?_⟩
 ·rw [upd_ne i];exact K.weak v (λ _ _ _=>trivial)
 ·have:=F.fd p o (h.resolve_left (w p o));rw [upd_ne i,upd_ne (w p o)];exact⟨.inr this.1,this.2⟩
 ·rw [upd_ne y,upd_ne i];exact⟨s,a,b,⟨_,by rw [setL_len];obtain⟨B,D,C⟩:=c;have:=C.symm.trans r;simp only [Option.some.injEq,Obj.cells.injEq,Array.mk.injEq,and_true] at this;rw [<-this];exact D,l⟩,λ _=>v⟩
 ·rw [upd_ne y,upd_ne i];refine⟨.inr hc,λ A q=>?_⟩;have e:A=s:=by rw [q] at hg;simpa using hg
  subst e;rw [hv] at l;exact l
end
structure C2F {α β:Type} (K1:RelG.Rel Value α) (x1:α) (K2:RelG.Rel Value β) (x2:β) (w1:World) (k1 k2 kb ka ks:Nat) (f:Value->Value->Value) (cells:Value->List Value) (t:TypeId) (n:Nat) (L:Nat->Prop) (vals:Nat->Value) (w':World):Prop where
 bel:zB w1 w'
 f1:L k1->K1.R w' (λ b=>w1.heap.size<=b) (vals k1) x1
 f2:L k2->K2.R w' (λ b=>w1.heap.size<=b) (vals k2) x2
 fb:L kb->L k1∧L k2∧vals kb=f (vals k1) (vals k2)
 fa:L ka->∃ g,vals ka=pT g 0∧w1.heap.size<=g∧(∃ cs,cs.length=n∧RowB w' g t cs)∧(L k1->K1.R w' (λ b=>w1.heap.size<=b∧b≠g) (vals k1) x1)∧(L k2->K2.R w' (λ b=>w1.heap.size<=b∧b≠g) (vals k2) x2)
 fw:L ks->L kb∧∀ g,vals ka=pT g 0->RowB w' g t (cells (vals kb))
section
variable {α β:Type} {K1:RelG.Rel Value α} {x1:α} {K2:RelG.Rel Value β} {x2:β} {w1 w' w'':World} {k1 k2 kb ka ks n:Nat} {f:Value->Value->Value} {cells:Value->List Value} {t:TypeId} {L:Nat->Prop} {vals:Nat->Value}
theorem C2F.skip (F:C2F K1 x1 K2 x2 w1 k1 k2 kb ka ks f cells t n L vals w') (k:Nat) (v:Value) (hk:[k1,k2,kb,ka,ks].all (λ j=>j != k)=true:=by decide):C2F K1 x1 K2 x2 w1 k1 k2 kb ka ks f cells t n (λ j=>j=k∨L j) (upd vals k v) w':=by
 simp only [List.all_cons,Bool.and_eq_true,bne_iff_ne,ne_eq,List.all_nil,and_true] at hk;obtain⟨l,i,o,m,p⟩:=hk;refine⟨F.bel,λ h=>?_,λ h=>?_,λ h=>?_,λ h=>?_,λ h=>?_⟩
 ·rw [upd_ne l];exact F.f1 (h.resolve_left l)
 ·rw [upd_ne i];exact F.f2 (h.resolve_left i)
 ·rw [upd_ne o,upd_ne l,upd_ne i];obtain⟨a,b,c⟩:=F.fb (h.resolve_left o);exact⟨.inr a,.inr b,c⟩
 ·rw [upd_ne m,upd_ne l,upd_ne i];obtain⟨g,a,b,c,d,e⟩:=F.fa (h.resolve_left m);exact⟨g,a,b,c,λ h=>d (h.resolve_left l),λ h=>e (h.resolve_left i)⟩
 ·rw [upd_ne m,upd_ne o];obtain⟨a,b⟩:=F.fw (h.resolve_left p);exact⟨.inr a,b⟩
theorem C2F.call1 (F:C2F K1 x1 K2 x2 w1 k1 k2 kb ka ks f cells t n L vals w') (hno:¬ L k1) (hk:[k2,kb,ka,ks].all (λ j=>j != k1)=true) {v:Value} (hb:zB w' w'') (hr:K1.R w'' (λ b=>w'.heap.size<=b) v x1):C2F K1 x1 K2 x2 w1 k1 k2 kb ka ks f cells t n (λ j=>j=k1∨L j) (upd vals k1 v) w'':=by
 simp only [List.all_cons,Bool.and_eq_true,bne_iff_ne,ne_eq,List.all_nil,and_true] at hk;obtain⟨c,p,l,o⟩:=hk;have m:=F.bel.size;refine⟨F.bel.tR hb,λ _=>?_,λ h=>?_,λ h=>?_,λ h=>?_,λ h=>?_⟩
 ·rw [upd_same];exact K1.weak hr (λ b hb _=>by omega)
 ·rw [upd_ne c];exact K2.keep (F.f2 (h.resolve_left c)) (.below hb)
 ·exact absurd (F.fb (h.resolve_left p)).1 hno
 ·rw [upd_ne l,upd_same,upd_ne c];obtain⟨g,a,b,⟨q,r,i⟩,d,e⟩:=F.fa (h.resolve_left l);have:=i.lt;exact⟨g,a,b,⟨q,r,i.below hb i.lt⟩,λ _=>K1.weak hr (λ k hk _=>by omega),λ h=>K2.keep (e (h.resolve_left c)) (.below hb)⟩
 ·exact absurd (F.fb (F.fw (h.resolve_left o)).1).1 hno
theorem C2F.call2 (F:C2F K1 x1 K2 x2 w1 k1 k2 kb ka ks f cells t n L vals w') (hno:¬ L k2) (hk:[k1,kb,ka,ks].all (λ j=>j != k2)=true) {v:Value} (hb:zB w' w'') (hr:K2.R w'' (λ b=>w'.heap.size<=b) v x2):C2F K1 x1 K2 x2 w1 k1 k2 kb ka ks f cells t n (λ j=>j=k2∨L j) (upd vals k2 v) w'':=by
 simp only [List.all_cons,Bool.and_eq_true,bne_iff_ne,ne_eq,List.all_nil,and_true] at hk;obtain⟨c,p,l,o⟩:=hk;have m:=F.bel.size;refine⟨F.bel.tR hb,λ h=>?_,λ _=>?_,λ h=>?_,λ h=>?_,λ h=>?_⟩
 ·rw [upd_ne c];exact K1.keep (F.f1 (h.resolve_left c)) (.below hb)
 ·rw [upd_same];exact K2.weak hr (λ b hb _=>by omega)
 ·exact absurd (F.fb (h.resolve_left p)).2.1 hno
 ·rw [upd_ne l,upd_same,upd_ne c];obtain⟨g,a,b,⟨q,r,i⟩,d,e⟩:=F.fa (h.resolve_left l);have:=i.lt;exact⟨g,a,b,⟨q,r,i.below hb i.lt⟩,λ h=>K1.keep (d (h.resolve_left c)) (.below hb),λ _=>K2.weak hr (λ k hk _=>by omega)⟩
 ·exact absurd (F.fb (F.fw (h.resolve_left o)).1).2.1 hno
theorem C2F.built (F:C2F K1 x1 K2 x2 w1 k1 k2 kb ka ks f cells t n L vals w') (hno:¬ L kb) (hk:[k1,k2,ka,ks].all (λ j=>j != kb)=true) (l1:L k1) (l2:L k2) {v:Value} (hv:v=f (vals k1) (vals k2)):C2F K1 x1 K2 x2 w1 k1 k2 kb ka ks f cells t n (λ j=>j=kb∨L j) (upd vals kb v) w':=by
 simp only [List.all_cons,Bool.and_eq_true,bne_iff_ne,ne_eq,List.all_nil,and_true] at hk;obtain⟨k,i,l,m⟩:=hk;refine⟨F.bel,λ h=>?_,λ h=>?_,λ h=>?_,λ h=>?_,λ h=>?_⟩
 ·rw [upd_ne k];exact F.f1 l1
 ·rw [upd_ne i];exact F.f2 l2
 ·rw [upd_same,upd_ne k,upd_ne i];exact⟨.inr l1,.inr l2,hv⟩
 ·rw [upd_ne l,upd_ne k,upd_ne i];obtain⟨g,a,b,c,d,e⟩:=F.fa (h.resolve_left l);exact⟨g,a,b,c,λ _=>d l1,λ _=>e l2⟩
 ·exact absurd (F.fw (h.resolve_left m)).1 hno
theorem C2F.box (F:C2F K1 x1 K2 x2 w1 k1 k2 kb ka ks f cells t n L vals w') (hk:[k1,k2,kb,ks].all (λ j=>j != ka)=true) (hdep:¬ L ks) {cs:List Value} (hcs:cs.length=n):C2F K1 x1 K2 x2 w1 k1 k2 kb ka ks f cells t n (λ j=>j=ka∨L j) (upd vals ka (pT w'.heap.size 0)) (w'.alloc (.cells ⟨cs⟩ t)):=by
 simp only [List.all_cons,Bool.and_eq_true,bne_iff_ne,ne_eq,List.all_nil,and_true] at hk;obtain⟨d,g,i,k⟩:=hk;have e:zB w' (w'.alloc (.cells ⟨cs⟩ t)):=(Below.refl _ _).alloc (Nat.le_refl _) _;refine⟨F.bel.alloc F.bel.size _,λ h=>?_,λ h=>?_,λ h=>?_,λ _=>?_,λ h=>?_⟩
 ·rw [upd_ne d];exact K1.keep (F.f1 (h.resolve_left d)) (.below e)
 ·rw [upd_ne g];exact K2.keep (F.f2 (h.resolve_left g)) (.below e)
 ·rw [upd_ne i,upd_ne d,upd_ne g];obtain⟨a,b,c⟩:=F.fb (h.resolve_left i);exact⟨.inr a,.inr b,c⟩
 ·rw [upd_same,upd_ne d,upd_ne g];exact⟨_,rfl,F.bel.size,⟨cs,hcs,RowB.new _ _ _⟩,λ h=>K1.keep (K1.weak (F.f1 (h.resolve_left d)) (λ b d e=>⟨d,by omega⟩)) (.below e),λ h=>K2.keep (K2.weak (F.f2 (h.resolve_left g)) (λ b d e=>⟨d,by omega⟩)) (.below e)⟩
 ·exact absurd (h.resolve_left k) hdep
theorem C2F.wrote (F:C2F K1 x1 K2 x2 w1 k1 k2 kb ka ks f cells t n L vals w') (hk:[k1,k2,kb,ka].all (λ j=>j != ks)=true) (lb:L kb) (la:L ka) {g:Nat} {cs vs:List Value} (hg:vals ka=pT g 0) (r:RowB w' g t cs) (hv:setL cs 0 vs=cells (vals kb)):C2F K1 x1 K2 x2 w1 k1 k2 kb ka ks f cells t n (λ j=>j=ks∨L j) (upd vals ks undef) (w'.setCells g 0 vs):=by
 simp only [List.all_cons,Bool.and_eq_true,bne_iff_ne,ne_eq,List.all_nil,and_true] at hk;obtain⟨v,s,B,A⟩:=hk;have o:=row_cells vs 0 w' cs r;have i:=grown_cells g vs 0 w';obtain⟨x,w,q⟩:=F.fb lb;obtain⟨m,a,b,c,d,e⟩:=F.fa la;have E:m=g:=by rw [hg] at a;simpa using a.symm
 subst E;have l:RelG.Still (λ b=>w1.heap.size<=b∧b≠m) w' (w'.setCells m 0 vs):=RelG.Still.grown i (λ k hk C=>C.2 (by simpa using hk.symm));have z:=K1.keep (d x) l;have y:=K2.keep (e w) l;refine⟨⟨i.os.trans F.bel.os,i.tape.trans F.bel.tape,i.output.trans F.bel.output,Nat.le_trans F.bel.size i.size,λ k hk=>(i.block k (Nat.lt_of_lt_of_le hk F.bel.size) (λ e=>by simp at e;omega)).trans (F.bel.block k hk)⟩,λ h=>?_,λ h=>?_,λ h=>?_,λ h=>?_,λ _=>?_⟩
 ·rw [upd_ne v];exact K1.weak z (λ _ h _=>h.1)
 ·rw [upd_ne s];exact K2.weak y (λ _ h _=>h.1)
 ·rw [upd_ne B,upd_ne v,upd_ne s];exact⟨.inr x,.inr w,q⟩
 ·rw [upd_ne A,upd_ne v,upd_ne s];exact⟨m,a,b,⟨_,by rw [setL_len];obtain⟨G,I,H⟩:=c;have:=H.symm.trans r;simp only [Option.some.injEq,Obj.cells.injEq,Array.mk.injEq,and_true] at this;rw [<-this];exact I,o⟩,λ _=>z,λ _=>y⟩
 ·rw [upd_ne A,upd_ne B];refine⟨.inr lb,λ D p=>?_⟩;have e:D=m:=by rw [p] at hg;simpa using hg
  subst e;rw [hv] at o;exact o
end
structure C2E {α β:Type} (K1:RelG.Rel Value α) (x1:α) (K2:RelG.Rel Value β) (x2:β) (w1:World) (k1 k2 kb ks:Nat) (f:Value->Value->Value) (g:Nat) (t:TypeId) (old:List Value) (new:Value->List Value) (L:Nat->Prop) (vals:Nat->Value) (w':World):Prop where
 bel:w1.grownBy w' (some g)
 gl:g<w1.heap.size
 f1:L k1->K1.R w' (λ b=>w1.heap.size<=b) (vals k1) x1
 f2:L k2->K2.R w' (λ b=>w1.heap.size<=b) (vals k2) x2
 fb:L kb->L k1∧L k2∧vals kb=f (vals k1) (vals k2)
 row:¬ L ks->RowB w' g t old
 fw:L ks->L kb∧RowB w' g t (new (vals kb))
section
variable {α β:Type} {K1:RelG.Rel Value α} {x1:α} {K2:RelG.Rel Value β} {x2:β} {w1 w' w'':World} {k1 k2 kb ks g:Nat} {f:Value->Value->Value} {t:TypeId} {old:List Value} {new:Value->List Value} {L:Nat->Prop} {vals:Nat->Value}
theorem C2E.skip (F:C2E K1 x1 K2 x2 w1 k1 k2 kb ks f g t old new L vals w') (k:Nat) (v:Value) (hk:[k1,k2,kb,ks].all (λ j=>j != k)=true:=by decide):C2E K1 x1 K2 x2 w1 k1 k2 kb ks f g t old new (λ j=>j=k∨L j) (upd vals k v) w':=by
 simp only [List.all_cons,Bool.and_eq_true,bne_iff_ne,ne_eq,List.all_nil,and_true] at hk;obtain⟨i,e,d,l⟩:=hk;refine⟨F.bel,F.gl,λ h=>?_,λ h=>?_,λ h=>?_,λ h=>?_,λ h=>?_⟩
 ·rw [upd_ne i];exact F.f1 (h.resolve_left i)
 ·rw [upd_ne e];exact F.f2 (h.resolve_left e)
 ·rw [upd_ne d,upd_ne i,upd_ne e];obtain⟨a,b,c⟩:=F.fb (h.resolve_left d);exact⟨.inr a,.inr b,c⟩
 ·exact F.row (λ m=>h (.inr m))
 ·rw [upd_ne d];obtain⟨a,b⟩:=F.fw (h.resolve_left l);exact⟨.inr a,b⟩
theorem C2E.call1 (F:C2E K1 x1 K2 x2 w1 k1 k2 kb ks f g t old new L vals w') (hno:¬ L k1) (hk:[k2,kb,ks].all (λ j=>j != k1)=true) {v:Value} (hb:zB w' w'') (hr:K1.R w'' (λ b=>w'.heap.size<=b) v x1):C2E K1 x1 K2 x2 w1 k1 k2 kb ks f g t old new (λ j=>j=k1∨L j) (upd vals k1 v) w'':=by
 simp only [List.all_cons,Bool.and_eq_true,bne_iff_ne,ne_eq,List.all_nil,and_true] at hk;obtain⟨a,l,k⟩:=hk;have c:=F.bel.size;have e:=F.gl;refine⟨Base.grownBy_trans F.bel ⟨hb.os,hb.tape,hb.output,hb.size,λ i d _=>hb.block i d⟩,F.gl,λ _=>?_,λ h=>?_,λ h=>?_,λ h=>?_,λ h=>?_⟩
 ·rw [upd_same];exact K1.weak hr (λ b hb _=>by omega)
 ·rw [upd_ne a];exact K2.keep (F.f2 (h.resolve_left a)) (.below hb)
 ·exact absurd (F.fb (h.resolve_left l)).1 hno
 ·have r:=F.row (λ m=>h (.inr m));exact r.below hb r.lt
 ·exact absurd (F.fb (F.fw (h.resolve_left k)).1).1 hno
theorem C2E.call2 (F:C2E K1 x1 K2 x2 w1 k1 k2 kb ks f g t old new L vals w') (hno:¬ L k2) (hk:[k1,kb,ks].all (λ j=>j != k2)=true) {v:Value} (hb:zB w' w'') (hr:K2.R w'' (λ b=>w'.heap.size<=b) v x2):C2E K1 x1 K2 x2 w1 k1 k2 kb ks f g t old new (λ j=>j=k2∨L j) (upd vals k2 v) w'':=by
 simp only [List.all_cons,Bool.and_eq_true,bne_iff_ne,ne_eq,List.all_nil,and_true] at hk;obtain⟨a,l,k⟩:=hk;have c:=F.bel.size;have e:=F.gl;refine⟨Base.grownBy_trans F.bel ⟨hb.os,hb.tape,hb.output,hb.size,λ i d _=>hb.block i d⟩,F.gl,λ h=>?_,λ _=>?_,λ h=>?_,λ h=>?_,λ h=>?_⟩
 ·rw [upd_ne a];exact K1.keep (F.f1 (h.resolve_left a)) (.below hb)
 ·rw [upd_same];exact K2.weak hr (λ b hb _=>by omega)
 ·exact absurd (F.fb (h.resolve_left l)).2.1 hno
 ·have r:=F.row (λ m=>h (.inr m));exact r.below hb r.lt
 ·exact absurd (F.fb (F.fw (h.resolve_left k)).1).2.1 hno
theorem C2E.built (F:C2E K1 x1 K2 x2 w1 k1 k2 kb ks f g t old new L vals w') (hno:¬ L kb) (hk:[k1,k2,ks].all (λ j=>j != kb)=true) (l1:L k1) (l2:L k2) {v:Value} (hv:v=f (vals k1) (vals k2)):C2E K1 x1 K2 x2 w1 k1 k2 kb ks f g t old new (λ j=>j=kb∨L j) (upd vals kb v) w':=by
 simp only [List.all_cons,Bool.and_eq_true,bne_iff_ne,ne_eq,List.all_nil,and_true] at hk;obtain⟨b,a,c⟩:=hk;refine⟨F.bel,F.gl,λ h=>?_,λ h=>?_,λ h=>?_,λ h=>?_,λ h=>?_⟩
 ·rw [upd_ne b];exact F.f1 l1
 ·rw [upd_ne a];exact F.f2 l2
 ·rw [upd_same,upd_ne b,upd_ne a];exact⟨.inr l1,.inr l2,hv⟩
 ·exact F.row (λ d=>h (.inr d))
 ·exact absurd (F.fw (h.resolve_left c)).1 hno
theorem C2E.wrote (F:C2E K1 x1 K2 x2 w1 k1 k2 kb ks f g t old new L vals w') (hk:[k1,k2,kb].all (λ j=>j != ks)=true) (hno:¬ L ks) (lb:L kb) (j:Nat) {vs:List Value} (hv:setL old j vs=new (vals kb)):C2E K1 x1 K2 x2 w1 k1 k2 kb ks f g t old new (λ j=>j=ks∨L j) (upd vals ks undef) (w'.setCells g j vs):=by
 simp only [List.all_cons,Bool.and_eq_true,bne_iff_ne,ne_eq,List.all_nil,and_true] at hk;obtain⟨o,n,m⟩:=hk;have e:=row_cells vs j w' old (F.row hno);have c:=grown_cells g vs j w';have p:=F.gl;obtain⟨l,i,d⟩:=F.fb lb;have a:RelG.Still (λ b=>w1.heap.size<=b) w' (w'.setCells g j vs):=RelG.Still.grown c (λ k hk q=>by simp at hk;omega);refine⟨Base.grownBy_trans F.bel c,F.gl,λ h=>?_,λ h=>?_,λ h=>?_,λ h=>absurd (.inl rfl) h,λ _=>?_⟩
 ·rw [upd_ne o];exact K1.keep (F.f1 l) a
 ·rw [upd_ne n];exact K2.keep (F.f2 i) a
 ·rw [upd_ne m,upd_ne o,upd_ne n];exact⟨.inr l,.inr i,d⟩
 ·rw [upd_ne m];rw [hv] at e;exact⟨.inr lb,e⟩
end
theorem rH {P:Program} {ops:Array Oper} {Q:Exit->Act->World->Prop} {id:Nat} {a0:Act} {w:World} (ds:List (Option Nat)) (N:Nat) (pl:List (Option Value)) (Me:(Nat->Prop)->(Nat->Value)->World->Prop) (h0:Me (λ j=>N<=j) (λ _=>undef) w.drew) (hst:RelFrom P ops Q a0 ds (Pl pl) Me 0) (fin:∀ vals w',(∀ j,j<N->Pl pl j (vals j))->Me (λ _=>True) vals w'->Q .normal (Fr a0 ds 0 vals) w') (hm:P.follows .mixedOrders=true:=by kernel_rfl) (hd:downs ops=true:=by kernel_rfl) (hds:(ops.map (·.dst)).toList=ds:=by kernel_rfl) (hN:ops.size=N:=by kernel_rfl) (hnd:ndB ds=true:=by kernel_rfl) (hsz:szB a0.tmps.size ds=true:=by kernel_rfl) (hg:gdT ops pl=true:=by kernel_rfl):(Code.region id ops true).wp P Q a0 w:=region_relG ds N pl Me hm hd hds hN hnd hsz hg h0 hst fin
end RegG

namespace PlP
theorem at_set (l:List Int) (i j:Nat) (x:Int) (h:i<l.length):at_ (l.set i x) j=if j=i then x else at_ l j:=by
 unfold at_;rw [List.getD_eq_getElem?_getD,List.getElem?_set];by_cases e:i=j
 ·subst e;simp [h]
 ·rw [if_neg e,if_neg (λ h=>e h.symm),List.getD_eq_getElem?_getD]
theorem at_rep (n j:Nat):at_ (List.replicate n (0:Int)) j=0:=by
 unfold at_;rw [List.getD_eq_getElem?_getD,List.getElem?_replicate];split <;> rfl
theorem sum_rep (n:Nat):(List.replicate n (0:Int)).sum=0:=by simp
theorem start_ok {v:Vr} (hv:okV v=true) (h4:4<=v.p):Ok v (startB v)∧(startL v).sum=v.c:=by
 have g:=okV_iff.1 hv;unfold startB startL;by_cases hf:v.p=24∧v.c=15∧v.h=6∧v.s=6
 ·obtain⟨p,c,h,s⟩:=v;simp only at hf;obtain⟨rfl,rfl,rfl,rfl⟩:=hf;refine⟨okB_iff.1 (by decide),by decide⟩
 ·simp only [if_neg hf];obtain⟨n,l⟩:∃ n:Nat,(v.p+1).toNat=n:=⟨_,rfl⟩;obtain⟨i,o⟩:∃ i:Nat,(v.p - 1).toNat=i:=⟨_,rfl⟩;obtain⟨j,m⟩:∃ i:Nat,(v.p / 2 - 1).toNat=i:=⟨_,rfl⟩;rw [l,o,m];have b:i<(List.replicate n (0:Int)).length:=by rw [List.length_replicate];omega
  have f:j<((List.replicate n (0:Int)).set i (v.c / 2)).length:=by rw [List.length_set,List.length_replicate];omega
  have d:∀ k,at_ (((List.replicate n (0:Int)).set i (v.c / 2)).set j (v.c - v.c / 2)) k=if k=j then v.c - v.c / 2 else if k=i then v.c / 2 else 0:=by
   intro k;rw [at_set _ _ _ _ f,at_set _ _ _ _ b,at_rep]
  have a:(((List.replicate n (0:Int)).set i (v.c / 2)).set j (v.c - v.c / 2)).sum=v.c:=by
   rw [sum_set _ _ _ f,sum_set _ _ _ b,at_set _ _ _ _ b,at_rep,at_rep,sum_rep,if_neg (by omega)];omega
  have e:Sd v (((List.replicate n (0:Int)).set i (v.c / 2)).set j (v.c - v.c / 2)):=by
   refine⟨by rw [List.length_set,List.length_set,List.length_replicate];omega,λ k=>?_,by rw [a];exact Int.le_refl _⟩;rw [d];split
   ·omega
   ·split <;> omega
  refine⟨⟨g,e,e,by rw [a];omega,λ k q=>?_⟩,a⟩;show ¬ (0<at_ _ k∧0<at_ _ (v.p.toNat - 1 - k))
  rw [d,d];by_cases k1:k=j
  ·rw [if_pos k1];by_cases k2:v.p.toNat - 1 - k=j
   ·omega
   ·rw [if_neg k2];by_cases k3:v.p.toNat - 1 - k=i
    ·omega
    ·rw [if_neg k3];omega
  ·rw [if_neg k1];by_cases k4:k=i
   ·rw [if_pos k4];by_cases k2:v.p.toNat - 1 - k=j
    ·omega
    ·rw [if_neg k2];by_cases k3:v.p.toNat - 1 - k=i
     ·omega
     ·rw [if_neg k3];omega
   ·rw [if_neg k4];omega
theorem start_over {v:Vr} (hv:okV v=true) (h4:4<=v.p):over (startB v)=false:=by
 have a:=okV_iff.1 hv;have:=(start_ok hv h4).2;unfold over startB;simp only [this,Bool.or_self,decide_eq_false_iff_not];omega
theorem new_valid {v:Vr} (hv:okV v=true) (h4:4<=v.p):gmB v (newG v)=true:=by
 unfold gmB newG;simp [okB_iff.2 (start_ok hv h4).1,h4]
theorem step_oth {v:Vr} {b:Bd} {s:Stp} (hb:Ok v b) (h:legal1 v b s=true):(afterP v b s).2.sum=b.2.sum:=by
 obtain⟨m,n,g,f⟩:=legal1_iff.1 h;obtain⟨k,j,i,d⟩:=step_parts g hb f;have e:=hb.oth.len;have l:=hb.v1;unfold afterP;simp only;split
 ·rename_i hh
  rcases d with ⟨a1,a2,a3,a4⟩ | ⟨_,_,a4⟩
  ·have c:(v.p - 1 - s.2.1).toNat<b.2.length:=by omega
   have a:v.p.toNat<(inc b.2 (v.p - 1 - s.2.1).toNat (-1)).length:=by rw [inc_len];omega
   rw [inc_sum _ _ _ a,inc_sum _ _ _ c];omega
  ·rw [a4] at hh;cases hh
 ·rfl
theorem follow_oth {v:Vr}:∀(ds:List Int) (b:Bd) (ss:List Stp) (c:Bd),Ok v b->followP v b ds ss=some c->c.2.sum=b.2.sum
 | ds,b,[],c,hb,h=>by simp only [followP,Option.some.injEq] at h;subst h;rfl
 | [],b,s :: ss,c,hb,h=>by simp [followP] at h
 | d :: ds,b,s :: ss,c,hb,h=>by
  simp only [followP] at h;split at h
  ·rename_i h1
   rw [follow_oth ds _ ss c (legal1_ok hb h1.2) h,step_oth hb h1.2]
  ·cases h
theorem first_oth {v:Vr} {b c:Bd} {ss:List Stp} (hb:Ok v b):∀(os:List (List Int)),firstF v b ss os=some c->c.2.sum=b.2.sum
 | [],h=>by simp [firstF] at h
 | o :: os,h=>by
  simp only [firstF] at h;split at h
  ·rename_i d hd
   simp only [Option.some.injEq] at h;subst h;exact follow_oth o b ss _ hb hd
  ·exact first_oth hb os h
theorem play_oth {v:Vr} {b c:Bd} {x y:Int} {ss:List Stp} (hb:Ok v b) (h:playP v b x y ss=some c):c.2.sum=b.2.sum:=by
 unfold playP at h;split at h
 ·exact first_oth hb _ h
 ·cases h
theorem res_bd (v:Vr) (b:Bd):1<=resP v b∧resP v b<=3:=by unfold resP;split <;> (try split) <;> omega
theorem over_swp (b:Bd):over (swp b)=over b:=by unfold over swp;simp only;rw [Bool.or_comm]
theorem turn_valid {v:Vr} {g g':Gm} {ss:List Stp} (hg:gmB v g=true) (h:(turnP v g ss).1=some g'):gmB v g'=true:=by
 have c:=gm_parts hg;unfold turnP at h;rw [if_neg (by rw [hg];decide)] at h;by_cases h2:g.ph=2
 ·rw [if_neg (by rw [h2];decide)] at h;split at h
  ·cases h
  ·rename_i b hb
   split at h
   ·cases h
   ·rename_i htn
    simp only [Option.some.injEq] at h;have e:=play_ok c.1 hb;have d:=play_oth c.1 hb;have l:=res_bd v b;have f:=(c.2.2.2.2.2 (.inr h2)).1;unfold turnG at h;by_cases a:over b=true
    ·rw [if_pos a] at h;subst h;have i:b.1.sum=0:=by
      unfold over at f a;simp only [Bool.or_eq_true,Bool.or_eq_false_iff,decide_eq_true_eq,decide_eq_false_iff_not] at f a;rcases a with h | h
      ·exact h
      ·rw [d] at h;exact absurd h f.2
     unfold gmB;have k:=c.2.2.1;have j:=c.2.2.2.1;simp [okB_iff.2 e,c.2.1,a,i];omega
    ·rw [if_neg a] at h;subst h;have a:over b=false:=by simpa using a
     unfold gmB;have k:=c.2.2.1;have j:=c.2.2.2.1;simp [okB_iff.2 (swp_ok e),c.2.1,over_swp,a];omega
 ·rw [if_pos h2] at h;cases h
theorem roll_valid {v:Vr} {g:Gm} {x y:Int} (hg:gmB v g=true) (h1:g.ph=1) (hr:rollB v x y=true):gmB v (rollG g x y)=true:=by
 unfold gmB at hg ⊢;unfold rollG;simp only [h1] at hg;simp only [hr];simp only [if_true,Bool.and_eq_true,decide_eq_true_eq,Bool.and_true] at hg ⊢;obtain⟨⟨a,b⟩,c⟩:=hg;refine⟨a,?_⟩
 simpa using c
theorem rollC_zero {v:Vr} {g:Gm} {x y:Int} (h:rollC v g x y=0):gmB v g=true∧g.ph=1∧rollB v x y=true:=by
 unfold rollC at h;split at h
 ·exact absurd h (by decide)
 ·split at h
  ·exact absurd h (by decide)
  ·split at h
   ·exact absurd h (by decide)
   ·rename_i a b c
    exact⟨by simpa using a,by simpa using b,by simpa using c⟩
theorem game_valid {v:Vr} {g g':Gm} {e:Ev} (hg:gmB v g=true) (h:gameP v g e=some g'):gmB v g'=true:=by
 have c:=gm_parts hg;unfold gameP at h;split at h
 ·split at h
  ·rename_i h1
   simp only [Option.some.injEq] at h;unfold openC at h1;rw [if_neg (by rw [hg];decide)] at h1;split at h1
   ·exact absurd h1 (by decide)
   ·rename_i d
    have d:g.ph=0:=by simpa using d
    split at h1
    ·exact absurd h1 (by decide)
    ·rename_i i
     have i:(1<=e.a∧e.a<=v.s)∧1<=e.b∧e.b<=v.s:=by simpa using i
     unfold openG at h;split at h
     ·subst h;exact hg
     ·rename_i hab
      subst h;have p:=okB_iff.2 c.1;have o:okV v=true:=okV_iff.2 c.1.v1;have l:=start_over o c.2.1;unfold gmB at hg;simp only [d,Bool.and_eq_true,decide_eq_true_eq] at hg;have m:=hg.2;simp only [if_true,decide_eq_true_eq] at m;obtain⟨z,y,x,w,n⟩:=m;have q:rollB v (max e.a e.b) (min e.a e.b)=true:=by
       unfold rollB;simp only [Bool.and_eq_true,decide_eq_true_eq];omega
      have k:=okB_iff.2 (swp_ok c.1);have f:over g.b=false:=by rw [n];exact l
      clear n;unfold gmB;simp only [q,y,x,w];by_cases hlt:e.a<e.b
      ·simp [hlt,k,c.2.1,over_swp,f]
      ·simp [hlt,p,c.2.1,f,z]
  ·cases h
 ·split at h
  ·split at h
   ·rename_i h1
    simp only [Option.some.injEq] at h;unfold resgC at h1;rw [if_neg (by rw [hg];decide)] at h1;split at h1
    ·exact absurd h1 (by decide)
    ·rename_i j
     have j:g.ph=1∨g.ph=2:=by omega
     split at h1
     ·exact absurd h1 (by decide)
     ·rename_i i
      have i:1<=e.r∧e.r<=3:=by simpa using i
      subst h;have t:=(c.2.2.2.2.2 j).1;have d:=c.2.2.1;have A:=c.2.2.2.1;unfold gmB resgG;simp [okB_iff.2 c.1,c.2.1,t];omega
   ·cases h
  ·split at h
   ·split at h
    ·rename_i h1 j
     have d:=rollC_zero j;exact turn_valid (roll_valid hg d.2.1 d.2.2) h
    ·cases h
   ·split at h
    ·exact turn_valid hg h
    ·cases h
structure MsOk (v:Vr) (len:Int) (i:Nat) (x:Ms):Prop where
 gm:gmB v x.g=true
 sc:x.ov=false->(0<=x.s0∧x.s0<len)∧0<=x.s1∧x.s1<len
 gs:0<=x.gs∧x.gs<=i
theorem start_ms {v:Vr} {len:Int} (h:headB v len=true):MsOk v len 0 (startS v):=by
 unfold headB at h;simp only [Bool.and_eq_true,decide_eq_true_eq] at h;refine⟨new_valid h.1.1 h.1.2,λ _=>?_,?_⟩
 ·unfold startS;simp only;omega
 ·unfold startS;simp
theorem next_ms {v:Vr} {len:Int} {i:Nat} {x y:Ms} {e:Ev} (hl:1<=len) (hx:MsOk v len i x) (h:nextS v len x e=some y):MsOk v len (i+1) y:=by
 unfold nextS at h;split at h
 ·cases h
 ·rename_i b
  have b:x.ov=false:=by cases c:x.ov with | false=>rfl | true=>exact absurd (.inl c) b
  cases hg:gameP v x.g e with
  | none=>rw [hg] at h;cases h
  | some g =>
   rw [hg] at h;simp only [Option.map_some,Option.some.injEq] at h;have a:=game_valid hx.gm hg;have j:=gm_parts a;have k:okV v=true:=okV_iff.2 j.1.v1;have f:=game_parts hg;have d:=hx.sc b;have l:=hx.gs;unfold overS at h;by_cases h3:g.ph=3
   ·rw [if_neg (by omega)] at h;have m:=f.2.2.1 h3;simp only at h;by_cases hw:g.wn=0
    ·simp only [if_pos hw] at h;by_cases hlt:len<=x.s0+g.rs
     ·rw [if_pos hlt] at h;subst h;exact⟨a,λ c=>by simp at c,by simp only;omega⟩
     ·rw [if_neg hlt] at h;subst h;exact⟨new_valid k j.2.1,λ _=>by simp only;omega,by simp only;omega⟩
    ·simp only [if_neg hw] at h;by_cases hlt:len<=x.s1+g.rs
     ·rw [if_pos hlt] at h;subst h;exact⟨a,λ c=>by simp at c,by simp only;omega⟩
     ·rw [if_neg hlt] at h;subst h;exact⟨new_valid k j.2.1,λ _=>by simp only;omega,by simp only;omega⟩
   ·rw [if_pos h3] at h;subst h;exact⟨a,λ _=>d,by simp only;omega⟩
end PlP
namespace Gm
open Go Go.RowKit Base Ints RelG PlP
def BdR (w:World) (S:Nat->Prop) (u1 u2:Value) (b:Bd):Prop:=SlV 1 enI w S u1 b.1∧SlV 1 enI w S u2 b.2
section
variable {w w':World} {S S':Nat->Prop} {u1 u2:Value} {b:Bd}
theorem BdR.keep (h:BdR w S u1 u2 b) (hs:Still S w w'):BdR w' S u1 u2 b:=⟨(relV 1 enI).keep h.1 hs,(relV 1 enI).keep h.2 hs⟩
theorem BdR.weak (h:BdR w S u1 u2 b) (hs:∀ b,S b->b<w.heap.size->S' b):BdR w S' u1 u2 b:=⟨(relV 1 enI).weak h.1 hs,(relV 1 enI).weak h.2 hs⟩
theorem BdR.below (h:BdR w S u1 u2 b) (hb:zB w w'):BdR w' S u1 u2 b:=h.keep (.below hb)
theorem BdR.nil (w:World) (S:Nat->Prop):BdR w S (.slice none 0 0) (.slice none 0 0) ([],[]) :=
 ⟨⟨none,0,rfl,RdF.nil _ _ _ _ _,λ _=>rfl⟩,⟨none,0,rfl,RdF.nil _ _ _ _ _,λ _=>rfl⟩⟩
end
def gmC (u1 u2:Value) (g:Gm):List Value:=[u1,u2,iL g.pl,iL g.x,iL g.y,iL g.ph,iL g.wn,iL g.rs,iL g.tn]
def msC (su u1 u2:Value) (x:Ms):List Value:=[su,iL x.gs,u1,u2,iL x.g.pl,iL x.g.x,iL x.g.y,iL x.g.ph,iL x.g.wn,iL x.g.rs,iL x.g.tn,.bool x.ov]
def nulG:Gm:=⟨([],[]),0,0,0,0,0,0,0⟩
def nulM:Ms:=⟨0,0,0,nulG,false⟩
def RelBV:Rel Value Bd where
 R:=λ w S v b=>∃ u1 u2,v=.agg #[u1,u2]∧BdR w S u1 u2 b
 keep:=λ⟨u1,u2,e,h⟩ hs=>⟨u1,u2,e,h.keep hs⟩
 weak:=λ⟨u1,u2,e,h⟩ hs=>⟨u1,u2,e,h.weak hs⟩
def RelBB:Rel Value (Option Bd) where
 R:=λ w S v x=>∃ u1 u2 b,v=.tuple #[.agg #[u1,u2],.bool x.isSome]∧BdR w S u1 u2 b∧∀ b0,x=some b0->b=b0
 keep:=λ⟨u1,u2,b,e,h,k⟩ hs=>⟨u1,u2,b,e,h.keep hs,k⟩
 weak:=λ⟨u1,u2,b,e,h,k⟩ hs=>⟨u1,u2,b,e,h.weak hs,k⟩
def RelBI:Rel Value (Option Bd) where
 R:=λ w S v x=>∃ u1 u2 b c,v=.tuple #[.agg #[u1,u2],iL c]∧BdR w S u1 u2 b∧(∀ b0,x=some b0->b=b0∧c=0)∧(x=none->c≠0)
 keep:=λ⟨u1,u2,b,c,e,h,k⟩ hs=>⟨u1,u2,b,c,e,h.keep hs,k⟩
 weak:=λ⟨u1,u2,b,c,e,h,k⟩ hs=>⟨u1,u2,b,c,e,h.weak hs,k⟩
def RelGV:Rel Value Gm where
 R:=λ w S v g=>∃ u1 u2,v=.agg ⟨gmC u1 u2 g⟩∧BdR w S u1 u2 g.b
 keep:=λ⟨u1,u2,e,h⟩ hs=>⟨u1,u2,e,h.keep hs⟩
 weak:=λ⟨u1,u2,e,h⟩ hs=>⟨u1,u2,e,h.weak hs⟩
def RelGI:Rel Value (Option Gm) where
 R:=λ w S v x=>∃ u1 u2 g c,v=.tuple #[.agg ⟨gmC u1 u2 g⟩,iL c]∧BdR w S u1 u2 g.b∧(∀ g0,x=some g0->g=g0∧c=0)∧(x=none->c≠0)
 keep:=λ⟨u1,u2,g,c,e,h,k⟩ hs=>⟨u1,u2,g,c,e,h.keep hs,k⟩
 weak:=λ⟨u1,u2,g,c,e,h,k⟩ hs=>⟨u1,u2,g,c,e,h.weak hs,k⟩
def RelGB:Rel Value (Option Gm) where
 R:=λ w S v x=>∃ u1 u2 g,v=.tuple #[.agg ⟨gmC u1 u2 g⟩,.bool x.isSome]∧BdR w S u1 u2 g.b∧∀ g0,x=some g0->g=g0
 keep:=λ⟨u1,u2,g,e,h,k⟩ hs=>⟨u1,u2,g,e,h.keep hs,k⟩
 weak:=λ⟨u1,u2,g,e,h,k⟩ hs=>⟨u1,u2,g,e,h.weak hs,k⟩
def MsR (w:World) (S:Nat->Prop) (su u1 u2:Value) (x:Ms):Prop:=SlV 1 enI w S su [x.s0,x.s1]∧BdR w S u1 u2 x.g.b
section
variable {w w':World} {S S':Nat->Prop} {su u1 u2:Value} {x:Ms}
theorem MsR.keep (h:MsR w S su u1 u2 x) (hs:Still S w w'):MsR w' S su u1 u2 x:=⟨(relV 1 enI).keep h.1 hs,h.2.keep hs⟩
theorem MsR.weak (h:MsR w S su u1 u2 x) (hs:∀ b,S b->b<w.heap.size->S' b):MsR w S' su u1 u2 x:=⟨(relV 1 enI).weak h.1 hs,h.2.weak hs⟩
theorem MsR.below (h:MsR w S su u1 u2 x) (hb:zB w w'):MsR w' S su u1 u2 x:=h.keep (.below hb)
end
def RelMV:Rel Value Ms where
 R:=λ w S v x=>∃ su u1 u2,v=.agg ⟨msC su u1 u2 x⟩∧MsR w S su u1 u2 x
 keep:=λ⟨su,u1,u2,e,h⟩ hs=>⟨su,u1,u2,e,h.keep hs⟩
 weak:=λ⟨su,u1,u2,e,h⟩ hs=>⟨su,u1,u2,e,h.weak hs⟩
def Ret {α:Type} (K:Rel Value α) (x:α) (S:Nat->Prop) (w:World) (e:Ending) (w':World):Prop :=
 ∃ v,e=.returned v∧K.R w' (λ b=>S b∨w.heap.size<=b) v x∧zB w w'
section
variable {w:World} {g:Nat} {t:TypeId} {c0 c1 c2 c3 c4 c5 c6 c7 c8 c9 c10 c11:Value}
theorem row9 (h:RowB w g t [c0,c1,c2,c3,c4,c5,c6,c7,c8]):w.cell? ⟨g,0,none⟩=some c0∧w.cell? ⟨g,1,none⟩=some c1∧w.cell? ⟨g,2,none⟩=some c2∧w.cell? ⟨g,3,none⟩=some c3∧w.cell? ⟨g,4,none⟩=some c4∧w.cell? ⟨g,5,none⟩=some c5∧w.cell? ⟨g,6,none⟩=some c6∧w.cell? ⟨g,7,none⟩=some c7∧w.cell? ⟨g,8,none⟩=some c8 :=
 ⟨h.cell 0,h.cell 1,h.cell 2,h.cell 3,h.cell 4,h.cell 5,h.cell 6,h.cell 7,h.cell 8⟩
theorem row12 (h:RowB w g t [c0,c1,c2,c3,c4,c5,c6,c7,c8,c9,c10,c11]):w.cell? ⟨g,0,none⟩=some c0∧w.cell? ⟨g,1,none⟩=some c1∧w.cell? ⟨g,2,none⟩=some c2∧w.cell? ⟨g,3,none⟩=some c3∧w.cell? ⟨g,4,none⟩=some c4∧w.cell? ⟨g,5,none⟩=some c5∧w.cell? ⟨g,6,none⟩=some c6∧w.cell? ⟨g,7,none⟩=some c7∧w.cell? ⟨g,8,none⟩=some c8∧w.cell? ⟨g,9,none⟩=some c9∧w.cell? ⟨g,10,none⟩=some c10∧w.cell? ⟨g,11,none⟩=some c11 :=
 ⟨h.cell 0,h.cell 1,h.cell 2,h.cell 3,h.cell 4,h.cell 5,h.cell 6,h.cell 7,h.cell 8,h.cell 9,h.cell 10,h.cell 11⟩
end
abbrev gM:List Value:=gmC (.slice none 0 0) (.slice none 0 0) nulG
end Gm

namespace Clone
open Go.ChangeShapes Go.WideShapes Go.ChangeAt Go.RowKit Base Ints Own
theorem news_rd {w:World} {B:Nat} {ad:Addr} {xs:List Int} (h:RdS w B 1 enI (some ad) xs):∀ j u,(xs.flatMap enI)[j]?=some u->w.cell? (ad.add j)=some u:=by
 intro j u e;have f:j<(xs.flatMap enI).length:=(List.getElem?_eq_some_iff.1 e).1;rw [flatMap_len enI_len,Nat.mul_one] at f;obtain⟨b,a,g,_,l⟩:=h.2 (by omega);simp only [Option.some.injEq] at g;subst g;have d:xs[j]?=some xs[j]:=List.getElem?_eq_getElem f;have k:=flatMap_at enI_len xs j _ d 0 _ rfl;rw [Nat.mul_one,Nat.add_zero,e] at k;have i:=l j _ d 0 _ rfl;rw [<-k,Nat.mul_one,Nat.add_zero] at i;have c:(⟨b,a,none⟩:Addr).add j=⟨b,a+j,none⟩:=by unfold Addr.add;split <;> simp_all
 rw [c];exact i
theorem rd_none {w:World} {B:Nat} {xs:List Int} (h:RdS w B 1 enI none xs):xs=[]:=by
 cases xs with
 | nil=>rfl
 | cons x xs=>obtain⟨b,a,c,_⟩:=h.2 (by simp);cases c
theorem one_Is (xs:List Int):∀ u ∈ xs.flatMap enI,u.oneCell'=true:=by
 intro u b;obtain⟨y,_,a⟩:=List.mem_flatMap.1 b;exact one_I y u a
theorem clone (A:Option Addr) (cp B:Nat) (xs:List Int) (w:World) (hB:B<=w.heap.size) (hr:RdS w B 1 enI A xs) (hA:A=none->cp=0) (hn:xs.length<=1048577) :
  Calls prog 72 #[.slice A xs.length cp] w λ e w'=>(∃ v,e=.returned v∧OwnS w' w.heap.size w'.heap.size 2 1 enI v xs)∧zB w w':=by
 obtain⟨l,f,d,c,b⟩:=info_parts Ints.info
 cases A with
 | none =>
  obtain rfl:=rd_none hr;obtain rfl:=hA rfl;have k:∀ w:World,(binOp .eql 49 (.slice none 0 0) (.slice none 0 0)).run prog w=.ok (.bool true) w:=λ w=>Lib.run_eql_slice_nil w _ _ _ _ _ _ _ Tryz.underlying49
  go_enter func72,ntmps72;go_wp2;go_ret;exact⟨⟨_,rfl,OwnS.nil_ _ _ _ _ _ _⟩,Below.refl _ _⟩
 | some ad =>
  have k:∀ w:World,(binOp .eql 49 (.slice (some ad) xs.length cp) (.slice none 0 0)).run prog w=.ok (.bool false) w:=λ w=>Lib.run_eql_slice_nil w _ _ _ _ _ _ _ Tryz.underlying49
  go_enter func72,ntmps72;go_wp2_with (at_builtin;refine wpList_append_own _ rfl _ _ _ rfl w.heap.size 2 l (iL 0) 1 8 Tryz.underlying49 f d c b rfl (by decide) _ 0 [] rfl ((RowB.new w 2 []).own (xs:=([]:List Int)) (en:=enI) enI_len (Nat.le_refl _) (by simp) (by decide):OwnS _ w.heap.size (w.alloc (.cells #[] 2)).heap.size 2 1 enI _ []).1 ad xs.length cp (xs.flatMap enI) rfl (by rw [flatMap_len enI_len]) (news_rd (hr.below (by go_grown) hB)) (one_Is xs) ?c1 ?c2 ?c3 ?_)
  case c1=>unfold maxLen;omega
  case c2=>omega
  case c3=>go_size
  intro j w' a h _;have a:w'.ownsRow w.heap.size 2 1 j xs.length (xs.flatMap enI):=by simpa using a
  go_wp2;go_ret;refine⟨⟨_,rfl,a,λ g i=>(a.lt g i).2⟩,?_⟩;exact((Below.refl w.heap.size w).alloc (Nat.le_refl _) _).grown h (by go_size) (λ g i=>by simp [Value.ownBlock] at i;omega)
theorem own02 (A:Option Addr) (cp B:Nat) (xs:List Int) (w:World) (hB:B<=w.heap.size) (hr:RdS w B 1 enI A xs) (hA:A=none->cp=0) (hn:xs.length<=1048577) :
  Calls prog 76 #[.slice A xs.length cp] w λ e w'=>(∃ v,e=.returned v∧OwnS w' w.heap.size w'.heap.size 2 1 enI v xs)∧zB w w':=by
 obtain⟨j,b,f,d,c⟩:=info_parts Ints.info
 cases A with
 | none =>
  obtain rfl:=rd_none hr;obtain rfl:=hA rfl;go_enter func76,ntmps76;go_wp2_with (at_builtin;refine wpList_append_own_none rfl _ _ _ rfl w.heap.size 2 j 1 Tryz.underlying49 b _ 0 [] rfl ((RowB.new w 2 []).own (xs:=([]:List Int)) (en:=enI) enI_len (Nat.le_refl _) (by simp) (by decide):OwnS _ w.heap.size (w.alloc (.cells #[] 2)).heap.size 2 1 enI _ []).1 rfl ?_);go_wp2;go_ret;exact⟨⟨_,rfl,(RowB.new w 2 []).own (xs:=[]) enI_len (Nat.le_refl _) (by simp) (by decide)⟩,by go_grown⟩
 | some ad =>
  go_enter func76,ntmps76;go_wp2_with (at_builtin;refine wpList_append_own _ rfl _ _ _ rfl w.heap.size 2 j (iL 0) 1 8 Tryz.underlying49 b f d c rfl (by decide) _ 0 [] rfl ((RowB.new w 2 []).own (xs:=([]:List Int)) (en:=enI) enI_len (Nat.le_refl _) (by simp) (by decide):OwnS _ w.heap.size (w.alloc (.cells #[] 2)).heap.size 2 1 enI _ []).1 ad xs.length cp (xs.flatMap enI) rfl (by rw [flatMap_len enI_len]) (news_rd (hr.below (by go_grown) hB)) (one_Is xs) ?c1 ?c2 ?c3 ?_)
  case c1=>unfold maxLen;omega
  case c2=>omega
  case c3=>go_size
  intro k w' a h _;have a:w'.ownsRow w.heap.size 2 1 k xs.length (xs.flatMap enI):=by simpa using a
  go_wp2;go_ret;refine⟨⟨_,rfl,a,λ g i=>(a.lt g i).2⟩,?_⟩;exact((Below.refl w.heap.size w).alloc (Nat.le_refl _) _).grown h (by go_size) (λ g i=>by simp [Value.ownBlock] at i;omega)
end Clone
abbrev vL (v:PlP.Vr):List Go.Value:=[iL v.p,iL v.c,iL v.h,iL v.s]
abbrev vA (v:PlP.Vr):Go.Value:=.agg #[.int .i64 v.p,.int .i64 v.c,.int .i64 v.h,.int .i64 v.s]
namespace Bd1
open Go.ChangeShapes Go.WideShapes Go.ChangeAt Go.RowKit Base Ints Own Clone RelG PlP
theorem at_rd {w:World} {B:Nat} {A:Option Addr} {xs:List Int} (h:RdS w B 1 enI A xs) {i:Nat} (hi:i<xs.length) :
  ∃ b off,A=some ⟨b,off,none⟩∧b<B∧w.cell? ⟨b,off+i,none⟩=some (iL (at_ xs i)):=by
 obtain⟨b,off,x,rfl,d,a,c⟩:=rdI_at h hi;rw [at_get hi] at a;simp only [Option.some.injEq] at a;subst a;exact⟨b,off,rfl,d,c⟩
def sumU (l:List Int):Nat->Int
 | 0=>0
 | k+1=>sumU l k+at_ l k
theorem sumU_take (l:List Int):∀ k,k<=l.length->sumU l k=(l.take k).sum:=by
 intro k
 induction k with
 | zero=>intro _;simp [sumU]
 | succ k ih =>
  intro a;simp only [sumU];rw [ih (by omega),take_succ l k (at_ l k) (at_get (by omega)),List.sum_append];simp
theorem sumU_all (l:List Int):sumU l l.length=l.sum:=by rw [sumU_take l _ (Nat.le_refl _),List.take_length]
theorem in_s (n a b:Int) (x:Bool) (hx:decide (a<=n∧n<=b)=x) (w:World):Calls prog 56 #[iL n,iL a,iL b] w λ e w'=>e=.returned (.bool x)∧w=w':=by
 subst hx;by_cases h1:a<=n
 ·have c:decide (a<=n∧n<=b)=decide (n<=b):=by simp [h1]
  rw [c];go_enter func56,ntmps56;go_wp2;go_ret;exact⟨rfl,rfl⟩
 ·have c:decide (a<=n∧n<=b)=false:=decide_eq_false (λ h=>h1 h.1);rw [c];go_enter func56,ntmps56;go_wp2;go_ret;exact⟨rfl,rfl⟩
theorem in_sq (n a b:Int) (x:Bool) (hx:decide (a<=n∧n<=b)=x) (w:World) (k:Nat):Calls prog 56 #[iL n,iL a,iL b] (w.drewN k) λ e w''=>e=.returned (.bool x)∧∃ m,w''=w.drewN m :=
 Calls.quiet_of_same ((in_s n a b x hx (w.drewN k)).mono λ _ _ h=>⟨h.1,h.2.symm⟩)
theorem in_i (n a b:Int) (x:Bool) (hx:decide (a<=n∧n<=b)=x) (w:World):Calls prog 26 #[iL n,iL a,iL b] w λ e w'=>e=.returned (.bool x)∧w=w':=by
 subst hx;by_cases h1:a<=n
 ·have c:decide (a<=n∧n<=b)=decide (n<=b):=by simp [h1]
  rw [c];go_enter func26,ntmps26;go_wp2;go_ret;exact⟨rfl,rfl⟩
 ·have c:decide (a<=n∧n<=b)=false:=decide_eq_false (λ h=>h1 h.1);rw [c];go_enter func26,ntmps26;go_wp2;go_ret;exact⟨rfl,rfl⟩
theorem var_s (v:Vr) (x:Bool) (hx:okV v=x) (w:World):Calls prog 29 #[.agg #[iL v.p,iL v.c,iL v.h,iL v.s]] w λ e w'=>e=.returned (.bool x)∧zB w w':=by
 unfold okV at hx;have m:=kD hx;clear hx;obtain⟨a,l⟩:∃ a,decide (2<=v.p∧v.p<=24)=a:=⟨_,rfl⟩;obtain⟨b,k⟩:∃ b,decide (1<=v.c∧v.c<=15)=b:=⟨_,rfl⟩;obtain⟨c,j⟩:∃ c,decide (1<=v.h∧v.h<=v.p)=c:=⟨_,rfl⟩;obtain⟨d,i⟩:∃ d,decide (1<=v.s∧v.s<=6)=d:=⟨_,rfl⟩;have f:Hid (x=(a && b && c && d)):=kD (by rw [<-m.out,<-l,<-k,<-j,<-i];simp only [Bool.decide_and];simp [Bool.and_assoc]);have r:=kD (λ w=>in_s v.p 2 24 a l w);have q:=kD (λ w=>in_s v.c 1 15 b k w);have o:=kD (λ w=>in_s v.h 1 v.p c j w);have n:=kD (λ w=>in_s v.s 1 6 d i w);clear l k j i m;go_enter func29,ntmps29;go_wp2_with fail;refine(r.out _).mono ?_;rintro e g ⟨rfl,rfl⟩
 cases a
 case false =>
  obtain rfl:x=false:=by rw [f.out];rfl
  go_wp2_with fail;go_ret;exact⟨rfl,by go_grown⟩
 go_wp2_with fail;refine(q.out _).mono ?_;rintro e g ⟨rfl,rfl⟩
 cases b
 case false =>
  obtain rfl:x=false:=by rw [f.out];rfl
  go_wp2_with fail;go_ret;exact⟨rfl,by go_grown⟩
 go_wp2_with fail;refine(o.out _).mono ?_;rintro e g ⟨rfl,rfl⟩
 cases c
 case false =>
  obtain rfl:x=false:=by rw [f.out];rfl
  go_wp2_with fail;go_ret;exact⟨rfl,by go_grown⟩
 go_wp2_with fail;refine(n.out _).mono ?_;rintro e g ⟨rfl,rfl⟩;obtain rfl:x=d:=by rw [f.out];rfl
 go_wp2_with fail;go_ret;exact⟨rfl,by go_grown⟩
theorem var_i (v:Vr) (x:Bool) (hx:okV v=x) (w:World):Calls prog 25 #[.agg #[iL v.p,iL v.c,iL v.h,iL v.s]] w λ e w'=>e=.returned (.bool x)∧zB w w':=by
 unfold okV at hx;have m:=kD hx;clear hx;obtain⟨a,l⟩:∃ a,decide (2<=v.p∧v.p<=24)=a:=⟨_,rfl⟩;obtain⟨b,k⟩:∃ b,decide (1<=v.c∧v.c<=15)=b:=⟨_,rfl⟩;obtain⟨c,j⟩:∃ c,decide (1<=v.h∧v.h<=v.p)=c:=⟨_,rfl⟩;obtain⟨d,i⟩:∃ d,decide (1<=v.s∧v.s<=6)=d:=⟨_,rfl⟩;have f:Hid (x=(a && b && c && d)):=kD (by rw [<-m.out,<-l,<-k,<-j,<-i];simp only [Bool.decide_and];simp [Bool.and_assoc]);have r:=kD (λ w=>in_i v.p 2 24 a l w);have q:=kD (λ w=>in_i v.c 1 15 b k w);have o:=kD (λ w=>in_i v.h 1 v.p c j w);have n:=kD (λ w=>in_i v.s 1 6 d i w);clear l k j i m;go_enter func25,ntmps25;go_wp2_with fail;refine(r.out _).mono ?_;rintro e g ⟨rfl,rfl⟩
 cases a
 case false =>
  obtain rfl:x=false:=by rw [f.out];rfl
  go_wp2_with fail;go_ret;exact⟨rfl,by go_grown⟩
 go_wp2_with fail;refine(q.out _).mono ?_;rintro e g ⟨rfl,rfl⟩
 cases b
 case false =>
  obtain rfl:x=false:=by rw [f.out];rfl
  go_wp2_with fail;go_ret;exact⟨rfl,by go_grown⟩
 go_wp2_with fail;refine(o.out _).mono ?_;rintro e g ⟨rfl,rfl⟩
 cases c
 case false =>
  obtain rfl:x=false:=by rw [f.out];rfl
  go_wp2_with fail;go_ret;exact⟨rfl,by go_grown⟩
 go_wp2_with fail;refine(n.out _).mono ?_;rintro e g ⟨rfl,rfl⟩;obtain rfl:x=d:=by rw [f.out];rfl
 go_wp2_with fail;go_ret;exact⟨rfl,by go_grown⟩
theorem sum_s (A:Option Addr) (cp B:Nat) (xs:List Int) (w:World) (hr:RdS w B 1 enI A xs) (hx:∀ i,0<=at_ xs i∧at_ xs i<=1000) (hl:xs.length<=1000) :
  Calls prog 142 #[.slice A xs.length cp] w λ e w'=>e=.returned (iL xs.sum)∧w=w':=by
 obtain⟨n,a⟩:=eX (xs.length);obtain⟨z,c⟩:=eX (xs.sum);have m:=kD a;have j:=kD hx;have h:Hid (sumU xs n=z):=kD (by rw [<-a,sumU_all,c]);rw [a] at hl;rw [a,c];clear a c hx;go_enter func142,ntmps142;go_wp2_with fail;go_loopw [3,4] (λ s i wr=>∃(k:Nat) (t:Int),k<=n∧s=iL t∧i=iL (k:Int)∧Hid (w=wr)∧0<=t∧t<=1000*(k:Int)∧Hid (t=sumU xs k)) (λ _ i _=>n - (intOf i).toNat)
 case atStart=>exact⟨0,0,Nat.zero_le _,by first | rfl | trivial,by first | rfl | trivial,kD (by first | rfl | trivial),by omega,by omega,rfl⟩
 case round =>
  obtain⟨k,t,v,rfl,rfl,d,r,q,f⟩:=hrel;obtain rfl:=d.out;clear d;by_cases hlt:k<n
  ·obtain⟨b,g,rfl,y,x⟩:=at_rd hr (i:=k) (by rw [m.out];exact hlt);obtain⟨p,o⟩:=j.out k;have l:Hid (t+at_ xs k=sumU xs (k+1)):=kD (by simp only [sumU];rw [f.out]);go_wp2_with fail;go_roundw
   case rel=>exact⟨k+1,t+at_ xs k,by omega,by first | rfl | trivial,by go_num,kD (by first | rfl | trivial),by omega,by omega,l⟩
   case measure=>simp [intOf];omega
  ·obtain rfl:k=n:=by omega
   obtain rfl:t=z:=by rw [f.out,h.out]
   go_wp2_with fail;go_ret;exact⟨rfl,rfl⟩
theorem sum_sq (A:Option Addr) (n cp B:Nat) (xs:List Int) (z:Int) (hn:xs.length=n) (hz:xs.sum=z) (w:World) (k:Nat) (hr:RdS w B 1 enI A xs) (hx:∀ i,0<=at_ xs i∧at_ xs i<=1000) (hl:xs.length<=1000):Calls prog 142 #[.slice A n cp] (w.drewN k) λ e w''=>e=.returned (iL z)∧∃ m,w''=w.drewN m:=by
 subst hn hz;exact Calls.quiet_of_same ((sum_s A cp B xs (w.drewN k) hr hx hl).mono λ _ _ h=>⟨h.1,h.2.symm⟩)
theorem sum_i (A:Option Addr) (cp B:Nat) (xs:List Int) (w:World) (hr:RdS w B 1 enI A xs) (hx:∀ i,0<=at_ xs i∧at_ xs i<=1000) (hl:xs.length<=1000) :
  Calls prog 168 #[.slice A xs.length cp] w λ e w'=>e=.returned (iL xs.sum)∧w=w':=by
 obtain⟨n,a⟩:=eX (xs.length);obtain⟨z,c⟩:=eX (xs.sum);have m:=kD a;have j:=kD hx;have h:Hid (sumU xs n=z):=kD (by rw [<-a,sumU_all,c]);rw [a] at hl;rw [a,c];clear a c hx;go_enter func168,ntmps168;go_wp2_with fail;go_loopw [3,8] (λ s i wr=>∃(k:Nat) (t:Int),k<=n∧s=iL t∧i=iL (k:Int)∧Hid (w=wr)∧0<=t∧t<=1000*(k:Int)∧Hid (t=sumU xs k)) (λ _ i _=>n - (intOf i).toNat)
 case atStart=>exact⟨0,0,Nat.zero_le _,by first | rfl | trivial,by first | rfl | trivial,kD (by first | rfl | trivial),by omega,by omega,rfl⟩
 case round =>
  obtain⟨k,t,v,rfl,rfl,d,r,q,f⟩:=hrel;obtain rfl:=d.out;clear d;by_cases hlt:k<n
  ·obtain⟨b,g,rfl,y,x⟩:=at_rd hr (i:=k) (by rw [m.out];exact hlt);obtain⟨p,o⟩:=j.out k;have l:Hid (t+at_ xs k=sumU xs (k+1)):=kD (by simp only [sumU];rw [f.out]);go_wp2_with fail;go_roundw
   case rel=>exact⟨k+1,t+at_ xs k,by omega,by first | rfl | trivial,by go_num,kD (by first | rfl | trivial),by omega,by omega,l⟩
   case measure=>simp [intOf];omega
  ·obtain rfl:k=n:=by omega
   obtain rfl:t=z:=by rw [f.out,h.out]
   go_wp2_with fail;go_ret;exact⟨rfl,rfl⟩
theorem sum_iq (A:Option Addr) (n cp B:Nat) (xs:List Int) (z:Int) (hn:xs.length=n) (hz:xs.sum=z) (w:World) (k:Nat) (hr:RdS w B 1 enI A xs) (hx:∀ i,0<=at_ xs i∧at_ xs i<=1000) (hl:xs.length<=1000):Calls prog 168 #[.slice A n cp] (w.drewN k) λ e w''=>e=.returned (iL z)∧∃ m,w''=w.drewN m:=by
 subst hn hz;exact Calls.quiet_of_same ((sum_i A cp B xs (w.drewN k) hr hx hl).mono λ _ _ h=>⟨h.1,h.2.symm⟩)
theorem last_s (A:Option Addr) (cp B:Nat) (xs:List Int) (w:World) (hr:RdS w B 1 enI A xs) (hl:xs.length<=1000) :
  Calls prog 199 #[.slice A xs.length cp] w λ e w'=>e=.returned (iL (last xs))∧w=w':=by
 obtain⟨n,a⟩:=eX (xs.length);obtain⟨z,c⟩:=eX (last xs);have l:=kD a;have j:Hid (lastU xs n=z):=kD (by rw [<-a,<-c];rfl);rw [a] at hl;rw [a,c];clear a c;go_enter func199,ntmps199;go_wp2_with fail;go_loopw [3,4] (λ s i wr=>∃(k:Nat) (t:Int),k<=n∧s=iL t∧i=iL (k:Int)∧Hid (w=wr)∧Hid (t=lastU xs k)) (λ _ i _=>n - (intOf i).toNat)
 case atStart=>exact⟨0,-1,Nat.zero_le _,by first | rfl | trivial,by first | rfl | trivial,kD (by first | rfl | trivial),rfl⟩
 case round =>
  obtain⟨k,t,m,rfl,rfl,f,g⟩:=hrel;obtain rfl:=f.out;clear f;by_cases hlt:k<n
  ·obtain⟨b,h,rfl,p,o⟩:=at_rd hr (i:=k) (by rw [l.out];exact hlt);by_cases hp:0<at_ xs k
   ·have d:Hid ((k:Int)=lastU xs (k+1)):=kD (by simp only [lastU];rw [if_pos hp]);go_wp2_with fail;go_roundw
    case rel=>exact⟨k+1,(k:Int),by omega,by first | rfl | trivial,by go_num,kD (by first | rfl | trivial),d⟩
    case measure=>simp [intOf];omega
   ·have d:Hid (t=lastU xs (k+1)):=kD (by simp only [lastU];rw [if_neg hp,g.out]);go_wp2_with fail;go_roundw
    case rel=>exact⟨k+1,t,by omega,by first | rfl | trivial,by go_num,kD (by first | rfl | trivial),d⟩
    case measure=>simp [intOf];omega
  ·obtain rfl:k=n:=by omega
   obtain rfl:t=z:=by rw [g.out,j.out]
   go_wp2_with fail;go_ret;exact⟨rfl,rfl⟩
theorem last_i (A:Option Addr) (cp B:Nat) (xs:List Int) (w:World) (hr:RdS w B 1 enI A xs) (hl:xs.length<=1000) :
  Calls prog 195 #[.slice A xs.length cp] w λ e w'=>e=.returned (iL (last xs))∧w=w':=by
 obtain⟨n,a⟩:=eX (xs.length);obtain⟨z,c⟩:=eX (last xs);have o:=kD a;have l:Hid (lastU xs n=z):=kD (by rw [<-a,<-c];rfl);rw [a] at hl;rw [a,c];clear a c;go_enter func195,ntmps195;go_wp2_with fail;go_loopw [3] (λ i wr=>∃(k:Nat),k<=n∧i=iL ((k:Int) - 1)∧Hid (w=wr)∧Hid (lastU xs k=z)) (λ i _=>(intOf i+1).toNat)
 case atStart=>exact⟨n,Nat.le_refl _,by first | rfl | trivial,kD (by first | rfl | trivial),l⟩
 case round =>
  obtain⟨k,p,rfl,g,d⟩:=hrel;obtain rfl:=g.out;clear g;by_cases hlt:0<k
  ·obtain⟨j,rfl⟩:∃ j,k=j+1:=⟨k - 1,by omega⟩;have f:(((j+1:Nat):Int) - 1)=(j:Int):=by omega
   rw [f];obtain⟨b,h,rfl,r,q⟩:=at_rd hr (i:=j) (by rw [o.out];omega);by_cases hp:0<at_ xs j
   ·obtain rfl:(j:Int)=z:=by rw [<-d.out];simp only [lastU];rw [if_pos hp]
    clear f;go_wp2_with fail;go_ret;exact⟨rfl,rfl⟩
   ·have m:Hid (lastU xs j=z):=kD (by rw [<-d.out];simp only [lastU];rw [if_neg hp]);clear f;go_wp2_with fail;go_roundw
    case rel=>exact⟨j,by omega,by first | rfl | trivial | go_num,kD (by first | rfl | trivial),m⟩
    case measure=>simp [intOf] <;> omega
  ·obtain rfl:k=0:=by omega
   obtain rfl:-1=z:=by rw [<-d.out];rfl
   go_wp2_with fail;go_ret;exact⟨rfl,rfl⟩
end Bd1
namespace Bd2
open Go.ChangeShapes Go.WideShapes Go.ChangeAt Go.RowKit Base Ints Own Clone RelG PlP Bd1
theorem sumU_le {l:List Int} (h:∀ i,0<=at_ l i):∀ k,0<=sumU l k∧∀ j,j<=k->sumU l j<=sumU l k:=by
 intro k
 induction k with
 | zero=>exact⟨by simp [sumU],λ j a=>by rw [show j=0 from by omega];exact Int.le_refl _⟩
 | succ k ih =>
  have b:=h k;simp only [sumU];refine⟨by omega,λ j a=>?_⟩;by_cases e:j=k+1
  ·subst e;simp only [sumU];omega
  ·have:=ih.2 j (by omega);omega
theorem okS_len {v:Vr} {l:List Int} (h:¬ (l.length:Int)=v.p+1):okS v l=false:=by
 cases hc:okS v l with
 | false=>rfl
 | true=>exact absurd (okS_iff.1 hc).len h
theorem okS_at {v:Vr} {l:List Int} (k:Nat) (h:¬ (0<=at_ l k∧at_ l k<=v.c)):okS v l=false:=by
 cases hc:okS v l with
 | false=>rfl
 | true=>exact absurd ⟨(okS_iff.1 hc).nn k,(okS_iff.1 hc).top k⟩ h
theorem okS_left {v:Vr} {l:List Int} {k:Nat} (hk:k<l.length) (h:v.c<sumU l (k+1)):okS v l=false:=by
 cases hc:okS v l with
 | false=>rfl
 | true =>
  have a:=(sumU_le (okS_iff.1 hc).nn l.length).2 (k+1) (by omega);rw [sumU_all] at a;have:=(okS_iff.1 hc).sum;omega
theorem okS_all {v:Vr} {l:List Int} (h1:(l.length:Int)=v.p+1) (h2:∀ i,0<=at_ l i):okS v l=decide (l.sum<=v.c):=by
 by_cases h:l.sum<=v.c
 ·rw [decide_eq_true h];exact okS_iff.2 ⟨h1,h2,h⟩
 ·rw [decide_eq_false h]
  cases hc:okS v l with
  | false=>rfl
  | true=>exact absurd (okS_iff.1 hc).sum h
theorem nn_of {l:List Int} {c:Int} (h:∀ i,i<l.length->0<=at_ l i∧at_ l i<=c) (hc:0<=c):∀ i,0<=at_ l i∧at_ l i<=c:=by
 intro i;rcases Nat.lt_or_ge i l.length with hi | hi
 ·exact h i hi
 ·rw [at_out hi];omega
theorem side_s (v:Vr) (hv:okV v=true) (A:Option Addr) (cp B:Nat) (l:List Int) (x:Bool) (hx:okS v l=x) (w:World) (hB:B<=w.heap.size) (hr:RdS w B 1 enI A l) :
  Calls prog 141 #[.agg #[iL v.p,iL v.c,iL v.h,iL v.s],.slice A l.length cp] w λ e w'=>e=.returned (.bool x)∧zB w w':=by
 have hv:=okV_iff.1 hv;obtain⟨⟨R,Q⟩,⟨X,W⟩,-,-⟩:=hv;have r:=hr.len;obtain⟨n,m⟩:=eX (l.length);have b:=kD m;have t:=kD hx;have F:=kD hr;have V:=iW ((v.p+1));rw [m] at r;rw [m];clear m hx hr;by_cases hlen:(n:Int)=v.p+1
 case neg =>
  obtain rfl:x=false:=by rw [<-t.out,okS_len (by rw [b.out];exact hlen)]
  have I:((n:Int) != v.p+1)=true:=by simp [hlen]
  clear hlen;go_enter func141,ntmps141;go_wp2_with fail;go_ret;exact⟨rfl,by go_grown⟩
 have I:((n:Int) != v.p+1)=false:=by simp [hlen]
 have K:=kD hlen;have D:n<=25:=by omega
 clear hlen;go_enter func141,ntmps141;go_wp2_with fail;go_loopw [5] (λ i wr=>∃(k:Nat),k<=n∧i=iL (k:Int)∧Hid (zB w wr)∧RowB wr w.heap.size 25 [iL v.p,iL v.c,iL v.h,iL v.s]∧Hid (∀ j,j<k->0<=at_ l j∧at_ l j<=v.c)) (λ i _=>n - (intOf i).toNat)
 case atStart=>exact⟨0,Nat.zero_le _,by first | rfl | trivial,kD (by go_grown),RowB.new _ _ _,λ j E=>absurd E (by omega)⟩
 case round =>
  obtain⟨k,S,rfl,g,d,a⟩:=hrel;obtain⟨P,O,N,M⟩:=d.c4;by_cases hlt:k<n
  ·obtain⟨Y,G,rfl,H,T⟩:=at_rd (F.out.below g.out hB) (i:=k) (by rw [b.out];exact hlt);obtain⟨y,C⟩:∃ y,decide (0<=at_ l k∧at_ l k<=v.c)=y:=⟨_,rfl⟩;have o:=kD C;clear C
   cases y
   case false =>
    obtain rfl:x=false:=by rw [<-t.out];exact okS_at k (of_decide_eq_false o.out)
    go_wp2_with fail;go_quiet ((go_at_call 56;exact in_sq _ _ _ false o.out _ _));go_wp2_with fail;go_ret;exact⟨rfl,below_drewN g.out _⟩
   case true =>
    have L:Hid (∀ j,j<k+1->0<=at_ l j∧at_ l j<=v.c):=kD (λ j E=>by
     by_cases e:j=k
     ·subst e;exact of_decide_eq_true o.out
     ·exact a.out j (by omega))
    go_wp2_with fail;go_quiet ((go_at_call 56;exact in_sq _ _ _ true o.out _ _));go_wp2_with fail;go_roundw
    case rel=>exact⟨k+1,by omega,by go_num,kD (below_drewN g.out _),d.drewN _,L⟩
    case measure=>simp [intOf];omega
  ·obtain rfl:k=n:=by omega
   have f:=kD (nn_of (l:=l) (by rw [b.out];exact a.out) (by omega));obtain⟨z,q⟩:=eX (l.sum);obtain rfl:x=decide (z<=v.c):=by rw [<-t.out,okS_all (by rw [b.out];exact K.out) (λ i=>(f.out i).1),q]
   have J:=kD q;clear q;go_wp2_with fail;go_quiet ((go_at_call 142;exact sum_sq A _ cp B l z b.out J.out _ _ (F.out.below g.out hB) (λ i=>by have:=f.out i;omega) (by rw [b.out];omega)));go_wp2_with fail;go_ret;exact⟨rfl,below_drewN g.out _⟩
theorem side_i (v:Vr) (hv:okV v=true) (A:Option Addr) (cp B:Nat) (l:List Int) (x:Bool) (hx:okS v l=x) (w:World) (hB:B<=w.heap.size) (hr:RdS w B 1 enI A l) :
  Calls prog 193 #[.agg #[iL v.p,iL v.c,iL v.h,iL v.s],.slice A l.length cp] w λ e w'=>e=.returned (.bool x)∧zB w w':=by
 have hv:=okV_iff.1 hv;obtain⟨⟨M,L⟩,⟨R,Q⟩,-,-⟩:=hv;have q:=hr.len;obtain⟨n,g⟩:=eX (l.length);have b:=kD g;have m:=kD hx;have G:=kD hr;have P:=iW ((v.p+1));rw [g] at q;rw [g];clear g hx hr;by_cases hlen:(n:Int)=v.p+1
 case neg =>
  obtain rfl:x=false:=by rw [<-m.out,okS_len (by rw [b.out];exact hlen)]
  have E:((n:Int) != v.p+1)=true:=by simp [hlen]
  clear hlen;go_enter func193,ntmps193;go_wp2_with fail;go_ret;exact⟨rfl,by go_grown⟩
 have E:((n:Int) != v.p+1)=false:=by simp [hlen]
 have H:=kD hlen;have r:n<=25:=by omega
 clear hlen;go_enter func193,ntmps193;go_wp2_with fail;go_loopw [5,18] (λ t i wr=>∃(k:Nat) (y:Int),k<=n∧t=iL y∧i=iL (k:Int)∧Hid (zB w wr)∧0<=y∧y<=15∧Hid (y=v.c - sumU l k)∧Hid (∀ j,j<k->0<=at_ l j)) (λ _ i _=>n - (intOf i).toNat)
 case atStart=>exact⟨0,v.c,Nat.zero_le _,by first | rfl | trivial,by first | rfl | trivial,kD (by go_grown),by omega,by omega,kD (by simp [sumU]),λ j z=>absurd z (by omega)⟩
 case round =>
  obtain⟨k,y,N,rfl,rfl,f,K,J,o,a⟩:=hrel;by_cases hlt:k<n
  ·obtain⟨S,C,rfl,D,O⟩:=at_rd (G.out.below f.out hB) (i:=k) (by rw [b.out];exact hlt);by_cases h0:at_ l k<0
   ·obtain rfl:x=false:=by rw [<-m.out];exact okS_at k (λ h=>by omega)
    go_wp2_with fail;go_ret;exact⟨rfl,f.out⟩
   by_cases h1:y<at_ l k
   ·obtain rfl:x=false:=by rw [<-m.out];exact okS_left (k:=k) (by rw [b.out];exact hlt) (by simp only [sumU];have:=o.out;omega)
    go_wp2_with fail;go_ret;exact⟨rfl,f.out⟩
   ·have I:Hid (∀ j,j<k+1->0<=at_ l j):=kD (λ j z=>by
     by_cases e:j=k
     ·subst e;omega
     ·exact a.out j (by omega))
    have F:Hid (y - at_ l k=v.c - sumU l (k+1)):=kD (by simp only [sumU];have:=o.out;omega);go_wp2_with fail;go_roundw
    case rel=>exact⟨k+1,y - at_ l k,by omega,by first | rfl | trivial,by go_num,f,by omega,by omega,F,I⟩
    case measure=>simp [intOf];omega
  ·obtain rfl:k=n:=by omega
   have d:∀ i,0<=at_ l i:=λ i=>by
    rcases Nat.lt_or_ge i l.length with hi | hi
    ·exact a.out i (by rw [<-b.out];exact hi)
    ·rw [at_out hi];exact Int.le_refl _
   obtain rfl:x=true:=by
    rw [<-m.out,okS_all (by rw [b.out];exact H.out) d];refine decide_eq_true ?_;rw [<-sumU_all,b.out];have:=o.out;omega
   clear d;go_wp2_with fail;go_ret;exact⟨rfl,f.out⟩
theorem over_s (v:Vr) (b:Bd) (hb:Ok v b) (Ao At:Option Addr) (co ct B:Nat) (w:World) (hB:B<=w.heap.size) (ho:RdS w B 1 enI Ao b.1) (ht:RdS w B 1 enI At b.2) (x:Bool) (hx:over b=x) :
  Calls prog 175 #[.agg #[.slice Ao b.1.length co,.slice At b.2.length ct]] w λ e w'=>e=.returned (.bool x)∧zB w w':=by
 have c:=hb.v1;have g:=kD (λ w (h:RdS w B 1 enI Ao b.1)=>sum_s Ao co B b.1 w h (λ i=>⟨hb.own.nn i,by have:=hb.own.top i;omega⟩) (by have:=hb.own.len;omega));have f:=kD (λ w (h:RdS w B 1 enI At b.2)=>sum_s At ct B b.2 w h (λ i=>⟨hb.oth.nn i,by have:=hb.oth.top i;omega⟩) (by have:=hb.oth.len;omega));unfold over at hx;have a:=kD hx;clear hx hb c;go_enter func175,ntmps175;go_wp2_with fail;refine(g.out _ (ho.below (by go_grown) hB)).mono ?_;rintro e k ⟨rfl,rfl⟩;by_cases h1:b.1.sum=0
 ·obtain rfl:x=true:=by rw [<-a.out];simp [h1]
  have d:(b.1.sum == 0)=true:=by simp [h1]
  clear h1;go_wp2_with fail;go_ret;exact⟨rfl,by go_grown⟩
 ·obtain rfl:x=(b.2.sum == 0):=by rw [<-a.out];simp [h1];rfl
  have d:(b.1.sum == 0)=false:=by simp [h1]
  clear h1;go_wp2_with fail;refine(f.out _ (ht.below (by go_grown) hB)).mono ?_;rintro e j ⟨rfl,rfl⟩;go_wp2_with fail;go_ret;exact⟨rfl,by go_grown⟩
theorem over_i (v:Vr) (b:Bd) (hb:Ok v b) (Ao At:Option Addr) (co ct B:Nat) (w:World) (hB:B<=w.heap.size) (ho:RdS w B 1 enI Ao b.1) (ht:RdS w B 1 enI At b.2) (x:Bool) (hx:over b=x) :
  Calls prog 166 #[.agg #[.slice Ao b.1.length co,.slice At b.2.length ct]] w λ e w'=>e=.returned (.bool x)∧zB w w':=by
 have c:=hb.v1;have g:=kD (λ w (h:RdS w B 1 enI Ao b.1)=>sum_i Ao co B b.1 w h (λ i=>⟨hb.own.nn i,by have:=hb.own.top i;omega⟩) (by have:=hb.own.len;omega));have f:=kD (λ w (h:RdS w B 1 enI At b.2)=>sum_i At ct B b.2 w h (λ i=>⟨hb.oth.nn i,by have:=hb.oth.top i;omega⟩) (by have:=hb.oth.len;omega));unfold over at hx;have a:=kD hx;clear hx hb c;go_enter func166,ntmps166;go_wp2_with fail;refine(g.out _ (ho.below (by go_grown) hB)).mono ?_;rintro e k ⟨rfl,rfl⟩;by_cases h1:b.1.sum=0
 ·obtain rfl:x=true:=by rw [<-a.out];simp [h1]
  have d:(b.1.sum == 0)=true:=by simp [h1]
  clear h1;go_wp2_with fail;go_ret;exact⟨rfl,by go_grown⟩
 ·obtain rfl:x=(b.2.sum == 0):=by rw [<-a.out];simp [h1];rfl
  have d:(b.1.sum == 0)=false:=by simp [h1]
  clear h1;go_wp2_with fail;refine(f.out _ (ht.below (by go_grown) hB)).mono ?_;rintro e j ⟨rfl,rfl⟩;go_wp2_with fail;go_ret;exact⟨rfl,by go_grown⟩
end Bd2
namespace Bd5
open Go.ChangeShapes Go.WideShapes Go.RowKit Base PlP
def enSt (s:Stp):List Value:=[iL s.1,iL s.2.1,iL s.2.2.1,.bool s.2.2.2]
theorem enSt_len (s:Stp):(enSt s).length=4:=rfl
theorem one_St (s:Stp):∀ u ∈ enSt s,u.oneCell'=true:=by intro u a;simp [enSt] at a;rcases a with rfl | rfl | rfl | rfl <;> rfl
theorem infoSt:(Tryz.prog.info? 111).map (λ i=>(i.zero,i.size,i.bytes))=some (some (.agg #[iL 0,iL 0,iL 0,.bool false]),4,32):=by kernel_rfl
theorem rdStp_at {w:World} {B:Nat} {A:Option Addr} {xs:List Stp} (h:RdS w B 4 enSt A xs) {i:Nat} (hi:i<xs.length) :
  ∃ b off p q r s,A=some ⟨b,off,none⟩∧b<B∧xs[i]?=some (p,q,r,s)∧w.cell? ⟨b,off+i*4,none⟩=some (iL p)∧w.cell? ⟨b,off+i*4+1,none⟩=some (iL q)∧w.cell? ⟨b,off+i*4+2,none⟩=some (iL r)∧w.cell? ⟨b,off+i*4+3,none⟩=some (.bool s):=by
 obtain⟨b,off,⟨p,q,r,s⟩,e,d,c,a⟩:=h.at_ hi;exact⟨b,off,p,q,r,s,e,d,c,a 0 _ rfl,a 1 _ rfl,a 2 _ rfl,a 3 _ rfl⟩
end Bd5
end Go.Proofs.YtjdefiinmicjiaaGreatDoor
