/- Parts of the proof of FnHints. Conditions: each theorem's own. -/
import Derived.Test.YtmncnhbjifeoeaaGreatT01
import Derived.Test.YtmncnhbjifeoeaaGreatT02
set_option linter.unusedVariables false
set_option linter.unusedSimpArgs false
set_option maxHeartbeats 8000000
set_option maxRecDepth 100000
namespace Go.Proofs.YtmncnhbjifeoeaaGreat
namespace PlP
def rollB (v:Vr) (x y:Int):Bool:=decide (1<=x∧x<=v.s) && decide (1<=y∧y<=x)
def legal1 (v:Vr) (b:Bd) (s:Stp):Bool :=
 !over b && decide (1<=s.2.2.1∧s.2.2.1<=v.s) && decide (0<=s.1∧s.1<=v.p) && decide (stepP v b s.1 s.2.2.1=some s)
def followP (v:Vr):Bd->List Int->List Stp->Option Bd
 | b,_,[]=>some b
 | _,[],_ :: _=>none
 | b,d :: ds,s :: ss=>if s.2.2.1=d∧legal1 v b s=true then followP v (afterP v b s) ds ss else none
def firstF (v:Vr) (b:Bd) (ss:List Stp):List (List Int)->Option Bd
 | []=>none
 | o :: os=>match followP v b o ss with
  | some c=>some c
  | none=>firstF v b ss os
def ordS (v:Vr) (b:Bd) (x y:Int):List (List Int):=if usedP v b (ordP x y)=1∧(ordP x y).length=2∧0<(legalP v b x).length then (ordP x y).take 1 else ordP x y
def playP (v:Vr) (b:Bd) (x y:Int) (ss:List Stp):Option Bd:=if ss.length=usedP v b (ordP x y) then firstF v b ss (ordS v b x y) else none
def playGo (v:Vr) (b:Bd) (ss:List Stp) (n:Nat):List (List Int)->List (List (List Pl))->Option Bd
 | o :: os,R :: Rs=>if R.length<=n then playGo v b ss n os Rs else match followP v b o ss with
  | some c=>some c
  | none=>if n=1 then none else playGo v b ss n os Rs
 | _,_=>none
def playI (v:Vr) (b:Bd) (x y:Int) (ss:List Stp):Option Bd :=
 if ss.length=usedR ((ordP x y).map λ o=>(rowsP v b o).1) 0 then playGo v b ss (usedR ((ordP x y).map λ o=>(rowsP v b o).1) 0) (ordP x y) ((ordP x y).map λ o=>(rowsP v b o).1) else none
theorem legal1_iff {v:Vr} {b:Bd} {s:Stp}:legal1 v b s=true↔over b=false∧(1<=s.2.2.1∧s.2.2.1<=v.s)∧(0<=s.1∧s.1<=v.p)∧stepP v b s.1 s.2.2.1=some s:=by
 unfold legal1;simp only [Bool.and_eq_true,Bool.not_eq_true',decide_eq_true_eq,and_assoc]
theorem lgU_has {v:Vr} {b:Bd} {d:Int} {s:Stp} {j:Nat} (h:stepP v b (v.p - (j:Int)) d=some s):∀ k,j<k->s ∈ lgU v b d k:=by
 intro k
 induction k with
 | zero=>intro c;omega
 | succ k ih =>
  intro a;simp only [lgU,List.mem_append];by_cases e:j=k
  ·subst e;right;rw [h];simp
  ·left;exact ih (by omega)
theorem legal1_mem {v:Vr} {b:Bd} {s:Stp} (hv:0<=v.p) (h:legal1 v b s=true):s ∈ legalP v b s.2.2.1:=by
 obtain⟨c,e,d,a⟩:=legal1_iff.1 h;unfold legalP;rw [if_neg (by rw [c];simp)];refine lgU_has (j:=(v.p - s.1).toNat) ?_ _ (by omega);rw [show v.p - ((v.p - s.1).toNat:Int)=s.1 by omega];exact a
theorem legal_one {v:Vr} {b:Bd} {d:Int} {s:Stp} (hv:0<=v.p) (h:s ∈ legalP v b d):s.2.2.1=d:=by
 obtain⟨c,f,e,a⟩:=legal_mem hv h;unfold stepP at a;split at a
 ·cases a
 ·split at a
  ·split at a
   ·simp only [Option.some.injEq] at a;rw [<-a]
   ·cases a
  ·split at a
   ·cases a
   ·simp only [Option.some.injEq] at a;rw [<-a]
theorem legal1_ok {v:Vr} {b:Bd} {s:Stp} (hb:Ok v b) (h:legal1 v b s=true):Ok v (afterP v b s):=by
 obtain⟨e,d,c,a⟩:=legal1_iff.1 h;exact after_ok c d.1 hb e a
theorem hasB_iff {out:List Pl} {b:Bd}:hasB out b=true↔∃ q ∈ out,q.2=b:=by
 unfold hasB;rw [List.any_eq_true];simp
theorem addOne_hasB {out:List Pl} {p:Pl} {b:Bd} (h:hasB out b=true):hasB (addOne out p) b=true:=by
 obtain⟨q,a,e⟩:=hasB_iff.1 h;exact hasB_iff.2 ⟨q,addOne_keep a,e⟩
theorem addOne_self (out:List Pl) (p:Pl):hasB (addOne out p) p.2=true:=by
 unfold addOne;split
 ·assumption
 ·exact hasB_iff.2 ⟨p,by simp,rfl⟩
theorem nxIn_hasB {v:Vr} {p:Pl} {b:Bd}:∀(ss:List Stp) (out:List Pl),hasB out b=true->hasB (nxIn v p ss out) b=true:=by
 intro ss
 induction ss with
 | nil=>intro out h;exact h
 | cons s ss ih=>intro out h;exact ih _ (addOne_hasB h)
theorem nxIn_at {v:Vr} {p:Pl} {s:Stp}:∀(ss:List Stp) (out:List Pl),s ∈ ss->hasB (nxIn v p ss out) (afterP v p.2 s)=true:=by
 intro ss
 induction ss with
 | nil=>intro out h;simp at h
 | cons t ss ih =>
  intro out h;rcases List.mem_cons.1 h with rfl | h
  ·exact nxIn_hasB ss _ (addOne_self out (p.1++[s],afterP v p.2 s))
  ·exact ih _ h
theorem nxGo_hasB {v:Vr} {d:Int} {b:Bd}:∀(ps out:List Pl),hasB out b=true->hasB (nxGo v d ps out) b=true:=by
 intro ps
 induction ps with
 | nil=>intro out h;exact h
 | cons p ps ih=>intro out h;exact ih _ (nxIn_hasB _ _ h)
theorem nxGo_at {v:Vr} {d:Int} {b:Bd} {s:Stp} (hs:s ∈ legalP v b d):∀(ps out:List Pl),hasB ps b=true->hasB (nxGo v d ps out) (afterP v b s)=true:=by
 intro ps
 induction ps with
 | nil=>intro out h;simp [hasB] at h
 | cons p ps ih =>
  intro out h;obtain⟨q,a,e⟩:=hasB_iff.1 h;rcases List.mem_cons.1 a with rfl | a
  ·refine nxGo_hasB ps _ ?_;subst e;exact nxIn_at _ _ hs
  ·exact ih _ (hasB_iff.2 ⟨q,a,e⟩)
theorem rowsGo_ge (v:Vr):∀(ds:List Int) (rows:List (List Pl)) (fine:Bool),rows.length<=(rowsGo v ds rows fine).1.length:=by
 intro ds
 induction ds with
 | nil=>intro rows fine;exact Nat.le_refl _
 | cons d ds ih =>
  intro rows fine;simp only [rowsGo];split
  ·exact Nat.le_refl _
  ·have:=ih (rows++[nextP v d (rows.getLastD [])]) (fine && decide ((nextP v d (rows.getLastD [])).length<=3000));simp only [List.length_append,List.length_cons,List.length_nil] at this;omega
theorem follow_rows {v:Vr} (hv:0<=v.p):∀(ds:List Int) (b:Bd) (ss:List Stp) (c:Bd) (rows:List (List Pl)) (fine:Bool),hasB (rows.getLastD []) b=true->followP v b ds ss=some c->rows.length+ss.length<=(rowsGo v ds rows fine).1.length
 | ds,b,[],c,rows,fine,hh,h=>rowsGo_ge v ds rows fine
 | [],b,s :: ss,c,rows,fine,hh,h=>by simp [followP] at h
 | d :: ds,b,s :: ss,c,rows,fine,hh,h=>by
  simp only [followP] at h;split at h
  ·rename_i h1
   have hm:=legal1_mem hv h1.2;rw [h1.1] at hm;have hn:hasB (nextP v d (rows.getLastD [])) (afterP v b s)=true:=nxGo_at hm _ _ hh;have hl:¬ (nextP v d (rows.getLastD [])).length=0:=by
    obtain⟨q,a,_⟩:=hasB_iff.1 hn;intro e;rw [List.eq_nil_of_length_eq_zero e] at a;simp at a
   simp only [rowsGo];rw [if_neg hl];have:=follow_rows hv ds _ ss c (rows++[nextP v d (rows.getLastD [])]) (fine && decide ((nextP v d (rows.getLastD [])).length<=3000)) (by simpa using hn) h;simp only [List.length_append,List.length_cons,List.length_nil] at this ⊢;omega
  ·cases h
theorem follow_short {v:Vr} (hv:0<=v.p) {b c:Bd} {o:List Int} {ss:List Stp} (h:followP v b o ss=some c):ss.length<(rowsP v b o).1.length:=by
 have:=follow_rows hv o b ss c [[([],b)]] true (by simp [hasB]) h;unfold rowsP;simp only [List.length_cons,List.length_nil] at this;omega
theorem rows_one {v:Vr} (hv:0<=v.p) (b:Bd) (d:Int) (ds:List Int):(rowsP v b (d :: ds)).1.length<=1↔(legalP v b d).length=0:=by
 have e:rowsP v b (d :: ds)=if (nextP v d [([],b)]).length=0 then ([[([],b)]],true) else rowsGo v ds [[([],b)],nextP v d [([],b)]] (true && decide ((nextP v d [([],b)]).length<=3000)):=rfl
 have c:(nextP v d [([],b)]).length=0↔(legalP v b d).length=0:=by
  constructor
  ·intro h;rcases Nat.eq_zero_or_pos (legalP v b d).length with h0 | h0
   ·exact h0
   ·exfalso
    have g:(legalP v b d)[0] ∈ legalP v b d:=List.getElem_mem h0;have i:hasB (nextP v d [([],b)]) (afterP v b (legalP v b d)[0])=true:=nxGo_at g [([],b)] [] (by simp [hasB]);obtain⟨q,a,_⟩:=hasB_iff.1 i;rw [List.eq_nil_of_length_eq_zero h] at a;simp at a
  ·intro h;rw [next_go];simp only [nxGo,List.foldl,nxIn];rw [List.eq_nil_of_length_eq_zero h]
   rfl
 rw [e];split
 ·rename_i h;simp [c.1 h]
 ·rename_i h
  have:=rowsGo_ge v ds [[([],b)],nextP v d [([],b)]] (true && decide ((nextP v d [([],b)]).length<=3000));simp only [List.length_cons,List.length_nil] at this
  constructor
  ·intro f;omega
  ·intro f;exact absurd (c.2 f) h
theorem usedR_two (a b:List (List Pl)):usedR [a,b] 0=max (a.length - 1) (b.length - 1):=by
 show max (max 0 (a.length - 1)) (b.length - 1)=_
 omega
theorem usedR_one (a:List (List Pl)):usedR [a] 0=a.length - 1:=by
 show max 0 (a.length - 1)=_
 omega
theorem used_eq (v:Vr) (b:Bd) (x y:Int):usedR ((ordP x y).map λ o=>(rowsP v b o).1) 0=usedP v b (ordP x y):=by
 unfold ordP;split
 ·simp only [List.map_cons,List.map_nil,usedR_one,usedP,(lng_rows v b _).1];omega
 ·simp only [List.map_cons,List.map_nil,usedR_two,usedP,(lng_rows v b _).1];omega
theorem playI_eq {v:Vr} (hv:0<=v.p) (b:Bd) (x y:Int) (ss:List Stp):playI v b x y ss=playP v b x y ss:=by
 unfold playI playP;rw [used_eq];obtain⟨n,i⟩:∃ n,usedP v b (ordP x y)=n:=⟨_,rfl⟩;rw [i];by_cases hl:ss.length=n
 case neg=>rw [if_neg hl,if_neg hl]
 rw [if_pos hl,if_pos hl];unfold ordS;rw [i];have a:∀ o,(rowsP v b o).1.length<=n->followP v b o ss=none:=λ o h=>by
  cases hf:followP v b o ss with
  | none=>rfl
  | some c=>have:=follow_short hv hf;omega
 by_cases e:x=y
 ·have g:ordP x y=[[x,x,x,x]]:=by unfold ordP;rw [if_pos e]
  rw [g];have d:¬ (n=1∧([[x,x,x,x]]:List (List Int)).length=2∧0<(legalP v b x).length):=λ h=>by have:=h.2.1;simp at this
  rw [if_neg d];simp only [List.map_cons,List.map_nil,playGo,firstF];split
  ·rename_i h;rw [a _ h]
  ·cases followP v b [x,x,x,x] ss with
   | some c=>rfl
   | none=>simp only [ite_self]
 ·have g:ordP x y=[[x,y],[y,x]]:=by unfold ordP;rw [if_neg e]
  have k:=rows_one hv b x [y];rw [g];have j:=a [y,x];by_cases h1:(rowsP v b [x,y]).1.length<=n
  ·have m:=a _ h1;have d:¬ (n=1∧([[x,y],[y,x]]:List (List Int)).length=2∧0<(legalP v b x).length):=λ h=>by
    have f:=h.1;subst f;have:=k.1 h1;omega
   rw [if_neg d];simp only [List.map_cons,List.map_nil,playGo,firstF,if_pos h1,m];split
   ·rename_i f;rw [j f]
   ·cases followP v b [y,x] ss with
    | some c=>rfl
    | none=>simp only [ite_self]
  ·by_cases hn1:n=1
   ·subst hn1;have l:0<(legalP v b x).length:=by
     rcases Nat.eq_zero_or_pos (legalP v b x).length with h0 | h0
     ·exact absurd (k.2 h0) h1
     ·exact h0
    rw [if_pos ⟨rfl,rfl,l⟩];simp only [List.map_cons,List.map_nil,playGo,firstF,if_neg h1,List.take,if_true]
   ·have d:¬ (n=1∧([[x,y],[y,x]]:List (List Int)).length=2∧0<(legalP v b x).length):=λ h=>hn1 h.1
    rw [if_neg d];simp only [List.map_cons,List.map_nil,playGo,firstF,if_neg h1,if_neg hn1]
    cases followP v b [x,y] ss with
    | some c=>rfl
    | none =>
     simp only;split
     ·rename_i f;rw [j f]
     ·cases followP v b [y,x] ss with
      | some c=>rfl
      | none=>rfl
structure Gm where
 b:Bd
 pl:Int
 x:Int
 y:Int
 ph:Int
 wn:Int
 rs:Int
 tn:Int
def startL (v:Vr):List Int :=
 if v.p=24∧v.c=15∧v.h=6∧v.s=6 then ((((List.replicate 25 (0:Int)).set 5 5).set 7 3).set 12 5).set 23 2
 else ((List.replicate (v.p+1).toNat (0:Int)).set (v.p - 1).toNat (v.c / 2)).set (v.p / 2 - 1).toNat (v.c - v.c / 2)
def startB (v:Vr):Bd:=(startL v,startL v)
end PlP
namespace PlP
theorem legal_legal1 {v:Vr} {b:Bd} {d:Int} {s:Stp} (hv:0<=v.p) (hd:1<=d∧d<=v.s) (h:s ∈ legalP v b d):s.2.2.1=d∧legal1 v b s=true:=by
 have c:=legal_one hv h;obtain⟨g,f,i,a⟩:=legal_mem hv h;have e:s.1=f:=by
  unfold stepP at a;split at a
  ·cases a
  ·split at a
   ·split at a
    ·simp only [Option.some.injEq] at a;rw [<-a]
    ·cases a
   ·split at a
    ·cases a
    ·simp only [Option.some.injEq] at a;rw [<-a]
 exact⟨c,legal1_iff.2 ⟨g,by rw [c];exact hd,by rw [e];exact i,by rw [e,c];exact a⟩⟩
theorem follow_snoc {v:Vr} {s:Stp}:∀(ds:List Int) (b c:Bd) (ss:List Stp),followP v b ds ss=some c->ds[ss.length]?=some s.2.2.1->legal1 v c s=true->followP v b ds (ss++[s])=some (afterP v c s)
 | [],b,c,ss,h,hd,hl=>by simp at hd
 | d :: ds,b,c,[],h,hd,hl=>by
  simp only [followP,Option.some.injEq] at h;subst h;simp only [List.length_nil,List.getElem?_cons_zero,Option.some.injEq] at hd;simp only [List.nil_append,followP];rw [if_pos ⟨hd.symm,hl⟩]
 | d :: ds,b,c,t :: ss,h,hd,hl=>by
  simp only [followP] at h;split at h
  ·rename_i h1
   simp only [List.cons_append,followP];rw [if_pos h1];exact follow_snoc ds _ c ss h (by simpa using hd) hl
  ·cases h
def RowF (v:Vr) (b:Bd) (o:List Int) (k:Nat) (ps:List Pl):Prop:=∀ p ∈ ps,p.1.length=k∧followP v b o p.1=some p.2
theorem next_follow {v:Vr} {b:Bd} {o:List Int} {k:Nat} {ps:List Pl} {d:Int} (hv:0<=v.p) (hd:1<=d∧d<=v.s) (ho:o[k]?=some d) (h:RowF v b o k ps):RowF v b o (k+1) (nextP v d ps):=by
 intro q a;rcases nxGo_mem ps [] a with a | ⟨p,hp,s,hs,rfl⟩
 ·simp at a
 ·obtain⟨c,g⟩:=h p hp;obtain⟨f,e⟩:=legal_legal1 hv hd hs;exact⟨by simp [c],follow_snoc o b p.2 p.1 g (by rw [c,ho,f]) e⟩
theorem lng_follow {v:Vr} {b:Bd} {o:List Int} (hv:0<=v.p) (hd:∀ d ∈ o,1<=d∧d<=v.s):∀(ds:List Int) (ps:List Pl) (k:Nat) (fine:Bool),o.drop k=ds->RowF v b o k ps->RowF v b o (lngGo v ds ps k fine).2.1 (lngGo v ds ps k fine).1:=by
 intro ds
 induction ds with
 | nil=>intro ps k fine _ h;exact h
 | cons d ds ih =>
  intro ps k fine e h;simp only [lngGo];split
  ·exact h
  ·have a:o[k]?=some d:=by
    have:(o.drop k)[0]?=some d:=by rw [e];rfl
    rw [List.getElem?_drop] at this
    simpa using this
   have c:o.drop (k+1)=ds:=by
    have:=congrArg (List.drop 1) e;rw [List.drop_drop] at this
    simpa [Nat.add_comm] using this
   exact ih _ (k+1) _ c (next_follow hv (hd d (List.mem_of_getElem? a)) a h)
theorem lng_row {v:Vr} {b:Bd} {o:List Int} (hv:0<=v.p) (hd:∀ d ∈ o,1<=d∧d<=v.s):RowF v b o (lngP v b o).2.1 (lngP v b o).1 :=
 lng_follow hv hd o [([],b)] 0 true rfl (by intro p hp;simp at hp;subst hp;exact⟨rfl,by cases o <;> rfl⟩)
theorem lng_pos {v:Vr} (b:Bd) (o:List Int):0<(lngP v b o).1.length:=by
 have f:∀(e:List Int) (c:List Pl) (k:Nat) (a:Bool),0<c.length->0<(lngGo v e c k a).1.length:=by
  intro e
  induction e with
  | nil=>intro c k a h;exact h
  | cons d e ih =>
   intro c k a h;simp only [lngGo];split
   ·exact h
   ·exact ih _ _ _ (by omega)
 exact f o [([],b)] 0 true (by simp)
theorem follow_die {v:Vr} {b c:Bd} {d:Int} {ds:List Int} {ss:List Stp} (h:followP v b (d :: ds) ss=some c) (h0:0<ss.length):∃ s r,ss=s :: r∧s.2.2.1=d:=by
 cases ss with
 | nil=>simp at h0
 | cons s r =>
  simp only [followP] at h;split at h
  ·rename_i h1;exact⟨s,r,rfl,h1.1⟩
  ·cases h
theorem all_play {v:Vr} {b:Bd} {x y:Int} (hv:0<=v.p) (hx:1<=x∧x<=v.s) (hy:1<=y∧y<=v.s):∀ p ∈ (allP v b x y).1,playP v b x y p.1=some p.2:=by
 intro p a;by_cases e:x=y
 ·have q:ordP x y=[[x,x,x,x]]:=by unfold ordP;rw [if_pos e]
  have G:=lng_row (b:=b) (o:=[x,x,x,x]) hv (by intro d c;simp at c;subst c;exact hx);unfold allP at a;unfold playP ordS;rw [q] at a ⊢;have w:usedP v b [[x,x,x,x]]=(lngP v b [x,x,x,x]).2.1:=by simp only [usedP];omega
  simp only [allGo,w] at a;have l:p ∈ (lngP v b [x,x,x,x]).1:=by
   split at a
   ·simp at a
   ·rcases addAll_mem _ _ a with a | a
    ·simp at a
    ·exact a
  obtain⟨n,g⟩:=G p l;rw [w,if_pos n,if_neg (by rintro⟨_,h,_⟩;simp at h)];simp only [firstF,g]
 ·have q:ordP x y=[[x,y],[y,x]]:=by unfold ordP;rw [if_neg e]
  have B:=lng_row (b:=b) (o:=[x,y]) hv (by intro d c;simp at c;rcases c with rfl | rfl;exact hx;exact hy);have A:=lng_row (b:=b) (o:=[y,x]) hv (by intro d c;simp at c;rcases c with rfl | rfl;exact hy;exact hx);have C:=lng_pos (v:=v) b [x,y];have K:=rows_one hv b x [y];have D:=lng_rows v b [x,y];unfold allP at a;unfold playP ordS;rw [q] at a ⊢;obtain⟨u,t⟩:∃ u,usedP v b [[x,y],[y,x]]=u:=⟨_,rfl⟩;rw [t] at a ⊢;have E:(lngP v b [x,y]).2.1<=u∧(lngP v b [y,x]).2.1<=u:=by rw [<-t];simp only [usedP];omega
  simp only [allGo] at a;have j:∀(m:List Pl),0<m.length->0<(addAll [] m).length:=λ m h=>addAll_pos h
  have i:(p ∈ (lngP v b [x,y]).1∧(lngP v b [x,y]).2.1=u)∨(p ∈ (lngP v b [y,x]).1∧(lngP v b [y,x]).2.1=u∧¬ (u=1∧(lngP v b [x,y]).2.1=1)):=by
   by_cases hA:(lngP v b [x,y]).2.1≠u∨(u=1∧0=1∧0<([]:List Pl).length)
   ·rw [if_pos hA] at a;have f:(lngP v b [x,y]).2.1≠u:=by rcases hA with h | ⟨_,h,_⟩;exact h;exact absurd h (by decide)
    split at a
    ·simp at a
    ·rename_i hB
     rcases addAll_mem _ _ a with a | a
     ·simp at a
     ·exact .inr ⟨a,Classical.byContradiction λ h=>hB (.inl h),λ h=>f (by omega)⟩
   ·rw [if_neg hA] at a;have f:(lngP v b [x,y]).2.1=u:=Classical.byContradiction λ h=>hA (.inl h)
    split at a
    ·rcases addAll_mem _ _ a with a | a
     ·simp at a
     ·exact .inl ⟨a,f⟩
    ·rename_i hB
     rcases addAll_mem _ _ a with a | a
     ·rcases addAll_mem _ _ a with a | a
      ·simp at a
      ·exact .inl ⟨a,f⟩
     ·exact .inr ⟨a,Classical.byContradiction λ h=>hB (.inl h),λ h=>hB (.inr ⟨h.1,by simp,j _ C⟩)⟩
  rcases i with ⟨l,hn⟩ | ⟨l,hn,hno⟩
  ·obtain⟨n,g⟩:=B p l;rw [if_pos (by omega)];split <;> simp only [firstF,g,List.take]
  ·obtain⟨n,g⟩:=A p l;rw [if_pos (by omega)];have I:¬ (u=1∧([[x,y],[y,x]]:List (List Int)).length=2∧0<(legalP v b x).length):=by
    rintro⟨hu1,_,hl⟩;refine hno ⟨hu1,?_⟩;have L:¬ (rowsP v b [x,y]).1.length<=1:=λ h=>by have:=K.1 h;omega
    have J:=congrArg (λ z=>z.2.1) D.1;simp only at J;omega
   rw [if_neg I];by_cases h0:p.1.length=0
   ·have k:=List.eq_nil_of_length_eq_zero h0;rw [k] at g ⊢;simp only [followP,Option.some.injEq] at g;simp only [firstF,followP,g]
   ·obtain⟨s,r,F,c⟩:=follow_die g (by omega);have H:followP v b [x,y] p.1=none:=by
     rw [F];simp only [followP];rw [if_neg (λ h=>e (by rw [<-h.1,c]))]
    simp only [firstF,H,g]
def Diff (ps:List Pl):Prop:=∀(i j:Nat) (p q:Pl),ps[i]?=some p->ps[j]?=some q->p.2=q.2->i=j
theorem addOne_diff {ps:List Pl} {p:Pl} (h:Diff ps):Diff (addOne ps p):=by
 unfold addOne;split
 ·exact h
 ·rename_i hn
  have f:∀ q ∈ ps,q.2≠p.2:=λ q g e=>hn (hasB_iff.2 ⟨q,g,e⟩)
  intro i j a b d c e;rw [List.getElem?_append] at d c;split at d
  ·split at c
   ·exact h i j a b d c e
   ·rename_i l
    have:b=p:=by
     cases hk:j - ps.length with
     | zero=>rw [hk] at c;simpa using c.symm
     | succ k=>rw [hk] at c;simp at c
    subst this;exact absurd e (f a (List.mem_of_getElem? d))
  ·split at c
   ·have:a=p:=by
     cases hk:i - ps.length with
     | zero=>rw [hk] at d;simpa using d.symm
     | succ k=>rw [hk] at d;simp at d
    subst this;exact absurd e.symm (f b (List.mem_of_getElem? c))
   ·have m:i - ps.length=0:=by
     cases hk:i - ps.length with
     | zero=>rfl
     | succ k=>rw [hk] at d;simp at d
    have l:j - ps.length=0:=by
     cases hk:j - ps.length with
     | zero=>rfl
     | succ k=>rw [hk] at c;simp at c
    omega
theorem addAll_diff:∀(ps out:List Pl),Diff out->Diff (addAll out ps):=by
 intro ps
 induction ps with
 | nil=>intro out h;exact h
 | cons p ps ih=>intro out h;exact ih _ (addOne_diff h)
theorem all_diff (v:Vr) (b:Bd) (x y:Int):Diff (allP v b x y).1:=by
 have e:∀(d:List (List Int)) (u i:Nat) (c:List Pl) (a:Bool),Diff c->Diff (allGo v b u i d c a).1:=by
  intro d
  induction d with
  | nil=>intro u i c a h;exact h
  | cons o d ih =>
   intro u i c a h;simp only [allGo];refine ih _ _ _ _ ?_;split
   ·exact h
   ·exact addAll_diff _ _ h
 exact e _ _ _ _ _ (by intro i j p q f;simp at f)
end PlP
namespace DwP
open Go PlP DrawD
abbrev St:=Nat × Int
section
variable {xs:List Int} {s s0 s1 s2 s3 s4 s5 s6 s7 s8:St}
def fullV:Vr:=⟨24,15,6,6⟩
def v01s (xs:List Int) (s:St):Vr × St :=
 let p:=nx xs s 5;let c:=nx xs p.2 3;let d:=nx xs c.2 3;let h:=nx xs d.2 (2+p.1)
 (⟨2+p.1,1+c.1,1+h.1,1+d.1⟩,h.2)
theorem v01s_0 {p c d h:Int} (n1:Nx xs s 5 p s1) (n2:Nx xs s1 3 c s2) (n3:Nx xs s2 3 d s3) (n4:Nx xs s3 (2+p) h s4):v01s xs s=(⟨2+p,1+c,1+h,1+d⟩,s4):=by
 unfold Nx at *;unfold v01s;simp only [n1,n2,n3,n4]
def v01v (xs:List Int) (s:St):Vr × St :=
 let a:=nx xs s 4
 if a.1=0 then (fullV,a.2) else if a.1=1 then
  let p:=nx xs a.2 21;let c:=nx xs p.2 15;let d:=nx xs c.2 6;let h:=nx xs d.2 ((4+p.1) / 2)
  (⟨4+p.1,1+c.1,1+h.1,1+d.1⟩,h.2)
 else v01s xs a.2
theorem v01v_0 (n0:Nx xs s 4 0 s0):v01v xs s=(fullV,s0):=by
 unfold Nx at *;unfold v01v;simp only [n0,if_true]
theorem v01v_1 {p c d h:Int} (n0:Nx xs s 4 1 s0) (n1:Nx xs s0 21 p s1) (n2:Nx xs s1 15 c s2) (n3:Nx xs s2 6 d s3) (n4:Nx xs s3 ((4+p) / 2) h s4):v01v xs s=(⟨4+p,1+c,1+h,1+d⟩,s4):=by
 unfold Nx at *;unfold v01v;simp only [n0,if_neg (show ¬ (1:Int)=0 by decide),if_true,n1,n2,n3,n4]
theorem v01v_2 {a:Int} {R:Vr × St} (n0:Nx xs s 4 a s0) (h0:¬ a=0) (h1:¬ a=1) (h:v01s xs s0=R):v01v xs s=R:=by
 unfold Nx at *;unfold v01v;simp only [n0,if_neg h0,if_neg h1,h]
def badP (k:Nat):Int:=([1,25,-1,24]:List Int).getD k 0
def anyGo (xs:List Int) (v:Vr) (q:Int × St):Vr × St :=
 if q.1=0 then ({ v with p:=badP (nx xs q.2 4).1.toNat },(nx xs q.2 4).2)
 else if q.1=1 then ({ v with c:=16*(nx xs q.2 2).1 },(nx xs q.2 2).2)
 else if q.1=2 then ({ v with h:=v.p+1 },q.2)
 else if q.1=3 then ({ v with s:=7*(nx xs q.2 2).1 },(nx xs q.2 2).2)
 else (v,q.2)
def v01a (xs:List Int) (s:St):Vr × St:=anyGo xs (v01v xs s).1 (nx xs (v01v xs s).2 40)
theorem v01a_of {v:Vr} {q:Int} {R:Vr × St} (hv:v01v xs s=(v,s0)) (n0:Nx xs s0 40 q s1) (h:anyGo xs v (q,s1)=R):v01a xs s=R:=by
 unfold Nx at *;unfold v01a;rw [hv];simp only [n0,h]
theorem any_0 {v:Vr} {k:Nat} (n1:Nx xs s 4 (k:Int) s1):anyGo xs v (0,s)=({ v with p:=badP k },s1):=by
 unfold Nx at *;unfold anyGo;simp only [if_true,n1,Int.toNat_natCast]
theorem any_1 {v:Vr} {k:Int} (n1:Nx xs s 2 k s1):anyGo xs v (1,s)=({ v with c:=16*k },s1):=by
 unfold Nx at *;unfold anyGo;simp only [if_neg (show ¬ (1:Int)=0 by decide),if_true,n1]
theorem any_2 {v:Vr}:anyGo xs v (2,s)=({ v with h:=v.p+1 },s):=by
 unfold anyGo;simp only [if_neg (show ¬ (2:Int)=0 by decide),if_neg (show ¬ (2:Int)=1 by decide),if_true]
theorem any_3 {v:Vr} {k:Int} (n1:Nx xs s 2 k s1):anyGo xs v (3,s)=({ v with s:=7*k },s1):=by
 unfold Nx at *;unfold anyGo;simp only [if_neg (show ¬ (3:Int)=0 by decide),if_neg (show ¬ (3:Int)=1 by decide),if_neg (show ¬ (3:Int)=2 by decide),if_true,n1]
theorem any_4 {v:Vr} {q:Int} (h0:¬ q=0) (h1:¬ q=1) (h2:¬ q=2) (h3:¬ q=3):anyGo xs v (q,s)=(v,s):=by
 unfold anyGo;simp only [if_neg h0,if_neg h1,if_neg h2,if_neg h3]
end
end DwP
namespace HdP
open Go PlP DrawD DwP
section
variable {xs:List Int} {s s0 s1 s2 s3 s4 s5 s6 s7 s8:St}
def sdGo (xs:List Int) (v:Vr) (tk:List Int) (wd:Int):Nat->List Int->St->List Int × St
 | 0,out,s=>(out,s)
 | j+1,out,s =>
  let a:=nx xs s wd;let b:=nx xs a.2 10
  let i:=if b.1=0 then v.p else a.1
  sdGo xs v tk wd j (if i=v.p∨at_ tk (v.p - 1 - i).toNat=0 then inc out i.toNat 1 else out) b.2
def SdGo (xs:List Int) (v:Vr) (tk:List Int) (wd:Int) (j:Nat) (out:List Int) (s:St) (R:List Int × St):Prop:=sdGo xs v tk wd j out s=R
def sdI (v:Vr) (a b:Int):Int:=if b=0 then v.p else a
theorem sd_yes {v:Vr} {tk out:List Int} {wd a b i:Int} {j k:Nat} {R:List Int × St} (h:SdGo xs v tk wd (j+1) out s R) (n1:Nx xs s wd a s1) (n2:Nx xs s1 10 b s2) (hi:sdI v a b=i) (hk:(k:Int)=i) (hc:i=v.p∨at_ tk (v.p - 1 - i).toNat=0):SdGo xs v tk wd j (inc out k 1) s2 R:=by
 subst hk;unfold SdGo Nx sdI at *;rw [<-h];simp only [sdGo,n1,n2,hi];rw [if_pos hc,Int.toNat_natCast]
theorem sd_no {v:Vr} {tk out:List Int} {wd a b i:Int} {j:Nat} {R:List Int × St} (h:SdGo xs v tk wd (j+1) out s R) (n1:Nx xs s wd a s1) (n2:Nx xs s1 10 b s2) (hi:sdI v a b=i) (hc:¬ (i=v.p∨at_ tk (v.p - 1 - i).toNat=0)):SdGo xs v tk wd j out s2 R:=by
 unfold SdGo Nx sdI at *;rw [<-h];simp only [sdGo,n1,n2,hi,if_neg hc]
theorem sd_end {v:Vr} {tk out:List Int} {wd:Int} {R:List Int × St} (h:SdGo xs v tk wd 0 out s R):R=(out,s):=h.symm
def zr (v:Vr):List Int:=List.replicate (v.p.toNat+1) 0
def sd02 (xs:List Int) (v:Vr) (tk:List Int) (s:St):List Int × St :=
 let w:=nx xs s v.p;let k:=nx xs w.2 (v.c+1)
 sdGo xs v tk (1+w.1) k.1.toNat (zr v) k.2
theorem sd02_of {v:Vr} {tk:List Int} {a:Int} {k:Nat} {R:List Int × St} (n1:Nx xs s v.p a s1) (n2:Nx xs s1 (v.c+1) (k:Int) s2) (h:sdGo xs v tk (1+a) k (zr v) s2=R):sd02 xs v tk s=R:=by
 unfold Nx at *;unfold sd02;simp only [n1,n2,Int.toNat_natCast,h]
def ow (o q:List Int):List Int:=if o.sum+q.sum=0 then o.set 0 1 else o
def bd02 (xs:List Int) (v:Vr) (s:St):Bd × St :=
 let t:=nx xs s 4
 if t.1=0∧4<=v.p then (startB v,t.2)
 else ((ow (sd02 xs v (zr v) t.2).1 (sd02 xs v (sd02 xs v (zr v) t.2).1 (sd02 xs v (zr v) t.2).2).1,(sd02 xs v (sd02 xs v (zr v) t.2).1 (sd02 xs v (zr v) t.2).2).1),(sd02 xs v (sd02 xs v (zr v) t.2).1 (sd02 xs v (zr v) t.2).2).2)
theorem bd02_0 {v:Vr} (n1:Nx xs s 4 0 s1) (h:4<=v.p):bd02 xs v s=(startB v,s1):=by
 unfold Nx at *;unfold bd02;simp only [n1,h,and_self,if_true]
theorem bd02_1 {v:Vr} {t:Int} {o q:List Int} (n1:Nx xs s 4 t s1) (h:¬ (t=0∧4<=v.p)) (h1:sd02 xs v (zr v) s1=(o,s2)) (h2:sd02 xs v o s2=(q,s3)):bd02 xs v s=((ow o q,q),s3):=by
 unfold Nx at *;unfold bd02;simp only [n1];rw [if_neg h];simp only [h1,h2]
def prGo (xs:List Int) (v:Vr) (b:Bd) (k:Nat) (q:Int × St):(Vr × Bd) × St :=
 if q.1=0 then ((v,(inc b.1 k 1,b.2)),q.2)
 else if q.1=1 then ((v,(b.1,b.2.set k (-1))),q.2)
 else if q.1=2 then ((v,(b.1.take k,b.2)),q.2)
 else if q.1=3 then ((v,(zr v,zr v)),q.2)
 else if q.1=4 then (((v01a xs q.2).1,b),(v01a xs q.2).2)
 else if q.1=5 then ((v,(b.1,inc b.2 k 1)),q.2)
 else ((v,b),q.2)
def pr02 (xs:List Int) (s:St):(Vr × Bd) × St :=
 let v:=v01v xs s;let b:=bd02 xs v.1 v.2;let k:=nx xs b.2 (v.1.p+1)
 prGo xs v.1 b.1 k.1.toNat (nx xs k.2 40)
theorem pr02_of {v:Vr} {b:Bd} {k:Nat} {q:Int} {R:(Vr × Bd) × St} (h1:v01v xs s=(v,s1)) (h2:bd02 xs v s1=(b,s2)) (n1:Nx xs s2 (v.p+1) (k:Int) s3) (n2:Nx xs s3 40 q s4) (h:prGo xs v b k (q,s4)=R):pr02 xs s=R:=by
 unfold Nx at *;unfold pr02;simp only [h1,h2,n1,n2,Int.toNat_natCast,h]
theorem pr_0 {v:Vr} {b:Bd} {k:Nat}:prGo xs v b k (0,s)=((v,(inc b.1 k 1,b.2)),s):=by unfold prGo;simp
theorem pr_1 {v:Vr} {b:Bd} {k:Nat}:prGo xs v b k (1,s)=((v,(b.1,b.2.set k (-1))),s):=by unfold prGo;simp
theorem pr_2 {v:Vr} {b:Bd} {k:Nat}:prGo xs v b k (2,s)=((v,(b.1.take k,b.2)),s):=by unfold prGo;simp
theorem pr_3 {v:Vr} {b:Bd} {k:Nat}:prGo xs v b k (3,s)=((v,(zr v,zr v)),s):=by unfold prGo;simp
theorem pr_4 {v v':Vr} {b:Bd} {k:Nat} (h:v01a xs s=(v',s1)):prGo xs v b k (4,s)=((v',b),s1):=by unfold prGo;simp [h]
theorem pr_5 {v:Vr} {b:Bd} {k:Nat}:prGo xs v b k (5,s)=((v,(b.1,inc b.2 k 1)),s):=by unfold prGo;simp
theorem pr_6 {v:Vr} {b:Bd} {k:Nat} {q:Int} (h0:¬ q=0) (h1:¬ q=1) (h2:¬ q=2) (h3:¬ q=3) (h4:¬ q=4) (h5:¬ q=5):prGo xs v b k (q,s)=((v,b),s):=by
 unfold prGo;simp only [if_neg h0,if_neg h1,if_neg h2,if_neg h3,if_neg h4,if_neg h5]
def d15 (xs:List Int) (s:St):(Vr × Bd) × St :=
 let p:=nx xs s 3;let c:=nx xs p.2 2;let h:=nx xs c.2 2;let d:=nx xs h.2 2;let t:=nx xs d.2 16
 if t.1=0 then pr02 xs t.2 else ((⟨4+p.1,1+c.1,1+h.1,1+d.1⟩,(bd02 xs ⟨4+p.1,1+c.1,1+h.1,1+d.1⟩ t.2).1),(bd02 xs ⟨4+p.1,1+c.1,1+h.1,1+d.1⟩ t.2).2)
theorem d15_0 {p c h d:Int} {R:(Vr × Bd) × St} (n1:Nx xs s 3 p s1) (n2:Nx xs s1 2 c s2) (n3:Nx xs s2 2 h s3) (n4:Nx xs s3 2 d s4) (n5:Nx xs s4 16 0 s5) (hR:pr02 xs s5=R):d15 xs s=R:=by
 unfold Nx at *;unfold d15;simp only [n1,n2,n3,n4,n5,if_true,hR]
theorem d15_1 {p c h d t:Int} {b:Bd} (n1:Nx xs s 3 p s1) (n2:Nx xs s1 2 c s2) (n3:Nx xs s2 2 h s3) (n4:Nx xs s3 2 d s4) (n5:Nx xs s4 16 t s5) (ht:¬ t=0) (hR:bd02 xs ⟨4+p,1+c,1+h,1+d⟩ s5=(b,s6)):d15 xs s=((⟨4+p,1+c,1+h,1+d⟩,b),s6):=by
 unfold Nx at *;unfold d15;simp only [n1,n2,n3,n4,n5,if_neg ht,hR]
def r10 (xs:List Int) (v:Vr) (s:St):(Int × Int) × St :=
 let a:=nx xs s (max 1 v.s);let b:=nx xs a.2 (1+a.1);let t:=nx xs b.2 24
 if t.1=0 then ((1+b.1 - 1,1+a.1),t.2) else ((1+a.1,1+b.1),t.2)
theorem r10_0 {v:Vr} {a b:Int} (n1:Nx xs s (max 1 v.s) a s1) (n2:Nx xs s1 (1+a) b s2) (n3:Nx xs s2 24 0 s3):r10 xs v s=((1+b - 1,1+a),s3):=by
 unfold Nx at *;unfold r10;simp only [n1,n2,n3,if_true]
theorem r10_1 {v:Vr} {a b t:Int} (n1:Nx xs s (max 1 v.s) a s1) (n2:Nx xs s1 (1+a) b s2) (n3:Nx xs s2 24 t s3) (ht:¬ t=0):r10 xs v s=((1+a,1+b),s3):=by
 unfold Nx at *;unfold r10;simp only [n1,n2,n3,if_neg ht]
abbrev Hd:=Vr × Bd × (Int × Int) × Int
def hd29 (xs:List Int):Hd :=
 let b:=d15 xs (st0 xs);let r:=r10 xs b.1.1 b.2;let a:=nx xs r.2 2;let c:=nx xs a.2 24
 (b.1.1,b.1.2,r.1,a.1+c.1 / 23)
theorem hd29_of {v:Vr} {b:Bd} {r:Int × Int} {a c:Int} (h1:d15 xs (st0 xs)=((v,b),s1)) (h2:r10 xs v s1=(r,s2)) (n1:Nx xs s2 2 a s3) (n2:Nx xs s3 24 c s4):hd29 xs=(v,b,r,a+c / 23):=by
 unfold Nx at *;unfold hd29;simp only [h1,h2,n1,n2]
end
end HdP
namespace RegInv
open Go Go.RowKit Base
def downs (ops:Array Oper):Bool:=(List.range ops.size).all λ i=>match ops[i]? with | some o=>o.after.toList.all (λ e=>!Region.binds .any e || decide (e.on<i)) | none=>true
def waitsGo (ops:Array Oper):Nat->Nat->Nat->Bool
 | 0,_,_=>false
 | n+1,k,j=>match ops[k]? with | some o=>o.after.toList.any (λ e=>Region.binds .any e && (e.on == j || waitsGo ops n e.on j)) | none=>false
def waits (ops:Array Oper) (k j:Nat):Bool:=waitsGo ops ops.size k j
def Closed (ops:Array Oper) (L:Nat->Prop):Prop:=∀ k o,ops[k]?=some o->L k->∀ e ∈ o.after,Region.binds .any e=true->L e.on
theorem waitsGo_closed {ops:Array Oper} {L:Nat->Prop} (hc:Closed ops L) (j:Nat):∀(n k:Nat),waitsGo ops n k j=true->(∀ o,ops[k]?=some o->∀ e ∈ o.after,Region.binds .any e=true->L e.on)->L j:=by
 intro n
 induction n with
 | zero=>intro k h;simp [waitsGo] at h
 | succ n ih =>
  intro k h f;unfold waitsGo at h;split at h
  ·rename_i o ho
   obtain⟨e,g,c⟩:=List.any_eq_true.1 h;simp only [Bool.and_eq_true,Bool.or_eq_true,beq_iff_eq] at c;have a:=f o ho e (Array.mem_toList_iff.1 g) c.1;rcases c.2 with h2 | h2
   ·rw [<-h2];exact a
   ·exact ih e.on h2 (λ d b=>hc e.on d b a)
  ·cases h
section
variable {P:Program} {ops:Array Oper} {Q:Exit->Act->World->Prop}
def StepAt (P:Program) (ops:Array Oper) (Q:Exit->Act->World->Prop) (I:Act->(Nat->Prop)->Act->World->Prop) (a0:Act) (i:Nat) (o:Oper):Prop :=
 ∀(L:Nat->Prop) (a:Act) (w:World),I a0 L a w->¬ L i->(∀ j,waits ops i j=true->L j)->(∀ k j,waits ops k j=true->L k->L j) ->
  ∀ K:Act->World->Prop,Hid (∀ a' w',I a0 (λ k=>k=i∨L k) a' w'->K a' w')->if Region.wanted o (yielded ops a.tmps)=true then Oper.wp P o a w K Q else K (a.put o.dst undef) w
def StepsFrom (P:Program) (ops:Array Oper) (Q:Exit->Act->World->Prop) (I:Act->(Nat->Prop)->Act->World->Prop) (a0:Act) (n:Nat):Prop :=
 ∀ i,n<=i->∀ o,ops[i]?=some o->StepAt P ops Q I a0 i o
theorem StepsFrom.cons {I:Act->(Nat->Prop)->Act->World->Prop} {a0:Act} {n:Nat} {o:Oper} (ho:ops[n]?=some o) (h:StepAt P ops Q I a0 n o) (r:StepsFrom P ops Q I a0 (n+1)):StepsFrom P ops Q I a0 n:=by
 intro i c b a;by_cases e:i=n
 ·subst e;rw [ho] at a;simp only [Option.some.injEq] at a;subst a;exact h
 ·exact r i (by omega) b a
theorem StepsFrom.nil {I:Act->(Nat->Prop)->Act->World->Prop} {a0:Act} {n:Nat} (h:ops.size<=n):StepsFrom P ops Q I a0 n:=by
 intro i b o a;have:=(Array.getElem?_eq_some_iff.1 a).1;omega
theorem ready_none (hd:downs ops=true) {listed:Array Bool} (hs:listed.size=ops.size) (hr:Region.ready .any ops listed=[]):∀ k,k<ops.size->listed.getD k false=true:=by
 intro k
 induction k using Nat.strongRecOn with
 | _ k ih =>
  intro c
  cases hl:listed.getD k false with
  | true=>rfl
  | false =>
   exfalso
   have a:k ∈ Region.ready .any ops listed:=by
    rw [mem_ready];refine⟨?_,ops[k],Array.getElem?_eq_getElem c,λ e g h=>?_⟩
    ·have b:k<listed.size:=by omega
     simp only [Array.getD_eq_getD_getElem?,Array.getElem?_eq_getElem b,Option.getD_some] at hl ⊢;exact hl
    ·have f:=List.all_eq_true.1 hd k (List.mem_range.2 c);rw [Array.getElem?_eq_getElem c] at f;have d:=List.all_eq_true.1 f e (Array.mem_toList_iff.2 g);rw [h] at d;have i:e.on<k:=by simpa using d
     exact ih e.on i (by omega)
   rw [hr] at a
   cases a
def leftOf_ (listed:Array Bool):Nat:=listed.toList.countP (λ b=>!b)
theorem left_set {listed:Array Bool} {i:Nat} (h:listed.getD i true=false):leftOf_ (listed.setIfInBounds i true)+1=leftOf_ listed:=by
 have a:i<listed.size:=by
  rcases Nat.lt_or_ge i listed.size with h' | h'
  ·exact h'
  ·simp [Array.getElem?_eq_none h'] at h
 have b:listed.toList[i]?=some false:=by
  simp only [Array.getD_eq_getD_getElem?,Array.getElem?_eq_getElem a,Option.getD_some] at h;simp [a,h]
 unfold leftOf_;rw [Array.toList_setIfInBounds]
 generalize listed.toList=l at b
 clear h a
 induction l generalizing i with
 | nil=>simp at b
 | cons x l ih =>
  cases i with
  | zero=>simp at b;subst b;simp
  | succ i =>
   simp only [List.getElem?_cons_succ] at b;have:=ih b;simp only [List.set_cons_succ,List.countP_cons];omega
theorem left_zero {listed:Array Bool} (h:leftOf_ listed=0):Region.ready .any ops listed=[]:=by
 rw [List.eq_nil_iff_forall_not_mem];intro k a;obtain⟨b,_⟩:=mem_ready.1 a;have:=left_set b;omega
theorem I_ext {I:Act->(Nat->Prop)->Act->World->Prop} {a0:Act} {L L':Nat->Prop} {a:Act} {w:World} (h:∀ k,L k↔L' k) (hI:I a0 L a w):I a0 L' a w:=by
 have e:L=L':=funext λ k=>propext (h k)
 rw [<-e];exact hI
theorem any_inv {I:Act->(Nat->Prop)->Act->World->Prop} {a0:Act} (hd:downs ops=true) (hst:StepsFrom P ops Q I a0 0)
  (fin:∀ L a w,I a0 L a w->(∀ k,k<ops.size->L k)->Q .normal a w) :
  ∀(fuel:Nat) (listed:Array Bool) (a:Act) (w:World),listed.size=ops.size->leftOf_ listed<=fuel->Closed ops (λ k=>listed.getD k false=true)->I a0 (λ k=>listed.getD k false=true) a w->wpAny P .any ops Q fuel listed a w:=by
 intro fuel
 induction fuel with
 | zero =>
  intro listed a w h v f p;have l:=left_zero (ops:=ops) (Nat.le_zero.1 v);exact⟨l,fin _ _ _ p (ready_none hd h l)⟩
 | succ fuel ih =>
  intro listed a w h v f p;refine⟨λ l=>fin _ _ _ p (ready_none hd h l),λ i z=>?_⟩;obtain⟨q,o,m,c⟩:=mem_ready.1 z;have d:i<listed.size:=by
   rcases Nat.lt_or_ge i listed.size with h' | h'
   ·exact h'
   ·simp [Array.getElem?_eq_none h'] at q
  refine wpOp_step m λ B A=>hst i (Nat.zero_le _) o m _ a w p ?_ (λ j r=>waitsGo_closed f j _ i r (λ g b=>by rw [m] at b;simp only [Option.some.injEq] at b;subst b;exact c)) (λ k j r n=>waitsGo_closed f j _ k r (λ g b=>f k g b n)) B (λ D C s=>A _ _ ?_)
  ·simp only [Array.getD_eq_getD_getElem?,Array.getElem?_eq_getElem d,Option.getD_some] at q ⊢;rw [q];simp
  ·have t:=left_set q;refine ih _ _ _ (by simpa using h) (by omega) ?_ (I_ext (λ k=>?_) s)
   ·intro k g b n e x y;refine getD_set_true ?_;by_cases ek:k=i
    ·subst ek;rw [m] at b;simp only [Option.some.injEq] at b;subst b;exact c e x y
    ·refine f k g b ?_ e x y;rw [getD_set_ne false (Ne.symm ek)] at n;exact n
   ·by_cases e:k=i
    ·subst e;simp [d]
    ·rw [getD_set_ne false (Ne.symm e)];simp [e]
theorem region_inv {id:Nat} {a:Act} {w:World} (I:Act->(Nat->Prop)->Act->World->Prop) (hm:P.follows .mixedOrders=true) (hd:downs ops=true)
  (h0:I a (λ _=>False) a w.drew) (hst:StepsFrom P ops Q I a 0) (fin:∀ L a' w',I a L a' w'->(∀ k,k<ops.size->L k)->Q .normal a' w'):(Code.region id ops true).wp P Q a w:=by
 refine wp_region_any hm (any_inv hd hst fin ops.size _ a _ (by simp) ?_ ?_ (I_ext (λ k=>?_) h0))
 ·unfold leftOf_;refine Nat.le_trans List.countP_le_length (by simp)
 ·intro k o c b
  exfalso
  simp only [Array.getD_eq_getD_getElem?,Array.getElem?_replicate] at b;split at b <;> simp at b
 ·simp only [Array.getD_eq_getD_getElem?,Array.getElem?_replicate];split <;> simp
end
end RegInv
theorem bK {ops:Array Go.Oper} {k:Nat} {L:Nat->Prop} (b:∀ j,RegInv.waits ops k j=true->L j) (j:Nat) (h:RegInv.waits ops k j=true:=by kernel_rfl):L j:=b j h

end Go.Proofs.YtmncnhbjifeoeaaGreat
