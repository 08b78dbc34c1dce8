/- Parts of the proof of FnEventText. Conditions: each theorem's own. -/
import Derived.Test.YtjdefiinmicjiaaGreatDoorU03
set_option linter.unusedVariables false
set_option linter.unusedSimpArgs false
set_option maxHeartbeats 8000000
set_option maxRecDepth 100000
namespace Go.Proofs.YtjdefiinmicjiaaGreatDoor
namespace PlP
def rollB (v:Vr) (x y:Int):Bool:=decide (1<=x∧x<=v.s) && decide (1<=y∧y<=x)
def legal1 (v:Vr) (b:Bd) (s:Stp):Bool :=
 !over b && decide (1<=s.2.2.1∧s.2.2.1<=v.s) && decide (0<=s.1∧s.1<=v.p) && decide (stepP v b s.1 s.2.2.1=some s)
def followP (v:Vr):Bd->List Int->List Stp->Option Bd
 | b,_,[]=>some b
 | _,[],_ :: _=>none
 | b,d :: ds,s :: ss=>if s.2.2.1=d∧legal1 v b s=true then followP v (afterP v b s) ds ss else none
def firstF (v:Vr) (b:Bd) (ss:List Stp):List (List Int)->Option Bd
 | []=>none
 | o :: os=>match followP v b o ss with
  | some c=>some c
  | none=>firstF v b ss os
def ordS (v:Vr) (b:Bd) (x y:Int):List (List Int):=if usedP v b (ordP x y)=1∧(ordP x y).length=2∧0<(legalP v b x).length then (ordP x y).take 1 else ordP x y
def playP (v:Vr) (b:Bd) (x y:Int) (ss:List Stp):Option Bd:=if ss.length=usedP v b (ordP x y) then firstF v b ss (ordS v b x y) else none
theorem legal1_iff {v:Vr} {b:Bd} {s:Stp}:legal1 v b s=true↔over b=false∧(1<=s.2.2.1∧s.2.2.1<=v.s)∧(0<=s.1∧s.1<=v.p)∧stepP v b s.1 s.2.2.1=some s:=by
 unfold legal1;simp only [Bool.and_eq_true,Bool.not_eq_true',decide_eq_true_eq,and_assoc]
theorem legal1_ok {v:Vr} {b:Bd} {s:Stp} (hb:Ok v b) (h:legal1 v b s=true):Ok v (afterP v b s):=by
 obtain⟨e,d,c,a⟩:=legal1_iff.1 h;exact after_ok c d.1 hb e a
theorem follow_ok {v:Vr}:∀(ds:List Int) (b:Bd) (ss:List Stp) (c:Bd),Ok v b->followP v b ds ss=some c->Ok v c
 | ds,b,[],c,hb,h=>by simp only [followP,Option.some.injEq] at h;subst h;exact hb
 | [],b,s :: ss,c,hb,h=>by simp [followP] at h
 | d :: ds,b,s :: ss,c,hb,h=>by
  simp only [followP] at h;split at h
  ·rename_i h1;exact follow_ok ds _ ss c (legal1_ok hb h1.2) h
  ·cases h
theorem first_ok {v:Vr} {b c:Bd} {ss:List Stp} (hb:Ok v b):∀(os:List (List Int)),firstF v b ss os=some c->Ok v c
 | [],h=>by simp [firstF] at h
 | o :: os,h=>by
  simp only [firstF] at h;split at h
  ·rename_i d hd
   simp only [Option.some.injEq] at h;subst h;exact follow_ok o b ss _ hb hd
  ·exact first_ok hb os h
theorem play_ok {v:Vr} {b c:Bd} {x y:Int} {ss:List Stp} (hb:Ok v b) (h:playP v b x y ss=some c):Ok v c:=by
 unfold playP at h;split at h
 ·exact first_ok hb _ h
 ·cases h
structure Gm where
 b:Bd
 pl:Int
 x:Int
 y:Int
 ph:Int
 wn:Int
 rs:Int
 tn:Int
structure Ev where
 k:Int
 a:Int
 b:Int
 ss:List Stp
 r:Int
structure Ms where
 s0:Int
 s1:Int
 gs:Int
 g:Gm
 ov:Bool
def resP (v:Vr) (b:Bd):Int :=
 if (if b.1.sum=0 then b.2 else b.1).sum<v.c then 1 else if v.p - v.h<=last (if b.1.sum=0 then b.2 else b.1) then 3 else 2
def startL (v:Vr):List Int :=
 if v.p=24∧v.c=15∧v.h=6∧v.s=6 then ((((List.replicate 25 (0:Int)).set 5 5).set 7 3).set 12 5).set 23 2
 else ((List.replicate (v.p+1).toNat (0:Int)).set (v.p - 1).toNat (v.c / 2)).set (v.p / 2 - 1).toNat (v.c - v.c / 2)
def startB (v:Vr):Bd:=(startL v,startL v)
def newG (v:Vr):Gm:=⟨startB v,0,0,0,0,0,0,0⟩
def gmB (v:Vr) (g:Gm):Bool :=
 okB v g.b && decide (4<=v.p) && decide (0<=g.pl∧g.pl<=1) && decide (0<=g.tn∧g.tn<=2000) &&
 (if g.ph=2 then rollB v g.x g.y else decide (g.x=0∧g.y=0)) &&
 (if g.ph=0 then decide (g.pl=0∧g.wn=0∧g.rs=0∧g.tn=0∧g.b=startB v)
  else if g.ph=1∨g.ph=2 then !over g.b && decide (g.wn=0∧g.rs=0)
  else if g.ph=3 then (if over g.b then decide (g.b.1.sum=0∧g.wn=g.pl∧g.rs=resP v g.b) else decide (g.wn=1 - g.pl∧1<=g.rs∧g.rs<=3))
  else false)
def openC (v:Vr) (g:Gm) (a b:Int):Int:=if gmB v g=false then 1 else if g.ph≠0 then 5 else if decide (1<=a∧a<=v.s)=false∨decide (1<=b∧b<=v.s)=false then 2 else 0
def openG (g:Gm) (a b:Int):Gm :=
 if a=b then g else { g with b:=if a<b then swp g.b else g.b,pl:=if a<b then 1 else g.pl,ph:=2,x:=max a b,y:=min a b }
def rollC (v:Vr) (g:Gm) (x y:Int):Int:=if gmB v g=false then 1 else if g.ph≠1 then 5 else if rollB v x y=false then 2 else 0
def rollG (g:Gm) (x y:Int):Gm:={ g with ph:=2,x:=x,y:=y }
def resgC (v:Vr) (g:Gm) (r:Int):Int:=if gmB v g=false then 1 else if ¬ (g.ph=1∨g.ph=2) then 5 else if decide (1<=r∧r<=3)=false then 2 else 0
def resgG (g:Gm) (r:Int):Gm:={ g with ph:=3,wn:=1 - g.pl,rs:=r,x:=0,y:=0 }
def turnG (v:Vr) (g:Gm) (b:Bd):Gm :=
 if over b then ⟨b,g.pl,0,0,3,g.pl,resP v b,g.tn+1⟩ else ⟨swp b,1 - g.pl,0,0,1,0,0,g.tn+1⟩
def turnP (v:Vr) (g:Gm) (ss:List Stp):Option Gm × Int :=
 if gmB v g=false then (none,1) else if g.ph≠2 then (none,5) else
  match playP v g.b g.x g.y ss with
  | none=>(none,5)
  | some b=>if g.tn=2000 then (none,3) else (some (turnG v g b),0)
def blankP (e:Ev):Bool :=
 if e.k=1 then decide (e.ss.length=0∧e.r=0) else if e.k=2 then decide (e.r=0) else if e.k=3 then decide (e.a=0∧e.b=0∧e.ss.length=0) else false
def gameP (v:Vr) (g:Gm) (e:Ev):Option Gm :=
 if e.k=1 then (if openC v g e.a e.b=0 then some (openG g e.a e.b) else none)
 else if e.k=3 then (if resgC v g e.r=0 then some (resgG g e.r) else none)
 else if g.ph=1 then (if rollC v g e.a e.b=0 then (turnP v (rollG g e.a e.b) e.ss).1 else none)
 else if g.ph=2∧g.x=e.a∧g.y=e.b then (turnP v g e.ss).1 else none
def overS (v:Vr) (len:Int) (x:Ms) (g:Gm):Ms :=
 if g.ph≠3 then ⟨x.s0,x.s1,x.gs,g,false⟩ else
  let t0:=if g.wn=0 then x.s0+g.rs else x.s0
  let t1:=if g.wn=0 then x.s1 else x.s1+g.rs
  if len<=(if g.wn=0 then t0 else t1) then ⟨t0,t1,x.gs+1,g,true⟩ else ⟨t0,t1,x.gs+1,newG v,false⟩
def nextS (v:Vr) (len:Int) (x:Ms) (e:Ev):Option Ms :=
 if x.ov=true∨blankP e=false then none else (gameP v x.g e).map (overS v len x)
def startS (v:Vr):Ms:=⟨0,0,0,newG v,false⟩
def headB (v:Vr) (len:Int):Bool:=okV v && decide (4<=v.p) && decide (1<=len∧len<=25)
theorem gm_parts {v:Vr} {g:Gm} (h:gmB v g=true):Ok v g.b∧4<=v.p∧(0<=g.pl∧g.pl<=1)∧(0<=g.tn∧g.tn<=2000)∧(g.ph=2->(1<=g.x∧g.x<=v.s)∧1<=g.y∧g.y<=g.x)∧(g.ph=1∨g.ph=2->over g.b=false∧g.wn=0∧g.rs=0):=by
 unfold gmB at h;simp only [Bool.and_eq_true,decide_eq_true_eq] at h;obtain⟨⟨⟨⟨⟨j,i⟩,f⟩,e⟩,c⟩,d⟩:=h;refine⟨okB_iff.1 j,i,f,e,λ a=>?_,λ a=>?_⟩
 ·rw [if_pos a] at c;unfold rollB at c
  simpa only [Bool.and_eq_true,decide_eq_true_eq] using c
 ·rw [if_neg (by omega),if_pos a] at d
  simpa only [Bool.and_eq_true,decide_eq_true_eq,Bool.not_eq_true'] using d
theorem game_parts {v:Vr} {g g':Gm} {e:Ev} (h:gameP v g e=some g'):(0<=g'.pl∧g'.pl<=1)∧(0<=g'.tn∧g'.tn<=2000)∧(g'.ph=3->(g'.wn=0∨g'.wn=1)∧1<=g'.rs∧g'.rs<=3)∧Ok v g'.b:=by
 have f:∀ b,1<=resP v b∧resP v b<=3:=λ b=>by unfold resP;split <;> (try split) <;> omega
 have d:∀ {g g':Gm} {l},(turnP v g l).1=some g'->(0<=g'.pl∧g'.pl<=1)∧(0<=g'.tn∧g'.tn<=2000)∧(g'.ph=3->(g'.wn=0∨g'.wn=1)∧1<=g'.rs∧g'.rs<=3)∧Ok v g'.b:=by
  intro g g' l h;unfold turnP at h;split at h
  ·cases h
  ·rename_i h1
   have c:=gm_parts (by simpa using h1);split at h
   ·cases h
   ·split at h
    ·cases h
    ·rename_i b hb
     split at h
     ·cases h
     ·simp only [Option.some.injEq] at h;have i:=play_ok c.1 hb;have n:=f b;unfold turnG at h;split at h
      ·subst h;exact⟨c.2.2.1,⟨by show 0<=g.tn+1;omega,by show g.tn+1<=2000;omega⟩,λ _=>⟨by show g.pl=0∨g.pl=1;omega,n⟩,i⟩
      ·subst h;exact⟨⟨by show 0<=1 - g.pl;omega,by show 1 - g.pl<=1;omega⟩,⟨by show 0<=g.tn+1;omega,by show g.tn+1<=2000;omega⟩,λ j=>absurd (show (1:Int)=3 from j) (by decide),swp_ok i⟩
 unfold gameP at h;split at h
 ·split at h
  ·rename_i h1
   simp only [Option.some.injEq] at h;unfold openC at h1;split at h1
   ·exact absurd h1 (by decide)
   ·rename_i h2
    have c:=gm_parts (by simpa using h2);split at h1
    ·exact absurd h1 (by decide)
    ·rename_i m
     have m:g.ph=0:=by simpa using m
     unfold openG at h;split at h
     ·subst h;exact⟨c.2.2.1,c.2.2.2.1,λ j=>by omega,c.1⟩
     ·subst h;refine⟨?_,c.2.2.2.1,λ j=>absurd (show (2:Int)=3 from j) (by decide),?_⟩
      ·show 0<=(if e.a<e.b then 1 else g.pl)∧(if e.a<e.b then 1 else g.pl)<=1
       have:=c.2.2.1;split <;> omega
      ·show Ok v (if e.a<e.b then swp g.b else g.b)
       split
       ·exact swp_ok c.1
       ·exact c.1
  ·cases h
 ·split at h
  ·split at h
   ·rename_i h1
    simp only [Option.some.injEq] at h;unfold resgC at h1;split at h1
    ·exact absurd h1 (by decide)
    ·rename_i h2
     have c:=gm_parts (by simpa using h2);split at h1
     ·exact absurd h1 (by decide)
     ·split at h1
      ·exact absurd h1 (by decide)
      ·rename_i k
       have k:1<=e.r∧e.r<=3:=by simpa using k
       have:=c.2.2.1;subst h;exact⟨this,c.2.2.2.1,λ _=>⟨by show 1 - g.pl=0∨1 - g.pl=1;omega,k⟩,c.1⟩
   ·cases h
  ·split at h
   ·split at h
    ·exact d h
    ·cases h
   ·split at h
    ·exact d h
    ·cases h
end PlP
namespace PlP
end PlP
namespace DwP
open Go PlP DrawD
abbrev St:=Nat × Int
section
variable {xs:List Int} {s s0 s1 s2 s3 s4 s5 s6 s7 s8:St}
def fullV:Vr:=⟨24,15,6,6⟩
def v08 (xs:List Int) (s:St):Vr × St :=
 let a:=nx xs s 6
 if a.1=0 then (fullV,a.2) else
  let p:=nx xs a.2 5;let c:=nx xs p.2 4;let d:=nx xs c.2 3;let h:=nx xs d.2 ((4+p.1) / 2)
  (⟨4+p.1,1+c.1,1+h.1,2+d.1⟩,h.2)
theorem v08_0 (n0:Nx xs s 6 0 s0):v08 xs s=(fullV,s0):=by
 unfold Nx at *;unfold v08;simp only [n0,if_true]
theorem v08_1 {a p c d h:Int} (n0:Nx xs s 6 a s0) (ha:¬ a=0) (n1:Nx xs s0 5 p s1) (n2:Nx xs s1 4 c s2) (n3:Nx xs s2 3 d s3) (n4:Nx xs s3 ((4+p) / 2) h s4):v08 xs s=(⟨4+p,1+c,1+h,2+d⟩,s4):=by
 unfold Nx at *;unfold v08;simp only [n0,if_neg ha,n1,n2,n3,n4]
def v01s (xs:List Int) (s:St):Vr × St :=
 let p:=nx xs s 5;let c:=nx xs p.2 3;let d:=nx xs c.2 3;let h:=nx xs d.2 (2+p.1)
 (⟨2+p.1,1+c.1,1+h.1,1+d.1⟩,h.2)
theorem v01s_0 {p c d h:Int} (n1:Nx xs s 5 p s1) (n2:Nx xs s1 3 c s2) (n3:Nx xs s2 3 d s3) (n4:Nx xs s3 (2+p) h s4):v01s xs s=(⟨2+p,1+c,1+h,1+d⟩,s4):=by
 unfold Nx at *;unfold v01s;simp only [n1,n2,n3,n4]
def v01v (xs:List Int) (s:St):Vr × St :=
 let a:=nx xs s 4
 if a.1=0 then (fullV,a.2) else if a.1=1 then
  let p:=nx xs a.2 21;let c:=nx xs p.2 15;let d:=nx xs c.2 6;let h:=nx xs d.2 ((4+p.1) / 2)
  (⟨4+p.1,1+c.1,1+h.1,1+d.1⟩,h.2)
 else v01s xs a.2
theorem v01v_0 (n0:Nx xs s 4 0 s0):v01v xs s=(fullV,s0):=by
 unfold Nx at *;unfold v01v;simp only [n0,if_true]
theorem v01v_1 {p c d h:Int} (n0:Nx xs s 4 1 s0) (n1:Nx xs s0 21 p s1) (n2:Nx xs s1 15 c s2) (n3:Nx xs s2 6 d s3) (n4:Nx xs s3 ((4+p) / 2) h s4):v01v xs s=(⟨4+p,1+c,1+h,1+d⟩,s4):=by
 unfold Nx at *;unfold v01v;simp only [n0,if_neg (show ¬ (1:Int)=0 by decide),if_true,n1,n2,n3,n4]
theorem v01v_2 {a:Int} {R:Vr × St} (n0:Nx xs s 4 a s0) (h0:¬ a=0) (h1:¬ a=1) (h:v01s xs s0=R):v01v xs s=R:=by
 unfold Nx at *;unfold v01v;simp only [n0,if_neg h0,if_neg h1,h]
def badP (k:Nat):Int:=([1,25,-1,24]:List Int).getD k 0
def anyGo (xs:List Int) (v:Vr) (q:Int × St):Vr × St :=
 if q.1=0 then ({ v with p:=badP (nx xs q.2 4).1.toNat },(nx xs q.2 4).2)
 else if q.1=1 then ({ v with c:=16*(nx xs q.2 2).1 },(nx xs q.2 2).2)
 else if q.1=2 then ({ v with h:=v.p+1 },q.2)
 else if q.1=3 then ({ v with s:=7*(nx xs q.2 2).1 },(nx xs q.2 2).2)
 else (v,q.2)
def v01a (xs:List Int) (s:St):Vr × St:=anyGo xs (v01v xs s).1 (nx xs (v01v xs s).2 40)
theorem v01a_of {v:Vr} {q:Int} {R:Vr × St} (hv:v01v xs s=(v,s0)) (n0:Nx xs s0 40 q s1) (h:anyGo xs v (q,s1)=R):v01a xs s=R:=by
 unfold Nx at *;unfold v01a;rw [hv];simp only [n0,h]
theorem any_0 {v:Vr} {k:Nat} (n1:Nx xs s 4 (k:Int) s1):anyGo xs v (0,s)=({ v with p:=badP k },s1):=by
 unfold Nx at *;unfold anyGo;simp only [if_true,n1,Int.toNat_natCast]
theorem any_1 {v:Vr} {k:Int} (n1:Nx xs s 2 k s1):anyGo xs v (1,s)=({ v with c:=16*k },s1):=by
 unfold Nx at *;unfold anyGo;simp only [if_neg (show ¬ (1:Int)=0 by decide),if_true,n1]
theorem any_2 {v:Vr}:anyGo xs v (2,s)=({ v with h:=v.p+1 },s):=by
 unfold anyGo;simp only [if_neg (show ¬ (2:Int)=0 by decide),if_neg (show ¬ (2:Int)=1 by decide),if_true]
theorem any_3 {v:Vr} {k:Int} (n1:Nx xs s 2 k s1):anyGo xs v (3,s)=({ v with s:=7*k },s1):=by
 unfold Nx at *;unfold anyGo;simp only [if_neg (show ¬ (3:Int)=0 by decide),if_neg (show ¬ (3:Int)=1 by decide),if_neg (show ¬ (3:Int)=2 by decide),if_true,n1]
theorem any_4 {v:Vr} {q:Int} (h0:¬ q=0) (h1:¬ q=1) (h2:¬ q=2) (h3:¬ q=3):anyGo xs v (q,s)=(v,s):=by
 unfold anyGo;simp only [if_neg h0,if_neg h1,if_neg h2,if_neg h3]
def pr28 (x:Ms) (a b:Int):Int × Int:=if x.g.ph=2 then (x.g.x,x.g.y) else (max (1+a) (1+b),min (1+a) (1+b))
def turn28 (xs:List Int) (v:Vr) (x:Ms) (r:Int × Int) (s:St):Ev × St :=
 if (allP v x.g.b r.1 r.2).2=false then (⟨2,r.1,r.2,[],0⟩,s)
 else (⟨2,r.1,r.2,(((allP v x.g.b r.1 r.2).1[(nx xs s (allP v x.g.b r.1 r.2).1.length).1.toNat]?).map (λ q:Pl=>q.1)).getD [],0⟩,(nx xs s (allP v x.g.b r.1 r.2).1.length).2)
def evGo (xs:List Int) (v:Vr) (x:Ms) (r:Int × Int) (t:Int × St):Ev × St :=
 if t.1=0 then
  let k:=nx xs t.2 5;let p:=nx xs k.2 3;let q:=nx xs p.2 3;let z:=nx xs q.2 4
  (⟨k.1,p.1,q.1,[],z.1⟩,z.2)
 else if x.g.ph=0 then
  let p:=nx xs t.2 v.s;let q:=nx xs p.2 v.s
  (⟨1,1+p.1,1+q.1,[],0⟩,q.2)
 else if (nx xs t.2 16).1=0 then (⟨3,0,0,[],1+(nx xs (nx xs t.2 16).2 3).1⟩,(nx xs (nx xs t.2 16).2 3).2)
 else turn28 xs v x r (nx xs t.2 16).2
def ev28 (xs:List Int) (v:Vr) (x:Ms) (s:St):Ev × St :=
 let a:=nx xs s v.s;let b:=nx xs a.2 v.s
 evGo xs v x (pr28 x a.1 b.1) (nx xs b.2 24)
theorem ev_of {v:Vr} {x:Ms} {a b t:Int} {r:Int × Int} {R:Ev × St} (n1:Nx xs s v.s a s1) (n2:Nx xs s1 v.s b s2) (hr:pr28 x a b=r) (n3:Nx xs s2 24 t s3) (h:evGo xs v x r (t,s3)=R):ev28 xs v x s=R:=by
 unfold Nx at *;unfold ev28;simp only [n1,n2,n3,hr,h]
theorem ev_0 {v:Vr} {x:Ms} {r:Int × Int} {k p q z:Int} (n1:Nx xs s 5 k s1) (n2:Nx xs s1 3 p s2) (n3:Nx xs s2 3 q s3) (n4:Nx xs s3 4 z s4):evGo xs v x r (0,s)=(⟨k,p,q,[],z⟩,s4):=by
 unfold Nx at *;unfold evGo;simp only [if_true,n1,n2,n3,n4]
theorem ev_1 {v:Vr} {x:Ms} {r:Int × Int} {t p q:Int} (ht:¬ t=0) (h0:x.g.ph=0) (n1:Nx xs s v.s p s1) (n2:Nx xs s1 v.s q s2):evGo xs v x r (t,s)=(⟨1,1+p,1+q,[],0⟩,s2):=by
 unfold Nx at *;unfold evGo;simp only [if_neg ht,if_pos h0,n1,n2]
theorem ev_2 {v:Vr} {x:Ms} {r:Int × Int} {t z:Int} (ht:¬ t=0) (h0:¬ x.g.ph=0) (n1:Nx xs s 16 0 s1) (n2:Nx xs s1 3 z s2):evGo xs v x r (t,s)=(⟨3,0,0,[],1+z⟩,s2):=by
 unfold Nx at *;unfold evGo;simp only [if_neg ht,if_neg h0,n1,if_true,n2]
theorem ev_3 {v:Vr} {x:Ms} {r:Int × Int} {t y:Int} {R:Ev × St} (ht:¬ t=0) (h0:¬ x.g.ph=0) (n1:Nx xs s 16 y s1) (hy:¬ y=0) (h:turn28 xs v x r s1=R):evGo xs v x r (t,s)=R:=by
 unfold Nx at *;unfold evGo;simp only [if_neg ht,if_neg h0,n1,if_neg hy,h]
theorem turn_0 {v:Vr} {x:Ms} {r:Int × Int} (h:(allP v x.g.b r.1 r.2).2=false):turn28 xs v x r s=(⟨2,r.1,r.2,[],0⟩,s):=by unfold turn28;rw [if_pos h]
theorem turn_1 {v:Vr} {x:Ms} {r:Int × Int} {k:Nat} {ss:List Stp} {c:Bd} (h:(allP v x.g.b r.1 r.2).2=true) (n1:Nx xs s (allP v x.g.b r.1 r.2).1.length (k:Int) s1) (hk:(allP v x.g.b r.1 r.2).1[k]?=some (ss,c)):turn28 xs v x r s=(⟨2,r.1,r.2,ss,0⟩,s1):=by
 unfold Nx at *;unfold turn28;rw [if_neg (by rw [h];decide)];simp only [n1,Int.toNat_natCast,hk,Option.map_some,Option.getD_some]
def go28 (xs:List Int) (v:Vr) (n:Int):Nat->Ms->List Ev->St->List Ev × St
 | 0,_,es,s=>(es,s)
 | j+1,x,es,s=>match nextS v n x (ev28 xs v x s).1 with
  | some y=>go28 xs v n j y (es++[(ev28 xs v x s).1]) (ev28 xs v x s).2
  | none=>go28 xs v n j x es (ev28 xs v x s).2
def Go28 (xs:List Int) (v:Vr) (n:Int) (j:Nat) (x:Ms) (es:List Ev) (s:St) (R:List Ev × St):Prop:=go28 xs v n j x es s=R
theorem go28_some {v:Vr} {n:Int} {j:Nat} {x y:Ms} {es:List Ev} {e:Ev} {R:List Ev × St} (h:Go28 xs v n (j+1) x es s R) (he:ev28 xs v x s=(e,s1)) (hy:nextS v n x e=some y):Go28 xs v n j y (es++[e]) s1 R:=by
 unfold Go28 at *;rw [<-h];simp only [go28,he,hy]
theorem go28_none {v:Vr} {n:Int} {j:Nat} {x:Ms} {es:List Ev} {e:Ev} {R:List Ev × St} (h:Go28 xs v n (j+1) x es s R) (he:ev28 xs v x s=(e,s1)) (hy:nextS v n x e=none):Go28 xs v n j x es s1 R:=by
 unfold Go28 at *;rw [<-h];simp only [go28,he,hy]
theorem go28_end {v:Vr} {n:Int} {x:Ms} {es:List Ev} {R:List Ev × St} (h:Go28 xs v n 0 x es s R):R=(es,s):=h.symm
abbrev Mch:=Vr × Int × List Ev
def dr28 (xs:List Int) (most:Int) (s:St):Mch × St :=
 let v:=v08 xs s;let a:=nx xs v.2 5
 let k:=nx xs a.2 ((if 20<v.1.p then min most 3 else most)+1)
 let R:=go28 xs v.1 (1+a.1) k.1.toNat (startS v.1) [] k.2
 ((v.1,1+a.1,R.1),R.2)
theorem dr28_of {most m a:Int} {k:Nat} {v:Vr} {R:List Ev × St} (hv:v08 xs s=(v,s1)) (hm:(if 20<v.p then min most 3 else most)=m) (n1:Nx xs s1 5 a s2) (n2:Nx xs s2 (m+1) (k:Int) s3) (h:go28 xs v (1+a) k (startS v) [] s3=R):dr28 xs most s=((v,1+a,R.1),R.2):=by
 unfold Nx at *;unfold dr28;simp only [hv,hm,n1,n2,Int.toNat_natCast,h]
end
end DwP
namespace RelG
open Go Go.RowKit Base Own
def RdF {α:Type} (w:World) (S:Nat->Prop) (sz:Nat) (en:α->List Value) (A:Option Addr) (xs:List α):Prop :=
 xs.length<=maxLen∧(0<xs.length->∃ b off,A=some ⟨b,off,none⟩∧S b∧b<w.heap.size∧∀ i x,xs[i]?=some x->∀ j u,(en x)[j]?=some u->w.cell? ⟨b,off+i*sz+j,none⟩=some u)
def Still (S:Nat->Prop) (w w':World):Prop:=w.heap.size<=w'.heap.size∧∀ b,S b->b<w.heap.size->w'.heap[b]?=w.heap[b]?
theorem Still.below {S:Nat->Prop} {w w':World} (h:Below w.heap.size w w'):Still S w w':=⟨h.size,λ b _ hb=>h.block b hb⟩
theorem Still.grown {S:Nat->Prop} {w w':World} {row:Option Nat} (h:w.grownBy w' row) (hr:∀ g,row=some g->¬ S g):Still S w w' :=
 ⟨h.size,λ b hs hb=>h.block b hb (λ e=>hr b e.symm hs)⟩
theorem Still.trans {S:Nat->Prop} {a b c:World} (h:Still S a b) (k:Still S b c):Still S a c :=
 ⟨Nat.le_trans h.1 k.1,λ i hs hi=>(k.2 i hs (Nat.lt_of_lt_of_le hi h.1)).trans (h.2 i hs hi)⟩
def All (_:Nat):Prop:=True
section
variable {α:Type} {w w':World} {S S':Nat->Prop} {B sz:Nat} {en:α->List Value} {A:Option Addr} {xs:List α}
theorem RdF.keep (h:RdF w S sz en A xs) (hs:Still S w w'):RdF w' S sz en A xs :=
 ⟨h.1,λ hn=>by
  obtain⟨b,off,e,hS,hb,hc⟩:=h.2 hn;exact⟨b,off,e,hS,Nat.lt_of_lt_of_le hb hs.1,λ i x hx j u hu=>(World.cell?_of_block (hs.2 b hS hb)).trans (hc i x hx j u hu)⟩⟩
theorem RdF.weak (h:RdF w S sz en A xs) (hs:∀ b,S b->b<w.heap.size->S' b):RdF w S' sz en A xs :=
 ⟨h.1,λ hn=>by
  obtain⟨b,off,e,hS,hb,hc⟩:=h.2 hn;exact⟨b,off,e,hs b hS hb,hb,hc⟩⟩
theorem RdF.rd (h:RdF w S sz en A xs):RdS w w.heap.size sz en A xs :=
 ⟨h.1,λ hn=>by
  obtain⟨b,off,e,hS,hb,hc⟩:=h.2 hn;exact⟨b,off,e,hb,hc⟩⟩
theorem RdF.of (h:RdS w B sz en A xs) (hB:B<=w.heap.size) (hS:∀ b,b<B->S b):RdF w S sz en A xs :=
 ⟨h.1,λ hn=>by
  obtain⟨b,off,e,hb,hc⟩:=h.2 hn;exact⟨b,off,e,hS b hb,by omega,hc⟩⟩
theorem RdF.nil (w:World) (S:Nat->Prop) (sz:Nat) (en:α->List Value) (A:Option Addr):RdF w S sz en A []:=⟨Nat.zero_le _,λ h=>by simp at h⟩
theorem RdF.len (h:RdF w S sz en A xs):xs.length<=9223372036854775807:=by have:=h.1;unfold maxLen at this;omega
theorem RdF.at_ (h:RdF w S sz en A xs) {i:Nat} (hi:i<xs.length) :
  ∃ b off x,A=some ⟨b,off,none⟩∧S b∧b<w.heap.size∧xs[i]?=some x∧∀ j u,(en x)[j]?=some u->w.cell? ⟨b,off+i*sz+j,none⟩=some u:=by
 obtain⟨b,off,rfl,d,c,a⟩:=h.2 (by omega);exact⟨b,off,xs[i],rfl,d,c,List.getElem?_eq_getElem hi,a i _ (List.getElem?_eq_getElem hi)⟩
end
structure Rel (ρ α:Type) where
 R:World->(Nat->Prop)->ρ->α->Prop
 keep:∀ {w w':World} {S:Nat->Prop} {r:ρ} {x:α},R w S r x->Still S w w'->R w' S r x
 weak:∀ {w:World} {S S':Nat->Prop} {r:ρ} {x:α},R w S r x->(∀ b,S b->b<w.heap.size->S' b)->R w S' r x
def LsR {ρ α:Type} (K:Rel ρ α) (w:World) (S:Nat->Prop) (rs:List ρ) (xs:List α):Prop :=
 rs.length=xs.length∧∀(i:Nat) (r:ρ) (x:α),rs[i]?=some r->xs[i]?=some x->K.R w S r x
section
variable {ρ α:Type} {K:Rel ρ α} {w w':World} {S S':Nat->Prop} {rs:List ρ} {xs:List α}
theorem LsR.keep (h:LsR K w S rs xs) (hs:Still S w w'):LsR K w' S rs xs:=⟨h.1,λ i r x hr hx=>K.keep (h.2 i r x hr hx) hs⟩
theorem LsR.weak (h:LsR K w S rs xs) (hs:∀ b,S b->b<w.heap.size->S' b):LsR K w S' rs xs:=⟨h.1,λ i r x hr hx=>K.weak (h.2 i r x hr hx) hs⟩
theorem LsR.nil (K:Rel ρ α) (w:World) (S:Nat->Prop):LsR K w S [] []:=⟨rfl,λ i r x hr=>by simp at hr⟩
theorem LsR.snoc (h:LsR K w S rs xs) {r:ρ} {x:α} (hr:K.R w S r x):LsR K w S (rs++[r]) (xs++[x]):=by
 refine⟨by simp [h.1],λ i d c a b=>?_⟩;have e:=h.1;rcases Nat.lt_trichotomy i rs.length with hi | hi | hi
 ·rw [List.getElem?_append_left hi] at a;rw [List.getElem?_append_left (by omega)] at b;exact h.2 i d c a b
 ·subst hi;rw [List.getElem?_append_right (Nat.le_refl _),Nat.sub_self] at a;rw [e,List.getElem?_append_right (Nat.le_refl _),Nat.sub_self] at b;simp at a b;subst a b;exact hr
 ·rw [List.getElem?_eq_none (by simp;omega)] at a;cases a
theorem LsR.at_ (h:LsR K w S rs xs) {i:Nat} {r:ρ} (hr:rs[i]?=some r):∃ x,xs[i]?=some x∧K.R w S r x:=by
 have b:=(List.getElem?_eq_some_iff.1 hr).1;have a:i<xs.length:=by rw [<-h.1];exact b
 exact⟨xs[i],List.getElem?_eq_getElem a,h.2 i r _ hr (List.getElem?_eq_getElem a)⟩
theorem LsR.take (h:LsR K w S rs xs) (k:Nat):LsR K w S (rs.take k) (xs.take k):=by
 refine⟨by simp [h.1],λ i r x a b=>?_⟩;rw [List.getElem?_take] at a b;split at a
 ·rw [if_pos (by assumption)] at b;exact h.2 i r x a b
 ·cases a
end
def SlG {ρ α:Type} (K:Rel ρ α) (sz:Nat) (en:ρ->List Value) (w:World) (S:Nat->Prop) (v:Value) (xs:List α):Prop :=
 ∃(A:Option Addr) (c:Nat) (rs:List ρ),v=.slice A xs.length c∧RdF w S sz en A rs∧LsR K w S rs xs∧(A=none->c=0)
def relSl {ρ α:Type} (K:Rel ρ α) (sz:Nat) (en:ρ->List Value):Rel Value (List α) where
 R:=SlG K sz en
 keep:=λ⟨A,c,rs,h1,h2,h3,h4⟩ hs=>⟨A,c,rs,h1,h2.keep hs,h3.keep hs,h4⟩
 weak:=λ⟨A,c,rs,h1,h2,h3,h4⟩ hs=>⟨A,c,rs,h1,h2.weak hs,h3.weak hs,h4⟩
def SlV {α:Type} (sz:Nat) (en:α->List Value) (w:World) (S:Nat->Prop) (v:Value) (xs:List α):Prop :=
 ∃(A:Option Addr) (c:Nat),v=.slice A xs.length c∧RdF w S sz en A xs∧(A=none->c=0)
def relV {α:Type} (sz:Nat) (en:α->List Value):Rel Value (List α) where
 R:=SlV sz en
 keep:=λ⟨A,c,h1,h2,h4⟩ hs=>⟨A,c,h1,h2.keep hs,h4⟩
 weak:=λ⟨A,c,h1,h2,h4⟩ hs=>⟨A,c,h1,h2.weak hs,h4⟩
def NotIn (v:Value) (lo b:Nat):Prop:=v.ownBlock≠some b∧lo<=b
def OwnG {ρ α:Type} (K:Rel ρ α) (w:World) (lo hi:Nat) (e:TypeId) (sz:Nat) (en:ρ->List Value) (v:Value) (xs:List α):Prop :=
 ∃ rs,OwnS w lo hi e sz en v rs∧LsR K w (NotIn v lo) rs xs
def OwnV {α:Type} (e:TypeId) (sz:Nat) (en:α->List Value) (w:World) (S:Nat->Prop) (v:Value) (xs:List α):Prop :=
 OwnS w 0 w.heap.size e sz en v xs∧∀ g,v.ownBlock=some g->S g
theorem OwnV.keep {α:Type} {e:TypeId} {sz:Nat} {en:α->List Value} {w w':World} {S:Nat->Prop} {v:Value} {xs:List α} (h:OwnV e sz en w S v xs) (hs:Still S w w'):OwnV e sz en w' S v xs:=by
 obtain⟨⟨⟨f,d⟩,b⟩,a⟩:=h;refine⟨⟨⟨f,?_⟩,λ g c=>Nat.lt_of_lt_of_le (b g c) hs.1⟩,a⟩;rcases d with hn | ⟨g,cap,cur,rfl,hbg,hgg,rest⟩
 ·exact .inl hn
 ·refine .inr ⟨g,cap,cur,rfl,hbg,?_,rest⟩;rw [hs.2 g (a g rfl) (b g rfl)];exact hgg
def relO {α:Type} (e:TypeId) (sz:Nat) (en:α->List Value):Rel Value (List α) where
 R:=OwnV e sz en
 keep:=OwnV.keep
 weak:=λ h hs=>⟨h.1,λ g hg=>hs g (h.2 g hg) (h.1.2 g hg)⟩
theorem OwnV.sl {α:Type} {e:TypeId} {sz:Nat} {en:α->List Value} {w:World} {S:Nat->Prop} {v:Value} {xs:List α} (hen:∀ x,(en x).length=sz) (h:OwnV e sz en w S v xs):SlV sz en w S v xs:=by
 obtain⟨A,c,f,k⟩:=h.1.form hen;have l:A=none->c=0:=λ d=>by
  rcases h.1.cases_ with ⟨e2,_⟩ | ⟨g,cap,rest,e2,_⟩
  ·rw [f] at e2;simp only [Value.slice.injEq] at e2;exact e2.2.2
  ·rw [f,d] at e2;simp only [Value.slice.injEq] at e2;exact absurd e2.1 (by simp)
 refine⟨A,c,f,⟨k.1,λ j=>?_⟩,l⟩;obtain⟨b,i,d,m,a⟩:=k.2 j;refine⟨b,i,d,?_,m,a⟩;rcases h.1.cases_ with ⟨e2,e3⟩ | ⟨g,cap,rest,e2,_⟩
 ·rw [e3] at j;simp at j
 ·have n:=h.2 g (by rw [e2];rfl);rw [f,d] at e2;simp only [Value.slice.injEq,Option.some.injEq,Addr.mk.injEq] at e2;rw [e2.1.1];exact n
theorem OwnV.of {α:Type} {e:TypeId} {sz lo hi:Nat} {en:α->List Value} {w:World} {S:Nat->Prop} {v:Value} {xs:List α} (h:OwnS w lo hi e sz en v xs) (hh:hi<=w.heap.size) (hS:∀ b,lo<=b->b<hi->S b):OwnV e sz en w S v xs :=
 ⟨(h.less (Nat.zero_le _)).more hh,λ g hg=>hS g (h.block g hg).1 (h.block g hg).2⟩
section
variable {ρ α:Type} {K:Rel ρ α} {w w':World} {lo hi sz:Nat} {e:TypeId} {en:ρ->List Value} {v:Value} {xs:List α}
theorem OwnG.more {hi':Nat} (h:OwnG K w lo hi e sz en v xs) (hh:hi<=hi'):OwnG K w lo hi' e sz en v xs:=by
 obtain⟨a,c,b⟩:=h;exact⟨a,c.more hh,b⟩
theorem OwnG.less {lo':Nat} (h:OwnG K w lo hi e sz en v xs) (hh:lo'<=lo):OwnG K w lo' hi e sz en v xs:=by
 obtain⟨c,f,d⟩:=h;exact⟨c,f.less hh,d.weak (λ b a _=>⟨a.1,by have:=a.2;omega⟩)⟩
theorem OwnG.below_ (h:OwnG K w lo hi e sz en v xs) (hb:Below w.heap.size w w'):OwnG K w' lo hi e sz en v xs:=by
 obtain⟨b,a,c⟩:=h;refine⟨b,⟨⟨a.1.1,?_⟩,a.2⟩,c.keep (.below hb)⟩;rcases a.1.2 with hn | ⟨g,cap,cur,rfl,hbg,hgg,rest⟩
 ·exact .inl hn
 ·refine .inr ⟨g,cap,cur,rfl,hbg,?_,rest⟩;rw [hb.block g (Array.getElem?_eq_some_iff.1 hgg).1];exact hgg
theorem app_still {v:Value} {g n c:Nat} (hg:w.grownBy w' v.ownBlock) (hat:v.ownBlock=some g∨g=w.heap.size) {ρ α:Type} {K:Rel ρ α} {r:ρ} {x:α} (h:K.R w (NotIn v lo) r x):K.R w' (NotIn (.slice (some ⟨g,0,none⟩) n c) lo) r x:=by
 have l:K.R w (λ b=>NotIn v lo b∧b<w.heap.size) r x:=K.weak h (λ b a f=>⟨a,f⟩);have j:=K.keep l (Still.grown (S:=λ b=>NotIn v lo b∧b<w.heap.size) hg (λ k i d=>d.1.1 i));refine K.weak j (λ b a _=>⟨?_,a.1.2⟩);intro e;simp [Value.ownBlock] at e;subst e;rcases hat with hat | hat
 ·exact a.1.1 hat
 ·have:=a.2;omega
theorem OwnG.sl (hen:∀ x,(en x).length=sz) (h:OwnG K w lo hi e sz en v xs) (hh:hi<=w.heap.size):SlG K sz en w (λ b=>lo<=b) v xs:=by
 obtain⟨f,k,d⟩:=h;have g:=OwnV.sl (S:=λ b=>lo<=b) hen (OwnV.of k hh (λ b a _=>a));obtain⟨A,c,rfl,i,j⟩:=g;refine⟨A,c,f,by rw [d.1],i,d.weak (λ _ a _=>a.2),j⟩
end
end RelG
end Go.Proofs.YtjdefiinmicjiaaGreatDoor
