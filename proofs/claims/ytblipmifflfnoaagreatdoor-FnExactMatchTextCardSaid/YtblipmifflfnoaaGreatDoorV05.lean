/- Parts of the proof of FnExactMatchText. Conditions: each theorem's own. -/
import Derived.Test.YtblipmifflfnoaaGreatDoorV03
import Derived.Test.YtblipmifflfnoaaGreatDoorV04
import Derived.Test.YtblipmifflfnoaaGreatDoorRows
import Derived.WalkKit
import Derived.ProofKit
import Derived.Outline
import Derived.WalkLawsBesides
import Derived.Handy
import Derived.Deep.QuietTactic
import Derived.BigQuiet
import Derived.StillTailTactics
set_option linter.unusedVariables false
set_option linter.unusedSimpArgs false
set_option maxHeartbeats 8000000
set_option maxRecDepth 100000
namespace Go.Proofs.YtblipmifflfnoaaGreatDoor
namespace PlP
theorem at_set (l:List Int) (i j:Nat) (x:Int) (h:i<l.length):at_ (l.set i x) j=if j=i then x else at_ l j:=by
 unfold at_;rw [List.getD_eq_getElem?_getD,List.getElem?_set];by_cases e:i=j
 ·subst e;simp [h]
 ·rw [if_neg e,if_neg (λ h=>e h.symm),List.getD_eq_getElem?_getD]
theorem at_rep (n j:Nat):at_ (List.replicate n (0:Int)) j=0:=by
 unfold at_;rw [List.getD_eq_getElem?_getD,List.getElem?_replicate];split <;> rfl
theorem sum_rep (n:Nat):(List.replicate n (0:Int)).sum=0:=by simp
theorem start_ok {v:Vr} (hv:okV v=true) (h4:4<=v.p):Ok v (startB v)∧(startL v).sum=v.c:=by
 have g:=okV_iff.1 hv;unfold startB startL;by_cases hf:v.p=24∧v.c=15∧v.h=6∧v.s=6
 ·obtain⟨p,c,h,s⟩:=v;simp only at hf;obtain⟨rfl,rfl,rfl,rfl⟩:=hf;refine⟨okB_iff.1 (by decide),by decide⟩
 ·simp only [if_neg hf];obtain⟨n,l⟩:∃ n:Nat,(v.p+1).toNat=n:=⟨_,rfl⟩;obtain⟨i,o⟩:∃ i:Nat,(v.p - 1).toNat=i:=⟨_,rfl⟩;obtain⟨j,m⟩:∃ i:Nat,(v.p / 2 - 1).toNat=i:=⟨_,rfl⟩;rw [l,o,m];have b:i<(List.replicate n (0:Int)).length:=by rw [List.length_replicate];omega
  have f:j<((List.replicate n (0:Int)).set i (v.c / 2)).length:=by rw [List.length_set,List.length_replicate];omega
  have d:∀ k,at_ (((List.replicate n (0:Int)).set i (v.c / 2)).set j (v.c - v.c / 2)) k=if k=j then v.c - v.c / 2 else if k=i then v.c / 2 else 0:=by
   intro k;rw [at_set _ _ _ _ f,at_set _ _ _ _ b,at_rep]
  have a:(((List.replicate n (0:Int)).set i (v.c / 2)).set j (v.c - v.c / 2)).sum=v.c:=by
   rw [sum_set _ _ _ f,sum_set _ _ _ b,at_set _ _ _ _ b,at_rep,at_rep,sum_rep,if_neg (by omega)];omega
  have e:Sd v (((List.replicate n (0:Int)).set i (v.c / 2)).set j (v.c - v.c / 2)):=by
   refine⟨by rw [List.length_set,List.length_set,List.length_replicate];omega,λ k=>?_,by rw [a];exact Int.le_refl _⟩;rw [d];split
   ·omega
   ·split <;> omega
  refine⟨⟨g,e,e,by rw [a];omega,λ k q=>?_⟩,a⟩;show ¬ (0<at_ _ k∧0<at_ _ (v.p.toNat - 1 - k))
  rw [d,d];by_cases k1:k=j
  ·rw [if_pos k1];by_cases k2:v.p.toNat - 1 - k=j
   ·omega
   ·rw [if_neg k2];by_cases k3:v.p.toNat - 1 - k=i
    ·omega
    ·rw [if_neg k3];omega
  ·rw [if_neg k1];by_cases k4:k=i
   ·rw [if_pos k4];by_cases k2:v.p.toNat - 1 - k=j
    ·omega
    ·rw [if_neg k2];by_cases k3:v.p.toNat - 1 - k=i
     ·omega
     ·rw [if_neg k3];omega
   ·rw [if_neg k4];omega
theorem start_over {v:Vr} (hv:okV v=true) (h4:4<=v.p):over (startB v)=false:=by
 have a:=okV_iff.1 hv;have:=(start_ok hv h4).2;unfold over startB;simp only [this,Bool.or_self,decide_eq_false_iff_not];omega
theorem new_valid {v:Vr} (hv:okV v=true) (h4:4<=v.p):gmB v (newG v)=true:=by
 unfold gmB newG;simp [okB_iff.2 (start_ok hv h4).1,h4]
theorem step_oth {v:Vr} {b:Bd} {s:Stp} (hb:Ok v b) (h:legal1 v b s=true):(afterP v b s).2.sum=b.2.sum:=by
 obtain⟨m,n,g,f⟩:=legal1_iff.1 h;obtain⟨k,j,i,d⟩:=step_parts g hb f;have e:=hb.oth.len;have l:=hb.v1;unfold afterP;simp only;split
 ·rename_i hh
  rcases d with ⟨a1,a2,a3,a4⟩ | ⟨_,_,a4⟩
  ·have c:(v.p - 1 - s.2.1).toNat<b.2.length:=by omega
   have a:v.p.toNat<(inc b.2 (v.p - 1 - s.2.1).toNat (-1)).length:=by rw [inc_len];omega
   rw [inc_sum _ _ _ a,inc_sum _ _ _ c];omega
  ·rw [a4] at hh;cases hh
 ·rfl
theorem follow_oth {v:Vr}:∀(ds:List Int) (b:Bd) (ss:List Stp) (c:Bd),Ok v b->followP v b ds ss=some c->c.2.sum=b.2.sum
 | ds,b,[],c,hb,h=>by simp only [followP,Option.some.injEq] at h;subst h;rfl
 | [],b,s :: ss,c,hb,h=>by simp [followP] at h
 | d :: ds,b,s :: ss,c,hb,h=>by
  simp only [followP] at h;split at h
  ·rename_i h1
   rw [follow_oth ds _ ss c (legal1_ok hb h1.2) h,step_oth hb h1.2]
  ·cases h
theorem first_oth {v:Vr} {b c:Bd} {ss:List Stp} (hb:Ok v b):∀(os:List (List Int)),firstF v b ss os=some c->c.2.sum=b.2.sum
 | [],h=>by simp [firstF] at h
 | o :: os,h=>by
  simp only [firstF] at h;split at h
  ·rename_i d hd
   simp only [Option.some.injEq] at h;subst h;exact follow_oth o b ss _ hb hd
  ·exact first_oth hb os h
theorem play_oth {v:Vr} {b c:Bd} {x y:Int} {ss:List Stp} (hb:Ok v b) (h:playP v b x y ss=some c):c.2.sum=b.2.sum:=by
 unfold playP at h;split at h
 ·exact first_oth hb _ h
 ·cases h
theorem res_bd (v:Vr) (b:Bd):1<=resP v b∧resP v b<=3:=by unfold resP;split <;> (try split) <;> omega
theorem over_swp (b:Bd):over (swp b)=over b:=by unfold over swp;simp only;rw [Bool.or_comm]
theorem turn_valid {v:Vr} {g g':Gm} {ss:List Stp} (hg:gmB v g=true) (h:(turnP v g ss).1=some g'):gmB v g'=true:=by
 have c:=gm_parts hg;unfold turnP at h;rw [if_neg (by rw [hg];decide)] at h;by_cases h2:g.ph=2
 ·rw [if_neg (by rw [h2];decide)] at h;split at h
  ·cases h
  ·rename_i b hb
   split at h
   ·cases h
   ·rename_i htn
    simp only [Option.some.injEq] at h;have e:=play_ok c.1 hb;have d:=play_oth c.1 hb;have l:=res_bd v b;have f:=(c.2.2.2.2.2 (.inr h2)).1;unfold turnG at h;by_cases a:over b=true
    ·rw [if_pos a] at h;subst h;have i:b.1.sum=0:=by
      unfold over at f a;simp only [Bool.or_eq_true,Bool.or_eq_false_iff,decide_eq_true_eq,decide_eq_false_iff_not] at f a;rcases a with h | h
      ·exact h
      ·rw [d] at h;exact absurd h f.2
     unfold gmB;have k:=c.2.2.1;have j:=c.2.2.2.1;simp [okB_iff.2 e,c.2.1,a,i];omega
    ·rw [if_neg a] at h;subst h;have a:over b=false:=by simpa using a
     unfold gmB;have k:=c.2.2.1;have j:=c.2.2.2.1;simp [okB_iff.2 (swp_ok e),c.2.1,over_swp,a];omega
 ·rw [if_pos h2] at h;cases h
theorem roll_valid {v:Vr} {g:Gm} {x y:Int} (hg:gmB v g=true) (h1:g.ph=1) (hr:rollB v x y=true):gmB v (rollG g x y)=true:=by
 unfold gmB at hg ⊢;unfold rollG;simp only [h1] at hg;simp only [hr];simp only [if_true,Bool.and_eq_true,decide_eq_true_eq,Bool.and_true] at hg ⊢;obtain⟨⟨a,b⟩,c⟩:=hg;refine⟨a,?_⟩
 simpa using c
theorem rollC_zero {v:Vr} {g:Gm} {x y:Int} (h:rollC v g x y=0):gmB v g=true∧g.ph=1∧rollB v x y=true:=by
 unfold rollC at h;split at h
 ·exact absurd h (by decide)
 ·split at h
  ·exact absurd h (by decide)
  ·split at h
   ·exact absurd h (by decide)
   ·rename_i a b c
    exact⟨by simpa using a,by simpa using b,by simpa using c⟩
theorem game_valid {v:Vr} {g g':Gm} {e:Ev} (hg:gmB v g=true) (h:gameP v g e=some g'):gmB v g'=true:=by
 have c:=gm_parts hg;unfold gameP at h;split at h
 ·split at h
  ·rename_i h1
   simp only [Option.some.injEq] at h;unfold openC at h1;rw [if_neg (by rw [hg];decide)] at h1;split at h1
   ·exact absurd h1 (by decide)
   ·rename_i d
    have d:g.ph=0:=by simpa using d
    split at h1
    ·exact absurd h1 (by decide)
    ·rename_i i
     have i:(1<=e.a∧e.a<=v.s)∧1<=e.b∧e.b<=v.s:=by simpa using i
     unfold openG at h;split at h
     ·subst h;exact hg
     ·rename_i hab
      subst h;have p:=okB_iff.2 c.1;have o:okV v=true:=okV_iff.2 c.1.v1;have l:=start_over o c.2.1;unfold gmB at hg;simp only [d,Bool.and_eq_true,decide_eq_true_eq] at hg;have m:=hg.2;simp only [if_true,decide_eq_true_eq] at m;obtain⟨z,y,x,w,n⟩:=m;have q:rollB v (max e.a e.b) (min e.a e.b)=true:=by
       unfold rollB;simp only [Bool.and_eq_true,decide_eq_true_eq];omega
      have k:=okB_iff.2 (swp_ok c.1);have f:over g.b=false:=by rw [n];exact l
      clear n;unfold gmB;simp only [q,y,x,w];by_cases hlt:e.a<e.b
      ·simp [hlt,k,c.2.1,over_swp,f]
      ·simp [hlt,p,c.2.1,f,z]
  ·cases h
 ·split at h
  ·split at h
   ·rename_i h1
    simp only [Option.some.injEq] at h;unfold resgC at h1;rw [if_neg (by rw [hg];decide)] at h1;split at h1
    ·exact absurd h1 (by decide)
    ·rename_i j
     have j:g.ph=1∨g.ph=2:=by omega
     split at h1
     ·exact absurd h1 (by decide)
     ·rename_i i
      have i:1<=e.r∧e.r<=3:=by simpa using i
      subst h;have t:=(c.2.2.2.2.2 j).1;have d:=c.2.2.1;have A:=c.2.2.2.1;unfold gmB resgG;simp [okB_iff.2 c.1,c.2.1,t];omega
   ·cases h
  ·split at h
   ·split at h
    ·rename_i h1 j
     have d:=rollC_zero j;exact turn_valid (roll_valid hg d.2.1 d.2.2) h
    ·cases h
   ·split at h
    ·exact turn_valid hg h
    ·cases h
structure MsOk (v:Vr) (len:Int) (i:Nat) (x:Ms):Prop where
 gm:gmB v x.g=true
 sc:x.ov=false->(0<=x.s0∧x.s0<len)∧0<=x.s1∧x.s1<len
 gs:0<=x.gs∧x.gs<=i
theorem start_ms {v:Vr} {len:Int} (h:headB v len=true):MsOk v len 0 (startS v):=by
 unfold headB at h;simp only [Bool.and_eq_true,decide_eq_true_eq] at h;refine⟨new_valid h.1.1 h.1.2,λ _=>?_,?_⟩
 ·unfold startS;simp only;omega
 ·unfold startS;simp
theorem next_ms {v:Vr} {len:Int} {i:Nat} {x y:Ms} {e:Ev} (hl:1<=len) (hx:MsOk v len i x) (h:nextS v len x e=some y):MsOk v len (i+1) y:=by
 unfold nextS at h;split at h
 ·cases h
 ·rename_i b
  have b:x.ov=false:=by cases c:x.ov with | false=>rfl | true=>exact absurd (.inl c) b
  cases hg:gameP v x.g e with
  | none=>rw [hg] at h;cases h
  | some g =>
   rw [hg] at h;simp only [Option.map_some,Option.some.injEq] at h;have a:=game_valid hx.gm hg;have j:=gm_parts a;have k:okV v=true:=okV_iff.2 j.1.v1;have f:=game_parts hg;have d:=hx.sc b;have l:=hx.gs;unfold overS at h;by_cases h3:g.ph=3
   ·rw [if_neg (by omega)] at h;have m:=f.2.2.1 h3;simp only at h;by_cases hw:g.wn=0
    ·simp only [if_pos hw] at h;by_cases hlt:len<=x.s0+g.rs
     ·rw [if_pos hlt] at h;subst h;exact⟨a,λ c=>by simp at c,by simp only;omega⟩
     ·rw [if_neg hlt] at h;subst h;exact⟨new_valid k j.2.1,λ _=>by simp only;omega,by simp only;omega⟩
    ·simp only [if_neg hw] at h;by_cases hlt:len<=x.s1+g.rs
     ·rw [if_pos hlt] at h;subst h;exact⟨a,λ c=>by simp at c,by simp only;omega⟩
     ·rw [if_neg hlt] at h;subst h;exact⟨new_valid k j.2.1,λ _=>by simp only;omega,by simp only;omega⟩
   ·rw [if_pos h3] at h;subst h;exact⟨a,λ _=>d,by simp only;omega⟩
end PlP
namespace Ints
open Go.ChangeShapes Go.WideShapes Go.ChangeAt Go.RowKit Base
theorem info:(Tryz.prog.info? 2).map (λ i=>(i.zero,i.size,i.bytes))=some (some (.int .i64 0),1,8):=by kernel_rfl
end Ints
namespace Gm
open Go Go.RowKit Base Ints RelG PlP
def BdR (w:World) (S:Nat->Prop) (u1 u2:Value) (b:Bd):Prop:=SlV 1 enI w S u1 b.1∧SlV 1 enI w S u2 b.2
section
variable {w w':World} {S S':Nat->Prop} {u1 u2:Value} {b:Bd}
theorem BdR.keep (h:BdR w S u1 u2 b) (hs:Still S w w'):BdR w' S u1 u2 b:=⟨(relV 1 enI).keep h.1 hs,(relV 1 enI).keep h.2 hs⟩
theorem BdR.weak (h:BdR w S u1 u2 b) (hs:∀ b,S b->b<w.heap.size->S' b):BdR w S' u1 u2 b:=⟨(relV 1 enI).weak h.1 hs,(relV 1 enI).weak h.2 hs⟩
theorem BdR.below (h:BdR w S u1 u2 b) (hb:Below w.heap.size w w'):BdR w' S u1 u2 b:=h.keep (.below hb)
theorem BdR.nil (w:World) (S:Nat->Prop):BdR w S (.slice none 0 0) (.slice none 0 0) ([],[]) :=
 ⟨⟨none,0,rfl,RdF.nil _ _ _ _ _,λ _=>rfl⟩,⟨none,0,rfl,RdF.nil _ _ _ _ _,λ _=>rfl⟩⟩
end
def gmC (u1 u2:Value) (g:Gm):List Value:=[u1,u2,.int .i64 g.pl,.int .i64 g.x,.int .i64 g.y,.int .i64 g.ph,.int .i64 g.wn,.int .i64 g.rs,.int .i64 g.tn]
def msC (su u1 u2:Value) (x:Ms):List Value:=[su,.int .i64 x.gs,u1,u2,.int .i64 x.g.pl,.int .i64 x.g.x,.int .i64 x.g.y,.int .i64 x.g.ph,.int .i64 x.g.wn,.int .i64 x.g.rs,.int .i64 x.g.tn,.bool x.ov]
def nulG:Gm:=⟨([],[]),0,0,0,0,0,0,0⟩
def nulM:Ms:=⟨0,0,0,nulG,false⟩
def RelBV:Rel Value Bd where
 R:=λ w S v b=>∃ u1 u2,v=.agg #[u1,u2]∧BdR w S u1 u2 b
 keep:=λ⟨u1,u2,e,h⟩ hs=>⟨u1,u2,e,h.keep hs⟩
 weak:=λ⟨u1,u2,e,h⟩ hs=>⟨u1,u2,e,h.weak hs⟩
def RelBB:Rel Value (Option Bd) where
 R:=λ w S v x=>∃ u1 u2 b,v=.tuple #[.agg #[u1,u2],.bool x.isSome]∧BdR w S u1 u2 b∧∀ b0,x=some b0->b=b0
 keep:=λ⟨u1,u2,b,e,h,k⟩ hs=>⟨u1,u2,b,e,h.keep hs,k⟩
 weak:=λ⟨u1,u2,b,e,h,k⟩ hs=>⟨u1,u2,b,e,h.weak hs,k⟩
def RelBI:Rel Value (Option Bd) where
 R:=λ w S v x=>∃ u1 u2 b c,v=.tuple #[.agg #[u1,u2],.int .i64 c]∧BdR w S u1 u2 b∧(∀ b0,x=some b0->b=b0∧c=0)∧(x=none->c≠0)
 keep:=λ⟨u1,u2,b,c,e,h,k⟩ hs=>⟨u1,u2,b,c,e,h.keep hs,k⟩
 weak:=λ⟨u1,u2,b,c,e,h,k⟩ hs=>⟨u1,u2,b,c,e,h.weak hs,k⟩
def RelGV:Rel Value Gm where
 R:=λ w S v g=>∃ u1 u2,v=.agg ⟨gmC u1 u2 g⟩∧BdR w S u1 u2 g.b
 keep:=λ⟨u1,u2,e,h⟩ hs=>⟨u1,u2,e,h.keep hs⟩
 weak:=λ⟨u1,u2,e,h⟩ hs=>⟨u1,u2,e,h.weak hs⟩
def RelGI:Rel Value (Option Gm) where
 R:=λ w S v x=>∃ u1 u2 g c,v=.tuple #[.agg ⟨gmC u1 u2 g⟩,.int .i64 c]∧BdR w S u1 u2 g.b∧(∀ g0,x=some g0->g=g0∧c=0)∧(x=none->c≠0)
 keep:=λ⟨u1,u2,g,c,e,h,k⟩ hs=>⟨u1,u2,g,c,e,h.keep hs,k⟩
 weak:=λ⟨u1,u2,g,c,e,h,k⟩ hs=>⟨u1,u2,g,c,e,h.weak hs,k⟩
def RelGB:Rel Value (Option Gm) where
 R:=λ w S v x=>∃ u1 u2 g,v=.tuple #[.agg ⟨gmC u1 u2 g⟩,.bool x.isSome]∧BdR w S u1 u2 g.b∧∀ g0,x=some g0->g=g0
 keep:=λ⟨u1,u2,g,e,h,k⟩ hs=>⟨u1,u2,g,e,h.keep hs,k⟩
 weak:=λ⟨u1,u2,g,e,h,k⟩ hs=>⟨u1,u2,g,e,h.weak hs,k⟩
def MsR (w:World) (S:Nat->Prop) (su u1 u2:Value) (x:Ms):Prop:=SlV 1 enI w S su [x.s0,x.s1]∧BdR w S u1 u2 x.g.b
section
variable {w w':World} {S S':Nat->Prop} {su u1 u2:Value} {x:Ms}
theorem MsR.keep (h:MsR w S su u1 u2 x) (hs:Still S w w'):MsR w' S su u1 u2 x:=⟨(relV 1 enI).keep h.1 hs,h.2.keep hs⟩
theorem MsR.weak (h:MsR w S su u1 u2 x) (hs:∀ b,S b->b<w.heap.size->S' b):MsR w S' su u1 u2 x:=⟨(relV 1 enI).weak h.1 hs,h.2.weak hs⟩
theorem MsR.below (h:MsR w S su u1 u2 x) (hb:Below w.heap.size w w'):MsR w' S su u1 u2 x:=h.keep (.below hb)
end
def RelMV:Rel Value Ms where
 R:=λ w S v x=>∃ su u1 u2,v=.agg ⟨msC su u1 u2 x⟩∧MsR w S su u1 u2 x
 keep:=λ⟨su,u1,u2,e,h⟩ hs=>⟨su,u1,u2,e,h.keep hs⟩
 weak:=λ⟨su,u1,u2,e,h⟩ hs=>⟨su,u1,u2,e,h.weak hs⟩
def Ret {α:Type} (K:Rel Value α) (x:α) (S:Nat->Prop) (w:World) (e:Ending) (w':World):Prop :=
 ∃ v,e=.returned v∧K.R w' (λ b=>S b∨w.heap.size<=b) v x∧Below w.heap.size w w'
section
variable {w:World} {g:Nat} {t:TypeId} {c0 c1 c2 c3 c4 c5 c6 c7 c8 c9 c10 c11:Value}
theorem row9 (h:RowB w g t [c0,c1,c2,c3,c4,c5,c6,c7,c8]):w.cell? ⟨g,0,none⟩=some c0∧w.cell? ⟨g,1,none⟩=some c1∧w.cell? ⟨g,2,none⟩=some c2∧w.cell? ⟨g,3,none⟩=some c3∧w.cell? ⟨g,4,none⟩=some c4∧w.cell? ⟨g,5,none⟩=some c5∧w.cell? ⟨g,6,none⟩=some c6∧w.cell? ⟨g,7,none⟩=some c7∧w.cell? ⟨g,8,none⟩=some c8 :=
 ⟨h.cell 0,h.cell 1,h.cell 2,h.cell 3,h.cell 4,h.cell 5,h.cell 6,h.cell 7,h.cell 8⟩
theorem row12 (h:RowB w g t [c0,c1,c2,c3,c4,c5,c6,c7,c8,c9,c10,c11]):w.cell? ⟨g,0,none⟩=some c0∧w.cell? ⟨g,1,none⟩=some c1∧w.cell? ⟨g,2,none⟩=some c2∧w.cell? ⟨g,3,none⟩=some c3∧w.cell? ⟨g,4,none⟩=some c4∧w.cell? ⟨g,5,none⟩=some c5∧w.cell? ⟨g,6,none⟩=some c6∧w.cell? ⟨g,7,none⟩=some c7∧w.cell? ⟨g,8,none⟩=some c8∧w.cell? ⟨g,9,none⟩=some c9∧w.cell? ⟨g,10,none⟩=some c10∧w.cell? ⟨g,11,none⟩=some c11 :=
 ⟨h.cell 0,h.cell 1,h.cell 2,h.cell 3,h.cell 4,h.cell 5,h.cell 6,h.cell 7,h.cell 8,h.cell 9,h.cell 10,h.cell 11⟩
end
abbrev gM:List Value:=gmC (.slice none 0 0) (.slice none 0 0) nulG
end Gm

namespace Clone
open Go.ChangeShapes Go.WideShapes Go.ChangeAt Go.RowKit Base Ints Own
theorem news_rd {w:World} {B:Nat} {ad:Addr} {xs:List Int} (h:RdS w B 1 enI (some ad) xs):∀ j u,(xs.flatMap enI)[j]?=some u->w.cell? (ad.add j)=some u:=by
 intro j u e;have f:j<(xs.flatMap enI).length:=(List.getElem?_eq_some_iff.1 e).1;rw [flatMap_len enI_len,Nat.mul_one] at f;obtain⟨b,a,g,_,l⟩:=h.2 (by omega);simp only [Option.some.injEq] at g;subst g;have d:xs[j]?=some xs[j]:=List.getElem?_eq_getElem f;have k:=flatMap_at enI_len xs j _ d 0 _ rfl;rw [Nat.mul_one,Nat.add_zero,e] at k;have i:=l j _ d 0 _ rfl;rw [<-k,Nat.mul_one,Nat.add_zero] at i;have c:(⟨b,a,none⟩:Addr).add j=⟨b,a+j,none⟩:=by unfold Addr.add;split <;> simp_all
 rw [c];exact i
theorem rd_none {w:World} {B:Nat} {xs:List Int} (h:RdS w B 1 enI none xs):xs=[]:=by
 cases xs with
 | nil=>rfl
 | cons x xs=>obtain⟨b,a,c,_⟩:=h.2 (by simp);cases c
theorem one_Is (xs:List Int):∀ u ∈ xs.flatMap enI,u.oneCell'=true:=by
 intro u b;obtain⟨y,_,a⟩:=List.mem_flatMap.1 b;exact one_I y u a
theorem clone (A:Option Addr) (cp B:Nat) (xs:List Int) (w:World) (hB:B<=w.heap.size) (hr:RdS w B 1 enI A xs) (hA:A=none->cp=0) (hn:xs.length<=1048577) :
  Calls Tryz.prog 57 #[.slice A xs.length cp] w λ e w'=>(∃ v,e=.returned v∧OwnS w' w.heap.size w'.heap.size 2 1 enI v xs)∧Below w.heap.size w w':=by
 obtain⟨l,f,d,c,b⟩:=info_parts Ints.info
 cases A with
 | none =>
  obtain rfl:=rd_none hr;obtain rfl:=hA rfl;have k:∀ w:World,(binOp .eql 44 (.slice none 0 0) (.slice none 0 0)).run Tryz.prog w=.ok (.bool true) w:=λ w=>Lib.run_eql_slice_nil w _ _ _ _ _ _ _ Tryz.underlying44
  go_enter Tryz.func57,Tryz.ntmps57;go_wp2;go_ret;exact⟨⟨_,rfl,OwnS.nil_ _ _ _ _ _ _⟩,Below.refl _ _⟩
 | some ad =>
  have k:∀ w:World,(binOp .eql 44 (.slice (some ad) xs.length cp) (.slice none 0 0)).run Tryz.prog w=.ok (.bool false) w:=λ w=>Lib.run_eql_slice_nil w _ _ _ _ _ _ _ Tryz.underlying44
  go_enter Tryz.func57,Tryz.ntmps57;go_wp2_with (at_builtin;refine wpList_append_own _ rfl _ _ _ rfl w.heap.size 2 l (.int .i64 0) 1 8 Tryz.underlying44 f d c b rfl (by decide) _ 0 [] rfl ((RowB.new w 2 []).own (xs:=([]:List Int)) (en:=enI) enI_len (Nat.le_refl _) (by simp) (by decide):OwnS _ w.heap.size (w.alloc (.cells #[] 2)).heap.size 2 1 enI _ []).1 ad xs.length cp (xs.flatMap enI) rfl (by rw [flatMap_len enI_len]) (news_rd (hr.below (by go_grown) hB)) (one_Is xs) ?c1 ?c2 ?c3 ?_)
  case c1=>unfold maxLen;omega
  case c2=>omega
  case c3=>go_size
  intro j w' a h _;have a:w'.ownsRow w.heap.size 2 1 j xs.length (xs.flatMap enI):=by simpa using a
  go_wp2;go_ret;refine⟨⟨_,rfl,a,λ g i=>(a.lt g i).2⟩,?_⟩;exact((Below.refl w.heap.size w).alloc (Nat.le_refl _) _).grown h (by go_size) (λ g i=>by simp [Value.ownBlock] at i;omega)
theorem own02 (A:Option Addr) (cp B:Nat) (xs:List Int) (w:World) (hB:B<=w.heap.size) (hr:RdS w B 1 enI A xs) (hA:A=none->cp=0) (hn:xs.length<=1048577) :
  Calls Tryz.prog 47 #[.slice A xs.length cp] w λ e w'=>(∃ v,e=.returned v∧OwnS w' w.heap.size w'.heap.size 2 1 enI v xs)∧Below w.heap.size w w':=by
 obtain⟨j,b,f,d,c⟩:=info_parts Ints.info
 cases A with
 | none =>
  obtain rfl:=rd_none hr;obtain rfl:=hA rfl;go_enter Tryz.func47,Tryz.ntmps47;go_wp2_with (at_builtin;refine wpList_append_own_none rfl _ _ _ rfl w.heap.size 2 j 1 Tryz.underlying44 b _ 0 [] rfl ((RowB.new w 2 []).own (xs:=([]:List Int)) (en:=enI) enI_len (Nat.le_refl _) (by simp) (by decide):OwnS _ w.heap.size (w.alloc (.cells #[] 2)).heap.size 2 1 enI _ []).1 rfl ?_);go_wp2;go_ret;exact⟨⟨_,rfl,(RowB.new w 2 []).own (xs:=[]) enI_len (Nat.le_refl _) (by simp) (by decide)⟩,by go_grown⟩
 | some ad =>
  go_enter Tryz.func47,Tryz.ntmps47;go_wp2_with (at_builtin;refine wpList_append_own _ rfl _ _ _ rfl w.heap.size 2 j (.int .i64 0) 1 8 Tryz.underlying44 b f d c rfl (by decide) _ 0 [] rfl ((RowB.new w 2 []).own (xs:=([]:List Int)) (en:=enI) enI_len (Nat.le_refl _) (by simp) (by decide):OwnS _ w.heap.size (w.alloc (.cells #[] 2)).heap.size 2 1 enI _ []).1 ad xs.length cp (xs.flatMap enI) rfl (by rw [flatMap_len enI_len]) (news_rd (hr.below (by go_grown) hB)) (one_Is xs) ?c1 ?c2 ?c3 ?_)
  case c1=>unfold maxLen;omega
  case c2=>omega
  case c3=>go_size
  intro k w' a h _;have a:w'.ownsRow w.heap.size 2 1 k xs.length (xs.flatMap enI):=by simpa using a
  go_wp2;go_ret;refine⟨⟨_,rfl,a,λ g i=>(a.lt g i).2⟩,?_⟩;exact((Below.refl w.heap.size w).alloc (Nat.le_refl _) _).grown h (by go_size) (λ g i=>by simp [Value.ownBlock] at i;omega)
end Clone
abbrev vL (v:PlP.Vr):List Go.Value:=[.int .i64 v.p,.int .i64 v.c,.int .i64 v.h,.int .i64 v.s]
namespace Bd1
open Go.ChangeShapes Go.WideShapes Go.ChangeAt Go.RowKit Base Ints Own Clone RelG PlP
theorem at_rd {w:World} {B:Nat} {A:Option Addr} {xs:List Int} (h:RdS w B 1 enI A xs) {i:Nat} (hi:i<xs.length) :
  ∃ b off,A=some ⟨b,off,none⟩∧b<B∧w.cell? ⟨b,off+i,none⟩=some (.int .i64 (at_ xs i)):=by
 obtain⟨b,off,x,rfl,d,a,c⟩:=rdI_at h hi;rw [at_get hi] at a;simp only [Option.some.injEq] at a;subst a;exact⟨b,off,rfl,d,c⟩
def sumU (l:List Int):Nat->Int
 | 0=>0
 | k+1=>sumU l k+at_ l k
theorem sumU_take (l:List Int):∀ k,k<=l.length->sumU l k=(l.take k).sum:=by
 intro k
 induction k with
 | zero=>intro _;simp [sumU]
 | succ k ih =>
  intro a;simp only [sumU];rw [ih (by omega),take_succ l k (at_ l k) (at_get (by omega)),List.sum_append];simp
theorem sumU_all (l:List Int):sumU l l.length=l.sum:=by rw [sumU_take l _ (Nat.le_refl _),List.take_length]
theorem in_s (n a b:Int) (x:Bool) (hx:decide (a<=n∧n<=b)=x) (w:World):Calls Tryz.prog 73 #[.int .i64 n,.int .i64 a,.int .i64 b] w λ e w'=>e=.returned (.bool x)∧w=w':=by
 subst hx;by_cases h1:a<=n
 ·have c:decide (a<=n∧n<=b)=decide (n<=b):=by simp [h1]
  rw [c];go_enter Tryz.func73,Tryz.ntmps73;go_wp2;go_ret;exact⟨rfl,rfl⟩
 ·have c:decide (a<=n∧n<=b)=false:=decide_eq_false (λ h=>h1 h.1);rw [c];go_enter Tryz.func73,Tryz.ntmps73;go_wp2;go_ret;exact⟨rfl,rfl⟩
theorem in_sq (n a b:Int) (x:Bool) (hx:decide (a<=n∧n<=b)=x) (w:World) (k:Nat):Calls Tryz.prog 73 #[.int .i64 n,.int .i64 a,.int .i64 b] (w.drewN k) λ e w''=>e=.returned (.bool x)∧∃ m,w''=w.drewN m :=
 Calls.quiet_of_same ((in_s n a b x hx (w.drewN k)).mono λ _ _ h=>⟨h.1,h.2.symm⟩)
theorem in_i (n a b:Int) (x:Bool) (hx:decide (a<=n∧n<=b)=x) (w:World):Calls Tryz.prog 70 #[.int .i64 n,.int .i64 a,.int .i64 b] w λ e w'=>e=.returned (.bool x)∧w=w':=by
 subst hx;by_cases h1:a<=n
 ·have c:decide (a<=n∧n<=b)=decide (n<=b):=by simp [h1]
  rw [c];go_enter Tryz.func70,Tryz.ntmps70;go_wp2;go_ret;exact⟨rfl,rfl⟩
 ·have c:decide (a<=n∧n<=b)=false:=decide_eq_false (λ h=>h1 h.1);rw [c];go_enter Tryz.func70,Tryz.ntmps70;go_wp2;go_ret;exact⟨rfl,rfl⟩
theorem var_s (v:Vr) (x:Bool) (hx:okV v=x) (w:World):Calls Tryz.prog 72 #[.agg #[.int .i64 v.p,.int .i64 v.c,.int .i64 v.h,.int .i64 v.s]] w λ e w'=>e=.returned (.bool x)∧Below w.heap.size w w':=by
 unfold okV at hx;have m:=kD hx;clear hx;obtain⟨a,l⟩:∃ a,decide (2<=v.p∧v.p<=24)=a:=⟨_,rfl⟩;obtain⟨b,k⟩:∃ b,decide (1<=v.c∧v.c<=15)=b:=⟨_,rfl⟩;obtain⟨c,j⟩:∃ c,decide (1<=v.h∧v.h<=v.p)=c:=⟨_,rfl⟩;obtain⟨d,i⟩:∃ d,decide (1<=v.s∧v.s<=6)=d:=⟨_,rfl⟩;have f:Hid (x=(a && b && c && d)):=kD (by rw [<-m.out,<-l,<-k,<-j,<-i];simp only [Bool.decide_and];simp [Bool.and_assoc]);have r:=kD (λ w=>in_s v.p 2 24 a l w);have q:=kD (λ w=>in_s v.c 1 15 b k w);have o:=kD (λ w=>in_s v.h 1 v.p c j w);have n:=kD (λ w=>in_s v.s 1 6 d i w);clear l k j i m;go_enter Tryz.func72,Tryz.ntmps72;go_wp2_with fail;refine(r.out _).mono ?_;rintro e g ⟨rfl,rfl⟩
 cases a
 case false =>
  obtain rfl:x=false:=by rw [f.out];rfl
  go_wp2_with fail;go_ret;exact⟨rfl,by go_grown⟩
 go_wp2_with fail;refine(q.out _).mono ?_;rintro e g ⟨rfl,rfl⟩
 cases b
 case false =>
  obtain rfl:x=false:=by rw [f.out];rfl
  go_wp2_with fail;go_ret;exact⟨rfl,by go_grown⟩
 go_wp2_with fail;refine(o.out _).mono ?_;rintro e g ⟨rfl,rfl⟩
 cases c
 case false =>
  obtain rfl:x=false:=by rw [f.out];rfl
  go_wp2_with fail;go_ret;exact⟨rfl,by go_grown⟩
 go_wp2_with fail;refine(n.out _).mono ?_;rintro e g ⟨rfl,rfl⟩;obtain rfl:x=d:=by rw [f.out];rfl
 go_wp2_with fail;go_ret;exact⟨rfl,by go_grown⟩
theorem var_i (v:Vr) (x:Bool) (hx:okV v=x) (w:World):Calls Tryz.prog 54 #[.agg #[.int .i64 v.p,.int .i64 v.c,.int .i64 v.h,.int .i64 v.s]] w λ e w'=>e=.returned (.bool x)∧Below w.heap.size w w':=by
 unfold okV at hx;have m:=kD hx;clear hx;obtain⟨a,l⟩:∃ a,decide (2<=v.p∧v.p<=24)=a:=⟨_,rfl⟩;obtain⟨b,k⟩:∃ b,decide (1<=v.c∧v.c<=15)=b:=⟨_,rfl⟩;obtain⟨c,j⟩:∃ c,decide (1<=v.h∧v.h<=v.p)=c:=⟨_,rfl⟩;obtain⟨d,i⟩:∃ d,decide (1<=v.s∧v.s<=6)=d:=⟨_,rfl⟩;have f:Hid (x=(a && b && c && d)):=kD (by rw [<-m.out,<-l,<-k,<-j,<-i];simp only [Bool.decide_and];simp [Bool.and_assoc]);have r:=kD (λ w=>in_i v.p 2 24 a l w);have q:=kD (λ w=>in_i v.c 1 15 b k w);have o:=kD (λ w=>in_i v.h 1 v.p c j w);have n:=kD (λ w=>in_i v.s 1 6 d i w);clear l k j i m;go_enter Tryz.func54,Tryz.ntmps54;go_wp2_with fail;refine(r.out _).mono ?_;rintro e g ⟨rfl,rfl⟩
 cases a
 case false =>
  obtain rfl:x=false:=by rw [f.out];rfl
  go_wp2_with fail;go_ret;exact⟨rfl,by go_grown⟩
 go_wp2_with fail;refine(q.out _).mono ?_;rintro e g ⟨rfl,rfl⟩
 cases b
 case false =>
  obtain rfl:x=false:=by rw [f.out];rfl
  go_wp2_with fail;go_ret;exact⟨rfl,by go_grown⟩
 go_wp2_with fail;refine(o.out _).mono ?_;rintro e g ⟨rfl,rfl⟩
 cases c
 case false =>
  obtain rfl:x=false:=by rw [f.out];rfl
  go_wp2_with fail;go_ret;exact⟨rfl,by go_grown⟩
 go_wp2_with fail;refine(n.out _).mono ?_;rintro e g ⟨rfl,rfl⟩;obtain rfl:x=d:=by rw [f.out];rfl
 go_wp2_with fail;go_ret;exact⟨rfl,by go_grown⟩
theorem sum_s (A:Option Addr) (cp B:Nat) (xs:List Int) (w:World) (hr:RdS w B 1 enI A xs) (hx:∀ i,0<=at_ xs i∧at_ xs i<=1000) (hl:xs.length<=1000) :
  Calls Tryz.prog 147 #[.slice A xs.length cp] w λ e w'=>e=.returned (.int .i64 xs.sum)∧w=w':=by
 obtain⟨n,a⟩:∃ n,xs.length=n:=⟨_,rfl⟩;obtain⟨z,c⟩:∃ z,xs.sum=z:=⟨_,rfl⟩;have m:=kD a;have j:=kD hx;have h:Hid (sumU xs n=z):=kD (by rw [<-a,sumU_all,c]);rw [a] at hl;rw [a,c];clear a c hx;go_enter Tryz.func147,Tryz.ntmps147;go_wp2_with fail;go_loopw [3,4] (λ s i wr=>∃(k:Nat) (t:Int),k<=n∧s=.int .i64 t∧i=.int .i64 (k:Int)∧Hid (w=wr)∧0<=t∧t<=1000*(k:Int)∧Hid (t=sumU xs k)) (λ _ i _=>n - (intOf i).toNat)
 case atStart=>exact⟨0,0,Nat.zero_le _,by first | rfl | trivial,by first | rfl | trivial,kD (by first | rfl | trivial),by omega,by omega,rfl⟩
 case round =>
  obtain⟨k,t,v,rfl,rfl,d,r,q,f⟩:=hrel;obtain rfl:=d.out;clear d;by_cases hlt:k<n
  ·obtain⟨b,g,rfl,y,x⟩:=at_rd hr (i:=k) (by rw [m.out];exact hlt);obtain⟨p,o⟩:=j.out k;have l:Hid (t+at_ xs k=sumU xs (k+1)):=kD (by simp only [sumU];rw [f.out]);go_wp2_with fail;go_roundw
   case rel=>exact⟨k+1,t+at_ xs k,by omega,by first | rfl | trivial,by go_num,kD (by first | rfl | trivial),by omega,by omega,l⟩
   case measure=>simp [intOf];omega
  ·obtain rfl:k=n:=by omega
   obtain rfl:t=z:=by rw [f.out,h.out]
   go_wp2_with fail;go_ret;exact⟨rfl,rfl⟩
theorem sum_sq (A:Option Addr) (n cp B:Nat) (xs:List Int) (z:Int) (hn:xs.length=n) (hz:xs.sum=z) (w:World) (k:Nat) (hr:RdS w B 1 enI A xs) (hx:∀ i,0<=at_ xs i∧at_ xs i<=1000) (hl:xs.length<=1000):Calls Tryz.prog 147 #[.slice A n cp] (w.drewN k) λ e w''=>e=.returned (.int .i64 z)∧∃ m,w''=w.drewN m:=by
 subst hn hz;exact Calls.quiet_of_same ((sum_s A cp B xs (w.drewN k) hr hx hl).mono λ _ _ h=>⟨h.1,h.2.symm⟩)
theorem sum_i (A:Option Addr) (cp B:Nat) (xs:List Int) (w:World) (hr:RdS w B 1 enI A xs) (hx:∀ i,0<=at_ xs i∧at_ xs i<=1000) (hl:xs.length<=1000) :
  Calls Tryz.prog 171 #[.slice A xs.length cp] w λ e w'=>e=.returned (.int .i64 xs.sum)∧w=w':=by
 obtain⟨n,a⟩:∃ n,xs.length=n:=⟨_,rfl⟩;obtain⟨z,c⟩:∃ z,xs.sum=z:=⟨_,rfl⟩;have m:=kD a;have j:=kD hx;have h:Hid (sumU xs n=z):=kD (by rw [<-a,sumU_all,c]);rw [a] at hl;rw [a,c];clear a c hx;go_enter Tryz.func171,Tryz.ntmps171;go_wp2_with fail;go_loopw [3,8] (λ s i wr=>∃(k:Nat) (t:Int),k<=n∧s=.int .i64 t∧i=.int .i64 (k:Int)∧Hid (w=wr)∧0<=t∧t<=1000*(k:Int)∧Hid (t=sumU xs k)) (λ _ i _=>n - (intOf i).toNat)
 case atStart=>exact⟨0,0,Nat.zero_le _,by first | rfl | trivial,by first | rfl | trivial,kD (by first | rfl | trivial),by omega,by omega,rfl⟩
 case round =>
  obtain⟨k,t,v,rfl,rfl,d,r,q,f⟩:=hrel;obtain rfl:=d.out;clear d;by_cases hlt:k<n
  ·obtain⟨b,g,rfl,y,x⟩:=at_rd hr (i:=k) (by rw [m.out];exact hlt);obtain⟨p,o⟩:=j.out k;have l:Hid (t+at_ xs k=sumU xs (k+1)):=kD (by simp only [sumU];rw [f.out]);go_wp2_with fail;go_roundw
   case rel=>exact⟨k+1,t+at_ xs k,by omega,by first | rfl | trivial,by go_num,kD (by first | rfl | trivial),by omega,by omega,l⟩
   case measure=>simp [intOf];omega
  ·obtain rfl:k=n:=by omega
   obtain rfl:t=z:=by rw [f.out,h.out]
   go_wp2_with fail;go_ret;exact⟨rfl,rfl⟩
theorem sum_iq (A:Option Addr) (n cp B:Nat) (xs:List Int) (z:Int) (hn:xs.length=n) (hz:xs.sum=z) (w:World) (k:Nat) (hr:RdS w B 1 enI A xs) (hx:∀ i,0<=at_ xs i∧at_ xs i<=1000) (hl:xs.length<=1000):Calls Tryz.prog 171 #[.slice A n cp] (w.drewN k) λ e w''=>e=.returned (.int .i64 z)∧∃ m,w''=w.drewN m:=by
 subst hn hz;exact Calls.quiet_of_same ((sum_i A cp B xs (w.drewN k) hr hx hl).mono λ _ _ h=>⟨h.1,h.2.symm⟩)
theorem last_s (A:Option Addr) (cp B:Nat) (xs:List Int) (w:World) (hr:RdS w B 1 enI A xs) (hl:xs.length<=1000) :
  Calls Tryz.prog 185 #[.slice A xs.length cp] w λ e w'=>e=.returned (.int .i64 (last xs))∧w=w':=by
 obtain⟨n,a⟩:∃ n,xs.length=n:=⟨_,rfl⟩;obtain⟨z,c⟩:∃ z,last xs=z:=⟨_,rfl⟩;have l:=kD a;have j:Hid (lastU xs n=z):=kD (by rw [<-a,<-c];rfl);rw [a] at hl;rw [a,c];clear a c;go_enter Tryz.func185,Tryz.ntmps185;go_wp2_with fail;go_loopw [3,4] (λ s i wr=>∃(k:Nat) (t:Int),k<=n∧s=.int .i64 t∧i=.int .i64 (k:Int)∧Hid (w=wr)∧Hid (t=lastU xs k)) (λ _ i _=>n - (intOf i).toNat)
 case atStart=>exact⟨0,-1,Nat.zero_le _,by first | rfl | trivial,by first | rfl | trivial,kD (by first | rfl | trivial),rfl⟩
 case round =>
  obtain⟨k,t,m,rfl,rfl,f,g⟩:=hrel;obtain rfl:=f.out;clear f;by_cases hlt:k<n
  ·obtain⟨b,h,rfl,p,o⟩:=at_rd hr (i:=k) (by rw [l.out];exact hlt);by_cases hp:0<at_ xs k
   ·have d:Hid ((k:Int)=lastU xs (k+1)):=kD (by simp only [lastU];rw [if_pos hp]);go_wp2_with fail;go_roundw
    case rel=>exact⟨k+1,(k:Int),by omega,by first | rfl | trivial,by go_num,kD (by first | rfl | trivial),d⟩
    case measure=>simp [intOf];omega
   ·have d:Hid (t=lastU xs (k+1)):=kD (by simp only [lastU];rw [if_neg hp,g.out]);go_wp2_with fail;go_roundw
    case rel=>exact⟨k+1,t,by omega,by first | rfl | trivial,by go_num,kD (by first | rfl | trivial),d⟩
    case measure=>simp [intOf];omega
  ·obtain rfl:k=n:=by omega
   obtain rfl:t=z:=by rw [g.out,j.out]
   go_wp2_with fail;go_ret;exact⟨rfl,rfl⟩
theorem last_i (A:Option Addr) (cp B:Nat) (xs:List Int) (w:World) (hr:RdS w B 1 enI A xs) (hl:xs.length<=1000) :
  Calls Tryz.prog 201 #[.slice A xs.length cp] w λ e w'=>e=.returned (.int .i64 (last xs))∧w=w':=by
 obtain⟨n,a⟩:∃ n,xs.length=n:=⟨_,rfl⟩;obtain⟨z,c⟩:∃ z,last xs=z:=⟨_,rfl⟩;have o:=kD a;have l:Hid (lastU xs n=z):=kD (by rw [<-a,<-c];rfl);rw [a] at hl;rw [a,c];clear a c;go_enter Tryz.func201,Tryz.ntmps201;go_wp2_with fail;go_loopw [3] (λ i wr=>∃(k:Nat),k<=n∧i=.int .i64 ((k:Int) - 1)∧Hid (w=wr)∧Hid (lastU xs k=z)) (λ i _=>(intOf i+1).toNat)
 case atStart=>exact⟨n,Nat.le_refl _,by first | rfl | trivial,kD (by first | rfl | trivial),l⟩
 case round =>
  obtain⟨k,p,rfl,g,d⟩:=hrel;obtain rfl:=g.out;clear g;by_cases hlt:0<k
  ·obtain⟨j,rfl⟩:∃ j,k=j+1:=⟨k - 1,by omega⟩;have f:(((j+1:Nat):Int) - 1)=(j:Int):=by omega
   rw [f];obtain⟨b,h,rfl,r,q⟩:=at_rd hr (i:=j) (by rw [o.out];omega);by_cases hp:0<at_ xs j
   ·obtain rfl:(j:Int)=z:=by rw [<-d.out];simp only [lastU];rw [if_pos hp]
    clear f;go_wp2_with fail;go_ret;exact⟨rfl,rfl⟩
   ·have m:Hid (lastU xs j=z):=kD (by rw [<-d.out];simp only [lastU];rw [if_neg hp]);clear f;go_wp2_with fail;go_roundw
    case rel=>exact⟨j,by omega,by first | rfl | trivial | go_num,kD (by first | rfl | trivial),m⟩
    case measure=>simp [intOf] <;> omega
  ·obtain rfl:k=0:=by omega
   obtain rfl:-1=z:=by rw [<-d.out];rfl
   go_wp2_with fail;go_ret;exact⟨rfl,rfl⟩
end Bd1
namespace Bd2
open Go.ChangeShapes Go.WideShapes Go.ChangeAt Go.RowKit Base Ints Own Clone RelG PlP Bd1
theorem sumU_le {l:List Int} (h:∀ i,0<=at_ l i):∀ k,0<=sumU l k∧∀ j,j<=k->sumU l j<=sumU l k:=by
 intro k
 induction k with
 | zero=>exact⟨by simp [sumU],λ j a=>by rw [show j=0 from by omega];exact Int.le_refl _⟩
 | succ k ih =>
  have b:=h k;simp only [sumU];refine⟨by omega,λ j a=>?_⟩;by_cases e:j=k+1
  ·subst e;simp only [sumU];omega
  ·have:=ih.2 j (by omega);omega
theorem okS_len {v:Vr} {l:List Int} (h:¬ (l.length:Int)=v.p+1):okS v l=false:=by
 cases hc:okS v l with
 | false=>rfl
 | true=>exact absurd (okS_iff.1 hc).len h
theorem okS_at {v:Vr} {l:List Int} (k:Nat) (h:¬ (0<=at_ l k∧at_ l k<=v.c)):okS v l=false:=by
 cases hc:okS v l with
 | false=>rfl
 | true=>exact absurd ⟨(okS_iff.1 hc).nn k,(okS_iff.1 hc).top k⟩ h
theorem okS_left {v:Vr} {l:List Int} {k:Nat} (hk:k<l.length) (h:v.c<sumU l (k+1)):okS v l=false:=by
 cases hc:okS v l with
 | false=>rfl
 | true =>
  have a:=(sumU_le (okS_iff.1 hc).nn l.length).2 (k+1) (by omega);rw [sumU_all] at a;have:=(okS_iff.1 hc).sum;omega
theorem okS_all {v:Vr} {l:List Int} (h1:(l.length:Int)=v.p+1) (h2:∀ i,0<=at_ l i):okS v l=decide (l.sum<=v.c):=by
 by_cases h:l.sum<=v.c
 ·rw [decide_eq_true h];exact okS_iff.2 ⟨h1,h2,h⟩
 ·rw [decide_eq_false h]
  cases hc:okS v l with
  | false=>rfl
  | true=>exact absurd (okS_iff.1 hc).sum h
theorem nn_of {l:List Int} {c:Int} (h:∀ i,i<l.length->0<=at_ l i∧at_ l i<=c) (hc:0<=c):∀ i,0<=at_ l i∧at_ l i<=c:=by
 intro i;rcases Nat.lt_or_ge i l.length with hi | hi
 ·exact h i hi
 ·rw [at_out hi];omega
theorem side_s (v:Vr) (hv:okV v=true) (A:Option Addr) (cp B:Nat) (l:List Int) (x:Bool) (hx:okS v l=x) (w:World) (hB:B<=w.heap.size) (hr:RdS w B 1 enI A l) :
  Calls Tryz.prog 184 #[.agg #[.int .i64 v.p,.int .i64 v.c,.int .i64 v.h,.int .i64 v.s],.slice A l.length cp] w λ e w'=>e=.returned (.bool x)∧Below w.heap.size w w':=by
 have hv:=okV_iff.1 hv;obtain⟨⟨R,Q⟩,⟨X,W⟩,-,-⟩:=hv;have r:=hr.len;obtain⟨n,m⟩:∃ n,l.length=n:=⟨_,rfl⟩;have b:=kD m;have t:=kD hx;have F:=kD hr;have V:IntKind.i64.wrap (v.p+1)=v.p+1:=IntWalk.i64_in _ (by omega);rw [m] at r;rw [m];clear m hx hr;by_cases hlen:(n:Int)=v.p+1
 case neg =>
  obtain rfl:x=false:=by rw [<-t.out,okS_len (by rw [b.out];exact hlen)]
  have I:((n:Int) != v.p+1)=true:=by simp [hlen]
  clear hlen;go_enter Tryz.func184,Tryz.ntmps184;go_wp2_with fail;go_ret;exact⟨rfl,by go_grown⟩
 have I:((n:Int) != v.p+1)=false:=by simp [hlen]
 have K:=kD hlen;have D:n<=25:=by omega
 clear hlen;go_enter Tryz.func184,Tryz.ntmps184;go_wp2_with fail;go_loopw [5] (λ i wr=>∃(k:Nat),k<=n∧i=.int .i64 (k:Int)∧Hid (Below w.heap.size w wr)∧RowB wr w.heap.size 23 [.int .i64 v.p,.int .i64 v.c,.int .i64 v.h,.int .i64 v.s]∧Hid (∀ j,j<k->0<=at_ l j∧at_ l j<=v.c)) (λ i _=>n - (intOf i).toNat)
 case atStart=>exact⟨0,Nat.zero_le _,by first | rfl | trivial,kD (by go_grown),RowB.new _ _ _,λ j E=>absurd E (by omega)⟩
 case round =>
  obtain⟨k,S,rfl,g,d,a⟩:=hrel;obtain⟨P,O,N,M⟩:=d.c4;by_cases hlt:k<n
  ·obtain⟨Y,G,rfl,H,T⟩:=at_rd (F.out.below g.out hB) (i:=k) (by rw [b.out];exact hlt);obtain⟨y,C⟩:∃ y,decide (0<=at_ l k∧at_ l k<=v.c)=y:=⟨_,rfl⟩;have o:=kD C;clear C
   cases y
   case false =>
    obtain rfl:x=false:=by rw [<-t.out];exact okS_at k (of_decide_eq_false o.out)
    go_wp2_with fail;go_quiet ((go_at_call 73;exact in_sq _ _ _ false o.out _ _));go_wp2_with fail;go_ret;exact⟨rfl,below_drewN g.out _⟩
   case true =>
    have L:Hid (∀ j,j<k+1->0<=at_ l j∧at_ l j<=v.c):=kD (λ j E=>by
     by_cases e:j=k
     ·subst e;exact of_decide_eq_true o.out
     ·exact a.out j (by omega))
    go_wp2_with fail;go_quiet ((go_at_call 73;exact in_sq _ _ _ true o.out _ _));go_wp2_with fail;go_roundw
    case rel=>exact⟨k+1,by omega,by go_num,kD (below_drewN g.out _),d.drewN _,L⟩
    case measure=>simp [intOf];omega
  ·obtain rfl:k=n:=by omega
   have f:=kD (nn_of (l:=l) (by rw [b.out];exact a.out) (by omega));obtain⟨z,q⟩:∃ z,l.sum=z:=⟨_,rfl⟩;obtain rfl:x=decide (z<=v.c):=by rw [<-t.out,okS_all (by rw [b.out];exact K.out) (λ i=>(f.out i).1),q]
   have J:=kD q;clear q;go_wp2_with fail;go_quiet ((go_at_call 147;exact sum_sq A _ cp B l z b.out J.out _ _ (F.out.below g.out hB) (λ i=>by have:=f.out i;omega) (by rw [b.out];omega)));go_wp2_with fail;go_ret;exact⟨rfl,below_drewN g.out _⟩
theorem side_i (v:Vr) (hv:okV v=true) (A:Option Addr) (cp B:Nat) (l:List Int) (x:Bool) (hx:okS v l=x) (w:World) (hB:B<=w.heap.size) (hr:RdS w B 1 enI A l) :
  Calls Tryz.prog 199 #[.agg #[.int .i64 v.p,.int .i64 v.c,.int .i64 v.h,.int .i64 v.s],.slice A l.length cp] w λ e w'=>e=.returned (.bool x)∧Below w.heap.size w w':=by
 have hv:=okV_iff.1 hv;obtain⟨⟨M,L⟩,⟨R,Q⟩,-,-⟩:=hv;have q:=hr.len;obtain⟨n,g⟩:∃ n,l.length=n:=⟨_,rfl⟩;have b:=kD g;have m:=kD hx;have G:=kD hr;have P:IntKind.i64.wrap (v.p+1)=v.p+1:=IntWalk.i64_in _ (by omega);rw [g] at q;rw [g];clear g hx hr;by_cases hlen:(n:Int)=v.p+1
 case neg =>
  obtain rfl:x=false:=by rw [<-m.out,okS_len (by rw [b.out];exact hlen)]
  have E:((n:Int) != v.p+1)=true:=by simp [hlen]
  clear hlen;go_enter Tryz.func199,Tryz.ntmps199;go_wp2_with fail;go_ret;exact⟨rfl,by go_grown⟩
 have E:((n:Int) != v.p+1)=false:=by simp [hlen]
 have H:=kD hlen;have r:n<=25:=by omega
 clear hlen;go_enter Tryz.func199,Tryz.ntmps199;go_wp2_with fail;go_loopw [5,18] (λ t i wr=>∃(k:Nat) (y:Int),k<=n∧t=.int .i64 y∧i=.int .i64 (k:Int)∧Hid (Below w.heap.size w wr)∧0<=y∧y<=15∧Hid (y=v.c - sumU l k)∧Hid (∀ j,j<k->0<=at_ l j)) (λ _ i _=>n - (intOf i).toNat)
 case atStart=>exact⟨0,v.c,Nat.zero_le _,by first | rfl | trivial,by first | rfl | trivial,kD (by go_grown),by omega,by omega,kD (by simp [sumU]),λ j z=>absurd z (by omega)⟩
 case round =>
  obtain⟨k,y,N,rfl,rfl,f,K,J,o,a⟩:=hrel;by_cases hlt:k<n
  ·obtain⟨S,C,rfl,D,O⟩:=at_rd (G.out.below f.out hB) (i:=k) (by rw [b.out];exact hlt);by_cases h0:at_ l k<0
   ·obtain rfl:x=false:=by rw [<-m.out];exact okS_at k (λ h=>by omega)
    go_wp2_with fail;go_ret;exact⟨rfl,f.out⟩
   by_cases h1:y<at_ l k
   ·obtain rfl:x=false:=by rw [<-m.out];exact okS_left (k:=k) (by rw [b.out];exact hlt) (by simp only [sumU];have:=o.out;omega)
    go_wp2_with fail;go_ret;exact⟨rfl,f.out⟩
   ·have I:Hid (∀ j,j<k+1->0<=at_ l j):=kD (λ j z=>by
     by_cases e:j=k
     ·subst e;omega
     ·exact a.out j (by omega))
    have F:Hid (y - at_ l k=v.c - sumU l (k+1)):=kD (by simp only [sumU];have:=o.out;omega);go_wp2_with fail;go_roundw
    case rel=>exact⟨k+1,y - at_ l k,by omega,by first | rfl | trivial,by go_num,f,by omega,by omega,F,I⟩
    case measure=>simp [intOf];omega
  ·obtain rfl:k=n:=by omega
   have d:∀ i,0<=at_ l i:=λ i=>by
    rcases Nat.lt_or_ge i l.length with hi | hi
    ·exact a.out i (by rw [<-b.out];exact hi)
    ·rw [at_out hi];exact Int.le_refl _
   obtain rfl:x=true:=by
    rw [<-m.out,okS_all (by rw [b.out];exact H.out) d];refine decide_eq_true ?_;rw [<-sumU_all,b.out];have:=o.out;omega
   clear d;go_wp2_with fail;go_ret;exact⟨rfl,f.out⟩
theorem over_s (v:Vr) (b:Bd) (hb:Ok v b) (Ao At:Option Addr) (co ct B:Nat) (w:World) (hB:B<=w.heap.size) (ho:RdS w B 1 enI Ao b.1) (ht:RdS w B 1 enI At b.2) (x:Bool) (hx:over b=x) :
  Calls Tryz.prog 145 #[.agg #[.slice Ao b.1.length co,.slice At b.2.length ct]] w λ e w'=>e=.returned (.bool x)∧Below w.heap.size w w':=by
 have c:=hb.v1;have g:=kD (λ w (h:RdS w B 1 enI Ao b.1)=>sum_s Ao co B b.1 w h (λ i=>⟨hb.own.nn i,by have:=hb.own.top i;omega⟩) (by have:=hb.own.len;omega));have f:=kD (λ w (h:RdS w B 1 enI At b.2)=>sum_s At ct B b.2 w h (λ i=>⟨hb.oth.nn i,by have:=hb.oth.top i;omega⟩) (by have:=hb.oth.len;omega));unfold over at hx;have a:=kD hx;clear hx hb c;go_enter Tryz.func145,Tryz.ntmps145;go_wp2_with fail;refine(g.out _ (ho.below (by go_grown) hB)).mono ?_;rintro e k ⟨rfl,rfl⟩;by_cases h1:b.1.sum=0
 ·obtain rfl:x=true:=by rw [<-a.out];simp [h1]
  have d:(b.1.sum == 0)=true:=by simp [h1]
  clear h1;go_wp2_with fail;go_ret;exact⟨rfl,by go_grown⟩
 ·obtain rfl:x=(b.2.sum == 0):=by rw [<-a.out];simp [h1];rfl
  have d:(b.1.sum == 0)=false:=by simp [h1]
  clear h1;go_wp2_with fail;refine(f.out _ (ht.below (by go_grown) hB)).mono ?_;rintro e j ⟨rfl,rfl⟩;go_wp2_with fail;go_ret;exact⟨rfl,by go_grown⟩
theorem over_i (v:Vr) (b:Bd) (hb:Ok v b) (Ao At:Option Addr) (co ct B:Nat) (w:World) (hB:B<=w.heap.size) (ho:RdS w B 1 enI Ao b.1) (ht:RdS w B 1 enI At b.2) (x:Bool) (hx:over b=x) :
  Calls Tryz.prog 169 #[.agg #[.slice Ao b.1.length co,.slice At b.2.length ct]] w λ e w'=>e=.returned (.bool x)∧Below w.heap.size w w':=by
 have c:=hb.v1;have g:=kD (λ w (h:RdS w B 1 enI Ao b.1)=>sum_i Ao co B b.1 w h (λ i=>⟨hb.own.nn i,by have:=hb.own.top i;omega⟩) (by have:=hb.own.len;omega));have f:=kD (λ w (h:RdS w B 1 enI At b.2)=>sum_i At ct B b.2 w h (λ i=>⟨hb.oth.nn i,by have:=hb.oth.top i;omega⟩) (by have:=hb.oth.len;omega));unfold over at hx;have a:=kD hx;clear hx hb c;go_enter Tryz.func169,Tryz.ntmps169;go_wp2_with fail;refine(g.out _ (ho.below (by go_grown) hB)).mono ?_;rintro e k ⟨rfl,rfl⟩;by_cases h1:b.1.sum=0
 ·obtain rfl:x=true:=by rw [<-a.out];simp [h1]
  have d:(b.1.sum == 0)=true:=by simp [h1]
  clear h1;go_wp2_with fail;go_ret;exact⟨rfl,by go_grown⟩
 ·obtain rfl:x=(b.2.sum == 0):=by rw [<-a.out];simp [h1];rfl
  have d:(b.1.sum == 0)=false:=by simp [h1]
  clear h1;go_wp2_with fail;refine(f.out _ (ht.below (by go_grown) hB)).mono ?_;rintro e j ⟨rfl,rfl⟩;go_wp2_with fail;go_ret;exact⟨rfl,by go_grown⟩
end Bd2
namespace Bd5
open Go.ChangeShapes Go.WideShapes Go.RowKit Base PlP
def enSt (s:Stp):List Value:=[.int .i64 s.1,.int .i64 s.2.1,.int .i64 s.2.2.1,.bool s.2.2.2]
theorem enSt_len (s:Stp):(enSt s).length=4:=rfl
theorem one_St (s:Stp):∀ u ∈ enSt s,u.oneCell'=true:=by intro u a;simp [enSt] at a;rcases a with rfl | rfl | rfl | rfl <;> rfl
theorem infoSt:(Tryz.prog.info? 135).map (λ i=>(i.zero,i.size,i.bytes))=some (some (.agg #[.int .i64 0,.int .i64 0,.int .i64 0,.bool false]),4,32):=by kernel_rfl
theorem rdStp_at {w:World} {B:Nat} {A:Option Addr} {xs:List Stp} (h:RdS w B 4 enSt A xs) {i:Nat} (hi:i<xs.length) :
  ∃ b off p q r s,A=some ⟨b,off,none⟩∧b<B∧xs[i]?=some (p,q,r,s)∧w.cell? ⟨b,off+i*4,none⟩=some (.int .i64 p)∧w.cell? ⟨b,off+i*4+1,none⟩=some (.int .i64 q)∧w.cell? ⟨b,off+i*4+2,none⟩=some (.int .i64 r)∧w.cell? ⟨b,off+i*4+3,none⟩=some (.bool s):=by
 obtain⟨b,off,⟨p,q,r,s⟩,e,d,c,a⟩:=h.at_ hi;exact⟨b,off,p,q,r,s,e,d,c,a 0 _ rfl,a 1 _ rfl,a 2 _ rfl,a 3 _ rfl⟩
end Bd5
end Go.Proofs.YtblipmifflfnoaaGreatDoor
