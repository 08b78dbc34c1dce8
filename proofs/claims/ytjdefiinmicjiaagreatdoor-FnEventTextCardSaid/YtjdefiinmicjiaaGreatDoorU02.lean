/- Parts of the proof of FnEventText. Conditions: each theorem's own. -/
import Derived.Test.YtjdefiinmicjiaaGreatDoorU01
import Derived.Laws.AppendOwnNone
set_option linter.unusedVariables false
set_option linter.unusedSimpArgs false
set_option maxHeartbeats 8000000
set_option maxRecDepth 100000
namespace Go.Proofs.YtjdefiinmicjiaaGreatDoor
namespace RegF
open Go Go.RowKit Base RegInv
def ndB:List (Option Nat)->Bool
 | []=>true
 | none :: ds=>ndB ds
 | some d :: ds=>!(ds.contains (some d)) && ndB ds
theorem nd_of:∀(ds:List (Option Nat)),ndB ds=true->∀(i j d:Nat),ds[i]?=some (some d)->ds[j]?=some (some d)->i=j:=by
 intro ds
 induction ds with
 | nil=>intro _ i j d h;simp at h
 | cons x ds ih =>
  intro h i j d b a;have c:ndB ds=true:=by cases x with | none=>exact h | some y=>simp only [ndB,Bool.and_eq_true] at h;exact h.2
  cases i with
  | zero =>
   cases j with
   | zero=>rfl
   | succ j =>
    exfalso
    simp only [List.getElem?_cons_zero,Option.some.injEq] at b;subst b;simp only [ndB,Bool.and_eq_true,Bool.not_eq_true',List.contains_eq_mem,decide_eq_false_iff_not] at h;simp only [List.getElem?_cons_succ] at a;exact h.1 (List.mem_of_getElem? a)
  | succ i =>
   cases j with
   | zero =>
    exfalso
    simp only [List.getElem?_cons_zero,Option.some.injEq] at a;subst a;simp only [ndB,Bool.and_eq_true,Bool.not_eq_true',List.contains_eq_mem,decide_eq_false_iff_not] at h;simp only [List.getElem?_cons_succ] at b;exact h.1 (List.mem_of_getElem? b)
   | succ j=>simp only [List.getElem?_cons_succ] at b a;rw [ih c i j d b a]
def szB (n:Nat) (ds:List (Option Nat)):Bool:=ds.all λ | some d=>decide (d<n) | none=>true
theorem sz_of {n:Nat} {ds:List (Option Nat)} (h:szB n ds=true) {j d:Nat} (hj:ds[j]?=some (some d)):d<n:=by
 have:=List.all_eq_true.1 h _ (List.mem_of_getElem? hj);exact of_decide_eq_true this
def Fr:Act->List (Option Nat)->Nat->(Nat->Value)->Act
 | a,[],_,_=>a
 | a,d :: ds,k,u=>Fr (a.put d (u k)) ds (k+1) u
theorem put_size (a:Act) (d:Option Nat) (v:Value):(a.put d v).tmps.size=a.tmps.size:=by cases d <;> simp [Act.put]
theorem put_defers (a:Act) (d:Option Nat) (v:Value):(a.put d v).defers=a.defers:=by cases d <;> rfl
theorem getD_put (a:Act) (d s:Nat) (v:Value) (hd:d<a.tmps.size):(a.put (some d) v).tmps.getD s undef=if s=d then v else a.tmps.getD s undef:=by
 simp only [Act.put,Array.getD_eq_getD_getElem?,Array.getElem?_setIfInBounds];by_cases e:s=d
 ·subst e;simp [hd]
 ·rw [if_neg (Ne.symm e),if_neg e]
theorem Fr_size:∀(ds:List (Option Nat)) (a:Act) (k:Nat) (u:Nat->Value),(Fr a ds k u).tmps.size=a.tmps.size∧(Fr a ds k u).defers=a.defers:=by
 intro ds
 induction ds with
 | nil=>intro a k u;exact⟨rfl,rfl⟩
 | cons d ds ih =>
  intro a k u;have:=ih (a.put d (u k)) (k+1) u;rw [put_size,put_defers] at this;exact this
theorem Fr_other:∀(ds:List (Option Nat)) (a:Act) (k:Nat) (u:Nat->Value) (s:Nat),some s ∉ ds->(Fr a ds k u).tmps.getD s undef=a.tmps.getD s undef:=by
 intro ds
 induction ds with
 | nil=>intro a k u s _;rfl
 | cons d ds ih =>
  intro a k u s h;have f:=ih (a.put d (u k)) (k+1) u s (λ c=>h (List.mem_cons_of_mem _ c));simp only [Fr];rw [f]
  cases d with
  | none=>rfl
  | some d =>
   have b:¬ s=d:=λ e=>h (by rw [e];exact List.mem_cons_self ..)
   simp only [Act.put,Array.getD_eq_getD_getElem?,Array.getElem?_setIfInBounds];rw [if_neg (Ne.symm b)]
theorem Fr_get:∀(ds:List (Option Nat)) (a:Act) (k:Nat) (u:Nat->Value) (j d:Nat),ndB ds=true->ds[j]?=some (some d)->d<a.tmps.size->(Fr a ds k u).tmps.getD d undef=u (k+j):=by
 intro ds
 induction ds with
 | nil=>intro a k u j d _ h;simp at h
 | cons x ds ih =>
  intro a k u j d b c e;simp only [Fr]
  cases j with
  | zero =>
   simp only [List.getElem?_cons_zero,Option.some.injEq] at c;subst c;simp only [ndB,Bool.and_eq_true,Bool.not_eq_true',List.contains_eq_mem,decide_eq_false_iff_not] at b;rw [Fr_other ds _ _ _ _ b.1,getD_put _ _ _ _ e,if_pos rfl];rfl
  | succ j =>
   simp only [List.getElem?_cons_succ] at c;have f:ndB ds=true:=by cases x with | none=>exact b | some y=>simp only [ndB,Bool.and_eq_true] at b;exact b.2
   rw [ih (a.put x (u k)) (k+1) u j d f c (by rw [put_size];exact e)]
   congr 1;omega
theorem act_ext {a b:Act} (h1:a.tmps.size=b.tmps.size) (h2:a.defers=b.defers) (h3:∀ s,a.tmps.getD s undef=b.tmps.getD s undef):a=b:=by
 obtain⟨t,q⟩:=a;obtain⟨e,f⟩:=b;simp only at h1 h2 h3;subst h2
 congr 1
 refine Array.ext h1 λ i d c=>?_
 have:=h3 i
 simpa [Array.getD_eq_getD_getElem?,d,c] using this
section
variable {P:Program} {ops:Array Oper} {Q:Exit->Act->World->Prop}
def wantV (o:Oper) (vals:Nat->Value):Bool :=
 match o.guard with
 | none=>true
 | some (g,b)=>match vals g with | .bool c=>c == b | _=>false
theorem gu{W:Nat→Prop}{ds:List (Option Nat)}{T vals:Nat→Value}(hu:∀ j d,W j→ds[j]?=some (some d)→T d=vals j)(j d:Nat)(hw:W j:=by kernel_rfl)(h:ds[j]?=some (some d):=by rfl):T d=vals j:=hu j d hw h
theorem gz{L:Nat→Prop}{ds:List (Option Nat)}{T T0:Nat→Value}(h0:∀ s,(∀ j,L j→ds[j]?=some (some s)→False)→T s=T0 s)(s:Nat)(h:some s∉ds:=by decide):T s=T0 s:=h0 s (fun j _ hj=>h (List.mem_of_getElem? hj))
def FixAt (P:Program) (ops:Array Oper) (Q:Exit->Act->World->Prop) (a0:Act) (ds:List (Option Nat)) (vals:Nat->Value) (B:(Nat->Prop)->World->Prop) (k:Nat) (o:Oper):Prop :=
 ∀(L:Nat->Prop) (A:Act) (w':World),¬ L k->(∀ j d,waits ops k j=true->ds[j]?=some (some d)->A.tmps[d]?.getD undef=vals j)->(∀ s,some s ∉ ds->A.tmps[s]?.getD undef=a0.tmps[s]?.getD undef)->B L w' ->
  ∀ K:Act->World->Prop,Hid (∀ w'',B (λ j=>j=k∨L j) w''->K (A.put o.dst (vals k)) w'')->Oper.wp P o A w' K Q
def FixFrom (P:Program) (ops:Array Oper) (Q:Exit->Act->World->Prop) (a0:Act) (ds:List (Option Nat)) (vals:Nat->Value) (B:(Nat->Prop)->World->Prop) (n:Nat):Prop :=
 ∀ k,n<=k->∀ o,ops[k]?=some o->(wantV o vals=true->FixAt P ops Q a0 ds vals B k o)∧(wantV o vals=false->vals k=undef∧∀ L w',B L w'->B (λ j=>j=k∨L j) w')
theorem FixFrom.run {a0:Act} {ds:List (Option Nat)} {vals:Nat->Value} {B:(Nat->Prop)->World->Prop} {n:Nat} {o:Oper} (ho:ops[n]?=some o) (hw:wantV o vals=true) (h:FixAt P ops Q a0 ds vals B n o) (r:FixFrom P ops Q a0 ds vals B (n+1)):FixFrom P ops Q a0 ds vals B n:=by
 intro k d b a;by_cases e:k=n
 ·subst e;rw [ho] at a;simp only [Option.some.injEq] at a;subst a;exact⟨λ _=>h,λ c=>absurd (hw.symm.trans c) (by decide)⟩
 ·exact r k (by omega) b a
theorem FixFrom.nil {a0:Act} {ds:List (Option Nat)} {vals:Nat->Value} {B:(Nat->Prop)->World->Prop} {n:Nat} (h:ops.size<=n):FixFrom P ops Q a0 ds vals B n:=by
 intro k b o a;have:=(Array.getElem?_eq_some_iff.1 a).1;omega
def gdB (ops:Array Oper) (vals:Nat->Value):Bool:=(List.range ops.size).all λ k=>match ops[k]? with | some o=>(match o.guard with | none=>true | some (g,_)=>waits ops k g && (match vals g with | .bool _=>true | _=>false) && (match ops[g]? with | some q=>q.dst.isSome | none=>false)) | none=>true
theorem region_fix {id:Nat} {a0:Act} {w:World} (ds:List (Option Nat)) (vals:Nat->Value) (B:(Nat->Prop)->World->Prop) (hm:P.follows .mixedOrders=true) (hd:downs ops=true) (hds:(ops.map (·.dst)).toList=ds) (hnd:ndB ds=true) (hsz:szB a0.tmps.size ds=true) (hg:gdB ops vals=true)
  (hB:B (λ _=>False) w.drew) (hBL:∀ L L' w',(∀ j,j<ops.size->(L j↔L' j))->B L w'->B L' w') (hst:FixFrom P ops Q a0 ds vals B 0) (fin:∀ w',B (λ _=>True) w'->Q .normal (Fr a0 ds 0 vals) w'):(Code.region id ops true).wp P Q a0 w:=by
 have r:∀(k:Nat) (o:Oper),ops[k]?=some o->ds[k]?=some o.dst:=λ k o A=>by
  rw [<-hds];simp [A]
 have G:ds.length=ops.size:=by rw [<-hds];simp
 refine region_inv (λ _ L a w'=>(a.tmps.size=a0.tmps.size∧a.defers=a0.defers)∧(∀ s,some s ∉ ds->a.eval (.tmp s)=a0.eval (.tmp s))∧(∀ j d,L j->ds[j]?=some (some d)->a.eval (.tmp d)=vals j)∧B L w') hm hd ⟨⟨rfl,rfl⟩,λ _ _=>rfl,λ _ _ h=>h.elim,hB⟩ ?_ ?_
 ·intro k _ o A L a w' hI M t Y K Z;obtain⟨l,I,D,J⟩:=hI;have m:=r k o A;have p:∀ v,B (λ j=>j=k∨L j) v->K (a.put o.dst (vals k)) v:=λ v S=>by
   refine Z.out _ _ ⟨⟨by rw [put_size];exact l.1,by rw [put_defers];exact l.2⟩,λ s y=>?_,λ j d i f=>?_,S⟩
   ·cases hd':o.dst with
    | none=>exact I s y
    | some d =>
     rw [hd'] at m;have N:¬ s=d:=λ e=>y (by rw [e];exact List.mem_of_getElem? m)
     show (a.put (some d) (vals k)).tmps.getD s undef=_
     rw [getD_put _ _ _ _ (by rw [l.1];exact sz_of hsz m),if_neg N];exact I s y
   ·cases hd':o.dst with
    | none =>
     rw [hd'] at m;rcases i with rfl | i
     ·rw [m] at f;simp at f
     ·exact D j d i f
    | some e =>
     rw [hd'] at m;show (a.put (some e) (vals k)).tmps.getD d undef=_
     rw [getD_put _ _ _ _ (by rw [l.1];exact sz_of hsz m)];by_cases hde:d=e
     ·subst hde;rw [if_pos rfl,nd_of ds hnd j k d f m]
     ·rw [if_neg hde];rcases i with rfl | i
      ·rw [m] at f;simp only [Option.some.injEq] at f;exact absurd f.symm hde
      ·exact D j d i f
  have x:Region.wanted o (yielded ops a.tmps)=wantV o vals:=by
   unfold Region.wanted wantV
   cases hgo:o.guard with
   | none=>rfl
   | some gp =>
    obtain⟨g,b⟩:=gp;simp only;have C:=List.all_eq_true.1 hg k (List.mem_range.2 (Array.getElem?_eq_some_iff.1 A).1);rw [A] at C;simp only [hgo,Bool.and_eq_true] at C;obtain⟨⟨R,H⟩,n⟩:=C
    cases hq:ops[g]? with
    | none=>rw [hq] at n;simp at n
    | some q =>
     rw [hq] at n;obtain⟨d,E⟩:=Option.isSome_iff_exists.1 n;have z:=r g q hq;rw [E] at z;have W:=D g d (t g R) z;have F:d<a.tmps.size:=by rw [l.1];exact sz_of hsz z
     have X:a.tmps[d]?=some (vals g):=by
      have:a.tmps.getD d undef=vals g:=W;rw [Array.getD_eq_getD_getElem?,Array.getElem?_eq_getElem F] at this;rw [Array.getElem?_eq_getElem F]
      simpa using this
     unfold yielded;rw [hq];simp only [Option.bind_some,E,X]
     cases hvg:vals g <;> rw [hvg] at H <;> simp at H
     rename_i c
     cases b <;> cases c <;> rfl
  rw [x];split
  ·rename_i hw
   exact(hst k (Nat.zero_le _) o A).1 hw L a w' M (λ j d i f=>by rw [<-Array.getD_eq_getD_getElem?];exact D j d (t j i) f) (λ s l=>by rw [<-Array.getD_eq_getD_getElem?,<-Array.getD_eq_getD_getElem?];exact I s l) J K p
  ·rename_i hw
   have:=(hst k (Nat.zero_le _) o A).2 (by simpa using hw);have V:=p w' (this.2 L w' J);rw [this.1] at V;exact V
 ·rintro L a w' ⟨l,I,D,J⟩ T;have e:a=Fr a0 ds 0 vals:=by
   refine act_ext (by rw [(Fr_size _ _ _ _).1];exact l.1) (by rw [(Fr_size _ _ _ _).2];exact l.2) λ s=>?_
   by_cases hm':some s ∈ ds
   ·obtain⟨j,i⟩:=List.getElem?_of_mem hm';have O:j<ops.size:=by rw [<-G];exact(List.getElem?_eq_some_iff.1 i).1
    rw [Fr_get ds a0 0 vals j s hnd i (sz_of hsz i),Nat.zero_add];exact D j s (T j O) i
   ·rw [Fr_other ds a0 0 vals s hm'];exact I s hm'
  rw [e];exact fin w' (hBL L _ w' (λ j i=>⟨λ _=>trivial,λ _=>T j i⟩) J)
end
end RegF
namespace RegG
open Go Go.RowKit Base RegInv RegF
def upd (vals:Nat->Value) (k:Nat) (x:Value):Nat->Value:=λ j=>if j=k then x else vals j
theorem upd_same (vals:Nat->Value) (k:Nat) (x:Value):upd vals k x k=x:=by unfold upd;rw [if_pos rfl]
theorem upd_ne {vals:Nat->Value} {k j:Nat} {x:Value} (h:j≠k):upd vals k x j=vals j:=by unfold upd;rw [if_neg h]
def Pl (l:List (Option Value)) (j:Nat) (v:Value):Prop:=∀ c,l[j]?=some (some c)->v=c
theorem gv{W:Nat→Prop}{ds:List (Option Nat)}{T vals:Nat→Value}{pl:List (Option Value)}(hu:∀ j d,W j→ds[j]?=some (some d)→T d=vals j)(hp:∀ j,W j→Pl pl j (vals j))(j d:Nat){v:Value}(hw:W j:=by kernel_rfl)(h1:ds[j]?=some (some d):=by rfl)(h2:pl[j]?=some (some v):=by rfl):T d=v:=(hu j d hw h1).trans (hp j hw v h2)
theorem Pl.fix {l:List (Option Value)} {k:Nat} {v:Value} (h:l[k]?=some (some v)):Pl l k v:=λ c hc=>by rw [h] at hc;simpa using hc
theorem Pl.any {l:List (Option Value)} {k:Nat} {v:Value} (h:l[k]?=some none):Pl l k v:=λ c hc=>by rw [h] at hc;simp at hc
theorem ev {A:Act} {s:Nat} {v:Value} (h:A.tmps[s]?.getD undef=v):A.eval (.tmp s)=v:=by
 show A.tmps.getD s undef=v
 rw [Array.getD_eq_getD_getElem?];exact h
theorem or_ne {L:Nat->Prop} {i k:Nat} (h:i≠k):(i=k∨L i)=L i:=propext ⟨λ h'=>h'.resolve_left h,Or.inr⟩
section
variable {P:Program} {ops:Array Oper} {Q:Exit->Act->World->Prop}
def RelAt (P:Program) (ops:Array Oper) (Q:Exit->Act->World->Prop) (a0:Act) (ds:List (Option Nat)) (Pu:Nat->Value->Prop) (Me:(Nat->Prop)->(Nat->Value)->World->Prop) (k:Nat) (o:Oper):Prop :=
 ∀(L:Nat->Prop) (vals:Nat->Value) (A:Act) (w':World),¬ L k->(∀ j,waits ops k j=true->L j)->(∀ m j,waits ops m j=true->L m->L j) ->
  (∀ j d,waits ops k j=true->ds[j]?=some (some d)->A.tmps[d]?.getD undef=vals j)->(∀ j,waits ops k j=true->Pu j (vals j))->(∀ s,(∀ j,L j->ds[j]?=some (some s)->False)->A.tmps[s]?.getD undef=a0.tmps[s]?.getD undef)->Me L vals w' ->
  ∀ K:Act->World->Prop,Hid (∀ x w'',Pu k x->Me (λ j=>j=k∨L j) (upd vals k x) w''->K (A.put o.dst x) w'')->Oper.wp P o A w' K Q
def RelFrom (P:Program) (ops:Array Oper) (Q:Exit->Act->World->Prop) (a0:Act) (ds:List (Option Nat)) (Pu:Nat->Value->Prop) (Me:(Nat->Prop)->(Nat->Value)->World->Prop) (n:Nat):Prop :=
 ∀ k,n<=k->∀ o,ops[k]?=some o->RelAt P ops Q a0 ds Pu Me k o
theorem RelFrom.run {a0:Act} {ds:List (Option Nat)} {Pu:Nat->Value->Prop} {Me:(Nat->Prop)->(Nat->Value)->World->Prop} {n:Nat} {o:Oper} (ho:ops[n]?=some o) (h:RelAt P ops Q a0 ds Pu Me n o) (r:RelFrom P ops Q a0 ds Pu Me (n+1)):RelFrom P ops Q a0 ds Pu Me n:=by
 intro k c b a;by_cases e:k=n
 ·subst e;rw [ho] at a;simp only [Option.some.injEq] at a;subst a;exact h
 ·exact r k (by omega) b a
theorem RelFrom.nil {a0:Act} {ds:List (Option Nat)} {Pu:Nat->Value->Prop} {Me:(Nat->Prop)->(Nat->Value)->World->Prop} {n:Nat} (h:ops.size<=n):RelFrom P ops Q a0 ds Pu Me n:=by
 intro k b o a;have:=(Array.getElem?_eq_some_iff.1 a).1;omega
theorem waits_lt {k j:Nat} (h:waits ops k j=true):k<ops.size:=by
 rcases Nat.lt_or_ge k ops.size with h1 | h1
 ·exact h1
 ·unfold waits at h
  cases hs:ops.size with
  | zero=>rw [hs] at h;simp [waitsGo] at h
  | succ n=>rw [hs] at h;simp only [waitsGo,Array.getElem?_eq_none h1] at h;cases h
theorem region_rel {id:Nat} {a0:Act} {w:World} (ds:List (Option Nat)) (N:Nat) (Pu:Nat->Value->Prop) (Me:(Nat->Prop)->(Nat->Value)->World->Prop) (hm:P.follows .mixedOrders=true) (hd:downs ops=true) (hds:(ops.map (·.dst)).toList=ds) (hN:ops.size=N) (hnd:ndB ds=true) (hsz:szB a0.tmps.size ds=true) (hg:(ops.all λ o=>o.guard.isNone)=true)
  (h0:Me (λ j=>N<=j) (λ _=>undef) w.drew) (hst:RelFrom P ops Q a0 ds Pu Me 0) (fin:∀ vals w',(∀ j,j<N->Pu j (vals j))->Me (λ _=>True) vals w'->Q .normal (Fr a0 ds 0 vals) w'):(Code.region id ops true).wp P Q a0 w:=by
 subst hN;have B:∀(k:Nat) (o:Oper),ops[k]?=some o->ds[k]?=some o.dst:=λ k o r=>by
  rw [<-hds];simp [r]
 have A:ds.length=ops.size:=by rw [<-hds];simp
 refine region_inv (λ _ L a w'=>∃ vals:Nat->Value,(a.tmps.size=a0.tmps.size∧a.defers=a0.defers)∧(∀ s,(∀ j,L j->ds[j]?=some (some s)->False)->a.eval (.tmp s)=a0.eval (.tmp s))∧(∀ j d,L j->ds[j]?=some (some d)->a.eval (.tmp d)=vals j)∧(∀ j,L j->Pu j (vals j))∧Me (λ j=>L j∨ops.size<=j) vals w') hm hd ⟨λ _=>undef,⟨rfl,rfl⟩,λ _ _=>rfl,λ _ _ h=>h.elim,λ _ h=>h.elim,?_⟩ ?_ ?_
 ·have e:(λ j:Nat=>False∨ops.size<=j)=λ j=>ops.size<=j:=funext λ j=>propext ⟨λ h=>h.elim False.elim (λ h=>h),Or.inr⟩
  rw [e];exact h0
 ·intro k _ o r L a w' V E l J K T;obtain⟨vals,n,h0,v,C,D⟩:=V;have i:=B k o r;have G:=(Array.getElem?_eq_some_iff.1 r).1;have I:o.guard=none:=by
   have R:=Array.all_eq_true.1 hg k G;have W:ops[k]=o:=(Array.getElem?_eq_some_iff.1 r).2;rw [W] at R
   simpa using R
  have S:Region.wanted o (yielded ops a.tmps)=true:=by simp [Region.wanted,I]
  rw [if_pos S];have t:∀ x p,Pu k x->Me (λ j=>j=k∨(L j∨ops.size<=j)) (upd vals k x) p->K (a.put o.dst x) p:=λ x p y M=>by
   refine T.out _ _ ⟨upd vals k x,⟨by rw [put_size];exact n.1,by rw [put_defers];exact n.2⟩,λ s q=>?_,λ j d c b=>?_,λ j c=>?_,?_⟩
   ·cases hd':o.dst with
    | none=>exact h0 s (λ j c=>q j (.inr c))
    | some d =>
     rw [hd'] at i;have F:¬ s=d:=λ e=>q k (.inl rfl) (by rw [e];exact i)
     show (a.put (some d) x).tmps.getD s undef=_
     rw [getD_put _ _ _ _ (by rw [n.1];exact sz_of hsz i),if_neg F];exact h0 s (λ j c=>q j (.inr c))
   ·cases hd':o.dst with
    | none =>
     rw [hd'] at i;rcases c with rfl | c
     ·rw [i] at b;simp at b
     ·have g:j≠k:=λ e=>by rw [e,i] at b;simp at b
      rw [upd_ne g];exact v j d c b
    | some e =>
     rw [hd'] at i;show (a.put (some e) x).tmps.getD d undef=_
     rw [getD_put _ _ _ _ (by rw [n.1];exact sz_of hsz i)];by_cases hde:d=e
     ·subst hde;rw [if_pos rfl,nd_of ds hnd j k d b i,upd_same]
     ·rw [if_neg hde];rcases c with rfl | c
      ·rw [i] at b;simp only [Option.some.injEq] at b;exact absurd b.symm hde
      ·have g:j≠k:=λ Y=>by rw [Y,i] at b;simp only [Option.some.injEq] at b;exact hde b.symm
       rw [upd_ne g];exact v j d c b
   ·rcases c with rfl | c
    ·rw [upd_same];exact y
    ·by_cases g:j=k
     ·subst g;rw [upd_same];exact y
     ·rw [upd_ne g];exact C j c
   ·have e:(λ j:Nat=>(j=k∨L j)∨ops.size<=j)=λ j=>j=k∨(L j∨ops.size<=j):=funext λ j=>propext or_assoc
    rw [e];exact M
  refine hst k (Nat.zero_le _) o r (λ j=>L j∨ops.size<=j) vals a w' (λ h=>h.elim E (by omega)) (λ j c=>.inl (l j c)) (λ m j z f=>?_) (λ j d c b=>by rw [<-Array.getD_eq_getD_getElem?];exact v j d (l j c) b) (λ j c=>C j (l j c)) (λ s n=>by rw [<-Array.getD_eq_getD_getElem?,<-Array.getD_eq_getD_getElem?];exact h0 s (λ j c=>n j (.inl c))) D K (kD t);rcases f with f | f
  ·exact .inl (J m j z f)
  ·have:=waits_lt z;omega
 ·rintro L a w' ⟨vals,n,h0,v,C,D⟩ O;have e:a=Fr a0 ds 0 vals:=by
   refine act_ext (by rw [(Fr_size _ _ _ _).1];exact n.1) (by rw [(Fr_size _ _ _ _).2];exact n.2) λ s=>?_
   by_cases f:some s ∈ ds
   ·obtain⟨j,c⟩:=List.getElem?_of_mem f;have H:j<ops.size:=by rw [<-A];exact(List.getElem?_eq_some_iff.1 c).1
    rw [Fr_get ds a0 0 vals j s hnd c (sz_of hsz c),Nat.zero_add];exact v j s (O j H) c
   ·rw [Fr_other ds a0 0 vals s f];exact h0 s (λ j _ c=>f (List.mem_of_getElem? c))
  rw [e];have X:(λ j:Nat=>L j∨ops.size<=j)=λ _=>True:=funext λ j=>propext ⟨λ _=>trivial,λ _=>by
   rcases Nat.lt_or_ge j ops.size with h | h
   ·exact .inl (O j h)
   ·exact .inr h⟩
  rw [X] at D;exact fin vals w' (λ j c=>C j (O j c)) D
end
structure Ust (ops:Array Oper) (k:Nat) (ds:List (Option Nat)) (Pu:Nat->Value->Prop) (L:Nat->Prop) (vals:Nat->Value) (A a0:Act):Prop where
 u:∀ j d,waits ops k j=true->ds[j]?=some (some d)->A.tmps[d]?.getD undef=vals j
 p:∀ j,waits ops k j=true->Pu j (vals j)
 z:∀ s,(∀ j,L j->ds[j]?=some (some s)->False)->A.tmps[s]?.getD undef=a0.tmps[s]?.getD undef
theorem Ust.x {ops:Array Oper} {k:Nat} {ds:List (Option Nat)} {Pu:Nat->Value->Prop} {L:Nat->Prop} {vals:Nat->Value} {A a0:Act} (U:Ust ops k ds Pu L vals A a0) (j d:Nat) (hw:waits ops k j=true:=by kernel_rfl) (h:ds[j]?=some (some d):=by rfl):A.tmps[d]?.getD undef=vals j:=U.u j d hw h
theorem Ust.v {ops:Array Oper} {k:Nat} {ds:List (Option Nat)} {pl:List (Option Value)} {L:Nat->Prop} {vals:Nat->Value} {A a0:Act} (U:Ust ops k ds (Pl pl) L vals A a0) (j d:Nat) {v:Value} (hw:waits ops k j=true:=by kernel_rfl) (h1:ds[j]?=some (some d):=by rfl) (h2:pl[j]?=some (some v):=by rfl):A.tmps[d]?.getD undef=v:=(U.u j d hw h1).trans (U.p j hw v h2)
theorem Ust.y {ops:Array Oper} {k:Nat} {ds:List (Option Nat)} {Pu:Nat->Value->Prop} {L:Nat->Prop} {vals:Nat->Value} {A a0:Act} (U:Ust ops k ds Pu L vals A a0) (s:Nat) (h:some s∉ds:=by decide):A.tmps[s]?.getD undef=a0.tmps[s]?.getD undef:=U.z s (λ j _ a=>h (List.mem_of_getElem? a))
theorem Ust.w {ops:Array Oper} {k:Nat} {ds:List (Option Nat)} {Pu:Nat->Value->Prop} {L:Nat->Prop} {vals:Nat->Value} {A a0:Act} (U:Ust ops k ds Pu L vals A a0) (s:Nat) (v:Value) (h:some s∉ds:=by decide) (e:a0.tmps[s]?.getD undef=v:=by rfl):A.tmps[s]?.getD undef=v:=(U.y s h).trans e
theorem rN {P:Program} {ops:Array Oper} {Q:Exit->Act->World->Prop} {a0:Act} {ds:List (Option Nat)} {Pu:Nat->Value->Prop} {Me:(Nat->Prop)->(Nat->Value)->World->Prop} {n:Nat} {o:Oper} (ho:ops[n]?=some o) (h:∀ (L:Nat->Prop) (vals:Nat->Value) (A:Act) (w':World),¬L n->(∀ j,waits ops n j=true->L j)->(∀ m j,waits ops m j=true->L m->L j)->Ust ops n ds Pu L vals A a0->Me L vals w'->∀ K:Act->World->Prop,Hid (∀ x w'',Pu n x->Me (λ j=>j=n∨L j) (upd vals n x) w''->K (A.put o.dst x) w'')->Oper.wp P o A w' K Q) (r:RelFrom P ops Q a0 ds Pu Me (n+1)):RelFrom P ops Q a0 ds Pu Me n:=RelFrom.run ho (λ L a A w b d f hu hp h0 F K hK=>h L a A w b d f ⟨hu,hp,h0⟩ F K hK) r
theorem pF {p:List (Option Value)} {k:Nat} {S:Value->World->Prop} {G:Value->World->Prop} {x:Value} {w:World} (hK:Hid (∀ x w,Pl p k x->S x w->G x w)) (h:S x w) (hp:Pl p k x:=by exact Pl.fix rfl):G x w:=hK _ _ hp h
theorem rG {P:Program} {ops:Array Oper} {Q:Exit->Act->World->Prop} {id:Nat} {a0:Act} {w:World} (ds:List (Option Nat)) (N:Nat) (Pu:Nat->Value->Prop) (Me:(Nat->Prop)->(Nat->Value)->World->Prop) (h0:Me (λ j=>N<=j) (λ _=>undef) w.drew) (hst:RelFrom P ops Q a0 ds Pu Me 0) (fin:∀ vals w',(∀ j,j<N->Pu j (vals j))->Me (λ _=>True) vals w'->Q .normal (Fr a0 ds 0 vals) w') (hm:P.follows .mixedOrders=true:=by kernel_rfl) (hd:downs ops=true:=by kernel_rfl) (hds:(ops.map (·.dst)).toList=ds:=by kernel_rfl) (hN:ops.size=N:=by kernel_rfl) (hnd:ndB ds=true:=by kernel_rfl) (hsz:szB a0.tmps.size ds=true:=by kernel_rfl) (hg:(ops.all λ o=>o.guard.isNone)=true:=by kernel_rfl):(Code.region id ops true).wp P Q a0 w:=region_rel ds N Pu Me hm hd hds hN hnd hsz hg h0 hst fin
section
variable {P:Program} {w:World} {α:Type} {en:α->List Value}
theorem run_append_zero (base:Nat) (t ty e:TypeId) (i:TypeInfo) (size:Nat) (ht:P.underlying t=some (.slice e)) (hi:P.info? e=some i)
  (v:Value) (n:Nat) (xs:List Value) (hown:w.ownsRow base e size v n xs) (A:Option Addr) (c:Nat) :
  (Builtin.append_ #[t,t] ty #[v,.slice A 0 c]).run P w=.ok v w:=by
 rcases hown.2 with ⟨rfl,rfl⟩ | ⟨g,cap,cur,rfl,_,_,hnc,_⟩
 ·cases A <;> simp [Builtin.append_,run_underlying ht,sizeOf,typeInfo,hi,Builtin.lenOf,Builtin.firstCells,loadCells,loadCellsFrom]
 ·cases A <;> simp [Builtin.append_,run_underlying ht,sizeOf,typeInfo,hi,Builtin.lenOf,Builtin.firstCells,hnc,storeCells,loadCells,loadCellsFrom]
theorem news_of {B sz:Nat} {ad:Addr} {ys:List α} (hen:∀ x,(en x).length=sz) (h:RdS w B sz en (some ad) ys):∀ j u,(ys.flatMap en)[j]?=some u->w.cell? (ad.add j)=some u:=by
 intro j u i;have f:j<(ys.flatMap en).length:=(List.getElem?_eq_some_iff.1 i).1;rw [flatMap_len hen] at f;have e:0<sz:=by
  rcases Nat.eq_zero_or_pos sz with h0 | h0
  ·subst h0;simp at f
  ·exact h0
 have l:j / sz<ys.length:=Nat.div_lt_of_lt_mul (by rw [Nat.mul_comm];exact f);obtain⟨b,a,m,_,p⟩:=h.2 (Nat.lt_of_le_of_lt (Nat.zero_le _) l);simp only [Option.some.injEq] at m;subst m;have g:ys[j / sz]?=some ys[j / sz]:=List.getElem?_eq_getElem l;have k:j % sz<(en ys[j / sz]).length:=by rw [hen];exact Nat.mod_lt _ e
 have o:=flatMap_at hen ys (j / sz) _ g (j % sz) _ (List.getElem?_eq_getElem k);have c:j / sz*sz+j % sz=j:=by rw [Nat.mul_comm];exact Nat.div_add_mod j sz
 rw [c,i] at o;have n:=p (j / sz) _ g (j % sz) _ (List.getElem?_eq_getElem k);rw [Nat.add_assoc,c,<-o] at n;have d:(⟨b,a,none⟩:Addr).add j=⟨b,a+j,none⟩:=by unfold Addr.add;split <;> simp_all
 rw [d];exact n
theorem wp_app {o:Oper} {a:Act} {K:Act->World->Prop} {Q:Exit->Act->World->Prop} (s x:Operand) (t:TypeId)
  (ho:o.op=.call { callee:=.builtin .append,args:=#[s,x],argTypes:=#[t,t] })
  (lo hi:Nat) (e:TypeId) (i:TypeInfo) (z:Value) (sz bytes:Nat) (ht:P.underlying t=some (.slice e)) (hi0:P.info? e=some i) (hz:i.zero=some z)
  (hsize:i.size=sz) (hby:i.bytes=bytes) (hzs:z.cells.size=sz) (hsz:0<sz) (hen:∀ x,(en x).length=sz)
  (v:Value) (xs ys:List α) (hone:∀ x ∈ ys,∀ u ∈ en x,u.oneCell'=true) (hs:a.eval s=v) (hown:OwnS w lo hi e sz en v xs)
  (A:Option Addr) (m c B:Nat) (hx:a.eval x=.slice A m c) (hm:m=ys.length) (hr:RdS w B sz en A ys)
  (h63:xs.length+m<=maxLen) (hbytes:(xs.length+m)*bytes<=140737488355328) (hlo:lo<=w.heap.size) (hhi:hi<=w.heap.size)
  (h:∀ v' w',OwnS w' lo w'.heap.size e sz en v' (xs++ys)->w.grownBy w' v.ownBlock->(∀ g,v'.ownBlock=some g->v.ownBlock=some g∨g=w.heap.size)->K (a.put o.dst v') w'):Oper.wp P o a w K Q:=by
 subst hm
 cases ys with
 | nil =>
  have f:=run_append_zero (P:=P) (w:=w) lo t o.type e i sz ht hi0 v xs.length _ hown.1 A c;unfold Oper.wp execOp;simp only [ho,resolve,invoke,builtin,Sem.run_bind,Sem.run_pure,Result.andThen_ok,List.map_toArray,List.map_cons,List.map_nil,hs,hx,List.length_nil,f];exact h v w (by rw [List.append_nil];exact hown.more hhi) (grownBy_refl _ _) (λ g E=>.inl E)
 | cons y ys =>
  obtain⟨b,j,rfl,_,_⟩:=hr.2 (by simp);refine wp_append_lies w s x t ho lo e i z sz bytes ht hi0 hz hsize hby hzs hsz v xs.length (xs.flatMap en) hs hown.1 ⟨b,j,none⟩ _ c ((y :: ys).flatMap en) hx (by rw [flatMap_len hen]) (news_of hen hr) ?_ (by simp) h63 hbytes hlo _ rfl ?_
  ·intro u C;obtain⟨q,hm,D⟩:=List.mem_flatMap.1 C;exact hone q hm u D
  ·intro g F w' d n p l;rw [<-List.flatMap_append] at d;exact h _ _ (Own.OwnS_of (by rw [List.length_append]) d l) n (λ k r=>by simp [Value.ownBlock] at r;subst r;exact p)
theorem wpL_appR {ops:Array Oper} {rest:List Oper} {o:Oper} {a:Act} {Q:Exit->Act->World->Prop} (hgd:o.guard=none) (s x:Operand) (t:TypeId)
  (ho:o.op=.call { callee:=.builtin .append,args:=#[s,x],argTypes:=#[t,t] })
  (lo hi:Nat) (e:TypeId) (i:TypeInfo) (z:Value) (sz bytes:Nat) (ht:P.underlying t=some (.slice e)) (hi0:P.info? e=some i) (hz:i.zero=some z)
  (hsize:i.size=sz) (hby:i.bytes=bytes) (hzs:z.cells.size=sz) (hsz:0<sz) (hen:∀ x,(en x).length=sz)
  (v:Value) (xs ys:List α) (hone:∀ x ∈ ys,∀ u ∈ en x,u.oneCell'=true) (hs:a.eval s=v) (hown:OwnS w lo hi e sz en v xs)
  (A:Option Addr) (m c B:Nat) (hx:a.eval x=.slice A m c) (hm:m=ys.length) (hr:RdS w B sz en A ys)
  (h63:xs.length+m<=maxLen) (hbytes:(xs.length+m)*bytes<=140737488355328) (hlo:lo<=w.heap.size) (hhi:hi<=w.heap.size)
  (h:∀ v' w',OwnS w' lo w'.heap.size e sz en v' (xs++ys)->w.grownBy w' v.ownBlock->(∀ g,v'.ownBlock=some g->v.ownBlock=some g∨g=w.heap.size)->wpList P ops Q rest (a.put o.dst v') w'):wpList P ops Q (o :: rest) a w :=
 wpList_plain hgd λ _ hK=>wp_app s x t ho lo hi e i z sz bytes ht hi0 hz hsize hby hzs hsz hen v xs ys hone hs hown A m c B hx hm hr h63 hbytes hlo hhi λ v' w' h1 h2 h3=>hK _ _ (h v' w' h1 h2 h3)
theorem wp_one {o:Oper} {a:Act} {K:Act->World->Prop} {Q:Exit->Act->World->Prop} (s x:Operand) (t:TypeId)
  (ho:o.op=.call { callee:=.builtin .append,args:=#[s,x],argTypes:=#[t,t] })
  (lo hi:Nat) (e:TypeId) (i:TypeInfo) (z:Value) (sz bytes:Nat) (ht:P.underlying t=some (.slice e)) (hi0:P.info? e=some i) (hz:i.zero=some z)
  (hsize:i.size=sz) (hby:i.bytes=bytes) (hzs:z.cells.size=sz) (hsz:0<sz) (hen:∀ x,(en x).length=sz)
  (v:Value) (xs:List α) (y:α) (hone:∀ u ∈ en y,u.oneCell'=true) (hs:a.eval s=v) (hown:OwnS w lo hi e sz en v xs)
  (g0 c:Nat) (e0:TypeId) (hx:a.eval x=.slice (some ⟨g0,0,none⟩) 1 c) (hr:RowB w g0 e0 (en y))
  (h63:xs.length+1<=maxLen) (hbytes:(xs.length+1)*bytes<=140737488355328) (hlo:lo<=w.heap.size)
  (h:∀ g cap w',OwnS w' lo w'.heap.size e sz en (.slice (some ⟨g,0,none⟩) (xs.length+1) cap) (xs++[y])->w.grownBy w' v.ownBlock->(v.ownBlock=some g∨g=w.heap.size)->g<w'.heap.size ->
   K (a.put o.dst (.slice (some ⟨g,0,none⟩) (xs.length+1) cap)) w'):Oper.wp P o a w K Q:=by
 refine wp_append_lies w s x t ho lo e i z sz bytes ht hi0 hz hsize hby hzs hsz v xs.length (xs.flatMap en) hs hown.1 ⟨g0,0,none⟩ 1 c (en y) hx (by rw [hen,Nat.one_mul]) (Own.news_new hr) hone (by decide) h63 hbytes hlo _ rfl ?_;intro g cap w' b f j d;have k:xs.flatMap en++en y=(xs++[y]).flatMap en:=by simp
 rw [k] at b;exact h g cap w' (Own.OwnS_of (by rw [List.length_append];rfl) b d) f j d
theorem wpL_one {ops:Array Oper} {rest:List Oper} {o:Oper} {a:Act} {Q:Exit->Act->World->Prop} (hgd:o.guard=none) (s x:Operand) (t:TypeId)
  (ho:o.op=.call { callee:=.builtin .append,args:=#[s,x],argTypes:=#[t,t] })
  (lo hi:Nat) (e:TypeId) (i:TypeInfo) (z:Value) (sz bytes:Nat) (ht:P.underlying t=some (.slice e)) (hi0:P.info? e=some i) (hz:i.zero=some z)
  (hsize:i.size=sz) (hby:i.bytes=bytes) (hzs:z.cells.size=sz) (hsz:0<sz) (hen:∀ x,(en x).length=sz)
  (v:Value) (xs:List α) (y:α) (hone:∀ u ∈ en y,u.oneCell'=true) (hs:a.eval s=v) (hown:OwnS w lo hi e sz en v xs)
  (g0 c:Nat) (e0:TypeId) (hx:a.eval x=.slice (some ⟨g0,0,none⟩) 1 c) (hr:RowB w g0 e0 (en y))
  (h63:xs.length+1<=maxLen) (hbytes:(xs.length+1)*bytes<=140737488355328) (hlo:lo<=w.heap.size)
  (h:∀ g cap w',OwnS w' lo w'.heap.size e sz en (.slice (some ⟨g,0,none⟩) (xs.length+1) cap) (xs++[y])->w.grownBy w' v.ownBlock->(v.ownBlock=some g∨g=w.heap.size)->g<w'.heap.size ->
   wpList P ops Q rest (a.put o.dst (.slice (some ⟨g,0,none⟩) (xs.length+1) cap)) w'):wpList P ops Q (o :: rest) a w :=
 wpList_plain hgd λ _ hK=>wp_one s x t ho lo hi e i z sz bytes ht hi0 hz hsize hby hzs hsz hen v xs y hone hs hown g0 c e0 hx hr h63 hbytes hlo λ g cap w' h1 h2 h3 h4=>hK _ _ (h g cap w' h1 h2 h3 h4)
end
end RegG
end Go.Proofs.YtjdefiinmicjiaaGreatDoor
