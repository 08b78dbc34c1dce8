/- Parts of the proof of FnEventText. Conditions: each theorem's own. -/
import Derived.Test.YtjdefiinmicjiaaGreatDoorU04
import Derived.Deep.MidRow
set_option linter.unusedVariables false
set_option linter.unusedSimpArgs false
set_option maxHeartbeats 8000000
set_option maxRecDepth 100000
namespace Go.Proofs.YtjdefiinmicjiaaGreatDoor
namespace RegG
open Go Go.RowKit Base RegInv RegF
section
variable {P:Program} {ops:Array Oper} {Q:Exit->Act->World->Prop}
def gdT (ops:Array Oper) (pl:List (Option Value)):Bool:=(List.range ops.size).all λ k=>match ops[k]? with | some o=>(match o.guard with | none=>true | some (g,b)=>waits ops k g && (match pl[g]? with | some (some (.bool c))=>c == b | _=>false) && (match ops[g]? with | some q=>q.dst.isSome | none=>false)) | none=>true
theorem region_relG {id:Nat} {a0:Act} {w:World} (ds:List (Option Nat)) (N:Nat) (pl:List (Option Value)) (Me:(Nat->Prop)->(Nat->Value)->World->Prop) (hm:P.follows .mixedOrders=true) (hd:downs ops=true) (hds:(ops.map (·.dst)).toList=ds) (hN:ops.size=N) (hnd:ndB ds=true) (hsz:szB a0.tmps.size ds=true) (hg:gdT ops pl=true)
  (h0:Me (λ j=>N<=j) (λ _=>undef) w.drew) (hst:RelFrom P ops Q a0 ds (Pl pl) Me 0) (fin:∀ vals w',(∀ j,j<N->Pl pl j (vals j))->Me (λ _=>True) vals w'->Q .normal (Fr a0 ds 0 vals) w'):(Code.region id ops true).wp P Q a0 w:=by
 subst hN;have z:∀(k:Nat) (o:Oper),ops[k]?=some o->ds[k]?=some o.dst:=λ k o F=>by
  rw [<-hds];simp [F]
 have S:ds.length=ops.size:=by rw [<-hds];simp
 refine region_inv (λ _ L a w'=>∃ vals:Nat->Value,(a.tmps.size=a0.tmps.size∧a.defers=a0.defers)∧(∀ s,(∀ j,L j->ds[j]?=some (some s)->False)->a.eval (.tmp s)=a0.eval (.tmp s))∧(∀ j d,L j->ds[j]?=some (some d)->a.eval (.tmp d)=vals j)∧(∀ j,L j->Pl pl j (vals j))∧Me (λ j=>L j∨ops.size<=j) vals w') hm hd ⟨λ _=>undef,⟨rfl,rfl⟩,λ _ _=>rfl,λ _ _ h=>h.elim,λ _ h=>h.elim,?_⟩ ?_ ?_
 ·have e:(λ j:Nat=>False∨ops.size<=j)=λ j=>ops.size<=j:=funext λ j=>propext ⟨λ h=>h.elim False.elim (λ h=>h),Or.inr⟩
  rw [e];exact h0
 ·intro k _ o F L a w' hI W l ab K hK;obtain⟨vals,t,h0,E,M,T⟩:=hI;have r:=z k o F;have Y:=(Array.getElem?_eq_some_iff.1 F).1;have hw:Region.wanted o (yielded ops a.tmps)=true:=by
   unfold Region.wanted
   cases hgo:o.guard with
   | none=>rfl
   | some gp =>
    obtain⟨g,b⟩:=gp;simp only;have D:=List.all_eq_true.1 hg k (List.mem_range.2 Y);rw [F] at D;simp only [hgo,Bool.and_eq_true] at D;obtain⟨⟨aa,p⟩,y⟩:=D
    cases hq:ops[g]? with
    | none=>rw [hq] at y;simp at y
    | some q =>
     rw [hq] at y;obtain⟨d,I⟩:=Option.isSome_iff_exists.1 y;have C:=z g q hq;rw [I] at C;have G:=l g aa;have hv:=E g d G C;have V:vals g=.bool b:=by
      cases hpg:pl[g]? with
      | none=>rw [hpg] at p;simp at p
      | some ov =>
       rw [hpg] at p
       cases ov with
       | none=>simp at p
       | some v =>
        have h5:=M g G v hpg;rw [h5]
        cases v <;> simp at p
        rw [p]
     rw [V] at hv;have R:d<a.tmps.size:=by rw [t.1];exact sz_of hsz C
     have ht:a.tmps[d]?=some (.bool b):=by
      have:a.tmps.getD d undef=.bool b:=hv;rw [Array.getD_eq_getD_getElem?,Array.getElem?_eq_getElem R] at this;rw [Array.getElem?_eq_getElem R]
      simpa using this
     unfold yielded;rw [hq];simp only [Option.bind_some,I,ht]
     cases b <;> rfl
  rw [if_pos hw];have H:∀ x A,Pl pl k x->Me (λ j=>j=k∨(L j∨ops.size<=j)) (upd vals k x) A->K (a.put o.dst x) A:=λ x A J ac=>by
   refine hK.out _ _ ⟨upd vals k x,⟨by rw [put_size];exact t.1,by rw [put_defers];exact t.2⟩,λ s B=>?_,λ j d f c=>?_,λ j f=>?_,?_⟩
   ·cases hd':o.dst with
    | none=>exact h0 s (λ j f=>B j (.inr f))
    | some d =>
     rw [hd'] at r;have X:¬ s=d:=λ e=>B k (.inl rfl) (by rw [e];exact r)
     show (a.put (some d) x).tmps.getD s undef=_
     rw [getD_put _ _ _ _ (by rw [t.1];exact sz_of hsz r),if_neg X];exact h0 s (λ j f=>B j (.inr f))
   ·cases hd':o.dst with
    | none =>
     rw [hd'] at r;rcases f with rfl | f
     ·rw [r] at c;simp at c
     ·have n:j≠k:=λ e=>by rw [e,r] at c;simp at c
      rw [upd_ne n];exact E j d f c
    | some e =>
     rw [hd'] at r;show (a.put (some e) x).tmps.getD d undef=_
     rw [getD_put _ _ _ _ (by rw [t.1];exact sz_of hsz r)];by_cases hde:d=e
     ·subst hde;rw [if_pos rfl,nd_of ds hnd j k d c r,upd_same]
     ·rw [if_neg hde];rcases f with rfl | f
      ·rw [r] at c;simp only [Option.some.injEq] at c;exact absurd c.symm hde
      ·have n:j≠k:=λ e'=>by rw [e',r] at c;simp only [Option.some.injEq] at c;exact hde c.symm
       rw [upd_ne n];exact E j d f c
   ·rcases f with rfl | f
    ·rw [upd_same];exact J
    ·by_cases n:j=k
     ·subst n;rw [upd_same];exact J
     ·rw [upd_ne n];exact M j f
   ·have e:(λ j:Nat=>(j=k∨L j)∨ops.size<=j)=λ j=>j=k∨(L j∨ops.size<=j):=funext λ j=>propext or_assoc
    rw [e];exact ac
  refine hst k (Nat.zero_le _) o F (λ j=>L j∨ops.size<=j) vals a w' (λ h=>h.elim W (by omega)) (λ j f=>.inl (l j f)) (λ m j O i=>?_) (λ j d f c=>by rw [<-Array.getD_eq_getD_getElem?];exact E j d (l j f) c) (λ j f=>M j (l j f)) (λ s t=>by rw [<-Array.getD_eq_getD_getElem?,<-Array.getD_eq_getD_getElem?];exact h0 s (λ j f=>t j (.inl f))) T K (kD H);rcases i with i | i
  ·exact .inl (ab m j O i)
  ·have:=waits_lt O;omega
 ·rintro L a w' ⟨vals,t,h0,E,M,T⟩ G;have e:a=Fr a0 ds 0 vals:=by
   refine act_ext (by rw [(Fr_size _ _ _ _).1];exact t.1) (by rw [(Fr_size _ _ _ _).2];exact t.2) λ s=>?_
   by_cases i:some s ∈ ds
   ·obtain⟨j,f⟩:=List.getElem?_of_mem i;have Z:j<ops.size:=by rw [<-S];exact(List.getElem?_eq_some_iff.1 f).1
    rw [Fr_get ds a0 0 vals j s hnd f (sz_of hsz f),Nat.zero_add];exact E j s (G j Z) f
   ·rw [Fr_other ds a0 0 vals s i];exact h0 s (λ j _ f=>i (List.mem_of_getElem? f))
  rw [e];have e2:(λ j:Nat=>L j∨ops.size<=j)=λ _=>True:=funext λ j=>propext ⟨λ _=>trivial,λ _=>by
   rcases Nat.lt_or_ge j ops.size with h | h
   ·exact .inl (G j h)
   ·exact .inr h⟩
  rw [e2] at T;exact fin vals w' (λ j f=>M j (G j f)) T
end
def setL:List Value->Nat->List Value->List Value
 | cs,_,[]=>cs
 | cs,o,v :: r=>setL (cs.set o v) (o+1) r
theorem row_cells {g:Nat} {t:TypeId}:∀(vs:List Value) (o:Nat) (w:World) (cs:List Value),RowB w g t cs->RowB (w.setCells g o vs) g t (setL cs o vs)
 | [],_,_,_,h=>h
 | v :: r,o,_,_,h=>row_cells r (o+1) _ _ (h.set o v)
theorem grown_cells (g:Nat):∀(vs:List Value) (o:Nat) (w:World),w.grownBy (w.setCells g o vs) (some g)
 | [],_,w=>Base.grownBy_refl w _
 | v :: r,o,w=>Base.grownBy_trans (Base.grownBy_setCell w g o v) (grown_cells g r (o+1) _)
theorem size_cells (g:Nat):∀(vs:List Value) (o:Nat) (w:World),(w.setCells g o vs).heap.size=w.heap.size
 | [],_,_=>rfl
 | v :: r,o,w=>(size_cells g r (o+1) _).trans (by simp [World.setCell])
theorem setL_len:∀(vs cs:List Value) (o:Nat),(setL cs o vs).length=cs.length
 | [],_,_=>rfl
 | v :: r,cs,o=>(setL_len r _ _).trans (by simp)
theorem there_row {w:World} {g j n:Nat} {t:TypeId} {cs:List Value} (h:RowB w g t cs) (hl:j+n<=cs.length):w.there g j n:=λ i hi =>
 ⟨by rw [h.cell,List.getElem?_eq_getElem (by omega)];rfl,h.frozen _⟩
theorem wpL_sm {P:Program} {ops:Array Oper} {rest:List Oper} {o:Oper} {a:Act} {w:World} {Q:Exit->Act->World->Prop} (ty:TypeId) (x y:Operand) (ho:o={ dst:=none,op:=.store ty x y,type:=o.type,pos:=o.pos,after:=o.after,guard:=none })
  (g j:Nat) (cs old new:List Value) (hx:a.eval x=.pointer (some ⟨g,j,none⟩)) (hy:a.eval y=.agg ⟨cs⟩)
  (t:TypeId) (hg:RowB w g t old) (hi:(P.info? ty).map (·.size)=some cs.length) (hl:j+cs.length<=old.length) (h1:cs.all (·.oneCell')=true) (hn:setL old j cs=new)
  (h:∀ w',RowB w' g t new->w.grownBy w' (some g)->w'.heap.size=w.heap.size->wpList P ops Q rest a w'):wpList P ops Q (o :: rest) a w:=by
 refine wpList_store_mid (by rw [ho]) ty x y (by rw [ho]) g j ⟨cs⟩ hx hy (there_row hg (by simpa using hl)) (by simpa using hi) (by simpa [Array.all_toList] using h1) ?_;rw [show o.dst=none from by rw [ho]];exact h _ (hn ▸ row_cells cs j w old hg) (grown_cells _ _ _ _) (size_cells _ _ _ _)
theorem wM {P:Program} {ops:Array Oper} {rest:List Oper} {o:Oper} {a:Act} {w:World} {Q:Exit->Act->World->Prop} (ty:TypeId) {x y:Operand} (j:Nat) (cs:List Value) {old:List Value} {g:Nat} {t:TypeId} (hg:RowB w g t old) (h:∀ w',RowB w' g t (setL old j cs)->w.grownBy w' (some g)->w'.heap.size=w.heap.size->wpList P ops Q rest a w') (ho:o={ dst:=none,op:=.store ty x y,type:=o.type,pos:=o.pos,after:=o.after,guard:=none }:=by rfl) (hx:a.eval x=.pointer (some ⟨g,j,none⟩):=by rfl) (hy:a.eval y=.agg ⟨cs⟩:=by rfl) (hi:(P.info? ty).map (·.size)=some cs.length:=by kernel_rfl) (hl:j+cs.length<=old.length:=by exact Nat.le_refl _) (h1:cs.all (·.oneCell')=true:=by rfl):wpList P ops Q (o :: rest) a w:=wpL_sm ty x y ho g j cs old _ hx hy t hg hi hl h1 rfl h
theorem wp_sm {P:Program} {o:Oper} {a:Act} {w:World} {K:Act->World->Prop} {Q:Exit->Act->World->Prop} (ty:TypeId) (x y:Operand) (ho:o.op=.store ty x y)
  (g j:Nat) (cs old:List Value) (hx:a.eval x=.pointer (some ⟨g,j,none⟩)) (hy:a.eval y=.agg ⟨cs⟩)
  (t:TypeId) (hg:RowB w g t old) (hi:(P.info? ty).map (·.size)=some cs.length) (hl:j+cs.length<=old.length) (h1:cs.all (·.oneCell')=true)
  (h:K (a.put o.dst undef) (w.setCells g j cs)):o.wp P a w K Q :=
 wp_store_mid ty x y ho g j ⟨cs⟩ hx hy (there_row hg (by simpa using hl)) (by simpa using hi) (by simpa [Array.all_toList] using h1) h
def ext (i:Nat):Value->Value
 | .tuple a=>a.getD i undef
 | v=>v
structure CbF {α:Type} (K:RelG.Rel Value α) (x:α) (w1:World) (kc ka ks:Nat) (fs:List (Nat × (Value->Value))) (cells:Value->List Value) (t:TypeId) (n:Nat) (L:Nat->Prop) (vals:Nat->Value) (w':World):Prop where
 bel:Below w1.heap.size w1 w'
 fc:L kc->K.R w' RelG.All (vals kc) x
 fd:∀ p ∈ fs,L p.1->L kc∧vals p.1=p.2 (vals kc)
 fa:L ka->∃ g,vals ka=.pointer (some ⟨g,0,none⟩)∧w1.heap.size<=g∧(∃ cs,cs.length=n∧RowB w' g t cs)∧(L kc->K.R w' (λ b=>b≠g) (vals kc) x)
 fw:L ks->L kc∧∀ g,vals ka=.pointer (some ⟨g,0,none⟩)->RowB w' g t (cells (vals kc))
section
variable {α:Type} {K:RelG.Rel Value α} {x:α} {w1 w' w'':World} {kc ka ks n:Nat} {fs:List (Nat × (Value->Value))} {cells:Value->List Value} {t:TypeId} {L:Nat->Prop} {vals:Nat->Value}
theorem CbF.skip (F:CbF K x w1 kc ka ks fs cells t n L vals w') (k:Nat) (v:Value) (hk:(kc :: ka :: ks :: fs.map (·.1)).all (λ j=>j != k)=true:=by decide):CbF K x w1 kc ka ks fs cells t n (λ j=>j=k∨L j) (upd vals k v) w':=by
 simp only [List.all_cons,Bool.and_eq_true,bne_iff_ne,ne_eq,List.all_map,List.all_eq_true,Function.comp_apply] at hk;obtain⟨e,i,m,l⟩:=hk;refine⟨F.bel,λ h=>?_,λ p f h=>?_,λ h=>?_,λ h=>?_⟩
 ·rw [upd_ne e];exact F.fc (h.resolve_left e)
 ·have:=F.fd p f (h.resolve_left (l p f));rw [upd_ne e,upd_ne (l p f)];exact⟨.inr this.1,this.2⟩
 ·rw [upd_ne i,upd_ne e];obtain⟨g,a,b,c,d⟩:=F.fa (h.resolve_left i);exact⟨g,a,b,c,λ h=>d (h.resolve_left e)⟩
 ·rw [upd_ne i,upd_ne e];have:=F.fw (h.resolve_left m);exact⟨.inr this.1,this.2⟩
theorem CbF.call (F:CbF K x w1 kc ka ks fs cells t n L vals w') (hno:¬ L kc) (hk:(ka :: ks :: fs.map (·.1)).all (λ j=>j != kc)=true) {v:Value} (hb:Below w'.heap.size w' w'') (hr:K.R w'' (λ b=>b<w1.heap.size∨w'.heap.size<=b) v x):CbF K x w1 kc ka ks fs cells t n (λ j=>j=kc∨L j) (upd vals kc v) w'':=by
 simp only [List.all_cons,Bool.and_eq_true,bne_iff_ne,ne_eq,List.all_map,List.all_eq_true,Function.comp_apply] at hk;obtain⟨f,l,i⟩:=hk;refine⟨F.bel.trans (hb.mono F.bel.size),λ _=>?_,λ p e h=>?_,λ h=>?_,λ h=>?_⟩
 ·rw [upd_same];exact K.weak hr (λ _ _ _=>trivial)
 ·exact absurd (F.fd p e (h.resolve_left (i p e))).1 hno
 ·rw [upd_ne f,upd_same];obtain⟨g,a,b,⟨m,o,c⟩,d⟩:=F.fa (h.resolve_left f);refine⟨g,a,b,⟨m,o,c.below hb c.lt⟩,λ _=>K.weak hr (λ k hk _=>?_)⟩;have:=c.lt;omega
 ·exact absurd (F.fw (h.resolve_left l)).1 hno
theorem CbF.part (F:CbF K x w1 kc ka ks fs cells t n L vals w') (j:Nat) (hj:(kc :: ka :: ks :: []).all (λ i=>i != j)=true) (hc:L kc) {v:Value} (hv:∀ p ∈ fs,p.1=j->v=p.2 (vals kc)):CbF K x w1 kc ka ks fs cells t n (λ i=>i=j∨L i) (upd vals j v) w':=by
 simp only [List.all_cons,Bool.and_eq_true,bne_iff_ne,ne_eq,List.all_nil,and_true] at hj;obtain⟨f,k,m⟩:=hj;refine⟨F.bel,λ h=>?_,λ p l h=>?_,λ h=>?_,λ h=>?_⟩
 ·rw [upd_ne f];exact F.fc hc
 ·rw [upd_ne f];by_cases e:p.1=j
  ·rw [e,upd_same];exact⟨.inr hc,hv p l e⟩
  ·rw [upd_ne e];exact⟨.inr hc,(F.fd p l (h.resolve_left e)).2⟩
 ·rw [upd_ne k,upd_ne f];obtain⟨g,a,b,c,d⟩:=F.fa (h.resolve_left k);exact⟨g,a,b,c,λ _=>d hc⟩
 ·rw [upd_ne k,upd_ne f];have:=F.fw (h.resolve_left m);exact⟨.inr this.1,this.2⟩
theorem CbF.box (F:CbF K x w1 kc ka ks fs cells t n L vals w') (hno:¬ L ka) (hk:(kc :: ks :: fs.map (·.1)).all (λ j=>j != ka)=true) (hdep:¬ L ks) {cs:List Value} (hcs:cs.length=n):CbF K x w1 kc ka ks fs cells t n (λ j=>j=ka∨L j) (upd vals ka (.pointer (some ⟨w'.heap.size,0,none⟩))) (w'.alloc (.cells ⟨cs⟩ t)):=by
 simp only [List.all_cons,Bool.and_eq_true,bne_iff_ne,ne_eq,List.all_map,List.all_eq_true,Function.comp_apply] at hk;obtain⟨a,f,e⟩:=hk;have d:Below w'.heap.size w' (w'.alloc (.cells ⟨cs⟩ t)):=(Below.refl _ _).alloc (Nat.le_refl _) _;refine⟨F.bel.alloc F.bel.size _,λ h=>?_,λ p c h=>?_,λ _=>?_,λ h=>?_⟩
 ·rw [upd_ne a];exact K.keep (F.fc (h.resolve_left a)) (.below d)
 ·have:=F.fd p c (h.resolve_left (e p c));rw [upd_ne a,upd_ne (e p c)];exact⟨.inr this.1,this.2⟩
 ·rw [upd_same,upd_ne a];refine⟨_,rfl,F.bel.size,⟨cs,hcs,RowB.new _ _ _⟩,λ h=>?_⟩;exact K.keep (K.weak (F.fc (h.resolve_left a)) (λ b _ d=>by omega)) (.below d)
 ·exact absurd (h.resolve_left f) hdep
theorem CbF.wrote (F:CbF K x w1 kc ka ks fs cells t n L vals w') (hk:(kc :: ka :: fs.map (·.1)).all (λ j=>j != ks)=true) (hc:L kc) (ha:L ka) {g:Nat} {cs vs:List Value} (hg:vals ka=.pointer (some ⟨g,0,none⟩)) (hlo:w1.heap.size<=g) (r:RowB w' g t cs) (hv:setL cs 0 vs=cells (vals kc)):CbF K x w1 kc ka ks fs cells t n (λ j=>j=ks∨L j) (upd vals ks undef) (w'.setCells g 0 vs):=by
 simp only [List.all_cons,Bool.and_eq_true,bne_iff_ne,ne_eq,List.all_map,List.all_eq_true,Function.comp_apply] at hk;obtain⟨i,y,w⟩:=hk;have l:=row_cells vs 0 w' cs r;have f:=grown_cells g vs 0 w';have m:RelG.Still (λ b=>b≠g) w' (w'.setCells g 0 vs):=RelG.Still.grown f (λ k hk z=>z (by simpa using hk.symm));obtain⟨s,a,b,c,d⟩:=F.fa ha;have e:s=g:=by rw [hg] at a;simpa using a.symm
 subst e;have v:=K.keep (d hc) m;refine⟨⟨f.os.trans F.bel.os,f.tape.trans F.bel.tape,f.output.trans F.bel.output,Nat.le_trans F.bel.size f.size,λ k hk=>(f.block k (Nat.lt_of_lt_of_le hk F.bel.size) (λ e=>by simp at e;omega)).trans (F.bel.block k hk)⟩,λ h=>?_,λ p o h=>?_,λ h=>?_,λ _=>?_⟩
 ·rw [upd_ne i];exact K.weak v (λ _ _ _=>trivial)
 ·have:=F.fd p o (h.resolve_left (w p o));rw [upd_ne i,upd_ne (w p o)];exact⟨.inr this.1,this.2⟩
 ·rw [upd_ne y,upd_ne i];exact⟨s,a,b,⟨_,by rw [setL_len];obtain⟨B,D,C⟩:=c;have:=C.symm.trans r;simp only [Option.some.injEq,Obj.cells.injEq,Array.mk.injEq,and_true] at this;rw [<-this];exact D,l⟩,λ _=>v⟩
 ·rw [upd_ne y,upd_ne i];refine⟨.inr hc,λ A q=>?_⟩;have e:A=s:=by rw [q] at hg;simpa using hg
  subst e;rw [hv] at l;exact l
end
structure C2F {α β:Type} (K1:RelG.Rel Value α) (x1:α) (K2:RelG.Rel Value β) (x2:β) (w1:World) (k1 k2 kb ka ks:Nat) (f:Value->Value->Value) (cells:Value->List Value) (t:TypeId) (n:Nat) (L:Nat->Prop) (vals:Nat->Value) (w':World):Prop where
 bel:Below w1.heap.size w1 w'
 f1:L k1->K1.R w' (λ b=>w1.heap.size<=b) (vals k1) x1
 f2:L k2->K2.R w' (λ b=>w1.heap.size<=b) (vals k2) x2
 fb:L kb->L k1∧L k2∧vals kb=f (vals k1) (vals k2)
 fa:L ka->∃ g,vals ka=.pointer (some ⟨g,0,none⟩)∧w1.heap.size<=g∧(∃ cs,cs.length=n∧RowB w' g t cs)∧(L k1->K1.R w' (λ b=>w1.heap.size<=b∧b≠g) (vals k1) x1)∧(L k2->K2.R w' (λ b=>w1.heap.size<=b∧b≠g) (vals k2) x2)
 fw:L ks->L kb∧∀ g,vals ka=.pointer (some ⟨g,0,none⟩)->RowB w' g t (cells (vals kb))
section
variable {α β:Type} {K1:RelG.Rel Value α} {x1:α} {K2:RelG.Rel Value β} {x2:β} {w1 w' w'':World} {k1 k2 kb ka ks n:Nat} {f:Value->Value->Value} {cells:Value->List Value} {t:TypeId} {L:Nat->Prop} {vals:Nat->Value}
theorem C2F.skip (F:C2F K1 x1 K2 x2 w1 k1 k2 kb ka ks f cells t n L vals w') (k:Nat) (v:Value) (hk:[k1,k2,kb,ka,ks].all (λ j=>j != k)=true:=by decide):C2F K1 x1 K2 x2 w1 k1 k2 kb ka ks f cells t n (λ j=>j=k∨L j) (upd vals k v) w':=by
 simp only [List.all_cons,Bool.and_eq_true,bne_iff_ne,ne_eq,List.all_nil,and_true] at hk;obtain⟨l,i,o,m,p⟩:=hk;refine⟨F.bel,λ h=>?_,λ h=>?_,λ h=>?_,λ h=>?_,λ h=>?_⟩
 ·rw [upd_ne l];exact F.f1 (h.resolve_left l)
 ·rw [upd_ne i];exact F.f2 (h.resolve_left i)
 ·rw [upd_ne o,upd_ne l,upd_ne i];obtain⟨a,b,c⟩:=F.fb (h.resolve_left o);exact⟨.inr a,.inr b,c⟩
 ·rw [upd_ne m,upd_ne l,upd_ne i];obtain⟨g,a,b,c,d,e⟩:=F.fa (h.resolve_left m);exact⟨g,a,b,c,λ h=>d (h.resolve_left l),λ h=>e (h.resolve_left i)⟩
 ·rw [upd_ne m,upd_ne o];obtain⟨a,b⟩:=F.fw (h.resolve_left p);exact⟨.inr a,b⟩
theorem C2F.call1 (F:C2F K1 x1 K2 x2 w1 k1 k2 kb ka ks f cells t n L vals w') (hno:¬ L k1) (hk:[k2,kb,ka,ks].all (λ j=>j != k1)=true) {v:Value} (hb:Below w'.heap.size w' w'') (hr:K1.R w'' (λ b=>w'.heap.size<=b) v x1):C2F K1 x1 K2 x2 w1 k1 k2 kb ka ks f cells t n (λ j=>j=k1∨L j) (upd vals k1 v) w'':=by
 simp only [List.all_cons,Bool.and_eq_true,bne_iff_ne,ne_eq,List.all_nil,and_true] at hk;obtain⟨c,p,l,o⟩:=hk;have m:=F.bel.size;refine⟨F.bel.trans (hb.mono F.bel.size),λ _=>?_,λ h=>?_,λ h=>?_,λ h=>?_,λ h=>?_⟩
 ·rw [upd_same];exact K1.weak hr (λ b hb _=>by omega)
 ·rw [upd_ne c];exact K2.keep (F.f2 (h.resolve_left c)) (.below hb)
 ·exact absurd (F.fb (h.resolve_left p)).1 hno
 ·rw [upd_ne l,upd_same,upd_ne c];obtain⟨g,a,b,⟨q,r,i⟩,d,e⟩:=F.fa (h.resolve_left l);have:=i.lt;exact⟨g,a,b,⟨q,r,i.below hb i.lt⟩,λ _=>K1.weak hr (λ k hk _=>by omega),λ h=>K2.keep (e (h.resolve_left c)) (.below hb)⟩
 ·exact absurd (F.fb (F.fw (h.resolve_left o)).1).1 hno
theorem C2F.call2 (F:C2F K1 x1 K2 x2 w1 k1 k2 kb ka ks f cells t n L vals w') (hno:¬ L k2) (hk:[k1,kb,ka,ks].all (λ j=>j != k2)=true) {v:Value} (hb:Below w'.heap.size w' w'') (hr:K2.R w'' (λ b=>w'.heap.size<=b) v x2):C2F K1 x1 K2 x2 w1 k1 k2 kb ka ks f cells t n (λ j=>j=k2∨L j) (upd vals k2 v) w'':=by
 simp only [List.all_cons,Bool.and_eq_true,bne_iff_ne,ne_eq,List.all_nil,and_true] at hk;obtain⟨c,p,l,o⟩:=hk;have m:=F.bel.size;refine⟨F.bel.trans (hb.mono F.bel.size),λ h=>?_,λ _=>?_,λ h=>?_,λ h=>?_,λ h=>?_⟩
 ·rw [upd_ne c];exact K1.keep (F.f1 (h.resolve_left c)) (.below hb)
 ·rw [upd_same];exact K2.weak hr (λ b hb _=>by omega)
 ·exact absurd (F.fb (h.resolve_left p)).2.1 hno
 ·rw [upd_ne l,upd_same,upd_ne c];obtain⟨g,a,b,⟨q,r,i⟩,d,e⟩:=F.fa (h.resolve_left l);have:=i.lt;exact⟨g,a,b,⟨q,r,i.below hb i.lt⟩,λ h=>K1.keep (d (h.resolve_left c)) (.below hb),λ _=>K2.weak hr (λ k hk _=>by omega)⟩
 ·exact absurd (F.fb (F.fw (h.resolve_left o)).1).2.1 hno
theorem C2F.built (F:C2F K1 x1 K2 x2 w1 k1 k2 kb ka ks f cells t n L vals w') (hno:¬ L kb) (hk:[k1,k2,ka,ks].all (λ j=>j != kb)=true) (l1:L k1) (l2:L k2) {v:Value} (hv:v=f (vals k1) (vals k2)):C2F K1 x1 K2 x2 w1 k1 k2 kb ka ks f cells t n (λ j=>j=kb∨L j) (upd vals kb v) w':=by
 simp only [List.all_cons,Bool.and_eq_true,bne_iff_ne,ne_eq,List.all_nil,and_true] at hk;obtain⟨k,i,l,m⟩:=hk;refine⟨F.bel,λ h=>?_,λ h=>?_,λ h=>?_,λ h=>?_,λ h=>?_⟩
 ·rw [upd_ne k];exact F.f1 l1
 ·rw [upd_ne i];exact F.f2 l2
 ·rw [upd_same,upd_ne k,upd_ne i];exact⟨.inr l1,.inr l2,hv⟩
 ·rw [upd_ne l,upd_ne k,upd_ne i];obtain⟨g,a,b,c,d,e⟩:=F.fa (h.resolve_left l);exact⟨g,a,b,c,λ _=>d l1,λ _=>e l2⟩
 ·exact absurd (F.fw (h.resolve_left m)).1 hno
theorem C2F.box (F:C2F K1 x1 K2 x2 w1 k1 k2 kb ka ks f cells t n L vals w') (hk:[k1,k2,kb,ks].all (λ j=>j != ka)=true) (hdep:¬ L ks) {cs:List Value} (hcs:cs.length=n):C2F K1 x1 K2 x2 w1 k1 k2 kb ka ks f cells t n (λ j=>j=ka∨L j) (upd vals ka (.pointer (some ⟨w'.heap.size,0,none⟩))) (w'.alloc (.cells ⟨cs⟩ t)):=by
 simp only [List.all_cons,Bool.and_eq_true,bne_iff_ne,ne_eq,List.all_nil,and_true] at hk;obtain⟨d,g,i,k⟩:=hk;have e:Below w'.heap.size w' (w'.alloc (.cells ⟨cs⟩ t)):=(Below.refl _ _).alloc (Nat.le_refl _) _;refine⟨F.bel.alloc F.bel.size _,λ h=>?_,λ h=>?_,λ h=>?_,λ _=>?_,λ h=>?_⟩
 ·rw [upd_ne d];exact K1.keep (F.f1 (h.resolve_left d)) (.below e)
 ·rw [upd_ne g];exact K2.keep (F.f2 (h.resolve_left g)) (.below e)
 ·rw [upd_ne i,upd_ne d,upd_ne g];obtain⟨a,b,c⟩:=F.fb (h.resolve_left i);exact⟨.inr a,.inr b,c⟩
 ·rw [upd_same,upd_ne d,upd_ne g];exact⟨_,rfl,F.bel.size,⟨cs,hcs,RowB.new _ _ _⟩,λ h=>K1.keep (K1.weak (F.f1 (h.resolve_left d)) (λ b d e=>⟨d,by omega⟩)) (.below e),λ h=>K2.keep (K2.weak (F.f2 (h.resolve_left g)) (λ b d e=>⟨d,by omega⟩)) (.below e)⟩
 ·exact absurd (h.resolve_left k) hdep
theorem C2F.wrote (F:C2F K1 x1 K2 x2 w1 k1 k2 kb ka ks f cells t n L vals w') (hk:[k1,k2,kb,ka].all (λ j=>j != ks)=true) (lb:L kb) (la:L ka) {g:Nat} {cs vs:List Value} (hg:vals ka=.pointer (some ⟨g,0,none⟩)) (r:RowB w' g t cs) (hv:setL cs 0 vs=cells (vals kb)):C2F K1 x1 K2 x2 w1 k1 k2 kb ka ks f cells t n (λ j=>j=ks∨L j) (upd vals ks undef) (w'.setCells g 0 vs):=by
 simp only [List.all_cons,Bool.and_eq_true,bne_iff_ne,ne_eq,List.all_nil,and_true] at hk;obtain⟨v,s,B,A⟩:=hk;have o:=row_cells vs 0 w' cs r;have i:=grown_cells g vs 0 w';obtain⟨x,w,q⟩:=F.fb lb;obtain⟨m,a,b,c,d,e⟩:=F.fa la;have E:m=g:=by rw [hg] at a;simpa using a.symm
 subst E;have l:RelG.Still (λ b=>w1.heap.size<=b∧b≠m) w' (w'.setCells m 0 vs):=RelG.Still.grown i (λ k hk C=>C.2 (by simpa using hk.symm));have z:=K1.keep (d x) l;have y:=K2.keep (e w) l;refine⟨⟨i.os.trans F.bel.os,i.tape.trans F.bel.tape,i.output.trans F.bel.output,Nat.le_trans F.bel.size i.size,λ k hk=>(i.block k (Nat.lt_of_lt_of_le hk F.bel.size) (λ e=>by simp at e;omega)).trans (F.bel.block k hk)⟩,λ h=>?_,λ h=>?_,λ h=>?_,λ h=>?_,λ _=>?_⟩
 ·rw [upd_ne v];exact K1.weak z (λ _ h _=>h.1)
 ·rw [upd_ne s];exact K2.weak y (λ _ h _=>h.1)
 ·rw [upd_ne B,upd_ne v,upd_ne s];exact⟨.inr x,.inr w,q⟩
 ·rw [upd_ne A,upd_ne v,upd_ne s];exact⟨m,a,b,⟨_,by rw [setL_len];obtain⟨G,I,H⟩:=c;have:=H.symm.trans r;simp only [Option.some.injEq,Obj.cells.injEq,Array.mk.injEq,and_true] at this;rw [<-this];exact I,o⟩,λ _=>z,λ _=>y⟩
 ·rw [upd_ne A,upd_ne B];refine⟨.inr lb,λ D p=>?_⟩;have e:D=m:=by rw [p] at hg;simpa using hg
  subst e;rw [hv] at o;exact o
end
structure C2E {α β:Type} (K1:RelG.Rel Value α) (x1:α) (K2:RelG.Rel Value β) (x2:β) (w1:World) (k1 k2 kb ks:Nat) (f:Value->Value->Value) (g:Nat) (t:TypeId) (old:List Value) (new:Value->List Value) (L:Nat->Prop) (vals:Nat->Value) (w':World):Prop where
 bel:w1.grownBy w' (some g)
 gl:g<w1.heap.size
 f1:L k1->K1.R w' (λ b=>w1.heap.size<=b) (vals k1) x1
 f2:L k2->K2.R w' (λ b=>w1.heap.size<=b) (vals k2) x2
 fb:L kb->L k1∧L k2∧vals kb=f (vals k1) (vals k2)
 row:¬ L ks->RowB w' g t old
 fw:L ks->L kb∧RowB w' g t (new (vals kb))
section
variable {α β:Type} {K1:RelG.Rel Value α} {x1:α} {K2:RelG.Rel Value β} {x2:β} {w1 w' w'':World} {k1 k2 kb ks g:Nat} {f:Value->Value->Value} {t:TypeId} {old:List Value} {new:Value->List Value} {L:Nat->Prop} {vals:Nat->Value}
theorem C2E.skip (F:C2E K1 x1 K2 x2 w1 k1 k2 kb ks f g t old new L vals w') (k:Nat) (v:Value) (hk:[k1,k2,kb,ks].all (λ j=>j != k)=true:=by decide):C2E K1 x1 K2 x2 w1 k1 k2 kb ks f g t old new (λ j=>j=k∨L j) (upd vals k v) w':=by
 simp only [List.all_cons,Bool.and_eq_true,bne_iff_ne,ne_eq,List.all_nil,and_true] at hk;obtain⟨i,e,d,l⟩:=hk;refine⟨F.bel,F.gl,λ h=>?_,λ h=>?_,λ h=>?_,λ h=>?_,λ h=>?_⟩
 ·rw [upd_ne i];exact F.f1 (h.resolve_left i)
 ·rw [upd_ne e];exact F.f2 (h.resolve_left e)
 ·rw [upd_ne d,upd_ne i,upd_ne e];obtain⟨a,b,c⟩:=F.fb (h.resolve_left d);exact⟨.inr a,.inr b,c⟩
 ·exact F.row (λ m=>h (.inr m))
 ·rw [upd_ne d];obtain⟨a,b⟩:=F.fw (h.resolve_left l);exact⟨.inr a,b⟩
theorem C2E.call1 (F:C2E K1 x1 K2 x2 w1 k1 k2 kb ks f g t old new L vals w') (hno:¬ L k1) (hk:[k2,kb,ks].all (λ j=>j != k1)=true) {v:Value} (hb:Below w'.heap.size w' w'') (hr:K1.R w'' (λ b=>w'.heap.size<=b) v x1):C2E K1 x1 K2 x2 w1 k1 k2 kb ks f g t old new (λ j=>j=k1∨L j) (upd vals k1 v) w'':=by
 simp only [List.all_cons,Bool.and_eq_true,bne_iff_ne,ne_eq,List.all_nil,and_true] at hk;obtain⟨a,l,k⟩:=hk;have c:=F.bel.size;have e:=F.gl;refine⟨Base.grownBy_trans F.bel ⟨hb.os,hb.tape,hb.output,hb.size,λ i d _=>hb.block i d⟩,F.gl,λ _=>?_,λ h=>?_,λ h=>?_,λ h=>?_,λ h=>?_⟩
 ·rw [upd_same];exact K1.weak hr (λ b hb _=>by omega)
 ·rw [upd_ne a];exact K2.keep (F.f2 (h.resolve_left a)) (.below hb)
 ·exact absurd (F.fb (h.resolve_left l)).1 hno
 ·have r:=F.row (λ m=>h (.inr m));exact r.below hb r.lt
 ·exact absurd (F.fb (F.fw (h.resolve_left k)).1).1 hno
theorem C2E.call2 (F:C2E K1 x1 K2 x2 w1 k1 k2 kb ks f g t old new L vals w') (hno:¬ L k2) (hk:[k1,kb,ks].all (λ j=>j != k2)=true) {v:Value} (hb:Below w'.heap.size w' w'') (hr:K2.R w'' (λ b=>w'.heap.size<=b) v x2):C2E K1 x1 K2 x2 w1 k1 k2 kb ks f g t old new (λ j=>j=k2∨L j) (upd vals k2 v) w'':=by
 simp only [List.all_cons,Bool.and_eq_true,bne_iff_ne,ne_eq,List.all_nil,and_true] at hk;obtain⟨a,l,k⟩:=hk;have c:=F.bel.size;have e:=F.gl;refine⟨Base.grownBy_trans F.bel ⟨hb.os,hb.tape,hb.output,hb.size,λ i d _=>hb.block i d⟩,F.gl,λ h=>?_,λ _=>?_,λ h=>?_,λ h=>?_,λ h=>?_⟩
 ·rw [upd_ne a];exact K1.keep (F.f1 (h.resolve_left a)) (.below hb)
 ·rw [upd_same];exact K2.weak hr (λ b hb _=>by omega)
 ·exact absurd (F.fb (h.resolve_left l)).2.1 hno
 ·have r:=F.row (λ m=>h (.inr m));exact r.below hb r.lt
 ·exact absurd (F.fb (F.fw (h.resolve_left k)).1).2.1 hno
theorem C2E.built (F:C2E K1 x1 K2 x2 w1 k1 k2 kb ks f g t old new L vals w') (hno:¬ L kb) (hk:[k1,k2,ks].all (λ j=>j != kb)=true) (l1:L k1) (l2:L k2) {v:Value} (hv:v=f (vals k1) (vals k2)):C2E K1 x1 K2 x2 w1 k1 k2 kb ks f g t old new (λ j=>j=kb∨L j) (upd vals kb v) w':=by
 simp only [List.all_cons,Bool.and_eq_true,bne_iff_ne,ne_eq,List.all_nil,and_true] at hk;obtain⟨b,a,c⟩:=hk;refine⟨F.bel,F.gl,λ h=>?_,λ h=>?_,λ h=>?_,λ h=>?_,λ h=>?_⟩
 ·rw [upd_ne b];exact F.f1 l1
 ·rw [upd_ne a];exact F.f2 l2
 ·rw [upd_same,upd_ne b,upd_ne a];exact⟨.inr l1,.inr l2,hv⟩
 ·exact F.row (λ d=>h (.inr d))
 ·exact absurd (F.fw (h.resolve_left c)).1 hno
theorem C2E.wrote (F:C2E K1 x1 K2 x2 w1 k1 k2 kb ks f g t old new L vals w') (hk:[k1,k2,kb].all (λ j=>j != ks)=true) (hno:¬ L ks) (lb:L kb) (j:Nat) {vs:List Value} (hv:setL old j vs=new (vals kb)):C2E K1 x1 K2 x2 w1 k1 k2 kb ks f g t old new (λ j=>j=ks∨L j) (upd vals ks undef) (w'.setCells g j vs):=by
 simp only [List.all_cons,Bool.and_eq_true,bne_iff_ne,ne_eq,List.all_nil,and_true] at hk;obtain⟨o,n,m⟩:=hk;have e:=row_cells vs j w' old (F.row hno);have c:=grown_cells g vs j w';have p:=F.gl;obtain⟨l,i,d⟩:=F.fb lb;have a:RelG.Still (λ b=>w1.heap.size<=b) w' (w'.setCells g j vs):=RelG.Still.grown c (λ k hk q=>by simp at hk;omega);refine⟨Base.grownBy_trans F.bel c,F.gl,λ h=>?_,λ h=>?_,λ h=>?_,λ h=>absurd (.inl rfl) h,λ _=>?_⟩
 ·rw [upd_ne o];exact K1.keep (F.f1 l) a
 ·rw [upd_ne n];exact K2.keep (F.f2 i) a
 ·rw [upd_ne m,upd_ne o,upd_ne n];exact⟨.inr l,.inr i,d⟩
 ·rw [upd_ne m];rw [hv] at e;exact⟨.inr lb,e⟩
end
theorem rH {P:Program} {ops:Array Oper} {Q:Exit->Act->World->Prop} {id:Nat} {a0:Act} {w:World} (ds:List (Option Nat)) (N:Nat) (pl:List (Option Value)) (Me:(Nat->Prop)->(Nat->Value)->World->Prop) (h0:Me (λ j=>N<=j) (λ _=>undef) w.drew) (hst:RelFrom P ops Q a0 ds (Pl pl) Me 0) (fin:∀ vals w',(∀ j,j<N->Pl pl j (vals j))->Me (λ _=>True) vals w'->Q .normal (Fr a0 ds 0 vals) w') (hm:P.follows .mixedOrders=true:=by kernel_rfl) (hd:downs ops=true:=by kernel_rfl) (hds:(ops.map (·.dst)).toList=ds:=by kernel_rfl) (hN:ops.size=N:=by kernel_rfl) (hnd:ndB ds=true:=by kernel_rfl) (hsz:szB a0.tmps.size ds=true:=by kernel_rfl) (hg:gdT ops pl=true:=by kernel_rfl):(Code.region id ops true).wp P Q a0 w:=region_relG ds N pl Me hm hd hds hN hnd hsz hg h0 hst fin
end RegG

namespace PlP
theorem at_set (l:List Int) (i j:Nat) (x:Int) (h:i<l.length):at_ (l.set i x) j=if j=i then x else at_ l j:=by
 unfold at_;rw [List.getD_eq_getElem?_getD,List.getElem?_set];by_cases e:i=j
 ·subst e;simp [h]
 ·rw [if_neg e,if_neg (λ h=>e h.symm),List.getD_eq_getElem?_getD]
theorem at_rep (n j:Nat):at_ (List.replicate n (0:Int)) j=0:=by
 unfold at_;rw [List.getD_eq_getElem?_getD,List.getElem?_replicate];split <;> rfl
theorem sum_rep (n:Nat):(List.replicate n (0:Int)).sum=0:=by simp
theorem start_ok {v:Vr} (hv:okV v=true) (h4:4<=v.p):Ok v (startB v)∧(startL v).sum=v.c:=by
 have g:=okV_iff.1 hv;unfold startB startL;by_cases hf:v.p=24∧v.c=15∧v.h=6∧v.s=6
 ·obtain⟨p,c,h,s⟩:=v;simp only at hf;obtain⟨rfl,rfl,rfl,rfl⟩:=hf;refine⟨okB_iff.1 (by decide),by decide⟩
 ·simp only [if_neg hf];obtain⟨n,l⟩:∃ n:Nat,(v.p+1).toNat=n:=⟨_,rfl⟩;obtain⟨i,o⟩:∃ i:Nat,(v.p - 1).toNat=i:=⟨_,rfl⟩;obtain⟨j,m⟩:∃ i:Nat,(v.p / 2 - 1).toNat=i:=⟨_,rfl⟩;rw [l,o,m];have b:i<(List.replicate n (0:Int)).length:=by rw [List.length_replicate];omega
  have f:j<((List.replicate n (0:Int)).set i (v.c / 2)).length:=by rw [List.length_set,List.length_replicate];omega
  have d:∀ k,at_ (((List.replicate n (0:Int)).set i (v.c / 2)).set j (v.c - v.c / 2)) k=if k=j then v.c - v.c / 2 else if k=i then v.c / 2 else 0:=by
   intro k;rw [at_set _ _ _ _ f,at_set _ _ _ _ b,at_rep]
  have a:(((List.replicate n (0:Int)).set i (v.c / 2)).set j (v.c - v.c / 2)).sum=v.c:=by
   rw [sum_set _ _ _ f,sum_set _ _ _ b,at_set _ _ _ _ b,at_rep,at_rep,sum_rep,if_neg (by omega)];omega
  have e:Sd v (((List.replicate n (0:Int)).set i (v.c / 2)).set j (v.c - v.c / 2)):=by
   refine⟨by rw [List.length_set,List.length_set,List.length_replicate];omega,λ k=>?_,by rw [a];exact Int.le_refl _⟩;rw [d];split
   ·omega
   ·split <;> omega
  refine⟨⟨g,e,e,by rw [a];omega,λ k q=>?_⟩,a⟩;show ¬ (0<at_ _ k∧0<at_ _ (v.p.toNat - 1 - k))
  rw [d,d];by_cases k1:k=j
  ·rw [if_pos k1];by_cases k2:v.p.toNat - 1 - k=j
   ·omega
   ·rw [if_neg k2];by_cases k3:v.p.toNat - 1 - k=i
    ·omega
    ·rw [if_neg k3];omega
  ·rw [if_neg k1];by_cases k4:k=i
   ·rw [if_pos k4];by_cases k2:v.p.toNat - 1 - k=j
    ·omega
    ·rw [if_neg k2];by_cases k3:v.p.toNat - 1 - k=i
     ·omega
     ·rw [if_neg k3];omega
   ·rw [if_neg k4];omega
theorem start_over {v:Vr} (hv:okV v=true) (h4:4<=v.p):over (startB v)=false:=by
 have a:=okV_iff.1 hv;have:=(start_ok hv h4).2;unfold over startB;simp only [this,Bool.or_self,decide_eq_false_iff_not];omega
theorem new_valid {v:Vr} (hv:okV v=true) (h4:4<=v.p):gmB v (newG v)=true:=by
 unfold gmB newG;simp [okB_iff.2 (start_ok hv h4).1,h4]
theorem step_oth {v:Vr} {b:Bd} {s:Stp} (hb:Ok v b) (h:legal1 v b s=true):(afterP v b s).2.sum=b.2.sum:=by
 obtain⟨m,n,g,f⟩:=legal1_iff.1 h;obtain⟨k,j,i,d⟩:=step_parts g hb f;have e:=hb.oth.len;have l:=hb.v1;unfold afterP;simp only;split
 ·rename_i hh
  rcases d with ⟨a1,a2,a3,a4⟩ | ⟨_,_,a4⟩
  ·have c:(v.p - 1 - s.2.1).toNat<b.2.length:=by omega
   have a:v.p.toNat<(inc b.2 (v.p - 1 - s.2.1).toNat (-1)).length:=by rw [inc_len];omega
   rw [inc_sum _ _ _ a,inc_sum _ _ _ c];omega
  ·rw [a4] at hh;cases hh
 ·rfl
theorem follow_oth {v:Vr}:∀(ds:List Int) (b:Bd) (ss:List Stp) (c:Bd),Ok v b->followP v b ds ss=some c->c.2.sum=b.2.sum
 | ds,b,[],c,hb,h=>by simp only [followP,Option.some.injEq] at h;subst h;rfl
 | [],b,s :: ss,c,hb,h=>by simp [followP] at h
 | d :: ds,b,s :: ss,c,hb,h=>by
  simp only [followP] at h;split at h
  ·rename_i h1
   rw [follow_oth ds _ ss c (legal1_ok hb h1.2) h,step_oth hb h1.2]
  ·cases h
theorem first_oth {v:Vr} {b c:Bd} {ss:List Stp} (hb:Ok v b):∀(os:List (List Int)),firstF v b ss os=some c->c.2.sum=b.2.sum
 | [],h=>by simp [firstF] at h
 | o :: os,h=>by
  simp only [firstF] at h;split at h
  ·rename_i d hd
   simp only [Option.some.injEq] at h;subst h;exact follow_oth o b ss _ hb hd
  ·exact first_oth hb os h
theorem play_oth {v:Vr} {b c:Bd} {x y:Int} {ss:List Stp} (hb:Ok v b) (h:playP v b x y ss=some c):c.2.sum=b.2.sum:=by
 unfold playP at h;split at h
 ·exact first_oth hb _ h
 ·cases h
theorem res_bd (v:Vr) (b:Bd):1<=resP v b∧resP v b<=3:=by unfold resP;split <;> (try split) <;> omega
theorem over_swp (b:Bd):over (swp b)=over b:=by unfold over swp;simp only;rw [Bool.or_comm]
theorem turn_valid {v:Vr} {g g':Gm} {ss:List Stp} (hg:gmB v g=true) (h:(turnP v g ss).1=some g'):gmB v g'=true:=by
 have c:=gm_parts hg;unfold turnP at h;rw [if_neg (by rw [hg];decide)] at h;by_cases h2:g.ph=2
 ·rw [if_neg (by rw [h2];decide)] at h;split at h
  ·cases h
  ·rename_i b hb
   split at h
   ·cases h
   ·rename_i htn
    simp only [Option.some.injEq] at h;have e:=play_ok c.1 hb;have d:=play_oth c.1 hb;have l:=res_bd v b;have f:=(c.2.2.2.2.2 (.inr h2)).1;unfold turnG at h;by_cases a:over b=true
    ·rw [if_pos a] at h;subst h;have i:b.1.sum=0:=by
      unfold over at f a;simp only [Bool.or_eq_true,Bool.or_eq_false_iff,decide_eq_true_eq,decide_eq_false_iff_not] at f a;rcases a with h | h
      ·exact h
      ·rw [d] at h;exact absurd h f.2
     unfold gmB;have k:=c.2.2.1;have j:=c.2.2.2.1;simp [okB_iff.2 e,c.2.1,a,i];omega
    ·rw [if_neg a] at h;subst h;have a:over b=false:=by simpa using a
     unfold gmB;have k:=c.2.2.1;have j:=c.2.2.2.1;simp [okB_iff.2 (swp_ok e),c.2.1,over_swp,a];omega
 ·rw [if_pos h2] at h;cases h
theorem roll_valid {v:Vr} {g:Gm} {x y:Int} (hg:gmB v g=true) (h1:g.ph=1) (hr:rollB v x y=true):gmB v (rollG g x y)=true:=by
 unfold gmB at hg ⊢;unfold rollG;simp only [h1] at hg;simp only [hr];simp only [if_true,Bool.and_eq_true,decide_eq_true_eq,Bool.and_true] at hg ⊢;obtain⟨⟨a,b⟩,c⟩:=hg;refine⟨a,?_⟩
 simpa using c
theorem rollC_zero {v:Vr} {g:Gm} {x y:Int} (h:rollC v g x y=0):gmB v g=true∧g.ph=1∧rollB v x y=true:=by
 unfold rollC at h;split at h
 ·exact absurd h (by decide)
 ·split at h
  ·exact absurd h (by decide)
  ·split at h
   ·exact absurd h (by decide)
   ·rename_i a b c
    exact⟨by simpa using a,by simpa using b,by simpa using c⟩
theorem game_valid {v:Vr} {g g':Gm} {e:Ev} (hg:gmB v g=true) (h:gameP v g e=some g'):gmB v g'=true:=by
 have c:=gm_parts hg;unfold gameP at h;split at h
 ·split at h
  ·rename_i h1
   simp only [Option.some.injEq] at h;unfold openC at h1;rw [if_neg (by rw [hg];decide)] at h1;split at h1
   ·exact absurd h1 (by decide)
   ·rename_i d
    have d:g.ph=0:=by simpa using d
    split at h1
    ·exact absurd h1 (by decide)
    ·rename_i i
     have i:(1<=e.a∧e.a<=v.s)∧1<=e.b∧e.b<=v.s:=by simpa using i
     unfold openG at h;split at h
     ·subst h;exact hg
     ·rename_i hab
      subst h;have p:=okB_iff.2 c.1;have o:okV v=true:=okV_iff.2 c.1.v1;have l:=start_over o c.2.1;unfold gmB at hg;simp only [d,Bool.and_eq_true,decide_eq_true_eq] at hg;have m:=hg.2;simp only [if_true,decide_eq_true_eq] at m;obtain⟨z,y,x,w,n⟩:=m;have q:rollB v (max e.a e.b) (min e.a e.b)=true:=by
       unfold rollB;simp only [Bool.and_eq_true,decide_eq_true_eq];omega
      have k:=okB_iff.2 (swp_ok c.1);have f:over g.b=false:=by rw [n];exact l
      clear n;unfold gmB;simp only [q,y,x,w];by_cases hlt:e.a<e.b
      ·simp [hlt,k,c.2.1,over_swp,f]
      ·simp [hlt,p,c.2.1,f,z]
  ·cases h
 ·split at h
  ·split at h
   ·rename_i h1
    simp only [Option.some.injEq] at h;unfold resgC at h1;rw [if_neg (by rw [hg];decide)] at h1;split at h1
    ·exact absurd h1 (by decide)
    ·rename_i j
     have j:g.ph=1∨g.ph=2:=by omega
     split at h1
     ·exact absurd h1 (by decide)
     ·rename_i i
      have i:1<=e.r∧e.r<=3:=by simpa using i
      subst h;have t:=(c.2.2.2.2.2 j).1;have d:=c.2.2.1;have A:=c.2.2.2.1;unfold gmB resgG;simp [okB_iff.2 c.1,c.2.1,t];omega
   ·cases h
  ·split at h
   ·split at h
    ·rename_i h1 j
     have d:=rollC_zero j;exact turn_valid (roll_valid hg d.2.1 d.2.2) h
    ·cases h
   ·split at h
    ·exact turn_valid hg h
    ·cases h
structure MsOk (v:Vr) (len:Int) (i:Nat) (x:Ms):Prop where
 gm:gmB v x.g=true
 sc:x.ov=false->(0<=x.s0∧x.s0<len)∧0<=x.s1∧x.s1<len
 gs:0<=x.gs∧x.gs<=i
theorem start_ms {v:Vr} {len:Int} (h:headB v len=true):MsOk v len 0 (startS v):=by
 unfold headB at h;simp only [Bool.and_eq_true,decide_eq_true_eq] at h;refine⟨new_valid h.1.1 h.1.2,λ _=>?_,?_⟩
 ·unfold startS;simp only;omega
 ·unfold startS;simp
theorem next_ms {v:Vr} {len:Int} {i:Nat} {x y:Ms} {e:Ev} (hl:1<=len) (hx:MsOk v len i x) (h:nextS v len x e=some y):MsOk v len (i+1) y:=by
 unfold nextS at h;split at h
 ·cases h
 ·rename_i b
  have b:x.ov=false:=by cases c:x.ov with | false=>rfl | true=>exact absurd (.inl c) b
  cases hg:gameP v x.g e with
  | none=>rw [hg] at h;cases h
  | some g =>
   rw [hg] at h;simp only [Option.map_some,Option.some.injEq] at h;have a:=game_valid hx.gm hg;have j:=gm_parts a;have k:okV v=true:=okV_iff.2 j.1.v1;have f:=game_parts hg;have d:=hx.sc b;have l:=hx.gs;unfold overS at h;by_cases h3:g.ph=3
   ·rw [if_neg (by omega)] at h;have m:=f.2.2.1 h3;simp only at h;by_cases hw:g.wn=0
    ·simp only [if_pos hw] at h;by_cases hlt:len<=x.s0+g.rs
     ·rw [if_pos hlt] at h;subst h;exact⟨a,λ c=>by simp at c,by simp only;omega⟩
     ·rw [if_neg hlt] at h;subst h;exact⟨new_valid k j.2.1,λ _=>by simp only;omega,by simp only;omega⟩
    ·simp only [if_neg hw] at h;by_cases hlt:len<=x.s1+g.rs
     ·rw [if_pos hlt] at h;subst h;exact⟨a,λ c=>by simp at c,by simp only;omega⟩
     ·rw [if_neg hlt] at h;subst h;exact⟨new_valid k j.2.1,λ _=>by simp only;omega,by simp only;omega⟩
   ·rw [if_pos h3] at h;subst h;exact⟨a,λ _=>d,by simp only;omega⟩
end PlP
namespace Gm
open Go Go.RowKit Base Ints RelG PlP
def BdR (w:World) (S:Nat->Prop) (u1 u2:Value) (b:Bd):Prop:=SlV 1 enI w S u1 b.1∧SlV 1 enI w S u2 b.2
section
variable {w w':World} {S S':Nat->Prop} {u1 u2:Value} {b:Bd}
theorem BdR.keep (h:BdR w S u1 u2 b) (hs:Still S w w'):BdR w' S u1 u2 b:=⟨(relV 1 enI).keep h.1 hs,(relV 1 enI).keep h.2 hs⟩
theorem BdR.weak (h:BdR w S u1 u2 b) (hs:∀ b,S b->b<w.heap.size->S' b):BdR w S' u1 u2 b:=⟨(relV 1 enI).weak h.1 hs,(relV 1 enI).weak h.2 hs⟩
theorem BdR.below (h:BdR w S u1 u2 b) (hb:Below w.heap.size w w'):BdR w' S u1 u2 b:=h.keep (.below hb)
theorem BdR.nil (w:World) (S:Nat->Prop):BdR w S (.slice none 0 0) (.slice none 0 0) ([],[]) :=
 ⟨⟨none,0,rfl,RdF.nil _ _ _ _ _,λ _=>rfl⟩,⟨none,0,rfl,RdF.nil _ _ _ _ _,λ _=>rfl⟩⟩
end
def gmC (u1 u2:Value) (g:Gm):List Value:=[u1,u2,.int .i64 g.pl,.int .i64 g.x,.int .i64 g.y,.int .i64 g.ph,.int .i64 g.wn,.int .i64 g.rs,.int .i64 g.tn]
def msC (su u1 u2:Value) (x:Ms):List Value:=[su,.int .i64 x.gs,u1,u2,.int .i64 x.g.pl,.int .i64 x.g.x,.int .i64 x.g.y,.int .i64 x.g.ph,.int .i64 x.g.wn,.int .i64 x.g.rs,.int .i64 x.g.tn,.bool x.ov]
def nulG:Gm:=⟨([],[]),0,0,0,0,0,0,0⟩
def nulM:Ms:=⟨0,0,0,nulG,false⟩
def RelBV:Rel Value Bd where
 R:=λ w S v b=>∃ u1 u2,v=.agg #[u1,u2]∧BdR w S u1 u2 b
 keep:=λ⟨u1,u2,e,h⟩ hs=>⟨u1,u2,e,h.keep hs⟩
 weak:=λ⟨u1,u2,e,h⟩ hs=>⟨u1,u2,e,h.weak hs⟩
def RelBB:Rel Value (Option Bd) where
 R:=λ w S v x=>∃ u1 u2 b,v=.tuple #[.agg #[u1,u2],.bool x.isSome]∧BdR w S u1 u2 b∧∀ b0,x=some b0->b=b0
 keep:=λ⟨u1,u2,b,e,h,k⟩ hs=>⟨u1,u2,b,e,h.keep hs,k⟩
 weak:=λ⟨u1,u2,b,e,h,k⟩ hs=>⟨u1,u2,b,e,h.weak hs,k⟩
def RelBI:Rel Value (Option Bd) where
 R:=λ w S v x=>∃ u1 u2 b c,v=.tuple #[.agg #[u1,u2],.int .i64 c]∧BdR w S u1 u2 b∧(∀ b0,x=some b0->b=b0∧c=0)∧(x=none->c≠0)
 keep:=λ⟨u1,u2,b,c,e,h,k⟩ hs=>⟨u1,u2,b,c,e,h.keep hs,k⟩
 weak:=λ⟨u1,u2,b,c,e,h,k⟩ hs=>⟨u1,u2,b,c,e,h.weak hs,k⟩
def RelGV:Rel Value Gm where
 R:=λ w S v g=>∃ u1 u2,v=.agg ⟨gmC u1 u2 g⟩∧BdR w S u1 u2 g.b
 keep:=λ⟨u1,u2,e,h⟩ hs=>⟨u1,u2,e,h.keep hs⟩
 weak:=λ⟨u1,u2,e,h⟩ hs=>⟨u1,u2,e,h.weak hs⟩
def RelGI:Rel Value (Option Gm) where
 R:=λ w S v x=>∃ u1 u2 g c,v=.tuple #[.agg ⟨gmC u1 u2 g⟩,.int .i64 c]∧BdR w S u1 u2 g.b∧(∀ g0,x=some g0->g=g0∧c=0)∧(x=none->c≠0)
 keep:=λ⟨u1,u2,g,c,e,h,k⟩ hs=>⟨u1,u2,g,c,e,h.keep hs,k⟩
 weak:=λ⟨u1,u2,g,c,e,h,k⟩ hs=>⟨u1,u2,g,c,e,h.weak hs,k⟩
def RelGB:Rel Value (Option Gm) where
 R:=λ w S v x=>∃ u1 u2 g,v=.tuple #[.agg ⟨gmC u1 u2 g⟩,.bool x.isSome]∧BdR w S u1 u2 g.b∧∀ g0,x=some g0->g=g0
 keep:=λ⟨u1,u2,g,e,h,k⟩ hs=>⟨u1,u2,g,e,h.keep hs,k⟩
 weak:=λ⟨u1,u2,g,e,h,k⟩ hs=>⟨u1,u2,g,e,h.weak hs,k⟩
def MsR (w:World) (S:Nat->Prop) (su u1 u2:Value) (x:Ms):Prop:=SlV 1 enI w S su [x.s0,x.s1]∧BdR w S u1 u2 x.g.b
section
variable {w w':World} {S S':Nat->Prop} {su u1 u2:Value} {x:Ms}
theorem MsR.keep (h:MsR w S su u1 u2 x) (hs:Still S w w'):MsR w' S su u1 u2 x:=⟨(relV 1 enI).keep h.1 hs,h.2.keep hs⟩
theorem MsR.weak (h:MsR w S su u1 u2 x) (hs:∀ b,S b->b<w.heap.size->S' b):MsR w S' su u1 u2 x:=⟨(relV 1 enI).weak h.1 hs,h.2.weak hs⟩
theorem MsR.below (h:MsR w S su u1 u2 x) (hb:Below w.heap.size w w'):MsR w' S su u1 u2 x:=h.keep (.below hb)
end
def RelMV:Rel Value Ms where
 R:=λ w S v x=>∃ su u1 u2,v=.agg ⟨msC su u1 u2 x⟩∧MsR w S su u1 u2 x
 keep:=λ⟨su,u1,u2,e,h⟩ hs=>⟨su,u1,u2,e,h.keep hs⟩
 weak:=λ⟨su,u1,u2,e,h⟩ hs=>⟨su,u1,u2,e,h.weak hs⟩
def Ret {α:Type} (K:Rel Value α) (x:α) (S:Nat->Prop) (w:World) (e:Ending) (w':World):Prop :=
 ∃ v,e=.returned v∧K.R w' (λ b=>S b∨w.heap.size<=b) v x∧Below w.heap.size w w'
section
variable {w:World} {g:Nat} {t:TypeId} {c0 c1 c2 c3 c4 c5 c6 c7 c8 c9 c10 c11:Value}
theorem row9 (h:RowB w g t [c0,c1,c2,c3,c4,c5,c6,c7,c8]):w.cell? ⟨g,0,none⟩=some c0∧w.cell? ⟨g,1,none⟩=some c1∧w.cell? ⟨g,2,none⟩=some c2∧w.cell? ⟨g,3,none⟩=some c3∧w.cell? ⟨g,4,none⟩=some c4∧w.cell? ⟨g,5,none⟩=some c5∧w.cell? ⟨g,6,none⟩=some c6∧w.cell? ⟨g,7,none⟩=some c7∧w.cell? ⟨g,8,none⟩=some c8 :=
 ⟨h.cell 0,h.cell 1,h.cell 2,h.cell 3,h.cell 4,h.cell 5,h.cell 6,h.cell 7,h.cell 8⟩
theorem row12 (h:RowB w g t [c0,c1,c2,c3,c4,c5,c6,c7,c8,c9,c10,c11]):w.cell? ⟨g,0,none⟩=some c0∧w.cell? ⟨g,1,none⟩=some c1∧w.cell? ⟨g,2,none⟩=some c2∧w.cell? ⟨g,3,none⟩=some c3∧w.cell? ⟨g,4,none⟩=some c4∧w.cell? ⟨g,5,none⟩=some c5∧w.cell? ⟨g,6,none⟩=some c6∧w.cell? ⟨g,7,none⟩=some c7∧w.cell? ⟨g,8,none⟩=some c8∧w.cell? ⟨g,9,none⟩=some c9∧w.cell? ⟨g,10,none⟩=some c10∧w.cell? ⟨g,11,none⟩=some c11 :=
 ⟨h.cell 0,h.cell 1,h.cell 2,h.cell 3,h.cell 4,h.cell 5,h.cell 6,h.cell 7,h.cell 8,h.cell 9,h.cell 10,h.cell 11⟩
end
abbrev gM:List Value:=gmC (.slice none 0 0) (.slice none 0 0) nulG
end Gm

end Go.Proofs.YtjdefiinmicjiaaGreatDoor
