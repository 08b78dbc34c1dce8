/- Parts of the proof of FnHints. Conditions: each theorem's own. -/
import Derived.Test.YtmncnhbjifeoeaaGreatT04
import Derived.Deep.MidRow
set_option linter.unusedVariables false
set_option linter.unusedSimpArgs false
set_option maxHeartbeats 8000000
set_option maxRecDepth 100000
namespace Go.Proofs.YtmncnhbjifeoeaaGreat
namespace RelG
open Go Go.RowKit Base Own
def RdF {α:Type} (w:World) (S:Nat->Prop) (sz:Nat) (en:α->List Value) (A:Option Addr) (xs:List α):Prop :=
 xs.length<=maxLen∧(0<xs.length->∃ b off,A=some ⟨b,off,none⟩∧S b∧b<w.heap.size∧∀ i x,xs[i]?=some x->∀ j u,(en x)[j]?=some u->w.cell? ⟨b,off+i*sz+j,none⟩=some u)
def Still (S:Nat->Prop) (w w':World):Prop:=w.heap.size<=w'.heap.size∧∀ b,S b->b<w.heap.size->w'.heap[b]?=w.heap[b]?
theorem Still.below {S:Nat->Prop} {w w':World} (h:Below w.heap.size w w'):Still S w w':=⟨h.size,λ b _ hb=>h.block b hb⟩
theorem Still.grown {S:Nat->Prop} {w w':World} {row:Option Nat} (h:w.grownBy w' row) (hr:∀ g,row=some g->¬ S g):Still S w w' :=
 ⟨h.size,λ b hs hb=>h.block b hb (λ e=>hr b e.symm hs)⟩
theorem Still.trans {S:Nat->Prop} {a b c:World} (h:Still S a b) (k:Still S b c):Still S a c :=
 ⟨Nat.le_trans h.1 k.1,λ i hs hi=>(k.2 i hs (Nat.lt_of_lt_of_le hi h.1)).trans (h.2 i hs hi)⟩
def All (_:Nat):Prop:=True
section
variable {α:Type} {w w':World} {S S':Nat->Prop} {B sz:Nat} {en:α->List Value} {A:Option Addr} {xs:List α}
theorem RdF.keep (h:RdF w S sz en A xs) (hs:Still S w w'):RdF w' S sz en A xs :=
 ⟨h.1,λ hn=>by
  obtain⟨b,off,e,hS,hb,hc⟩:=h.2 hn;exact⟨b,off,e,hS,Nat.lt_of_lt_of_le hb hs.1,λ i x hx j u hu=>(World.cell?_of_block (hs.2 b hS hb)).trans (hc i x hx j u hu)⟩⟩
theorem RdF.weak (h:RdF w S sz en A xs) (hs:∀ b,S b->b<w.heap.size->S' b):RdF w S' sz en A xs :=
 ⟨h.1,λ hn=>by
  obtain⟨b,off,e,hS,hb,hc⟩:=h.2 hn;exact⟨b,off,e,hs b hS hb,hb,hc⟩⟩
theorem RdF.rd (h:RdF w S sz en A xs):RdS w w.heap.size sz en A xs :=
 ⟨h.1,λ hn=>by
  obtain⟨b,off,e,hS,hb,hc⟩:=h.2 hn;exact⟨b,off,e,hb,hc⟩⟩
theorem RdF.of (h:RdS w B sz en A xs) (hB:B<=w.heap.size) (hS:∀ b,b<B->S b):RdF w S sz en A xs :=
 ⟨h.1,λ hn=>by
  obtain⟨b,off,e,hb,hc⟩:=h.2 hn;exact⟨b,off,e,hS b hb,by omega,hc⟩⟩
theorem RdF.nil (w:World) (S:Nat->Prop) (sz:Nat) (en:α->List Value) (A:Option Addr):RdF w S sz en A []:=⟨Nat.zero_le _,λ h=>by simp at h⟩
theorem RdF.len (h:RdF w S sz en A xs):xs.length<=9223372036854775807:=by have:=h.1;unfold maxLen at this;omega
theorem RdF.at_ (h:RdF w S sz en A xs) {i:Nat} (hi:i<xs.length) :
  ∃ b off x,A=some ⟨b,off,none⟩∧S b∧b<w.heap.size∧xs[i]?=some x∧∀ j u,(en x)[j]?=some u->w.cell? ⟨b,off+i*sz+j,none⟩=some u:=by
 obtain⟨b,off,rfl,d,c,a⟩:=h.2 (by omega);exact⟨b,off,xs[i],rfl,d,c,List.getElem?_eq_getElem hi,a i _ (List.getElem?_eq_getElem hi)⟩
end
structure Rel (ρ α:Type) where
 R:World->(Nat->Prop)->ρ->α->Prop
 keep:∀ {w w':World} {S:Nat->Prop} {r:ρ} {x:α},R w S r x->Still S w w'->R w' S r x
 weak:∀ {w:World} {S S':Nat->Prop} {r:ρ} {x:α},R w S r x->(∀ b,S b->b<w.heap.size->S' b)->R w S' r x
def LsR {ρ α:Type} (K:Rel ρ α) (w:World) (S:Nat->Prop) (rs:List ρ) (xs:List α):Prop :=
 rs.length=xs.length∧∀(i:Nat) (r:ρ) (x:α),rs[i]?=some r->xs[i]?=some x->K.R w S r x
section
variable {ρ α:Type} {K:Rel ρ α} {w w':World} {S S':Nat->Prop} {rs:List ρ} {xs:List α}
theorem LsR.keep (h:LsR K w S rs xs) (hs:Still S w w'):LsR K w' S rs xs:=⟨h.1,λ i r x hr hx=>K.keep (h.2 i r x hr hx) hs⟩
theorem LsR.weak (h:LsR K w S rs xs) (hs:∀ b,S b->b<w.heap.size->S' b):LsR K w S' rs xs:=⟨h.1,λ i r x hr hx=>K.weak (h.2 i r x hr hx) hs⟩
theorem LsR.nil (K:Rel ρ α) (w:World) (S:Nat->Prop):LsR K w S [] []:=⟨rfl,λ i r x hr=>by simp at hr⟩
theorem LsR.snoc (h:LsR K w S rs xs) {r:ρ} {x:α} (hr:K.R w S r x):LsR K w S (rs++[r]) (xs++[x]):=by
 refine⟨by simp [h.1],λ i d c a b=>?_⟩;have e:=h.1;rcases Nat.lt_trichotomy i rs.length with hi | hi | hi
 ·rw [List.getElem?_append_left hi] at a;rw [List.getElem?_append_left (by omega)] at b;exact h.2 i d c a b
 ·subst hi;rw [List.getElem?_append_right (Nat.le_refl _),Nat.sub_self] at a;rw [e,List.getElem?_append_right (Nat.le_refl _),Nat.sub_self] at b;simp at a b;subst a b;exact hr
 ·rw [List.getElem?_eq_none (by simp;omega)] at a;cases a
theorem LsR.at_ (h:LsR K w S rs xs) {i:Nat} {r:ρ} (hr:rs[i]?=some r):∃ x,xs[i]?=some x∧K.R w S r x:=by
 have b:=(List.getElem?_eq_some_iff.1 hr).1;have a:i<xs.length:=by rw [<-h.1];exact b
 exact⟨xs[i],List.getElem?_eq_getElem a,h.2 i r _ hr (List.getElem?_eq_getElem a)⟩
theorem LsR.take (h:LsR K w S rs xs) (k:Nat):LsR K w S (rs.take k) (xs.take k):=by
 refine⟨by simp [h.1],λ i r x a b=>?_⟩;rw [List.getElem?_take] at a b;split at a
 ·rw [if_pos (by assumption)] at b;exact h.2 i r x a b
 ·cases a
end
def SlG {ρ α:Type} (K:Rel ρ α) (sz:Nat) (en:ρ->List Value) (w:World) (S:Nat->Prop) (v:Value) (xs:List α):Prop :=
 ∃(A:Option Addr) (c:Nat) (rs:List ρ),v=.slice A xs.length c∧RdF w S sz en A rs∧LsR K w S rs xs∧(A=none->c=0)
def relSl {ρ α:Type} (K:Rel ρ α) (sz:Nat) (en:ρ->List Value):Rel Value (List α) where
 R:=SlG K sz en
 keep:=λ⟨A,c,rs,h1,h2,h3,h4⟩ hs=>⟨A,c,rs,h1,h2.keep hs,h3.keep hs,h4⟩
 weak:=λ⟨A,c,rs,h1,h2,h3,h4⟩ hs=>⟨A,c,rs,h1,h2.weak hs,h3.weak hs,h4⟩
def SlV {α:Type} (sz:Nat) (en:α->List Value) (w:World) (S:Nat->Prop) (v:Value) (xs:List α):Prop :=
 ∃(A:Option Addr) (c:Nat),v=.slice A xs.length c∧RdF w S sz en A xs∧(A=none->c=0)
def relV {α:Type} (sz:Nat) (en:α->List Value):Rel Value (List α) where
 R:=SlV sz en
 keep:=λ⟨A,c,h1,h2,h4⟩ hs=>⟨A,c,h1,h2.keep hs,h4⟩
 weak:=λ⟨A,c,h1,h2,h4⟩ hs=>⟨A,c,h1,h2.weak hs,h4⟩
def NotIn (v:Value) (lo b:Nat):Prop:=v.ownBlock≠some b∧lo<=b
def OwnG {ρ α:Type} (K:Rel ρ α) (w:World) (lo hi:Nat) (e:TypeId) (sz:Nat) (en:ρ->List Value) (v:Value) (xs:List α):Prop :=
 ∃ rs,OwnS w lo hi e sz en v rs∧LsR K w (NotIn v lo) rs xs
def OwnV {α:Type} (e:TypeId) (sz:Nat) (en:α->List Value) (w:World) (S:Nat->Prop) (v:Value) (xs:List α):Prop :=
 OwnS w 0 w.heap.size e sz en v xs∧∀ g,v.ownBlock=some g->S g
theorem OwnV.keep {α:Type} {e:TypeId} {sz:Nat} {en:α->List Value} {w w':World} {S:Nat->Prop} {v:Value} {xs:List α} (h:OwnV e sz en w S v xs) (hs:Still S w w'):OwnV e sz en w' S v xs:=by
 obtain⟨⟨⟨f,d⟩,b⟩,a⟩:=h;refine⟨⟨⟨f,?_⟩,λ g c=>Nat.lt_of_lt_of_le (b g c) hs.1⟩,a⟩;rcases d with hn | ⟨g,cap,cur,rfl,hbg,hgg,rest⟩
 ·exact .inl hn
 ·refine .inr ⟨g,cap,cur,rfl,hbg,?_,rest⟩;rw [hs.2 g (a g rfl) (b g rfl)];exact hgg
def relO {α:Type} (e:TypeId) (sz:Nat) (en:α->List Value):Rel Value (List α) where
 R:=OwnV e sz en
 keep:=OwnV.keep
 weak:=λ h hs=>⟨h.1,λ g hg=>hs g (h.2 g hg) (h.1.2 g hg)⟩
theorem OwnV.sl {α:Type} {e:TypeId} {sz:Nat} {en:α->List Value} {w:World} {S:Nat->Prop} {v:Value} {xs:List α} (hen:∀ x,(en x).length=sz) (h:OwnV e sz en w S v xs):SlV sz en w S v xs:=by
 obtain⟨A,c,f,k⟩:=h.1.form hen;have l:A=none->c=0:=λ d=>by
  rcases h.1.cases_ with ⟨e2,_⟩ | ⟨g,cap,rest,e2,_⟩
  ·rw [f] at e2;simp only [Value.slice.injEq] at e2;exact e2.2.2
  ·rw [f,d] at e2;simp only [Value.slice.injEq] at e2;exact absurd e2.1 (by simp)
 refine⟨A,c,f,⟨k.1,λ j=>?_⟩,l⟩;obtain⟨b,i,d,m,a⟩:=k.2 j;refine⟨b,i,d,?_,m,a⟩;rcases h.1.cases_ with ⟨e2,e3⟩ | ⟨g,cap,rest,e2,_⟩
 ·rw [e3] at j;simp at j
 ·have n:=h.2 g (by rw [e2];rfl);rw [f,d] at e2;simp only [Value.slice.injEq,Option.some.injEq,Addr.mk.injEq] at e2;rw [e2.1.1];exact n
theorem OwnV.of {α:Type} {e:TypeId} {sz lo hi:Nat} {en:α->List Value} {w:World} {S:Nat->Prop} {v:Value} {xs:List α} (h:OwnS w lo hi e sz en v xs) (hh:hi<=w.heap.size) (hS:∀ b,lo<=b->b<hi->S b):OwnV e sz en w S v xs :=
 ⟨(h.less (Nat.zero_le _)).more hh,λ g hg=>hS g (h.block g hg).1 (h.block g hg).2⟩
section
variable {ρ α:Type} {K:Rel ρ α} {w w':World} {lo hi sz:Nat} {e:TypeId} {en:ρ->List Value} {v:Value} {xs:List α}
theorem OwnG.more {hi':Nat} (h:OwnG K w lo hi e sz en v xs) (hh:hi<=hi'):OwnG K w lo hi' e sz en v xs:=by
 obtain⟨a,c,b⟩:=h;exact⟨a,c.more hh,b⟩
theorem OwnG.less {lo':Nat} (h:OwnG K w lo hi e sz en v xs) (hh:lo'<=lo):OwnG K w lo' hi e sz en v xs:=by
 obtain⟨c,f,d⟩:=h;exact⟨c,f.less hh,d.weak (λ b a _=>⟨a.1,by have:=a.2;omega⟩)⟩
theorem OwnG.below_ (h:OwnG K w lo hi e sz en v xs) (hb:Below w.heap.size w w'):OwnG K w' lo hi e sz en v xs:=by
 obtain⟨b,a,c⟩:=h;refine⟨b,⟨⟨a.1.1,?_⟩,a.2⟩,c.keep (.below hb)⟩;rcases a.1.2 with hn | ⟨g,cap,cur,rfl,hbg,hgg,rest⟩
 ·exact .inl hn
 ·refine .inr ⟨g,cap,cur,rfl,hbg,?_,rest⟩;rw [hb.block g (Array.getElem?_eq_some_iff.1 hgg).1];exact hgg
theorem OwnG.nil_ (K:Rel ρ α) (w:World) (lo hi:Nat) (e:TypeId) (sz:Nat) (en:ρ->List Value):OwnG K w lo hi e sz en (.slice none 0 0) [] :=
 ⟨[],OwnS.nil_ _ _ _ _ _ _,LsR.nil _ _ _⟩
theorem app_still {v:Value} {g n c:Nat} (hg:w.grownBy w' v.ownBlock) (hat:v.ownBlock=some g∨g=w.heap.size) {ρ α:Type} {K:Rel ρ α} {r:ρ} {x:α} (h:K.R w (NotIn v lo) r x):K.R w' (NotIn (.slice (some ⟨g,0,none⟩) n c) lo) r x:=by
 have l:K.R w (λ b=>NotIn v lo b∧b<w.heap.size) r x:=K.weak h (λ b a f=>⟨a,f⟩);have j:=K.keep l (Still.grown (S:=λ b=>NotIn v lo b∧b<w.heap.size) hg (λ k i d=>d.1.1 i));refine K.weak j (λ b a _=>⟨?_,a.1.2⟩);intro e;simp [Value.ownBlock] at e;subst e;rcases hat with hat | hat
 ·exact a.1.1 hat
 ·have:=a.2;omega
theorem OwnG.sl (hen:∀ x,(en x).length=sz) (h:OwnG K w lo hi e sz en v xs) (hh:hi<=w.heap.size):SlG K sz en w (λ b=>lo<=b) v xs:=by
 obtain⟨f,k,d⟩:=h;have g:=OwnV.sl (S:=λ b=>lo<=b) hen (OwnV.of k hh (λ b a _=>a));obtain⟨A,c,rfl,i,j⟩:=g;refine⟨A,c,f,by rw [d.1],i,d.weak (λ _ a _=>a.2),j⟩
end
end RelG
namespace RegG
open Go Go.RowKit Base RegInv RegF
def setL:List Value->Nat->List Value->List Value
 | cs,_,[]=>cs
 | cs,o,v :: r=>setL (cs.set o v) (o+1) r
theorem row_cells {g:Nat} {t:TypeId}:∀(vs:List Value) (o:Nat) (w:World) (cs:List Value),RowB w g t cs->RowB (w.setCells g o vs) g t (setL cs o vs)
 | [],_,_,_,h=>h
 | v :: r,o,_,_,h=>row_cells r (o+1) _ _ (h.set o v)
theorem grown_cells (g:Nat):∀(vs:List Value) (o:Nat) (w:World),w.grownBy (w.setCells g o vs) (some g)
 | [],_,w=>Base.grownBy_refl w _
 | v :: r,o,w=>Base.grownBy_trans (Base.grownBy_setCell w g o v) (grown_cells g r (o+1) _)
theorem size_cells (g:Nat):∀(vs:List Value) (o:Nat) (w:World),(w.setCells g o vs).heap.size=w.heap.size
 | [],_,_=>rfl
 | v :: r,o,w=>(size_cells g r (o+1) _).trans (by simp [World.setCell])
theorem there_row {w:World} {g j n:Nat} {t:TypeId} {cs:List Value} (h:RowB w g t cs) (hl:j+n<=cs.length):w.there g j n:=λ i hi =>
 ⟨by rw [h.cell,List.getElem?_eq_getElem (by omega)];rfl,h.frozen _⟩
theorem wpL_sm {P:Program} {ops:Array Oper} {rest:List Oper} {o:Oper} {a:Act} {w:World} {Q:Exit->Act->World->Prop} (ty:TypeId) (x y:Operand) (ho:o={ dst:=none,op:=.store ty x y,type:=o.type,pos:=o.pos,after:=o.after,guard:=none })
  (g j:Nat) (cs old new:List Value) (hx:a.eval x=.pointer (some ⟨g,j,none⟩)) (hy:a.eval y=.agg ⟨cs⟩)
  (t:TypeId) (hg:RowB w g t old) (hi:(P.info? ty).map (·.size)=some cs.length) (hl:j+cs.length<=old.length) (h1:cs.all (·.oneCell')=true) (hn:setL old j cs=new)
  (h:∀ w',RowB w' g t new->w.grownBy w' (some g)->w'.heap.size=w.heap.size->wpList P ops Q rest a w'):wpList P ops Q (o :: rest) a w:=by
 refine wpList_store_mid (by rw [ho]) ty x y (by rw [ho]) g j ⟨cs⟩ hx hy (there_row hg (by simpa using hl)) (by simpa using hi) (by simpa [Array.all_toList] using h1) ?_;rw [show o.dst=none from by rw [ho]];exact h _ (hn ▸ row_cells cs j w old hg) (grown_cells _ _ _ _) (size_cells _ _ _ _)
theorem wM {P:Program} {ops:Array Oper} {rest:List Oper} {o:Oper} {a:Act} {w:World} {Q:Exit->Act->World->Prop} (ty:TypeId) {x y:Operand} (j:Nat) (cs:List Value) {old:List Value} {g:Nat} {t:TypeId} (hg:RowB w g t old) (h:∀ w',RowB w' g t (setL old j cs)->w.grownBy w' (some g)->w'.heap.size=w.heap.size->wpList P ops Q rest a w') (ho:o={ dst:=none,op:=.store ty x y,type:=o.type,pos:=o.pos,after:=o.after,guard:=none }:=by rfl) (hx:a.eval x=.pointer (some ⟨g,j,none⟩):=by rfl) (hy:a.eval y=.agg ⟨cs⟩:=by rfl) (hi:(P.info? ty).map (·.size)=some cs.length:=by kernel_rfl) (hl:j+cs.length<=old.length:=by exact Nat.le_refl _) (h1:cs.all (·.oneCell')=true:=by rfl):wpList P ops Q (o :: rest) a w:=wpL_sm ty x y ho g j cs old _ hx hy t hg hi hl h1 rfl h
theorem wp_sm {P:Program} {o:Oper} {a:Act} {w:World} {K:Act->World->Prop} {Q:Exit->Act->World->Prop} (ty:TypeId) (x y:Operand) (ho:o.op=.store ty x y)
  (g j:Nat) (cs old:List Value) (hx:a.eval x=.pointer (some ⟨g,j,none⟩)) (hy:a.eval y=.agg ⟨cs⟩)
  (t:TypeId) (hg:RowB w g t old) (hi:(P.info? ty).map (·.size)=some cs.length) (hl:j+cs.length<=old.length) (h1:cs.all (·.oneCell')=true)
  (h:K (a.put o.dst undef) (w.setCells g j cs)):o.wp P a w K Q :=
 wp_store_mid ty x y ho g j ⟨cs⟩ hx hy (there_row hg (by simpa using hl)) (by simpa using hi) (by simpa [Array.all_toList] using h1) h
end RegG

namespace DwA
open Go Go.ChangeShapes Go.WideShapes Go.ChangeAt Go.RowKit Base Ints Own Draw DrawD RegF RegG DwP DwQ PlP
theorem full_x (w:World):Calls Tryz.prog 158 #[] w λ e w'=>e=.returned (.agg #[.int .i64 24,.int .i64 15,.int .i64 6,.int .i64 6])∧Below w.heap.size w w':=by
 go_enter Tryz.func158,Tryz.ntmps158;go_wp2_with fail;go_returns;exact⟨rfl,by go_grown⟩
section
variable {w0 w:World} {B g cp:Nat} {A:Option Addr} {xs:List Int} {st:Nat × Int}
def VEnd (f:Vr->St->Prop) (w0 w:World) (B g:Nat) (A:Option Addr) (cp:Nat) (xs:List Int) (e:Ending) (w':World):Prop :=
 ∃(v:Vr) (st':St),e=.returned (.agg #[.int .i64 v.p,.int .i64 v.c,.int .i64 v.h,.int .i64 v.s])∧f v st'∧Dx w0 B g A cp xs st' w'∧w.grownBy w' (some g)
theorem pickV {W:World} {b:Nat} {e:TypeId} {zs:List Int} (h:RowB W b e (zs.map (Value.int .i64))) {m:Nat} (hm:m<zs.length):W.cell? ⟨b,m,none⟩=some (.int .i64 (zs.getD m 0)):=by
 rw [h.cell,List.getElem?_map,List.getD_eq_getElem?_getD,List.getElem?_eq_getElem hm];rfl
theorem v01s_x (h:Dx w0 B g A cp xs st w):Calls Tryz.prog 163 #[.pointer (some ⟨g,0,none⟩)] w λ e w'=>VEnd (λ v st'=>v01s xs st=(v,st')∧2<=v.p∧v.p<=24) w0 w B g A cp xs e w':=by
 go_enter Tryz.func163,Tryz.ntmps163;go_wp2_with fail;have K:Ru w0 w B g A cp xs st 25 [.int .i64 0,.int .i64 0,.int .i64 0,.int .i64 0] _:=Ru.start h;refine(nextX K.D (5) (by decide)).mono ?_;rintro e Y ⟨p,Z,⟨rfl,ab,m,-,I⟩,f,a,-⟩;have m:=m (by decide);have K:=K.next f a;clear f a h;go_wp2_with fail;refine(nextX K.D (3) (by decide)).mono ?_;rintro e X ⟨c,aa,⟨rfl,af,t,-,M⟩,f,a,-⟩;have t:=t (by decide);have K:=K.next f a;clear f a;go_wp2_with fail;refine(nextX K.D (3) (by decide)).mono ?_;rintro e F ⟨d,G,⟨rfl,ae,s,-,L⟩,f,a,-⟩;have s:=s (by decide);have K:=K.next f a;clear f a;go_upto_region 2 with fail;obtain⟨P,j⟩:∃ q,F.heap.size=q:=⟨_,rfl⟩;have N:w.heap.size<P:=by rw [<-j];exact K.rr.lt
 refine wp_gen (λ x=>Ru w0 w B g A cp xs G 25 [.int .i64 0,.int .i64 0,.int .i64 0,.int .i64 0] x∧RowB x P 25 [.int .i64 (2+p),.int .i64 (1+c),.int .i64 0,.int .i64 (1+d)]) ⟨K.alloc _,by rw [<-j];exact RowB.new _ _ _⟩ ?_
 try simp only [j]
 clear K j;rintro w4 ⟨K,b⟩;obtain⟨E,C,z,y⟩:=b.c4;have i:=b.lt;go_wp2_with fail;refine(nextX K.D (2+p) (by omega)).mono ?_;rintro e W ⟨h,l,⟨rfl,ad,o,-,J⟩,f,a,-⟩;have o:=o (by omega);have K:=K.next f a;have n:=a;clear f a E C z y i;have b:=b.grown n (λ k hk=>by simp at hk;have:=K.lt;omega);clear n;obtain⟨E,C,z,y⟩:=b.c4;have i:=b.lt;have O:=b.frozen;go_upto_region 3 with fail;refine wp_gen (λ x=>Ru w0 w B g A cp xs l 25 [.int .i64 0,.int .i64 0,.int .i64 0,.int .i64 0] x∧RowB x P 25 [.int .i64 (2+p),.int .i64 (1+c),.int .i64 (1+h),.int .i64 (1+d)]) ⟨K.put N (Base.grownBy_setCell _ _ _ _),b.set 2 _⟩ ?_;clear K E C z y i O b;rintro w6 ⟨K,b⟩;obtain⟨E,C,z,y⟩:=b.c4;have i:=b.lt;have Q:=K.rr;go_wp2_with (refine wM 25 0 [.int .i64 (2+p),.int .i64 (1+c),.int .i64 (1+h),.int .i64 (1+d)] Q ?_;intro w7 H r z7;refine Hid.out ?_);have K:=K.res H r;obtain⟨V,T,S,R⟩:=H.c4;have ac:=H.lt;clear r Q;refine kD ?_
 repeat (first | go_values | go_skip | go_step | go_upon)
 refine bodyPost_ret (v:=.agg #[.int .i64 (2+p),.int .i64 (1+c),.int .i64 (1+h),.int .i64 (1+d)]) (by simp [results,Tryz.results163,go_sem,V,T,S,R]) rfl ?_;exact⟨⟨2+p,1+c,1+h,1+d⟩,l,rfl,⟨v01s_0 I M L J,by show 2<=2+p;omega,by show 2+p<=24;omega⟩,K.D,K.gr⟩
theorem v01v_x (h:Dx w0 B g A cp xs st w):Calls Tryz.prog 140 #[.pointer (some ⟨g,0,none⟩)] w λ e w'=>VEnd (λ v st'=>v01v xs st=(v,st')∧2<=v.p∧v.p<=24) w0 w B g A cp xs e w':=by
 go_enter Tryz.func140,Tryz.ntmps140;go_wp2_with fail;have K:Ru w0 w B g A cp xs st 25 [.int .i64 0,.int .i64 0,.int .i64 0,.int .i64 0] _:=Ru.start h;refine(nextX K.D (4) (by decide)).mono ?_;rintro e ae ⟨a,T,⟨rfl,al,L,-,r⟩,f,b,-⟩;have L:=L (by decide);have K:=K.next f b;clear f b h;by_cases e0:a=0
 ·subst e0;go_wp2_with fail;refine(full_x _).mono ?_;rintro e w2 ⟨rfl,hb⟩;have K:=K.below hb;clear hb;have o:=K.rr;go_wp2_with (refine wM 25 0 [.int .i64 24,.int .i64 15,.int .i64 6,.int .i64 6] o ?_;intro w7 l i z7;refine Hid.out ?_);have K:=K.res l i;obtain⟨z,y,x,t⟩:=l.c4;have F:=l.lt;clear i o;refine kD ?_
  repeat (first | go_values | go_skip | go_step | go_upon)
  refine bodyPost_ret (v:=.agg #[.int .i64 24,.int .i64 15,.int .i64 6,.int .i64 6]) (by simp [results,Tryz.results140,go_sem,z,y,x,t]) rfl ?_;exact⟨fullV,T,rfl,⟨v01v_0 r,by decide,by decide⟩,K.D,K.gr⟩
 by_cases e1:a=1
 ·subst e1;go_wp2_with fail;refine(nextX K.D (21) (by decide)).mono ?_;rintro e ad ⟨p,af,⟨rfl,ah,E,-,V⟩,f,b,-⟩;have E:=E (by decide);have K:=K.next f b;clear f b;go_wp2_with fail;refine(nextX K.D (15) (by decide)).mono ?_;rintro e ac ⟨c,ag,⟨rfl,ak,J,-,Y⟩,f,b,-⟩;have J:=J (by decide);have K:=K.next f b;clear f b;go_wp2_with fail;refine(nextX K.D (6) (by decide)).mono ?_;rintro e R ⟨d,S,⟨rfl,aj,I,-,X⟩,f,b,-⟩;have I:=I (by decide);have K:=K.next f b;clear f b;go_upto_region 6 with fail;obtain⟨g3,n⟩:∃ q,R.heap.size=q:=⟨_,rfl⟩;have Z:w.heap.size<g3:=by rw [<-n];exact K.rr.lt
  refine wp_gen (λ M=>Ru w0 w B g A cp xs S 25 [.int .i64 0,.int .i64 0,.int .i64 0,.int .i64 0] M∧RowB M g3 25 [.int .i64 (4+p),.int .i64 (1+c),.int .i64 0,.int .i64 (1+d)]) ⟨K.alloc _,by rw [<-n];exact RowB.new _ _ _⟩ ?_
  try simp only [n]
  clear K n;rintro w4 ⟨K,j⟩;obtain⟨Q,P,O,N⟩:=j.c4;have m:=j.lt;have ht:Int.tdiv (4+p) 2=(4+p) / 2:=by rw [Int.tdiv_eq_ediv_of_nonneg (by omega)]
  go_wp2_with fail;refine(nextX K.D ((4+p) / 2) (by omega)).mono ?_;rintro e ab ⟨h,C,⟨rfl,ai,H,-,W⟩,f,b,-⟩;have H:=H (by omega);have K:=K.next f b;have G:=b;clear f b Q P O N m;have j:=j.grown G (λ k hk=>by simp at hk;have:=K.lt;omega);clear G;obtain⟨Q,P,O,N⟩:=j.c4;have m:=j.lt;have aa:=j.frozen;go_upto_region 7 with fail;refine wp_gen (λ M=>Ru w0 w B g A cp xs C 25 [.int .i64 0,.int .i64 0,.int .i64 0,.int .i64 0] M∧RowB M g3 25 [.int .i64 (4+p),.int .i64 (1+c),.int .i64 (1+h),.int .i64 (1+d)]) ⟨K.put Z (Base.grownBy_setCell _ _ _ _),j.set 2 _⟩ ?_;clear K Q P O N m aa j;rintro w6 ⟨K,j⟩;obtain⟨Q,P,O,N⟩:=j.c4;have m:=j.lt;have o:=K.rr;go_wp2_with (refine wM 25 0 [.int .i64 (4+p),.int .i64 (1+c),.int .i64 (1+h),.int .i64 (1+d)] o ?_;intro w7 l i z7;refine Hid.out ?_);have K:=K.res l i;obtain⟨z,y,x,t⟩:=l.c4;have F:=l.lt;clear i o;refine kD ?_
  repeat (first | go_values | go_skip | go_step | go_upon)
  refine bodyPost_ret (v:=.agg #[.int .i64 (4+p),.int .i64 (1+c),.int .i64 (1+h),.int .i64 (1+d)]) (by simp [results,Tryz.results140,go_sem,z,y,x,t]) rfl ?_;exact⟨⟨4+p,1+c,1+h,1+d⟩,C,rfl,⟨v01v_1 r V Y X W,by show 2<=4+p;omega,by show 4+p<=24;omega⟩,K.D,K.gr⟩
 ·have x0:(a == 0)=false:=by simp [e0]
  have x1:(a == 1)=false:=by simp [e1]
  go_wp2_with fail;refine(v01s_x K.D).mono ?_;rintro e w2 ⟨v,s2,rfl,hv,f,b⟩;have K:=K.next f b;clear f b;have o:=K.rr;go_wp2_with (refine wM 25 0 [.int .i64 v.p,.int .i64 v.c,.int .i64 v.h,.int .i64 v.s] o ?_;intro w7 l i z7;refine Hid.out ?_);have K:=K.res l i;obtain⟨z,y,x,t⟩:=l.c4;have F:=l.lt;clear i o;refine kD ?_
  repeat (first | go_values | go_skip | go_step | go_upon)
  refine bodyPost_ret (v:=.agg #[.int .i64 v.p,.int .i64 v.c,.int .i64 v.h,.int .i64 v.s]) (by simp [results,Tryz.results140,go_sem,z,y,x,t]) rfl ?_;exact⟨v,s2,rfl,⟨v01v_2 r e0 e1 hv.1,hv.2⟩,K.D,K.gr⟩
theorem v01a_x (h:Dx w0 B g A cp xs st w):Calls Tryz.prog 104 #[.pointer (some ⟨g,0,none⟩)] w λ e w'=>VEnd (λ v st'=>v01a xs st=(v,st')) w0 w B g A cp xs e w':=by
 have ac:=h.lt;go_enter Tryz.func104,Tryz.ntmps104;go_wp2_with fail;have K:Ru w0 w B g A cp xs st 25 [.int .i64 0,.int .i64 0,.int .i64 0,.int .i64 0] _:=Ru.start h;refine(v01v_x K.D).mono ?_;rintro e w1 ⟨v,s1,rfl,⟨hv,W⟩,C,n⟩;have ab:=kD W;have K:=K.next C n;clear C n h W;go_upto_region 2 with fail;refine wp_gen (λ E=>∃ Q,w1.heap.size=Q∧w.heap.size<Q∧Ru w0 w B g A cp xs s1 25 [.int .i64 0,.int .i64 0,.int .i64 0,.int .i64 0] E∧RowB E Q 25 [.int .i64 v.p,.int .i64 v.c,.int .i64 v.h,.int .i64 v.s]) ⟨_,rfl,K.rr.lt,K.alloc _,RowB.new _ _ _⟩ ?_;rintro w2 ⟨Q,Y,N,K2,f⟩;rw [Y];clear K Y;have K:=K2;clear K2;go_wp2_with fail;refine(nextX K.D (40) (by decide)).mono ?_;rintro e aa ⟨q,R,⟨rfl,ad,T,-,F⟩,C,n,-⟩;have T:=T (by decide);have K:=K.next C n;have f:=f.grown n (λ k P=>by simp at P;have:=K.lt;omega);clear C n;have H:v01v xs st=(v,s1):=hv;obtain⟨y,x,t,r⟩:=f.c4;have a:=f.lt;have i:=f.frozen;by_cases e0:q=0
 ·subst e0;go_wp2_with fail;refine(nextX (K.alloc _).D 4 (by decide)).mono ?_;rintro e S ⟨k,o,⟨rfl,V,l,-,G⟩,C,n,-⟩;have l:=l (by decide);have K:=(K.alloc _).next C n;have f:=(f.alloc _).grown n (λ k P=>by simp at P;have:=K.lt;omega);have rb:=(RowB.new aa 2 [.int .i64 1,.int .i64 25,.int .i64 (-1),.int .i64 24]).grown n (λ k P=>by simp at P;have:=K.D.lt;omega);obtain⟨m,rfl⟩:∃ m:Nat,k=m:=⟨k.toNat,by omega⟩;have X:=pickV (zs:=[1,25,-1,24]) rb (show m<_ from by simp;omega);rw [show ([1,25,-1,24]:List Int).getD m 0=badP m from rfl] at X;have af:(m:Int)<4:=l;have ag:=rb.lt;clear C n y x t r a i;obtain⟨y,x,t,r⟩:=f.c4;have a:=f.lt;have i:=f.frozen;go_upto_region 11 with fail;refine wp_gen (λ E=>Ru w0 w B g A cp xs o 25 [.int .i64 0,.int .i64 0,.int .i64 0,.int .i64 0] E∧RowB E Q 25 [.int .i64 (badP m),.int .i64 v.c,.int .i64 v.h,.int .i64 v.s]) ⟨K.put N (Base.grownBy_setCell _ _ _ _),f.set 0 _⟩ ?_;clear K f;rintro w6 ⟨K,d⟩;clear y x t r a i;obtain⟨y,x,t,r⟩:=d.c4;have a:=d.lt;have z:=K.rr;go_wp2_with (refine wM 25 0 [.int .i64 (badP m),.int .i64 v.c,.int .i64 v.h,.int .i64 v.s] z ?_;intro w7 j b Z;refine Hid.out ?_);have K:=K.res j b;obtain⟨M,L,J,I⟩:=j.c4;have O:=j.lt;clear b z;refine kD ?_
  repeat (first | go_values | go_skip | go_step | go_upon)
  refine bodyPost_ret (v:=.agg #[.int .i64 (badP m),.int .i64 v.c,.int .i64 v.h,.int .i64 v.s]) (by simp [results,Tryz.results104,go_sem,M,L,J,I]) rfl ?_;exact⟨⟨badP m,v.c,v.h,v.s⟩,o,rfl,v01a_of H F (any_0 G),K.D,K.gr⟩
 have M:(q == 0)=false:=by simp [e0]
 by_cases e1:q=1
 ·subst e1;go_wp2_with fail;refine(nextX K.D (2) (by decide)).mono ?_;rintro e S ⟨k,o,⟨rfl,V,l,-,G⟩,C,n,-⟩;have l:=l (by decide);have K:=K.next C n;have f:=f.grown n (λ k P=>by simp at P;have:=K.lt;omega);clear C n;clear y x t r a i;obtain⟨y,x,t,r⟩:=f.c4;have a:=f.lt;have i:=f.frozen;go_upto_region 11 with fail;refine wp_gen (λ E=>Ru w0 w B g A cp xs o 25 [.int .i64 0,.int .i64 0,.int .i64 0,.int .i64 0] E∧RowB E Q 25 [.int .i64 v.p,.int .i64 (16*k),.int .i64 v.h,.int .i64 v.s]) ⟨K.put N (Base.grownBy_setCell _ _ _ _),f.set 1 _⟩ ?_;clear K f;rintro w6 ⟨K,d⟩;clear y x t r a i;obtain⟨y,x,t,r⟩:=d.c4;have a:=d.lt;have z:=K.rr;go_wp2_with (refine wM 25 0 [.int .i64 v.p,.int .i64 (16*k),.int .i64 v.h,.int .i64 v.s] z ?_;intro w7 j b Z;refine Hid.out ?_);have K:=K.res j b;obtain⟨M,L,J,I⟩:=j.c4;have O:=j.lt;clear b z;refine kD ?_
  repeat (first | go_values | go_skip | go_step | go_upon)
  refine bodyPost_ret (v:=.agg #[.int .i64 v.p,.int .i64 (16*k),.int .i64 v.h,.int .i64 v.s]) (by simp [results,Tryz.results104,go_sem,M,L,J,I]) rfl ?_;exact⟨⟨v.p,16*k,v.h,v.s⟩,o,rfl,v01a_of H F (any_1 G),K.D,K.gr⟩
 have L:(q == 1)=false:=by simp [e1]
 by_cases e2:q=2
 ·subst e2;have ae:=ab.out;have hw:IntKind.i64.wrap (v.p+1)=v.p+1:=IntWalk.i64_in _ (by omega);go_upto_region 11 with fail;refine wp_gen (λ E=>Ru w0 w B g A cp xs R 25 [.int .i64 0,.int .i64 0,.int .i64 0,.int .i64 0] E∧RowB E Q 25 [.int .i64 v.p,.int .i64 v.c,.int .i64 (v.p+1),.int .i64 v.s]) ⟨K.put N (Base.grownBy_setCell _ _ _ _),f.set 2 _⟩ ?_;clear K f;rintro w6 ⟨K,d⟩;clear y x t r a i;obtain⟨y,x,t,r⟩:=d.c4;have a:=d.lt;have z:=K.rr;go_wp2_with (refine wM 25 0 [.int .i64 v.p,.int .i64 v.c,.int .i64 (v.p+1),.int .i64 v.s] z ?_;intro w7 j b Z;refine Hid.out ?_);have K:=K.res j b;obtain⟨M,L,J,I⟩:=j.c4;have O:=j.lt;clear b z;refine kD ?_
  repeat (first | go_values | go_skip | go_step | go_upon)
  refine bodyPost_ret (v:=.agg #[.int .i64 v.p,.int .i64 v.c,.int .i64 (v.p+1),.int .i64 v.s]) (by simp [results,Tryz.results104,go_sem,M,L,J,I]) rfl ?_;exact⟨⟨v.p,v.c,v.p+1,v.s⟩,R,rfl,v01a_of H F (any_2),K.D,K.gr⟩
 have J:(q == 2)=false:=by simp [e2]
 by_cases e3:q=3
 ·subst e3;go_wp2_with fail;refine(nextX K.D (2) (by decide)).mono ?_;rintro e S ⟨k,o,⟨rfl,V,l,-,G⟩,C,n,-⟩;have l:=l (by decide);have K:=K.next C n;have f:=f.grown n (λ k P=>by simp at P;have:=K.lt;omega);clear C n;clear y x t r a i;obtain⟨y,x,t,r⟩:=f.c4;have a:=f.lt;have i:=f.frozen;go_upto_region 11 with fail;refine wp_gen (λ E=>Ru w0 w B g A cp xs o 25 [.int .i64 0,.int .i64 0,.int .i64 0,.int .i64 0] E∧RowB E Q 25 [.int .i64 v.p,.int .i64 v.c,.int .i64 v.h,.int .i64 (7*k)]) ⟨K.put N (Base.grownBy_setCell _ _ _ _),f.set 3 _⟩ ?_;clear K f;rintro w6 ⟨K,d⟩;clear y x t r a i;obtain⟨y,x,t,r⟩:=d.c4;have a:=d.lt;have z:=K.rr;go_wp2_with (refine wM 25 0 [.int .i64 v.p,.int .i64 v.c,.int .i64 v.h,.int .i64 (7*k)] z ?_;intro w7 j b Z;refine Hid.out ?_);have K:=K.res j b;obtain⟨M,L,J,I⟩:=j.c4;have O:=j.lt;clear b z;refine kD ?_
  repeat (first | go_values | go_skip | go_step | go_upon)
  refine bodyPost_ret (v:=.agg #[.int .i64 v.p,.int .i64 v.c,.int .i64 v.h,.int .i64 (7*k)]) (by simp [results,Tryz.results104,go_sem,M,L,J,I]) rfl ?_;exact⟨⟨v.p,v.c,v.h,7*k⟩,o,rfl,v01a_of H F (any_3 G),K.D,K.gr⟩
 have I:(q == 3)=false:=by simp [e3]
 have d:=f;clear y x t r a i;obtain⟨y,x,t,r⟩:=d.c4;have a:=d.lt;have z:=K.rr;go_wp2_with (refine wM 25 0 [.int .i64 v.p,.int .i64 v.c,.int .i64 v.h,.int .i64 v.s] z ?_;intro w7 j b Z;refine Hid.out ?_);have K:=K.res j b;obtain⟨M,L,J,I⟩:=j.c4;have O:=j.lt;clear b z;refine kD ?_
 repeat (first | go_values | go_skip | go_step | go_upon)
 refine bodyPost_ret (v:=.agg #[.int .i64 v.p,.int .i64 v.c,.int .i64 v.h,.int .i64 v.s]) (by simp [results,Tryz.results104,go_sem,M,L,J,I]) rfl ?_;exact⟨⟨v.p,v.c,v.h,v.s⟩,R,rfl,v01a_of H F (any_4 e0 e1 e2 e3),K.D,K.gr⟩
end
end DwA
namespace PlP
theorem at_set (l:List Int) (i j:Nat) (x:Int) (h:i<l.length):at_ (l.set i x) j=if j=i then x else at_ l j:=by
 unfold at_;rw [List.getD_eq_getElem?_getD,List.getElem?_set];by_cases e:i=j
 ·subst e;simp [h]
 ·rw [if_neg e,if_neg (λ h=>e h.symm),List.getD_eq_getElem?_getD]
theorem at_rep (n j:Nat):at_ (List.replicate n (0:Int)) j=0:=by
 unfold at_;rw [List.getD_eq_getElem?_getD,List.getElem?_replicate];split <;> rfl
theorem sum_rep (n:Nat):(List.replicate n (0:Int)).sum=0:=by simp
theorem start_ok {v:Vr} (hv:okV v=true) (h4:4<=v.p):Ok v (startB v)∧(startL v).sum=v.c:=by
 have g:=okV_iff.1 hv;unfold startB startL;by_cases hf:v.p=24∧v.c=15∧v.h=6∧v.s=6
 ·obtain⟨p,c,h,s⟩:=v;simp only at hf;obtain⟨rfl,rfl,rfl,rfl⟩:=hf;refine⟨okB_iff.1 (by decide),by decide⟩
 ·simp only [if_neg hf];obtain⟨n,l⟩:∃ n:Nat,(v.p+1).toNat=n:=⟨_,rfl⟩;obtain⟨i,o⟩:∃ i:Nat,(v.p - 1).toNat=i:=⟨_,rfl⟩;obtain⟨j,m⟩:∃ i:Nat,(v.p / 2 - 1).toNat=i:=⟨_,rfl⟩;rw [l,o,m];have b:i<(List.replicate n (0:Int)).length:=by rw [List.length_replicate];omega
  have f:j<((List.replicate n (0:Int)).set i (v.c / 2)).length:=by rw [List.length_set,List.length_replicate];omega
  have d:∀ k,at_ (((List.replicate n (0:Int)).set i (v.c / 2)).set j (v.c - v.c / 2)) k=if k=j then v.c - v.c / 2 else if k=i then v.c / 2 else 0:=by
   intro k;rw [at_set _ _ _ _ f,at_set _ _ _ _ b,at_rep]
  have a:(((List.replicate n (0:Int)).set i (v.c / 2)).set j (v.c - v.c / 2)).sum=v.c:=by
   rw [sum_set _ _ _ f,sum_set _ _ _ b,at_set _ _ _ _ b,at_rep,at_rep,sum_rep,if_neg (by omega)];omega
  have e:Sd v (((List.replicate n (0:Int)).set i (v.c / 2)).set j (v.c - v.c / 2)):=by
   refine⟨by rw [List.length_set,List.length_set,List.length_replicate];omega,λ k=>?_,by rw [a];exact Int.le_refl _⟩;rw [d];split
   ·omega
   ·split <;> omega
  refine⟨⟨g,e,e,by rw [a];omega,λ k q=>?_⟩,a⟩;show ¬ (0<at_ _ k∧0<at_ _ (v.p.toNat - 1 - k))
  rw [d,d];by_cases k1:k=j
  ·rw [if_pos k1];by_cases k2:v.p.toNat - 1 - k=j
   ·omega
   ·rw [if_neg k2];by_cases k3:v.p.toNat - 1 - k=i
    ·omega
    ·rw [if_neg k3];omega
  ·rw [if_neg k1];by_cases k4:k=i
   ·rw [if_pos k4];by_cases k2:v.p.toNat - 1 - k=j
    ·omega
    ·rw [if_neg k2];by_cases k3:v.p.toNat - 1 - k=i
     ·omega
     ·rw [if_neg k3];omega
   ·rw [if_neg k4];omega
end PlP
namespace Gm
open Go Go.RowKit Base Ints RelG PlP
def BdR (w:World) (S:Nat->Prop) (u1 u2:Value) (b:Bd):Prop:=SlV 1 enI w S u1 b.1∧SlV 1 enI w S u2 b.2
section
variable {w w':World} {S S':Nat->Prop} {u1 u2:Value} {b:Bd}
theorem BdR.keep (h:BdR w S u1 u2 b) (hs:Still S w w'):BdR w' S u1 u2 b:=⟨(relV 1 enI).keep h.1 hs,(relV 1 enI).keep h.2 hs⟩
theorem BdR.weak (h:BdR w S u1 u2 b) (hs:∀ b,S b->b<w.heap.size->S' b):BdR w S' u1 u2 b:=⟨(relV 1 enI).weak h.1 hs,(relV 1 enI).weak h.2 hs⟩
theorem BdR.below (h:BdR w S u1 u2 b) (hb:Below w.heap.size w w'):BdR w' S u1 u2 b:=h.keep (.below hb)
theorem BdR.nil (w:World) (S:Nat->Prop):BdR w S (.slice none 0 0) (.slice none 0 0) ([],[]) :=
 ⟨⟨none,0,rfl,RdF.nil _ _ _ _ _,λ _=>rfl⟩,⟨none,0,rfl,RdF.nil _ _ _ _ _,λ _=>rfl⟩⟩
end
def RelBB:Rel Value (Option Bd) where
 R:=λ w S v x=>∃ u1 u2 b,v=.tuple #[.agg #[u1,u2],.bool x.isSome]∧BdR w S u1 u2 b∧∀ b0,x=some b0->b=b0
 keep:=λ⟨u1,u2,b,e,h,k⟩ hs=>⟨u1,u2,b,e,h.keep hs,k⟩
 weak:=λ⟨u1,u2,b,e,h,k⟩ hs=>⟨u1,u2,b,e,h.weak hs,k⟩
def Ret {α:Type} (K:Rel Value α) (x:α) (S:Nat->Prop) (w:World) (e:Ending) (w':World):Prop :=
 ∃ v,e=.returned v∧K.R w' (λ b=>S b∨w.heap.size<=b) v x∧Below w.heap.size w w'
end Gm

namespace Clone
open Go.ChangeShapes Go.WideShapes Go.ChangeAt Go.RowKit Base Ints Own
theorem news_rd {w:World} {B:Nat} {ad:Addr} {xs:List Int} (h:RdS w B 1 enI (some ad) xs):∀ j u,(xs.flatMap enI)[j]?=some u->w.cell? (ad.add j)=some u:=by
 intro j u e;have f:j<(xs.flatMap enI).length:=(List.getElem?_eq_some_iff.1 e).1;rw [flatMap_len enI_len,Nat.mul_one] at f;obtain⟨b,a,g,_,l⟩:=h.2 (by omega);simp only [Option.some.injEq] at g;subst g;have d:xs[j]?=some xs[j]:=List.getElem?_eq_getElem f;have k:=flatMap_at enI_len xs j _ d 0 _ rfl;rw [Nat.mul_one,Nat.add_zero,e] at k;have i:=l j _ d 0 _ rfl;rw [<-k,Nat.mul_one,Nat.add_zero] at i;have c:(⟨b,a,none⟩:Addr).add j=⟨b,a+j,none⟩:=by unfold Addr.add;split <;> simp_all
 rw [c];exact i
theorem rd_none {w:World} {B:Nat} {xs:List Int} (h:RdS w B 1 enI none xs):xs=[]:=by
 cases xs with
 | nil=>rfl
 | cons x xs=>obtain⟨b,a,c,_⟩:=h.2 (by simp);cases c
theorem one_Is (xs:List Int):∀ u ∈ xs.flatMap enI,u.oneCell'=true:=by
 intro u b;obtain⟨y,_,a⟩:=List.mem_flatMap.1 b;exact one_I y u a
theorem clone (A:Option Addr) (cp B:Nat) (xs:List Int) (w:World) (hB:B<=w.heap.size) (hr:RdS w B 1 enI A xs) (hA:A=none->cp=0) (hn:xs.length<=1048577) :
  Calls Tryz.prog 37 #[.slice A xs.length cp] w λ e w'=>(∃ v,e=.returned v∧OwnS w' w.heap.size w'.heap.size 2 1 enI v xs)∧Below w.heap.size w w':=by
 obtain⟨l,f,d,c,b⟩:=info_parts Ints.info
 cases A with
 | none =>
  obtain rfl:=rd_none hr;obtain rfl:=hA rfl;have k:∀ w:World,(binOp .eql 26 (.slice none 0 0) (.slice none 0 0)).run Tryz.prog w=.ok (.bool true) w:=λ w=>Lib.run_eql_slice_nil w _ _ _ _ _ _ _ Tryz.underlying26
  go_enter Tryz.func37,Tryz.ntmps37;go_wp2;go_ret;exact⟨⟨_,rfl,OwnS.nil_ _ _ _ _ _ _⟩,Below.refl _ _⟩
 | some ad =>
  have k:∀ w:World,(binOp .eql 26 (.slice (some ad) xs.length cp) (.slice none 0 0)).run Tryz.prog w=.ok (.bool false) w:=λ w=>Lib.run_eql_slice_nil w _ _ _ _ _ _ _ Tryz.underlying26
  go_enter Tryz.func37,Tryz.ntmps37;go_wp2_with (at_builtin;refine wpList_append_own _ rfl _ _ _ rfl w.heap.size 2 l (.int .i64 0) 1 8 Tryz.underlying26 f d c b rfl (by decide) _ 0 [] rfl ((RowB.new w 2 []).own (xs:=([]:List Int)) (en:=enI) enI_len (Nat.le_refl _) (by simp) (by decide):OwnS _ w.heap.size (w.alloc (.cells #[] 2)).heap.size 2 1 enI _ []).1 ad xs.length cp (xs.flatMap enI) rfl (by rw [flatMap_len enI_len]) (news_rd (hr.below (by go_grown) hB)) (one_Is xs) ?c1 ?c2 ?c3 ?_)
  case c1=>unfold maxLen;omega
  case c2=>omega
  case c3=>go_size
  intro j w' a h _;have a:w'.ownsRow w.heap.size 2 1 j xs.length (xs.flatMap enI):=by simpa using a
  go_wp2;go_ret;refine⟨⟨_,rfl,a,λ g i=>(a.lt g i).2⟩,?_⟩;exact((Below.refl w.heap.size w).alloc (Nat.le_refl _) _).grown h (by go_size) (λ g i=>by simp [Value.ownBlock] at i;omega)
theorem own02 (A:Option Addr) (cp B:Nat) (xs:List Int) (w:World) (hB:B<=w.heap.size) (hr:RdS w B 1 enI A xs) (hA:A=none->cp=0) (hn:xs.length<=1048577) :
  Calls Tryz.prog 101 #[.slice A xs.length cp] w λ e w'=>(∃ v,e=.returned v∧OwnS w' w.heap.size w'.heap.size 2 1 enI v xs)∧Below w.heap.size w w':=by
 obtain⟨j,b,f,d,c⟩:=info_parts Ints.info
 cases A with
 | none =>
  obtain rfl:=rd_none hr;obtain rfl:=hA rfl;go_enter Tryz.func101,Tryz.ntmps101;go_wp2_with (at_builtin;refine wpList_append_own_none rfl _ _ _ rfl w.heap.size 2 j 1 Tryz.underlying26 b _ 0 [] rfl ((RowB.new w 2 []).own (xs:=([]:List Int)) (en:=enI) enI_len (Nat.le_refl _) (by simp) (by decide):OwnS _ w.heap.size (w.alloc (.cells #[] 2)).heap.size 2 1 enI _ []).1 rfl ?_);go_wp2;go_ret;exact⟨⟨_,rfl,(RowB.new w 2 []).own (xs:=[]) enI_len (Nat.le_refl _) (by simp) (by decide)⟩,by go_grown⟩
 | some ad =>
  go_enter Tryz.func101,Tryz.ntmps101;go_wp2_with (at_builtin;refine wpList_append_own _ rfl _ _ _ rfl w.heap.size 2 j (.int .i64 0) 1 8 Tryz.underlying26 b f d c rfl (by decide) _ 0 [] rfl ((RowB.new w 2 []).own (xs:=([]:List Int)) (en:=enI) enI_len (Nat.le_refl _) (by simp) (by decide):OwnS _ w.heap.size (w.alloc (.cells #[] 2)).heap.size 2 1 enI _ []).1 ad xs.length cp (xs.flatMap enI) rfl (by rw [flatMap_len enI_len]) (news_rd (hr.below (by go_grown) hB)) (one_Is xs) ?c1 ?c2 ?c3 ?_)
  case c1=>unfold maxLen;omega
  case c2=>omega
  case c3=>go_size
  intro k w' a h _;have a:w'.ownsRow w.heap.size 2 1 k xs.length (xs.flatMap enI):=by simpa using a
  go_wp2;go_ret;refine⟨⟨_,rfl,a,λ g i=>(a.lt g i).2⟩,?_⟩;exact((Below.refl w.heap.size w).alloc (Nat.le_refl _) _).grown h (by go_size) (λ g i=>by simp [Value.ownBlock] at i;omega)
end Clone
end Go.Proofs.YtmncnhbjifeoeaaGreat
