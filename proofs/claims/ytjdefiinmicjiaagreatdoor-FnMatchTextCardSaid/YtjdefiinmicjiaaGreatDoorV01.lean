/- Parts of the proof of FnMatchText. Conditions: each theorem's own. -/
import Derived.Below
import Derived.Laws.OwnMore
import Derived.Deep.AppendLies
import Derived.Deep.Draws
import Derived.Deep.Slices
import Derived.ChangeSlices
import Derived.ChangeArms
import Derived.Lib.SmallJoins
import Derived.Deep.Fields
import Derived.ChangeSame
import Derived.OpenShut
import Derived.Laws.MakeOwn
import Derived.Laws.NewBlocks
import Derived.Test.YtjdefiinmicjiaaGreatDoorRows
import Derived.WalkKit
import Derived.ProofKit
import Derived.Outline
import Derived.WalkLawsBesides
import Derived.Handy
import Derived.Deep.QuietTactic
import Derived.BigQuiet
import Derived.Deep.RegionHeld3
import Derived.Lib.Hide
import Derived.Deep.DeepCutAuto
import Derived.StillTailTactics
import Derived.Laws.AppendOwnNone
set_option linter.unusedVariables false
set_option linter.unusedSimpArgs false
set_option maxHeartbeats 8000000
set_option maxRecDepth 100000
namespace Go.Proofs.YtjdefiinmicjiaaGreatDoor
abbrev iL (x:Int):Go.Value:=.int .i64 x
abbrev pT (g o:Nat):Go.Value:=.pointer (some ⟨g,o,none⟩)
abbrev sA (g o:Nat):Option Go.Addr:=some ⟨g,o,none⟩
abbrev zB (w w':Go.World):Prop:=Go.RowKit.Below w.heap.size w w'
theorem iW (x:Int) (h:-9223372036854775808<=x∧x<=9223372036854775807:=by omega):Go.IntKind.i64.wrap x=x:=Go.IntWalk.i64_in _ h
theorem eX {α:Sort _} (a:α):∃ q,a=q:=⟨a,rfl⟩
theorem _root_.Go.RowKit.Below.tR {a b c:Go.World} (h:zB a b) (k:zB b c):zB a c:=h.trans (k.mono h.size)
open _root_.Go.Proofs.Tryz
theorem kD {p:Prop} (h:p):Go.RowKit.Hid p:=h
theorem sX.{u} {α:Type u}:(∀ (l:List α) (i:Nat) (a:α),l.toArray.setIfInBounds i a=(l.set i a).toArray)∧(∀ (a b:α) (l:List α),(a :: l).set 0 b=b :: l)∧(∀ (a b:α) (l:List α) (n:Nat),(a :: l).set (n+1) b=a :: l.set n b):=⟨λ l i a=>by simp,λ a b l=>rfl,λ a b l n=>rfl⟩
theorem rL {a b:Prop} (h:a∨b) (d:¬a:=by decide):b:=h.resolve_left d
namespace Base
open Go Go.RowKit Go.ChangeShapes Go.WideShapes Go.Deep
def enI (x:Int):List Value:=[iL x]
def enB (x:Int):List Value:=[.int .u8 x]
def RdS {α:Type} (w:World) (B sz:Nat) (en:α->List Value) (A:Option Addr) (xs:List α):Prop :=
 xs.length<=maxLen∧(0<xs.length->∃ b off,A=some ⟨b,off,none⟩∧b<B∧∀ i x,xs[i]?=some x->∀ j u,(en x)[j]?=some u->w.cell? ⟨b,off+i*sz+j,none⟩=some u)
section
variable {α:Type} {w w':World} {B B' sz:Nat} {en:α->List Value} {A:Option Addr} {xs:List α}
theorem RdS.len (h:RdS w B sz en A xs):xs.length<=9223372036854775807:=by have:=h.1;unfold maxLen at this;omega
theorem RdS.at_ (h:RdS w B sz en A xs) {i:Nat} (hi:i<xs.length) :
  ∃ b off x,A=some ⟨b,off,none⟩∧b<B∧xs[i]?=some x∧∀ j u,(en x)[j]?=some u->w.cell? ⟨b,off+i*sz+j,none⟩=some u:=by
 obtain⟨b,off,rfl,c,a⟩:=h.2 (by omega);exact⟨b,off,xs[i],rfl,c,List.getElem?_eq_getElem hi,a i _ (List.getElem?_eq_getElem hi)⟩
theorem RdS.keep (h:RdS w B sz en A xs) (hk:∀ p:Addr,p.block<B->w'.cell? p=w.cell? p):RdS w' B sz en A xs :=
 ⟨h.1,λ hn=>by
  obtain⟨b,off,e,hb,hc⟩:=h.2 hn;exact⟨b,off,e,hb,λ i x hx j u hu=>(hk _ hb).trans (hc i x hx j u hu)⟩⟩
theorem RdS.more (h:RdS w B sz en A xs) (hB:B<=B'):RdS w B' sz en A xs :=
 ⟨h.1,λ hn=>by
  obtain⟨b,off,e,hb,hc⟩:=h.2 hn;exact⟨b,off,e,by omega,hc⟩⟩
theorem RdS.below (h:RdS w B sz en A xs) (hb:Below B' w w') (hB:B<=B'):RdS w' B sz en A xs:=h.keep λ _ hp=>hb.cell (by omega)
theorem rdI_at {xs:List Int} {k:IntKind} (h:RdS w B 1 (λ x:Int=>[Value.int k x]) A xs) {i:Nat} (hi:i<xs.length) :
  ∃ b off x,A=some ⟨b,off,none⟩∧b<B∧xs[i]?=some x∧w.cell? ⟨b,off+i,none⟩=some (.int k x):=by
 obtain⟨b,off,x,e,d,a,c⟩:=h.at_ hi;exact⟨b,off,x,e,d,a,by simpa using c 0 _ rfl⟩
end
def OwnS {α:Type} (w:World) (lo hi:Nat) (e:TypeId) (sz:Nat) (en:α->List Value) (v:Value) (xs:List α):Prop :=
 w.ownsRow lo e sz v xs.length (xs.flatMap en)∧∀ g,v.ownBlock=some g->g<hi
theorem flatMap_len {α:Type} {en:α->List Value} {sz:Nat} (hen:∀ x,(en x).length=sz) (xs:List α):(xs.flatMap en).length=xs.length*sz:=by
 induction xs with
 | nil=>simp
 | cons x xs ih=>simp [ih,hen,Nat.add_mul];omega
theorem flatMap_at {α:Type} {en:α->List Value} {sz:Nat} (hen:∀ x,(en x).length=sz):∀(xs:List α) (i:Nat) (x:α),xs[i]?=some x->∀ j u,(en x)[j]?=some u->(xs.flatMap en)[i*sz+j]?=some u:=by
 intro xs
 induction xs with
 | nil=>intro i x h;simp at h
 | cons y ys ih =>
  intro i x h j u a;have b:j<(en x).length:=(List.getElem?_eq_some_iff.1 a).1;rw [hen] at b;rw [List.flatMap_cons]
  cases i with
  | zero =>
   simp at h;subst h;rw [List.getElem?_append_left (by rw [hen];omega)]
   simpa using a
  | succ i =>
   simp at h;rw [List.getElem?_append_right (by rw [hen,Nat.succ_mul];omega),hen];have:=ih i x h j u a;rw [<-this]
   congr 1
   rw [Nat.succ_mul];omega
section
variable {α:Type} {w w':World} {lo hi sz:Nat} {e:TypeId} {en:α->List Value} {v:Value} {xs:List α}
theorem OwnS.below {B:Nat} (h:OwnS w lo hi e sz en v xs) (hb:Below B w w') (hB:hi<=B):OwnS w' lo hi e sz en v xs:=by
 refine⟨⟨h.1.1,?_⟩,h.2⟩;rcases h.1.2 with hn | ⟨g,cap,cur,rfl,hbg,hgg,rest⟩
 ·exact .inl hn
 ·have a:g<hi:=h.2 g rfl;refine .inr ⟨g,cap,cur,rfl,hbg,?_,rest⟩;rw [hb.block g (by omega)];exact hgg
theorem OwnS.form (hen:∀ x,(en x).length=sz) (h:OwnS w lo hi e sz en v xs):∃ A c,v=.slice A xs.length c∧RdS w hi sz en A xs:=by
 rcases h.1.2 with ⟨rfl,hn⟩ | ⟨g,cap,cur,rfl,hbg,hgg,hnc,hcm,hcs,ht⟩
 ·exact⟨none,0,by rw [hn],by rw [hn];exact Nat.zero_le _,λ f=>by omega⟩
 ·refine⟨some ⟨g,0,none⟩,cap,rfl,Nat.le_trans hnc hcm,λ _=>⟨g,0,rfl,h.2 g rfl,λ i x b j u d=>?_⟩⟩;have a:=flatMap_at hen xs i x b j u d;rw [<-ht] at a;rw [Nat.zero_add,cell_of_row w g (i*sz+j) cur e (0,0) hgg];rw [List.getElem?_take] at a;split at a
  ·simpa using a
  ·cases a
end
theorem rdI_open {H:Type} {enc:TypeId × Value->H} {P:Program} {w:World} {t e:TypeId} {k:IntKind} {fuel:Nat} {v:Value} {y:DataW H × List MemPlace}
  (ht:P.underlying t=some (.slice e)) (he:P.underlying e=some (.int k)) (hc:P.cellsOf e=1)
  (h:DataW.trod enc P w 0 (λ _=>true) true fuel t [v]=some y) :
  ∃ A c xs,v=.slice A xs.length c∧RdS w w.heap.size 1 (λ x:Int=>[Value.int k x]) A xs∧∀ x ∈ xs,(Lit.int k x).wf=true:=by
 rcases open_ints ht he hc h with ⟨hcs,_⟩ | ⟨a,len,cap,zs,hcs,_,hl,hm,hz,_,hcell,hwz⟩
 ·simp at hcs;subst hcs;exact⟨none,0,[],rfl,⟨Nat.zero_le _,λ s=>absurd s (by simp)⟩,by simp⟩
 ·simp at hcs;subst hcs;simp at hz;have d:(zs.take len).length=len:=by rw [List.length_take];omega
  refine⟨some a,cap,zs.take len,by rw [d],⟨by rw [d];omega,λ s=>?_⟩,λ x m=>hwz x (List.mem_of_mem_take m)⟩;obtain⟨b,f,l⟩:=a;have o:=hcell 0 (by omega);have g:l=none:=by simpa [Addr.add] using World.cell?_spot o
  subst g;have B:b<w.heap.size:=World.block_lt_of_cell? w _ (by simpa [Addr.add] using o);refine⟨b,f,rfl,B,λ i x m j u q=>?_⟩;have r:i<len:=by
   have:=(List.getElem?_eq_some_iff.1 m).1;rw [d] at this;exact this
  have z:j=0:=by
   have:=(List.getElem?_eq_some_iff.1 q).1;simp at this;exact this
  subst z;simp at q;subst q;have n:=hcell i (by omega);rw [List.getElem?_take,if_pos r] at m;have p:(⟨b,f,none⟩:Addr).add i=⟨b,f+i,none⟩:=by unfold Addr.add;split <;> simp_all
  rw [p,List.getD_eq_getElem?_getD,m] at n
  simpa using n
theorem list2 {α:Type} {l:List α} (h:l.length=2):∃ a b,l=[a,b]:=by
 match l,h with | [a,b],_=>exact⟨a,b,rfl⟩
theorem enI_len (x:Int):(enI x).length=1:=rfl
theorem enB_len (x:Int):(enB x).length=1:=rfl
def RowB (w:World) (g:Nat) (e:TypeId) (cs:List Value):Prop:=w.heap[g]?=some (.cells ⟨cs⟩ e (0,0))
section
variable {w w':World} {g:Nat} {e:TypeId} {cs:List Value}
theorem RowB.lt (h:RowB w g e cs):g<w.heap.size:=(Array.getElem?_eq_some_iff.1 h).1
theorem RowB.cell (h:RowB w g e cs) (j:Nat):w.cell? ⟨g,j,none⟩=cs[j]?:=by
 rw [cell_of_row w g j ⟨cs⟩ e (0,0) h];simp
theorem RowB.frozen (h:RowB w g e cs) (j:Nat):w.frozen? ⟨g,j,none⟩=false:=by
 unfold RowB at h;simp [World.frozen?,h]
theorem RowB.set (h:RowB w g e cs) (j:Nat) (u:Value):RowB (w.setCell ⟨g,j,none⟩ u) g e (cs.set j u):=by
 unfold RowB at h ⊢;simp [World.setCell,Array.getElem?_modify,h]
theorem RowB.below {B:Nat} (h:RowB w g e cs) (hb:Below B w w') (hg:g<B):RowB w' g e cs:=(hb.block g hg).trans h
theorem RowB.drew (h:RowB w g e cs):RowB w.drew g e cs:=h
theorem RowB.alloc (h:RowB w g e cs) (o:Obj):RowB (w.alloc o) g e cs:=(Below.heap_alloc w o g h.lt).trans h
theorem RowB.other (h:RowB w g e cs) {p:Addr} (hp:g≠p.block) (u:Value):RowB (w.setCell p u) g e cs:=(Below.heap_setCell w p u g hp).trans h
theorem RowB.of_own {lo sz n:Nat} {xs:List Value} (h:w.ownsRow lo e sz (.slice (some ⟨g,0,none⟩) n n) n xs):RowB w g e xs:=by
 rcases h.2 with ⟨h',_⟩ | ⟨g',cap',cur,h',_,hg,_,_,hcs,ht⟩
 ·simp at h'
 ·simp only [Value.slice.injEq,Option.some.injEq,Addr.mk.injEq,and_true,true_and] at h';obtain⟨rfl,rfl⟩:=h';have:cur.toList=xs:=by rw [<-ht,List.take_of_length_le (by simp;omega)]
  unfold RowB;rw [hg,<-this]
theorem RowB.own {α:Type} {en:α->List Value} {sz lo hi:Nat} {xs:List α} (h:RowB w g e (xs.flatMap en)) (hen:∀ x,(en x).length=sz) (hlo:lo<=g) (hhi:g<hi) (hm:xs.length<=maxLen) :
  OwnS w lo hi e sz en (.slice (some ⟨g,0,none⟩) xs.length xs.length) xs:=by
 refine⟨⟨flatMap_len hen xs,.inr ⟨g,xs.length,⟨xs.flatMap en⟩,rfl,hlo,h,Nat.le_refl _,hm,?_,?_⟩⟩,λ b a=>?_⟩
 ·simpa using flatMap_len hen xs
 ·rw [List.take_of_length_le];rw [flatMap_len hen xs];exact Nat.le_refl _
 ·simp [Value.ownBlock] at a;omega
end
theorem made_rep (z:Value) (n:Nat):(madeCells #[z] n).toList=List.replicate n z:=toList_madeCells_one z n
theorem take_succ {α:Type} (xs:List α) (k:Nat) (x:α) (h:xs[k]?=some x):xs.take (k+1)=xs.take k++[x]:=by
 rw [List.take_add_one,h];rfl
theorem fill1 {α:Type} {en:α->List Value} {z:Value} {xs:List α} {k m:Nat} {x:α} {u0:Value} (hk:xs[k]?=some x) (hx:en x=[u0]) (hen:∀ x,(en x).length=1) :
  ((xs.take k).flatMap en++List.replicate (m+1) z).set k u0=(xs.take (k+1)).flatMap en++List.replicate m z:=by
 have b:k<xs.length:=(List.getElem?_eq_some_iff.1 hk).1;have a:((xs.take k).flatMap en).length=k:=by rw [flatMap_len hen,List.length_take];omega
 rw [take_succ xs k x hk,List.flatMap_append,List.set_append_right _ _ (by omega),a];simp [hx,List.replicate_succ]
section
variable {α:Type} {w w':World} {lo hi sz:Nat} {e:TypeId} {en:α->List Value} {v:Value} {xs:List α}
theorem OwnS.cases_ (h:OwnS w lo hi e sz en v xs) :
  (v=.slice none 0 0∧xs=[]) ∨
  ∃ g cap rest,v=.slice (some ⟨g,0,none⟩) xs.length cap∧lo<=g∧g<hi∧RowB w g e (xs.flatMap en++rest)∧xs.length<=cap∧cap<=maxLen∧xs.length*sz+rest.length=cap*sz:=by
 rcases h.1.2 with ⟨rfl,hn⟩ | ⟨g,cap,cur,rfl,hbg,hgg,hnc,hcm,hcs,ht⟩
 ·exact .inl ⟨rfl,List.eq_nil_of_length_eq_zero hn⟩
 ·refine .inr ⟨g,cap,cur.toList.drop (xs.length*sz),rfl,hbg,h.2 g rfl,?_,hnc,hcm,?_⟩
  ·unfold RowB;rw [<-ht,List.take_append_drop];exact hgg
  ·have a:xs.length*sz<=cap*sz:=Nat.mul_le_mul_right _ hnc;simp [hcs];omega
theorem OwnS.mk_ {g cap:Nat} {rest:List Value} (hen:∀ x,(en x).length=sz) (h:RowB w g e (xs.flatMap en++rest)) (hlo:lo<=g) (hhi:g<hi) (hnc:xs.length<=cap) (hcm:cap<=maxLen) (hl:xs.length*sz+rest.length=cap*sz) :
  OwnS w lo hi e sz en (.slice (some ⟨g,0,none⟩) xs.length cap) xs:=by
 refine⟨⟨flatMap_len hen xs,.inr ⟨g,cap,⟨xs.flatMap en++rest⟩,rfl,hlo,h,hnc,hcm,?_,?_⟩⟩,λ b a=>?_⟩
 ·simp only [List.size_toArray,List.length_append,flatMap_len hen];exact hl
 ·rw [<-flatMap_len hen xs];simp
 ·simp [Value.ownBlock] at a;omega
theorem OwnS.nil_ (w:World) (lo hi:Nat) (e:TypeId) (sz:Nat) (en:α->List Value):OwnS w lo hi e sz en (.slice none 0 0) [] :=
 ⟨World.ownsRow_nil w lo e sz,λ g hg=>by simp [Value.ownBlock] at hg⟩
theorem OwnS.grown {row:Option Nat} (h:OwnS w lo hi e sz en v xs) (hg:w.grownBy w' row) (hr:∀ g,row=some g->g<lo∨hi<=g):OwnS w' lo hi e sz en v xs:=by
 refine⟨h.1.kept hg ?_,h.2⟩
 cases hv:v.ownBlock with
 | none=>exact .inl rfl
 | some g =>
  refine .inr (λ e=>?_);have b:=h.2 g hv;have a:=(h.1.lt g hv).1;rcases hr g e.symm with h3 | h3 <;> omega
theorem OwnS.more {hi':Nat} (h:OwnS w lo hi e sz en v xs) (hh:hi<=hi'):OwnS w lo hi' e sz en v xs:=⟨h.1,λ g hg=>by have:=h.2 g hg;omega⟩
theorem OwnS.less {lo':Nat} (h:OwnS w lo hi e sz en v xs) (hh:lo'<=lo):OwnS w lo' hi e sz en v xs:=by
 refine⟨⟨h.1.1,?_⟩,h.2⟩;rcases h.1.2 with hn | ⟨g,cap,cur,rfl,hbg,rest⟩
 ·exact .inl hn
 ·exact .inr ⟨g,cap,cur,rfl,by omega,rest⟩
theorem OwnS.block (h:OwnS w lo hi e sz en v xs):∀ g,v.ownBlock=some g->lo<=g∧g<hi:=λ g hg=>⟨(h.1.lt g hg).1,h.2 g hg⟩
end
theorem grownBy_setCell (w:World) (g j:Nat) (u:Value):w.grownBy (w.setCell ⟨g,j,none⟩ u) (some g) :=
 ⟨rfl,rfl,rfl,by simp [World.setCell],λ k _ hk=>Below.heap_setCell _ _ _ _ (λ e=>hk (by simp [e]))⟩
theorem grownBy_trans {a b c:World} {row:Option Nat} (h:a.grownBy b row) (k:b.grownBy c row):a.grownBy c row :=
 ⟨k.os.trans h.os,k.tape.trans h.tape,k.output.trans h.output,Nat.le_trans h.size k.size,λ i hi hr=>(k.block i (Nat.lt_of_lt_of_le hi h.size) hr).trans (h.block i hi hr)⟩
theorem grownBy_refl (w:World) (row:Option Nat):w.grownBy w row:=⟨rfl,rfl,rfl,Nat.le_refl _,λ _ _ _=>rfl⟩
theorem bcell {B:Nat} {W W1:World} (hb:Below B W W1):(∀ b o,b<B->W1.cell? ⟨b,o,none⟩=W.cell? ⟨b,o,none⟩)∧(∀ b o,b<B->W1.frozen? ⟨b,o,none⟩=W.frozen? ⟨b,o,none⟩) :=
 ⟨λ b o h=>hb.cell (p:=⟨b,o,none⟩) h,λ b o h=>hb.frozen (p:=⟨b,o,none⟩) h⟩
theorem OwnS.setCell {α:Type} {w:World} {lo hi sz:Nat} {e:TypeId} {en:α->List Value} {v:Value} {xs:List α} (h:OwnS w lo hi e sz en v xs) {p:Addr} (hp:p.block<lo) (u:Value):OwnS (w.setCell p u) lo hi e sz en v xs :=
 ⟨ownsRow_setCell_below h.1 hp u,h.2⟩
theorem OwnS.alloc {α:Type} {w:World} {lo hi sz:Nat} {e:TypeId} {en:α->List Value} {v:Value} {xs:List α} (h:OwnS w lo hi e sz en v xs) (o:Obj):OwnS (w.alloc o) lo hi e sz en v xs :=
 ⟨h.1.alloc o,h.2⟩
theorem Below.then_ {B B':Nat} {a b c:World} (h:Below B a b) (k:Below B' b c) (hB:B<=B'):Below B a c:=h.trans (k.mono hB)
theorem RowB.new (w:World) (e:TypeId) (cs:List Value):RowB (w.alloc (.cells ⟨cs⟩ e)) w.heap.size e cs:=heap_alloc_new w _
theorem RowB.drewN {w:World} {g:Nat} {e:TypeId} {cs:List Value} (h:RowB w g e cs) (n:Nat):RowB (w.drewN n) g e cs:=h
section
variable {w:World} {g:Nat} {t:TypeId} {a b c d e f:Value}
theorem RowB.c2 (h:RowB w g t [a,b]):w.cell? ⟨g,0,none⟩=some a∧w.cell? ⟨g,1,none⟩=some b:=⟨h.cell 0,h.cell 1⟩
theorem RowB.c3 (h:RowB w g t [a,b,c]):w.cell? ⟨g,0,none⟩=some a∧w.cell? ⟨g,1,none⟩=some b∧w.cell? ⟨g,2,none⟩=some c:=⟨h.cell 0,h.cell 1,h.cell 2⟩
theorem RowB.c4 (h:RowB w g t [a,b,c,d]):w.cell? ⟨g,0,none⟩=some a∧w.cell? ⟨g,1,none⟩=some b∧w.cell? ⟨g,2,none⟩=some c∧w.cell? ⟨g,3,none⟩=some d:=⟨h.cell 0,h.cell 1,h.cell 2,h.cell 3⟩
theorem RowB.c5 (h:RowB w g t [a,b,c,d,e]):w.cell? ⟨g,0,none⟩=some a∧w.cell? ⟨g,1,none⟩=some b∧w.cell? ⟨g,2,none⟩=some c∧w.cell? ⟨g,3,none⟩=some d∧w.cell? ⟨g,4,none⟩=some e:=⟨h.cell 0,h.cell 1,h.cell 2,h.cell 3,h.cell 4⟩
theorem RowB.c6 (h:RowB w g t [a,b,c,d,e,f]):w.cell? ⟨g,0,none⟩=some a∧w.cell? ⟨g,1,none⟩=some b∧w.cell? ⟨g,2,none⟩=some c∧w.cell? ⟨g,3,none⟩=some d∧w.cell? ⟨g,4,none⟩=some e∧w.cell? ⟨g,5,none⟩=some f:=⟨h.cell 0,h.cell 1,h.cell 2,h.cell 3,h.cell 4,h.cell 5⟩
end
theorem wp_gen {P:Program} {c:Code} {Q:Exit->Act->World->Prop} {a:Act} {W:World} (R:World->Prop) (h:R W) (k:∀ W',R W'->c.wp P Q a W'):c.wp P Q a W:=k W h
theorem OwnS.rd {α:Type} {w:World} {lo hi sz n c:Nat} {e:TypeId} {en:α->List Value} {A:Option Addr} {xs:List α} (hen:∀ x,(en x).length=sz) (h:OwnS w lo hi e sz en (.slice A n c) xs):RdS w hi sz en A xs:=by
 obtain⟨f,d,a,b⟩:=h.form hen;simp only [Value.slice.injEq] at a;obtain⟨rfl,_,_⟩:=a;exact b
theorem RdS.drew {α:Type} {w:World} {B sz:Nat} {en:α->List Value} {A:Option Addr} {xs:List α} (h:RdS w B sz en A xs):RdS w.drew B sz en A xs:=h
theorem RdS.grown {α:Type} {w w':World} {B sz:Nat} {en:α->List Value} {A:Option Addr} {xs:List α} {row:Option Nat} (h:RdS w B sz en A xs) (hg:w.grownBy w' row) (hB:B<=w.heap.size) (hr:∀ g,row=some g->B<=g):RdS w' B sz en A xs :=
 h.keep λ p hp=>World.cell?_of_block (hg.block p.block (by omega) (λ e=>by have:=hr _ e.symm;omega))
theorem RowB.grown {w w':World} {g:Nat} {e:TypeId} {cs:List Value} {row:Option Nat} (h:RowB w g e cs) (hg:w.grownBy w' row) (hr:∀ k,row=some k->k≠g):RowB w' g e cs :=
 (hg.block g h.lt (λ e'=>hr _ e'.symm rfl)).trans h
theorem below_grown {w w1 w':World} {row:Option Nat} (h:Below w.heap.size w w1) (hg:w1.grownBy w' row):w.grownBy w' row :=
 ⟨hg.os.trans h.os,hg.tape.trans h.tape,hg.output.trans h.output,Nat.le_trans h.size hg.size,λ k hk hr=>(hg.block k (Nat.lt_of_lt_of_le hk h.size) hr).trans (h.block k hk)⟩
theorem bp_row2 {P:Program} {fn:Func} {R:Ending->World->Prop} {a:Act} {w W:World} {g B:Nat} {t:TypeId} (cs:List Value) (b:Value) (h:Below B w W) (r:RowB W g t cs) (hv:∀ W',(∀ j,W'.cell? ⟨g,j,none⟩=cs[j]?)->(results fn a.tmps).run P W'=.ok (.tuple #[.agg ⟨cs⟩,b]) W') (hd:a.defers=[]) (k:∀ W',Below B w W'->R (.returned (.tuple #[.agg ⟨cs⟩,b])) W'):bodyPost P fn R .ret a W:=bodyPost_ret (hv W r.cell) hd (k W h)
theorem bp_gen {P:Program} {fn:Func} {R:Ending->World->Prop} {ex:Exit} {a:Act} {W:World} (S:World->Prop) (h:S W) (k:∀ W',S W'->bodyPost P fn R ex a W'):bodyPost P fn R ex a W:=k W h
theorem RowB.new' (w:World) (e:TypeId) (cs:List Value) {g:Nat} (hg:g=w.heap.size):RowB (w.alloc (.cells ⟨cs⟩ e)) g e cs:=by
 subst hg;exact RowB.new w e cs
end Base
namespace Own
open Go Go.RowKit Go.ChangeShapes Go.WideShapes Go.Deep Base
section
variable {P:Program} {w:World} {α:Type} {en:α->List Value}
theorem OwnS_of {lo g n cap:Nat} {e:TypeId} {sz:Nat} {xs:List α} (hn:n=xs.length) (h:w.ownsRow lo e sz (.slice (some ⟨g,0,none⟩) n cap) n (xs.flatMap en)) (hg:g<w.heap.size) :
  OwnS w lo w.heap.size e sz en (.slice (some ⟨g,0,none⟩) n cap) xs:=by
 subst hn;exact⟨h,λ b a=>by simp [Value.ownBlock] at a;omega⟩
theorem wpL_app {ops:Array Oper} {rest:List Oper} {o:Oper} {a:Act} {Q:Exit->Act->World->Prop} (hgd:o.guard=none) (s x:Operand) (t:TypeId)
  (ho:o.op=.call { callee:=.builtin .append,args:=#[s,x],argTypes:=#[t,t] })
  (lo hi:Nat) (e:TypeId) (i:TypeInfo) (z:Value) (sz bytes:Nat) (ht:P.underlying t=some (.slice e)) (hi0:P.info? e=some i) (hz:i.zero=some z)
  (hsize:i.size=sz) (hby:i.bytes=bytes) (hzs:z.cells.size=sz) (hsz:0<sz) (hen:∀ x,(en x).length=sz) (hone:∀ x,∀ u ∈ en x,u.oneCell'=true)
  (v:Value) (xs ys:List α) (hs:a.eval s=v) (hown:OwnS w lo hi e sz en v xs)
  (ad:Addr) (m c:Nat) (hx:a.eval x=.slice (some ad) m c) (hm:m=ys.length) (hnews:∀ j u,(ys.flatMap en)[j]?=some u->w.cell? (ad.add j)=some u)
  (hm0:0<m) (h63:xs.length+m<=maxLen) (hbytes:(xs.length+m)*bytes<=140737488355328) (hlo:lo<=w.heap.size)
  (h:∀ g cap w',OwnS w' lo w'.heap.size e sz en (.slice (some ⟨g,0,none⟩) (xs.length+m) cap) (xs++ys)->w.grownBy w' v.ownBlock->(v.ownBlock=some g∨g=w.heap.size)->g<w'.heap.size ->
   wpList P ops Q rest (a.put o.dst (.slice (some ⟨g,0,none⟩) (xs.length+m) cap)) w'):wpList P ops Q (o :: rest) a w:=by
 refine wpList_append_lies w hgd s x t ho lo e i z sz bytes ht hi0 hz hsize hby hzs hsz v xs.length (xs.flatMap en) hs hown.1 ad m c (ys.flatMap en) hx (by rw [flatMap_len hen,hm]) hnews ?_ hm0 h63 hbytes hlo _ rfl ?_
 ·intro u n;obtain⟨y,_,l⟩:=List.mem_flatMap.1 n;exact hone y u l
 ·intro g cap w' b f k d;rw [<-List.flatMap_append] at b;exact h g cap w' (OwnS_of (by rw [List.length_append,hm]) b d) f k d
end
theorem one_I (x:Int):∀ u ∈ enI x,u.oneCell'=true:=by intro u a;simp [enI] at a;subst a;rfl
theorem news_new {w:World} {g:Nat} {e:TypeId} {cs:List Value} (h:RowB w g e cs):∀ j u,cs[j]?=some u->w.cell? ((⟨g,0,none⟩:Addr).add j)=some u:=λ j u hu=>by
 have hadd:(⟨g,0,none⟩:Addr).add j=⟨g,j,none⟩:=by unfold Addr.add;split <;> simp_all
 rw [hadd,h.cell,hu]
def Apart (v u:Value):Prop:=∀ g,v.ownBlock=some g->u.ownBlock≠some g
end Own
namespace Ints
open Go.ChangeShapes Go.WideShapes Go.ChangeAt Go.RowKit Base
theorem info:(Tryz.prog.info? 2).map (λ i=>(i.zero,i.size,i.bytes))=some (some (iL 0),1,8):=by kernel_rfl
end Ints
namespace Draw
open Go.ChangeShapes Go.WideShapes Go.ChangeAt Go.RowKit Base Ints Own
theorem seed1 {s:Int} (h0:0<=s) (h1:s<2147483647):0<=s*48271+17∧s*48271+17<=103661183124325∧0<=(s*48271+17) % 2147483647∧(s*48271+17) % 2147483647<2147483647:=by omega
theorem grown_drewN {a b:World} {row:Option Nat} (h:a.grownBy b row) (n:Nat):a.grownBy (b.drewN n) row:=⟨h.os,h.tape,h.output,h.size,h.block⟩
theorem wpS {P:Program} {c:Code} {Q:Exit->Act->World->Prop} {a:Act} {W:World} (R:World->Prop) (h:R W) (k:∀ W',R W'->c.wp P Q a W'):c.wp P Q a W:=k W h
theorem seed2 {s x:Int} (h0:0<=s) (h1:s<2147483647) (x0:0<=x) (x1:x<=255):0<=s*43+x∧s*43+x<=92341797076∧0<=(s*43+x) % 2147483647∧(s*43+x) % 2147483647<2147483647:=by omega
end Draw
namespace DrawD
open Go.ChangeShapes Go.WideShapes Go.ChangeAt Go.RowKit Base Ints Own Draw
def nx (xs:List Int) (st:Nat × Int) (k:Int):Int × (Nat × Int) :=
 if k<=1 then (0,st)
 else if st.1<xs.length then
  (if k<=256∧((st.1:Int)+1) % 2=0 then xs.getD st.1 0 % k else ((st.2*48271+17) % 2147483647 / 11+xs.getD st.1 0) % k,st.1+1,(st.2*48271+17) % 2147483647)
 else ((st.2*48271+17) % 2147483647 / 11 % k,st.1,(st.2*48271+17) % 2147483647)
def sd (xs:List Int):Nat->Int
 | 0=>24157
 | j+1=>(sd xs j*43+xs.getD j 0) % 2147483647
def st0 (xs:List Int):Nat × Int:=(0,sd xs (min xs.length 64))
theorem nx1 {xs:List Int} {st:Nat × Int} {k:Int} (h:k<=1):nx xs st k=(0,st):=by unfold nx;rw [if_pos h]
theorem nx2 {xs:List Int} {m:Nat} {s k x:Int} (h:¬ k<=1) (hm:xs[m]?=some x) (h3:k<=256) (h4:((m:Int)+1) % 2=0):nx xs (m,s) k=(x % k,m+1,(s*48271+17) % 2147483647):=by
 have a:=(List.getElem?_eq_some_iff.1 hm).1;unfold nx;rw [if_neg h,if_pos a,if_pos ⟨h3,h4⟩,List.getD_eq_getElem?_getD,hm];rfl
theorem nx3 {xs:List Int} {m:Nat} {s k x:Int} (h:¬ k<=1) (hm:xs[m]?=some x) (h3:¬ (k<=256∧((m:Int)+1) % 2=0)):nx xs (m,s) k=(((s*48271+17) % 2147483647 / 11+x) % k,m+1,(s*48271+17) % 2147483647):=by
 have a:=(List.getElem?_eq_some_iff.1 hm).1;unfold nx;rw [if_neg h,if_pos a,if_neg h3,List.getD_eq_getElem?_getD,hm];rfl
theorem nx4 {xs:List Int} {m:Nat} {s k:Int} (h:¬ k<=1) (hm:¬ m<xs.length):nx xs (m,s) k=((s*48271+17) % 2147483647 / 11 % k,m,(s*48271+17) % 2147483647):=by
 unfold nx;rw [if_neg h,if_neg hm]
def SrcX (w:World) (g:Nat) (A:Option Addr) (n cp:Nat) (st:Nat × Int):Prop :=
 RowB w g 89 [.slice A n cp,iL st.1,iL st.2]∧st.1<=n∧0<=st.2∧st.2<2147483647
theorem SrcX.lt {w:World} {g:Nat} {A:Option Addr} {n cp:Nat} {st:Nat × Int} (h:SrcX w g A n cp st):g<w.heap.size:=h.1.lt
theorem SrcX.below {w w':World} {g:Nat} {A:Option Addr} {n cp B:Nat} {st:Nat × Int} (h:SrcX w g A n cp st) (hb:Below B w w') (hg:g<B):SrcX w' g A n cp st:=⟨h.1.below hb hg,h.2⟩
theorem SrcX.drew {w:World} {g:Nat} {A:Option Addr} {n cp:Nat} {st:Nat × Int} (h:SrcX w g A n cp st):SrcX w.drew g A n cp st:=h
theorem SrcX.grown {w w':World} {g:Nat} {A:Option Addr} {n cp:Nat} {st:Nat × Int} {row:Option Nat} (h:SrcX w g A n cp st) (hg:w.grownBy w' row) (hr:∀ k,row=some k->k≠g):SrcX w' g A n cp st:=⟨h.1.grown hg hr,h.2⟩
theorem nextE (g B:Nat) (A:Option Addr) (n cp:Nat) (xs:List Int) (k:Int) (w:World) (st:Nat × Int) (r:Int) (st':Nat × Int) (hnx:nx xs st k=(r,st')) (hS:SrcX w g A n cp st) (hn:xs.length=n) (hr:RdS w B 1 enB A xs) (hB:B<=g) (hw:∀ x ∈ xs,(Lit.int .u8 x).wf=true) (hk:k<=9223372036854775807) :
  Calls prog 23 #[.pointer (some ⟨g,0,none⟩),iL k] w λ e w'=>(e=.returned (iL r)∧0<=r∧(1<=k->r<k)∧(k<=1->r=0))∧SrcX w' g A n cp st'∧w.grownBy w' (some g)∧w'.heap.size=w.heap.size:=by
 have l:=kD hnx;clear hnx;by_cases h1:k<=1
 ·go_enter func23,ntmps23;go_wp2;go_ret;have a:=l.out;rw [nx1 h1] at a;simp only [Prod.mk.injEq] at a;obtain⟨rfl,rfl⟩:=a;exact⟨⟨rfl,by omega,λ _=>by omega,λ _=>rfl⟩,hS,grownBy_refl _ _,rfl⟩
 ·obtain⟨m,s⟩:=st;obtain⟨d,D,C,z⟩:=hS;replace D:m<=n:=D;replace C:0<=s:=C;replace z:s<2147483647:=z;replace d:RowB w g 89 [.slice A n cp,iL m,iL s]:=d;have K:=kD h1;have N:=hr.len;have X:=kD hn;have HW:=kD hw;rw [hn] at N;clear hn hw;obtain⟨J,I,H⟩:=d.c3;have G:=d.frozen;have ac:=d.lt;have hd:decide (k<=1)=false:=decide_eq_false h1;replace h1:=Int.not_le.1 h1;obtain⟨Z,Y,T,S⟩:=seed1 C z;have F:Hid (0<=(s*48271+17) % 2147483647∧(s*48271+17) % 2147483647<2147483647):=⟨T,S⟩;have P:Hid (∀ w':World,w.grownBy w' (some g)->RdS w' B 1 enB A xs):=λ w' hg=>hr.keep λ p hp=>World.cell?_of_block (hg.block p.block (by omega) (by simp;omega))
  have PW:Hid (∀ w':World,Below w.heap.size w w'->True):=λ _ _=>trivial
  go_enter func23,ntmps23;go_upto_region 4 with fail;refine wpS (λ t=>RowB t g 89 [.slice A n cp,iL m,iL ((s*48271+17) % 2147483647)]∧w.grownBy t (some g)∧t.heap.size=w.heap.size) ⟨d.set 2 _,grownBy_setCell _ _ _ _,by simp⟩ ?_;obtain⟨j,i⟩:=eX ((s*48271+17) % 2147483647);have q:=kD i;rw [i];rw [i] at T S F;clear i J I H G d Z Y;rintro W ⟨d,c,f⟩;obtain⟨J,I,H⟩:=d.c3;have G:=d.frozen;have x0:0<=j / 11:=by omega
  have x1:j / 11<=195225786:=by omega
  by_cases h2:m<n
  ·obtain⟨b,y,x,rfl,hb,M,O⟩:=rdI_at (P.out W c) (by rw [X.out];exact h2);have L:=bounds_u8 (HW.out x (List.mem_of_getElem? M));obtain⟨ab,aa⟩:=L;have ae:b≠g:=by omega
   have Q:=kD M;clear M;have e1:=iW ((j / 11+x));have e2:IntKind.i64.wrap ((m:Int)+1 - 1)=(m:Int):=by rw [IntWalk.i64_in _ (by omega)];omega
   have o:0<k:=by omega
   have v:=kD (show 0<=(j / 11+x) % k∧(j / 11+x) % k<k from⟨Int.emod_nonneg _ (by omega),Int.emod_lt_of_pos _ o⟩);have V:=kD (show 0<=x % k∧x % k<k from⟨Int.emod_nonneg _ (by omega),Int.emod_lt_of_pos _ o⟩);go_wp2_with fail;go_quiet (fail);go_wp2_with fail;go_quiet (fail);go_upto_region 8 with fail;refine wpS (λ t=>RowB t g 89 [.slice (some ⟨b,y,none⟩) n cp,iL ((m:Int)+1),iL j]∧w.grownBy t (some g)∧t.heap.size=w.heap.size∧t.cell? ⟨b,y+m,none⟩=some (.int .u8 x)) ⟨RowB.set d 1 _,grownBy_trans (grown_drewN c _) (grownBy_setCell _ _ _ _),by simpa using f,by rw [World.cell?_of_block (Below.heap_setCell _ _ _ _ (by show b≠g;omega))];exact O⟩ ?_;clear J I H G d c f O;rintro W5 ⟨d,c,f,O⟩;obtain⟨J,I,H⟩:=d.c3;have G:=d.frozen;have E:Hid (SrcX W5 g (some ⟨b,y,none⟩) n cp (m+1,j)):=⟨d,by show m+1<=n;omega,F.out.1,F.out.2⟩;by_cases h3:k<=256
   ·by_cases h4:((m:Int)+1) % 2=0
    ·have R:=kD h4;have e4:(((m:Int)+1) % 2 == 0)=true:=by simp [h4]
     clear h4;go_wp2_with fail;go_quiet (fail);go_wp2_with fail;go_ret;have a:=l.out;rw [nx2 (Int.not_le.2 K.out) Q.out (by omega) R.out,q.out] at a;simp only [Prod.mk.injEq] at a;obtain⟨rfl,rfl⟩:=a;exact⟨⟨rfl,V.out.1,λ _=>V.out.2,λ h=>by omega⟩,E.out,grown_drewN c _,f⟩
    ·have R:=kD h4;have e4:(((m:Int)+1) % 2 == 0)=false:=by simp [h4]
     clear h4;go_wp2_with fail;go_ret;have a:=l.out;rw [nx3 (Int.not_le.2 K.out) Q.out (λ h=>R.out h.2),q.out] at a;simp only [Prod.mk.injEq] at a;obtain⟨rfl,rfl⟩:=a;exact⟨⟨rfl,v.out.1,λ _=>v.out.2,λ h=>by omega⟩,E.out,c,f⟩
   ·have ad:decide (k<=256)=false:=decide_eq_false h3;replace h3:=Int.not_le.1 h3;go_wp2_with fail;go_ret;have a:=l.out;rw [nx3 (Int.not_le.2 K.out) Q.out (λ h=>by have:=h.1;omega),q.out] at a;simp only [Prod.mk.injEq] at a;obtain⟨rfl,rfl⟩:=a;exact⟨⟨rfl,v.out.1,λ _=>v.out.2,λ h=>by omega⟩,E.out,c,f⟩
  ·obtain rfl:m=n:=by omega
   have o:0<k:=by omega
   have v:=kD (show 0<=(j / 11) % k∧(j / 11) % k<k from⟨Int.emod_nonneg _ (by omega),Int.emod_lt_of_pos _ o⟩);have E:Hid (SrcX W g A m cp (m,j)):=⟨d,Nat.le_refl _,F.out.1,F.out.2⟩;go_wp2_with fail;go_quiet (fail);go_wp2_with fail;go_ret;have a:=l.out;rw [nx4 (Int.not_le.2 K.out) (by rw [X.out];omega),q.out] at a;simp only [Prod.mk.injEq] at a;obtain⟨rfl,rfl⟩:=a;exact⟨⟨rfl,v.out.1,λ _=>v.out.2,λ h=>by omega⟩,E.out,grown_drewN c _,f⟩
theorem fromE (B:Nat) (A:Option Addr) (cp:Nat) (xs:List Int) (w:World) (hB:B<=w.heap.size) (hr:RdS w B 1 enB A xs) (hw:∀ x ∈ xs,(Lit.int .u8 x).wf=true) :
  Calls prog 19 #[.slice A xs.length cp] w λ e w'=>e=.returned (.pointer (some ⟨w.heap.size,0,none⟩))∧SrcX w' w.heap.size A xs.length cp (st0 xs)∧Below w.heap.size w w':=by
 have q:=hr.len;obtain⟨n,h⟩:=eX (xs.length);have t:=kD h;have I:=kD hw;rw [h] at q;rw [h];clear h hw;go_enter func19,ntmps19;go_wp2_with fail;go_loopw [4] (λ i wr=>∃ j:Nat,j<=n∧i=iL j∧Below w.heap.size w wr∧Hid (∃ s:Int,RowB wr w.heap.size 89 [.slice A n cp,iL 0,iL s]∧0<=s∧s<2147483647∧s=sd xs j∧j<=64)) (λ i _=>n - (intOf i).toNat)
 case atStart=>exact⟨0,Nat.zero_le _,rfl,by go_grown,24157,RowB.new _ _ _,by omega,by omega,rfl,by omega⟩
 case round =>
  obtain⟨j,L,rfl,k,v⟩:=hrel;obtain⟨s,f,c,a,g,y⟩:=v.out;have d:=kD g;clear g v;obtain⟨T,S,R⟩:=f.c3;have M:=f.frozen;have G:=f.lt;by_cases h1:j<n
  ·by_cases h2:j<64
   ·obtain⟨b,D,x,rfl,F,o,O⟩:=rdI_at (hr.below k hB) (by rw [t.out];exact h1);obtain⟨m,l⟩:=bounds_u8 (I.out x (List.mem_of_getElem? o));obtain⟨K,J,C,z⟩:=seed2 c a m l;have E:b≠w.heap.size:=by omega
    have Q:=iW ((s*43));have P:=iW ((s*43+x));have H:=kD o;clear o;go_wp2_with fail;go_still_tail 15,(by kernel_rfl);go_wp2_with fail;go_roundw
    case rel=>exact⟨j+1,by omega,by go_num,(k.setCell (p:=⟨w.heap.size,2,none⟩) (Nat.le_refl _) _).drew,_,RowB.drew (RowB.set f 2 _),C,z,by rw [d.out];show _=(sd xs j*43+xs.getD j 0) % 2147483647;rw [List.getD_eq_getElem?_getD,H.out];rfl,by omega⟩
    case measure=>simp [intOf];omega
   ·have N:decide ((j:Int)<64)=false:=decide_eq_false (by omega);have r:Hid (SrcX wr w.heap.size A n cp (st0 xs)):=by
     have e:st0 xs=(0,s):=by unfold st0;rw [t.out,show min n 64=j from by omega,d.out]
     rw [e];exact⟨f,Nat.zero_le _,c,a⟩
    go_wp2_with fail;go_ret;exact⟨rfl,r.out,k⟩
  ·obtain rfl:j=n:=by omega
   have r:Hid (SrcX wr w.heap.size A j cp (st0 xs)):=by
    have e:st0 xs=(0,s):=by unfold st0;rw [t.out,show min j 64=j from by omega,d.out]
    rw [e];exact⟨f,Nat.zero_le _,c,a⟩
   go_wp2_with fail;go_ret;exact⟨rfl,r.out,k⟩
structure Dx (w0:World) (B g:Nat) (A:Option Addr) (cp:Nat) (xs:List Int) (st:Nat × Int) (w:World):Prop where
 src:SrcX w g A xs.length cp st
 rd:RdS w B 1 enB A xs
 wf:∀ x ∈ xs,(Lit.int .u8 x).wf=true
 bel:Below B w0 w
 base:B<=g
 old:B=w0.heap.size
section
variable {w0 w w':World} {B g cp:Nat} {A:Option Addr} {xs:List Int} {st:Nat × Int}
theorem Dx.lt (h:Dx w0 B g A cp xs st w):g<w.heap.size:=h.src.lt
theorem Dx.grown {row:Option Nat} (h:Dx w0 B g A cp xs st w) (hg:w.grownBy w' row) (hr:∀ k,row=some k->B<=k) (hn:∀ k,row=some k->k≠g):Dx w0 B g A cp xs st w' :=
 ⟨h.src.grown hg hn,h.rd.grown hg (by have:=h.lt;have:=h.base;omega) hr,h.wf,h.bel.grown hg (by have:=h.lt;have:=h.base;omega) hr,h.base,h.old⟩
theorem Dx.below {C:Nat} (h:Dx w0 B g A cp xs st w) (hb:Below C w w') (hC:g<C):Dx w0 B g A cp xs st w' :=
 ⟨h.src.below hb hC,h.rd.below hb (by have:=h.base;omega),h.wf,h.bel.trans (hb.mono (by have:=h.base;omega)),h.base,h.old⟩
theorem Dx.alloc (h:Dx w0 B g A cp xs st w) (o:Obj):Dx w0 B g A cp xs st (w.alloc o):=h.below ((Below.refl _ _).alloc (Nat.le_refl _) _) h.lt
theorem Dx.drew (h:Dx w0 B g A cp xs st w):Dx w0 B g A cp xs st w.drew:=⟨h.src.drew,h.rd.drew,h.wf,h.bel.drew,h.base,h.old⟩
def Nx (xs:List Int) (st:Nat × Int) (k x:Int) (st':Nat × Int):Prop:=nx xs st k=(x,st')
theorem nextX (h:Dx w0 B g A cp xs st w) (k:Int) (hk:k<=9223372036854775807) :
  Calls prog 23 #[.pointer (some ⟨g,0,none⟩),iL k] w λ e w'=>∃ x st',(e=.returned (iL x)∧0<=x∧(1<=k->x<k)∧(k<=1->x=0)∧Nx xs st k x st')∧Dx w0 B g A cp xs st' w'∧w.grownBy w' (some g)∧w'.heap.size=w.heap.size:=by
 obtain⟨r,st',a⟩:∃ r st',nx xs st k=(r,st'):=⟨_,_,rfl⟩;refine(nextE g B A xs.length cp xs k w st r st' a h.src rfl h.rd h.base h.wf hk).mono ?_;rintro e w' ⟨b,f,c,d⟩;refine⟨r,st',⟨b.1,b.2.1,b.2.2.1,b.2.2.2,a⟩,⟨f,h.rd.grown c (by have:=h.lt;have:=h.base;omega) (λ k hk=>by simp at hk;have:=h.base;omega),h.wf,h.bel.grown c (by have:=h.lt;have:=h.base;omega) (λ k hk=>by simp at hk;have:=h.base;omega),h.base,h.old⟩,c,d⟩
theorem newX (hr:RdS w w.heap.size 1 enB A xs) (hw:∀ x ∈ xs,(Lit.int .u8 x).wf=true) :
  Calls prog 19 #[.slice A xs.length cp] w λ e w'=>e=.returned (.pointer (some ⟨w.heap.size,0,none⟩))∧Dx w w.heap.size w.heap.size A cp xs (st0 xs) w':=by
 refine(fromE w.heap.size A cp xs w (Nat.le_refl _) hr hw).mono ?_;rintro e w' ⟨c,b,a⟩;exact⟨c,b,hr.below a (Nat.le_refl _),hw,a,Nat.le_refl _,rfl⟩
end
end DrawD
namespace RegInv
open Go Go.RowKit Base
def downs (ops:Array Oper):Bool:=(List.range ops.size).all λ i=>match ops[i]? with | some o=>o.after.toList.all (λ e=>!Region.binds .any e || decide (e.on<i)) | none=>true
def waitsGo (ops:Array Oper):Nat->Nat->Nat->Bool
 | 0,_,_=>false
 | n+1,k,j=>match ops[k]? with | some o=>o.after.toList.any (λ e=>Region.binds .any e && (e.on == j || waitsGo ops n e.on j)) | none=>false
def waits (ops:Array Oper) (k j:Nat):Bool:=waitsGo ops ops.size k j
def Closed (ops:Array Oper) (L:Nat->Prop):Prop:=∀ k o,ops[k]?=some o->L k->∀ e ∈ o.after,Region.binds .any e=true->L e.on
theorem waitsGo_closed {ops:Array Oper} {L:Nat->Prop} (hc:Closed ops L) (j:Nat):∀(n k:Nat),waitsGo ops n k j=true->(∀ o,ops[k]?=some o->∀ e ∈ o.after,Region.binds .any e=true->L e.on)->L j:=by
 intro n
 induction n with
 | zero=>intro k h;simp [waitsGo] at h
 | succ n ih =>
  intro k h f;unfold waitsGo at h;split at h
  ·rename_i o ho
   obtain⟨e,g,c⟩:=List.any_eq_true.1 h;simp only [Bool.and_eq_true,Bool.or_eq_true,beq_iff_eq] at c;have a:=f o ho e (Array.mem_toList_iff.1 g) c.1;rcases c.2 with h2 | h2
   ·rw [<-h2];exact a
   ·exact ih e.on h2 (λ d b=>hc e.on d b a)
  ·cases h
section
variable {P:Program} {ops:Array Oper} {Q:Exit->Act->World->Prop}
def StepAt (P:Program) (ops:Array Oper) (Q:Exit->Act->World->Prop) (I:Act->(Nat->Prop)->Act->World->Prop) (a0:Act) (i:Nat) (o:Oper):Prop :=
 ∀(L:Nat->Prop) (a:Act) (w:World),I a0 L a w->¬ L i->(∀ j,waits ops i j=true->L j)->(∀ k j,waits ops k j=true->L k->L j) ->
  ∀ K:Act->World->Prop,Hid (∀ a' w',I a0 (λ k=>k=i∨L k) a' w'->K a' w')->if Region.wanted o (yielded ops a.tmps)=true then Oper.wp P o a w K Q else K (a.put o.dst undef) w
def StepsFrom (P:Program) (ops:Array Oper) (Q:Exit->Act->World->Prop) (I:Act->(Nat->Prop)->Act->World->Prop) (a0:Act) (n:Nat):Prop :=
 ∀ i,n<=i->∀ o,ops[i]?=some o->StepAt P ops Q I a0 i o
theorem StepsFrom.cons {I:Act->(Nat->Prop)->Act->World->Prop} {a0:Act} {n:Nat} {o:Oper} (ho:ops[n]?=some o) (h:StepAt P ops Q I a0 n o) (r:StepsFrom P ops Q I a0 (n+1)):StepsFrom P ops Q I a0 n:=by
 intro i c b a;by_cases e:i=n
 ·subst e;rw [ho] at a;simp only [Option.some.injEq] at a;subst a;exact h
 ·exact r i (by omega) b a
theorem StepsFrom.nil {I:Act->(Nat->Prop)->Act->World->Prop} {a0:Act} {n:Nat} (h:ops.size<=n):StepsFrom P ops Q I a0 n:=by
 intro i b o a;have:=(Array.getElem?_eq_some_iff.1 a).1;omega
theorem ready_none (hd:downs ops=true) {listed:Array Bool} (hs:listed.size=ops.size) (hr:Region.ready .any ops listed=[]):∀ k,k<ops.size->listed.getD k false=true:=by
 intro k
 induction k using Nat.strongRecOn with
 | _ k ih =>
  intro c
  cases hl:listed.getD k false with
  | true=>rfl
  | false =>
   exfalso
   have a:k ∈ Region.ready .any ops listed:=by
    rw [mem_ready];refine⟨?_,ops[k],Array.getElem?_eq_getElem c,λ e g h=>?_⟩
    ·have b:k<listed.size:=by omega
     simp only [Array.getD_eq_getD_getElem?,Array.getElem?_eq_getElem b,Option.getD_some] at hl ⊢;exact hl
    ·have f:=List.all_eq_true.1 hd k (List.mem_range.2 c);rw [Array.getElem?_eq_getElem c] at f;have d:=List.all_eq_true.1 f e (Array.mem_toList_iff.2 g);rw [h] at d;have i:e.on<k:=by simpa using d
     exact ih e.on i (by omega)
   rw [hr] at a
   cases a
def leftOf_ (listed:Array Bool):Nat:=listed.toList.countP (λ b=>!b)
theorem left_set {listed:Array Bool} {i:Nat} (h:listed.getD i true=false):leftOf_ (listed.setIfInBounds i true)+1=leftOf_ listed:=by
 have a:i<listed.size:=by
  rcases Nat.lt_or_ge i listed.size with h' | h'
  ·exact h'
  ·simp [Array.getElem?_eq_none h'] at h
 have b:listed.toList[i]?=some false:=by
  simp only [Array.getD_eq_getD_getElem?,Array.getElem?_eq_getElem a,Option.getD_some] at h;simp [a,h]
 unfold leftOf_;rw [Array.toList_setIfInBounds]
 generalize listed.toList=l at b
 clear h a
 induction l generalizing i with
 | nil=>simp at b
 | cons x l ih =>
  cases i with
  | zero=>simp at b;subst b;simp
  | succ i =>
   simp only [List.getElem?_cons_succ] at b;have:=ih b;simp only [List.set_cons_succ,List.countP_cons];omega
theorem left_zero {listed:Array Bool} (h:leftOf_ listed=0):Region.ready .any ops listed=[]:=by
 rw [List.eq_nil_iff_forall_not_mem];intro k a;obtain⟨b,_⟩:=mem_ready.1 a;have:=left_set b;omega
theorem I_ext {I:Act->(Nat->Prop)->Act->World->Prop} {a0:Act} {L L':Nat->Prop} {a:Act} {w:World} (h:∀ k,L k↔L' k) (hI:I a0 L a w):I a0 L' a w:=by
 have e:L=L':=funext λ k=>propext (h k)
 rw [<-e];exact hI
theorem any_inv {I:Act->(Nat->Prop)->Act->World->Prop} {a0:Act} (hd:downs ops=true) (hst:StepsFrom P ops Q I a0 0)
  (fin:∀ L a w,I a0 L a w->(∀ k,k<ops.size->L k)->Q .normal a w) :
  ∀(fuel:Nat) (listed:Array Bool) (a:Act) (w:World),listed.size=ops.size->leftOf_ listed<=fuel->Closed ops (λ k=>listed.getD k false=true)->I a0 (λ k=>listed.getD k false=true) a w->wpAny P .any ops Q fuel listed a w:=by
 intro fuel
 induction fuel with
 | zero =>
  intro listed a w h v f p;have l:=left_zero (ops:=ops) (Nat.le_zero.1 v);exact⟨l,fin _ _ _ p (ready_none hd h l)⟩
 | succ fuel ih =>
  intro listed a w h v f p;refine⟨λ l=>fin _ _ _ p (ready_none hd h l),λ i z=>?_⟩;obtain⟨q,o,m,c⟩:=mem_ready.1 z;have d:i<listed.size:=by
   rcases Nat.lt_or_ge i listed.size with h' | h'
   ·exact h'
   ·simp [Array.getElem?_eq_none h'] at q
  refine wpOp_step m λ B A=>hst i (Nat.zero_le _) o m _ a w p ?_ (λ j r=>waitsGo_closed f j _ i r (λ g b=>by rw [m] at b;simp only [Option.some.injEq] at b;subst b;exact c)) (λ k j r n=>waitsGo_closed f j _ k r (λ g b=>f k g b n)) B (λ D C s=>A _ _ ?_)
  ·simp only [Array.getD_eq_getD_getElem?,Array.getElem?_eq_getElem d,Option.getD_some] at q ⊢;rw [q];simp
  ·have t:=left_set q;refine ih _ _ _ (by simpa using h) (by omega) ?_ (I_ext (λ k=>?_) s)
   ·intro k g b n e x y;refine getD_set_true ?_;by_cases ek:k=i
    ·subst ek;rw [m] at b;simp only [Option.some.injEq] at b;subst b;exact c e x y
    ·refine f k g b ?_ e x y;rw [getD_set_ne false (Ne.symm ek)] at n;exact n
   ·by_cases e:k=i
    ·subst e;simp [d]
    ·rw [getD_set_ne false (Ne.symm e)];simp [e]
theorem region_inv {id:Nat} {a:Act} {w:World} (I:Act->(Nat->Prop)->Act->World->Prop) (hm:P.follows .mixedOrders=true) (hd:downs ops=true)
  (h0:I a (λ _=>False) a w.drew) (hst:StepsFrom P ops Q I a 0) (fin:∀ L a' w',I a L a' w'->(∀ k,k<ops.size->L k)->Q .normal a' w'):(Code.region id ops true).wp P Q a w:=by
 refine wp_region_any hm (any_inv hd hst fin ops.size _ a _ (by simp) ?_ ?_ (I_ext (λ k=>?_) h0))
 ·unfold leftOf_;refine Nat.le_trans List.countP_le_length (by simp)
 ·intro k o c b
  exfalso
  simp only [Array.getD_eq_getD_getElem?,Array.getElem?_replicate] at b;split at b <;> simp at b
 ·simp only [Array.getD_eq_getD_getElem?,Array.getElem?_replicate];split <;> simp
end
end RegInv
theorem bK {ops:Array Go.Oper} {k:Nat} {L:Nat->Prop} (b:∀ j,RegInv.waits ops k j=true->L j) (j:Nat) (h:RegInv.waits ops k j=true:=by kernel_rfl):L j:=b j h

namespace RegF
open Go Go.RowKit Base RegInv
def ndB:List (Option Nat)->Bool
 | []=>true
 | none :: ds=>ndB ds
 | some d :: ds=>!(ds.contains (some d)) && ndB ds
theorem nd_of:∀(ds:List (Option Nat)),ndB ds=true->∀(i j d:Nat),ds[i]?=some (some d)->ds[j]?=some (some d)->i=j:=by
 intro ds
 induction ds with
 | nil=>intro _ i j d h;simp at h
 | cons x ds ih =>
  intro h i j d b a;have c:ndB ds=true:=by cases x with | none=>exact h | some y=>simp only [ndB,Bool.and_eq_true] at h;exact h.2
  cases i with
  | zero =>
   cases j with
   | zero=>rfl
   | succ j =>
    exfalso
    simp only [List.getElem?_cons_zero,Option.some.injEq] at b;subst b;simp only [ndB,Bool.and_eq_true,Bool.not_eq_true',List.contains_eq_mem,decide_eq_false_iff_not] at h;simp only [List.getElem?_cons_succ] at a;exact h.1 (List.mem_of_getElem? a)
  | succ i =>
   cases j with
   | zero =>
    exfalso
    simp only [List.getElem?_cons_zero,Option.some.injEq] at a;subst a;simp only [ndB,Bool.and_eq_true,Bool.not_eq_true',List.contains_eq_mem,decide_eq_false_iff_not] at h;simp only [List.getElem?_cons_succ] at b;exact h.1 (List.mem_of_getElem? b)
   | succ j=>simp only [List.getElem?_cons_succ] at b a;rw [ih c i j d b a]
def szB (n:Nat) (ds:List (Option Nat)):Bool:=ds.all λ | some d=>decide (d<n) | none=>true
theorem sz_of {n:Nat} {ds:List (Option Nat)} (h:szB n ds=true) {j d:Nat} (hj:ds[j]?=some (some d)):d<n:=by
 have:=List.all_eq_true.1 h _ (List.mem_of_getElem? hj);exact of_decide_eq_true this
def Fr:Act->List (Option Nat)->Nat->(Nat->Value)->Act
 | a,[],_,_=>a
 | a,d :: ds,k,u=>Fr (a.put d (u k)) ds (k+1) u
theorem put_size (a:Act) (d:Option Nat) (v:Value):(a.put d v).tmps.size=a.tmps.size:=by cases d <;> simp [Act.put]
theorem put_defers (a:Act) (d:Option Nat) (v:Value):(a.put d v).defers=a.defers:=by cases d <;> rfl
theorem getD_put (a:Act) (d s:Nat) (v:Value) (hd:d<a.tmps.size):(a.put (some d) v).tmps.getD s undef=if s=d then v else a.tmps.getD s undef:=by
 simp only [Act.put,Array.getD_eq_getD_getElem?,Array.getElem?_setIfInBounds];by_cases e:s=d
 ·subst e;simp [hd]
 ·rw [if_neg (Ne.symm e),if_neg e]
theorem Fr_size:∀(ds:List (Option Nat)) (a:Act) (k:Nat) (u:Nat->Value),(Fr a ds k u).tmps.size=a.tmps.size∧(Fr a ds k u).defers=a.defers:=by
 intro ds
 induction ds with
 | nil=>intro a k u;exact⟨rfl,rfl⟩
 | cons d ds ih =>
  intro a k u;have:=ih (a.put d (u k)) (k+1) u;rw [put_size,put_defers] at this;exact this
theorem Fr_other:∀(ds:List (Option Nat)) (a:Act) (k:Nat) (u:Nat->Value) (s:Nat),some s ∉ ds->(Fr a ds k u).tmps.getD s undef=a.tmps.getD s undef:=by
 intro ds
 induction ds with
 | nil=>intro a k u s _;rfl
 | cons d ds ih =>
  intro a k u s h;have f:=ih (a.put d (u k)) (k+1) u s (λ c=>h (List.mem_cons_of_mem _ c));simp only [Fr];rw [f]
  cases d with
  | none=>rfl
  | some d =>
   have b:¬ s=d:=λ e=>h (by rw [e];exact List.mem_cons_self ..)
   simp only [Act.put,Array.getD_eq_getD_getElem?,Array.getElem?_setIfInBounds];rw [if_neg (Ne.symm b)]
theorem Fr_get:∀(ds:List (Option Nat)) (a:Act) (k:Nat) (u:Nat->Value) (j d:Nat),ndB ds=true->ds[j]?=some (some d)->d<a.tmps.size->(Fr a ds k u).tmps.getD d undef=u (k+j):=by
 intro ds
 induction ds with
 | nil=>intro a k u j d _ h;simp at h
 | cons x ds ih =>
  intro a k u j d b c e;simp only [Fr]
  cases j with
  | zero =>
   simp only [List.getElem?_cons_zero,Option.some.injEq] at c;subst c;simp only [ndB,Bool.and_eq_true,Bool.not_eq_true',List.contains_eq_mem,decide_eq_false_iff_not] at b;rw [Fr_other ds _ _ _ _ b.1,getD_put _ _ _ _ e,if_pos rfl];rfl
  | succ j =>
   simp only [List.getElem?_cons_succ] at c;have f:ndB ds=true:=by cases x with | none=>exact b | some y=>simp only [ndB,Bool.and_eq_true] at b;exact b.2
   rw [ih (a.put x (u k)) (k+1) u j d f c (by rw [put_size];exact e)]
   congr 1;omega
theorem act_ext {a b:Act} (h1:a.tmps.size=b.tmps.size) (h2:a.defers=b.defers) (h3:∀ s,a.tmps.getD s undef=b.tmps.getD s undef):a=b:=by
 obtain⟨t,q⟩:=a;obtain⟨e,f⟩:=b;simp only at h1 h2 h3;subst h2
 congr 1
 refine Array.ext h1 λ i d c=>?_
 have:=h3 i
 simpa [Array.getD_eq_getD_getElem?,d,c] using this
section
variable {P:Program} {ops:Array Oper} {Q:Exit->Act->World->Prop}
def wantV (o:Oper) (vals:Nat->Value):Bool :=
 match o.guard with
 | none=>true
 | some (g,b)=>match vals g with | .bool c=>c == b | _=>false
theorem gu{W:Nat→Prop}{ds:List (Option Nat)}{T vals:Nat→Value}(hu:∀ j d,W j→ds[j]?=some (some d)→T d=vals j)(j d:Nat)(hw:W j:=by kernel_rfl)(h:ds[j]?=some (some d):=by rfl):T d=vals j:=hu j d hw h
theorem gz{L:Nat→Prop}{ds:List (Option Nat)}{T T0:Nat→Value}(h0:∀ s,(∀ j,L j→ds[j]?=some (some s)→False)→T s=T0 s)(s:Nat)(h:some s∉ds:=by decide):T s=T0 s:=h0 s (fun j _ hj=>h (List.mem_of_getElem? hj))
def FixAt (P:Program) (ops:Array Oper) (Q:Exit->Act->World->Prop) (a0:Act) (ds:List (Option Nat)) (vals:Nat->Value) (B:(Nat->Prop)->World->Prop) (k:Nat) (o:Oper):Prop :=
 ∀(L:Nat->Prop) (A:Act) (w':World),¬ L k->(∀ j d,waits ops k j=true->ds[j]?=some (some d)->A.tmps[d]?.getD undef=vals j)->(∀ s,some s ∉ ds->A.tmps[s]?.getD undef=a0.tmps[s]?.getD undef)->B L w' ->
  ∀ K:Act->World->Prop,Hid (∀ w'',B (λ j=>j=k∨L j) w''->K (A.put o.dst (vals k)) w'')->Oper.wp P o A w' K Q
def FixFrom (P:Program) (ops:Array Oper) (Q:Exit->Act->World->Prop) (a0:Act) (ds:List (Option Nat)) (vals:Nat->Value) (B:(Nat->Prop)->World->Prop) (n:Nat):Prop :=
 ∀ k,n<=k->∀ o,ops[k]?=some o->(wantV o vals=true->FixAt P ops Q a0 ds vals B k o)∧(wantV o vals=false->vals k=undef∧∀ L w',B L w'->B (λ j=>j=k∨L j) w')
theorem FixFrom.run {a0:Act} {ds:List (Option Nat)} {vals:Nat->Value} {B:(Nat->Prop)->World->Prop} {n:Nat} {o:Oper} (ho:ops[n]?=some o) (hw:wantV o vals=true) (h:FixAt P ops Q a0 ds vals B n o) (r:FixFrom P ops Q a0 ds vals B (n+1)):FixFrom P ops Q a0 ds vals B n:=by
 intro k d b a;by_cases e:k=n
 ·subst e;rw [ho] at a;simp only [Option.some.injEq] at a;subst a;exact⟨λ _=>h,λ c=>absurd (hw.symm.trans c) (by decide)⟩
 ·exact r k (by omega) b a
theorem FixFrom.nil {a0:Act} {ds:List (Option Nat)} {vals:Nat->Value} {B:(Nat->Prop)->World->Prop} {n:Nat} (h:ops.size<=n):FixFrom P ops Q a0 ds vals B n:=by
 intro k b o a;have:=(Array.getElem?_eq_some_iff.1 a).1;omega
def gdB (ops:Array Oper) (vals:Nat->Value):Bool:=(List.range ops.size).all λ k=>match ops[k]? with | some o=>(match o.guard with | none=>true | some (g,_)=>waits ops k g && (match vals g with | .bool _=>true | _=>false) && (match ops[g]? with | some q=>q.dst.isSome | none=>false)) | none=>true
theorem region_fix {id:Nat} {a0:Act} {w:World} (ds:List (Option Nat)) (vals:Nat->Value) (B:(Nat->Prop)->World->Prop) (hm:P.follows .mixedOrders=true) (hd:downs ops=true) (hds:(ops.map (·.dst)).toList=ds) (hnd:ndB ds=true) (hsz:szB a0.tmps.size ds=true) (hg:gdB ops vals=true)
  (hB:B (λ _=>False) w.drew) (hBL:∀ L L' w',(∀ j,j<ops.size->(L j↔L' j))->B L w'->B L' w') (hst:FixFrom P ops Q a0 ds vals B 0) (fin:∀ w',B (λ _=>True) w'->Q .normal (Fr a0 ds 0 vals) w'):(Code.region id ops true).wp P Q a0 w:=by
 have r:∀(k:Nat) (o:Oper),ops[k]?=some o->ds[k]?=some o.dst:=λ k o A=>by
  rw [<-hds];simp [A]
 have G:ds.length=ops.size:=by rw [<-hds];simp
 refine region_inv (λ _ L a w'=>(a.tmps.size=a0.tmps.size∧a.defers=a0.defers)∧(∀ s,some s ∉ ds->a.eval (.tmp s)=a0.eval (.tmp s))∧(∀ j d,L j->ds[j]?=some (some d)->a.eval (.tmp d)=vals j)∧B L w') hm hd ⟨⟨rfl,rfl⟩,λ _ _=>rfl,λ _ _ h=>h.elim,hB⟩ ?_ ?_
 ·intro k _ o A L a w' hI M t Y K Z;obtain⟨l,I,D,J⟩:=hI;have m:=r k o A;have p:∀ v,B (λ j=>j=k∨L j) v->K (a.put o.dst (vals k)) v:=λ v S=>by
   refine Z.out _ _ ⟨⟨by rw [put_size];exact l.1,by rw [put_defers];exact l.2⟩,λ s y=>?_,λ j d i f=>?_,S⟩
   ·cases hd':o.dst with
    | none=>exact I s y
    | some d =>
     rw [hd'] at m;have N:¬ s=d:=λ e=>y (by rw [e];exact List.mem_of_getElem? m)
     show (a.put (some d) (vals k)).tmps.getD s undef=_
     rw [getD_put _ _ _ _ (by rw [l.1];exact sz_of hsz m),if_neg N];exact I s y
   ·cases hd':o.dst with
    | none =>
     rw [hd'] at m;rcases i with rfl | i
     ·rw [m] at f;simp at f
     ·exact D j d i f
    | some e =>
     rw [hd'] at m;show (a.put (some e) (vals k)).tmps.getD d undef=_
     rw [getD_put _ _ _ _ (by rw [l.1];exact sz_of hsz m)];by_cases hde:d=e
     ·subst hde;rw [if_pos rfl,nd_of ds hnd j k d f m]
     ·rw [if_neg hde];rcases i with rfl | i
      ·rw [m] at f;simp only [Option.some.injEq] at f;exact absurd f.symm hde
      ·exact D j d i f
  have x:Region.wanted o (yielded ops a.tmps)=wantV o vals:=by
   unfold Region.wanted wantV
   cases hgo:o.guard with
   | none=>rfl
   | some gp =>
    obtain⟨g,b⟩:=gp;simp only;have C:=List.all_eq_true.1 hg k (List.mem_range.2 (Array.getElem?_eq_some_iff.1 A).1);rw [A] at C;simp only [hgo,Bool.and_eq_true] at C;obtain⟨⟨R,H⟩,n⟩:=C
    cases hq:ops[g]? with
    | none=>rw [hq] at n;simp at n
    | some q =>
     rw [hq] at n;obtain⟨d,E⟩:=Option.isSome_iff_exists.1 n;have z:=r g q hq;rw [E] at z;have W:=D g d (t g R) z;have F:d<a.tmps.size:=by rw [l.1];exact sz_of hsz z
     have X:a.tmps[d]?=some (vals g):=by
      have:a.tmps.getD d undef=vals g:=W;rw [Array.getD_eq_getD_getElem?,Array.getElem?_eq_getElem F] at this;rw [Array.getElem?_eq_getElem F]
      simpa using this
     unfold yielded;rw [hq];simp only [Option.bind_some,E,X]
     cases hvg:vals g <;> rw [hvg] at H <;> simp at H
     rename_i c
     cases b <;> cases c <;> rfl
  rw [x];split
  ·rename_i hw
   exact(hst k (Nat.zero_le _) o A).1 hw L a w' M (λ j d i f=>by rw [<-Array.getD_eq_getD_getElem?];exact D j d (t j i) f) (λ s l=>by rw [<-Array.getD_eq_getD_getElem?,<-Array.getD_eq_getD_getElem?];exact I s l) J K p
  ·rename_i hw
   have:=(hst k (Nat.zero_le _) o A).2 (by simpa using hw);have V:=p w' (this.2 L w' J);rw [this.1] at V;exact V
 ·rintro L a w' ⟨l,I,D,J⟩ T;have e:a=Fr a0 ds 0 vals:=by
   refine act_ext (by rw [(Fr_size _ _ _ _).1];exact l.1) (by rw [(Fr_size _ _ _ _).2];exact l.2) λ s=>?_
   by_cases hm':some s ∈ ds
   ·obtain⟨j,i⟩:=List.getElem?_of_mem hm';have O:j<ops.size:=by rw [<-G];exact(List.getElem?_eq_some_iff.1 i).1
    rw [Fr_get ds a0 0 vals j s hnd i (sz_of hsz i),Nat.zero_add];exact D j s (T j O) i
   ·rw [Fr_other ds a0 0 vals s hm'];exact I s hm'
  rw [e];exact fin w' (hBL L _ w' (λ j i=>⟨λ _=>trivial,λ _=>T j i⟩) J)
end
end RegF
namespace RegG
open Go Go.RowKit Base RegInv RegF
def upd (vals:Nat->Value) (k:Nat) (x:Value):Nat->Value:=λ j=>if j=k then x else vals j
theorem upd_same (vals:Nat->Value) (k:Nat) (x:Value):upd vals k x k=x:=by unfold upd;rw [if_pos rfl]
theorem upd_ne {vals:Nat->Value} {k j:Nat} {x:Value} (h:j≠k):upd vals k x j=vals j:=by unfold upd;rw [if_neg h]
def Pl (l:List (Option Value)) (j:Nat) (v:Value):Prop:=∀ c,l[j]?=some (some c)->v=c
theorem gv{W:Nat→Prop}{ds:List (Option Nat)}{T vals:Nat→Value}{pl:List (Option Value)}(hu:∀ j d,W j→ds[j]?=some (some d)→T d=vals j)(hp:∀ j,W j→Pl pl j (vals j))(j d:Nat){v:Value}(hw:W j:=by kernel_rfl)(h1:ds[j]?=some (some d):=by rfl)(h2:pl[j]?=some (some v):=by rfl):T d=v:=(hu j d hw h1).trans (hp j hw v h2)
theorem Pl.fix {l:List (Option Value)} {k:Nat} {v:Value} (h:l[k]?=some (some v)):Pl l k v:=λ c hc=>by rw [h] at hc;simpa using hc
theorem Pl.any {l:List (Option Value)} {k:Nat} {v:Value} (h:l[k]?=some none):Pl l k v:=λ c hc=>by rw [h] at hc;simp at hc
theorem ev {A:Act} {s:Nat} {v:Value} (h:A.tmps[s]?.getD undef=v):A.eval (.tmp s)=v:=by
 show A.tmps.getD s undef=v
 rw [Array.getD_eq_getD_getElem?];exact h
theorem or_ne {L:Nat->Prop} {i k:Nat} (h:i≠k):(i=k∨L i)=L i:=propext ⟨λ h'=>h'.resolve_left h,Or.inr⟩
section
variable {P:Program} {ops:Array Oper} {Q:Exit->Act->World->Prop}
def RelAt (P:Program) (ops:Array Oper) (Q:Exit->Act->World->Prop) (a0:Act) (ds:List (Option Nat)) (Pu:Nat->Value->Prop) (Me:(Nat->Prop)->(Nat->Value)->World->Prop) (k:Nat) (o:Oper):Prop :=
 ∀(L:Nat->Prop) (vals:Nat->Value) (A:Act) (w':World),¬ L k->(∀ j,waits ops k j=true->L j)->(∀ m j,waits ops m j=true->L m->L j) ->
  (∀ j d,waits ops k j=true->ds[j]?=some (some d)->A.tmps[d]?.getD undef=vals j)->(∀ j,waits ops k j=true->Pu j (vals j))->(∀ s,(∀ j,L j->ds[j]?=some (some s)->False)->A.tmps[s]?.getD undef=a0.tmps[s]?.getD undef)->Me L vals w' ->
  ∀ K:Act->World->Prop,Hid (∀ x w'',Pu k x->Me (λ j=>j=k∨L j) (upd vals k x) w''->K (A.put o.dst x) w'')->Oper.wp P o A w' K Q
def RelFrom (P:Program) (ops:Array Oper) (Q:Exit->Act->World->Prop) (a0:Act) (ds:List (Option Nat)) (Pu:Nat->Value->Prop) (Me:(Nat->Prop)->(Nat->Value)->World->Prop) (n:Nat):Prop :=
 ∀ k,n<=k->∀ o,ops[k]?=some o->RelAt P ops Q a0 ds Pu Me k o
theorem RelFrom.run {a0:Act} {ds:List (Option Nat)} {Pu:Nat->Value->Prop} {Me:(Nat->Prop)->(Nat->Value)->World->Prop} {n:Nat} {o:Oper} (ho:ops[n]?=some o) (h:RelAt P ops Q a0 ds Pu Me n o) (r:RelFrom P ops Q a0 ds Pu Me (n+1)):RelFrom P ops Q a0 ds Pu Me n:=by
 intro k c b a;by_cases e:k=n
 ·subst e;rw [ho] at a;simp only [Option.some.injEq] at a;subst a;exact h
 ·exact r k (by omega) b a
theorem RelFrom.nil {a0:Act} {ds:List (Option Nat)} {Pu:Nat->Value->Prop} {Me:(Nat->Prop)->(Nat->Value)->World->Prop} {n:Nat} (h:ops.size<=n):RelFrom P ops Q a0 ds Pu Me n:=by
 intro k b o a;have:=(Array.getElem?_eq_some_iff.1 a).1;omega
theorem waits_lt {k j:Nat} (h:waits ops k j=true):k<ops.size:=by
 rcases Nat.lt_or_ge k ops.size with h1 | h1
 ·exact h1
 ·unfold waits at h
  cases hs:ops.size with
  | zero=>rw [hs] at h;simp [waitsGo] at h
  | succ n=>rw [hs] at h;simp only [waitsGo,Array.getElem?_eq_none h1] at h;cases h
theorem region_rel {id:Nat} {a0:Act} {w:World} (ds:List (Option Nat)) (N:Nat) (Pu:Nat->Value->Prop) (Me:(Nat->Prop)->(Nat->Value)->World->Prop) (hm:P.follows .mixedOrders=true) (hd:downs ops=true) (hds:(ops.map (·.dst)).toList=ds) (hN:ops.size=N) (hnd:ndB ds=true) (hsz:szB a0.tmps.size ds=true) (hg:(ops.all λ o=>o.guard.isNone)=true)
  (h0:Me (λ j=>N<=j) (λ _=>undef) w.drew) (hst:RelFrom P ops Q a0 ds Pu Me 0) (fin:∀ vals w',(∀ j,j<N->Pu j (vals j))->Me (λ _=>True) vals w'->Q .normal (Fr a0 ds 0 vals) w'):(Code.region id ops true).wp P Q a0 w:=by
 subst hN;have B:∀(k:Nat) (o:Oper),ops[k]?=some o->ds[k]?=some o.dst:=λ k o r=>by
  rw [<-hds];simp [r]
 have A:ds.length=ops.size:=by rw [<-hds];simp
 refine region_inv (λ _ L a w'=>∃ vals:Nat->Value,(a.tmps.size=a0.tmps.size∧a.defers=a0.defers)∧(∀ s,(∀ j,L j->ds[j]?=some (some s)->False)->a.eval (.tmp s)=a0.eval (.tmp s))∧(∀ j d,L j->ds[j]?=some (some d)->a.eval (.tmp d)=vals j)∧(∀ j,L j->Pu j (vals j))∧Me (λ j=>L j∨ops.size<=j) vals w') hm hd ⟨λ _=>undef,⟨rfl,rfl⟩,λ _ _=>rfl,λ _ _ h=>h.elim,λ _ h=>h.elim,?_⟩ ?_ ?_
 ·have e:(λ j:Nat=>False∨ops.size<=j)=λ j=>ops.size<=j:=funext λ j=>propext ⟨λ h=>h.elim False.elim (λ h=>h),Or.inr⟩
  rw [e];exact h0
 ·intro k _ o r L a w' V E l J K T;obtain⟨vals,n,h0,v,C,D⟩:=V;have i:=B k o r;have G:=(Array.getElem?_eq_some_iff.1 r).1;have I:o.guard=none:=by
   have R:=Array.all_eq_true.1 hg k G;have W:ops[k]=o:=(Array.getElem?_eq_some_iff.1 r).2;rw [W] at R
   simpa using R
  have S:Region.wanted o (yielded ops a.tmps)=true:=by simp [Region.wanted,I]
  rw [if_pos S];have t:∀ x p,Pu k x->Me (λ j=>j=k∨(L j∨ops.size<=j)) (upd vals k x) p->K (a.put o.dst x) p:=λ x p y M=>by
   refine T.out _ _ ⟨upd vals k x,⟨by rw [put_size];exact n.1,by rw [put_defers];exact n.2⟩,λ s q=>?_,λ j d c b=>?_,λ j c=>?_,?_⟩
   ·cases hd':o.dst with
    | none=>exact h0 s (λ j c=>q j (.inr c))
    | some d =>
     rw [hd'] at i;have F:¬ s=d:=λ e=>q k (.inl rfl) (by rw [e];exact i)
     show (a.put (some d) x).tmps.getD s undef=_
     rw [getD_put _ _ _ _ (by rw [n.1];exact sz_of hsz i),if_neg F];exact h0 s (λ j c=>q j (.inr c))
   ·cases hd':o.dst with
    | none =>
     rw [hd'] at i;rcases c with rfl | c
     ·rw [i] at b;simp at b
     ·have g:j≠k:=λ e=>by rw [e,i] at b;simp at b
      rw [upd_ne g];exact v j d c b
    | some e =>
     rw [hd'] at i;show (a.put (some e) x).tmps.getD d undef=_
     rw [getD_put _ _ _ _ (by rw [n.1];exact sz_of hsz i)];by_cases hde:d=e
     ·subst hde;rw [if_pos rfl,nd_of ds hnd j k d b i,upd_same]
     ·rw [if_neg hde];rcases c with rfl | c
      ·rw [i] at b;simp only [Option.some.injEq] at b;exact absurd b.symm hde
      ·have g:j≠k:=λ Y=>by rw [Y,i] at b;simp only [Option.some.injEq] at b;exact hde b.symm
       rw [upd_ne g];exact v j d c b
   ·rcases c with rfl | c
    ·rw [upd_same];exact y
    ·by_cases g:j=k
     ·subst g;rw [upd_same];exact y
     ·rw [upd_ne g];exact C j c
   ·have e:(λ j:Nat=>(j=k∨L j)∨ops.size<=j)=λ j=>j=k∨(L j∨ops.size<=j):=funext λ j=>propext or_assoc
    rw [e];exact M
  refine hst k (Nat.zero_le _) o r (λ j=>L j∨ops.size<=j) vals a w' (λ h=>h.elim E (by omega)) (λ j c=>.inl (l j c)) (λ m j z f=>?_) (λ j d c b=>by rw [<-Array.getD_eq_getD_getElem?];exact v j d (l j c) b) (λ j c=>C j (l j c)) (λ s n=>by rw [<-Array.getD_eq_getD_getElem?,<-Array.getD_eq_getD_getElem?];exact h0 s (λ j c=>n j (.inl c))) D K (kD t);rcases f with f | f
  ·exact .inl (J m j z f)
  ·have:=waits_lt z;omega
 ·rintro L a w' ⟨vals,n,h0,v,C,D⟩ O;have e:a=Fr a0 ds 0 vals:=by
   refine act_ext (by rw [(Fr_size _ _ _ _).1];exact n.1) (by rw [(Fr_size _ _ _ _).2];exact n.2) λ s=>?_
   by_cases f:some s ∈ ds
   ·obtain⟨j,c⟩:=List.getElem?_of_mem f;have H:j<ops.size:=by rw [<-A];exact(List.getElem?_eq_some_iff.1 c).1
    rw [Fr_get ds a0 0 vals j s hnd c (sz_of hsz c),Nat.zero_add];exact v j s (O j H) c
   ·rw [Fr_other ds a0 0 vals s f];exact h0 s (λ j _ c=>f (List.mem_of_getElem? c))
  rw [e];have X:(λ j:Nat=>L j∨ops.size<=j)=λ _=>True:=funext λ j=>propext ⟨λ _=>trivial,λ _=>by
   rcases Nat.lt_or_ge j ops.size with h | h
   ·exact .inl (O j h)
   ·exact .inr h⟩
  rw [X] at D;exact fin vals w' (λ j c=>C j (O j c)) D
end
structure Ust (ops:Array Oper) (k:Nat) (ds:List (Option Nat)) (Pu:Nat->Value->Prop) (L:Nat->Prop) (vals:Nat->Value) (A a0:Act):Prop where
 u:∀ j d,waits ops k j=true->ds[j]?=some (some d)->A.tmps[d]?.getD undef=vals j
 p:∀ j,waits ops k j=true->Pu j (vals j)
 z:∀ s,(∀ j,L j->ds[j]?=some (some s)->False)->A.tmps[s]?.getD undef=a0.tmps[s]?.getD undef
theorem Ust.x {ops:Array Oper} {k:Nat} {ds:List (Option Nat)} {Pu:Nat->Value->Prop} {L:Nat->Prop} {vals:Nat->Value} {A a0:Act} (U:Ust ops k ds Pu L vals A a0) (j d:Nat) (hw:waits ops k j=true:=by kernel_rfl) (h:ds[j]?=some (some d):=by rfl):A.tmps[d]?.getD undef=vals j:=U.u j d hw h
theorem Ust.v {ops:Array Oper} {k:Nat} {ds:List (Option Nat)} {pl:List (Option Value)} {L:Nat->Prop} {vals:Nat->Value} {A a0:Act} (U:Ust ops k ds (Pl pl) L vals A a0) (j d:Nat) {v:Value} (hw:waits ops k j=true:=by kernel_rfl) (h1:ds[j]?=some (some d):=by rfl) (h2:pl[j]?=some (some v):=by rfl):A.tmps[d]?.getD undef=v:=(U.u j d hw h1).trans (U.p j hw v h2)
theorem Ust.y {ops:Array Oper} {k:Nat} {ds:List (Option Nat)} {Pu:Nat->Value->Prop} {L:Nat->Prop} {vals:Nat->Value} {A a0:Act} (U:Ust ops k ds Pu L vals A a0) (s:Nat) (h:some s∉ds:=by decide):A.tmps[s]?.getD undef=a0.tmps[s]?.getD undef:=U.z s (λ j _ a=>h (List.mem_of_getElem? a))
theorem Ust.w {ops:Array Oper} {k:Nat} {ds:List (Option Nat)} {Pu:Nat->Value->Prop} {L:Nat->Prop} {vals:Nat->Value} {A a0:Act} (U:Ust ops k ds Pu L vals A a0) (s:Nat) (v:Value) (h:some s∉ds:=by decide) (e:a0.tmps[s]?.getD undef=v:=by rfl):A.tmps[s]?.getD undef=v:=(U.y s h).trans e
theorem rN {P:Program} {ops:Array Oper} {Q:Exit->Act->World->Prop} {a0:Act} {ds:List (Option Nat)} {Pu:Nat->Value->Prop} {Me:(Nat->Prop)->(Nat->Value)->World->Prop} {n:Nat} {o:Oper} (ho:ops[n]?=some o) (h:∀ (L:Nat->Prop) (vals:Nat->Value) (A:Act) (w':World),¬L n->(∀ j,waits ops n j=true->L j)->(∀ m j,waits ops m j=true->L m->L j)->Ust ops n ds Pu L vals A a0->Me L vals w'->∀ K:Act->World->Prop,Hid (∀ x w'',Pu n x->Me (λ j=>j=n∨L j) (upd vals n x) w''->K (A.put o.dst x) w'')->Oper.wp P o A w' K Q) (r:RelFrom P ops Q a0 ds Pu Me (n+1)):RelFrom P ops Q a0 ds Pu Me n:=RelFrom.run ho (λ L a A w b d f hu hp h0 F K hK=>h L a A w b d f ⟨hu,hp,h0⟩ F K hK) r
theorem pF {p:List (Option Value)} {k:Nat} {S:Value->World->Prop} {G:Value->World->Prop} {x:Value} {w:World} (hK:Hid (∀ x w,Pl p k x->S x w->G x w)) (h:S x w) (hp:Pl p k x:=by exact Pl.fix rfl):G x w:=hK _ _ hp h
theorem rG {P:Program} {ops:Array Oper} {Q:Exit->Act->World->Prop} {id:Nat} {a0:Act} {w:World} (ds:List (Option Nat)) (N:Nat) (Pu:Nat->Value->Prop) (Me:(Nat->Prop)->(Nat->Value)->World->Prop) (h0:Me (λ j=>N<=j) (λ _=>undef) w.drew) (hst:RelFrom P ops Q a0 ds Pu Me 0) (fin:∀ vals w',(∀ j,j<N->Pu j (vals j))->Me (λ _=>True) vals w'->Q .normal (Fr a0 ds 0 vals) w') (hm:P.follows .mixedOrders=true:=by kernel_rfl) (hd:downs ops=true:=by kernel_rfl) (hds:(ops.map (·.dst)).toList=ds:=by kernel_rfl) (hN:ops.size=N:=by kernel_rfl) (hnd:ndB ds=true:=by kernel_rfl) (hsz:szB a0.tmps.size ds=true:=by kernel_rfl) (hg:(ops.all λ o=>o.guard.isNone)=true:=by kernel_rfl):(Code.region id ops true).wp P Q a0 w:=region_rel ds N Pu Me hm hd hds hN hnd hsz hg h0 hst fin
section
variable {P:Program} {w:World} {α:Type} {en:α->List Value}
theorem run_append_zero (base:Nat) (t ty e:TypeId) (i:TypeInfo) (size:Nat) (ht:P.underlying t=some (.slice e)) (hi:P.info? e=some i)
  (v:Value) (n:Nat) (xs:List Value) (hown:w.ownsRow base e size v n xs) (A:Option Addr) (c:Nat) :
  (Builtin.append_ #[t,t] ty #[v,.slice A 0 c]).run P w=.ok v w:=by
 rcases hown.2 with ⟨rfl,rfl⟩ | ⟨g,cap,cur,rfl,_,_,hnc,_⟩
 ·cases A <;> simp [Builtin.append_,run_underlying ht,sizeOf,typeInfo,hi,Builtin.lenOf,Builtin.firstCells,loadCells,loadCellsFrom]
 ·cases A <;> simp [Builtin.append_,run_underlying ht,sizeOf,typeInfo,hi,Builtin.lenOf,Builtin.firstCells,hnc,storeCells,loadCells,loadCellsFrom]
theorem news_of {B sz:Nat} {ad:Addr} {ys:List α} (hen:∀ x,(en x).length=sz) (h:RdS w B sz en (some ad) ys):∀ j u,(ys.flatMap en)[j]?=some u->w.cell? (ad.add j)=some u:=by
 intro j u i;have f:j<(ys.flatMap en).length:=(List.getElem?_eq_some_iff.1 i).1;rw [flatMap_len hen] at f;have e:0<sz:=by
  rcases Nat.eq_zero_or_pos sz with h0 | h0
  ·subst h0;simp at f
  ·exact h0
 have l:j / sz<ys.length:=Nat.div_lt_of_lt_mul (by rw [Nat.mul_comm];exact f);obtain⟨b,a,m,_,p⟩:=h.2 (Nat.lt_of_le_of_lt (Nat.zero_le _) l);simp only [Option.some.injEq] at m;subst m;have g:ys[j / sz]?=some ys[j / sz]:=List.getElem?_eq_getElem l;have k:j % sz<(en ys[j / sz]).length:=by rw [hen];exact Nat.mod_lt _ e
 have o:=flatMap_at hen ys (j / sz) _ g (j % sz) _ (List.getElem?_eq_getElem k);have c:j / sz*sz+j % sz=j:=by rw [Nat.mul_comm];exact Nat.div_add_mod j sz
 rw [c,i] at o;have n:=p (j / sz) _ g (j % sz) _ (List.getElem?_eq_getElem k);rw [Nat.add_assoc,c,<-o] at n;have d:(⟨b,a,none⟩:Addr).add j=⟨b,a+j,none⟩:=by unfold Addr.add;split <;> simp_all
 rw [d];exact n
theorem wp_app {o:Oper} {a:Act} {K:Act->World->Prop} {Q:Exit->Act->World->Prop} (s x:Operand) (t:TypeId)
  (ho:o.op=.call { callee:=.builtin .append,args:=#[s,x],argTypes:=#[t,t] })
  (lo hi:Nat) (e:TypeId) (i:TypeInfo) (z:Value) (sz bytes:Nat) (ht:P.underlying t=some (.slice e)) (hi0:P.info? e=some i) (hz:i.zero=some z)
  (hsize:i.size=sz) (hby:i.bytes=bytes) (hzs:z.cells.size=sz) (hsz:0<sz) (hen:∀ x,(en x).length=sz)
  (v:Value) (xs ys:List α) (hone:∀ x ∈ ys,∀ u ∈ en x,u.oneCell'=true) (hs:a.eval s=v) (hown:OwnS w lo hi e sz en v xs)
  (A:Option Addr) (m c B:Nat) (hx:a.eval x=.slice A m c) (hm:m=ys.length) (hr:RdS w B sz en A ys)
  (h63:xs.length+m<=maxLen) (hbytes:(xs.length+m)*bytes<=140737488355328) (hlo:lo<=w.heap.size) (hhi:hi<=w.heap.size)
  (h:∀ v' w',OwnS w' lo w'.heap.size e sz en v' (xs++ys)->w.grownBy w' v.ownBlock->(∀ g,v'.ownBlock=some g->v.ownBlock=some g∨g=w.heap.size)->K (a.put o.dst v') w'):Oper.wp P o a w K Q:=by
 subst hm
 cases ys with
 | nil =>
  have f:=run_append_zero (P:=P) (w:=w) lo t o.type e i sz ht hi0 v xs.length _ hown.1 A c;unfold Oper.wp execOp;simp only [ho,resolve,invoke,builtin,Sem.run_bind,Sem.run_pure,Result.andThen_ok,List.map_toArray,List.map_cons,List.map_nil,hs,hx,List.length_nil,f];exact h v w (by rw [List.append_nil];exact hown.more hhi) (grownBy_refl _ _) (λ g E=>.inl E)
 | cons y ys =>
  obtain⟨b,j,rfl,_,_⟩:=hr.2 (by simp);refine wp_append_lies w s x t ho lo e i z sz bytes ht hi0 hz hsize hby hzs hsz v xs.length (xs.flatMap en) hs hown.1 ⟨b,j,none⟩ _ c ((y :: ys).flatMap en) hx (by rw [flatMap_len hen]) (news_of hen hr) ?_ (by simp) h63 hbytes hlo _ rfl ?_
  ·intro u C;obtain⟨q,hm,D⟩:=List.mem_flatMap.1 C;exact hone q hm u D
  ·intro g F w' d n p l;rw [<-List.flatMap_append] at d;exact h _ _ (Own.OwnS_of (by rw [List.length_append]) d l) n (λ k r=>by simp [Value.ownBlock] at r;subst r;exact p)
theorem wpL_appR {ops:Array Oper} {rest:List Oper} {o:Oper} {a:Act} {Q:Exit->Act->World->Prop} (hgd:o.guard=none) (s x:Operand) (t:TypeId)
  (ho:o.op=.call { callee:=.builtin .append,args:=#[s,x],argTypes:=#[t,t] })
  (lo hi:Nat) (e:TypeId) (i:TypeInfo) (z:Value) (sz bytes:Nat) (ht:P.underlying t=some (.slice e)) (hi0:P.info? e=some i) (hz:i.zero=some z)
  (hsize:i.size=sz) (hby:i.bytes=bytes) (hzs:z.cells.size=sz) (hsz:0<sz) (hen:∀ x,(en x).length=sz)
  (v:Value) (xs ys:List α) (hone:∀ x ∈ ys,∀ u ∈ en x,u.oneCell'=true) (hs:a.eval s=v) (hown:OwnS w lo hi e sz en v xs)
  (A:Option Addr) (m c B:Nat) (hx:a.eval x=.slice A m c) (hm:m=ys.length) (hr:RdS w B sz en A ys)
  (h63:xs.length+m<=maxLen) (hbytes:(xs.length+m)*bytes<=140737488355328) (hlo:lo<=w.heap.size) (hhi:hi<=w.heap.size)
  (h:∀ v' w',OwnS w' lo w'.heap.size e sz en v' (xs++ys)->w.grownBy w' v.ownBlock->(∀ g,v'.ownBlock=some g->v.ownBlock=some g∨g=w.heap.size)->wpList P ops Q rest (a.put o.dst v') w'):wpList P ops Q (o :: rest) a w :=
 wpList_plain hgd λ _ hK=>wp_app s x t ho lo hi e i z sz bytes ht hi0 hz hsize hby hzs hsz hen v xs ys hone hs hown A m c B hx hm hr h63 hbytes hlo hhi λ v' w' h1 h2 h3=>hK _ _ (h v' w' h1 h2 h3)
theorem wp_one {o:Oper} {a:Act} {K:Act->World->Prop} {Q:Exit->Act->World->Prop} (s x:Operand) (t:TypeId)
  (ho:o.op=.call { callee:=.builtin .append,args:=#[s,x],argTypes:=#[t,t] })
  (lo hi:Nat) (e:TypeId) (i:TypeInfo) (z:Value) (sz bytes:Nat) (ht:P.underlying t=some (.slice e)) (hi0:P.info? e=some i) (hz:i.zero=some z)
  (hsize:i.size=sz) (hby:i.bytes=bytes) (hzs:z.cells.size=sz) (hsz:0<sz) (hen:∀ x,(en x).length=sz)
  (v:Value) (xs:List α) (y:α) (hone:∀ u ∈ en y,u.oneCell'=true) (hs:a.eval s=v) (hown:OwnS w lo hi e sz en v xs)
  (g0 c:Nat) (e0:TypeId) (hx:a.eval x=.slice (some ⟨g0,0,none⟩) 1 c) (hr:RowB w g0 e0 (en y))
  (h63:xs.length+1<=maxLen) (hbytes:(xs.length+1)*bytes<=140737488355328) (hlo:lo<=w.heap.size)
  (h:∀ g cap w',OwnS w' lo w'.heap.size e sz en (.slice (some ⟨g,0,none⟩) (xs.length+1) cap) (xs++[y])->w.grownBy w' v.ownBlock->(v.ownBlock=some g∨g=w.heap.size)->g<w'.heap.size ->
   K (a.put o.dst (.slice (some ⟨g,0,none⟩) (xs.length+1) cap)) w'):Oper.wp P o a w K Q:=by
 refine wp_append_lies w s x t ho lo e i z sz bytes ht hi0 hz hsize hby hzs hsz v xs.length (xs.flatMap en) hs hown.1 ⟨g0,0,none⟩ 1 c (en y) hx (by rw [hen,Nat.one_mul]) (Own.news_new hr) hone (by decide) h63 hbytes hlo _ rfl ?_;intro g cap w' b f j d;have k:xs.flatMap en++en y=(xs++[y]).flatMap en:=by simp
 rw [k] at b;exact h g cap w' (Own.OwnS_of (by rw [List.length_append];rfl) b d) f j d
theorem wpL_one {ops:Array Oper} {rest:List Oper} {o:Oper} {a:Act} {Q:Exit->Act->World->Prop} (hgd:o.guard=none) (s x:Operand) (t:TypeId)
  (ho:o.op=.call { callee:=.builtin .append,args:=#[s,x],argTypes:=#[t,t] })
  (lo hi:Nat) (e:TypeId) (i:TypeInfo) (z:Value) (sz bytes:Nat) (ht:P.underlying t=some (.slice e)) (hi0:P.info? e=some i) (hz:i.zero=some z)
  (hsize:i.size=sz) (hby:i.bytes=bytes) (hzs:z.cells.size=sz) (hsz:0<sz) (hen:∀ x,(en x).length=sz)
  (v:Value) (xs:List α) (y:α) (hone:∀ u ∈ en y,u.oneCell'=true) (hs:a.eval s=v) (hown:OwnS w lo hi e sz en v xs)
  (g0 c:Nat) (e0:TypeId) (hx:a.eval x=.slice (some ⟨g0,0,none⟩) 1 c) (hr:RowB w g0 e0 (en y))
  (h63:xs.length+1<=maxLen) (hbytes:(xs.length+1)*bytes<=140737488355328) (hlo:lo<=w.heap.size)
  (h:∀ g cap w',OwnS w' lo w'.heap.size e sz en (.slice (some ⟨g,0,none⟩) (xs.length+1) cap) (xs++[y])->w.grownBy w' v.ownBlock->(v.ownBlock=some g∨g=w.heap.size)->g<w'.heap.size ->
   wpList P ops Q rest (a.put o.dst (.slice (some ⟨g,0,none⟩) (xs.length+1) cap)) w'):wpList P ops Q (o :: rest) a w :=
 wpList_plain hgd λ _ hK=>wp_one s x t ho lo hi e i z sz bytes ht hi0 hz hsize hby hzs hsz hen v xs y hone hs hown g0 c e0 hx hr h63 hbytes hlo λ g cap w' h1 h2 h3 h4=>hK _ _ (h g cap w' h1 h2 h3 h4)
theorem wp_make {o:Oper} {a:Act} {K:Act->World->Prop} {Q:Exit->Act->World->Prop} (x y:Operand) (t:TypeId) (ho:o.op=.makeSlice t x y)
  (lo:Nat) (e:TypeId) (i:TypeInfo) (z:Value) (sz:Nat) (ht:P.underlying t=some (.slice e)) (hi0:P.info? e=some i) (hz:i.zero=some z) (hsize:i.size=sz)
  (kl kc:IntKind) (c:Nat) (hx:a.eval x=.int kl 0) (hy:a.eval y=.int kc (c:Int)) (hbytes:i.bytes*c<=281474976710656) (h63:c<=maxLen) (hlo:lo<=w.heap.size)
  (h:∀ w',OwnS w' lo w'.heap.size e sz en (.slice (some ⟨w.heap.size,0,none⟩) 0 c) []->w.grownBy w' none->K (a.put o.dst (.slice (some ⟨w.heap.size,0,none⟩) 0 c)) w'):Oper.wp P o a w K Q:=by
 obtain⟨w',d,b,j⟩:=run_make_own (P:=P) w lo t e i z sz ht hi0 hz hsize kl kc c hbytes h63 hlo;unfold Oper.wp execOp;simp only [ho,Sem.run_bind,Sem.run_pure,Result.andThen_ok,hx,hy,d];exact h w' ⟨b,λ g f=>(b.lt g f).2⟩ j
end
end RegG
namespace DwQ
open Go.ChangeShapes Go.WideShapes Go.ChangeAt Go.RowKit Base Ints Own Draw DrawD RegG
def Gd (xs:List Int) (st:Nat × Int):Prop:=st.1<=xs.length∧0<=st.2∧st.2<2147483647
structure Nb (xs:List Int) (st:Nat × Int) (k x:Int) (st':Nat × Int):Prop where
 nx:Nx xs st k x st'
 ge:0<=x
 lt:1<=k->x<k
 zero:k<=1->x=0
 gd:Gd xs st'
theorem Gd.nb {xs:List Int} {st:Nat × Int} (h:Gd xs st) (k:Int):∃ x st',Nb xs st k x st':=by
 obtain⟨m,s⟩:=st;obtain⟨c,b,a⟩:=h;simp only at c b a;by_cases hk:k<=1
 ·exact⟨0,(m,s),⟨nx1 hk,Int.le_refl _,λ _=>by omega,λ _=>rfl,⟨c,b,a⟩⟩⟩
 ·have z:=seed1 b a;have e:∀ y:Int,0<=y % k∧y % k<k:=λ y=>⟨Int.emod_nonneg _ (by omega),Int.emod_lt_of_pos _ (by omega)⟩
  by_cases hm:m<xs.length
  ·have d:xs[m]?=some xs[m]:=List.getElem?_eq_getElem hm;by_cases h4:k<=256∧((m:Int)+1) % 2=0
   ·exact⟨_,_,⟨nx2 hk d h4.1 h4.2,(e _).1,λ _=>(e _).2,λ h=>absurd h hk,⟨hm,z.2.2.1,z.2.2.2⟩⟩⟩
   ·exact⟨_,_,⟨nx3 hk d h4,(e _).1,λ _=>(e _).2,λ h=>absurd h hk,⟨hm,z.2.2.1,z.2.2.2⟩⟩⟩
  ·exact⟨_,_,⟨nx4 hk hm,(e _).1,λ _=>(e _).2,λ h=>absurd h hk,⟨c,z.2.2.1,z.2.2.2⟩⟩⟩
section
variable {w0 w w':World} {B g cp:Nat} {A:Option Addr} {xs:List Int} {st st':Nat × Int} {k x:Int}
theorem _root_.Go.Proofs.YtjdefiinmicjiaaGreatDoor.DrawD.Dx.gd (h:Dx w0 B g A cp xs st w):Gd xs st:=⟨h.src.2.1,h.src.2.2.1,h.src.2.2.2⟩
theorem nextK (h:Dx w0 B g A cp xs st w) (n:Nx xs st k x st') (hk:k<=9223372036854775807) :
  Calls prog 23 #[.pointer (some ⟨g,0,none⟩),iL k] w λ e w'=>e=.returned (iL x)∧Dx w0 B g A cp xs st' w'∧w.grownBy w' (some g)∧w'.heap.size=w.heap.size:=by
 refine(nextX h k hk).mono ?_;rintro e w' ⟨y,t,⟨rfl,-,-,-,c⟩,f,d,b⟩;have a:(y,t)=(x,st'):=(show nx xs st k=(y,t) from c).symm.trans n;simp only [Prod.mk.injEq] at a;obtain⟨rfl,rfl⟩:=a;exact⟨rfl,f,d,b⟩
end
def Sq (D:Nat->World->Prop) (L:Nat->Prop) (ops:List Nat) (w:World):Prop:=∃ j,(∀ i o,ops[i]?=some o->(L o↔i<j))∧D j w
section
variable {D:Nat->World->Prop} {L:Nat->Prop} {ops:List Nat} {w w':World}
theorem Sq.zero (h:D 0 w) (hL:∀ o ∈ ops,¬ L o):Sq D L ops w:=⟨0,λ i o ho=>⟨λ h=>absurd h (hL o (List.mem_of_getElem? ho)),λ h=>absurd h (Nat.not_lt_zero _)⟩,h⟩
theorem Sq.at_ (h:Sq D L ops w) (i:Nat) {k:Nat} (hk:ops[i]?=some k) (hno:¬ L k) (hp:∀ i' o,i'<i->ops[i']?=some o->L o):D i w:=by
 obtain⟨j,b,c⟩:=h;have e:j<=i:=Nat.not_lt.1 (λ a=>hno ((b i k hk).2 a));have d:i<=j:=by
  cases i with
  | zero=>exact Nat.zero_le _
  | succ i' =>
   have a:i'<ops.length:=by have:=(List.getElem?_eq_some_iff.1 hk).1;omega
   exact(b i' _ (List.getElem?_eq_getElem a)).1 (hp i' _ (Nat.lt_succ_self _) (List.getElem?_eq_getElem a))
 obtain rfl:j=i:=Nat.le_antisymm e d;exact c
theorem Sq.all (h:Sq D L ops w) (n:Nat) (hn:ops.length=n) (hp:∀ o ∈ ops,L o) (hup:∀ j w,n<=j->D j w->D n w):D n w:=by
 obtain⟨j,b,c⟩:=h;refine hup j w ?_ c
 cases n with
 | zero=>exact Nat.zero_le _
 | succ n =>
  have a:n<ops.length:=by omega
  exact(b n _ (List.getElem?_eq_getElem a)).1 (hp _ (List.getElem_mem a))
theorem Sq.skip (h:Sq D L ops w) (k:Nat) (hk:∀ o ∈ ops,o≠k:=by decide):Sq D (λ j=>j=k∨L j) ops w:=by
 obtain⟨j,b,c⟩:=h;refine⟨j,λ i o a=>?_,c⟩;show (o=k∨L o)↔i<j
 rw [or_ne (hk o (List.mem_of_getElem? a))];exact b i o a
theorem Sq.call {i k:Nat} (h:Sq D L ops w) (hk:ops[i]?=some k) (hno:¬ L k) (hp:∀ i' o,i'<i->ops[i']?=some o->L o) (hd:ops.Nodup) (hD:D (i+1) w'):Sq D (λ j=>j=k∨L j) ops w':=by
 obtain⟨j,g,-⟩:=h;have p:j<=i:=Nat.not_lt.1 (λ a=>hno ((g i k hk).2 a));refine⟨i+1,λ i' o b=>?_,hD⟩;by_cases e:i'=i
 ·subst e;rw [hk] at b;obtain rfl:=Option.some.inj b;exact⟨λ _=>Nat.lt_succ_self _,λ _=>.inl rfl⟩
 ·have c:o≠k:=λ n=>by
   subst n;obtain⟨f,m⟩:=List.getElem?_eq_some_iff.1 b;obtain⟨d,l⟩:=List.getElem?_eq_some_iff.1 hk;rcases Nat.lt_or_gt_of_ne e with a | a
   ·exact(List.pairwise_iff_getElem.1 hd i' i f d a) (m.trans l.symm)
   ·exact(List.pairwise_iff_getElem.1 hd i i' d f a) (l.trans m.symm)
  show (o=k∨L o)↔i'<i+1
  rw [or_ne c];refine⟨λ a=>?_,λ a=>hp i' o (by omega) b⟩;have:=(g i' o b).1 a;omega
end
section
variable {L:Nat->Prop} {ops:List Nat} {a b c d:Nat}
theorem pv0:∀ i' o,i'<0->ops[i']?=some o->L o:=λ i' o h=>absurd h (Nat.not_lt_zero _)
theorem pv1 (e0:ops[0]?=some a) (h0:L a):∀ i' o,i'<1->ops[i']?=some o->L o:=λ i' o h ho=>by
 obtain rfl:i'=0:=by omega
 rw [e0] at ho;exact Option.some.inj ho ▸ h0
end
theorem al1 {L:Nat->Prop} {a:Nat} (h0:L a):∀ o ∈ [a],L o:=λ o h=>by simp at h;subst h;exact h0
theorem al2 {L:Nat->Prop} {a b:Nat} (h0:L a) (h1:L b):∀ o ∈ [a,b],L o:=λ o h=>by
 simp at h;rcases h with rfl | rfl
 ·exact h0
 ·exact h1
def Dd (w0 we:World) (B g:Nat) (A:Option Addr) (cp:Nat) (xs:List Int) (sts:List (Nat × Int)) (j:Nat) (w:World):Prop:=∃ st,sts[j]?=some st∧Dx w0 B g A cp xs st w∧we.grownBy w (some g)
section
variable {w0 we w w':World} {B g cp:Nat} {A:Option Addr} {xs:List Int} {sts:List (Nat × Int)} {L:Nat->Prop} {ops:List Nat}
abbrev SqD (w0 we:World) (B g:Nat) (A:Option Addr) (cp:Nat) (xs:List Int) (sts:List (Nat × Int)) (L:Nat->Prop) (ops:List Nat) (w:World):Prop:=Sq (Dd w0 we B g A cp xs sts) L ops w
theorem SqD.gr (h:SqD w0 we B g A cp xs sts L ops w):we.grownBy w (some g):=by obtain⟨j,c,b,e,d,a⟩:=h;exact a
theorem SqD.below (h:SqD w0 we B g A cp xs sts L ops w) (hb:Below w.heap.size w w'):SqD w0 we B g A cp xs sts L ops w':=by
 obtain⟨j,c,b,f,a,e⟩:=h;exact⟨j,c,b,f,a.below hb a.lt,grownBy_trans e ⟨hb.os,hb.tape,hb.output,hb.size,λ i d _=>hb.block i d⟩⟩
theorem SqD.at_ {st:Nat × Int} (h:SqD w0 we B g A cp xs sts L ops w) (i:Nat) (hs:sts[i]?=some st) {k:Nat} (hk:ops[i]?=some k) (hno:¬ L k) (hp:∀ i' o,i'<i->ops[i']?=some o->L o):Dx w0 B g A cp xs st w:=by
 obtain⟨b,a,c,d⟩:=Sq.at_ h i hk hno hp;rw [hs] at a;obtain rfl:=Option.some.inj a;exact c
theorem SqD.call {i k:Nat} {st:Nat × Int} (h:SqD w0 we B g A cp xs sts L ops w) (hs:sts[i+1]?=some st) (hk:ops[i]?=some k) (hno:¬ L k) (hp:∀ i' o,i'<i->ops[i']?=some o->L o) (hd:ops.Nodup) (hD:Dx w0 B g A cp xs st w') (hg:w.grownBy w' (some g)):SqD w0 we B g A cp xs sts (λ j=>j=k∨L j) ops w' :=
 Sq.call h hk hno hp hd ⟨st,hs,hD,grownBy_trans h.gr hg⟩
theorem SqD.end_ {st:Nat × Int} (h:SqD w0 we B g A cp xs sts L ops w) (n:Nat) (hn:ops.length=n) (hs:sts[n]?=some st) (hl:sts.length=n+1) (hp:∀ o ∈ ops,L o):Dx w0 B g A cp xs st w∧we.grownBy w (some g):=by
 obtain⟨b,a,d,c⟩:=Sq.all h n hn hp (λ j w hj ⟨s',e1,e2⟩=>by
  have:=(List.getElem?_eq_some_iff.1 e1).1;obtain rfl:j=n:=by omega
  exact⟨s',e1,e2⟩)
 rw [hs] at a;obtain rfl:=Option.some.inj a;exact⟨d,c⟩
end
theorem grown_own {a b c:World} {row row':Option Nat} (h:a.grownBy b row) (k:b.grownBy c row') (hk:∀ i,row'=some i->a.heap.size<=i):a.grownBy c row :=
 ⟨k.os.trans h.os,k.tape.trans h.tape,k.output.trans h.output,Nat.le_trans h.size k.size,λ i hi hr=>(k.block i (Nat.lt_of_lt_of_le hi h.size) (λ e=>by have:=hk i e.symm;omega)).trans (h.block i hi hr)⟩
theorem grown_bel {a b:World} {row:Option Nat} (h:Below a.heap.size a b):a.grownBy b row:=⟨h.os,h.tape,h.output,h.size,λ i hi _=>h.block i hi⟩
structure SqA (w0 we:World) (B g:Nat) (A:Option Addr) (cp:Nat) (xs:List Int) (sts:List (Nat × Int)) (L:Nat->Prop) (ops:List Nat) (pN:Prop) (P:World->Prop) (w:World):Prop where
 sq:¬ pN->SqD w0 we B g A cp xs sts L ops w
 fin:pN->P w
structure SqB (w0 we:World) (B g:Nat) (A:Option Addr) (cp:Nat) (xs:List Int) (sts:List (Nat × Int)) (L:Nat->Prop) (ops:List Nat) (pj pN:Prop) (vj:Value) (t:TypeId) (cs0 cs1:List Value) (w:World):Prop where
 sq:SqD w0 we B g A cp xs sts L ops w
 bx:pj->¬ pN->∃ q,vj=.pointer (some ⟨q,0,none⟩)∧we.heap.size<=q∧RowB w q t cs0
 fin:pN->∃ q,vj=.pointer (some ⟨q,0,none⟩)∧we.heap.size<=q∧RowB w q t cs1
section
variable {w0 we w w':World} {B g cp:Nat} {A:Option Addr} {xs:List Int} {sts:List (Nat × Int)} {L:Nat->Prop} {ops:List Nat} {N j:Nat} {P:World->Prop} {vals:Nat->Value} {t:TypeId} {cs0 cs1:List Value}
theorem SqA.skip (F:SqA w0 we B g A cp xs sts L ops (L N) P w) (k:Nat) (h:(ops.all (λ o=>o != k) && (N != k))=true:=by decide):SqA w0 we B g A cp xs sts (λ j=>j=k∨L j) ops (N=k∨L N) P w:=by
 simp only [Bool.and_eq_true,bne_iff_ne,ne_eq,List.all_eq_true] at h;rw [or_ne h.2];exact⟨λ a=>(F.sq a).skip k h.1,F.fin⟩
theorem SqA.call {i k:Nat} {st:Nat × Int} (F:SqA w0 we B g A cp xs sts L ops (L N) P w) (hN:¬ L N) (hs:sts[i+1]?=some st) (hk:ops[i]?=some k) (hno:¬ L k) (hp:∀ i' o,i'<i->ops[i']?=some o->L o) (hd:(decide ops.Nodup && (N != k))=true) (hD:Dx w0 B g A cp xs st w') (hg:w.grownBy w' (some g)):SqA w0 we B g A cp xs sts (λ j=>j=k∨L j) ops (N=k∨L N) P w':=by
 simp only [Bool.and_eq_true,decide_eq_true_eq,bne_iff_ne,ne_eq] at hd;rw [or_ne hd.2];exact⟨λ a=>(F.sq a).call hs hk hno hp hd.1 hD hg,λ h=>absurd h hN⟩
theorem SqA.last (h:P w'):SqA w0 we B g A cp xs sts (λ j=>j=N∨L j) ops (N=N∨L N) P w':=⟨λ hn=>absurd (.inl rfl) hn,λ _=>h⟩
theorem SqD.start {st:Nat × Int} (h:Dx w0 B g A cp xs st we) (hs:sts[0]?=some st) (hL:∀ o ∈ ops,¬ L o):SqD w0 we B g A cp xs sts L ops we.drew:=Sq.zero ⟨st,hs,h.drew,grown_bel (Below.refl _ _).drew⟩ hL
theorem SqA.start {pN:Prop} {st:Nat × Int} (h:Dx w0 B g A cp xs st we) (hs:sts[0]?=some st) (hL:∀ o ∈ ops,¬ L o) (hN:¬ pN):SqA w0 we B g A cp xs sts L ops pN P we.drew:=⟨λ _=>SqD.start h hs hL,λ h=>absurd h hN⟩
theorem SqB.skip (F:SqB w0 we B g A cp xs sts L ops (L j) (L N) (vals j) t cs0 cs1 w) (k:Nat) (u:Value) (h:(ops.all (λ o=>o != k) && (j != k) && (N != k))=true:=by decide):SqB w0 we B g A cp xs sts (λ j=>j=k∨L j) ops (j=k∨L j) (N=k∨L N) (upd vals k u j) t cs0 cs1 w:=by
 simp only [Bool.and_eq_true,bne_iff_ne,ne_eq,List.all_eq_true] at h;rw [or_ne h.1.2,or_ne h.2,upd_ne h.1.2];exact⟨F.sq.skip k h.1.1,F.bx,F.fin⟩
theorem SqB.below (F:SqB w0 we B g A cp xs sts L ops (L j) (L N) (vals j) t cs0 cs1 w) (hb:Below w.heap.size w w'):SqB w0 we B g A cp xs sts L ops (L j) (L N) (vals j) t cs0 cs1 w' :=
 ⟨F.sq.below hb,λ h hn=>by obtain⟨q,h1,h2,h3⟩:=F.bx h hn;exact⟨q,h1,h2,h3.below hb h3.lt⟩,λ h=>by obtain⟨q,h1,h2,h3⟩:=F.fin h;exact⟨q,h1,h2,h3.below hb h3.lt⟩⟩
theorem SqB.call {i k:Nat} {st:Nat × Int} {u:Value} (F:SqB w0 we B g A cp xs sts L ops (L j) (L N) (vals j) t cs0 cs1 w) (hgl:g<we.heap.size) (hs:sts[i+1]?=some st) (hk:ops[i]?=some k) (hno:¬ L k) (hp:∀ i' o,i'<i->ops[i']?=some o->L o) (hd:(decide ops.Nodup && (j != k) && (N != k))=true) (hD:Dx w0 B g A cp xs st w') (hg:w.grownBy w' (some g)):SqB w0 we B g A cp xs sts (λ j=>j=k∨L j) ops (j=k∨L j) (N=k∨L N) (upd vals k u j) t cs0 cs1 w':=by
 simp only [Bool.and_eq_true,decide_eq_true_eq,bne_iff_ne,ne_eq] at hd;rw [or_ne hd.1.2,or_ne hd.2,upd_ne hd.1.2];refine⟨F.sq.call hs hk hno hp hd.1.1 hD hg,λ h d=>?_,λ h=>?_⟩
 ·obtain⟨q,c,b,a⟩:=F.bx h d;exact⟨q,c,b,a.grown hg (λ k hk=>by simp at hk;omega)⟩
 ·obtain⟨q,c,b,a⟩:=F.fin h;exact⟨q,c,b,a.grown hg (λ k hk=>by simp at hk;omega)⟩
theorem SqB.box (F:SqB w0 we B g A cp xs sts L ops (L j) (L N) (vals j) t cs0 cs1 w) (hN:¬ L N) (h:(ops.all (λ o=>o != j) && (N != j))=true):SqB w0 we B g A cp xs sts (λ i=>i=j∨L i) ops (j=j∨L j) (N=j∨L N) (upd vals j (.pointer (some ⟨w.heap.size,0,none⟩)) j) t cs0 cs1 (w.alloc (.cells ⟨cs0⟩ t)):=by
 simp only [Bool.and_eq_true,bne_iff_ne,ne_eq,List.all_eq_true] at h;rw [or_ne h.2,upd_same];exact⟨(F.sq.below ((Below.refl _ _).alloc (Nat.le_refl _) _)).skip j h.1,λ _ _=>⟨_,rfl,F.sq.gr.size,RowB.new _ _ _⟩,λ a=>absurd a hN⟩
theorem SqB.wrote {q:Nat} {u:Value} (F:SqB w0 we B g A cp xs sts L ops (L j) (L N) (vals j) t cs0 cs1 w) (hgl:g<we.heap.size) (hBl:B<=g) (hv:vals j=.pointer (some ⟨q,0,none⟩)) (hq:we.heap.size<=q) (hr:RowB w' q t cs1) (hg:w.grownBy w' (some q)) (h:(ops.all (λ o=>o != N) && (j != N))=true):SqB w0 we B g A cp xs sts (λ i=>i=N∨L i) ops (j=N∨L j) (N=N∨L N) (upd vals N u j) t cs0 cs1 w':=by
 simp only [Bool.and_eq_true,bne_iff_ne,ne_eq,List.all_eq_true] at h;rw [upd_ne h.2];refine⟨Sq.skip ?_ N h.1,λ _ c=>absurd (.inl rfl) c,λ _=>⟨q,hv,hq,hr⟩⟩;obtain⟨i,d,b,l,f,e⟩:=F.sq;exact⟨i,d,b,l,f.grown hg (λ k a=>by simp at a;omega) (λ k a=>by simp at a;omega),grown_own e hg (λ k a=>by simp at a;omega)⟩
theorem SqB.start {pj pN:Prop} {vj:Value} {st:Nat × Int} (h:Dx w0 B g A cp xs st we) (hs:sts[0]?=some st) (hL:∀ o ∈ ops,¬ L o) (hj:¬ pj) (hN:¬ pN):SqB w0 we B g A cp xs sts L ops pj pN vj t cs0 cs1 we.drew:=⟨SqD.start h hs hL,λ h=>absurd h hj,λ h=>absurd h hN⟩
end
structure Ru (w0 w:World) (B g:Nat) (A:Option Addr) (cp:Nat) (xs:List Int) (st:Nat × Int) (t:TypeId) (cs:List Value) (W:World):Prop where
 D:Dx w0 B g A cp xs st W
 gr:w.grownBy W (some g)
 rr:RowB W w.heap.size t cs
 lt:g<w.heap.size
section
variable {w0 w W W':World} {B g cp:Nat} {A:Option Addr} {xs:List Int} {st st':Nat × Int} {t:TypeId} {cs:List Value}
theorem Ru.start (h:Dx w0 B g A cp xs st w):Ru w0 w B g A cp xs st t cs (w.alloc (.cells ⟨cs⟩ t)):=⟨h.alloc _,World.grownBy_alloc _ _ _,RowB.new _ _ _,h.lt⟩
theorem Ru.next (K:Ru w0 w B g A cp xs st t cs W) (hD:Dx w0 B g A cp xs st' W') (hg:W.grownBy W' (some g)):Ru w0 w B g A cp xs st' t cs W' :=
 ⟨hD,grownBy_trans K.gr hg,K.rr.grown hg (λ k hk=>by simp at hk;have:=K.lt;omega),K.lt⟩
theorem Ru.below (K:Ru w0 w B g A cp xs st t cs W) (hb:Below W.heap.size W W'):Ru w0 w B g A cp xs st t cs W' :=
 ⟨K.D.below hb K.D.lt,grownBy_trans K.gr (grown_bel hb),K.rr.below hb K.rr.lt,K.lt⟩
theorem Ru.alloc (K:Ru w0 w B g A cp xs st t cs W) (o:Obj):Ru w0 w B g A cp xs st t cs (W.alloc o):=K.below ((Below.refl _ _).alloc (Nat.le_refl _) _)
theorem Ru.put (K:Ru w0 w B g A cp xs st t cs W) {q:Nat} (hq:w.heap.size<q) (hg:W.grownBy W' (some q)):Ru w0 w B g A cp xs st t cs W':=by
 have l:=K.lt;have b:=K.D.base;exact⟨K.D.grown hg (λ k a=>by simp at a;omega) (λ k a=>by simp at a;omega),grown_own K.gr hg (λ i c=>by simp at c;omega),K.rr.grown hg (λ k a=>by simp at a;omega),K.lt⟩
theorem Ru.res {cs':List Value} (K:Ru w0 w B g A cp xs st t cs W) (h:RowB W' w.heap.size t cs') (hg:W.grownBy W' (some w.heap.size)):Ru w0 w B g A cp xs st t cs' W':=by
 have l:=K.lt;have b:=K.D.base;exact⟨K.D.grown hg (λ k a=>by simp at a;omega) (λ k a=>by simp at a;omega),grown_own K.gr hg (λ i c=>by simp at c;omega),h,K.lt⟩
end
structure Rx (w0 w:World) (B g:Nat) (A:Option Addr) (cp:Nat) (xs:List Int) (st:Nat × Int) (L:List (Nat × TypeId × List Value)) (W:World):Prop where
 D:Dx w0 B g A cp xs st W
 gr:w.grownBy W (some g)
 at_:∀ p ∈ L,RowB W (w.heap.size+p.1) p.2.1 p.2.2
 lt:g<w.heap.size
section
variable {w0 w W W':World} {B g cp:Nat} {A:Option Addr} {xs:List Int} {st st':Nat × Int} {L:List (Nat × TypeId × List Value)}
theorem Rx.next (K:Rx w0 w B g A cp xs st L W) (hD:Dx w0 B g A cp xs st' W') (hg:W.grownBy W' (some g)):Rx w0 w B g A cp xs st' L W' :=
 ⟨hD,grownBy_trans K.gr hg,λ p hp=>(K.at_ p hp).grown hg (λ k hk=>by simp at hk;have:=K.lt;omega),K.lt⟩
theorem Rx.below (K:Rx w0 w B g A cp xs st L W) (hb:Below W.heap.size W W'):Rx w0 w B g A cp xs st L W' :=
 ⟨K.D.below hb K.D.lt,grownBy_trans K.gr (grown_bel hb),λ p hp=>(K.at_ p hp).below hb (K.at_ p hp).lt,K.lt⟩
theorem Rx.nth (K:Rx w0 w B g A cp xs st L W) (i:Nat) {o:Nat} {t:TypeId} {cs:List Value} (h:L[i]?=some (o,t,cs)):RowB W (w.heap.size+o) t cs:=K.at_ _ (List.mem_of_getElem? h)
theorem Rx.nth0 (K:Rx w0 w B g A cp xs st L W) (i:Nat) {t:TypeId} {cs:List Value} (h:L[i]?=some (0,t,cs)):RowB W w.heap.size t cs:=K.at_ _ (List.mem_of_getElem? h)
theorem Rx.grown (K:Rx w0 w B g A cp xs st L W) (o:Nat) {t:TypeId} {new:List Value} (h:RowB W' (w.heap.size+o) t new) (hg:W.grownBy W' (some (w.heap.size+o))):Rx w0 w B g A cp xs st (L.map λ p=>if p.1=o then (o,t,new) else p) W':=by
 have l:=K.lt;have b:=K.D.base;refine⟨K.D.grown hg (λ k a=>by simp at a;omega) (λ k a=>by simp at a;omega),grown_own K.gr hg (λ i f=>by simp at f;omega),λ p d=>?_,K.lt⟩;obtain⟨q,c,rfl⟩:=List.mem_map.1 d;by_cases e:q.1=o
 ·rw [if_pos e];exact h
 ·rw [if_neg e];exact(K.at_ q c).grown hg (λ k a=>by simp at a;omega)
theorem Rx.put (K:Rx w0 w B g A cp xs st L W) {q:Nat} (hl:∀ p ∈ L,w.heap.size+p.1≠q) (hq:w.heap.size<=q) (hg:W.grownBy W' (some q)):Rx w0 w B g A cp xs st L W':=by
 have l:=K.lt;have b:=K.D.base;exact⟨K.D.grown hg (λ k a=>by simp at a;omega) (λ k a=>by simp at a;omega),grown_own K.gr hg (λ i d=>by simp at d;omega),λ p c=>(K.at_ p c).grown hg (λ k a=>by simp at a;have:=hl p c;omega),K.lt⟩
end
end DwQ
namespace PlP
structure Vr where
 p:Int
 c:Int
 h:Int
 s:Int
abbrev Bd:=List Int × List Int
abbrev Stp:=Int × Int × Int × Bool
abbrev Pl:=List Stp × Bd
def okV (v:Vr):Bool:=decide ((2<=v.p∧v.p<=24)∧(1<=v.c∧v.c<=15)∧(1<=v.h∧v.h<=v.p)∧1<=v.s∧v.s<=6)
def at_ (l:List Int) (i:Nat):Int:=l.getD i 0
def okS (v:Vr) (l:List Int):Bool:=decide ((l.length:Int)=v.p+1) && (l.all λ x=>decide (0<=x)) && decide (l.sum<=v.c)
def apart (v:Vr) (b:Bd):Nat->Bool
 | 0=>true
 | k+1=>apart v b k && !(decide (0<at_ b.1 k) && decide (0<at_ b.2 (v.p.toNat - 1 - k)))
def okB (v:Vr) (b:Bd):Bool:=okV v && okS v b.1 && okS v b.2 && !(decide (b.1.sum=0) && decide (b.2.sum=0)) && apart v b v.p.toNat
def over (b:Bd):Bool:=decide (b.1.sum=0) || decide (b.2.sum=0)
def lastU (l:List Int):Nat->Int
 | 0=>-1
 | k+1=>if 0<at_ l k then (k:Int) else lastU l k
def last (l:List Int):Int:=lastU l l.length
def stepP (v:Vr) (b:Bd) (f d:Int):Option Stp :=
 if at_ b.1 f.toNat=0∨(0<at_ b.1 v.p.toNat∧f≠v.p) then none
 else if 0<=f - d then
  (if at_ b.2 (v.p - 1 - (f - d)).toNat<=1 then some (f,f - d,d,decide (at_ b.2 (v.p - 1 - (f - d)).toNat=1)) else none)
 else if v.h<=last b.1∨(f - d < -1∧f<last b.1) then none
 else some (f,-1,d,false)
def lgU (v:Vr) (b:Bd) (d:Int):Nat->List Stp
 | 0=>[]
 | k+1=>lgU v b d k++(stepP v b (v.p - (k:Int)) d).toList
def legalP (v:Vr) (b:Bd) (d:Int):List Stp:=if over b then [] else lgU v b d (v.p.toNat+1)
def inc (l:List Int) (i:Nat) (x:Int):List Int:=l.set i (at_ l i+x)
def afterP (v:Vr) (b:Bd) (s:Stp):Bd :=
 (if 0<=s.2.1 then inc (inc b.1 s.1.toNat (-1)) s.2.1.toNat 1 else inc b.1 s.1.toNat (-1),
  if s.2.2.2 then inc (inc b.2 (v.p - 1 - s.2.1).toNat (-1)) v.p.toNat 1 else b.2)
def hasB (out:List Pl) (b:Bd):Bool:=out.any λ q=>decide (q.2=b)
def addOne (out:List Pl) (p:Pl):List Pl:=if hasB out p.2 then out else out++[p]
def nxIn (v:Vr) (p:Pl) (ss:List Stp) (out:List Pl):List Pl:=ss.foldl (λ o s=>addOne o (p.1++[s],afterP v p.2 s)) out
def nextP (v:Vr) (d:Int) (ps:List Pl):List Pl:=ps.foldl (λ o p=>nxIn v p (legalP v p.2 d) o) []
def rowsGo (v:Vr):List Int->List (List Pl)->Bool->List (List Pl) × Bool
 | [],rows,fine=>(rows,fine)
 | d :: ds,rows,fine =>
  let nx:=nextP v d (rows.getLastD [])
  if nx.length=0 then (rows,fine) else rowsGo v ds (rows++[nx]) (fine && decide (nx.length<=3000))
def rowsP (v:Vr) (b:Bd) (ds:List Int):List (List Pl) × Bool:=rowsGo v ds [[([],b)]] true
def lngGo (v:Vr):List Int->List Pl->Nat->Bool->List Pl × Nat × Bool
 | [],ps,k,fine=>(ps,k,fine)
 | d :: ds,ps,k,fine =>
  let nx:=nextP v d ps
  if nx.length=0 then (ps,k,fine && decide (nx.length<=3000)) else lngGo v ds nx (k+1) (fine && decide (nx.length<=3000))
def lngP (v:Vr) (b:Bd) (ds:List Int):List Pl × Nat × Bool:=lngGo v ds [([],b)] 0 true
def ordP (a b:Int):List (List Int):=if a=b then [[a,a,a,a]] else [[a,b],[b,a]]
def addAll (out ps:List Pl):List Pl:=ps.foldl addOne out
def usedP (v:Vr) (b:Bd):List (List Int)->Nat
 | []=>0
 | o :: os=>max (lngP v b o).2.1 (usedP v b os)
def allGo (v:Vr) (b:Bd) (u:Nat):Nat->List (List Int)->List Pl->Bool->List Pl × Bool
 | _,[],out,fine=>(out,fine)
 | i,o :: os,out,fine =>
  let l:=lngP v b o
  allGo v b u (i+1) os (if l.2.1≠u∨(u=1∧i=1∧0<out.length) then out else addAll out l.1) (fine && l.2.2)
def allP (v:Vr) (b:Bd) (x y:Int):List Pl × Bool:=allGo v b (usedP v b (ordP x y)) 0 (ordP x y) [] true
theorem at_get {l:List Int} {i:Nat} (h:i<l.length):l[i]?=some (at_ l i):=by
 unfold at_;rw [List.getD_eq_getElem?_getD,List.getElem?_eq_getElem h];rfl
theorem at_out {l:List Int} {i:Nat} (h:l.length<=i):at_ l i=0:=by
 unfold at_;rw [List.getD_eq_getElem?_getD,List.getElem?_eq_none h];rfl
theorem inc_len (l:List Int) (i:Nat) (x:Int):(inc l i x).length=l.length:=by unfold inc;simp
theorem inc_at (l:List Int) (i j:Nat) (x:Int) (h:i<l.length):at_ (inc l i x) j=if j=i then at_ l i+x else at_ l j:=by
 unfold inc at_;rw [List.getD_eq_getElem?_getD,List.getElem?_set];by_cases e:i=j
 ·subst e;simp [h]
 ·rw [if_neg e,if_neg (λ h=>e h.symm),List.getD_eq_getElem?_getD]
theorem sum_set:∀(l:List Int) (i:Nat) (x:Int),i<l.length->(l.set i x).sum=l.sum - at_ l i+x:=by
 intro l
 induction l with
 | nil=>intro i x h;simp at h
 | cons y l ih =>
  intro i x h
  cases i with
  | zero=>simp [at_];omega
  | succ i =>
   have:=ih i x (by simpa using h);simp only [List.set_cons_succ,List.sum_cons,at_,List.getD_cons_succ] at *;omega
theorem inc_sum (l:List Int) (i:Nat) (x:Int) (h:i<l.length):(inc l i x).sum=l.sum+x:=by
 unfold inc;rw [sum_set l i _ h];omega
theorem sum_nn:∀(l:List Int),(∀ i,0<=at_ l i)->0<=l.sum∧∀ i,at_ l i<=l.sum:=by
 intro l
 induction l with
 | nil=>intro _;exact⟨by simp,λ i=>by simp [at_]⟩
 | cons x l ih =>
  intro h;have b:=h 0;have a:=ih (λ i=>by have:=h (i+1);simpa [at_] using this);simp only [at_,List.getD_cons_zero] at b;refine⟨by simp;omega,λ i=>?_⟩
  cases i with
  | zero=>simp [at_];omega
  | succ i=>have:=a.2 i;simp only [at_,List.getD_cons_succ,List.sum_cons] at *;omega
structure Sd (v:Vr) (l:List Int):Prop where
 len:(l.length:Int)=v.p+1
 nn:∀ i,0<=at_ l i
 sum:l.sum<=v.c
theorem okS_iff {v:Vr} {l:List Int}:okS v l=true↔Sd v l:=by
 unfold okS;simp only [Bool.and_eq_true,decide_eq_true_eq,List.all_eq_true]
 constructor
 ·rintro⟨⟨h1,h2⟩,h3⟩;refine⟨h1,λ i=>?_,h3⟩;rcases Nat.lt_or_ge i l.length with h | h
  ·exact h2 _ (List.mem_of_getElem? (at_get h))
  ·rw [at_out h];exact Int.le_refl _
 ·rintro⟨h1,h2,h3⟩;refine⟨⟨h1,λ x b=>?_⟩,h3⟩;obtain⟨i,a⟩:=List.getElem?_of_mem b;have c:=(List.getElem?_eq_some_iff.1 a).1;rw [at_get c] at a;have:=h2 i;simp only [Option.some.injEq] at a;omega
theorem Sd.top {v:Vr} {l:List Int} (h:Sd v l) (i:Nat):at_ l i<=v.c:=by
 have:=(sum_nn l h.nn).2 i;have:=h.sum;omega
theorem Sd.sum0 {v:Vr} {l:List Int} (h:Sd v l):0<=l.sum:=(sum_nn l h.nn).1
theorem okV_iff {v:Vr}:okV v=true↔(2<=v.p∧v.p<=24)∧(1<=v.c∧v.c<=15)∧(1<=v.h∧v.h<=v.p)∧1<=v.s∧v.s<=6:=by
 unfold okV;exact decide_eq_true_iff
theorem apart_iff {v:Vr} {b:Bd}:∀ k,apart v b k=true↔∀ i,i<k->¬ (0<at_ b.1 i∧0<at_ b.2 (v.p.toNat - 1 - i)):=by
 intro k
 induction k with
 | zero=>simp [apart]
 | succ k ih =>
  simp only [apart,Bool.and_eq_true,ih,Bool.not_eq_true',Bool.and_eq_false_iff,decide_eq_false_iff_not]
  constructor
  ·rintro⟨h1,h2⟩ i a;by_cases e:i=k
   ·subst e;omega
   ·exact h1 i (by omega)
  ·intro h;exact⟨λ i a=>h i (by omega),by have:=h k (by omega);omega⟩
structure Ok (v:Vr) (b:Bd):Prop where
 v1:(2<=v.p∧v.p<=24)∧(1<=v.c∧v.c<=15)∧(1<=v.h∧v.h<=v.p)∧1<=v.s∧v.s<=6
 own:Sd v b.1
 oth:Sd v b.2
 some_:¬ (b.1.sum=0∧b.2.sum=0)
 ap:∀ i,i<v.p.toNat->¬ (0<at_ b.1 i∧0<at_ b.2 (v.p.toNat - 1 - i))
theorem okB_iff {v:Vr} {b:Bd}:okB v b=true↔Ok v b:=by
 unfold okB;simp only [Bool.and_eq_true,okV_iff,okS_iff,Bool.not_eq_true',Bool.and_eq_false_iff,decide_eq_false_iff_not,apart_iff]
 constructor
 ·rintro⟨⟨⟨⟨h1,h2⟩,h3⟩,h4⟩,h5⟩;exact⟨h1,h2,h3,by omega,h5⟩
 ·rintro⟨h1,h2,h3,h4,h5⟩;exact⟨⟨⟨⟨h1,h2⟩,h3⟩,by omega⟩,h5⟩
theorem step_parts {v:Vr} {b:Bd} {f d:Int} {s:Stp} (hf:0<=f∧f<=v.p) (hb:Ok v b) (h:stepP v b f d=some s) :
  s.1=f∧s.2.2.1=d∧0<at_ b.1 f.toNat∧((0<=f - d∧s.2.1=f - d∧at_ b.2 (v.p - 1 - (f - d)).toNat<=1∧s.2.2.2=decide (at_ b.2 (v.p - 1 - (f - d)).toNat=1))∨(f - d<0∧s.2.1=-1∧s.2.2.2=false)):=by
 have c:=hb.own.nn f.toNat;unfold stepP at h;split at h
 ·cases h
 ·rename_i h1
  have a:0<at_ b.1 f.toNat:=by omega
  split at h
  ·split at h
   ·simp only [Option.some.injEq] at h;subst h;exact⟨rfl,rfl,a,.inl ⟨by assumption,rfl,by assumption,rfl⟩⟩
   ·cases h
  ·split at h
   ·cases h
   ·simp only [Option.some.injEq] at h;subst h;exact⟨rfl,rfl,a,.inr ⟨by omega,rfl,rfl⟩⟩
theorem after_ok {v:Vr} {b:Bd} {f d:Int} {s:Stp} (hf:0<=f∧f<=v.p) (hd:1<=d) (hb:Ok v b) (ho:over b=false) (h:stepP v b f d=some s):Ok v (afterP v b s):=by
 obtain⟨H,G,R,F⟩:=step_parts hf hb h;obtain⟨a,P,c,O⟩:=s;simp only at H G F;subst H G;have B:=hb.v1;have y:=hb.own.len;have D:=hb.oth.len;have K:=hb.own.sum0;have J:=hb.oth.sum0;have M:=hb.own.sum;have L:=hb.oth.sum;unfold over at ho;simp only [Bool.or_eq_false_iff,decide_eq_false_iff_not] at ho;have l:a.toNat<b.1.length:=by omega
 have o:∀ j,0<=at_ (inc b.1 a.toNat (-1)) j:=by
  intro j;rw [inc_at _ _ _ _ l];split
  ·omega
  ·exact hb.own.nn j
 rcases F with ⟨k0,rfl,k1,rfl⟩ | ⟨k0,rfl,rfl⟩
 ·have q:(a - c).toNat<(inc b.1 a.toNat (-1)).length:=by rw [inc_len];omega
  have x:(v.p - 1 - (a - c)).toNat<b.2.length:=by omega
  have N:(v.p - 1 - (a - c)).toNat=v.p.toNat - 1 - (a - c).toNat:=by omega
  have I:=hb.oth.nn (v.p - 1 - (a - c)).toNat;have k:(afterP v b (a,a - c,c,decide (at_ b.2 (v.p - 1 - (a - c)).toNat=1))).1=inc (inc b.1 a.toNat (-1)) (a - c).toNat 1:=by unfold afterP;simp only [if_pos k0]
  have r:∀ j,at_ (inc (inc b.1 a.toNat (-1)) (a - c).toNat 1) j=(if j=(a - c).toNat then at_ (inc b.1 a.toNat (-1)) (a - c).toNat+1 else at_ (inc b.1 a.toNat (-1)) j):=λ j=>inc_at _ _ _ _ q
  have E:Sd v (inc (inc b.1 a.toNat (-1)) (a - c).toNat 1):=by
   refine⟨by rw [inc_len,inc_len];exact y,λ j=>?_,by rw [inc_sum _ _ _ q,inc_sum _ _ _ l];omega⟩;rw [r];split
   ·have:=o (a - c).toNat;omega
   ·exact o j
  have m:(inc (inc b.1 a.toNat (-1)) (a - c).toNat 1).sum=b.1.sum:=by rw [inc_sum _ _ _ q,inc_sum _ _ _ l];omega
  by_cases hh:at_ b.2 (v.p - 1 - (a - c)).toNat=1
  ·have g:(afterP v b (a,a - c,c,decide (at_ b.2 (v.p - 1 - (a - c)).toNat=1))).2=inc (inc b.2 (v.p - 1 - (a - c)).toNat (-1)) v.p.toNat 1:=by unfold afterP;simp only [hh,decide_true,if_true]
   have w:v.p.toNat<(inc b.2 (v.p - 1 - (a - c)).toNat (-1)).length:=by rw [inc_len];omega
   have A:∀ j,at_ (inc (inc b.2 (v.p - 1 - (a - c)).toNat (-1)) v.p.toNat 1) j=(if j=v.p.toNat then at_ (inc b.2 (v.p - 1 - (a - c)).toNat (-1)) v.p.toNat+1 else at_ (inc b.2 (v.p - 1 - (a - c)).toNat (-1)) j):=λ j=>inc_at _ _ _ _ w
   have n:∀ j,at_ (inc b.2 (v.p - 1 - (a - c)).toNat (-1)) j=(if j=(v.p - 1 - (a - c)).toNat then at_ b.2 (v.p - 1 - (a - c)).toNat+-1 else at_ b.2 j):=λ j=>inc_at _ _ _ _ x
   have t:∀ j,0<=at_ (inc b.2 (v.p - 1 - (a - c)).toNat (-1)) j:=by
    intro j;rw [n];split
    ·omega
    ·exact hb.oth.nn j
   refine⟨B,?_,?_,?_,?_⟩
   ·rw [k];exact E
   ·rw [g];refine⟨by rw [inc_len,inc_len];exact D,λ j=>?_,by rw [inc_sum _ _ _ w,inc_sum _ _ _ x];omega⟩;rw [A];split
    ·have:=t v.p.toNat;omega
    ·exact t j
   ·rw [k,m];omega
   ·rw [k,g];intro i z;have C:¬ v.p.toNat - 1 - i=v.p.toNat:=by omega
    rw [A,if_neg C,n,r];by_cases ei:i=(a - c).toNat
    ·subst ei;rw [if_pos (by omega:v.p.toNat - 1 - (a - c).toNat=(v.p - 1 - (a - c)).toNat)];omega
    ·rw [if_neg ei,if_neg (by omega:¬ v.p.toNat - 1 - i=(v.p - 1 - (a - c)).toNat),inc_at _ _ _ _ l];have:=hb.ap i z;have Q:=hb.own.nn i;split
     ·rename_i e;subst e;omega
     ·exact this
  ·have g:(afterP v b (a,a - c,c,decide (at_ b.2 (v.p - 1 - (a - c)).toNat=1))).2=b.2:=by unfold afterP;simp only [hh,decide_false,Bool.false_eq_true,if_false]
   refine⟨B,?_,?_,?_,?_⟩
   ·rw [k];exact E
   ·rw [g];exact hb.oth
   ·rw [k,m,g];omega
   ·rw [k,g];intro i z;rw [r];by_cases ei:i=(a - c).toNat
    ·subst ei;rw [<-N];omega
    ·rw [if_neg ei,inc_at _ _ _ _ l];have:=hb.ap i z;split
     ·rename_i e;subst e;omega
     ·exact this
 ·have k:(afterP v b (a,-1,c,false)).1=inc b.1 a.toNat (-1):=by unfold afterP;simp
  have g:(afterP v b (a,-1,c,false)).2=b.2:=by unfold afterP;simp
  refine⟨B,?_,?_,?_,?_⟩
  ·rw [k];exact⟨by rw [inc_len];exact y,o,by rw [inc_sum _ _ _ l];omega⟩
  ·rw [g];exact hb.oth
  ·rw [g];omega
  ·rw [k,g];intro i z;rw [inc_at _ _ _ _ l];have:=hb.ap i z;split
   ·rename_i e;subst e;omega
   ·exact this
end PlP
namespace PlP
theorem lgU_mem {v:Vr} {b:Bd} {d:Int} {s:Stp}:∀ k,s ∈ lgU v b d k->∃ j,j<k∧stepP v b (v.p - (j:Int)) d=some s:=by
 intro k
 induction k with
 | zero=>intro h;simp [lgU] at h
 | succ k ih =>
  intro h;simp only [lgU,List.mem_append] at h;rcases h with h | h
  ·obtain⟨j,c,a⟩:=ih h;exact⟨j,by omega,a⟩
  ·refine⟨k,by omega,?_⟩
   cases e:stepP v b (v.p - (k:Int)) d with
   | none=>rw [e] at h;simp at h
   | some t=>rw [e] at h;simp at h;rw [h]
theorem legal_mem {v:Vr} {b:Bd} {d:Int} {s:Stp} (hv:0<=v.p) (h:s ∈ legalP v b d):over b=false∧∃ f,(0<=f∧f<=v.p)∧stepP v b f d=some s:=by
 unfold legalP at h;split at h
 ·simp at h
 ·rename_i ho
  obtain⟨j,c,a⟩:=lgU_mem _ h;exact⟨by simpa using ho,v.p - (j:Int),by omega,a⟩
theorem legal_ok {v:Vr} {b:Bd} {d:Int} {s:Stp} (hd:1<=d) (hb:Ok v b) (h:s ∈ legalP v b d):Ok v (afterP v b s):=by
 obtain⟨e,f,c,a⟩:=legal_mem (by have:=hb.v1;omega) h;exact after_ok c hd hb e a
theorem lgU_len (v:Vr) (b:Bd) (d:Int):∀ k,(lgU v b d k).length<=k:=by
 intro k
 induction k with
 | zero=>simp [lgU]
 | succ k ih =>
  simp only [lgU,List.length_append];have:((stepP v b (v.p - (k:Int)) d).toList).length<=1:=by cases stepP v b (v.p - (k:Int)) d <;> simp
  omega
theorem legal_len (v:Vr) (b:Bd) (d:Int):(legalP v b d).length<=v.p.toNat+1:=by
 unfold legalP;split
 ·simp
 ·exact lgU_len v b d _
theorem addOne_len (out:List Pl) (p:Pl):(addOne out p).length<=out.length+1:=by unfold addOne;split <;> simp
theorem addOne_mem {out:List Pl} {p q:Pl} (h:q ∈ addOne out p):q ∈ out∨q=p:=by
 unfold addOne at h;split at h
 ·exact .inl h
 ·simpa using h
theorem addOne_pos {out:List Pl} {p:Pl}:0<(addOne out p).length:=by
 unfold addOne;split
 ·rename_i h
  unfold hasB at h
  cases out with
  | nil=>simp at h
  | cons x l=>simp
 ·simp
theorem addOne_keep {out:List Pl} {p q:Pl} (h:q ∈ out):q ∈ addOne out p:=by
 unfold addOne;split
 ·exact h
 ·simp [h]
theorem nxIn_len (v:Vr) (p:Pl):∀(ss:List Stp) (out:List Pl),(nxIn v p ss out).length<=out.length+ss.length:=by
 intro ss
 induction ss with
 | nil=>intro out;simp [nxIn]
 | cons s ss ih =>
  intro out;have b:=ih (addOne out (p.1++[s],afterP v p.2 s));have a:=addOne_len out (p.1++[s],afterP v p.2 s);simp only [nxIn,List.foldl_cons,List.length_cons] at *;omega
theorem nxIn_mem {v:Vr} {p q:Pl}:∀(ss:List Stp) (out:List Pl),q ∈ nxIn v p ss out->q ∈ out∨∃ s ∈ ss,q=(p.1++[s],afterP v p.2 s):=by
 intro ss
 induction ss with
 | nil=>intro out h;exact .inl h
 | cons s ss ih =>
  intro out h;rcases ih _ h with h | ⟨t,ht,h⟩
  ·rcases addOne_mem h with h | h
   ·exact .inl h
   ·exact .inr ⟨s,List.mem_cons_self ..,h⟩
  ·exact .inr ⟨t,List.mem_cons_of_mem _ ht,h⟩
def nxGo (v:Vr) (d:Int) (ps:List Pl) (out:List Pl):List Pl:=ps.foldl (λ o p=>nxIn v p (legalP v p.2 d) o) out
theorem nxGo_len (v:Vr) (d:Int):∀(ps out:List Pl),(nxGo v d ps out).length<=out.length+ps.length*(v.p.toNat+1):=by
 intro ps
 induction ps with
 | nil=>intro out;simp [nxGo]
 | cons p ps ih =>
  intro out;have c:=ih (nxIn v p (legalP v p.2 d) out);have b:=nxIn_len v p (legalP v p.2 d) out;have a:=legal_len v p.2 d;simp only [nxGo,List.foldl_cons,List.length_cons,Nat.add_mul,Nat.one_mul] at *;omega
theorem nxGo_mem {v:Vr} {d:Int} {q:Pl}:∀(ps out:List Pl),q ∈ nxGo v d ps out->q ∈ out∨∃ p ∈ ps,∃ s ∈ legalP v p.2 d,q=(p.1++[s],afterP v p.2 s):=by
 intro ps
 induction ps with
 | nil=>intro out h;exact .inl h
 | cons p ps ih =>
  intro out h;rcases ih _ h with h | ⟨r,hr,h⟩
  ·rcases nxIn_mem _ _ h with h | ⟨s,hs,h⟩
   ·exact .inl h
   ·exact .inr ⟨p,List.mem_cons_self ..,s,hs,h⟩
  ·exact .inr ⟨r,List.mem_cons_of_mem _ hr,h⟩
def RowOk (v:Vr) (k:Nat) (ps:List Pl):Prop:=∀ p ∈ ps,Ok v p.2∧p.1.length=k
theorem next_ok {v:Vr} {d:Int} {ps:List Pl} {k:Nat} (hd:1<=d) (h:RowOk v k ps):RowOk v (k+1) (nextP v d ps):=by
 intro q a;rcases nxGo_mem ps [] a with h' | ⟨p,hp,s,hs,rfl⟩
 ·simp at h'
 ·exact⟨legal_ok hd (h p hp).1 hs,by simp [(h p hp).2]⟩
theorem next_len {v:Vr} {d:Int} {ps:List Pl}:(nextP v d ps).length<=ps.length*(v.p.toNat+1):=by
 have:=nxGo_len v d ps [];show (nxGo v d ps []).length<=_
 simpa using this
theorem rows_lng (v:Vr):∀(ds:List Int) (rows:List (List Pl)) (fine:Bool),rows≠[] ->
  lngGo v ds (rows.getLastD []) (rows.length - 1) fine=((rowsGo v ds rows fine).1.getLastD [],(rowsGo v ds rows fine).1.length - 1,(rowsGo v ds rows fine).2)∧(rowsGo v ds rows fine).1≠[]:=by
 intro ds
 induction ds with
 | nil=>intro rows fine h;exact⟨rfl,h⟩
 | cons d ds ih =>
  intro rows fine h;have c:1<=rows.length:=by cases rows with | nil=>exact absurd rfl h | cons x l=>simp
  simp only [lngGo,rowsGo];split
  ·rename_i h0
   refine⟨?_,h⟩;simp only [Prod.mk.injEq,true_and];rw [h0];simp
  ·have:=ih (rows++[nextP v d (rows.getLastD [])]) (fine && decide ((nextP v d (rows.getLastD [])).length<=3000)) (by simp);have b:(rows++[nextP v d (rows.getLastD [])]).getLastD []=nextP v d (rows.getLastD []):=by simp
   have a:(rows++[nextP v d (rows.getLastD [])]).length - 1=rows.length - 1+1:=by simp;omega
   rw [b,a] at this;exact this
theorem lng_rows (v:Vr) (b:Bd) (ds:List Int):lngP v b ds=((rowsP v b ds).1.getLastD [],(rowsP v b ds).1.length - 1,(rowsP v b ds).2)∧(rowsP v b ds).1≠[] :=
 rows_lng v ds [[([],b)]] true (by simp)
theorem lng_ok {v:Vr}:∀(ds:List Int) (ps:List Pl) (k:Nat) (fine:Bool),(∀ d ∈ ds,1<=d)->RowOk v k ps->0<ps.length ->
  RowOk v (lngGo v ds ps k fine).2.1 (lngGo v ds ps k fine).1∧0<(lngGo v ds ps k fine).1.length∧(lngGo v ds ps k fine).2.1<=k+ds.length:=by
 intro ds
 induction ds with
 | nil=>intro ps k fine _ h a;exact⟨h,a,Nat.le_refl _⟩
 | cons d ds ih =>
  intro ps k fine b h a;simp only [lngGo];split
  ·exact⟨h,a,by simp⟩
  ·rename_i h1
   have:=ih (nextP v d ps) (k+1) (fine && decide ((nextP v d ps).length<=3000)) (λ x c=>b x (List.mem_cons_of_mem _ c)) (next_ok (b d (List.mem_cons_self ..)) h) (by omega);refine⟨this.1,this.2.1,?_⟩;simp only [List.length_cons];omega
def usedR (all:List (List (List Pl))) (m:Nat):Nat:=all.foldl (λ m rows=>max m (rows.length - 1)) m
theorem addAll_pos {ps out:List Pl} (h:0<ps.length):0<(addAll out ps).length:=by
 have a:∀(ps out:List Pl),0<out.length->0<(addAll out ps).length:=by
  intro ps
  induction ps with
  | nil=>intro out h;exact h
  | cons p ps ih=>intro out h;exact ih _ addOne_pos
 cases ps with
 | nil=>simp at h
 | cons p ps=>exact a ps (addOne out p) addOne_pos
theorem addAll_mem {q:Pl}:∀(ps out:List Pl),q ∈ addAll out ps->q ∈ out∨q ∈ ps:=by
 intro ps
 induction ps with
 | nil=>intro out h;exact .inl h
 | cons p ps ih =>
  intro out h;rcases ih _ h with h | h
  ·rcases addOne_mem h with h | h
   ·exact .inl h
   ·exact .inr (by rw [h];exact List.mem_cons_self ..)
  ·exact .inr (List.mem_cons_of_mem _ h)
theorem allP_ok {v:Vr} {b:Bd} {x y:Int} (hb:Ok v b) (hx:1<=x) (hy:1<=y):(∀ p ∈ (allP v b x y).1,Ok v p.2∧p.1.length<=4)∧0<(allP v b x y).1.length:=by
 have s:∀ o ∈ ordP x y,(∀ p ∈ (lngP v b o).1,Ok v p.2∧p.1.length<=4)∧0<(lngP v b o).1.length:=by
  intro o c;have r:o.length<=4∧∀ d ∈ o,1<=d:=by
   unfold ordP at c;split at c
   ·simp at c;subst c;exact⟨by simp,by intro d B;simp at B;omega⟩
   ·simp at c;rcases c with rfl | rfl <;> exact⟨by simp,by intro d B;simp at B;omega⟩
  have:=lng_ok (v:=v) o [([],b)] 0 true r.2 (by intro p m;simp at m;subst m;exact⟨hb,rfl⟩) (by simp);refine⟨λ p m=>?_,this.2.1⟩;have f:=this.1 p m;refine⟨f.1,?_⟩;have:=this.2.2;have:=r.1;rw [f.2];omega
 have C:∀(u:Nat) (l:List (List Int)) (i:Nat) (out:List Pl) (a:Bool),(∀ o ∈ l,o ∈ ordP x y)->(∀ p ∈ out,Ok v p.2∧p.1.length<=4) ->
   (∀ p ∈ (allGo v b u i l out a).1,Ok v p.2∧p.1.length<=4)∧(0<out.length->0<(allGo v b u i l out a).1.length):=by
  intro u l
  induction l with
  | nil=>intro i out a _ c;exact⟨c,λ h=>h⟩
  | cons o l ih =>
   intro i out a k c;have f:=s o (k o (List.mem_cons_self ..));simp only [allGo];split
   ·exact ih _ _ _ (λ q w=>k q (List.mem_cons_of_mem _ w)) c
   ·have:=ih (i+1) (addAll out (lngP v b o).1) (a && (lngP v b o).2.2) (λ q w=>k q (List.mem_cons_of_mem _ w)) (λ p m=>by
     rcases addAll_mem _ _ m with h | h
     ·exact c p h
     ·exact f.1 p h)
    exact⟨this.1,λ _=>this.2 (addAll_pos f.2)⟩
 refine⟨(C _ _ 0 [] true (λ o c=>c) (by simp)).1,?_⟩;unfold allP;by_cases e:x=y
 ·have n:ordP x y=[[x,x,x,x]]:=by unfold ordP;rw [if_pos e]
  rw [n];have f:=s [x,x,x,x] (by rw [n];simp);simp only [allGo,usedP];simp;exact addAll_pos f.2
 ·have n:ordP x y=[[x,y],[y,x]]:=by unfold ordP;rw [if_neg e]
  rw [n];have f:=s [x,y] (by rw [n];simp);have F:=s [y,x] (by rw [n];simp);have E:∀ out,addAll out (lngP v b [x,y]).1≠[]:=λ out h=>by have:=addAll_pos (out:=out) f.2;rw [h] at this;simp at this
  have D:∀ out,addAll out (lngP v b [y,x]).1≠[]:=λ out h=>by have:=addAll_pos (out:=out) F.2;rw [h] at this;simp at this
  simp only [allGo,usedP];obtain⟨g,A⟩:=eX ((lngP v b [x,y]).2.1);obtain⟨j,z⟩:=eX ((lngP v b [y,x]).2.1);simp only [A,z];refine List.length_pos_iff.2 ?_;by_cases c1:j<=g
  ·have t:max g (max j 0)=g:=by omega
   rw [t];simp only [ne_eq,not_true_eq_false,false_or];rw [if_neg (by simp:¬ (g=1∧0=1∧0<([]:List Pl).length))];split
   ·exact E _
   ·exact D _
  ·have t:max g (max j 0)=j:=by omega
   have G:g≠j:=by omega
   rw [t];simp [G,D]
def swp (b:Bd):Bd:=(b.2,b.1)
theorem swp_ok {v:Vr} {b:Bd} (h:Ok v b):Ok v (swp b):=by
 refine⟨h.v1,h.oth,h.own,λ a=>h.some_ ⟨a.2,a.1⟩,λ i c a=>?_⟩;have:=h.ap (v.p.toNat - 1 - i) (by omega);rw [show v.p.toNat - 1 - (v.p.toNat - 1 - i)=i from by omega] at this;exact this ⟨a.2,a.1⟩
end PlP
namespace PlP
def keyP (b:Bd):List UInt8:=(b.1++b.2).map λ n=>UInt8.ofNat n.toNat
theorem list_ext {l m:List Int} (hl:l.length=m.length) (h:∀ i,i<l.length->at_ l i=at_ m i):l=m:=by
 refine List.ext_getElem? λ i=>?_
 rcases Nat.lt_or_ge i l.length with hi | hi
 ·rw [at_get hi,at_get (by omega),h i hi]
 ·rw [List.getElem?_eq_none hi,List.getElem?_eq_none (by omega)]
theorem key_side {v:Vr} {l m:List Int} (hl:Sd v l) (hm:Sd v m) (hc:v.c<=15) (h:l.map (λ n:Int=>UInt8.ofNat n.toNat)=m.map (λ n:Int=>UInt8.ofNat n.toNat)):l=m:=by
 have f:=hl.len;have e:=hm.len;refine list_ext (by omega) λ i b=>?_
 have a:=congrArg (λ l=>l[i]?) h;simp only [List.getElem?_map] at a;rw [at_get b,at_get (by omega:i<m.length)] at a;simp only [Option.map_some,Option.some.injEq] at a;have o:=hl.nn i;have k:=hl.top i;have j:=hm.nn i;have g:=hm.top i;have d:=congrArg UInt8.toNat a;rw [UInt8.toNat_ofNat_of_lt' (by show _<256;omega),UInt8.toNat_ofNat_of_lt' (by show _<256;omega)] at d;omega
theorem key_inj {v:Vr} {a b:Bd} (ha:Ok v a) (hb:Ok v b) (h:keyP a=keyP b):a=b:=by
 unfold keyP at h;have e:=ha.own.len;have d:=hb.own.len;have c:=ha.v1;rw [List.map_append,List.map_append] at h;have:=List.append_inj h (by simp;omega);exact Prod.ext (key_side ha.own hb.own (by omega) this.1) (key_side ha.oth hb.oth (by omega) this.2)
theorem has_key {v:Vr} {out:List Pl} {b:Bd} (ho:∀ q ∈ out,Ok v q.2) (hb:Ok v b):decide (keyP b ∈ out.map λ q=>keyP q.2)=hasB out b:=by
 unfold hasB
 cases h:out.any λ q=>decide (q.2=b) with
 | true =>
  obtain⟨q,c,a⟩:=List.any_eq_true.1 h;have a:=of_decide_eq_true a;refine decide_eq_true (List.mem_map.2 ⟨q,c,by rw [a]⟩)
 | false =>
  refine decide_eq_false λ d=>?_
  obtain⟨q,c,a⟩:=List.mem_map.1 d;have:=key_inj (ho q c) hb a;have e:=List.any_eq_false.1 h q c;exact e (decide_eq_true this)
end PlP
namespace PlP
theorem nxIn_snoc (v:Vr) (p:Pl) (ss:List Stp) (s:Stp) (out:List Pl):nxIn v p (ss++[s]) out=addOne (nxIn v p ss out) (p.1++[s],afterP v p.2 s):=by
 unfold nxIn;rw [List.foldl_append];rfl
theorem nxGo_snoc (v:Vr) (d:Int) (ps:List Pl) (p:Pl) (out:List Pl):nxGo v d (ps++[p]) out=nxIn v p (legalP v p.2 d) (nxGo v d ps out):=by
 unfold nxGo;rw [List.foldl_append];rfl
theorem next_go (v:Vr) (d:Int) (ps:List Pl):nextP v d ps=nxGo v d ps []:=rfl
theorem addOne_has {out:List Pl} {p:Pl} (h:hasB out p.2=true):addOne out p=out:=by unfold addOne;rw [if_pos h]
theorem addOne_new {out:List Pl} {p:Pl} (h:hasB out p.2=false):addOne out p=out++[p]:=by unfold addOne;rw [if_neg (by rw [h];simp)]
theorem addAll_snoc (out ps:List Pl) (p:Pl):addAll out (ps++[p])=addOne (addAll out ps) p:=by
 unfold addAll;rw [List.foldl_append];rfl
theorem takeS {α:Type} {l:List α} {k:Nat} {x:α} (h:l[k]?=some x):l.take (k+1)=l.take k++[x]:=by
 rw [List.take_add_one,h];rfl
structure Coll (v:Vr) (k m:Nat) (out:List Pl):Prop where
 ok:RowOk v k out
 len:out.length<=m
theorem Coll.nil (v:Vr) (k:Nat):Coll v k 0 []:=⟨λ q hq=>by simp at hq,Nat.le_refl _⟩
theorem Coll.more {v:Vr} {k m m':Nat} {out:List Pl} (h:Coll v k m out) (hm:m<=m'):Coll v k m' out:=⟨h.ok,Nat.le_trans h.len hm⟩
theorem Coll.add {v:Vr} {k m:Nat} {out:List Pl} {p:Pl} (h:Coll v k m out) (hp:Ok v p.2∧p.1.length=k):Coll v k (m+1) (addOne out p):=by
 refine⟨λ q a=>?_,?_⟩
 ·rcases addOne_mem a with a | rfl
  ·exact h.ok q a
  ·exact hp
 ·have:=addOne_len out p;have:=h.len;omega
theorem row_sides {v:Vr} {k n:Nat} {out:List Pl} (h:RowOk v k out) (hn:(n:Int)=v.p+1):∀ q ∈ out,q.2.1.length=n∧q.2.2.length=n:=λ q hq=>by
 have h1:=(h q hq).1.own.len;have h2:=(h q hq).1.oth.len;omega
theorem legal_parts {v:Vr} {b:Bd} {d:Int} {s:Stp} (hd:1<=d) (hb:Ok v b) (h:s ∈ legalP v b d):(0<=s.1∧s.1<=v.p)∧(-1<=s.2.1∧s.2.1<v.p)∧(s.2.2.2=true->0<=s.2.1):=by
 obtain⟨m,f,e,j⟩:=legal_mem (by have:=hb.v1;omega) h;obtain⟨g,l,k,i⟩:=step_parts e hb j;rcases i with ⟨a,b1,-,-⟩ | ⟨a,b1,c⟩
 ·rw [g,b1];exact⟨e,by omega,λ _=>a⟩
 ·rw [g,b1,c];exact⟨e,by have:=hb.v1;omega,λ h=>by cases h⟩
end PlP
namespace PlP
def RowsOk (v:Vr) (rows:List (List Pl)):Prop:=∀ i row,rows[i]?=some row->RowOk v i row∧row.length<=25 ^ i
theorem RowsOk.snoc {v:Vr} {rows:List (List Pl)} {row:List Pl} (h:RowsOk v rows) (hr:RowOk v rows.length row∧row.length<=25 ^ rows.length):RowsOk v (rows++[row]):=by
 intro i r a;rcases Nat.lt_trichotomy i rows.length with h1 | h1 | h1
 ·rw [List.getElem?_append_left h1] at a;exact h i r a
 ·subst h1;rw [List.getElem?_append_right (Nat.le_refl _),Nat.sub_self] at a;simp at a;subst a;exact hr
 ·rw [List.getElem?_eq_none (by simp;omega)] at a;cases a
theorem rowsGo_ok {v:Vr} (hp:v.p.toNat+1<=25):∀(ds:List Int) (rows:List (List Pl)) (fine:Bool),(∀ d ∈ ds,1<=d)->rows≠[]->RowsOk v rows ->
  RowsOk v (rowsGo v ds rows fine).1∧(rowsGo v ds rows fine).1.length<=rows.length+ds.length∧rows.length<=(rowsGo v ds rows fine).1.length:=by
 intro ds
 induction ds with
 | nil=>intro rows fine _ _ h;exact⟨h,Nat.le_refl _,Nat.le_refl _⟩
 | cons d ds ih =>
  intro rows fine c a h;simp only [rowsGo];split
  ·exact⟨h,Nat.le_add_right _ _,Nat.le_refl _⟩
  ·obtain⟨m,b⟩:∃ m,rows.length=m+1:=by cases rows with | nil=>exact absurd rfl a | cons x l=>exact⟨l.length,rfl⟩
   have i:rows[m]?=some (rows.getLastD []):=by
    rw [List.getLastD_eq_getLast?,List.getLast?_eq_getElem?,b,Nat.add_sub_cancel,List.getElem?_eq_getElem (by omega)];rfl
   have e:=h m _ i;have g:RowOk v (m+1) (nextP v d (rows.getLastD []))∧(nextP v d (rows.getLastD [])).length<=25 ^ (m+1):=by
    refine⟨next_ok (c d (List.mem_cons_self ..)) e.1,Nat.le_trans next_len ?_⟩;rw [Nat.pow_succ];exact Nat.mul_le_mul e.2 hp
   have:=ih (rows++[nextP v d (rows.getLastD [])]) (fine && decide ((nextP v d (rows.getLastD [])).length<=3000)) (λ x f=>c x (List.mem_cons_of_mem _ f)) (by simp) (h.snoc (by rw [b];exact g));refine⟨this.1,?_,?_⟩
   ·have:=this.2.1;simp only [List.length_append,List.length_cons,List.length_nil] at *;omega
   ·have:=this.2.2;simp only [List.length_append,List.length_cons,List.length_nil] at *;omega
theorem rowsP_ok {v:Vr} {b:Bd} (hb:Ok v b) {ds:List Int} (hd:∀ d ∈ ds,1<=d) (hl:ds.length<=4):RowsOk v (rowsP v b ds).1∧1<=(rowsP v b ds).1.length∧(rowsP v b ds).1.length<=5:=by
 have f:=hb.v1;have:=rowsGo_ok (v:=v) (by omega) ds [[([],b)]] true hd (by simp) (by
  intro i e a
  cases i with
  | zero=>simp at a;subst a;exact⟨λ q c=>by simp at c;subst c;exact⟨hb,rfl⟩,by simp⟩
  | succ i=>simp at a)
 refine⟨this.1,?_,?_⟩
 ·have:=this.2.2;exact this
 ·have:=this.2.1;simp only [List.length_cons,List.length_nil] at this;unfold rowsP;omega
theorem drop_cons {α:Type} {l:List α} {k:Nat} {x:α} (h:l[k]?=some x):l.drop k=x :: l.drop (k+1):=by
 obtain⟨b,a⟩:=List.getElem?_eq_some_iff.1 h;rw [List.drop_eq_getElem_cons b,a]
end PlP
end Go.Proofs.YtjdefiinmicjiaaGreatDoor
