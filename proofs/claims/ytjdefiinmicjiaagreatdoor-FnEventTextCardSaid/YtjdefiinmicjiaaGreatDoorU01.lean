/- Parts of the proof of FnEventText. Conditions: each theorem's own. -/
import Derived.Below
import Derived.Laws.OwnMore
import Derived.Deep.AppendLies
import Derived.Deep.Draws
import Derived.Deep.Slices
import Derived.ChangeSlices
import Derived.ChangeArms
import Derived.Lib.SmallJoins
import Derived.Deep.Fields
import Derived.ChangeSame
import Derived.OpenShut
import Derived.Laws.MakeOwn
import Derived.Laws.NewBlocks
import Derived.Test.YtjdefiinmicjiaaGreatDoorRows
import Derived.WalkKit
import Derived.ProofKit
import Derived.Outline
import Derived.WalkLawsBesides
import Derived.Handy
import Derived.Deep.QuietTactic
import Derived.BigQuiet
import Derived.Deep.RegionHeld3
import Derived.Lib.Hide
import Derived.Deep.DeepCutAuto
import Derived.StillTailTactics
set_option linter.unusedVariables false
set_option linter.unusedSimpArgs false
set_option maxHeartbeats 8000000
set_option maxRecDepth 100000
namespace Go.Proofs.YtjdefiinmicjiaaGreatDoor
theorem kD {p:Prop} (h:p):Go.RowKit.Hid p:=h
theorem sX.{u} {α:Type u}:(∀ (l:List α) (i:Nat) (a:α),l.toArray.setIfInBounds i a=(l.set i a).toArray)∧(∀ (a b:α) (l:List α),(a :: l).set 0 b=b :: l)∧(∀ (a b:α) (l:List α) (n:Nat),(a :: l).set (n+1) b=a :: l.set n b):=⟨λ l i a=>by simp,λ a b l=>rfl,λ a b l n=>rfl⟩
theorem rL {a b:Prop} (h:a∨b) (d:¬a:=by decide):b:=h.resolve_left d
namespace Base
open Go Go.RowKit Go.ChangeShapes Go.WideShapes Go.Deep
def enI (x:Int):List Value:=[.int .i64 x]
def enB (x:Int):List Value:=[.int .u8 x]
def RdS {α:Type} (w:World) (B sz:Nat) (en:α->List Value) (A:Option Addr) (xs:List α):Prop :=
 xs.length<=maxLen∧(0<xs.length->∃ b off,A=some ⟨b,off,none⟩∧b<B∧∀ i x,xs[i]?=some x->∀ j u,(en x)[j]?=some u->w.cell? ⟨b,off+i*sz+j,none⟩=some u)
section
variable {α:Type} {w w':World} {B B' sz:Nat} {en:α->List Value} {A:Option Addr} {xs:List α}
theorem RdS.len (h:RdS w B sz en A xs):xs.length<=9223372036854775807:=by have:=h.1;unfold maxLen at this;omega
theorem RdS.at_ (h:RdS w B sz en A xs) {i:Nat} (hi:i<xs.length) :
  ∃ b off x,A=some ⟨b,off,none⟩∧b<B∧xs[i]?=some x∧∀ j u,(en x)[j]?=some u->w.cell? ⟨b,off+i*sz+j,none⟩=some u:=by
 obtain⟨b,off,rfl,c,a⟩:=h.2 (by omega);exact⟨b,off,xs[i],rfl,c,List.getElem?_eq_getElem hi,a i _ (List.getElem?_eq_getElem hi)⟩
theorem RdS.keep (h:RdS w B sz en A xs) (hk:∀ p:Addr,p.block<B->w'.cell? p=w.cell? p):RdS w' B sz en A xs :=
 ⟨h.1,λ hn=>by
  obtain⟨b,off,e,hb,hc⟩:=h.2 hn;exact⟨b,off,e,hb,λ i x hx j u hu=>(hk _ hb).trans (hc i x hx j u hu)⟩⟩
theorem RdS.more (h:RdS w B sz en A xs) (hB:B<=B'):RdS w B' sz en A xs :=
 ⟨h.1,λ hn=>by
  obtain⟨b,off,e,hb,hc⟩:=h.2 hn;exact⟨b,off,e,by omega,hc⟩⟩
theorem RdS.below (h:RdS w B sz en A xs) (hb:Below B' w w') (hB:B<=B'):RdS w' B sz en A xs:=h.keep λ _ hp=>hb.cell (by omega)
theorem rdI_at {xs:List Int} {k:IntKind} (h:RdS w B 1 (λ x:Int=>[Value.int k x]) A xs) {i:Nat} (hi:i<xs.length) :
  ∃ b off x,A=some ⟨b,off,none⟩∧b<B∧xs[i]?=some x∧w.cell? ⟨b,off+i,none⟩=some (.int k x):=by
 obtain⟨b,off,x,e,d,a,c⟩:=h.at_ hi;exact⟨b,off,x,e,d,a,by simpa using c 0 _ rfl⟩
end
def OwnS {α:Type} (w:World) (lo hi:Nat) (e:TypeId) (sz:Nat) (en:α->List Value) (v:Value) (xs:List α):Prop :=
 w.ownsRow lo e sz v xs.length (xs.flatMap en)∧∀ g,v.ownBlock=some g->g<hi
theorem flatMap_len {α:Type} {en:α->List Value} {sz:Nat} (hen:∀ x,(en x).length=sz) (xs:List α):(xs.flatMap en).length=xs.length*sz:=by
 induction xs with
 | nil=>simp
 | cons x xs ih=>simp [ih,hen,Nat.add_mul];omega
theorem flatMap_at {α:Type} {en:α->List Value} {sz:Nat} (hen:∀ x,(en x).length=sz):∀(xs:List α) (i:Nat) (x:α),xs[i]?=some x->∀ j u,(en x)[j]?=some u->(xs.flatMap en)[i*sz+j]?=some u:=by
 intro xs
 induction xs with
 | nil=>intro i x h;simp at h
 | cons y ys ih =>
  intro i x h j u a;have b:j<(en x).length:=(List.getElem?_eq_some_iff.1 a).1;rw [hen] at b;rw [List.flatMap_cons]
  cases i with
  | zero =>
   simp at h;subst h;rw [List.getElem?_append_left (by rw [hen];omega)]
   simpa using a
  | succ i =>
   simp at h;rw [List.getElem?_append_right (by rw [hen,Nat.succ_mul];omega),hen];have:=ih i x h j u a;rw [<-this]
   congr 1
   rw [Nat.succ_mul];omega
section
variable {α:Type} {w w':World} {lo hi sz:Nat} {e:TypeId} {en:α->List Value} {v:Value} {xs:List α}
theorem OwnS.below {B:Nat} (h:OwnS w lo hi e sz en v xs) (hb:Below B w w') (hB:hi<=B):OwnS w' lo hi e sz en v xs:=by
 refine⟨⟨h.1.1,?_⟩,h.2⟩;rcases h.1.2 with hn | ⟨g,cap,cur,rfl,hbg,hgg,rest⟩
 ·exact .inl hn
 ·have a:g<hi:=h.2 g rfl;refine .inr ⟨g,cap,cur,rfl,hbg,?_,rest⟩;rw [hb.block g (by omega)];exact hgg
theorem OwnS.form (hen:∀ x,(en x).length=sz) (h:OwnS w lo hi e sz en v xs):∃ A c,v=.slice A xs.length c∧RdS w hi sz en A xs:=by
 rcases h.1.2 with ⟨rfl,hn⟩ | ⟨g,cap,cur,rfl,hbg,hgg,hnc,hcm,hcs,ht⟩
 ·exact⟨none,0,by rw [hn],by rw [hn];exact Nat.zero_le _,λ f=>by omega⟩
 ·refine⟨some ⟨g,0,none⟩,cap,rfl,Nat.le_trans hnc hcm,λ _=>⟨g,0,rfl,h.2 g rfl,λ i x b j u d=>?_⟩⟩;have a:=flatMap_at hen xs i x b j u d;rw [<-ht] at a;rw [Nat.zero_add,cell_of_row w g (i*sz+j) cur e (0,0) hgg];rw [List.getElem?_take] at a;split at a
  ·simpa using a
  ·cases a
end
theorem rdI_open {H:Type} {enc:TypeId × Value->H} {P:Program} {w:World} {t e:TypeId} {k:IntKind} {fuel:Nat} {v:Value} {y:DataW H × List MemPlace}
  (ht:P.underlying t=some (.slice e)) (he:P.underlying e=some (.int k)) (hc:P.cellsOf e=1)
  (h:DataW.trod enc P w 0 (λ _=>true) true fuel t [v]=some y) :
  ∃ A c xs,v=.slice A xs.length c∧RdS w w.heap.size 1 (λ x:Int=>[Value.int k x]) A xs∧∀ x ∈ xs,(Lit.int k x).wf=true:=by
 rcases open_ints ht he hc h with ⟨hcs,_⟩ | ⟨a,len,cap,zs,hcs,_,hl,hm,hz,_,hcell,hwz⟩
 ·simp at hcs;subst hcs;exact⟨none,0,[],rfl,⟨Nat.zero_le _,λ s=>absurd s (by simp)⟩,by simp⟩
 ·simp at hcs;subst hcs;simp at hz;have d:(zs.take len).length=len:=by rw [List.length_take];omega
  refine⟨some a,cap,zs.take len,by rw [d],⟨by rw [d];omega,λ s=>?_⟩,λ x m=>hwz x (List.mem_of_mem_take m)⟩;obtain⟨b,f,l⟩:=a;have o:=hcell 0 (by omega);have g:l=none:=by simpa [Addr.add] using World.cell?_spot o
  subst g;have B:b<w.heap.size:=World.block_lt_of_cell? w _ (by simpa [Addr.add] using o);refine⟨b,f,rfl,B,λ i x m j u q=>?_⟩;have r:i<len:=by
   have:=(List.getElem?_eq_some_iff.1 m).1;rw [d] at this;exact this
  have z:j=0:=by
   have:=(List.getElem?_eq_some_iff.1 q).1;simp at this;exact this
  subst z;simp at q;subst q;have n:=hcell i (by omega);rw [List.getElem?_take,if_pos r] at m;have p:(⟨b,f,none⟩:Addr).add i=⟨b,f+i,none⟩:=by unfold Addr.add;split <;> simp_all
  rw [p,List.getD_eq_getElem?_getD,m] at n
  simpa using n
section
variable {H:Type} {enc:TypeId × Value->H} {P:Program} {w:World} {base:Nat} {spare:Nat->Bool} {held:Bool}
def FieldsRead (enc:TypeId × Value->H) (P:Program) (w:World) (base:Nat) (spare:Nat->Bool) (held:Bool) (fs:Array Field) (cs:List Value):Prop :=
 cs.length=fs.size∧∀(j:Nat) (f:Field),fs[j]?=some f->∃ c fu y,cs[j]?=some c∧DataW.trod enc P w base spare held fu f.type [c]=some y
end
theorem list2 {α:Type} {l:List α} (h:l.length=2):∃ a b,l=[a,b]:=by
 match l,h with | [a,b],_=>exact⟨a,b,rfl⟩
section
variable {H:Type} {enc:TypeId × Value->H} {P:Program} {w:World} {base:Nat} {spare:Nat->Bool} {held:Bool}
theorem FieldsRead.int {fs:Array Field} {cs:List Value} (h:FieldsRead enc P w base spare held fs cs) (j:Nat) {f:Field} {k:IntKind} (hj:fs[j]?=some f) (hk:P.underlying f.type=some (.int k)) :
  ∃ x,cs[j]?=some (.int k x)∧(Lit.int k x).wf=true:=by
 obtain⟨c,g,y,e,d⟩:=h.2 j f hj;obtain⟨x,b,_,a⟩:=DataW.trod_int hk d;simp at b;exact⟨x,by rw [e,b],a⟩
theorem FieldsRead.bool {fs:Array Field} {cs:List Value} (h:FieldsRead enc P w base spare held fs cs) (j:Nat) {f:Field} (hj:fs[j]?=some f) (hk:P.underlying f.type=some .bool) :
  ∃ x,cs[j]?=some (.bool x):=by
 obtain⟨c,e,y,d,b⟩:=h.2 j f hj;obtain⟨x,a,_⟩:=DataW.trod_bool hk b;simp at a;exact⟨x,by rw [d,a]⟩
end
theorem enI_len (x:Int):(enI x).length=1:=rfl
def RowB (w:World) (g:Nat) (e:TypeId) (cs:List Value):Prop:=w.heap[g]?=some (.cells ⟨cs⟩ e (0,0))
section
variable {w w':World} {g:Nat} {e:TypeId} {cs:List Value}
theorem RowB.lt (h:RowB w g e cs):g<w.heap.size:=(Array.getElem?_eq_some_iff.1 h).1
theorem RowB.cell (h:RowB w g e cs) (j:Nat):w.cell? ⟨g,j,none⟩=cs[j]?:=by
 rw [cell_of_row w g j ⟨cs⟩ e (0,0) h];simp
theorem RowB.frozen (h:RowB w g e cs) (j:Nat):w.frozen? ⟨g,j,none⟩=false:=by
 unfold RowB at h;simp [World.frozen?,h]
theorem RowB.set (h:RowB w g e cs) (j:Nat) (u:Value):RowB (w.setCell ⟨g,j,none⟩ u) g e (cs.set j u):=by
 unfold RowB at h ⊢;simp [World.setCell,Array.getElem?_modify,h]
theorem RowB.below {B:Nat} (h:RowB w g e cs) (hb:Below B w w') (hg:g<B):RowB w' g e cs:=(hb.block g hg).trans h
theorem RowB.drew (h:RowB w g e cs):RowB w.drew g e cs:=h
theorem RowB.alloc (h:RowB w g e cs) (o:Obj):RowB (w.alloc o) g e cs:=(Below.heap_alloc w o g h.lt).trans h
theorem RowB.other (h:RowB w g e cs) {p:Addr} (hp:g≠p.block) (u:Value):RowB (w.setCell p u) g e cs:=(Below.heap_setCell w p u g hp).trans h
theorem RowB.of_own {lo sz n:Nat} {xs:List Value} (h:w.ownsRow lo e sz (.slice (some ⟨g,0,none⟩) n n) n xs):RowB w g e xs:=by
 rcases h.2 with ⟨h',_⟩ | ⟨g',cap',cur,h',_,hg,_,_,hcs,ht⟩
 ·simp at h'
 ·simp only [Value.slice.injEq,Option.some.injEq,Addr.mk.injEq,and_true,true_and] at h';obtain⟨rfl,rfl⟩:=h';have:cur.toList=xs:=by rw [<-ht,List.take_of_length_le (by simp;omega)]
  unfold RowB;rw [hg,<-this]
theorem RowB.own {α:Type} {en:α->List Value} {sz lo hi:Nat} {xs:List α} (h:RowB w g e (xs.flatMap en)) (hen:∀ x,(en x).length=sz) (hlo:lo<=g) (hhi:g<hi) (hm:xs.length<=maxLen) :
  OwnS w lo hi e sz en (.slice (some ⟨g,0,none⟩) xs.length xs.length) xs:=by
 refine⟨⟨flatMap_len hen xs,.inr ⟨g,xs.length,⟨xs.flatMap en⟩,rfl,hlo,h,Nat.le_refl _,hm,?_,?_⟩⟩,λ b a=>?_⟩
 ·simpa using flatMap_len hen xs
 ·rw [List.take_of_length_le];rw [flatMap_len hen xs];exact Nat.le_refl _
 ·simp [Value.ownBlock] at a;omega
end
theorem made_rep (z:Value) (n:Nat):(madeCells #[z] n).toList=List.replicate n z:=toList_madeCells_one z n
theorem take_succ {α:Type} (xs:List α) (k:Nat) (x:α) (h:xs[k]?=some x):xs.take (k+1)=xs.take k++[x]:=by
 rw [List.take_add_one,h];rfl
theorem fill1 {α:Type} {en:α->List Value} {z:Value} {xs:List α} {k m:Nat} {x:α} {u0:Value} (hk:xs[k]?=some x) (hx:en x=[u0]) (hen:∀ x,(en x).length=1) :
  ((xs.take k).flatMap en++List.replicate (m+1) z).set k u0=(xs.take (k+1)).flatMap en++List.replicate m z:=by
 have b:k<xs.length:=(List.getElem?_eq_some_iff.1 hk).1;have a:((xs.take k).flatMap en).length=k:=by rw [flatMap_len hen,List.length_take];omega
 rw [take_succ xs k x hk,List.flatMap_append,List.set_append_right _ _ (by omega),a];simp [hx,List.replicate_succ]
section
variable {α:Type} {w w':World} {lo hi sz:Nat} {e:TypeId} {en:α->List Value} {v:Value} {xs:List α}
theorem OwnS.cases_ (h:OwnS w lo hi e sz en v xs) :
  (v=.slice none 0 0∧xs=[]) ∨
  ∃ g cap rest,v=.slice (some ⟨g,0,none⟩) xs.length cap∧lo<=g∧g<hi∧RowB w g e (xs.flatMap en++rest)∧xs.length<=cap∧cap<=maxLen∧xs.length*sz+rest.length=cap*sz:=by
 rcases h.1.2 with ⟨rfl,hn⟩ | ⟨g,cap,cur,rfl,hbg,hgg,hnc,hcm,hcs,ht⟩
 ·exact .inl ⟨rfl,List.eq_nil_of_length_eq_zero hn⟩
 ·refine .inr ⟨g,cap,cur.toList.drop (xs.length*sz),rfl,hbg,h.2 g rfl,?_,hnc,hcm,?_⟩
  ·unfold RowB;rw [<-ht,List.take_append_drop];exact hgg
  ·have a:xs.length*sz<=cap*sz:=Nat.mul_le_mul_right _ hnc;simp [hcs];omega
theorem OwnS.mk_ {g cap:Nat} {rest:List Value} (hen:∀ x,(en x).length=sz) (h:RowB w g e (xs.flatMap en++rest)) (hlo:lo<=g) (hhi:g<hi) (hnc:xs.length<=cap) (hcm:cap<=maxLen) (hl:xs.length*sz+rest.length=cap*sz) :
  OwnS w lo hi e sz en (.slice (some ⟨g,0,none⟩) xs.length cap) xs:=by
 refine⟨⟨flatMap_len hen xs,.inr ⟨g,cap,⟨xs.flatMap en++rest⟩,rfl,hlo,h,hnc,hcm,?_,?_⟩⟩,λ b a=>?_⟩
 ·simp only [List.size_toArray,List.length_append,flatMap_len hen];exact hl
 ·rw [<-flatMap_len hen xs];simp
 ·simp [Value.ownBlock] at a;omega
theorem OwnS.nil_ (w:World) (lo hi:Nat) (e:TypeId) (sz:Nat) (en:α->List Value):OwnS w lo hi e sz en (.slice none 0 0) [] :=
 ⟨World.ownsRow_nil w lo e sz,λ g hg=>by simp [Value.ownBlock] at hg⟩
theorem OwnS.grown {row:Option Nat} (h:OwnS w lo hi e sz en v xs) (hg:w.grownBy w' row) (hr:∀ g,row=some g->g<lo∨hi<=g):OwnS w' lo hi e sz en v xs:=by
 refine⟨h.1.kept hg ?_,h.2⟩
 cases hv:v.ownBlock with
 | none=>exact .inl rfl
 | some g =>
  refine .inr (λ e=>?_);have b:=h.2 g hv;have a:=(h.1.lt g hv).1;rcases hr g e.symm with h3 | h3 <;> omega
theorem OwnS.more {hi':Nat} (h:OwnS w lo hi e sz en v xs) (hh:hi<=hi'):OwnS w lo hi' e sz en v xs:=⟨h.1,λ g hg=>by have:=h.2 g hg;omega⟩
theorem OwnS.less {lo':Nat} (h:OwnS w lo hi e sz en v xs) (hh:lo'<=lo):OwnS w lo' hi e sz en v xs:=by
 refine⟨⟨h.1.1,?_⟩,h.2⟩;rcases h.1.2 with hn | ⟨g,cap,cur,rfl,hbg,rest⟩
 ·exact .inl hn
 ·exact .inr ⟨g,cap,cur,rfl,by omega,rest⟩
theorem OwnS.block (h:OwnS w lo hi e sz en v xs):∀ g,v.ownBlock=some g->lo<=g∧g<hi:=λ g hg=>⟨(h.1.lt g hg).1,h.2 g hg⟩
end
theorem grownBy_setCell (w:World) (g j:Nat) (u:Value):w.grownBy (w.setCell ⟨g,j,none⟩ u) (some g) :=
 ⟨rfl,rfl,rfl,by simp [World.setCell],λ k _ hk=>Below.heap_setCell _ _ _ _ (λ e=>hk (by simp [e]))⟩
theorem grownBy_trans {a b c:World} {row:Option Nat} (h:a.grownBy b row) (k:b.grownBy c row):a.grownBy c row :=
 ⟨k.os.trans h.os,k.tape.trans h.tape,k.output.trans h.output,Nat.le_trans h.size k.size,λ i hi hr=>(k.block i (Nat.lt_of_lt_of_le hi h.size) hr).trans (h.block i hi hr)⟩
theorem grownBy_refl (w:World) (row:Option Nat):w.grownBy w row:=⟨rfl,rfl,rfl,Nat.le_refl _,λ _ _ _=>rfl⟩
theorem bcell {B:Nat} {W W1:World} (hb:Below B W W1):(∀ b o,b<B->W1.cell? ⟨b,o,none⟩=W.cell? ⟨b,o,none⟩)∧(∀ b o,b<B->W1.frozen? ⟨b,o,none⟩=W.frozen? ⟨b,o,none⟩) :=
 ⟨λ b o h=>hb.cell (p:=⟨b,o,none⟩) h,λ b o h=>hb.frozen (p:=⟨b,o,none⟩) h⟩
theorem OwnS.setCell {α:Type} {w:World} {lo hi sz:Nat} {e:TypeId} {en:α->List Value} {v:Value} {xs:List α} (h:OwnS w lo hi e sz en v xs) {p:Addr} (hp:p.block<lo) (u:Value):OwnS (w.setCell p u) lo hi e sz en v xs :=
 ⟨ownsRow_setCell_below h.1 hp u,h.2⟩
theorem OwnS.alloc {α:Type} {w:World} {lo hi sz:Nat} {e:TypeId} {en:α->List Value} {v:Value} {xs:List α} (h:OwnS w lo hi e sz en v xs) (o:Obj):OwnS (w.alloc o) lo hi e sz en v xs :=
 ⟨h.1.alloc o,h.2⟩
theorem below_drewN {B:Nat} {a w:World} (h:Below B a w) (n:Nat):Below B a (w.drewN n):=⟨h.os,h.tape,h.output,h.size,h.block⟩
theorem Below.then_ {B B':Nat} {a b c:World} (h:Below B a b) (k:Below B' b c) (hB:B<=B'):Below B a c:=h.trans (k.mono hB)
theorem RowB.new (w:World) (e:TypeId) (cs:List Value):RowB (w.alloc (.cells ⟨cs⟩ e)) w.heap.size e cs:=heap_alloc_new w _
theorem RowB.drewN {w:World} {g:Nat} {e:TypeId} {cs:List Value} (h:RowB w g e cs) (n:Nat):RowB (w.drewN n) g e cs:=h
section
variable {w:World} {g:Nat} {t:TypeId} {a b c d e f:Value}
theorem RowB.c1 (h:RowB w g t [a]):w.cell? ⟨g,0,none⟩=some a:=h.cell 0
theorem RowB.c2 (h:RowB w g t [a,b]):w.cell? ⟨g,0,none⟩=some a∧w.cell? ⟨g,1,none⟩=some b:=⟨h.cell 0,h.cell 1⟩
theorem RowB.c3 (h:RowB w g t [a,b,c]):w.cell? ⟨g,0,none⟩=some a∧w.cell? ⟨g,1,none⟩=some b∧w.cell? ⟨g,2,none⟩=some c:=⟨h.cell 0,h.cell 1,h.cell 2⟩
theorem RowB.c4 (h:RowB w g t [a,b,c,d]):w.cell? ⟨g,0,none⟩=some a∧w.cell? ⟨g,1,none⟩=some b∧w.cell? ⟨g,2,none⟩=some c∧w.cell? ⟨g,3,none⟩=some d:=⟨h.cell 0,h.cell 1,h.cell 2,h.cell 3⟩
theorem RowB.c5 (h:RowB w g t [a,b,c,d,e]):w.cell? ⟨g,0,none⟩=some a∧w.cell? ⟨g,1,none⟩=some b∧w.cell? ⟨g,2,none⟩=some c∧w.cell? ⟨g,3,none⟩=some d∧w.cell? ⟨g,4,none⟩=some e:=⟨h.cell 0,h.cell 1,h.cell 2,h.cell 3,h.cell 4⟩
theorem RowB.c6 (h:RowB w g t [a,b,c,d,e,f]):w.cell? ⟨g,0,none⟩=some a∧w.cell? ⟨g,1,none⟩=some b∧w.cell? ⟨g,2,none⟩=some c∧w.cell? ⟨g,3,none⟩=some d∧w.cell? ⟨g,4,none⟩=some e∧w.cell? ⟨g,5,none⟩=some f:=⟨h.cell 0,h.cell 1,h.cell 2,h.cell 3,h.cell 4,h.cell 5⟩
end
theorem wp_gen {P:Program} {c:Code} {Q:Exit->Act->World->Prop} {a:Act} {W:World} (R:World->Prop) (h:R W) (k:∀ W',R W'->c.wp P Q a W'):c.wp P Q a W:=k W h
theorem OwnS.rd {α:Type} {w:World} {lo hi sz n c:Nat} {e:TypeId} {en:α->List Value} {A:Option Addr} {xs:List α} (hen:∀ x,(en x).length=sz) (h:OwnS w lo hi e sz en (.slice A n c) xs):RdS w hi sz en A xs:=by
 obtain⟨f,d,a,b⟩:=h.form hen;simp only [Value.slice.injEq] at a;obtain⟨rfl,_,_⟩:=a;exact b
theorem RdS.drew {α:Type} {w:World} {B sz:Nat} {en:α->List Value} {A:Option Addr} {xs:List α} (h:RdS w B sz en A xs):RdS w.drew B sz en A xs:=h
theorem RdS.grown {α:Type} {w w':World} {B sz:Nat} {en:α->List Value} {A:Option Addr} {xs:List α} {row:Option Nat} (h:RdS w B sz en A xs) (hg:w.grownBy w' row) (hB:B<=w.heap.size) (hr:∀ g,row=some g->B<=g):RdS w' B sz en A xs :=
 h.keep λ p hp=>World.cell?_of_block (hg.block p.block (by omega) (λ e=>by have:=hr _ e.symm;omega))
theorem RowB.grown {w w':World} {g:Nat} {e:TypeId} {cs:List Value} {row:Option Nat} (h:RowB w g e cs) (hg:w.grownBy w' row) (hr:∀ k,row=some k->k≠g):RowB w' g e cs :=
 (hg.block g h.lt (λ e'=>hr _ e'.symm rfl)).trans h
theorem below_grown {w w1 w':World} {row:Option Nat} (h:Below w.heap.size w w1) (hg:w1.grownBy w' row):w.grownBy w' row :=
 ⟨hg.os.trans h.os,hg.tape.trans h.tape,hg.output.trans h.output,Nat.le_trans h.size hg.size,λ k hk hr=>(hg.block k (Nat.lt_of_lt_of_le hk h.size) hr).trans (h.block k hk)⟩
theorem bp_row2 {P:Program} {fn:Func} {R:Ending->World->Prop} {a:Act} {w W:World} {g B:Nat} {t:TypeId} (cs:List Value) (b:Value) (h:Below B w W) (r:RowB W g t cs) (hv:∀ W',(∀ j,W'.cell? ⟨g,j,none⟩=cs[j]?)->(results fn a.tmps).run P W'=.ok (.tuple #[.agg ⟨cs⟩,b]) W') (hd:a.defers=[]) (k:∀ W',Below B w W'->R (.returned (.tuple #[.agg ⟨cs⟩,b])) W'):bodyPost P fn R .ret a W:=bodyPost_ret (hv W r.cell) hd (k W h)
theorem bp_gen {P:Program} {fn:Func} {R:Ending->World->Prop} {ex:Exit} {a:Act} {W:World} (S:World->Prop) (h:S W) (k:∀ W',S W'->bodyPost P fn R ex a W'):bodyPost P fn R ex a W:=k W h
theorem RowB.new' (w:World) (e:TypeId) (cs:List Value) {g:Nat} (hg:g=w.heap.size):RowB (w.alloc (.cells ⟨cs⟩ e)) g e cs:=by
 subst hg;exact RowB.new w e cs
end Base
namespace Own
open Go Go.RowKit Go.ChangeShapes Go.WideShapes Go.Deep Base
section
variable {P:Program} {w:World} {α:Type} {en:α->List Value}
theorem OwnS_of {lo g n cap:Nat} {e:TypeId} {sz:Nat} {xs:List α} (hn:n=xs.length) (h:w.ownsRow lo e sz (.slice (some ⟨g,0,none⟩) n cap) n (xs.flatMap en)) (hg:g<w.heap.size) :
  OwnS w lo w.heap.size e sz en (.slice (some ⟨g,0,none⟩) n cap) xs:=by
 subst hn;exact⟨h,λ b a=>by simp [Value.ownBlock] at a;omega⟩
theorem wpL_app {ops:Array Oper} {rest:List Oper} {o:Oper} {a:Act} {Q:Exit->Act->World->Prop} (hgd:o.guard=none) (s x:Operand) (t:TypeId)
  (ho:o.op=.call { callee:=.builtin .append,args:=#[s,x],argTypes:=#[t,t] })
  (lo hi:Nat) (e:TypeId) (i:TypeInfo) (z:Value) (sz bytes:Nat) (ht:P.underlying t=some (.slice e)) (hi0:P.info? e=some i) (hz:i.zero=some z)
  (hsize:i.size=sz) (hby:i.bytes=bytes) (hzs:z.cells.size=sz) (hsz:0<sz) (hen:∀ x,(en x).length=sz) (hone:∀ x,∀ u ∈ en x,u.oneCell'=true)
  (v:Value) (xs ys:List α) (hs:a.eval s=v) (hown:OwnS w lo hi e sz en v xs)
  (ad:Addr) (m c:Nat) (hx:a.eval x=.slice (some ad) m c) (hm:m=ys.length) (hnews:∀ j u,(ys.flatMap en)[j]?=some u->w.cell? (ad.add j)=some u)
  (hm0:0<m) (h63:xs.length+m<=maxLen) (hbytes:(xs.length+m)*bytes<=140737488355328) (hlo:lo<=w.heap.size)
  (h:∀ g cap w',OwnS w' lo w'.heap.size e sz en (.slice (some ⟨g,0,none⟩) (xs.length+m) cap) (xs++ys)->w.grownBy w' v.ownBlock->(v.ownBlock=some g∨g=w.heap.size)->g<w'.heap.size ->
   wpList P ops Q rest (a.put o.dst (.slice (some ⟨g,0,none⟩) (xs.length+m) cap)) w'):wpList P ops Q (o :: rest) a w:=by
 refine wpList_append_lies w hgd s x t ho lo e i z sz bytes ht hi0 hz hsize hby hzs hsz v xs.length (xs.flatMap en) hs hown.1 ad m c (ys.flatMap en) hx (by rw [flatMap_len hen,hm]) hnews ?_ hm0 h63 hbytes hlo _ rfl ?_
 ·intro u n;obtain⟨y,_,l⟩:=List.mem_flatMap.1 n;exact hone y u l
 ·intro g cap w' b f k d;rw [<-List.flatMap_append] at b;exact h g cap w' (OwnS_of (by rw [List.length_append,hm]) b d) f k d
end
theorem one_I (x:Int):∀ u ∈ enI x,u.oneCell'=true:=by intro u a;simp [enI] at a;subst a;rfl
theorem news_new {w:World} {g:Nat} {e:TypeId} {cs:List Value} (h:RowB w g e cs):∀ j u,cs[j]?=some u->w.cell? ((⟨g,0,none⟩:Addr).add j)=some u:=λ j u hu=>by
 have hadd:(⟨g,0,none⟩:Addr).add j=⟨g,j,none⟩:=by unfold Addr.add;split <;> simp_all
 rw [hadd,h.cell,hu]
def Apart (v u:Value):Prop:=∀ g,v.ownBlock=some g->u.ownBlock≠some g
theorem Apart.symm {v u:Value} (h:Apart v u):Apart u v:=λ g hg hv=>h g hv hg
end Own
namespace Ints
open Go.ChangeShapes Go.WideShapes Go.ChangeAt Go.RowKit Base
theorem info:(Tryz.prog.info? 2).map (λ i=>(i.zero,i.size,i.bytes))=some (some (.int .i64 0),1,8):=by kernel_rfl
end Ints
namespace Draw
open Go.ChangeShapes Go.WideShapes Go.ChangeAt Go.RowKit Base Ints Own
def Src (w:World) (g:Nat) (A:Option Addr) (n cp:Nat):Prop :=
 ∃ at_ seed:Int,RowB w g 89 [.slice A n cp,.int .i64 at_,.int .i64 seed]∧0<=at_∧at_<=n∧0<=seed∧seed<2147483647
theorem seed1 {s:Int} (h0:0<=s) (h1:s<2147483647):0<=s*48271+17∧s*48271+17<=103661183124325∧0<=(s*48271+17) % 2147483647∧(s*48271+17) % 2147483647<2147483647:=by omega
theorem grown_drewN {a b:World} {row:Option Nat} (h:a.grownBy b row) (n:Nat):a.grownBy (b.drewN n) row:=⟨h.os,h.tape,h.output,h.size,h.block⟩
theorem wpS {P:Program} {c:Code} {Q:Exit->Act->World->Prop} {a:Act} {W:World} (R:World->Prop) (h:R W) (k:∀ W',R W'->c.wp P Q a W'):c.wp P Q a W:=k W h
theorem seed2 {s x:Int} (h0:0<=s) (h1:s<2147483647) (x0:0<=x) (x1:x<=255):0<=s*43+x∧s*43+x<=92341797076∧0<=(s*43+x) % 2147483647∧(s*43+x) % 2147483647<2147483647:=by omega
end Draw
namespace DrawD
open Go.ChangeShapes Go.WideShapes Go.ChangeAt Go.RowKit Base Ints Own Draw
def nx (xs:List Int) (st:Nat × Int) (k:Int):Int × (Nat × Int) :=
 if k<=1 then (0,st)
 else if st.1<xs.length then
  (if k<=256∧((st.1:Int)+1) % 2=0 then xs.getD st.1 0 % k else ((st.2*48271+17) % 2147483647 / 11+xs.getD st.1 0) % k,st.1+1,(st.2*48271+17) % 2147483647)
 else ((st.2*48271+17) % 2147483647 / 11 % k,st.1,(st.2*48271+17) % 2147483647)
def sd (xs:List Int):Nat->Int
 | 0=>24157
 | j+1=>(sd xs j*43+xs.getD j 0) % 2147483647
def st0 (xs:List Int):Nat × Int:=(0,sd xs (min xs.length 64))
theorem nx1 {xs:List Int} {st:Nat × Int} {k:Int} (h:k<=1):nx xs st k=(0,st):=by unfold nx;rw [if_pos h]
theorem nx2 {xs:List Int} {m:Nat} {s k x:Int} (h:¬ k<=1) (hm:xs[m]?=some x) (h3:k<=256) (h4:((m:Int)+1) % 2=0):nx xs (m,s) k=(x % k,m+1,(s*48271+17) % 2147483647):=by
 have a:=(List.getElem?_eq_some_iff.1 hm).1;unfold nx;rw [if_neg h,if_pos a,if_pos ⟨h3,h4⟩,List.getD_eq_getElem?_getD,hm];rfl
theorem nx3 {xs:List Int} {m:Nat} {s k x:Int} (h:¬ k<=1) (hm:xs[m]?=some x) (h3:¬ (k<=256∧((m:Int)+1) % 2=0)):nx xs (m,s) k=(((s*48271+17) % 2147483647 / 11+x) % k,m+1,(s*48271+17) % 2147483647):=by
 have a:=(List.getElem?_eq_some_iff.1 hm).1;unfold nx;rw [if_neg h,if_pos a,if_neg h3,List.getD_eq_getElem?_getD,hm];rfl
theorem nx4 {xs:List Int} {m:Nat} {s k:Int} (h:¬ k<=1) (hm:¬ m<xs.length):nx xs (m,s) k=((s*48271+17) % 2147483647 / 11 % k,m,(s*48271+17) % 2147483647):=by
 unfold nx;rw [if_neg h,if_neg hm]
def SrcX (w:World) (g:Nat) (A:Option Addr) (n cp:Nat) (st:Nat × Int):Prop :=
 RowB w g 89 [.slice A n cp,.int .i64 st.1,.int .i64 st.2]∧st.1<=n∧0<=st.2∧st.2<2147483647
theorem SrcX.lt {w:World} {g:Nat} {A:Option Addr} {n cp:Nat} {st:Nat × Int} (h:SrcX w g A n cp st):g<w.heap.size:=h.1.lt
theorem SrcX.below {w w':World} {g:Nat} {A:Option Addr} {n cp B:Nat} {st:Nat × Int} (h:SrcX w g A n cp st) (hb:Below B w w') (hg:g<B):SrcX w' g A n cp st:=⟨h.1.below hb hg,h.2⟩
theorem SrcX.drew {w:World} {g:Nat} {A:Option Addr} {n cp:Nat} {st:Nat × Int} (h:SrcX w g A n cp st):SrcX w.drew g A n cp st:=h
theorem SrcX.grown {w w':World} {g:Nat} {A:Option Addr} {n cp:Nat} {st:Nat × Int} {row:Option Nat} (h:SrcX w g A n cp st) (hg:w.grownBy w' row) (hr:∀ k,row=some k->k≠g):SrcX w' g A n cp st:=⟨h.1.grown hg hr,h.2⟩
theorem SrcX.src {w:World} {g:Nat} {A:Option Addr} {n cp:Nat} {st:Nat × Int} (h:SrcX w g A n cp st):Src w g A n cp:=⟨st.1,st.2,h.1,by omega,by have:=h.2.1;omega,h.2.2.1,h.2.2.2⟩
theorem nextE (g B:Nat) (A:Option Addr) (n cp:Nat) (xs:List Int) (k:Int) (w:World) (st:Nat × Int) (r:Int) (st':Nat × Int) (hnx:nx xs st k=(r,st')) (hS:SrcX w g A n cp st) (hn:xs.length=n) (hr:RdS w B 1 enB A xs) (hB:B<=g) (hw:∀ x ∈ xs,(Lit.int .u8 x).wf=true) (hk:k<=9223372036854775807) :
  Calls Tryz.prog 23 #[.pointer (some ⟨g,0,none⟩),.int .i64 k] w λ e w'=>(e=.returned (.int .i64 r)∧0<=r∧(1<=k->r<k)∧(k<=1->r=0))∧SrcX w' g A n cp st'∧w.grownBy w' (some g)∧w'.heap.size=w.heap.size:=by
 have l:=kD hnx;clear hnx;by_cases h1:k<=1
 ·go_enter Tryz.func23,Tryz.ntmps23;go_wp2;go_ret;have a:=l.out;rw [nx1 h1] at a;simp only [Prod.mk.injEq] at a;obtain⟨rfl,rfl⟩:=a;exact⟨⟨rfl,by omega,λ _=>by omega,λ _=>rfl⟩,hS,grownBy_refl _ _,rfl⟩
 ·obtain⟨m,s⟩:=st;obtain⟨d,D,C,z⟩:=hS;replace D:m<=n:=D;replace C:0<=s:=C;replace z:s<2147483647:=z;replace d:RowB w g 89 [.slice A n cp,.int .i64 m,.int .i64 s]:=d;have K:=kD h1;have N:=hr.len;have X:=kD hn;have HW:=kD hw;rw [hn] at N;clear hn hw;obtain⟨J,I,H⟩:=d.c3;have G:=d.frozen;have ac:=d.lt;have hd:decide (k<=1)=false:=decide_eq_false h1;replace h1:=Int.not_le.1 h1;obtain⟨Z,Y,T,S⟩:=seed1 C z;have F:Hid (0<=(s*48271+17) % 2147483647∧(s*48271+17) % 2147483647<2147483647):=⟨T,S⟩;have P:Hid (∀ w':World,w.grownBy w' (some g)->RdS w' B 1 enB A xs):=λ w' hg=>hr.keep λ p hp=>World.cell?_of_block (hg.block p.block (by omega) (by simp;omega))
  have PW:Hid (∀ w':World,Below w.heap.size w w'->True):=λ _ _=>trivial
  go_enter Tryz.func23,Tryz.ntmps23;go_upto_region 4 with fail;refine wpS (λ t=>RowB t g 89 [.slice A n cp,.int .i64 m,.int .i64 ((s*48271+17) % 2147483647)]∧w.grownBy t (some g)∧t.heap.size=w.heap.size) ⟨d.set 2 _,grownBy_setCell _ _ _ _,by simp⟩ ?_;obtain⟨j,i⟩:∃ j,(s*48271+17) % 2147483647=j:=⟨_,rfl⟩;have q:=kD i;rw [i];rw [i] at T S F;clear i;clear J I H G d Z Y;rintro W ⟨d,c,f⟩;obtain⟨J,I,H⟩:=d.c3;have G:=d.frozen;have x0:0<=j / 11:=by omega
  have x1:j / 11<=195225786:=by omega
  by_cases h2:m<n
  ·obtain⟨b,y,x,rfl,hb,M,O⟩:=rdI_at (P.out W c) (by rw [X.out];exact h2);have L:=bounds_u8 (HW.out x (List.mem_of_getElem? M));obtain⟨ab,aa⟩:=L;have ae:b≠g:=by omega
   have Q:=kD M;clear M;have e1:IntKind.i64.wrap (j / 11+x)=j / 11+x:=IntWalk.i64_in _ (by omega);have e2:IntKind.i64.wrap ((m:Int)+1 - 1)=(m:Int):=by rw [IntWalk.i64_in _ (by omega)];omega
   have o:0<k:=by omega
   have v:=kD (show 0<=(j / 11+x) % k∧(j / 11+x) % k<k from⟨Int.emod_nonneg _ (by omega),Int.emod_lt_of_pos _ o⟩);have V:=kD (show 0<=x % k∧x % k<k from⟨Int.emod_nonneg _ (by omega),Int.emod_lt_of_pos _ o⟩);go_wp2_with fail;go_quiet (fail);go_wp2_with fail;go_quiet (fail);go_upto_region 8 with fail;refine wpS (λ t=>RowB t g 89 [.slice (some ⟨b,y,none⟩) n cp,.int .i64 ((m:Int)+1),.int .i64 j]∧w.grownBy t (some g)∧t.heap.size=w.heap.size∧t.cell? ⟨b,y+m,none⟩=some (.int .u8 x)) ⟨RowB.set d 1 _,grownBy_trans (grown_drewN c _) (grownBy_setCell _ _ _ _),by simpa using f,by rw [World.cell?_of_block (Below.heap_setCell _ _ _ _ (by show b≠g;omega))];exact O⟩ ?_;clear J I H G d c f O;rintro W5 ⟨d,c,f,O⟩;obtain⟨J,I,H⟩:=d.c3;have G:=d.frozen;have E:Hid (SrcX W5 g (some ⟨b,y,none⟩) n cp (m+1,j)):=⟨d,by show m+1<=n;omega,F.out.1,F.out.2⟩;by_cases h3:k<=256
   ·by_cases h4:((m:Int)+1) % 2=0
    ·have R:=kD h4;have e4:(((m:Int)+1) % 2 == 0)=true:=by simp [h4]
     clear h4;go_wp2_with fail;go_quiet (fail);go_wp2_with fail;go_ret;have a:=l.out;rw [nx2 (Int.not_le.2 K.out) Q.out (by omega) R.out,q.out] at a;simp only [Prod.mk.injEq] at a;obtain⟨rfl,rfl⟩:=a;exact⟨⟨rfl,V.out.1,λ _=>V.out.2,λ h=>by omega⟩,E.out,grown_drewN c _,f⟩
    ·have R:=kD h4;have e4:(((m:Int)+1) % 2 == 0)=false:=by simp [h4]
     clear h4;go_wp2_with fail;go_ret;have a:=l.out;rw [nx3 (Int.not_le.2 K.out) Q.out (λ h=>R.out h.2),q.out] at a;simp only [Prod.mk.injEq] at a;obtain⟨rfl,rfl⟩:=a;exact⟨⟨rfl,v.out.1,λ _=>v.out.2,λ h=>by omega⟩,E.out,c,f⟩
   ·have ad:decide (k<=256)=false:=decide_eq_false h3;replace h3:=Int.not_le.1 h3;go_wp2_with fail;go_ret;have a:=l.out;rw [nx3 (Int.not_le.2 K.out) Q.out (λ h=>by have:=h.1;omega),q.out] at a;simp only [Prod.mk.injEq] at a;obtain⟨rfl,rfl⟩:=a;exact⟨⟨rfl,v.out.1,λ _=>v.out.2,λ h=>by omega⟩,E.out,c,f⟩
  ·obtain rfl:m=n:=by omega
   have o:0<k:=by omega
   have v:=kD (show 0<=(j / 11) % k∧(j / 11) % k<k from⟨Int.emod_nonneg _ (by omega),Int.emod_lt_of_pos _ o⟩);have E:Hid (SrcX W g A m cp (m,j)):=⟨d,Nat.le_refl _,F.out.1,F.out.2⟩;go_wp2_with fail;go_quiet (fail);go_wp2_with fail;go_ret;have a:=l.out;rw [nx4 (Int.not_le.2 K.out) (by rw [X.out];omega),q.out] at a;simp only [Prod.mk.injEq] at a;obtain⟨rfl,rfl⟩:=a;exact⟨⟨rfl,v.out.1,λ _=>v.out.2,λ h=>by omega⟩,E.out,grown_drewN c _,f⟩
theorem fromE (B:Nat) (A:Option Addr) (cp:Nat) (xs:List Int) (w:World) (hB:B<=w.heap.size) (hr:RdS w B 1 enB A xs) (hw:∀ x ∈ xs,(Lit.int .u8 x).wf=true) :
  Calls Tryz.prog 19 #[.slice A xs.length cp] w λ e w'=>e=.returned (.pointer (some ⟨w.heap.size,0,none⟩))∧SrcX w' w.heap.size A xs.length cp (st0 xs)∧Below w.heap.size w w':=by
 have q:=hr.len;obtain⟨n,h⟩:∃ n,xs.length=n:=⟨_,rfl⟩;have t:=kD h;have I:=kD hw;rw [h] at q;rw [h];clear h hw;go_enter Tryz.func19,Tryz.ntmps19;go_wp2_with fail;go_loopw [4] (λ i wr=>∃ j:Nat,j<=n∧i=.int .i64 j∧Below w.heap.size w wr∧Hid (∃ s:Int,RowB wr w.heap.size 89 [.slice A n cp,.int .i64 0,.int .i64 s]∧0<=s∧s<2147483647∧s=sd xs j∧j<=64)) (λ i _=>n - (intOf i).toNat)
 case atStart=>exact⟨0,Nat.zero_le _,rfl,by go_grown,24157,RowB.new _ _ _,by omega,by omega,rfl,by omega⟩
 case round =>
  obtain⟨j,L,rfl,k,v⟩:=hrel;obtain⟨s,f,c,a,g,y⟩:=v.out;have d:=kD g;clear g;clear v;obtain⟨T,S,R⟩:=f.c3;have M:=f.frozen;have G:=f.lt;by_cases h1:j<n
  ·by_cases h2:j<64
   ·obtain⟨b,D,x,rfl,F,o,O⟩:=rdI_at (hr.below k hB) (by rw [t.out];exact h1);obtain⟨m,l⟩:=bounds_u8 (I.out x (List.mem_of_getElem? o));obtain⟨K,J,C,z⟩:=seed2 c a m l;have E:b≠w.heap.size:=by omega
    have Q:IntKind.i64.wrap (s*43)=s*43:=IntWalk.i64_in _ (by omega);have P:IntKind.i64.wrap (s*43+x)=s*43+x:=IntWalk.i64_in _ (by omega);have H:=kD o;clear o;go_wp2_with fail;go_still_tail 15,(by kernel_rfl);go_wp2_with fail;go_roundw
    case rel=>exact⟨j+1,by omega,by go_num,(k.setCell (p:=⟨w.heap.size,2,none⟩) (Nat.le_refl _) _).drew,_,RowB.drew (RowB.set f 2 _),C,z,by rw [d.out];show _=(sd xs j*43+xs.getD j 0) % 2147483647;rw [List.getD_eq_getElem?_getD,H.out];rfl,by omega⟩
    case measure=>simp [intOf];omega
   ·have N:decide ((j:Int)<64)=false:=decide_eq_false (by omega);have r:Hid (SrcX wr w.heap.size A n cp (st0 xs)):=by
     have e:st0 xs=(0,s):=by unfold st0;rw [t.out,show min n 64=j from by omega,d.out]
     rw [e];exact⟨f,Nat.zero_le _,c,a⟩
    go_wp2_with fail;go_ret;exact⟨rfl,r.out,k⟩
  ·obtain rfl:j=n:=by omega
   have r:Hid (SrcX wr w.heap.size A j cp (st0 xs)):=by
    have e:st0 xs=(0,s):=by unfold st0;rw [t.out,show min j 64=j from by omega,d.out]
    rw [e];exact⟨f,Nat.zero_le _,c,a⟩
   go_wp2_with fail;go_ret;exact⟨rfl,r.out,k⟩
structure Dx (w0:World) (B g:Nat) (A:Option Addr) (cp:Nat) (xs:List Int) (st:Nat × Int) (w:World):Prop where
 src:SrcX w g A xs.length cp st
 rd:RdS w B 1 enB A xs
 wf:∀ x ∈ xs,(Lit.int .u8 x).wf=true
 bel:Below B w0 w
 base:B<=g
 old:B=w0.heap.size
section
variable {w0 w w':World} {B g cp:Nat} {A:Option Addr} {xs:List Int} {st:Nat × Int}
theorem Dx.lt (h:Dx w0 B g A cp xs st w):g<w.heap.size:=h.src.lt
theorem Dx.grown {row:Option Nat} (h:Dx w0 B g A cp xs st w) (hg:w.grownBy w' row) (hr:∀ k,row=some k->B<=k) (hn:∀ k,row=some k->k≠g):Dx w0 B g A cp xs st w' :=
 ⟨h.src.grown hg hn,h.rd.grown hg (by have:=h.lt;have:=h.base;omega) hr,h.wf,h.bel.grown hg (by have:=h.lt;have:=h.base;omega) hr,h.base,h.old⟩
theorem Dx.below {C:Nat} (h:Dx w0 B g A cp xs st w) (hb:Below C w w') (hC:g<C):Dx w0 B g A cp xs st w' :=
 ⟨h.src.below hb hC,h.rd.below hb (by have:=h.base;omega),h.wf,h.bel.trans (hb.mono (by have:=h.base;omega)),h.base,h.old⟩
theorem Dx.alloc (h:Dx w0 B g A cp xs st w) (o:Obj):Dx w0 B g A cp xs st (w.alloc o):=h.below ((Below.refl _ _).alloc (Nat.le_refl _) _) h.lt
theorem Dx.drew (h:Dx w0 B g A cp xs st w):Dx w0 B g A cp xs st w.drew:=⟨h.src.drew,h.rd.drew,h.wf,h.bel.drew,h.base,h.old⟩
def Nx (xs:List Int) (st:Nat × Int) (k x:Int) (st':Nat × Int):Prop:=nx xs st k=(x,st')
theorem nextX (h:Dx w0 B g A cp xs st w) (k:Int) (hk:k<=9223372036854775807) :
  Calls Tryz.prog 23 #[.pointer (some ⟨g,0,none⟩),.int .i64 k] w λ e w'=>∃ x st',(e=.returned (.int .i64 x)∧0<=x∧(1<=k->x<k)∧(k<=1->x=0)∧Nx xs st k x st')∧Dx w0 B g A cp xs st' w'∧w.grownBy w' (some g)∧w'.heap.size=w.heap.size:=by
 obtain⟨r,st',a⟩:∃ r st',nx xs st k=(r,st'):=⟨_,_,rfl⟩;refine(nextE g B A xs.length cp xs k w st r st' a h.src rfl h.rd h.base h.wf hk).mono ?_;rintro e w' ⟨b,f,c,d⟩;refine⟨r,st',⟨b.1,b.2.1,b.2.2.1,b.2.2.2,a⟩,⟨f,h.rd.grown c (by have:=h.lt;have:=h.base;omega) (λ k hk=>by simp at hk;have:=h.base;omega),h.wf,h.bel.grown c (by have:=h.lt;have:=h.base;omega) (λ k hk=>by simp at hk;have:=h.base;omega),h.base,h.old⟩,c,d⟩
theorem newX (hr:RdS w w.heap.size 1 enB A xs) (hw:∀ x ∈ xs,(Lit.int .u8 x).wf=true) :
  Calls Tryz.prog 19 #[.slice A xs.length cp] w λ e w'=>e=.returned (.pointer (some ⟨w.heap.size,0,none⟩))∧Dx w w.heap.size w.heap.size A cp xs (st0 xs) w':=by
 refine(fromE w.heap.size A cp xs w (Nat.le_refl _) hr hw).mono ?_;rintro e w' ⟨c,b,a⟩;exact⟨c,b,hr.below a (Nat.le_refl _),hw,a,Nat.le_refl _,rfl⟩
end
end DrawD
namespace RegInv
open Go Go.RowKit Base
def downs (ops:Array Oper):Bool:=(List.range ops.size).all λ i=>match ops[i]? with | some o=>o.after.toList.all (λ e=>!Region.binds .any e || decide (e.on<i)) | none=>true
def waitsGo (ops:Array Oper):Nat->Nat->Nat->Bool
 | 0,_,_=>false
 | n+1,k,j=>match ops[k]? with | some o=>o.after.toList.any (λ e=>Region.binds .any e && (e.on == j || waitsGo ops n e.on j)) | none=>false
def waits (ops:Array Oper) (k j:Nat):Bool:=waitsGo ops ops.size k j
def Closed (ops:Array Oper) (L:Nat->Prop):Prop:=∀ k o,ops[k]?=some o->L k->∀ e ∈ o.after,Region.binds .any e=true->L e.on
theorem waitsGo_closed {ops:Array Oper} {L:Nat->Prop} (hc:Closed ops L) (j:Nat):∀(n k:Nat),waitsGo ops n k j=true->(∀ o,ops[k]?=some o->∀ e ∈ o.after,Region.binds .any e=true->L e.on)->L j:=by
 intro n
 induction n with
 | zero=>intro k h;simp [waitsGo] at h
 | succ n ih =>
  intro k h f;unfold waitsGo at h;split at h
  ·rename_i o ho
   obtain⟨e,g,c⟩:=List.any_eq_true.1 h;simp only [Bool.and_eq_true,Bool.or_eq_true,beq_iff_eq] at c;have a:=f o ho e (Array.mem_toList_iff.1 g) c.1;rcases c.2 with h2 | h2
   ·rw [<-h2];exact a
   ·exact ih e.on h2 (λ d b=>hc e.on d b a)
  ·cases h
section
variable {P:Program} {ops:Array Oper} {Q:Exit->Act->World->Prop}
def StepAt (P:Program) (ops:Array Oper) (Q:Exit->Act->World->Prop) (I:Act->(Nat->Prop)->Act->World->Prop) (a0:Act) (i:Nat) (o:Oper):Prop :=
 ∀(L:Nat->Prop) (a:Act) (w:World),I a0 L a w->¬ L i->(∀ j,waits ops i j=true->L j)->(∀ k j,waits ops k j=true->L k->L j) ->
  ∀ K:Act->World->Prop,Hid (∀ a' w',I a0 (λ k=>k=i∨L k) a' w'->K a' w')->if Region.wanted o (yielded ops a.tmps)=true then Oper.wp P o a w K Q else K (a.put o.dst undef) w
def StepsFrom (P:Program) (ops:Array Oper) (Q:Exit->Act->World->Prop) (I:Act->(Nat->Prop)->Act->World->Prop) (a0:Act) (n:Nat):Prop :=
 ∀ i,n<=i->∀ o,ops[i]?=some o->StepAt P ops Q I a0 i o
theorem StepsFrom.cons {I:Act->(Nat->Prop)->Act->World->Prop} {a0:Act} {n:Nat} {o:Oper} (ho:ops[n]?=some o) (h:StepAt P ops Q I a0 n o) (r:StepsFrom P ops Q I a0 (n+1)):StepsFrom P ops Q I a0 n:=by
 intro i c b a;by_cases e:i=n
 ·subst e;rw [ho] at a;simp only [Option.some.injEq] at a;subst a;exact h
 ·exact r i (by omega) b a
theorem StepsFrom.nil {I:Act->(Nat->Prop)->Act->World->Prop} {a0:Act} {n:Nat} (h:ops.size<=n):StepsFrom P ops Q I a0 n:=by
 intro i b o a;have:=(Array.getElem?_eq_some_iff.1 a).1;omega
theorem ready_none (hd:downs ops=true) {listed:Array Bool} (hs:listed.size=ops.size) (hr:Region.ready .any ops listed=[]):∀ k,k<ops.size->listed.getD k false=true:=by
 intro k
 induction k using Nat.strongRecOn with
 | _ k ih =>
  intro c
  cases hl:listed.getD k false with
  | true=>rfl
  | false =>
   exfalso
   have a:k ∈ Region.ready .any ops listed:=by
    rw [mem_ready];refine⟨?_,ops[k],Array.getElem?_eq_getElem c,λ e g h=>?_⟩
    ·have b:k<listed.size:=by omega
     simp only [Array.getD_eq_getD_getElem?,Array.getElem?_eq_getElem b,Option.getD_some] at hl ⊢;exact hl
    ·have f:=List.all_eq_true.1 hd k (List.mem_range.2 c);rw [Array.getElem?_eq_getElem c] at f;have d:=List.all_eq_true.1 f e (Array.mem_toList_iff.2 g);rw [h] at d;have i:e.on<k:=by simpa using d
     exact ih e.on i (by omega)
   rw [hr] at a
   cases a
def leftOf_ (listed:Array Bool):Nat:=listed.toList.countP (λ b=>!b)
theorem left_set {listed:Array Bool} {i:Nat} (h:listed.getD i true=false):leftOf_ (listed.setIfInBounds i true)+1=leftOf_ listed:=by
 have a:i<listed.size:=by
  rcases Nat.lt_or_ge i listed.size with h' | h'
  ·exact h'
  ·simp [Array.getElem?_eq_none h'] at h
 have b:listed.toList[i]?=some false:=by
  simp only [Array.getD_eq_getD_getElem?,Array.getElem?_eq_getElem a,Option.getD_some] at h;simp [a,h]
 unfold leftOf_;rw [Array.toList_setIfInBounds]
 generalize listed.toList=l at b
 clear h a
 induction l generalizing i with
 | nil=>simp at b
 | cons x l ih =>
  cases i with
  | zero=>simp at b;subst b;simp
  | succ i =>
   simp only [List.getElem?_cons_succ] at b;have:=ih b;simp only [List.set_cons_succ,List.countP_cons];omega
theorem left_zero {listed:Array Bool} (h:leftOf_ listed=0):Region.ready .any ops listed=[]:=by
 rw [List.eq_nil_iff_forall_not_mem];intro k a;obtain⟨b,_⟩:=mem_ready.1 a;have:=left_set b;omega
theorem I_ext {I:Act->(Nat->Prop)->Act->World->Prop} {a0:Act} {L L':Nat->Prop} {a:Act} {w:World} (h:∀ k,L k↔L' k) (hI:I a0 L a w):I a0 L' a w:=by
 have e:L=L':=funext λ k=>propext (h k)
 rw [<-e];exact hI
theorem any_inv {I:Act->(Nat->Prop)->Act->World->Prop} {a0:Act} (hd:downs ops=true) (hst:StepsFrom P ops Q I a0 0)
  (fin:∀ L a w,I a0 L a w->(∀ k,k<ops.size->L k)->Q .normal a w) :
  ∀(fuel:Nat) (listed:Array Bool) (a:Act) (w:World),listed.size=ops.size->leftOf_ listed<=fuel->Closed ops (λ k=>listed.getD k false=true)->I a0 (λ k=>listed.getD k false=true) a w->wpAny P .any ops Q fuel listed a w:=by
 intro fuel
 induction fuel with
 | zero =>
  intro listed a w h v f p;have l:=left_zero (ops:=ops) (Nat.le_zero.1 v);exact⟨l,fin _ _ _ p (ready_none hd h l)⟩
 | succ fuel ih =>
  intro listed a w h v f p;refine⟨λ l=>fin _ _ _ p (ready_none hd h l),λ i z=>?_⟩;obtain⟨q,o,m,c⟩:=mem_ready.1 z;have d:i<listed.size:=by
   rcases Nat.lt_or_ge i listed.size with h' | h'
   ·exact h'
   ·simp [Array.getElem?_eq_none h'] at q
  refine wpOp_step m λ B A=>hst i (Nat.zero_le _) o m _ a w p ?_ (λ j r=>waitsGo_closed f j _ i r (λ g b=>by rw [m] at b;simp only [Option.some.injEq] at b;subst b;exact c)) (λ k j r n=>waitsGo_closed f j _ k r (λ g b=>f k g b n)) B (λ D C s=>A _ _ ?_)
  ·simp only [Array.getD_eq_getD_getElem?,Array.getElem?_eq_getElem d,Option.getD_some] at q ⊢;rw [q];simp
  ·have t:=left_set q;refine ih _ _ _ (by simpa using h) (by omega) ?_ (I_ext (λ k=>?_) s)
   ·intro k g b n e x y;refine getD_set_true ?_;by_cases ek:k=i
    ·subst ek;rw [m] at b;simp only [Option.some.injEq] at b;subst b;exact c e x y
    ·refine f k g b ?_ e x y;rw [getD_set_ne false (Ne.symm ek)] at n;exact n
   ·by_cases e:k=i
    ·subst e;simp [d]
    ·rw [getD_set_ne false (Ne.symm e)];simp [e]
theorem region_inv {id:Nat} {a:Act} {w:World} (I:Act->(Nat->Prop)->Act->World->Prop) (hm:P.follows .mixedOrders=true) (hd:downs ops=true)
  (h0:I a (λ _=>False) a w.drew) (hst:StepsFrom P ops Q I a 0) (fin:∀ L a' w',I a L a' w'->(∀ k,k<ops.size->L k)->Q .normal a' w'):(Code.region id ops true).wp P Q a w:=by
 refine wp_region_any hm (any_inv hd hst fin ops.size _ a _ (by simp) ?_ ?_ (I_ext (λ k=>?_) h0))
 ·unfold leftOf_;refine Nat.le_trans List.countP_le_length (by simp)
 ·intro k o c b
  exfalso
  simp only [Array.getD_eq_getD_getElem?,Array.getElem?_replicate] at b;split at b <;> simp at b
 ·simp only [Array.getD_eq_getD_getElem?,Array.getElem?_replicate];split <;> simp
end
end RegInv
theorem bK {ops:Array Go.Oper} {k:Nat} {L:Nat->Prop} (b:∀ j,RegInv.waits ops k j=true->L j) (j:Nat) (h:RegInv.waits ops k j=true:=by kernel_rfl):L j:=b j h

end Go.Proofs.YtjdefiinmicjiaaGreatDoor
