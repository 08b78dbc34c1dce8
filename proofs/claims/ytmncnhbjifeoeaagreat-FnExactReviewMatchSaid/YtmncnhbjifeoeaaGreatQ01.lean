/- Parts of the proof of FnExactReviewMatch. Conditions: each theorem's own. -/
import Derived.Below
import Derived.Laws.OwnMore
import Derived.Deep.AppendLies
import Derived.Deep.Draws
import Derived.Deep.Slices
import Derived.ChangeSlices
import Derived.ChangeArms
import Derived.Lib.SmallJoins
import Derived.Deep.Fields
import Derived.ChangeSame
import Derived.OpenShut
import Derived.Laws.MakeOwn
import Derived.Laws.NewBlocks
import Derived.Deep.RegionHeld3
set_option linter.unusedVariables false
set_option linter.unusedSimpArgs false
set_option maxHeartbeats 8000000
set_option maxRecDepth 100000
namespace Go.Proofs.YtmncnhbjifeoeaaGreat
theorem kD {p:Prop} (h:p):Go.RowKit.Hid p:=h
theorem sX.{u} {α:Type u}:(∀ (l:List α) (i:Nat) (a:α),l.toArray.setIfInBounds i a=(l.set i a).toArray)∧(∀ (a b:α) (l:List α),(a :: l).set 0 b=b :: l)∧(∀ (a b:α) (l:List α) (n:Nat),(a :: l).set (n+1) b=a :: l.set n b):=⟨λ l i a=>by simp,λ a b l=>rfl,λ a b l n=>rfl⟩
theorem rL {a b:Prop} (h:a∨b) (d:¬a:=by decide):b:=h.resolve_left d
namespace Base
open Go Go.RowKit Go.ChangeShapes Go.WideShapes Go.Deep
def enI (x:Int):List Value:=[.int .i64 x]
def enB (x:Int):List Value:=[.int .u8 x]
def enS (x:ByteArray):List Value:=[.string x]
def RdS {α:Type} (w:World) (B sz:Nat) (en:α->List Value) (A:Option Addr) (xs:List α):Prop :=
 xs.length<=maxLen∧(0<xs.length->∃ b off,A=some ⟨b,off,none⟩∧b<B∧∀ i x,xs[i]?=some x->∀ j u,(en x)[j]?=some u->w.cell? ⟨b,off+i*sz+j,none⟩=some u)
section
variable {α:Type} {w w':World} {B B' sz:Nat} {en:α->List Value} {A:Option Addr} {xs:List α}
theorem RdS.len (h:RdS w B sz en A xs):xs.length<=9223372036854775807:=by have:=h.1;unfold maxLen at this;omega
theorem RdS.at_ (h:RdS w B sz en A xs) {i:Nat} (hi:i<xs.length) :
  ∃ b off x,A=some ⟨b,off,none⟩∧b<B∧xs[i]?=some x∧∀ j u,(en x)[j]?=some u->w.cell? ⟨b,off+i*sz+j,none⟩=some u:=by
 obtain⟨b,off,rfl,c,a⟩:=h.2 (by omega);exact⟨b,off,xs[i],rfl,c,List.getElem?_eq_getElem hi,a i _ (List.getElem?_eq_getElem hi)⟩
theorem RdS.keep (h:RdS w B sz en A xs) (hk:∀ p:Addr,p.block<B->w'.cell? p=w.cell? p):RdS w' B sz en A xs :=
 ⟨h.1,λ hn=>by
  obtain⟨b,off,e,hb,hc⟩:=h.2 hn;exact⟨b,off,e,hb,λ i x hx j u hu=>(hk _ hb).trans (hc i x hx j u hu)⟩⟩
theorem RdS.more (h:RdS w B sz en A xs) (hB:B<=B'):RdS w B' sz en A xs :=
 ⟨h.1,λ hn=>by
  obtain⟨b,off,e,hb,hc⟩:=h.2 hn;exact⟨b,off,e,by omega,hc⟩⟩
theorem RdS.below (h:RdS w B sz en A xs) (hb:Below B' w w') (hB:B<=B'):RdS w' B sz en A xs:=h.keep λ _ hp=>hb.cell (by omega)
theorem rdI_at {xs:List Int} {k:IntKind} (h:RdS w B 1 (λ x:Int=>[Value.int k x]) A xs) {i:Nat} (hi:i<xs.length) :
  ∃ b off x,A=some ⟨b,off,none⟩∧b<B∧xs[i]?=some x∧w.cell? ⟨b,off+i,none⟩=some (.int k x):=by
 obtain⟨b,off,x,e,d,a,c⟩:=h.at_ hi;exact⟨b,off,x,e,d,a,by simpa using c 0 _ rfl⟩
end
def OwnS {α:Type} (w:World) (lo hi:Nat) (e:TypeId) (sz:Nat) (en:α->List Value) (v:Value) (xs:List α):Prop :=
 w.ownsRow lo e sz v xs.length (xs.flatMap en)∧∀ g,v.ownBlock=some g->g<hi
theorem flatMap_len {α:Type} {en:α->List Value} {sz:Nat} (hen:∀ x,(en x).length=sz) (xs:List α):(xs.flatMap en).length=xs.length*sz:=by
 induction xs with
 | nil=>simp
 | cons x xs ih=>simp [ih,hen,Nat.add_mul];omega
theorem flatMap_at {α:Type} {en:α->List Value} {sz:Nat} (hen:∀ x,(en x).length=sz):∀(xs:List α) (i:Nat) (x:α),xs[i]?=some x->∀ j u,(en x)[j]?=some u->(xs.flatMap en)[i*sz+j]?=some u:=by
 intro xs
 induction xs with
 | nil=>intro i x h;simp at h
 | cons y ys ih =>
  intro i x h j u a;have b:j<(en x).length:=(List.getElem?_eq_some_iff.1 a).1;rw [hen] at b;rw [List.flatMap_cons]
  cases i with
  | zero =>
   simp at h;subst h;rw [List.getElem?_append_left (by rw [hen];omega)]
   simpa using a
  | succ i =>
   simp at h;rw [List.getElem?_append_right (by rw [hen,Nat.succ_mul];omega),hen];have:=ih i x h j u a;rw [<-this]
   congr 1
   rw [Nat.succ_mul];omega
section
variable {α:Type} {w w':World} {lo hi sz:Nat} {e:TypeId} {en:α->List Value} {v:Value} {xs:List α}
theorem OwnS.below {B:Nat} (h:OwnS w lo hi e sz en v xs) (hb:Below B w w') (hB:hi<=B):OwnS w' lo hi e sz en v xs:=by
 refine⟨⟨h.1.1,?_⟩,h.2⟩;rcases h.1.2 with hn | ⟨g,cap,cur,rfl,hbg,hgg,rest⟩
 ·exact .inl hn
 ·have a:g<hi:=h.2 g rfl;refine .inr ⟨g,cap,cur,rfl,hbg,?_,rest⟩;rw [hb.block g (by omega)];exact hgg
theorem OwnS.form (hen:∀ x,(en x).length=sz) (h:OwnS w lo hi e sz en v xs):∃ A c,v=.slice A xs.length c∧RdS w hi sz en A xs:=by
 rcases h.1.2 with ⟨rfl,hn⟩ | ⟨g,cap,cur,rfl,hbg,hgg,hnc,hcm,hcs,ht⟩
 ·exact⟨none,0,by rw [hn],by rw [hn];exact Nat.zero_le _,λ f=>by omega⟩
 ·refine⟨some ⟨g,0,none⟩,cap,rfl,Nat.le_trans hnc hcm,λ _=>⟨g,0,rfl,h.2 g rfl,λ i x b j u d=>?_⟩⟩;have a:=flatMap_at hen xs i x b j u d;rw [<-ht] at a;rw [Nat.zero_add,cell_of_row w g (i*sz+j) cur e (0,0) hgg];rw [List.getElem?_take] at a;split at a
  ·simpa using a
  ·cases a
end
section
variable {H:Type} {enc:TypeId × Value->H} {P:Program} {w:World} {base:Nat} {spare:Nat->Bool} {held:Bool}
def FieldsRead (enc:TypeId × Value->H) (P:Program) (w:World) (base:Nat) (spare:Nat->Bool) (held:Bool) (fs:Array Field) (cs:List Value):Prop :=
 cs.length=fs.size∧∀(j:Nat) (f:Field),fs[j]?=some f->∃ c fu y,cs[j]?=some c∧DataW.trod enc P w base spare held fu f.type [c]=some y
theorem fields_of {t:TypeId} {fs:Array Field} {fuel:Nat} {cs:List Value} {x:DataW H × List MemPlace} (hs:P.underlying t=some (.struct fs)) (hone:oneCellFields P fs=true) (hC:P.cellsOf t=fs.size)
  (h:DataW.trod enc P w base spare held fuel t cs=some x):FieldsRead enc P w base spare held fs cs:=by
 obtain⟨d,n,_,_,a,e,l⟩:=DataW.trod_struct hs h;rw [hC] at a;refine⟨a,λ j f b=>?_⟩;obtain⟨g,i⟩:=hone_of hone j f b;have k:j<fs.size:=(Array.getElem?_eq_some_iff.1 b).1;have c:=l j f b;rw [g,i,List.drop_eq_getElem_cons (by omega)] at c;exact⟨cs[j]'(by omega),n,d[j]'(by omega),List.getElem?_eq_getElem (by omega),c.trans (List.getElem?_eq_getElem (by omega))⟩
theorem slst_open {t e:TypeId} {fs:Array Field} {fuel:Nat} {v:Value} {y:DataW H × List MemPlace} (ht:P.underlying t=some (.slice e)) (he:P.underlying e=some (.struct fs))
  (hone:oneCellFields P fs=true) (hC:P.cellsOf e=fs.size) (h0:0<fs.size) (h:DataW.trod enc P w 0 (λ _=>true) held fuel t [v]=some y) :
  ∃(A:Option Addr) (c:Nat) (rows:List (List Value)),v=.slice A rows.length c∧RdS w w.heap.size fs.size (λ r:List Value=>r) A rows∧∀ r ∈ rows,FieldsRead enc P w 0 (λ _=>true) held fs r:=by
 rcases open_slice ht h with ⟨hcs,_⟩ | ⟨a,len,cap,m,n,D,Pl,hcs,_,hl,hm,hmm,_,hi⟩
 ·simp at hcs;subst hcs;exact⟨none,0,[],rfl,⟨Nat.zero_le _,λ E=>absurd E (by simp)⟩,by simp⟩
 ·simp only [List.cons.injEq,and_true] at hcs;simp only [if_true] at hmm;subst hcs;have k:∀ i,i<len->∃ g:List Value,(∀ j u,g[j]?=some u->w.cell? (a.add (i*fs.size+j))=some u)∧FieldsRead enc P w 0 (λ _=>true) held fs g:=by
   intro i d;obtain⟨g,J,F⟩:=hi i (by omega);rw [hC] at J;obtain⟨_,G,I⟩:=World.cells?_some J;refine⟨g,λ j u C=>?_,fields_of he hone hC F⟩;have L:j<fs.size:=by rw [<-G];exact(List.getElem?_eq_some_iff.1 C).1
   rw [<-Go.Deep.add_add,I j L,C]
  let f:Nat->List Value:=λ i=>if h:i<len then Classical.choose (k i h) else []
  have p:∀ i (h:i<len),(∀ j u,(f i)[j]?=some u->w.cell? (a.add (i*fs.size+j))=some u)∧FieldsRead enc P w 0 (λ _=>true) held fs (f i):=by
   intro i h;have:=Classical.choose_spec (k i h);simp only [f,dif_pos h];exact this
  refine⟨some a,cap,(List.range len).map f,by simp,⟨by simp;omega,λ E=>?_⟩,λ r K=>?_⟩
  ·simp at E;obtain⟨b,l,s⟩:=a;obtain⟨O,N⟩:=p 0 E;have z:=O 0 ((f 0)[0]'(by rw [N.1];exact h0)) (List.getElem?_eq_getElem _);have o:s=none:=by simpa [Addr.add] using World.cell?_spot z
   subst o;have M:b<w.heap.size:=World.block_lt_of_cell? w _ (by simpa [Addr.add] using z);refine⟨b,l,rfl,M,λ i x q j u C=>?_⟩;rw [List.getElem?_map] at q;have d:i<len:=by
    rcases Nat.lt_or_ge i len with h | h
    ·exact h
    ·rw [List.getElem?_eq_none (by simp;omega)] at q;cases q
   rw [List.getElem?_range d] at q;simp at q;subst q;have:=(p i d).1 j u C;have B:(⟨b,l,none⟩:Addr).add (i*fs.size+j)=⟨b,l+i*fs.size+j,none⟩:=by unfold Addr.add;split <;> simp_all [Nat.add_assoc]
   rw [B] at this;exact this
  ·obtain⟨i,d,rfl⟩:=List.mem_map.1 K;exact(p i (List.mem_range.1 d)).2
end
theorem map_of {α β:Type} {Q:α->Prop} {en:α->β}:∀(rows:List β),(∀ r ∈ rows,∃ x,r=en x∧Q x)->∃ xs:List α,rows=xs.map en∧∀ x ∈ xs,Q x:=by
 intro rows
 induction rows with
 | nil=>intro _;exact⟨[],rfl,by simp⟩
 | cons r rows ih =>
  intro h;obtain⟨xs,e,d⟩:=ih (λ r a=>h r (List.mem_cons_of_mem _ a));obtain⟨x,c,b⟩:=h r (List.mem_cons_self ..);exact⟨x :: xs,by simp [e,c],by simp;exact⟨b,d⟩⟩
theorem RdS.of_map {α:Type} {w:World} {B sz:Nat} {en:α->List Value} {A:Option Addr} {xs:List α} (h:RdS w B sz (λ r:List Value=>r) A (xs.map en)):RdS w B sz en A xs:=by
 refine⟨by simpa using h.1,λ f=>?_⟩;obtain⟨b,a,e,k,g⟩:=h.2 (by simpa using f);exact⟨b,a,e,k,λ i x c j u d=>g i (en x) (by rw [List.getElem?_map,c];rfl) j u d⟩
theorem list3 {α:Type} {l:List α} (h:l.length=3):∃ a b c,l=[a,b,c]:=by
 match l,h with | [a,b,c],_=>exact⟨a,b,c,rfl⟩
theorem list4 {α:Type} {l:List α} (h:l.length=4):∃ a b c d,l=[a,b,c,d]:=by
 match l,h with | [a,b,c,d],_=>exact⟨a,b,c,d,rfl⟩
theorem list5 {α:Type} {l:List α} (h:l.length=5):∃ a b c d e,l=[a,b,c,d,e]:=by
 match l,h with | [a,b,c,d,e],_=>exact⟨a,b,c,d,e,rfl⟩
theorem list6 {α:Type} {l:List α} (h:l.length=6):∃ a b c d e f,l=[a,b,c,d,e,f]:=by
 match l,h with | [a,b,c,d,e,f],_=>exact⟨a,b,c,d,e,f,rfl⟩
section
variable {H:Type} {enc:TypeId × Value->H} {P:Program} {w:World} {base:Nat} {spare:Nat->Bool} {held:Bool}
theorem FieldsRead.int {fs:Array Field} {cs:List Value} (h:FieldsRead enc P w base spare held fs cs) (j:Nat) {f:Field} {k:IntKind} (hj:fs[j]?=some f) (hk:P.underlying f.type=some (.int k)) :
  ∃ x,cs[j]?=some (.int k x)∧(Lit.int k x).wf=true:=by
 obtain⟨c,g,y,e,d⟩:=h.2 j f hj;obtain⟨x,b,_,a⟩:=DataW.trod_int hk d;simp at b;exact⟨x,by rw [e,b],a⟩
theorem FieldsRead.bool {fs:Array Field} {cs:List Value} (h:FieldsRead enc P w base spare held fs cs) (j:Nat) {f:Field} (hj:fs[j]?=some f) (hk:P.underlying f.type=some .bool) :
  ∃ x,cs[j]?=some (.bool x):=by
 obtain⟨c,e,y,d,b⟩:=h.2 j f hj;obtain⟨x,a,_⟩:=DataW.trod_bool hk b;simp at a;exact⟨x,by rw [d,a]⟩
end
def enI2 (x:Int × Int):List Value:=[.int .i64 x.1,.int .i64 x.2]
def enI4 (x:Int × Int × Int × Int):List Value:=[.int .i64 x.1,.int .i64 x.2.1,.int .i64 x.2.2.1,.int .i64 x.2.2.2]
theorem enI_len (x:Int):(enI x).length=1:=rfl
theorem enB_len (x:Int):(enB x).length=1:=rfl
theorem enI2_len (x:Int × Int):(enI2 x).length=2:=rfl
theorem enI4_len (x:Int × Int × Int × Int):(enI4 x).length=4:=rfl
theorem rdI4_at {w:World} {B:Nat} {A:Option Addr} {xs:List (Int × Int × Int × Int)} (h:RdS w B 4 enI4 A xs) {i:Nat} (hi:i<xs.length) :
  ∃ b off p q r s,A=some ⟨b,off,none⟩∧b<B∧xs[i]?=some (p,q,r,s)∧w.cell? ⟨b,off+i*4,none⟩=some (.int .i64 p)∧w.cell? ⟨b,off+i*4+1,none⟩=some (.int .i64 q)∧w.cell? ⟨b,off+i*4+2,none⟩=some (.int .i64 r)∧w.cell? ⟨b,off+i*4+3,none⟩=some (.int .i64 s):=by
 obtain⟨b,off,⟨p,q,r,s⟩,e,d,c,a⟩:=h.at_ hi;exact⟨b,off,p,q,r,s,e,d,c,a 0 _ rfl,a 1 _ rfl,a 2 _ rfl,a 3 _ rfl⟩
def RowB (w:World) (g:Nat) (e:TypeId) (cs:List Value):Prop:=w.heap[g]?=some (.cells ⟨cs⟩ e (0,0))
section
variable {w w':World} {g:Nat} {e:TypeId} {cs:List Value}
theorem RowB.lt (h:RowB w g e cs):g<w.heap.size:=(Array.getElem?_eq_some_iff.1 h).1
theorem RowB.cell (h:RowB w g e cs) (j:Nat):w.cell? ⟨g,j,none⟩=cs[j]?:=by
 rw [cell_of_row w g j ⟨cs⟩ e (0,0) h];simp
theorem RowB.frozen (h:RowB w g e cs) (j:Nat):w.frozen? ⟨g,j,none⟩=false:=by
 unfold RowB at h;simp [World.frozen?,h]
theorem RowB.set (h:RowB w g e cs) (j:Nat) (u:Value):RowB (w.setCell ⟨g,j,none⟩ u) g e (cs.set j u):=by
 unfold RowB at h ⊢;simp [World.setCell,Array.getElem?_modify,h]
theorem RowB.below {B:Nat} (h:RowB w g e cs) (hb:Below B w w') (hg:g<B):RowB w' g e cs:=(hb.block g hg).trans h
theorem RowB.drew (h:RowB w g e cs):RowB w.drew g e cs:=h
theorem RowB.alloc (h:RowB w g e cs) (o:Obj):RowB (w.alloc o) g e cs:=(Below.heap_alloc w o g h.lt).trans h
theorem RowB.other (h:RowB w g e cs) {p:Addr} (hp:g≠p.block) (u:Value):RowB (w.setCell p u) g e cs:=(Below.heap_setCell w p u g hp).trans h
theorem RowB.of_own {lo sz n:Nat} {xs:List Value} (h:w.ownsRow lo e sz (.slice (some ⟨g,0,none⟩) n n) n xs):RowB w g e xs:=by
 rcases h.2 with ⟨h',_⟩ | ⟨g',cap',cur,h',_,hg,_,_,hcs,ht⟩
 ·simp at h'
 ·simp only [Value.slice.injEq,Option.some.injEq,Addr.mk.injEq,and_true,true_and] at h';obtain⟨rfl,rfl⟩:=h';have:cur.toList=xs:=by rw [<-ht,List.take_of_length_le (by simp;omega)]
  unfold RowB;rw [hg,<-this]
theorem RowB.own {α:Type} {en:α->List Value} {sz lo hi:Nat} {xs:List α} (h:RowB w g e (xs.flatMap en)) (hen:∀ x,(en x).length=sz) (hlo:lo<=g) (hhi:g<hi) (hm:xs.length<=maxLen) :
  OwnS w lo hi e sz en (.slice (some ⟨g,0,none⟩) xs.length xs.length) xs:=by
 refine⟨⟨flatMap_len hen xs,.inr ⟨g,xs.length,⟨xs.flatMap en⟩,rfl,hlo,h,Nat.le_refl _,hm,?_,?_⟩⟩,λ b a=>?_⟩
 ·simpa using flatMap_len hen xs
 ·rw [List.take_of_length_le];rw [flatMap_len hen xs];exact Nat.le_refl _
 ·simp [Value.ownBlock] at a;omega
end
theorem made_rep (z:Value) (n:Nat):(madeCells #[z] n).toList=List.replicate n z:=toList_madeCells_one z n
theorem take_succ {α:Type} (xs:List α) (k:Nat) (x:α) (h:xs[k]?=some x):xs.take (k+1)=xs.take k++[x]:=by
 rw [List.take_add_one,h];rfl
theorem fill1 {α:Type} {en:α->List Value} {z:Value} {xs:List α} {k m:Nat} {x:α} {u0:Value} (hk:xs[k]?=some x) (hx:en x=[u0]) (hen:∀ x,(en x).length=1) :
  ((xs.take k).flatMap en++List.replicate (m+1) z).set k u0=(xs.take (k+1)).flatMap en++List.replicate m z:=by
 have b:k<xs.length:=(List.getElem?_eq_some_iff.1 hk).1;have a:((xs.take k).flatMap en).length=k:=by rw [flatMap_len hen,List.length_take];omega
 rw [take_succ xs k x hk,List.flatMap_append,List.set_append_right _ _ (by omega),a];simp [hx,List.replicate_succ]
section
variable {α:Type} {w w':World} {lo hi sz:Nat} {e:TypeId} {en:α->List Value} {v:Value} {xs:List α}
theorem OwnS.cases_ (h:OwnS w lo hi e sz en v xs) :
  (v=.slice none 0 0∧xs=[]) ∨
  ∃ g cap rest,v=.slice (some ⟨g,0,none⟩) xs.length cap∧lo<=g∧g<hi∧RowB w g e (xs.flatMap en++rest)∧xs.length<=cap∧cap<=maxLen∧xs.length*sz+rest.length=cap*sz:=by
 rcases h.1.2 with ⟨rfl,hn⟩ | ⟨g,cap,cur,rfl,hbg,hgg,hnc,hcm,hcs,ht⟩
 ·exact .inl ⟨rfl,List.eq_nil_of_length_eq_zero hn⟩
 ·refine .inr ⟨g,cap,cur.toList.drop (xs.length*sz),rfl,hbg,h.2 g rfl,?_,hnc,hcm,?_⟩
  ·unfold RowB;rw [<-ht,List.take_append_drop];exact hgg
  ·have a:xs.length*sz<=cap*sz:=Nat.mul_le_mul_right _ hnc;simp [hcs];omega
theorem OwnS.mk_ {g cap:Nat} {rest:List Value} (hen:∀ x,(en x).length=sz) (h:RowB w g e (xs.flatMap en++rest)) (hlo:lo<=g) (hhi:g<hi) (hnc:xs.length<=cap) (hcm:cap<=maxLen) (hl:xs.length*sz+rest.length=cap*sz) :
  OwnS w lo hi e sz en (.slice (some ⟨g,0,none⟩) xs.length cap) xs:=by
 refine⟨⟨flatMap_len hen xs,.inr ⟨g,cap,⟨xs.flatMap en++rest⟩,rfl,hlo,h,hnc,hcm,?_,?_⟩⟩,λ b a=>?_⟩
 ·simp only [List.size_toArray,List.length_append,flatMap_len hen];exact hl
 ·rw [<-flatMap_len hen xs];simp
 ·simp [Value.ownBlock] at a;omega
theorem OwnS.nil_ (w:World) (lo hi:Nat) (e:TypeId) (sz:Nat) (en:α->List Value):OwnS w lo hi e sz en (.slice none 0 0) [] :=
 ⟨World.ownsRow_nil w lo e sz,λ g hg=>by simp [Value.ownBlock] at hg⟩
theorem OwnS.grown {row:Option Nat} (h:OwnS w lo hi e sz en v xs) (hg:w.grownBy w' row) (hr:∀ g,row=some g->g<lo∨hi<=g):OwnS w' lo hi e sz en v xs:=by
 refine⟨h.1.kept hg ?_,h.2⟩
 cases hv:v.ownBlock with
 | none=>exact .inl rfl
 | some g =>
  refine .inr (λ e=>?_);have b:=h.2 g hv;have a:=(h.1.lt g hv).1;rcases hr g e.symm with h3 | h3 <;> omega
theorem OwnS.more {hi':Nat} (h:OwnS w lo hi e sz en v xs) (hh:hi<=hi'):OwnS w lo hi' e sz en v xs:=⟨h.1,λ g hg=>by have:=h.2 g hg;omega⟩
theorem OwnS.less {lo':Nat} (h:OwnS w lo hi e sz en v xs) (hh:lo'<=lo):OwnS w lo' hi e sz en v xs:=by
 refine⟨⟨h.1.1,?_⟩,h.2⟩;rcases h.1.2 with hn | ⟨g,cap,cur,rfl,hbg,rest⟩
 ·exact .inl hn
 ·exact .inr ⟨g,cap,cur,rfl,by omega,rest⟩
theorem OwnS.block (h:OwnS w lo hi e sz en v xs):∀ g,v.ownBlock=some g->lo<=g∧g<hi:=λ g hg=>⟨(h.1.lt g hg).1,h.2 g hg⟩
end
theorem grownBy_setCell (w:World) (g j:Nat) (u:Value):w.grownBy (w.setCell ⟨g,j,none⟩ u) (some g) :=
 ⟨rfl,rfl,rfl,by simp [World.setCell],λ k _ hk=>Below.heap_setCell _ _ _ _ (λ e=>hk (by simp [e]))⟩
theorem grownBy_trans {a b c:World} {row:Option Nat} (h:a.grownBy b row) (k:b.grownBy c row):a.grownBy c row :=
 ⟨k.os.trans h.os,k.tape.trans h.tape,k.output.trans h.output,Nat.le_trans h.size k.size,λ i hi hr=>(k.block i (Nat.lt_of_lt_of_le hi h.size) hr).trans (h.block i hi hr)⟩
theorem grownBy_refl (w:World) (row:Option Nat):w.grownBy w row:=⟨rfl,rfl,rfl,Nat.le_refl _,λ _ _ _=>rfl⟩
theorem OwnS.setCell {α:Type} {w:World} {lo hi sz:Nat} {e:TypeId} {en:α->List Value} {v:Value} {xs:List α} (h:OwnS w lo hi e sz en v xs) {p:Addr} (hp:p.block<lo) (u:Value):OwnS (w.setCell p u) lo hi e sz en v xs :=
 ⟨ownsRow_setCell_below h.1 hp u,h.2⟩
theorem OwnS.alloc {α:Type} {w:World} {lo hi sz:Nat} {e:TypeId} {en:α->List Value} {v:Value} {xs:List α} (h:OwnS w lo hi e sz en v xs) (o:Obj):OwnS (w.alloc o) lo hi e sz en v xs :=
 ⟨h.1.alloc o,h.2⟩
theorem OwnS.drew {α:Type} {w:World} {lo hi sz:Nat} {e:TypeId} {en:α->List Value} {v:Value} {xs:List α} (h:OwnS w lo hi e sz en v xs):OwnS w.drew lo hi e sz en v xs:=h
theorem OwnS.drewN {α:Type} {w:World} {lo hi sz:Nat} {e:TypeId} {en:α->List Value} {v:Value} {xs:List α} (h:OwnS w lo hi e sz en v xs) (n:Nat):OwnS (w.drewN n) lo hi e sz en v xs:=h
theorem below_drewN {B:Nat} {a w:World} (h:Below B a w) (n:Nat):Below B a (w.drewN n):=⟨h.os,h.tape,h.output,h.size,h.block⟩
theorem Below.then_ {B B':Nat} {a b c:World} (h:Below B a b) (k:Below B' b c) (hB:B<=B'):Below B a c:=h.trans (k.mono hB)
theorem RowB.new (w:World) (e:TypeId) (cs:List Value):RowB (w.alloc (.cells ⟨cs⟩ e)) w.heap.size e cs:=heap_alloc_new w _
theorem RowB.drewN {w:World} {g:Nat} {e:TypeId} {cs:List Value} (h:RowB w g e cs) (n:Nat):RowB (w.drewN n) g e cs:=h
section
variable {w:World} {g:Nat} {t:TypeId} {a b c d e f:Value}
theorem RowB.c1 (h:RowB w g t [a]):w.cell? ⟨g,0,none⟩=some a:=h.cell 0
theorem RowB.c2 (h:RowB w g t [a,b]):w.cell? ⟨g,0,none⟩=some a∧w.cell? ⟨g,1,none⟩=some b:=⟨h.cell 0,h.cell 1⟩
theorem RowB.c3 (h:RowB w g t [a,b,c]):w.cell? ⟨g,0,none⟩=some a∧w.cell? ⟨g,1,none⟩=some b∧w.cell? ⟨g,2,none⟩=some c:=⟨h.cell 0,h.cell 1,h.cell 2⟩
theorem RowB.c4 (h:RowB w g t [a,b,c,d]):w.cell? ⟨g,0,none⟩=some a∧w.cell? ⟨g,1,none⟩=some b∧w.cell? ⟨g,2,none⟩=some c∧w.cell? ⟨g,3,none⟩=some d:=⟨h.cell 0,h.cell 1,h.cell 2,h.cell 3⟩
theorem RowB.c5 (h:RowB w g t [a,b,c,d,e]):w.cell? ⟨g,0,none⟩=some a∧w.cell? ⟨g,1,none⟩=some b∧w.cell? ⟨g,2,none⟩=some c∧w.cell? ⟨g,3,none⟩=some d∧w.cell? ⟨g,4,none⟩=some e:=⟨h.cell 0,h.cell 1,h.cell 2,h.cell 3,h.cell 4⟩
theorem RowB.c6 (h:RowB w g t [a,b,c,d,e,f]):w.cell? ⟨g,0,none⟩=some a∧w.cell? ⟨g,1,none⟩=some b∧w.cell? ⟨g,2,none⟩=some c∧w.cell? ⟨g,3,none⟩=some d∧w.cell? ⟨g,4,none⟩=some e∧w.cell? ⟨g,5,none⟩=some f:=⟨h.cell 0,h.cell 1,h.cell 2,h.cell 3,h.cell 4,h.cell 5⟩
end
theorem wp_gen {P:Program} {c:Code} {Q:Exit->Act->World->Prop} {a:Act} {W:World} (R:World->Prop) (h:R W) (k:∀ W',R W'->c.wp P Q a W'):c.wp P Q a W:=k W h
theorem OwnS.rd {α:Type} {w:World} {lo hi sz n c:Nat} {e:TypeId} {en:α->List Value} {A:Option Addr} {xs:List α} (hen:∀ x,(en x).length=sz) (h:OwnS w lo hi e sz en (.slice A n c) xs):RdS w hi sz en A xs:=by
 obtain⟨f,d,a,b⟩:=h.form hen;simp only [Value.slice.injEq] at a;obtain⟨rfl,_,_⟩:=a;exact b
theorem OwnS.len {α:Type} {w:World} {lo hi sz n c:Nat} {e:TypeId} {en:α->List Value} {A:Option Addr} {xs:List α} (hen:∀ x,(en x).length=sz) (h:OwnS w lo hi e sz en (.slice A n c) xs):n=xs.length:=by
 obtain⟨f,d,a,b⟩:=h.form hen;simp only [Value.slice.injEq] at a;exact a.2.1
theorem RdS.drew {α:Type} {w:World} {B sz:Nat} {en:α->List Value} {A:Option Addr} {xs:List α} (h:RdS w B sz en A xs):RdS w.drew B sz en A xs:=h
theorem RdS.grown {α:Type} {w w':World} {B sz:Nat} {en:α->List Value} {A:Option Addr} {xs:List α} {row:Option Nat} (h:RdS w B sz en A xs) (hg:w.grownBy w' row) (hB:B<=w.heap.size) (hr:∀ g,row=some g->B<=g):RdS w' B sz en A xs :=
 h.keep λ p hp=>World.cell?_of_block (hg.block p.block (by omega) (λ e=>by have:=hr _ e.symm;omega))
theorem RowB.grown {w w':World} {g:Nat} {e:TypeId} {cs:List Value} {row:Option Nat} (h:RowB w g e cs) (hg:w.grownBy w' row) (hr:∀ k,row=some k->k≠g):RowB w' g e cs :=
 (hg.block g h.lt (λ e'=>hr _ e'.symm rfl)).trans h
theorem below_grown {w w1 w':World} {row:Option Nat} (h:Below w.heap.size w w1) (hg:w1.grownBy w' row):w.grownBy w' row :=
 ⟨hg.os.trans h.os,hg.tape.trans h.tape,hg.output.trans h.output,Nat.le_trans h.size hg.size,λ k hk hr=>(hg.block k (Nat.lt_of_lt_of_le hk h.size) hr).trans (h.block k hk)⟩
theorem bp_row2 {P:Program} {fn:Func} {R:Ending->World->Prop} {a:Act} {w W:World} {g B:Nat} {t:TypeId} (cs:List Value) (b:Value) (h:Below B w W) (r:RowB W g t cs) (hv:∀ W',(∀ j,W'.cell? ⟨g,j,none⟩=cs[j]?)->(results fn a.tmps).run P W'=.ok (.tuple #[.agg ⟨cs⟩,b]) W') (hd:a.defers=[]) (k:∀ W',Below B w W'->R (.returned (.tuple #[.agg ⟨cs⟩,b])) W'):bodyPost P fn R .ret a W:=bodyPost_ret (hv W r.cell) hd (k W h)
theorem bp_gen {P:Program} {fn:Func} {R:Ending->World->Prop} {ex:Exit} {a:Act} {W:World} (S:World->Prop) (h:S W) (k:∀ W',S W'->bodyPost P fn R ex a W'):bodyPost P fn R ex a W:=k W h
theorem RowB.new' (w:World) (e:TypeId) (cs:List Value) {g:Nat} (hg:g=w.heap.size):RowB (w.alloc (.cells ⟨cs⟩ e)) g e cs:=by
 subst hg;exact RowB.new w e cs
theorem ret1 {a c:Int} (h1:a=c):Ending.returned (.int .i64 a)=Ending.returned (.int .i64 c):=by rw [h1]
end Base
namespace RegInv
open Go Go.RowKit Base
def downs (ops:Array Oper):Bool:=(List.range ops.size).all λ i=>match ops[i]? with | some o=>o.after.toList.all (λ e=>!Region.binds .any e || decide (e.on<i)) | none=>true
def waitsGo (ops:Array Oper):Nat->Nat->Nat->Bool
 | 0,_,_=>false
 | n+1,k,j=>match ops[k]? with | some o=>o.after.toList.any (λ e=>Region.binds .any e && (e.on == j || waitsGo ops n e.on j)) | none=>false
def waits (ops:Array Oper) (k j:Nat):Bool:=waitsGo ops ops.size k j
def Closed (ops:Array Oper) (L:Nat->Prop):Prop:=∀ k o,ops[k]?=some o->L k->∀ e ∈ o.after,Region.binds .any e=true->L e.on
theorem waitsGo_closed {ops:Array Oper} {L:Nat->Prop} (hc:Closed ops L) (j:Nat):∀(n k:Nat),waitsGo ops n k j=true->(∀ o,ops[k]?=some o->∀ e ∈ o.after,Region.binds .any e=true->L e.on)->L j:=by
 intro n
 induction n with
 | zero=>intro k h;simp [waitsGo] at h
 | succ n ih =>
  intro k h f;unfold waitsGo at h;split at h
  ·rename_i o ho
   obtain⟨e,g,c⟩:=List.any_eq_true.1 h;simp only [Bool.and_eq_true,Bool.or_eq_true,beq_iff_eq] at c;have a:=f o ho e (Array.mem_toList_iff.1 g) c.1;rcases c.2 with h2 | h2
   ·rw [<-h2];exact a
   ·exact ih e.on h2 (λ d b=>hc e.on d b a)
  ·cases h
section
variable {P:Program} {ops:Array Oper} {Q:Exit->Act->World->Prop}
def StepAt (P:Program) (ops:Array Oper) (Q:Exit->Act->World->Prop) (I:Act->(Nat->Prop)->Act->World->Prop) (a0:Act) (i:Nat) (o:Oper):Prop :=
 ∀(L:Nat->Prop) (a:Act) (w:World),I a0 L a w->¬ L i->(∀ j,waits ops i j=true->L j)->(∀ k j,waits ops k j=true->L k->L j) ->
  ∀ K:Act->World->Prop,Hid (∀ a' w',I a0 (λ k=>k=i∨L k) a' w'->K a' w')->if Region.wanted o (yielded ops a.tmps)=true then Oper.wp P o a w K Q else K (a.put o.dst undef) w
def StepsFrom (P:Program) (ops:Array Oper) (Q:Exit->Act->World->Prop) (I:Act->(Nat->Prop)->Act->World->Prop) (a0:Act) (n:Nat):Prop :=
 ∀ i,n<=i->∀ o,ops[i]?=some o->StepAt P ops Q I a0 i o
theorem StepsFrom.cons {I:Act->(Nat->Prop)->Act->World->Prop} {a0:Act} {n:Nat} {o:Oper} (ho:ops[n]?=some o) (h:StepAt P ops Q I a0 n o) (r:StepsFrom P ops Q I a0 (n+1)):StepsFrom P ops Q I a0 n:=by
 intro i c b a;by_cases e:i=n
 ·subst e;rw [ho] at a;simp only [Option.some.injEq] at a;subst a;exact h
 ·exact r i (by omega) b a
theorem StepsFrom.nil {I:Act->(Nat->Prop)->Act->World->Prop} {a0:Act} {n:Nat} (h:ops.size<=n):StepsFrom P ops Q I a0 n:=by
 intro i b o a;have:=(Array.getElem?_eq_some_iff.1 a).1;omega
theorem ready_none (hd:downs ops=true) {listed:Array Bool} (hs:listed.size=ops.size) (hr:Region.ready .any ops listed=[]):∀ k,k<ops.size->listed.getD k false=true:=by
 intro k
 induction k using Nat.strongRecOn with
 | _ k ih =>
  intro c
  cases hl:listed.getD k false with
  | true=>rfl
  | false =>
   exfalso
   have a:k ∈ Region.ready .any ops listed:=by
    rw [mem_ready];refine⟨?_,ops[k],Array.getElem?_eq_getElem c,λ e g h=>?_⟩
    ·have b:k<listed.size:=by omega
     simp only [Array.getD_eq_getD_getElem?,Array.getElem?_eq_getElem b,Option.getD_some] at hl ⊢;exact hl
    ·have f:=List.all_eq_true.1 hd k (List.mem_range.2 c);rw [Array.getElem?_eq_getElem c] at f;have d:=List.all_eq_true.1 f e (Array.mem_toList_iff.2 g);rw [h] at d;have i:e.on<k:=by simpa using d
     exact ih e.on i (by omega)
   rw [hr] at a
   cases a
def leftOf_ (listed:Array Bool):Nat:=listed.toList.countP (λ b=>!b)
theorem left_set {listed:Array Bool} {i:Nat} (h:listed.getD i true=false):leftOf_ (listed.setIfInBounds i true)+1=leftOf_ listed:=by
 have a:i<listed.size:=by
  rcases Nat.lt_or_ge i listed.size with h' | h'
  ·exact h'
  ·simp [Array.getElem?_eq_none h'] at h
 have b:listed.toList[i]?=some false:=by
  simp only [Array.getD_eq_getD_getElem?,Array.getElem?_eq_getElem a,Option.getD_some] at h;simp [a,h]
 unfold leftOf_;rw [Array.toList_setIfInBounds]
 generalize listed.toList=l at b
 clear h a
 induction l generalizing i with
 | nil=>simp at b
 | cons x l ih =>
  cases i with
  | zero=>simp at b;subst b;simp
  | succ i =>
   simp only [List.getElem?_cons_succ] at b;have:=ih b;simp only [List.set_cons_succ,List.countP_cons];omega
theorem left_zero {listed:Array Bool} (h:leftOf_ listed=0):Region.ready .any ops listed=[]:=by
 rw [List.eq_nil_iff_forall_not_mem];intro k a;obtain⟨b,_⟩:=mem_ready.1 a;have:=left_set b;omega
theorem I_ext {I:Act->(Nat->Prop)->Act->World->Prop} {a0:Act} {L L':Nat->Prop} {a:Act} {w:World} (h:∀ k,L k↔L' k) (hI:I a0 L a w):I a0 L' a w:=by
 have e:L=L':=funext λ k=>propext (h k)
 rw [<-e];exact hI
theorem any_inv {I:Act->(Nat->Prop)->Act->World->Prop} {a0:Act} (hd:downs ops=true) (hst:StepsFrom P ops Q I a0 0)
  (fin:∀ L a w,I a0 L a w->(∀ k,k<ops.size->L k)->Q .normal a w) :
  ∀(fuel:Nat) (listed:Array Bool) (a:Act) (w:World),listed.size=ops.size->leftOf_ listed<=fuel->Closed ops (λ k=>listed.getD k false=true)->I a0 (λ k=>listed.getD k false=true) a w->wpAny P .any ops Q fuel listed a w:=by
 intro fuel
 induction fuel with
 | zero =>
  intro listed a w h v f p;have l:=left_zero (ops:=ops) (Nat.le_zero.1 v);exact⟨l,fin _ _ _ p (ready_none hd h l)⟩
 | succ fuel ih =>
  intro listed a w h v f p;refine⟨λ l=>fin _ _ _ p (ready_none hd h l),λ i z=>?_⟩;obtain⟨q,o,m,c⟩:=mem_ready.1 z;have d:i<listed.size:=by
   rcases Nat.lt_or_ge i listed.size with h' | h'
   ·exact h'
   ·simp [Array.getElem?_eq_none h'] at q
  refine wpOp_step m λ B A=>hst i (Nat.zero_le _) o m _ a w p ?_ (λ j r=>waitsGo_closed f j _ i r (λ g b=>by rw [m] at b;simp only [Option.some.injEq] at b;subst b;exact c)) (λ k j r n=>waitsGo_closed f j _ k r (λ g b=>f k g b n)) B (λ D C s=>A _ _ ?_)
  ·simp only [Array.getD_eq_getD_getElem?,Array.getElem?_eq_getElem d,Option.getD_some] at q ⊢;rw [q];simp
  ·have t:=left_set q;refine ih _ _ _ (by simpa using h) (by omega) ?_ (I_ext (λ k=>?_) s)
   ·intro k g b n e x y;refine getD_set_true ?_;by_cases ek:k=i
    ·subst ek;rw [m] at b;simp only [Option.some.injEq] at b;subst b;exact c e x y
    ·refine f k g b ?_ e x y;rw [getD_set_ne false (Ne.symm ek)] at n;exact n
   ·by_cases e:k=i
    ·subst e;simp [d]
    ·rw [getD_set_ne false (Ne.symm e)];simp [e]
theorem region_inv {id:Nat} {a:Act} {w:World} (I:Act->(Nat->Prop)->Act->World->Prop) (hm:P.follows .mixedOrders=true) (hd:downs ops=true)
  (h0:I a (λ _=>False) a w.drew) (hst:StepsFrom P ops Q I a 0) (fin:∀ L a' w',I a L a' w'->(∀ k,k<ops.size->L k)->Q .normal a' w'):(Code.region id ops true).wp P Q a w:=by
 refine wp_region_any hm (any_inv hd hst fin ops.size _ a _ (by simp) ?_ ?_ (I_ext (λ k=>?_) h0))
 ·unfold leftOf_;refine Nat.le_trans List.countP_le_length (by simp)
 ·intro k o c b
  exfalso
  simp only [Array.getD_eq_getD_getElem?,Array.getElem?_replicate] at b;split at b <;> simp at b
 ·simp only [Array.getD_eq_getD_getElem?,Array.getElem?_replicate];split <;> simp
end
def Kp (hz g:Nat) (w w':World):Prop:=w.heap.size<=w'.heap.size∧∀ b e cs,hz<=b->b≠g->RowB w b e cs->RowB w' b e cs
theorem Kp.refl (hz g:Nat) (w:World):Kp hz g w w:=⟨Nat.le_refl _,λ _ _ _ _ _ h=>h⟩
theorem Kp.trans {hz g:Nat} {a b c:World} (h:Kp hz g a b) (k:Kp hz g b c):Kp hz g a c:=⟨Nat.le_trans h.1 k.1,λ b e cs h1 h2 h3=>k.2 b e cs h1 h2 (h.2 b e cs h1 h2 h3)⟩
theorem Kp.alloc (hz g:Nat) (w:World) (o:Obj):Kp hz g w (w.alloc o):=⟨by simp,λ _ _ _ _ _ h=>h.alloc o⟩
theorem Kp.grown {hz g:Nat} {w w':World} (h:w.grownBy w' (some g)):Kp hz g w w':=⟨h.size,λ b e cs _ h2 h3=>h3.grown h (λ k hk=>by simp at hk;omega)⟩
theorem Kp.below {hz g:Nat} {w w':World} (h:Below w.heap.size w w'):Kp hz g w w':=⟨h.size,λ b e cs _ _ h3=>h3.below h h3.lt⟩
def Blk (hz g:Nat) (w:World) (v:Value) (n:Nat) (e:TypeId) (cs:List Value):Prop:=∃ b,v=.slice (some ⟨b,0,none⟩) n n∧hz<=b∧b≠g∧RowB w b e cs
theorem Blk.keep {hz g:Nat} {w w':World} {v:Value} {n:Nat} {e:TypeId} {cs:List Value} (h:Blk hz g w v n e cs) (k:Kp hz g w w'):Blk hz g w' v n e cs:=by
 obtain⟨b,f,c,a,d⟩:=h;exact⟨b,f,c,a,k.2 _ _ _ c a d⟩
def Cel (hz g:Nat) (w:World) (v:Value):Prop:=∃(b j:Nat) (e:TypeId) (cs:List Value) (x:Int),v=.pointer (some ⟨b,j,none⟩)∧hz<=b∧b≠g∧RowB w b e cs∧cs[j]?=some (.int .i64 x)
theorem Cel.keep {hz g:Nat} {w w':World} {v:Value} (h:Cel hz g w v) (k:Kp hz g w w'):Cel hz g w' v:=by
 obtain⟨b,j,e,l,x,i,c,a,f,d⟩:=h;exact⟨b,j,e,l,x,i,c,a,k.2 _ _ _ c a f,d⟩
def Bx_ (hz g:Nat) (w:World) (v:Value) (e:TypeId) (cs:List Value):Prop:=∃ b,v=.pointer (some ⟨b,0,none⟩)∧hz<=b∧b≠g∧RowB w b e cs
theorem Bx_.keep {hz g:Nat} {w w':World} {v:Value} {e:TypeId} {cs:List Value} (h:Bx_ hz g w v e cs) (k:Kp hz g w w'):Bx_ hz g w' v e cs:=by
 obtain⟨b,f,c,a,d⟩:=h;exact⟨b,f,c,a,k.2 _ _ _ c a d⟩
end RegInv
theorem bK {ops:Array Go.Oper} {k:Nat} {L:Nat->Prop} (b:∀ j,RegInv.waits ops k j=true->L j) (j:Nat) (h:RegInv.waits ops k j=true:=by kernel_rfl):L j:=b j h

namespace Own
open Go Go.RowKit Go.ChangeShapes Go.WideShapes Go.Deep Base
section
variable {P:Program} {w:World} {α:Type} {en:α->List Value}
theorem OwnS_of {lo g n cap:Nat} {e:TypeId} {sz:Nat} {xs:List α} (hn:n=xs.length) (h:w.ownsRow lo e sz (.slice (some ⟨g,0,none⟩) n cap) n (xs.flatMap en)) (hg:g<w.heap.size) :
  OwnS w lo w.heap.size e sz en (.slice (some ⟨g,0,none⟩) n cap) xs:=by
 subst hn;exact⟨h,λ b a=>by simp [Value.ownBlock] at a;omega⟩
theorem wpL_app {ops:Array Oper} {rest:List Oper} {o:Oper} {a:Act} {Q:Exit->Act->World->Prop} (hgd:o.guard=none) (s x:Operand) (t:TypeId)
  (ho:o.op=.call { callee:=.builtin .append,args:=#[s,x],argTypes:=#[t,t] })
  (lo hi:Nat) (e:TypeId) (i:TypeInfo) (z:Value) (sz bytes:Nat) (ht:P.underlying t=some (.slice e)) (hi0:P.info? e=some i) (hz:i.zero=some z)
  (hsize:i.size=sz) (hby:i.bytes=bytes) (hzs:z.cells.size=sz) (hsz:0<sz) (hen:∀ x,(en x).length=sz) (hone:∀ x,∀ u ∈ en x,u.oneCell'=true)
  (v:Value) (xs ys:List α) (hs:a.eval s=v) (hown:OwnS w lo hi e sz en v xs)
  (ad:Addr) (m c:Nat) (hx:a.eval x=.slice (some ad) m c) (hm:m=ys.length) (hnews:∀ j u,(ys.flatMap en)[j]?=some u->w.cell? (ad.add j)=some u)
  (hm0:0<m) (h63:xs.length+m<=maxLen) (hbytes:(xs.length+m)*bytes<=140737488355328) (hlo:lo<=w.heap.size)
  (h:∀ g cap w',OwnS w' lo w'.heap.size e sz en (.slice (some ⟨g,0,none⟩) (xs.length+m) cap) (xs++ys)->w.grownBy w' v.ownBlock->(v.ownBlock=some g∨g=w.heap.size)->g<w'.heap.size ->
   wpList P ops Q rest (a.put o.dst (.slice (some ⟨g,0,none⟩) (xs.length+m) cap)) w'):wpList P ops Q (o :: rest) a w:=by
 refine wpList_append_lies w hgd s x t ho lo e i z sz bytes ht hi0 hz hsize hby hzs hsz v xs.length (xs.flatMap en) hs hown.1 ad m c (ys.flatMap en) hx (by rw [flatMap_len hen,hm]) hnews ?_ hm0 h63 hbytes hlo _ rfl ?_
 ·intro u n;obtain⟨y,_,l⟩:=List.mem_flatMap.1 n;exact hone y u l
 ·intro g cap w' b f k d;rw [<-List.flatMap_append] at b;exact h g cap w' (OwnS_of (by rw [List.length_append,hm]) b d) f k d
end
theorem one_I (x:Int):∀ u ∈ enI x,u.oneCell'=true:=by intro u a;simp [enI] at a;subst a;rfl
theorem news_new {w:World} {g:Nat} {e:TypeId} {cs:List Value} (h:RowB w g e cs):∀ j u,cs[j]?=some u->w.cell? ((⟨g,0,none⟩:Addr).add j)=some u:=λ j u hu=>by
 have hadd:(⟨g,0,none⟩:Addr).add j=⟨g,j,none⟩:=by unfold Addr.add;split <;> simp_all
 rw [hadd,h.cell,hu]
def Apart (v u:Value):Prop:=∀ g,v.ownBlock=some g->u.ownBlock≠some g
theorem Apart.symm {v u:Value} (h:Apart v u):Apart u v:=λ g hg hv=>h g hv hg
theorem Apart.nil (u:Value):Apart (.slice none 0 0) u:=λ g hg=>by simp [Value.ownBlock] at hg
theorem Apart.app {v u:Value} {g n cap H:Nat} (h:Apart v u) (hu:∀ k,u.ownBlock=some k->k<H) (hat:v.ownBlock=some g∨g=H):Apart (.slice (some ⟨g,0,none⟩) n cap) u:=by
 intro k b a;simp [Value.ownBlock] at b;subst b;rcases hat with hat | hat
 ·exact h _ hat a
 ·have:=hu _ a;omega
section
variable {α:Type} {w w':World} {lo hi sz:Nat} {e:TypeId} {en:α->List Value} {v u:Value} {xs:List α}
theorem OwnS.far (h:OwnS w lo hi e sz en u xs) (hg:w.grownBy w' v.ownBlock) (ha:Apart v u):OwnS w' lo hi e sz en u xs:=by
 refine⟨h.1.kept hg ?_,h.2⟩
 cases hv:u.ownBlock with
 | none=>exact .inl rfl
 | some g=>exact .inr (λ e=>ha g e.symm hv)
end
end Own
end Go.Proofs.YtmncnhbjifeoeaaGreat
