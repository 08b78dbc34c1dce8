/- Parts of the proof of FnEventText. Conditions: each theorem's own. -/
import Derived.Test.YtjdefiinmicjiaaGreatDoorU02
set_option linter.unusedVariables false
set_option linter.unusedSimpArgs false
set_option maxHeartbeats 8000000
set_option maxRecDepth 100000
namespace Go.Proofs.YtjdefiinmicjiaaGreatDoor
namespace DwQ
open Go.ChangeShapes Go.WideShapes Go.ChangeAt Go.RowKit Base Ints Own Draw DrawD RegG
def Gd (xs:List Int) (st:Nat × Int):Prop:=st.1<=xs.length∧0<=st.2∧st.2<2147483647
structure Nb (xs:List Int) (st:Nat × Int) (k x:Int) (st':Nat × Int):Prop where
 nx:Nx xs st k x st'
 ge:0<=x
 lt:1<=k->x<k
 zero:k<=1->x=0
 gd:Gd xs st'
theorem Gd.nb {xs:List Int} {st:Nat × Int} (h:Gd xs st) (k:Int):∃ x st',Nb xs st k x st':=by
 obtain⟨m,s⟩:=st;obtain⟨c,b,a⟩:=h;simp only at c b a;by_cases hk:k<=1
 ·exact⟨0,(m,s),⟨nx1 hk,Int.le_refl _,λ _=>by omega,λ _=>rfl,⟨c,b,a⟩⟩⟩
 ·have z:=seed1 b a;have e:∀ y:Int,0<=y % k∧y % k<k:=λ y=>⟨Int.emod_nonneg _ (by omega),Int.emod_lt_of_pos _ (by omega)⟩
  by_cases hm:m<xs.length
  ·have d:xs[m]?=some xs[m]:=List.getElem?_eq_getElem hm;by_cases h4:k<=256∧((m:Int)+1) % 2=0
   ·exact⟨_,_,⟨nx2 hk d h4.1 h4.2,(e _).1,λ _=>(e _).2,λ h=>absurd h hk,⟨hm,z.2.2.1,z.2.2.2⟩⟩⟩
   ·exact⟨_,_,⟨nx3 hk d h4,(e _).1,λ _=>(e _).2,λ h=>absurd h hk,⟨hm,z.2.2.1,z.2.2.2⟩⟩⟩
  ·exact⟨_,_,⟨nx4 hk hm,(e _).1,λ _=>(e _).2,λ h=>absurd h hk,⟨c,z.2.2.1,z.2.2.2⟩⟩⟩
section
variable {w0 w w':World} {B g cp:Nat} {A:Option Addr} {xs:List Int} {st st':Nat × Int} {k x:Int}
theorem _root_.Go.Proofs.YtjdefiinmicjiaaGreatDoor.DrawD.Dx.gd (h:Dx w0 B g A cp xs st w):Gd xs st:=⟨h.src.2.1,h.src.2.2.1,h.src.2.2.2⟩
theorem nextK (h:Dx w0 B g A cp xs st w) (n:Nx xs st k x st') (hk:k<=9223372036854775807) :
  Calls Tryz.prog 23 #[.pointer (some ⟨g,0,none⟩),.int .i64 k] w λ e w'=>e=.returned (.int .i64 x)∧Dx w0 B g A cp xs st' w'∧w.grownBy w' (some g)∧w'.heap.size=w.heap.size:=by
 refine(nextX h k hk).mono ?_;rintro e w' ⟨y,t,⟨rfl,-,-,-,c⟩,f,d,b⟩;have a:(y,t)=(x,st'):=(show nx xs st k=(y,t) from c).symm.trans n;simp only [Prod.mk.injEq] at a;obtain⟨rfl,rfl⟩:=a;exact⟨rfl,f,d,b⟩
end
def Sq (D:Nat->World->Prop) (L:Nat->Prop) (ops:List Nat) (w:World):Prop:=∃ j,(∀ i o,ops[i]?=some o->(L o↔i<j))∧D j w
section
variable {D:Nat->World->Prop} {L:Nat->Prop} {ops:List Nat} {w w':World}
theorem Sq.zero (h:D 0 w) (hL:∀ o ∈ ops,¬ L o):Sq D L ops w:=⟨0,λ i o ho=>⟨λ h=>absurd h (hL o (List.mem_of_getElem? ho)),λ h=>absurd h (Nat.not_lt_zero _)⟩,h⟩
theorem Sq.at_ (h:Sq D L ops w) (i:Nat) {k:Nat} (hk:ops[i]?=some k) (hno:¬ L k) (hp:∀ i' o,i'<i->ops[i']?=some o->L o):D i w:=by
 obtain⟨j,b,c⟩:=h;have e:j<=i:=Nat.not_lt.1 (λ a=>hno ((b i k hk).2 a));have d:i<=j:=by
  cases i with
  | zero=>exact Nat.zero_le _
  | succ i' =>
   have a:i'<ops.length:=by have:=(List.getElem?_eq_some_iff.1 hk).1;omega
   exact(b i' _ (List.getElem?_eq_getElem a)).1 (hp i' _ (Nat.lt_succ_self _) (List.getElem?_eq_getElem a))
 obtain rfl:j=i:=Nat.le_antisymm e d;exact c
theorem Sq.all (h:Sq D L ops w) (n:Nat) (hn:ops.length=n) (hp:∀ o ∈ ops,L o) (hup:∀ j w,n<=j->D j w->D n w):D n w:=by
 obtain⟨j,b,c⟩:=h;refine hup j w ?_ c
 cases n with
 | zero=>exact Nat.zero_le _
 | succ n =>
  have a:n<ops.length:=by omega
  exact(b n _ (List.getElem?_eq_getElem a)).1 (hp _ (List.getElem_mem a))
theorem Sq.skip (h:Sq D L ops w) (k:Nat) (hk:∀ o ∈ ops,o≠k:=by decide):Sq D (λ j=>j=k∨L j) ops w:=by
 obtain⟨j,b,c⟩:=h;refine⟨j,λ i o a=>?_,c⟩;show (o=k∨L o)↔i<j
 rw [or_ne (hk o (List.mem_of_getElem? a))];exact b i o a
theorem Sq.call {i k:Nat} (h:Sq D L ops w) (hk:ops[i]?=some k) (hno:¬ L k) (hp:∀ i' o,i'<i->ops[i']?=some o->L o) (hd:ops.Nodup) (hD:D (i+1) w'):Sq D (λ j=>j=k∨L j) ops w':=by
 obtain⟨j,g,-⟩:=h;have p:j<=i:=Nat.not_lt.1 (λ a=>hno ((g i k hk).2 a));refine⟨i+1,λ i' o b=>?_,hD⟩;by_cases e:i'=i
 ·subst e;rw [hk] at b;obtain rfl:=Option.some.inj b;exact⟨λ _=>Nat.lt_succ_self _,λ _=>.inl rfl⟩
 ·have c:o≠k:=λ n=>by
   subst n;obtain⟨f,m⟩:=List.getElem?_eq_some_iff.1 b;obtain⟨d,l⟩:=List.getElem?_eq_some_iff.1 hk;rcases Nat.lt_or_gt_of_ne e with a | a
   ·exact(List.pairwise_iff_getElem.1 hd i' i f d a) (m.trans l.symm)
   ·exact(List.pairwise_iff_getElem.1 hd i i' d f a) (l.trans m.symm)
  show (o=k∨L o)↔i'<i+1
  rw [or_ne c];refine⟨λ a=>?_,λ a=>hp i' o (by omega) b⟩;have:=(g i' o b).1 a;omega
theorem Sq.map (h:Sq D L ops w) (hD:∀ j,D j w->D j w'):Sq D L ops w':=by
 obtain⟨j,a,h⟩:=h;exact⟨j,a,hD j h⟩
end
section
variable {L:Nat->Prop} {ops:List Nat} {a b c d:Nat}
theorem pv0:∀ i' o,i'<0->ops[i']?=some o->L o:=λ i' o h=>absurd h (Nat.not_lt_zero _)
theorem pv1 (e0:ops[0]?=some a) (h0:L a):∀ i' o,i'<1->ops[i']?=some o->L o:=λ i' o h ho=>by
 obtain rfl:i'=0:=by omega
 rw [e0] at ho;exact Option.some.inj ho ▸ h0
end
theorem al1 {L:Nat->Prop} {a:Nat} (h0:L a):∀ o ∈ [a],L o:=λ o h=>by simp at h;subst h;exact h0
theorem al2 {L:Nat->Prop} {a b:Nat} (h0:L a) (h1:L b):∀ o ∈ [a,b],L o:=λ o h=>by
 simp at h;rcases h with rfl | rfl
 ·exact h0
 ·exact h1
def Dd (w0 we:World) (B g:Nat) (A:Option Addr) (cp:Nat) (xs:List Int) (sts:List (Nat × Int)) (j:Nat) (w:World):Prop:=∃ st,sts[j]?=some st∧Dx w0 B g A cp xs st w∧we.grownBy w (some g)
section
variable {w0 we w w':World} {B g cp:Nat} {A:Option Addr} {xs:List Int} {sts:List (Nat × Int)} {L:Nat->Prop} {ops:List Nat}
abbrev SqD (w0 we:World) (B g:Nat) (A:Option Addr) (cp:Nat) (xs:List Int) (sts:List (Nat × Int)) (L:Nat->Prop) (ops:List Nat) (w:World):Prop:=Sq (Dd w0 we B g A cp xs sts) L ops w
theorem SqD.gr (h:SqD w0 we B g A cp xs sts L ops w):we.grownBy w (some g):=by obtain⟨j,c,b,e,d,a⟩:=h;exact a
theorem SqD.below (h:SqD w0 we B g A cp xs sts L ops w) (hb:Below w.heap.size w w'):SqD w0 we B g A cp xs sts L ops w':=by
 obtain⟨j,c,b,f,a,e⟩:=h;exact⟨j,c,b,f,a.below hb a.lt,grownBy_trans e ⟨hb.os,hb.tape,hb.output,hb.size,λ i d _=>hb.block i d⟩⟩
theorem SqD.at_ {st:Nat × Int} (h:SqD w0 we B g A cp xs sts L ops w) (i:Nat) (hs:sts[i]?=some st) {k:Nat} (hk:ops[i]?=some k) (hno:¬ L k) (hp:∀ i' o,i'<i->ops[i']?=some o->L o):Dx w0 B g A cp xs st w:=by
 obtain⟨b,a,c,d⟩:=Sq.at_ h i hk hno hp;rw [hs] at a;obtain rfl:=Option.some.inj a;exact c
theorem SqD.call {i k:Nat} {st:Nat × Int} (h:SqD w0 we B g A cp xs sts L ops w) (hs:sts[i+1]?=some st) (hk:ops[i]?=some k) (hno:¬ L k) (hp:∀ i' o,i'<i->ops[i']?=some o->L o) (hd:ops.Nodup) (hD:Dx w0 B g A cp xs st w') (hg:w.grownBy w' (some g)):SqD w0 we B g A cp xs sts (λ j=>j=k∨L j) ops w' :=
 Sq.call h hk hno hp hd ⟨st,hs,hD,grownBy_trans h.gr hg⟩
theorem SqD.end_ {st:Nat × Int} (h:SqD w0 we B g A cp xs sts L ops w) (n:Nat) (hn:ops.length=n) (hs:sts[n]?=some st) (hl:sts.length=n+1) (hp:∀ o ∈ ops,L o):Dx w0 B g A cp xs st w∧we.grownBy w (some g):=by
 obtain⟨b,a,d,c⟩:=Sq.all h n hn hp (λ j w hj ⟨s',e1,e2⟩=>by
  have:=(List.getElem?_eq_some_iff.1 e1).1;obtain rfl:j=n:=by omega
  exact⟨s',e1,e2⟩)
 rw [hs] at a;obtain rfl:=Option.some.inj a;exact⟨d,c⟩
end
theorem grown_own {a b c:World} {row row':Option Nat} (h:a.grownBy b row) (k:b.grownBy c row') (hk:∀ i,row'=some i->a.heap.size<=i):a.grownBy c row :=
 ⟨k.os.trans h.os,k.tape.trans h.tape,k.output.trans h.output,Nat.le_trans h.size k.size,λ i hi hr=>(k.block i (Nat.lt_of_lt_of_le hi h.size) (λ e=>by have:=hk i e.symm;omega)).trans (h.block i hi hr)⟩
theorem grown_bel {a b:World} {row:Option Nat} (h:Below a.heap.size a b):a.grownBy b row:=⟨h.os,h.tape,h.output,h.size,λ i hi _=>h.block i hi⟩
structure SqA (w0 we:World) (B g:Nat) (A:Option Addr) (cp:Nat) (xs:List Int) (sts:List (Nat × Int)) (L:Nat->Prop) (ops:List Nat) (pN:Prop) (P:World->Prop) (w:World):Prop where
 sq:¬ pN->SqD w0 we B g A cp xs sts L ops w
 fin:pN->P w
structure SqB (w0 we:World) (B g:Nat) (A:Option Addr) (cp:Nat) (xs:List Int) (sts:List (Nat × Int)) (L:Nat->Prop) (ops:List Nat) (pj pN:Prop) (vj:Value) (t:TypeId) (cs0 cs1:List Value) (w:World):Prop where
 sq:SqD w0 we B g A cp xs sts L ops w
 bx:pj->¬ pN->∃ q,vj=.pointer (some ⟨q,0,none⟩)∧we.heap.size<=q∧RowB w q t cs0
 fin:pN->∃ q,vj=.pointer (some ⟨q,0,none⟩)∧we.heap.size<=q∧RowB w q t cs1
section
variable {w0 we w w':World} {B g cp:Nat} {A:Option Addr} {xs:List Int} {sts:List (Nat × Int)} {L:Nat->Prop} {ops:List Nat} {N j:Nat} {P:World->Prop} {vals:Nat->Value} {t:TypeId} {cs0 cs1:List Value}
theorem SqA.skip (F:SqA w0 we B g A cp xs sts L ops (L N) P w) (k:Nat) (h:(ops.all (λ o=>o != k) && (N != k))=true:=by decide):SqA w0 we B g A cp xs sts (λ j=>j=k∨L j) ops (N=k∨L N) P w:=by
 simp only [Bool.and_eq_true,bne_iff_ne,ne_eq,List.all_eq_true] at h;rw [or_ne h.2];exact⟨λ a=>(F.sq a).skip k h.1,F.fin⟩
theorem SqA.call {i k:Nat} {st:Nat × Int} (F:SqA w0 we B g A cp xs sts L ops (L N) P w) (hN:¬ L N) (hs:sts[i+1]?=some st) (hk:ops[i]?=some k) (hno:¬ L k) (hp:∀ i' o,i'<i->ops[i']?=some o->L o) (hd:(decide ops.Nodup && (N != k))=true) (hD:Dx w0 B g A cp xs st w') (hg:w.grownBy w' (some g)):SqA w0 we B g A cp xs sts (λ j=>j=k∨L j) ops (N=k∨L N) P w':=by
 simp only [Bool.and_eq_true,decide_eq_true_eq,bne_iff_ne,ne_eq] at hd;rw [or_ne hd.2];exact⟨λ a=>(F.sq a).call hs hk hno hp hd.1 hD hg,λ h=>absurd h hN⟩
theorem SqA.last (h:P w'):SqA w0 we B g A cp xs sts (λ j=>j=N∨L j) ops (N=N∨L N) P w':=⟨λ hn=>absurd (.inl rfl) hn,λ _=>h⟩
theorem SqD.start {st:Nat × Int} (h:Dx w0 B g A cp xs st we) (hs:sts[0]?=some st) (hL:∀ o ∈ ops,¬ L o):SqD w0 we B g A cp xs sts L ops we.drew:=Sq.zero ⟨st,hs,h.drew,grown_bel (Below.refl _ _).drew⟩ hL
theorem SqA.start {pN:Prop} {st:Nat × Int} (h:Dx w0 B g A cp xs st we) (hs:sts[0]?=some st) (hL:∀ o ∈ ops,¬ L o) (hN:¬ pN):SqA w0 we B g A cp xs sts L ops pN P we.drew:=⟨λ _=>SqD.start h hs hL,λ h=>absurd h hN⟩
theorem SqB.skip (F:SqB w0 we B g A cp xs sts L ops (L j) (L N) (vals j) t cs0 cs1 w) (k:Nat) (u:Value) (h:(ops.all (λ o=>o != k) && (j != k) && (N != k))=true:=by decide):SqB w0 we B g A cp xs sts (λ j=>j=k∨L j) ops (j=k∨L j) (N=k∨L N) (upd vals k u j) t cs0 cs1 w:=by
 simp only [Bool.and_eq_true,bne_iff_ne,ne_eq,List.all_eq_true] at h;rw [or_ne h.1.2,or_ne h.2,upd_ne h.1.2];exact⟨F.sq.skip k h.1.1,F.bx,F.fin⟩
theorem SqB.below (F:SqB w0 we B g A cp xs sts L ops (L j) (L N) (vals j) t cs0 cs1 w) (hb:Below w.heap.size w w'):SqB w0 we B g A cp xs sts L ops (L j) (L N) (vals j) t cs0 cs1 w' :=
 ⟨F.sq.below hb,λ h hn=>by obtain⟨q,h1,h2,h3⟩:=F.bx h hn;exact⟨q,h1,h2,h3.below hb h3.lt⟩,λ h=>by obtain⟨q,h1,h2,h3⟩:=F.fin h;exact⟨q,h1,h2,h3.below hb h3.lt⟩⟩
theorem SqB.call {i k:Nat} {st:Nat × Int} {u:Value} (F:SqB w0 we B g A cp xs sts L ops (L j) (L N) (vals j) t cs0 cs1 w) (hgl:g<we.heap.size) (hs:sts[i+1]?=some st) (hk:ops[i]?=some k) (hno:¬ L k) (hp:∀ i' o,i'<i->ops[i']?=some o->L o) (hd:(decide ops.Nodup && (j != k) && (N != k))=true) (hD:Dx w0 B g A cp xs st w') (hg:w.grownBy w' (some g)):SqB w0 we B g A cp xs sts (λ j=>j=k∨L j) ops (j=k∨L j) (N=k∨L N) (upd vals k u j) t cs0 cs1 w':=by
 simp only [Bool.and_eq_true,decide_eq_true_eq,bne_iff_ne,ne_eq] at hd;rw [or_ne hd.1.2,or_ne hd.2,upd_ne hd.1.2];refine⟨F.sq.call hs hk hno hp hd.1.1 hD hg,λ h d=>?_,λ h=>?_⟩
 ·obtain⟨q,c,b,a⟩:=F.bx h d;exact⟨q,c,b,a.grown hg (λ k hk=>by simp at hk;omega)⟩
 ·obtain⟨q,c,b,a⟩:=F.fin h;exact⟨q,c,b,a.grown hg (λ k hk=>by simp at hk;omega)⟩
theorem SqB.box (F:SqB w0 we B g A cp xs sts L ops (L j) (L N) (vals j) t cs0 cs1 w) (hN:¬ L N) (h:(ops.all (λ o=>o != j) && (N != j))=true):SqB w0 we B g A cp xs sts (λ i=>i=j∨L i) ops (j=j∨L j) (N=j∨L N) (upd vals j (.pointer (some ⟨w.heap.size,0,none⟩)) j) t cs0 cs1 (w.alloc (.cells ⟨cs0⟩ t)):=by
 simp only [Bool.and_eq_true,bne_iff_ne,ne_eq,List.all_eq_true] at h;rw [or_ne h.2,upd_same];exact⟨(F.sq.below ((Below.refl _ _).alloc (Nat.le_refl _) _)).skip j h.1,λ _ _=>⟨_,rfl,F.sq.gr.size,RowB.new _ _ _⟩,λ a=>absurd a hN⟩
theorem SqB.wrote {q:Nat} {u:Value} (F:SqB w0 we B g A cp xs sts L ops (L j) (L N) (vals j) t cs0 cs1 w) (hgl:g<we.heap.size) (hBl:B<=g) (hv:vals j=.pointer (some ⟨q,0,none⟩)) (hq:we.heap.size<=q) (hr:RowB w' q t cs1) (hg:w.grownBy w' (some q)) (h:(ops.all (λ o=>o != N) && (j != N))=true):SqB w0 we B g A cp xs sts (λ i=>i=N∨L i) ops (j=N∨L j) (N=N∨L N) (upd vals N u j) t cs0 cs1 w':=by
 simp only [Bool.and_eq_true,bne_iff_ne,ne_eq,List.all_eq_true] at h;rw [upd_ne h.2];refine⟨Sq.skip ?_ N h.1,λ _ c=>absurd (.inl rfl) c,λ _=>⟨q,hv,hq,hr⟩⟩;obtain⟨i,d,b,l,f,e⟩:=F.sq;exact⟨i,d,b,l,f.grown hg (λ k a=>by simp at a;omega) (λ k a=>by simp at a;omega),grown_own e hg (λ k a=>by simp at a;omega)⟩
theorem SqB.start {pj pN:Prop} {vj:Value} {st:Nat × Int} (h:Dx w0 B g A cp xs st we) (hs:sts[0]?=some st) (hL:∀ o ∈ ops,¬ L o) (hj:¬ pj) (hN:¬ pN):SqB w0 we B g A cp xs sts L ops pj pN vj t cs0 cs1 we.drew:=⟨SqD.start h hs hL,λ h=>absurd h hj,λ h=>absurd h hN⟩
end
structure Ru (w0 w:World) (B g:Nat) (A:Option Addr) (cp:Nat) (xs:List Int) (st:Nat × Int) (t:TypeId) (cs:List Value) (W:World):Prop where
 D:Dx w0 B g A cp xs st W
 gr:w.grownBy W (some g)
 rr:RowB W w.heap.size t cs
 lt:g<w.heap.size
section
variable {w0 w W W':World} {B g cp:Nat} {A:Option Addr} {xs:List Int} {st st':Nat × Int} {t:TypeId} {cs:List Value}
theorem Ru.start (h:Dx w0 B g A cp xs st w):Ru w0 w B g A cp xs st t cs (w.alloc (.cells ⟨cs⟩ t)):=⟨h.alloc _,World.grownBy_alloc _ _ _,RowB.new _ _ _,h.lt⟩
theorem Ru.next (K:Ru w0 w B g A cp xs st t cs W) (hD:Dx w0 B g A cp xs st' W') (hg:W.grownBy W' (some g)):Ru w0 w B g A cp xs st' t cs W' :=
 ⟨hD,grownBy_trans K.gr hg,K.rr.grown hg (λ k hk=>by simp at hk;have:=K.lt;omega),K.lt⟩
theorem Ru.below (K:Ru w0 w B g A cp xs st t cs W) (hb:Below W.heap.size W W'):Ru w0 w B g A cp xs st t cs W' :=
 ⟨K.D.below hb K.D.lt,grownBy_trans K.gr (grown_bel hb),K.rr.below hb K.rr.lt,K.lt⟩
theorem Ru.alloc (K:Ru w0 w B g A cp xs st t cs W) (o:Obj):Ru w0 w B g A cp xs st t cs (W.alloc o):=K.below ((Below.refl _ _).alloc (Nat.le_refl _) _)
theorem Ru.put (K:Ru w0 w B g A cp xs st t cs W) {q:Nat} (hq:w.heap.size<q) (hg:W.grownBy W' (some q)):Ru w0 w B g A cp xs st t cs W':=by
 have l:=K.lt;have b:=K.D.base;exact⟨K.D.grown hg (λ k a=>by simp at a;omega) (λ k a=>by simp at a;omega),grown_own K.gr hg (λ i c=>by simp at c;omega),K.rr.grown hg (λ k a=>by simp at a;omega),K.lt⟩
theorem Ru.res {cs':List Value} (K:Ru w0 w B g A cp xs st t cs W) (h:RowB W' w.heap.size t cs') (hg:W.grownBy W' (some w.heap.size)):Ru w0 w B g A cp xs st t cs' W':=by
 have l:=K.lt;have b:=K.D.base;exact⟨K.D.grown hg (λ k a=>by simp at a;omega) (λ k a=>by simp at a;omega),grown_own K.gr hg (λ i c=>by simp at c;omega),h,K.lt⟩
end
structure Rx (w0 w:World) (B g:Nat) (A:Option Addr) (cp:Nat) (xs:List Int) (st:Nat × Int) (L:List (Nat × TypeId × List Value)) (W:World):Prop where
 D:Dx w0 B g A cp xs st W
 gr:w.grownBy W (some g)
 at_:∀ p ∈ L,RowB W (w.heap.size+p.1) p.2.1 p.2.2
 lt:g<w.heap.size
section
variable {w0 w W W':World} {B g cp:Nat} {A:Option Addr} {xs:List Int} {st st':Nat × Int} {L:List (Nat × TypeId × List Value)}
theorem Rx.next (K:Rx w0 w B g A cp xs st L W) (hD:Dx w0 B g A cp xs st' W') (hg:W.grownBy W' (some g)):Rx w0 w B g A cp xs st' L W' :=
 ⟨hD,grownBy_trans K.gr hg,λ p hp=>(K.at_ p hp).grown hg (λ k hk=>by simp at hk;have:=K.lt;omega),K.lt⟩
theorem Rx.below (K:Rx w0 w B g A cp xs st L W) (hb:Below W.heap.size W W'):Rx w0 w B g A cp xs st L W' :=
 ⟨K.D.below hb K.D.lt,grownBy_trans K.gr (grown_bel hb),λ p hp=>(K.at_ p hp).below hb (K.at_ p hp).lt,K.lt⟩
theorem Rx.nth (K:Rx w0 w B g A cp xs st L W) (i:Nat) {o:Nat} {t:TypeId} {cs:List Value} (h:L[i]?=some (o,t,cs)):RowB W (w.heap.size+o) t cs:=K.at_ _ (List.mem_of_getElem? h)
theorem Rx.nth0 (K:Rx w0 w B g A cp xs st L W) (i:Nat) {t:TypeId} {cs:List Value} (h:L[i]?=some (0,t,cs)):RowB W w.heap.size t cs:=K.at_ _ (List.mem_of_getElem? h)
theorem Rx.grown (K:Rx w0 w B g A cp xs st L W) (o:Nat) {t:TypeId} {new:List Value} (h:RowB W' (w.heap.size+o) t new) (hg:W.grownBy W' (some (w.heap.size+o))):Rx w0 w B g A cp xs st (L.map λ p=>if p.1=o then (o,t,new) else p) W':=by
 have l:=K.lt;have b:=K.D.base;refine⟨K.D.grown hg (λ k a=>by simp at a;omega) (λ k a=>by simp at a;omega),grown_own K.gr hg (λ i f=>by simp at f;omega),λ p d=>?_,K.lt⟩;obtain⟨q,c,rfl⟩:=List.mem_map.1 d;by_cases e:q.1=o
 ·rw [if_pos e];exact h
 ·rw [if_neg e];exact(K.at_ q c).grown hg (λ k a=>by simp at a;omega)
theorem Rx.put (K:Rx w0 w B g A cp xs st L W) {q:Nat} (hl:∀ p ∈ L,w.heap.size+p.1≠q) (hq:w.heap.size<=q) (hg:W.grownBy W' (some q)):Rx w0 w B g A cp xs st L W':=by
 have l:=K.lt;have b:=K.D.base;exact⟨K.D.grown hg (λ k a=>by simp at a;omega) (λ k a=>by simp at a;omega),grown_own K.gr hg (λ i d=>by simp at d;omega),λ p c=>(K.at_ p c).grown hg (λ k a=>by simp at a;have:=hl p c;omega),K.lt⟩
end
end DwQ
namespace PlP
structure Vr where
 p:Int
 c:Int
 h:Int
 s:Int
abbrev Bd:=List Int × List Int
abbrev Stp:=Int × Int × Int × Bool
abbrev Pl:=List Stp × Bd
def okV (v:Vr):Bool:=decide ((2<=v.p∧v.p<=24)∧(1<=v.c∧v.c<=15)∧(1<=v.h∧v.h<=v.p)∧1<=v.s∧v.s<=6)
def at_ (l:List Int) (i:Nat):Int:=l.getD i 0
def okS (v:Vr) (l:List Int):Bool:=decide ((l.length:Int)=v.p+1) && (l.all λ x=>decide (0<=x)) && decide (l.sum<=v.c)
def apart (v:Vr) (b:Bd):Nat->Bool
 | 0=>true
 | k+1=>apart v b k && !(decide (0<at_ b.1 k) && decide (0<at_ b.2 (v.p.toNat - 1 - k)))
def okB (v:Vr) (b:Bd):Bool:=okV v && okS v b.1 && okS v b.2 && !(decide (b.1.sum=0) && decide (b.2.sum=0)) && apart v b v.p.toNat
def over (b:Bd):Bool:=decide (b.1.sum=0) || decide (b.2.sum=0)
def lastU (l:List Int):Nat->Int
 | 0=>-1
 | k+1=>if 0<at_ l k then (k:Int) else lastU l k
def last (l:List Int):Int:=lastU l l.length
def stepP (v:Vr) (b:Bd) (f d:Int):Option Stp :=
 if at_ b.1 f.toNat=0∨(0<at_ b.1 v.p.toNat∧f≠v.p) then none
 else if 0<=f - d then
  (if at_ b.2 (v.p - 1 - (f - d)).toNat<=1 then some (f,f - d,d,decide (at_ b.2 (v.p - 1 - (f - d)).toNat=1)) else none)
 else if v.h<=last b.1∨(f - d < -1∧f<last b.1) then none
 else some (f,-1,d,false)
def lgU (v:Vr) (b:Bd) (d:Int):Nat->List Stp
 | 0=>[]
 | k+1=>lgU v b d k++(stepP v b (v.p - (k:Int)) d).toList
def legalP (v:Vr) (b:Bd) (d:Int):List Stp:=if over b then [] else lgU v b d (v.p.toNat+1)
def inc (l:List Int) (i:Nat) (x:Int):List Int:=l.set i (at_ l i+x)
def afterP (v:Vr) (b:Bd) (s:Stp):Bd :=
 (if 0<=s.2.1 then inc (inc b.1 s.1.toNat (-1)) s.2.1.toNat 1 else inc b.1 s.1.toNat (-1),
  if s.2.2.2 then inc (inc b.2 (v.p - 1 - s.2.1).toNat (-1)) v.p.toNat 1 else b.2)
def hasB (out:List Pl) (b:Bd):Bool:=out.any λ q=>decide (q.2=b)
def addOne (out:List Pl) (p:Pl):List Pl:=if hasB out p.2 then out else out++[p]
def nxIn (v:Vr) (p:Pl) (ss:List Stp) (out:List Pl):List Pl:=ss.foldl (λ o s=>addOne o (p.1++[s],afterP v p.2 s)) out
def nextP (v:Vr) (d:Int) (ps:List Pl):List Pl:=ps.foldl (λ o p=>nxIn v p (legalP v p.2 d) o) []
def rowsGo (v:Vr):List Int->List (List Pl)->Bool->List (List Pl) × Bool
 | [],rows,fine=>(rows,fine)
 | d :: ds,rows,fine =>
  let nx:=nextP v d (rows.getLastD [])
  if nx.length=0 then (rows,fine) else rowsGo v ds (rows++[nx]) (fine && decide (nx.length<=3000))
def rowsP (v:Vr) (b:Bd) (ds:List Int):List (List Pl) × Bool:=rowsGo v ds [[([],b)]] true
def lngGo (v:Vr):List Int->List Pl->Nat->Bool->List Pl × Nat × Bool
 | [],ps,k,fine=>(ps,k,fine)
 | d :: ds,ps,k,fine =>
  let nx:=nextP v d ps
  if nx.length=0 then (ps,k,fine && decide (nx.length<=3000)) else lngGo v ds nx (k+1) (fine && decide (nx.length<=3000))
def lngP (v:Vr) (b:Bd) (ds:List Int):List Pl × Nat × Bool:=lngGo v ds [([],b)] 0 true
def ordP (a b:Int):List (List Int):=if a=b then [[a,a,a,a]] else [[a,b],[b,a]]
def addAll (out ps:List Pl):List Pl:=ps.foldl addOne out
def usedP (v:Vr) (b:Bd):List (List Int)->Nat
 | []=>0
 | o :: os=>max (lngP v b o).2.1 (usedP v b os)
def allGo (v:Vr) (b:Bd) (u:Nat):Nat->List (List Int)->List Pl->Bool->List Pl × Bool
 | _,[],out,fine=>(out,fine)
 | i,o :: os,out,fine =>
  let l:=lngP v b o
  allGo v b u (i+1) os (if l.2.1≠u∨(u=1∧i=1∧0<out.length) then out else addAll out l.1) (fine && l.2.2)
def allP (v:Vr) (b:Bd) (x y:Int):List Pl × Bool:=allGo v b (usedP v b (ordP x y)) 0 (ordP x y) [] true
theorem at_get {l:List Int} {i:Nat} (h:i<l.length):l[i]?=some (at_ l i):=by
 unfold at_;rw [List.getD_eq_getElem?_getD,List.getElem?_eq_getElem h];rfl
theorem at_out {l:List Int} {i:Nat} (h:l.length<=i):at_ l i=0:=by
 unfold at_;rw [List.getD_eq_getElem?_getD,List.getElem?_eq_none h];rfl
theorem inc_len (l:List Int) (i:Nat) (x:Int):(inc l i x).length=l.length:=by unfold inc;simp
theorem inc_at (l:List Int) (i j:Nat) (x:Int) (h:i<l.length):at_ (inc l i x) j=if j=i then at_ l i+x else at_ l j:=by
 unfold inc at_;rw [List.getD_eq_getElem?_getD,List.getElem?_set];by_cases e:i=j
 ·subst e;simp [h]
 ·rw [if_neg e,if_neg (λ h=>e h.symm),List.getD_eq_getElem?_getD]
theorem sum_set:∀(l:List Int) (i:Nat) (x:Int),i<l.length->(l.set i x).sum=l.sum - at_ l i+x:=by
 intro l
 induction l with
 | nil=>intro i x h;simp at h
 | cons y l ih =>
  intro i x h
  cases i with
  | zero=>simp [at_];omega
  | succ i =>
   have:=ih i x (by simpa using h);simp only [List.set_cons_succ,List.sum_cons,at_,List.getD_cons_succ] at *;omega
theorem inc_sum (l:List Int) (i:Nat) (x:Int) (h:i<l.length):(inc l i x).sum=l.sum+x:=by
 unfold inc;rw [sum_set l i _ h];omega
theorem sum_nn:∀(l:List Int),(∀ i,0<=at_ l i)->0<=l.sum∧∀ i,at_ l i<=l.sum:=by
 intro l
 induction l with
 | nil=>intro _;exact⟨by simp,λ i=>by simp [at_]⟩
 | cons x l ih =>
  intro h;have b:=h 0;have a:=ih (λ i=>by have:=h (i+1);simpa [at_] using this);simp only [at_,List.getD_cons_zero] at b;refine⟨by simp;omega,λ i=>?_⟩
  cases i with
  | zero=>simp [at_];omega
  | succ i=>have:=a.2 i;simp only [at_,List.getD_cons_succ,List.sum_cons] at *;omega
structure Sd (v:Vr) (l:List Int):Prop where
 len:(l.length:Int)=v.p+1
 nn:∀ i,0<=at_ l i
 sum:l.sum<=v.c
theorem okS_iff {v:Vr} {l:List Int}:okS v l=true↔Sd v l:=by
 unfold okS;simp only [Bool.and_eq_true,decide_eq_true_eq,List.all_eq_true]
 constructor
 ·rintro⟨⟨h1,h2⟩,h3⟩;refine⟨h1,λ i=>?_,h3⟩;rcases Nat.lt_or_ge i l.length with h | h
  ·exact h2 _ (List.mem_of_getElem? (at_get h))
  ·rw [at_out h];exact Int.le_refl _
 ·rintro⟨h1,h2,h3⟩;refine⟨⟨h1,λ x b=>?_⟩,h3⟩;obtain⟨i,a⟩:=List.getElem?_of_mem b;have c:=(List.getElem?_eq_some_iff.1 a).1;rw [at_get c] at a;have:=h2 i;simp only [Option.some.injEq] at a;omega
theorem Sd.top {v:Vr} {l:List Int} (h:Sd v l) (i:Nat):at_ l i<=v.c:=by
 have:=(sum_nn l h.nn).2 i;have:=h.sum;omega
theorem Sd.sum0 {v:Vr} {l:List Int} (h:Sd v l):0<=l.sum:=(sum_nn l h.nn).1
theorem okV_iff {v:Vr}:okV v=true↔(2<=v.p∧v.p<=24)∧(1<=v.c∧v.c<=15)∧(1<=v.h∧v.h<=v.p)∧1<=v.s∧v.s<=6:=by
 unfold okV;exact decide_eq_true_iff
theorem apart_iff {v:Vr} {b:Bd}:∀ k,apart v b k=true↔∀ i,i<k->¬ (0<at_ b.1 i∧0<at_ b.2 (v.p.toNat - 1 - i)):=by
 intro k
 induction k with
 | zero=>simp [apart]
 | succ k ih =>
  simp only [apart,Bool.and_eq_true,ih,Bool.not_eq_true',Bool.and_eq_false_iff,decide_eq_false_iff_not]
  constructor
  ·rintro⟨h1,h2⟩ i a;by_cases e:i=k
   ·subst e;omega
   ·exact h1 i (by omega)
  ·intro h;exact⟨λ i a=>h i (by omega),by have:=h k (by omega);omega⟩
structure Ok (v:Vr) (b:Bd):Prop where
 v1:(2<=v.p∧v.p<=24)∧(1<=v.c∧v.c<=15)∧(1<=v.h∧v.h<=v.p)∧1<=v.s∧v.s<=6
 own:Sd v b.1
 oth:Sd v b.2
 some_:¬ (b.1.sum=0∧b.2.sum=0)
 ap:∀ i,i<v.p.toNat->¬ (0<at_ b.1 i∧0<at_ b.2 (v.p.toNat - 1 - i))
theorem okB_iff {v:Vr} {b:Bd}:okB v b=true↔Ok v b:=by
 unfold okB;simp only [Bool.and_eq_true,okV_iff,okS_iff,Bool.not_eq_true',Bool.and_eq_false_iff,decide_eq_false_iff_not,apart_iff]
 constructor
 ·rintro⟨⟨⟨⟨h1,h2⟩,h3⟩,h4⟩,h5⟩;exact⟨h1,h2,h3,by omega,h5⟩
 ·rintro⟨h1,h2,h3,h4,h5⟩;exact⟨⟨⟨⟨h1,h2⟩,h3⟩,by omega⟩,h5⟩
theorem step_parts {v:Vr} {b:Bd} {f d:Int} {s:Stp} (hf:0<=f∧f<=v.p) (hb:Ok v b) (h:stepP v b f d=some s) :
  s.1=f∧s.2.2.1=d∧0<at_ b.1 f.toNat∧((0<=f - d∧s.2.1=f - d∧at_ b.2 (v.p - 1 - (f - d)).toNat<=1∧s.2.2.2=decide (at_ b.2 (v.p - 1 - (f - d)).toNat=1))∨(f - d<0∧s.2.1=-1∧s.2.2.2=false)):=by
 have c:=hb.own.nn f.toNat;unfold stepP at h;split at h
 ·cases h
 ·rename_i h1
  have a:0<at_ b.1 f.toNat:=by omega
  split at h
  ·split at h
   ·simp only [Option.some.injEq] at h;subst h;exact⟨rfl,rfl,a,.inl ⟨by assumption,rfl,by assumption,rfl⟩⟩
   ·cases h
  ·split at h
   ·cases h
   ·simp only [Option.some.injEq] at h;subst h;exact⟨rfl,rfl,a,.inr ⟨by omega,rfl,rfl⟩⟩
theorem after_ok {v:Vr} {b:Bd} {f d:Int} {s:Stp} (hf:0<=f∧f<=v.p) (hd:1<=d) (hb:Ok v b) (ho:over b=false) (h:stepP v b f d=some s):Ok v (afterP v b s):=by
 obtain⟨H,G,R,F⟩:=step_parts hf hb h;obtain⟨a,P,c,O⟩:=s;simp only at H G F;subst H G;have B:=hb.v1;have y:=hb.own.len;have D:=hb.oth.len;have K:=hb.own.sum0;have J:=hb.oth.sum0;have M:=hb.own.sum;have L:=hb.oth.sum;unfold over at ho;simp only [Bool.or_eq_false_iff,decide_eq_false_iff_not] at ho;have l:a.toNat<b.1.length:=by omega
 have o:∀ j,0<=at_ (inc b.1 a.toNat (-1)) j:=by
  intro j;rw [inc_at _ _ _ _ l];split
  ·omega
  ·exact hb.own.nn j
 rcases F with ⟨k0,rfl,k1,rfl⟩ | ⟨k0,rfl,rfl⟩
 ·have q:(a - c).toNat<(inc b.1 a.toNat (-1)).length:=by rw [inc_len];omega
  have x:(v.p - 1 - (a - c)).toNat<b.2.length:=by omega
  have N:(v.p - 1 - (a - c)).toNat=v.p.toNat - 1 - (a - c).toNat:=by omega
  have I:=hb.oth.nn (v.p - 1 - (a - c)).toNat;have k:(afterP v b (a,a - c,c,decide (at_ b.2 (v.p - 1 - (a - c)).toNat=1))).1=inc (inc b.1 a.toNat (-1)) (a - c).toNat 1:=by unfold afterP;simp only [if_pos k0]
  have r:∀ j,at_ (inc (inc b.1 a.toNat (-1)) (a - c).toNat 1) j=(if j=(a - c).toNat then at_ (inc b.1 a.toNat (-1)) (a - c).toNat+1 else at_ (inc b.1 a.toNat (-1)) j):=λ j=>inc_at _ _ _ _ q
  have E:Sd v (inc (inc b.1 a.toNat (-1)) (a - c).toNat 1):=by
   refine⟨by rw [inc_len,inc_len];exact y,λ j=>?_,by rw [inc_sum _ _ _ q,inc_sum _ _ _ l];omega⟩;rw [r];split
   ·have:=o (a - c).toNat;omega
   ·exact o j
  have m:(inc (inc b.1 a.toNat (-1)) (a - c).toNat 1).sum=b.1.sum:=by rw [inc_sum _ _ _ q,inc_sum _ _ _ l];omega
  by_cases hh:at_ b.2 (v.p - 1 - (a - c)).toNat=1
  ·have g:(afterP v b (a,a - c,c,decide (at_ b.2 (v.p - 1 - (a - c)).toNat=1))).2=inc (inc b.2 (v.p - 1 - (a - c)).toNat (-1)) v.p.toNat 1:=by unfold afterP;simp only [hh,decide_true,if_true]
   have w:v.p.toNat<(inc b.2 (v.p - 1 - (a - c)).toNat (-1)).length:=by rw [inc_len];omega
   have A:∀ j,at_ (inc (inc b.2 (v.p - 1 - (a - c)).toNat (-1)) v.p.toNat 1) j=(if j=v.p.toNat then at_ (inc b.2 (v.p - 1 - (a - c)).toNat (-1)) v.p.toNat+1 else at_ (inc b.2 (v.p - 1 - (a - c)).toNat (-1)) j):=λ j=>inc_at _ _ _ _ w
   have n:∀ j,at_ (inc b.2 (v.p - 1 - (a - c)).toNat (-1)) j=(if j=(v.p - 1 - (a - c)).toNat then at_ b.2 (v.p - 1 - (a - c)).toNat+-1 else at_ b.2 j):=λ j=>inc_at _ _ _ _ x
   have t:∀ j,0<=at_ (inc b.2 (v.p - 1 - (a - c)).toNat (-1)) j:=by
    intro j;rw [n];split
    ·omega
    ·exact hb.oth.nn j
   refine⟨B,?_,?_,?_,?_⟩
   ·rw [k];exact E
   ·rw [g];refine⟨by rw [inc_len,inc_len];exact D,λ j=>?_,by rw [inc_sum _ _ _ w,inc_sum _ _ _ x];omega⟩;rw [A];split
    ·have:=t v.p.toNat;omega
    ·exact t j
   ·rw [k,m];omega
   ·rw [k,g];intro i z;have C:¬ v.p.toNat - 1 - i=v.p.toNat:=by omega
    rw [A,if_neg C,n,r];by_cases ei:i=(a - c).toNat
    ·subst ei;rw [if_pos (by omega:v.p.toNat - 1 - (a - c).toNat=(v.p - 1 - (a - c)).toNat)];omega
    ·rw [if_neg ei,if_neg (by omega:¬ v.p.toNat - 1 - i=(v.p - 1 - (a - c)).toNat),inc_at _ _ _ _ l];have:=hb.ap i z;have Q:=hb.own.nn i;split
     ·rename_i e;subst e;omega
     ·exact this
  ·have g:(afterP v b (a,a - c,c,decide (at_ b.2 (v.p - 1 - (a - c)).toNat=1))).2=b.2:=by unfold afterP;simp only [hh,decide_false,Bool.false_eq_true,if_false]
   refine⟨B,?_,?_,?_,?_⟩
   ·rw [k];exact E
   ·rw [g];exact hb.oth
   ·rw [k,m,g];omega
   ·rw [k,g];intro i z;rw [r];by_cases ei:i=(a - c).toNat
    ·subst ei;rw [<-N];omega
    ·rw [if_neg ei,inc_at _ _ _ _ l];have:=hb.ap i z;split
     ·rename_i e;subst e;omega
     ·exact this
 ·have k:(afterP v b (a,-1,c,false)).1=inc b.1 a.toNat (-1):=by unfold afterP;simp
  have g:(afterP v b (a,-1,c,false)).2=b.2:=by unfold afterP;simp
  refine⟨B,?_,?_,?_,?_⟩
  ·rw [k];exact⟨by rw [inc_len];exact y,o,by rw [inc_sum _ _ _ l];omega⟩
  ·rw [g];exact hb.oth
  ·rw [g];omega
  ·rw [k,g];intro i z;rw [inc_at _ _ _ _ l];have:=hb.ap i z;split
   ·rename_i e;subst e;omega
   ·exact this
end PlP
namespace PlP
theorem lgU_mem {v:Vr} {b:Bd} {d:Int} {s:Stp}:∀ k,s ∈ lgU v b d k->∃ j,j<k∧stepP v b (v.p - (j:Int)) d=some s:=by
 intro k
 induction k with
 | zero=>intro h;simp [lgU] at h
 | succ k ih =>
  intro h;simp only [lgU,List.mem_append] at h;rcases h with h | h
  ·obtain⟨j,c,a⟩:=ih h;exact⟨j,by omega,a⟩
  ·refine⟨k,by omega,?_⟩
   cases e:stepP v b (v.p - (k:Int)) d with
   | none=>rw [e] at h;simp at h
   | some t=>rw [e] at h;simp at h;rw [h]
theorem legal_mem {v:Vr} {b:Bd} {d:Int} {s:Stp} (hv:0<=v.p) (h:s ∈ legalP v b d):over b=false∧∃ f,(0<=f∧f<=v.p)∧stepP v b f d=some s:=by
 unfold legalP at h;split at h
 ·simp at h
 ·rename_i ho
  obtain⟨j,c,a⟩:=lgU_mem _ h;exact⟨by simpa using ho,v.p - (j:Int),by omega,a⟩
theorem legal_ok {v:Vr} {b:Bd} {d:Int} {s:Stp} (hd:1<=d) (hb:Ok v b) (h:s ∈ legalP v b d):Ok v (afterP v b s):=by
 obtain⟨e,f,c,a⟩:=legal_mem (by have:=hb.v1;omega) h;exact after_ok c hd hb e a
theorem lgU_len (v:Vr) (b:Bd) (d:Int):∀ k,(lgU v b d k).length<=k:=by
 intro k
 induction k with
 | zero=>simp [lgU]
 | succ k ih =>
  simp only [lgU,List.length_append];have:((stepP v b (v.p - (k:Int)) d).toList).length<=1:=by cases stepP v b (v.p - (k:Int)) d <;> simp
  omega
theorem legal_len (v:Vr) (b:Bd) (d:Int):(legalP v b d).length<=v.p.toNat+1:=by
 unfold legalP;split
 ·simp
 ·exact lgU_len v b d _
theorem addOne_len (out:List Pl) (p:Pl):(addOne out p).length<=out.length+1:=by unfold addOne;split <;> simp
theorem addOne_mem {out:List Pl} {p q:Pl} (h:q ∈ addOne out p):q ∈ out∨q=p:=by
 unfold addOne at h;split at h
 ·exact .inl h
 ·simpa using h
theorem addOne_pos {out:List Pl} {p:Pl}:0<(addOne out p).length:=by
 unfold addOne;split
 ·rename_i h
  unfold hasB at h
  cases out with
  | nil=>simp at h
  | cons x l=>simp
 ·simp
theorem nxIn_len (v:Vr) (p:Pl):∀(ss:List Stp) (out:List Pl),(nxIn v p ss out).length<=out.length+ss.length:=by
 intro ss
 induction ss with
 | nil=>intro out;simp [nxIn]
 | cons s ss ih =>
  intro out;have b:=ih (addOne out (p.1++[s],afterP v p.2 s));have a:=addOne_len out (p.1++[s],afterP v p.2 s);simp only [nxIn,List.foldl_cons,List.length_cons] at *;omega
theorem nxIn_mem {v:Vr} {p q:Pl}:∀(ss:List Stp) (out:List Pl),q ∈ nxIn v p ss out->q ∈ out∨∃ s ∈ ss,q=(p.1++[s],afterP v p.2 s):=by
 intro ss
 induction ss with
 | nil=>intro out h;exact .inl h
 | cons s ss ih =>
  intro out h;rcases ih _ h with h | ⟨t,ht,h⟩
  ·rcases addOne_mem h with h | h
   ·exact .inl h
   ·exact .inr ⟨s,List.mem_cons_self ..,h⟩
  ·exact .inr ⟨t,List.mem_cons_of_mem _ ht,h⟩
def nxGo (v:Vr) (d:Int) (ps:List Pl) (out:List Pl):List Pl:=ps.foldl (λ o p=>nxIn v p (legalP v p.2 d) o) out
theorem nxGo_len (v:Vr) (d:Int):∀(ps out:List Pl),(nxGo v d ps out).length<=out.length+ps.length*(v.p.toNat+1):=by
 intro ps
 induction ps with
 | nil=>intro out;simp [nxGo]
 | cons p ps ih =>
  intro out;have c:=ih (nxIn v p (legalP v p.2 d) out);have b:=nxIn_len v p (legalP v p.2 d) out;have a:=legal_len v p.2 d;simp only [nxGo,List.foldl_cons,List.length_cons,Nat.add_mul,Nat.one_mul] at *;omega
theorem nxGo_mem {v:Vr} {d:Int} {q:Pl}:∀(ps out:List Pl),q ∈ nxGo v d ps out->q ∈ out∨∃ p ∈ ps,∃ s ∈ legalP v p.2 d,q=(p.1++[s],afterP v p.2 s):=by
 intro ps
 induction ps with
 | nil=>intro out h;exact .inl h
 | cons p ps ih =>
  intro out h;rcases ih _ h with h | ⟨r,hr,h⟩
  ·rcases nxIn_mem _ _ h with h | ⟨s,hs,h⟩
   ·exact .inl h
   ·exact .inr ⟨p,List.mem_cons_self ..,s,hs,h⟩
  ·exact .inr ⟨r,List.mem_cons_of_mem _ hr,h⟩
def RowOk (v:Vr) (k:Nat) (ps:List Pl):Prop:=∀ p ∈ ps,Ok v p.2∧p.1.length=k
theorem next_ok {v:Vr} {d:Int} {ps:List Pl} {k:Nat} (hd:1<=d) (h:RowOk v k ps):RowOk v (k+1) (nextP v d ps):=by
 intro q a;rcases nxGo_mem ps [] a with h' | ⟨p,hp,s,hs,rfl⟩
 ·simp at h'
 ·exact⟨legal_ok hd (h p hp).1 hs,by simp [(h p hp).2]⟩
theorem next_len {v:Vr} {d:Int} {ps:List Pl}:(nextP v d ps).length<=ps.length*(v.p.toNat+1):=by
 have:=nxGo_len v d ps [];show (nxGo v d ps []).length<=_
 simpa using this
theorem rows_lng (v:Vr):∀(ds:List Int) (rows:List (List Pl)) (fine:Bool),rows≠[] ->
  lngGo v ds (rows.getLastD []) (rows.length - 1) fine=((rowsGo v ds rows fine).1.getLastD [],(rowsGo v ds rows fine).1.length - 1,(rowsGo v ds rows fine).2)∧(rowsGo v ds rows fine).1≠[]:=by
 intro ds
 induction ds with
 | nil=>intro rows fine h;exact⟨rfl,h⟩
 | cons d ds ih =>
  intro rows fine h;have c:1<=rows.length:=by cases rows with | nil=>exact absurd rfl h | cons x l=>simp
  simp only [lngGo,rowsGo];split
  ·rename_i h0
   refine⟨?_,h⟩;simp only [Prod.mk.injEq,true_and];rw [h0];simp
  ·have:=ih (rows++[nextP v d (rows.getLastD [])]) (fine && decide ((nextP v d (rows.getLastD [])).length<=3000)) (by simp);have b:(rows++[nextP v d (rows.getLastD [])]).getLastD []=nextP v d (rows.getLastD []):=by simp
   have a:(rows++[nextP v d (rows.getLastD [])]).length - 1=rows.length - 1+1:=by simp;omega
   rw [b,a] at this;exact this
theorem lng_rows (v:Vr) (b:Bd) (ds:List Int):lngP v b ds=((rowsP v b ds).1.getLastD [],(rowsP v b ds).1.length - 1,(rowsP v b ds).2)∧(rowsP v b ds).1≠[] :=
 rows_lng v ds [[([],b)]] true (by simp)
theorem lng_ok {v:Vr}:∀(ds:List Int) (ps:List Pl) (k:Nat) (fine:Bool),(∀ d ∈ ds,1<=d)->RowOk v k ps->0<ps.length ->
  RowOk v (lngGo v ds ps k fine).2.1 (lngGo v ds ps k fine).1∧0<(lngGo v ds ps k fine).1.length∧(lngGo v ds ps k fine).2.1<=k+ds.length:=by
 intro ds
 induction ds with
 | nil=>intro ps k fine _ h a;exact⟨h,a,Nat.le_refl _⟩
 | cons d ds ih =>
  intro ps k fine b h a;simp only [lngGo];split
  ·exact⟨h,a,by simp⟩
  ·rename_i h1
   have:=ih (nextP v d ps) (k+1) (fine && decide ((nextP v d ps).length<=3000)) (λ x c=>b x (List.mem_cons_of_mem _ c)) (next_ok (b d (List.mem_cons_self ..)) h) (by omega);refine⟨this.1,this.2.1,?_⟩;simp only [List.length_cons];omega
theorem addAll_pos {ps out:List Pl} (h:0<ps.length):0<(addAll out ps).length:=by
 have a:∀(ps out:List Pl),0<out.length->0<(addAll out ps).length:=by
  intro ps
  induction ps with
  | nil=>intro out h;exact h
  | cons p ps ih=>intro out h;exact ih _ addOne_pos
 cases ps with
 | nil=>simp at h
 | cons p ps=>exact a ps (addOne out p) addOne_pos
theorem addAll_mem {q:Pl}:∀(ps out:List Pl),q ∈ addAll out ps->q ∈ out∨q ∈ ps:=by
 intro ps
 induction ps with
 | nil=>intro out h;exact .inl h
 | cons p ps ih =>
  intro out h;rcases ih _ h with h | h
  ·rcases addOne_mem h with h | h
   ·exact .inl h
   ·exact .inr (by rw [h];exact List.mem_cons_self ..)
  ·exact .inr (List.mem_cons_of_mem _ h)
theorem allP_ok {v:Vr} {b:Bd} {x y:Int} (hb:Ok v b) (hx:1<=x) (hy:1<=y):(∀ p ∈ (allP v b x y).1,Ok v p.2∧p.1.length<=4)∧0<(allP v b x y).1.length:=by
 have s:∀ o ∈ ordP x y,(∀ p ∈ (lngP v b o).1,Ok v p.2∧p.1.length<=4)∧0<(lngP v b o).1.length:=by
  intro o c;have r:o.length<=4∧∀ d ∈ o,1<=d:=by
   unfold ordP at c;split at c
   ·simp at c;subst c;exact⟨by simp,by intro d B;simp at B;omega⟩
   ·simp at c;rcases c with rfl | rfl <;> exact⟨by simp,by intro d B;simp at B;omega⟩
  have:=lng_ok (v:=v) o [([],b)] 0 true r.2 (by intro p m;simp at m;subst m;exact⟨hb,rfl⟩) (by simp);refine⟨λ p m=>?_,this.2.1⟩;have f:=this.1 p m;refine⟨f.1,?_⟩;have:=this.2.2;have:=r.1;rw [f.2];omega
 have C:∀(u:Nat) (l:List (List Int)) (i:Nat) (out:List Pl) (a:Bool),(∀ o ∈ l,o ∈ ordP x y)->(∀ p ∈ out,Ok v p.2∧p.1.length<=4) ->
   (∀ p ∈ (allGo v b u i l out a).1,Ok v p.2∧p.1.length<=4)∧(0<out.length->0<(allGo v b u i l out a).1.length):=by
  intro u l
  induction l with
  | nil=>intro i out a _ c;exact⟨c,λ h=>h⟩
  | cons o l ih =>
   intro i out a k c;have f:=s o (k o (List.mem_cons_self ..));simp only [allGo];split
   ·exact ih _ _ _ (λ q w=>k q (List.mem_cons_of_mem _ w)) c
   ·have:=ih (i+1) (addAll out (lngP v b o).1) (a && (lngP v b o).2.2) (λ q w=>k q (List.mem_cons_of_mem _ w)) (λ p m=>by
     rcases addAll_mem _ _ m with h | h
     ·exact c p h
     ·exact f.1 p h)
    exact⟨this.1,λ _=>this.2 (addAll_pos f.2)⟩
 refine⟨(C _ _ 0 [] true (λ o c=>c) (by simp)).1,?_⟩;unfold allP;by_cases e:x=y
 ·have n:ordP x y=[[x,x,x,x]]:=by unfold ordP;rw [if_pos e]
  rw [n];have f:=s [x,x,x,x] (by rw [n];simp);simp only [allGo,usedP];simp;exact addAll_pos f.2
 ·have n:ordP x y=[[x,y],[y,x]]:=by unfold ordP;rw [if_neg e]
  rw [n];have f:=s [x,y] (by rw [n];simp);have F:=s [y,x] (by rw [n];simp);have E:∀ out,addAll out (lngP v b [x,y]).1≠[]:=λ out h=>by have:=addAll_pos (out:=out) f.2;rw [h] at this;simp at this
  have D:∀ out,addAll out (lngP v b [y,x]).1≠[]:=λ out h=>by have:=addAll_pos (out:=out) F.2;rw [h] at this;simp at this
  simp only [allGo,usedP];obtain⟨g,A⟩:∃ g,(lngP v b [x,y]).2.1=g:=⟨_,rfl⟩;obtain⟨j,z⟩:∃ j,(lngP v b [y,x]).2.1=j:=⟨_,rfl⟩;simp only [A,z];refine List.length_pos_iff.2 ?_;by_cases c1:j<=g
  ·have t:max g (max j 0)=g:=by omega
   rw [t];simp only [ne_eq,not_true_eq_false,false_or];rw [if_neg (by simp:¬ (g=1∧0=1∧0<([]:List Pl).length))];split
   ·exact E _
   ·exact D _
  ·have t:max g (max j 0)=j:=by omega
   have G:g≠j:=by omega
   rw [t];simp [G,D]
def swp (b:Bd):Bd:=(b.2,b.1)
theorem swp_ok {v:Vr} {b:Bd} (h:Ok v b):Ok v (swp b):=by
 refine⟨h.v1,h.oth,h.own,λ a=>h.some_ ⟨a.2,a.1⟩,λ i c a=>?_⟩;have:=h.ap (v.p.toNat - 1 - i) (by omega);rw [show v.p.toNat - 1 - (v.p.toNat - 1 - i)=i from by omega] at this;exact this ⟨a.2,a.1⟩
end PlP
namespace PlP
theorem list_ext {l m:List Int} (hl:l.length=m.length) (h:∀ i,i<l.length->at_ l i=at_ m i):l=m:=by
 refine List.ext_getElem? λ i=>?_
 rcases Nat.lt_or_ge i l.length with hi | hi
 ·rw [at_get hi,at_get (by omega),h i hi]
 ·rw [List.getElem?_eq_none hi,List.getElem?_eq_none (by omega)]
end PlP
namespace PlP
theorem nxIn_snoc (v:Vr) (p:Pl) (ss:List Stp) (s:Stp) (out:List Pl):nxIn v p (ss++[s]) out=addOne (nxIn v p ss out) (p.1++[s],afterP v p.2 s):=by
 unfold nxIn;rw [List.foldl_append];rfl
theorem nxGo_snoc (v:Vr) (d:Int) (ps:List Pl) (p:Pl) (out:List Pl):nxGo v d (ps++[p]) out=nxIn v p (legalP v p.2 d) (nxGo v d ps out):=by
 unfold nxGo;rw [List.foldl_append];rfl
theorem addOne_has {out:List Pl} {p:Pl} (h:hasB out p.2=true):addOne out p=out:=by unfold addOne;rw [if_pos h]
theorem addOne_new {out:List Pl} {p:Pl} (h:hasB out p.2=false):addOne out p=out++[p]:=by unfold addOne;rw [if_neg (by rw [h];simp)]
theorem addAll_snoc (out ps:List Pl) (p:Pl):addAll out (ps++[p])=addOne (addAll out ps) p:=by
 unfold addAll;rw [List.foldl_append];rfl
theorem takeS {α:Type} {l:List α} {k:Nat} {x:α} (h:l[k]?=some x):l.take (k+1)=l.take k++[x]:=by
 rw [List.take_add_one,h];rfl
structure Coll (v:Vr) (k m:Nat) (out:List Pl):Prop where
 ok:RowOk v k out
 len:out.length<=m
theorem Coll.nil (v:Vr) (k:Nat):Coll v k 0 []:=⟨λ q hq=>by simp at hq,Nat.le_refl _⟩
theorem Coll.more {v:Vr} {k m m':Nat} {out:List Pl} (h:Coll v k m out) (hm:m<=m'):Coll v k m' out:=⟨h.ok,Nat.le_trans h.len hm⟩
theorem Coll.add {v:Vr} {k m:Nat} {out:List Pl} {p:Pl} (h:Coll v k m out) (hp:Ok v p.2∧p.1.length=k):Coll v k (m+1) (addOne out p):=by
 refine⟨λ q a=>?_,?_⟩
 ·rcases addOne_mem a with a | rfl
  ·exact h.ok q a
  ·exact hp
 ·have:=addOne_len out p;have:=h.len;omega
theorem row_sides {v:Vr} {k n:Nat} {out:List Pl} (h:RowOk v k out) (hn:(n:Int)=v.p+1):∀ q ∈ out,q.2.1.length=n∧q.2.2.length=n:=λ q hq=>by
 have h1:=(h q hq).1.own.len;have h2:=(h q hq).1.oth.len;omega
theorem legal_parts {v:Vr} {b:Bd} {d:Int} {s:Stp} (hd:1<=d) (hb:Ok v b) (h:s ∈ legalP v b d):(0<=s.1∧s.1<=v.p)∧(-1<=s.2.1∧s.2.1<v.p)∧(s.2.2.2=true->0<=s.2.1):=by
 obtain⟨m,f,e,j⟩:=legal_mem (by have:=hb.v1;omega) h;obtain⟨g,l,k,i⟩:=step_parts e hb j;rcases i with ⟨a,b1,-,-⟩ | ⟨a,b1,c⟩
 ·rw [g,b1];exact⟨e,by omega,λ _=>a⟩
 ·rw [g,b1,c];exact⟨e,by have:=hb.v1;omega,λ h=>by cases h⟩
end PlP
namespace PlP
def RowsOk (v:Vr) (rows:List (List Pl)):Prop:=∀ i row,rows[i]?=some row->RowOk v i row∧row.length<=25 ^ i
theorem RowsOk.snoc {v:Vr} {rows:List (List Pl)} {row:List Pl} (h:RowsOk v rows) (hr:RowOk v rows.length row∧row.length<=25 ^ rows.length):RowsOk v (rows++[row]):=by
 intro i r a;rcases Nat.lt_trichotomy i rows.length with h1 | h1 | h1
 ·rw [List.getElem?_append_left h1] at a;exact h i r a
 ·subst h1;rw [List.getElem?_append_right (Nat.le_refl _),Nat.sub_self] at a;simp at a;subst a;exact hr
 ·rw [List.getElem?_eq_none (by simp;omega)] at a;cases a
theorem rowsGo_ok {v:Vr} (hp:v.p.toNat+1<=25):∀(ds:List Int) (rows:List (List Pl)) (fine:Bool),(∀ d ∈ ds,1<=d)->rows≠[]->RowsOk v rows ->
  RowsOk v (rowsGo v ds rows fine).1∧(rowsGo v ds rows fine).1.length<=rows.length+ds.length∧rows.length<=(rowsGo v ds rows fine).1.length:=by
 intro ds
 induction ds with
 | nil=>intro rows fine _ _ h;exact⟨h,Nat.le_refl _,Nat.le_refl _⟩
 | cons d ds ih =>
  intro rows fine c a h;simp only [rowsGo];split
  ·exact⟨h,Nat.le_add_right _ _,Nat.le_refl _⟩
  ·obtain⟨m,b⟩:∃ m,rows.length=m+1:=by cases rows with | nil=>exact absurd rfl a | cons x l=>exact⟨l.length,rfl⟩
   have i:rows[m]?=some (rows.getLastD []):=by
    rw [List.getLastD_eq_getLast?,List.getLast?_eq_getElem?,b,Nat.add_sub_cancel,List.getElem?_eq_getElem (by omega)];rfl
   have e:=h m _ i;have g:RowOk v (m+1) (nextP v d (rows.getLastD []))∧(nextP v d (rows.getLastD [])).length<=25 ^ (m+1):=by
    refine⟨next_ok (c d (List.mem_cons_self ..)) e.1,Nat.le_trans next_len ?_⟩;rw [Nat.pow_succ];exact Nat.mul_le_mul e.2 hp
   have:=ih (rows++[nextP v d (rows.getLastD [])]) (fine && decide ((nextP v d (rows.getLastD [])).length<=3000)) (λ x f=>c x (List.mem_cons_of_mem _ f)) (by simp) (h.snoc (by rw [b];exact g));refine⟨this.1,?_,?_⟩
   ·have:=this.2.1;simp only [List.length_append,List.length_cons,List.length_nil] at *;omega
   ·have:=this.2.2;simp only [List.length_append,List.length_cons,List.length_nil] at *;omega
theorem rowsP_ok {v:Vr} {b:Bd} (hb:Ok v b) {ds:List Int} (hd:∀ d ∈ ds,1<=d) (hl:ds.length<=4):RowsOk v (rowsP v b ds).1∧1<=(rowsP v b ds).1.length∧(rowsP v b ds).1.length<=5:=by
 have f:=hb.v1;have:=rowsGo_ok (v:=v) (by omega) ds [[([],b)]] true hd (by simp) (by
  intro i e a
  cases i with
  | zero=>simp at a;subst a;exact⟨λ q c=>by simp at c;subst c;exact⟨hb,rfl⟩,by simp⟩
  | succ i=>simp at a)
 refine⟨this.1,?_,?_⟩
 ·have:=this.2.2;exact this
 ·have:=this.2.1;simp only [List.length_cons,List.length_nil] at this;unfold rowsP;omega
theorem drop_cons {α:Type} {l:List α} {k:Nat} {x:α} (h:l[k]?=some x):l.drop k=x :: l.drop (k+1):=by
 obtain⟨b,a⟩:=List.getElem?_eq_some_iff.1 h;rw [List.drop_eq_getElem_cons b,a]
end PlP
end Go.Proofs.YtjdefiinmicjiaaGreatDoor
