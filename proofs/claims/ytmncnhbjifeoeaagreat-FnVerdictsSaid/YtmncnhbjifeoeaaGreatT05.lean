/- Parts of the proof of FnVerdicts. Conditions: each theorem's own. -/
import Derived.Test.YtmncnhbjifeoeaaGreatT04
set_option linter.unusedVariables false
set_option linter.unusedSimpArgs false
set_option maxHeartbeats 8000000
set_option maxRecDepth 100000
namespace Go.Proofs.YtmncnhbjifeoeaaGreat
namespace DwQ
open Go.ChangeShapes Go.WideShapes Go.ChangeAt Go.RowKit Base Ints Own Draw DrawD RegG
def Gd (xs:List Int) (st:Nat × Int):Prop:=st.1<=xs.length∧0<=st.2∧st.2<2147483647
structure Nb (xs:List Int) (st:Nat × Int) (k x:Int) (st':Nat × Int):Prop where
 nx:Nx xs st k x st'
 ge:0<=x
 lt:1<=k->x<k
 zero:k<=1->x=0
 gd:Gd xs st'
theorem Gd.nb {xs:List Int} {st:Nat × Int} (h:Gd xs st) (k:Int):∃ x st',Nb xs st k x st':=by
 obtain⟨m,s⟩:=st;obtain⟨c,b,a⟩:=h;simp only at c b a;by_cases hk:k<=1
 ·exact⟨0,(m,s),⟨nx1 hk,Int.le_refl _,λ _=>by omega,λ _=>rfl,⟨c,b,a⟩⟩⟩
 ·have z:=seed1 b a;have e:∀ y:Int,0<=y % k∧y % k<k:=λ y=>⟨Int.emod_nonneg _ (by omega),Int.emod_lt_of_pos _ (by omega)⟩
  by_cases hm:m<xs.length
  ·have d:xs[m]?=some xs[m]:=List.getElem?_eq_getElem hm;by_cases h4:k<=256∧((m:Int)+1) % 2=0
   ·exact⟨_,_,⟨nx2 hk d h4.1 h4.2,(e _).1,λ _=>(e _).2,λ h=>absurd h hk,⟨hm,z.2.2.1,z.2.2.2⟩⟩⟩
   ·exact⟨_,_,⟨nx3 hk d h4,(e _).1,λ _=>(e _).2,λ h=>absurd h hk,⟨hm,z.2.2.1,z.2.2.2⟩⟩⟩
  ·exact⟨_,_,⟨nx4 hk hm,(e _).1,λ _=>(e _).2,λ h=>absurd h hk,⟨c,z.2.2.1,z.2.2.2⟩⟩⟩
section
variable {w0 w w':World} {B g cp:Nat} {A:Option Addr} {xs:List Int} {st st':Nat × Int} {k x:Int}
theorem _root_.Go.Proofs.YtmncnhbjifeoeaaGreat.DrawD.Dx.gd (h:Dx w0 B g A cp xs st w):Gd xs st:=⟨h.src.2.1,h.src.2.2.1,h.src.2.2.2⟩
theorem nextK (h:Dx w0 B g A cp xs st w) (n:Nx xs st k x st') (hk:k<=9223372036854775807) :
  Calls Tryz.prog 49 #[.pointer (some ⟨g,0,none⟩),.int .i64 k] w λ e w'=>e=.returned (.int .i64 x)∧Dx w0 B g A cp xs st' w'∧w.grownBy w' (some g)∧w'.heap.size=w.heap.size:=by
 refine(nextX h k hk).mono ?_;rintro e w' ⟨y,t,⟨rfl,-,-,-,c⟩,f,d,b⟩;have a:(y,t)=(x,st'):=(show nx xs st k=(y,t) from c).symm.trans n;simp only [Prod.mk.injEq] at a;obtain⟨rfl,rfl⟩:=a;exact⟨rfl,f,d,b⟩
end
def Sq (D:Nat->World->Prop) (L:Nat->Prop) (ops:List Nat) (w:World):Prop:=∃ j,(∀ i o,ops[i]?=some o->(L o↔i<j))∧D j w
section
variable {D:Nat->World->Prop} {L:Nat->Prop} {ops:List Nat} {w w':World}
theorem Sq.zero (h:D 0 w) (hL:∀ o ∈ ops,¬ L o):Sq D L ops w:=⟨0,λ i o ho=>⟨λ h=>absurd h (hL o (List.mem_of_getElem? ho)),λ h=>absurd h (Nat.not_lt_zero _)⟩,h⟩
theorem Sq.at_ (h:Sq D L ops w) (i:Nat) {k:Nat} (hk:ops[i]?=some k) (hno:¬ L k) (hp:∀ i' o,i'<i->ops[i']?=some o->L o):D i w:=by
 obtain⟨j,b,c⟩:=h;have e:j<=i:=Nat.not_lt.1 (λ a=>hno ((b i k hk).2 a));have d:i<=j:=by
  cases i with
  | zero=>exact Nat.zero_le _
  | succ i' =>
   have a:i'<ops.length:=by have:=(List.getElem?_eq_some_iff.1 hk).1;omega
   exact(b i' _ (List.getElem?_eq_getElem a)).1 (hp i' _ (Nat.lt_succ_self _) (List.getElem?_eq_getElem a))
 obtain rfl:j=i:=Nat.le_antisymm e d;exact c
theorem Sq.all (h:Sq D L ops w) (n:Nat) (hn:ops.length=n) (hp:∀ o ∈ ops,L o) (hup:∀ j w,n<=j->D j w->D n w):D n w:=by
 obtain⟨j,b,c⟩:=h;refine hup j w ?_ c
 cases n with
 | zero=>exact Nat.zero_le _
 | succ n =>
  have a:n<ops.length:=by omega
  exact(b n _ (List.getElem?_eq_getElem a)).1 (hp _ (List.getElem_mem a))
theorem Sq.skip (h:Sq D L ops w) (k:Nat) (hk:∀ o ∈ ops,o≠k:=by decide):Sq D (λ j=>j=k∨L j) ops w:=by
 obtain⟨j,b,c⟩:=h;refine⟨j,λ i o a=>?_,c⟩;show (o=k∨L o)↔i<j
 rw [or_ne (hk o (List.mem_of_getElem? a))];exact b i o a
theorem Sq.call {i k:Nat} (h:Sq D L ops w) (hk:ops[i]?=some k) (hno:¬ L k) (hp:∀ i' o,i'<i->ops[i']?=some o->L o) (hd:ops.Nodup) (hD:D (i+1) w'):Sq D (λ j=>j=k∨L j) ops w':=by
 obtain⟨j,g,-⟩:=h;have p:j<=i:=Nat.not_lt.1 (λ a=>hno ((g i k hk).2 a));refine⟨i+1,λ i' o b=>?_,hD⟩;by_cases e:i'=i
 ·subst e;rw [hk] at b;obtain rfl:=Option.some.inj b;exact⟨λ _=>Nat.lt_succ_self _,λ _=>.inl rfl⟩
 ·have c:o≠k:=λ n=>by
   subst n;obtain⟨f,m⟩:=List.getElem?_eq_some_iff.1 b;obtain⟨d,l⟩:=List.getElem?_eq_some_iff.1 hk;rcases Nat.lt_or_gt_of_ne e with a | a
   ·exact(List.pairwise_iff_getElem.1 hd i' i f d a) (m.trans l.symm)
   ·exact(List.pairwise_iff_getElem.1 hd i i' d f a) (l.trans m.symm)
  show (o=k∨L o)↔i'<i+1
  rw [or_ne c];refine⟨λ a=>?_,λ a=>hp i' o (by omega) b⟩;have:=(g i' o b).1 a;omega
theorem Sq.map (h:Sq D L ops w) (hD:∀ j,D j w->D j w'):Sq D L ops w':=by
 obtain⟨j,a,h⟩:=h;exact⟨j,a,hD j h⟩
end
section
variable {L:Nat->Prop} {ops:List Nat} {a b c d:Nat}
theorem pv0:∀ i' o,i'<0->ops[i']?=some o->L o:=λ i' o h=>absurd h (Nat.not_lt_zero _)
theorem pv1 (e0:ops[0]?=some a) (h0:L a):∀ i' o,i'<1->ops[i']?=some o->L o:=λ i' o h ho=>by
 obtain rfl:i'=0:=by omega
 rw [e0] at ho;exact Option.some.inj ho ▸ h0
theorem pv2 (e0:ops[0]?=some a) (e1:ops[1]?=some b) (h0:L a) (h1:L b):∀ i' o,i'<2->ops[i']?=some o->L o:=λ i' o h ho=>by
 obtain rfl | rfl:i'=0∨i'=1:=by omega
 ·rw [e0] at ho;exact Option.some.inj ho ▸ h0
 ·rw [e1] at ho;exact Option.some.inj ho ▸ h1
end
theorem al1 {L:Nat->Prop} {a:Nat} (h0:L a):∀ o ∈ [a],L o:=λ o h=>by simp at h;subst h;exact h0
theorem al2 {L:Nat->Prop} {a b:Nat} (h0:L a) (h1:L b):∀ o ∈ [a,b],L o:=λ o h=>by
 simp at h;rcases h with rfl | rfl
 ·exact h0
 ·exact h1
def Dd (w0 we:World) (B g:Nat) (A:Option Addr) (cp:Nat) (xs:List Int) (sts:List (Nat × Int)) (j:Nat) (w:World):Prop:=∃ st,sts[j]?=some st∧Dx w0 B g A cp xs st w∧we.grownBy w (some g)
section
variable {w0 we w w':World} {B g cp:Nat} {A:Option Addr} {xs:List Int} {sts:List (Nat × Int)} {L:Nat->Prop} {ops:List Nat}
abbrev SqD (w0 we:World) (B g:Nat) (A:Option Addr) (cp:Nat) (xs:List Int) (sts:List (Nat × Int)) (L:Nat->Prop) (ops:List Nat) (w:World):Prop:=Sq (Dd w0 we B g A cp xs sts) L ops w
theorem SqD.gr (h:SqD w0 we B g A cp xs sts L ops w):we.grownBy w (some g):=by obtain⟨j,c,b,e,d,a⟩:=h;exact a
theorem SqD.below (h:SqD w0 we B g A cp xs sts L ops w) (hb:Below w.heap.size w w'):SqD w0 we B g A cp xs sts L ops w':=by
 obtain⟨j,c,b,f,a,e⟩:=h;exact⟨j,c,b,f,a.below hb a.lt,grownBy_trans e ⟨hb.os,hb.tape,hb.output,hb.size,λ i d _=>hb.block i d⟩⟩
theorem SqD.at_ {st:Nat × Int} (h:SqD w0 we B g A cp xs sts L ops w) (i:Nat) (hs:sts[i]?=some st) {k:Nat} (hk:ops[i]?=some k) (hno:¬ L k) (hp:∀ i' o,i'<i->ops[i']?=some o->L o):Dx w0 B g A cp xs st w:=by
 obtain⟨b,a,c,d⟩:=Sq.at_ h i hk hno hp;rw [hs] at a;obtain rfl:=Option.some.inj a;exact c
theorem SqD.call {i k:Nat} {st:Nat × Int} (h:SqD w0 we B g A cp xs sts L ops w) (hs:sts[i+1]?=some st) (hk:ops[i]?=some k) (hno:¬ L k) (hp:∀ i' o,i'<i->ops[i']?=some o->L o) (hd:ops.Nodup) (hD:Dx w0 B g A cp xs st w') (hg:w.grownBy w' (some g)):SqD w0 we B g A cp xs sts (λ j=>j=k∨L j) ops w' :=
 Sq.call h hk hno hp hd ⟨st,hs,hD,grownBy_trans h.gr hg⟩
theorem SqD.end_ {st:Nat × Int} (h:SqD w0 we B g A cp xs sts L ops w) (n:Nat) (hn:ops.length=n) (hs:sts[n]?=some st) (hl:sts.length=n+1) (hp:∀ o ∈ ops,L o):Dx w0 B g A cp xs st w∧we.grownBy w (some g):=by
 obtain⟨b,a,d,c⟩:=Sq.all h n hn hp (λ j w hj ⟨s',e1,e2⟩=>by
  have:=(List.getElem?_eq_some_iff.1 e1).1;obtain rfl:j=n:=by omega
  exact⟨s',e1,e2⟩)
 rw [hs] at a;obtain rfl:=Option.some.inj a;exact⟨d,c⟩
end
theorem grown_own {a b c:World} {row row':Option Nat} (h:a.grownBy b row) (k:b.grownBy c row') (hk:∀ i,row'=some i->a.heap.size<=i):a.grownBy c row :=
 ⟨k.os.trans h.os,k.tape.trans h.tape,k.output.trans h.output,Nat.le_trans h.size k.size,λ i hi hr=>(k.block i (Nat.lt_of_lt_of_le hi h.size) (λ e=>by have:=hk i e.symm;omega)).trans (h.block i hi hr)⟩
theorem grown_bel {a b:World} {row:Option Nat} (h:Below a.heap.size a b):a.grownBy b row:=⟨h.os,h.tape,h.output,h.size,λ i hi _=>h.block i hi⟩
structure SqA (w0 we:World) (B g:Nat) (A:Option Addr) (cp:Nat) (xs:List Int) (sts:List (Nat × Int)) (L:Nat->Prop) (ops:List Nat) (pN:Prop) (P:World->Prop) (w:World):Prop where
 sq:¬ pN->SqD w0 we B g A cp xs sts L ops w
 fin:pN->P w
structure SqB (w0 we:World) (B g:Nat) (A:Option Addr) (cp:Nat) (xs:List Int) (sts:List (Nat × Int)) (L:Nat->Prop) (ops:List Nat) (pj pN:Prop) (vj:Value) (t:TypeId) (cs0 cs1:List Value) (w:World):Prop where
 sq:SqD w0 we B g A cp xs sts L ops w
 bx:pj->¬ pN->∃ q,vj=.pointer (some ⟨q,0,none⟩)∧we.heap.size<=q∧RowB w q t cs0
 fin:pN->∃ q,vj=.pointer (some ⟨q,0,none⟩)∧we.heap.size<=q∧RowB w q t cs1
section
variable {w0 we w w':World} {B g cp:Nat} {A:Option Addr} {xs:List Int} {sts:List (Nat × Int)} {L:Nat->Prop} {ops:List Nat} {N j:Nat} {P:World->Prop} {vals:Nat->Value} {t:TypeId} {cs0 cs1:List Value}
theorem SqA.skip (F:SqA w0 we B g A cp xs sts L ops (L N) P w) (k:Nat) (h:(ops.all (λ o=>o != k) && (N != k))=true:=by decide):SqA w0 we B g A cp xs sts (λ j=>j=k∨L j) ops (N=k∨L N) P w:=by
 simp only [Bool.and_eq_true,bne_iff_ne,ne_eq,List.all_eq_true] at h;rw [or_ne h.2];exact⟨λ a=>(F.sq a).skip k h.1,F.fin⟩
theorem SqA.call {i k:Nat} {st:Nat × Int} (F:SqA w0 we B g A cp xs sts L ops (L N) P w) (hN:¬ L N) (hs:sts[i+1]?=some st) (hk:ops[i]?=some k) (hno:¬ L k) (hp:∀ i' o,i'<i->ops[i']?=some o->L o) (hd:(decide ops.Nodup && (N != k))=true) (hD:Dx w0 B g A cp xs st w') (hg:w.grownBy w' (some g)):SqA w0 we B g A cp xs sts (λ j=>j=k∨L j) ops (N=k∨L N) P w':=by
 simp only [Bool.and_eq_true,decide_eq_true_eq,bne_iff_ne,ne_eq] at hd;rw [or_ne hd.2];exact⟨λ a=>(F.sq a).call hs hk hno hp hd.1 hD hg,λ h=>absurd h hN⟩
theorem SqA.last (h:P w'):SqA w0 we B g A cp xs sts (λ j=>j=N∨L j) ops (N=N∨L N) P w':=⟨λ hn=>absurd (.inl rfl) hn,λ _=>h⟩
theorem SqD.start {st:Nat × Int} (h:Dx w0 B g A cp xs st we) (hs:sts[0]?=some st) (hL:∀ o ∈ ops,¬ L o):SqD w0 we B g A cp xs sts L ops we.drew:=Sq.zero ⟨st,hs,h.drew,grown_bel (Below.refl _ _).drew⟩ hL
theorem SqA.start {pN:Prop} {st:Nat × Int} (h:Dx w0 B g A cp xs st we) (hs:sts[0]?=some st) (hL:∀ o ∈ ops,¬ L o) (hN:¬ pN):SqA w0 we B g A cp xs sts L ops pN P we.drew:=⟨λ _=>SqD.start h hs hL,λ h=>absurd h hN⟩
theorem SqB.skip (F:SqB w0 we B g A cp xs sts L ops (L j) (L N) (vals j) t cs0 cs1 w) (k:Nat) (u:Value) (h:(ops.all (λ o=>o != k) && (j != k) && (N != k))=true:=by decide):SqB w0 we B g A cp xs sts (λ j=>j=k∨L j) ops (j=k∨L j) (N=k∨L N) (upd vals k u j) t cs0 cs1 w:=by
 simp only [Bool.and_eq_true,bne_iff_ne,ne_eq,List.all_eq_true] at h;rw [or_ne h.1.2,or_ne h.2,upd_ne h.1.2];exact⟨F.sq.skip k h.1.1,F.bx,F.fin⟩
theorem SqB.below (F:SqB w0 we B g A cp xs sts L ops (L j) (L N) (vals j) t cs0 cs1 w) (hb:Below w.heap.size w w'):SqB w0 we B g A cp xs sts L ops (L j) (L N) (vals j) t cs0 cs1 w' :=
 ⟨F.sq.below hb,λ h hn=>by obtain⟨q,h1,h2,h3⟩:=F.bx h hn;exact⟨q,h1,h2,h3.below hb h3.lt⟩,λ h=>by obtain⟨q,h1,h2,h3⟩:=F.fin h;exact⟨q,h1,h2,h3.below hb h3.lt⟩⟩
theorem SqB.call {i k:Nat} {st:Nat × Int} {u:Value} (F:SqB w0 we B g A cp xs sts L ops (L j) (L N) (vals j) t cs0 cs1 w) (hgl:g<we.heap.size) (hs:sts[i+1]?=some st) (hk:ops[i]?=some k) (hno:¬ L k) (hp:∀ i' o,i'<i->ops[i']?=some o->L o) (hd:(decide ops.Nodup && (j != k) && (N != k))=true) (hD:Dx w0 B g A cp xs st w') (hg:w.grownBy w' (some g)):SqB w0 we B g A cp xs sts (λ j=>j=k∨L j) ops (j=k∨L j) (N=k∨L N) (upd vals k u j) t cs0 cs1 w':=by
 simp only [Bool.and_eq_true,decide_eq_true_eq,bne_iff_ne,ne_eq] at hd;rw [or_ne hd.1.2,or_ne hd.2,upd_ne hd.1.2];refine⟨F.sq.call hs hk hno hp hd.1.1 hD hg,λ h d=>?_,λ h=>?_⟩
 ·obtain⟨q,c,b,a⟩:=F.bx h d;exact⟨q,c,b,a.grown hg (λ k hk=>by simp at hk;omega)⟩
 ·obtain⟨q,c,b,a⟩:=F.fin h;exact⟨q,c,b,a.grown hg (λ k hk=>by simp at hk;omega)⟩
theorem SqB.box (F:SqB w0 we B g A cp xs sts L ops (L j) (L N) (vals j) t cs0 cs1 w) (hN:¬ L N) (h:(ops.all (λ o=>o != j) && (N != j))=true):SqB w0 we B g A cp xs sts (λ i=>i=j∨L i) ops (j=j∨L j) (N=j∨L N) (upd vals j (.pointer (some ⟨w.heap.size,0,none⟩)) j) t cs0 cs1 (w.alloc (.cells ⟨cs0⟩ t)):=by
 simp only [Bool.and_eq_true,bne_iff_ne,ne_eq,List.all_eq_true] at h;rw [or_ne h.2,upd_same];exact⟨(F.sq.below ((Below.refl _ _).alloc (Nat.le_refl _) _)).skip j h.1,λ _ _=>⟨_,rfl,F.sq.gr.size,RowB.new _ _ _⟩,λ a=>absurd a hN⟩
theorem SqB.wrote {q:Nat} {u:Value} (F:SqB w0 we B g A cp xs sts L ops (L j) (L N) (vals j) t cs0 cs1 w) (hgl:g<we.heap.size) (hBl:B<=g) (hv:vals j=.pointer (some ⟨q,0,none⟩)) (hq:we.heap.size<=q) (hr:RowB w' q t cs1) (hg:w.grownBy w' (some q)) (h:(ops.all (λ o=>o != N) && (j != N))=true):SqB w0 we B g A cp xs sts (λ i=>i=N∨L i) ops (j=N∨L j) (N=N∨L N) (upd vals N u j) t cs0 cs1 w':=by
 simp only [Bool.and_eq_true,bne_iff_ne,ne_eq,List.all_eq_true] at h;rw [upd_ne h.2];refine⟨Sq.skip ?_ N h.1,λ _ c=>absurd (.inl rfl) c,λ _=>⟨q,hv,hq,hr⟩⟩;obtain⟨i,d,b,l,f,e⟩:=F.sq;exact⟨i,d,b,l,f.grown hg (λ k a=>by simp at a;omega) (λ k a=>by simp at a;omega),grown_own e hg (λ k a=>by simp at a;omega)⟩
theorem SqB.start {pj pN:Prop} {vj:Value} {st:Nat × Int} (h:Dx w0 B g A cp xs st we) (hs:sts[0]?=some st) (hL:∀ o ∈ ops,¬ L o) (hj:¬ pj) (hN:¬ pN):SqB w0 we B g A cp xs sts L ops pj pN vj t cs0 cs1 we.drew:=⟨SqD.start h hs hL,λ h=>absurd h hj,λ h=>absurd h hN⟩
end
structure Ru (w0 w:World) (B g:Nat) (A:Option Addr) (cp:Nat) (xs:List Int) (st:Nat × Int) (t:TypeId) (cs:List Value) (W:World):Prop where
 D:Dx w0 B g A cp xs st W
 gr:w.grownBy W (some g)
 rr:RowB W w.heap.size t cs
 lt:g<w.heap.size
section
variable {w0 w W W':World} {B g cp:Nat} {A:Option Addr} {xs:List Int} {st st':Nat × Int} {t:TypeId} {cs:List Value}
theorem Ru.start (h:Dx w0 B g A cp xs st w):Ru w0 w B g A cp xs st t cs (w.alloc (.cells ⟨cs⟩ t)):=⟨h.alloc _,World.grownBy_alloc _ _ _,RowB.new _ _ _,h.lt⟩
theorem Ru.next (K:Ru w0 w B g A cp xs st t cs W) (hD:Dx w0 B g A cp xs st' W') (hg:W.grownBy W' (some g)):Ru w0 w B g A cp xs st' t cs W' :=
 ⟨hD,grownBy_trans K.gr hg,K.rr.grown hg (λ k hk=>by simp at hk;have:=K.lt;omega),K.lt⟩
theorem Ru.below (K:Ru w0 w B g A cp xs st t cs W) (hb:Below W.heap.size W W'):Ru w0 w B g A cp xs st t cs W' :=
 ⟨K.D.below hb K.D.lt,grownBy_trans K.gr (grown_bel hb),K.rr.below hb K.rr.lt,K.lt⟩
theorem Ru.alloc (K:Ru w0 w B g A cp xs st t cs W) (o:Obj):Ru w0 w B g A cp xs st t cs (W.alloc o):=K.below ((Below.refl _ _).alloc (Nat.le_refl _) _)
theorem Ru.put (K:Ru w0 w B g A cp xs st t cs W) {q:Nat} (hq:w.heap.size<q) (hg:W.grownBy W' (some q)):Ru w0 w B g A cp xs st t cs W':=by
 have l:=K.lt;have b:=K.D.base;exact⟨K.D.grown hg (λ k a=>by simp at a;omega) (λ k a=>by simp at a;omega),grown_own K.gr hg (λ i c=>by simp at c;omega),K.rr.grown hg (λ k a=>by simp at a;omega),K.lt⟩
theorem Ru.res {cs':List Value} (K:Ru w0 w B g A cp xs st t cs W) (h:RowB W' w.heap.size t cs') (hg:W.grownBy W' (some w.heap.size)):Ru w0 w B g A cp xs st t cs' W':=by
 have l:=K.lt;have b:=K.D.base;exact⟨K.D.grown hg (λ k a=>by simp at a;omega) (λ k a=>by simp at a;omega),grown_own K.gr hg (λ i c=>by simp at c;omega),h,K.lt⟩
end
structure Rx (w0 w:World) (B g:Nat) (A:Option Addr) (cp:Nat) (xs:List Int) (st:Nat × Int) (L:List (Nat × TypeId × List Value)) (W:World):Prop where
 D:Dx w0 B g A cp xs st W
 gr:w.grownBy W (some g)
 at_:∀ p ∈ L,RowB W (w.heap.size+p.1) p.2.1 p.2.2
 lt:g<w.heap.size
section
variable {w0 w W W':World} {B g cp:Nat} {A:Option Addr} {xs:List Int} {st st':Nat × Int} {L:List (Nat × TypeId × List Value)}
theorem Rx.next (K:Rx w0 w B g A cp xs st L W) (hD:Dx w0 B g A cp xs st' W') (hg:W.grownBy W' (some g)):Rx w0 w B g A cp xs st' L W' :=
 ⟨hD,grownBy_trans K.gr hg,λ p hp=>(K.at_ p hp).grown hg (λ k hk=>by simp at hk;have:=K.lt;omega),K.lt⟩
theorem Rx.below (K:Rx w0 w B g A cp xs st L W) (hb:Below W.heap.size W W'):Rx w0 w B g A cp xs st L W' :=
 ⟨K.D.below hb K.D.lt,grownBy_trans K.gr (grown_bel hb),λ p hp=>(K.at_ p hp).below hb (K.at_ p hp).lt,K.lt⟩
theorem Rx.alloc (K:Rx w0 w B g A cp xs st L W) (o:Obj):Rx w0 w B g A cp xs st L (W.alloc o):=K.below ((Below.refl _ _).alloc (Nat.le_refl _) _)
theorem Rx.nth (K:Rx w0 w B g A cp xs st L W) (i:Nat) {o:Nat} {t:TypeId} {cs:List Value} (h:L[i]?=some (o,t,cs)):RowB W (w.heap.size+o) t cs:=K.at_ _ (List.mem_of_getElem? h)
theorem Rx.nth0 (K:Rx w0 w B g A cp xs st L W) (i:Nat) {t:TypeId} {cs:List Value} (h:L[i]?=some (0,t,cs)):RowB W w.heap.size t cs:=K.at_ _ (List.mem_of_getElem? h)
theorem Rx.grown (K:Rx w0 w B g A cp xs st L W) (o:Nat) {t:TypeId} {new:List Value} (h:RowB W' (w.heap.size+o) t new) (hg:W.grownBy W' (some (w.heap.size+o))):Rx w0 w B g A cp xs st (L.map λ p=>if p.1=o then (o,t,new) else p) W':=by
 have l:=K.lt;have b:=K.D.base;refine⟨K.D.grown hg (λ k a=>by simp at a;omega) (λ k a=>by simp at a;omega),grown_own K.gr hg (λ i f=>by simp at f;omega),λ p d=>?_,K.lt⟩;obtain⟨q,c,rfl⟩:=List.mem_map.1 d;by_cases e:q.1=o
 ·rw [if_pos e];exact h
 ·rw [if_neg e];exact(K.at_ q c).grown hg (λ k a=>by simp at a;omega)
theorem Rx.put (K:Rx w0 w B g A cp xs st L W) {q:Nat} (hl:∀ p ∈ L,w.heap.size+p.1≠q) (hq:w.heap.size<=q) (hg:W.grownBy W' (some q)):Rx w0 w B g A cp xs st L W':=by
 have l:=K.lt;have b:=K.D.base;exact⟨K.D.grown hg (λ k a=>by simp at a;omega) (λ k a=>by simp at a;omega),grown_own K.gr hg (λ i d=>by simp at d;omega),λ p c=>(K.at_ p c).grown hg (λ k a=>by simp at a;have:=hl p c;omega),K.lt⟩
end
end DwQ
namespace RelG
open Go Go.RowKit Base Own
def RdF {α:Type} (w:World) (S:Nat->Prop) (sz:Nat) (en:α->List Value) (A:Option Addr) (xs:List α):Prop :=
 xs.length<=maxLen∧(0<xs.length->∃ b off,A=some ⟨b,off,none⟩∧S b∧b<w.heap.size∧∀ i x,xs[i]?=some x->∀ j u,(en x)[j]?=some u->w.cell? ⟨b,off+i*sz+j,none⟩=some u)
def Still (S:Nat->Prop) (w w':World):Prop:=w.heap.size<=w'.heap.size∧∀ b,S b->b<w.heap.size->w'.heap[b]?=w.heap[b]?
theorem Still.below {S:Nat->Prop} {w w':World} (h:Below w.heap.size w w'):Still S w w':=⟨h.size,λ b _ hb=>h.block b hb⟩
theorem Still.grown {S:Nat->Prop} {w w':World} {row:Option Nat} (h:w.grownBy w' row) (hr:∀ g,row=some g->¬ S g):Still S w w' :=
 ⟨h.size,λ b hs hb=>h.block b hb (λ e=>hr b e.symm hs)⟩
theorem Still.trans {S:Nat->Prop} {a b c:World} (h:Still S a b) (k:Still S b c):Still S a c :=
 ⟨Nat.le_trans h.1 k.1,λ i hs hi=>(k.2 i hs (Nat.lt_of_lt_of_le hi h.1)).trans (h.2 i hs hi)⟩
def All (_:Nat):Prop:=True
section
variable {α:Type} {w w':World} {S S':Nat->Prop} {B sz:Nat} {en:α->List Value} {A:Option Addr} {xs:List α}
theorem RdF.keep (h:RdF w S sz en A xs) (hs:Still S w w'):RdF w' S sz en A xs :=
 ⟨h.1,λ hn=>by
  obtain⟨b,off,e,hS,hb,hc⟩:=h.2 hn;exact⟨b,off,e,hS,Nat.lt_of_lt_of_le hb hs.1,λ i x hx j u hu=>(World.cell?_of_block (hs.2 b hS hb)).trans (hc i x hx j u hu)⟩⟩
theorem RdF.weak (h:RdF w S sz en A xs) (hs:∀ b,S b->b<w.heap.size->S' b):RdF w S' sz en A xs :=
 ⟨h.1,λ hn=>by
  obtain⟨b,off,e,hS,hb,hc⟩:=h.2 hn;exact⟨b,off,e,hs b hS hb,hb,hc⟩⟩
theorem RdF.rd (h:RdF w S sz en A xs):RdS w w.heap.size sz en A xs :=
 ⟨h.1,λ hn=>by
  obtain⟨b,off,e,hS,hb,hc⟩:=h.2 hn;exact⟨b,off,e,hb,hc⟩⟩
theorem RdF.of (h:RdS w B sz en A xs) (hB:B<=w.heap.size) (hS:∀ b,b<B->S b):RdF w S sz en A xs :=
 ⟨h.1,λ hn=>by
  obtain⟨b,off,e,hb,hc⟩:=h.2 hn;exact⟨b,off,e,hS b hb,by omega,hc⟩⟩
theorem RdF.nil (w:World) (S:Nat->Prop) (sz:Nat) (en:α->List Value) (A:Option Addr):RdF w S sz en A []:=⟨Nat.zero_le _,λ h=>by simp at h⟩
theorem RdF.len (h:RdF w S sz en A xs):xs.length<=9223372036854775807:=by have:=h.1;unfold maxLen at this;omega
theorem RdF.at_ (h:RdF w S sz en A xs) {i:Nat} (hi:i<xs.length) :
  ∃ b off x,A=some ⟨b,off,none⟩∧S b∧b<w.heap.size∧xs[i]?=some x∧∀ j u,(en x)[j]?=some u->w.cell? ⟨b,off+i*sz+j,none⟩=some u:=by
 obtain⟨b,off,rfl,d,c,a⟩:=h.2 (by omega);exact⟨b,off,xs[i],rfl,d,c,List.getElem?_eq_getElem hi,a i _ (List.getElem?_eq_getElem hi)⟩
end
structure Rel (ρ α:Type) where
 R:World->(Nat->Prop)->ρ->α->Prop
 keep:∀ {w w':World} {S:Nat->Prop} {r:ρ} {x:α},R w S r x->Still S w w'->R w' S r x
 weak:∀ {w:World} {S S':Nat->Prop} {r:ρ} {x:α},R w S r x->(∀ b,S b->b<w.heap.size->S' b)->R w S' r x
def LsR {ρ α:Type} (K:Rel ρ α) (w:World) (S:Nat->Prop) (rs:List ρ) (xs:List α):Prop :=
 rs.length=xs.length∧∀(i:Nat) (r:ρ) (x:α),rs[i]?=some r->xs[i]?=some x->K.R w S r x
section
variable {ρ α:Type} {K:Rel ρ α} {w w':World} {S S':Nat->Prop} {rs:List ρ} {xs:List α}
theorem LsR.keep (h:LsR K w S rs xs) (hs:Still S w w'):LsR K w' S rs xs:=⟨h.1,λ i r x hr hx=>K.keep (h.2 i r x hr hx) hs⟩
theorem LsR.weak (h:LsR K w S rs xs) (hs:∀ b,S b->b<w.heap.size->S' b):LsR K w S' rs xs:=⟨h.1,λ i r x hr hx=>K.weak (h.2 i r x hr hx) hs⟩
theorem LsR.nil (K:Rel ρ α) (w:World) (S:Nat->Prop):LsR K w S [] []:=⟨rfl,λ i r x hr=>by simp at hr⟩
theorem LsR.snoc (h:LsR K w S rs xs) {r:ρ} {x:α} (hr:K.R w S r x):LsR K w S (rs++[r]) (xs++[x]):=by
 refine⟨by simp [h.1],λ i d c a b=>?_⟩;have e:=h.1;rcases Nat.lt_trichotomy i rs.length with hi | hi | hi
 ·rw [List.getElem?_append_left hi] at a;rw [List.getElem?_append_left (by omega)] at b;exact h.2 i d c a b
 ·subst hi;rw [List.getElem?_append_right (Nat.le_refl _),Nat.sub_self] at a;rw [e,List.getElem?_append_right (Nat.le_refl _),Nat.sub_self] at b;simp at a b;subst a b;exact hr
 ·rw [List.getElem?_eq_none (by simp;omega)] at a;cases a
theorem LsR.at_ (h:LsR K w S rs xs) {i:Nat} {r:ρ} (hr:rs[i]?=some r):∃ x,xs[i]?=some x∧K.R w S r x:=by
 have b:=(List.getElem?_eq_some_iff.1 hr).1;have a:i<xs.length:=by rw [<-h.1];exact b
 exact⟨xs[i],List.getElem?_eq_getElem a,h.2 i r _ hr (List.getElem?_eq_getElem a)⟩
theorem LsR.take (h:LsR K w S rs xs) (k:Nat):LsR K w S (rs.take k) (xs.take k):=by
 refine⟨by simp [h.1],λ i r x a b=>?_⟩;rw [List.getElem?_take] at a b;split at a
 ·rw [if_pos (by assumption)] at b;exact h.2 i r x a b
 ·cases a
end
def SlG {ρ α:Type} (K:Rel ρ α) (sz:Nat) (en:ρ->List Value) (w:World) (S:Nat->Prop) (v:Value) (xs:List α):Prop :=
 ∃(A:Option Addr) (c:Nat) (rs:List ρ),v=.slice A xs.length c∧RdF w S sz en A rs∧LsR K w S rs xs∧(A=none->c=0)
def relSl {ρ α:Type} (K:Rel ρ α) (sz:Nat) (en:ρ->List Value):Rel Value (List α) where
 R:=SlG K sz en
 keep:=λ⟨A,c,rs,h1,h2,h3,h4⟩ hs=>⟨A,c,rs,h1,h2.keep hs,h3.keep hs,h4⟩
 weak:=λ⟨A,c,rs,h1,h2,h3,h4⟩ hs=>⟨A,c,rs,h1,h2.weak hs,h3.weak hs,h4⟩
def SlV {α:Type} (sz:Nat) (en:α->List Value) (w:World) (S:Nat->Prop) (v:Value) (xs:List α):Prop :=
 ∃(A:Option Addr) (c:Nat),v=.slice A xs.length c∧RdF w S sz en A xs∧(A=none->c=0)
def relV {α:Type} (sz:Nat) (en:α->List Value):Rel Value (List α) where
 R:=SlV sz en
 keep:=λ⟨A,c,h1,h2,h4⟩ hs=>⟨A,c,h1,h2.keep hs,h4⟩
 weak:=λ⟨A,c,h1,h2,h4⟩ hs=>⟨A,c,h1,h2.weak hs,h4⟩
def NotIn (v:Value) (lo b:Nat):Prop:=v.ownBlock≠some b∧lo<=b
def OwnG {ρ α:Type} (K:Rel ρ α) (w:World) (lo hi:Nat) (e:TypeId) (sz:Nat) (en:ρ->List Value) (v:Value) (xs:List α):Prop :=
 ∃ rs,OwnS w lo hi e sz en v rs∧LsR K w (NotIn v lo) rs xs
def OwnV {α:Type} (e:TypeId) (sz:Nat) (en:α->List Value) (w:World) (S:Nat->Prop) (v:Value) (xs:List α):Prop :=
 OwnS w 0 w.heap.size e sz en v xs∧∀ g,v.ownBlock=some g->S g
theorem OwnV.keep {α:Type} {e:TypeId} {sz:Nat} {en:α->List Value} {w w':World} {S:Nat->Prop} {v:Value} {xs:List α} (h:OwnV e sz en w S v xs) (hs:Still S w w'):OwnV e sz en w' S v xs:=by
 obtain⟨⟨⟨f,d⟩,b⟩,a⟩:=h;refine⟨⟨⟨f,?_⟩,λ g c=>Nat.lt_of_lt_of_le (b g c) hs.1⟩,a⟩;rcases d with hn | ⟨g,cap,cur,rfl,hbg,hgg,rest⟩
 ·exact .inl hn
 ·refine .inr ⟨g,cap,cur,rfl,hbg,?_,rest⟩;rw [hs.2 g (a g rfl) (b g rfl)];exact hgg
def relO {α:Type} (e:TypeId) (sz:Nat) (en:α->List Value):Rel Value (List α) where
 R:=OwnV e sz en
 keep:=OwnV.keep
 weak:=λ h hs=>⟨h.1,λ g hg=>hs g (h.2 g hg) (h.1.2 g hg)⟩
theorem OwnV.sl {α:Type} {e:TypeId} {sz:Nat} {en:α->List Value} {w:World} {S:Nat->Prop} {v:Value} {xs:List α} (hen:∀ x,(en x).length=sz) (h:OwnV e sz en w S v xs):SlV sz en w S v xs:=by
 obtain⟨A,c,f,k⟩:=h.1.form hen;have l:A=none->c=0:=λ d=>by
  rcases h.1.cases_ with ⟨e2,_⟩ | ⟨g,cap,rest,e2,_⟩
  ·rw [f] at e2;simp only [Value.slice.injEq] at e2;exact e2.2.2
  ·rw [f,d] at e2;simp only [Value.slice.injEq] at e2;exact absurd e2.1 (by simp)
 refine⟨A,c,f,⟨k.1,λ j=>?_⟩,l⟩;obtain⟨b,i,d,m,a⟩:=k.2 j;refine⟨b,i,d,?_,m,a⟩;rcases h.1.cases_ with ⟨e2,e3⟩ | ⟨g,cap,rest,e2,_⟩
 ·rw [e3] at j;simp at j
 ·have n:=h.2 g (by rw [e2];rfl);rw [f,d] at e2;simp only [Value.slice.injEq,Option.some.injEq,Addr.mk.injEq] at e2;rw [e2.1.1];exact n
theorem OwnV.of {α:Type} {e:TypeId} {sz lo hi:Nat} {en:α->List Value} {w:World} {S:Nat->Prop} {v:Value} {xs:List α} (h:OwnS w lo hi e sz en v xs) (hh:hi<=w.heap.size) (hS:∀ b,lo<=b->b<hi->S b):OwnV e sz en w S v xs :=
 ⟨(h.less (Nat.zero_le _)).more hh,λ g hg=>hS g (h.block g hg).1 (h.block g hg).2⟩
section
variable {ρ α:Type} {K:Rel ρ α} {w w':World} {lo hi sz:Nat} {e:TypeId} {en:ρ->List Value} {v:Value} {xs:List α}
theorem OwnG.below (h:OwnG K w lo hi e sz en v xs) (hb:Below w.heap.size w w') (hh:hi<=w.heap.size):OwnG K w' lo hi e sz en v xs:=by
 obtain⟨a,c,b⟩:=h;exact⟨a,c.below hb hh,b.keep (.below hb)⟩
theorem OwnG.more {hi':Nat} (h:OwnG K w lo hi e sz en v xs) (hh:hi<=hi'):OwnG K w lo hi' e sz en v xs:=by
 obtain⟨a,c,b⟩:=h;exact⟨a,c.more hh,b⟩
theorem OwnG.less {lo':Nat} (h:OwnG K w lo hi e sz en v xs) (hh:lo'<=lo):OwnG K w lo' hi e sz en v xs:=by
 obtain⟨c,f,d⟩:=h;exact⟨c,f.less hh,d.weak (λ b a _=>⟨a.1,by have:=a.2;omega⟩)⟩
theorem OwnG.below_ (h:OwnG K w lo hi e sz en v xs) (hb:Below w.heap.size w w'):OwnG K w' lo hi e sz en v xs:=by
 obtain⟨b,a,c⟩:=h;refine⟨b,⟨⟨a.1.1,?_⟩,a.2⟩,c.keep (.below hb)⟩;rcases a.1.2 with hn | ⟨g,cap,cur,rfl,hbg,hgg,rest⟩
 ·exact .inl hn
 ·refine .inr ⟨g,cap,cur,rfl,hbg,?_,rest⟩;rw [hb.block g (Array.getElem?_eq_some_iff.1 hgg).1];exact hgg
theorem OwnG.nil_ (K:Rel ρ α) (w:World) (lo hi:Nat) (e:TypeId) (sz:Nat) (en:ρ->List Value):OwnG K w lo hi e sz en (.slice none 0 0) [] :=
 ⟨[],OwnS.nil_ _ _ _ _ _ _,LsR.nil _ _ _⟩
theorem app_still {v:Value} {g n c:Nat} (hg:w.grownBy w' v.ownBlock) (hat:v.ownBlock=some g∨g=w.heap.size) {ρ α:Type} {K:Rel ρ α} {r:ρ} {x:α} (h:K.R w (NotIn v lo) r x):K.R w' (NotIn (.slice (some ⟨g,0,none⟩) n c) lo) r x:=by
 have l:K.R w (λ b=>NotIn v lo b∧b<w.heap.size) r x:=K.weak h (λ b a f=>⟨a,f⟩);have j:=K.keep l (Still.grown (S:=λ b=>NotIn v lo b∧b<w.heap.size) hg (λ k i d=>d.1.1 i));refine K.weak j (λ b a _=>⟨?_,a.1.2⟩);intro e;simp [Value.ownBlock] at e;subst e;rcases hat with hat | hat
 ·exact a.1.1 hat
 ·have:=a.2;omega
theorem OwnG.sl (hen:∀ x,(en x).length=sz) (h:OwnG K w lo hi e sz en v xs) (hh:hi<=w.heap.size):SlG K sz en w (λ b=>lo<=b) v xs:=by
 obtain⟨f,k,d⟩:=h;have g:=OwnV.sl (S:=λ b=>lo<=b) hen (OwnV.of k hh (λ b a _=>a));obtain⟨A,c,rfl,i,j⟩:=g;refine⟨A,c,f,by rw [d.1],i,d.weak (λ _ a _=>a.2),j⟩
end
end RelG
end Go.Proofs.YtmncnhbjifeoeaaGreat
