/- Parts of the proof of FnExactReadMatch. Conditions: each theorem's own. -/
import Derived.Test.YtblipmifflfnoaaGreatDoorQ16
import Derived.Test.YtblipmifflfnoaaGreatDoorShelf
import Derived.ShapedOpen
import Derived.ChangeAgain
import Derived.Lib.ParseIntBTie
set_option linter.unusedVariables false
set_option linter.unusedSimpArgs false
set_option maxHeartbeats 8000000
set_option maxRecDepth 100000
namespace Go.Proofs.YtblipmifflfnoaaGreatDoor
namespace TxP
open Go PlP
def allPl (v:Vr) (ss:List Stp):Bool:=ss.all (plainB v)
def stpsT (v:Vr) (ss:List Stp):By:=if 4<ss.length then [] else if ss.length=0 then [45] else if allPl v ss=true then Lib.join (ss.map (stpT v)) [32] else []
def mapO {α β:Type} (f:α->Option β):List α->Option (List β)
 | []=>some []
 | x :: l=>match f x with
  | none=>none
  | some y=>(mapO f l).map (y :: ·)
theorem mapO_iff {α β:Type} {f:α->Option β}:∀ {l:List α} {r:List β},mapO f l=some r↔l.length=r.length∧∀(i:Nat) x y,l[i]?=some x->r[i]?=some y->f x=some y:=by
 intro l
 induction l with
 | nil =>
  intro r;simp only [mapO,Option.some.injEq,List.length_nil]
  constructor
  ·rintro rfl;exact⟨rfl,λ i x y h=>by simp at h⟩
  ·rintro⟨h,_⟩;exact(List.eq_nil_of_length_eq_zero h.symm).symm
 | cons a l ih =>
  intro r;simp only [mapO]
  constructor
  ·intro h;split at h
   ·cases h
   ·rename_i b hb
    cases hm:mapO f l with
    | none=>rw [hm] at h;cases h
    | some q =>
     rw [hm] at h;simp only [Option.map_some,Option.some.injEq] at h;subst h;obtain⟨g,e⟩:=ih.1 hm;refine⟨by simp [g],λ i x y d c=>?_⟩
     cases i with
     | zero=>simp at d c;subst d c;exact hb
     | succ i=>exact e i x y (by simpa using d) (by simpa using c)
  ·rintro⟨g,e⟩
   cases r with
   | nil=>simp at g
   | cons b q =>
    rw [e 0 a b rfl rfl];simp only;have:mapO f l=some q:=ih.2 ⟨by simpa using g,λ i x y d c=>e (i+1) x y (by simpa using d) (by simpa using c)⟩;rw [this];rfl
theorem mapO_snoc {α β:Type} {f:α->Option β}:∀(l:List α) (x:α),mapO f (l++[x])=match mapO f l with
  | none=>none
  | some r=>(f x).map λ y=>r++[y]:=by
 intro l
 induction l with
 | nil=>intro x;simp only [List.nil_append,mapO];cases f x <;> rfl
 | cons a l ih =>
  intro x;simp only [List.cons_append,mapO,ih]
  cases f a with
  | none=>rfl
  | some b =>
   simp only
   cases mapO f l with
   | none=>rfl
   | some r=>cases f x <;> rfl
theorem mapO_none {α β:Type} {f:α->Option β} {x:α} (h:f x=none):∀(l:List α),x ∈ l->mapO f l=none:=by
 intro l
 induction l with
 | nil=>intro b;simp at b
 | cons a l ih =>
  intro b;rcases List.mem_cons.1 b with rfl | b
  ·simp [mapO,h]
  ·simp only [mapO,ih b];cases f a <;> rfl
def rdSs (v:Vr) (t:By):Option (List Stp):=if t=[45] then some [] else if 4<(spl 32 t).length then none else mapO (rdI v) (spl 32 t)
theorem map_spl {f:Stp->By}:∀ {ss:List Stp},ss≠[]->(∀ s ∈ ss,∀ x ∈ f s,x≠(32:UInt8))->spl 32 (Lib.join (ss.map f) [32])=ss.map f:=by
 intro ss
 induction ss with
 | nil=>intro h;exact absurd rfl h
 | cons s ss a =>
  intro _ b;have c:=b s (List.mem_cons_self ..)
  cases ss with
  | nil=>simp only [List.map_cons,List.map_nil,Lib.join_one];exact spl_no _ _ c
  | cons r ss =>
   have a:=a (by simp) (λ x d=>b x (List.mem_cons_of_mem _ d));rw [List.map_cons,Lib.join_cons];have e:f s++Lib.joinTail [32] ((r :: ss).map f)=f s++32 :: Lib.join ((r :: ss).map f) [32]:=by
    rw [List.map_cons,Lib.join_cons];simp [Lib.joinTail]
   rw [e,spl_at _ _ _ c,a]
theorem ss_iff {v:Vr} (hv:okV v=true) {t:By} {ss:List Stp}:rdSs v t=some ss↔ss.length<=4∧allPl v ss=true∧stpsT v ss=t:=by
 unfold rdSs
 constructor
 ·intro h;split at h
  ·rename_i h1
   simp only [Option.some.injEq] at h;subst h;exact⟨by simp,rfl,h1.symm⟩
  ·split at h
   ·cases h
   ·rename_i h1 h2
    obtain⟨z,r⟩:=mapO_iff.1 h;have q:=spl_ne 32 t;have j:ss≠[]:=λ e=>by subst e;exact q (List.eq_nil_of_length_eq_zero z)
    have o:∀ i s,ss[i]?=some s->∃ w,(spl 32 t)[i]?=some w∧plainB v s=true∧stpT v s=w:=λ i s a=>by
     have d:=(List.getElem?_eq_some_iff.1 a).1;have f:(spl 32 t)[i]?=some ((spl 32 t)[i]'(by omega)):=List.getElem?_eq_getElem _;obtain⟨l,k⟩:=(rdI_iff hv).1 (r i _ s f a);exact⟨_,f,l,k⟩
    have n:allPl v ss=true:=by
     unfold allPl;rw [List.all_eq_true];intro s a;obtain⟨i,d⟩:=List.getElem?_of_mem a;obtain⟨_,_,l,_⟩:=o i s d;exact l
    have p:ss.map (stpT v)=spl 32 t:=by
     apply List.ext_getElem?
     intro i;rw [List.getElem?_map]
     cases d:ss[i]? with
     | none =>
      have:=List.getElem?_eq_none_iff.1 d;rw [List.getElem?_eq_none (by omega)];rfl
     | some s =>
      obtain⟨w,f,_,k⟩:=o i s d;rw [f,<-k];rfl
    refine⟨by omega,n,?_⟩;unfold stpsT;rw [if_neg (by omega),if_neg (λ e=>j (List.eq_nil_of_length_eq_zero e)),if_pos n,p,spl_join]
 ·rintro⟨h1,h2,rfl⟩;unfold stpsT;simp only [if_neg (show ¬ 4<ss.length by omega)];by_cases h0:ss.length=0
  ·simp only [if_pos h0,if_true];rw [List.eq_nil_of_length_eq_zero h0]
  ·have c:ss≠[]:=λ e=>h0 (by rw [e];rfl)
   have b:∀ s ∈ ss,plainB v s=true:=λ s a=>List.all_eq_true.1 h2 s a
   simp only [if_neg h0,if_pos h2];rw [map_spl c (λ s a=>step_ne hv (b s a) (by decide))];rw [if_neg]
   ·rw [List.length_map,if_neg (by omega)];refine mapO_iff.2 ⟨by simp,λ i x y g m=>?_⟩;rw [List.getElem?_map,m] at g;simp only [Option.map_some,Option.some.injEq] at g;exact(rdI_iff hv).2 ⟨b y (List.mem_of_getElem? m),g⟩
   ·intro e
    cases ss with
    | nil=>exact c rfl
    | cons s ss =>
     have:=(step_len hv (b s (List.mem_cons_self ..))).1;rw [List.map_cons,Lib.join_cons] at e;have:=congrArg List.length e;simp at this;omega
theorem stpsT_len {v:Vr} (hv:okV v=true) {ss:List Stp}:(stpsT v ss).length<=50:=by
 unfold stpsT;split
 ·simp
 ·split
  ·simp
  ·split
   ·rename_i h4 h0 h1
    have f:∀ s ∈ ss,(stpT v s).length<=11:=λ s j=>(step_len hv (List.all_eq_true.1 h1 s j)).2
    match ss,h4 with
    | [],_=>simp at h0
    | [a],_ =>
     have g:=f a (by simp);simp [Lib.join_one];omega
    | [a,b],_ =>
     have g:=f a (by simp);have i:=f b (by simp);simp [Lib.join_cons,Lib.joinTail];omega
    | [a,b,c],_ =>
     have g:=f a (by simp);have i:=f b (by simp);have k:=f c (by simp);simp [Lib.join_cons,Lib.joinTail];omega
    | [a,b,c,d],_ =>
     have g:=f a (by simp);have i:=f b (by simp);have k:=f c (by simp);have m:=f d (by simp);simp [Lib.join_cons,Lib.joinTail];omega
    | a :: b :: c :: d :: e :: l,h=>simp at h
   ·simp
def rolT (x y:Int):By:=Lib.itoa x++Lib.itoa y
def rdR (v:Vr) (t:By):Option (Int × Int) :=
 if t.length=2∧rollB v (((t.getD 0 0).toNat:Int) - 48) (((t.getD 1 0).toNat:Int) - 48)=true then some ((((t.getD 0 0).toNat:Int) - 48),(((t.getD 1 0).toNat:Int) - 48)) else none
theorem roll_parts {v:Vr} {x y:Int} (h:rollB v x y=true):(1<=x∧x<=v.s)∧1<=y∧y<=x:=by
 unfold rollB at h
 simpa only [Bool.and_eq_true,decide_eq_true_eq] using h
theorem rolT_at {v:Vr} (hv:okV v=true) {x y:Int} (h:rollB v x y=true):rolT x y=[dg x.toNat,dg y.toNat]:=by
 have a:=okV_iff.1 hv;have b:=roll_parts h;unfold rolT;rw [ito_one (by omega) (by omega),ito_one (by omega) (by omega)]
 rfl
theorem rdR_iff {v:Vr} (hv:okV v=true) {t:By} {x y:Int}:rdR v t=some (x,y)↔rollB v x y=true∧rolT x y=t:=by
 have k:=okV_iff.1 hv;unfold rdR
 constructor
 ·intro h;split at h
  ·rename_i h1
   simp only [Option.some.injEq,Prod.mk.injEq] at h;obtain⟨rfl,rfl⟩:=h;refine⟨h1.2,?_⟩;have d:=roll_parts h1.2;rw [rolT_at hv h1.2]
   match t,h1.1 with
   | [a,b],_ =>
    simp only [List.getD_cons_zero,List.getD_cons_succ] at d ⊢;have e:∀ c:UInt8,1<=(c.toNat:Int) - 48->dg (((c.toNat:Int) - 48).toNat)=c:=λ c l=>by
     unfold dg;rw [show 48+((c.toNat:Int) - 48).toNat=c.toNat by omega];exact UInt8.ofNat_toNat
    rw [e a d.1.1,e b d.2.1]
  ·cases h
 ·rintro⟨h1,rfl⟩;have d:=roll_parts h1;rw [rolT_at hv h1];have j:=dg_nat (show x.toNat<10 by omega);have i:=dg_nat (show y.toNat<10 by omega);simp only [List.getD_cons_zero,List.getD_cons_succ,j,i,List.length_cons,List.length_nil];have g:(((48+x.toNat:Nat):Int) - 48)=x:=by omega
  have f:(((48+y.toNat:Nat):Int) - 48)=y:=by omega
  rw [g,f,if_pos ⟨trivial,h1⟩]
def trnT (v:Vr) (x y:Int) (ss:List Stp):By:=if rollB v x y=true∧stpsT v ss≠[] then rolT x y++[58,32]++stpsT v ss else []
def rdTI (v:Vr) (t:By):Option (Int × Int × List Stp) :=
 if 80<t.length then none else if (Lib.cut t [58,32]).2.2=false then none else
  match rdR v (Lib.cut t [58,32]).1,rdSs v (Lib.cut t [58,32]).2.1 with
  | some (x,y),some ss=>some (x,y,ss)
  | _,_=>none
def rdTS (v:Vr) (t:By):Option (Int × Int × List Stp) :=
 if 80<t.length then none else if t.length<4∨¬ (t.take 4).drop 2=[58,32] then none else
  match rdR v (t.take 2),rdSs v (t.drop 4) with
  | some (x,y),some ss=>some (x,y,ss)
  | _,_=>none
theorem steps_ne_nil {v:Vr} (hv:okV v=true) {ss:List Stp}:stpsT v ss≠[]↔ss.length<=4∧allPl v ss=true:=by
 unfold stpsT
 constructor
 ·intro h;split at h
  ·exact absurd rfl h
  ·split at h
   ·rename_i h1 h2
    rw [List.eq_nil_of_length_eq_zero h2];exact⟨by simp,rfl⟩
   ·split at h
    ·exact⟨by omega,by assumption⟩
    ·exact absurd rfl h
 ·rintro⟨h1,h2⟩;rw [if_neg (by omega)];split
  ·simp
  ·rename_i h0
   try rw [if_pos h2]
   cases ss with
   | nil=>simp at h0
   | cons s ss =>
    have:=(step_len hv (List.all_eq_true.1 h2 s (List.mem_cons_self ..))).1;rw [List.map_cons,Lib.join_cons];intro e;have a:=(List.append_eq_nil_iff.1 e).1;rw [a] at this;simp at this
theorem cut_colon (a b:UInt8) (l:By) (h1:a≠58) (h2:b≠58):Lib.cut ([a,b]++[58,32]++l) [58,32]=([a,b],l,true):=by
 have c:Lib.index (a :: b :: 58 :: 32 :: l) [58,32]=2:=by
  rw [Lib.index,Lib.index,Lib.index];have f:((58:UInt8) == a)=false:=by rw [beq_eq_false_iff_ne];exact λ e=>h1 e.symm
  have d:((58:UInt8) == b)=false:=by rw [beq_eq_false_iff_ne];exact λ e=>h2 e.symm
  simp [List.isPrefixOf,f,d]
 unfold Lib.cut;show (if 0<=Lib.index (a :: b :: 58 :: 32 :: l) [58,32] then _ else _)=_
 rw [if_pos (by rw [c];decide)];simp only [List.cons_append,List.nil_append,c];simp
theorem rdTI_iff {v:Vr} (hv:okV v=true) {t:By} {x y:Int} {ss:List Stp}:rdTI v t=some (x,y,ss)↔trnT v x y ss=t∧t≠[]:=by
 have w:=okV_iff.1 hv
 constructor
 ·intro h;unfold rdTI at h;split at h
  ·cases h
  ·split at h
   ·cases h
   ·rename_i h1 d
    obtain⟨⟨a,b,n⟩,g⟩:∃ c,Lib.cut t [58,32]=c:=⟨_,rfl⟩;rw [g] at h d;simp only at h d;have d:n=true:=by simpa using d
    subst d;split at h
    ·rename_i p q r f i
     simp only [Option.some.injEq,Prod.mk.injEq] at h;obtain⟨rfl,rfl,rfl⟩:=h;obtain⟨m,s⟩:=(rdR_iff hv).1 f;obtain⟨l,k,o⟩:=(ss_iff hv).1 i;have j:=cut_join g;unfold trnT;rw [if_pos ⟨m,(steps_ne_nil hv).2 ⟨l,k⟩⟩,s,o,<-j];refine⟨rfl,λ e=>?_⟩;rw [e] at j;have:=congrArg List.length j;simp at this
    ·cases h
 ·rintro⟨rfl,hne⟩;unfold trnT at hne ⊢;split at hne
  ·rename_i h1
   rw [if_pos h1];have m:=roll_parts h1.1;obtain⟨l,k⟩:=(steps_ne_nil hv).1 h1.2;have f:=(rdR_iff hv).2 ⟨h1.1,rfl⟩;have i:=(ss_iff hv).2 ⟨l,k,rfl⟩;have z:=stpsT_len hv (ss:=ss);rw [rolT_at hv h1.1] at f ⊢;have g:=cut_colon (dg x.toNat) (dg y.toNat) (stpsT v ss) (dg_ne (by omega) (by decide)) (dg_ne (by omega) (by decide));unfold rdTI;rw [if_neg (by simp;omega),g];simp only [f,i]
   rfl
  ·exact absurd rfl hne
theorem rdTS_iff {v:Vr} (hv:okV v=true) {t:By} {x y:Int} {ss:List Stp}:rdTS v t=some (x,y,ss)↔trnT v x y ss=t∧t≠[]:=by
 have z:=okV_iff.1 hv
 constructor
 ·intro h;unfold rdTS at h;split at h
  ·cases h
  ·split at h
   ·cases h
   ·rename_i h1 h2
    have j:4<=t.length∧(t.take 4).drop 2=[58,32]:=by
     constructor
     ·rcases Nat.lt_or_ge t.length 4 with h | h
      ·exact absurd (.inl h) h2
      ·exact h
     ·exact Classical.byContradiction λ h=>h2 (.inr h)
    split at h
    ·rename_i p q r e f
     simp only [Option.some.injEq,Prod.mk.injEq] at h;obtain⟨rfl,rfl,rfl⟩:=h;obtain⟨k,n⟩:=(rdR_iff hv).1 e;obtain⟨i,g,m⟩:=(ss_iff hv).1 f;unfold trnT;rw [if_pos ⟨k,(steps_ne_nil hv).2 ⟨i,g⟩⟩,n,m]
     match t,j with
     | a :: b :: c :: d :: l,⟨_,h8⟩ =>
      simp only [List.take,List.drop,List.cons.injEq,and_true] at h8;obtain⟨rfl,rfl⟩:=h8;exact⟨rfl,by simp⟩
    ·cases h
 ·rintro⟨rfl,hne⟩;unfold trnT at hne ⊢;split at hne
  ·rename_i h1
   rw [if_pos h1];have k:=roll_parts h1.1;obtain⟨i,g⟩:=(steps_ne_nil hv).1 h1.2;have e:=(rdR_iff hv).2 ⟨h1.1,rfl⟩;have f:=(ss_iff hv).2 ⟨i,g,rfl⟩;have A:=stpsT_len hv (ss:=ss);rw [rolT_at hv h1.1] at e ⊢;unfold rdTS;have w:([dg x.toNat,dg y.toNat]++[58,32]++stpsT v ss).take 2=[dg x.toNat,dg y.toNat]:=rfl;have s:([dg x.toNat,dg y.toNat]++[58,32]++stpsT v ss).drop 4=stpsT v ss:=rfl;have o:(([dg x.toNat,dg y.toNat]++[58,32]++stpsT v ss).take 4).drop 2=[58,32]:=rfl;rw [if_neg (by simp;omega),w,s,o,if_neg (by simp),e,f]
  ·exact absurd rfl hne
theorem rdT_eq {v:Vr} (hv:okV v=true) (t:By):rdTS v t=rdTI v t:=by
 cases h:rdTI v t with
 | some s=>obtain⟨x,y,a⟩:=s;exact(rdTS_iff hv).2 ((rdTI_iff hv).1 h)
 | none =>
  cases h2:rdTS v t with
  | none=>rfl
  | some s=>obtain⟨x,y,a⟩:=s;rw [(rdTI_iff hv).2 ((rdTS_iff hv).1 h2)] at h;cases h
def opW:By:=[111,112,101,110,105,110,103]
def tuW:By:=[116,117,114,110]
def reW:By:=[114,101,115,105,103,110]
def evnT (v:Vr) (e:Ev):By :=
 if blankP e=false then [] else
 if e.k=1 then (if (1<=e.a∧e.a<=v.s)∧1<=e.b∧e.b<=v.s then opW++[32]++Lib.itoa e.a++[32]++Lib.itoa e.b else [])
 else if e.k=3 then (if 1<=e.r∧e.r<=3 then reW++[32]++Lib.itoa e.r else [])
 else if trnT v e.a e.b e.ss=[] then [] else tuW++[32]++trnT v e.a e.b e.ss
def nulE:Ev:=⟨0,0,0,[],0⟩
def gEI (v:Vr) (t:By):Ev :=
 let w:=(Lib.cut t [32]).1
 let r:=(Lib.cut t [32]).2.1
 if w=opW then
  match mapO (λ x=>if (rdDec x).2=true then some (rdDec x).1 else none) (spl 32 r) with
  | some [a,b]=>⟨1,a,b,[],0⟩
  | _=>nulE
 else if w=tuW then
  match rdTI v r with
  | some (x,y,ss)=>⟨2,x,y,ss,0⟩
  | none=>nulE
 else if w=reW then (if (rdDec r).2=true then ⟨3,0,0,[],(rdDec r).1⟩ else nulE)
 else nulE
def gES (v:Vr) (t:By):Ev :=
 match spl 32 t with
 | w :: ws =>
  if w=opW then
   (match ws with
   | [a,b]=>⟨1,(valS a).1,(valS b).1,[],0⟩
   | _=>nulE)
  else if w=reW then
   (match ws with
   | [a]=>⟨3,0,0,[],(valS a).1⟩
   | _=>nulE)
  else if w=tuW then
   (if 5<t.length then
    match rdTI v (t.drop 5) with
    | some (x,y,ss)=>⟨2,x,y,ss,0⟩
    | none=>nulE
   else nulE)
  else nulE
 | []=>nulE
def rdE (v:Vr) (t:By):Option Ev:=if evnT v (gEI v t)=t∧t≠[] then some (gEI v t) else none
theorem evnT_nul (v:Vr):evnT v nulE=[]:=by unfold evnT blankP nulE;simp
theorem ev_cases {v:Vr} (hv:okV v=true) {e:Ev} (h:evnT v e≠[]) :
  (e=⟨1,e.a,e.b,[],0⟩∧((1<=e.a∧e.a<=v.s)∧1<=e.b∧e.b<=v.s)∧evnT v e=opW++[32]++Lib.itoa e.a++[32]++Lib.itoa e.b) ∨
  (e=⟨2,e.a,e.b,e.ss,0⟩∧trnT v e.a e.b e.ss≠[]∧evnT v e=tuW++[32]++trnT v e.a e.b e.ss) ∨
  (e=⟨3,0,0,[],e.r⟩∧(1<=e.r∧e.r<=3)∧evnT v e=reW++[32]++Lib.itoa e.r):=by
 obtain⟨k,a,b,c,r⟩:=e;unfold evnT at h ⊢;unfold blankP at h ⊢;simp only at h ⊢;by_cases h1:k=1
 ·subst h1;simp only [if_true] at h ⊢;by_cases h2:c.length=0∧r=0
  ·rw [decide_eq_true h2] at h ⊢;simp only [Bool.true_eq_false,if_false] at h ⊢;split at h
   ·rename_i h3
    rw [if_pos h3];exact .inl ⟨by rw [List.eq_nil_of_length_eq_zero h2.1,h2.2],h3,rfl⟩
   ·exact absurd rfl h
  ·rw [decide_eq_false h2] at h;simp at h
 ·by_cases h2:k=2
  ·subst h2;simp only [h1,if_false,if_true] at h ⊢;by_cases h3:r=0
   ·subst h3;simp only [decide_true,Bool.true_eq_false,if_false,show ¬ (2:Int)=3 by decide,show ¬ (2:Int)=1 by decide] at h ⊢;split at h
    ·exact absurd rfl h
    ·rename_i h4
     rw [if_neg h4];exact .inr (.inl ⟨by simp,h4,rfl⟩)
   ·rw [decide_eq_false h3] at h;simp at h
  ·by_cases h3:k=3
   ·subst h3;simp only [h1,h2,if_false,if_true] at h ⊢;by_cases h4:a=0∧b=0∧c.length=0
    ·rw [decide_eq_true h4] at h ⊢;simp only [Bool.true_eq_false,if_false] at h ⊢;split at h
     ·rename_i h5
      rw [if_pos h5];exact .inr (.inr ⟨by rw [h4.1,h4.2.1,List.eq_nil_of_length_eq_zero h4.2.2],h5,rfl⟩)
     ·exact absurd rfl h
    ·rw [decide_eq_false h4] at h;simp at h
   ·simp [h1,h2,h3] at h
theorem w_ne {w:By} (h:w=opW∨w=tuW∨w=reW):∀ x ∈ w,x≠(32:UInt8):=by
 rcases h with rfl | rfl | rfl <;> decide
theorem gEI_text {v:Vr} (hv:okV v=true) {e:Ev} (h:evnT v e≠[]):gEI v (evnT v e)=e:=by
 have g:=okV_iff.1 hv;rcases ev_cases hv h with ⟨h1,h2,h3⟩ | ⟨h1,h2,h3⟩ | ⟨h1,h2,h3⟩
 ·have f:∀ x ∈ Lib.itoa e.a,x≠(32:UInt8):=ito_ne (by omega) (by omega) (by decide);have d:∀ x ∈ Lib.itoa e.b,x≠(32:UInt8):=ito_ne (by omega) (by omega) (by decide);have c:Lib.cut (opW++[32]++Lib.itoa e.a++[32]++Lib.itoa e.b) [32]=(opW,Lib.itoa e.a++32 :: Lib.itoa e.b,true):=by
   have:=cut_at opW (Lib.itoa e.a++32 :: Lib.itoa e.b) 32 (w_ne (.inl rfl))
   simpa using this
  rw [h3];unfold gEI;simp only [c,if_true,spl_at _ _ _ f,spl_no _ _ d,mapO,rd_ito (show 0<=e.a by omega) (by omega),rd_ito (show 0<=e.b by omega) (by omega),Option.map_some];exact h1.symm
 ·have c:Lib.cut (tuW++[32]++trnT v e.a e.b e.ss) [32]=(tuW,trnT v e.a e.b e.ss,true):=by
   have:=cut_at tuW (trnT v e.a e.b e.ss) 32 (w_ne (.inr (.inl rfl)))
   simpa using this
  rw [h3];unfold gEI;simp only [c,(rdTI_iff hv).2 ⟨rfl,h2⟩,show ¬ tuW=opW by decide,if_true,if_false];exact h1.symm
 ·have c:Lib.cut (reW++[32]++Lib.itoa e.r) [32]=(reW,Lib.itoa e.r,true):=by
   have:=cut_at reW (Lib.itoa e.r) 32 (w_ne (.inr (.inr rfl)))
   simpa using this
  rw [h3];unfold gEI;simp only [c,show ¬ reW=opW by decide,show ¬ reW=tuW by decide,if_true,if_false,rd_ito (show 0<=e.r by omega) (by omega)];exact h1.symm
theorem gES_text {v:Vr} (hv:okV v=true) {e:Ev} (h:evnT v e≠[]):gES v (evnT v e)=e:=by
 have j:=okV_iff.1 hv;rcases ev_cases hv h with ⟨h1,h2,h3⟩ | ⟨h1,h2,h3⟩ | ⟨h1,h2,h3⟩
 ·have f:∀ x ∈ Lib.itoa e.a,x≠(32:UInt8):=ito_ne (by omega) (by omega) (by decide);have d:∀ x ∈ Lib.itoa e.b,x≠(32:UInt8):=ito_ne (by omega) (by omega) (by decide);have c:spl 32 (opW++[32]++Lib.itoa e.a++[32]++Lib.itoa e.b)=[opW,Lib.itoa e.a,Lib.itoa e.b]:=by
   have:=spl_at opW (Lib.itoa e.a++32 :: Lib.itoa e.b) 32 (w_ne (.inl rfl));rw [spl_at _ _ _ f,spl_no _ _ d] at this
   simpa using this
  rw [h3];unfold gES;simp only [c,if_true,val_ito (show 0<=e.a by omega) (by omega),val_ito (show 0<=e.b by omega) (by omega)];exact h1.symm
 ·have c:spl 32 (tuW++[32]++trnT v e.a e.b e.ss)=tuW :: spl 32 (trnT v e.a e.b e.ss):=by
   have:=spl_at tuW (trnT v e.a e.b e.ss) 32 (w_ne (.inr (.inl rfl)))
   simpa using this
  have g:5<(tuW++[32]++trnT v e.a e.b e.ss).length:=by
   cases ht:trnT v e.a e.b e.ss with
   | nil=>exact absurd ht h2
   | cons x l=>simp [tuW]
  have i:(tuW++[32]++trnT v e.a e.b e.ss).drop 5=trnT v e.a e.b e.ss:=rfl;rw [h3];unfold gES;simp only [c,i,(rdTI_iff hv).2 ⟨rfl,h2⟩,show ¬ tuW=opW by decide,show ¬ tuW=reW by decide,if_true,if_false,if_pos g];exact h1.symm
 ·have f:∀ x ∈ Lib.itoa e.r,x≠(32:UInt8):=ito_ne (by omega) (by omega) (by decide);have c:spl 32 (reW++[32]++Lib.itoa e.r)=[reW,Lib.itoa e.r]:=by
   have:=spl_at reW (Lib.itoa e.r) 32 (w_ne (.inr (.inr rfl)));rw [spl_no _ _ f] at this
   simpa using this
  rw [h3];unfold gES;simp only [c,show ¬ reW=opW by decide,if_true,if_false,val_ito (show 0<=e.r by omega) (by omega)];exact h1.symm
theorem rdE_iff {v:Vr} (hv:okV v=true) {t:By} {e:Ev}:rdE v t=some e↔evnT v e=t∧t≠[]:=by
 unfold rdE
 constructor
 ·intro h;split at h
  ·rename_i h1;simp only [Option.some.injEq] at h;subst h;exact h1
  ·cases h
 ·rintro⟨rfl,h⟩;rw [gEI_text hv h,if_pos ⟨rfl,h⟩]
theorem rdES_eq {v:Vr} (hv:okV v=true) (t:By):(if evnT v (gES v t)=t∧t≠[] then some (gES v t) else none)=rdE v t:=by
 by_cases h:∃ e,evnT v e=t∧t≠[]
 ·obtain⟨e,rfl,h⟩:=h;rw [gES_text hv h,if_pos ⟨rfl,h⟩];exact((rdE_iff hv).2 ⟨rfl,h⟩).symm
 ·rw [if_neg (λ a=>h ⟨_,a⟩)];unfold rdE;rw [if_neg (λ a=>h ⟨_,a⟩)]
theorem trnT_len {v:Vr} (hv:okV v=true) (x y:Int) (ss:List Stp):(trnT v x y ss).length<=54:=by
 unfold trnT;split
 ·rename_i h
  have:=stpsT_len hv (ss:=ss);rw [rolT_at hv h.1];simp;omega
 ·simp
def vT (v:Vr):By:=if okV v=true then Lib.itoa v.p++[47]++Lib.itoa v.c++[47]++Lib.itoa v.h++[47]++Lib.itoa v.s else []
def decO (x:By):Option Int:=if (rdDec x).2=true then some (rdDec x).1 else none
def rdV (t:By):Option Vr :=
 match mapO decO (spl 47 t) with
 | some [a,b,c,d]=>if okV ⟨a,b,c,d⟩=true then some ⟨a,b,c,d⟩ else none
 | _=>none
def rdVS (t:By):Option Vr :=
 match spl 47 t with
 | [a,b,c,d]=>if vT ⟨(valS a).1,(valS b).1,(valS c).1,(valS d).1⟩=t then some ⟨(valS a).1,(valS b).1,(valS c).1,(valS d).1⟩ else none
 | _=>none
theorem spl4 {a b c d:By} {x:UInt8} (h1:∀ y ∈ a,y≠x) (h2:∀ y ∈ b,y≠x) (h3:∀ y ∈ c,y≠x) (h4:∀ y ∈ d,y≠x):spl x (a++[x]++b++[x]++c++[x]++d)=[a,b,c,d]:=by
 have e:a++[x]++b++[x]++c++[x]++d=a++x :: (b++x :: (c++x :: d)):=by simp
 rw [e,spl_at _ _ _ h1,spl_at _ _ _ h2,spl_at _ _ _ h3,spl_no _ _ h4]
theorem spl3 {a b c:By} {x:UInt8} (h1:∀ y ∈ a,y≠x) (h2:∀ y ∈ b,y≠x) (h3:∀ y ∈ c,y≠x):spl x (a++[x]++b++[x]++c)=[a,b,c]:=by
 have e:a++[x]++b++[x]++c=a++x :: (b++x :: c):=by simp
 rw [e,spl_at _ _ _ h1,spl_at _ _ _ h2,spl_no _ _ h3]
theorem join4 (a b c d:By) (x:UInt8):Lib.join [a,b,c,d] [x]=a++[x]++b++[x]++c++[x]++d:=by
 rw [Lib.join_cons];simp [Lib.joinTail]
theorem join3 (a b c:By) (x:UInt8):Lib.join [a,b,c] [x]=a++[x]++b++[x]++c:=by
 rw [Lib.join_cons];simp [Lib.joinTail]
theorem vT_at {v:Vr} (hv:okV v=true):vT v=Lib.itoa v.p++[47]++Lib.itoa v.c++[47]++Lib.itoa v.h++[47]++Lib.itoa v.s:=by unfold vT;rw [if_pos hv]
theorem vT_spl {v:Vr} (hv:okV v=true):spl 47 (vT v)=[Lib.itoa v.p,Lib.itoa v.c,Lib.itoa v.h,Lib.itoa v.s]:=by
 have a:=okV_iff.1 hv;rw [vT_at hv];exact spl4 (ito_ne (by omega) (by omega) (by decide)) (ito_ne (by omega) (by omega) (by decide)) (ito_ne (by omega) (by omega) (by decide)) (ito_ne (by omega) (by omega) (by decide))
theorem decO_ito {n:Int} (h0:0<=n) (h1:n<100):decO (Lib.itoa n)=some n:=by unfold decO;rw [rd_ito h0 h1];rfl
theorem decO_back {t:By} {n:Int} (h:decO t=some n):Lib.itoa n=t:=by
 unfold decO at h;split at h
 ·rename_i h1
  simp only [Option.some.injEq] at h;exact rd_back (Prod.ext h h1)
 ·cases h
theorem rdV_iff {t:By} {v:Vr}:rdV t=some v↔okV v=true∧vT v=t:=by
 unfold rdV
 constructor
 ·intro h;split at h
  ·rename_i a b c d hm
   split at h
   ·rename_i h1
    simp only [Option.some.injEq] at h;subst h;refine⟨h1,?_⟩;obtain⟨e,f⟩:=mapO_iff.1 hm;have g:=spl_join 47 t
    cases hs:spl 47 t with
    | nil=>rw [hs] at e;simp at e
    | cons x0 l0=>cases l0 with
     | nil=>rw [hs] at e;simp at e
     | cons x1 l1=>cases l1 with
      | nil=>rw [hs] at e;simp at e
      | cons x2 l2=>cases l2 with
       | nil=>rw [hs] at e;simp at e
       | cons x3 l3=>cases l3 with
        | cons x4 l4=>rw [hs] at e;simp at e
        | nil =>
         rw [hs] at f g;have l:=decO_back (f 0 _ _ rfl rfl);have k:=decO_back (f 1 _ _ rfl rfl);have j:=decO_back (f 2 _ _ rfl rfl);have i:=decO_back (f 3 _ _ rfl rfl);rw [vT_at h1];simp only;rw [l,k,j,i,<-g,join4]
   ·cases h
  ·cases h
 ·rintro⟨hv,rfl⟩;have m:=okV_iff.1 hv;rw [vT_spl hv];simp only [mapO,decO_ito (show 0<=v.p by omega) (by omega),decO_ito (show 0<=v.c by omega) (by omega),decO_ito (show 0<=v.h by omega) (by omega),decO_ito (show 0<=v.s by omega) (by omega),Option.map_some];obtain⟨p,c,h,s⟩:=v;simp only;rw [if_pos hv]
theorem rdVS_eq (t:By):rdVS t=rdV t:=by
 have e:∀ v,rdVS t=some v↔okV v=true∧vT v=t:=by
  intro v;unfold rdVS
  constructor
  ·intro h;split at h
   ·rename_i a b c d hs
    split at h
    ·rename_i h1
     simp only [Option.some.injEq] at h;subst h;refine⟨?_,h1⟩
     cases ho:okV _ with
     | true=>rfl
     | false =>
      unfold vT at h1;rw [ho] at h1;simp only [Bool.false_eq_true,if_false] at h1;rw [<-h1] at hs;simp [spl] at hs
    ·cases h
   ·cases h
  ·rintro⟨hv,rfl⟩;have f:=okV_iff.1 hv;rw [vT_spl hv];simp only [val_ito (show 0<=v.p by omega) (by omega),val_ito (show 0<=v.c by omega) (by omega),val_ito (show 0<=v.h by omega) (by omega),val_ito (show 0<=v.s by omega) (by omega)];rw [if_pos trivial]
 cases h:rdV t with
 | some v=>exact(e v).2 (rdV_iff.1 h)
 | none =>
  cases h2:rdVS t with
  | none=>rfl
  | some v=>rw [rdV_iff.2 ((e v).1 h2)] at h;cases h
theorem vT_ne {v:Vr} {c:UInt8} (hc:c.toNat<47):∀ x ∈ vT v,x≠c:=by
 unfold vT;split
 ·rename_i hv
  have d:=okV_iff.1 hv;have b:(47:UInt8)≠c:=by rintro rfl;revert hc;decide
  intro x a;simp only [List.mem_append,List.mem_singleton] at a;rcases a with (((((a | rfl) | a) | rfl) | a) | rfl) | a
  ·exact ito_ne (by omega) (by omega) (by omega) x a
  ·exact b
  ·exact ito_ne (by omega) (by omega) (by omega) x a
  ·exact b
  ·exact ito_ne (by omega) (by omega) (by omega) x a
  ·exact b
  ·exact ito_ne (by omega) (by omega) (by omega) x a
 ·simp
def maW:By:=[109,97,116,99,104]
def hdT (v:Vr) (n:Int):By:=maW++[32]++vT v++[32]++Lib.itoa n
def rdH (t:By):Option (Vr × Int) :=
 match spl 32 t with
 | [a,b,c]=>if a=maW then (match rdV b,decO c with
  | some v,some n=>if headB v n=true then some (v,n) else none
  | _,_=>none) else none
 | _=>none
def rdHS (t:By):Option (Vr × Int) :=
 match spl 32 t with
 | [a,b,c]=>if a=maW then (match rdV b with
  | some v=>if (valS c).2=true∧headB v (valS c).1=true then some (v,(valS c).1) else none
  | none=>none) else none
 | _=>none
theorem head_parts {v:Vr} {n:Int} (h:headB v n=true):okV v=true∧4<=v.p∧1<=n∧n<=25:=by
 unfold headB at h;simp only [Bool.and_eq_true,decide_eq_true_eq] at h;exact⟨h.1.1,h.1.2,h.2⟩
theorem hd_spl {v:Vr} {n:Int} (h:headB v n=true):spl 32 (hdT v n)=[maW,vT v,Lib.itoa n]:=by
 obtain⟨a,d,c,b⟩:=head_parts h;exact spl3 (by decide) (vT_ne (by decide)) (ito_ne (by omega) (by omega) (by decide))
theorem rdH_iff {t:By} {v:Vr} {n:Int}:rdH t=some (v,n)↔headB v n=true∧hdT v n=t:=by
 unfold rdH
 constructor
 ·intro h;have d:=spl_join 32 t;split at h
  ·rename_i a b c hs
   rw [hs,join3] at d;split at h
   ·rename_i ha
    split at h
    ·rename_i v' n' g f
     split at h
     ·rename_i e
      simp only [Option.some.injEq,Prod.mk.injEq] at h;obtain⟨rfl,rfl⟩:=h;refine⟨e,?_⟩;unfold hdT;rw [(rdV_iff.1 g).2,decO_back f,<-ha];exact d
     ·cases h
    ·cases h
   ·cases h
  ·cases h
 ·rintro⟨h,rfl⟩;obtain⟨i,g,f,e⟩:=head_parts h;rw [hd_spl h];simp only [if_true,rdV_iff.2 ⟨i,rfl⟩,decO_ito (show 0<=n by omega) (by omega),h]
theorem rdHS_eq (t:By):rdHS t=rdH t:=by
 have d:∀ v n,rdHS t=some (v,n)↔headB v n=true∧hdT v n=t:=by
  intro v n;unfold rdHS
  constructor
  ·intro h;have f:=spl_join 32 t;split at h
   ·rename_i a b c hs
    rw [hs,join3] at f;split at h
    ·rename_i ha
     split at h
     ·rename_i v' i
      split at h
      ·rename_i e
       simp only [Option.some.injEq,Prod.mk.injEq] at h;obtain⟨rfl,rfl⟩:=h;obtain⟨_,_,m,k⟩:=head_parts e.2;refine⟨e.2,?_⟩;unfold hdT;rw [(rdV_iff.1 i).2,val_back (l:=c) (n:=(valS c).1) (Prod.ext rfl e.1) (by omega) (by omega),<-ha];exact f
      ·cases h
     ·cases h
    ·cases h
   ·cases h
  ·rintro⟨h,rfl⟩;obtain⟨j,i,g,e⟩:=head_parts h;rw [hd_spl h];simp only [if_true,rdV_iff.2 ⟨j,rfl⟩,val_ito (show 0<=n by omega) (by omega),h,and_self]
 cases h:rdH t with
 | some v=>obtain⟨v,n⟩:=v;exact(d v n).2 (rdH_iff.1 h)
 | none =>
  cases g:rdHS t with
  | none=>rfl
  | some v=>obtain⟨v,n⟩:=v;rw [rdH_iff.2 ((d v n).1 g)] at h;cases h
def rmGo (v:Vr) (n:Int):List By->Ms->List Ev->Int->List Ev × Int × Int
 | [],x,es,k=>(es,0,0)
 | [l],x,es,k=>if l=[] then (es,0,0) else ([],6,k)
 | l :: m :: ls,x,es,k=>match rdE v l with
  | none=>([],6,k)
  | some e=>match nextS v n x e with
   | none=>([],5,k)
   | some y=>if 300<=es.length then ([],5,k) else rmGo v n (m :: ls) y (es++[e]) (k+1)
def rdM (t:By):(Vr × Int × List Ev) × Int × Int :=
 if 20000<t.length then ((⟨0,0,0,0⟩,0,[]),3,0) else
  match spl 10 t with
  | l :: m :: ls=>(match rdH l with
   | some (v,n)=>if (rmGo v n (m :: ls) (startS v) [] 2).2.1=0 then ((v,n,(rmGo v n (m :: ls) (startS v) [] 2).1),0,0) else ((⟨0,0,0,0⟩,0,[]),(rmGo v n (m :: ls) (startS v) [] 2).2)
   | none=>((⟨0,0,0,0⟩,0,[]),6,1))
  | _=>((⟨0,0,0,0⟩,0,[]),6,1)
end TxP
namespace JoinN
open Go.ChangeShapes Go.WideShapes Go.ChangeAt Go.RowKit Go.Sort Base Ints Own
theorem grow_bel (w:World) (k:Nat) (os:Array Obj):Below w.heap.size w (grow (w.drewN k) os) :=
 ⟨rfl,rfl,rfl,by simp [grow],λ i hi=>by
  show (w.heap++os)[i]?=w.heap[i]?
  exact Array.getElem?_append_left hi⟩
def TabOk (w:World):Prop:=Lib.TabIs Tryz.prog w "internal/strconv.uint64pow10" .u64 Lib.pow10Tab
theorem tab_glob:∃ g,Tryz.prog.globalNamed "internal/strconv.uint64pow10"=some g:=by
 have h:(Tryz.prog.globalNamed "internal/strconv.uint64pow10").isSome=true:=by kernel_rfl
 exact Option.isSome_iff_exists.1 h
theorem TabOk.below {w w':World} (h:TabOk w) (hb:Below w.heap.size w w'):TabOk w':=by
 obtain⟨g,b⟩:=tab_glob;unfold TabOk Lib.TabIs at h ⊢;rw [<-h];unfold World.var? at h ⊢;rw [b] at h ⊢;have a:g<w.heap.size:=by
  rcases Nat.lt_or_ge g w.heap.size with h1 | h1
  ·exact h1
  ·replace h:(match w.heap[g]? with | some (.cells cs _ _)=>some cs | _=>none)=_:=h;rw [Array.getElem?_eq_none h1] at h
   cases h
 show (match w'.heap[g]? with | some (.cells cs _ _)=>some cs | _=>none)=(match w.heap[g]? with | some (.cells cs _ _)=>some cs | _=>none)
 rw [hb.block g a]
theorem decimal (n:Int) (h0:-9223372036854775808<=n) (h1:n<=9223372036854775807) (w:World) (ht:TabOk w) :
  Calls Tryz.prog 36 #[.int .i64 n] w λ e w'=>e=.returned (.string ⟨(Lib.itoa n).toArray⟩)∧Below w.heap.size w w':=by
 go_enter Tryz.func36,Tryz.ntmps36;go_wp2_with fail;refine(Tryz.strconv_FormatInt_10 n h0 h1 _ ht).mono ?_;rintro e a ⟨rfl,k,b,rfl⟩;go_wp2_with fail;go_ret;exact⟨rfl,grow_bel _ _ _⟩
def enT (x:Int):List Value:=[.string ⟨(Lib.itoa x).toArray⟩]
theorem enT_len (x:Int):(enT x).length=1:=rfl
theorem infoT:(Tryz.prog.info? 9).map (λ i=>(i.zero,i.size,i.bytes))=some (some (.string ⟨#[]⟩),1,16):=by kernel_rfl
theorem join (A:Option Addr) (cp B:Nat) (xs:List Int) (sep:ByteArray) (w:World) (hB:B<=w.heap.size) (hr:RdS w B 1 enI A xs) (hx:∀ x ∈ xs,-9223372036854775808<=x∧x<=9223372036854775807) (h0:0<xs.length) (hlen:(Lib.join (xs.map Lib.itoa) sep.data.toList).length<=140737488355328) (hn:xs.length<=1048576) (ht:TabOk w) :
  Calls Tryz.prog 68 #[.slice A xs.length cp,.string sep] w λ e w'=>e=.returned (.string ⟨(Lib.join (xs.map Lib.itoa) sep.data.toList).toArray⟩)∧Below w.heap.size w w':=by
 obtain⟨P,V,D,C,v⟩:=info_parts infoT
 generalize hnn:xs.length=n at *
 have H:=kD hnn;clear hnn;go_enter Tryz.func68,Tryz.ntmps68;go_wp2_with (at_make;refine wpList_make_full _ rfl _ _ _ rfl w.heap.size 9 P _ 1 Tryz.underlying40 V D C _ _ _ _ n rfl rfl rfl rfl ?c1 ?c2 (Nat.le_refl _) ?_)
 case c1=>rw [v];omega
 case c2=>unfold maxLen;omega
 intro F h d;have c:=kD (RowB.of_own h);have l:Below w.heap.size w F:=(Below.refl _ _).grown d (Nat.le_refl _) (by simp);have E:w.heap.size<F.heap.size:=c.out.lt;clear h d;go_wp2_with fail;go_loopw [13] (λ i wr=>∃ k:Nat,k<=n∧i=.int .i64 (k:Int)∧Below w.heap.size w wr∧Hid (RowB wr w.heap.size 9 ((xs.take k).flatMap enT++List.replicate (n - k) (.string ⟨#[]⟩)))) (λ i _=>n - (intOf i).toNat)
 case atStart=>exact⟨0,Nat.zero_le _,rfl,l,by simpa [made_rep] using c⟩
 case round =>
  obtain⟨k,hk,rfl,a,s⟩:=hrel;clear l c E;have T:=s.out.lt;by_cases hlt:k<n
  ·obtain⟨b,O,x,rfl,Y,q,X⟩:=rdI_at (hr.below a hB) (by rw [H.out];exact hlt);obtain⟨M,L⟩:=hx x (List.mem_of_getElem? q);have Z:=kD q;clear q;go_wp2_with fail;refine(decimal x M L _ (ht.below a)).mono ?_;rintro e t ⟨rfl,f⟩;have g:=kD (s.out.below f T);have r:=a.trans (f.mono a.size);have S:=g.out.lt;have W:=g.out.frozen;obtain⟨z,hz⟩:∃ z,t.cell? ⟨w.heap.size,k,none⟩=some z:=by
    rw [g.out.cell];refine⟨_,List.getElem?_eq_getElem ?_⟩;rw [List.length_append,flatMap_len enT_len,List.length_take,List.length_replicate,H.out];omega
   have HF:Hid (RowB (t.setCell ⟨w.heap.size,k,none⟩ (.string ⟨(Lib.itoa x).toArray⟩)) w.heap.size 9 ((xs.take (k+1)).flatMap enT++List.replicate (n - (k+1)) (.string ⟨#[]⟩))):=by
    have I:=g.out.set k (.string ⟨(Lib.itoa x).toArray⟩);obtain⟨m,R⟩:∃ m,n - k=m+1:=⟨n - k - 1,by omega⟩;rw [R,fill1 Z.out rfl enT_len] at I;rw [show n - (k+1)=m from by omega];exact I
   have N:=kD (r.setCell (p:=⟨w.heap.size,k,none⟩) (Nat.le_refl _) (.string ⟨(Lib.itoa x).toArray⟩));clear X Y;go_wp2_with fail;go_roundw
   case rel=>exact⟨k+1,by omega,by go_num,N.out,HF⟩
   case measure=>simp [intOf];omega
  ·obtain rfl:k=n:=by omega
   have o:=s.out;rw [Nat.sub_self,List.replicate_zero,List.append_nil,List.take_of_length_le (by rw [H.out];exact Nat.le_refl _)] at o;have J:Hid ((xs.map λ x=>(⟨(Lib.itoa x).toArray⟩:ByteArray)).map (·.data.toList)=xs.map Lib.itoa):=by show _=_;rw [List.map_map];exact List.map_congr_left λ x _=>rfl
   have K:=Tryz.strings_Join w.heap.size 0 k (xs.map λ x=>(⟨(Lib.itoa x).toArray⟩:ByteArray)) sep wr (λ j x G=>by
    rw [List.getElem?_map] at G;obtain⟨y,Q,rfl⟩:=Option.map_eq_some_iff.1 G;rw [Nat.zero_add,o.cell];have:=flatMap_at enT_len xs j y Q 0 _ rfl
    simpa using this) o.lt (by rw [List.length_map,H.out];omega) (by rw [List.length_map,H.out];exact Nat.le_refl _) (by rw [J.out];exact hlen)
   rw [List.length_map,H.out,J.out] at K;clear s;go_wp2_with fail;refine K.mono ?_;rintro e t ⟨rfl,f⟩;go_wp2_with fail;go_ret;exact⟨rfl,a.trans (f.mono a.size)⟩
end JoinN
namespace Num
open Go.ChangeShapes Go.WideShapes Go.ChangeAt Go.RowKit Base JoinN TxP
theorem var_below {w w':World} {n:String} {cs:Array Value} (h:w.var? Tryz.prog n=some cs) (hb:Below w.heap.size w w'):w'.var? Tryz.prog n=some cs:=by
 unfold World.var? at h ⊢
 cases hg:Tryz.prog.globalNamed n with
 | none=>rw [hg] at h;simp at h
 | some g =>
  rw [hg] at h;have a:g<w.heap.size:=by
   rcases Nat.lt_or_ge g w.heap.size with h1 | h1
   ·exact h1
   ·replace h:(match w.heap[g]? with | some (.cells cs _ _)=>some cs | _=>none)=_:=h;rw [Array.getElem?_eq_none h1] at h
    cases h
  show (match w'.heap[g]? with | some (.cells cs _ _)=>some cs | _=>none)=_
  rw [hb.block g a];exact h
structure Env (w:World):Prop where
 tab:TabOk w
 syn:∃ tp p,w.var? Tryz.prog "strconv.ErrSyntax"=some #[.iface tp p]
 rng:∃ tp p,w.var? Tryz.prog "strconv.ErrRange"=some #[.iface tp p]
 shp:w.ShapedOpen Tryz.prog
theorem Env.below {w w':World} (h:Env w) (hb:Below w.heap.size w w'):Env w':=by
 obtain⟨i,⟨b,p,g⟩,⟨a,c,f⟩,e⟩:=h;exact⟨i.below hb,⟨b,p,var_below g hb⟩,⟨a,c,var_below f hb⟩,e.keptBut (may:=λ _=>False) (hb.frame _) (λ p d=>d.elim)⟩
theorem decimalZ (n:Int) (h0:-9223372036854775808<=n) (h1:n<=9223372036854775807) (w:World) (ht:TabOk w) :
  Calls Tryz.prog 36 #[.int .i64 n] w λ e w'=>e=.returned (.string ⟨(Lib.itoa n).toArray⟩)∧Below w.heap.size w w':=by
 go_enter Tryz.func36,Tryz.ntmps36;go_wp2_with fail;refine(Tryz.strconv_FormatInt_10 n h0 h1 _ ht).mono ?_;rintro e a ⟨rfl,k,b,rfl⟩;go_wp2_with fail;go_ret;exact⟨rfl,grow_bel _ _ _⟩
def PI (s:ByteArray) (e:Ending):Prop :=
 (∃ v,Lib.parseIntB 64 s.data.toList=.ok v∧e=.returned (.tuple #[.int .i64 v,.nilIface]))∨((∀ v,Lib.parseIntB 64 s.data.toList≠.ok v)∧∃ v t a,e=.returned (.tuple #[.int .i64 v,.iface t a]))
theorem pint (s:ByteArray) (hs:s.size<=4194304) (w:World) (E:Env w) :
  Calls Tryz.prog 86 #[.string s,.int .i64 10,.int .i64 64] w λ e w'=>PI s e∧Below w.heap.size w w':=by
 obtain⟨f,p,k⟩:=E.syn;obtain⟨b,g,j⟩:=E.rng;by_cases h:∃ v,Lib.parseIntB 64 s.data.toList=.ok v
 ·obtain⟨v,a⟩:=h;refine(Tryz.strconv_ParseInt_10_at64_ok s (by omega) v a w).mono ?_;rintro e w' ⟨rfl,i⟩;refine⟨.inl ⟨v,a,rfl⟩,?_⟩;rcases i with rfl | ⟨t,rfl⟩
  ·exact Below.refl _ _
  ·exact Lib.bytesWorld_below _ _ _
 ·have c:∀ v,Lib.parseIntB 64 s.data.toList≠.ok v:=λ v a=>h ⟨v,a⟩
  by_cases hr:Lib.parseIntB 64 s.data.toList=.range
  ·refine(Tryz.strconv_ParseInt_10_at64_range_var s (by omega) hr b g w j).mono ?_;rintro e w' ⟨N,rfl,_,_,d⟩;exact⟨.inr ⟨c,_,_,_,rfl⟩,d⟩
  ·refine(Tryz.strconv_ParseInt_10_at64_fault_var s (by omega) ⟨c,hr⟩ f p w k).mono ?_;rintro e w' ⟨N,rfl,_,_,d⟩;exact⟨.inr ⟨c,_,_,_,rfl⟩,d⟩
theorem data_len (s:ByteArray):s.data.toList.length=s.size:=by rw [Array.length_toList];rfl
theorem trim_len (l:List UInt8):(Lib.trimPrefix l [45]).length<=l.length:=by
 unfold Lib.trimPrefix;split
 ·simp
 ·exact Nat.le_refl _
theorem readD (s:ByteArray) (hs:s.size<=4194304) (w:World) (E:Env w) :
  Calls Tryz.prog 51 #[.string s] w λ e w'=>e=.returned (.tuple #[.int .i64 (rdDec s.data.toList).1,.bool (rdDec s.data.toList).2])∧Below w.heap.size w w':=by
 obtain⟨T,p⟩:∃ T:List UInt8,Lib.trimPrefix s.data.toList [45]=T:=⟨_,rfl⟩;have D:=trim_len s.data.toList;rw [p,data_len] at D;obtain⟨j,c⟩:∃ j:ByteArray,(⟨T.toArray⟩:ByteArray)=j:=⟨_,rfl⟩;have n:j.size=T.length:=by rw [<-c];simp [ByteArray.size]
 have O:=kD c;have b:=Tryz.strings_TrimPrefix s ⟨#[45]⟩ w;rw [show (⟨#[45]⟩:ByteArray).data.toList=[45] from rfl,p,c] at b;have d:=kD b;by_cases h0:T=[]∨19<T.length
 ·have f:rdDec s.data.toList=(0,false):=by unfold rdDec;rw [p,if_pos h0]
  rw [f];by_cases k:T=[]
  ·have H:j.toList.isEmpty=true:=by rw [<-c,ByteArray.toList_eq,k];rfl
   clear p c b h0 f k n;go_enter Tryz.func51,Tryz.ntmps51;go_wp2_with fail;refine d.out.mono ?_;rintro e G ⟨rfl,y⟩;subst y;go_wp2_with fail;go_ret2;exact⟨rfl,Below.refl _ _⟩
  ·have M:19<T.length:=h0.elim (λ h=>absurd h k) (λ h=>h);have H:j.toList.isEmpty=false:=by
    rw [<-c,ByteArray.toList_eq]
    cases T with
    | nil=>exact absurd rfl k
    | cons x l=>rfl
   have L:decide ((19:Int)<(j.size:Int))=true:=decide_eq_true (by omega);clear p c b h0 f k n;go_enter Tryz.func51,Tryz.ntmps51;go_wp2_with fail;refine d.out.mono ?_;rintro e G ⟨rfl,y⟩;subst y;go_wp2_with fail;go_ret2;exact⟨rfl,Below.refl _ _⟩
 ·have k:¬ T=[]:=λ h=>h0 (.inl h)
  have M:¬ 19<T.length:=λ h=>h0 (.inr h)
  have A:rdDec s.data.toList=match Lib.parseIntB 64 s.data.toList with
   | .ok v=>if Lib.itoa v=s.data.toList then (v,true) else (0,false)
   | _=>(0,false):=by unfold rdDec;rw [p,if_neg h0];rfl
  have r:=kD A;obtain⟨R,f⟩:∃ R,rdDec s.data.toList=R:=⟨_,rfl⟩;have q:=kD f;rw [f];have H:j.toList.isEmpty=false:=by
   rw [<-c,ByteArray.toList_eq]
   cases T with
   | nil=>exact absurd rfl k
   | cons x l=>rfl
  have L:decide ((19:Int)<(j.size:Int))=false:=decide_eq_false (by omega);clear p c b h0 k n A f;go_enter Tryz.func51,Tryz.ntmps51;go_wp2_with fail;refine d.out.mono ?_;rintro e G ⟨rfl,y⟩;subst y;go_wp2_with fail;refine(pint s hs _ E).mono ?_;rintro e S ⟨K,g⟩;have P:=E.below g;rcases K with ⟨v,hv,rfl⟩ | ⟨hv,v,t,a,rfl⟩
  ·have J:=kD hv;have C:=Lib.parseIntB_bounds hv;have B:((2 ^ (64 - 1):Nat):Int)=9223372036854775808:=by decide
   rw [B] at C;clear hv B;go_wp2_with fail;refine(decimalZ v (by omega) (by omega) _ P.tab).mono ?_;rintro e Q ⟨rfl,z⟩;obtain⟨m,o⟩:∃ m:ByteArray,(⟨(Lib.itoa v).toArray⟩:ByteArray)=m:=⟨_,rfl⟩;have i:m.data.toList=Lib.itoa v:=by rw [<-o]
   rw [o];clear o;have I:=g.trans (z.mono g.size);clear g z;by_cases hi:Lib.itoa v=s.data.toList
   ·have f:R=(v,true):=by rw [<-q.out,r.out,J.out];simp only;rw [if_pos hi]
    have F:(m.toList == s.toList)=true:=by rw [ByteArray.toList_eq,ByteArray.toList_eq,i];simp [hi]
    have N:(m.toList != s.toList)=false:=by simp only [bne,F];rfl
    subst f;clear hi i;go_wp2_with fail;go_ret2;exact⟨rfl,I⟩
   ·have f:R=(0,false):=by rw [<-q.out,r.out,J.out];simp only;rw [if_neg hi]
    have F:(m.toList == s.toList)=false:=by rw [ByteArray.toList_eq,ByteArray.toList_eq,i];simp [hi]
    have N:(m.toList != s.toList)=true:=by simp only [bne,F];rfl
    subst f;clear hi i;go_wp2_with fail;go_ret2;exact⟨rfl,I⟩
  ·have f:R=(0,false):=by
    rw [<-q.out,r.out];split
    ·rename_i v' h';exact absurd h' (hv v')
    ·rfl
   subst f;clear hv;go_wp2_with fail;go_ret2;exact⟨rfl,g⟩
end Num
end Go.Proofs.YtblipmifflfnoaaGreatDoor
