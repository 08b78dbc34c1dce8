/- Parts of a proof. Conditions: each theorem's own. -/
import Derived.Test.YtjdefiinmicjiaaGreatDoorV15
import Derived.Test.YtjdefiinmicjiaaGreatDoorV17
set_option linter.unusedVariables false
set_option linter.unusedSimpArgs false
set_option maxHeartbeats 8000000
set_option maxRecDepth 100000
namespace Go.Proofs.YtjdefiinmicjiaaGreatDoor
open _root_.Go.Proofs.Tryz
namespace Gm
open Go Go.ChangeShapes Go.WideShapes Go.ChangeAt Go.RowKit Base Ints Own RelG PlP TxP Num Bd1 Bd5 RegInv RegF RegG TxI TsI
abbrev ERow:=Int × Int × Int × Value × Int
def enEv (r:ERow):List Value:=[iL r.1,iL r.2.1,iL r.2.2.1,r.2.2.2.1,iL r.2.2.2.2]
theorem enEv_len (r:ERow):(enEv r).length=5:=rfl
theorem one_Ev (r:ERow) (h:r.2.2.2.1.oneCell'=true):∀ u ∈ enEv r,u.oneCell'=true:=by
 intro u a;simp [enEv] at a;rcases a with rfl | rfl | rfl | rfl | rfl
 ·rfl
 ·rfl
 ·rfl
 ·exact h
 ·rfl
theorem infoE:(Tryz.prog.info? 28).map (λ i=>(i.zero,i.size,i.bytes))=some (some (.agg #[iL 0,iL 0,iL 0,.slice none 0 0,iL 0]),5,56):=by kernel_rfl
def RelEv:Rel ERow Ev where
 R:=λ w S r x=>(r.1=x.k∧r.2.1=x.a∧r.2.2.1=x.b∧r.2.2.2.2=x.r)∧OwnV 111 4 enSt w S r.2.2.2.1 x.ss
 keep:=λ h hs=>⟨h.1,(relO 111 4 enSt).keep h.2 hs⟩
 weak:=λ h hs=>⟨h.1,(relO 111 4 enSt).weak h.2 hs⟩
def Evs (w:World) (lo:Nat) (ev:Value) (es:List Ev):Prop :=
 ∃ rs:List ERow,OwnS w lo w.heap.size 28 5 enEv ev rs∧LsR RelEv w (NotIn ev lo) rs es∧rs.Pairwise (λ r q=>Apart r.2.2.2.1 q.2.2.2.1)
theorem Evs.nil (w:World) (lo:Nat):Evs w lo (.slice none 0 0) []:=⟨[],OwnS.nil_ _ _ _ _ _ _,LsR.nil _ _ _,List.Pairwise.nil⟩
section
variable {w w':World} {lo:Nat} {ev:Value} {es:List Ev}
theorem Evs.below (h:Evs w lo ev es) (hb:zB w w'):Evs w' lo ev es:=by
 obtain⟨a,d,c,b⟩:=h;exact⟨a,(d.below hb lR).more hb.size,c.keep (.below hb),b⟩
theorem Evs.low {g:Nat} (h:Evs w lo ev es) (hg:w.grownBy w' (some g)) (hl:g<lo):Evs w' lo ev es:=by
 obtain⟨b,f,e,d⟩:=h;exact⟨b,(f.grown hg (λ k a=>by simp at a;omega)).more hg.size,e.keep (Still.grown hg (λ k a c=>by simp at a;have:=c.2;omega)),d⟩
theorem Evs.less {lo':Nat} (h:Evs w lo ev es) (hl:lo'<=lo):Evs w lo' ev es:=by
 obtain⟨c,f,e,d⟩:=h;exact⟨c,f.less hl,e.weak (λ b a _=>⟨a.1,by have:=a.2;omega⟩),d⟩
theorem Evs.form (h:Evs w lo ev es):∃ A c,ev=.slice A es.length c:=by
 obtain⟨d,b,a,f⟩:=h;obtain⟨A,c,e,-⟩:=b.form enEv_len;exact⟨A,c,by rw [e,a.1]⟩
theorem Evs.app {w4 w6:World} {gl:Nat} (H:Evs w4 lo ev es) (hlo:lo<=w4.heap.size) (hb:w4.grownBy w6 (some gl)) (hgl:gl<lo) (k a b r:Int) (sv:Value) (ss:List Stp) (hs:OwnS w6 w4.heap.size w6.heap.size 111 4 enSt sv ss) :
  ∃ rs:List ERow,OwnS w6 lo w6.heap.size 28 5 enEv ev rs∧rs.length=es.length∧∀ g n c w7,OwnS w7 lo w7.heap.size 28 5 enEv (.slice (sA g 0) n c) (rs++[(k,a,b,sv,r)])->w6.grownBy w7 ev.ownBlock->(ev.ownBlock=some g∨g=w6.heap.size)->Evs w7 lo (.slice (sA g 0) n c) (es++[⟨k,a,b,ss,r⟩]):=by
 obtain⟨rs,w,t,I⟩:=H;have s:∀ g,ev.ownBlock=some g->g<w4.heap.size:=λ g f=>(w.block g f).2
 refine⟨rs,(w.grown hb (λ k m=>by simp at m;omega)).more hb.size,t.1,λ g n c w7 D f d=>?_⟩;have v:=t.keep (Still.grown hb (λ k m E=>by simp at m;have:=E.2;omega));have B:RelEv.R w6 (NotIn ev lo) (k,a,b,sv,r) ⟨k,a,b,ss,r⟩:=⟨⟨rfl,rfl,rfl,rfl⟩,OwnV.of hs lR (λ L K J=>⟨λ e=>by have:=s L e;omega,by omega⟩)⟩;refine⟨rs++[(k,a,b,sv,r)],D,LsR.snoc ⟨v.1,λ i A z j h=>app_still f d (v.2 i A z j h)⟩ (app_still f d B),?_⟩;refine List.pairwise_append.2 ⟨I,List.pairwise_singleton _ _,λ q C M l=>?_⟩;obtain rfl:=List.mem_singleton.1 l;obtain⟨i,F⟩:=List.getElem?_of_mem C;obtain⟨x,N,G⟩:=t.at_ F;intro y p o;have P:=(G.2.1.block y p).2;have O:=(hs.block y o).1;omega
theorem Evs.block (h:Evs w lo ev es):∀ g,ev.ownBlock=some g->lo<=g∧g<w.heap.size:=by
 obtain⟨b,a,d,c⟩:=h;exact a.block
end
def nulV:Vr:=⟨0,0,0,0⟩
def finM (v:Vr) (n:Int) (z:List Ev × Int × Int):(Vr × Int × List Ev) × Int × Int:=if z.2.1=0 then ((v,n,z.1),0,0) else ((nulV,0,[]),z.2)
theorem rdM_long {t:By} (h:20000<t.length):rdM t=((nulV,0,[]),3,0):=by unfold rdM;rw [if_pos h];rfl
theorem rdM_cut {t l r:By} {e:Bool} (h:¬ 20000<t.length) (hc:Lib.cut t [10]=(l,r,e)):rdM t=if e=true then (match rdH l with
  | some (v,n)=>finM v n (rmGo v n (spl 10 r) (startS v) [] 2)
  | none=>((nulV,0,[]),6,1)) else ((nulV,0,[]),6,1):=by
 unfold rdM;rw [if_neg h,spl_cut,hc]
 cases e with
 | false=>rfl
 | true =>
  simp only [if_true]
  cases hs:spl 10 r with
  | nil=>exact absurd hs (spl_ne 10 r)
  | cons m ls=>rfl
theorem rmGo_end (v:Vr) (n:Int) (x:Ms) (es:List Ev) (k:Int):rmGo v n (spl 10 []) x es k=(es,0,0):=rfl
def goX (v:Vr) (n:Int) (r:By) (es:List Ev) (e:Ev) (k:Int) (L:Nat):Option Ms->List Ev × Int × Int
 | none=>([],5,k)
 | some y=>if 300<=L then ([],5,k) else rmGo v n (spl 10 r) y (es++[e]) (k+1)
theorem rmGo_cut {v:Vr} {n:Int} {t l r:By} {e:Bool} (x:Ms) (es:List Ev) (k:Int) (ht:t≠[]) (hc:Lib.cut t [10]=(l,r,e)):rmGo v n (spl 10 t) x es k=if e=true then (match rdE v l with
  | none=>([],6,k)
  | some ev=>goX v n r es ev k es.length (nextS v n x ev)) else ([],6,k):=by
 rw [spl_cut,hc]
 cases e with
 | false=>simp only [Bool.false_eq_true,if_false,rmGo,if_neg ht]
 | true =>
  simp only [if_true]
  cases hs:spl 10 r with
  | nil=>exact absurd hs (spl_ne 10 r)
  | cons m ls =>
   simp only [rmGo]
   cases rdE v l with
   | none=>rfl
   | some ev =>
    simp only
    cases nextS v n x ev with
    | none=>rfl
    | some y=>simp only [goX,hs]
def MaR (o:(Vr × Int × List Ev) × Int × Int) (w:World) (e:Ending) (w':World):Prop :=
 ∃ ev:Value,e=.returned (.tuple #[.agg #[iL o.1.1.p,iL o.1.1.c,iL o.1.1.h,iL o.1.1.s,iL o.1.2.1,ev],iL o.2.1,iL o.2.2])∧Evs w' w.heap.size ev o.1.2.2∧Below w.heap.size w w'
theorem HdR.v {o:Option (Vr × Int)} {w w':World} {e:Ending} (h:HdR o w e w'):∃(v:Vr) (n:Int) (ok:Bool),e=.returned (.tuple #[.agg #[iL v.p,iL v.c,iL v.h,iL v.s,iL n,.slice none 0 0],.bool ok])∧Below w.heap.size w w'∧(if ok=true then o=some (v,n) else o=none):=by
 obtain⟨p,c,h,s,n,ok,e,b,a⟩:=h;exact⟨⟨p,c,h,s⟩,n,ok,e,b,a⟩
def strLen:Value->Nat
 | .string b=>b.size
 | _=>0
def RelM3:Rel (Value × Value × Value) Ms where
 R:=λ w S r x=>MsR w S r.1 r.2.1 r.2.2 x
 keep:=λ h hs=>h.keep hs
 weak:=λ h hs=>h.weak hs
structure Rm (w wr:World) (g8 g10:Nat) (v:Vr) (n:Int) (ev:Value) (es:List Ev) (su u1 u2:Value) (x:Ms):Prop where
 k:Rows w wr [(0,37,[iL 0,iL 0,iL 0,iL 0,iL 0,.slice none 0 0])]
 r8:RowB wr g8 37 [iL v.p,iL v.c,iL v.h,iL v.s,iL n,ev]
 r10:RowB wr g10 57 (msC su u1 u2 x)
 ms:MsR wr (λ b=>NotIn ev (g8+1) b∧b≠g10) su u1 u2 x
 es:Evs wr (g10+1) ev es
 lo:w.heap.size<g8∧g8<g10
section
variable {w wr w':World} {g8 g10:Nat} {v:Vr} {n:Int} {ev:Value} {es:List Ev} {su u1 u2:Value} {x:Ms}
theorem Rm.below (K:Rm w wr g8 g10 v n ev es su u1 u2 x) (hb:zB wr w'):Rm w w' g8 g10 v n ev es su u1 u2 x :=
 ⟨K.k.below hb,K.r8.below hb K.r8.lt,K.r10.below hb K.r10.lt,K.ms.below hb,K.es.below hb,K.lo⟩
theorem Rm.st10 {su' u1' u2':Value} {x':Ms} (K:Rm w wr g8 g10 v n ev es su u1 u2 x) (h:RowB w' g10 57 (msC su' u1' u2' x')) (hg:wr.grownBy w' (some g10)) (hm:MsR wr (λ b=>NotIn ev (g8+1) b∧b≠g10) su' u1' u2' x'):Rm w w' g8 g10 v n ev es su' u1' u2' x':=by
 have l:=K.lo;have c:=K.k.bel.size;refine⟨⟨K.k.bel.grown hg c (λ k a=>by simp at a;omega),λ p d=>?_⟩,K.r8.grown hg (λ k a=>by simp at a;omega),h,hm.keep (Still.grown hg (λ k a e=>by simp at a;exact e.2 a.symm)),K.es.low hg (Nat.lt_succ_self _),l⟩;obtain rfl:=List.mem_singleton.1 d;exact(K.k.at_ _ (List.mem_singleton.2 rfl)).grown hg (λ k a=>by simp at a;simp only;omega)
theorem Rm.app {w1:World} {g m c:Nat} {es':List Ev} (K:Rm w wr g8 g10 v n ev es su u1 u2 x) (hg:wr.grownBy w1 ev.ownBlock) (hat:ev.ownBlock=some g∨g=wr.heap.size) (he:Evs w1 (g10+1) (.slice (sA g 0) m c) es') :
  Rm w (w1.setCell ⟨g8,5,none⟩ (.slice (sA g 0) m c)) g8 g10 v n (.slice (sA g 0) m c) es' su u1 u2 x:=by
 have l:=K.lo;have h:=K.k.bel.size;have d:∀ k,ev.ownBlock=some k->g10+1<=k:=λ k a=>(K.es.block k a).1
 have o:(inS RelM3 (λ b=>b≠g10)).R w1 (NotIn (.slice (sA g 0) m c) (g8+1)) (su,u1,u2) x:=app_still (K:=inS RelM3 (λ b=>b≠g10)) hg hat K.ms;have e:=Base.grownBy_setCell w1 g8 5 (.slice (sA g 0) m c);have f:=(K.r8.grown hg (λ k a=>by have:=d k a;omega)).set 5 (.slice (sA g 0) m c);refine⟨⟨(K.k.bel.grown hg h (λ k a=>by have:=d k a;omega)).setCell (by simp only;omega) _,λ p i=>?_⟩,f,(K.r10.grown hg (λ k a=>by have:=d k a;omega)).other (by simp only;omega) _,MsR.keep o (Still.grown e (λ k a j=>by simp at a;have:=j.1.2;omega)),he.low e (by omega),l⟩;obtain rfl:=List.mem_singleton.1 i;exact((K.k.at_ _ (List.mem_singleton.2 rfl)).grown hg (λ k a=>by have:=d k a;simp only;omega)).other (by simp only;omega) _
end
def RelEr:Rel ERow Ev where
 R:=λ w S r x=>(r.1=x.k∧r.2.1=x.a∧r.2.2.1=x.b∧r.2.2.2.2=x.r)∧∃ As cp,r.2.2.2.1=.slice As x.ss.length cp∧RdF w S 4 enSt As x.ss
 keep:=λ⟨e,A,c,h,k⟩ hs=>⟨e,A,c,h,k.keep hs⟩
 weak:=λ⟨e,A,c,h,k⟩ hs=>⟨e,A,c,h,k.weak hs⟩
def EvL (w:World) (S:Nat->Prop) (A:Option Addr) (es:List Ev):Prop:=∃ rs:List ERow,RdF w S 5 enEv A rs∧LsR RelEr w S rs es
theorem EvL.keep {w w':World} {S:Nat->Prop} {A:Option Addr} {es:List Ev} (h:EvL w S A es) (hs:Still S w w'):EvL w' S A es:=by
 obtain⟨a,c,b⟩:=h;exact⟨a,c.keep hs,b.keep hs⟩
theorem EvL.len {w:World} {S:Nat->Prop} {A:Option Addr} {es:List Ev} (h:EvL w S A es):es.length<=9223372036854775807:=by
 obtain⟨e,d,c⟩:=h;have a:=d.len;have b:=c.1;omega
theorem EvL.at_ {w:World} {S:Nat->Prop} {A:Option Addr} {es:List Ev} (h:EvL w S A es) {i:Nat} (hi:i<es.length) :
  ∃(b o:Nat) (e:Ev) (As:Option Addr) (cp:Nat),A=some ⟨b,o,none⟩∧es[i]?=some e∧b<w.heap.size∧RdF w S 4 enSt As e.ss ∧
   (w.cell? ⟨b,o+i*5,none⟩=some (iL e.k)∧w.cell? ⟨b,o+i*5+1,none⟩=some (iL e.a)∧w.cell? ⟨b,o+i*5+2,none⟩=some (iL e.b)∧w.cell? ⟨b,o+i*5+3,none⟩=some (.slice As e.ss.length cp)∧w.cell? ⟨b,o+i*5+4,none⟩=some (iL e.r)):=by
 obtain⟨D,v,d⟩:=h;obtain⟨b,o,r,t,-,s,n,c⟩:=v.at_ (i:=i) (by rw [d.1];exact hi);obtain⟨e,q,⟨C,B,z,x⟩,As,cp,y,p⟩:=d.at_ n;have m:=c 0 _ rfl;have l:=c 1 _ rfl;have j:=c 2 _ rfl;have g:=c 3 _ rfl;have f:=c 4 _ rfl;rw [C] at m;rw [B] at l;rw [z] at j;rw [y] at g;rw [x] at f;exact⟨b,o,e,As,cp,t,q,s,p,by simpa using m,by simpa using l,by simpa using j,by simpa using g,by simpa using f⟩
def enS (v:Vr) (n:Int):Ms->List Ev->Option Ms
 | x,[]=>some x
 | x,e :: es=>match nextS v n x e with
  | some y=>enS v n y es
  | none=>none
def finS (v:Vr) (n:Int) (es:List Ev):Option Ms:=if headB v n=false∨300<es.length then none else enS v n (startS v) es
def enX (v:Vr) (n:Int) (es:List Ev):Option Ms->Option Ms
 | none=>none
 | some y=>enS v n y es
theorem enS_drop {v:Vr} {n:Int} {es:List Ev} {k:Nat} {e:Ev} (x:Ms) (h:es[k]?=some e):enS v n x (es.drop k)=enX v n (es.drop (k+1)) (nextS v n x e):=by
 obtain⟨a,b⟩:=List.getElem?_eq_some_iff.1 h;rw [List.drop_eq_getElem_cons a,b];simp only [enS]
 cases nextS v n x e <;> rfl
theorem enS_end {v:Vr} {n:Int} {es:List Ev} (x:Ms):enS v n x (es.drop es.length)=some x:=by rw [List.drop_eq_nil_of_le lR];rfl
structure Sl (w wr:World) (v:Vr) (n:Int) (ev:Value) (g4:Nat) (su u1 u2:Value) (x:Ms):Prop where
 k:Rows w wr [(0,37,[iL v.p,iL v.c,iL v.h,iL v.s,iL n,ev]),(1,57,nulMC)]
 r4:RowB wr g4 57 (msC su u1 u2 x)
 ms:MsR wr (λ b=>w.heap.size+2<=b∧b≠g4) su u1 u2 x
 lo:w.heap.size+2<=g4
section
variable {w wr w':World} {g4:Nat} {v:Vr} {n:Int} {ev:Value} {su u1 u2:Value} {x:Ms}
theorem Sl.below (K:Sl w wr v n ev g4 su u1 u2 x) (hb:zB wr w'):Sl w w' v n ev g4 su u1 u2 x :=
 ⟨K.k.below hb,K.r4.below hb K.r4.lt,K.ms.below hb,K.lo⟩
theorem Sl.st {su' u1' u2':Value} {x':Ms} (K:Sl w wr v n ev g4 su u1 u2 x) (h:RowB w' g4 57 (msC su' u1' u2' x')) (hg:wr.grownBy w' (some g4)) (hm:MsR wr (λ b=>w.heap.size+2<=b∧b≠g4) su' u1' u2' x'):Sl w w' v n ev g4 su' u1' u2' x':=by
 have l:=K.lo;have d:=K.k.bel.size;refine⟨⟨K.k.bel.grown hg d (λ k a=>by simp at a;omega),λ p c=>?_⟩,h,hm.keep (Still.grown hg (λ k a e=>by simp at a;exact e.2 a.symm)),l⟩;have f:=K.k.at_ _ c;simp only [List.mem_cons,List.not_mem_nil,or_false] at c;rcases c with rfl | rfl <;> exact f.grown hg (λ k a=>by simp at a;simp only;omega)
end
theorem lstate_s (v:Vr) (n:Int) (es:List Ev) (Ae:Option Addr) (ce:Nat) (w:World) (hes:EvL w All Ae es) (X:Option Ms) (hX:finS v n es=X) :
  Calls prog 21 #[.agg #[iL v.p,iL v.c,iL v.h,iL v.s,iL n,.slice Ae es.length ce]] w λ f w'=>Ret RelMO X (λ _=>False) w f w':=by
 obtain⟨hd,ay⟩:=eX (headB v n);have CH:=kD (λ(B:World)=>head_s v n hd ay B);have a3:=hes.len;have a9:=kD (λ(B:World) (h9:zB w B)=>hes.keep (.below h9));obtain⟨M,hM⟩:=eX (es.length);rw [hM] at a3 ⊢;have HM:=kD hM;have an:=kD hX;have aE:=kD ay;obtain⟨aj,ht⟩:=eX ((!hd || decide (300<M)));have HT:=kD ht;clear hes hM hX ay ht;go_enter func21,ntmps21;go_upto_region 1 with fail;refine wp_gen (λ W'=>Rows w W' [(0,37,[iL v.p,iL v.c,iL v.h,iL v.s,iL n,.slice Ae M ce]),(1,57,nulMC)]) ⟨by go_grown,λ p R=>?_⟩ ?_
 ·simp only [List.mem_cons,List.not_mem_nil,or_false] at R;rcases R with rfl | rfl
  ·exact(nW).alloc _
  ·exact nX
 intro w1 K;have E:=K.nth0 0 rfl;have av:=K.nth 1 rfl;obtain⟨Q,P,O,N,J,I⟩:=E.c6;have m:=E.lt;go_cut [19] from 8 to 19 (λ aX wx=>aX=.bool aj∧Below w1.heap.size w1 wx)
 case first =>
  cases hd with
  | false =>
   have ht:aj=true:=by rw [<-HT.out];rfl
   subst ht;go_wp2_with fail;refine(CH.out _).mono ?_;rintro e w2 ⟨rfl,hb⟩;go_wp2_with fail;go_meet;exact⟨rfl,hb⟩
  | true =>
   have ht:aj=decide (300<M):=by rw [<-HT.out];simp
   subst ht;go_wp2_with fail;refine(CH.out _).mono ?_;rintro e w2 ⟨rfl,hb⟩;have E:=(K.below hb).nth0 0 rfl;clear Q P O N J I m;obtain⟨Q,P,O,N,J,I⟩:=E.c6;have m:=E.lt;go_wp2_with fail;go_meet;exact⟨by first | rfl | (congr 1;simp;done) | (by_cases h3:300<M <;> simp [h3] <;> omega),hb⟩
 case rest =>
 obtain⟨rfl,hb⟩:=hcut;have K:=K.below hb;clear hb CH Q P O N J I m E av;have E:=K.nth0 0 rfl;have av:=K.nth 1 rfl;obtain⟨Q,P,O,N,J,I⟩:=E.c6;have m:=E.lt
 cases aj with
 | true =>
  have aC:X=none:=by
   rw [<-an.out];unfold finS;rw [if_pos];have h:=HT.out;rw [aE.out,HM.out]
   cases hd with
   | false=>exact .inl rfl
   | true=>exact .inr (by simpa using h)
  subst aC;clear an;have rr:=K.nth 1 rfl;have V:=K.bel;go_wp2_with (refine wM 57 0 (nulMC) rr ?_;intro w7 s7 S z7;refine Hid.out ?_);have ah:Below w.heap.size w w7:=V.grown S V.size (λ k hk=>by simp at hk;omega);obtain⟨z0,z1,z2,z3,z4,z5,z6,ac,z8,z9,ae,ad⟩:=row12 s7;have aK:=s7.lt;clear S rr K V Q P O N J I m E;refine kD ?_
  repeat (first | go_values | go_skip | go_step | go_upon)
  refine bodyPost_ret (v:=.tuple #[.agg ⟨nulMC⟩,.bool false]) (by simp [results,results21,go_sem,nulMC,msC,nulM,nulG,z0,z1,z2,z3,z4,z5,z6,ac,z8,z9,ae,ad]) rfl ?_;exact⟨_,rfl,⟨_,_,_,_,_,_,_,_,_,_,rfl,λ x0 h=>by cases h⟩,ah⟩
 | false =>
 have hh:headB v n=true∧M<=300:=by
  have h:=HT.out;rw [aE.out]
  cases hd with
  | false=>cases h
  | true=>exact⟨rfl,by simpa using h⟩
 have a6:Hid (X=enS v n (startS v) es):=by
  show _=_
  rw [<-an.out];unfold finS;rw [if_neg (λ h=>h.elim (λ h=>by rw [hh.1] at h;cases h) (λ h=>by rw [HM.out] at h;omega))]
 have bg:M<=300:=hh.2;have ak:=head_parts hh.1;have CF:=kD (λ(B:World)=>fst_s v ak.1 ak.2.1 B);have a7:=kD (start_ms hh.1);have aV:=kD (show 1<=n∧n<=25 from ak.2.2);clear hh ak an HT aE;go_wp2_with fail;refine(CF.out _).mono ?_;rintro e w3 ⟨v6,rfl,⟨su,u1,u2,rfl,G⟩,hb⟩;have aZ:=(K.nth 1 rfl).lt;have aH:=hb.size;have K:=K.below hb;clear hb CF Q P O N J I m E av;obtain⟨⟨A0,c0,rfl,-,-⟩,⟨A1,c1,rfl,-,-⟩,⟨A2,c2,rfl,-,-⟩⟩:=id G;have aU:=kD (show MsR w3 (λ b=>w.heap.size+2<=b∧b≠w3.heap.size) _ _ _ (startS v) from G.weak (λ b h hl=>by
  have h:=h.elim False.elim id;exact⟨by omega,by omega⟩))
 clear G;simp only [msC,List.length_cons,List.length_nil,Nat.zero_add,Nat.reduceAdd];go_upto_region 4 with fail;refine wp_gen (λ W'=>Sl w W' v n (.slice Ae M ce) w3.heap.size (.slice A0 2 c0) (.slice A1 (startS v).g.b.1.length c1) (.slice A2 (startS v).g.b.2.length c2) (startS v)) ⟨K.below ((zRf).alloc lR _),nW,aU.out.keep (.below ((zRf).alloc lR _)),by omega⟩ ?_;clear K aU;obtain⟨g4,aN⟩:=eX (w3.heap.size);rw [aN] at aH ⊢;clear aN;intro w4 K;have HK:=kD K;clear K aZ aH;go_wp2_with fail;go_loopw [3,5,6,7] (λ _ s5 _ _ wr=>∃(k:Nat) (x:Ms) (su u1 u2:Value),s5=iL (k:Int)∧k<=M∧Hid (Sl w wr v n (.slice Ae M ce) g4 su u1 u2 x)∧Hid (MsOk v n k x)∧Hid (X=enS v n x (es.drop k))) (λ _ s5 _ _ _=>M - (intOf s5).toNat)
 case atStart=>exact⟨0,startS v,_,_,_,by first | rfl | trivial,Nat.zero_le _,HK,a7,a6⟩
 case round =>
  obtain⟨k,x,su,u1,u2,rfl,be,r,am,hQ⟩:=hrel;obtain⟨⟨B0,d0,rfl,-,-⟩,⟨B1,d1,rfl,-,-⟩,⟨B2,d2,rfl,-,-⟩⟩:=id r.out.ms;have K:=r.out;have E:=K.k.nth0 0 rfl;obtain⟨Q,P,O,N,J,I⟩:=E.c6;have m:=E.lt;by_cases hlt:k<M
  ·obtain⟨ba,oa,e,As,cs,rfl,aA,a,aw,ca,cb,cc,cd,H⟩:=(a9.out wr K.k.bel).at_ (i:=k) (by rw [HM.out];exact hlt);have bs:=kD aA;obtain⟨X2,al⟩:=eX (nextS v n x e);have CN:=kD (λ(B:World) (h9:zB wr B)=>next_s v n k x am.out (by omega) aV.out (λ b=>w.heap.size+2<=b∧b≠g4) _ _ _ e As cs B.heap.size B lR (K.ms.below h9) (aw.keep (.below h9)).rd X2 al);have ao:Hid (X=enX v n (es.drop (k+1)) X2):=by
    show _=_
    rw [hQ.out,enS_drop x aA,al]
   have aS:=kD (λ y (h:X2=some y)=>next_ms aV.out.1 am.out (h ▸ al));obtain⟨ek,ea,eb,ss,er⟩:=e;simp only at ca cb cc cd H CN aw;obtain⟨sl,aG⟩:=eX (ss.length);rw [aG] at cd CN;simp only [List.length_cons,List.length_nil,Nat.zero_add,Nat.reduceAdd] at K CN;clear aA al aw aG hQ am;have KB:=K;go_upto_region 7 with fail;refine region_rel [some 32,some 33,some 34,some 35,some 36,some 37,some 38,some 39,some 40,some 41,some 42,some 31,some 43,some 44,some 6,none,some 7] 17 (Pl [some (pT w.heap.size 0),some (vA v),some (pT w.heap.size 4),some (iL n),some (.agg #[.slice B0 2 d0,iL x.gs,.slice B1 x.g.b.1.length d1,.slice B2 x.g.b.2.length d2,iL x.g.pl,iL x.g.x,iL x.g.y,iL x.g.ph,iL x.g.wn,iL x.g.rs,iL x.g.tn,.bool x.ov]),some (pT w.heap.size 5),some (.slice (sA ba oa) M ce),some (iL (k:Int)),some (pT ba (oa+k*5)),some (.agg #[iL ek,iL ea,iL eb,.slice As sl cs,iL er]),none,none,none,none,none,none,none]) (λ L d w'=>CbF (inS RelMO (λ b=>wr.heap.size<=b)) X2 wr 10 14 15 [(11,(λ v=>v)),(12,ext 0),(13,ext 1),(16,ext 1)] (λ v=>aggC (ext 0 v)) 57 12 L d w') (by kernel_rfl) (by kernel_rfl) (by kernel_rfl) (by kernel_rfl) (by kernel_rfl) (by kernel_rfl) (by first | kernel_rfl | rfl) ?g0_1 ?gst_1 ?gfin_1
   case g0_1=>exact⟨(zRf).drew,λ h=>absurd h (by decide),λ p R h=>absurd h (by simp only [List.mem_cons,List.not_mem_nil,or_false] at R;rcases R with rfl | rfl | rfl | rfl <;> decide),λ h=>absurd h (by decide),λ h=>absurd h (by decide)⟩
   case gst_1 =>
    refine rN rfl (λ L d A B o j z U F K r=>?_) ?_
    ·have e1:=U.w 1 (pT w.heap.size 0);have l:=KB.below F.bel;obtain⟨Q,P,O,N,J,I⟩:=(l.k.nth0 0 rfl).c6;have m:=(l.k.nth0 0 rfl).lt;obtain⟨y0,y1,y2,y3,y4,y5,y6,y7,y8,y9,D,C⟩:=row12 l.r4;have T:=l.r4.lt;have ab:=(F.bel.cell a).trans ca;have aa:=(F.bel.cell a).trans cb;have Z:=(F.bel.cell a).trans cc;have Y:=(F.bel.cell a).trans cd;have W:=(F.bel.cell a).trans H;clear l;go_simp;exact pF r (F.skip 0 _)
    refine rN rfl (λ L d A B o j z U F K r=>?_) ?_
    ·have br:=U.v 0 32;have l:=KB.below F.bel;obtain⟨Q,P,O,N,J,I⟩:=(l.k.nth0 0 rfl).c6;have m:=(l.k.nth0 0 rfl).lt;obtain⟨y0,y1,y2,y3,y4,y5,y6,y7,y8,y9,D,C⟩:=row12 l.r4;have T:=l.r4.lt;have ab:=(F.bel.cell a).trans ca;have aa:=(F.bel.cell a).trans cb;have Z:=(F.bel.cell a).trans cc;have Y:=(F.bel.cell a).trans cd;have W:=(F.bel.cell a).trans H;clear l;go_simp;exact pF r (F.skip 1 _)
    refine rN rfl (λ L d A B o j z U F K r=>?_) ?_
    ·have e1:=U.w 1 (pT w.heap.size 0);have l:=KB.below F.bel;obtain⟨Q,P,O,N,J,I⟩:=(l.k.nth0 0 rfl).c6;have m:=(l.k.nth0 0 rfl).lt;obtain⟨y0,y1,y2,y3,y4,y5,y6,y7,y8,y9,D,C⟩:=row12 l.r4;have T:=l.r4.lt;have ab:=(F.bel.cell a).trans ca;have aa:=(F.bel.cell a).trans cb;have Z:=(F.bel.cell a).trans cc;have Y:=(F.bel.cell a).trans cd;have W:=(F.bel.cell a).trans H;clear l;go_simp;exact pF r (F.skip 2 _)
    refine rN rfl (λ L d A B o j z U F K r=>?_) ?_
    ·have bp:=U.v 2 34;have l:=KB.below F.bel;obtain⟨Q,P,O,N,J,I⟩:=(l.k.nth0 0 rfl).c6;have m:=(l.k.nth0 0 rfl).lt;obtain⟨y0,y1,y2,y3,y4,y5,y6,y7,y8,y9,D,C⟩:=row12 l.r4;have T:=l.r4.lt;have ab:=(F.bel.cell a).trans ca;have aa:=(F.bel.cell a).trans cb;have Z:=(F.bel.cell a).trans cc;have Y:=(F.bel.cell a).trans cd;have W:=(F.bel.cell a).trans H;clear l;go_simp;exact pF r (F.skip 3 _)
    refine rN rfl (λ L d A B o j z U F K r=>?_) ?_
    ·have e4:=U.w 4 (pT g4 0);have l:=KB.below F.bel;obtain⟨Q,P,O,N,J,I⟩:=(l.k.nth0 0 rfl).c6;have m:=(l.k.nth0 0 rfl).lt;obtain⟨y0,y1,y2,y3,y4,y5,y6,y7,y8,y9,D,C⟩:=row12 l.r4;have T:=l.r4.lt;have ab:=(F.bel.cell a).trans ca;have aa:=(F.bel.cell a).trans cb;have Z:=(F.bel.cell a).trans cc;have Y:=(F.bel.cell a).trans cd;have W:=(F.bel.cell a).trans H;clear l;go_simp;exact pF r (F.skip 4 _)
    refine rN rfl (λ L d A B o j z U F K r=>?_) ?_
    ·have e1:=U.w 1 (pT w.heap.size 0);have l:=KB.below F.bel;obtain⟨Q,P,O,N,J,I⟩:=(l.k.nth0 0 rfl).c6;have m:=(l.k.nth0 0 rfl).lt;obtain⟨y0,y1,y2,y3,y4,y5,y6,y7,y8,y9,D,C⟩:=row12 l.r4;have T:=l.r4.lt;have ab:=(F.bel.cell a).trans ca;have aa:=(F.bel.cell a).trans cb;have Z:=(F.bel.cell a).trans cc;have Y:=(F.bel.cell a).trans cd;have W:=(F.bel.cell a).trans H;clear l;go_simp;exact pF r (F.skip 5 _)
    refine rN rfl (λ L d A B o j z U F K r=>?_) ?_
    ·have bm:=U.v 5 37;have l:=KB.below F.bel;obtain⟨Q,P,O,N,J,I⟩:=(l.k.nth0 0 rfl).c6;have m:=(l.k.nth0 0 rfl).lt;obtain⟨y0,y1,y2,y3,y4,y5,y6,y7,y8,y9,D,C⟩:=row12 l.r4;have T:=l.r4.lt;have ab:=(F.bel.cell a).trans ca;have aa:=(F.bel.cell a).trans cb;have Z:=(F.bel.cell a).trans cc;have Y:=(F.bel.cell a).trans cd;have W:=(F.bel.cell a).trans H;clear l;go_simp;exact pF r (F.skip 6 _)
    refine rN rfl (λ L d A B o j z U F K r=>?_) ?_
    ·have e5:=U.w 5 (iL (k:Int));go_simp;exact pF r (F.skip 7 _)
    refine rN rfl (λ L d A B o j z U F K r=>?_) ?_
    ·have bl:=U.v 6 38;have bk:=U.v 7 39;go_simp;exact pF r (F.skip 8 _)
    refine rN rfl (λ L d A B o j z U F K r=>?_) ?_
    ·have bj:=U.v 8 40;have l:=KB.below F.bel;obtain⟨Q,P,O,N,J,I⟩:=(l.k.nth0 0 rfl).c6;have m:=(l.k.nth0 0 rfl).lt;obtain⟨y0,y1,y2,y3,y4,y5,y6,y7,y8,y9,D,C⟩:=row12 l.r4;have T:=l.r4.lt;have ab:=(F.bel.cell a).trans ca;have aa:=(F.bel.cell a).trans cb;have Z:=(F.bel.cell a).trans cc;have Y:=(F.bel.cell a).trans cd;have W:=(F.bel.cell a).trans H;clear l;go_simp;exact pF r (F.skip 9 _)
    refine rN rfl (λ L d A B o j z U F K r=>?_) ?_
    ·have bq:=U.v 1 33;have bo:=U.v 3 35;have bn:=U.v 4 36;have bi:=U.v 9 41;go_simp;refine(CN.out B F.bel).mono ?_;rintro e w6 ⟨v6,rfl,a0,a1⟩;exact r.out v6 w6 (Pl.any rfl) (F.call o (by decide) a1 (RelMO.weak a0 (λ b hb _=>hb.elim False.elim (λ h=>⟨.inr h,by have:=F.bel.size;omega⟩))))
    refine rN rfl (λ L d A B o j z U F K r=>?_) ?_
    ·have bh:=U.x 10 42;go_simp;exact r.out _ B (Pl.any rfl) (F.part 11 (by decide) (bK j 10) (by intro p R e;simp only [List.mem_cons,List.not_mem_nil,or_false] at R;rcases R with rfl | rfl | rfl | rfl <;> first | exact absurd e (by decide) | rfl))
    refine rN rfl (λ L d A B o j z U F K r=>?_) ?_
    ·have ai:=U.x 11 31;have fc:=F.fc (bK j 10);refine fc.elim λ B3 q=>?_
     refine q.elim λ d3 q=>?_
     refine q.elim λ f3 q=>?_
     refine q.elim λ B4 q=>?_
     refine q.elim λ d4 q=>?_
     refine q.elim λ f4 q=>?_
     refine q.elim λ B5 q=>?_
     refine q.elim λ d5 q=>?_
     refine q.elim λ f5 q=>?_
     refine q.elim λ y q=>?_
     have aR:=ai.trans ((F.fd (11,(λ v=>v)) (by simp) (bK j 11)).2.trans q.1);clear ai fc;go_simp;exact r.out _ B (Pl.any rfl) (F.part 12 (by decide) (bK j 10) (by intro p R e;simp only [List.mem_cons,List.not_mem_nil,or_false] at R;rcases R with rfl | rfl | rfl | rfl <;> first | exact absurd e (by decide) | (rw [q.1];try rfl)))
    refine rN rfl (λ L d A B o j z U F K r=>?_) ?_
    ·have ai:=U.x 11 31;have fc:=F.fc (bK j 10);refine fc.elim λ B3 q=>?_
     refine q.elim λ d3 q=>?_
     refine q.elim λ f3 q=>?_
     refine q.elim λ B4 q=>?_
     refine q.elim λ d4 q=>?_
     refine q.elim λ f4 q=>?_
     refine q.elim λ B5 q=>?_
     refine q.elim λ d5 q=>?_
     refine q.elim λ f5 q=>?_
     refine q.elim λ y q=>?_
     have aR:=ai.trans ((F.fd (11,(λ v=>v)) (by simp) (bK j 11)).2.trans q.1);clear ai fc;go_simp;exact r.out _ B (Pl.any rfl) (F.part 13 (by decide) (bK j 10) (by intro p R e;simp only [List.mem_cons,List.not_mem_nil,or_false] at R;rcases R with rfl | rfl | rfl | rfl <;> first | exact absurd e (by decide) | (rw [q.1];try rfl)))
    refine rN rfl (λ L d A B o j z U F K r=>?_) ?_
    ·go_simp;exact r.out _ _ (Pl.any rfl) (F.box o (by decide) (λ h=>o (z 15 14 (by kernel_rfl) h)) rfl)
    refine rN rfl (λ L d A B o j z U F K r=>?_) ?_
    ·have e6:=U.x 14 6;have a4:=U.x 12 43;have fc:=F.fc (bK j 10);refine fc.elim λ B3 q=>?_
     refine q.elim λ d3 q=>?_
     refine q.elim λ f3 q=>?_
     refine q.elim λ B4 q=>?_
     refine q.elim λ d4 q=>?_
     refine q.elim λ f4 q=>?_
     refine q.elim λ B5 q=>?_
     refine q.elim λ d5 q=>?_
     refine q.elim λ f5 q=>?_
     refine q.elim λ y q=>?_
     refine(F.fa (bK j 14)).elim λ g qa=>?_
     refine qa.2.2.1.elim λ cs qc=>?_
     have aO:cs.length=12:=qc.1;have aY:d 12=.agg ⟨(msC (.slice B3 d3 f3) (.slice B4 d4 f4) (.slice B5 d5 f5) y)⟩:=by rw [(F.fd (12,ext 0) (by simp) (bK j 12)).2,q.1];rfl
     refine wp_sm 57 _ _ rfl g 0 (msC (.slice B3 d3 f3) (.slice B4 d4 f4) (.slice B5 d5 f5) y) cs (ev (e6.trans qa.1)) (ev (a4.trans aY)) 57 qc.2 (by kernel_rfl) (Nat.le_of_eq aO.symm) rfl ?_;exact r.out undef _ (Pl.any rfl) (F.wrote (by decide) (bK j 10) (bK j 14) qa.1 qa.2.1 qc.2 (by rw [q.1];exact setL_all cs _ aO))
    refine rN rfl (λ L d A B o j z U F K r=>?_) ?_
    ·have aQ:=U.x 13 44;have fc:=F.fc (bK j 10);refine fc.elim λ B3 q=>?_
     refine q.elim λ d3 q=>?_
     refine q.elim λ f3 q=>?_
     refine q.elim λ B4 q=>?_
     refine q.elim λ d4 q=>?_
     refine q.elim λ f4 q=>?_
     refine q.elim λ B5 q=>?_
     refine q.elim λ d5 q=>?_
     refine q.elim λ f5 q=>?_
     refine q.elim λ y q=>?_
     have bb:=aQ.trans ((F.fd (13,ext 1) (by simp) (bK j 13)).2.trans (by rw [q.1];try rfl));clear fc aQ;go_simp;exact r.out _ B (Pl.any rfl) (F.part 16 (by decide) (bK j 10) (by intro p R e;simp only [List.mem_cons,List.not_mem_nil,or_false] at R;rcases R with rfl | rfl | rfl | rfl <;> first | exact absurd e (by decide) | (rw [q.1];try rfl)))
    exact RelFrom.nil (by decide)
   intro d B R F;simp only [Fr,Act.put,sX,Nat.reduceAdd];obtain⟨gx,az,bf,-,aL⟩:=F.fa trivial;have R6:=(F.fw trivial).2 gx az;obtain⟨B3,d3,f3,B4,d4,f4,B5,d5,f5,y,af,ag⟩:=aL trivial;have ap:d 16=.bool X2.isSome:=(F.fd (16,ext 1) (by simp) trivial).2.trans (by rw [af];try rfl);rw [af] at R6;have R6:RowB B gx 57 (msC (.slice B3 d3 f3) (.slice B4 d4 f4) (.slice B5 d5 f5) y):=R6;rw [az,ap];have aP:=F.bel;have K:=KB.below aP;have aJ:g4<wr.heap.size:=r.out.r4.lt;have aD:=kD ag;clear F R af ap aL az CN r Q P O N J I m E ca cb cc cd H a ag aP;have E:=K.k.nth0 0 rfl;obtain⟨Q,P,O,N,J,I⟩:=E.c6;have m:=E.lt
   cases X2 with
   | none =>
    have aC:X=none:=by rw [ao.out];rfl
    subst aC;have K:=K.k;clear ao aD R6;have rr:=K.nth 1 rfl;have V:=K.bel;go_wp2_with (refine wM 57 0 (nulMC) rr ?_;intro w7 s7 S z7;refine Hid.out ?_);have ah:Below w.heap.size w w7:=V.grown S V.size (λ k hk=>by simp at hk;omega);obtain⟨z0,z1,z2,z3,z4,z5,z6,ac,z8,z9,ae,ad⟩:=row12 s7;have aK:=s7.lt;clear S rr K V Q P O N J I m E;refine kD ?_
    repeat (first | go_values | go_skip | go_step | go_upon)
    refine bodyPost_ret (v:=.tuple #[.agg ⟨nulMC⟩,.bool false]) (by simp [results,results21,go_sem,nulMC,msC,nulM,nulG,z0,z1,z2,z3,z4,z5,z6,ac,z8,z9,ae,ad]) rfl ?_;exact⟨_,rfl,⟨_,_,_,_,_,_,_,_,_,_,rfl,λ x0 h=>by cases h⟩,ah⟩
   | some y0 =>
   obtain⟨rfl,G⟩:=aD.out _ rfl;have aT:=kD (aS.out y rfl);have a5:Hid (X=enS v n y (es.drop (k+1))):=ao;have bd:=iW (((k:Int)+1));obtain⟨ar,y1,y2,y3,y4,y5,y6,y7,y8,y9,D,C⟩:=row12 R6;have ax:=R6.lt;have R4:=K.r4;have aM:=R4.lt;clear ao aD aS;go_upto_region 6 with (first | (refine wM 57 0 (msC (.slice B3 d3 f3) (.slice B4 d4 f4) (.slice B5 d5 f5) y) R4 ?_;intro bc aF aq aW));have K2:=K.st aF aq (G.weak (λ b h hl=>⟨by have:=h.1;have:=h.2;have:=K.k.bel.size;have:=K.lo;omega,by have:=h.2;omega⟩));have a8:=kD K2;clear ar y1 y2 y3 y4 y5 y6 y7 y8 y9 D C ax R4 aF aq aW K G K2 Q P O N J I m E aM R6;go_wp2_with fail;go_roundw
   case rel=>exact⟨k+1,y,_,_,_,by first | rfl | go_num,by omega,a8,aT,a5⟩
   case measure=>simp [intOf];omega
  ·obtain rfl:M=k:=by omega
   have a2:X=some x:=by rw [hQ.out,<-HM.out];exact enS_end x
   subst a2;obtain⟨ar,y1,y2,y3,y4,y5,y6,y7,y8,y9,D,C⟩:=row12 K.r4;have ax:=K.r4.lt;have rr:=K.k.nth 1 rfl;have G:=K.ms;have aJ:=K.lo;have aB:=K.k.bel;simp only [List.length_cons,List.length_nil,Nat.zero_add,Nat.reduceAdd] at G;clear hQ am;go_wp2_with (refine wM 57 0 (msC (.slice B0 2 d0) (.slice B1 x.g.b.1.length d1) (.slice B2 x.g.b.2.length d2) x) rr ?_;intro w7 s7 S z7;refine Hid.out ?_);have ah:Below w.heap.size w w7:=aB.grown S aB.size (λ k hk=>by simp at hk;omega);have aI:MsR w7 (λ b=>False∨w.heap.size<=b) _ _ _ x:=(G.keep (Still.grown S (λ k hk hn=>by simp at hk;have:=hn.1;omega))).weak (λ b h _=>.inr (by have:=h.1;omega));obtain⟨z0,z1,z2,z3,z4,z5,z6,ac,z8,z9,ae,ad⟩:=row12 s7;have aK:=s7.lt;clear S rr aB G ar y1 y2 y3 y4 y5 y6 y7 y8 y9 D C ax Q P O N J I m E K r aJ;refine kD ?_
   repeat (first | go_values | go_skip | go_step | go_upon)
   refine bodyPost_ret (v:=.tuple #[.agg ⟨msC (.slice B0 2 d0) (.slice B1 x.g.b.1.length d1) (.slice B2 x.g.b.2.length d2) x⟩,.bool true]) (by simp [results,results21,go_sem,msC,z0,z1,z2,z3,z4,z5,z6,ac,z8,z9,ae,ad]) rfl ?_;exact⟨_,rfl,⟨_,_,_,_,_,_,_,_,_,_,rfl,λ x0 h=>by obtain rfl:=Option.some.inj h;exact⟨rfl,aI⟩⟩,ah⟩
end Gm
end Go.Proofs.YtjdefiinmicjiaaGreatDoor
