/- Parts of the proof of FnEventText. Conditions: each theorem's own. -/
import Derived.Test.YtjdefiinmicjiaaGreatDoorU24
set_option linter.unusedVariables false
set_option linter.unusedSimpArgs false
set_option maxHeartbeats 8000000
set_option maxRecDepth 100000
namespace Go.Proofs.YtjdefiinmicjiaaGreatDoor
namespace Gm
open Go Go.ChangeShapes Go.WideShapes Go.ChangeAt Go.RowKit Base Ints Own RelG PlP TxP Num Bd1 Bd5 RegInv RegF RegG TxI
def RelEr:Rel ERow Ev where
 R:=λ w S r x=>(r.1=x.k∧r.2.1=x.a∧r.2.2.1=x.b∧r.2.2.2.2=x.r)∧∃ As cp,r.2.2.2.1=.slice As x.ss.length cp∧RdF w S 4 enSt As x.ss
 keep:=λ⟨e,A,c,h,k⟩ hs=>⟨e,A,c,h,k.keep hs⟩
 weak:=λ⟨e,A,c,h,k⟩ hs=>⟨e,A,c,h,k.weak hs⟩
def EvL (w:World) (S:Nat->Prop) (A:Option Addr) (es:List Ev):Prop:=∃ rs:List ERow,RdF w S 5 enEv A rs∧LsR RelEr w S rs es
theorem EvL.keep {w w':World} {S:Nat->Prop} {A:Option Addr} {es:List Ev} (h:EvL w S A es) (hs:Still S w w'):EvL w' S A es:=by
 obtain⟨a,c,b⟩:=h;exact⟨a,c.keep hs,b.keep hs⟩
theorem EvL.len {w:World} {S:Nat->Prop} {A:Option Addr} {es:List Ev} (h:EvL w S A es):es.length<=9223372036854775807:=by
 obtain⟨e,d,c⟩:=h;have a:=d.len;have b:=c.1;omega
theorem EvL.at_ {w:World} {S:Nat->Prop} {A:Option Addr} {es:List Ev} (h:EvL w S A es) {i:Nat} (hi:i<es.length) :
  ∃(b o:Nat) (e:Ev) (As:Option Addr) (cp:Nat),A=some ⟨b,o,none⟩∧es[i]?=some e∧b<w.heap.size∧RdF w S 4 enSt As e.ss ∧
   (w.cell? ⟨b,o+i*5,none⟩=some (.int .i64 e.k)∧w.cell? ⟨b,o+i*5+1,none⟩=some (.int .i64 e.a)∧w.cell? ⟨b,o+i*5+2,none⟩=some (.int .i64 e.b)∧w.cell? ⟨b,o+i*5+3,none⟩=some (.slice As e.ss.length cp)∧w.cell? ⟨b,o+i*5+4,none⟩=some (.int .i64 e.r)):=by
 obtain⟨D,v,d⟩:=h;obtain⟨b,o,r,t,-,s,n,c⟩:=v.at_ (i:=i) (by rw [d.1];exact hi);obtain⟨e,q,⟨C,B,z,x⟩,As,cp,y,p⟩:=d.at_ n;have m:=c 0 _ rfl;have l:=c 1 _ rfl;have j:=c 2 _ rfl;have g:=c 3 _ rfl;have f:=c 4 _ rfl;rw [C] at m;rw [B] at l;rw [z] at j;rw [y] at g;rw [x] at f;exact⟨b,o,e,As,cp,t,q,s,p,by simpa using m,by simpa using l,by simpa using j,by simpa using g,by simpa using f⟩
def enS (v:Vr) (n:Int):Ms->List Ev->Option Ms
 | x,[]=>some x
 | x,e :: es=>match nextS v n x e with
  | some y=>enS v n y es
  | none=>none
def finS (v:Vr) (n:Int) (es:List Ev):Option Ms:=if headB v n=false∨300<es.length then none else enS v n (startS v) es
def enX (v:Vr) (n:Int) (es:List Ev):Option Ms->Option Ms
 | none=>none
 | some y=>enS v n y es
theorem enS_drop {v:Vr} {n:Int} {es:List Ev} {k:Nat} {e:Ev} (x:Ms) (h:es[k]?=some e):enS v n x (es.drop k)=enX v n (es.drop (k+1)) (nextS v n x e):=by
 obtain⟨a,b⟩:=List.getElem?_eq_some_iff.1 h;rw [List.drop_eq_getElem_cons a,b];simp only [enS]
 cases nextS v n x e <;> rfl
theorem enS_end {v:Vr} {n:Int} {es:List Ev} (x:Ms):enS v n x (es.drop es.length)=some x:=by rw [List.drop_eq_nil_of_le (Nat.le_refl _)];rfl
structure Sl (w wr:World) (v:Vr) (n:Int) (ev:Value) (g4:Nat) (su u1 u2:Value) (x:Ms):Prop where
 k:Rows w wr [(0,37,[.int .i64 v.p,.int .i64 v.c,.int .i64 v.h,.int .i64 v.s,.int .i64 n,ev]),(1,57,nulMC)]
 r4:RowB wr g4 57 (msC su u1 u2 x)
 ms:MsR wr (λ b=>w.heap.size+2<=b∧b≠g4) su u1 u2 x
 lo:w.heap.size+2<=g4
section
variable {w wr w':World} {g4:Nat} {v:Vr} {n:Int} {ev:Value} {su u1 u2:Value} {x:Ms}
theorem Sl.below (K:Sl w wr v n ev g4 su u1 u2 x) (hb:Below wr.heap.size wr w'):Sl w w' v n ev g4 su u1 u2 x :=
 ⟨K.k.below hb,K.r4.below hb K.r4.lt,K.ms.below hb,K.lo⟩
theorem Sl.st {su' u1' u2':Value} {x':Ms} (K:Sl w wr v n ev g4 su u1 u2 x) (h:RowB w' g4 57 (msC su' u1' u2' x')) (hg:wr.grownBy w' (some g4)) (hm:MsR wr (λ b=>w.heap.size+2<=b∧b≠g4) su' u1' u2' x'):Sl w w' v n ev g4 su' u1' u2' x':=by
 have l:=K.lo;have d:=K.k.bel.size;refine⟨⟨K.k.bel.grown hg d (λ k a=>by simp at a;omega),λ p c=>?_⟩,h,hm.keep (Still.grown hg (λ k a e=>by simp at a;exact e.2 a.symm)),l⟩;have f:=K.k.at_ _ c;simp only [List.mem_cons,List.not_mem_nil,or_false] at c;rcases c with rfl | rfl <;> exact f.grown hg (λ k a=>by simp at a;simp only;omega)
end
theorem lstate_s (v:Vr) (n:Int) (es:List Ev) (Ae:Option Addr) (ce:Nat) (w:World) (hes:EvL w All Ae es) (X:Option Ms) (hX:finS v n es=X) :
  Calls Tryz.prog 21 #[.agg #[.int .i64 v.p,.int .i64 v.c,.int .i64 v.h,.int .i64 v.s,.int .i64 n,.slice Ae es.length ce]] w λ f w'=>Ret RelMO X (λ _=>False) w f w':=by
 obtain⟨hd,ay⟩:∃ b,headB v n=b:=⟨_,rfl⟩;have CH:=kD (λ(B:World)=>head_s v n hd ay B);have a3:=hes.len;have a9:=kD (λ(B:World) (h9:Below w.heap.size w B)=>hes.keep (.below h9));obtain⟨M,hM⟩:∃ M,es.length=M:=⟨_,rfl⟩;rw [hM] at a3 ⊢;have HM:=kD hM;have an:=kD hX;have aE:=kD ay;obtain⟨aj,ht⟩:∃ t,(!hd || decide (300<M))=t:=⟨_,rfl⟩;have HT:=kD ht;clear hes hM hX ay ht;go_enter Tryz.func21,Tryz.ntmps21;go_upto_region 1 with fail;refine wp_gen (λ W'=>Rows w W' [(0,37,[.int .i64 v.p,.int .i64 v.c,.int .i64 v.h,.int .i64 v.s,.int .i64 n,.slice Ae M ce]),(1,57,nulMC)]) ⟨by go_grown,λ p R=>?_⟩ ?_
 ·simp only [List.mem_cons,List.not_mem_nil,or_false] at R;rcases R with rfl | rfl
  ·exact(RowB.new _ _ _).alloc _
  ·exact RowB.new' _ _ _ (by simp)
 intro w1 K;have E:=K.nth0 0 rfl;have av:=K.nth 1 rfl;obtain⟨Q,P,O,N,J,I⟩:=E.c6;have m:=E.lt;go_cut [19] from 8 to 19 (λ aX wx=>aX=.bool aj∧Below w1.heap.size w1 wx)
 case first =>
  cases hd with
  | false =>
   have ht:aj=true:=by rw [<-HT.out];rfl
   subst ht;go_wp2_with fail;refine(CH.out _).mono ?_;rintro e w2 ⟨rfl,hb⟩;go_wp2_with fail;go_meet;exact⟨rfl,hb⟩
  | true =>
   have ht:aj=decide (300<M):=by rw [<-HT.out];simp
   subst ht;go_wp2_with fail;refine(CH.out _).mono ?_;rintro e w2 ⟨rfl,hb⟩;have E:=(K.below hb).nth0 0 rfl;clear Q P O N J I m;obtain⟨Q,P,O,N,J,I⟩:=E.c6;have m:=E.lt;go_wp2_with fail;go_meet;exact⟨by first | rfl | (congr 1;simp;done) | (by_cases h3:300<M <;> simp [h3] <;> omega),hb⟩
 case rest =>
 obtain⟨rfl,hb⟩:=hcut;have K:=K.below hb;clear hb CH Q P O N J I m E av;have E:=K.nth0 0 rfl;have av:=K.nth 1 rfl;obtain⟨Q,P,O,N,J,I⟩:=E.c6;have m:=E.lt
 cases aj with
 | true =>
  have aC:X=none:=by
   rw [<-an.out];unfold finS;rw [if_pos];have h:=HT.out;rw [aE.out,HM.out]
   cases hd with
   | false=>exact .inl rfl
   | true=>exact .inr (by simpa using h)
  subst aC;clear an;have rr:=K.nth 1 rfl;have V:=K.bel;go_wp2_with (refine wM 57 0 (nulMC) rr ?_;intro w7 s7 S z7;refine Hid.out ?_);have ah:Below w.heap.size w w7:=V.grown S V.size (λ k hk=>by simp at hk;omega);obtain⟨z0,z1,z2,z3,z4,z5,z6,ac,z8,z9,ae,ad⟩:=row12 s7;have aK:=s7.lt;clear S rr K V Q P O N J I m E;refine kD ?_
  repeat (first | go_values | go_skip | go_step | go_upon)
  refine bodyPost_ret (v:=.tuple #[.agg ⟨nulMC⟩,.bool false]) (by simp [results,Tryz.results21,go_sem,nulMC,msC,nulM,nulG,z0,z1,z2,z3,z4,z5,z6,ac,z8,z9,ae,ad]) rfl ?_;exact⟨_,rfl,⟨_,_,_,_,_,_,_,_,_,_,rfl,λ x0 h=>by cases h⟩,ah⟩
 | false =>
 have hh:headB v n=true∧M<=300:=by
  have h:=HT.out;rw [aE.out]
  cases hd with
  | false=>cases h
  | true=>exact⟨rfl,by simpa using h⟩
 have a6:Hid (X=enS v n (startS v) es):=by
  show _=_
  rw [<-an.out];unfold finS;rw [if_neg (λ h=>h.elim (λ h=>by rw [hh.1] at h;cases h) (λ h=>by rw [HM.out] at h;omega))]
 have bg:M<=300:=hh.2;have ak:=head_parts hh.1;have CF:=kD (λ(B:World)=>fst_s v ak.1 ak.2.1 B);have a7:=kD (start_ms hh.1);have aV:=kD (show 1<=n∧n<=25 from ak.2.2);clear hh ak an HT aE;go_wp2_with fail;refine(CF.out _).mono ?_;rintro e w3 ⟨v6,rfl,⟨su,u1,u2,rfl,G⟩,hb⟩;have aZ:=(K.nth 1 rfl).lt;have aH:=hb.size;have K:=K.below hb;clear hb CF Q P O N J I m E av;obtain⟨⟨A0,c0,rfl,-,-⟩,⟨A1,c1,rfl,-,-⟩,⟨A2,c2,rfl,-,-⟩⟩:=id G;have aU:=kD (show MsR w3 (λ b=>w.heap.size+2<=b∧b≠w3.heap.size) _ _ _ (startS v) from G.weak (λ b h hl=>by
  have h:=h.elim False.elim id;exact⟨by omega,by omega⟩))
 clear G;simp only [msC,List.length_cons,List.length_nil,Nat.zero_add,Nat.reduceAdd];go_upto_region 4 with fail;refine wp_gen (λ W'=>Sl w W' v n (.slice Ae M ce) w3.heap.size (.slice A0 2 c0) (.slice A1 (startS v).g.b.1.length c1) (.slice A2 (startS v).g.b.2.length c2) (startS v)) ⟨K.below ((Below.refl _ _).alloc (Nat.le_refl _) _),RowB.new _ _ _,aU.out.keep (.below ((Below.refl _ _).alloc (Nat.le_refl _) _)),by omega⟩ ?_;clear K aU;obtain⟨g4,aN⟩:∃ q,w3.heap.size=q:=⟨_,rfl⟩;rw [aN] at aH ⊢;clear aN;intro w4 K;have HK:=kD K;clear K aZ aH;go_wp2_with fail;go_loopw [3,5,6,7] (λ _ s5 _ _ wr=>∃(k:Nat) (x:Ms) (su u1 u2:Value),s5=.int .i64 (k:Int)∧k<=M∧Hid (Sl w wr v n (.slice Ae M ce) g4 su u1 u2 x)∧Hid (MsOk v n k x)∧Hid (X=enS v n x (es.drop k))) (λ _ s5 _ _ _=>M - (intOf s5).toNat)
 case atStart=>exact⟨0,startS v,_,_,_,by first | rfl | trivial,Nat.zero_le _,HK,a7,a6⟩
 case round =>
  obtain⟨k,x,su,u1,u2,rfl,be,r,am,hQ⟩:=hrel;obtain⟨⟨B0,d0,rfl,-,-⟩,⟨B1,d1,rfl,-,-⟩,⟨B2,d2,rfl,-,-⟩⟩:=id r.out.ms;have K:=r.out;have E:=K.k.nth0 0 rfl;obtain⟨Q,P,O,N,J,I⟩:=E.c6;have m:=E.lt;by_cases hlt:k<M
  ·obtain⟨ba,oa,e,As,cs,rfl,aA,a,aw,ca,cb,cc,cd,H⟩:=(a9.out wr K.k.bel).at_ (i:=k) (by rw [HM.out];exact hlt);have bs:=kD aA;obtain⟨X2,al⟩:∃ X2,nextS v n x e=X2:=⟨_,rfl⟩;have CN:=kD (λ(B:World) (h9:Below wr.heap.size wr B)=>next_s v n k x am.out (by omega) aV.out (λ b=>w.heap.size+2<=b∧b≠g4) _ _ _ e As cs B.heap.size B (Nat.le_refl _) (K.ms.below h9) (aw.keep (.below h9)).rd X2 al);have ao:Hid (X=enX v n (es.drop (k+1)) X2):=by
    show _=_
    rw [hQ.out,enS_drop x aA,al]
   have aS:=kD (λ y (h:X2=some y)=>next_ms aV.out.1 am.out (h ▸ al));obtain⟨ek,ea,eb,ss,er⟩:=e;simp only at ca cb cc cd H CN aw;obtain⟨sl,aG⟩:∃ q,ss.length=q:=⟨_,rfl⟩;rw [aG] at cd CN;simp only [List.length_cons,List.length_nil,Nat.zero_add,Nat.reduceAdd] at K CN;clear aA al aw aG hQ am;have KB:=K;go_upto_region 7 with fail;refine region_rel [some 32,some 33,some 34,some 35,some 36,some 37,some 38,some 39,some 40,some 41,some 42,some 31,some 43,some 44,some 6,none,some 7] 17 (Pl [some (.pointer (some ⟨w.heap.size,0,none⟩)),some (.agg #[.int .i64 v.p,.int .i64 v.c,.int .i64 v.h,.int .i64 v.s]),some (.pointer (some ⟨w.heap.size,4,none⟩)),some (.int .i64 n),some (.agg #[.slice B0 2 d0,.int .i64 x.gs,.slice B1 x.g.b.1.length d1,.slice B2 x.g.b.2.length d2,.int .i64 x.g.pl,.int .i64 x.g.x,.int .i64 x.g.y,.int .i64 x.g.ph,.int .i64 x.g.wn,.int .i64 x.g.rs,.int .i64 x.g.tn,.bool x.ov]),some (.pointer (some ⟨w.heap.size,5,none⟩)),some (.slice (some ⟨ba,oa,none⟩) M ce),some (.int .i64 (k:Int)),some (.pointer (some ⟨ba,oa+k*5,none⟩)),some (.agg #[.int .i64 ek,.int .i64 ea,.int .i64 eb,.slice As sl cs,.int .i64 er]),none,none,none,none,none,none,none]) (λ L d w'=>CbF (inS RelMO (λ b=>wr.heap.size<=b)) X2 wr 10 14 15 [(11,(λ v=>v)),(12,ext 0),(13,ext 1),(16,ext 1)] (λ v=>aggC (ext 0 v)) 57 12 L d w') (by kernel_rfl) (by kernel_rfl) (by kernel_rfl) (by kernel_rfl) (by kernel_rfl) (by kernel_rfl) (by first | kernel_rfl | rfl) ?g0_1 ?gst_1 ?gfin_1
   case g0_1=>exact⟨(Below.refl _ _).drew,λ h=>absurd h (by decide),λ p R h=>absurd h (by simp only [List.mem_cons,List.not_mem_nil,or_false] at R;rcases R with rfl | rfl | rfl | rfl <;> decide),λ h=>absurd h (by decide),λ h=>absurd h (by decide)⟩
   case gst_1 =>
    refine rN rfl (λ L d A B o j z U F K r=>?_) ?_
    ·have e1:=U.w 1 (.pointer (some ⟨w.heap.size,0,none⟩));have l:=KB.below F.bel;obtain⟨Q,P,O,N,J,I⟩:=(l.k.nth0 0 rfl).c6;have m:=(l.k.nth0 0 rfl).lt;obtain⟨y0,y1,y2,y3,y4,y5,y6,y7,y8,y9,D,C⟩:=row12 l.r4;have T:=l.r4.lt;have ab:=(F.bel.cell a).trans ca;have aa:=(F.bel.cell a).trans cb;have Z:=(F.bel.cell a).trans cc;have Y:=(F.bel.cell a).trans cd;have W:=(F.bel.cell a).trans H;clear l;go_simp;exact pF r (F.skip 0 _)
    refine rN rfl (λ L d A B o j z U F K r=>?_) ?_
    ·have br:=U.v 0 32;have l:=KB.below F.bel;obtain⟨Q,P,O,N,J,I⟩:=(l.k.nth0 0 rfl).c6;have m:=(l.k.nth0 0 rfl).lt;obtain⟨y0,y1,y2,y3,y4,y5,y6,y7,y8,y9,D,C⟩:=row12 l.r4;have T:=l.r4.lt;have ab:=(F.bel.cell a).trans ca;have aa:=(F.bel.cell a).trans cb;have Z:=(F.bel.cell a).trans cc;have Y:=(F.bel.cell a).trans cd;have W:=(F.bel.cell a).trans H;clear l;go_simp;exact pF r (F.skip 1 _)
    refine rN rfl (λ L d A B o j z U F K r=>?_) ?_
    ·have e1:=U.w 1 (.pointer (some ⟨w.heap.size,0,none⟩));have l:=KB.below F.bel;obtain⟨Q,P,O,N,J,I⟩:=(l.k.nth0 0 rfl).c6;have m:=(l.k.nth0 0 rfl).lt;obtain⟨y0,y1,y2,y3,y4,y5,y6,y7,y8,y9,D,C⟩:=row12 l.r4;have T:=l.r4.lt;have ab:=(F.bel.cell a).trans ca;have aa:=(F.bel.cell a).trans cb;have Z:=(F.bel.cell a).trans cc;have Y:=(F.bel.cell a).trans cd;have W:=(F.bel.cell a).trans H;clear l;go_simp;exact pF r (F.skip 2 _)
    refine rN rfl (λ L d A B o j z U F K r=>?_) ?_
    ·have bp:=U.v 2 34;have l:=KB.below F.bel;obtain⟨Q,P,O,N,J,I⟩:=(l.k.nth0 0 rfl).c6;have m:=(l.k.nth0 0 rfl).lt;obtain⟨y0,y1,y2,y3,y4,y5,y6,y7,y8,y9,D,C⟩:=row12 l.r4;have T:=l.r4.lt;have ab:=(F.bel.cell a).trans ca;have aa:=(F.bel.cell a).trans cb;have Z:=(F.bel.cell a).trans cc;have Y:=(F.bel.cell a).trans cd;have W:=(F.bel.cell a).trans H;clear l;go_simp;exact pF r (F.skip 3 _)
    refine rN rfl (λ L d A B o j z U F K r=>?_) ?_
    ·have e4:=U.w 4 (.pointer (some ⟨g4,0,none⟩));have l:=KB.below F.bel;obtain⟨Q,P,O,N,J,I⟩:=(l.k.nth0 0 rfl).c6;have m:=(l.k.nth0 0 rfl).lt;obtain⟨y0,y1,y2,y3,y4,y5,y6,y7,y8,y9,D,C⟩:=row12 l.r4;have T:=l.r4.lt;have ab:=(F.bel.cell a).trans ca;have aa:=(F.bel.cell a).trans cb;have Z:=(F.bel.cell a).trans cc;have Y:=(F.bel.cell a).trans cd;have W:=(F.bel.cell a).trans H;clear l;go_simp;exact pF r (F.skip 4 _)
    refine rN rfl (λ L d A B o j z U F K r=>?_) ?_
    ·have e1:=U.w 1 (.pointer (some ⟨w.heap.size,0,none⟩));have l:=KB.below F.bel;obtain⟨Q,P,O,N,J,I⟩:=(l.k.nth0 0 rfl).c6;have m:=(l.k.nth0 0 rfl).lt;obtain⟨y0,y1,y2,y3,y4,y5,y6,y7,y8,y9,D,C⟩:=row12 l.r4;have T:=l.r4.lt;have ab:=(F.bel.cell a).trans ca;have aa:=(F.bel.cell a).trans cb;have Z:=(F.bel.cell a).trans cc;have Y:=(F.bel.cell a).trans cd;have W:=(F.bel.cell a).trans H;clear l;go_simp;exact pF r (F.skip 5 _)
    refine rN rfl (λ L d A B o j z U F K r=>?_) ?_
    ·have bm:=U.v 5 37;have l:=KB.below F.bel;obtain⟨Q,P,O,N,J,I⟩:=(l.k.nth0 0 rfl).c6;have m:=(l.k.nth0 0 rfl).lt;obtain⟨y0,y1,y2,y3,y4,y5,y6,y7,y8,y9,D,C⟩:=row12 l.r4;have T:=l.r4.lt;have ab:=(F.bel.cell a).trans ca;have aa:=(F.bel.cell a).trans cb;have Z:=(F.bel.cell a).trans cc;have Y:=(F.bel.cell a).trans cd;have W:=(F.bel.cell a).trans H;clear l;go_simp;exact pF r (F.skip 6 _)
    refine rN rfl (λ L d A B o j z U F K r=>?_) ?_
    ·have e5:=U.w 5 (.int .i64 (k:Int));go_simp;exact pF r (F.skip 7 _)
    refine rN rfl (λ L d A B o j z U F K r=>?_) ?_
    ·have bl:=U.v 6 38;have bk:=U.v 7 39;go_simp;exact pF r (F.skip 8 _)
    refine rN rfl (λ L d A B o j z U F K r=>?_) ?_
    ·have bj:=U.v 8 40;have l:=KB.below F.bel;obtain⟨Q,P,O,N,J,I⟩:=(l.k.nth0 0 rfl).c6;have m:=(l.k.nth0 0 rfl).lt;obtain⟨y0,y1,y2,y3,y4,y5,y6,y7,y8,y9,D,C⟩:=row12 l.r4;have T:=l.r4.lt;have ab:=(F.bel.cell a).trans ca;have aa:=(F.bel.cell a).trans cb;have Z:=(F.bel.cell a).trans cc;have Y:=(F.bel.cell a).trans cd;have W:=(F.bel.cell a).trans H;clear l;go_simp;exact pF r (F.skip 9 _)
    refine rN rfl (λ L d A B o j z U F K r=>?_) ?_
    ·have bq:=U.v 1 33;have bo:=U.v 3 35;have bn:=U.v 4 36;have bi:=U.v 9 41;go_simp;refine(CN.out B F.bel).mono ?_;rintro e w6 ⟨v6,rfl,a0,a1⟩;exact r.out v6 w6 (Pl.any rfl) (F.call o (by decide) a1 (RelMO.weak a0 (λ b hb _=>hb.elim False.elim (λ h=>⟨.inr h,by have:=F.bel.size;omega⟩))))
    refine rN rfl (λ L d A B o j z U F K r=>?_) ?_
    ·have bh:=U.x 10 42;go_simp;exact r.out _ B (Pl.any rfl) (F.part 11 (by decide) (bK j 10) (by intro p R e;simp only [List.mem_cons,List.not_mem_nil,or_false] at R;rcases R with rfl | rfl | rfl | rfl <;> first | exact absurd e (by decide) | rfl))
    refine rN rfl (λ L d A B o j z U F K r=>?_) ?_
    ·have ai:=U.x 11 31;have fc:=F.fc (bK j 10);refine fc.elim λ B3 q=>?_
     refine q.elim λ d3 q=>?_
     refine q.elim λ f3 q=>?_
     refine q.elim λ B4 q=>?_
     refine q.elim λ d4 q=>?_
     refine q.elim λ f4 q=>?_
     refine q.elim λ B5 q=>?_
     refine q.elim λ d5 q=>?_
     refine q.elim λ f5 q=>?_
     refine q.elim λ y q=>?_
     have aR:=ai.trans ((F.fd (11,(λ v=>v)) (by simp) (bK j 11)).2.trans q.1);clear ai fc;go_simp;exact r.out _ B (Pl.any rfl) (F.part 12 (by decide) (bK j 10) (by intro p R e;simp only [List.mem_cons,List.not_mem_nil,or_false] at R;rcases R with rfl | rfl | rfl | rfl <;> first | exact absurd e (by decide) | (rw [q.1];try rfl)))
    refine rN rfl (λ L d A B o j z U F K r=>?_) ?_
    ·have ai:=U.x 11 31;have fc:=F.fc (bK j 10);refine fc.elim λ B3 q=>?_
     refine q.elim λ d3 q=>?_
     refine q.elim λ f3 q=>?_
     refine q.elim λ B4 q=>?_
     refine q.elim λ d4 q=>?_
     refine q.elim λ f4 q=>?_
     refine q.elim λ B5 q=>?_
     refine q.elim λ d5 q=>?_
     refine q.elim λ f5 q=>?_
     refine q.elim λ y q=>?_
     have aR:=ai.trans ((F.fd (11,(λ v=>v)) (by simp) (bK j 11)).2.trans q.1);clear ai fc;go_simp;exact r.out _ B (Pl.any rfl) (F.part 13 (by decide) (bK j 10) (by intro p R e;simp only [List.mem_cons,List.not_mem_nil,or_false] at R;rcases R with rfl | rfl | rfl | rfl <;> first | exact absurd e (by decide) | (rw [q.1];try rfl)))
    refine rN rfl (λ L d A B o j z U F K r=>?_) ?_
    ·go_simp;exact r.out _ _ (Pl.any rfl) (F.box o (by decide) (λ h=>o (z 15 14 (by kernel_rfl) h)) rfl)
    refine rN rfl (λ L d A B o j z U F K r=>?_) ?_
    ·have e6:=U.x 14 6;have a4:=U.x 12 43;have fc:=F.fc (bK j 10);refine fc.elim λ B3 q=>?_
     refine q.elim λ d3 q=>?_
     refine q.elim λ f3 q=>?_
     refine q.elim λ B4 q=>?_
     refine q.elim λ d4 q=>?_
     refine q.elim λ f4 q=>?_
     refine q.elim λ B5 q=>?_
     refine q.elim λ d5 q=>?_
     refine q.elim λ f5 q=>?_
     refine q.elim λ y q=>?_
     refine(F.fa (bK j 14)).elim λ g qa=>?_
     refine qa.2.2.1.elim λ cs qc=>?_
     have aO:cs.length=12:=qc.1;have aY:d 12=.agg ⟨(msC (.slice B3 d3 f3) (.slice B4 d4 f4) (.slice B5 d5 f5) y)⟩:=by rw [(F.fd (12,ext 0) (by simp) (bK j 12)).2,q.1];rfl
     refine wp_sm 57 _ _ rfl g 0 (msC (.slice B3 d3 f3) (.slice B4 d4 f4) (.slice B5 d5 f5) y) cs (ev (e6.trans qa.1)) (ev (a4.trans aY)) 57 qc.2 (by kernel_rfl) (Nat.le_of_eq aO.symm) rfl ?_;exact r.out undef _ (Pl.any rfl) (F.wrote (by decide) (bK j 10) (bK j 14) qa.1 qa.2.1 qc.2 (by rw [q.1];exact setL_all cs _ aO))
    refine rN rfl (λ L d A B o j z U F K r=>?_) ?_
    ·have aQ:=U.x 13 44;have fc:=F.fc (bK j 10);refine fc.elim λ B3 q=>?_
     refine q.elim λ d3 q=>?_
     refine q.elim λ f3 q=>?_
     refine q.elim λ B4 q=>?_
     refine q.elim λ d4 q=>?_
     refine q.elim λ f4 q=>?_
     refine q.elim λ B5 q=>?_
     refine q.elim λ d5 q=>?_
     refine q.elim λ f5 q=>?_
     refine q.elim λ y q=>?_
     have bb:=aQ.trans ((F.fd (13,ext 1) (by simp) (bK j 13)).2.trans (by rw [q.1];try rfl));clear fc aQ;go_simp;exact r.out _ B (Pl.any rfl) (F.part 16 (by decide) (bK j 10) (by intro p R e;simp only [List.mem_cons,List.not_mem_nil,or_false] at R;rcases R with rfl | rfl | rfl | rfl <;> first | exact absurd e (by decide) | (rw [q.1];try rfl)))
    exact RelFrom.nil (by decide)
   intro d B R F;simp only [Fr,Act.put,sX,Nat.reduceAdd];obtain⟨gx,az,bf,-,aL⟩:=F.fa trivial;have R6:=(F.fw trivial).2 gx az;obtain⟨B3,d3,f3,B4,d4,f4,B5,d5,f5,y,af,ag⟩:=aL trivial;have ap:d 16=.bool X2.isSome:=(F.fd (16,ext 1) (by simp) trivial).2.trans (by rw [af];try rfl);rw [af] at R6;have R6:RowB B gx 57 (msC (.slice B3 d3 f3) (.slice B4 d4 f4) (.slice B5 d5 f5) y):=R6;rw [az,ap];have aP:=F.bel;have K:=KB.below aP;have aJ:g4<wr.heap.size:=r.out.r4.lt;have aD:=kD ag;clear F R af ap aL az CN r Q P O N J I m E ca cb cc cd H a ag aP;have E:=K.k.nth0 0 rfl;obtain⟨Q,P,O,N,J,I⟩:=E.c6;have m:=E.lt
   cases X2 with
   | none =>
    have aC:X=none:=by rw [ao.out];rfl
    subst aC;have K:=K.k;clear ao aD R6;have rr:=K.nth 1 rfl;have V:=K.bel;go_wp2_with (refine wM 57 0 (nulMC) rr ?_;intro w7 s7 S z7;refine Hid.out ?_);have ah:Below w.heap.size w w7:=V.grown S V.size (λ k hk=>by simp at hk;omega);obtain⟨z0,z1,z2,z3,z4,z5,z6,ac,z8,z9,ae,ad⟩:=row12 s7;have aK:=s7.lt;clear S rr K V Q P O N J I m E;refine kD ?_
    repeat (first | go_values | go_skip | go_step | go_upon)
    refine bodyPost_ret (v:=.tuple #[.agg ⟨nulMC⟩,.bool false]) (by simp [results,Tryz.results21,go_sem,nulMC,msC,nulM,nulG,z0,z1,z2,z3,z4,z5,z6,ac,z8,z9,ae,ad]) rfl ?_;exact⟨_,rfl,⟨_,_,_,_,_,_,_,_,_,_,rfl,λ x0 h=>by cases h⟩,ah⟩
   | some y0 =>
   obtain⟨rfl,G⟩:=aD.out _ rfl;have aT:=kD (aS.out y rfl);have a5:Hid (X=enS v n y (es.drop (k+1))):=ao;have bd:IntKind.i64.wrap ((k:Int)+1)=(k:Int)+1:=IntWalk.i64_in _ (by omega);obtain⟨ar,y1,y2,y3,y4,y5,y6,y7,y8,y9,D,C⟩:=row12 R6;have ax:=R6.lt;have R4:=K.r4;have aM:=R4.lt;clear ao aD aS;go_upto_region 6 with (first | (refine wM 57 0 (msC (.slice B3 d3 f3) (.slice B4 d4 f4) (.slice B5 d5 f5) y) R4 ?_;intro bc aF aq aW));have K2:=K.st aF aq (G.weak (λ b h hl=>⟨by have:=h.1;have:=h.2;have:=K.k.bel.size;have:=K.lo;omega,by have:=h.2;omega⟩));have a8:=kD K2;clear ar y1 y2 y3 y4 y5 y6 y7 y8 y9 D C ax R4 aF aq aW K G K2 Q P O N J I m E aM R6;go_wp2_with fail;go_roundw
   case rel=>exact⟨k+1,y,_,_,_,by first | rfl | go_num,by omega,a8,aT,a5⟩
   case measure=>simp [intOf];omega
  ·obtain rfl:M=k:=by omega
   have a2:X=some x:=by rw [hQ.out,<-HM.out];exact enS_end x
   subst a2;obtain⟨ar,y1,y2,y3,y4,y5,y6,y7,y8,y9,D,C⟩:=row12 K.r4;have ax:=K.r4.lt;have rr:=K.k.nth 1 rfl;have G:=K.ms;have aJ:=K.lo;have aB:=K.k.bel;simp only [List.length_cons,List.length_nil,Nat.zero_add,Nat.reduceAdd] at G;clear hQ am;go_wp2_with (refine wM 57 0 (msC (.slice B0 2 d0) (.slice B1 x.g.b.1.length d1) (.slice B2 x.g.b.2.length d2) x) rr ?_;intro w7 s7 S z7;refine Hid.out ?_);have ah:Below w.heap.size w w7:=aB.grown S aB.size (λ k hk=>by simp at hk;omega);have aI:MsR w7 (λ b=>False∨w.heap.size<=b) _ _ _ x:=(G.keep (Still.grown S (λ k hk hn=>by simp at hk;have:=hn.1;omega))).weak (λ b h _=>.inr (by have:=h.1;omega));obtain⟨z0,z1,z2,z3,z4,z5,z6,ac,z8,z9,ae,ad⟩:=row12 s7;have aK:=s7.lt;clear S rr aB G ar y1 y2 y3 y4 y5 y6 y7 y8 y9 D C ax Q P O N J I m E K r aJ;refine kD ?_
   repeat (first | go_values | go_skip | go_step | go_upon)
   refine bodyPost_ret (v:=.tuple #[.agg ⟨msC (.slice B0 2 d0) (.slice B1 x.g.b.1.length d1) (.slice B2 x.g.b.2.length d2) x⟩,.bool true]) (by simp [results,Tryz.results21,go_sem,msC,z0,z1,z2,z3,z4,z5,z6,ac,z8,z9,ae,ad]) rfl ?_;exact⟨_,rfl,⟨_,_,_,_,_,_,_,_,_,_,rfl,λ x0 h=>by obtain rfl:=Option.some.inj h;exact⟨rfl,aI⟩⟩,ah⟩
end Gm
namespace EtP
open PlP Gm DrawD DwP DwQ
theorem enS_app {v:Vr} {n:Int} {e:Ev}:∀(es:List Ev) (x y:Ms),enS v n x es=some y->enS v n x (es++[e])=nextS v n y e:=by
 intro es
 induction es with
 | nil =>
  intro x y h;simp only [enS,Option.some.injEq] at h;subst h;simp only [List.nil_append,enS]
  cases nextS v n x e <;> rfl
 | cons a es ih =>
  intro x y h;simp only [List.cons_append,enS] at h ⊢
  cases hz:nextS v n x a with
  | none=>rw [hz] at h;cases h
  | some z=>rw [hz] at h;exact ih z y h
theorem go_fin {xs:List Int} {v:Vr} {n:Int} (hn:1<=n):∀(j:Nat) (x:Ms) (es:List Ev) (s:St),enS v n (startS v) es=some x->MsOk v n es.length x ->
  ∃ y,enS v n (startS v) (go28 xs v n j x es s).1=some y∧MsOk v n (go28 xs v n j x es s).1.length y∧(go28 xs v n j x es s).1.length<=es.length+j:=by
 intro j
 induction j with
 | zero=>intro x es s e d;exact⟨x,e,d,Nat.le_refl _⟩
 | succ j ih =>
  intro x es s e d;simp only [go28]
  cases hy:nextS v n x (ev28 xs v x s).1 with
  | none =>
   simp only;obtain⟨y,a,b,c⟩:=ih x es (ev28 xs v x s).2 e d;exact⟨y,a,b,by omega⟩
  | some z =>
   simp only;have f:(es++[(ev28 xs v x s).1]).length=es.length+1:=by simp
   obtain⟨y,a,b,c⟩:=ih z (es++[(ev28 xs v x s).1]) (ev28 xs v x s).2 ((enS_app es _ x e).trans hy) (by rw [f];exact next_ms hn d hy);rw [f] at c;exact⟨y,a,b,by omega⟩
theorem v08_fine {xs:List Int} {s:St} (hg:Gd xs s):okV (v08 xs s).1=true∧4<=(v08 xs s).1.p∧Gd xs (v08 xs s).2:=by
 obtain⟨a,l,h⟩:=hg.nb 6;have v:nx xs s 6=(a,l):=h.nx;unfold v08;simp only [v];by_cases ha:a=0
 ·rw [if_pos ha];exact⟨show okV fullV=true from by decide,show (4:Int)<=fullV.p from by decide,h.gd⟩
 ·rw [if_neg ha];obtain⟨p,k,g⟩:=h.gd.nb 5;have t:nx xs l 5=(p,k):=g.nx;obtain⟨c,j,f⟩:=g.gd.nb 4;have r:nx xs k 4=(c,j):=f.nx;obtain⟨d,i,e⟩:=f.gd.nb 3;have o:nx xs j 3=(d,i):=e.nx;obtain⟨q,m,b⟩:=e.gd.nb ((4+p) / 2);have n:nx xs i ((4+p) / 2)=(q,m):=b.nx;simp only [t,r,o,n];have z:=g.ge;have y:=g.lt (by decide);have D:=f.ge;have C:=f.lt (by decide);have B:=e.ge;have A:=e.lt (by decide);have x:=b.ge;have w:=b.lt (by omega);refine⟨?_,by omega,b.gd⟩;unfold okV;simp only [decide_eq_true_eq];omega
theorem dr_fin {xs:List Int} {most:Int} {s s':St} {v:Vr} {n:Int} {es:List Ev} (hg:Gd xs s) (hm:0<=most∧most<=200) (h:dr28 xs most s=((v,n,es),s')):∃ x,finS v n es=some x∧MsOk v n es.length x:=by
 obtain⟨f,r,b⟩:=v08_fine hg;obtain⟨V,o⟩:∃ V,v08 xs s=V:=⟨_,rfl⟩;obtain⟨e,t⟩:=V;rw [o] at f r b;simp only at f r b;unfold dr28 at h;simp only [o] at h;obtain⟨a,j,d⟩:=b.nb 5;have D:nx xs t 5=(a,j):=d.nx;simp only [D] at h;obtain⟨m,c⟩:∃ m,(if 20<e.p then min most 3 else most)=m:=⟨_,rfl⟩;have w:0<=m∧m<=200:=by
  rw [<-c];split <;> omega
 rw [c] at h;obtain⟨k,i,g⟩:=d.gd.nb (m+1);have C:nx xs j (m+1)=(k,i):=g.nx;simp only [C] at h;have H:=d.ge;have G:=d.lt (by decide);have F:=g.ge;have E:=g.lt (by omega);simp only [Prod.mk.injEq] at h;obtain⟨⟨rfl,rfl,rfl⟩,-⟩:=h;have l:headB e (1+a)=true:=by
  unfold headB;simp only [f,Bool.true_and,Bool.and_eq_true,decide_eq_true_eq];omega
 obtain⟨y,B,A,z⟩:=go_fin (xs:=xs) (by omega) k.toNat (startS e) [] i rfl (start_ms l);refine⟨y,?_,A⟩;unfold finS;rw [if_neg (λ q=>q.elim (λ q=>by rw [l] at q;cases q) (λ q=>by simp only [List.length_nil] at z;omega))];exact B
end EtP
namespace DwA
open Go Go.ChangeShapes Go.WideShapes Go.ChangeAt Go.RowKit Base Ints Own Draw DrawD RegF RegG DwP DwQ PlP
theorem full_x (w:World):Calls Tryz.prog 73 #[] w λ e w'=>e=.returned (.agg #[.int .i64 24,.int .i64 15,.int .i64 6,.int .i64 6])∧Below w.heap.size w w':=by
 go_enter Tryz.func73,Tryz.ntmps73;go_wp2_with fail;go_returns;exact⟨rfl,by go_grown⟩
section
variable {w0 w:World} {B g cp:Nat} {A:Option Addr} {xs:List Int} {st:Nat × Int}
def VEnd (f:Vr->St->Prop) (w0 w:World) (B g:Nat) (A:Option Addr) (cp:Nat) (xs:List Int) (e:Ending) (w':World):Prop :=
 ∃(v:Vr) (st':St),e=.returned (.agg #[.int .i64 v.p,.int .i64 v.c,.int .i64 v.h,.int .i64 v.s])∧f v st'∧Dx w0 B g A cp xs st' w'∧w.grownBy w' (some g)
theorem pickV {W:World} {b:Nat} {e:TypeId} {zs:List Int} (h:RowB W b e (zs.map (Value.int .i64))) {m:Nat} (hm:m<zs.length):W.cell? ⟨b,m,none⟩=some (.int .i64 (zs.getD m 0)):=by
 rw [h.cell,List.getElem?_map,List.getD_eq_getElem?_getD,List.getElem?_eq_getElem hm];rfl
theorem full_ok:okV fullV=true∧4<=fullV.p:=⟨by decide,by decide⟩
theorem v08_x (h:Dx w0 B g A cp xs st w):Calls Tryz.prog 44 #[.pointer (some ⟨g,0,none⟩)] w λ e w'=>VEnd (λ v st'=>v08 xs st=(v,st')∧okV v=true∧4<=v.p) w0 w B g A cp xs e w':=by
 go_enter Tryz.func44,Tryz.ntmps44;go_wp2_with fail;have K:Ru w0 w B g A cp xs st 25 [.int .i64 0,.int .i64 0,.int .i64 0,.int .i64 0] _:=Ru.start h;refine(nextX K.D (6) (by decide)).mono ?_;rintro e ad ⟨a,R,⟨rfl,ak,E,-,t⟩,f,b,-⟩;have E:=E (by decide);have K:=K.next f b;clear f b h;by_cases e0:a=0
 ·subst e0;go_wp2_with fail;refine(full_x _).mono ?_;rintro e w2 ⟨rfl,hb⟩;have K:=K.below hb;clear hb;have r:=K.rr;go_wp2_with (refine wM 25 0 [.int .i64 24,.int .i64 15,.int .i64 6,.int .i64 6] r ?_;intro w7 n j z7;refine Hid.out ?_);have K:=K.res n j;obtain⟨O,N,M,L⟩:=n.c4;have Y:=n.lt;clear j r;refine kD ?_
  repeat (first | go_values | go_skip | go_step | go_upon)
  refine bodyPost_ret (v:=.agg #[.int .i64 24,.int .i64 15,.int .i64 6,.int .i64 6]) (by simp [results,Tryz.results44,go_sem,O,N,M,L]) rfl ?_;exact⟨fullV,R,rfl,⟨v08_0 t,full_ok⟩,K.D,K.gr⟩
 ·have e1:(a == 0)=false:=by simp [e0]
  go_wp2_with fail;refine(nextX K.D (5) (by decide)).mono ?_;rintro e ac ⟨p,ae,⟨rfl,ag,s,-,S⟩,f,b,-⟩;have s:=s (by decide);have K:=K.next f b;clear f b;go_wp2_with fail;refine(nextX K.D (4) (by decide)).mono ?_;rintro e ab ⟨c,af,⟨rfl,aj,C,-,W⟩,f,b,-⟩;have C:=C (by decide);have K:=K.next f b;clear f b;go_wp2_with fail;refine(nextX K.D (3) (by decide)).mono ?_;rintro e P ⟨d,Q,⟨rfl,ai,z,-,V⟩,f,b,-⟩;have z:=z (by decide);have K:=K.next f b;clear f b;go_upto_region 4 with fail;obtain⟨g3,m⟩:∃ q,P.heap.size=q:=⟨_,rfl⟩;have X:w.heap.size<g3:=by rw [<-m];exact K.rr.lt
  refine wp_gen (λ F=>Ru w0 w B g A cp xs Q 25 [.int .i64 0,.int .i64 0,.int .i64 0,.int .i64 0] F∧RowB F g3 25 [.int .i64 (4+p),.int .i64 (1+c),.int .i64 0,.int .i64 (2+d)]) ⟨K.alloc _,by rw [<-m];exact RowB.new _ _ _⟩ ?_
  try simp only [m]
  clear K m;rintro w4 ⟨K,i⟩;obtain⟨J,I,H,G⟩:=i.c4;have l:=i.lt;have ht:Int.tdiv (4+p) 2=(4+p) / 2:=by rw [Int.tdiv_eq_ediv_of_nonneg (by omega)]
  go_wp2_with fail;refine(nextX K.D ((4+p) / 2) (by omega)).mono ?_;rintro e aa ⟨h,o,⟨rfl,ah,y,-,T⟩,f,b,-⟩;have y:=y (by omega);have K:=K.next f b;have x:=b;clear f b J I H G l;have i:=i.grown x (λ k hk=>by simp at hk;have:=K.lt;omega);clear x;obtain⟨J,I,H,G⟩:=i.c4;have l:=i.lt;have Z:=i.frozen;go_upto_region 5 with fail;refine wp_gen (λ F=>Ru w0 w B g A cp xs o 25 [.int .i64 0,.int .i64 0,.int .i64 0,.int .i64 0] F∧RowB F g3 25 [.int .i64 (4+p),.int .i64 (1+c),.int .i64 (1+h),.int .i64 (2+d)]) ⟨K.put X (Base.grownBy_setCell _ _ _ _),i.set 2 _⟩ ?_;clear K J I H G l Z i;rintro w6 ⟨K,i⟩;obtain⟨J,I,H,G⟩:=i.c4;have l:=i.lt;have r:=K.rr;go_wp2_with (refine wM 25 0 [.int .i64 (4+p),.int .i64 (1+c),.int .i64 (1+h),.int .i64 (2+d)] r ?_;intro w7 n j z7;refine Hid.out ?_);have K:=K.res n j;obtain⟨O,N,M,L⟩:=n.c4;have Y:=n.lt;clear j r;refine kD ?_
  repeat (first | go_values | go_skip | go_step | go_upon)
  refine bodyPost_ret (v:=.agg #[.int .i64 (4+p),.int .i64 (1+c),.int .i64 (1+h),.int .i64 (2+d)]) (by simp [results,Tryz.results44,go_sem,O,N,M,L]) rfl ?_;exact⟨⟨4+p,1+c,1+h,2+d⟩,o,rfl,⟨v08_1 t e0 S W V T,by unfold okV;simp only [decide_eq_true_eq];omega,by show 4<=4+p;omega⟩,K.D,K.gr⟩
theorem v01s_x (h:Dx w0 B g A cp xs st w):Calls Tryz.prog 80 #[.pointer (some ⟨g,0,none⟩)] w λ e w'=>VEnd (λ v st'=>v01s xs st=(v,st')∧2<=v.p∧v.p<=24) w0 w B g A cp xs e w':=by
 go_enter Tryz.func80,Tryz.ntmps80;go_wp2_with fail;have K:Ru w0 w B g A cp xs st 25 [.int .i64 0,.int .i64 0,.int .i64 0,.int .i64 0] _:=Ru.start h;refine(nextX K.D (5) (by decide)).mono ?_;rintro e Y ⟨p,Z,⟨rfl,ab,m,-,I⟩,f,a,-⟩;have m:=m (by decide);have K:=K.next f a;clear f a h;go_wp2_with fail;refine(nextX K.D (3) (by decide)).mono ?_;rintro e X ⟨c,aa,⟨rfl,af,t,-,M⟩,f,a,-⟩;have t:=t (by decide);have K:=K.next f a;clear f a;go_wp2_with fail;refine(nextX K.D (3) (by decide)).mono ?_;rintro e F ⟨d,G,⟨rfl,ae,s,-,L⟩,f,a,-⟩;have s:=s (by decide);have K:=K.next f a;clear f a;go_upto_region 2 with fail;obtain⟨P,j⟩:∃ q,F.heap.size=q:=⟨_,rfl⟩;have N:w.heap.size<P:=by rw [<-j];exact K.rr.lt
 refine wp_gen (λ x=>Ru w0 w B g A cp xs G 25 [.int .i64 0,.int .i64 0,.int .i64 0,.int .i64 0] x∧RowB x P 25 [.int .i64 (2+p),.int .i64 (1+c),.int .i64 0,.int .i64 (1+d)]) ⟨K.alloc _,by rw [<-j];exact RowB.new _ _ _⟩ ?_
 try simp only [j]
 clear K j;rintro w4 ⟨K,b⟩;obtain⟨E,C,z,y⟩:=b.c4;have i:=b.lt;go_wp2_with fail;refine(nextX K.D (2+p) (by omega)).mono ?_;rintro e W ⟨h,l,⟨rfl,ad,o,-,J⟩,f,a,-⟩;have o:=o (by omega);have K:=K.next f a;have n:=a;clear f a E C z y i;have b:=b.grown n (λ k hk=>by simp at hk;have:=K.lt;omega);clear n;obtain⟨E,C,z,y⟩:=b.c4;have i:=b.lt;have O:=b.frozen;go_upto_region 3 with fail;refine wp_gen (λ x=>Ru w0 w B g A cp xs l 25 [.int .i64 0,.int .i64 0,.int .i64 0,.int .i64 0] x∧RowB x P 25 [.int .i64 (2+p),.int .i64 (1+c),.int .i64 (1+h),.int .i64 (1+d)]) ⟨K.put N (Base.grownBy_setCell _ _ _ _),b.set 2 _⟩ ?_;clear K E C z y i O b;rintro w6 ⟨K,b⟩;obtain⟨E,C,z,y⟩:=b.c4;have i:=b.lt;have Q:=K.rr;go_wp2_with (refine wM 25 0 [.int .i64 (2+p),.int .i64 (1+c),.int .i64 (1+h),.int .i64 (1+d)] Q ?_;intro w7 H r z7;refine Hid.out ?_);have K:=K.res H r;obtain⟨V,T,S,R⟩:=H.c4;have ac:=H.lt;clear r Q;refine kD ?_
 repeat (first | go_values | go_skip | go_step | go_upon)
 refine bodyPost_ret (v:=.agg #[.int .i64 (2+p),.int .i64 (1+c),.int .i64 (1+h),.int .i64 (1+d)]) (by simp [results,Tryz.results80,go_sem,V,T,S,R]) rfl ?_;exact⟨⟨2+p,1+c,1+h,1+d⟩,l,rfl,⟨v01s_0 I M L J,by show 2<=2+p;omega,by show 2+p<=24;omega⟩,K.D,K.gr⟩
theorem v01v_x (h:Dx w0 B g A cp xs st w):Calls Tryz.prog 51 #[.pointer (some ⟨g,0,none⟩)] w λ e w'=>VEnd (λ v st'=>v01v xs st=(v,st')∧2<=v.p∧v.p<=24) w0 w B g A cp xs e w':=by
 go_enter Tryz.func51,Tryz.ntmps51;go_wp2_with fail;have K:Ru w0 w B g A cp xs st 25 [.int .i64 0,.int .i64 0,.int .i64 0,.int .i64 0] _:=Ru.start h;refine(nextX K.D (4) (by decide)).mono ?_;rintro e ae ⟨a,T,⟨rfl,al,L,-,r⟩,f,b,-⟩;have L:=L (by decide);have K:=K.next f b;clear f b h;by_cases e0:a=0
 ·subst e0;go_wp2_with fail;refine(full_x _).mono ?_;rintro e w2 ⟨rfl,hb⟩;have K:=K.below hb;clear hb;have o:=K.rr;go_wp2_with (refine wM 25 0 [.int .i64 24,.int .i64 15,.int .i64 6,.int .i64 6] o ?_;intro w7 l i z7;refine Hid.out ?_);have K:=K.res l i;obtain⟨z,y,x,t⟩:=l.c4;have F:=l.lt;clear i o;refine kD ?_
  repeat (first | go_values | go_skip | go_step | go_upon)
  refine bodyPost_ret (v:=.agg #[.int .i64 24,.int .i64 15,.int .i64 6,.int .i64 6]) (by simp [results,Tryz.results51,go_sem,z,y,x,t]) rfl ?_;exact⟨fullV,T,rfl,⟨v01v_0 r,by decide,by decide⟩,K.D,K.gr⟩
 by_cases e1:a=1
 ·subst e1;go_wp2_with fail;refine(nextX K.D (21) (by decide)).mono ?_;rintro e ad ⟨p,af,⟨rfl,ah,E,-,V⟩,f,b,-⟩;have E:=E (by decide);have K:=K.next f b;clear f b;go_wp2_with fail;refine(nextX K.D (15) (by decide)).mono ?_;rintro e ac ⟨c,ag,⟨rfl,ak,J,-,Y⟩,f,b,-⟩;have J:=J (by decide);have K:=K.next f b;clear f b;go_wp2_with fail;refine(nextX K.D (6) (by decide)).mono ?_;rintro e R ⟨d,S,⟨rfl,aj,I,-,X⟩,f,b,-⟩;have I:=I (by decide);have K:=K.next f b;clear f b;go_upto_region 6 with fail;obtain⟨g3,n⟩:∃ q,R.heap.size=q:=⟨_,rfl⟩;have Z:w.heap.size<g3:=by rw [<-n];exact K.rr.lt
  refine wp_gen (λ M=>Ru w0 w B g A cp xs S 25 [.int .i64 0,.int .i64 0,.int .i64 0,.int .i64 0] M∧RowB M g3 25 [.int .i64 (4+p),.int .i64 (1+c),.int .i64 0,.int .i64 (1+d)]) ⟨K.alloc _,by rw [<-n];exact RowB.new _ _ _⟩ ?_
  try simp only [n]
  clear K n;rintro w4 ⟨K,j⟩;obtain⟨Q,P,O,N⟩:=j.c4;have m:=j.lt;have ht:Int.tdiv (4+p) 2=(4+p) / 2:=by rw [Int.tdiv_eq_ediv_of_nonneg (by omega)]
  go_wp2_with fail;refine(nextX K.D ((4+p) / 2) (by omega)).mono ?_;rintro e ab ⟨h,C,⟨rfl,ai,H,-,W⟩,f,b,-⟩;have H:=H (by omega);have K:=K.next f b;have G:=b;clear f b Q P O N m;have j:=j.grown G (λ k hk=>by simp at hk;have:=K.lt;omega);clear G;obtain⟨Q,P,O,N⟩:=j.c4;have m:=j.lt;have aa:=j.frozen;go_upto_region 7 with fail;refine wp_gen (λ M=>Ru w0 w B g A cp xs C 25 [.int .i64 0,.int .i64 0,.int .i64 0,.int .i64 0] M∧RowB M g3 25 [.int .i64 (4+p),.int .i64 (1+c),.int .i64 (1+h),.int .i64 (1+d)]) ⟨K.put Z (Base.grownBy_setCell _ _ _ _),j.set 2 _⟩ ?_;clear K Q P O N m aa j;rintro w6 ⟨K,j⟩;obtain⟨Q,P,O,N⟩:=j.c4;have m:=j.lt;have o:=K.rr;go_wp2_with (refine wM 25 0 [.int .i64 (4+p),.int .i64 (1+c),.int .i64 (1+h),.int .i64 (1+d)] o ?_;intro w7 l i z7;refine Hid.out ?_);have K:=K.res l i;obtain⟨z,y,x,t⟩:=l.c4;have F:=l.lt;clear i o;refine kD ?_
  repeat (first | go_values | go_skip | go_step | go_upon)
  refine bodyPost_ret (v:=.agg #[.int .i64 (4+p),.int .i64 (1+c),.int .i64 (1+h),.int .i64 (1+d)]) (by simp [results,Tryz.results51,go_sem,z,y,x,t]) rfl ?_;exact⟨⟨4+p,1+c,1+h,1+d⟩,C,rfl,⟨v01v_1 r V Y X W,by show 2<=4+p;omega,by show 4+p<=24;omega⟩,K.D,K.gr⟩
 ·have x0:(a == 0)=false:=by simp [e0]
  have x1:(a == 1)=false:=by simp [e1]
  go_wp2_with fail;refine(v01s_x K.D).mono ?_;rintro e w2 ⟨v,s2,rfl,hv,f,b⟩;have K:=K.next f b;clear f b;have o:=K.rr;go_wp2_with (refine wM 25 0 [.int .i64 v.p,.int .i64 v.c,.int .i64 v.h,.int .i64 v.s] o ?_;intro w7 l i z7;refine Hid.out ?_);have K:=K.res l i;obtain⟨z,y,x,t⟩:=l.c4;have F:=l.lt;clear i o;refine kD ?_
  repeat (first | go_values | go_skip | go_step | go_upon)
  refine bodyPost_ret (v:=.agg #[.int .i64 v.p,.int .i64 v.c,.int .i64 v.h,.int .i64 v.s]) (by simp [results,Tryz.results51,go_sem,z,y,x,t]) rfl ?_;exact⟨v,s2,rfl,⟨v01v_2 r e0 e1 hv.1,hv.2⟩,K.D,K.gr⟩
theorem v01a_x (h:Dx w0 B g A cp xs st w):Calls Tryz.prog 24 #[.pointer (some ⟨g,0,none⟩)] w λ e w'=>VEnd (λ v st'=>v01a xs st=(v,st')) w0 w B g A cp xs e w':=by
 have ac:=h.lt;go_enter Tryz.func24,Tryz.ntmps24;go_wp2_with fail;have K:Ru w0 w B g A cp xs st 25 [.int .i64 0,.int .i64 0,.int .i64 0,.int .i64 0] _:=Ru.start h;refine(v01v_x K.D).mono ?_;rintro e w1 ⟨v,s1,rfl,⟨hv,W⟩,C,n⟩;have ab:=kD W;have K:=K.next C n;clear C n h W;go_upto_region 2 with fail;refine wp_gen (λ E=>∃ Q,w1.heap.size=Q∧w.heap.size<Q∧Ru w0 w B g A cp xs s1 25 [.int .i64 0,.int .i64 0,.int .i64 0,.int .i64 0] E∧RowB E Q 25 [.int .i64 v.p,.int .i64 v.c,.int .i64 v.h,.int .i64 v.s]) ⟨_,rfl,K.rr.lt,K.alloc _,RowB.new _ _ _⟩ ?_;rintro w2 ⟨Q,Y,N,K2,f⟩;rw [Y];clear K Y;have K:=K2;clear K2;go_wp2_with fail;refine(nextX K.D (40) (by decide)).mono ?_;rintro e aa ⟨q,R,⟨rfl,ad,T,-,F⟩,C,n,-⟩;have T:=T (by decide);have K:=K.next C n;have f:=f.grown n (λ k P=>by simp at P;have:=K.lt;omega);clear C n;have H:v01v xs st=(v,s1):=hv;obtain⟨y,x,t,r⟩:=f.c4;have a:=f.lt;have i:=f.frozen;by_cases e0:q=0
 ·subst e0;go_wp2_with fail;refine(nextX (K.alloc _).D 4 (by decide)).mono ?_;rintro e S ⟨k,o,⟨rfl,V,l,-,G⟩,C,n,-⟩;have l:=l (by decide);have K:=(K.alloc _).next C n;have f:=(f.alloc _).grown n (λ k P=>by simp at P;have:=K.lt;omega);have rb:=(RowB.new aa 2 [.int .i64 1,.int .i64 25,.int .i64 (-1),.int .i64 24]).grown n (λ k P=>by simp at P;have:=K.D.lt;omega);obtain⟨m,rfl⟩:∃ m:Nat,k=m:=⟨k.toNat,by omega⟩;have X:=pickV (zs:=[1,25,-1,24]) rb (show m<_ from by simp;omega);rw [show ([1,25,-1,24]:List Int).getD m 0=badP m from rfl] at X;have af:(m:Int)<4:=l;have ag:=rb.lt;clear C n y x t r a i;obtain⟨y,x,t,r⟩:=f.c4;have a:=f.lt;have i:=f.frozen;go_upto_region 11 with fail;refine wp_gen (λ E=>Ru w0 w B g A cp xs o 25 [.int .i64 0,.int .i64 0,.int .i64 0,.int .i64 0] E∧RowB E Q 25 [.int .i64 (badP m),.int .i64 v.c,.int .i64 v.h,.int .i64 v.s]) ⟨K.put N (Base.grownBy_setCell _ _ _ _),f.set 0 _⟩ ?_;clear K f;rintro w6 ⟨K,d⟩;clear y x t r a i;obtain⟨y,x,t,r⟩:=d.c4;have a:=d.lt;have z:=K.rr;go_wp2_with (refine wM 25 0 [.int .i64 (badP m),.int .i64 v.c,.int .i64 v.h,.int .i64 v.s] z ?_;intro w7 j b Z;refine Hid.out ?_);have K:=K.res j b;obtain⟨M,L,J,I⟩:=j.c4;have O:=j.lt;clear b z;refine kD ?_
  repeat (first | go_values | go_skip | go_step | go_upon)
  refine bodyPost_ret (v:=.agg #[.int .i64 (badP m),.int .i64 v.c,.int .i64 v.h,.int .i64 v.s]) (by simp [results,Tryz.results24,go_sem,M,L,J,I]) rfl ?_;exact⟨⟨badP m,v.c,v.h,v.s⟩,o,rfl,v01a_of H F (any_0 G),K.D,K.gr⟩
 have M:(q == 0)=false:=by simp [e0]
 by_cases e1:q=1
 ·subst e1;go_wp2_with fail;refine(nextX K.D (2) (by decide)).mono ?_;rintro e S ⟨k,o,⟨rfl,V,l,-,G⟩,C,n,-⟩;have l:=l (by decide);have K:=K.next C n;have f:=f.grown n (λ k P=>by simp at P;have:=K.lt;omega);clear C n;clear y x t r a i;obtain⟨y,x,t,r⟩:=f.c4;have a:=f.lt;have i:=f.frozen;go_upto_region 11 with fail;refine wp_gen (λ E=>Ru w0 w B g A cp xs o 25 [.int .i64 0,.int .i64 0,.int .i64 0,.int .i64 0] E∧RowB E Q 25 [.int .i64 v.p,.int .i64 (16*k),.int .i64 v.h,.int .i64 v.s]) ⟨K.put N (Base.grownBy_setCell _ _ _ _),f.set 1 _⟩ ?_;clear K f;rintro w6 ⟨K,d⟩;clear y x t r a i;obtain⟨y,x,t,r⟩:=d.c4;have a:=d.lt;have z:=K.rr;go_wp2_with (refine wM 25 0 [.int .i64 v.p,.int .i64 (16*k),.int .i64 v.h,.int .i64 v.s] z ?_;intro w7 j b Z;refine Hid.out ?_);have K:=K.res j b;obtain⟨M,L,J,I⟩:=j.c4;have O:=j.lt;clear b z;refine kD ?_
  repeat (first | go_values | go_skip | go_step | go_upon)
  refine bodyPost_ret (v:=.agg #[.int .i64 v.p,.int .i64 (16*k),.int .i64 v.h,.int .i64 v.s]) (by simp [results,Tryz.results24,go_sem,M,L,J,I]) rfl ?_;exact⟨⟨v.p,16*k,v.h,v.s⟩,o,rfl,v01a_of H F (any_1 G),K.D,K.gr⟩
 have L:(q == 1)=false:=by simp [e1]
 by_cases e2:q=2
 ·subst e2;have ae:=ab.out;have hw:IntKind.i64.wrap (v.p+1)=v.p+1:=IntWalk.i64_in _ (by omega);go_upto_region 11 with fail;refine wp_gen (λ E=>Ru w0 w B g A cp xs R 25 [.int .i64 0,.int .i64 0,.int .i64 0,.int .i64 0] E∧RowB E Q 25 [.int .i64 v.p,.int .i64 v.c,.int .i64 (v.p+1),.int .i64 v.s]) ⟨K.put N (Base.grownBy_setCell _ _ _ _),f.set 2 _⟩ ?_;clear K f;rintro w6 ⟨K,d⟩;clear y x t r a i;obtain⟨y,x,t,r⟩:=d.c4;have a:=d.lt;have z:=K.rr;go_wp2_with (refine wM 25 0 [.int .i64 v.p,.int .i64 v.c,.int .i64 (v.p+1),.int .i64 v.s] z ?_;intro w7 j b Z;refine Hid.out ?_);have K:=K.res j b;obtain⟨M,L,J,I⟩:=j.c4;have O:=j.lt;clear b z;refine kD ?_
  repeat (first | go_values | go_skip | go_step | go_upon)
  refine bodyPost_ret (v:=.agg #[.int .i64 v.p,.int .i64 v.c,.int .i64 (v.p+1),.int .i64 v.s]) (by simp [results,Tryz.results24,go_sem,M,L,J,I]) rfl ?_;exact⟨⟨v.p,v.c,v.p+1,v.s⟩,R,rfl,v01a_of H F (any_2),K.D,K.gr⟩
 have J:(q == 2)=false:=by simp [e2]
 by_cases e3:q=3
 ·subst e3;go_wp2_with fail;refine(nextX K.D (2) (by decide)).mono ?_;rintro e S ⟨k,o,⟨rfl,V,l,-,G⟩,C,n,-⟩;have l:=l (by decide);have K:=K.next C n;have f:=f.grown n (λ k P=>by simp at P;have:=K.lt;omega);clear C n;clear y x t r a i;obtain⟨y,x,t,r⟩:=f.c4;have a:=f.lt;have i:=f.frozen;go_upto_region 11 with fail;refine wp_gen (λ E=>Ru w0 w B g A cp xs o 25 [.int .i64 0,.int .i64 0,.int .i64 0,.int .i64 0] E∧RowB E Q 25 [.int .i64 v.p,.int .i64 v.c,.int .i64 v.h,.int .i64 (7*k)]) ⟨K.put N (Base.grownBy_setCell _ _ _ _),f.set 3 _⟩ ?_;clear K f;rintro w6 ⟨K,d⟩;clear y x t r a i;obtain⟨y,x,t,r⟩:=d.c4;have a:=d.lt;have z:=K.rr;go_wp2_with (refine wM 25 0 [.int .i64 v.p,.int .i64 v.c,.int .i64 v.h,.int .i64 (7*k)] z ?_;intro w7 j b Z;refine Hid.out ?_);have K:=K.res j b;obtain⟨M,L,J,I⟩:=j.c4;have O:=j.lt;clear b z;refine kD ?_
  repeat (first | go_values | go_skip | go_step | go_upon)
  refine bodyPost_ret (v:=.agg #[.int .i64 v.p,.int .i64 v.c,.int .i64 v.h,.int .i64 (7*k)]) (by simp [results,Tryz.results24,go_sem,M,L,J,I]) rfl ?_;exact⟨⟨v.p,v.c,v.h,7*k⟩,o,rfl,v01a_of H F (any_3 G),K.D,K.gr⟩
 have I:(q == 3)=false:=by simp [e3]
 have d:=f;clear y x t r a i;obtain⟨y,x,t,r⟩:=d.c4;have a:=d.lt;have z:=K.rr;go_wp2_with (refine wM 25 0 [.int .i64 v.p,.int .i64 v.c,.int .i64 v.h,.int .i64 v.s] z ?_;intro w7 j b Z;refine Hid.out ?_);have K:=K.res j b;obtain⟨M,L,J,I⟩:=j.c4;have O:=j.lt;clear b z;refine kD ?_
 repeat (first | go_values | go_skip | go_step | go_upon)
 refine bodyPost_ret (v:=.agg #[.int .i64 v.p,.int .i64 v.c,.int .i64 v.h,.int .i64 v.s]) (by simp [results,Tryz.results24,go_sem,M,L,J,I]) rfl ?_;exact⟨⟨v.p,v.c,v.h,v.s⟩,R,rfl,v01a_of H F (any_4 e0 e1 e2 e3),K.D,K.gr⟩
end
end DwA
end Go.Proofs.YtjdefiinmicjiaaGreatDoor
