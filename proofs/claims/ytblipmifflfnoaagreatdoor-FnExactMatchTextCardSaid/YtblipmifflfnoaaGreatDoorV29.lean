/- Parts of the proof of FnExactMatchText. Conditions: each theorem's own. -/
import Derived.Test.YtblipmifflfnoaaGreatDoorV28
set_option linter.unusedVariables false
set_option linter.unusedSimpArgs false
set_option maxHeartbeats 8000000
set_option maxRecDepth 100000
namespace Go.Proofs.YtblipmifflfnoaaGreatDoor
namespace Gm
open Go Go.ChangeShapes Go.WideShapes Go.ChangeAt Go.RowKit Base Ints Own RelG PlP TxP Num Bd1 Bd5 RegInv RegF RegG TxI TsI
def RelEr:Rel ERow Ev where
 R:=λ w S r x=>(r.1=x.k∧r.2.1=x.a∧r.2.2.1=x.b∧r.2.2.2.2=x.r)∧∃ As cp,r.2.2.2.1=.slice As x.ss.length cp∧RdF w S 4 enSt As x.ss
 keep:=λ⟨e,A,c,h,k⟩ hs=>⟨e,A,c,h,k.keep hs⟩
 weak:=λ⟨e,A,c,h,k⟩ hs=>⟨e,A,c,h,k.weak hs⟩
def EvL (w:World) (S:Nat->Prop) (A:Option Addr) (es:List Ev):Prop:=∃ rs:List ERow,RdF w S 5 enEv A rs∧LsR RelEr w S rs es
theorem EvL.keep {w w':World} {S:Nat->Prop} {A:Option Addr} {es:List Ev} (h:EvL w S A es) (hs:Still S w w'):EvL w' S A es:=by
 obtain⟨a,c,b⟩:=h;exact⟨a,c.keep hs,b.keep hs⟩
theorem EvL.len {w:World} {S:Nat->Prop} {A:Option Addr} {es:List Ev} (h:EvL w S A es):es.length<=9223372036854775807:=by
 obtain⟨e,d,c⟩:=h;have a:=d.len;have b:=c.1;omega
theorem EvL.at_ {w:World} {S:Nat->Prop} {A:Option Addr} {es:List Ev} (h:EvL w S A es) {i:Nat} (hi:i<es.length) :
  ∃(b o:Nat) (e:Ev) (As:Option Addr) (cp:Nat),A=some ⟨b,o,none⟩∧es[i]?=some e∧b<w.heap.size∧RdF w S 4 enSt As e.ss ∧
   (w.cell? ⟨b,o+i*5,none⟩=some (.int .i64 e.k)∧w.cell? ⟨b,o+i*5+1,none⟩=some (.int .i64 e.a)∧w.cell? ⟨b,o+i*5+2,none⟩=some (.int .i64 e.b)∧w.cell? ⟨b,o+i*5+3,none⟩=some (.slice As e.ss.length cp)∧w.cell? ⟨b,o+i*5+4,none⟩=some (.int .i64 e.r)):=by
 obtain⟨D,v,d⟩:=h;obtain⟨b,o,r,t,-,s,n,c⟩:=v.at_ (i:=i) (by rw [d.1];exact hi);obtain⟨e,q,⟨C,B,z,x⟩,As,cp,y,p⟩:=d.at_ n;have m:=c 0 _ rfl;have l:=c 1 _ rfl;have j:=c 2 _ rfl;have g:=c 3 _ rfl;have f:=c 4 _ rfl;rw [C] at m;rw [B] at l;rw [z] at j;rw [y] at g;rw [x] at f;exact⟨b,o,e,As,cp,t,q,s,p,by simpa using m,by simpa using l,by simpa using j,by simpa using g,by simpa using f⟩
def enS (v:Vr) (n:Int):Ms->List Ev->Option Ms
 | x,[]=>some x
 | x,e :: es=>match nextS v n x e with
  | some y=>enS v n y es
  | none=>none
def finS (v:Vr) (n:Int) (es:List Ev):Option Ms:=if headB v n=false∨300<es.length then none else enS v n (startS v) es
def enX (v:Vr) (n:Int) (es:List Ev):Option Ms->Option Ms
 | none=>none
 | some y=>enS v n y es
theorem enS_drop {v:Vr} {n:Int} {es:List Ev} {k:Nat} {e:Ev} (x:Ms) (h:es[k]?=some e):enS v n x (es.drop k)=enX v n (es.drop (k+1)) (nextS v n x e):=by
 obtain⟨a,b⟩:=List.getElem?_eq_some_iff.1 h;rw [List.drop_eq_getElem_cons a,b];simp only [enS]
 cases nextS v n x e <;> rfl
theorem enS_end {v:Vr} {n:Int} {es:List Ev} (x:Ms):enS v n x (es.drop es.length)=some x:=by rw [List.drop_eq_nil_of_le (Nat.le_refl _)];rfl
structure Sl (w wr:World) (v:Vr) (n:Int) (ev:Value) (g4:Nat) (su u1 u2:Value) (x:Ms):Prop where
 k:Rows w wr [(0,26,[.int .i64 v.p,.int .i64 v.c,.int .i64 v.h,.int .i64 v.s,.int .i64 n,ev]),(1,52,nulMC)]
 r4:RowB wr g4 52 (msC su u1 u2 x)
 ms:MsR wr (λ b=>w.heap.size+2<=b∧b≠g4) su u1 u2 x
 lo:w.heap.size+2<=g4
section
variable {w wr w':World} {g4:Nat} {v:Vr} {n:Int} {ev:Value} {su u1 u2:Value} {x:Ms}
theorem Sl.below (K:Sl w wr v n ev g4 su u1 u2 x) (hb:Below wr.heap.size wr w'):Sl w w' v n ev g4 su u1 u2 x :=
 ⟨K.k.below hb,K.r4.below hb K.r4.lt,K.ms.below hb,K.lo⟩
theorem Sl.st {su' u1' u2':Value} {x':Ms} (K:Sl w wr v n ev g4 su u1 u2 x) (h:RowB w' g4 52 (msC su' u1' u2' x')) (hg:wr.grownBy w' (some g4)) (hm:MsR wr (λ b=>w.heap.size+2<=b∧b≠g4) su' u1' u2' x'):Sl w w' v n ev g4 su' u1' u2' x':=by
 have l:=K.lo;have d:=K.k.bel.size;refine⟨⟨K.k.bel.grown hg d (λ k a=>by simp at a;omega),λ p c=>?_⟩,h,hm.keep (Still.grown hg (λ k a e=>by simp at a;exact e.2 a.symm)),l⟩;have f:=K.k.at_ _ c;simp only [List.mem_cons,List.not_mem_nil,or_false] at c;rcases c with rfl | rfl <;> exact f.grown hg (λ k a=>by simp at a;simp only;omega)
end
theorem lstate_s (v:Vr) (n:Int) (es:List Ev) (Ae:Option Addr) (ce:Nat) (w:World) (hes:EvL w All Ae es) (X:Option Ms) (hX:finS v n es=X) :
  Calls Tryz.prog 62 #[.agg #[.int .i64 v.p,.int .i64 v.c,.int .i64 v.h,.int .i64 v.s,.int .i64 n,.slice Ae es.length ce]] w λ f w'=>Ret RelMO X (λ _=>False) w f w':=by
 obtain⟨hd,ay⟩:∃ b,headB v n=b:=⟨_,rfl⟩;have CH:=kD (λ(B:World)=>head_s v n hd ay B);have a3:=hes.len;have a9:=kD (λ(B:World) (h9:Below w.heap.size w B)=>hes.keep (.below h9));obtain⟨M,hM⟩:∃ M,es.length=M:=⟨_,rfl⟩;rw [hM] at a3 ⊢;have HM:=kD hM;have an:=kD hX;have aE:=kD ay;obtain⟨aj,ht⟩:∃ t,(!hd || decide (300<M))=t:=⟨_,rfl⟩;have HT:=kD ht;clear hes hM hX ay ht;go_enter Tryz.func62,Tryz.ntmps62;go_upto_region 1 with fail;refine wp_gen (λ W'=>Rows w W' [(0,26,[.int .i64 v.p,.int .i64 v.c,.int .i64 v.h,.int .i64 v.s,.int .i64 n,.slice Ae M ce]),(1,52,nulMC)]) ⟨by go_grown,λ p R=>?_⟩ ?_
 ·simp only [List.mem_cons,List.not_mem_nil,or_false] at R;rcases R with rfl | rfl
  ·exact(RowB.new _ _ _).alloc _
  ·exact RowB.new' _ _ _ (by simp)
 intro w1 K;have E:=K.nth0 0 rfl;have av:=K.nth 1 rfl;obtain⟨Q,P,O,N,J,I⟩:=E.c6;have m:=E.lt;go_cut [19] from 8 to 19 (λ aX wx=>aX=.bool aj∧Below w1.heap.size w1 wx)
 case first =>
  cases hd with
  | false =>
   have ht:aj=true:=by rw [<-HT.out];rfl
   subst ht;go_wp2_with fail;refine(CH.out _).mono ?_;rintro e w2 ⟨rfl,hb⟩;go_wp2_with fail;go_meet;exact⟨rfl,hb⟩
  | true =>
   have ht:aj=decide (300<M):=by rw [<-HT.out];simp
   subst ht;go_wp2_with fail;refine(CH.out _).mono ?_;rintro e w2 ⟨rfl,hb⟩;have E:=(K.below hb).nth0 0 rfl;clear Q P O N J I m;obtain⟨Q,P,O,N,J,I⟩:=E.c6;have m:=E.lt;go_wp2_with fail;go_meet;exact⟨by first | rfl | (congr 1;simp;done) | (by_cases h3:300<M <;> simp [h3] <;> omega),hb⟩
 case rest =>
 obtain⟨rfl,hb⟩:=hcut;have K:=K.below hb;clear hb CH Q P O N J I m E av;have E:=K.nth0 0 rfl;have av:=K.nth 1 rfl;obtain⟨Q,P,O,N,J,I⟩:=E.c6;have m:=E.lt
 cases aj with
 | true =>
  have aC:X=none:=by
   rw [<-an.out];unfold finS;rw [if_pos];have h:=HT.out;rw [aE.out,HM.out]
   cases hd with
   | false=>exact .inl rfl
   | true=>exact .inr (by simpa using h)
  subst aC;clear an;have rr:=K.nth 1 rfl;have V:=K.bel;go_wp2_with (refine wM 52 0 (nulMC) rr ?_;intro w7 s7 S z7;refine Hid.out ?_);have ah:Below w.heap.size w w7:=V.grown S V.size (λ k hk=>by simp at hk;omega);obtain⟨z0,z1,z2,z3,z4,z5,z6,ac,z8,z9,ae,ad⟩:=row12 s7;have aK:=s7.lt;clear S rr K V Q P O N J I m E;refine kD ?_
  repeat (first | go_values | go_skip | go_step | go_upon)
  refine bodyPost_ret (v:=.tuple #[.agg ⟨nulMC⟩,.bool false]) (by simp [results,Tryz.results62,go_sem,nulMC,msC,nulM,nulG,z0,z1,z2,z3,z4,z5,z6,ac,z8,z9,ae,ad]) rfl ?_;exact⟨_,rfl,⟨_,_,_,_,_,_,_,_,_,_,rfl,λ x0 h=>by cases h⟩,ah⟩
 | false =>
 have hh:headB v n=true∧M<=300:=by
  have h:=HT.out;rw [aE.out]
  cases hd with
  | false=>cases h
  | true=>exact⟨rfl,by simpa using h⟩
 have a6:Hid (X=enS v n (startS v) es):=by
  show _=_
  rw [<-an.out];unfold finS;rw [if_neg (λ h=>h.elim (λ h=>by rw [hh.1] at h;cases h) (λ h=>by rw [HM.out] at h;omega))]
 have bg:M<=300:=hh.2;have ak:=head_parts hh.1;have CF:=kD (λ(B:World)=>fst_s v ak.1 ak.2.1 B);have a7:=kD (start_ms hh.1);have aV:=kD (show 1<=n∧n<=25 from ak.2.2);clear hh ak an HT aE;go_wp2_with fail;refine(CF.out _).mono ?_;rintro e w3 ⟨v6,rfl,⟨su,u1,u2,rfl,G⟩,hb⟩;have aZ:=(K.nth 1 rfl).lt;have aH:=hb.size;have K:=K.below hb;clear hb CF Q P O N J I m E av;obtain⟨⟨A0,c0,rfl,-,-⟩,⟨A1,c1,rfl,-,-⟩,⟨A2,c2,rfl,-,-⟩⟩:=id G;have aU:=kD (show MsR w3 (λ b=>w.heap.size+2<=b∧b≠w3.heap.size) _ _ _ (startS v) from G.weak (λ b h hl=>by
  have h:=h.elim False.elim id;exact⟨by omega,by omega⟩))
 clear G;simp only [msC,List.length_cons,List.length_nil,Nat.zero_add,Nat.reduceAdd];go_upto_region 4 with fail;refine wp_gen (λ W'=>Sl w W' v n (.slice Ae M ce) w3.heap.size (.slice A0 2 c0) (.slice A1 (startS v).g.b.1.length c1) (.slice A2 (startS v).g.b.2.length c2) (startS v)) ⟨K.below ((Below.refl _ _).alloc (Nat.le_refl _) _),RowB.new _ _ _,aU.out.keep (.below ((Below.refl _ _).alloc (Nat.le_refl _) _)),by omega⟩ ?_;clear K aU;obtain⟨g4,aN⟩:∃ q,w3.heap.size=q:=⟨_,rfl⟩;rw [aN] at aH ⊢;clear aN;intro w4 K;have HK:=kD K;clear K aZ aH;go_wp2_with fail;go_loopw [3,5,6,7] (λ _ s5 _ _ wr=>∃(k:Nat) (x:Ms) (su u1 u2:Value),s5=.int .i64 (k:Int)∧k<=M∧Hid (Sl w wr v n (.slice Ae M ce) g4 su u1 u2 x)∧Hid (MsOk v n k x)∧Hid (X=enS v n x (es.drop k))) (λ _ s5 _ _ _=>M - (intOf s5).toNat)
 case atStart=>exact⟨0,startS v,_,_,_,by first | rfl | trivial,Nat.zero_le _,HK,a7,a6⟩
 case round =>
  obtain⟨k,x,su,u1,u2,rfl,be,r,am,hQ⟩:=hrel;obtain⟨⟨B0,d0,rfl,-,-⟩,⟨B1,d1,rfl,-,-⟩,⟨B2,d2,rfl,-,-⟩⟩:=id r.out.ms;have K:=r.out;have E:=K.k.nth0 0 rfl;obtain⟨Q,P,O,N,J,I⟩:=E.c6;have m:=E.lt;by_cases hlt:k<M
  ·obtain⟨ba,oa,e,As,cs,rfl,aA,a,aw,ca,cb,cc,cd,H⟩:=(a9.out wr K.k.bel).at_ (i:=k) (by rw [HM.out];exact hlt);have bs:=kD aA;obtain⟨X2,al⟩:∃ X2,nextS v n x e=X2:=⟨_,rfl⟩;have CN:=kD (λ(B:World) (h9:Below wr.heap.size wr B)=>next_s v n k x am.out (by omega) aV.out (λ b=>w.heap.size+2<=b∧b≠g4) _ _ _ e As cs B.heap.size B (Nat.le_refl _) (K.ms.below h9) (aw.keep (.below h9)).rd X2 al);have ao:Hid (X=enX v n (es.drop (k+1)) X2):=by
    show _=_
    rw [hQ.out,enS_drop x aA,al]
   have aS:=kD (λ y (h:X2=some y)=>next_ms aV.out.1 am.out (h ▸ al));obtain⟨ek,ea,eb,ss,er⟩:=e;simp only at ca cb cc cd H CN aw;obtain⟨sl,aG⟩:∃ q,ss.length=q:=⟨_,rfl⟩;rw [aG] at cd CN;simp only [List.length_cons,List.length_nil,Nat.zero_add,Nat.reduceAdd] at K CN;clear aA al aw aG hQ am;have KB:=K;go_upto_region 7 with fail;refine region_rel [some 32,some 33,some 34,some 35,some 36,some 37,some 38,some 39,some 40,some 41,some 42,some 31,some 43,some 44,some 6,none,some 7] 17 (Pl [some (.pointer (some ⟨w.heap.size,0,none⟩)),some (.agg #[.int .i64 v.p,.int .i64 v.c,.int .i64 v.h,.int .i64 v.s]),some (.pointer (some ⟨w.heap.size,4,none⟩)),some (.int .i64 n),some (.agg #[.slice B0 2 d0,.int .i64 x.gs,.slice B1 x.g.b.1.length d1,.slice B2 x.g.b.2.length d2,.int .i64 x.g.pl,.int .i64 x.g.x,.int .i64 x.g.y,.int .i64 x.g.ph,.int .i64 x.g.wn,.int .i64 x.g.rs,.int .i64 x.g.tn,.bool x.ov]),some (.pointer (some ⟨w.heap.size,5,none⟩)),some (.slice (some ⟨ba,oa,none⟩) M ce),some (.int .i64 (k:Int)),some (.pointer (some ⟨ba,oa+k*5,none⟩)),some (.agg #[.int .i64 ek,.int .i64 ea,.int .i64 eb,.slice As sl cs,.int .i64 er]),none,none,none,none,none,none,none]) (λ L d w'=>CbF (inS RelMO (λ b=>wr.heap.size<=b)) X2 wr 10 14 15 [(11,(λ v=>v)),(12,ext 0),(13,ext 1),(16,ext 1)] (λ v=>aggC (ext 0 v)) 52 12 L d w') (by kernel_rfl) (by kernel_rfl) (by kernel_rfl) (by kernel_rfl) (by kernel_rfl) (by kernel_rfl) (by first | kernel_rfl | rfl) ?g0_1 ?gst_1 ?gfin_1
   case g0_1=>exact⟨(Below.refl _ _).drew,λ h=>absurd h (by decide),λ p R h=>absurd h (by simp only [List.mem_cons,List.not_mem_nil,or_false] at R;rcases R with rfl | rfl | rfl | rfl <;> decide),λ h=>absurd h (by decide),λ h=>absurd h (by decide)⟩
   case gst_1 =>
    refine rN rfl (λ L d A B o j z U F K r=>?_) ?_
    ·have e1:=U.w 1 (.pointer (some ⟨w.heap.size,0,none⟩));have l:=KB.below F.bel;obtain⟨Q,P,O,N,J,I⟩:=(l.k.nth0 0 rfl).c6;have m:=(l.k.nth0 0 rfl).lt;obtain⟨y0,y1,y2,y3,y4,y5,y6,y7,y8,y9,D,C⟩:=row12 l.r4;have T:=l.r4.lt;have ab:=(F.bel.cell a).trans ca;have aa:=(F.bel.cell a).trans cb;have Z:=(F.bel.cell a).trans cc;have Y:=(F.bel.cell a).trans cd;have W:=(F.bel.cell a).trans H;clear l;go_simp;exact pF r (F.skip 0 _)
    refine rN rfl (λ L d A B o j z U F K r=>?_) ?_
    ·have br:=U.v 0 32;have l:=KB.below F.bel;obtain⟨Q,P,O,N,J,I⟩:=(l.k.nth0 0 rfl).c6;have m:=(l.k.nth0 0 rfl).lt;obtain⟨y0,y1,y2,y3,y4,y5,y6,y7,y8,y9,D,C⟩:=row12 l.r4;have T:=l.r4.lt;have ab:=(F.bel.cell a).trans ca;have aa:=(F.bel.cell a).trans cb;have Z:=(F.bel.cell a).trans cc;have Y:=(F.bel.cell a).trans cd;have W:=(F.bel.cell a).trans H;clear l;go_simp;exact pF r (F.skip 1 _)
    refine rN rfl (λ L d A B o j z U F K r=>?_) ?_
    ·have e1:=U.w 1 (.pointer (some ⟨w.heap.size,0,none⟩));have l:=KB.below F.bel;obtain⟨Q,P,O,N,J,I⟩:=(l.k.nth0 0 rfl).c6;have m:=(l.k.nth0 0 rfl).lt;obtain⟨y0,y1,y2,y3,y4,y5,y6,y7,y8,y9,D,C⟩:=row12 l.r4;have T:=l.r4.lt;have ab:=(F.bel.cell a).trans ca;have aa:=(F.bel.cell a).trans cb;have Z:=(F.bel.cell a).trans cc;have Y:=(F.bel.cell a).trans cd;have W:=(F.bel.cell a).trans H;clear l;go_simp;exact pF r (F.skip 2 _)
    refine rN rfl (λ L d A B o j z U F K r=>?_) ?_
    ·have bp:=U.v 2 34;have l:=KB.below F.bel;obtain⟨Q,P,O,N,J,I⟩:=(l.k.nth0 0 rfl).c6;have m:=(l.k.nth0 0 rfl).lt;obtain⟨y0,y1,y2,y3,y4,y5,y6,y7,y8,y9,D,C⟩:=row12 l.r4;have T:=l.r4.lt;have ab:=(F.bel.cell a).trans ca;have aa:=(F.bel.cell a).trans cb;have Z:=(F.bel.cell a).trans cc;have Y:=(F.bel.cell a).trans cd;have W:=(F.bel.cell a).trans H;clear l;go_simp;exact pF r (F.skip 3 _)
    refine rN rfl (λ L d A B o j z U F K r=>?_) ?_
    ·have e4:=U.w 4 (.pointer (some ⟨g4,0,none⟩));have l:=KB.below F.bel;obtain⟨Q,P,O,N,J,I⟩:=(l.k.nth0 0 rfl).c6;have m:=(l.k.nth0 0 rfl).lt;obtain⟨y0,y1,y2,y3,y4,y5,y6,y7,y8,y9,D,C⟩:=row12 l.r4;have T:=l.r4.lt;have ab:=(F.bel.cell a).trans ca;have aa:=(F.bel.cell a).trans cb;have Z:=(F.bel.cell a).trans cc;have Y:=(F.bel.cell a).trans cd;have W:=(F.bel.cell a).trans H;clear l;go_simp;exact pF r (F.skip 4 _)
    refine rN rfl (λ L d A B o j z U F K r=>?_) ?_
    ·have e1:=U.w 1 (.pointer (some ⟨w.heap.size,0,none⟩));have l:=KB.below F.bel;obtain⟨Q,P,O,N,J,I⟩:=(l.k.nth0 0 rfl).c6;have m:=(l.k.nth0 0 rfl).lt;obtain⟨y0,y1,y2,y3,y4,y5,y6,y7,y8,y9,D,C⟩:=row12 l.r4;have T:=l.r4.lt;have ab:=(F.bel.cell a).trans ca;have aa:=(F.bel.cell a).trans cb;have Z:=(F.bel.cell a).trans cc;have Y:=(F.bel.cell a).trans cd;have W:=(F.bel.cell a).trans H;clear l;go_simp;exact pF r (F.skip 5 _)
    refine rN rfl (λ L d A B o j z U F K r=>?_) ?_
    ·have bm:=U.v 5 37;have l:=KB.below F.bel;obtain⟨Q,P,O,N,J,I⟩:=(l.k.nth0 0 rfl).c6;have m:=(l.k.nth0 0 rfl).lt;obtain⟨y0,y1,y2,y3,y4,y5,y6,y7,y8,y9,D,C⟩:=row12 l.r4;have T:=l.r4.lt;have ab:=(F.bel.cell a).trans ca;have aa:=(F.bel.cell a).trans cb;have Z:=(F.bel.cell a).trans cc;have Y:=(F.bel.cell a).trans cd;have W:=(F.bel.cell a).trans H;clear l;go_simp;exact pF r (F.skip 6 _)
    refine rN rfl (λ L d A B o j z U F K r=>?_) ?_
    ·have e5:=U.w 5 (.int .i64 (k:Int));go_simp;exact pF r (F.skip 7 _)
    refine rN rfl (λ L d A B o j z U F K r=>?_) ?_
    ·have bl:=U.v 6 38;have bk:=U.v 7 39;go_simp;exact pF r (F.skip 8 _)
    refine rN rfl (λ L d A B o j z U F K r=>?_) ?_
    ·have bj:=U.v 8 40;have l:=KB.below F.bel;obtain⟨Q,P,O,N,J,I⟩:=(l.k.nth0 0 rfl).c6;have m:=(l.k.nth0 0 rfl).lt;obtain⟨y0,y1,y2,y3,y4,y5,y6,y7,y8,y9,D,C⟩:=row12 l.r4;have T:=l.r4.lt;have ab:=(F.bel.cell a).trans ca;have aa:=(F.bel.cell a).trans cb;have Z:=(F.bel.cell a).trans cc;have Y:=(F.bel.cell a).trans cd;have W:=(F.bel.cell a).trans H;clear l;go_simp;exact pF r (F.skip 9 _)
    refine rN rfl (λ L d A B o j z U F K r=>?_) ?_
    ·have bq:=U.v 1 33;have bo:=U.v 3 35;have bn:=U.v 4 36;have bi:=U.v 9 41;go_simp;refine(CN.out B F.bel).mono ?_;rintro e w6 ⟨v6,rfl,a0,a1⟩;exact r.out v6 w6 (Pl.any rfl) (F.call o (by decide) a1 (RelMO.weak a0 (λ b hb _=>hb.elim False.elim (λ h=>⟨.inr h,by have:=F.bel.size;omega⟩))))
    refine rN rfl (λ L d A B o j z U F K r=>?_) ?_
    ·have bh:=U.x 10 42;go_simp;exact r.out _ B (Pl.any rfl) (F.part 11 (by decide) (bK j 10) (by intro p R e;simp only [List.mem_cons,List.not_mem_nil,or_false] at R;rcases R with rfl | rfl | rfl | rfl <;> first | exact absurd e (by decide) | rfl))
    refine rN rfl (λ L d A B o j z U F K r=>?_) ?_
    ·have ai:=U.x 11 31;have fc:=F.fc (bK j 10);refine fc.elim λ B3 q=>?_
     refine q.elim λ d3 q=>?_
     refine q.elim λ f3 q=>?_
     refine q.elim λ B4 q=>?_
     refine q.elim λ d4 q=>?_
     refine q.elim λ f4 q=>?_
     refine q.elim λ B5 q=>?_
     refine q.elim λ d5 q=>?_
     refine q.elim λ f5 q=>?_
     refine q.elim λ y q=>?_
     have aR:=ai.trans ((F.fd (11,(λ v=>v)) (by simp) (bK j 11)).2.trans q.1);clear ai fc;go_simp;exact r.out _ B (Pl.any rfl) (F.part 12 (by decide) (bK j 10) (by intro p R e;simp only [List.mem_cons,List.not_mem_nil,or_false] at R;rcases R with rfl | rfl | rfl | rfl <;> first | exact absurd e (by decide) | (rw [q.1];try rfl)))
    refine rN rfl (λ L d A B o j z U F K r=>?_) ?_
    ·have ai:=U.x 11 31;have fc:=F.fc (bK j 10);refine fc.elim λ B3 q=>?_
     refine q.elim λ d3 q=>?_
     refine q.elim λ f3 q=>?_
     refine q.elim λ B4 q=>?_
     refine q.elim λ d4 q=>?_
     refine q.elim λ f4 q=>?_
     refine q.elim λ B5 q=>?_
     refine q.elim λ d5 q=>?_
     refine q.elim λ f5 q=>?_
     refine q.elim λ y q=>?_
     have aR:=ai.trans ((F.fd (11,(λ v=>v)) (by simp) (bK j 11)).2.trans q.1);clear ai fc;go_simp;exact r.out _ B (Pl.any rfl) (F.part 13 (by decide) (bK j 10) (by intro p R e;simp only [List.mem_cons,List.not_mem_nil,or_false] at R;rcases R with rfl | rfl | rfl | rfl <;> first | exact absurd e (by decide) | (rw [q.1];try rfl)))
    refine rN rfl (λ L d A B o j z U F K r=>?_) ?_
    ·go_simp;exact r.out _ _ (Pl.any rfl) (F.box o (by decide) (λ h=>o (z 15 14 (by kernel_rfl) h)) rfl)
    refine rN rfl (λ L d A B o j z U F K r=>?_) ?_
    ·have e6:=U.x 14 6;have a4:=U.x 12 43;have fc:=F.fc (bK j 10);refine fc.elim λ B3 q=>?_
     refine q.elim λ d3 q=>?_
     refine q.elim λ f3 q=>?_
     refine q.elim λ B4 q=>?_
     refine q.elim λ d4 q=>?_
     refine q.elim λ f4 q=>?_
     refine q.elim λ B5 q=>?_
     refine q.elim λ d5 q=>?_
     refine q.elim λ f5 q=>?_
     refine q.elim λ y q=>?_
     refine(F.fa (bK j 14)).elim λ g qa=>?_
     refine qa.2.2.1.elim λ cs qc=>?_
     have aO:cs.length=12:=qc.1;have aY:d 12=.agg ⟨(msC (.slice B3 d3 f3) (.slice B4 d4 f4) (.slice B5 d5 f5) y)⟩:=by rw [(F.fd (12,ext 0) (by simp) (bK j 12)).2,q.1];rfl
     refine wp_sm 52 _ _ rfl g 0 (msC (.slice B3 d3 f3) (.slice B4 d4 f4) (.slice B5 d5 f5) y) cs (ev (e6.trans qa.1)) (ev (a4.trans aY)) 52 qc.2 (by kernel_rfl) (Nat.le_of_eq aO.symm) rfl ?_;exact r.out undef _ (Pl.any rfl) (F.wrote (by decide) (bK j 10) (bK j 14) qa.1 qa.2.1 qc.2 (by rw [q.1];exact setL_all cs _ aO))
    refine rN rfl (λ L d A B o j z U F K r=>?_) ?_
    ·have aQ:=U.x 13 44;have fc:=F.fc (bK j 10);refine fc.elim λ B3 q=>?_
     refine q.elim λ d3 q=>?_
     refine q.elim λ f3 q=>?_
     refine q.elim λ B4 q=>?_
     refine q.elim λ d4 q=>?_
     refine q.elim λ f4 q=>?_
     refine q.elim λ B5 q=>?_
     refine q.elim λ d5 q=>?_
     refine q.elim λ f5 q=>?_
     refine q.elim λ y q=>?_
     have bb:=aQ.trans ((F.fd (13,ext 1) (by simp) (bK j 13)).2.trans (by rw [q.1];try rfl));clear fc aQ;go_simp;exact r.out _ B (Pl.any rfl) (F.part 16 (by decide) (bK j 10) (by intro p R e;simp only [List.mem_cons,List.not_mem_nil,or_false] at R;rcases R with rfl | rfl | rfl | rfl <;> first | exact absurd e (by decide) | (rw [q.1];try rfl)))
    exact RelFrom.nil (by decide)
   intro d B R F;simp only [Fr,Act.put,sX,Nat.reduceAdd];obtain⟨gx,az,bf,-,aL⟩:=F.fa trivial;have R6:=(F.fw trivial).2 gx az;obtain⟨B3,d3,f3,B4,d4,f4,B5,d5,f5,y,af,ag⟩:=aL trivial;have ap:d 16=.bool X2.isSome:=(F.fd (16,ext 1) (by simp) trivial).2.trans (by rw [af];try rfl);rw [af] at R6;have R6:RowB B gx 52 (msC (.slice B3 d3 f3) (.slice B4 d4 f4) (.slice B5 d5 f5) y):=R6;rw [az,ap];have aP:=F.bel;have K:=KB.below aP;have aJ:g4<wr.heap.size:=r.out.r4.lt;have aD:=kD ag;clear F R af ap aL az CN r Q P O N J I m E ca cb cc cd H a ag aP;have E:=K.k.nth0 0 rfl;obtain⟨Q,P,O,N,J,I⟩:=E.c6;have m:=E.lt
   cases X2 with
   | none =>
    have aC:X=none:=by rw [ao.out];rfl
    subst aC;have K:=K.k;clear ao aD R6;have rr:=K.nth 1 rfl;have V:=K.bel;go_wp2_with (refine wM 52 0 (nulMC) rr ?_;intro w7 s7 S z7;refine Hid.out ?_);have ah:Below w.heap.size w w7:=V.grown S V.size (λ k hk=>by simp at hk;omega);obtain⟨z0,z1,z2,z3,z4,z5,z6,ac,z8,z9,ae,ad⟩:=row12 s7;have aK:=s7.lt;clear S rr K V Q P O N J I m E;refine kD ?_
    repeat (first | go_values | go_skip | go_step | go_upon)
    refine bodyPost_ret (v:=.tuple #[.agg ⟨nulMC⟩,.bool false]) (by simp [results,Tryz.results62,go_sem,nulMC,msC,nulM,nulG,z0,z1,z2,z3,z4,z5,z6,ac,z8,z9,ae,ad]) rfl ?_;exact⟨_,rfl,⟨_,_,_,_,_,_,_,_,_,_,rfl,λ x0 h=>by cases h⟩,ah⟩
   | some y0 =>
   obtain⟨rfl,G⟩:=aD.out _ rfl;have aT:=kD (aS.out y rfl);have a5:Hid (X=enS v n y (es.drop (k+1))):=ao;have bd:IntKind.i64.wrap ((k:Int)+1)=(k:Int)+1:=IntWalk.i64_in _ (by omega);obtain⟨ar,y1,y2,y3,y4,y5,y6,y7,y8,y9,D,C⟩:=row12 R6;have ax:=R6.lt;have R4:=K.r4;have aM:=R4.lt;clear ao aD aS;go_upto_region 6 with (first | (refine wM 52 0 (msC (.slice B3 d3 f3) (.slice B4 d4 f4) (.slice B5 d5 f5) y) R4 ?_;intro bc aF aq aW));have K2:=K.st aF aq (G.weak (λ b h hl=>⟨by have:=h.1;have:=h.2;have:=K.k.bel.size;have:=K.lo;omega,by have:=h.2;omega⟩));have a8:=kD K2;clear ar y1 y2 y3 y4 y5 y6 y7 y8 y9 D C ax R4 aF aq aW K G K2 Q P O N J I m E aM R6;go_wp2_with fail;go_roundw
   case rel=>exact⟨k+1,y,_,_,_,by first | rfl | go_num,by omega,a8,aT,a5⟩
   case measure=>simp [intOf];omega
  ·obtain rfl:M=k:=by omega
   have a2:X=some x:=by rw [hQ.out,<-HM.out];exact enS_end x
   subst a2;obtain⟨ar,y1,y2,y3,y4,y5,y6,y7,y8,y9,D,C⟩:=row12 K.r4;have ax:=K.r4.lt;have rr:=K.k.nth 1 rfl;have G:=K.ms;have aJ:=K.lo;have aB:=K.k.bel;simp only [List.length_cons,List.length_nil,Nat.zero_add,Nat.reduceAdd] at G;clear hQ am;go_wp2_with (refine wM 52 0 (msC (.slice B0 2 d0) (.slice B1 x.g.b.1.length d1) (.slice B2 x.g.b.2.length d2) x) rr ?_;intro w7 s7 S z7;refine Hid.out ?_);have ah:Below w.heap.size w w7:=aB.grown S aB.size (λ k hk=>by simp at hk;omega);have aI:MsR w7 (λ b=>False∨w.heap.size<=b) _ _ _ x:=(G.keep (Still.grown S (λ k hk hn=>by simp at hk;have:=hn.1;omega))).weak (λ b h _=>.inr (by have:=h.1;omega));obtain⟨z0,z1,z2,z3,z4,z5,z6,ac,z8,z9,ae,ad⟩:=row12 s7;have aK:=s7.lt;clear S rr aB G ar y1 y2 y3 y4 y5 y6 y7 y8 y9 D C ax Q P O N J I m E K r aJ;refine kD ?_
   repeat (first | go_values | go_skip | go_step | go_upon)
   refine bodyPost_ret (v:=.tuple #[.agg ⟨msC (.slice B0 2 d0) (.slice B1 x.g.b.1.length d1) (.slice B2 x.g.b.2.length d2) x⟩,.bool true]) (by simp [results,Tryz.results62,go_sem,msC,z0,z1,z2,z3,z4,z5,z6,ac,z8,z9,ae,ad]) rfl ?_;exact⟨_,rfl,⟨_,_,_,_,_,_,_,_,_,_,rfl,λ x0 h=>by obtain rfl:=Option.some.inj h;exact⟨rfl,aI⟩⟩,ah⟩
theorem lines_succ {v:Vr} {es:List Ev} {k:Nat} {e:Ev} (h:es[k]?=some e):linesT v (es.take (k+1))=linesT v (es.take k)++(evnT v e++[10]):=by
 unfold linesT;rw [take_succ es k e h,List.map_append,List.flatten_append];simp
def matJ (v:Vr) (n:Int) (es:List Ev) (k:Nat):By:=hdT v n++[10]++linesT v (es.take k)
theorem matJ_succ {v:Vr} {n:Int} {es:List Ev} {k:Nat} {e:Ev} (h:es[k]?=some e):matJ v n es (k+1)=matJ v n es k++evnT v e++[10]:=by
 unfold matJ;rw [lines_succ h];simp [List.append_assoc]
theorem matJ_end (v:Vr) (n:Int) (es:List Ev):matJ v n es es.length=matT v n es:=by
 unfold matJ matT;rw [List.take_of_length_le (Nat.le_refl _)]
theorem matJ_zero (v:Vr) (n:Int) (es:List Ev):matJ v n es 0=hdT v n++[10]:=by
 unfold matJ linesT;simp
def matX (v:Vr) (n:Int) (es:List Ev):By:=if (finS v n es).isSome=true then matT v n es else []
theorem fin_parts {v:Vr} {n:Int} {es:List Ev} (h:(finS v n es).isSome=true):headB v n=true∧es.length<=300:=by
 unfold finS at h;split at h
 ·cases h
 ·rename_i hn
  refine⟨?_,by omega⟩
  cases hb:headB v n with
  | true=>rfl
  | false=>exact absurd (.inl hb) hn
theorem vT_short {v:Vr} (hv:okV v=true):(vT v).length<=11:=by
 have f:=okV_iff.1 hv;have e:=(ito_len (n:=v.p) (by omega) (by omega)).2;have d:=(ito_len (n:=v.c) (by omega) (by omega)).2;have b:=(ito_len (n:=v.h) (by omega) (by omega)).2;have a:=(ito_len (n:=v.s) (by omega) (by omega)).2;rw [vT_at hv];simp only [List.length_append,List.length_cons,List.length_nil];omega
theorem ismatch_s (v:Vr) (n:Int) (es:List Ev) (Ae:Option Addr) (ce:Nat) (w:World) (hes:EvL w All Ae es) (ok:Bool) (hok:(finS v n es).isSome=ok) :
  Calls Tryz.prog 29 #[.agg #[.int .i64 v.p,.int .i64 v.c,.int .i64 v.h,.int .i64 v.s,.int .i64 n,.slice Ae es.length ce]] w λ f w'=>f=.returned (.bool ok)∧Below w.heap.size w w':=by
 obtain⟨X,g⟩:∃ X,finS v n es=X:=⟨_,rfl⟩;have i:=kD (λ(j:World) (A:Below w.heap.size w j)=>lstate_s v n es Ae ce j (hes.keep (.below A)) X g);rw [g] at hok;obtain⟨M,l⟩:∃ M,es.length=M:=⟨_,rfl⟩;rw [l] at i ⊢;clear hes g l;go_enter Tryz.func29,Tryz.ntmps29;go_upto_region 1 with fail;refine wp_gen (λ B=>Rows w B [(0,26,[.int .i64 v.p,.int .i64 v.c,.int .i64 v.h,.int .i64 v.s,.int .i64 n,.slice Ae M ce])]) ⟨by go_grown,λ p z=>?_⟩ ?_
 ·obtain rfl:=List.mem_singleton.1 z;exact RowB.new _ _ _
 intro D K;have b:=K.nth0 0 rfl;obtain⟨x,t,r,q,o,m⟩:=b.c6;have d:=b.lt;go_wp2_with fail;refine(i.out _ K.bel).mono ?_;rintro e C ⟨E,rfl,⟨P,H,L,O,G,J,N,F,I,y,rfl,-⟩,k⟩;have a:=(K.below k).bel;clear i K k b d x t r q o m;simp only [msC];go_wp2_with fail;go_ret;exact⟨by first | rfl | (rw [hok];rfl),by go_grown <;> first | exact a | exact a.size | omega⟩
theorem ltext_s (v:Vr) (n:Int) (es:List Ev) (Ae:Option Addr) (ce:Nat) (hv:okV v=true) (hn:1<=n∧n<=25) (hm:es.length<=300) (w:World) (hes:EvL w All Ae es) :
  Calls Tryz.prog 30 #[.agg #[.int .i64 v.p,.int .i64 v.c,.int .i64 v.h,.int .i64 v.s,.int .i64 n,.slice Ae es.length ce]] w λ f w'=>f=.returned (.string (bs (matT v n es)))∧Below w.heap.size w w':=by
 have CV:=kD (λ(B:World)=>vtext_s v B);have CN:=kD (λ(B:World)=>num_s n (by omega) (by omega) B);have aD:=kD (λ(B:World) (h9:Below w.heap.size w B)=>hes.keep (.below h9));have HV:=kD hv;have z1:=vT_short hv;have z2:=(ito_len (n:=n) (by omega) (by omega)).2;obtain⟨x1,ab⟩:∃ z:ByteArray,bs (vT v)=z:=⟨_,rfl⟩;obtain⟨x2,aa⟩:∃ z:ByteArray,bs (Lib.itoa n)=z:=⟨_,rfl⟩;have s1:x1.size<=11:=by rw [<-ab];exact Nat.le_trans (Nat.le_of_eq (bs_size _)) z1
 have s2:x2.size<=2:=by rw [<-aa];exact Nat.le_trans (Nat.le_of_eq (bs_size _)) z2
 have HI:Hid ((((⟨#[109,97,116,99,104,32]⟩:ByteArray)++x1)++(⟨#[32]⟩:ByteArray))++x2++(⟨#[10]⟩:ByteArray)=bs (matJ v n es 0)):=by
  show _=_
  rw [matJ_zero,<-ab,<-aa];have g1:(⟨#[109,97,116,99,104,32]⟩:ByteArray)=bs (maW++[32]):=rfl;have g2:(⟨#[32]⟩:ByteArray)=bs [32]:=rfl;have g3:(⟨#[10]⟩:ByteArray)=bs [10]:=rfl;simp only [g1,g2,g3,bs_cat,hdT]
 have aB:Hid ((matJ v n es 0).length<=60*0+40):=by
  show _<=_
  rw [matJ_zero];simp only [hdT,List.length_append,List.length_cons,List.length_nil,maW];omega
 rw [ab] at CV;rw [aa] at CN;obtain⟨T1,af⟩:∃ z,(⟨#[109,97,116,99,104,32]⟩:ByteArray)++x1=z:=⟨_,rfl⟩;have u1:T1.size<=17:=by rw [<-af,ByteArray.size_append];show 6+x1.size<=17;omega
 obtain⟨T2,ae⟩:∃ z,T1++(⟨#[32]⟩:ByteArray)=z:=⟨_,rfl⟩;have u2:T2.size<=18:=by rw [<-ae,ByteArray.size_append];show T1.size+1<=18;omega
 obtain⟨T3,ad⟩:∃ z,T2++x2=z:=⟨_,rfl⟩;have u3:T3.size<=20:=by rw [<-ad,ByteArray.size_append];omega
 obtain⟨T4,ap⟩:∃ z,T3++(⟨#[10]⟩:ByteArray)=z:=⟨_,rfl⟩;rw [af,ae,ad,ap] at HI;have G1:Hid (¬ 9223372036854775807<6+x1.size):=kD (by omega);have G2:Hid (¬ 9223372036854775807<T1.size+1):=kD (by omega);have G3:Hid (¬ 9223372036854775807<T2.size+x2.size):=kD (by omega);have G4:Hid (¬ 9223372036854775807<T3.size+1):=kD (by omega);have P:=kD af;have O:=kD ae;have N:=kD ad;have J:=kD ap;have ay:=kD (matJ_end v n es);obtain⟨M,hM⟩:∃ M,es.length=M:=⟨_,rfl⟩;rw [hM] at hm ay ⊢;have HM:=kD hM;clear ab aa s1 s2 z1 z2 u1 u2 u3 af ae ad ap hv hn hes hM;go_enter Tryz.func30,Tryz.ntmps30;go_upto_region 1 with fail;refine wp_gen (λ W'=>Rows w W' [(0,26,[.int .i64 v.p,.int .i64 v.c,.int .i64 v.h,.int .i64 v.s,.int .i64 n,.slice Ae M ce])]) ⟨by go_grown,λ p hp=>?_⟩ ?_
 ·obtain rfl:=List.mem_singleton.1 hp;exact RowB.new _ _ _
 intro w1 K;have W:=kD K;clear K;refine region_rel [some 5,some 6,some 7,some 8,some 9,some 10,some 11,some 12,some 13,some 14,some 3] 11 (Pl [some (.pointer (some ⟨w.heap.size,0,none⟩)),some (.agg #[.int .i64 v.p,.int .i64 v.c,.int .i64 v.h,.int .i64 v.s]),some (.string x1),some (.string T1),some (.string T2),some (.pointer (some ⟨w.heap.size,4,none⟩)),some (.int .i64 n),some (.string x2),some (.string T3),some (.string T4),some (.string T4)]) (λ L d w'=>Below w1.heap.size w1 w') (by kernel_rfl) (by kernel_rfl) (by kernel_rfl) (by kernel_rfl) (by kernel_rfl) (by kernel_rfl) (by first | kernel_rfl | rfl) ?g0_1 ?gst_1 ?gfin_1
 case g0_1=>exact(Below.refl _ _).drew
 case gst_1 =>
  refine rN rfl (λ L d A B l o m U F K t=>?_) ?_
  ·have e1:=U.w 1 (.pointer (some ⟨w.heap.size,0,none⟩));have C:=(W.out.below F).nth0 0 rfl;have D:=C.c6;have r0:=D.1;have r1:=D.2.1;have r2:=D.2.2.1;have r3:=D.2.2.2.1;have r4:=D.2.2.2.2.1;have an:=C.lt;clear C D;have y:=G1.out;have x:=G2.out;have R:=G3.out;have Q:=G4.out;have T:=P.out;have t2:=O.out;have t3:=N.out;have t4:=J.out;go_simp;exact pF t (F)
  refine rN rfl (λ L d A B l o m U F K t=>?_) ?_
  ·have e5:=U.v 0 5;have C:=(W.out.below F).nth0 0 rfl;have D:=C.c6;have r0:=D.1;have r1:=D.2.1;have r2:=D.2.2.1;have r3:=D.2.2.2.1;have r4:=D.2.2.2.2.1;have an:=C.lt;clear C D;have y:=G1.out;have x:=G2.out;have R:=G3.out;have Q:=G4.out;have T:=P.out;have t2:=O.out;have t3:=N.out;have t4:=J.out;go_simp;exact pF t (F)
  refine rN rfl (λ L d A B l o m U F K t=>?_) ?_
  ·have e6:=U.v 1 6;go_simp;refine(CV.out B).mono ?_;rintro e w6 ⟨rfl,X⟩;exact pF t (F.trans (X.mono F.size))
  refine rN rfl (λ L d A B l o m U F K t=>?_) ?_
  ·have e7:=U.v 2 7;have y:=G1.out;have x:=G2.out;have R:=G3.out;have Q:=G4.out;have T:=P.out;have t2:=O.out;have t3:=N.out;have t4:=J.out;go_simp;exact pF t (F)
  refine rN rfl (λ L d A B l o m U F K t=>?_) ?_
  ·have e8:=U.v 3 8;have y:=G1.out;have x:=G2.out;have R:=G3.out;have Q:=G4.out;have T:=P.out;have t2:=O.out;have t3:=N.out;have t4:=J.out;go_simp;exact pF t (F)
  refine rN rfl (λ L d A B l o m U F K t=>?_) ?_
  ·have e1:=U.w 1 (.pointer (some ⟨w.heap.size,0,none⟩));have C:=(W.out.below F).nth0 0 rfl;have D:=C.c6;have r0:=D.1;have r1:=D.2.1;have r2:=D.2.2.1;have r3:=D.2.2.2.1;have r4:=D.2.2.2.2.1;have an:=C.lt;clear C D;have y:=G1.out;have x:=G2.out;have R:=G3.out;have Q:=G4.out;have T:=P.out;have t2:=O.out;have t3:=N.out;have t4:=J.out;go_simp;exact pF t (F)
  refine rN rfl (λ L d A B l o m U F K t=>?_) ?_
  ·have aU:=U.v 5 10;have C:=(W.out.below F).nth0 0 rfl;have D:=C.c6;have r0:=D.1;have r1:=D.2.1;have r2:=D.2.2.1;have r3:=D.2.2.2.1;have r4:=D.2.2.2.2.1;have an:=C.lt;clear C D;have y:=G1.out;have x:=G2.out;have R:=G3.out;have Q:=G4.out;have T:=P.out;have t2:=O.out;have t3:=N.out;have t4:=J.out;go_simp;exact pF t (F)
  refine rN rfl (λ L d A B l o m U F K t=>?_) ?_
  ·have aT:=U.v 6 11;go_simp;refine(CN.out B).mono ?_;rintro e w6 ⟨rfl,X⟩;exact pF t (F.trans (X.mono F.size))
  refine rN rfl (λ L d A B l o m U F K t=>?_) ?_
  ·have e9:=U.v 4 9;have aS:=U.v 7 12;have y:=G1.out;have x:=G2.out;have R:=G3.out;have Q:=G4.out;have T:=P.out;have t2:=O.out;have t3:=N.out;have t4:=J.out;go_simp;exact pF t (F)
  refine rN rfl (λ L d A B l o m U F K t=>?_) ?_
  ·have aR:=U.v 8 13;have y:=G1.out;have x:=G2.out;have R:=G3.out;have Q:=G4.out;have T:=P.out;have t2:=O.out;have t3:=N.out;have t4:=J.out;go_simp;exact pF t (F)
  refine rN rfl (λ L d A B l o m U F K t=>?_) ?_
  ·have aQ:=U.v 9 14;have y:=G1.out;have x:=G2.out;have R:=G3.out;have Q:=G4.out;have T:=P.out;have t2:=O.out;have t3:=N.out;have t4:=J.out;go_simp;exact pF t (F)
  exact RelFrom.nil (by decide)
 intro d B hp F;simp only [Fr,Act.put,sX,Nat.reduceAdd];have h4:d 10=.string T4:=hp 10 (by decide) _ rfl;rw [h4,HI.out];have K:=W.out.below F;clear F hp h4 W P O N J G1 G2 G3 G4 CV CN HI;have W:=kD K;clear K;go_wp2_with fail;go_loopw [3,4] (λ s3 i wr=>∃ k:Nat,k<=M∧i=.int .i64 (k:Int)∧s3=.string (bs (matJ v n es k))∧Hid (Rows w wr [(0,26,[.int .i64 v.p,.int .i64 v.c,.int .i64 v.h,.int .i64 v.s,.int .i64 n,.slice Ae M ce])])∧Hid ((matJ v n es k).length<=60*k+40)) (λ _ i _=>M - (intOf i).toNat)
 case atStart=>exact⟨0,Nat.zero_le _,by first | rfl | trivial,rfl,W,aB⟩
 case round =>
  obtain⟨k,hk,rfl,rfl,W,HL⟩:=hrel;have K:=W.out;have rm:=K.nth0 0 rfl;obtain⟨q0,q1,q2,q3,q4,q5⟩:=rm.c6;have V:=rm.lt;by_cases hlt:k<M
  ·obtain⟨ba,oa,e,As,cs,rfl,aw,g,am,ca,cb,D,cd,S⟩:=(aD.out wr K.bel).at_ (i:=k) (by rw [HM.out];exact hlt);have CE:=kD (λ(B:World) (h9:Below wr.heap.size wr B)=>levent_s v HV.out e.k e.a e.b e.ss e.r As cs B.heap.size B (Nat.le_refl _) (am.keep (.below h9)).rd);have ao:matJ v n es (k+1)=matJ v n es k++evnT v e++[10]:=matJ_succ aw;have av:=evnT_len HV.out e;obtain⟨ek,ea,eb,ss,er⟩:=e;simp only at ca cb D cd S CE am;obtain⟨sl,ar⟩:∃ q,ss.length=q:=⟨_,rfl⟩;rw [ar] at cd CE;have zj:(bs (matJ v n es k)).size<=60*k+40:=by rw [bs_size];exact HL.out
   obtain⟨T,ac⟩:∃ z:ByteArray,bs (evnT v ⟨ek,ea,eb,ss,er⟩)=z:=⟨_,rfl⟩;have zt:T.size<=59:=by rw [<-ac,bs_size];exact av
   have HJ:Hid (bs (matJ v n es k)++T++(⟨#[10]⟩:ByteArray)=bs (matJ v n es (k+1))):=by
    show _=_
    rw [ao,<-ac];have g3:(⟨#[10]⟩:ByteArray)=bs [10]:=rfl;simp only [g3,bs_cat]
   have aA:Hid ((matJ v n es (k+1)).length<=60*(k+1)+40):=by
    show _<=_
    have:=HL.out;rw [ao];simp only [List.length_append,List.length_cons,List.length_nil];omega
   obtain⟨bJ,ax⟩:∃ z:ByteArray,bs (matJ v n es k)=z:=⟨_,rfl⟩;rw [ac] at CE;rw [ax] at zj HJ ⊢;obtain⟨S1,ag⟩:∃ z,bJ++T=z:=⟨_,rfl⟩;have zS:S1.size<=60*k+99:=by rw [<-ag,ByteArray.size_append];omega
   obtain⟨S2,aq⟩:∃ z,S1++(⟨#[10]⟩:ByteArray)=z:=⟨_,rfl⟩;rw [ag,aq] at HJ;have Z:Hid (¬ 9223372036854775807<bJ.size+T.size):=kD (by omega);have Y:Hid (¬ 9223372036854775807<S1.size+1):=kD (by omega);have G:=kD ag;have E:=kD aq;have aE:IntKind.i64.wrap ((k:Int)+1)=(k:Int)+1:=IntWalk.i64_in _ (by omega);clear aw ao av ar am zj ac zt ax ag aq zS HL;have KB:=K;go_upto_region 5 with fail;refine region_rel [some 22,some 23,some 24,some 25,some 26,some 27,some 28,some 29,some 30,some 31,some 32,some 3] 12 (Pl [some (.string bJ),some (.pointer (some ⟨w.heap.size,0,none⟩)),some (.agg #[.int .i64 v.p,.int .i64 v.c,.int .i64 v.h,.int .i64 v.s]),some (.pointer (some ⟨w.heap.size,5,none⟩)),some (.slice (some ⟨ba,oa,none⟩) M ce),some (.int .i64 (k:Int)),some (.pointer (some ⟨ba,oa+k*5,none⟩)),some (.agg #[.int .i64 ek,.int .i64 ea,.int .i64 eb,.slice As sl cs,.int .i64 er]),some (.string T),some (.string S1),some (.string S2),some (.string S2)]) (λ L d w'=>Below wr.heap.size wr w') (by kernel_rfl) (by kernel_rfl) (by kernel_rfl) (by kernel_rfl) (by kernel_rfl) (by kernel_rfl) (by first | kernel_rfl | rfl) ?g0_2 ?gst_2 ?gfin_2
   case g0_2=>exact(Below.refl _ _).drew
   case gst_2 =>
    refine rN rfl (λ L d A B l o m U F K t=>?_) ?_
    ·have e3:A.tmps[3]?.getD undef=.string bJ:=U.z 3 (λ j hl hj=>by obtain rfl:=nd_of _ (by kernel_rfl) j 11 3 hj rfl;exact l (m 11 0 (by kernel_rfl) hl));have y:=Z.out;have x:=Y.out;have I:=G.out;have H:=E.out;go_simp;exact pF t (F)
    refine rN rfl (λ L d A B l o m U F K t=>?_) ?_
    ·have e1:=U.w 1 (.pointer (some ⟨w.heap.size,0,none⟩));have C:=(KB.below F).nth0 0 rfl;obtain⟨q0,q1,q2,q3,q4,q5⟩:=C.c6;have V:=C.lt;have al:=(F.cell g).trans ca;have ak:=(F.cell g).trans cb;have aj:=(F.cell g).trans D;have ai:=(F.cell g).trans cd;have ah:=(F.cell g).trans S;clear C;have y:=Z.out;have x:=Y.out;have I:=G.out;have H:=E.out;go_simp;exact pF t (F)
    refine rN rfl (λ L d A B l o m U F K t=>?_) ?_
    ·have aO:=U.v 1 23;have C:=(KB.below F).nth0 0 rfl;obtain⟨q0,q1,q2,q3,q4,q5⟩:=C.c6;have V:=C.lt;have al:=(F.cell g).trans ca;have ak:=(F.cell g).trans cb;have aj:=(F.cell g).trans D;have ai:=(F.cell g).trans cd;have ah:=(F.cell g).trans S;clear C;have y:=Z.out;have x:=Y.out;have I:=G.out;have H:=E.out;go_simp;exact pF t (F)
    refine rN rfl (λ L d A B l o m U F K t=>?_) ?_
    ·have e1:=U.w 1 (.pointer (some ⟨w.heap.size,0,none⟩));have C:=(KB.below F).nth0 0 rfl;obtain⟨q0,q1,q2,q3,q4,q5⟩:=C.c6;have V:=C.lt;have al:=(F.cell g).trans ca;have ak:=(F.cell g).trans cb;have aj:=(F.cell g).trans D;have ai:=(F.cell g).trans cd;have ah:=(F.cell g).trans S;clear C;have y:=Z.out;have x:=Y.out;have I:=G.out;have H:=E.out;go_simp;exact pF t (F)
    refine rN rfl (λ L d A B l o m U F K t=>?_) ?_
    ·have aM:=U.v 3 25;have C:=(KB.below F).nth0 0 rfl;obtain⟨q0,q1,q2,q3,q4,q5⟩:=C.c6;have V:=C.lt;have al:=(F.cell g).trans ca;have ak:=(F.cell g).trans cb;have aj:=(F.cell g).trans D;have ai:=(F.cell g).trans cd;have ah:=(F.cell g).trans S;clear C;have y:=Z.out;have x:=Y.out;have I:=G.out;have H:=E.out;go_simp;exact pF t (F)
    refine rN rfl (λ L d A B l o m U F K t=>?_) ?_
    ·have e4:=U.w 4 (.int .i64 (k:Int));have y:=Z.out;have x:=Y.out;have I:=G.out;have H:=E.out;go_simp;exact pF t (F)
    refine rN rfl (λ L d A B l o m U F K t=>?_) ?_
    ·have aL:=U.v 4 26;have aK:=U.v 5 27;have y:=Z.out;have x:=Y.out;have I:=G.out;have H:=E.out;go_simp;exact pF t (F)
    refine rN rfl (λ L d A B l o m U F K t=>?_) ?_
    ·have aJ:=U.v 6 28;have C:=(KB.below F).nth0 0 rfl;obtain⟨q0,q1,q2,q3,q4,q5⟩:=C.c6;have V:=C.lt;have al:=(F.cell g).trans ca;have ak:=(F.cell g).trans cb;have aj:=(F.cell g).trans D;have ai:=(F.cell g).trans cd;have ah:=(F.cell g).trans S;clear C;have y:=Z.out;have x:=Y.out;have I:=G.out;have H:=E.out;go_simp;exact pF t (F)
    refine rN rfl (λ L d A B l o m U F K t=>?_) ?_
    ·have aN:=U.v 2 24;have aI:=U.v 7 29;go_simp;refine(CE.out B F).mono ?_;rintro e w6 ⟨rfl,X⟩;exact pF t (F.trans (X.mono F.size))
    refine rN rfl (λ L d A B l o m U F K t=>?_) ?_
    ·have aP:=U.v 0 22;have aH:=U.v 8 30;have y:=Z.out;have x:=Y.out;have I:=G.out;have H:=E.out;go_simp;exact pF t (F)
    refine rN rfl (λ L d A B l o m U F K t=>?_) ?_
    ·have aG:=U.v 9 31;have y:=Z.out;have x:=Y.out;have I:=G.out;have H:=E.out;go_simp;exact pF t (F)
    refine rN rfl (λ L d A B l o m U F K t=>?_) ?_
    ·have aF:=U.v 10 32;have y:=Z.out;have x:=Y.out;have I:=G.out;have H:=E.out;go_simp;exact pF t (F)
    exact RelFrom.nil (by decide)
   intro d B hp F;simp only [Fr,Act.put,sX,Nat.reduceAdd];have h4:d 11=.string S2:=hp 11 (by decide) _ rfl;rw [h4];have aC:=kD (KB.below F);clear F hp h4 K KB W q0 q1 q2 q3 q4 q5 V rm ca cb D cd S g CE;go_wp2_with fail;go_roundw
   case rel=>exact⟨k+1,by omega,by first | rfl | go_num,by rw [HJ.out],aC,aA⟩
   case measure=>simp [intOf];omega
  ·obtain rfl:M=k:=by omega
   have az:=K.bel;clear K W;go_wp2_with fail;go_ret;exact⟨by first | rfl | (rw [ay.out];rfl),az⟩
theorem mtext_s (v:Vr) (n:Int) (es:List Ev) (Ae:Option Addr) (ce:Nat) (w:World) (hes:EvL w All Ae es) :
  Calls Tryz.prog 11 #[.agg #[.int .i64 v.p,.int .i64 v.c,.int .i64 v.h,.int .i64 v.s,.int .i64 n,.slice Ae es.length ce]] w λ f w'=>f=.returned (.string (bs (matX v n es)))∧Below w.heap.size w w':=by
 obtain⟨k,a⟩:∃ b,(finS v n es).isSome=b:=⟨_,rfl⟩;have A:=kD (λ(i:World) (z:Below w.heap.size w i)=>ismatch_s v n es Ae ce i (hes.keep (.below z)) k a);have l:=kD (λ(i:World) (z:Below w.heap.size w i) (h:k=true)=>ltext_s v n es Ae ce (head_parts (fin_parts (a.trans h)).1).1 (head_parts (fin_parts (a.trans h)).1).2.2 (fin_parts (a.trans h)).2 i (hes.keep (.below z)));have C:matX v n es=if k=true then matT v n es else []:=by unfold matX;rw [a]
 rw [C];obtain⟨T,B⟩:∃ T,matT v n es=T:=⟨_,rfl⟩;rw [B] at l ⊢;obtain⟨M,D⟩:∃ M,es.length=M:=⟨_,rfl⟩;rw [D] at A l ⊢;clear hes a D C B;go_enter Tryz.func11,Tryz.ntmps11;go_upto_region 1 with fail;refine wp_gen (λ F=>Rows w F [(0,26,[.int .i64 v.p,.int .i64 v.c,.int .i64 v.h,.int .i64 v.s,.int .i64 n,.slice Ae M ce])]) ⟨by go_grown,λ p E=>?_⟩ ?_
 ·obtain rfl:=List.mem_singleton.1 E;exact RowB.new _ _ _
 intro I K;have d:=K.nth0 0 rfl;obtain⟨x,t,r,q,o,m⟩:=d.c6;have g:=d.lt;go_wp2_with fail;refine(A.out _ K.bel).mono ?_;rintro e H ⟨rfl,j⟩;have K:=K.below j;clear d g x t r q o m j A;have d:=K.nth0 0 rfl;obtain⟨x,t,r,q,o,m⟩:=d.c6;have g:=d.lt
 cases k with
 | false =>
  go_wp2_with fail;go_ret;exact⟨rfl,K.bel⟩
 | true =>
  go_wp2_with fail;refine(l.out _ K.bel (by first | rfl | trivial)).mono ?_;rintro e G ⟨rfl,j⟩;have y:=(K.below j).bel;clear d g x t r q o m j l K;go_wp2_with fail;go_ret;exact⟨rfl,y⟩
open Bd8
theorem vtext_i (v:Vr) (w:World) (E:Env w):Calls Tryz.prog 35 #[.agg #[.int .i64 v.p,.int .i64 v.c,.int .i64 v.h,.int .i64 v.s]] w λ e w'=>e=.returned (.string (bs (vT v)))∧Below w.heap.size w w':=by
 obtain⟨G,f⟩:∃ o,okV v=o:=⟨_,rfl⟩;have M:=kD (λ d=>var_i v G f d);have m:=kD f;clear f;go_enter Tryz.func35,Tryz.ntmps35;go_upto_region 1 with fail;refine wp_gen (λ O=>Rows w O [(0,23,vL v)]) ⟨by go_grown,λ p B=>?_⟩ ?_
 ·obtain rfl:=List.mem_singleton.1 B;exact RowB.new _ _ _
 intro R K;obtain⟨y,t,q,n⟩:=(K.nth0 0 rfl).c4;have g:=(K.nth0 0 rfl).lt;go_wp2_with fail;refine(M.out _).mono ?_;rintro e a ⟨rfl,l⟩;have K:=K.below l;clear y t q n g l M;obtain⟨y,t,q,n⟩:=(K.nth0 0 rfl).c4;have g:=(K.nth0 0 rfl).lt
 cases G with
 | false =>
  have j:vT v=[]:=by unfold vT;rw [if_neg (by rw [m.out];decide)]
  have F:=kD j;clear j;go_wp2_with fail;go_ret;exact⟨by first | rfl | (rw [F.out];rfl),K.bel⟩
 | true =>
 have B:=okV_iff.1 m.out;have j:vT v=Lib.join ([v.p,v.c,v.h,v.s].map Lib.itoa) [47]:=by
  rw [vT_at m.out];simp only [List.map_cons,List.map_nil];rw [join4]
 have C:=vT_short m.out;have L:=kD (λ(A:Option Addr) (N:Nat) (d:World) (h:RdS d d.heap.size 1 enI A [v.p,v.c,v.h,v.s]) (P:Env d)=>JoinN.join A N d.heap.size [v.p,v.c,v.h,v.s] ⟨#[47]⟩ d (Nat.le_refl _) h (by intro x H;simp at H;rcases H with rfl | rfl | rfl | rfl <;> omega) (by simp) (by rw [j] at C;exact Nat.le_trans C (by decide)) (by simp) P.tab);have F:=kD j;have J:=kD (E.below K.bel);clear j B C m E;go_wp2_with fail;have r:RowB (a.alloc (.cells #[.int .i64 v.p,.int .i64 v.c,.int .i64 v.h,.int .i64 v.s] 2)) a.heap.size 2 [.int .i64 v.p,.int .i64 v.c,.int .i64 v.h,.int .i64 v.s]:=RowB.new _ _ _;have z:SlV 1 enI (a.alloc (.cells #[.int .i64 v.p,.int .i64 v.c,.int .i64 v.h,.int .i64 v.s] 2)) (λ b=>a.heap.size<=b) (.slice (some ⟨a.heap.size,0,none⟩) 4 4) [v.p,v.c,v.h,v.s]:=sl_new (xs:=[v.p,v.c,v.h,v.s]) r (show (4:Nat)<=maxLen by decide) (Nat.le_refl _);obtain⟨A,c,I,k,-⟩:=z;simp only [Value.slice.injEq] at I;obtain⟨rfl,-,rfl⟩:=I;have i:Below a.heap.size a (a.alloc (.cells #[.int .i64 v.p,.int .i64 v.c,.int .i64 v.h,.int .i64 v.s] 2)):=(Below.refl _ _).alloc (Nat.le_refl _) _;refine(L.out _ _ _ k.rd (J.out.below i)).mono ?_;rintro e Q ⟨rfl,l⟩;have D:=(K.below i).below l |>.bel
 clear k i l K y t q n g r L J;go_wp2_with fail;go_ret;exact⟨by first | rfl | (rw [F.out];rfl),D⟩
end Gm
end Go.Proofs.YtblipmifflfnoaaGreatDoor
