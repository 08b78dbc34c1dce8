/- Parts of the proof of FnVerdicts. Conditions: each theorem's own. -/
import Derived.Test.YtmncnhbjifeoeaaGreatT30
import Derived.Test.YtmncnhbjifeoeaaGreatT19
set_option linter.unusedVariables false
set_option linter.unusedSimpArgs false
set_option maxHeartbeats 8000000
set_option maxRecDepth 100000
namespace Go.Proofs.YtmncnhbjifeoeaaGreat
namespace Gm
open Go Go.ChangeShapes Go.WideShapes Go.ChangeAt Go.RowKit Base Ints Own RelG PlP TxP Bd1 Bd5 RegInv RegF RegG
def RelEr:Rel ERow Ev where
 R:=λ w S r x=>(r.1=x.k∧r.2.1=x.a∧r.2.2.1=x.b∧r.2.2.2.2=x.r)∧∃ As cp,r.2.2.2.1=.slice As x.ss.length cp∧RdF w S 4 enSt As x.ss
 keep:=λ⟨e,A,c,h,k⟩ hs=>⟨e,A,c,h,k.keep hs⟩
 weak:=λ⟨e,A,c,h,k⟩ hs=>⟨e,A,c,h,k.weak hs⟩
def EvL (w:World) (S:Nat->Prop) (A:Option Addr) (es:List Ev):Prop:=∃ rs:List ERow,RdF w S 5 enEv A rs∧LsR RelEr w S rs es
theorem EvL.keep {w w':World} {S:Nat->Prop} {A:Option Addr} {es:List Ev} (h:EvL w S A es) (hs:Still S w w'):EvL w' S A es:=by
 obtain⟨a,c,b⟩:=h;exact⟨a,c.keep hs,b.keep hs⟩
theorem EvL.len {w:World} {S:Nat->Prop} {A:Option Addr} {es:List Ev} (h:EvL w S A es):es.length<=9223372036854775807:=by
 obtain⟨e,d,c⟩:=h;have a:=d.len;have b:=c.1;omega
theorem EvL.at_ {w:World} {S:Nat->Prop} {A:Option Addr} {es:List Ev} (h:EvL w S A es) {i:Nat} (hi:i<es.length) :
  ∃(b o:Nat) (e:Ev) (As:Option Addr) (cp:Nat),A=some ⟨b,o,none⟩∧es[i]?=some e∧b<w.heap.size∧RdF w S 4 enSt As e.ss ∧
   (w.cell? ⟨b,o+i*5,none⟩=some (.int .i64 e.k)∧w.cell? ⟨b,o+i*5+1,none⟩=some (.int .i64 e.a)∧w.cell? ⟨b,o+i*5+2,none⟩=some (.int .i64 e.b)∧w.cell? ⟨b,o+i*5+3,none⟩=some (.slice As e.ss.length cp)∧w.cell? ⟨b,o+i*5+4,none⟩=some (.int .i64 e.r)):=by
 obtain⟨D,v,d⟩:=h;obtain⟨b,o,r,t,-,s,n,c⟩:=v.at_ (i:=i) (by rw [d.1];exact hi);obtain⟨e,q,⟨C,B,z,x⟩,As,cp,y,p⟩:=d.at_ n;have m:=c 0 _ rfl;have l:=c 1 _ rfl;have j:=c 2 _ rfl;have g:=c 3 _ rfl;have f:=c 4 _ rfl;rw [C] at m;rw [B] at l;rw [z] at j;rw [y] at g;rw [x] at f;exact⟨b,o,e,As,cp,t,q,s,p,by simpa using m,by simpa using l,by simpa using j,by simpa using g,by simpa using f⟩
def enS (v:Vr) (n:Int):Ms->List Ev->Option Ms
 | x,[]=>some x
 | x,e :: es=>match nextS v n x e with
  | some y=>enS v n y es
  | none=>none
def finS (v:Vr) (n:Int) (es:List Ev):Option Ms:=if headB v n=false∨300<es.length then none else enS v n (startS v) es
def enX (v:Vr) (n:Int) (es:List Ev):Option Ms->Option Ms
 | none=>none
 | some y=>enS v n y es
theorem enS_drop {v:Vr} {n:Int} {es:List Ev} {k:Nat} {e:Ev} (x:Ms) (h:es[k]?=some e):enS v n x (es.drop k)=enX v n (es.drop (k+1)) (nextS v n x e):=by
 obtain⟨a,b⟩:=List.getElem?_eq_some_iff.1 h;rw [List.drop_eq_getElem_cons a,b];simp only [enS]
 cases nextS v n x e <;> rfl
theorem enS_end {v:Vr} {n:Int} {es:List Ev} (x:Ms):enS v n x (es.drop es.length)=some x:=by rw [List.drop_eq_nil_of_le (Nat.le_refl _)];rfl
structure Sl (w wr:World) (v:Vr) (n:Int) (ev:Value) (g4:Nat) (su u1 u2:Value) (x:Ms):Prop where
 k:Rows w wr [(0,48,[.int .i64 v.p,.int .i64 v.c,.int .i64 v.h,.int .i64 v.s,.int .i64 n,ev]),(1,59,nulMC)]
 r4:RowB wr g4 59 (msC su u1 u2 x)
 ms:MsR wr (λ b=>w.heap.size+2<=b∧b≠g4) su u1 u2 x
 lo:w.heap.size+2<=g4
section
variable {w wr w':World} {g4:Nat} {v:Vr} {n:Int} {ev:Value} {su u1 u2:Value} {x:Ms}
theorem Sl.below (K:Sl w wr v n ev g4 su u1 u2 x) (hb:Below wr.heap.size wr w'):Sl w w' v n ev g4 su u1 u2 x :=
 ⟨K.k.below hb,K.r4.below hb K.r4.lt,K.ms.below hb,K.lo⟩
theorem Sl.st {su' u1' u2':Value} {x':Ms} (K:Sl w wr v n ev g4 su u1 u2 x) (h:RowB w' g4 59 (msC su' u1' u2' x')) (hg:wr.grownBy w' (some g4)) (hm:MsR wr (λ b=>w.heap.size+2<=b∧b≠g4) su' u1' u2' x'):Sl w w' v n ev g4 su' u1' u2' x':=by
 have l:=K.lo;have d:=K.k.bel.size;refine⟨⟨K.k.bel.grown hg d (λ k a=>by simp at a;omega),λ p c=>?_⟩,h,hm.keep (Still.grown hg (λ k a e=>by simp at a;exact e.2 a.symm)),l⟩;have f:=K.k.at_ _ c;simp only [List.mem_cons,List.not_mem_nil,or_false] at c;rcases c with rfl | rfl <;> exact f.grown hg (λ k a=>by simp at a;simp only;omega)
end
theorem lstate_s (v:Vr) (n:Int) (es:List Ev) (Ae:Option Addr) (ce:Nat) (w:World) (hes:EvL w All Ae es) (X:Option Ms) (hX:finS v n es=X) :
  Calls Tryz.prog 108 #[.agg #[.int .i64 v.p,.int .i64 v.c,.int .i64 v.h,.int .i64 v.s,.int .i64 n,.slice Ae es.length ce]] w λ f w'=>Ret RelMO X (λ _=>False) w f w':=by
 obtain⟨hd,ay⟩:∃ b,headB v n=b:=⟨_,rfl⟩;have CH:=kD (λ(B:World)=>head_s v n hd ay B);have a3:=hes.len;have a9:=kD (λ(B:World) (h9:Below w.heap.size w B)=>hes.keep (.below h9));obtain⟨M,hM⟩:∃ M,es.length=M:=⟨_,rfl⟩;rw [hM] at a3 ⊢;have HM:=kD hM;have an:=kD hX;have aE:=kD ay;obtain⟨aj,ht⟩:∃ t,(!hd || decide (300<M))=t:=⟨_,rfl⟩;have HT:=kD ht;clear hes hM hX ay ht;go_enter Tryz.func108,Tryz.ntmps108;go_upto_region 1 with fail;refine wp_gen (λ W'=>Rows w W' [(0,48,[.int .i64 v.p,.int .i64 v.c,.int .i64 v.h,.int .i64 v.s,.int .i64 n,.slice Ae M ce]),(1,59,nulMC)]) ⟨by go_grown,λ p R=>?_⟩ ?_
 ·simp only [List.mem_cons,List.not_mem_nil,or_false] at R;rcases R with rfl | rfl
  ·exact(RowB.new _ _ _).alloc _
  ·exact RowB.new' _ _ _ (by simp)
 intro w1 K;have E:=K.nth0 0 rfl;have av:=K.nth 1 rfl;obtain⟨Q,P,O,N,J,I⟩:=E.c6;have m:=E.lt;go_cut [19] from 8 to 19 (λ aX wx=>aX=.bool aj∧Below w1.heap.size w1 wx)
 case first =>
  cases hd with
  | false =>
   have ht:aj=true:=by rw [<-HT.out];rfl
   subst ht;go_wp2_with fail;refine(CH.out _).mono ?_;rintro e w2 ⟨rfl,hb⟩;go_wp2_with fail;go_meet;exact⟨rfl,hb⟩
  | true =>
   have ht:aj=decide (300<M):=by rw [<-HT.out];simp
   subst ht;go_wp2_with fail;refine(CH.out _).mono ?_;rintro e w2 ⟨rfl,hb⟩;have E:=(K.below hb).nth0 0 rfl;clear Q P O N J I m;obtain⟨Q,P,O,N,J,I⟩:=E.c6;have m:=E.lt;go_wp2_with fail;go_meet;exact⟨by first | rfl | (congr 1;simp;done) | (by_cases h3:300<M <;> simp [h3] <;> omega),hb⟩
 case rest =>
 obtain⟨rfl,hb⟩:=hcut;have K:=K.below hb;clear hb CH Q P O N J I m E av;have E:=K.nth0 0 rfl;have av:=K.nth 1 rfl;obtain⟨Q,P,O,N,J,I⟩:=E.c6;have m:=E.lt
 cases aj with
 | true =>
  have aC:X=none:=by
   rw [<-an.out];unfold finS;rw [if_pos];have h:=HT.out;rw [aE.out,HM.out]
   cases hd with
   | false=>exact .inl rfl
   | true=>exact .inr (by simpa using h)
  subst aC;clear an;have rr:=K.nth 1 rfl;have V:=K.bel;go_wp2_with (refine wM 59 0 (nulMC) rr ?_;intro w7 s7 S z7;refine Hid.out ?_);have ah:Below w.heap.size w w7:=V.grown S V.size (λ k hk=>by simp at hk;omega);obtain⟨z0,z1,z2,z3,z4,z5,z6,ac,z8,z9,ae,ad⟩:=row12 s7;have aK:=s7.lt;clear S rr K V Q P O N J I m E;refine kD ?_
  repeat (first | go_values | go_skip | go_step | go_upon)
  refine bodyPost_ret (v:=.tuple #[.agg ⟨nulMC⟩,.bool false]) (by simp [results,Tryz.results108,go_sem,nulMC,msC,nulM,nulG,z0,z1,z2,z3,z4,z5,z6,ac,z8,z9,ae,ad]) rfl ?_;exact⟨_,rfl,⟨_,_,_,_,_,_,_,_,_,_,rfl,λ x0 h=>by cases h⟩,ah⟩
 | false =>
 have hh:headB v n=true∧M<=300:=by
  have h:=HT.out;rw [aE.out]
  cases hd with
  | false=>cases h
  | true=>exact⟨rfl,by simpa using h⟩
 have a6:Hid (X=enS v n (startS v) es):=by
  show _=_
  rw [<-an.out];unfold finS;rw [if_neg (λ h=>h.elim (λ h=>by rw [hh.1] at h;cases h) (λ h=>by rw [HM.out] at h;omega))]
 have bg:M<=300:=hh.2;have ak:=head_parts hh.1;have CF:=kD (λ(B:World)=>fst_s v ak.1 ak.2.1 B);have a7:=kD (start_ms hh.1);have aV:=kD (show 1<=n∧n<=25 from ak.2.2);clear hh ak an HT aE;go_wp2_with fail;refine(CF.out _).mono ?_;rintro e w3 ⟨v6,rfl,⟨su,u1,u2,rfl,G⟩,hb⟩;have aZ:=(K.nth 1 rfl).lt;have aH:=hb.size;have K:=K.below hb;clear hb CF Q P O N J I m E av;obtain⟨⟨A0,c0,rfl,-,-⟩,⟨A1,c1,rfl,-,-⟩,⟨A2,c2,rfl,-,-⟩⟩:=id G;have aU:=kD (show MsR w3 (λ b=>w.heap.size+2<=b∧b≠w3.heap.size) _ _ _ (startS v) from G.weak (λ b h hl=>by
  have h:=h.elim False.elim id;exact⟨by omega,by omega⟩))
 clear G;simp only [msC,List.length_cons,List.length_nil,Nat.zero_add,Nat.reduceAdd];go_upto_region 4 with fail;refine wp_gen (λ W'=>Sl w W' v n (.slice Ae M ce) w3.heap.size (.slice A0 2 c0) (.slice A1 (startS v).g.b.1.length c1) (.slice A2 (startS v).g.b.2.length c2) (startS v)) ⟨K.below ((Below.refl _ _).alloc (Nat.le_refl _) _),RowB.new _ _ _,aU.out.keep (.below ((Below.refl _ _).alloc (Nat.le_refl _) _)),by omega⟩ ?_;clear K aU;obtain⟨g4,aN⟩:∃ q,w3.heap.size=q:=⟨_,rfl⟩;rw [aN] at aH ⊢;clear aN;intro w4 K;have HK:=kD K;clear K aZ aH;go_wp2_with fail;go_loopw [3,5,6,7] (λ _ s5 _ _ wr=>∃(k:Nat) (x:Ms) (su u1 u2:Value),s5=.int .i64 (k:Int)∧k<=M∧Hid (Sl w wr v n (.slice Ae M ce) g4 su u1 u2 x)∧Hid (MsOk v n k x)∧Hid (X=enS v n x (es.drop k))) (λ _ s5 _ _ _=>M - (intOf s5).toNat)
 case atStart=>exact⟨0,startS v,_,_,_,by first | rfl | trivial,Nat.zero_le _,HK,a7,a6⟩
 case round =>
  obtain⟨k,x,su,u1,u2,rfl,be,r,am,hQ⟩:=hrel;obtain⟨⟨B0,d0,rfl,-,-⟩,⟨B1,d1,rfl,-,-⟩,⟨B2,d2,rfl,-,-⟩⟩:=id r.out.ms;have K:=r.out;have E:=K.k.nth0 0 rfl;obtain⟨Q,P,O,N,J,I⟩:=E.c6;have m:=E.lt;by_cases hlt:k<M
  ·obtain⟨ba,oa,e,As,cs,rfl,aA,a,aw,ca,cb,cc,cd,H⟩:=(a9.out wr K.k.bel).at_ (i:=k) (by rw [HM.out];exact hlt);have bs:=kD aA;obtain⟨X2,al⟩:∃ X2,nextS v n x e=X2:=⟨_,rfl⟩;have CN:=kD (λ(B:World) (h9:Below wr.heap.size wr B)=>next_s v n k x am.out (by omega) aV.out (λ b=>w.heap.size+2<=b∧b≠g4) _ _ _ e As cs B.heap.size B (Nat.le_refl _) (K.ms.below h9) (aw.keep (.below h9)).rd X2 al);have ao:Hid (X=enX v n (es.drop (k+1)) X2):=by
    show _=_
    rw [hQ.out,enS_drop x aA,al]
   have aS:=kD (λ y (h:X2=some y)=>next_ms aV.out.1 am.out (h ▸ al));obtain⟨ek,ea,eb,ss,er⟩:=e;simp only at ca cb cc cd H CN aw;obtain⟨sl,aG⟩:∃ q,ss.length=q:=⟨_,rfl⟩;rw [aG] at cd CN;simp only [List.length_cons,List.length_nil,Nat.zero_add,Nat.reduceAdd] at K CN;clear aA al aw aG hQ am;have KB:=K;go_upto_region 7 with fail;refine region_rel [some 32,some 33,some 34,some 35,some 36,some 37,some 38,some 39,some 40,some 41,some 42,some 31,some 43,some 44,some 6,none,some 7] 17 (Pl [some (.pointer (some ⟨w.heap.size,0,none⟩)),some (.agg #[.int .i64 v.p,.int .i64 v.c,.int .i64 v.h,.int .i64 v.s]),some (.pointer (some ⟨w.heap.size,4,none⟩)),some (.int .i64 n),some (.agg #[.slice B0 2 d0,.int .i64 x.gs,.slice B1 x.g.b.1.length d1,.slice B2 x.g.b.2.length d2,.int .i64 x.g.pl,.int .i64 x.g.x,.int .i64 x.g.y,.int .i64 x.g.ph,.int .i64 x.g.wn,.int .i64 x.g.rs,.int .i64 x.g.tn,.bool x.ov]),some (.pointer (some ⟨w.heap.size,5,none⟩)),some (.slice (some ⟨ba,oa,none⟩) M ce),some (.int .i64 (k:Int)),some (.pointer (some ⟨ba,oa+k*5,none⟩)),some (.agg #[.int .i64 ek,.int .i64 ea,.int .i64 eb,.slice As sl cs,.int .i64 er]),none,none,none,none,none,none,none]) (λ L d w'=>CbF (inS RelMO (λ b=>wr.heap.size<=b)) X2 wr 10 14 15 [(11,(λ v=>v)),(12,ext 0),(13,ext 1),(16,ext 1)] (λ v=>aggC (ext 0 v)) 59 12 L d w') (by kernel_rfl) (by kernel_rfl) (by kernel_rfl) (by kernel_rfl) (by kernel_rfl) (by kernel_rfl) (by first | kernel_rfl | rfl) ?g0_1 ?gst_1 ?gfin_1
   case g0_1=>exact⟨(Below.refl _ _).drew,λ h=>absurd h (by decide),λ p R h=>absurd h (by simp only [List.mem_cons,List.not_mem_nil,or_false] at R;rcases R with rfl | rfl | rfl | rfl <;> decide),λ h=>absurd h (by decide),λ h=>absurd h (by decide)⟩
   case gst_1 =>
    refine rN rfl (λ L d A B o j z U F K r=>?_) ?_
    ·have e1:=U.w 1 (.pointer (some ⟨w.heap.size,0,none⟩));have l:=KB.below F.bel;obtain⟨Q,P,O,N,J,I⟩:=(l.k.nth0 0 rfl).c6;have m:=(l.k.nth0 0 rfl).lt;obtain⟨y0,y1,y2,y3,y4,y5,y6,y7,y8,y9,D,C⟩:=row12 l.r4;have T:=l.r4.lt;have ab:=(F.bel.cell a).trans ca;have aa:=(F.bel.cell a).trans cb;have Z:=(F.bel.cell a).trans cc;have Y:=(F.bel.cell a).trans cd;have W:=(F.bel.cell a).trans H;clear l;go_simp;exact pF r (F.skip 0 _)
    refine rN rfl (λ L d A B o j z U F K r=>?_) ?_
    ·have br:=U.v 0 32;have l:=KB.below F.bel;obtain⟨Q,P,O,N,J,I⟩:=(l.k.nth0 0 rfl).c6;have m:=(l.k.nth0 0 rfl).lt;obtain⟨y0,y1,y2,y3,y4,y5,y6,y7,y8,y9,D,C⟩:=row12 l.r4;have T:=l.r4.lt;have ab:=(F.bel.cell a).trans ca;have aa:=(F.bel.cell a).trans cb;have Z:=(F.bel.cell a).trans cc;have Y:=(F.bel.cell a).trans cd;have W:=(F.bel.cell a).trans H;clear l;go_simp;exact pF r (F.skip 1 _)
    refine rN rfl (λ L d A B o j z U F K r=>?_) ?_
    ·have e1:=U.w 1 (.pointer (some ⟨w.heap.size,0,none⟩));have l:=KB.below F.bel;obtain⟨Q,P,O,N,J,I⟩:=(l.k.nth0 0 rfl).c6;have m:=(l.k.nth0 0 rfl).lt;obtain⟨y0,y1,y2,y3,y4,y5,y6,y7,y8,y9,D,C⟩:=row12 l.r4;have T:=l.r4.lt;have ab:=(F.bel.cell a).trans ca;have aa:=(F.bel.cell a).trans cb;have Z:=(F.bel.cell a).trans cc;have Y:=(F.bel.cell a).trans cd;have W:=(F.bel.cell a).trans H;clear l;go_simp;exact pF r (F.skip 2 _)
    refine rN rfl (λ L d A B o j z U F K r=>?_) ?_
    ·have bp:=U.v 2 34;have l:=KB.below F.bel;obtain⟨Q,P,O,N,J,I⟩:=(l.k.nth0 0 rfl).c6;have m:=(l.k.nth0 0 rfl).lt;obtain⟨y0,y1,y2,y3,y4,y5,y6,y7,y8,y9,D,C⟩:=row12 l.r4;have T:=l.r4.lt;have ab:=(F.bel.cell a).trans ca;have aa:=(F.bel.cell a).trans cb;have Z:=(F.bel.cell a).trans cc;have Y:=(F.bel.cell a).trans cd;have W:=(F.bel.cell a).trans H;clear l;go_simp;exact pF r (F.skip 3 _)
    refine rN rfl (λ L d A B o j z U F K r=>?_) ?_
    ·have e4:=U.w 4 (.pointer (some ⟨g4,0,none⟩));have l:=KB.below F.bel;obtain⟨Q,P,O,N,J,I⟩:=(l.k.nth0 0 rfl).c6;have m:=(l.k.nth0 0 rfl).lt;obtain⟨y0,y1,y2,y3,y4,y5,y6,y7,y8,y9,D,C⟩:=row12 l.r4;have T:=l.r4.lt;have ab:=(F.bel.cell a).trans ca;have aa:=(F.bel.cell a).trans cb;have Z:=(F.bel.cell a).trans cc;have Y:=(F.bel.cell a).trans cd;have W:=(F.bel.cell a).trans H;clear l;go_simp;exact pF r (F.skip 4 _)
    refine rN rfl (λ L d A B o j z U F K r=>?_) ?_
    ·have e1:=U.w 1 (.pointer (some ⟨w.heap.size,0,none⟩));have l:=KB.below F.bel;obtain⟨Q,P,O,N,J,I⟩:=(l.k.nth0 0 rfl).c6;have m:=(l.k.nth0 0 rfl).lt;obtain⟨y0,y1,y2,y3,y4,y5,y6,y7,y8,y9,D,C⟩:=row12 l.r4;have T:=l.r4.lt;have ab:=(F.bel.cell a).trans ca;have aa:=(F.bel.cell a).trans cb;have Z:=(F.bel.cell a).trans cc;have Y:=(F.bel.cell a).trans cd;have W:=(F.bel.cell a).trans H;clear l;go_simp;exact pF r (F.skip 5 _)
    refine rN rfl (λ L d A B o j z U F K r=>?_) ?_
    ·have bm:=U.v 5 37;have l:=KB.below F.bel;obtain⟨Q,P,O,N,J,I⟩:=(l.k.nth0 0 rfl).c6;have m:=(l.k.nth0 0 rfl).lt;obtain⟨y0,y1,y2,y3,y4,y5,y6,y7,y8,y9,D,C⟩:=row12 l.r4;have T:=l.r4.lt;have ab:=(F.bel.cell a).trans ca;have aa:=(F.bel.cell a).trans cb;have Z:=(F.bel.cell a).trans cc;have Y:=(F.bel.cell a).trans cd;have W:=(F.bel.cell a).trans H;clear l;go_simp;exact pF r (F.skip 6 _)
    refine rN rfl (λ L d A B o j z U F K r=>?_) ?_
    ·have e5:=U.w 5 (.int .i64 (k:Int));go_simp;exact pF r (F.skip 7 _)
    refine rN rfl (λ L d A B o j z U F K r=>?_) ?_
    ·have bl:=U.v 6 38;have bk:=U.v 7 39;go_simp;exact pF r (F.skip 8 _)
    refine rN rfl (λ L d A B o j z U F K r=>?_) ?_
    ·have bj:=U.v 8 40;have l:=KB.below F.bel;obtain⟨Q,P,O,N,J,I⟩:=(l.k.nth0 0 rfl).c6;have m:=(l.k.nth0 0 rfl).lt;obtain⟨y0,y1,y2,y3,y4,y5,y6,y7,y8,y9,D,C⟩:=row12 l.r4;have T:=l.r4.lt;have ab:=(F.bel.cell a).trans ca;have aa:=(F.bel.cell a).trans cb;have Z:=(F.bel.cell a).trans cc;have Y:=(F.bel.cell a).trans cd;have W:=(F.bel.cell a).trans H;clear l;go_simp;exact pF r (F.skip 9 _)
    refine rN rfl (λ L d A B o j z U F K r=>?_) ?_
    ·have bq:=U.v 1 33;have bo:=U.v 3 35;have bn:=U.v 4 36;have bi:=U.v 9 41;go_simp;refine(CN.out B F.bel).mono ?_;rintro e w6 ⟨v6,rfl,a0,a1⟩;exact r.out v6 w6 (Pl.any rfl) (F.call o (by decide) a1 (RelMO.weak a0 (λ b hb _=>hb.elim False.elim (λ h=>⟨.inr h,by have:=F.bel.size;omega⟩))))
    refine rN rfl (λ L d A B o j z U F K r=>?_) ?_
    ·have bh:=U.x 10 42;go_simp;exact r.out _ B (Pl.any rfl) (F.part 11 (by decide) (bK j 10) (by intro p R e;simp only [List.mem_cons,List.not_mem_nil,or_false] at R;rcases R with rfl | rfl | rfl | rfl <;> first | exact absurd e (by decide) | rfl))
    refine rN rfl (λ L d A B o j z U F K r=>?_) ?_
    ·have ai:=U.x 11 31;have fc:=F.fc (bK j 10);refine fc.elim λ B3 q=>?_
     refine q.elim λ d3 q=>?_
     refine q.elim λ f3 q=>?_
     refine q.elim λ B4 q=>?_
     refine q.elim λ d4 q=>?_
     refine q.elim λ f4 q=>?_
     refine q.elim λ B5 q=>?_
     refine q.elim λ d5 q=>?_
     refine q.elim λ f5 q=>?_
     refine q.elim λ y q=>?_
     have aR:=ai.trans ((F.fd (11,(λ v=>v)) (by simp) (bK j 11)).2.trans q.1);clear ai fc;go_simp;exact r.out _ B (Pl.any rfl) (F.part 12 (by decide) (bK j 10) (by intro p R e;simp only [List.mem_cons,List.not_mem_nil,or_false] at R;rcases R with rfl | rfl | rfl | rfl <;> first | exact absurd e (by decide) | (rw [q.1];try rfl)))
    refine rN rfl (λ L d A B o j z U F K r=>?_) ?_
    ·have ai:=U.x 11 31;have fc:=F.fc (bK j 10);refine fc.elim λ B3 q=>?_
     refine q.elim λ d3 q=>?_
     refine q.elim λ f3 q=>?_
     refine q.elim λ B4 q=>?_
     refine q.elim λ d4 q=>?_
     refine q.elim λ f4 q=>?_
     refine q.elim λ B5 q=>?_
     refine q.elim λ d5 q=>?_
     refine q.elim λ f5 q=>?_
     refine q.elim λ y q=>?_
     have aR:=ai.trans ((F.fd (11,(λ v=>v)) (by simp) (bK j 11)).2.trans q.1);clear ai fc;go_simp;exact r.out _ B (Pl.any rfl) (F.part 13 (by decide) (bK j 10) (by intro p R e;simp only [List.mem_cons,List.not_mem_nil,or_false] at R;rcases R with rfl | rfl | rfl | rfl <;> first | exact absurd e (by decide) | (rw [q.1];try rfl)))
    refine rN rfl (λ L d A B o j z U F K r=>?_) ?_
    ·go_simp;exact r.out _ _ (Pl.any rfl) (F.box o (by decide) (λ h=>o (z 15 14 (by kernel_rfl) h)) rfl)
    refine rN rfl (λ L d A B o j z U F K r=>?_) ?_
    ·have e6:=U.x 14 6;have a4:=U.x 12 43;have fc:=F.fc (bK j 10);refine fc.elim λ B3 q=>?_
     refine q.elim λ d3 q=>?_
     refine q.elim λ f3 q=>?_
     refine q.elim λ B4 q=>?_
     refine q.elim λ d4 q=>?_
     refine q.elim λ f4 q=>?_
     refine q.elim λ B5 q=>?_
     refine q.elim λ d5 q=>?_
     refine q.elim λ f5 q=>?_
     refine q.elim λ y q=>?_
     refine(F.fa (bK j 14)).elim λ g qa=>?_
     refine qa.2.2.1.elim λ cs qc=>?_
     have aO:cs.length=12:=qc.1;have aY:d 12=.agg ⟨(msC (.slice B3 d3 f3) (.slice B4 d4 f4) (.slice B5 d5 f5) y)⟩:=by rw [(F.fd (12,ext 0) (by simp) (bK j 12)).2,q.1];rfl
     refine wp_sm 59 _ _ rfl g 0 (msC (.slice B3 d3 f3) (.slice B4 d4 f4) (.slice B5 d5 f5) y) cs (ev (e6.trans qa.1)) (ev (a4.trans aY)) 59 qc.2 (by kernel_rfl) (Nat.le_of_eq aO.symm) rfl ?_;exact r.out undef _ (Pl.any rfl) (F.wrote (by decide) (bK j 10) (bK j 14) qa.1 qa.2.1 qc.2 (by rw [q.1];exact setL_all cs _ aO))
    refine rN rfl (λ L d A B o j z U F K r=>?_) ?_
    ·have aQ:=U.x 13 44;have fc:=F.fc (bK j 10);refine fc.elim λ B3 q=>?_
     refine q.elim λ d3 q=>?_
     refine q.elim λ f3 q=>?_
     refine q.elim λ B4 q=>?_
     refine q.elim λ d4 q=>?_
     refine q.elim λ f4 q=>?_
     refine q.elim λ B5 q=>?_
     refine q.elim λ d5 q=>?_
     refine q.elim λ f5 q=>?_
     refine q.elim λ y q=>?_
     have bb:=aQ.trans ((F.fd (13,ext 1) (by simp) (bK j 13)).2.trans (by rw [q.1];try rfl));clear fc aQ;go_simp;exact r.out _ B (Pl.any rfl) (F.part 16 (by decide) (bK j 10) (by intro p R e;simp only [List.mem_cons,List.not_mem_nil,or_false] at R;rcases R with rfl | rfl | rfl | rfl <;> first | exact absurd e (by decide) | (rw [q.1];try rfl)))
    exact RelFrom.nil (by decide)
   intro d B R F;simp only [Fr,Act.put,sX,Nat.reduceAdd];obtain⟨gx,az,bf,-,aL⟩:=F.fa trivial;have R6:=(F.fw trivial).2 gx az;obtain⟨B3,d3,f3,B4,d4,f4,B5,d5,f5,y,af,ag⟩:=aL trivial;have ap:d 16=.bool X2.isSome:=(F.fd (16,ext 1) (by simp) trivial).2.trans (by rw [af];try rfl);rw [af] at R6;have R6:RowB B gx 59 (msC (.slice B3 d3 f3) (.slice B4 d4 f4) (.slice B5 d5 f5) y):=R6;rw [az,ap];have aP:=F.bel;have K:=KB.below aP;have aJ:g4<wr.heap.size:=r.out.r4.lt;have aD:=kD ag;clear F R af ap aL az CN r Q P O N J I m E ca cb cc cd H a ag aP;have E:=K.k.nth0 0 rfl;obtain⟨Q,P,O,N,J,I⟩:=E.c6;have m:=E.lt
   cases X2 with
   | none =>
    have aC:X=none:=by rw [ao.out];rfl
    subst aC;have K:=K.k;clear ao aD R6;have rr:=K.nth 1 rfl;have V:=K.bel;go_wp2_with (refine wM 59 0 (nulMC) rr ?_;intro w7 s7 S z7;refine Hid.out ?_);have ah:Below w.heap.size w w7:=V.grown S V.size (λ k hk=>by simp at hk;omega);obtain⟨z0,z1,z2,z3,z4,z5,z6,ac,z8,z9,ae,ad⟩:=row12 s7;have aK:=s7.lt;clear S rr K V Q P O N J I m E;refine kD ?_
    repeat (first | go_values | go_skip | go_step | go_upon)
    refine bodyPost_ret (v:=.tuple #[.agg ⟨nulMC⟩,.bool false]) (by simp [results,Tryz.results108,go_sem,nulMC,msC,nulM,nulG,z0,z1,z2,z3,z4,z5,z6,ac,z8,z9,ae,ad]) rfl ?_;exact⟨_,rfl,⟨_,_,_,_,_,_,_,_,_,_,rfl,λ x0 h=>by cases h⟩,ah⟩
   | some y0 =>
   obtain⟨rfl,G⟩:=aD.out _ rfl;have aT:=kD (aS.out y rfl);have a5:Hid (X=enS v n y (es.drop (k+1))):=ao;have bd:IntKind.i64.wrap ((k:Int)+1)=(k:Int)+1:=IntWalk.i64_in _ (by omega);obtain⟨ar,y1,y2,y3,y4,y5,y6,y7,y8,y9,D,C⟩:=row12 R6;have ax:=R6.lt;have R4:=K.r4;have aM:=R4.lt;clear ao aD aS;go_upto_region 6 with (first | (refine wM 59 0 (msC (.slice B3 d3 f3) (.slice B4 d4 f4) (.slice B5 d5 f5) y) R4 ?_;intro bc aF aq aW));have K2:=K.st aF aq (G.weak (λ b h hl=>⟨by have:=h.1;have:=h.2;have:=K.k.bel.size;have:=K.lo;omega,by have:=h.2;omega⟩));have a8:=kD K2;clear ar y1 y2 y3 y4 y5 y6 y7 y8 y9 D C ax R4 aF aq aW K G K2 Q P O N J I m E aM R6;go_wp2_with fail;go_roundw
   case rel=>exact⟨k+1,y,_,_,_,by first | rfl | go_num,by omega,a8,aT,a5⟩
   case measure=>simp [intOf];omega
  ·obtain rfl:M=k:=by omega
   have a2:X=some x:=by rw [hQ.out,<-HM.out];exact enS_end x
   subst a2;obtain⟨ar,y1,y2,y3,y4,y5,y6,y7,y8,y9,D,C⟩:=row12 K.r4;have ax:=K.r4.lt;have rr:=K.k.nth 1 rfl;have G:=K.ms;have aJ:=K.lo;have aB:=K.k.bel;simp only [List.length_cons,List.length_nil,Nat.zero_add,Nat.reduceAdd] at G;clear hQ am;go_wp2_with (refine wM 59 0 (msC (.slice B0 2 d0) (.slice B1 x.g.b.1.length d1) (.slice B2 x.g.b.2.length d2) x) rr ?_;intro w7 s7 S z7;refine Hid.out ?_);have ah:Below w.heap.size w w7:=aB.grown S aB.size (λ k hk=>by simp at hk;omega);have aI:MsR w7 (λ b=>False∨w.heap.size<=b) _ _ _ x:=(G.keep (Still.grown S (λ k hk hn=>by simp at hk;have:=hn.1;omega))).weak (λ b h _=>.inr (by have:=h.1;omega));obtain⟨z0,z1,z2,z3,z4,z5,z6,ac,z8,z9,ae,ad⟩:=row12 s7;have aK:=s7.lt;clear S rr aB G ar y1 y2 y3 y4 y5 y6 y7 y8 y9 D C ax Q P O N J I m E K r aJ;refine kD ?_
   repeat (first | go_values | go_skip | go_step | go_upon)
   refine bodyPost_ret (v:=.tuple #[.agg ⟨msC (.slice B0 2 d0) (.slice B1 x.g.b.1.length d1) (.slice B2 x.g.b.2.length d2) x⟩,.bool true]) (by simp [results,Tryz.results108,go_sem,msC,z0,z1,z2,z3,z4,z5,z6,ac,z8,z9,ae,ad]) rfl ?_;exact⟨_,rfl,⟨_,_,_,_,_,_,_,_,_,_,rfl,λ x0 h=>by obtain rfl:=Option.some.inj h;exact⟨rfl,aI⟩⟩,ah⟩
theorem fin_parts {v:Vr} {n:Int} {es:List Ev} (h:(finS v n es).isSome=true):headB v n=true∧es.length<=300:=by
 unfold finS at h;split at h
 ·cases h
 ·rename_i hn
  refine⟨?_,by omega⟩
  cases hb:headB v n with
  | true=>rfl
  | false=>exact absurd (.inl hb) hn
theorem ismatch_s (v:Vr) (n:Int) (es:List Ev) (Ae:Option Addr) (ce:Nat) (w:World) (hes:EvL w All Ae es) (ok:Bool) (hok:(finS v n es).isSome=ok) :
  Calls Tryz.prog 57 #[.agg #[.int .i64 v.p,.int .i64 v.c,.int .i64 v.h,.int .i64 v.s,.int .i64 n,.slice Ae es.length ce]] w λ f w'=>f=.returned (.bool ok)∧Below w.heap.size w w':=by
 obtain⟨X,g⟩:∃ X,finS v n es=X:=⟨_,rfl⟩;have i:=kD (λ(j:World) (A:Below w.heap.size w j)=>lstate_s v n es Ae ce j (hes.keep (.below A)) X g);rw [g] at hok;obtain⟨M,l⟩:∃ M,es.length=M:=⟨_,rfl⟩;rw [l] at i ⊢;clear hes g l;go_enter Tryz.func57,Tryz.ntmps57;go_upto_region 1 with fail;refine wp_gen (λ B=>Rows w B [(0,48,[.int .i64 v.p,.int .i64 v.c,.int .i64 v.h,.int .i64 v.s,.int .i64 n,.slice Ae M ce])]) ⟨by go_grown,λ p z=>?_⟩ ?_
 ·obtain rfl:=List.mem_singleton.1 z;exact RowB.new _ _ _
 intro D K;have b:=K.nth0 0 rfl;obtain⟨x,t,r,q,o,m⟩:=b.c6;have d:=b.lt;go_wp2_with fail;refine(i.out _ K.bel).mono ?_;rintro e C ⟨E,rfl,⟨P,H,L,O,G,J,N,F,I,y,rfl,-⟩,k⟩;have a:=(K.below k).bel;clear i K k b d x t r q o m;simp only [msC];go_wp2_with fail;go_ret;exact⟨by first | rfl | (rw [hok];rfl),by go_grown <;> first | exact a | exact a.size | omega⟩
end Gm
namespace Bd12
open Go.ChangeShapes Go.WideShapes Go.ChangeAt Go.RowKit Base Ints Own PlP Bd1
theorem pipU_bd {l:List Int} (h:∀ i,0<=at_ l i∧at_ l i<=1000):∀ k,k<=1000->0<=pipU l k∧pipU l k<=1000000*(k:Int):=by
 intro k
 induction k with
 | zero=>intro _;simp [pipU]
 | succ k ih =>
  intro b;have e:=ih (by omega);have a:=h k;have d:0<=((k:Int)+1)*at_ l k:=Int.mul_nonneg (by omega) a.1;have c:((k:Int)+1)*at_ l k<=1000*1000:=Int.mul_le_mul (by omega) a.2 a.1 (by omega);simp only [pipU];omega
theorem pips_i (A:Option Addr) (cp B:Nat) (xs:List Int) (w:World) (hr:RdS w B 1 enI A xs) (hx:∀ i,0<=at_ xs i∧at_ xs i<=1000) (hl:xs.length<=1000) :
  Calls Tryz.prog 152 #[.slice A xs.length cp] w λ e w'=>e=.returned (.int .i64 (pipP xs))∧w=w':=by
 obtain⟨n,b⟩:∃ n,xs.length=n:=⟨_,rfl⟩;obtain⟨z,d⟩:∃ z,pipP xs=z:=⟨_,rfl⟩;have C:=kD b;have l:=kD hx;have x:Hid (pipU xs n=z):=kD (by rw [<-b,<-d];rfl);rw [b] at hl;rw [b,d];clear b d hx;go_enter Tryz.func152,Tryz.ntmps152;go_wp2_with fail;go_loopw [3,8] (λ s i wr=>∃(k:Nat) (t:Int),k<=n∧s=.int .i64 t∧i=.int .i64 (k:Int)∧Hid (w=wr)∧Hid (t=pipU xs k)) (λ _ i _=>n - (intOf i).toNat)
 case atStart=>exact⟨0,0,Nat.zero_le _,by first | rfl | trivial,by first | rfl | trivial,kD (by first | rfl | trivial),kD rfl⟩
 case round =>
  obtain⟨k,t,D,rfl,rfl,f,g⟩:=hrel;by_cases hlt:k<n
  ·obtain⟨H,o,rfl,r,q⟩:=at_rd hr (i:=k) (by rw [C.out];exact hlt);rw [f.out] at q;have p:(k:Int)<(n:Int):=by omega
   have c:=l.out k;have j:=pipU_bd l.out k (by omega);have h:=pipU_bd l.out (k+1) (by omega);have m:pipU xs (k+1)=t+((k:Int)+1)*at_ xs k:=by rw [g.out];rfl
   have v:=g.out;have a:0<=((k:Int)+1)*at_ xs k:=Int.mul_nonneg (by omega) c.1;have G:IntKind.i64.wrap ((k:Int)+1)=(k:Int)+1:=IntWalk.i64_in _ (by omega);have F:IntKind.i64.wrap (((k:Int)+1)*at_ xs k)=((k:Int)+1)*at_ xs k:=IntWalk.i64_in _ (by omega);have E:IntKind.i64.wrap (t+((k:Int)+1)*at_ xs k)=t+((k:Int)+1)*at_ xs k:=IntWalk.i64_in _ (by omega);have y:=kD m.symm;clear m v j h c a;go_wp2_with fail;go_roundw
   case rel=>exact⟨k+1,_,by omega,rfl,by go_num,f,y⟩
   case measure=>simp [intOf];omega
  ·obtain rfl:n=k:=by omega
   obtain rfl:t=z:=by rw [g.out,x.out]
   go_wp2_with fail;go_ret;exact⟨rfl,f.out⟩
theorem pips_s (A:Option Addr) (cp B:Nat) (xs:List Int) (w:World) (hr:RdS w B 1 enI A xs) (hx:∀ i,0<=at_ xs i∧at_ xs i<=1000) (hl:xs.length<=1000) :
  Calls Tryz.prog 154 #[.slice A xs.length cp] w λ e w'=>e=.returned (.int .i64 (pipP xs))∧w=w':=by
 obtain⟨n,b⟩:∃ n,xs.length=n:=⟨_,rfl⟩;obtain⟨z,d⟩:∃ z,pipP xs=z:=⟨_,rfl⟩;have C:=kD b;have l:=kD hx;have x:Hid (pipU xs n=z):=kD (by rw [<-b,<-d];rfl);rw [b] at hl;rw [b,d];clear b d hx;go_enter Tryz.func154,Tryz.ntmps154;go_wp2_with fail;go_loopw [3,4] (λ s i wr=>∃(k:Nat) (t:Int),k<=n∧s=.int .i64 t∧i=.int .i64 (k:Int)∧Hid (w=wr)∧Hid (t=pipU xs k)) (λ _ i _=>n - (intOf i).toNat)
 case atStart=>exact⟨0,0,Nat.zero_le _,by first | rfl | trivial,by first | rfl | trivial,kD (by first | rfl | trivial),kD rfl⟩
 case round =>
  obtain⟨k,t,D,rfl,rfl,f,g⟩:=hrel;by_cases hlt:k<n
  ·obtain⟨H,o,rfl,r,q⟩:=at_rd hr (i:=k) (by rw [C.out];exact hlt);rw [f.out] at q;have p:(k:Int)<(n:Int):=by omega
   have c:=l.out k;have j:=pipU_bd l.out k (by omega);have h:=pipU_bd l.out (k+1) (by omega);have m:pipU xs (k+1)=t+((k:Int)+1)*at_ xs k:=by rw [g.out];rfl
   have v:=g.out;have a:0<=((k:Int)+1)*at_ xs k:=Int.mul_nonneg (by omega) c.1;have G:IntKind.i64.wrap ((k:Int)+1)=(k:Int)+1:=IntWalk.i64_in _ (by omega);have F:IntKind.i64.wrap (((k:Int)+1)*at_ xs k)=((k:Int)+1)*at_ xs k:=IntWalk.i64_in _ (by omega);have E:IntKind.i64.wrap (t+((k:Int)+1)*at_ xs k)=t+((k:Int)+1)*at_ xs k:=IntWalk.i64_in _ (by omega);have y:=kD m.symm;clear m v j h c a;go_wp2_with fail;go_roundw
   case rel=>exact⟨k+1,_,by omega,rfl,by go_num,f,y⟩
   case measure=>simp [intOf];omega
  ·obtain rfl:n=k:=by omega
   obtain rfl:t=z:=by rw [g.out,x.out]
   go_wp2_with fail;go_ret;exact⟨rfl,f.out⟩
theorem first_i (A:Option Addr) (cp B:Nat) (xs:List Int) (w:World) (hr:RdS w B 1 enI A xs) (hl:0<xs.length) :
  Calls Tryz.prog 35 #[.slice A xs.length cp] w λ e w'=>e=.returned (.int .i64 (fgP xs:Nat))∧w=w':=by
 have h:=hr.len;obtain⟨n,d⟩:∃ n,xs.length=n:=⟨_,rfl⟩;obtain⟨z,g⟩:∃ z,fgP xs=z:=⟨_,rfl⟩;have r:=kD d;have E:Hid (fgU xs (n - 1)=z):=kD (by rw [<-d,<-g];rfl);rw [d] at hl h;rw [d,g];clear d g;go_enter Tryz.func35,Tryz.ntmps35;go_wp2_with fail;go_loopw [3,8] (λ s i wr=>∃(k t:Nat),k<=n∧t<n∧s=.int .i64 (t:Int)∧i=.int .i64 (k:Int)∧Hid (w=wr)∧Hid (t=fgU xs (k - 1))) (λ _ i _=>n - (intOf i).toNat)
 case atStart=>exact⟨0,0,Nat.zero_le _,hl,by first | rfl | trivial,by first | rfl | trivial,kD (by first | rfl | trivial),kD rfl⟩
 case round =>
  obtain⟨k,t,F,b,rfl,rfl,f,c⟩:=hrel;by_cases hlt:k<n
  ·obtain⟨H,v,rfl,C,y⟩:=at_rd hr (i:=k) (by rw [r.out];exact hlt);obtain⟨D,o,q,-,l⟩:=at_rd hr (i:=t) (by rw [r.out];exact b);simp only [Option.some.injEq,Addr.mk.injEq,and_true] at q;obtain⟨rfl,rfl⟩:=q;rw [f.out] at y l;have x:(k:Int)<(n:Int):=by omega
   have p:(t:Int)<(n:Int):=by omega
   have G:IntKind.i64.wrap ((k:Int)+1)=(k:Int)+1:=IntWalk.i64_in _ (by omega);by_cases hv:at_ xs t<at_ xs k
   ·have m:Hid (k=fgU xs (k+1 - 1)):=kD (by
     cases k with
     | zero=>have a:=c.out;simp [fgU] at a;subst a;omega
     | succ j=>have a:=c.out;simp only [Nat.add_sub_cancel] at a ⊢;simp only [fgU];rw [<-a,if_pos hv])
    go_wp2_with fail;go_roundw
    case rel=>exact⟨k+1,k,by omega,hlt,by first | rfl | go_num,by go_num,f,m⟩
    case measure=>simp [intOf];omega
   ·have m:Hid (t=fgU xs (k+1 - 1)):=kD (by
     cases k with
     | zero=>have a:=c.out;simp [fgU] at a;subst a;rfl
     | succ j=>have a:=c.out;simp only [Nat.add_sub_cancel] at a ⊢;simp only [fgU];rw [<-a,if_neg hv])
    go_wp2_with fail;go_roundw
    case rel=>exact⟨k+1,t,by omega,b,rfl,by go_num,f,m⟩
    case measure=>simp [intOf];omega
  ·obtain rfl:n=k:=by omega
   obtain rfl:t=z:=by rw [c.out,E.out]
   go_wp2_with fail;go_ret;exact⟨rfl,f.out⟩
theorem great_s (A:Option Addr) (cp B:Nat) (xs:List Int) (w:World) (hr:RdS w B 1 enI A xs) (hl:0<xs.length) :
  Calls Tryz.prog 109 #[.slice A xs.length cp] w λ e w'=>e=.returned (.int .i64 (grt xs))∧w=w':=by
 have d:=hr.len;obtain⟨n,a⟩:∃ n,xs.length=n:=⟨_,rfl⟩;obtain⟨z,b⟩:∃ z,grt xs=z:=⟨_,rfl⟩;have o:=kD a;have D:Hid (grU xs (n - 1)=z):=kD (by rw [<-a,<-b];rfl);rw [a] at hl d;rw [a,b];clear a b;obtain⟨H,p,rfl,y,f⟩:=at_rd hr (i:=0) (by rw [o.out];exact hl);simp only [Nat.add_zero] at f;have q:(0:Int)<(n:Int):=by omega
 go_enter Tryz.func109,Tryz.ntmps109;go_wp2_with fail;go_loopw [3,4] (λ s i wr=>∃(k:Nat) (t:Int),k<=n∧1<=k∧s=.int .i64 t∧i=.int .i64 (k:Int)∧Hid (w=wr)∧Hid (t=grU xs (k - 1))) (λ _ i _=>n - (intOf i).toNat)
 case atStart=>exact⟨1,at_ xs 0,by omega,by omega,by first | rfl | trivial,by first | rfl | trivial,kD (by first | rfl | trivial),kD rfl⟩
 case round =>
  obtain⟨k,t,F,v,rfl,rfl,c,h⟩:=hrel;by_cases hlt:k<n
  ·obtain⟨C,g,l,-,x⟩:=at_rd hr (i:=k) (by rw [o.out];exact hlt);simp only [Option.some.injEq,Addr.mk.injEq,and_true] at l;obtain⟨rfl,rfl⟩:=l;rw [c.out] at x;have r:(k:Int)<(n:Int):=by omega
   have G:IntKind.i64.wrap ((k:Int)+1)=(k:Int)+1:=IntWalk.i64_in _ (by omega);have E:Hid ((if t<at_ xs k then at_ xs k else t)=grU xs (k+1 - 1)):=kD (by
    obtain⟨j,rfl⟩:∃ j,k=j+1:=⟨k - 1,by omega⟩;have m:=h.out;simp only [Nat.add_sub_cancel] at m ⊢;simp only [grU];rw [<-m];split <;> omega)
   go_wp2_with fail;go_roundw
   case rel=>exact⟨k+1,_,by omega,by omega,rfl,by go_num,c,E⟩
   case measure=>simp [intOf];omega
  ·obtain rfl:n=k:=by omega
   obtain rfl:t=z:=by rw [h.out,D.out]
   go_wp2_with fail;go_ret;exact⟨rfl,c.out⟩
theorem floor_i (x y:Int) (hy:0<y∧y<=1000000000) (hx:-1000000000000000<=x∧x<=1000000000000000) (w:World) :
  Calls Tryz.prog 153 #[.int .i64 x,.int .i64 y] w λ e w'=>e=.returned (.int .i64 (x / y))∧w=w':=by
 have a:=floor_eq (x:=x) hy.1;have g:-1000000000000000<=x.tdiv y∧x.tdiv y<=1000000000000000:=by
  have h:=Int.natAbs_tdiv_le_natAbs x y;omega
 have f:(y == 0)=false:=by simp;omega
 have c:¬ y=0:=by omega
 have d:-1000000000000<=x.tmod y∧x.tmod y<=1000000000000:=by
  have j:=Int.tmod_lt_of_pos x hy.1;have i:-y<x.tmod y:=by
   by_cases h0:0<=x
   ·have:=Int.tmod_nonneg y h0;omega
   ·have:=Int.tmod_lt_of_pos (-x) hy.1;rw [Int.neg_tmod] at this;omega
  omega
 have m:IntKind.i64.wrap (x.tdiv y)=x.tdiv y:=IntWalk.i64_in _ (by omega);have l:IntKind.i64.wrap (x.tmod y)=x.tmod y:=IntWalk.i64_in _ (by omega);have k:IntKind.i64.wrap (x.tdiv y - 1)=x.tdiv y - 1:=IntWalk.i64_in _ (by omega);by_cases hr:x.tmod y<0
 ·rw [if_pos hr] at a;have b:=kD a;clear a;go_enter Tryz.func153,Tryz.ntmps153;go_wp2_with fail;go_ret;exact⟨ret1 b.out,rfl⟩
 ·rw [if_neg hr] at a;have b:=kD a;clear a;go_enter Tryz.func153,Tryz.ntmps153;go_wp2_with fail;go_ret;exact⟨ret1 b.out,rfl⟩
theorem floor_s (x y:Int) (hy:0<y∧y<=1000000000) (hx:-1000000000000000<=x∧x<=1000000000000000) (w:World) :
  Calls Tryz.prog 155 #[.int .i64 x,.int .i64 y] w λ e w'=>e=.returned (.int .i64 (x / y))∧w=w':=by
 have a:=floor_eq (x:=x) hy.1;have g:-1000000000000000<=x.tdiv y∧x.tdiv y<=1000000000000000:=by
  have h:=Int.natAbs_tdiv_le_natAbs x y;omega
 have f:(y == 0)=false:=by simp;omega
 have c:¬ y=0:=by omega
 have d:-1000000000000<=x.tmod y∧x.tmod y<=1000000000000:=by
  have j:=Int.tmod_lt_of_pos x hy.1;have i:-y<x.tmod y:=by
   by_cases h0:0<=x
   ·have:=Int.tmod_nonneg y h0;omega
   ·have:=Int.tmod_lt_of_pos (-x) hy.1;rw [Int.neg_tmod] at this;omega
  omega
 have m:IntKind.i64.wrap (x.tdiv y)=x.tdiv y:=IntWalk.i64_in _ (by omega);have l:IntKind.i64.wrap (x.tmod y)=x.tmod y:=IntWalk.i64_in _ (by omega);have k:IntKind.i64.wrap (x.tdiv y - 1)=x.tdiv y - 1:=IntWalk.i64_in _ (by omega);by_cases hr:x.tmod y<0
 ·rw [if_pos hr] at a;have b:=kD a;clear a;go_enter Tryz.func155,Tryz.ntmps155;go_wp2_with fail;go_ret;exact⟨ret1 b.out,rfl⟩
 ·rw [if_neg hr] at a;have b:=kD a;clear a;go_enter Tryz.func155,Tryz.ntmps155;go_wp2_with fail;go_ret;exact⟨ret1 b.out,rfl⟩
end Bd12
namespace Bd14
open Go.ChangeShapes Go.WideShapes Go.ChangeAt Go.RowKit Base Ints Own PlP
theorem weight_s (a b:Int) (w:World):Calls Tryz.prog 128 #[.agg #[.int .i64 a,.int .i64 b]] w λ e w'=>e=.returned (.int .i64 (wtP (a,b)))∧Below w.heap.size w w':=by
 by_cases h:a=b
 ·have c:Hid (wtP (a,b)=1):=kD (by unfold wtP;rw [if_pos h]);have d:(a == b)=true:=by simp [h]
  clear h;go_enter Tryz.func128,Tryz.ntmps128;go_wp2_with fail;go_ret;exact⟨ret1 c.out.symm,by go_grown⟩
 ·have c:Hid (wtP (a,b)=2):=kD (by unfold wtP;rw [if_neg h]);have d:(a == b)=false:=by simp [h]
  clear h;go_enter Tryz.func128,Tryz.ntmps128;go_wp2_with fail;go_ret;exact⟨ret1 c.out.symm,by go_grown⟩
end Bd14
namespace Bd13
open Go.ChangeShapes Go.WideShapes Go.ChangeAt Go.RowKit Base Ints Own PlP Bd1 Bd2 Bd12
theorem est_mid {S D:Int} (hS:0<S):(500000*S+1000000*D) / S=500000+1000000*D / S:=by
 rw [Int.add_comm,Int.mul_comm 500000 S,Int.add_mul_ediv_left _ _ (by omega),Int.add_comm]
theorem est_s (v:Vr) (b:Bd) (hb:Ok v b) (Ao At:Option Addr) (co ct B:Nat) (w:World) (hB:B<=w.heap.size) (ho:RdS w B 1 enI Ao b.1) (ht:RdS w B 1 enI At b.2) :
  Calls Tryz.prog 126 #[.agg #[.int .i64 v.p,.int .i64 v.c,.int .i64 v.h,.int .i64 v.s],.agg #[.slice Ao b.1.length co,.slice At b.2.length ct]] w λ e w'=>e=.returned (.int .i64 (est v b))∧Below w.heap.size w w':=by
 have z:=hb.v1;have y:=kD (λ i=>(⟨hb.own.nn i,by have:=hb.own.top i;omega⟩:0<=at_ b.1 i∧at_ b.1 i<=1000));have x:=kD (λ i=>(⟨hb.oth.nn i,by have:=hb.oth.top i;omega⟩:0<=at_ b.2 i∧at_ b.2 i<=1000));have q:=hb.own.len;have o:=hb.oth.len;obtain⟨d,g⟩:∃ p,pipP b.1=p:=⟨_,rfl⟩;obtain⟨a,f⟩:∃ p,pipP b.2=p:=⟨_,rfl⟩;have b1:0<=d∧d<=25000000:=by have:=pipU_bd y.out b.1.length (by omega);rw [<-g];unfold pipP;omega
 have b2:0<=a∧a<=25000000:=by have:=pipU_bd x.out b.2.length (by omega);rw [<-f];unfold pipP;omega
 obtain⟨E,t⟩:∃ e,est v b=e:=⟨_,rfl⟩;have j:=t;unfold est at j;rw [g,f] at j;have n:=kD j;rw [t];have N:=kD (λ w (h:RdS w B 1 enI Ao b.1)=>sum_s Ao co B b.1 w h y.out (by omega));have M:=kD (λ w (h:RdS w B 1 enI At b.2)=>sum_s At ct B b.2 w h x.out (by omega));have L:=kD g;have K:=kD f;have C:=kD (λ w (h:RdS w B 1 enI Ao b.1)=>pips_s Ao co B b.1 w h y.out (by omega));have A:=kD (λ w (h:RdS w B 1 enI At b.2)=>pips_s At ct B b.2 w h x.out (by omega));rw [g] at C;rw [f] at A;have H:=kD (show b.1.length<=1000 by omega);have G:=kD (show b.2.length<=1000 by omega);have F:1<=v.s∧v.s<=6:=z.2.2.2;clear hb z t j g f q o;go_enter Tryz.func126,Tryz.ntmps126;go_wp2_with fail;refine(N.out _ (ho.below (by go_grown) hB)).mono ?_;rintro e T ⟨rfl,rfl⟩;by_cases m:b.1.sum=0
 ·obtain rfl:E=1000000:=by rw [<-n.out];simp [m]
  have J:(b.1.sum == 0)=true:=by simp [m]
  clear m;go_wp2_with fail;go_ret;exact⟨rfl,by go_grown⟩
 ·have J:(b.1.sum == 0)=false:=by simp [m]
  rw [if_neg m] at n;clear m;go_wp2_with fail;refine(M.out _ (ht.below (by go_grown) hB)).mono ?_;rintro e S ⟨rfl,rfl⟩;by_cases l:b.2.sum=0
  ·obtain rfl:E=0:=by rw [<-n.out];simp [l]
   have I:(b.2.sum == 0)=true:=by simp [l]
   clear l;go_wp2_with fail;go_ret;exact⟨rfl,by go_grown⟩
  ·have I:(b.2.sum == 0)=false:=by simp [l]
   rw [if_neg l] at n;clear l;have g1:IntKind.i64.wrap (d+a)=d+a:=IntWalk.i64_in _ (by omega);have Z:IntKind.i64.wrap (d+a+v.s)=d+a+v.s:=IntWalk.i64_in _ (by omega);have Y:IntKind.i64.wrap (a - d)=a - d:=IntWalk.i64_in _ (by omega);have X:IntKind.i64.wrap (a - d+v.s)=a - d+v.s:=IntWalk.i64_in _ (by omega);have W:IntKind.i64.wrap (1000000*(a - d+v.s))=1000000*(a - d+v.s):=IntWalk.i64_in _ (by omega);have r:500000+1000000*(a - d+v.s) / (d+a+v.s)<=1000000000000000∧-1000000000000000<=500000+1000000*(a - d+v.s) / (d+a+v.s):=by
    have k:0<d+a+v.s:=by omega
    have m:-1000000<=1000000*(a - d+v.s) / (d+a+v.s):=(Int.le_ediv_iff_mul_le k).2 (by omega);have l:1000000*(a - d+v.s) / (d+a+v.s)<=1000000:=Int.ediv_le_of_le_mul k (by omega);omega
   have D:=kD (λ w=>floor_s (1000000*(a - d+v.s)) (d+a+v.s) (by omega) (by omega) w)
   generalize 1000000*(a - d+v.s) / (d+a+v.s)=Q at n D r ⊢
   have V:IntKind.i64.wrap (500000+Q)=500000+Q:=IntWalk.i64_in _ (by omega);go_wp2_with fail;refine(C.out _ (ho.below (by go_grown) hB)).mono ?_;rintro e R ⟨rfl,rfl⟩;go_wp2_with fail;refine(A.out _ (ht.below (by go_grown) hB)).mono ?_;rintro e P ⟨rfl,rfl⟩;go_wp2_with fail;refine(D.out _).mono ?_;rintro e O ⟨rfl,rfl⟩;go_wp2_with fail
   all_goals
    go_ret;refine⟨ret1 ?_,by go_grown⟩;rw [<-n.out];omega
end Bd13
namespace Bd13I
open Go.ChangeShapes Go.WideShapes Go.ChangeAt Go.RowKit Base Ints Own PlP Bd1 Bd2 Bd12
theorem pips_iq (A:Option Addr) (n cp B:Nat) (xs:List Int) (z:Int) (hn:xs.length=n) (hz:pipP xs=z) (w:World) (k:Nat) (hr:RdS w B 1 enI A xs) (hx:∀ i,0<=at_ xs i∧at_ xs i<=1000) (hl:xs.length<=1000):Calls Tryz.prog 152 #[.slice A n cp] (w.drewN k) λ e w''=>e=.returned (.int .i64 z)∧∃ m,w''=w.drewN m:=by
 subst hn hz;exact Calls.quiet_of_same ((pips_i A cp B xs (w.drewN k) hr hx hl).mono λ _ _ h=>⟨h.1,h.2.symm⟩)
theorem est_mid {S D:Int} (hS:0<S):(500000*S+1000000*D) / S=500000+1000000*D / S:=by
 rw [Int.add_comm,Int.mul_comm 500000 S,Int.add_mul_ediv_left _ _ (by omega),Int.add_comm]
theorem est_i (v:Vr) (b:Bd) (hb:Ok v b) (Ao At:Option Addr) (co ct B:Nat) (w:World) (hB:B<=w.heap.size) (ho:RdS w B 1 enI Ao b.1) (ht:RdS w B 1 enI At b.2) :
  Calls Tryz.prog 122 #[.agg #[.int .i64 v.p,.int .i64 v.c,.int .i64 v.h,.int .i64 v.s],.agg #[.slice Ao b.1.length co,.slice At b.2.length ct]] w λ e w'=>e=.returned (.int .i64 (est v b))∧Below w.heap.size w w':=by
 have G:=hb.v1;have n:=kD (λ i=>(⟨hb.own.nn i,by have:=hb.own.top i;omega⟩:0<=at_ b.1 i∧at_ b.1 i<=1000));have m:=kD (λ i=>(⟨hb.oth.nn i,by have:=hb.oth.top i;omega⟩:0<=at_ b.2 i∧at_ b.2 i<=1000));have r:=hb.own.len;have q:=hb.oth.len;obtain⟨d,g⟩:∃ p,pipP b.1=p:=⟨_,rfl⟩;obtain⟨a,f⟩:∃ p,pipP b.2=p:=⟨_,rfl⟩;have b1:0<=d∧d<=25000000:=by have:=pipU_bd n.out b.1.length (by omega);rw [<-g];unfold pipP;omega
 have b2:0<=a∧a<=25000000:=by have:=pipU_bd m.out b.2.length (by omega);rw [<-f];unfold pipP;omega
 obtain⟨E,y⟩:∃ e,est v b=e:=⟨_,rfl⟩;have j:=y;unfold est at j;rw [g,f] at j;have l:=kD j;rw [y];have P:=kD (λ w (h:RdS w B 1 enI Ao b.1)=>sum_i Ao co B b.1 w h n.out (by omega));have O:=kD (λ w (h:RdS w B 1 enI At b.2)=>sum_i At ct B b.2 w h m.out (by omega));have C:=kD g;have A:=kD f;have M:=kD (λ w (h:RdS w B 1 enI Ao b.1)=>pips_i Ao co B b.1 w h n.out (by omega));have L:=kD (λ w (h:RdS w B 1 enI At b.2)=>pips_i At ct B b.2 w h m.out (by omega));rw [g] at M;rw [f] at L;have x:=kD (show b.1.length<=1000 by omega);have t:=kD (show b.2.length<=1000 by omega);have R:1<=v.s∧v.s<=6:=G.2.2.2;clear hb G y j g f r q;go_enter Tryz.func122,Tryz.ntmps122;go_wp2_with fail;refine(P.out _ (ho.below (by go_grown) hB)).mono ?_;rintro e o ⟨rfl,rfl⟩;by_cases h1:b.1.sum=0
 ·obtain rfl:E=1000000:=by rw [<-l.out];simp [h1]
  have I:(b.1.sum == 0)=true:=by simp [h1]
  clear h1;go_wp2_with fail;go_ret;exact⟨rfl,by go_grown⟩
 ·have I:(b.1.sum == 0)=false:=by simp [h1]
  rw [if_neg h1] at l;clear h1;go_wp2_with fail;refine(O.out _ (ht.below (by go_grown) hB)).mono ?_;rintro e Y ⟨rfl,rfl⟩;by_cases h2:b.2.sum=0
  ·obtain rfl:E=0:=by rw [<-l.out];simp [h2]
   have H:(b.2.sum == 0)=true:=by simp [h2]
   clear h2;go_wp2_with fail;go_ret;exact⟨rfl,by go_grown⟩
  ·have H:(b.2.sum == 0)=false:=by simp [h2]
   rw [if_neg h2] at l;clear h2;have g1:IntKind.i64.wrap (d+a)=d+a:=IntWalk.i64_in _ (by omega);have g2:IntKind.i64.wrap (d+a+v.s)=d+a+v.s:=IntWalk.i64_in _ (by omega);have g3:IntKind.i64.wrap (a - d)=a - d:=IntWalk.i64_in _ (by omega);have g4:IntKind.i64.wrap (a - d+v.s)=a - d+v.s:=IntWalk.i64_in _ (by omega);have g5:IntKind.i64.wrap (1000000*(a - d+v.s))=1000000*(a - d+v.s):=IntWalk.i64_in _ (by omega);have g6:IntKind.i64.wrap (500000*(d+a+v.s))=500000*(d+a+v.s):=IntWalk.i64_in _ (by omega);have g7:IntKind.i64.wrap (500000*(d+a+v.s)+1000000*(a - d+v.s))=500000*(d+a+v.s)+1000000*(a - d+v.s):=IntWalk.i64_in _ (by omega);have N:=kD (λ w=>floor_i (500000*(d+a+v.s)+1000000*(a - d+v.s)) (d+a+v.s) (by omega) (by omega) w);rw [est_mid (by omega)] at N;have K:=kD ho;have J:=kD ht;clear ho ht P O M L;go_upto_region 5 with fail;refine wp_gen (λ z=>Below w.heap.size w z∧RowB z w.heap.size 25 (vL v)∧RowB z (w.heap.size+1) 28 [.slice Ao b.1.length co,.slice At b.2.length ct]) ⟨by go_grown,(RowB.new _ _ _).alloc _,RowB.new' _ _ _ (by simp)⟩ ?_;rintro o ⟨hb,D,F⟩;obtain⟨q0,q1,q2,q3⟩:=D.c4;obtain⟨r0,Z⟩:=F.c2;have T:=D.lt;have S:=F.lt;have W:=kD (λ k=>pips_iq Ao _ co B b.1 d rfl C.out o k ((K.out.below hb hB)) n.out x.out);have V:=kD (λ k=>pips_iq At _ ct B b.2 a rfl A.out o k ((J.out.below hb hB)) m.out t.out);clear K J I H;go_wp2_with fail;go_quiet ((go_at_call 152;first | with_reducible exact W.out _ | with_reducible exact V.out _));go_wp2_with fail;refine(N.out _).mono ?_;rintro e X ⟨rfl,rfl⟩
   generalize 500000+1000000*(a - d+v.s) / (d+a+v.s)=Q at l ⊢
   go_wp2_with fail
   all_goals
    go_ret;refine⟨ret1 ?_,below_drewN hb _⟩;rw [<-l.out];omega
end Bd13I
end Go.Proofs.YtmncnhbjifeoeaaGreat
