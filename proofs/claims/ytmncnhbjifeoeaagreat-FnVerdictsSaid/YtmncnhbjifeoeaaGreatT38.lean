/- Parts of the proof of FnVerdicts. Conditions: each theorem's own. -/
import Derived.Test.YtmncnhbjifeoeaaGreatT37
set_option linter.unusedVariables false
set_option linter.unusedSimpArgs false
set_option maxHeartbeats 8000000
set_option maxRecDepth 100000
namespace Go.Proofs.YtmncnhbjifeoeaaGreat
namespace DwF
open Go Go.ChangeShapes Go.WideShapes Go.ChangeAt Go.RowKit Base Ints Own RelG PlP Gm RegInv RegF RegG Bd1 Bd5 Draw DrawD DwP DwQ DwA DwB DwC DwD DwE
theorem dx_any {W:World} {B g cp:Nat} {A:Option Addr} {xs:List Int} {st:Nat × Int} (hs:SrcX W g A xs.length cp st) (hr:RdS W B 1 enB A xs) (hw:∀ x ∈ xs,(Lit.int .u8 x).wf=true) (hB:B<=g):∃ w0,Dx w0 B g A cp xs st W:=by
 have c:=hs.lt;have a:(W.heap.extract 0 B).size=B:=by simp;omega
 refine⟨{ W with heap:=W.heap.extract 0 B },hs,hr,hw,⟨rfl,rfl,rfl,?_,λ i b=>?_⟩,hB,a.symm⟩
 ·show (W.heap.extract 0 B).size<=W.heap.size
  omega
 ·show W.heap[i]?=(W.heap.extract 0 B)[i]?
  rw [Array.getElem?_extract,if_pos (by omega),Nat.zero_add]
structure Rz (w:World) (g:Nat) (A:Option Addr) (cp:Nat) (xs:List Int) (st:Nat × Int) (g6:Nat) (v:Vr) (n:Int) (Ae:Option Addr) (L ce:Nat) (es:List Ev) (W:World):Prop where
 src:SrcX W g A xs.length cp st
 bel:Below w.heap.size w W
 r6:RowB W g6 48 [.int .i64 v.p,.int .i64 v.c,.int .i64 v.h,.int .i64 v.s,.int .i64 n,.slice Ae L ce]
 ev:EvL W (λ b=>w.heap.size<b∧b≠g) Ae es
 lo:w.heap.size<g∧g<g6
section
variable {w W W':World} {g cp:Nat} {A:Option Addr} {xs:List Int} {st st':Nat × Int} {g6:Nat} {v:Vr} {n:Int} {Ae:Option Addr} {L ce:Nat} {es:List Ev}
theorem Rz.next (K:Rz w g A cp xs st g6 v n Ae L ce es W) (hs:SrcX W' g A xs.length cp st') (hg:W.grownBy W' (some g)):Rz w g A cp xs st' g6 v n Ae L ce es W':=by
 have l:=K.lo;exact⟨hs,K.bel.grown hg K.bel.size (λ k a=>by simp at a;omega),K.r6.grown hg (λ k a=>by simp at a;omega),K.ev.keep (Still.grown hg (λ k a hs=>by simp at a;exact hs.2 a.symm)),l⟩
theorem Rz.res (K:Rz w g A cp xs st g6 v n Ae L ce es W) (hg:W.grownBy W' (some w.heap.size)):Rz w g A cp xs st g6 v n Ae L ce es W':=by
 have l:=K.lo;exact⟨K.src.grown hg (λ k a=>by simp at a;omega),K.bel.grown hg K.bel.size (λ k a=>by simp at a;omega),K.r6.grown hg (λ k a=>by simp at a;omega),K.ev.keep (Still.grown hg (λ k a b=>by simp at a;have:=b.1;omega)),l⟩
end
structure RvF (w:World) (g:Nat) (A:Option Addr) (cp:Nat) (xs:List Int) (sts:List (Nat × Int)) (g6:Nat) (v:Vr) (n:Int) (Ae:Option Addr) (L:Nat) (ce:Nat) (es:List Ev) (U:Nat->Prop) (ops:List Nat) (pN:Prop) (W:World):Prop where
 sq:Sq (λ j W=>∃ st,sts[j]?=some st∧Rz w g A cp xs st g6 v n Ae L ce es W) U ops W
 r0:¬ pN->RowB W w.heap.size 48 [.int .i64 0,.int .i64 0,.int .i64 0,.int .i64 0,.int .i64 0,.slice none 0 0]
 r1:pN->RowB W w.heap.size 48 [.int .i64 v.p,.int .i64 v.c,.int .i64 v.h,.int .i64 v.s,.int .i64 n,.slice Ae L ce]
section
variable {w W W':World} {g cp:Nat} {A:Option Addr} {xs:List Int} {sts:List (Nat × Int)} {g6:Nat} {v:Vr} {n:Int} {Ae:Option Addr} {L ce:Nat} {es:List Ev} {U:Nat->Prop} {ops:List Nat} {N:Nat}
theorem RvF.any (F:RvF w g A cp xs sts g6 v n Ae L ce es U ops (U N) W):∃ st,Rz w g A cp xs st g6 v n Ae L ce es W:=by
 obtain⟨j,b,st,c,a⟩:=F.sq;exact⟨st,a⟩
theorem RvF.skip (F:RvF w g A cp xs sts g6 v n Ae L ce es U ops (U N) W) (k:Nat) (h:(ops.all (λ o=>o != k) && (N != k))=true:=by decide):RvF w g A cp xs sts g6 v n Ae L ce es (λ j=>j=k∨U j) ops (N=k∨U N) W:=by
 simp only [Bool.and_eq_true,bne_iff_ne,ne_eq,List.all_eq_true] at h;rw [or_ne h.2];exact⟨F.sq.skip k h.1,F.r0,F.r1⟩
theorem RvF.at_ {st:Nat × Int} (F:RvF w g A cp xs sts g6 v n Ae L ce es U ops (U N) W) (i:Nat) (hs:sts[i]?=some st) {k:Nat} (hk:ops[i]?=some k) (hno:¬ U k) (hp:∀ i' o,i'<i->ops[i']?=some o->U o):Rz w g A cp xs st g6 v n Ae L ce es W:=by
 obtain⟨b,a,c⟩:=Sq.at_ F.sq i hk hno hp;rw [hs] at a;obtain rfl:=Option.some.inj a;exact c
theorem RvF.call {i k:Nat} {st:Nat × Int} (F:RvF w g A cp xs sts g6 v n Ae L ce es U ops (U N) W) (hs:sts[i+1]?=some st) (hk:ops[i]?=some k) (hno:¬ U k) (hp:∀ i' o,i'<i->ops[i']?=some o->U o) (hd:(decide ops.Nodup && (N != k))=true) (hD:Rz w g A cp xs st g6 v n Ae L ce es W') (hg:W.grownBy W' (some g)):RvF w g A cp xs sts g6 v n Ae L ce es (λ j=>j=k∨U j) ops (N=k∨U N) W':=by
 simp only [Bool.and_eq_true,decide_eq_true_eq,bne_iff_ne,ne_eq] at hd;rw [or_ne hd.2];have l:=hD.lo;exact⟨Sq.call F.sq hk hno hp hd.1 ⟨st,hs,hD⟩,λ h=>(F.r0 h).grown hg (λ k hk=>by simp at hk;omega),λ h=>(F.r1 h).grown hg (λ k hk=>by simp at hk;omega)⟩
theorem RvF.wrote (F:RvF w g A cp xs sts g6 v n Ae L ce es U ops (U N) W) (hr:RowB W' w.heap.size 48 [.int .i64 v.p,.int .i64 v.c,.int .i64 v.h,.int .i64 v.s,.int .i64 n,.slice Ae L ce]) (hg:W.grownBy W' (some w.heap.size)) (h:(ops.all (λ o=>o != N))=true):RvF w g A cp xs sts g6 v n Ae L ce es (λ j=>j=N∨U j) ops (N=N∨U N) W':=by
 simp only [bne_iff_ne,ne_eq,List.all_eq_true] at h;obtain⟨j,d,a,f,e⟩:=F.sq;exact⟨Sq.skip ⟨j,d,a,f,e.res hg⟩ N h,λ b=>absurd (.inl rfl) b,λ _=>hr⟩
end
theorem RvF.start {w W:World} {g cp:Nat} {A:Option Addr} {xs:List Int} {sts:List (Nat × Int)} {g6:Nat} {v:Vr} {n:Int} {Ae:Option Addr} {L ce:Nat} {es:List Ev} {U:Nat->Prop} {ops:List Nat} {pN:Prop} {st:Nat × Int} (h:Rz w g A cp xs st g6 v n Ae L ce es W) (hr:RowB W w.heap.size 48 [.int .i64 0,.int .i64 0,.int .i64 0,.int .i64 0,.int .i64 0,.slice none 0 0]) (hs:sts[0]?=some st) (hU:∀ o ∈ ops,¬ U o) (hN:¬ pN):RvF w g A cp xs sts g6 v n Ae L ce es U ops pN W.drew :=
 ⟨Sq.zero ⟨st,hs,h.src,h.bel.drew,h.r6.drew,h.ev.keep ⟨Nat.le_refl _,λ _ _ _=>rfl⟩,h.lo⟩ hU,λ _=>hr.drew,λ h=>absurd h hN⟩
theorem RvF.all_ {w W:World} {g cp:Nat} {A:Option Addr} {xs:List Int} {s0 s1 s2 s3:Nat × Int} {g6:Nat} {v:Vr} {n:Int} {Ae:Option Addr} {L ce:Nat} {es:List Ev} {ops:List Nat} {pN:Prop} (F:RvF w g A cp xs [s0,s1,s2,s3] g6 v n Ae L ce es (λ _=>True) ops pN W) (hl:ops.length=3):Rz w g A cp xs s3 g6 v n Ae L ce es W:=by
 obtain⟨j,b,e,a,d⟩:=F.sq;have f:3<=j:=by
  have:=(b 2 _ (List.getElem?_eq_getElem (by omega))).1 trivial;omega
 have c:=(List.getElem?_eq_some_iff.1 a).1;simp only [List.length_cons,List.length_nil] at c;obtain rfl:j=3:=by omega
 obtain rfl:=Option.some.inj a;exact d
theorem _root_.Go.Proofs.YtmncnhbjifeoeaaGreat.Gm.Evs.evs {w:World} {lo:Nat} {A:Option Addr} {m c:Nat} {es:List Ev} {S:Nat->Prop} (h:Evs w lo (.slice A m c) es) (hS:∀ b,lo<=b->S b):EvL w S A es:=(Ea.of h (λ b hb _=>hS b hb)).evl
theorem rev29_x {w:World} {cp:Nat} {A:Option Addr} {xs:List Int} (hr:RdS w w.heap.size 1 enB A xs) (hw:∀ x ∈ xs,(Lit.int .u8 x).wf=true) :
  Calls Tryz.prog 14 #[.slice A xs.length cp] w λ e w'=>∃(v:Vr) (n:Int) (es:List Ev) (d:Int) (Ae:Option Addr) (ce:Nat),e=.returned (.tuple #[.agg #[.int .i64 v.p,.int .i64 v.c,.int .i64 v.h,.int .i64 v.s,.int .i64 n,.slice Ae es.length ce],.int .i64 d])∧rev29 xs=((v,n,es),d)∧EvL w' (λ b=>w.heap.size<=b) Ae es∧(Sh es∧es.length<=291∧es.length<=ce)∧Below w.heap.size w w':=by
 have aM:=kD hr;have HW:=kD hw;go_enter Tryz.func14,Tryz.ntmps14;go_upto_region 1 with fail;refine wp_gen (λ W'=>RowB W' w.heap.size 48 [.int .i64 0,.int .i64 0,.int .i64 0,.int .i64 0,.int .i64 0,.slice none 0 0]∧Below w.heap.size w W'∧w.heap.size+1=W'.heap.size) ⟨RowB.new _ _ _,by go_grown,by simp⟩ ?_;rintro w1 ⟨R2,aJ,bn⟩;have h1:=((hr.below aJ (Nat.le_refl _)).more aJ.size);clear hr hw;go_wp2_with fail;refine(newX h1 HW.out).mono ?_;rintro e w2 ⟨rfl,o⟩;have bt:=o.lt;have bN:=kD aJ;have bE:=kD R2;obtain⟨g,B⟩:∃ q,w1.heap.size=q:=⟨_,rfl⟩;have HG:=kD B;rw [B] at o bt bn ⊢;have K:Rx w1 w2 g g A cp xs (st0 xs) [] w2:=⟨o,grownBy_refl _ _,λ p hp=>absurd hp List.not_mem_nil,bt⟩;have cM:w.heap.size<g:=by omega
 clear o B h1 aJ R2 bn;go_wp2_with fail;refine(nextX K.D (3) (by decide)).mono ?_;rintro e cA ⟨p,cD,⟨rfl,bV,aY,-,bk⟩,o,B,-⟩;have aY:=aY (by decide);have K:=K.next o B;clear o B;go_wp2_with fail;refine(nextX K.D (2) (by decide)).mono ?_;rintro e cz ⟨c,cF,⟨rfl,cc,ba,-,bm⟩,o,B,-⟩;have ba:=ba (by decide);have K:=K.next o B;clear o B;go_wp2_with fail;refine(nextX K.D (2) (by decide)).mono ?_;rintro e cy ⟨h,cE,⟨rfl,b7,a8,-,bl⟩,o,B,-⟩;have a8:=a8 (by decide);have K:=K.next o B;clear o B;go_wp2_with fail;refine(nextX K.D (3) (by decide)).mono ?_;rintro e bf ⟨nn,av,⟨rfl,bj,aw,-,aP⟩,o,B,-⟩;have aw:=aw (by decide);have K:=K.next o B;clear o B;obtain⟨v,hv⟩:∃ v:Vr,v=⟨4+p,1+c,1+h,2⟩:=⟨_,rfl⟩;obtain⟨N,hN⟩:∃ N:Int,N=1+nn:=⟨_,rfl⟩;have cf:=kD hv;have a4:okV v=true:=by rw [hv];unfold okV;simp only [decide_eq_true_eq];omega
 have h4:4<=v.p:=by rw [hv];show 4<=4+p;omega
 have b8:1<=N∧N<=25:=by omega
 have aU:=kD (λ(k:Nat) (s5 s6:St) (q:Int) (R:List Ev × St) (O:Mch × Int) (m5:Nx xs av 9 (k:Int) s5) (hR:go28 xs v N k (startS v) [] s5=R) (m6:Nx xs R.2 16 q s6) (hO:rvGo xs (v,N,R.1) (q,s6)=O)=>rev29_of (O:=O) bk bm bl aP m5 (by rw [<-hN,<-hv];exact hR) m6 (by rw [<-hN,<-hv];exact hO));go_upto_region 3 with fail;refine wp_gen (λ W'=>Rx w1 w2 g g A cp xs av [] W'∧RowB W' bf.heap.size 48 [.int .i64 v.p,.int .i64 v.c,.int .i64 v.h,.int .i64 v.s,.int .i64 N,.slice none 0 0]) ⟨K.alloc _,by rw [hv,hN];exact RowB.new _ _ _⟩ ?_;have Z:=K.gr.size;obtain⟨g6,C⟩:∃ q,bf.heap.size=q:=⟨_,rfl⟩;rw [C] at Z ⊢;clear K hv hN C bV aY cc ba b7 a8 bj aw bk bm bl aP cf;rintro w7 ⟨K,R6⟩;obtain⟨x0,x1,x2,x3,x4,x5⟩:=R6.c6;have br:=R6.lt;have al:=K.gr.size;go_wp2_with fail;refine(fst_s v a4 h4 _).mono ?_;rintro e w8 ⟨v6,rfl,⟨su,u1,u2,rfl,am⟩,hb⟩;have bZ:=hb.size;have K:=K.below hb;have R6:=R6.below hb R6.lt;clear hb x0 x1 x2 x3 x4 x5;obtain⟨⟨A0,c0,rfl,-,-⟩,⟨A1,c1,rfl,-,-⟩,⟨A2,c2,rfl,-,-⟩⟩:=id am;have aR:=R6.lt;have ap:=kD (show MsR w8 (λ b=>w2.heap.size<=b∧b≠g6∧b≠w8.heap.size) _ _ _ (startS v) from am.weak (λ b h hl=>by
  have h:=h.elim False.elim id;omega))
 clear am;simp only [msC,List.length_cons,List.length_nil,Nat.zero_add,Nat.reduceAdd];go_upto_region 4 with fail;refine wp_gen (λ W'=>Kd w1 w2 g g A cp xs av g6 w8.heap.size [] v N (.slice none 0 0) [] (.slice A0 2 c0) (.slice A1 (startS v).g.b.1.length c1) (.slice A2 (startS v).g.b.2.length c2) (startS v) W') ⟨K.D.alloc _,(K.alloc _).gr,λ p hp=>absurd hp List.not_mem_nil,R6.alloc _,RowB.new _ _ _,ap.out.keep (.below ((Below.refl _ _).alloc (Nat.le_refl _) _)),Evs.nil _ _,K.lt,Z,aR⟩ ?_;obtain⟨g7,bw⟩:∃ q,w8.heap.size=q:=⟨_,rfl⟩;rw [bw] at ap ⊢;clear K ap R6 bw aR bZ br;intro W K;go_wp2_with fail;refine(nextX K.D 9 (by decide)).mono ?_;rintro e bT ⟨z,s5,⟨rfl,z0,z1,-,nz⟩,o,B,-⟩;have z1:=z1 (by decide);obtain⟨kk,rfl⟩:∃ q:Nat,z=q:=⟨z.toNat,by omega⟩;have b2:kk<=200:=by omega
 have HK:=kD (K.next o B);obtain⟨R,a9⟩:∃ R,go28 xs v N kk (startS v) [] s5=R:=⟨_,rfl⟩;have bM:=kD (λ(s6:St) (q:Int) (O:Mch × Int) (m6:Nx xs R.2 16 q s6) (hO:rvGo xs (v,N,R.1) (q,s6)=O)=>aU.out kk s5 s6 q R O nz a9 m6 hO);have HV:Hid (Go28 xs v N kk (startS v) [] s5 R):=kD a9;have ag:=kD (start_ms (v:=v) (len:=N) (by unfold headB;simp only [Bool.and_eq_true,decide_eq_true_eq];exact⟨⟨a4,h4⟩,b8⟩));have bo:=K.lo;clear o B K nz a9 aU z0 z1 a4 h4;go_wp2_with fail;go_loopw [7,8,9,10] (λ s8 _ _ _ wr=>∃(j i:Nat) (x:Ms) (es:List Ev) (bB su u1 u2:Value) (aX:St),s8=.int .i64 (j:Int)∧i+j<=200∧es.length<=i∧Hid (Kd w1 w2 g g A cp xs aX g6 g7 [] v N bB es su u1 u2 x wr)∧Hid (MsOk v N i x)∧Hid (Sh es)∧Hid (Go28 xs v N j x es aX R)) (λ s8 _ _ _ _=>(intOf s8).toNat)
 case atStart=>exact⟨kk,0,startS v,[],_,_,_,_,_,by first | rfl | trivial,by omega,Nat.le_refl _,HK,ag,kD (λ x hx=>absurd hx List.not_mem_nil),HV⟩
 case round =>
  obtain⟨j,i,x,es,bB,su,u1,u2,aX,rfl,b3,a7,HK,ag,aC,HV⟩:=hrel;have K:=HK.out;obtain⟨Ae,ce,ca⟩:=K.es.form;subst ca;obtain⟨L,hL⟩:∃ L,es.length=L:=⟨_,rfl⟩;rw [hL] at K a7;have HL:=kD hL;by_cases j0:0<j
  ·obtain⟨j,rfl⟩:∃ q,j=q+1:=⟨j - 1,by omega⟩;obtain⟨⟨B0,d0,rfl,-,-⟩,⟨B1,d1,rfl,-,-⟩,⟨B2,d2,rfl,-,-⟩⟩:=id K.ms;simp only [List.length_cons,List.length_nil,Nat.zero_add,Nat.reduceAdd] at K;have cH:=K.gr.size;have cK:=K.r7.lt;have bo:=K.lo;obtain⟨q0,q1,q2,q3,q4,q5⟩:=K.r6.c6;have Z:=K.r6.lt;obtain⟨y0,y1,y2,y3,y4,y5,y6,y7,y8,y9,ae,ad⟩:=row12 K.r7;have an:=K.r7.lt;have bP:=kD (ev28_x v x ag.out.gm (λ b=>w2.heap.size<=b∧b≠g6∧b≠g7) (λ hs=>by have:=hs.1;omega) _ _ _ K.ms K.D);clear HK hL;go_wp2_with fail;refine bP.out.mono ?_;rintro e wE ⟨e1,s5,As,cs,rfl,aH,⟨a3,a6⟩,o,B⟩;have bL:=kD (K.next o B);have aO:=kD aH;have bX:=B.size;obtain⟨X,hX⟩:∃ X,nextS v N x e1=X:=⟨_,rfl⟩;obtain⟨ek,ea,eb,ss,er⟩:=e1;simp only at a3 a6 ⊢;obtain⟨sl,a2⟩:∃ q,ss.length=q:=⟨_,rfl⟩;have bC:=kD a2;have P:=kD a3;have HX:=kD hX;have bJ:=kD a6;rw [a2];clear bP o B aH a3 hX a6 a2 K q0 q1 q2 q3 q4 q5 Z y0 y1 y2 y3 y4 y5 y6 y7 y8 y9 ae ad an;go_upto_region 8 with fail;obtain⟨g9,az⟩:∃ q,wE.heap.size=q:=⟨_,rfl⟩;refine wp_gen (λ W'=>Below wE.heap.size wE W'∧RowB W' g9 63 [.int .i64 ek,.int .i64 ea,.int .i64 eb,.slice As sl cs,.int .i64 er]) ⟨(Below.refl _ _).alloc (Nat.le_refl _) _,by rw [<-az];exact RowB.new _ _ _⟩ ?_
   try simp only [az]
   have cv:wr.heap.size<=g9:=by rw [<-az];exact bX
   rintro w8 ⟨aI,R9⟩;rw [<-az] at aI;clear az;have K:=bL.out.below aI;have P:=kD (P.out.keep (.below aI));have co:=K.gr.size;have ct:=K.r7.lt;have CN:=next_s v N i x ag.out (by omega) (by omega) (λ b=>w2.heap.size<=b∧b≠g6∧b≠g7) _ _ _ ⟨ek,ea,eb,ss,er⟩ As cs w8.heap.size w8 (Nat.le_refl _) K.ms P.out.rd X HX.out;simp only at CN;rw [bC.out] at CN;have CN:=kD CN;clear bL aI;obtain⟨q0,q1,q2,q3,q4,q5⟩:=K.r6.c6;have Z:=K.r6.lt;obtain⟨y0,y1,y2,y3,y4,y5,y6,y7,y8,y9,ae,ad⟩:=row12 K.r7;have an:=K.r7.lt;obtain⟨k0,k1,k2,k3,k4⟩:=R9.c5;have a5:=R9.lt;go_wp2_with fail;refine CN.out.mono ?_;rintro e W ⟨v6,rfl,⟨B3,m3,f3,B4,m4,f4,B5,m5,f5,y',rfl,ax⟩,aA⟩;have K:=K.below aA;have R9:=R9.below aA R9.lt;have P:=kD (P.out.keep (.below aA));have bc:=kD ax;have bY:=aA.size;clear CN aA ax k0 k1 k2 k3 k4 a5 q0 q1 q2 q3 q4 q5 Z y0 y1 y2 y3 y4 y5 y6 y7 y8 y9 ae ad an;simp only [msC];go_upto_region 9 with fail;obtain⟨bA,S⟩:∃ q,W.heap.size=q:=⟨_,rfl⟩;refine wp_gen (λ W'=>Below W.heap.size W W'∧RowB W' bA 59 (msC (.slice B3 m3 f3) (.slice B4 m4 f4) (.slice B5 m5 f5) y')) ⟨(Below.refl _ _).alloc (Nat.le_refl _) _,by rw [<-S];exact RowB.new _ _ _⟩ ?_
   try simp only [S]
   rintro bT ⟨I,aL⟩;rw [<-S] at I;have bq:g9<W.heap.size:=R9.lt;have K:=K.below I;have R9:=R9.below I R9.lt;have P:=kD (P.out.keep (.below I));have cL:IntKind.i64.wrap (((j+1:Nat):Int) - 1)=(j:Int):=by rw [IntWalk.i64_in _ (by omega)];omega
   cases X with
   | none =>
    have aV:=kD K;have bb:=kD (go28_none HV.out aO.out HX.out);clear bc I S R9 aL K HV aO HX;go_wp2_with fail;go_roundw
    case rel=>exact⟨j,i,x,es,_,_,_,_,s5,by first | rfl | go_num,by omega,by rw [HL.out];exact a7,by rw [<-HL.out] at aV;exact aV,ag,aC,bb⟩
    case measure=>simp [intOf] <;> omega
   | some y =>
    obtain⟨bW,am⟩:=bc.out _ rfl;subst bW;have cI:=bY;have ap:=kD ((am.weak (S':=λ b=>w2.heap.size<=b∧b≠g6∧b≠g7) (λ b h hl=>by
     have h:=h.elim False.elim id;have:=R9.lt;omega)).below I)
    have cj:=kD (next_ms (by omega) ag.out HX.out);have bb:=kD (go28_some HV.out aO.out HX.out);have b4:g9<bA:=by rw [<-S];exact bq
    clear am bc I S HV aO HX;obtain⟨y0,y1,y2,y3,y4,y5,y6,y7,y8,y9,ae,ad⟩:=row12 aL;have bs:=aL.lt;have R7:=K.r7;go_upto_region 11 with (first | (refine wM 59 0 (msC (.slice B3 m3 f3) (.slice B4 m4 f4) (.slice B5 m5 f5) y') R7 ?_;intro bS bh aj bQ));have K2:=K.put7 bh aj ap.out;have R9:=R9.grown aj (λ k Y=>by simp at Y;omega);have P:=kD (P.out.keep (Still.grown aj (λ k Y hs=>by simp at Y;omega)));clear K ap R7 aL y0 y1 y2 y3 y4 y5 y6 y7 y8 y9 ae ad bs bh aj bQ;have K:=K2;clear K2;obtain⟨q0,q1,q2,q3,q4,q5⟩:=K.r6.c6;have Z:=K.r6.lt;obtain⟨y0,y1,y2,y3,y4,y5,y6,y7,y8,y9,ae,ad⟩:=row12 K.r7;have an:=K.r7.lt;obtain⟨k0,k1,k2,k3,k4⟩:=R9.c5;have a5:=R9.lt;have CA:=add_s v N es Ae ce ⟨ek,ea,eb,ss,er⟩ As cs bS (K.es.evl) (P.out.weak (λ _ _ _=>trivial)) (by have:=bJ.out;simp only;omega) (λ q hq=>by have:=aC.out q hq;omega) (by rw [HL.out];omega);simp only at CA;rw [bC.out,HL.out] at CA;have CA:=kD CA;go_wp2_with fail;refine CA.out.mono ?_;rintro e cB ⟨A7,c7,rfl,hE,aS⟩;have cq:=K.r7.lt;have K:=K.below aS;have HE:=kD (hE.less (lo':=g7+1) (by omega));have R6:=K.r6;clear CA hE aS k0 k1 k2 k3 k4 a5 R9 q0 q1 q2 q3 q4 q5 Z y0 y1 y2 y3 y4 y5 y6 y7 y8 y9 ae ad an;go_upto_region 6 with (first | (refine wM 48 0 [.int .i64 v.p,.int .i64 v.c,.int .i64 v.h,.int .i64 v.s,.int .i64 N,.slice A7 (L+1) c7] R6 ?_;intro bR aF M be));have cm:=kD (K.put6 aF M HE.out);have bp:(es++[(⟨ek,ea,eb,ss,er⟩:Ev)]).length=L+1:=by rw [List.length_append,HL.out];rfl
    have ck:=kD bp;have ci:=kD (Sh.app aC.out (e:=⟨ek,ea,eb,ss,er⟩) bJ.out);clear bp K HE R6 aF M be;go_wp2_with fail;go_roundw
    case rel=>exact⟨j,i+1,y',_,_,_,_,_,s5,by first | rfl | go_num,by omega,by rw [ck.out];omega,cm,cj,ci,bb⟩
    case measure=>simp [intOf] <;> omega
  ·obtain rfl:j=0:=by omega
   have hR:=go28_end HV.out;subst hR;have aQ:es.length<=290:=by rw [HL.out];omega
   have HS:=kD (And.intro aC.out aQ);have cl:=kD K;have bo:=K.lo;clear HV ag aQ hL HK b3 a7;go_wp2_with fail;refine(nextX K.D 16 (by decide)).mono ?_;rintro e bg ⟨q,s6,⟨rfl,cG,bi,-,nq⟩,o,B,-⟩;have bi:=bi (by decide);have K:=K.next o B;have V:=kD (show Below w.heap.size w bg from bN.out.trans (K.D.bel.mono (by omega)));have ak:=kD (bE.out.below K.D.bel (by omega));have aD:=kD (λ(O:Mch × Int) (hO:rvGo xs (v,N,es) (q,s6)=O)=>bM.out s6 q O nq hO);clear cl o B nq bM bN bE;have P:=kD (aM.out.below V.out (Nat.le_refl _));obtain⟨bU,ai⟩:∃ t,(q == 0)=t:=⟨_,rfl⟩;have HT:=kD ai;go_upto_if 58 with (fail);go_cut [] from 59 to 60 (λ wx=>∃(G:Vr) (n9:Int) (E:List Ev) (ah:Option Addr) (L9 ac:Nat) (ar:St),Hid (∀ O,dpth xs (G,n9,E) ar=O->rev29 xs=O)∧Hid (Sh E∧E.length<=291)∧Hid (E.length=L9)∧Hid (L9<=ac)∧Hid (Rz w g A cp xs ar g6 G n9 ah L9 ac E wx)∧Hid (RowB wx w.heap.size 48 [.int .i64 0,.int .i64 0,.int .i64 0,.int .i64 0,.int .i64 0,.slice none 0 0]))
   case first =>
    cases bU with
    | true =>
     have e0:q=0:=by simpa using HT.out
     subst e0;clear ai HT;go_wp2_with fail;refine(an28_x K.D).mono ?_;rintro e cC ⟨G,n9,E,s9,A9,c9,rfl,bx,⟨hE,aT,ay,af⟩,o,B⟩;have HO:=kD (λ(O:Mch × Int) (hO:dpth xs (G,n9,E) s9=O)=>aD.out O (rvGo_0 bx hO));have cr:=K.gr.size;have cw:=K.r6.lt;obtain⟨L9,aK⟩:∃ q,E.length=q:=⟨_,rfl⟩;have aN:=kD aK;have ao:=kD (And.intro aT ay);rw [aK] at af;have aE:=kD af;have R6:=K.r6.grown B (λ k Y=>by simp at Y;omega);have cn:=kD (hE.weak (S':=λ b=>w.heap.size<b∧b≠g∧b≠g6) (λ b hb=>by omega));have ch:=kD o.src;have aW:=kD (V.out.grown B V.out.size (λ k Y=>by simp at Y;omega));have bF:=kD (ak.out.grown B (λ k Y=>by simp at Y;omega));rw [aK];clear o bx aT ay af aK hE B K aD ak V;go_wp2_with (refine wM 48 0 [.int .i64 G.p,.int .i64 G.c,.int .i64 G.h,.int .i64 G.s,.int .i64 n9,.slice A9 L9 c9] R6 ?_;intro bR aF M be);go_meet;exact⟨G,n9,E,A9,L9,c9,s9,HO,ao,aN,aE,⟨ch.out.grown M (λ k Y=>by simp at Y;omega),aW.out.grown M aW.out.size (λ k Y=>by simp at Y;omega),aF,(cn.out.keep (Still.grown M (λ k Y hs=>by simp at Y;exact hs.2.2 Y.symm))).weak (λ b hb=>⟨hb.1,hb.2.1⟩),by omega⟩,bF.out.grown M (λ k Y=>by simp at Y;omega)⟩
    | false =>
     have e0:¬ q=0:=by simpa using HT.out
     have HO:=kD (λ(O:Mch × Int) (hO:dpth xs (v,N,es) s6=O)=>aD.out O (rvGo_1 e0 hO));have HZ:=kD (show Rz w g A cp xs s6 g6 v N Ae L ce es bg from⟨K.D.src,V.out,K.r6,K.es.evs (λ b hb=>by omega),by omega⟩);have ao:=kD (show Sh es∧es.length<=291 from⟨HS.out.1,by have:=HS.out.2;omega⟩);have aE:=kD K.es.cap;clear e0 ai K aD;go_wp2_with fail;go_meet;exact⟨v,N,es,Ae,L,ce,s6,HO,ao,HL,aE,HZ,ak⟩
   case rest =>
    clear K aD HS HL aC V ak ai HT;obtain⟨G,n9,E,ah,L9,ac,ar,HO,ao,aN,aE,HZ,bD⟩:=hcut;have bv:Gd xs ar:=⟨HZ.out.src.2.1,HZ.out.src.2.2.1,HZ.out.src.2.2.2⟩;obtain⟨a,t1,NA⟩:=bv.nb 2;obtain⟨b,t2,NB⟩:=NA.gd.nb 2;obtain⟨c,t3,NC⟩:=NB.gd.nb 24;have a0:=NA.ge;have a1:=NA.lt (by decide);have b0:=NB.ge;have b1:=NB.lt (by decide);have cX:=NC.ge;have cW:=NC.lt (by decide);have bI:=kD NA;have bH:=kD NB;have bG:=kD NC;have bd:=kD (HO.out _ (dpth_of bI.out.nx bH.out.nx bG.out.nx));have b6:0<=a*b∧a*b<=1:=by
     obtain rfl | rfl:a=0∨a=1:=by omega
     ·simp
     ·simp;omega
    have cJ:=HZ.out.lo;clear NA NB NC bv HO;obtain⟨T,aB⟩:∃ z,a*b=z:=⟨_,rfl⟩;have aZ:Int.tdiv c 23=c / 23:=by rw [Int.tdiv_eq_ediv_of_nonneg (by omega)]
    obtain⟨Q,bz⟩:∃ z,c / 23=z:=⟨_,rfl⟩;have cx:0<=Q∧Q<=1:=by omega
    rw [bz] at aZ bd;rw [aB] at bd b6;have bO:=kD aB;have cg:=kD aZ;clear aB aZ bz;go_upto_region 14 with fail;refine region_rel [some 61,some 62,some 63,some 64,some 65,some 66,some 67,some 68,some 69,some 70,none,some 3] 12 (Pl [some (.agg #[.int .i64 G.p,.int .i64 G.c,.int .i64 G.h,.int .i64 G.s,.int .i64 n9,.slice ah L9 ac]),some (.pointer (some ⟨g,0,none⟩)),some (.int .i64 a),some (.pointer (some ⟨g,0,none⟩)),some (.int .i64 b),some (.int .i64 T),some (.pointer (some ⟨g,0,none⟩)),some (.int .i64 c),some (.int .i64 Q),some (.int .i64 (T+Q)),none,some (.int .i64 (T+Q))]) (λ L f w'=>RvF w g A cp xs [ar,t1,t2,t3] g6 G n9 ah L9 ac E L [2,4,7] (L 10) w') (by kernel_rfl) (by kernel_rfl) (by kernel_rfl) (by kernel_rfl) (by kernel_rfl) (by kernel_rfl) (by first | kernel_rfl | rfl) ?g0_1 ?gst_1 ?gfin_1
    case g0_1=>exact RvF.start HZ.out bD.out rfl (by decide) (by decide)
    case gst_1 =>
     refine rN rfl (λ L f A W m r H U F K J=>?_) ?_
     ·have e5:=U.w 5 (.pointer (some ⟨g6,0,none⟩));refine F.any.elim λ aq l=>?_
      obtain⟨y0,y1,y2,y3,y4,y5⟩:=l.r6.c6;have aG:=l.r6.lt;clear l;have al:IntKind.i64.wrap (T+Q)=T+Q:=IntWalk.i64_in _ (by omega);go_simp;exact pF J (F.skip 0 (by decide))
     refine rN rfl (λ L f A W m r H U F K J=>?_) ?_
     ·have e4:=U.w 4 (.pointer (some ⟨g,0,none⟩));refine F.any.elim λ aq l=>?_
      obtain⟨y0,y1,y2,y3,y4,y5⟩:=l.r6.c6;have aG:=l.r6.lt;clear l;have al:IntKind.i64.wrap (T+Q)=T+Q:=IntWalk.i64_in _ (by omega);go_simp;exact pF J (F.skip 1 (by decide))
     refine rN rfl (λ L f A W m r H U F K J=>?_) ?_
     ·have cV:=U.v 1 62;have l:=F.at_ 0 rfl rfl m pv0;refine(dx_any l.src ((aM.out.below l.bel (Nat.le_refl _)).more (by omega:w.heap.size<=g)) HW.out (Nat.le_refl _)).elim λ w0 o=>?_
      go_simp;refine(nextK o bI.out.nx (by decide)).mono ?_;rintro e w6 ⟨rfl,aa,C,-⟩;have h1:=l.next aa.src C;have h2:=F.call (N:=10) (i:=0) (k:=2) (st:=t1) rfl rfl m pv0 (by decide) h1 C;clear l o aa h1 C F;exact pF J h2
     refine rN rfl (λ L f A W m r H U F K J=>?_) ?_
     ·have e4:=U.w 4 (.pointer (some ⟨g,0,none⟩));refine F.any.elim λ aq l=>?_
      obtain⟨y0,y1,y2,y3,y4,y5⟩:=l.r6.c6;have aG:=l.r6.lt;clear l;have al:IntKind.i64.wrap (T+Q)=T+Q:=IntWalk.i64_in _ (by omega);go_simp;exact pF J (F.skip 3 (by decide))
     refine rN rfl (λ L f A W m r H U F K J=>?_) ?_
     ·have cT:=U.v 3 64;have l:=F.at_ 1 rfl rfl m (pv1 rfl (bK r 2));refine(dx_any l.src ((aM.out.below l.bel (Nat.le_refl _)).more (by omega:w.heap.size<=g)) HW.out (Nat.le_refl _)).elim λ w0 o=>?_
      go_simp;refine(nextK o bH.out.nx (by decide)).mono ?_;rintro e w6 ⟨rfl,aa,C,-⟩;have h1:=l.next aa.src C;have h2:=F.call (N:=10) (i:=1) (k:=4) (st:=t2) rfl rfl m (pv1 rfl (bK r 2)) (by decide) h1 C;clear l o aa h1 C F;exact pF J h2
     refine rN rfl (λ L f A W m r H U F K J=>?_) ?_
     ·have cU:=U.v 2 63;have cS:=U.v 4 65;have hm:=bO.out;have hw:IntKind.i64.wrap T=T:=IntWalk.i64_in _ (by omega);go_simp;exact pF J (F.skip 5 (by decide))
     refine rN rfl (λ L f A W m r H U F K J=>?_) ?_
     ·have e4:=U.w 4 (.pointer (some ⟨g,0,none⟩));refine F.any.elim λ aq l=>?_
      obtain⟨y0,y1,y2,y3,y4,y5⟩:=l.r6.c6;have aG:=l.r6.lt;clear l;have al:IntKind.i64.wrap (T+Q)=T+Q:=IntWalk.i64_in _ (by omega);go_simp;exact pF J (F.skip 6 (by decide))
     refine rN rfl (λ L f A W m r H U F K J=>?_) ?_
     ·have cQ:=U.v 6 67;have l:=F.at_ 2 rfl rfl m (pv2 rfl rfl (bK r 2) (bK r 4));refine(dx_any l.src ((aM.out.below l.bel (Nat.le_refl _)).more (by omega:w.heap.size<=g)) HW.out (Nat.le_refl _)).elim λ w0 o=>?_
      go_simp;refine(nextK o bG.out.nx (by decide)).mono ?_;rintro e w6 ⟨rfl,aa,C,-⟩;have h1:=l.next aa.src C;have h2:=F.call (N:=10) (i:=2) (k:=7) (st:=t3) rfl rfl m (pv2 rfl rfl (bK r 2) (bK r 4)) (by decide) h1 C;clear l o aa h1 C F;exact pF J h2
     refine rN rfl (λ L f A W m r H U F K J=>?_) ?_
     ·have cP:=U.v 7 68;have hm:=cg.out;have hw:IntKind.i64.wrap Q=Q:=IntWalk.i64_in _ (by omega);go_simp;exact pF J (F.skip 8 (by decide))
     refine rN rfl (λ L f A W m r H U F K J=>?_) ?_
     ·have cR:=U.v 5 66;have cO:=U.v 8 69;refine F.any.elim λ aq l=>?_
      clear l;have al:IntKind.i64.wrap (T+Q)=T+Q:=IntWalk.i64_in _ (by omega);go_simp;exact pF J (F.skip 9 (by decide))
     refine rN rfl (λ L f A W m r H U F K J=>?_) ?_
     ·have e2:=U.w 2 (.pointer (some ⟨w.heap.size,0,none⟩));have cb:=U.v 0 61;have rr:=F.r0 m;refine wp_sm 48 _ _ rfl w.heap.size 0 [.int .i64 G.p,.int .i64 G.c,.int .i64 G.h,.int .i64 G.s,.int .i64 n9,.slice ah L9 ac] _ (ev e2) (ev cb) 48 rr (by kernel_rfl) (Nat.le_refl _) rfl ?_;exact J.out undef _ (Pl.any rfl) (F.wrote (row_cells _ _ _ _ rr) (grown_cells _ _ _ _) (by decide))
     refine rN rfl (λ L f A W m r H U F K J=>?_) ?_
     ·have cN:=U.v 9 70;refine F.any.elim λ aq l=>?_
      obtain⟨y0,y1,y2,y3,y4,y5⟩:=l.r6.c6;have aG:=l.r6.lt;clear l;have al:IntKind.i64.wrap (T+Q)=T+Q:=IntWalk.i64_in _ (by omega);go_simp;exact pF J (F.skip 11 (by decide))
     exact RelFrom.nil (by decide)
    intro f W hp F;simp only [Fr,Act.put,sX,Nat.reduceAdd];have l:=F.all_ rfl;have b9:f 11=.int .i64 (T+Q):=hp 11 (by decide) _ rfl;rw [b9];have rr:=F.r1 trivial;obtain⟨z0,z1,z2,z3,z4,z5⟩:=rr.c6;have an:=rr.lt;have aH:=kD (l.ev.weak (S':=λ b=>w.heap.size<=b) (λ b hb=>by omega));have b5:=l.bel;clear F hp l rr HZ bD
    repeat (first | go_values | go_skip | go_step | go_upon)
    refine bodyPost_ret (v:=.tuple #[.agg #[.int .i64 G.p,.int .i64 G.c,.int .i64 G.h,.int .i64 G.s,.int .i64 n9,.slice ah L9 ac],.int .i64 (T+Q)]) (by simp [results,Tryz.results14,go_sem,z0,z1,z2,z3,z4,z5]) rfl ?_;exact⟨G,n9,E,T+Q,ah,ac,by rw [aN.out],bd.out,aH.out,⟨ao.out.1,ao.out.2,by rw [aN.out];exact aE.out⟩,b5⟩
end DwF
namespace HmP
open Go PlP Gm
theorem turn_some {v:Vr} {g:Gm} {ss:List Stp} {g':Gm} (h:(turnP v g ss).1=some g'):g.ph=2∧∃ c,playP v g.b g.x g.y ss=some c:=by
 unfold turnP at h;split at h
 ·cases h
 ·split at h
  ·cases h
  ·rename_i h2
   cases hp:playP v g.b g.x g.y ss with
   | none=>rw [hp] at h;cases h
   | some c=>exact⟨by omega,c,rfl⟩
end HmP
namespace VdP
open Go PlP Gm HmP
theorem follow_lng {v:Vr} (hv:0<=v.p):∀(ds:List Int) (b:Bd) (ss:List Stp) (c:Bd) (ps:List Pl) (k:Nat) (fine:Bool),hasB ps b=true->followP v b ds ss=some c ->
  k+ss.length<=(lngGo v ds ps k fine).2.1∧((lngGo v ds ps k fine).2.1=k+ss.length->hasB (lngGo v ds ps k fine).1 c=true)
 | ds,b,[],c,ps,k,fine,hh,h=>by
  have hc:b=c:=by cases ds <;> simpa [followP] using h
  subst hc;have i:=lng_ge v ds ps k fine;exact⟨i.1,λ e=>by rw [i.2 e];exact hh⟩
 | [],b,s :: ss,c,ps,k,fine,hh,h=>by simp [followP] at h
 | d :: ds,b,s :: ss,c,ps,k,fine,hh,h=>by
  simp only [followP] at h;split at h
  ·rename_i h1
   have g:=legal1_mem hv h1.2;rw [h1.1] at g;have f:hasB (nextP v d ps) (afterP v b s)=true:=nxGo_at g _ _ hh;have l:¬ (nextP v d ps).length=0:=by
    obtain⟨q,a,_⟩:=hasB_iff.1 f;intro e;rw [List.eq_nil_of_length_eq_zero e] at a;simp at a
   simp only [lngGo];rw [if_neg l];have j:=follow_lng hv ds _ ss c (nextP v d ps) (k+1) (fine && decide ((nextP v d ps).length<=3000)) f h;simp only [List.length_cons];exact⟨by omega,λ e=>j.2 (by omega)⟩
  ·cases h
theorem first_mem {v:Vr} {b c:Bd} {ss:List Stp}:∀(os:List (List Int)),firstF v b ss os=some c->∃ o ∈ os,followP v b o ss=some c:=by
 intro os
 induction os with
 | nil=>intro h;simp [firstF] at h
 | cons o os ih =>
  intro h;simp only [firstF] at h
  cases hf:followP v b o ss with
  | some c' =>
   rw [hf] at h;simp only [Option.some.injEq] at h;exact⟨o,List.mem_cons_self ..,by rw [hf,h]⟩
  | none =>
   rw [hf] at h;obtain⟨q,a,d⟩:=ih h;exact⟨q,List.mem_cons_of_mem _ a,d⟩
theorem used_ge {v:Vr} {b:Bd}:∀(os:List (List Int)) (o:List Int),o ∈ os->(lngP v b o).2.1<=usedP v b os:=by
 intro os
 induction os with
 | nil=>intro o h;simp at h
 | cons q os ih =>
  intro o h;simp only [usedP];rcases List.mem_cons.1 h with rfl | h
  ·omega
  ·have:=ih o h;omega
theorem addAll_keep {b:Bd}:∀(ps out:List Pl),hasB out b=true->hasB (addAll out ps) b=true:=by
 intro ps
 induction ps with
 | nil=>intro out h;exact h
 | cons p ps ih=>intro out h;exact ih _ (addOne_hasB h)
theorem addAll_has {b:Bd}:∀(ps out:List Pl),hasB ps b=true->hasB (addAll out ps) b=true:=by
 intro ps
 induction ps with
 | nil=>intro out h;simp [hasB] at h
 | cons p ps ih =>
  intro out h;obtain⟨q,a,e⟩:=hasB_iff.1 h;rcases List.mem_cons.1 a with rfl | a
  ·exact addAll_keep ps _ (by rw [<-e];exact addOne_self out q)
  ·exact ih _ (hasB_iff.2 ⟨q,a,e⟩)
theorem play_all {v:Vr} {b c:Bd} {x y:Int} {ss:List Stp} (hv:0<=v.p) (h:playP v b x y ss=some c):hasB (allP v b x y).1 c=true:=by
 unfold playP at h;split at h
 ·rename_i hlen
  obtain⟨o,d,n⟩:=first_mem _ h;have a:o ∈ ordP x y:=by
   unfold ordS at d;split at d
   ·exact List.mem_of_mem_take d
   ·exact d
  have m:=follow_lng hv o b ss c [([],b)] 0 true (by simp [hasB]) n;have z:=used_ge (ordP x y) o a (v:=v) (b:=b);have f:(lngP v b o).2.1=usedP v b (ordP x y):=by
   have l:0+ss.length<=(lngP v b o).2.1:=m.1;omega
  have k:hasB (lngP v b o).1 c=true:=m.2 (by show (lngP v b o).2.1=_;omega);by_cases hxy:x=y
  ·have g:ordP x y=[[x,x,x,x]]:=by unfold ordP;rw [if_pos hxy]
   unfold allP;rw [g] at a f ⊢;obtain rfl:=List.mem_singleton.1 a;simp only [allGo];rw [if_neg (λ q=>q.elim (λ q=>q f) (λ q=>absurd q.2.1 (by decide)))];exact addAll_has _ _ k
  ·have g:ordP x y=[[x,y],[y,x]]:=by unfold ordP;rw [if_neg hxy]
   have r:ordS v b x y=if usedP v b [[x,y],[y,x]]=1∧0<(legalP v b x).length then [[x,y]] else [[x,y],[y,x]]:=by
    unfold ordS;rw [g];simp
   unfold allP;rw [r] at d;rw [g] at a f ⊢;obtain⟨u,i⟩:∃ u,usedP v b [[x,y],[y,x]]=u:=⟨_,rfl⟩;rw [i] at f d ⊢;simp only [allGo];rcases List.mem_cons.1 a with rfl | a
   ·have w:(if (lngP v b [x,y]).2.1≠u∨(u=1∧(0:Nat)=1∧0<([]:List Pl).length) then [] else addAll [] (lngP v b [x,y]).1)=addAll [] (lngP v b [x,y]).1:=if_neg (λ q=>q.elim (λ q=>q f) (λ q=>absurd q.2.1 (by decide)));have l:hasB (addAll [] (lngP v b [x,y]).1) c=true:=addAll_has _ _ k;rw [w];split
    ·exact l
    ·exact addAll_keep _ _ l
   ·obtain rfl:=List.mem_singleton.1 a;have j:¬ (u=1∧0<(legalP v b x).length):=by
     intro q;rw [if_pos q] at d;have:=List.mem_singleton.1 d;simp only [List.cons.injEq] at this;exact hxy this.1.symm
    rw [if_neg]
    ·exact addAll_has _ _ k
    ·intro q;rcases q with q | ⟨q1,_,q3⟩
     ·exact q f
     ·split at q3
      ·simp at q3
      ·rename_i h4
       have B:(lngP v b [x,y]).2.1=u:=Decidable.byContradiction λ e=>h4 (.inl e)
       have t:=(lng_rows v b [x,y]).1;have A:(lngP v b [x,y]).2.1=(rowsP v b [x,y]).1.length - 1:=by rw [t]
       have s:=rows_one hv b x [y];refine j ⟨q1,?_⟩;rcases Nat.eq_zero_or_pos (legalP v b x).length with h9 | h9
       ·have:=s.2 h9;omega
       ·exact h9
 ·cases h
theorem turn_facts {v:Vr} {n:Int} {x y:Ms} {e:Ev} (hg:gmB v x.g=true) (hk:e.k=2) (h:nextS v n x e=some y):rollB v e.a e.b=true∧∃ c,playP v x.g.b e.a e.b e.ss=some c∧Ok v c:=by
 have f:=gm_parts hg;unfold nextS at h;split at h
 ·cases h
 ·cases hga:gameP v x.g e with
  | none=>rw [hga] at h;cases h
  | some g' =>
   unfold gameP at hga;rw [if_neg (by omega),if_neg (by omega)] at hga;split at hga
   ·split at hga
    ·rename_i hc
     obtain⟨_,c,d⟩:=turn_some hga;exact⟨(rollC_zero hc).2.2,c,d,play_ok (b:=(rollG x.g e.a e.b).b) f.1 d⟩
    ·cases hga
   ·split at hga
    ·rename_i hph
     obtain⟨_,c,d⟩:=turn_some hga;obtain⟨l,j,i⟩:=f.2.2.2.2.1 hph.1;rw [hph.2.1,hph.2.2] at d;have o:=hph.2.1;have m:=hph.2.2;refine⟨?_,c,d,play_ok f.1 d⟩;unfold rollB;simp only [Bool.and_eq_true,decide_eq_true_eq];exact⟨by omega,by omega⟩
    ·cases hga
end VdP
end Go.Proofs.YtmncnhbjifeoeaaGreat
