/- Parts of the proof of FnVerdicts. Conditions: each theorem's own. -/
import Derived.Test.YtmncnhbjifeoeaaGreatT42
set_option linter.unusedVariables false
set_option linter.unusedSimpArgs false
set_option maxHeartbeats 8000000
set_option maxRecDepth 100000
namespace Go.Proofs.YtmncnhbjifeoeaaGreat
namespace VeL
open Go Go.ChangeShapes Go.WideShapes Go.ChangeAt Go.RowKit Base Ints Own RelG PlP Gm RegInv RegF RegG Bd1 Bd5 Bd15 Bd29 Bd32 DwP DwE DwF VdP VeA
theorem rv_lenV (v:Vr) (n:Int) (es:List Ev) (d:Int):(rvR v n es d).1.length<=es.length:=by
 unfold rvR;split
 ·exact vdGo_len _ _ _ _ _ _
 ·exact Nat.zero_le _
theorem bskip {p:Prop} (h:p) (k:Nat):p:=h
theorem rdf_take {α:Type} {w:World} {S:Nat->Prop} {sz:Nat} {en:α->List Value} {A:Option Addr} {xs:List α} (h:RdF w S sz en A xs) (k:Nat):RdF w S sz en A (xs.take k):=by
 refine⟨by rw [List.length_take];have:=h.1;omega,λ f=>?_⟩;rw [List.length_take] at f;obtain⟨b,c,e,m,l,g⟩:=h.2 (by omega);refine⟨b,c,e,m,l,λ i x a j u d=>g i x ?_ j u d⟩;rw [List.getElem?_take] at a;split at a
 ·exact a
 ·cases a
theorem evl_take {w:World} {S:Nat->Prop} {A:Option Addr} {es:List Ev} (h:EvL w S A es) (k:Nat):EvL w S A (es.take k):=by
 obtain⟨a,c,b⟩:=h;exact⟨a.take k,rdf_take c k,b.take k⟩
theorem own_rdf {α:Type} {w:World} {S:Nat->Prop} {e:TypeId} {sz lo hi n c:Nat} {en:α->List Value} {A:Option Addr} {xs:List α} (hen:∀ x,(en x).length=sz) (h:OwnS w lo hi e sz en (.slice A n c) xs) (hh:hi<=w.heap.size) (hS:∀ b,lo<=b->b<hi->S b):RdF w S sz en A xs:=by
 obtain⟨g,f,a,d,-⟩:=(OwnV.of h hh hS).sl hen;simp only [Value.slice.injEq] at a;rw [a.1];exact d
theorem neq_V (p q r s:Int) (w:World):(binOp .neq 55 (.agg #[.int .i64 p,.int .i64 q,.int .i64 r,.int .i64 s]) (.agg #[.int .i64 p,.int .i64 q,.int .i64 r,.int .i64 s])).run Tryz.prog w=.ok (.bool false) w:=by
 go_simp
structure Vs (w:World) (g3:Nat) (v:Vr) (n:Int) (A5 A7:Option Addr) (Ls:List V4) (es:List Ev) (Ae:Option Addr) (M ce:Nat) (wr:World):Prop where
 bel:Below w.heap.size w wr
 r3:RowB wr g3 48 [.int .i64 v.p,.int .i64 v.c,.int .i64 v.h,.int .i64 v.s,.int .i64 n,.slice Ae M ce]
 ev:EvL wr (λ b=>g3<b) Ae es
 l5:RdF wr (λ b=>g3<b) 4 enI4 A5 Ls
 l7:RdF wr (λ b=>g3<b) 4 enI4 A7 Ls
 lo:w.heap.size<=g3
section
variable {w wr w':World} {g3:Nat} {v:Vr} {n:Int} {A5 A7:Option Addr} {Ls:List V4} {es:List Ev} {Ae:Option Addr} {M ce:Nat}
theorem Vs.below (K:Vs w g3 v n A5 A7 Ls es Ae M ce wr) (hb:Below wr.heap.size wr w'):Vs w g3 v n A5 A7 Ls es Ae M ce w' :=
 ⟨K.bel.trans (hb.mono K.bel.size),K.r3.below hb K.r3.lt,K.ev.keep (.below hb),K.l5.keep (.below hb),K.l7.keep (.below hb),K.lo⟩
theorem Vs.put {Ae':Option Addr} {ce':Nat} (K:Vs w g3 v n A5 A7 Ls es Ae M ce wr) (h:RowB w' g3 48 [.int .i64 v.p,.int .i64 v.c,.int .i64 v.h,.int .i64 v.s,.int .i64 n,.slice Ae' M ce']) (hg:wr.grownBy w' (some g3)) (he:EvL wr (λ b=>g3<b) Ae' es):Vs w g3 v n A5 A7 Ls es Ae' M ce' w':=by
 have l:=K.lo;have a:Still (λ b=>g3<b) wr w':=Still.grown hg (λ k d e=>by simp at d;omega);exact⟨K.bel.grown hg K.bel.size (λ k d=>by simp at d;omega),h,he.keep a,K.l5.keep a,K.l7.keep a,K.lo⟩
end
structure Ob1 (we:World) (pj pN:Prop) (vj:Value) (t:TypeId) (cs0 cs1:List Value) (w:World):Prop where
 bel:Below we.heap.size we w
 bx:pj->¬ pN->∃ q,vj=.pointer (some ⟨q,0,none⟩)∧we.heap.size<=q∧RowB w q t cs0
 fin:pN->∃ q,vj=.pointer (some ⟨q,0,none⟩)∧we.heap.size<=q∧RowB w q t cs1
section
variable {we w w':World} {L:Nat->Prop} {N j:Nat} {vals:Nat->Value} {t:TypeId} {cs0 cs1:List Value}
theorem Ob1.skip (F:Ob1 we (L j) (L N) (vals j) t cs0 cs1 w) (k:Nat) (u:Value) (h:(j != k && N != k)=true:=by decide):Ob1 we (j=k∨L j) (N=k∨L N) (upd vals k u j) t cs0 cs1 w:=by
 simp only [Bool.and_eq_true,bne_iff_ne,ne_eq] at h;rw [or_ne h.1,or_ne h.2,upd_ne h.1];exact F
theorem Ob1.box (F:Ob1 we (L j) (L N) (vals j) t cs0 cs1 w) (hN:¬ L N) (h:(N != j)=true):Ob1 we (j=j∨L j) (N=j∨L N) (upd vals j (.pointer (some ⟨w.heap.size,0,none⟩)) j) t cs0 cs1 (w.alloc (.cells ⟨cs0⟩ t)):=by
 simp only [bne_iff_ne,ne_eq] at h;rw [or_ne h,upd_same];exact⟨F.bel.alloc F.bel.size _,λ _ _=>⟨_,rfl,F.bel.size,RowB.new _ _ _⟩,λ a=>absurd a hN⟩
theorem Ob1.wrote {q:Nat} {u:Value} (F:Ob1 we (L j) (L N) (vals j) t cs0 cs1 w) (hv:vals j=.pointer (some ⟨q,0,none⟩)) (hq:we.heap.size<=q) (hr:RowB w' q t cs1) (hg:w.grownBy w' (some q)) (h:(j != N)=true):Ob1 we (j=N∨L j) (N=N∨L N) (upd vals N u j) t cs0 cs1 w':=by
 simp only [bne_iff_ne,ne_eq] at h;rw [upd_ne h];exact⟨F.bel.grown hg F.bel.size (λ k b=>by simp at b;omega),λ _ a=>absurd (.inl rfl) a,λ _=>⟨q,hv,hq,hr⟩⟩
end
structure LoF (we:World) (b:Bd) (p5:Prop) (v5:Value) (w:World):Prop where
 bel:Below we.heap.size we w
 f5:p5->∃ A1 c1 A2 c2,v5=.agg #[.slice A1 b.1.length c1,.slice A2 b.2.length c2]∧BdR w All (.slice A1 b.1.length c1) (.slice A2 b.2.length c2) b
section
variable {we w w':World} {b:Bd} {L:Nat->Prop} {vals:Nat->Value}
theorem LoF.skip (F:LoF we b (L 5) (vals 5) w) (k:Nat) (u:Value) (h:5≠k:=by decide):LoF we b (5=k∨L 5) (upd vals k u 5) w:=by
 rw [or_ne h,upd_ne h];exact F
theorem LoF.below {p5:Prop} {v5:Value} (F:LoF we b p5 v5 w) (hb:Below w.heap.size w w'):LoF we b p5 v5 w' :=
 ⟨F.bel.trans (hb.mono F.bel.size),λ h=>by obtain⟨A1,c1,A2,c2,e,r⟩:=F.f5 h;exact⟨A1,c1,A2,c2,e,r.below hb⟩⟩
end
theorem bd_parts {w:World} {S:Nat->Prop} {X1 X2:Option Addr} {m1 m2 t1 t2:Nat} {b:Bd} (h:BdR w S (.slice X1 m1 t1) (.slice X2 m2 t2) b):RdS w w.heap.size 1 enI X1 b.1∧RdS w w.heap.size 1 enI X2 b.2∧(X1=none->t1=0)∧(X2=none->t2=0):=by
 obtain⟨⟨l,j,c,e,g⟩,⟨k,i,a,d,f⟩⟩:=h;simp only [Value.slice.injEq] at c a;obtain⟨rfl,-,rfl⟩:=c;obtain⟨rfl,-,rfl⟩:=a;exact⟨e.rd,d.rd,g,f⟩
theorem loss_use (v:Vr) (b c:Bd) (x y d L:Int) (hl:lossR v b x y c d=(L,0)) (n3 n4:Nat) (h3:c.1.length=n3) (h4:c.2.length=n4) (w9:World) (X1 X2:Option Addr) (t1 t2:Nat) (E1 E2:Option Addr) (e1 e2:Nat) (hx:BdR w9 All (.slice X1 b.1.length t1) (.slice X2 b.2.length t2) b) (hc:BdR w9 All (.slice E1 n3 e1) (.slice E2 n4 e2) c) :
  Calls Tryz.prog 12 #[.agg #[.int .i64 v.p,.int .i64 v.c,.int .i64 v.h,.int .i64 v.s],.agg #[.slice X1 b.1.length t1,.slice X2 b.2.length t2],.agg #[.int .i64 x,.int .i64 y],.agg #[.slice E1 n3 e1,.slice E2 n4 e2],.int .i64 d] w9 λ e w'=>e=.returned (.tuple #[.int .i64 L,.int .i64 0])∧Below w9.heap.size w9 w':=by
 subst h3 h4;obtain⟨k,j,i,g⟩:=bd_parts hx;obtain⟨f,a,-,-⟩:=bd_parts hc;have:=lossX_i v b X1 X2 t1 t2 x y c E1 E2 e1 e2 d w9 k j i g f a;rw [hl] at this;exact this
theorem luck_use (v:Vr) (b:Bd) (x y d L:Int) (hl:luckR v b x y d=(L,0)) (w9:World) (X1 X2:Option Addr) (t1 t2:Nat) (hx:BdR w9 All (.slice X1 b.1.length t1) (.slice X2 b.2.length t2) b) :
  Calls Tryz.prog 21 #[.agg #[.int .i64 v.p,.int .i64 v.c,.int .i64 v.h,.int .i64 v.s],.agg #[.slice X1 b.1.length t1,.slice X2 b.2.length t2],.agg #[.int .i64 x,.int .i64 y],.int .i64 d] w9 λ e w'=>e=.returned (.tuple #[.int .i64 L,.int .i64 0])∧Below w9.heap.size w9 w':=by
 obtain⟨i,g,f,a⟩:=bd_parts hx;have:=luckX_i v b X1 X2 t1 t2 x y d w9 i g f a;rw [hl] at this;exact this
theorem walkV (A:Option Addr) (cp:Nat) (xs:List Int) (w:World) (hr:RdS w w.heap.size 1 enB A xs) (hw:∀ x ∈ xs,(Lit.int .u8 x).wf=true) :
  Calls Tryz.prog 4 #[.slice A xs.length cp] w λ e w'=>e=.returned (.bool true)∧Below w.heap.size w w':=by
 obtain⟨RV,bL⟩:∃ R,rev29 xs=R:=⟨_,rfl⟩;obtain⟨⟨v,n,es⟩,d⟩:=RV;have CD:∀ z,Below w.heap.size w z->Calls Tryz.prog 14 #[.slice A xs.length cp] z λ e w'=>∃(Ae:Option Addr) (ce:Nat),e=.returned (.tuple #[.agg #[.int .i64 v.p,.int .i64 v.c,.int .i64 v.h,.int .i64 v.s,.int .i64 n,.slice Ae es.length ce],.int .i64 d])∧EvL w' (λ b=>z.heap.size<=b) Ae es∧es.length<=ce∧Below z.heap.size z w':=by
  intro z h9;refine(rev29_x ((hr.below h9 (Nat.le_refl _)).more h9.size) hw).mono ?_;rintro e w' ⟨v',n',dj,d',Ae,ce,rfl,aZ,ae,hs,D⟩;rw [bL] at aZ;simp only [Prod.mk.injEq] at aZ;obtain⟨⟨rfl,rfl,rfl⟩,rfl⟩:=aZ;exact⟨Ae,ce,rfl,ae,hs.2.2,D⟩
 have aI:=rv_lenV v n es d;obtain⟨R,hR⟩:∃ R,rvR v n es d=R:=⟨_,rfl⟩;rw [hR] at aI;have CI:=kD (λ(A':Option Addr) (c':Nat) (z:World) (h9:EvL z All A' es)=>rv_i v n es A' c' d z h9 R hR);have CS:=kD (λ(A':Option Addr) (c':Nat) (z:World) (h9:EvL z All A' es)=>rv_s v n es A' c' d z h9 R hR);obtain⟨Ls,Z⟩:=R;simp only at CI CS aI;have HT:=kD (λ(h0:Z=0) (V:V4) (hV:V ∈ Ls)=>vd_turn (by rw [hR,h0]) hV);obtain⟨N,hN⟩:∃ N,Ls.length=N:=⟨_,rfl⟩;have HL:=kD hN;obtain⟨M,hM⟩:∃ M,es.length=M:=⟨_,rfl⟩;have HM:=kD hM;rw [hM] at CD CI CS aI;rw [hN] at aI;have br:=hr.1;have bq:=hr.len;obtain⟨NX,bM⟩:∃ q,xs.length=q:=⟨_,rfl⟩;rw [bM] at CD br bq ⊢;have CD:=kD CD;obtain⟨bg,bG⟩:∃ b,decide ((4096:Int)<(NX:Int))=b:=⟨_,rfl⟩;have CB:=kD (bigF NX cp A bg bG w br);clear hr hw bL hR hN hM bM bG;go_enter Tryz.func4,Tryz.ntmps4;go_wp2_with fail;refine CB.out.mono ?_;rintro e w1 ⟨rfl,rfl⟩;clear CB
 cases bg with
 | true =>
  go_wp2_with fail;go_ret;exact⟨rfl,Below.refl _ _⟩
 | false =>
 go_wp2_with fail;refine(CD.out w (Below.refl _ _)).mono ?_;rintro e w1 ⟨Ae,ce,rfl,ae,ak,bc⟩;have HE:=kD ae;have aY:=bc.size;clear ae ak;go_upto_region 4 with fail;obtain⟨g3,az⟩:∃ q,w1.heap.size=q:=⟨_,rfl⟩;refine wp_gen (λ W'=>Below w1.heap.size w1 W'∧RowB W' g3 48 [.int .i64 v.p,.int .i64 v.c,.int .i64 v.h,.int .i64 v.s,.int .i64 n,.slice Ae M ce]) ⟨(Below.refl _ _).alloc (Nat.le_refl _) _,by rw [<-az];exact RowB.new _ _ _⟩ ?_
 try simp only [az]
 rintro w2 ⟨aH,R3⟩;rw [<-az] at aH;have bO:EvL w2 All Ae es:=(HE.out.keep (.below aH)).weak (λ _ _=>trivial);have HB:=kD (bc.trans (aH.mono aY));rw [az] at aY;clear bc aH az HE;obtain⟨y0,y1,y2,y3,y4,y5⟩:=R3.c6;have H:=R3.lt;go_wp2_with fail;refine(CI.out Ae ce w2 bO).mono ?_;rintro e w3 ⟨uo,rfl,a1,D⟩;obtain⟨A5,c5,bk,-⟩:=a1.form enI4_len';rw [HL.out] at bk;subst bk;have H5:=kD (own_rdf (S:=λ b=>g3<b) enI4_len' a1 (Nat.le_refl _) (λ b h1 h2=>by omega));have HB:=kD (HB.out.trans (D.mono HB.out.size));have bi:=kD (R3.below D R3.lt);clear CI a1 D bO R3 y0 y1 y2 y3 y4 y5 H;go_wp2_with fail;refine(CD.out w3 HB.out).mono ?_;rintro e w4 ⟨aM,aL,rfl,ae,ak,D⟩;have aN:=bi.out.lt;have HE:=kD (ae.weak (S':=λ b=>g3<b) (λ b h=>by omega));have H5:=kD (H5.out.keep (.below D));have HB:=kD (HB.out.trans (D.mono HB.out.size));have R3:=bi.out.below D aN;clear ae D bi aN;go_upto_region 6 with (first | (refine wM 48 0 [.int .i64 v.p,.int .i64 v.c,.int .i64 v.h,.int .i64 v.s,.int .i64 n,.slice aM M aL] R3 ?_;intro w5 s5 ag z5));have bh:=kD (show Still (λ b=>g3<b) w4 w5 from Still.grown ag (λ k hk hs=>by simp at hk;omega));have H5:=kD (H5.out.keep bh.out);have HE:=kD (HE.out.keep bh.out);have HB:=kD (HB.out.grown ag HB.out.size (λ k hk=>by simp at hk;omega));clear R3 ag z5 bh;have R3:=s5;clear s5;obtain⟨y0,y1,y2,y3,y4,y5⟩:=R3.c6;have H:=R3.lt;go_wp2_with fail;refine(CS.out aM aL w5 (HE.out.weak (λ _ _=>trivial))).mono ?_;rintro e w6 ⟨uo,rfl,a0,D⟩;obtain⟨A7,c7,bj,-⟩:=a0.form enI4_len';rw [HL.out] at bj;subst bj;have Q:=kD (show Vs w g3 v n A5 A7 Ls es aM M aL w6 from⟨HB.out.trans (D.mono HB.out.size),R3.below D R3.lt,HE.out.keep (.below D),H5.out.keep (.below D),own_rdf enI4_len' a0 (Nat.le_refl _) (λ b h1 h2=>by omega),aY⟩);clear CS a0 D R3 y0 y1 y2 y3 y4 y5 H HB HE H5;have nz:(Z != Z)=false:=by simp
 have nN:((N:Int) != (N:Int))=false:=by simp
 by_cases hZ:Z=0
 rotate_left
 ·have cl:(Z != 0)=true:=by simp [hZ]
  have a9:=Q.out.bel;clear hZ Q;go_wp2_with fail;go_ret;exact⟨rfl,a9⟩
 have cl:(Z != 0)=false:=by simp [hZ]
 have HT:=kD (λ V hV=>HT.out hZ V hV);clear hZ;go_wp2_with fail;go_loopw [4,9,10,11,12,13,14,15,16,17,18,19,20,21] (λ s4 s9 _ _ _ _ _ _ _ _ _ _ _ _ wr=>∃(i:Nat) (Ae:Option Addr) (ce:Nat),s4=.int .i64 d∧s9=.int .i64 (i:Int)∧i<=N∧M<=ce∧Hid (Vs w g3 v n A5 A7 Ls es Ae M ce wr)) (λ _ s9 _ _ _ _ _ _ _ _ _ _ _ _ _=>N - (intOf s9).toNat)
 case atStart=>exact⟨0,aM,aL,by first | rfl | trivial,by first | rfl | trivial,Nat.zero_le _,ak,Q⟩
 case round =>
  clear Q ak;obtain⟨i,Ae,ce,rfl,rfl,hi,ak,Q⟩:=hrel;have K:=Q.out;by_cases hlt:i<N
  ·obtain⟨b5,o5,V,rfl,cv,cr,bd,aB⟩:=K.l5.at_ (i:=i) (by rw [HL.out];exact hlt);obtain⟨b7,o7,V7,rfl,ct,ac,bH,aA⟩:=K.l7.at_ (i:=i) (by rw [HL.out];exact hlt);obtain rfl:=Option.some.inj (bd.symm.trans bH);obtain⟨j,e,y,c,a7,bC,bs,dh,bl,bm,bn,bJ,bI,a6,a5⟩:=HT.out V (List.mem_of_getElem? bd);obtain⟨P1,P2,P3,P4⟩:=V;simp only at bJ bI a6 a5;subst bJ;subst bI;have x0:wr.cell? ⟨b5,o5+i*4,none⟩=some (.int .i64 (j:Int)):=aB 0 _ rfl;have x1:wr.cell? ⟨b5,o5+i*4+1,none⟩=some (.int .i64 y.g.pl):=aB 1 _ rfl;have x2:wr.cell? ⟨b5,o5+i*4+2,none⟩=some (.int .i64 P3):=aB 2 _ rfl;have x3:wr.cell? ⟨b5,o5+i*4+3,none⟩=some (.int .i64 P4):=aB 3 _ rfl;have ar:=kD (λ(z:World) (h9:Below wr.heap.size wr z)=>(⟨(h9.cell (p:=⟨b7,o7+i*4,none⟩) ac).trans (aA 0 _ rfl),(h9.cell (p:=⟨b7,o7+i*4+1,none⟩) ac).trans (aA 1 _ rfl),(h9.cell (p:=⟨b7,o7+i*4+2,none⟩) ac).trans (aA 2 _ rfl),(h9.cell (p:=⟨b7,o7+i*4+3,none⟩) ac).trans (aA 3 _ rfl)⟩:z.cell? ⟨b7,o7+i*4,none⟩=some (.int .i64 (j:Int))∧z.cell? ⟨b7,o7+i*4+1,none⟩=some (.int .i64 y.g.pl)∧z.cell? ⟨b7,o7+i*4+2,none⟩=some (.int .i64 P3)∧z.cell? ⟨b7,o7+i*4+3,none⟩=some (.int .i64 P4)));have D:=(gm_parts bs.gm).1;have bA:j<M:=by rw [<-HM.out];exact(List.getElem?_eq_some_iff.1 a7).1
   have av:=kD ac;have b9:=kD a6;have b8:=kD a5;have aq:=kD D;have cj:=kD a7;have ci:=kD bC;have b3:=kD bm;have b2:=kD bl;have cD:=kD bn;clear aB aA bd bH cv ct a6 a5 a7 bC bm bl bn D K bs;go_upto_region 15 with fail;obtain⟨an,aj⟩:∃ q,wr.heap.size=q:=⟨_,rfl⟩;refine wp_gen (λ W'=>Below wr.heap.size wr W'∧RowB W' an 55 [.int .i64 (j:Int),.int .i64 y.g.pl,.int .i64 P3,.int .i64 P4]) ⟨(Below.refl _ _).alloc (Nat.le_refl _) _,by rw [<-aj];exact RowB.new _ _ _⟩ ?_
   try simp only [aj]
   rintro wa ⟨aG,aa⟩;rw [<-aj] at aG;have cn:g3<an:=by rw [<-aj];exact Q.out.r3.lt
   have ch:=kD (Q.out.below aG);have O:=kD aG;have f:=kD aa;clear aG aj aa x0 x1 x2 x3 cr Q ac;refine region_rel [some 68,some 69,some 70,some 71,some 72,some 73] 6 (Pl [some (.agg #[.int .i64 (j:Int),.int .i64 y.g.pl,.int .i64 P3,.int .i64 P4]),some (.slice (some ⟨b7,o7,none⟩) N c7),some (.int .i64 (i:Int)),some (.pointer (some ⟨b7,o7+i*4,none⟩)),some (.agg #[.int .i64 (j:Int),.int .i64 y.g.pl,.int .i64 P3,.int .i64 P4]),some (.bool false)]) (λ L a w'=>Below wa.heap.size wa w') (by kernel_rfl) (by kernel_rfl) (by kernel_rfl) (by kernel_rfl) (by kernel_rfl) (by kernel_rfl) (by first | kernel_rfl | rfl) ?g0_1 ?gst_1 ?gfin_1
   case g0_1=>exact(Below.refl _ _).drew
   case gst_1 =>
    refine rN rfl (λ L a A z o l r U F K t=>?_) ?_
    ·have cA:=U.w 10 (.pointer (some ⟨an,0,none⟩));obtain⟨k0,k1,k2,k3⟩:=(f.out.below F f.out.lt).c4;have X:=(f.out.below F f.out.lt).lt;obtain⟨c0,c1,c2,c3⟩:=ar.out z (O.out.trans (F.mono O.out.size));have ac:=Nat.lt_of_lt_of_le av.out (O.out.trans (F.mono O.out.size)).size;have ay:(i:Int)<(N:Int):=by omega
     have qE:∀ w:World,(binOp .neq 55 (.agg #[.int .i64 (j:Int),.int .i64 y.g.pl,.int .i64 P3,.int .i64 P4]) (.agg #[.int .i64 (j:Int),.int .i64 y.g.pl,.int .i64 P3,.int .i64 P4])).run Tryz.prog w=.ok (.bool false) w:=λ w=>neq_V _ _ _ _ w
     skip
     go_simp;exact pF t (bskip F 0)
    refine rN rfl (λ L a A z o l r U F K t=>?_) ?_
    ·have e7:=U.w 7 (.slice (some ⟨b7,o7,none⟩) N c7);have B:=ar.out z (O.out.trans (F.mono O.out.size));have ac:=Nat.lt_of_lt_of_le av.out (O.out.trans (F.mono O.out.size)).size;have ay:(i:Int)<(N:Int):=by omega
     have qE:∀ w:World,(binOp .neq 55 (.agg #[.int .i64 (j:Int),.int .i64 y.g.pl,.int .i64 P3,.int .i64 P4]) (.agg #[.int .i64 (j:Int),.int .i64 y.g.pl,.int .i64 P3,.int .i64 P4])).run Tryz.prog w=.ok (.bool false) w:=λ w=>neq_V _ _ _ _ w
     clear B;go_simp;exact pF t (bskip F 1)
    refine rN rfl (λ L a A z o l r U F K t=>?_) ?_
    ·have e9:=U.w 9 (.int .i64 (i:Int));have B:=ar.out z (O.out.trans (F.mono O.out.size));have ac:=Nat.lt_of_lt_of_le av.out (O.out.trans (F.mono O.out.size)).size;have ay:(i:Int)<(N:Int):=by omega
     have qE:∀ w:World,(binOp .neq 55 (.agg #[.int .i64 (j:Int),.int .i64 y.g.pl,.int .i64 P3,.int .i64 P4]) (.agg #[.int .i64 (j:Int),.int .i64 y.g.pl,.int .i64 P3,.int .i64 P4])).run Tryz.prog w=.ok (.bool false) w:=λ w=>neq_V _ _ _ _ w
     clear B;go_simp;exact pF t (bskip F 2)
    refine rN rfl (λ L a A z o l r U F K t=>?_) ?_
    ·have dy:=U.v 1 69;have dx:=U.v 2 70;have B:=ar.out z (O.out.trans (F.mono O.out.size));have ac:=Nat.lt_of_lt_of_le av.out (O.out.trans (F.mono O.out.size)).size;have ay:(i:Int)<(N:Int):=by omega
     have qE:∀ w:World,(binOp .neq 55 (.agg #[.int .i64 (j:Int),.int .i64 y.g.pl,.int .i64 P3,.int .i64 P4]) (.agg #[.int .i64 (j:Int),.int .i64 y.g.pl,.int .i64 P3,.int .i64 P4])).run Tryz.prog w=.ok (.bool false) w:=λ w=>neq_V _ _ _ _ w
     clear B;go_simp;exact pF t (bskip F 3)
    refine rN rfl (λ L a A z o l r U F K t=>?_) ?_
    ·have dw:=U.v 3 71;obtain⟨k0,k1,k2,k3⟩:=(f.out.below F f.out.lt).c4;have X:=(f.out.below F f.out.lt).lt;obtain⟨c0,c1,c2,c3⟩:=ar.out z (O.out.trans (F.mono O.out.size));have ac:=Nat.lt_of_lt_of_le av.out (O.out.trans (F.mono O.out.size)).size;have ay:(i:Int)<(N:Int):=by omega
     have qE:∀ w:World,(binOp .neq 55 (.agg #[.int .i64 (j:Int),.int .i64 y.g.pl,.int .i64 P3,.int .i64 P4]) (.agg #[.int .i64 (j:Int),.int .i64 y.g.pl,.int .i64 P3,.int .i64 P4])).run Tryz.prog w=.ok (.bool false) w:=λ w=>neq_V _ _ _ _ w
     skip
     go_simp;exact pF t (bskip F 4)
    refine rN rfl (λ L a A z o l r U F K t=>?_) ?_
    ·have dz:=U.v 0 68;have dv:=U.v 4 72;have B:=ar.out z (O.out.trans (F.mono O.out.size));have ac:=Nat.lt_of_lt_of_le av.out (O.out.trans (F.mono O.out.size)).size;have ay:(i:Int)<(N:Int):=by omega
     have qE:∀ w:World,(binOp .neq 55 (.agg #[.int .i64 (j:Int),.int .i64 y.g.pl,.int .i64 P3,.int .i64 P4]) (.agg #[.int .i64 (j:Int),.int .i64 y.g.pl,.int .i64 P3,.int .i64 P4])).run Tryz.prog w=.ok (.bool false) w:=λ w=>neq_V _ _ _ _ w
     clear B;go_simp;exact pF t (bskip F 5)
    exact RelFrom.nil (by decide)
   intro a wb hp F;simp only [Fr,Act.put,sX,Nat.reduceAdd];have bP:a 5=.bool false:=hp 5 (by decide) _ rfl;rw [bP];have Y:=kD (ch.out.below F);have f:=kD (f.out.below F f.out.lt);clear F hp bP ch O ar av;obtain⟨ba,oa,e2,cG,cB,rfl,-,-⟩:=Y.out.ev.at_ (i:=j) (by rw [HM.out];exact bA);clear e2 cG cB;have dg:(j:Int)<=(ce:Int):=by omega
   go_upto_region 17 with fail;refine region_rel [some 74,some 75,some 76,some 77,some 78,some 79,some 80,some 81,some 82,some 83,some 11,none] 12 (Pl [some (.pointer (some ⟨g3,0,none⟩)),some (.agg #[.int .i64 v.p,.int .i64 v.c,.int .i64 v.h,.int .i64 v.s]),some (.pointer (some ⟨g3,4,none⟩)),some (.int .i64 n),some (.pointer (some ⟨g3,5,none⟩)),some (.slice (some ⟨ba,oa,none⟩) M ce),some (.pointer (some ⟨an,0,none⟩)),some (.int .i64 (j:Int)),some (.slice (some ⟨ba,oa,none⟩) j ce),some (.agg #[.int .i64 v.p,.int .i64 v.c,.int .i64 v.h,.int .i64 v.s,.int .i64 n,.slice (some ⟨ba,oa,none⟩) j ce]),none,none]) (λ L a w'=>Ob1 wb (L 10) (L 11) (a 10) 48 [.int .i64 0,.int .i64 0,.int .i64 0,.int .i64 0,.int .i64 0,.slice none 0 0] [.int .i64 v.p,.int .i64 v.c,.int .i64 v.h,.int .i64 v.s,.int .i64 n,.slice (some ⟨ba,oa,none⟩) j ce] w') (by kernel_rfl) (by kernel_rfl) (by kernel_rfl) (by kernel_rfl) (by kernel_rfl) (by kernel_rfl) (by first | kernel_rfl | rfl) ?g0_2 ?gst_2 ?gfin_2
   case g0_2=>exact⟨(Below.refl _ _).drew,λ h=>absurd h (by decide),λ h=>absurd h (by decide)⟩
   case gst_2 =>
    refine rN rfl (λ L a A z o l r U F K t=>?_) ?_
    ·have e3:=U.w 3 (.pointer (some ⟨g3,0,none⟩));obtain⟨k0,k1,k2,k3⟩:=(f.out.below F.bel f.out.lt).c4;have X:=(f.out.below F.bel f.out.lt).lt;have r3:=Y.out.r3.below F.bel Y.out.r3.lt;obtain⟨y0,y1,y2,y3,y4,y5⟩:=r3.c6;have H:=r3.lt;clear r3;go_simp;exact pF t (F.skip 0 _)
    refine rN rfl (λ L a A z o l r U F K t=>?_) ?_
    ·have dt:=U.v 0 74;obtain⟨k0,k1,k2,k3⟩:=(f.out.below F.bel f.out.lt).c4;have X:=(f.out.below F.bel f.out.lt).lt;have r3:=Y.out.r3.below F.bel Y.out.r3.lt;obtain⟨y0,y1,y2,y3,y4,y5⟩:=r3.c6;have H:=r3.lt;clear r3;go_simp;exact pF t (F.skip 1 _)
    refine rN rfl (λ L a A z o l r U F K t=>?_) ?_
    ·have e3:=U.w 3 (.pointer (some ⟨g3,0,none⟩));obtain⟨k0,k1,k2,k3⟩:=(f.out.below F.bel f.out.lt).c4;have X:=(f.out.below F.bel f.out.lt).lt;have r3:=Y.out.r3.below F.bel Y.out.r3.lt;obtain⟨y0,y1,y2,y3,y4,y5⟩:=r3.c6;have H:=r3.lt;clear r3;go_simp;exact pF t (F.skip 2 _)
    refine rN rfl (λ L a A z o l r U F K t=>?_) ?_
    ·have dr:=U.v 2 76;obtain⟨k0,k1,k2,k3⟩:=(f.out.below F.bel f.out.lt).c4;have X:=(f.out.below F.bel f.out.lt).lt;have r3:=Y.out.r3.below F.bel Y.out.r3.lt;obtain⟨y0,y1,y2,y3,y4,y5⟩:=r3.c6;have H:=r3.lt;clear r3;go_simp;exact pF t (F.skip 3 _)
    refine rN rfl (λ L a A z o l r U F K t=>?_) ?_
    ·have e3:=U.w 3 (.pointer (some ⟨g3,0,none⟩));obtain⟨k0,k1,k2,k3⟩:=(f.out.below F.bel f.out.lt).c4;have X:=(f.out.below F.bel f.out.lt).lt;have r3:=Y.out.r3.below F.bel Y.out.r3.lt;obtain⟨y0,y1,y2,y3,y4,y5⟩:=r3.c6;have H:=r3.lt;clear r3;go_simp;exact pF t (F.skip 4 _)
    refine rN rfl (λ L a A z o l r U F K t=>?_) ?_
    ·have dp:=U.v 4 78;obtain⟨k0,k1,k2,k3⟩:=(f.out.below F.bel f.out.lt).c4;have X:=(f.out.below F.bel f.out.lt).lt;have r3:=Y.out.r3.below F.bel Y.out.r3.lt;obtain⟨y0,y1,y2,y3,y4,y5⟩:=r3.c6;have H:=r3.lt;clear r3;go_simp;exact pF t (F.skip 5 _)
    refine rN rfl (λ L a A z o l r U F K t=>?_) ?_
    ·have cA:=U.w 10 (.pointer (some ⟨an,0,none⟩));obtain⟨k0,k1,k2,k3⟩:=(f.out.below F.bel f.out.lt).c4;have X:=(f.out.below F.bel f.out.lt).lt;have r3:=Y.out.r3.below F.bel Y.out.r3.lt;obtain⟨y0,y1,y2,y3,y4,y5⟩:=r3.c6;have H:=r3.lt;clear r3;go_simp;exact pF t (F.skip 6 _)
    refine rN rfl (λ L a A z o l r U F K t=>?_) ?_
    ·have dm:=U.v 6 80;obtain⟨k0,k1,k2,k3⟩:=(f.out.below F.bel f.out.lt).c4;have X:=(f.out.below F.bel f.out.lt).lt;have r3:=Y.out.r3.below F.bel Y.out.r3.lt;obtain⟨y0,y1,y2,y3,y4,y5⟩:=r3.c6;have H:=r3.lt;clear r3;go_simp;exact pF t (F.skip 7 _)
    refine rN rfl (λ L a A z o l r U F K t=>?_) ?_
    ·have dn:=U.v 5 79;have dl:=U.v 7 81;go_simp;exact pF t (F.skip 8 _)
    refine rN rfl (λ L a A z o l r U F K t=>?_) ?_
    ·have ds:=U.v 1 75;have dq:=U.v 3 77;have dk:=U.v 8 82;go_simp;exact pF t (F.skip 9 _)
    refine rN rfl (λ L a A z o l r U F K t=>?_) ?_
    ·go_simp;exact t.out _ _ (Pl.any rfl) (F.box (λ h=>o (r 11 10 (by kernel_rfl) h)) (by decide))
    refine rN rfl (λ L a A z o l r U F K t=>?_) ?_
    ·have aK:=U.x 10 11;have cw:=U.v 9 83;obtain⟨q,eq,hq,hr⟩:=F.bx (bK l 10) o;have bX:=aK;refine wp_sm 48 _ _ rfl q 0 [.int .i64 v.p,.int .i64 v.c,.int .i64 v.h,.int .i64 v.s,.int .i64 n,.slice (some ⟨ba,oa,none⟩) j ce] [.int .i64 0,.int .i64 0,.int .i64 0,.int .i64 0,.int .i64 0,.slice none 0 0] (ev (bX.trans eq)) (ev cw) 48 hr (by kernel_rfl) (Nat.le_refl _) rfl ?_;exact t.out undef _ (Pl.any rfl) (F.wrote eq hq (row_cells _ _ _ _ hr) (grown_cells _ _ _ _) (by decide))
    exact RelFrom.nil (by decide)
   intro a wf hp F;simp only [Fr,Act.put,sX,Nat.reduceAdd];obtain⟨di,aK,bB,bf⟩:=F.fin trivial;have aC:=F.bel;rw [aK];have K:=Y.out.below aC;have f:=kD (f.out.below aC f.out.lt);clear F hp Y aC aK;have b1:Hid ((es.take j).length=j):=kD (by rw [List.length_take,HM.out];omega);have CM:=mstate_i v n (es.take j) (some ⟨ba,oa,none⟩) ce y wf ((evl_take K.ev j).weak (λ _ _=>trivial)) ci.out;rw [b1.out] at CM;have CM:=kD CM;obtain⟨z0,z1,z2,z3,z4,z5⟩:=bf.c6;have bz:=bf.lt;have cg:=kD K;clear K;go_wp2_with fail;refine CM.out.mono ?_;rintro e' wg ⟨T0,d0,T1,d1,T2,d2,rfl,a4,D⟩;obtain⟨n1,a3⟩:∃ q,y.g.b.1.length=q:=⟨_,rfl⟩;obtain⟨n2,a2⟩:∃ q,y.g.b.2.length=q:=⟨_,rfl⟩;rw [a3,a2] at a4 ⊢;have cF:=kD a3;have cE:=kD a2;have bt:=f.out.lt;have T:=kD (a4.weak (S':=λ b=>an<b) (λ b D _=>by omega));have K:=cg.out.below D;have f:=kD (f.out.below D bt);clear CM a4 a3 a2 D z0 z1 z2 z3 z4 z5 bz bf cg b1 ci bt bB;simp only [msC];go_upto_region 19 with fail;obtain⟨al,ai⟩:∃ q,wg.heap.size=q:=⟨_,rfl⟩;refine wp_gen (λ W'=>Below wg.heap.size wg W'∧RowB W' al 59 (msC (.slice T0 2 d0) (.slice T1 n1 d1) (.slice T2 n2 d2) y)) ⟨(Below.refl _ _).alloc (Nat.le_refl _) _,by rw [<-ai];exact RowB.new _ _ _⟩ ?_
   try simp only [ai]
   rintro wh ⟨D,ad⟩;rw [<-ai] at D;have cm:g3<al:=by rw [<-ai];exact K.r3.lt
   have K:=K.below D;have T:=kD (T.out.below D);have f:=kD (f.out.below D f.out.lt);have m:=kD ad;clear D ai ad;go_wp2_with fail;refine(CD.out wh K.bel).mono ?_;rintro e' wi ⟨cH,bZ,rfl,ae,a8,D⟩;have bv:=K.r3.lt;have ck:=kD (ae.weak (S':=λ b=>g3<b) (λ b h=>by omega));have K:=K.below D;have T:=kD (T.out.below D);have f:=kD (f.out.below D f.out.lt);have m:=kD (m.out.below D m.out.lt);have R3:=K.r3;clear ae D bv;go_upto_region 20 with (first | (refine wM 48 0 [.int .i64 v.p,.int .i64 v.c,.int .i64 v.h,.int .i64 v.s,.int .i64 n,.slice cH M bZ] R3 ?_;intro wj s5 ag z5));have K2:=K.put s5 ag ck.out;have T:=kD (T.out.keep (Still.grown ag (λ k hk hs=>by simp at hk;omega)));have aa:=f.out.grown ag (λ k hk=>by simp at hk;omega);have m:=kD (m.out.grown ag (λ k hk=>by simp at hk;omega));clear K R3 s5 ag z5 ck f;have K:=K2;clear K2;obtain⟨be,oe,e3,As,cs,rfl,bD,aC,aW,ca,cb,cc,cd,bY⟩:=K.ev.at_ (i:=j) (by rw [HM.out];exact bA);obtain rfl:=Option.some.inj (bD.symm.trans cj.out);obtain⟨ek,ea,eb,ss,er⟩:=e3;simp only at ca cb cc cd bY aW;obtain⟨sl,aX⟩:∃ q,ss.length=q:=⟨_,rfl⟩;have cC:=kD aX;rw [aX] at cd;obtain⟨y0,y1,y2,y3,y4,y5⟩:=K.r3.c6;have H:=K.r3.lt;obtain⟨k0,k1,k2,k3⟩:=aa.c4;have X:=aa.lt;have cf:=kD K;have ax:=kD aW;have f:=kD aa;have cI:(j:Int)<(M:Int):=by omega
   clear bD aX K cj aW;go_upto_region 22 with fail;obtain⟨aJ,ah⟩:∃ q,wj.heap.size=q:=⟨_,rfl⟩;refine wp_gen (λ W'=>Below wj.heap.size wj W'∧RowB W' aJ 63 [.int .i64 ek,.int .i64 ea,.int .i64 eb,.slice As sl cs,.int .i64 er]∧RowB W' (aJ+1) 30 [.int .i64 ea,.int .i64 eb]) ⟨by go_grown,by rw [<-ah];exact(RowB.new _ _ _).alloc _,by exact RowB.new' _ _ _ (by rw [<-ah];simp)⟩ ?_
   try simp only [ah]
   clear y0 y1 y2 y3 y4 y5 H k0 k1 k2 k3 X ca cb cc cd bY aa aC;rintro wk ⟨D,ap,ao⟩;rw [<-ah] at D;clear ah;have K:=cf.out.below D;have ax:=kD (ax.out.keep (.below D));have T:=kD (T.out.below D);have aa:=f.out.below D f.out.lt;have ad:=m.out.below D m.out.lt;have aF:=kD ap;have C:=kD ao;clear D f m cf;obtain⟨q0,q1,q2,q3,q4,q5⟩:=K.r3.c6;have H:=K.r3.lt;obtain⟨k0,k1,k2,k3⟩:=aa.c4;have X:=aa.lt;obtain⟨y0,y1,y2,y3,y4,y5,y6,y7,y8,y9,aV,aU⟩:=row12 ad;have P:=ad.lt;have dc:(y.g.pl != y.g.pl)=false:=by simp
   have CB:=Bd3.isB_s v y.g.b T1 T2 d1 d2 wk.heap.size wk (Nat.le_refl _);have aP:RdS wk wk.heap.size 1 enI T1 y.g.b.1:=by
    obtain⟨Aq,cq,eq,hq,-⟩:=T.out.2.1;simp only [Value.slice.injEq] at eq;rw [eq.1];exact hq.rd
   have aO:RdS wk wk.heap.size 1 enI T2 y.g.b.2:=by
    obtain⟨Aq,cq,eq,hq,-⟩:=T.out.2.2;simp only [Value.slice.injEq] at eq;rw [eq.1];exact hq.rd
   have CB:=CB aP aO true (okB_iff.2 aq.out);rw [cF.out,cE.out] at CB;have CB:=kD CB;have Q:=kD K;have f:=kD aa;have m:=kD ad;clear aP aO K aa ad ap ao;go_wp2_with fail;refine CB.out.mono ?_;rintro e' wl ⟨rfl,D⟩;have K:=Q.out.below D;have ax:=kD (ax.out.keep (.below D));have T:=kD (T.out.below D);have f:=kD (f.out.below D f.out.lt);have ad:=m.out.below D m.out.lt;have ap:=aF.out.below D aF.out.lt;have ao:=C.out.below D C.out.lt;clear D CB Q m aF C q0 q1 q2 q3 q4 q5 H k0 k1 k2 k3 X y0 y1 y2 y3 y4 y5 y6 y7 y8 y9 aV aU P;obtain⟨q0,q1,q2,q3,q4,q5⟩:=K.r3.c6;have H:=K.r3.lt;obtain⟨y0,y1,y2,y3,y4,y5,y6,y7,y8,y9,aV,aU⟩:=row12 ad;have P:=ad.lt;obtain⟨k0,k1,k2,k3,k4⟩:=ap.c5;have bw:=ap.lt;obtain⟨f0,f1⟩:=ao.c2;have W:=ao.lt;have CP:=play_s v y.g.b aq.out _ _ _ ea eb b2.out ss As cs wl.heap.size wl (Nat.le_refl _) T.out.2 ax.out.rd;rw [cC.out,b3.out] at CP;have CP:=kD CP;obtain⟨n3,bp⟩:∃ q,c.1.length=q:=⟨_,rfl⟩;obtain⟨n4,bo⟩:∃ q,c.2.length=q:=⟨_,rfl⟩;have b6:=kD bp;have b4:=kD bo;have Q:=kD K;have m:=kD ad;have aF:=kD ap;have C:=kD ao;clear K ad ap ao bp bo ax;go_wp2_with fail;refine CP.out.mono ?_;rintro e' wm ⟨v8,rfl,⟨u3,u4,c',cc,rfl,bb,bE,-⟩,D⟩;obtain⟨bF,co⟩:=bE c rfl;rw [bF] at bb;subst co;have Q:=kD (Q.out.below D);have T:=kD (T.out.below D);have f:=kD (f.out.below D f.out.lt);have m:=kD (m.out.below D m.out.lt);have C:=kD (C.out.below D C.out.lt);have aE:=kD (bb.weak (S':=All) (λ _ _ _=>trivial));obtain⟨⟨E1,e1,rfl,-,-⟩,⟨E2,e2,rfl,-,-⟩⟩:=bb;rw [b6.out,b4.out] at aE ⊢;clear CP D bE bF aF q0 q1 q2 q3 q4 q5 H y0 y1 y2 y3 y4 y5 y6 y7 y8 y9 aV aU P k0 k1 k2 k3 k4 bw f0 f1 W;go_upto_region 25 with fail;obtain⟨bU,aw⟩:∃ q,wm.heap.size=q:=⟨_,rfl⟩;refine wp_gen (λ W'=>Below wm.heap.size wm W'∧RowB W' bU 28 [.slice E1 n3 e1,.slice E2 n4 e2]) ⟨(Below.refl _ _).alloc (Nat.le_refl _) _,by rw [<-aw];exact RowB.new _ _ _⟩ ?_
   try simp only [aw]
   rintro wn ⟨D,b0⟩;rw [<-aw] at D;have Q:=kD (Q.out.below D);have T:=kD (T.out.below D);have f:=kD (f.out.below D f.out.lt);have m:=kD (m.out.below D m.out.lt);have C:=kD (C.out.below D C.out.lt);have aE:=kD (aE.out.below D);have ab:=kD b0;have aD:=kD (λ(z:World) (h9:BdR z (λ b=>an<b) (.slice T1 n1 d1) (.slice T2 n2 d2) y.g.b)=>ownb y.g.b _ _ _ z h9 (by have:=aq.out.own.len;have:=aq.out.v1;omega) (by have:=aq.out.oth.len;have:=aq.out.v1;omega));have aT:=kD (λ(z:World) (X1 X2:Option Addr) (t1 t2:Nat) (hx:BdR z All (.slice X1 y.g.b.1.length t1) (.slice X2 y.g.b.2.length t2) y.g.b) (hc:BdR z All (.slice E1 n3 e1) (.slice E2 n4 e2) c)=>loss_use v y.g.b c ea eb d P3 b9.out n3 n4 b6.out b4.out z X1 X2 t1 t2 E1 E2 e1 e2 hx hc);have aS:=kD (λ(z:World) (X1 X2:Option Addr) (t1 t2:Nat) (hx:BdR z All (.slice X1 y.g.b.1.length t1) (.slice X2 y.g.b.2.length t2) y.g.b)=>luck_use v y.g.b ea eb d P4 b8.out z X1 X2 t1 t2 hx);clear D b0 aw b9 b8 b3 b2 cD aq;refine region_rel [some 137,some 138,some 139,some 140,some 141,some 142,some 143,some 144,some 145,some 146,some 136,some 147,some 148,some 18,some 19] 15 (Pl [some (.pointer (some ⟨g3,0,none⟩)),some (.agg #[.int .i64 v.p,.int .i64 v.c,.int .i64 v.h,.int .i64 v.s]),some (.pointer (some ⟨al,2,none⟩)),some (.pointer (some ⟨al,2,none⟩)),some (.agg #[.slice T1 n1 d1,.slice T2 n2 d2]),none,some (.agg #[.int .i64 ea,.int .i64 eb]),some (.agg #[.slice E1 n3 e1,.slice E2 n4 e2]),some (.int .i64 d),some (.tuple #[.int .i64 P3,.int .i64 0]),some (.tuple #[.int .i64 P3,.int .i64 0]),some (.int .i64 P3),some (.int .i64 0),some (.int .i64 P3),some (.int .i64 0)]) (λ L a w'=>LoF wn y.g.b (L 5) (a 5) w') (by kernel_rfl) (by kernel_rfl) (by kernel_rfl) (by kernel_rfl) (by kernel_rfl) (by kernel_rfl) (by first | kernel_rfl | rfl) ?g0_3 ?gst_3 ?gfin_3
   case g0_3=>exact⟨(Below.refl _ _).drew,λ h=>absurd h (by decide)⟩
   case gst_3 =>
    refine rN rfl (λ L a A z o l r U F K t=>?_) ?_
    ·have e3:=U.w 3 (.pointer (some ⟨g3,0,none⟩));have J:=Q.out.r3.below F.bel Q.out.r3.lt;have B:=J.c6;have q0:=B.1;have q1:=B.2.1;have q2:=B.2.2.1;have q3:=B.2.2.2.1;have H:=J.lt;have I:=m.out.below F.bel m.out.lt;have E:=row12 I;have y0:=E.1;have y1:=E.2.1;have y2:=E.2.2.1;have y3:=E.2.2.2.1;have P:=I.lt;have G:=C.out.below F.bel C.out.lt;have f0:=G.c2.1;have f1:=G.c2.2;have W:=G.lt;have ru:=ab.out.below F.bel ab.out.lt;have g0:=ru.c2.1;have g1:=ru.c2.2;have af:=ru.lt;clear ru;clear J B I E G;go_simp;exact pF t (F.skip 0 _)
    refine rN rfl (λ L a A z o l r U F K t=>?_) ?_
    ·have db:=U.v 0 137;have J:=Q.out.r3.below F.bel Q.out.r3.lt;have B:=J.c6;have q0:=B.1;have q1:=B.2.1;have q2:=B.2.2.1;have q3:=B.2.2.2.1;have H:=J.lt;have I:=m.out.below F.bel m.out.lt;have E:=row12 I;have y0:=E.1;have y1:=E.2.1;have y2:=E.2.2.1;have y3:=E.2.2.2.1;have P:=I.lt;have G:=C.out.below F.bel C.out.lt;have f0:=G.c2.1;have f1:=G.c2.2;have W:=G.lt;have ru:=ab.out.below F.bel ab.out.lt;have g0:=ru.c2.1;have g1:=ru.c2.2;have af:=ru.lt;clear ru;clear J B I E G;go_simp;exact pF t (F.skip 1 _)
    refine rN rfl (λ L a A z o l r U F K t=>?_) ?_
    ·have cz:=U.w 12 (.pointer (some ⟨al,0,none⟩));have J:=Q.out.r3.below F.bel Q.out.r3.lt;have B:=J.c6;have q0:=B.1;have q1:=B.2.1;have q2:=B.2.2.1;have q3:=B.2.2.2.1;have H:=J.lt;have I:=m.out.below F.bel m.out.lt;have E:=row12 I;have y0:=E.1;have y1:=E.2.1;have y2:=E.2.2.1;have y3:=E.2.2.2.1;have P:=I.lt;have G:=C.out.below F.bel C.out.lt;have f0:=G.c2.1;have f1:=G.c2.2;have W:=G.lt;have ru:=ab.out.below F.bel ab.out.lt;have g0:=ru.c2.1;have g1:=ru.c2.2;have af:=ru.lt;clear ru;clear J B I E G;go_simp;exact pF t (F.skip 2 _)
    refine rN rfl (λ L a A z o l r U F K t=>?_) ?_
    ·have c9:=U.v 2 139;have J:=Q.out.r3.below F.bel Q.out.r3.lt;have B:=J.c6;have q0:=B.1;have q1:=B.2.1;have q2:=B.2.2.1;have q3:=B.2.2.2.1;have H:=J.lt;have I:=m.out.below F.bel m.out.lt;have E:=row12 I;have y0:=E.1;have y1:=E.2.1;have y2:=E.2.2.1;have y3:=E.2.2.2.1;have P:=I.lt;have G:=C.out.below F.bel C.out.lt;have f0:=G.c2.1;have f1:=G.c2.2;have W:=G.lt;have ru:=ab.out.below F.bel ab.out.lt;have g0:=ru.c2.1;have g1:=ru.c2.2;have af:=ru.lt;clear ru;clear J B I E G;go_simp;exact pF t (F.skip 3 _)
    refine rN rfl (λ L a A z o l r U F K t=>?_) ?_
    ·have c8:=U.v 3 140;have J:=Q.out.r3.below F.bel Q.out.r3.lt;have B:=J.c6;have q0:=B.1;have q1:=B.2.1;have q2:=B.2.2.1;have q3:=B.2.2.2.1;have H:=J.lt;have I:=m.out.below F.bel m.out.lt;have E:=row12 I;have y0:=E.1;have y1:=E.2.1;have y2:=E.2.2.1;have y3:=E.2.2.2.1;have P:=I.lt;have G:=C.out.below F.bel C.out.lt;have f0:=G.c2.1;have f1:=G.c2.2;have W:=G.lt;have ru:=ab.out.below F.bel ab.out.lt;have g0:=ru.c2.1;have g1:=ru.c2.2;have af:=ru.lt;clear ru;clear J B I E G;go_simp;exact pF t (F.skip 4 _)
    refine rN rfl (λ L a A z o l r U F K t=>?_) ?_
    ·have cZ:=U.v 4 141;go_simp;refine(aD.out z (T.out.2.below F.bel)).mono ?_;rintro e' w6 ⟨X1,t1,X2,t2,rfl,hx,am⟩;exact t.out _ w6 (Pl.any rfl) ⟨F.bel.trans (am.mono F.bel.size),λ _=>⟨X1,t1,X2,t2,upd_same _ _ _,hx.weak (λ _ _ _=>trivial)⟩⟩
    refine rN rfl (λ L a A z o l r U F K t=>?_) ?_
    ·have cy:=U.w 15 (.pointer (some ⟨aJ+1,0,none⟩));have J:=Q.out.r3.below F.bel Q.out.r3.lt;have B:=J.c6;have q0:=B.1;have q1:=B.2.1;have q2:=B.2.2.1;have q3:=B.2.2.2.1;have H:=J.lt;have I:=m.out.below F.bel m.out.lt;have E:=row12 I;have y0:=E.1;have y1:=E.2.1;have y2:=E.2.2.1;have y3:=E.2.2.2.1;have P:=I.lt;have G:=C.out.below F.bel C.out.lt;have f0:=G.c2.1;have f1:=G.c2.2;have W:=G.lt;have ru:=ab.out.below F.bel ab.out.lt;have g0:=ru.c2.1;have g1:=ru.c2.2;have af:=ru.lt;clear ru;clear J B I E G;go_simp;exact pF t (F.skip 6 _)
    refine rN rfl (λ L a A z o l r U F K t=>?_) ?_
    ·have dA:=U.w 16 (.pointer (some ⟨bU,0,none⟩));have J:=Q.out.r3.below F.bel Q.out.r3.lt;have B:=J.c6;have q0:=B.1;have q1:=B.2.1;have q2:=B.2.2.1;have q3:=B.2.2.2.1;have H:=J.lt;have I:=m.out.below F.bel m.out.lt;have E:=row12 I;have y0:=E.1;have y1:=E.2.1;have y2:=E.2.2.1;have y3:=E.2.2.2.1;have P:=I.lt;have G:=C.out.below F.bel C.out.lt;have f0:=G.c2.1;have f1:=G.c2.2;have W:=G.lt;have ru:=ab.out.below F.bel ab.out.lt;have g0:=ru.c2.1;have g1:=ru.c2.2;have af:=ru.lt;clear ru;clear J B I E G;go_simp;exact pF t (F.skip 7 _)
    refine rN rfl (λ L a A z o l r U F K t=>?_) ?_
    ·have e4:=U.w 4 (.int .i64 d);go_simp;exact pF t (F.skip 8 _)
    refine rN rfl (λ L a A z o l r U F K t=>?_) ?_
    ·have da:=U.v 1 138;have aR:=U.x 5 142;have cY:=U.v 6 143;have cX:=U.v 7 144;have cW:=U.v 8 145;refine(F.f5 (bK l 5)).elim λ X1 q=>?_
     refine q.elim λ t1 q=>?_
     refine q.elim λ X2 q=>?_
     refine q.elim λ t2 q=>?_
     have cx:=aR.trans q.1;have hx:=q.2;clear aR q;go_simp;refine(aT.out z X1 X2 t1 t2 hx (aE.out.below F.bel)).mono ?_;rintro e' w6 ⟨rfl,am⟩;exact pF t ((F.below am).skip 9 _)
    refine rN rfl (λ L a A z o l r U F K t=>?_) ?_
    ·have cV:=U.v 9 146;go_simp;exact pF t (F.skip 10 _)
    refine rN rfl (λ L a A z o l r U F K t=>?_) ?_
    ·have bW:=U.v 10 136;go_simp;exact pF t (F.skip 11 _)
    refine rN rfl (λ L a A z o l r U F K t=>?_) ?_
    ·have bW:=U.v 10 136;go_simp;exact pF t (F.skip 12 _)
    refine rN rfl (λ L a A z o l r U F K t=>?_) ?_
    ·have cU:=U.v 11 147;go_simp;exact pF t (F.skip 13 _)
    refine rN rfl (λ L a A z o l r U F K t=>?_) ?_
    ·have cT:=U.v 12 148;go_simp;exact pF t (F.skip 14 _)
    exact RelFrom.nil (by decide)
   intro a wo hp F;simp only [Fr,Act.put,sX,Nat.reduceAdd];have bT:a 13=.int .i64 P3:=hp 13 (by decide) _ rfl;have bS:a 14=.int .i64 0:=hp 14 (by decide) _ rfl;rw [bT,bS];have D:=F.bel;have Q:=kD (Q.out.below D);have T:=kD (T.out.below D);have f:=kD (f.out.below D f.out.lt);have m:=kD (m.out.below D m.out.lt);have C:=kD (C.out.below D C.out.lt);clear F hp bT bS D aE ab aT;go_upto_region 26 with fail;refine region_rel [some 150,some 151,some 152,some 153,some 154,some 155,some 156,some 157,some 158,some 149,some 159,some 160,some 20,some 21] 14 (Pl [some (.pointer (some ⟨g3,0,none⟩)),some (.agg #[.int .i64 v.p,.int .i64 v.c,.int .i64 v.h,.int .i64 v.s]),some (.pointer (some ⟨al,2,none⟩)),some (.pointer (some ⟨al,2,none⟩)),some (.agg #[.slice T1 n1 d1,.slice T2 n2 d2]),none,some (.agg #[.int .i64 ea,.int .i64 eb]),some (.int .i64 d),some (.tuple #[.int .i64 P4,.int .i64 0]),some (.tuple #[.int .i64 P4,.int .i64 0]),some (.int .i64 P4),some (.int .i64 0),some (.int .i64 P4),some (.int .i64 0)]) (λ L a w'=>LoF wo y.g.b (L 5) (a 5) w') (by kernel_rfl) (by kernel_rfl) (by kernel_rfl) (by kernel_rfl) (by kernel_rfl) (by kernel_rfl) (by first | kernel_rfl | rfl) ?g0_4 ?gst_4 ?gfin_4
   case g0_4=>exact⟨(Below.refl _ _).drew,λ h=>absurd h (by decide)⟩
   case gst_4 =>
    refine rN rfl (λ L a A z o l r U F K t=>?_) ?_
    ·have e3:=U.w 3 (.pointer (some ⟨g3,0,none⟩));have J:=Q.out.r3.below F.bel Q.out.r3.lt;have B:=J.c6;have q0:=B.1;have q1:=B.2.1;have q2:=B.2.2.1;have q3:=B.2.2.2.1;have H:=J.lt;have I:=m.out.below F.bel m.out.lt;have E:=row12 I;have y0:=E.1;have y1:=E.2.1;have y2:=E.2.2.1;have y3:=E.2.2.2.1;have P:=I.lt;have G:=C.out.below F.bel C.out.lt;have f0:=G.c2.1;have f1:=G.c2.2;have W:=G.lt;clear J B I E G;go_simp;exact pF t (F.skip 0 _)
    refine rN rfl (λ L a A z o l r U F K t=>?_) ?_
    ·have cS:=U.v 0 150;have J:=Q.out.r3.below F.bel Q.out.r3.lt;have B:=J.c6;have q0:=B.1;have q1:=B.2.1;have q2:=B.2.2.1;have q3:=B.2.2.2.1;have H:=J.lt;have I:=m.out.below F.bel m.out.lt;have E:=row12 I;have y0:=E.1;have y1:=E.2.1;have y2:=E.2.2.1;have y3:=E.2.2.2.1;have P:=I.lt;have G:=C.out.below F.bel C.out.lt;have f0:=G.c2.1;have f1:=G.c2.2;have W:=G.lt;clear J B I E G;go_simp;exact pF t (F.skip 1 _)
    refine rN rfl (λ L a A z o l r U F K t=>?_) ?_
    ·have cz:=U.w 12 (.pointer (some ⟨al,0,none⟩));have J:=Q.out.r3.below F.bel Q.out.r3.lt;have B:=J.c6;have q0:=B.1;have q1:=B.2.1;have q2:=B.2.2.1;have q3:=B.2.2.2.1;have H:=J.lt;have I:=m.out.below F.bel m.out.lt;have E:=row12 I;have y0:=E.1;have y1:=E.2.1;have y2:=E.2.2.1;have y3:=E.2.2.2.1;have P:=I.lt;have G:=C.out.below F.bel C.out.lt;have f0:=G.c2.1;have f1:=G.c2.2;have W:=G.lt;clear J B I E G;go_simp;exact pF t (F.skip 2 _)
    refine rN rfl (λ L a A z o l r U F K t=>?_) ?_
    ·have cQ:=U.v 2 152;have J:=Q.out.r3.below F.bel Q.out.r3.lt;have B:=J.c6;have q0:=B.1;have q1:=B.2.1;have q2:=B.2.2.1;have q3:=B.2.2.2.1;have H:=J.lt;have I:=m.out.below F.bel m.out.lt;have E:=row12 I;have y0:=E.1;have y1:=E.2.1;have y2:=E.2.2.1;have y3:=E.2.2.2.1;have P:=I.lt;have G:=C.out.below F.bel C.out.lt;have f0:=G.c2.1;have f1:=G.c2.2;have W:=G.lt;clear J B I E G;go_simp;exact pF t (F.skip 3 _)
    refine rN rfl (λ L a A z o l r U F K t=>?_) ?_
    ·have cP:=U.v 3 153;have J:=Q.out.r3.below F.bel Q.out.r3.lt;have B:=J.c6;have q0:=B.1;have q1:=B.2.1;have q2:=B.2.2.1;have q3:=B.2.2.2.1;have H:=J.lt;have I:=m.out.below F.bel m.out.lt;have E:=row12 I;have y0:=E.1;have y1:=E.2.1;have y2:=E.2.2.1;have y3:=E.2.2.2.1;have P:=I.lt;have G:=C.out.below F.bel C.out.lt;have f0:=G.c2.1;have f1:=G.c2.2;have W:=G.lt;clear J B I E G;go_simp;exact pF t (F.skip 4 _)
    refine rN rfl (λ L a A z o l r U F K t=>?_) ?_
    ·have cO:=U.v 4 154;go_simp;refine(aD.out z (T.out.2.below F.bel)).mono ?_;rintro e' w6 ⟨X1,t1,X2,t2,rfl,hx,am⟩;exact t.out _ w6 (Pl.any rfl) ⟨F.bel.trans (am.mono F.bel.size),λ _=>⟨X1,t1,X2,t2,upd_same _ _ _,hx.weak (λ _ _ _=>trivial)⟩⟩
    refine rN rfl (λ L a A z o l r U F K t=>?_) ?_
    ·have cy:=U.w 15 (.pointer (some ⟨aJ+1,0,none⟩));have J:=Q.out.r3.below F.bel Q.out.r3.lt;have B:=J.c6;have q0:=B.1;have q1:=B.2.1;have q2:=B.2.2.1;have q3:=B.2.2.2.1;have H:=J.lt;have I:=m.out.below F.bel m.out.lt;have E:=row12 I;have y0:=E.1;have y1:=E.2.1;have y2:=E.2.2.1;have y3:=E.2.2.2.1;have P:=I.lt;have G:=C.out.below F.bel C.out.lt;have f0:=G.c2.1;have f1:=G.c2.2;have W:=G.lt;clear J B I E G;go_simp;exact pF t (F.skip 6 _)
    refine rN rfl (λ L a A z o l r U F K t=>?_) ?_
    ·have e4:=U.w 4 (.int .i64 d);go_simp;exact pF t (F.skip 7 _)
    refine rN rfl (λ L a A z o l r U F K t=>?_) ?_
    ·have cR:=U.v 1 151;have aQ:=U.x 5 155;have cN:=U.v 6 156;have cM:=U.v 7 157;refine(F.f5 (bK l 5)).elim λ X1 q=>?_
     refine q.elim λ t1 q=>?_
     refine q.elim λ X2 q=>?_
     refine q.elim λ t2 q=>?_
     have cx:=aQ.trans q.1;have hx:=q.2;clear aQ q;go_simp;refine(aS.out z X1 X2 t1 t2 hx).mono ?_;rintro e' w6 ⟨rfl,am⟩;exact pF t ((F.below am).skip 8 _)
    refine rN rfl (λ L a A z o l r U F K t=>?_) ?_
    ·have cL:=U.v 8 158;go_simp;exact pF t (F.skip 9 _)
    refine rN rfl (λ L a A z o l r U F K t=>?_) ?_
    ·have bV:=U.v 9 149;go_simp;exact pF t (F.skip 10 _)
    refine rN rfl (λ L a A z o l r U F K t=>?_) ?_
    ·have bV:=U.v 9 149;go_simp;exact pF t (F.skip 11 _)
    refine rN rfl (λ L a A z o l r U F K t=>?_) ?_
    ·have cK:=U.v 10 159;go_simp;exact pF t (F.skip 12 _)
    refine rN rfl (λ L a A z o l r U F K t=>?_) ?_
    ·have cJ:=U.v 11 160;go_simp;exact pF t (F.skip 13 _)
    exact RelFrom.nil (by decide)
   intro a wp hp F;simp only [Fr,Act.put,sX,Nat.reduceAdd];have bR:a 12=.int .i64 P4:=hp 12 (by decide) _ rfl;have bQ:a 13=.int .i64 0:=hp 13 (by decide) _ rfl;rw [bR,bQ];have D:=F.bel;have K:=Q.out.below D;have aa:=f.out.below D f.out.lt;clear F hp bR bQ D aS aD T m C f Q;obtain⟨k0,k1,k2,k3⟩:=aa.c4;have X:=aa.lt;have de:(P3 != P3)=false:=by simp
   have dd:(P4 != P4)=false:=by simp
   have bN:=K.ev.len;rw [HM.out] at bN;have df:IntKind.i64.wrap ((i:Int)+1)=(i:Int)+1:=IntWalk.i64_in _ (by omega);clear bN;have Q:=kD K;clear K aa;go_wp2_with fail;go_roundw
   case rel=>exact⟨i+1,_,bZ,by first | rfl | trivial,by first | rfl | go_num,by omega,a8,Q⟩
   case measure=>simp [intOf] <;> omega
  ·obtain rfl:N=i:=by omega
   have a9:=K.bel;clear K Q;go_wp2_with fail;go_ret;exact⟨rfl,a9⟩
end VeL
end Go.Proofs.YtmncnhbjifeoeaaGreat
