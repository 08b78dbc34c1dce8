/- Parts of a proof. Conditions: each theorem's own. -/
import Derived.Test.YtjdefiinmicjiaaGreatDoorV04
set_option linter.unusedVariables false
set_option linter.unusedSimpArgs false
set_option maxHeartbeats 8000000
set_option maxRecDepth 100000
namespace Go.Proofs.YtjdefiinmicjiaaGreatDoor
open _root_.Go.Proofs.Tryz
namespace Bd18
open Go.ChangeShapes Go.WideShapes Go.ChangeAt Go.RowKit Base Ints Own Clone RelG PlP Bd1 Bd4 Bd5 Bd6 Bd7 Bd7S Bd8 Bd9 Bd11 RegInv RegF RegG Bd16 Bd17
structure Nx1 (w wr:World) (v:Vr) (vl:Value) (X:List Pl) (k m:Nat):Prop where
 bel:Below w.heap.size w wr
 rv:RowB wr w.heap.size 25 (vL v)
 og:OwnG RelP wr (w.heap.size+1) wr.heap.size 98 3 enP vl X
 co:Coll v k m X
theorem Nx1.below {w wr w':World} {v:Vr} {vl:Value} {X:List Pl} {k m:Nat} (h:Nx1 w wr v vl X k m) (hb:zB wr w'):Nx1 w w' v vl X k m :=
 ⟨h.bel.tR hb,h.rv.below hb h.rv.lt,(h.og.below_ hb).more hb.size,h.co⟩
theorem Nx1.blk {w wr:World} {v:Vr} {vl:Value} {X:List Pl} {k m:Nat} (h:Nx1 w wr v vl X k m):∀ g,vl.ownBlock=some g->w.heap.size+1<=g∧g<wr.heap.size:=λ g hg=>by obtain⟨rs,h1,-⟩:=h.og;exact h1.block g hg
structure Nx2 (w wr:World) (v:Vr) (vl:Value) (X:List Pl) (k m:Nat) (sv:Value) (ss:List Stp):Prop where
 k1:Nx1 w wr v vl X k m
 st:SlV 4 enSt wr (NotIn vl (w.heap.size+1)) sv ss
theorem Nx2.below {w wr w':World} {v:Vr} {vl:Value} {X:List Pl} {k m:Nat} {sv:Value} {ss:List Stp} (h:Nx2 w wr v vl X k m sv ss) (hb:zB wr w'):Nx2 w w' v vl X k m sv ss :=
 ⟨h.k1.below hb,(relV 4 enSt).keep h.st (.below hb)⟩
structure BdF (w8:World) (nb:Bd) (n:Nat) (p10 p11 p12:Prop) (v10 v11:Value) (w':World):Prop where
 bel:Below w8.heap.size w8 w'
 f10:p10->∃ A3 c3 A4 c4,v10=.agg #[.slice A3 n c3,.slice A4 n c4]∧OwnV 2 1 enI w' (λ b=>w8.heap.size<=b∧(p11->v11≠pT b 0)) (.slice A3 n c3) nb.1∧OwnV 2 1 enI w' (λ b=>w8.heap.size<=b∧(p11->v11≠pT b 0)) (.slice A4 n c4) nb.2
 f11:p11->¬ p12->∃ g x y,v11=pT g 0∧w8.heap.size<=g∧RowB w' g 51 [x,y]
 f12:p12->∃ g A3 c3 A4 c4,v11=pT g 0∧w8.heap.size<=g∧RowB w' g 51 [.slice A3 n c3,.slice A4 n c4]∧OwnV 2 1 enI w' (λ b=>w8.heap.size<=b∧b≠g) (.slice A3 n c3) nb.1∧OwnV 2 1 enI w' (λ b=>w8.heap.size<=b∧b≠g) (.slice A4 n c4) nb.2
section
variable {w8 w' w'':World} {nb:Bd} {n:Nat} {p10 p11 p12:Prop} {v10 v11:Value}
theorem BdF.skip {L:Nat->Prop} {vals:Nat->Value} (F:BdF w8 nb n (L 10) (L 11) (L 12) (vals 10) (vals 11) w') (k:Nat) (x:Value) (h10:10≠k:=by decide) (h11:11≠k:=by decide) (h12:12≠k:=by decide) :
  BdF w8 nb n (10=k∨L 10) (11=k∨L 11) (12=k∨L 12) (upd vals k x 10) (upd vals k x 11) w':=by
 rw [or_ne h10,or_ne h11,or_ne h12,upd_ne h10,upd_ne h11];exact F
theorem BdF.s10 (F:BdF w8 nb n p10 p11 p12 v10 v11 w') (n12:¬ p12) {A3 A4:Option Addr} {c3 c4:Nat} (h1:OwnS w'' w'.heap.size w''.heap.size 2 1 enI (.slice A3 n c3) nb.1) (h2:OwnS w'' w'.heap.size w''.heap.size 2 1 enI (.slice A4 n c4) nb.2) (hb:zB w' w'') :
  BdF w8 nb n True p11 p12 (.agg #[.slice A3 n c3,.slice A4 n c4]) v11 w'':=by
 have j:=F.bel.size;have c:∀ b,w'.heap.size<=b->(w8.heap.size<=b∧(p11->v11≠pT b 0)):=λ b a=>⟨by omega,λ h e=>by
  obtain⟨g,x,y,f,i,d⟩:=F.f11 h n12;rw [f] at e;simp only [Value.pointer.injEq,Option.some.injEq,Addr.mk.injEq,and_true] at e;have:=d.lt;omega⟩
 refine⟨F.bel.trans (hb.mono j),λ _=>⟨A3,c3,A4,c4,rfl,OwnV.of h1 lR (λ b a _=>c b a),OwnV.of h2 lR (λ b a _=>c b a)⟩,λ h k=>?_,λ h=>absurd h n12⟩;obtain⟨g,x,y,f,i,d⟩:=F.f11 h k;exact⟨g,x,y,f,i,d.below hb d.lt⟩
theorem BdF.s11 (F:BdF w8 nb n p10 p11 p12 v10 v11 w') (n12:¬ p12) (x y:Value):BdF w8 nb n p10 True p12 v10 (pT w'.heap.size 0) (w'.alloc (.cells ⟨[x,y]⟩ 51)):=by
 have c:=F.bel.size;refine⟨F.bel.alloc c _,λ h=>?_,λ _ _=>⟨_,x,y,rfl,c,nW⟩,λ h=>absurd h n12⟩;obtain⟨p,m,o,k,e,j,i⟩:=F.f10 h;have f:Below w'.heap.size w' (w'.alloc (.cells ⟨[x,y]⟩ 51)):=(zRf).alloc lR _;have a:∀(u:Value) (l:List Int),OwnV 2 1 enI w' (λ b=>w8.heap.size<=b∧(p11->v11≠pT b 0)) u l->OwnV 2 1 enI (w'.alloc (.cells ⟨[x,y]⟩ 51)) (λ b=>w8.heap.size<=b∧(True->pT w'.heap.size 0≠pT b 0)) u l:=λ u l h =>
  ⟨(OwnV.keep h (.below f)).1,λ g d=>⟨(h.2 g d).1,λ _ e=>by
   simp only [Value.pointer.injEq,Option.some.injEq,Addr.mk.injEq,and_true] at e;have:=h.1.2 g d;omega⟩⟩
 exact⟨p,m,o,k,e,a _ _ j,a _ _ i⟩
theorem BdF.s12 (F:BdF w8 nb n p10 p11 p12 v10 v11 w') {A3 A4:Option Addr} {c3 c4 g:Nat} {x y:Value} (h11:p11) (e:v11=pT g 0) (hg:w8.heap.size<=g) (hr:RowB w' g 51 [x,y]) (e2:v10=.agg #[.slice A3 n c3,.slice A4 n c4])
  (h1:OwnV 2 1 enI w' (λ b=>w8.heap.size<=b∧(p11->v11≠pT b 0)) (.slice A3 n c3) nb.1) (h2:OwnV 2 1 enI w' (λ b=>w8.heap.size<=b∧(p11->v11≠pT b 0)) (.slice A4 n c4) nb.2) :
  BdF w8 nb n p10 p11 True v10 v11 ((w'.setCell ⟨g,0,none⟩ (.slice A3 n c3)).setCell ⟨g,1,none⟩ (.slice A4 n c4)):=by
 have a:Still (λ b=>w8.heap.size<=b∧(p11->v11≠pT b 0)) w' ((w'.setCell ⟨g,0,none⟩ (.slice A3 n c3)).setCell ⟨g,1,none⟩ (.slice A4 n c4)) :=
  (Still.grown (grownBy_setCell _ g 0 _) (λ k c d=>by simp at c;subst c;exact d.2 h11 e)).trans (Still.grown (grownBy_setCell _ g 1 _) (λ k c d=>by simp at c;subst c;exact d.2 h11 e))
 have m:=OwnV.keep h1 a;have j:=OwnV.keep h2 a;have i:∀ {u:Value} {l:List Int} {W:World},OwnV 2 1 enI W (λ b=>w8.heap.size<=b∧(p11->v11≠pT b 0)) u l->OwnV 2 1 enI W (λ b=>w8.heap.size<=b∧b≠g) u l:=λ h=>(relO 2 1 enI).weak h (λ b o _=>⟨o.1,λ f=>o.2 h11 (by rw [f];exact e)⟩)
 exact⟨below_two F.bel hg _ _,λ _=>⟨A3,c3,A4,c4,e2,m,j⟩,λ _ h=>absurd trivial h,λ _=>⟨g,A3,c3,A4,c4,e,hg,two_ hr _ _,i m,i j⟩⟩
end
structure NxF (w w9:World) (u8:Value) (Y:List Pl) (sp:List Stp) (s:Stp) (nb:Bd) (a b:Value) (p1 p7 p12 p13 p15 p16 p17 p18:Prop) (v1 v7 v12 v13 v15 v16 v17 v18:Value) (w':World):Prop where
 pre:¬ p17->GoF w9 sp s p1 p7 p12 p13 False v1 v7 v12 v13 undef w'
 f15:p15->v15=.agg #[v13,a,b]
 f16:p16->¬ p17->∃ g,v16=.slice (sA g 0) 1 1∧RowB w' g 98 [v13,a,b]
 f17:p17->∃ g k c,v17=.slice (sA g 0) k c∧OwnG RelP w' (w.heap.size+1) w'.heap.size 98 3 enP v17 (Y++[(sp++[s],nb)])∧w9.grownBy w' u8.ownBlock∧(u8.ownBlock=some g∨w9.heap.size<=g)
 f18:p18->v18=v17
section
variable {w w9 w' w'':World} {u8:Value} {Y:List Pl} {sp:List Stp} {s:Stp} {nb:Bd} {a b:Value} {p1 p7 p12 p13 p15 p16 p17 p18:Prop} {v1 v7 v12 v13 v15 v16 v17 v18 v':Value}
theorem NxF.skip {L:Nat->Prop} {vals:Nat->Value} (F:NxF w w9 u8 Y sp s nb a b (L 1) (L 7) (L 12) (L 13) (L 15) (L 16) (L 17) (L 18) (vals 1) (vals 7) (vals 12) (vals 13) (vals 15) (vals 16) (vals 17) (vals 18) w') (k:Nat) (x:Value) (h1:1≠k:=by decide) (h7:7≠k:=by decide) (h12:12≠k:=by decide) (h13:13≠k:=by decide) (h15:15≠k:=by decide) (h16:16≠k:=by decide) (h17:17≠k:=by decide) (h18:18≠k:=by decide) :
  NxF w w9 u8 Y sp s nb a b (1=k∨L 1) (7=k∨L 7) (12=k∨L 12) (13=k∨L 13) (15=k∨L 15) (16=k∨L 16) (17=k∨L 17) (18=k∨L 18) (upd vals k x 1) (upd vals k x 7) (upd vals k x 12) (upd vals k x 13) (upd vals k x 15) (upd vals k x 16) (upd vals k x 17) (upd vals k x 18) w':=by
 rw [or_ne h1,or_ne h7,or_ne h12,or_ne h13,or_ne h15,or_ne h16,or_ne h17,or_ne h18,upd_ne h1,upd_ne h7,upd_ne h12,upd_ne h13,upd_ne h15,upd_ne h16,upd_ne h17,upd_ne h18];exact F
theorem NxF.early (F:NxF w w9 u8 Y sp s nb a b p1 p7 p12 p13 p15 p16 p17 p18 v1 v7 v12 v13 v15 v16 v17 v18 w') {q1 q7 q12 q13:Prop} {u1 u7 u12 u13:Value} (n15:¬ p15) (n16:¬ p16) (n17:¬ p17) (n18:¬ p18) (h:GoF w9 sp s q1 q7 q12 q13 False u1 u7 u12 u13 undef w'') :
  NxF w w9 u8 Y sp s nb a b q1 q7 q12 q13 p15 p16 p17 p18 u1 u7 u12 u13 v15 v16 v17 v18 w'' :=
 ⟨λ _=>h,λ h=>absurd h n15,λ h=>absurd h n16,λ h=>absurd h n17,λ h=>absurd h n18⟩
theorem NxF.s15 (F:NxF w w9 u8 Y sp s nb a b p1 p7 p12 p13 p15 p16 p17 p18 v1 v7 v12 v13 v15 v16 v17 v18 w') (n16:¬ p16) (n17:¬ p17) (n18:¬ p18) :
  NxF w w9 u8 Y sp s nb a b p1 p7 p12 p13 True p16 p17 p18 v1 v7 v12 v13 (.agg #[v13,a,b]) v16 v17 v18 w' :=
 ⟨F.pre,λ _=>rfl,λ h=>absurd h n16,λ h=>absurd h n17,λ h=>absurd h n18⟩
theorem NxF.s16 (F:NxF w w9 u8 Y sp s nb a b p1 p7 p12 p13 p15 p16 p17 p18 v1 v7 v12 v13 v15 v16 v17 v18 w') (y7:p7) (y13:p13) (n17:¬ p17) (n18:¬ p18) :
  NxF w w9 u8 Y sp s nb a b p1 p7 p12 p13 p15 True p17 p18 v1 v7 v12 v13 v15 (.slice (sA w'.heap.size 0) 1 1) v17 v18 (w'.alloc (.cells ⟨[v13,a,b]⟩ 98)):=by
 have G:=F.pre n17;exact⟨λ _=>⟨G.bel.alloc G.bel.size _,λ _ h=>absurd y7 h,λ _ h=>absurd y13 h,λ _ h=>absurd y13 h,λ h=>((G.f10 h).alloc _).more (by simp),λ h=>h.elim⟩,F.f15,λ _ _=>⟨_,rfl,nW⟩,λ h=>absurd h n17,λ h=>absurd h n18⟩
theorem NxF.s18 (F:NxF w w9 u8 Y sp s nb a b p1 p7 p12 p13 p15 p16 p17 p18 v1 v7 v12 v13 v15 v16 v17 v18 w'):NxF w w9 u8 Y sp s nb a b p1 p7 p12 p13 p15 p16 p17 True v1 v7 v12 v13 v15 v16 v17 v17 w' :=
 ⟨F.pre,F.f15,F.f16,F.f17,λ _=>rfl⟩
theorem NxF.s17 (F:NxF w w9 u8 Y sp s nb a b p1 p7 p12 p13 p15 p16 p17 p18 v1 v7 v12 v13 v15 v16 v17 v18 w') (n18:¬ p18) {g k c:Nat} (e:v'=.slice (sA g 0) k c) (ho:OwnG RelP w'' (w.heap.size+1) w''.heap.size 98 3 enP v' (Y++[(sp++[s],nb)])) (hg:w9.grownBy w'' u8.ownBlock) (hat:u8.ownBlock=some g∨w9.heap.size<=g) :
  NxF w w9 u8 Y sp s nb a b p1 p7 p12 p13 p15 p16 True p18 v1 v7 v12 v13 v15 v16 v' v18 w'' :=
 ⟨λ h=>absurd trivial h,F.f15,λ _ h=>absurd trivial h,λ _=>⟨g,k,c,e,ho,hg,hat⟩,λ h=>absurd h n18⟩
end
theorem next_s (v:Vr) (hv:okV v=true) (m:Nat) (hm:m<=10) (ps:List Pl) (hps:RowOk v m ps) (hN:ps.length<=20000) (d:Int) (hd:1<=d∧d<=6) (u:Value) (S0:Nat->Prop) (w:World) (hu:SlG RelP 3 enP w S0 u ps) :
  Calls prog 143 #[vA v,u,iL d] w λ e w'=>∃ vv,e=.returned vv∧OwnG RelP w' w.heap.size w'.heap.size 98 3 enP vv (nextP v d ps)∧Below w.heap.size w w':=by
 obtain⟨i4,a3,aX,aW,aV⟩:=info_parts infoSt;obtain⟨i3,bD,bv,bt,bs⟩:=info_parts infoP;have bx:=okV_iff.1 hv;obtain⟨Ap,cp,rs,rfl,aY,a0,-⟩:=hu;obtain⟨N,aJ⟩:=eX (ps.length);rw [aJ] at hN ⊢;have aP:=kD aJ;have bm:=kD aY;have aR:=kD a0;have bX:=kD hps;obtain⟨P,hP⟩:∃ P:Nat,v.p=(P:Int):=⟨v.p.toNat,by omega⟩;have HP:=kD hP;have b7:P<=24:=by omega
 have HC:=kD (show v.c<=15 by omega);clear aJ aY a0 hps hP hv bx;go_enter func143,ntmps143;go_upto_region 2 with fail;refine wp_gen (λ W'=>Nx1 w W' v (.slice (sA (w.heap.size+1) 0) 0 0) [] (m+1) 0) ?_ ?_
 ·exact⟨by go_grown,(nW).alloc _,⟨[],RowB.own (xs:=([]:List PRow)) (RowB.new' _ _ _ (by first | simp | go_size | rfl)) enP_len lR (by go_size) (by decide),LsR.nil _ _ _⟩,Coll.nil _ _⟩
 intro w2 K;have O:=K.rv.lt;go_wp2_with fail;go_loopw [7,8] (λ vl i wr=>∃ k:Nat,k<=N∧i=iL (k:Int)∧Nx1 w wr v vl (nxGo v d (ps.take k) []) (m+1) (k*25)) (λ _ i _=>N - (intOf i).toNat)
 case atStart=>exact⟨0,Nat.zero_le _,by first | rfl | trivial,K⟩
 case round =>
  obtain⟨k,hk,rfl,K⟩:=hrel;clear O;have O:=K.rv.lt;by_cases hlt:k<N
  ·obtain⟨b1,o1,r,rfl,-,cl,hr,hc⟩:=(bm.out.keep (.below K.bel)).at_ (i:=k) (by rw [aR.out.1,aP.out];exact hlt);obtain⟨p,hp,hR⟩:=aR.out.at_ hr;have HT:=kD (show nxGo v d (ps.take (k+1)) []=nxIn v p (legalP v p.2 d) (nxGo v d (ps.take k) []) from by rw [takeS hp,nxGo_snoc]);have T:=kD (bX.out p (List.mem_of_getElem? hp));obtain⟨X,hX⟩:=eX (nxGo v d (ps.take k) []);rw [hX] at K HT;clear hX;obtain⟨V,H⟩:=p;obtain⟨r0,rl,rm⟩:=r;have ba:=hR.1.sl enSt_len;have a9:=hR.2.1;have a8:=hR.2.2;simp only at ba a9 a8 T HT;obtain⟨As,cs,rfl,ks,-⟩:=ba;obtain⟨Ao,co,rfl,ko,bf⟩:=a9;obtain⟨At,ct,rfl,kt,bc⟩:=a8;have ci:(k:Int)<(N:Int):=by omega
   have cd:=iW (((k:Int)+1));have a2:=T.out.1.own.len;have a1:=T.out.1.oth.len;obtain⟨n,hn⟩:=eX (P+1);have ar:H.1.length=n:=by have:=HP.out;omega
   have aq:H.2.length=n:=by have:=HP.out;omega
   obtain⟨ns,aH⟩:=eX (V.length);have aO:=kD aH;have bA:ns<=10:=by have:=T.out.2;omega
   have be:=kD bf;have bb:=kD bc;have RS:=kD (λ(o:World) (h:zB w o)=>(ks.rd.below h lR));have RO:=kD (λ(o:World) (h:zB w o)=>(ko.rd.below h lR));have aN:=kD (λ(o:World) (h:zB w o)=>(kt.rd.below h lR));have bZ:=kD ar;have bY:=kD aq;have CL:=kD (λ(o:World) (h:zB w o)=>legal_s v H T.out.1 Ao At co ct w.heap.size d hd o h.size (RO.out o h) (aN.out o h));rw [ar,aq] at CL;have bG:b1<w.heap.size∨True:=.inr trivial;have PC:=kD (λ(o:World) (h:zB w o)=>by
    obtain⟨b2,o2,r2,e2,-,ck,aG,aj⟩:=(bm.out.keep (.below h)).at_ (i:=k) (by rw [aR.out.1,aP.out];exact hlt);simp only [Option.some.injEq,Addr.mk.injEq,and_true] at e2;obtain⟨rfl,rfl⟩:=e2;rw [hr] at aG;simp only [Option.some.injEq] at aG;subst aG;have h0:o.cell? ⟨b1,o1+k*3,none⟩=some (.slice As ns cs):=by have:=aj 0 _ rfl;simp only [aH] at this;exact this
    have h1:o.cell? ⟨b1,o1+k*3+1,none⟩=some (.slice Ao n co):=by have:=aj 1 _ rfl;simp only [ar] at this;exact this
    have h2:o.cell? ⟨b1,o1+k*3+2,none⟩=some (.slice At n ct):=by have:=aj 2 _ rfl;simp only [aq] at this;exact this
    exact(⟨h0,h1,h2⟩:o.cell? ⟨b1,o1+k*3,none⟩=some (.slice As ns cs)∧o.cell? ⟨b1,o1+k*3+1,none⟩=some (.slice Ao n co)∧o.cell? ⟨b1,o1+k*3+2,none⟩=some (.slice At n ct)))
   obtain⟨bF,bE,aj⟩:=PC.out wr K.bel;clear hr hp hR hc ks ko kt bf bc a2 a1 ar aq aH bG;obtain⟨q0,q1,q2,q3⟩:=K.rv.c4;go_wp2_with fail;go_still_tail 7,(by kernel_rfl);go_wp2_with fail;refine(CL.out _ K.bel.drew).mono ?_;rintro e w4 ⟨sv,rfl,aE,a6⟩;have K0:Nx1 w wr.drew v u7 X (m+1) (k*25):=K.below (zRf).drew;have ax:SlV 4 enSt w4 (NotIn u7 (w.heap.size+1)) sv (legalP v H d):=by
    have h1:OwnV 111 4 enSt w4 (NotIn u7 (w.heap.size+1)) sv (legalP v H d):=OwnV.of aE lR (λ b hb _=>⟨λ h=>by have:=(K0.blk b h).2;omega,by have:=K0.rv.lt;omega⟩);exact h1.sl enSt_len
   obtain⟨b3,ab,bz,-⟩:=aE.form enSt_len;have E:Nx2 w w4 v u7 X (m+1) (k*25) sv (legalP v H d):=⟨K0.below a6,ax⟩;subst bz;clear K K0 aE ax a6 bF bE aj q0 q1 q2 q3 O CL;have O:=E.k1.rv.lt;obtain⟨M,hM⟩:=eX ((legalP v H d).length);have HM:=kD hM;have b8:M<=25:=by have:=legal_len v H d;have:=HP.out;omega
   rw [hM] at E ⊢;clear hM;go_wp2_with fail;go_loopw [7,10] (λ vl i wq=>∃ j:Nat,j<=M∧i=iL (j:Int)∧Nx2 w wq v vl (nxIn v (V,H) ((legalP v H d).take j) X) (m+1) (k*25+j) (.slice b3 M ab) (legalP v H d)) (λ _ i _=>M - (intOf i).toNat)
   case atStart=>exact⟨0,Nat.zero_le _,by first | rfl | trivial,E⟩
   case round =>
    obtain⟨j,hj,rfl,E⟩:=hrel;clear O;have O:=E.k1.rv.lt;by_cases hlj:j<M
    ·obtain⟨A5,c5,e5,az,-⟩:=E.st;simp only [Value.slice.injEq] at e5;obtain⟨rfl,-,rfl⟩:=e5;obtain⟨b5,o5,s,rfl,-,a5,aF,a4⟩:=az.at_ (i:=j) (by rw [HM.out];exact hlj);have bk:=kD (List.mem_of_getElem? aF);have ay:StOk v s:=legal_parts hd.1 T.out.1 bk.out;obtain⟨W,ao⟩:=eX (afterP v H s);have aQ:=kD (show Ok v W from by rw [<-ao];exact legal_ok hd.1 T.out.1 bk.out);have HS:=kD (show nxIn v (V,H) ((legalP v H d).take (j+1)) X=addOne (nxIn v (V,H) ((legalP v H d).take j) X) (V++[s],W) from by rw [takeS aF,nxIn_snoc,ao]);obtain⟨Y,hY⟩:=eX (nxIn v (V,H) ((legalP v H d).take j) X);rw [hY] at E HS;have ai:W.1.length=n:=by have:=aQ.out.own.len;have:=HP.out;omega
     have ah:W.2.length=n:=by have:=aQ.out.oth.len;have:=HP.out;omega
     have CA:=kD (λ(o:World) (h:zB w o)=>after_s v H T.out.1 Ao At co ct w.heap.size s ay o h.size (RO.out o h) (aN.out o h) be.out bb.out);rw [ao,bZ.out,bY.out] at CA;obtain⟨sf,I,sd,sh⟩:=s;have J:=kD (λ(o:World) (h:zB wr o)=>by
      have e:=λ(i:Nat) (u:Value) (hu:(enSt (sf,I,sd,sh))[i]?=some u)=>((Below.cell h (p:=⟨b5,o5+j*4+i,none⟩) a5).trans (a4 i u hu))
      have h0:o.cell? ⟨b5,o5+j*4,none⟩=some (iL sf):=e 0 _ rfl;exact(⟨h0,e 1 _ rfl,e 2 _ rfl,e 3 _ rfl⟩:o.cell? ⟨b5,o5+j*4,none⟩=some (iL sf)∧o.cell? ⟨b5,o5+j*4+1,none⟩=some (iL I)∧o.cell? ⟨b5,o5+j*4+2,none⟩=some (iL sd)∧o.cell? ⟨b5,o5+j*4+3,none⟩=some (.bool sh)))
     have cj:(j:Int)<(M:Int):=by omega
     have ce:=iW (((j:Int)+1));simp only at CA;have aS:w.heap.size<=wr.heap.size:=E.k1.bel.size;have D:=kD E.k1.bel;have S:=kD E.k1.rv;clear hY ao aF a4 ay az a5;go_wp2_with fail;refine rG [some 33,some 34,some 35,some 36,some 37,some 38,some 39,some 40,some 41,some 42,some 43,some 11,none] 13 (Pl [some (vA v),some (.slice (sA b1 o1) N cp),some (iL (k:Int)),some (pT b1 (o1+k*3)),some (pT b1 (o1+k*3+1)),some (.agg #[.slice Ao n co,.slice At n ct]),some (.slice (sA b5 o5) M ab),some (iL (j:Int)),some (pT b5 (o5+j*4)),some (.agg #[iL sf,iL I,iL sd,.bool sh]),none,none,none]) (λ L f w'=>BdF wr W n (L 10) (L 11) (L 12) (f 10) (f 11) w') ?g0_1 ?gst_1 ?gfin_1
     case g0_1=>exact⟨(zRf).drew,λ h=>absurd h (by decide),λ h=>absurd h (by decide),λ h=>absurd h (by decide)⟩
     case gst_1 =>
      refine rN rfl (λ L f A o a B l U F K C=>?_) ?_
      ·have e3:=U.w 3 (pT w.heap.size 0);have t:=D.out.trans (F.bel.mono D.out.size);obtain⟨c0,c1,c2⟩:=PC.out o t;obtain⟨d0,d1,d2,d3⟩:=J.out o F.bel;obtain⟨q0,q1,q2,q3⟩:=(S.out.below F.bel S.out.lt).c4;clear t;go_simp;exact pF C (F.skip 0 _)
      refine rN rfl (λ L f A o a B l U F K C=>?_) ?_
      ·have e1:=U.w 1 (.slice (sA b1 o1) N cp);have t:=D.out.trans (F.bel.mono D.out.size);have pc:=PC.out o t;have sc:=J.out o F.bel;clear t pc sc;go_simp;exact pF C (F.skip 1 _)
      refine rN rfl (λ L f A o a B l U F K C=>?_) ?_
      ·have e8:=U.w 8 (iL (k:Int));have t:=D.out.trans (F.bel.mono D.out.size);have pc:=PC.out o t;have sc:=J.out o F.bel;clear t pc sc;go_simp;exact pF C (F.skip 2 _)
      refine rN rfl (λ L f A o a B l U F K C=>?_) ?_
      ·have cN:=U.v 1 34;have cM:=U.v 2 35;have t:=D.out.trans (F.bel.mono D.out.size);have pc:=PC.out o t;have sc:=J.out o F.bel;clear t pc sc;go_simp;exact pF C (F.skip 3 _)
      refine rN rfl (λ L f A o a B l U F K C=>?_) ?_
      ·have cL:=U.v 3 36;have t:=D.out.trans (F.bel.mono D.out.size);obtain⟨c0,c1,c2⟩:=PC.out o t;obtain⟨d0,d1,d2,d3⟩:=J.out o F.bel;obtain⟨q0,q1,q2,q3⟩:=(S.out.below F.bel S.out.lt).c4;clear t;go_simp;exact pF C (F.skip 4 _)
      refine rN rfl (λ L f A o a B l U F K C=>?_) ?_
      ·have cK:=U.v 4 37;have t:=D.out.trans (F.bel.mono D.out.size);obtain⟨c0,c1,c2⟩:=PC.out o t;obtain⟨d0,d1,d2,d3⟩:=J.out o F.bel;obtain⟨q0,q1,q2,q3⟩:=(S.out.below F.bel S.out.lt).c4;clear t;go_simp;exact pF C (F.skip 5 _)
      refine rN rfl (λ L f A o a B l U F K C=>?_) ?_
      ·have e9:=U.w 9 (.slice (sA b5 o5) M ab);have t:=D.out.trans (F.bel.mono D.out.size);have pc:=PC.out o t;have sc:=J.out o F.bel;clear t pc sc;go_simp;exact pF C (F.skip 6 _)
      refine rN rfl (λ L f A o a B l U F K C=>?_) ?_
      ·have bS:=U.w 10 (iL (j:Int));have t:=D.out.trans (F.bel.mono D.out.size);have pc:=PC.out o t;have sc:=J.out o F.bel;clear t pc sc;go_simp;exact pF C (F.skip 7 _)
      refine rN rfl (λ L f A o a B l U F K C=>?_) ?_
      ·have cI:=U.v 6 39;have cH:=U.v 7 40;have t:=D.out.trans (F.bel.mono D.out.size);have pc:=PC.out o t;have sc:=J.out o F.bel;clear t pc sc;go_simp;exact pF C (F.skip 8 _)
      refine rN rfl (λ L f A o a B l U F K C=>?_) ?_
      ·have cG:=U.v 8 41;have t:=D.out.trans (F.bel.mono D.out.size);obtain⟨c0,c1,c2⟩:=PC.out o t;obtain⟨d0,d1,d2,d3⟩:=J.out o F.bel;obtain⟨q0,q1,q2,q3⟩:=(S.out.below F.bel S.out.lt).c4;clear t;go_simp;exact pF C (F.skip 9 _)
      refine rN rfl (λ L f A o a B l U F K C=>?_) ?_
      ·have cO:=U.v 0 33;have cJ:=U.v 5 38;have cF:=U.v 9 42;have t:=D.out.trans (F.bel.mono D.out.size);go_simp;refine(CA.out o t).mono ?_;rintro e w6 ⟨A3,c3,A4,c4,rfl,h3,h4,cm,bH⟩;rw [ai] at h3;rw [ah] at h4;simp only [ai,ah];exact C.out _ w6 (Pl.any rfl) (by simpa [upd] using F.s10 (λ h=>a (l 12 10 (by kernel_rfl) h)) h3 h4 bH)
      refine rN rfl (λ L f A o a B l U F K C=>?_) ?_
      ·go_simp;exact C.out _ _ (Pl.any rfl) (by simpa [upd] using F.s11 (λ h=>a (l 12 11 (by kernel_rfl) h)) _ _)
      refine rN rfl (λ L f A o a B l U F K C=>?_) ?_
      ·have af:=U.x 11 11;have bi:=U.x 10 43;have bq:=F.f10 (bK B 10);have bp:=F.f11 (bK B 11) a;refine bp.elim λ g q=>?_
       refine q.elim λ x q=>?_
       refine q.elim λ y q=>?_
       refine bq.elim λ A3 z=>?_
       refine z.elim λ c3 z=>?_
       refine z.elim λ A4 z=>?_
       refine z.elim λ c4 z=>?_
       have cc:=af.trans q.1;have cb:=bi.trans z.1;obtain⟨x0,x1⟩:=q.2.2.c2;have xf:=q.2.2.frozen;clear af bi;go_simp;exact C.out undef _ (Pl.any rfl) (by simpa [upd] using F.s12 (bK B 11) q.1 q.2.1 q.2.2 z.1 z.2.1 z.2.2)
      exact RelFrom.nil (by decide)
     case gfin_1 =>
      intro f o hp F;simp only [Fr,Act.put,sX,Nat.reduceAdd];obtain⟨bL,A3,c3,A4,c4,af,ad,rn,o3,o4⟩:=F.f12 trivial;have ap:=F.bel;clear F hp;rw [af];have ae:=E.k1.blk;have aK:∀ b,wr.heap.size<=b->NotIn u7 (w.heap.size+1) b:=λ b hb=>⟨λ h=>by have:=(ae b h).2;omega,by omega⟩
      have aw:SlV 1 enI o (NotIn u7 (w.heap.size+1)) (.slice A3 n c3) W.1:=((relO 2 1 enI).weak o3 (λ b hb _=>aK b hb.1):OwnV 2 1 enI o _ _ W.1).sl enI_len;have av:SlV 1 enI o (NotIn u7 (w.heap.size+1)) (.slice A4 n c4) W.2:=((relO 2 1 enI).weak o4 (λ b hb _=>aK b hb.1):OwnV 2 1 enI o _ _ W.2).sl enI_len;have E:=E.below ap;have J:=kD (λ(w8:World) (h:zB o w8)=>J.out w8 (ap.tR h));clear o3 o4 aK ae af CA D S aS O;have O:=E.k1.rv.lt;have bC:=rn.lt;obtain⟨z0,z1⟩:=rn.c2;have FI:=kD (by
       obtain⟨Ax,cx,ex,kx,-⟩:=aw;obtain⟨Ay,cy,ey,ky,-⟩:=av;simp only [Value.slice.injEq] at ex ey;obtain⟨rfl,-,rfl⟩:=ex;obtain⟨rfl,-,rfl⟩:=ey;exact find_s Y W n (by omega) (row_sides E.k1.co.ok (by have:=HP.out;omega)) ai ah u7 A3 A4 c3 c4 o.heap.size o lR ((relSl RelP 3 enP).weak (E.k1.og.sl enP_len lR) (λ _ _ _=>trivial)) kx.rd ky.rd)
      have ai:=kD ai;have ah:=kD ah;go_wp2_with fail;refine FI.out.mono ?_;rintro e w8 ⟨r,rfl,hr,aa⟩;have E:=E.below aa;have rn:=rn.below aa rn.lt;have aw:=(relV 1 enI).keep aw (.below aa);have av:=(relV 1 enI).keep av (.below aa);have J:=kD (λ(w7:World) (h:zB w8 w7)=>J.out w7 (aa.tR h));clear z0 z1 O bC aa FI ap;obtain⟨x,hx⟩:=eX (hasB Y W);rw [hx] at hr;have HX:=kD hx;clear hx
      cases x
      case true =>
       have hr:decide (r<0)=false:=hr;have bl:nxIn v (V,H) ((legalP v H d).take (j+1)) X=Y:=by rw [HS.out];exact addOne_has HX.out
       have K9:Nx2 w w8 v u7 (nxIn v (V,H) ((legalP v H d).take (j+1)) X) (m+1) (k*25+(j+1)) (.slice (sA b5 o5) M ab) (legalP v H d):=by
        rw [bl];exact⟨⟨E.k1.bel,E.k1.rv,E.k1.og,E.k1.co.more (by omega)⟩,E.st⟩
       clear E bl;go_wp2_with fail;go_roundw
       case rel=>exact⟨j+1,by omega,by go_num,K9⟩
       case measure=>simp [intOf];omega
      case false =>
       have hr:decide (r<0)=true:=hr;have b4:Y.length<=1000000:=by have:=E.k1.co.len;omega
       have bW:=kD (show nxIn v (V,H) ((legalP v H d).take (j+1)) X=Y++[(V++[(sf,I,sd,sh)],W)] from by rw [HS.out];exact addOne_new HX.out);have aI:=E.k1.co.add (p:=(V++[(sf,I,sd,sh)],W)) ⟨aQ.out,by simp [T.out.2]⟩;rw [addOne_new (show hasB Y W=false from HX.out)] at aI;have cf:w.heap.size+1<=w8.heap.size:=E.k1.rv.lt;have D:=kD E.k1.bel;have S:=kD E.k1.rv;have OG:=kD E.k1.og;have bU:=kD E.st;have RN:=kD rn;have bV:=kD (RS.out w8 D.out);have aS:w.heap.size<=w8.heap.size:=by omega
       have ae:=kD E.k1.blk;obtain⟨aU,aA⟩:=eX ((V++[(sf,I,sd,sh)]).length);have aC:=kD aA;have b0:=kD aI;clear E rn HX HS aA aI RS RO aN;go_wp2_with fail;refine rG [some 48,some 49,some 50,some 51,some 52,some 53,some 54,some 55,some 56,some 57,some 58,some 59,some 60,some 61,some 62,some 63,some 64,some 65,some 7] 19 (Pl [some (u7),none,some (.slice (sA b1 o1) N cp),some (iL (k:Int)),some (pT b1 (o1+k*3)),some (pT b1 (o1+k*3)),some (.slice As ns cs),none,some (.slice (sA b5 o5) M ab),some (iL (j:Int)),some (pT b5 (o5+j*4)),some (.agg #[iL sf,iL I,iL sd,.bool sh]),none,none,some (.agg #[.slice A3 n c3,.slice A4 n c4]),none,none,none,none]) (λ L f w'=>NxF w w8 u7 Y V (sf,I,sd,sh) W (.slice A3 n c3) (.slice A4 n c4) (L 1) (L 7) (L 12) (L 13) (L 15) (L 16) (L 17) (L 18) (f 1) (f 7) (f 12) (f 13) (f 15) (f 16) (f 17) (f 18) w') ?g0_2 ?gst_2 ?gfin_2
       case g0_2=>exact⟨λ _=>⟨(zRf).drew,λ h=>absurd h (by decide),λ h=>absurd h (by decide),λ h=>absurd h (by decide),λ h=>absurd h (by decide),λ h=>h.elim⟩,λ h=>absurd h (by decide),λ h=>absurd h (by decide),λ h=>absurd h (by decide),λ h=>absurd h (by decide)⟩
       case gst_2 =>
        refine rN rfl (λ L f A o a B l U F K C=>?_) ?_
        ·have e7:A.tmps[7]?.getD undef=u7:=U.z 7 (λ j hl hj=>by obtain rfl:=nd_of _ (by kernel_rfl) j 18 7 hj rfl;exact a (l 18 0 (by kernel_rfl) hl));go_simp;exact pF C (F.skip 0 _)
        refine rN rfl (λ L f A o a B l U F K C=>?_) ?_
        ·have G:=F.pre (λ h=>a (l 17 1 (by kernel_rfl) h));go_simp;exact C.out _ _ (Pl.any rfl) (by simpa [upd] using F.early (λ h=>a (l 15 1 (by kernel_rfl) h)) (λ h=>a (l 16 1 (by kernel_rfl) h)) (λ h=>a (l 17 1 (by kernel_rfl) h)) (λ h=>a (l 18 1 (by kernel_rfl) h)) (G.s4 (λ h=>a (l 7 1 (by kernel_rfl) h)) (λ h=>a (l 13 1 (by kernel_rfl) h)) (λ h=>h) (RowB.own (xs:=([]:List Stp)) (nW) enSt_len G.bel.size (by simp) (by decide)) (World.grownBy_alloc _ _ _)))
        refine rN rfl (λ L f A o a B l U F K C=>?_) ?_
        ·have e1:=U.w 1 (.slice (sA b1 o1) N cp);go_simp;exact pF C (F.skip 2 _)
        refine rN rfl (λ L f A o a B l U F K C=>?_) ?_
        ·have e8:=U.w 8 (iL (k:Int));go_simp;exact pF C (F.skip 3 _)
        refine rN rfl (λ L f A o a B l U F K C=>?_) ?_
        ·have cE:=U.v 2 50;have cD:=U.v 3 51;have G:=F.pre (λ h=>a (l 17 4 (by kernel_rfl) h));have t:=D.out.trans (G.bel.mono D.out.size);have pc:=PC.out o t;have sc:=J.out o G.bel;clear t pc sc;go_simp;exact pF C (F.skip 4 _)
        refine rN rfl (λ L f A o a B l U F K C=>?_) ?_
        ·have cC:=U.v 4 52;have G:=F.pre (λ h=>a (l 17 5 (by kernel_rfl) h));obtain⟨z0,z1⟩:=(RN.out.below G.bel RN.out.lt).c2;have t:=D.out.trans (G.bel.mono D.out.size);obtain⟨c0,c1,c2⟩:=PC.out o t;obtain⟨d0,d1,d2,d3⟩:=J.out o G.bel;obtain⟨q0,q1,q2,q3⟩:=(S.out.below G.bel S.out.lt).c4;clear t;go_simp;exact pF C (F.skip 5 _)
        refine rN rfl (λ L f A o a B l U F K C=>?_) ?_
        ·have cB:=U.v 5 53;have G:=F.pre (λ h=>a (l 17 6 (by kernel_rfl) h));obtain⟨z0,z1⟩:=(RN.out.below G.bel RN.out.lt).c2;have t:=D.out.trans (G.bel.mono D.out.size);obtain⟨c0,c1,c2⟩:=PC.out o t;obtain⟨d0,d1,d2,d3⟩:=J.out o G.bel;obtain⟨q0,q1,q2,q3⟩:=(S.out.below G.bel S.out.lt).c4;clear t;go_simp;exact pF C (F.skip 6 _)
        refine rN rfl (λ L f A o a B l U F K C=>?_) ?_
        ·have bQ:=U.x 1 49;have bP:=U.v 6 54;have G:=F.pre (λ h=>a (l 17 7 (by kernel_rfl) h));have o4:=G.f4 (bK B 1) a;refine wp_app (en:=enSt) _ _ _ rfl w8.heap.size o.heap.size 111 i4 (.agg #[iL 0,iL 0,iL 0,.bool false]) 4 32 Tryz.underlying26 a3 aX aW aV rfl (by decide) enSt_len (f 1) [] V (λ x _=>one_St x) (ev bQ) o4 As ns cs w.heap.size (ev bP) aO.out.symm (bV.out.below G.bel aS) (by unfold maxLen;simp;omega) (by simp;omega) G.bel.size lR ?_;intro v' aD ag ad al;exact C.out _ aD (Pl.any rfl) (by simpa [upd] using F.early (λ h=>a (l 15 7 (by kernel_rfl) h)) (λ h=>a (l 16 7 (by kernel_rfl) h)) (λ h=>a (l 17 7 (by kernel_rfl) h)) (λ h=>a (l 18 7 (by kernel_rfl) h)) (G.s7 (bK B 1) a (λ h=>a (l 13 7 (by kernel_rfl) h)) (λ h=>h) (by simpa using ag) ad al))
        refine rN rfl (λ L f A o a B l U F K C=>?_) ?_
        ·have e9:=U.w 9 (.slice (sA b5 o5) M ab);go_simp;exact pF C (F.skip 8 _)
        refine rN rfl (λ L f A o a B l U F K C=>?_) ?_
        ·have bS:=U.w 10 (iL (j:Int));go_simp;exact pF C (F.skip 9 _)
        refine rN rfl (λ L f A o a B l U F K C=>?_) ?_
        ·have cA:=U.v 8 56;have cz:=U.v 9 57;have G:=F.pre (λ h=>a (l 17 10 (by kernel_rfl) h));have t:=D.out.trans (G.bel.mono D.out.size);have pc:=PC.out o t;have sc:=J.out o G.bel;clear t pc sc;go_simp;exact pF C (F.skip 10 _)
        refine rN rfl (λ L f A o a B l U F K C=>?_) ?_
        ·have cw:=U.v 10 58;have G:=F.pre (λ h=>a (l 17 11 (by kernel_rfl) h));obtain⟨z0,z1⟩:=(RN.out.below G.bel RN.out.lt).c2;have t:=D.out.trans (G.bel.mono D.out.size);obtain⟨c0,c1,c2⟩:=PC.out o t;obtain⟨d0,d1,d2,d3⟩:=J.out o G.bel;obtain⟨q0,q1,q2,q3⟩:=(S.out.below G.bel S.out.lt).c4;clear t;go_simp;exact pF C (F.skip 11 _)
        refine rN rfl (λ L f A o a B l U F K C=>?_) ?_
        ·have cv:=U.v 11 59;have G:=F.pre (λ h=>a (l 17 12 (by kernel_rfl) h));go_simp;exact C.out _ _ (Pl.any rfl) (by simpa [upd,enSt] using F.early (λ h=>a (l 15 12 (by kernel_rfl) h)) (λ h=>a (l 16 12 (by kernel_rfl) h)) (λ h=>a (l 17 12 (by kernel_rfl) h)) (λ h=>a (l 18 12 (by kernel_rfl) h)) (G.s9 (λ h=>a (l 13 12 (by kernel_rfl) h)) (λ h=>h)))
        refine rN rfl (λ L f A o a B l U F K C=>?_) ?_
        ·have bO:=U.x 7 55;have bN:=U.x 12 60;have G:=F.pre (λ h=>a (l 17 13 (by kernel_rfl) h));have o7:=G.f7 (bK B 7) a;have q9:=G.f9 (bK B 12) a;refine q9.elim λ g9 q9=>?_
         refine wp_app (en:=enSt) _ _ _ rfl w8.heap.size o.heap.size 111 i4 (.agg #[iL 0,iL 0,iL 0,.bool false]) 4 32 Tryz.underlying26 a3 aX aW aV rfl (by decide) enSt_len (f 7) V [(sf,I,sd,sh)] (λ x _=>one_St x) (ev bO) o7 (sA g9 0) 1 1 (g9+1) ((ev bN).trans q9.1) rfl (rd_row q9.2.2.1 (Nat.lt_succ_self _)) (by rw [aO.out];unfold maxLen;omega) (by rw [aO.out];omega) G.bel.size lR ?_;intro v' aD ag ad al;exact C.out _ aD (Pl.any rfl) (by simpa [upd] using F.early (λ h=>a (l 15 13 (by kernel_rfl) h)) (λ h=>a (l 16 13 (by kernel_rfl) h)) (λ h=>a (l 17 13 (by kernel_rfl) h)) (λ h=>a (l 18 13 (by kernel_rfl) h)) (G.s10 (bK B 7) a (λ h=>h) ag ad))
        refine rN rfl (λ L f A o a B l U F K C=>?_) ?_
        ·have af:=U.w 11 (pT bL 0);have G:=F.pre (λ h=>a (l 17 14 (by kernel_rfl) h));obtain⟨z0,z1⟩:=(RN.out.below G.bel RN.out.lt).c2;have t:=D.out.trans (G.bel.mono D.out.size);obtain⟨c0,c1,c2⟩:=PC.out o t;obtain⟨d0,d1,d2,d3⟩:=J.out o G.bel;obtain⟨q0,q1,q2,q3⟩:=(S.out.below G.bel S.out.lt).c4;clear t;go_simp;exact pF C (F.skip 14 _)
        refine rN rfl (λ L f A o a B l U F K C=>?_) ?_
        ·have bh:=U.x 13 61;have cr:=U.v 14 62;have G:=F.pre (λ h=>a (l 17 15 (by kernel_rfl) h));have an:=G.f10 (bK B 13);refine(an.form enSt_len).elim λ aT Q=>?_
         refine Q.elim λ aM Q=>?_
         have ac:f 13=.slice aT aU aM:=by rw [<-aC.out];exact Q.1
         clear Q;have ca:=bh.trans ac;clear bh;go_simp;exact C.out _ _ (Pl.any rfl) (by rw [<-ac];simpa [upd] using F.s15 (λ h=>a (l 16 15 (by kernel_rfl) h)) (λ h=>a (l 17 15 (by kernel_rfl) h)) (λ h=>a (l 18 15 (by kernel_rfl) h)))
        refine rN rfl (λ L f A o a B l U F K C=>?_) ?_
        ·have bg:=U.x 15 63;have b9:=bg.trans (F.f15 (bK B 15));clear bg;go_simp;exact C.out _ _ (Pl.any rfl) (by simpa [upd] using F.s16 (bK B 7) (bK B 13) (λ h=>a (l 17 16 (by kernel_rfl) h)) (λ h=>a (l 18 16 (by kernel_rfl) h)))
        refine rN rfl (λ L f A o a B l U F K C=>?_) ?_
        ·have bR:=U.v 0 48;have bM:=U.x 16 64;have G:=F.pre a;have an:=G.f10 (bK B 13);refine(an.form enSt_len).elim λ aT Q=>?_
         refine Q.elim λ aM Q=>?_
         have ac:f 13=.slice aT aU aM:=by rw [<-aC.out];exact Q.1
         clear Q;have am:=F.f16 (bK B 16) a;refine am.elim λ bJ am=>?_
         refine((OG.out.below_ G.bel).more G.bel.size:OwnG RelP o (w.heap.size+1) o.heap.size 98 3 enP u7 Y).elim λ bo hq=>?_
         have cg:=hq.2.1;refine wp_one _ _ _ rfl (w.heap.size+1) o.heap.size 98 i3 (.agg #[.slice none 0 0,.slice none 0 0,.slice none 0 0]) 3 72 Tryz.underlying94 bD bv bt bs rfl (by decide) enP_len u7 bo (f 13,.slice A3 n c3,.slice A4 n c4) (one_P _ ⟨by rw [ac];rfl,rfl,rfl⟩) (ev bR) hq.1 bJ 1 98 ((ev bM).trans am.1) am.2 (by unfold maxLen;omega) (by omega) (by have:=G.bel.size;omega) ?_;intro cn cP bn aZ aB ak bB;have bw:RelP.R o (NotIn u7 (w.heap.size+1)) (f 13,.slice A3 n c3,.slice A4 n c4) (V++[(sf,I,sd,sh)],W):=⟨OwnV.of an lR (λ b hb _=>⟨λ h=>by have:=(ae.out b h).2;omega,by omega⟩),(relV 1 enI).keep aw (.below G.bel),(relV 1 enI).keep av (.below G.bel)⟩;exact C.out _ bn (Pl.any rfl) (by simpa [upd] using F.s17 (λ h=>a (l 18 17 (by kernel_rfl) h)) rfl (own_snoc hq.2 bw aZ aB ak) (below_grown G.bel aB) (ak.imp (λ h=>h) (λ h=>by rw [h];exact G.bel.size)))
        refine rN rfl (λ L f A o a B l U F K C=>?_) ?_
        ·have cq:=U.x 17 65;go_simp;exact C.out _ o (Pl.any rfl) (by simpa [upd] using F.s18)
        exact RelFrom.nil (by decide)
       case gfin_2 =>
        intro f o hp F;simp only [Fr,Act.put,sX,Nat.reduceAdd];obtain⟨bI,br,bT,bj,ho,hg,a7⟩:=F.f17 trivial;have aL:=F.f18 trivial;rw [bj] at aL ho;clear F hp bj;rw [aL];have b6:=hg.size;have K9:Nx2 w o v (.slice (sA bI 0) br bT) (nxIn v (V,H) ((legalP v H d).take (j+1)) X) (m+1) (k*25+(j+1)) (.slice (sA b5 o5) M ab) (legalP v H d):=by
         rw [bW.out];exact⟨⟨D.out.grown hg D.out.size (λ g h=>by have:=(ae.out g h).1;omega),S.out.grown hg (λ g h=>by have:=(ae.out g h).1;omega),ho,b0.out⟩,app_still' (K:=relV 4 enSt) hg a7 bU.out⟩
        clear ho hg a7 aL;go_wp2_with fail;go_roundw
        case rel=>exact⟨j+1,by omega,by go_num,K9⟩
        case measure=>simp [intOf];omega
    ·obtain rfl:j=M:=by omega
     have Z:nxIn v (V,H) ((legalP v H d).take j) X=nxGo v d (ps.take (k+1)) []:=by rw [<-HM.out,List.take_length];exact HT.out.symm
     have K9:=E.k1;rw [Z] at K9;have K9:Nx1 w wr v u7 (nxGo v d (ps.take (k+1)) []) (m+1) ((k+1)*25):=⟨K9.bel,K9.rv,K9.og,K9.co.more (by omega)⟩;clear E Z;go_wp2_with fail;go_roundw
     case rel=>exact⟨k+1,by omega,by go_num,K9⟩
     case measure=>simp [intOf];omega
  ·obtain rfl:k=N:=by omega
   have Z:nxGo v d (ps.take k) []=nextP v d ps:=by rw [<-aP.out,List.take_length];rfl
   rw [Z] at K;have ch:¬ ((k:Int)<(k:Int)):=by omega
   clear Z;go_wp2_with fail;go_ret;exact⟨_,rfl,K.og.less (by omega),K.bel⟩
end Bd18
namespace Bd19
open Go.ChangeShapes Go.WideShapes Go.ChangeAt Go.RowKit Base Ints Own Clone RelG PlP Bd1 Bd4 Bd5 Bd6 Bd7 Bd7S Bd8 Bd9 Bd11 RegInv RegF RegG Bd16 Bd17
abbrev RelQ:Rel Value (List Pl):=relSl RelP 3 enP
theorem infoQ:(Tryz.prog.info? 94).map (λ i=>(i.zero,i.size,i.bytes))=some (some (.slice none 0 0),1,24):=by kernel_rfl
theorem rows_zero {v:Vr} {d:Int} {ds:List Int} {R:List (List Pl)} {f:Bool} (h:(nextP v d (R.getLastD [])).length=0):rowsGo v (d :: ds) R f=(R,f):=by
 simp only [rowsGo];rw [if_pos h]
theorem rows_more {v:Vr} {d:Int} {ds:List Int} {R:List (List Pl)} {f:Bool} (h:¬ (nextP v d (R.getLastD [])).length=0):rowsGo v (d :: ds) R f=rowsGo v ds (R++[nextP v d (R.getLastD [])]) (f && decide ((nextP v d (R.getLastD [])).length<=3000)):=by
 simp only [rowsGo];rw [if_neg h]
theorem drop_at {l:List Int} {i:Nat} (h:i<l.length):l.drop i=at_ l i :: l.drop (i+1):=by
 have a:=at_get h;rw [List.getElem?_eq_getElem h] at a;rw [List.drop_eq_getElem_cons h];simp only [Option.some.injEq] at a;rw [a]
theorem last_of {R:List (List Pl)} {i:Nat} (h:R.length=i+1):R[i]?=some (R.getLastD []):=by
 rw [List.getLastD_eq_getLast?,List.getLast?_eq_getElem?,h,Nat.add_sub_cancel];rw [List.getElem?_eq_getElem (by omega)];rfl
theorem OwnG.form {ρ α:Type} {K:Rel ρ α} {w:World} {lo hi sz:Nat} {e:TypeId} {en:ρ->List Value} {v:Value} {xs:List α} (hen:∀ x,(en x).length=sz) (h:OwnG K w lo hi e sz en v xs):∃ A c,v=.slice A xs.length c∧(A=none->c=0):=by
 obtain⟨i,b,f⟩:=h;obtain⟨A,c,a,-⟩:=b.form hen;refine⟨A,c,by rw [a,f.1],λ d=>?_⟩;rcases b.cases_ with ⟨e2,_⟩ | ⟨g,cap,rest,e2,_⟩
 ·rw [a] at e2;simp only [Value.slice.injEq] at e2;exact e2.2.2
 ·rw [a,d] at e2;simp only [Value.slice.injEq] at e2;exact absurd e2.1 (by simp)
structure Sq (w wr:World) (v:Vr) (vl:Value) (R:List (List Pl)):Prop where
 bel:Below w.heap.size w wr
 rv:RowB wr w.heap.size 25 (vL v)
 og:OwnG RelQ wr (w.heap.size+2) wr.heap.size 94 1 en1 vl R
theorem Sq.below {w wr w':World} {v:Vr} {vl:Value} {R:List (List Pl)} (h:Sq w wr v vl R) (hb:zB wr w'):Sq w w' v vl R :=
 ⟨h.bel.tR hb,h.rv.below hb h.rv.lt,(h.og.below_ hb).more hb.size⟩
theorem pow_le {i:Nat} (h:i<=3):25 ^ i<=20000:=by
 have:i=0∨i=1∨i=2∨i=3:=by omega
 rcases this with rfl | rfl | rfl | rfl <;> decide
theorem first_row {W:World} {b:Bd} {n g1 g2 lo:Nat} {A1 A2:Option Addr} {c1 c2:Nat} (h1:RowB W g1 98 [.slice none 0 0,.slice A1 n c1,.slice A2 n c2]) (h2:RowB W g2 94 [.slice (sA g1 0) 1 1]) (hg:g1≠g2) (l1:lo<=g1) (l2:lo<=g2)
  (k1:SlV 1 enI W (λ x=>lo<=x∧x≠g2) (.slice A1 n c1) b.1) (k2:SlV 1 enI W (λ x=>lo<=x∧x≠g2) (.slice A2 n c2) b.2):OwnG RelQ W lo W.heap.size 94 1 en1 (.slice (sA g2 0) 1 1) [[([],b)]]:=by
 have d:∀ x,(lo<=x∧x≠g2)->NotIn (.slice (sA g2 0) 1 1) lo x:=λ x a=>⟨λ e=>a.2 (by simp [Value.ownBlock] at e;exact e.symm),a.1⟩
 refine⟨[.slice (sA g1 0) 1 1],RowB.own (xs:=[Value.slice (sA g1 0) 1 1]) h2 en1_len l2 h2.lt (show 1<=maxLen by decide),LsR.snoc (LsR.nil _ _ _) ?_⟩;have j:OwnS W 0 W.heap.size 98 3 enP (.slice (sA g1 0) 1 1) [((.slice none 0 0,.slice A1 n c1,.slice A2 n c2):PRow)]:=RowB.own (xs:=[((.slice none 0 0,.slice A1 n c1,.slice A2 n c2):PRow)]) h1 enP_len (Nat.zero_le _) h1.lt (show 1<=maxLen by decide);have f:OwnV 98 3 enP W (λ x=>lo<=x∧x≠g2) (.slice (sA g1 0) 1 1) [((.slice none 0 0,.slice A1 n c1,.slice A2 n c2):PRow)]:=⟨j,λ g h=>by simp [Value.ownBlock] at h;subst h;exact⟨l1,hg⟩⟩;obtain⟨A,c,l,i,k⟩:=f.sl enP_len;refine RelQ.weak (S:=λ x=>lo<=x∧x≠g2) ⟨A,c,_,l,i,?_,k⟩ (λ x a _=>d x a);exact LsR.snoc (LsR.nil _ _ _) ⟨⟨OwnS.nil_ _ _ _ _ _ _,λ g h=>by simp [Value.ownBlock] at h⟩,k1,k2⟩
theorem seqOf_i (v:Vr) (b:Bd) (hb:Ok v b) (Ao At:Option Addr) (co ct:Nat) (ds:List Int) (hds:∀ d ∈ ds,1<=d∧d<=6) (hlen:ds.length<=4) (u:Value) (w:World) (ho:RdS w w.heap.size 1 enI Ao b.1) (ht:RdS w w.heap.size 1 enI At b.2) (hA:Ao=none->co=0) (hT:At=none->ct=0) (hu:SlV 1 enI w All u ds) :
  Calls prog 196 #[vA v,.agg #[.slice Ao b.1.length co,.slice At b.2.length ct],u] w λ e w'=>∃ vv,e=.returned (.tuple #[vv,.bool (rowsP v b ds).2])∧OwnG RelQ w' w.heap.size w'.heap.size 94 1 en1 vv (rowsP v b ds).1∧Below w.heap.size w w':=by
 obtain⟨iQ,aE,ax,aw,av⟩:=info_parts infoQ;have hv:=hb.v1;have af:okV v=true:=okV_iff.2 hv;obtain⟨P,hP⟩:∃ P:Nat,v.p=(P:Int):=⟨v.p.toNat,by omega⟩;have HP:=kD hP;have aO:P<=24:=by omega
 obtain⟨n,hn⟩:=eX (P+1);have aa:b.1.length=n:=by have:=hb.own.len;omega
 have Z:b.2.length=n:=by have:=hb.oth.len;omega
 have CC:=kD (λ(w9:World) (h:zB w w9)=>clone_i b.1 b.2 Ao At co ct w.heap.size w9 h.size (ho.below h lR) (ht.below h lR) hA hT (by omega) (by omega));rw [aa,Z] at CC ⊢;have aq:=kD aa;have ap:=kD Z;have HB:=kD hb;obtain⟨Au,cu,rfl,ag,-⟩:=hu;obtain⟨N,hN⟩:=eX (ds.length);have HN:=kD hN;rw [hN] at hlen ⊢;have aI:=kD ag;have aM:=kD (λ i (h:i<N)=>hds _ (List.mem_of_getElem? (at_get (l:=ds) (i:=i) (by rw [hN];exact h))));have aL:=kD (λ(w9:World) (i:Nat) (hi:i<=3) (xs:List Pl) (ay:RowOk v i xs) (az:xs.length<=25 ^ i) (d:Int) (hd:1<=d∧d<=6) (uu:Value) (S0:Nat->Prop) (hu:SlG RelP 3 enP w9 S0 uu xs)=>goOn_i v af i (by omega) xs ay (Nat.le_trans az (pow_le hi)) d hd uu S0 w9 hu);obtain⟨RR,Y⟩:=eX (rowsP v b ds);rw [Y];have aJ:=kD Y;clear hb hv af hP aa Z ho ht hA hT hN ag hds Y;go_enter func196,ntmps196;go_upto_region 1 with fail;refine wp_gen (λ W'=>Below w.heap.size w W'∧RowB W' w.heap.size 25 (vL v)∧RowB W' (w.heap.size+1) 51 [.slice Ao n co,.slice At n ct]) ⟨by go_grown,(nW).alloc _,nX⟩ ?_;rintro w1 ⟨J,rv,rb⟩;obtain⟨r0,r1⟩:=rb.c2;have aD:=rb.lt;go_wp2_with fail;refine(CC.out w1 J).mono ?_;rintro e w2 ⟨A1,c1,A2,c2,rfl,o1,o2,-,I⟩;have rv:=rv.below I rv.lt;have aC:w.heap.size+2<=w1.heap.size:=by omega
 have ao:=J.tR I;have aB:=I.size;rw [aq.out] at o1;rw [ap.out] at o2;simp only [aq.out,ap.out];clear r0 r1 aD rb J I CC;go_upto_region 2 with fail;refine wp_gen (λ W'=>Sq w W' v (.slice (sA (w2.heap.size+1) 0) 1 1) [[([],b)]]) ?_ ?_
 ·refine⟨by go_grown,(rv.alloc _).alloc _,first_row (g1:=w2.heap.size) (RowB.alloc (nW) _) (nX) (by omega) (by omega) (by omega) ?_ ?_⟩
  ·have h1:=(OwnV.of o1 lR (S:=λ x=>w1.heap.size<=x∧x<w2.heap.size) (λ x D m=>⟨D,m⟩)).sl enI_len;exact(relV 1 enI).weak ((relV 1 enI).keep h1 (.below (by go_grown))) (λ x D _=>⟨by omega,by omega⟩)
  ·have h1:=(OwnV.of o2 lR (S:=λ x=>w1.heap.size<=x∧x<w2.heap.size) (λ x D m=>⟨D,m⟩)).sl enI_len;exact(relV 1 enI).weak ((relV 1 enI).keep h1 (.below (by go_grown))) (λ x D _=>⟨by omega,by omega⟩)
 intro w3 K;clear rv o1 o2 ao aC aB;have G:=K.rv.lt;go_wp2_with fail;go_loopw [8,9,20] (λ vl fv i wr=>∃(k:Nat) (R:List (List Pl)) (f:Bool),k<=N∧i=iL (k:Int)∧fv=.bool f∧Sq w wr v vl R∧Hid (R.length=k+1)∧Hid (RowOk v k (R.getLastD [])∧(R.getLastD []).length<=25 ^ k)∧Hid (rowsGo v (ds.drop k) R f=RR)) (λ _ _ i _=>N - (intOf i).toNat)
 case atStart=>exact⟨0,[[([],b)]],true,Nat.zero_le _,by first | rfl | trivial,by first | rfl | trivial,K,kD rfl,kD ⟨λ q hq=>by simp at hq;subst hq;exact⟨HB.out,rfl⟩,by simp⟩,aJ⟩
 case round =>
  obtain⟨k,R,f,hk,rfl,rfl,K,HL,HO,HG⟩:=hrel;clear G;have G:=K.rv.lt;by_cases hlt:k<N
  ·obtain⟨bu,ou,rfl,aG,am⟩:=at_rd (aI.out.rd.below K.bel lR) (i:=k) (by rw [HN.out];exact hlt);have aS:(k:Int)<(N:Int):=by omega
   have aQ:=iW (((k:Int)+1));have hD:=aM.out k hlt;have z:=kD HG.out;rw [drop_at (by rw [HN.out];exact hlt)] at z;obtain⟨d,hd⟩:=eX (at_ ds k);rw [hd] at am hD z;clear hd HG;obtain⟨rs,j,a⟩:=K.og;obtain⟨Av,cv,ae,ai⟩:=j.form en1_len;have o:rs.length=k+1:=by rw [a.1];exact HL.out
   obtain⟨L,hL⟩:=eX (k+1);have ad:=kD hL;rw [o,hL] at ae;subst ae;obtain⟨bv,ov,r,rfl,aF,hr,A⟩:=ai.at_ (i:=k) (by omega);have A:=A 0 r rfl;have A:wr.cell? ⟨bv,ov+k,none⟩=some r:=by simpa using A
   have HR:=kD (a.2 k r _ hr (last_of HL.out));have aU:IntKind.i64.wrap ((L:Int) - 1)=(k:Int):=by rw [IntWalk.i64_in _ (by omega)];omega
   have aT:(k:Int)<(L:Int):=by omega
   clear j a ai hr o hL;obtain⟨q0,q1,q2,q3⟩:=K.rv.c4;go_wp2_with fail;go_still_tail 8,(by kernel_rfl);go_wp2_with fail;refine(aL.out wr.drew k (by omega) _ HO.out.1 HO.out.2 d hD r _ (RelQ.keep HR.out (.below (zRf).drew))).mono ?_;rintro e T ⟨nv,rfl,E,an⟩;have K0:Sq w wr.drew v _ R:=K.below (zRf).drew;have B:∀ g,(Value.slice (sA bv ov) L cv).ownBlock=some g->w.heap.size+2<=g∧g<wr.heap.size:=λ g hg=>by obtain⟨aP,h9,-⟩:=K.og;exact h9.block g hg
   have aA:w.heap.size+2<=wr.heap.size:=by have:=(B bv rfl);omega
   obtain⟨t,F⟩:=eX (nextP v d (R.getLastD []));have aK:=kD (show RowOk v (k+1) t∧t.length<=25 ^ (k+1) from by
    rw [<-F];refine⟨next_ok hD.1 HO.out.1,Nat.le_trans next_len ?_⟩;rw [Nat.pow_succ];exact Nat.mul_le_mul HO.out.2 (by have:=HP.out;omega))
   rw [F] at E;have ab:SlG RelP 3 enP T (NotIn (.slice (sA bv ov) L cv) (w.heap.size+2)) nv t:=RelQ.weak (E.sl enP_len lR) (λ x (D:wr.heap.size<=x) _=>⟨λ h=>by have:=(B x h).2;omega,by omega⟩);obtain⟨An,cn,ak,-⟩:=OwnG.form enP_len E;have K:=K0.below an;obtain⟨M,hM⟩:=eX (t.length);rw [hM] at ak;subst ak;have ac:=kD hM;have C:=kD F;clear K0 E an HR aG am aF A B hM F q0 q1 q2 q3 G aA;have G:=K.rv.lt;by_cases h0:M=0
   ·have e7:((M:Int) == 0)=true:=by simp [h0]
    have O:(R,f)=RR:=by rw [<-z.out,rows_zero (by rw [C.out,ac.out];exact h0)]
    subst O;have aH:=kD h0;clear h0 z ab;go_wp2_with fail;go_ret2;exact⟨_,rfl,K.og.less (by omega),K.bel⟩
   ·have e7:((M:Int) == 0)=false:=by simp [h0]
    have O:Hid (rowsGo v (ds.drop (k+1)) (R++[t]) (f && decide (t.length<=3000))=RR):=kD (by
     rw [<-z.out,rows_more (by rw [C.out,ac.out];exact h0),C.out])
    have aH:=kD h0;obtain⟨x,D⟩:=eX (decide ((M:Int)<=3000));have m:decide (t.length<=3000)=x:=by rw [<-D,ac.out];exact decide_eq_decide.2 (by omega)
    rw [m] at O;have HX:=kD m;have al:(R++[t]).getLastD []=t:=by simp
    have ar:Hid ((R++[t]).length=k+1+1)∧Hid (RowOk v (k+1) ((R++[t]).getLastD [])∧((R++[t]).getLastD []).length<=25 ^ (k+1)):=⟨kD (by rw [List.length_append,HL.out];rfl),by rw [al];exact aK⟩;clear h0 z m al;obtain⟨rs,j,a⟩:=K.og;have o:=kD (show rs.length=L from by rw [a.1,<-ad.out];exact HL.out);have ah:=kD j.block;have HF:Hid ((f && x)=(f && x)):=kD rfl
    cases f
    all_goals
     go_wp2_with (at_builtin;refine wpL_one rfl _ _ _ rfl (w.heap.size+2) _ 94 iQ (.slice none 0 0) 1 24 Tryz.underlying208 aE ax aw av rfl (by decide) en1_len (.slice (sA bv ov) L cv) rs (.slice An M cn) (by intro u hu;simp [en1] at hu;subst hu;rfl) rfl (j.alloc _) T.heap.size 1 94 rfl (nW) ?c1 ?c2 ?c3 ?_)
     case c1=>have:=o.out;have:=ad.out;unfold maxLen;omega
     case c2=>have:=o.out;have:=ad.out;omega
     case c3=>go_size
     intro g6 c6 w6 aj W y aN;have H:Below T.heap.size T (T.alloc (.cells #[.slice An M cn] 94)):=by go_grown
     have y:(Value.slice (sA bv ov) L cv).ownBlock=some g6∨g6=(T.alloc (.cells #[.slice An M cn] 94)).heap.size:=by simpa using y
     have V:=below_grown (w:=T) H W;have og:=own_snoc (a.keep (.below H)) (RelQ.keep ab (.below H)) aj W y;have X:=ah.out;rw [o.out] at og;have Q:=o.out;have K9:Sq w w6 v (.slice (sA g6 0) (L+1) c6) (R++[t]):=⟨K.bel.grown V K.bel.size (λ g hg=>by have:=(X g hg).1;omega),K.rv.grown V (λ g hg=>by have:=(X g hg).1;omega),og⟩;clear og V y H aj W X K j a ab;rw [Q];clear Q;go_wp2_with fail;go_roundw
     case rel=>exact⟨k+1,R++[t],_,by omega,by go_num,by first | rfl | (rw [D];rfl) | simp,K9,ar.1,ar.2,by first | exact O | (rw [<-D] at O;exact O) | simpa using O⟩
     case measure=>simp [intOf];omega
  ·obtain rfl:k=N:=by omega
   have aR:¬ ((k:Int)<(k:Int)):=by omega
   have O:(R,f)=RR:=by rw [<-HG.out,List.drop_of_length_le (by rw [HN.out];exact Nat.le_refl _)];rfl
   subst O;clear HG;go_wp2_with fail;go_ret2;exact⟨_,rfl,K.og.less (by omega),K.bel⟩
end Bd19
namespace Bd20
open Go.ChangeShapes Go.WideShapes Go.ChangeAt Go.RowKit Base Ints Own Clone RelG PlP Bd1 Bd4 Bd5 Bd6 Bd7 Bd7S Bd8 Bd9 Bd11 RegInv RegF RegG Bd16 Bd17 Bd19
abbrev RelR:Rel Value (List (List Pl)):=relSl RelQ 1 en1
theorem infoS:(Tryz.prog.info? 208).map (λ i=>(i.zero,i.size,i.bytes))=some (some (.slice none 0 0),1,24):=by kernel_rfl
theorem ord_dice {x y:Int} (hx:1<=x∧x<=6) (hy:1<=y∧y<=6):(∀ o ∈ ordP x y,(∀ d ∈ o,1<=d∧d<=6)∧o.length<=4)∧(ordP x y).length<=2:=by
 unfold ordP;split
 ·exact⟨λ o a=>by simp at a;subst a;exact⟨by intro d b;simp at b;omega,by simp⟩,by simp⟩
 ·exact⟨λ o a=>by simp at a;rcases a with rfl | rfl <;> exact⟨by intro d b;simp at b;omega,by simp⟩,by simp⟩
def sqM (v:Vr) (b:Bd) (os:List (List Int)):List (List (List Pl)):=os.map λ o=>(rowsP v b o).1
def sqF (v:Vr) (b:Bd) (os:List (List Int)):Bool:=os.all λ o=>(rowsP v b o).2
theorem sqM_snoc (v:Vr) (b:Bd) (os:List (List Int)) (o:List Int):sqM v b (os++[o])=sqM v b os++[(rowsP v b o).1]:=by unfold sqM;rw [List.map_append];rfl
theorem sqF_snoc (v:Vr) (b:Bd) (os:List (List Int)) (o:List Int):sqF v b (os++[o])=(sqF v b os && (rowsP v b o).2):=by unfold sqF;rw [List.all_append];simp
structure Sr2 (w wr:World) (v:Vr) (cs:List Value) (vl:Value) (R:List (List (List Pl))) (uo:Value) (os:List (List Int)):Prop where
 bel:Below w.heap.size w wr
 rv:RowB wr w.heap.size 25 (vL v)
 rb:RowB wr (w.heap.size+1) 51 cs
 og:OwnG RelR wr (w.heap.size+3) wr.heap.size 208 1 en1 vl R
 or_:SlG RelI 1 en1 wr (NotIn vl 0) uo os
theorem Sr2.below {w wr w':World} {v:Vr} {cs:List Value} {vl:Value} {R:List (List (List Pl))} {uo:Value} {os:List (List Int)} (h:Sr2 w wr v cs vl R uo os) (hb:zB wr w'):Sr2 w w' v cs vl R uo os :=
 ⟨h.bel.tR hb,h.rv.below hb h.rv.lt,h.rb.below hb h.rb.lt,(h.og.below_ hb).more hb.size,(relSl RelI 1 en1).keep h.or_ (.below hb)⟩
theorem seqs_i (v:Vr) (b:Bd) (hb:Ok v b) (Ao At:Option Addr) (co ct:Nat) (x y:Int) (hx:1<=x∧x<=6) (hy:1<=y∧y<=6) (w:World) (ho:RdS w w.heap.size 1 enI Ao b.1) (ht:RdS w w.heap.size 1 enI At b.2) (hA:Ao=none->co=0) (hT:At=none->ct=0) :
  Calls prog 171 #[vA v,.agg #[.slice Ao b.1.length co,.slice At b.2.length ct],.agg #[iL x,iL y]] w λ e w'=>∃ vv,e=.returned (.tuple #[vv,.bool (sqF v b (ordP x y))])∧OwnG RelR w' w.heap.size w'.heap.size 208 1 en1 vv (sqM v b (ordP x y))∧Below w.heap.size w w':=by
 obtain⟨iQ,aq,ao,an,am⟩:=info_parts infoS;have CO:=kD (λ(R:World)=>orders_i x y R);obtain⟨a,aa⟩:=eX (ordP x y);have HD:=ord_dice hx hy;rw [aa] at HD CO ⊢;have al:=kD HD.1;have Z:=HD.2;obtain⟨n1,ag⟩:=eX (b.1.length);obtain⟨n2,af⟩:=eX (b.2.length);have CS:=kD (λ(R:World) (h:zB w R) (o:List Int) (ac:o ∈ a) (u:Value) (hu:SlV 1 enI R All u o)=>seqOf_i v b hb Ao At co ct o (al.out o ac).1 (al.out o ac).2 u R ((ho.below h lR).more h.size) ((ht.below h lR).more h.size) hA hT hu);rw [ag,af] at CS ⊢;obtain⟨N,hN⟩:=eX (a.length);have HN:=kD hN;rw [hN] at Z;clear hb ho ht hA hT aa HD ag af hN hx hy;go_enter func171,ntmps171;go_upto_region 1 with fail;refine wp_gen (λ W'=>Below w.heap.size w W'∧RowB W' w.heap.size 25 (vL v)∧RowB W' (w.heap.size+1) 51 [.slice Ao n1 co,.slice At n2 ct]∧RowB W' (w.heap.size+2) 53 [iL x,iL y]) ⟨by go_grown,((nW).alloc _).alloc _,RowB.alloc (nX) _,nX⟩ ?_;rintro w1 ⟨Q,rv,rb,rr⟩;obtain⟨r0,r1⟩:=rr.c2;have J:=rr.lt;go_wp2_with fail;refine(CO.out w1).mono ?_;rintro e w2 ⟨uo,rfl,ab,A⟩;have K:Sr2 w w2 v [.slice Ao n1 co,.slice At n2 ct] (.slice none 0 0) [] uo a:=⟨Q.tR A,rv.below A rv.lt,rb.below A rb.lt,OwnG.nil_ _ _ _ _ _ _ _,(relSl RelI 1 en1).weak ab (λ x _ _=>⟨λ h=>by simp [Value.ownBlock] at h,Nat.zero_le _⟩)⟩;obtain⟨Ar,cr,ay,T,-⟩:=ab;have V:w.heap.size+3<=w2.heap.size:=by have:=A.size;omega
 rw [HN.out] at T;subst T;clear r0 r1 J rb rr rv Q A CO;have L:=K.rv.lt;go_wp2_with fail;go_loopw [8,9,17] (λ vl fv i wr=>∃(k:Nat),k<=N∧i=iL (k:Int)∧fv=.bool (sqF v b (a.take k))∧Sr2 w wr v [.slice Ao n1 co,.slice At n2 ct] vl (sqM v b (a.take k)) (.slice Ar N cr) a∧w.heap.size+3<=wr.heap.size) (λ _ _ i _=>N - (intOf i).toNat)
 case atStart=>exact⟨0,Nat.zero_le _,by first | rfl | trivial,by first | rfl | trivial,K,V⟩
 case round =>
  obtain⟨k,hk,rfl,rfl,K,V⟩:=hrel;clear L;have L:=K.rv.lt;have J:=K.rb.lt;by_cases hlt:k<N
  ·obtain⟨A5,c5,rs,e5,E,m,-⟩:=K.or_;simp only [Value.slice.injEq] at e5;obtain⟨rfl,-,rfl⟩:=e5;obtain⟨b5,o5,r,rfl,-,ar,hr,P⟩:=E.at_ (i:=k) (by rw [m.1,HN.out];exact hlt);obtain⟨o,ho,ai⟩:=m.at_ hr;have P:wr.cell? ⟨b5,o5+k,none⟩=some r:=by have:=P 0 r rfl;simpa using this
   have aw:=kD (List.mem_of_getElem? ho);have av:=kD ((RelI).weak ai (S':=All) (λ _ _ _=>trivial));have HM:=kD (show sqM v b (a.take (k+1))=sqM v b (a.take k)++[(rowsP v b o).1] from by rw [takeS ho,sqM_snoc]);have HF:=kD (show sqF v b (a.take (k+1))=(sqF v b (a.take k) && (rowsP v b o).2) from by rw [takeS ho,sqF_snoc]);have aC:(k:Int)<(N:Int):=by omega
   have az:=iW (((k:Int)+1));obtain⟨X,hX⟩:=eX (sqM v b (a.take k));obtain⟨f,hf⟩:=eX (sqF v b (a.take k));have aj:=kD (show X.length<=2 from by rw [<-hX];unfold sqM;rw [List.length_map,List.length_take,HN.out];omega);rw [hX] at K HM;rw [hf] at HF ⊢;clear hX hf E m hr ho ai;obtain⟨q0,q1,q2,q3⟩:=K.rv.c4;obtain⟨z0,z1⟩:=K.rb.c2;go_wp2_with fail;refine(CS.out wr K.bel o aw.out r av.out).mono ?_;rintro e H ⟨nv,rfl,I,z⟩;have F:∀ g,u8.ownBlock=some g->w.heap.size+3<=g∧g<wr.heap.size:=λ g O=>by obtain⟨B,h9,-⟩:=K.og;exact h9.block g O
   have ak:SlG RelQ 1 en1 H (NotIn u8 (w.heap.size+3)) nv (rowsP v b o).1:=(relSl RelQ 1 en1).weak (I.sl en1_len lR) (λ x (hx:wr.heap.size<=x) _=>⟨λ h=>by have:=(F x h).2;omega,by omega⟩);have K:=K.below z;have aA:=z.size;obtain⟨An,cn,ae,-⟩:=Bd19.OwnG.form en1_len I;obtain⟨M,hM⟩:=eX ((rowsP v b o).1.length);rw [hM] at ae;subst ae;obtain⟨fo,ah⟩:=eX ((rowsP v b o).2);rw [ah] at HF ⊢;clear I z P ar F q0 q1 q2 q3 z0 z1 L J hM ah;obtain⟨B,l,j⟩:=K.og;have Y:=kD j.1;have W:=kD l.block
   cases f
   all_goals
    go_wp2_with (at_builtin;refine wpL_one rfl _ _ _ rfl (w.heap.size+3) _ 208 iQ (.slice none 0 0) 1 24 Tryz.underlying204 aq ao an am rfl (by decide) en1_len u8 B (.slice An M cn) (by intro u hu;simp [en1] at hu;subst hu;rfl) rfl (l.alloc _) H.heap.size 1 208 rfl (nW) ?c1 ?c2 ?c3 ?_)
    case c1=>have:=Y.out;have:=aj.out;unfold maxLen;omega
    case c2=>have:=Y.out;have:=aj.out;omega
    case c3=>go_size
    intro g6 c6 w6 ad C d ax;have t:Below H.heap.size H (H.alloc (.cells #[.slice An M cn] 208)):=by go_grown
    have d:u8.ownBlock=some g6∨g6=(H.alloc (.cells #[.slice An M cn] 208)).heap.size:=by simpa using d
    have q:=below_grown (w:=H) t C;have og:=own_snoc (j.keep (.below t)) ((relSl RelQ 1 en1).keep ak (.below t)) ad C d;have S:=app_still (K:=relSl RelI 1 en1) (n:=B.length+1) (c:=c6) C d ((relSl RelI 1 en1).keep K.or_ (.below t));have D:=W.out;have K9:Sr2 w w6 v [.slice Ao n1 co,.slice At n2 ct] (.slice (sA g6 0) (B.length+1) c6) (sqM v b (a.take (k+1))) (.slice (sA b5 o5) N cr) a:=by
     rw [HM.out];exact⟨K.bel.grown q K.bel.size (λ g O=>by have:=(D g O).1;omega),K.rv.grown q (λ g O=>by have:=(D g O).1;omega),K.rb.grown q (λ g O=>by have:=(D g O).1;omega),og,S⟩
    have ap:w.heap.size+3<=w6.heap.size:=by have:=q.size;omega
    clear og S q d t ad C D K l j ak;go_wp2_with fail;go_roundw
    case rel=>exact⟨k+1,by omega,by go_num,by rw [HF.out];first | rfl | simp,K9,ap⟩
    case measure=>simp [intOf];omega
  ·obtain rfl:k=N:=by omega
   have aB:¬ ((k:Int)<(k:Int)):=by omega
   have G:a.take k=a:=List.take_of_length_le (by rw [HN.out];exact Nat.le_refl _);rw [G] at K ⊢;clear G;go_wp2_with fail;go_ret2;exact⟨_,rfl,K.og.less (by omega),K.bel⟩
theorem used_i (all:List (List (List Pl))) (S0:Nat->Prop) (u:Value) (w:World) (hu:SlG RelR 1 en1 w S0 u all) (h1:∀ R ∈ all,1<=R.length∧R.length<=100) :
  Calls prog 172 #[u] w λ e w'=>e=.returned (iL ((usedR all 0:Nat):Int))∧w=w':=by
 obtain⟨X,W,S,rfl,a,b,-⟩:=hu;obtain⟨N,g⟩:=eX (all.length);have B:=kD g;have l:=a.len;rw [b.1,g] at l;rw [g];obtain⟨z,h⟩:=eX (usedR all 0);rw [h];have K:=kD h;have p:=kD a;have f:=kD b;have P:=kD h1;clear g h a b h1;go_enter func172,ntmps172;go_wp2_with fail;go_loopw [3,8] (λ s i wr=>∃(k t:Nat),k<=N∧s=iL (t:Int)∧i=iL (k:Int)∧Hid (w=wr)∧Hid (t=usedR (all.take k) 0)) (λ _ i _=>N - (intOf i).toNat)
 case atStart=>exact⟨0,0,Nat.zero_le _,by first | rfl | trivial,by first | rfl | trivial,kD (by first | rfl | trivial),kD rfl⟩
 case round =>
  obtain⟨k,t,T,rfl,rfl,j,v⟩:=hrel;by_cases hlt:k<N
  ·obtain⟨J,D,r,rfl,-,G,x,c⟩:=p.out.at_ (i:=k) (by rw [f.out.1,B.out];exact hlt);obtain⟨R,n,m⟩:=f.out.at_ x;obtain⟨Q,I,C,rfl,-⟩:=m;have c:wr.cell? ⟨J,D+k,none⟩=some (.slice Q R.length I):=by rw [<-j.out];have:=c 0 _ rfl;simpa using this
   have d:=P.out R (List.mem_of_getElem? n);have o:=kD (show usedR (all.take (k+1)) 0=max (usedR (all.take k) 0) (R.length - 1) from by rw [takeS n];unfold usedR;rw [List.foldl_append];rfl);obtain⟨M,A⟩:=eX (R.length);rw [A] at c d o;have F:(k:Int)<(N:Int):=by omega
   have V:=iW (((k:Int)+1));have H:IntKind.i64.wrap ((M:Int) - 1)=((M - 1:Nat):Int):=by rw [IntWalk.i64_in _ (by omega)];omega
   obtain⟨q,y⟩:=eX (M - 1);rw [y] at H o;have L:Hid ((if t<q then (q:Int) else (t:Int))=((max t q:Nat):Int)):=kD (by
    split <;> omega)
   have O:=kD (show max t q=usedR (all.take (k+1)) 0 from by rw [o.out,v.out]);clear x n A y d;go_wp2_with fail;go_roundw
   case rel=>exact⟨k+1,max t q,by omega,by rw [L.out],by go_num,j,O⟩
   case measure=>simp [intOf];omega
  ·obtain rfl:k=N:=by omega
   have E:¬ ((k:Int)<(k:Int)):=by omega
   obtain rfl:t=z:=by rw [v.out,<-K.out,List.take_of_length_le (by rw [B.out];exact Nat.le_refl _)]
   go_wp2_with fail;go_ret;exact⟨rfl,j.out⟩
end Bd20
namespace Bd21
open Go.ChangeShapes Go.WideShapes Go.ChangeAt Go.RowKit Base Ints Own Clone RelG PlP Bd1 Bd4 Bd5 Bd6 Bd7 Bd7S Bd8 Bd9 Bd11 RegInv RegF RegG Seen Bd16 Bd17 Bd19 Bd20
theorem p25 {n:Nat} (h:n<=4):25 ^ n<=390625:=by
 have:n=0∨n=1∨n=2∨n=3∨n=4:=by omega
 rcases this with rfl | rfl | rfl | rfl | rfl <;> omega
end Bd21
namespace Bd22
open Go.ChangeShapes Go.WideShapes Go.ChangeAt Go.RowKit Base Ints Own Clone RelG PlP Bd1 Bd4 Bd5 Bd6 Bd7 Bd7S Bd8 Bd9 Bd11 RegInv RegF RegG Bd16 Bd17 Bd18 Bd19 Bd20 Bd21
theorem lng_zero_ {v:Vr} {d:Int} {ds:List Int} {ps:List Pl} {k:Nat} {f:Bool} (h:(nextP v d ps).length=0):lngGo v (d :: ds) ps k f=(ps,k,f && decide ((nextP v d ps).length<=3000)):=by
 simp only [lngGo];rw [if_pos h]
theorem lng_more_ {v:Vr} {d:Int} {ds:List Int} {ps:List Pl} {k:Nat} {f:Bool} (h:¬ (nextP v d ps).length=0):lngGo v (d :: ds) ps k f=lngGo v ds (nextP v d ps) (k+1) (f && decide ((nextP v d ps).length<=3000)):=by
 simp only [lngGo];rw [if_neg h]
theorem one_play' {W:World} {b:Bd} {g1 lo:Nat} {u0 u1 u2:Value} (h1:RowB W g1 98 [u0,u1,u2]) (l1:lo<=g1) (k0:OwnV 111 4 enSt W (λ x=>lo<=x∧x≠g1) u0 [])
  (k1:OwnV 2 1 enI W (λ x=>lo<=x∧x≠g1) u1 b.1) (k2:OwnV 2 1 enI W (λ x=>lo<=x∧x≠g1) u2 b.2):OwnG RelP W lo W.heap.size 98 3 enP (.slice (sA g1 0) 1 1) [([],b)]:=by
 have c:∀ x,(lo<=x∧x≠g1)->NotIn (.slice (sA g1 0) 1 1) lo x:=λ x a=>⟨λ e=>a.2 (by simp [Value.ownBlock] at e;exact e.symm),a.1⟩
 refine⟨[((u0,u1,u2):PRow)],RowB.own (xs:=[((u0,u1,u2):PRow)]) h1 enP_len l1 h1.lt (show 1<=maxLen by decide),LsR.snoc (LsR.nil _ _ _) ?_⟩;exact RelP.weak (S:=λ x=>lo<=x∧x≠g1) ⟨k0,k1.sl enI_len,k2.sl enI_len⟩ (λ x a _=>c x a)
structure LgF (w1:World) (b:Bd) (n:Nat) (p0 p3 p6 p7 p8 p9 p10:Prop) (v0 v3 v6 v7 v8 v9 v10:Value) (w':World):Prop where
 bel:Below w1.heap.size w1 w'
 f0:p0->OwnV 111 4 enSt w' (λ x=>w1.heap.size<=x) v0 []
 f3:p3->OwnV 2 1 enI w' (λ x=>w1.heap.size<=x) v3 b.1
 f6:p6->OwnV 2 1 enI w' (λ x=>w1.heap.size<=x) v6 b.2
 f7:p7->v7=.agg #[v3,v6]
 f8:p8->v8=.agg #[v0,v3,v6]
 f9:p9->∃ g,v9=.slice (sA g 0) 1 1∧OwnG RelP w' w1.heap.size w'.heap.size 98 3 enP v9 [([],b)]
 f10:p10->v10=v9
section
variable {w1 w' w'':World} {b:Bd} {n:Nat} {p0 p3 p6 p7 p8 p9 p10:Prop} {v0 v3 v6 v7 v8 v9 v10 v':Value}
theorem LgF.skip {L:Nat->Prop} {vals:Nat->Value} (F:LgF w1 b n (L 0) (L 3) (L 6) (L 7) (L 8) (L 9) (L 10) (vals 0) (vals 3) (vals 6) (vals 7) (vals 8) (vals 9) (vals 10) w') (k:Nat) (x:Value) (h0:0≠k:=by decide) (h3:3≠k:=by decide) (h6:6≠k:=by decide) (h7:7≠k:=by decide) (h8:8≠k:=by decide) (h9:9≠k:=by decide) (h10:10≠k:=by decide) :
  LgF w1 b n (0=k∨L 0) (3=k∨L 3) (6=k∨L 6) (7=k∨L 7) (8=k∨L 8) (9=k∨L 9) (10=k∨L 10) (upd vals k x 0) (upd vals k x 3) (upd vals k x 6) (upd vals k x 7) (upd vals k x 8) (upd vals k x 9) (upd vals k x 10) w':=by
 rw [or_ne h0,or_ne h3,or_ne h6,or_ne h7,or_ne h8,or_ne h9,or_ne h10,upd_ne h0,upd_ne h3,upd_ne h6,upd_ne h7,upd_ne h8,upd_ne h9,upd_ne h10];exact F
theorem LgF.below (F:LgF w1 b n p0 p3 p6 p7 p8 p9 p10 v0 v3 v6 v7 v8 v9 v10 w') (hb:zB w' w''):LgF w1 b n p0 p3 p6 p7 p8 p9 p10 v0 v3 v6 v7 v8 v9 v10 w'' :=
 ⟨F.bel.tR hb,λ h=>(F.f0 h).keep (.below hb),λ h=>(F.f3 h).keep (.below hb),λ h=>(F.f6 h).keep (.below hb),F.f7,F.f8,λ h=>by obtain⟨g,e,ho⟩:=F.f9 h;exact⟨g,e,(ho.below_ hb).more hb.size⟩,F.f10⟩
theorem LgF.s0 (F:LgF w1 b n p0 p3 p6 p7 p8 p9 p10 v0 v3 v6 v7 v8 v9 v10 w') (n8:¬ p8):LgF w1 b n True p3 p6 p7 p8 p9 p10 (.slice (sA w'.heap.size 0) 0 0) v3 v6 v7 v8 v9 v10 (w'.alloc (.cells ⟨[]⟩ 111)):=by
 have G:=F.below (w'':=w'.alloc (.cells ⟨[]⟩ 111)) ((zRf).alloc lR _);exact⟨G.bel,λ _=>OwnV.of (RowB.own (xs:=([]:List Stp)) (RowB.new w' 111 []) enSt_len F.bel.size (by simp) (by decide)) lR (λ x a _=>a),G.f3,G.f6,G.f7,λ h=>absurd h n8,G.f9,G.f10⟩
theorem LgF.s3 (F:LgF w1 b n p0 p3 p6 p7 p8 p9 p10 v0 v3 v6 v7 v8 v9 v10 w') (n7:¬ p7) (n8:¬ p8) (hb:zB w' w'') (ho:OwnS w'' w'.heap.size w''.heap.size 2 1 enI v' b.1):LgF w1 b n p0 True p6 p7 p8 p9 p10 v0 v' v6 v7 v8 v9 v10 w'':=by
 have G:=F.below hb;exact⟨G.bel,G.f0,λ _=>OwnV.of ho lR (λ x a _=>Nat.le_trans F.bel.size a),G.f6,λ h=>absurd h n7,λ h=>absurd h n8,G.f9,G.f10⟩
theorem LgF.s6 (F:LgF w1 b n p0 p3 p6 p7 p8 p9 p10 v0 v3 v6 v7 v8 v9 v10 w') (n7:¬ p7) (n8:¬ p8) (hb:zB w' w'') (ho:OwnS w'' w'.heap.size w''.heap.size 2 1 enI v' b.2):LgF w1 b n p0 p3 True p7 p8 p9 p10 v0 v3 v' v7 v8 v9 v10 w'':=by
 have G:=F.below hb;exact⟨G.bel,G.f0,G.f3,λ _=>OwnV.of ho lR (λ x a _=>Nat.le_trans F.bel.size a),λ h=>absurd h n7,λ h=>absurd h n8,G.f9,G.f10⟩
theorem LgF.s7 (F:LgF w1 b n p0 p3 p6 p7 p8 p9 p10 v0 v3 v6 v7 v8 v9 v10 w'):LgF w1 b n p0 p3 p6 True p8 p9 p10 v0 v3 v6 (.agg #[v3,v6]) v8 v9 v10 w' :=
 ⟨F.bel,F.f0,F.f3,F.f6,λ _=>rfl,F.f8,F.f9,F.f10⟩
theorem LgF.s8 (F:LgF w1 b n p0 p3 p6 p7 p8 p9 p10 v0 v3 v6 v7 v8 v9 v10 w'):LgF w1 b n p0 p3 p6 p7 True p9 p10 v0 v3 v6 v7 (.agg #[v0,v3,v6]) v9 v10 w' :=
 ⟨F.bel,F.f0,F.f3,F.f6,F.f7,λ _=>rfl,F.f9,F.f10⟩
theorem LgF.s9 (F:LgF w1 b n p0 p3 p6 p7 p8 p9 p10 v0 v3 v6 v7 v8 v9 v10 w') (y0:p0) (y3:p3) (y6:p6) (n10:¬ p10):LgF w1 b n p0 p3 p6 p7 p8 True p10 v0 v3 v6 v7 v8 (.slice (sA w'.heap.size 0) 1 1) v10 (w'.alloc (.cells ⟨[v0,v3,v6]⟩ 98)):=by
 have c:Below w'.heap.size w' (w'.alloc (.cells ⟨[v0,v3,v6]⟩ 98)):=(zRf).alloc lR _;have G:=F.below c;have a:∀ {α:Type} {e:TypeId} {sz:Nat} {en:α->List Value} {u:Value} {xs:List α},OwnV e sz en w' (λ x=>w1.heap.size<=x) u xs->OwnV e sz en (w'.alloc (.cells ⟨[v0,v3,v6]⟩ 98)) (λ x=>w1.heap.size<=x∧x≠w'.heap.size) u xs:=λ h =>
  ((relO _ _ _).weak h (λ x f d=>⟨f,by omega⟩):OwnV _ _ _ w' (λ x=>w1.heap.size<=x∧x≠w'.heap.size) _ _).keep (.below c)
 exact⟨G.bel,G.f0,G.f3,G.f6,G.f7,G.f8,λ _=>⟨_,rfl,one_play' (nW) F.bel.size (a (F.f0 y0)) (a (F.f3 y3)) (a (F.f6 y6))⟩,λ h=>absurd h n10⟩
theorem LgF.s10 (F:LgF w1 b n p0 p3 p6 p7 p8 p9 p10 v0 v3 v6 v7 v8 v9 v10 w'):LgF w1 b n p0 p3 p6 p7 p8 p9 True v0 v3 v6 v7 v8 v9 v9 w' :=
 ⟨F.bel,F.f0,F.f3,F.f6,F.f7,F.f8,F.f9,λ _=>rfl⟩
end
structure Lg (w wr:World) (v:Vr) (vl:Value) (X:List Pl):Prop where
 bel:Below w.heap.size w wr
 rv:RowB wr w.heap.size 25 (vL v)
 og:OwnG RelP wr (w.heap.size+2) wr.heap.size 98 3 enP vl X
 ge:w.heap.size+2<=wr.heap.size
theorem Lg.below {w wr w':World} {v:Vr} {vl:Value} {X:List Pl} (h:Lg w wr v vl X) (hb:zB wr w'):Lg w w' v vl X :=
 ⟨h.bel.tR hb,h.rv.below hb h.rv.lt,(h.og.below_ hb).more hb.size,Nat.le_trans h.ge hb.size⟩
theorem longest_s (v:Vr) (b:Bd) (hb:Ok v b) (Ao At:Option Addr) (co ct:Nat) (ds:List Int) (hds:∀ d ∈ ds,1<=d∧d<=6) (hlen:ds.length<=4) (u:Value) (w:World) (ho:RdS w w.heap.size 1 enI Ao b.1) (ht:RdS w w.heap.size 1 enI At b.2) (hA:Ao=none->co=0) (hT:At=none->ct=0) (hu:SlV 1 enI w All u ds) :
  Calls prog 108 #[vA v,.agg #[.slice Ao b.1.length co,.slice At b.2.length ct],u] w λ e w'=>∃ vv,e=.returned (.tuple #[vv,iL (((lngP v b ds).2.1:Nat):Int),.bool (lngP v b ds).2.2])∧OwnG RelP w' w.heap.size w'.heap.size 98 3 enP vv (lngP v b ds).1∧Below w.heap.size w w':=by
 have hv:=hb.v1;have ac:okV v=true:=okV_iff.2 hv;obtain⟨P,hP⟩:∃ P:Nat,v.p=(P:Int):=⟨v.p.toNat,by omega⟩;have HP:=kD hP;have aF:P<=24:=by omega
 obtain⟨n,hn⟩:=eX (P+1);have Z:b.1.length=n:=by have:=hb.own.len;omega
 have Y:b.2.length=n:=by have:=hb.oth.len;omega
 have C1:=kD (λ(o:World) (h:zB w o)=>own02 Ao co w.heap.size b.1 o h.size (ho.below h lR) hA (by omega));have C2:=kD (λ(o:World) (h:zB w o)=>own02 At ct w.heap.size b.2 o h.size (ht.below h lR) hT (by omega));rw [Z] at C1 ⊢;rw [Y] at C2 ⊢;have aC:=kD Z;have aB:=kD Y;have HB:=kD hb;obtain⟨Au,cu,rfl,af,-⟩:=hu;obtain⟨N,hN⟩:=eX (ds.length);have HN:=kD hN;rw [hN] at hlen ⊢;have ay:=kD af;have aE:=kD (λ i (h:i<N)=>hds _ (List.mem_of_getElem? (at_get (l:=ds) (i:=i) (by rw [hN];exact h))));have aD:=kD (λ(o:World) (i:Nat) (hi:i<=3) (xs:List Pl) (ao:RowOk v i xs) (ap:xs.length<=25 ^ i) (d:Int) (hd:1<=d∧d<=6) (uu:Value) (S0:Nat->Prop) (hu:SlG RelP 3 enP o S0 uu xs)=>next_s v ac i (by omega) xs ao (Nat.le_trans ap (pow_le hi)) d hd uu S0 o hu);obtain⟨RR,W⟩:=eX (lngP v b ds);rw [W];have az:=kD W;clear hb hv ac hP Z Y ho ht hA hT hN af hds W;go_enter func108,ntmps108;go_upto_region 1 with fail;refine wp_gen (λ W'=>Below w.heap.size w W'∧RowB W' w.heap.size 25 (vL v)∧RowB W' (w.heap.size+1) 51 [.slice Ao n co,.slice At n ct]) ⟨by go_grown,(nW).alloc _,nX⟩ ?_;rintro w1 ⟨y,rv,D⟩;have ar:=D.lt;refine rG [some 13,some 14,some 15,some 16,some 17,some 18,some 19,some 20,some 21,some 22,some 9] 11 (Pl [none,some (pT (w.heap.size+1) 0),some (.slice Ao n co),none,some (pT (w.heap.size+1) 1),some (.slice At n ct),none,none,none,none,none]) (λ L a w'=>LgF w1 b n (L 0) (L 3) (L 6) (L 7) (L 8) (L 9) (L 10) (a 0) (a 3) (a 6) (a 7) (a 8) (a 9) (a 10) w') ?g0_1 ?gst_1 ?gfin_1
 case g0_1=>exact⟨(zRf).drew,λ h=>absurd h (by decide),λ h=>absurd h (by decide),λ h=>absurd h (by decide),λ h=>absurd h (by decide),λ h=>absurd h (by decide),λ h=>absurd h (by decide),λ h=>absurd h (by decide)⟩
 case gst_1 =>
  refine rN rfl (λ L a A o j g m U F K t=>?_) ?_
  ·go_simp;exact t.out _ _ (Pl.any rfl) (by simpa [upd] using F.s0 (λ h=>j (m 8 0 (by kernel_rfl) h)))
  refine rN rfl (λ L a A o j g m U F K t=>?_) ?_
  ·have e4:=U.w 4 (pT (w.heap.size+1) 0);obtain⟨z0,z1⟩:=(D.below F.bel D.lt).c2;go_simp;exact pF t (F.skip 1 _)
  refine rN rfl (λ L a A o j g m U F K t=>?_) ?_
  ·have aS:=U.v 1 14;obtain⟨z0,z1⟩:=(D.below F.bel D.lt).c2;go_simp;exact pF t (F.skip 2 _)
  refine rN rfl (λ L a A o j g m U F K t=>?_) ?_
  ·have aR:=U.v 2 15;go_simp;refine(C1.out o (y.trans (F.bel.mono y.size))).mono ?_;rintro e w6 ⟨⟨v',rfl,H⟩,V⟩;exact t.out _ w6 (Pl.any rfl) (by simpa [upd] using F.s3 (λ h=>j (m 7 3 (by kernel_rfl) h)) (λ h=>j (m 8 3 (by kernel_rfl) h)) V H)
  refine rN rfl (λ L a A o j g m U F K t=>?_) ?_
  ·have e4:=U.w 4 (pT (w.heap.size+1) 0);obtain⟨z0,z1⟩:=(D.below F.bel D.lt).c2;go_simp;exact pF t (F.skip 4 _)
  refine rN rfl (λ L a A o j g m U F K t=>?_) ?_
  ·have aQ:=U.v 4 17;obtain⟨z0,z1⟩:=(D.below F.bel D.lt).c2;go_simp;exact pF t (F.skip 5 _)
  refine rN rfl (λ L a A o j g m U F K t=>?_) ?_
  ·have aP:=U.v 5 18;go_simp;refine(C2.out o (y.trans (F.bel.mono y.size))).mono ?_;rintro e w6 ⟨⟨v',rfl,H⟩,V⟩;exact t.out _ w6 (Pl.any rfl) (by simpa [upd] using F.s6 (λ h=>j (m 7 6 (by kernel_rfl) h)) (λ h=>j (m 8 6 (by kernel_rfl) h)) V H)
  refine rN rfl (λ L a A o j g m U F K t=>?_) ?_
  ·have am:=U.x 3 16;have al:=U.x 6 19;have o3:=F.f3 (bK g 3);refine(o3.1.form enI_len).elim λ A3 H=>?_
   refine H.elim λ c3 H=>?_
   have R:=H.1;clear H;have o6:=F.f6 (bK g 6);refine(o6.1.form enI_len).elim λ A6 h6=>?_
   refine h6.elim λ c6 h6=>?_
   have Q:=h6.1;clear h6;rw [aC.out] at R;rw [aB.out] at Q;have aJ:=am.trans R;have aI:=al.trans Q;clear am al;go_simp;exact t.out _ o (Pl.any rfl) (by rw [<-R,<-Q];simpa [upd] using F.s7)
  refine rN rfl (λ L a A o j g m U F K t=>?_) ?_
  ·have an:=U.x 0 13;have ak:=U.x 7 20;have o0:=F.f0 (bK g 0);refine(o0.1.form enSt_len).elim λ A0 B=>?_
   refine B.elim λ c0 B=>?_
   have ad:=B.1;clear B;have aK:=an.trans ad;have aH:=ak.trans (F.f7 (bK g 7));clear an ak;go_simp;exact t.out _ o (Pl.any rfl) (by simpa [upd,ad] using F.s8)
  refine rN rfl (λ L a A o j g m U F K t=>?_) ?_
  ·have aj:=U.x 8 21;have aG:=aj.trans (F.f8 (bK g 8));clear aj;go_simp;exact t.out _ _ (Pl.any rfl) (by simpa [upd] using F.s9 (bK g 0) (bK g 3) (bK g 6) (λ h=>j (m 10 9 (by kernel_rfl) h)))
  refine rN rfl (λ L a A o j g m U F K t=>?_) ?_
  ·have aO:=U.x 9 22;go_simp;exact t.out _ o (Pl.any rfl) (by simpa [upd] using F.s10)
  exact RelFrom.nil (by decide)
 case gfin_1 =>
  intro a o hp F;simp only [Fr,Act.put,sX,Nat.reduceAdd];obtain⟨g9,e9,S⟩:=F.f9 trivial;have aa:=F.f10 trivial;rw [e9] at aa S;rw [aa];have K:Lg w o v (.slice (sA g9 0) 1 1) [([],b)]:=⟨y.trans (F.bel.mono y.size),rv.below F.bel rv.lt,S.less (by omega),by have:=F.bel.size;omega⟩;clear F hp e9 aa S y rv D ar C1 C2;have T:=K.rv.lt;go_wp2_with fail;go_loopw [9,10,11] (λ vl fv i wr=>∃(k:Nat) (X:List Pl) (f:Bool),k<=N∧i=iL (k:Int)∧fv=.bool f∧Lg w wr v vl X∧Hid (RowOk v k X∧X.length<=25 ^ k)∧Hid (lngGo v (ds.drop k) X k f=RR)) (λ _ _ i _=>N - (intOf i).toNat)
  case atStart=>exact⟨0,[([],b)],true,Nat.zero_le _,by first | rfl | trivial,by first | rfl | trivial,K,kD ⟨λ q hq=>by simp at hq;subst hq;exact⟨HB.out,rfl⟩,by simp⟩,az⟩
  case round =>
   obtain⟨k,X,f,hk,rfl,rfl,K,HO,HG⟩:=hrel;clear T;have T:=K.rv.lt;by_cases hlt:k<N
   ·obtain⟨bu,ou,rfl,av,ah⟩:=at_rd (ay.out.rd.below K.bel lR) (i:=k) (by rw [HN.out];exact hlt);have aN:(k:Int)<(N:Int):=by omega
    have aL:=iW (((k:Int)+1));have hD:=aE.out k hlt;have C:=kD HG.out;rw [drop_at (by rw [HN.out];exact hlt)] at C;obtain⟨d,hd⟩:=eX (at_ ds k);rw [hd] at ah hD C;clear hd HG;obtain⟨q0,q1,q2,q3⟩:=K.rv.c4;go_wp2_with fail;go_still_tail 6,(by kernel_rfl);go_wp2_with fail;refine(aD.out wr.drew k (by omega) _ HO.out.1 HO.out.2 d hD u9 _ ((relSl RelP 3 enP).keep (K.og.sl enP_len lR) (.below (zRf).drew))).mono ?_;rintro e w5 ⟨nv,rfl,E,ai⟩;have ae:=K.ge;have K:=(K.below (zRf).drew).below ai;obtain⟨J,G⟩:=eX (nextP v d X);have aA:=kD (show RowOk v (k+1) J∧J.length<=25 ^ (k+1) from by
     rw [<-G];refine⟨next_ok hD.1 HO.out.1,Nat.le_trans next_len ?_⟩;rw [Nat.pow_succ];exact Nat.mul_le_mul HO.out.2 (by have:=HP.out;omega))
    rw [G] at E;obtain⟨An,cn,ag,-⟩:=Bd19.OwnG.form enP_len E;obtain⟨M,hM⟩:=eX (J.length);rw [hM] at ag;have KN:Lg w w5 v nv J:=⟨K.bel,K.rv,E.less (show w.heap.size+2<=wr.heap.size from ae),K.ge⟩;subst ag;have ab:=kD hM;have z:=kD G;obtain⟨x,hx⟩:=eX (decide ((M:Int)<=3000));have O:decide (J.length<=3000)=x:=by rw [<-hx,ab.out];exact decide_eq_decide.2 (by omega)
    have HX:=kD O;clear E ai av ah hM G q0 q1 q2 q3 T ae;by_cases B:M=0
    ·have e7:((M:Int) == 0)=true:=by simp [B]
     have I:(X,k,f && x)=RR:=by rw [<-C.out,lng_zero_ (by rw [z.out,ab.out];exact B),z.out,HX.out]
     subst I;have ax:=kD B;have aq:=K.og.less (lo':=w.heap.size) (by omega);have aw:=K.bel;clear B C KN O K
     cases f
     all_goals
      go_wp2_with fail;go_ret3;exact⟨_,by first | rfl | simp,aq,aw⟩
    ·have e7:((M:Int) == 0)=false:=by simp [B]
     have I:Hid (lngGo v (ds.drop (k+1)) J (k+1) (f && x)=RR):=kD (by
      rw [<-C.out,lng_more_ (by rw [z.out,ab.out];exact B),z.out,HX.out])
     have ax:=kD B;clear B C O K
     cases f
     all_goals
      go_wp2_with fail;go_roundw
      case rel=>exact⟨k+1,J,_,by omega,by go_num,by first | rfl | (rw [hx];rfl) | simp,KN,aA,by first | exact I | (rw [<-hx] at I;exact I) | simpa using I⟩
      case measure=>simp [intOf];omega
   ·obtain rfl:k=N:=by omega
    have aM:¬ ((k:Int)<(k:Int)):=by omega
    have I:(X,k,f)=RR:=by rw [<-HG.out,List.drop_of_length_le (by rw [HN.out];exact Nat.le_refl _)];rfl
    subst I;clear HG;go_wp2_with fail;go_ret3;exact⟨_,rfl,K.og.less (by omega),K.bel⟩
end Bd22
namespace Bd23
open Go.ChangeShapes Go.WideShapes Go.ChangeAt Go.RowKit Base Ints Own Clone RelG PlP Bd1 Bd4 Bd5 Bd6 Bd7 Bd7S Bd8 Bd9 Bd11 RegInv RegF RegG Bd16 Bd17 Bd18 Bd19 Bd20 Bd21 Bd22
structure UsF (w1:World) (X:List Pl) (kv fv:Value) (p6 p7 p8 p11:Prop) (v6 v7 v8 v11:Value) (w':World):Prop where
 bel:Below w1.heap.size w1 w'
 f6:p6->∃ vv,v6=.tuple #[vv,kv,fv]∧OwnG RelP w' w1.heap.size w'.heap.size 98 3 enP vv X
 f7:p7->v7=v6
 f8:p8->OwnG RelP w' w1.heap.size w'.heap.size 98 3 enP v8 X
 f11:p11->v11=v8
section
variable {w1 w' w'':World} {X:List Pl} {kv fv:Value} {p6 p7 p8 p11:Prop} {v6 v7 v8 v11 v':Value}
theorem UsF.skip {L:Nat->Prop} {vals:Nat->Value} (F:UsF w1 X kv fv (L 6) (L 7) (L 8) (L 11) (vals 6) (vals 7) (vals 8) (vals 11) w') (k:Nat) (x:Value) (h6:6≠k:=by decide) (h7:7≠k:=by decide) (h8:8≠k:=by decide) (h11:11≠k:=by decide) :
  UsF w1 X kv fv (6=k∨L 6) (7=k∨L 7) (8=k∨L 8) (11=k∨L 11) (upd vals k x 6) (upd vals k x 7) (upd vals k x 8) (upd vals k x 11) w':=by
 rw [or_ne h6,or_ne h7,or_ne h8,or_ne h11,upd_ne h6,upd_ne h7,upd_ne h8,upd_ne h11];exact F
theorem UsF.s6 (F:UsF w1 X kv fv p6 p7 p8 p11 v6 v7 v8 v11 w') (n7:¬ p7) (n8:¬ p8) (n11:¬ p11) (hb:zB w' w'') (ho:OwnG RelP w'' w'.heap.size w''.heap.size 98 3 enP v' X):UsF w1 X kv fv True p7 p8 p11 (.tuple #[v',kv,fv]) v7 v8 v11 w'' :=
 ⟨F.bel.tR hb,λ _=>⟨_,rfl,ho.less F.bel.size⟩,λ h=>absurd h n7,λ h=>absurd h n8,λ h=>absurd h n11⟩
theorem UsF.s7 (F:UsF w1 X kv fv p6 p7 p8 p11 v6 v7 v8 v11 w'):UsF w1 X kv fv p6 True p8 p11 v6 v6 v8 v11 w':=⟨F.bel,F.f6,λ _=>rfl,F.f8,F.f11⟩
theorem UsF.s8 (F:UsF w1 X kv fv p6 p7 p8 p11 v6 v7 v8 v11 w') (n11:¬ p11) (ho:OwnG RelP w' w1.heap.size w'.heap.size 98 3 enP v' X):UsF w1 X kv fv p6 p7 True p11 v6 v7 v' v11 w':=⟨F.bel,F.f6,F.f7,λ _=>ho,λ h=>absurd h n11⟩
theorem UsF.s11 (F:UsF w1 X kv fv p6 p7 p8 p11 v6 v7 v8 v11 w'):UsF w1 X kv fv p6 p7 p8 True v6 v7 v8 v8 w':=⟨F.bel,F.f6,F.f7,F.f8,λ _=>rfl⟩
end
structure Us (w wr:World) (v:Vr) (cs:List Value) (uo:Value) (os:List (List Int)):Prop where
 bel:Below w.heap.size w wr
 rv:RowB wr w.heap.size 25 (vL v)
 rb:RowB wr (w.heap.size+1) 51 cs
 or_:SlG RelI 1 en1 wr All uo os
theorem Us.below {w wr w':World} {v:Vr} {cs:List Value} {uo:Value} {os:List (List Int)} (h:Us w wr v cs uo os) (hb:zB wr w'):Us w w' v cs uo os :=
 ⟨h.bel.tR hb,h.rv.below hb h.rv.lt,h.rb.below hb h.rb.lt,(relSl RelI 1 en1).keep h.or_ (.below hb)⟩
theorem lng_len {v:Vr} {b:Bd} (hb:Ok v b) {o:List Int} (ho:(∀ d ∈ o,1<=d∧d<=6)∧o.length<=4):(lngP v b o).2.1<=4:=by
 have:=(lng_ok (v:=v) o [([],b)] 0 true (λ d c=>(ho.1 d c).1) (by intro p a;simp at a;subst a;exact⟨hb,rfl⟩) (by simp)).2.2;unfold lngP;omega
theorem used_le {v:Vr} {b:Bd} {os:List (List Int)} {m:Nat} (h:∀ o ∈ os,(lngP v b o).2.1<=m):usedP v b os<=m:=by
 induction os with
 | nil=>exact Nat.zero_le _
 | cons o os ih=>have:=h o (List.mem_cons_self ..);have:=ih (λ q a=>h q (List.mem_cons_of_mem _ a));simp only [usedP];omega
theorem used_s (v:Vr) (b:Bd) (hb:Ok v b) (Ao At:Option Addr) (co ct:Nat) (x y:Int) (hx:1<=x∧x<=6) (hy:1<=y∧y<=6) (w:World) (ho:RdS w w.heap.size 1 enI Ao b.1) (ht:RdS w w.heap.size 1 enI At b.2) (hA:Ao=none->co=0) (hT:At=none->ct=0) :
  Calls prog 106 #[vA v,.agg #[.slice Ao b.1.length co,.slice At b.2.length ct],.agg #[iL x,iL y]] w λ e w'=>e=.returned (iL ((usedP v b (ordP x y):Nat):Int))∧Below w.heap.size w w':=by
 have CO:=kD (λ(f:World)=>orders_s x y f);obtain⟨E,Z⟩:=eX (ordP x y);have HD:=ord_dice hx hy;rw [Z] at HD CO ⊢;have al:=kD HD.1;have Y:=HD.2;have ap:=kD (λ o (h:o ∈ E)=>lng_len hb (HD.1 o h));obtain⟨n1,ad⟩:=eX (b.1.length);obtain⟨n2,ac⟩:=eX (b.2.length);have T:=kD (λ(f:World) (h:zB w f) (o:List Int) (ab:o ∈ E) (u:Value) (hu:SlV 1 enI f All u o)=>longest_s v b hb Ao At co ct o (al.out o ab).1 (al.out o ab).2 u f ((ho.below h lR).more h.size) ((ht.below h lR).more h.size) hA hT hu);rw [ad,ac] at T ⊢;obtain⟨N,hN⟩:=eX (E.length);have HN:=kD hN;rw [hN] at Y;obtain⟨RR,Q⟩:=eX (usedP v b E);rw [Q];have ao:=kD Q;clear hb ho ht hA hT Z HD ad ac hN hx hy Q;go_enter func106,ntmps106;go_upto_region 2 with fail;refine wp_gen (λ W'=>Below w.heap.size w W'∧RowB W' w.heap.size 25 (vL v)∧RowB W' (w.heap.size+1) 51 [.slice Ao n1 co,.slice At n2 ct]∧RowB W' (w.heap.size+2) 53 [iL x,iL y]) ⟨by go_grown,((nW).alloc _).alloc _,RowB.alloc (nX) _,nX⟩ ?_;rintro w1 ⟨P,rv,rb,rr⟩;obtain⟨r0,r1⟩:=rr.c2;have ae:=rr.lt;go_wp2_with fail;refine(CO.out w1).mono ?_;rintro e w2 ⟨uo,rfl,aa,J⟩;have K:Us w w2 v [.slice Ao n1 co,.slice At n2 ct] uo E:=⟨P.tR J,rv.below J rv.lt,rb.below J rb.lt,(relSl RelI 1 en1).weak aa (λ _ _ _=>trivial)⟩;obtain⟨Ar,cr,aq,W,-⟩:=aa;rw [HN.out] at W;subst W;clear r0 r1 ae rb rr rv P J CO;have af:=K.rv.lt;go_wp2_with fail;go_loopw [7,9] (λ mv i wr=>∃(k t:Nat),k<=N∧i=iL (k:Int)∧mv=iL (t:Int)∧Us w wr v [.slice Ao n1 co,.slice At n2 ct] (.slice Ar N cr) E∧Hid (max t (usedP v b (E.drop k))=RR)) (λ _ i _=>N - (intOf i).toNat)
 case atStart=>exact⟨0,0,Nat.zero_le _,by first | rfl | trivial,by first | rfl | trivial,K,kD (by rw [<-ao.out];exact Nat.zero_max _)⟩
 case round =>
  obtain⟨k,t,hk,rfl,rfl,K,HG⟩:=hrel;clear af;have af:=K.rv.lt;have ae:=K.rb.lt;by_cases hlt:k<N
  ·obtain⟨A5,O,rs,e5,M,C,-⟩:=K.or_;simp only [Value.slice.injEq] at e5;obtain⟨rfl,-,rfl⟩:=e5;obtain⟨b5,V,r,rfl,-,ag,hr,H⟩:=M.at_ (i:=k) (by rw [C.1,HN.out];exact hlt);obtain⟨o,ho,an⟩:=C.at_ hr;have H:wr.cell? ⟨b5,V+k,none⟩=some r:=by have:=H 0 r rfl;simpa using this
   have ak:=kD (List.mem_of_getElem? ho);have aj:=kD an;have D:=HG.out;rw [drop_cons ho] at D;have q:=kD (λ(f:World) (h:zB wr f)=>(Below.cell h (p:=⟨b5,V+k,none⟩) ag).trans H);have aw:(k:Int)<(N:Int):=by omega
   have ar:=iW (((k:Int)+1));have ah:=ap.out o ak.out;obtain⟨L,hL⟩:=eX (lngP v b o);have T:=kD (λ(f:World) (h:zB wr f)=>T.out f (K.bel.tR h) o ak.out r (RelI.keep aj.out (.below h)));rw [hL] at T ah;simp only [usedP,hL] at D;obtain⟨X,G,ff⟩:=L;simp only at T ah D;clear M C hr ho hL H ag aj;have R:=kD K.rv;have S:=kD K.rb;go_wp2_with fail;refine rG [some 22,some 23,some 24,some 25,some 26,some 27,some 28,some 21,some 29,some 30,some 31,some 10,some 11,some 12] 14 (Pl [some (vA v),some (.agg #[.slice Ao n1 co,.slice At n2 ct]),some (.slice (sA b5 V) N cr),some (iL (k:Int)),some (pT b5 (V+k)),some (r),none,none,none,some (iL (G:Int)),some (.bool ff),none,some (iL (G:Int)),some (.bool ff)]) (λ L a w'=>UsF wr X (iL (G:Int)) (.bool ff) (L 6) (L 7) (L 8) (L 11) (a 6) (a 7) (a 8) (a 11) w') ?g0_1 ?gst_1 ?gfin_1
   case g0_1=>exact⟨(zRf).drew,λ h=>absurd h (by decide),λ h=>absurd h (by decide),λ h=>absurd h (by decide),λ h=>absurd h (by decide)⟩
   case gst_1 =>
    refine rN rfl (λ L a A f g d j U F K m=>?_) ?_
    ·have e3:=U.w 3 (pT w.heap.size 0);obtain⟨q0,q1,q2,q3⟩:=(R.out.below F.bel R.out.lt).c4;obtain⟨z0,z1⟩:=(S.out.below F.bel S.out.lt).c2;have O:=q.out f F.bel
     skip
     go_simp;exact pF m (F.skip 0 _)
    refine rN rfl (λ L a A f g d j U F K m=>?_) ?_
    ·have e4:=U.w 4 (pT (w.heap.size+1) 0);obtain⟨q0,q1,q2,q3⟩:=(R.out.below F.bel R.out.lt).c4;obtain⟨z0,z1⟩:=(S.out.below F.bel S.out.lt).c2;have O:=q.out f F.bel
     skip
     go_simp;exact pF m (F.skip 1 _)
    refine rN rfl (λ L a A f g d j U F K m=>?_) ?_
    ·have e8:=U.w 8 (.slice (sA b5 V) N cr);have O:=q.out f F.bel;go_simp;exact pF m (F.skip 2 _)
    refine rN rfl (λ L a A f g d j U F K m=>?_) ?_
    ·have e9:=U.w 9 (iL (k:Int));have O:=q.out f F.bel;go_simp;exact pF m (F.skip 3 _)
    refine rN rfl (λ L a A f g d j U F K m=>?_) ?_
    ·have aE:=U.v 2 24;have aD:=U.v 3 25;have O:=q.out f F.bel;go_simp;exact pF m (F.skip 4 _)
    refine rN rfl (λ L a A f g d j U F K m=>?_) ?_
    ·have aC:=U.v 4 26;obtain⟨q0,q1,q2,q3⟩:=(R.out.below F.bel R.out.lt).c4;obtain⟨z0,z1⟩:=(S.out.below F.bel S.out.lt).c2;have O:=q.out f F.bel
     skip
     go_simp;exact pF m (F.skip 5 _)
    refine rN rfl (λ L a A f g d j U F K m=>?_) ?_
    ·have aG:=U.v 0 22;have aF:=U.v 1 23;have aB:=U.v 5 27;go_simp;refine(T.out f F.bel).mono ?_;rintro e w6 ⟨vv,rfl,h3,am⟩;exact m.out _ w6 (Pl.any rfl) (by simpa [upd] using F.s6 (λ h=>g (j 7 6 (by kernel_rfl) h)) (λ h=>g (j 8 6 (by kernel_rfl) h)) (λ h=>g (j 11 6 (by kernel_rfl) h)) am h3)
    refine rN rfl (λ L a A f g d j U F K m=>?_) ?_
    ·have aA:=U.x 6 28;go_simp;exact m.out _ f (Pl.any rfl) (by simpa [upd] using F.s7)
    refine rN rfl (λ L a A f g d j U F K m=>?_) ?_
    ·have z:=U.x 7 21;have B:=F.f6 (bK d 6);refine B.elim λ vv B=>?_
     have em:=(z.trans (F.f7 (bK d 7))).trans B.1;clear z;go_simp;exact m.out _ f (Pl.any rfl) (by simpa [upd] using F.s8 (λ h=>g (j 11 8 (by kernel_rfl) h)) B.2)
    refine rN rfl (λ L a A f g d j U F K m=>?_) ?_
    ·have z:=U.x 7 21;have B:=F.f6 (bK d 6);refine B.elim λ vv B=>?_
     have em:=(z.trans (F.f7 (bK d 7))).trans B.1;clear z;go_simp;exact pF m (F.skip 9 _)
    refine rN rfl (λ L a A f g d j U F K m=>?_) ?_
    ·have z:=U.x 7 21;have B:=F.f6 (bK d 6);refine B.elim λ vv B=>?_
     have em:=(z.trans (F.f7 (bK d 7))).trans B.1;clear z;go_simp;exact pF m (F.skip 10 _)
    refine rN rfl (λ L a A f g d j U F K m=>?_) ?_
    ·have az:=U.x 8 29;go_simp;exact m.out _ f (Pl.any rfl) (by simpa [upd] using F.s11)
    refine rN rfl (λ L a A f g d j U F K m=>?_) ?_
    ·have ay:=U.v 9 30;have O:=q.out f F.bel;go_simp;exact pF m (F.skip 12 _)
    refine rN rfl (λ L a A f g d j U F K m=>?_) ?_
    ·have ax:=U.v 10 31;have O:=q.out f F.bel;go_simp;exact pF m (F.skip 13 _)
    exact RelFrom.nil (by decide)
   case gfin_1 =>
    intro a f hp F;simp only [Fr,Act.put,sX,Nat.reduceAdd];have I:=F.bel;have ai:a 12=iL (G:Int):=hp 12 (by decide) _ rfl;rw [ai];clear F hp ai;have K:=K.below I;have HS:Hid ((if t<G then (G:Int) else (t:Int))=((max t G:Nat):Int)):=kD (by split <;> omega);have HG:Hid (max (max t G) (usedP v b (E.drop (k+1)))=RR):=kD (by rw [<-D,Nat.max_assoc]);clear D I R S T q;go_wp2_with fail;go_roundw
    case rel=>exact⟨k+1,max t G,by omega,by go_num,by first | rw [HS.out] | (congr 1;omega),K,HG⟩
    case measure=>simp [intOf];omega
  ·obtain rfl:k=N:=by omega
   have av:¬ ((k:Int)<(k:Int)):=by omega
   obtain rfl:t=RR:=by rw [<-HG.out,List.drop_of_length_le (by rw [HN.out];exact Nat.le_refl _)];exact(Nat.max_zero _).symm
   have I:=K.bel;clear HG K;go_wp2_with fail;go_ret;exact⟨rfl,I⟩
end Bd23
namespace Bd24
open Go.ChangeShapes Go.WideShapes Go.ChangeAt Go.RowKit Base Ints Own Clone RelG PlP Bd1 Bd4 Bd5 Bd6 Bd7 Bd7S Bd8 Bd9 Bd11 RegInv RegF RegG Bd16 Bd17 Bd18 Bd19 Bd20 Bd21 Bd22 Bd23
structure As1 (w wr:World) (v:Vr) (cs:List Value) (vl:Value) (X:List Pl) (n m:Nat) (uo:Value) (os:List (List Int)):Prop where
 bel:Below w.heap.size w wr
 rv:RowB wr w.heap.size 25 (vL v)
 rb:RowB wr (w.heap.size+1) 51 cs
 ge:w.heap.size+3<=wr.heap.size
 og:OwnG RelP wr (w.heap.size+3) wr.heap.size 98 3 enP vl X
 co:Coll v n m X
 or_:SlG RelI 1 en1 wr (NotIn vl 0) uo os
structure As2 (w wr:World) (v:Vr) (cs:List Value) (vl:Value) (X:List Pl) (n m:Nat) (uo:Value) (os:List (List Int)) (lv:Value) (ps:List Pl):Prop where
 k1:As1 w wr v cs vl X n m uo os
 pl:SlG RelP 3 enP wr (NotIn vl (w.heap.size+3)) lv ps
section
variable {w wr w':World} {v:Vr} {cs:List Value} {vl:Value} {X:List Pl} {n m m':Nat} {uo lv:Value} {os:List (List Int)} {ps:List Pl}
theorem As1.below (h:As1 w wr v cs vl X n m uo os) (hb:zB wr w'):As1 w w' v cs vl X n m uo os :=
 ⟨h.bel.tR hb,h.rv.below hb h.rv.lt,h.rb.below hb h.rb.lt,Nat.le_trans h.ge hb.size,(h.og.below_ hb).more hb.size,h.co,(relSl RelI 1 en1).keep h.or_ (.below hb)⟩
theorem As1.more (h:As1 w wr v cs vl X n m uo os) (hm:m<=m'):As1 w wr v cs vl X n m' uo os:=⟨h.bel,h.rv,h.rb,h.ge,h.og,h.co.more hm,h.or_⟩
theorem As1.blk (h:As1 w wr v cs vl X n m uo os):∀ g,vl.ownBlock=some g->w.heap.size+3<=g∧g<wr.heap.size:=λ g hg=>by obtain⟨rs,h1,-⟩:=h.og;exact h1.block g hg
theorem As2.below (h:As2 w wr v cs vl X n m uo os lv ps) (hb:zB wr w'):As2 w w' v cs vl X n m uo os lv ps:=⟨h.k1.below hb,(relSl RelP 3 enP).keep h.pl (.below hb)⟩
end
theorem lng_bd {v:Vr} {b:Bd} (hb:Ok v b) {o:List Int} (ho:(∀ d ∈ o,1<=d∧d<=6)∧o.length<=4):RowOk v (lngP v b o).2.1 (lngP v b o).1∧(lngP v b o).1.length<=390625:=by
 obtain⟨e,h⟩:=lng_rows v b o;obtain⟨a,g,f⟩:=rowsP_ok hb (λ d c=>(ho.1 d c).1) ho.2;rw [e];have:=a ((rowsP v b o).1.length - 1) _ (last_of (by omega));exact⟨this.1,Nat.le_trans this.2 (p25 (by omega))⟩
theorem go_skip {v:Vr} {b:Bd} {u i:Nat} {o:List Int} {os:List (List Int)} {X L:List Pl} {f ff:Bool} {kk:Nat} (hL:lngP v b o=(L,kk,ff)) (h:kk≠u∨(u=1∧i=1∧0<X.length)):allGo v b u i (o :: os) X f=allGo v b u (i+1) os X (f && ff):=by
 simp only [allGo,hL];rw [if_pos h]
theorem go_add {v:Vr} {b:Bd} {u i:Nat} {o:List Int} {os:List (List Int)} {X L:List Pl} {f ff:Bool} {kk:Nat} (hL:lngP v b o=(L,kk,ff)) (h:¬ (kk≠u∨(u=1∧i=1∧0<X.length))):allGo v b u i (o :: os) X f=allGo v b u (i+1) os (addAll X L) (f && ff):=by
 simp only [allGo,hL];rw [if_neg h]
theorem all_s (v:Vr) (b:Bd) (hb:Ok v b) (Ao At:Option Addr) (co ct:Nat) (x y:Int) (hx:1<=x∧x<=6) (hy:1<=y∧y<=6) (w:World) (ho:RdS w w.heap.size 1 enI Ao b.1) (ht:RdS w w.heap.size 1 enI At b.2) (hA:Ao=none->co=0) (hT:At=none->ct=0) :
  Calls prog 79 #[vA v,.agg #[.slice Ao b.1.length co,.slice At b.2.length ct],.agg #[iL x,iL y]] w λ e w'=>∃ vv,e=.returned (.tuple #[vv,.bool (allP v b x y).2])∧OwnG RelP w' w.heap.size w'.heap.size 98 3 enP vv (allP v b x y).1∧Below w.heap.size w w':=by
 obtain⟨i3,bt,bp,bo,bn⟩:=info_parts infoP;have hv:=hb.v1;obtain⟨P,hP⟩:∃ P:Nat,v.p=(P:Int):=⟨v.p.toNat,by omega⟩;have HP:=kD hP;have bH:P<=24:=by omega
 obtain⟨q,bQ⟩:=eX (P+1);have bc:b.1.length=q:=by have:=hb.own.len;omega
 have bb:b.2.length=q:=by have:=hb.oth.len;omega
 have CO:=kD (λ(d:World)=>orders_s x y d);have CU:=kD (λ(d:World) (h:zB w d)=>used_s v b hb Ao At co ct x y hx hy d ((ho.below h lR).more h.size) ((ht.below h lR).more h.size) hA hT);obtain⟨RR,ab⟩:=eX (allP v b x y);rw [ab];unfold allP at ab;obtain⟨J,aR⟩:=eX (ordP x y);have HD:=ord_dice hx hy;rw [aR] at HD CO CU ab;have bm:=kD HD.1;have aQ:=HD.2;have bD:=kD (λ o (h:o ∈ J)=>(⟨lng_bd hb (HD.1 o h),lng_len hb (HD.1 o h)⟩:(RowOk v (lngP v b o).2.1 (lngP v b o).1∧(lngP v b o).1.length<=390625)∧(lngP v b o).2.1<=4));obtain⟨E,aB⟩:=eX (usedP v b J);have bN:E<=4:=by rw [<-aB];exact used_le (λ o h=>lng_len hb (HD.1 o h))
 rw [aB] at CU ab;have bB:=kD ab;have CS:=kD (λ(d:World) (h:zB w d) (o:List Int) (aT:o ∈ J) (u:Value) (hu:SlV 1 enI d All u o)=>longest_s v b hb Ao At co ct o (bm.out o aT).1 (bm.out o aT).2 u d ((ho.below h lR).more h.size) ((ht.below h lR).more h.size) hA hT hu);rw [bc,bb] at CS CU ⊢;obtain⟨N,hN⟩:=eX (J.length);have HN:=kD hN;rw [hN] at aQ;clear hb ho ht hA hT aR HD bc bb hN hx hy ab hv hP aB;go_enter func79,ntmps79;go_upto_region 1 with fail;refine wp_gen (λ W'=>Below w.heap.size w W'∧RowB W' w.heap.size 25 (vL v)∧RowB W' (w.heap.size+1) 51 [.slice Ao q co,.slice At q ct]∧RowB W' (w.heap.size+2) 53 [iL x,iL y]) ⟨by go_grown,((nW).alloc _).alloc _,RowB.alloc (nX) _,nX⟩ ?_;rintro w1 ⟨H,rv,rb,rr⟩;obtain⟨q0,q1,q2,q3⟩:=rv.c4;obtain⟨z0,z1⟩:=rb.c2;obtain⟨r0,r1⟩:=rr.c2;have al:=rv.lt;have aW:=rb.lt;have T:=rr.lt;go_wp2_with fail;refine(CU.out w1 H).mono ?_;rintro e w2 ⟨rfl,ah⟩;have rv:=rv.below ah rv.lt;have rb:=rb.below ah rb.lt;have rr:=rr.below ah rr.lt;have H:=H.tR ah;have T:=rr.lt;clear q0 q1 q2 q3 z0 z1 r0 r1 al aW ah CU;go_upto_region 3 with fail;refine wp_gen (λ W'=>Below w2.heap.size w2 W'∧OwnG RelP W' (w.heap.size+3) W'.heap.size 98 3 enP (.slice (sA w2.heap.size 0) 0 0) []) ⟨by go_grown,⟨[],RowB.own (xs:=([]:List PRow)) (RowB.new w2 98 []) enP_len (by omega) (by simp) (by decide),LsR.nil _ _ _⟩⟩ ?_;rintro w3 ⟨ag,og⟩;have rv:=rv.below ag rv.lt;have rb:=rb.below ag rb.lt;have rr:=rr.below ag rr.lt;have H:=H.tR ag;have aY:(w2.heap.size)<w3.heap.size:=by obtain⟨Z,h9,-⟩:=og;exact(h9.block _ rfl).2
 obtain⟨gx,aX⟩:=eX (w2.heap.size);rw [aX] at og aY ⊢;obtain⟨r0,r1⟩:=rr.c2;have aV:=rr.lt;clear ag aX;go_wp2_with fail;refine(CO.out w3).mono ?_;rintro e w4 ⟨uo,rfl,aS,V⟩;have K:As1 w w4 v [.slice Ao q co,.slice At q ct] (.slice (sA gx 0) 0 0) [] E 0 uo J :=
  ⟨H.tR V,rv.below V rv.lt,rb.below V rb.lt,by have:=V.size;omega,(og.below_ V).more V.size,Coll.nil _ _,(relSl RelI 1 en1).weak aS (λ x (hx:w3.heap.size<=x) _=>⟨λ h=>by simp [Value.ownBlock] at h;omega,Nat.zero_le _⟩)⟩
 obtain⟨Ar,cr,bJ,aN,-⟩:=aS;rw [HN.out] at aN;subst aN;clear r0 r1 T aV rb rr rv H V og aY CO;have al:=K.rv.lt;go_wp2_with fail;go_loopw [9,10,12] (λ vl fv i wr=>∃(k:Nat) (X:List Pl) (f:Bool),k<=N∧i=iL (k:Int)∧fv=.bool f∧As1 w wr v [.slice Ao q co,.slice At q ct] vl X E (k*400000) (.slice Ar N cr) J∧Hid (allGo v b E k (J.drop k) X f=RR)) (λ _ _ i _=>N - (intOf i).toNat)
 case atStart=>exact⟨0,[],true,Nat.zero_le _,by first | rfl | trivial,by first | rfl | trivial,K.more (by omega),bB⟩
 case round =>
  obtain⟨k,X,f,hk,rfl,rfl,K,HG⟩:=hrel;clear al;have al:=K.rv.lt;have aW:=K.rb.lt;by_cases hlt:k<N
  ·obtain⟨A5,c5,rs,e5,av,ae,-⟩:=K.or_;simp only [Value.slice.injEq] at e5;obtain⟨rfl,-,rfl⟩:=e5;obtain⟨b5,o5,r,rfl,-,a2,hr,am⟩:=av.at_ (i:=k) (by rw [ae.1,HN.out];exact hlt);obtain⟨o,ho,a4⟩:=ae.at_ hr;have am:wr.cell? ⟨b5,o5+k,none⟩=some r:=by have:=am 0 r rfl;simpa using this
   have bj:=kD (List.mem_of_getElem? ho);have bg:=kD ((RelI).weak a4 (S':=All) (λ _ _ _=>trivial));have aK:=HG.out;rw [drop_cons ho] at aK;have I:=kD (λ(d:World) (h:zB wr d)=>(Below.cell h (p:=⟨b5,o5+k,none⟩) a2).trans am);have bR:(k:Int)<(N:Int):=by omega
   have bL:=iW (((k:Int)+1));have aj:=bD.out o bj.out;obtain⟨L,hL⟩:=eX (lngP v b o);have CS:=kD (λ(d:World) (h:zB wr d)=>CS.out d (K.bel.tR h) o bj.out r (RelI.keep bg.out (.below h)));rw [hL] at CS aj;obtain⟨G,kk,ff⟩:=L;simp only at CS aj;have bl:=kD hL;have bi:=kD aj.1;have aj:=aj.2;have aq:=kD aK;have RV:=kD K.rv;have RB:=kD K.rb;have ax:=kD K.blk;have aF:=K.ge;clear av ae hr ho hL am a2 bg HG aK a4;go_wp2_with fail;refine rG [some 31,some 32,some 33,some 34,some 35,some 36,some 37,some 30,some 38,some 39,some 40,some 13,some 14,some 15] 14 (Pl [some (vA v),some (.agg #[.slice Ao q co,.slice At q ct]),some (.slice (sA b5 o5) N cr),some (iL (k:Int)),some (pT b5 (o5+k)),some (r),none,none,none,some (iL (kk:Int)),some (.bool ff),none,some (iL (kk:Int)),some (.bool ff)]) (λ L a w'=>UsF wr G (iL (kk:Int)) (.bool ff) (L 6) (L 7) (L 8) (L 11) (a 6) (a 7) (a 8) (a 11) w') ?g0_2 ?gst_2 ?gfin_2
   case g0_2=>exact⟨(zRf).drew,λ h=>absurd h (by decide),λ h=>absurd h (by decide),λ h=>absurd h (by decide),λ h=>absurd h (by decide)⟩
   case gst_2 =>
    refine rN rfl (λ L a A d t m z U F K D=>?_) ?_
    ·have e3:=U.w 3 (pT w.heap.size 0);obtain⟨q0,q1,q2,q3⟩:=(RV.out.below F.bel RV.out.lt).c4;obtain⟨z0,z1⟩:=(RB.out.below F.bel RB.out.lt).c2;have c5:=I.out d F.bel
     skip
     go_simp;exact pF D (F.skip 0 _)
    refine rN rfl (λ L a A d t m z U F K D=>?_) ?_
    ·have e4:=U.w 4 (pT (w.heap.size+1) 0);obtain⟨q0,q1,q2,q3⟩:=(RV.out.below F.bel RV.out.lt).c4;obtain⟨z0,z1⟩:=(RB.out.below F.bel RB.out.lt).c2;have c5:=I.out d F.bel
     skip
     go_simp;exact pF D (F.skip 1 _)
    refine rN rfl (λ L a A d t m z U F K D=>?_) ?_
    ·have b8:=U.w 11 (.slice (sA b5 o5) N cr);have c5:=I.out d F.bel;go_simp;exact pF D (F.skip 2 _)
    refine rN rfl (λ L a A d t m z U F K D=>?_) ?_
    ·have b6:=U.w 12 (iL (k:Int));have c5:=I.out d F.bel;go_simp;exact pF D (F.skip 3 _)
    refine rN rfl (λ L a A d t m z U F K D=>?_) ?_
    ·have b2:=U.v 2 33;have b1:=U.v 3 34;have c5:=I.out d F.bel;go_simp;exact pF D (F.skip 4 _)
    refine rN rfl (λ L a A d t m z U F K D=>?_) ?_
    ·have b0:=U.v 4 35;obtain⟨q0,q1,q2,q3⟩:=(RV.out.below F.bel RV.out.lt).c4;obtain⟨z0,z1⟩:=(RB.out.below F.bel RB.out.lt).c2;have c5:=I.out d F.bel
     skip
     go_simp;exact pF D (F.skip 5 _)
    refine rN rfl (λ L a A d t m z U F K D=>?_) ?_
    ·have b4:=U.v 0 31;have b3:=U.v 1 32;have bZ:=U.v 5 36;go_simp;refine(CS.out d F.bel).mono ?_;rintro e w6 ⟨vv,rfl,h3,bw⟩;exact D.out _ w6 (Pl.any rfl) (by simpa [upd] using F.s6 (λ h=>t (z 7 6 (by kernel_rfl) h)) (λ h=>t (z 8 6 (by kernel_rfl) h)) (λ h=>t (z 11 6 (by kernel_rfl) h)) bw h3)
    refine rN rfl (λ L a A d t m z U F K D=>?_) ?_
    ·have bY:=U.x 6 37;go_simp;exact D.out _ d (Pl.any rfl) (by simpa [upd] using F.s7)
    refine rN rfl (λ L a A d t m z U F K D=>?_) ?_
    ·have Q:=U.x 7 30;have q6:=F.f6 (bK m 6);refine q6.elim λ vv q6=>?_
     have em:=(Q.trans (F.f7 (bK m 7))).trans q6.1;clear Q;go_simp;exact D.out _ d (Pl.any rfl) (by simpa [upd] using F.s8 (λ h=>t (z 11 8 (by kernel_rfl) h)) q6.2)
    refine rN rfl (λ L a A d t m z U F K D=>?_) ?_
    ·have Q:=U.x 7 30;have q6:=F.f6 (bK m 6);refine q6.elim λ vv q6=>?_
     have em:=(Q.trans (F.f7 (bK m 7))).trans q6.1;clear Q;go_simp;exact pF D (F.skip 9 _)
    refine rN rfl (λ L a A d t m z U F K D=>?_) ?_
    ·have Q:=U.x 7 30;have q6:=F.f6 (bK m 6);refine q6.elim λ vv q6=>?_
     have em:=(Q.trans (F.f7 (bK m 7))).trans q6.1;clear Q;go_simp;exact pF D (F.skip 10 _)
    refine rN rfl (λ L a A d t m z U F K D=>?_) ?_
    ·have bX:=U.x 8 38;go_simp;exact D.out _ d (Pl.any rfl) (by simpa [upd] using F.s11)
    refine rN rfl (λ L a A d t m z U F K D=>?_) ?_
    ·have bW:=U.v 9 39;have c5:=I.out d F.bel;go_simp;exact pF D (F.skip 12 _)
    refine rN rfl (λ L a A d t m z U F K D=>?_) ?_
    ·have bV:=U.v 10 40;have c5:=I.out d F.bel;go_simp;exact pF D (F.skip 13 _)
    exact RelFrom.nil (by decide)
   case gfin_2 =>
    intro a d hp F;simp only [Fr,Act.put,sX,Nat.reduceAdd];have an:=F.bel;have a9:a 12=iL (kk:Int):=hp 12 (by decide) _ rfl;have a8:a 13=.bool ff:=hp 13 (by decide) _ rfl;have o8:=F.f8 trivial;have ba:=F.f11 trivial;rw [a9,a8,ba];clear F hp a9 a8 ba
    generalize a 8=lv at o8 ⊢
    have a7:SlG RelP 3 enP d (NotIn u9 (w.heap.size+3)) lv G:=(relSl RelP 3 enP).weak (o8.sl enP_len lR) (λ x (hx:wr.heap.size<=x) _=>⟨λ h=>by have:=(ax.out x h).2;omega,by omega⟩);obtain⟨An,cn,aU,-⟩:=Bd19.OwnG.form enP_len o8;obtain⟨M,hM⟩:=eX (G.length);rw [hM] at aU;subst aU;have bk:=kD hM;have bU:M<=390625:=by rw [<-hM];exact bi.out.2
    have K:=K.below an;obtain⟨Ax,cx,aA,-⟩:=Bd19.OwnG.form enP_len K.og;obtain⟨XL,aG⟩:=eX (X.length);rw [aG] at aA;have be:=kD aG;have bT:XL<=9223372036854775807:=by obtain⟨Z,h9,bx⟩:=K.og;obtain⟨A8,c8,e8,r8⟩:=h9.form enP_len;have:=r8.len;rw [bx.1] at this;omega
    have B:As2 w d v [.slice Ao q co,.slice At q ct] u9 X E (k*400000) (.slice (sA b5 o5) N cr) J (.slice An M cn) G:=⟨K,a7⟩;clear K a7 o8 an RV RB CS I hM aG ax aF;by_cases hs:kk≠E∨(E=1∧k=1∧0<XL)
    ·have W:Hid (allGo v b E (k+1) (J.drop (k+1)) X (f && ff)=RR):=kD (by rw [<-aq.out,go_skip bl.out (by rw [be.out];exact hs)]);have K9:As1 w d v [.slice Ao q co,.slice At q ct] u9 X E ((k+1)*400000) (.slice (sA b5 o5) N cr) J:=B.k1.more (by omega);clear aq B;subst aA;by_cases h1:kk≠E
     ·have e1:((kk:Int) != (E:Int))=true:=by simp;omega
      have H1:=kD h1;clear h1 hs
      cases f
      all_goals
       go_wp2_with fail;go_roundw
       case rel=>exact⟨k+1,X,_,by omega,by go_num,by first | rfl | simp,K9,by first | exact W | simpa using W⟩
       case measure=>simp [intOf];omega
     ·obtain⟨h2,h3,h4⟩:=hs.resolve_left h1;have e1:((kk:Int) != (E:Int))=false:=by simp;omega
      have e2:((E:Int) == 1)=true:=by simp;omega
      have e3:((k:Int) == 1)=true:=by simp;omega
      have e4:(0:Int)<(XL:Int):=by omega
      have H1:=kD h1;have H2:=kD h2;have H3:=kD h3;clear h1 h2 h3 h4 hs
      cases f
      all_goals
       go_wp2_with fail;go_roundw
       case rel=>exact⟨k+1,X,_,by omega,by go_num,by first | rfl | simp,K9,by first | exact W | simpa using W⟩
       case measure=>simp [intOf];omega
    ·have aE:kk=E:=by omega
     have W:Hid (allGo v b E (k+1) (J.drop (k+1)) (addAll X G) (f && ff)=RR):=kD (by rw [<-aq.out,go_add bl.out (by rw [be.out];exact hs)]);have bC:Hid (RowOk v E G):=kD (by have:=bi.out.1;rw [aE] at this;exact this);have e1:((kk:Int) != (E:Int))=false:=by simp;omega
     have bv:(¬ E=1)∨(E=1∧¬ k=1)∨(E=1∧k=1∧XL=0):=by omega
     have b9:=kD aE;clear aE hs aq;subst aA;rcases bv with h2 | ⟨h2,h3⟩ | ⟨h2,h3,h4⟩
     all_goals
      first
       | have e2:((E:Int) == 1)=false:=by simp;omega
       | have e2:((E:Int) == 1)=true:=by simp;omega
      first
       | have e3:((k:Int) == 1)=true:=by simp;omega
       | have e3:((k:Int) == 1)=false:=by simp;omega
       | skip
      try have e4:¬ ((0:Int)<(XL:Int)):=by omega
      have H2:=kD h2
      try have H3:=kD h3
      try have H4:=kD h4
      clear h2
      try clear h3
      try clear h4
      cases f
     all_goals
      go_wp2_with fail;go_loopw [9,16] (λ vl i wq=>∃ j:Nat,j<=M∧i=iL (j:Int)∧As2 w wq v [.slice Ao q co,.slice At q ct] vl (addAll X (G.take j)) E (k*400000+j) (.slice (sA b5 o5) N cr) J (.slice An M cn) G) (λ _ i _=>M - (intOf i).toNat)
      case atStart=>exact⟨0,Nat.zero_le _,by first | rfl | trivial,⟨B.k1.more (by omega),B.pl⟩⟩
      case round =>
       obtain⟨j,hj,rfl,B⟩:=hrel;by_cases hlj:j<M
       ·obtain⟨A7,c7,bI,e7,ar,ad,-⟩:=B.pl;simp only [Value.slice.injEq] at e7;obtain⟨rfl,-,rfl⟩:=e7;obtain⟨b7,o7,r7,rfl,-,a1,aP,a0⟩:=ar.at_ (i:=j) (by rw [ad.1,bk.out];exact hlj);obtain⟨p,hp,ai⟩:=ad.at_ aP;have ap:=kD (bC.out p (List.mem_of_getElem? hp));have HS:=kD (show addAll X (G.take (j+1))=addOne (addAll X (G.take j)) p from by rw [takeS hp,addAll_snoc]);obtain⟨Y,hY⟩:=eX (addAll X (G.take j));rw [hY] at B HS;obtain⟨sp,bd⟩:=p;obtain⟨r0,rl,rm⟩:=r7;have aJ:=kD ai;have a6:=ai.2.1;have a5:=ai.2.2;simp only at a6 a5 ap;obtain⟨A3,c3,rfl,k3,-⟩:=a6;obtain⟨A4,c4,rfl,k4,-⟩:=a5;have T:bd.1.length=q:=by have:=ap.out.1.own.len;have:=HP.out;omega
        have ak:bd.2.length=q:=by have:=ap.out.1.oth.len;have:=HP.out;omega
        obtain⟨A0,n0,S,bq⟩:∃ A n c,r0=.slice A n c:=by
         obtain⟨A0,S,bz,-⟩:=ai.1.1.form enSt_len;exact⟨_,_,_,bz⟩
        subst bq;have PC:=kD (λ(d:World) (h:zB wr d)=>by
         have e:=λ(i:Nat) (u:Value) (hu:(enP (.slice A0 n0 S,.slice A3 bd.1.length c3,.slice A4 bd.2.length c4))[i]?=some u)=>((Below.cell h (p:=⟨b7,o7+j*3+i,none⟩) a1).trans (a0 i u hu))
         have h0:d.cell? ⟨b7,o7+j*3,none⟩=some (.slice A0 n0 S):=e 0 _ rfl;have h1:d.cell? ⟨b7,o7+j*3+1,none⟩=some (.slice A3 q c3):=by have:=e 1 _ rfl;simp only [T] at this;exact this
         have h2:d.cell? ⟨b7,o7+j*3+2,none⟩=some (.slice A4 q c4):=by have:=e 2 _ rfl;simp only [ak] at this;exact this
         exact(⟨h0,h1,h2⟩:d.cell? ⟨b7,o7+j*3,none⟩=some (.slice A0 n0 S)∧d.cell? ⟨b7,o7+j*3+1,none⟩=some (.slice A3 q c3)∧d.cell? ⟨b7,o7+j*3+2,none⟩=some (.slice A4 q c4)))
        obtain⟨c0,c1,c2⟩:=PC.out wr (zRf);have bS:(j:Int)<(M:Int):=by omega
        have bM:=iW (((j:Int)+1));have FI:=kD (find_s Y bd q (by omega) (row_sides B.k1.co.ok (by have:=HP.out;omega)) T ak u9 A3 A4 c3 c4 wr.heap.size wr lR ((relSl RelP 3 enP).weak (B.k1.og.sl enP_len lR) (λ _ _ _=>trivial)) k3.rd k4.rd);have bF:=kD T;have bE:=kD ak;rw [bF.out,bE.out] at aJ;clear hY hp ai a0 ar ad aP k3 k4 T ak a1;go_wp2_with fail;refine FI.out.mono ?_;rintro e w8 ⟨r8,rfl,ac,ao⟩;have B:=B.below ao;have bh:=RelP.keep aJ.out (.below ao);obtain⟨d0,d1,d2⟩:=PC.out w8 ao;clear c0 c1 c2 FI aJ PC ao;obtain⟨x9,az⟩:=eX (hasB Y bd);rw [az] at ac;have HX:=kD az;clear az
        cases x9
        case true =>
         have ac:decide (r8<0)=false:=ac;have bf:addAll X (G.take (j+1))=Y:=by rw [HS.out];exact addOne_has HX.out
         have K9:As2 w w8 v [.slice Ao q co,.slice At q ct] u9 (addAll X (G.take (j+1))) E (k*400000+(j+1)) (.slice (sA b5 o5) N cr) J (.slice (sA b7 o7) M cn) G:=by
          rw [bf];exact⟨B.k1.more (by omega),B.pl⟩
         clear B bf;go_wp2_with fail;go_roundw
         case rel=>exact⟨j+1,by omega,by go_num,K9⟩
         case measure=>simp [intOf];omega
        case false =>
         have ac:decide (r8<0)=true:=ac;have bG:Y.length<=10000000:=by have:=B.k1.co.len;omega
         have bA:=kD (show addAll X (G.take (j+1))=Y++[(sp,bd)] from by rw [HS.out];exact addOne_new HX.out);have aZ:=B.k1.co.add (p:=(sp,bd)) ap.out;rw [addOne_new (show hasB Y bd=false from HX.out)] at aZ;obtain⟨Z,aC,aD⟩:=B.k1.og;have aO:=kD aD.1;have hu:=aC.block;have aF:=B.k1.ge;go_wp2_with (at_builtin;refine wpL_one rfl _ _ _ rfl (w.heap.size+3) _ 98 i3 (.agg #[.slice none 0 0,.slice none 0 0,.slice none 0 0]) 3 72 Tryz.underlying94 bt bp bo bn rfl (by decide) enP_len u9 Z (.slice A0 n0 S,.slice A3 q c3,.slice A4 q c4) (one_P _ ⟨rfl,rfl,rfl⟩) rfl (aC.alloc _) w8.heap.size 1 98 rfl (nW) ?d1 ?d2 ?d3 ?_)
         case d1=>have:=aO.out;unfold maxLen;omega
         case d2=>have:=aO.out;omega
         case d3=>go_size
         intro aH aI aL aw O C bs;have aa:Below w8.heap.size w8 (w8.alloc (.cells #[.slice A0 n0 S,.slice A3 q c3,.slice A4 q c4] 98)):=by go_grown
         have C:u9.ownBlock=some aH∨aH=(w8.alloc (.cells #[.slice A0 n0 S,.slice A3 q c3,.slice A4 q c4] 98)).heap.size:=by simpa using C
         have af:w8.grownBy aL u9.ownBlock:=below_grown (w:=w8) aa O;have a3:RelP.R w8 (NotIn u9 (w.heap.size+3)) (.slice A0 n0 S,.slice A3 q c3,.slice A4 q c4) (sp,bd):=bh;have og:=own_snoc (aD.keep (.below aa)) (RelP.keep a3 (.below aa)) aw O C;have aM:=app_still (K:=relSl RelI 1 en1) (n:=Z.length+1) (c:=aI) O C ((relSl RelI 1 en1).keep B.k1.or_ (.below aa));have pl:=app_still (K:=relSl RelP 3 enP) (n:=Z.length+1) (c:=aI) O C ((relSl RelP 3 enP).keep B.pl (.below aa));have K9:As2 w aL v [.slice Ao q co,.slice At q ct] (.slice (sA aH 0) (Z.length+1) aI) (addAll X (G.take (j+1))) E (k*400000+(j+1)) (.slice (sA b5 o5) N cr) J (.slice (sA b7 o7) M cn) G:=by
          rw [bA.out];exact⟨⟨B.k1.bel.grown af B.k1.bel.size (λ g hg=>by have:=(hu g hg).1;omega),B.k1.rv.grown af (λ g hg=>by have:=(hu g hg).1;omega),B.k1.rb.grown af (λ g hg=>by have:=(hu g hg).1;omega),Nat.le_trans aF af.size,og,aZ.more (by omega),aM⟩,pl⟩
         clear og aM pl af aa aw O C aC aD hu bh a3 B d0 d1 d2;go_wp2_with fail;go_roundw
         case rel=>exact⟨j+1,by omega,by go_num,K9⟩
         case measure=>simp [intOf];omega
       ·obtain rfl:j=M:=by omega
        have bP:¬ ((j:Int)<(j:Int)):=by omega
        have ay:G.take j=G:=List.take_of_length_le (by rw [bk.out];exact Nat.le_refl _);rw [ay] at B;have K9:As1 w wr v [.slice Ao q co,.slice At q ct] u9 (addAll X G) E ((k+1)*400000) (.slice (sA b5 o5) N cr) J:=B.k1.more (by omega);clear ay B;go_wp2_with fail;go_roundw
        case rel=>exact⟨k+1,addAll X G,_,by omega,by go_num,by first | rfl | simp,K9,by first | exact W | simpa using W⟩
        case measure=>simp [intOf];omega
  ·obtain rfl:k=N:=by omega
   have bO:¬ ((k:Int)<(k:Int)):=by omega
   obtain rfl:(X,f)=RR:=by rw [<-HG.out,List.drop_of_length_le (by rw [HN.out];exact Nat.le_refl _)];rfl
   have an:=K.bel;have br:=K.og.less (lo':=w.heap.size) (by omega);clear HG K;go_wp2_with fail;go_ret2;exact⟨_,rfl,br,an⟩
end Bd24
end Go.Proofs.YtjdefiinmicjiaaGreatDoor
