/- Parts of the proof of FnEventText. Conditions: each theorem's own. -/
import Derived.Test.YtjdefiinmicjiaaGreatDoorU10
set_option linter.unusedVariables false
set_option linter.unusedSimpArgs false
set_option maxHeartbeats 8000000
set_option maxRecDepth 100000
namespace Go.Proofs.YtjdefiinmicjiaaGreatDoor
namespace Bd18
open Go.ChangeShapes Go.WideShapes Go.ChangeAt Go.RowKit Base Ints Own Clone RelG PlP Bd1 Bd4 Bd5 Bd6 Bd7 Bd7S Bd8 Bd9 Bd11 RegInv RegF RegG Bd16 Bd17
structure Nx1 (w wr:World) (v:Vr) (vl:Value) (X:List Pl) (k m:Nat):Prop where
 bel:Below w.heap.size w wr
 rv:RowB wr w.heap.size 25 (vL v)
 og:OwnG RelP wr (w.heap.size+1) wr.heap.size 98 3 enP vl X
 co:Coll v k m X
theorem Nx1.below {w wr w':World} {v:Vr} {vl:Value} {X:List Pl} {k m:Nat} (h:Nx1 w wr v vl X k m) (hb:Below wr.heap.size wr w'):Nx1 w w' v vl X k m :=
 ⟨h.bel.trans (hb.mono h.bel.size),h.rv.below hb h.rv.lt,(h.og.below_ hb).more hb.size,h.co⟩
theorem Nx1.blk {w wr:World} {v:Vr} {vl:Value} {X:List Pl} {k m:Nat} (h:Nx1 w wr v vl X k m):∀ g,vl.ownBlock=some g->w.heap.size+1<=g∧g<wr.heap.size:=λ g hg=>by obtain⟨rs,h1,-⟩:=h.og;exact h1.block g hg
structure Nx2 (w wr:World) (v:Vr) (vl:Value) (X:List Pl) (k m:Nat) (sv:Value) (ss:List Stp):Prop where
 k1:Nx1 w wr v vl X k m
 st:SlV 4 enSt wr (NotIn vl (w.heap.size+1)) sv ss
theorem Nx2.below {w wr w':World} {v:Vr} {vl:Value} {X:List Pl} {k m:Nat} {sv:Value} {ss:List Stp} (h:Nx2 w wr v vl X k m sv ss) (hb:Below wr.heap.size wr w'):Nx2 w w' v vl X k m sv ss :=
 ⟨h.k1.below hb,(relV 4 enSt).keep h.st (.below hb)⟩
structure BdF (w8:World) (nb:Bd) (n:Nat) (p10 p11 p12:Prop) (v10 v11:Value) (w':World):Prop where
 bel:Below w8.heap.size w8 w'
 f10:p10->∃ A3 c3 A4 c4,v10=.agg #[.slice A3 n c3,.slice A4 n c4]∧OwnV 2 1 enI w' (λ b=>w8.heap.size<=b∧(p11->v11≠.pointer (some ⟨b,0,none⟩))) (.slice A3 n c3) nb.1∧OwnV 2 1 enI w' (λ b=>w8.heap.size<=b∧(p11->v11≠.pointer (some ⟨b,0,none⟩))) (.slice A4 n c4) nb.2
 f11:p11->¬ p12->∃ g x y,v11=.pointer (some ⟨g,0,none⟩)∧w8.heap.size<=g∧RowB w' g 51 [x,y]
 f12:p12->∃ g A3 c3 A4 c4,v11=.pointer (some ⟨g,0,none⟩)∧w8.heap.size<=g∧RowB w' g 51 [.slice A3 n c3,.slice A4 n c4]∧OwnV 2 1 enI w' (λ b=>w8.heap.size<=b∧b≠g) (.slice A3 n c3) nb.1∧OwnV 2 1 enI w' (λ b=>w8.heap.size<=b∧b≠g) (.slice A4 n c4) nb.2
section
variable {w8 w' w'':World} {nb:Bd} {n:Nat} {p10 p11 p12:Prop} {v10 v11:Value}
theorem BdF.skip {L:Nat->Prop} {vals:Nat->Value} (F:BdF w8 nb n (L 10) (L 11) (L 12) (vals 10) (vals 11) w') (k:Nat) (x:Value) (h10:10≠k:=by decide) (h11:11≠k:=by decide) (h12:12≠k:=by decide) :
  BdF w8 nb n (10=k∨L 10) (11=k∨L 11) (12=k∨L 12) (upd vals k x 10) (upd vals k x 11) w':=by
 rw [or_ne h10,or_ne h11,or_ne h12,upd_ne h10,upd_ne h11];exact F
theorem BdF.s10 (F:BdF w8 nb n p10 p11 p12 v10 v11 w') (n12:¬ p12) {A3 A4:Option Addr} {c3 c4:Nat} (h1:OwnS w'' w'.heap.size w''.heap.size 2 1 enI (.slice A3 n c3) nb.1) (h2:OwnS w'' w'.heap.size w''.heap.size 2 1 enI (.slice A4 n c4) nb.2) (hb:Below w'.heap.size w' w'') :
  BdF w8 nb n True p11 p12 (.agg #[.slice A3 n c3,.slice A4 n c4]) v11 w'':=by
 have j:=F.bel.size;have c:∀ b,w'.heap.size<=b->(w8.heap.size<=b∧(p11->v11≠.pointer (some ⟨b,0,none⟩))):=λ b a=>⟨by omega,λ h e=>by
  obtain⟨g,x,y,f,i,d⟩:=F.f11 h n12;rw [f] at e;simp only [Value.pointer.injEq,Option.some.injEq,Addr.mk.injEq,and_true] at e;have:=d.lt;omega⟩
 refine⟨F.bel.trans (hb.mono j),λ _=>⟨A3,c3,A4,c4,rfl,OwnV.of h1 (Nat.le_refl _) (λ b a _=>c b a),OwnV.of h2 (Nat.le_refl _) (λ b a _=>c b a)⟩,λ h k=>?_,λ h=>absurd h n12⟩;obtain⟨g,x,y,f,i,d⟩:=F.f11 h k;exact⟨g,x,y,f,i,d.below hb d.lt⟩
theorem BdF.s11 (F:BdF w8 nb n p10 p11 p12 v10 v11 w') (n12:¬ p12) (x y:Value):BdF w8 nb n p10 True p12 v10 (.pointer (some ⟨w'.heap.size,0,none⟩)) (w'.alloc (.cells ⟨[x,y]⟩ 51)):=by
 have c:=F.bel.size;refine⟨F.bel.alloc c _,λ h=>?_,λ _ _=>⟨_,x,y,rfl,c,RowB.new _ _ _⟩,λ h=>absurd h n12⟩;obtain⟨p,m,o,k,e,j,i⟩:=F.f10 h;have f:Below w'.heap.size w' (w'.alloc (.cells ⟨[x,y]⟩ 51)):=(Below.refl _ _).alloc (Nat.le_refl _) _;have a:∀(u:Value) (l:List Int),OwnV 2 1 enI w' (λ b=>w8.heap.size<=b∧(p11->v11≠.pointer (some ⟨b,0,none⟩))) u l->OwnV 2 1 enI (w'.alloc (.cells ⟨[x,y]⟩ 51)) (λ b=>w8.heap.size<=b∧(True->Value.pointer (some ⟨w'.heap.size,0,none⟩)≠.pointer (some ⟨b,0,none⟩))) u l:=λ u l h =>
  ⟨(OwnV.keep h (.below f)).1,λ g d=>⟨(h.2 g d).1,λ _ e=>by
   simp only [Value.pointer.injEq,Option.some.injEq,Addr.mk.injEq,and_true] at e;have:=h.1.2 g d;omega⟩⟩
 exact⟨p,m,o,k,e,a _ _ j,a _ _ i⟩
theorem BdF.s12 (F:BdF w8 nb n p10 p11 p12 v10 v11 w') {A3 A4:Option Addr} {c3 c4 g:Nat} {x y:Value} (h11:p11) (e:v11=.pointer (some ⟨g,0,none⟩)) (hg:w8.heap.size<=g) (hr:RowB w' g 51 [x,y]) (e2:v10=.agg #[.slice A3 n c3,.slice A4 n c4])
  (h1:OwnV 2 1 enI w' (λ b=>w8.heap.size<=b∧(p11->v11≠.pointer (some ⟨b,0,none⟩))) (.slice A3 n c3) nb.1) (h2:OwnV 2 1 enI w' (λ b=>w8.heap.size<=b∧(p11->v11≠.pointer (some ⟨b,0,none⟩))) (.slice A4 n c4) nb.2) :
  BdF w8 nb n p10 p11 True v10 v11 ((w'.setCell ⟨g,0,none⟩ (.slice A3 n c3)).setCell ⟨g,1,none⟩ (.slice A4 n c4)):=by
 have a:Still (λ b=>w8.heap.size<=b∧(p11->v11≠.pointer (some ⟨b,0,none⟩))) w' ((w'.setCell ⟨g,0,none⟩ (.slice A3 n c3)).setCell ⟨g,1,none⟩ (.slice A4 n c4)) :=
  (Still.grown (grownBy_setCell _ g 0 _) (λ k c d=>by simp at c;subst c;exact d.2 h11 e)).trans (Still.grown (grownBy_setCell _ g 1 _) (λ k c d=>by simp at c;subst c;exact d.2 h11 e))
 have m:=OwnV.keep h1 a;have j:=OwnV.keep h2 a;have i:∀ {u:Value} {l:List Int} {W:World},OwnV 2 1 enI W (λ b=>w8.heap.size<=b∧(p11->v11≠.pointer (some ⟨b,0,none⟩))) u l->OwnV 2 1 enI W (λ b=>w8.heap.size<=b∧b≠g) u l:=λ h=>(relO 2 1 enI).weak h (λ b o _=>⟨o.1,λ f=>o.2 h11 (by rw [f];exact e)⟩)
 exact⟨below_two F.bel hg _ _,λ _=>⟨A3,c3,A4,c4,e2,m,j⟩,λ _ h=>absurd trivial h,λ _=>⟨g,A3,c3,A4,c4,e,hg,two_ hr _ _,i m,i j⟩⟩
end
structure NxF (w w9:World) (u8:Value) (Y:List Pl) (sp:List Stp) (s:Stp) (nb:Bd) (a b:Value) (p1 p7 p12 p13 p15 p16 p17 p18:Prop) (v1 v7 v12 v13 v15 v16 v17 v18:Value) (w':World):Prop where
 pre:¬ p17->GoF w9 sp s p1 p7 p12 p13 False v1 v7 v12 v13 undef w'
 f15:p15->v15=.agg #[v13,a,b]
 f16:p16->¬ p17->∃ g,v16=.slice (some ⟨g,0,none⟩) 1 1∧RowB w' g 98 [v13,a,b]
 f17:p17->∃ g k c,v17=.slice (some ⟨g,0,none⟩) k c∧OwnG RelP w' (w.heap.size+1) w'.heap.size 98 3 enP v17 (Y++[(sp++[s],nb)])∧w9.grownBy w' u8.ownBlock∧(u8.ownBlock=some g∨w9.heap.size<=g)
 f18:p18->v18=v17
section
variable {w w9 w' w'':World} {u8:Value} {Y:List Pl} {sp:List Stp} {s:Stp} {nb:Bd} {a b:Value} {p1 p7 p12 p13 p15 p16 p17 p18:Prop} {v1 v7 v12 v13 v15 v16 v17 v18 v':Value}
theorem NxF.skip {L:Nat->Prop} {vals:Nat->Value} (F:NxF w w9 u8 Y sp s nb a b (L 1) (L 7) (L 12) (L 13) (L 15) (L 16) (L 17) (L 18) (vals 1) (vals 7) (vals 12) (vals 13) (vals 15) (vals 16) (vals 17) (vals 18) w') (k:Nat) (x:Value) (h1:1≠k:=by decide) (h7:7≠k:=by decide) (h12:12≠k:=by decide) (h13:13≠k:=by decide) (h15:15≠k:=by decide) (h16:16≠k:=by decide) (h17:17≠k:=by decide) (h18:18≠k:=by decide) :
  NxF w w9 u8 Y sp s nb a b (1=k∨L 1) (7=k∨L 7) (12=k∨L 12) (13=k∨L 13) (15=k∨L 15) (16=k∨L 16) (17=k∨L 17) (18=k∨L 18) (upd vals k x 1) (upd vals k x 7) (upd vals k x 12) (upd vals k x 13) (upd vals k x 15) (upd vals k x 16) (upd vals k x 17) (upd vals k x 18) w':=by
 rw [or_ne h1,or_ne h7,or_ne h12,or_ne h13,or_ne h15,or_ne h16,or_ne h17,or_ne h18,upd_ne h1,upd_ne h7,upd_ne h12,upd_ne h13,upd_ne h15,upd_ne h16,upd_ne h17,upd_ne h18];exact F
theorem NxF.early (F:NxF w w9 u8 Y sp s nb a b p1 p7 p12 p13 p15 p16 p17 p18 v1 v7 v12 v13 v15 v16 v17 v18 w') {q1 q7 q12 q13:Prop} {u1 u7 u12 u13:Value} (n15:¬ p15) (n16:¬ p16) (n17:¬ p17) (n18:¬ p18) (h:GoF w9 sp s q1 q7 q12 q13 False u1 u7 u12 u13 undef w'') :
  NxF w w9 u8 Y sp s nb a b q1 q7 q12 q13 p15 p16 p17 p18 u1 u7 u12 u13 v15 v16 v17 v18 w'' :=
 ⟨λ _=>h,λ h=>absurd h n15,λ h=>absurd h n16,λ h=>absurd h n17,λ h=>absurd h n18⟩
theorem NxF.s15 (F:NxF w w9 u8 Y sp s nb a b p1 p7 p12 p13 p15 p16 p17 p18 v1 v7 v12 v13 v15 v16 v17 v18 w') (n16:¬ p16) (n17:¬ p17) (n18:¬ p18) :
  NxF w w9 u8 Y sp s nb a b p1 p7 p12 p13 True p16 p17 p18 v1 v7 v12 v13 (.agg #[v13,a,b]) v16 v17 v18 w' :=
 ⟨F.pre,λ _=>rfl,λ h=>absurd h n16,λ h=>absurd h n17,λ h=>absurd h n18⟩
theorem NxF.s16 (F:NxF w w9 u8 Y sp s nb a b p1 p7 p12 p13 p15 p16 p17 p18 v1 v7 v12 v13 v15 v16 v17 v18 w') (y7:p7) (y13:p13) (n17:¬ p17) (n18:¬ p18) :
  NxF w w9 u8 Y sp s nb a b p1 p7 p12 p13 p15 True p17 p18 v1 v7 v12 v13 v15 (.slice (some ⟨w'.heap.size,0,none⟩) 1 1) v17 v18 (w'.alloc (.cells ⟨[v13,a,b]⟩ 98)):=by
 have G:=F.pre n17;exact⟨λ _=>⟨G.bel.alloc G.bel.size _,λ _ h=>absurd y7 h,λ _ h=>absurd y13 h,λ _ h=>absurd y13 h,λ h=>((G.f10 h).alloc _).more (by simp),λ h=>h.elim⟩,F.f15,λ _ _=>⟨_,rfl,RowB.new _ _ _⟩,λ h=>absurd h n17,λ h=>absurd h n18⟩
theorem NxF.s18 (F:NxF w w9 u8 Y sp s nb a b p1 p7 p12 p13 p15 p16 p17 p18 v1 v7 v12 v13 v15 v16 v17 v18 w'):NxF w w9 u8 Y sp s nb a b p1 p7 p12 p13 p15 p16 p17 True v1 v7 v12 v13 v15 v16 v17 v17 w' :=
 ⟨F.pre,F.f15,F.f16,F.f17,λ _=>rfl⟩
theorem NxF.s17 (F:NxF w w9 u8 Y sp s nb a b p1 p7 p12 p13 p15 p16 p17 p18 v1 v7 v12 v13 v15 v16 v17 v18 w') (n18:¬ p18) {g k c:Nat} (e:v'=.slice (some ⟨g,0,none⟩) k c) (ho:OwnG RelP w'' (w.heap.size+1) w''.heap.size 98 3 enP v' (Y++[(sp++[s],nb)])) (hg:w9.grownBy w'' u8.ownBlock) (hat:u8.ownBlock=some g∨w9.heap.size<=g) :
  NxF w w9 u8 Y sp s nb a b p1 p7 p12 p13 p15 p16 True p18 v1 v7 v12 v13 v15 v16 v' v18 w'' :=
 ⟨λ h=>absurd trivial h,F.f15,λ _ h=>absurd trivial h,λ _=>⟨g,k,c,e,ho,hg,hat⟩,λ h=>absurd h n18⟩
end
theorem next_s (v:Vr) (hv:okV v=true) (m:Nat) (hm:m<=10) (ps:List Pl) (hps:RowOk v m ps) (hN:ps.length<=20000) (d:Int) (hd:1<=d∧d<=6) (u:Value) (S0:Nat->Prop) (w:World) (hu:SlG RelP 3 enP w S0 u ps) :
  Calls Tryz.prog 143 #[.agg #[.int .i64 v.p,.int .i64 v.c,.int .i64 v.h,.int .i64 v.s],u,.int .i64 d] w λ e w'=>∃ vv,e=.returned vv∧OwnG RelP w' w.heap.size w'.heap.size 98 3 enP vv (nextP v d ps)∧Below w.heap.size w w':=by
 obtain⟨i4,a3,aX,aW,aV⟩:=info_parts infoSt;obtain⟨i3,bD,bv,bt,bs⟩:=info_parts infoP;have bx:=okV_iff.1 hv;obtain⟨Ap,cp,rs,rfl,aY,a0,-⟩:=hu;obtain⟨N,aJ⟩:∃ N,ps.length=N:=⟨_,rfl⟩;rw [aJ] at hN ⊢;have aP:=kD aJ;have bm:=kD aY;have aR:=kD a0;have bX:=kD hps;obtain⟨P,hP⟩:∃ P:Nat,v.p=(P:Int):=⟨v.p.toNat,by omega⟩;have HP:=kD hP;have b7:P<=24:=by omega
 have HC:=kD (show v.c<=15 by omega);clear aJ aY a0 hps hP hv bx;go_enter Tryz.func143,Tryz.ntmps143;go_upto_region 2 with fail;refine wp_gen (λ W'=>Nx1 w W' v (.slice (some ⟨w.heap.size+1,0,none⟩) 0 0) [] (m+1) 0) ?_ ?_
 ·exact⟨by go_grown,(RowB.new _ _ _).alloc _,⟨[],RowB.own (xs:=([]:List PRow)) (RowB.new' _ _ _ (by first | simp | go_size | rfl)) enP_len (Nat.le_refl _) (by go_size) (by decide),LsR.nil _ _ _⟩,Coll.nil _ _⟩
 intro w2 K;have O:=K.rv.lt;go_wp2_with fail;go_loopw [7,8] (λ vl i wr=>∃ k:Nat,k<=N∧i=.int .i64 (k:Int)∧Nx1 w wr v vl (nxGo v d (ps.take k) []) (m+1) (k*25)) (λ _ i _=>N - (intOf i).toNat)
 case atStart=>exact⟨0,Nat.zero_le _,by first | rfl | trivial,K⟩
 case round =>
  obtain⟨k,hk,rfl,K⟩:=hrel;clear O;have O:=K.rv.lt;by_cases hlt:k<N
  ·obtain⟨b1,o1,r,rfl,-,cl,hr,hc⟩:=(bm.out.keep (.below K.bel)).at_ (i:=k) (by rw [aR.out.1,aP.out];exact hlt);obtain⟨p,hp,hR⟩:=aR.out.at_ hr;have HT:=kD (show nxGo v d (ps.take (k+1)) []=nxIn v p (legalP v p.2 d) (nxGo v d (ps.take k) []) from by rw [takeS hp,nxGo_snoc]);have T:=kD (bX.out p (List.mem_of_getElem? hp));obtain⟨X,hX⟩:∃ X,nxGo v d (ps.take k) []=X:=⟨_,rfl⟩;rw [hX] at K HT;clear hX;obtain⟨V,H⟩:=p;obtain⟨r0,rl,rm⟩:=r;have ba:=hR.1.sl enSt_len;have a9:=hR.2.1;have a8:=hR.2.2;simp only at ba a9 a8 T HT;obtain⟨As,cs,rfl,ks,-⟩:=ba;obtain⟨Ao,co,rfl,ko,bf⟩:=a9;obtain⟨At,ct,rfl,kt,bc⟩:=a8;have ci:(k:Int)<(N:Int):=by omega
   have cd:IntKind.i64.wrap ((k:Int)+1)=(k:Int)+1:=IntWalk.i64_in _ (by omega);have a2:=T.out.1.own.len;have a1:=T.out.1.oth.len;obtain⟨n,hn⟩:∃ n,P+1=n:=⟨_,rfl⟩;have ar:H.1.length=n:=by have:=HP.out;omega
   have aq:H.2.length=n:=by have:=HP.out;omega
   obtain⟨ns,aH⟩:∃ k,V.length=k:=⟨_,rfl⟩;have aO:=kD aH;have bA:ns<=10:=by have:=T.out.2;omega
   have be:=kD bf;have bb:=kD bc;have RS:=kD (λ(o:World) (h:Below w.heap.size w o)=>(ks.rd.below h (Nat.le_refl _)));have RO:=kD (λ(o:World) (h:Below w.heap.size w o)=>(ko.rd.below h (Nat.le_refl _)));have aN:=kD (λ(o:World) (h:Below w.heap.size w o)=>(kt.rd.below h (Nat.le_refl _)));have bZ:=kD ar;have bY:=kD aq;have CL:=kD (λ(o:World) (h:Below w.heap.size w o)=>legal_s v H T.out.1 Ao At co ct w.heap.size d hd o h.size (RO.out o h) (aN.out o h));rw [ar,aq] at CL;have bG:b1<w.heap.size∨True:=.inr trivial;have PC:=kD (λ(o:World) (h:Below w.heap.size w o)=>by
    obtain⟨b2,o2,r2,e2,-,ck,aG,aj⟩:=(bm.out.keep (.below h)).at_ (i:=k) (by rw [aR.out.1,aP.out];exact hlt);simp only [Option.some.injEq,Addr.mk.injEq,and_true] at e2;obtain⟨rfl,rfl⟩:=e2;rw [hr] at aG;simp only [Option.some.injEq] at aG;subst aG;have h0:o.cell? ⟨b1,o1+k*3,none⟩=some (.slice As ns cs):=by have:=aj 0 _ rfl;simp only [aH] at this;exact this
    have h1:o.cell? ⟨b1,o1+k*3+1,none⟩=some (.slice Ao n co):=by have:=aj 1 _ rfl;simp only [ar] at this;exact this
    have h2:o.cell? ⟨b1,o1+k*3+2,none⟩=some (.slice At n ct):=by have:=aj 2 _ rfl;simp only [aq] at this;exact this
    exact(⟨h0,h1,h2⟩:o.cell? ⟨b1,o1+k*3,none⟩=some (.slice As ns cs)∧o.cell? ⟨b1,o1+k*3+1,none⟩=some (.slice Ao n co)∧o.cell? ⟨b1,o1+k*3+2,none⟩=some (.slice At n ct)))
   obtain⟨bF,bE,aj⟩:=PC.out wr K.bel;clear hr hp hR hc ks ko kt bf bc a2 a1 ar aq aH bG;obtain⟨q0,q1,q2,q3⟩:=K.rv.c4;go_wp2_with fail;go_still_tail 7,(by kernel_rfl);go_wp2_with fail;refine(CL.out _ K.bel.drew).mono ?_;rintro e w4 ⟨sv,rfl,aE,a6⟩;have K0:Nx1 w wr.drew v u7 X (m+1) (k*25):=K.below (Below.refl _ _).drew;have ax:SlV 4 enSt w4 (NotIn u7 (w.heap.size+1)) sv (legalP v H d):=by
    have h1:OwnV 111 4 enSt w4 (NotIn u7 (w.heap.size+1)) sv (legalP v H d):=OwnV.of aE (Nat.le_refl _) (λ b hb _=>⟨λ h=>by have:=(K0.blk b h).2;omega,by have:=K0.rv.lt;omega⟩);exact h1.sl enSt_len
   obtain⟨b3,ab,bz,-⟩:=aE.form enSt_len;have E:Nx2 w w4 v u7 X (m+1) (k*25) sv (legalP v H d):=⟨K0.below a6,ax⟩;subst bz;clear K K0 aE ax a6 bF bE aj q0 q1 q2 q3 O CL;have O:=E.k1.rv.lt;obtain⟨M,hM⟩:∃ M,(legalP v H d).length=M:=⟨_,rfl⟩;have HM:=kD hM;have b8:M<=25:=by have:=legal_len v H d;have:=HP.out;omega
   rw [hM] at E ⊢;clear hM;go_wp2_with fail;go_loopw [7,10] (λ vl i wq=>∃ j:Nat,j<=M∧i=.int .i64 (j:Int)∧Nx2 w wq v vl (nxIn v (V,H) ((legalP v H d).take j) X) (m+1) (k*25+j) (.slice b3 M ab) (legalP v H d)) (λ _ i _=>M - (intOf i).toNat)
   case atStart=>exact⟨0,Nat.zero_le _,by first | rfl | trivial,E⟩
   case round =>
    obtain⟨j,hj,rfl,E⟩:=hrel;clear O;have O:=E.k1.rv.lt;by_cases hlj:j<M
    ·obtain⟨A5,c5,e5,az,-⟩:=E.st;simp only [Value.slice.injEq] at e5;obtain⟨rfl,-,rfl⟩:=e5;obtain⟨b5,o5,s,rfl,-,a5,aF,a4⟩:=az.at_ (i:=j) (by rw [HM.out];exact hlj);have bk:=kD (List.mem_of_getElem? aF);have ay:StOk v s:=legal_parts hd.1 T.out.1 bk.out;obtain⟨W,ao⟩:∃ W,afterP v H s=W:=⟨_,rfl⟩;have aQ:=kD (show Ok v W from by rw [<-ao];exact legal_ok hd.1 T.out.1 bk.out);have HS:=kD (show nxIn v (V,H) ((legalP v H d).take (j+1)) X=addOne (nxIn v (V,H) ((legalP v H d).take j) X) (V++[s],W) from by rw [takeS aF,nxIn_snoc,ao]);obtain⟨Y,hY⟩:∃ Y,nxIn v (V,H) ((legalP v H d).take j) X=Y:=⟨_,rfl⟩;rw [hY] at E HS;have ai:W.1.length=n:=by have:=aQ.out.own.len;have:=HP.out;omega
     have ah:W.2.length=n:=by have:=aQ.out.oth.len;have:=HP.out;omega
     have CA:=kD (λ(o:World) (h:Below w.heap.size w o)=>after_s v H T.out.1 Ao At co ct w.heap.size s ay o h.size (RO.out o h) (aN.out o h) be.out bb.out);rw [ao,bZ.out,bY.out] at CA;obtain⟨sf,I,sd,sh⟩:=s;have J:=kD (λ(o:World) (h:Below wr.heap.size wr o)=>by
      have e:=λ(i:Nat) (u:Value) (hu:(enSt (sf,I,sd,sh))[i]?=some u)=>((Below.cell h (p:=⟨b5,o5+j*4+i,none⟩) a5).trans (a4 i u hu))
      have h0:o.cell? ⟨b5,o5+j*4,none⟩=some (.int .i64 sf):=e 0 _ rfl;exact(⟨h0,e 1 _ rfl,e 2 _ rfl,e 3 _ rfl⟩:o.cell? ⟨b5,o5+j*4,none⟩=some (.int .i64 sf)∧o.cell? ⟨b5,o5+j*4+1,none⟩=some (.int .i64 I)∧o.cell? ⟨b5,o5+j*4+2,none⟩=some (.int .i64 sd)∧o.cell? ⟨b5,o5+j*4+3,none⟩=some (.bool sh)))
     have cj:(j:Int)<(M:Int):=by omega
     have ce:IntKind.i64.wrap ((j:Int)+1)=(j:Int)+1:=IntWalk.i64_in _ (by omega);simp only at CA;have aS:w.heap.size<=wr.heap.size:=E.k1.bel.size;have D:=kD E.k1.bel;have S:=kD E.k1.rv;clear hY ao aF a4 ay az a5;go_wp2_with fail;refine rG [some 33,some 34,some 35,some 36,some 37,some 38,some 39,some 40,some 41,some 42,some 43,some 11,none] 13 (Pl [some (.agg #[.int .i64 v.p,.int .i64 v.c,.int .i64 v.h,.int .i64 v.s]),some (.slice (some ⟨b1,o1,none⟩) N cp),some (.int .i64 (k:Int)),some (.pointer (some ⟨b1,o1+k*3,none⟩)),some (.pointer (some ⟨b1,o1+k*3+1,none⟩)),some (.agg #[.slice Ao n co,.slice At n ct]),some (.slice (some ⟨b5,o5,none⟩) M ab),some (.int .i64 (j:Int)),some (.pointer (some ⟨b5,o5+j*4,none⟩)),some (.agg #[.int .i64 sf,.int .i64 I,.int .i64 sd,.bool sh]),none,none,none]) (λ L f w'=>BdF wr W n (L 10) (L 11) (L 12) (f 10) (f 11) w') ?g0_1 ?gst_1 ?gfin_1
     case g0_1=>exact⟨(Below.refl _ _).drew,λ h=>absurd h (by decide),λ h=>absurd h (by decide),λ h=>absurd h (by decide)⟩
     case gst_1 =>
      refine rN rfl (λ L f A o a B l U F K C=>?_) ?_
      ·have e3:=U.w 3 (.pointer (some ⟨w.heap.size,0,none⟩));have t:=D.out.trans (F.bel.mono D.out.size);obtain⟨c0,c1,c2⟩:=PC.out o t;obtain⟨d0,d1,d2,d3⟩:=J.out o F.bel;obtain⟨q0,q1,q2,q3⟩:=(S.out.below F.bel S.out.lt).c4;clear t;go_simp;exact pF C (F.skip 0 _)
      refine rN rfl (λ L f A o a B l U F K C=>?_) ?_
      ·have e1:=U.w 1 (.slice (some ⟨b1,o1,none⟩) N cp);have t:=D.out.trans (F.bel.mono D.out.size);have pc:=PC.out o t;have sc:=J.out o F.bel;clear t pc sc;go_simp;exact pF C (F.skip 1 _)
      refine rN rfl (λ L f A o a B l U F K C=>?_) ?_
      ·have e8:=U.w 8 (.int .i64 (k:Int));have t:=D.out.trans (F.bel.mono D.out.size);have pc:=PC.out o t;have sc:=J.out o F.bel;clear t pc sc;go_simp;exact pF C (F.skip 2 _)
      refine rN rfl (λ L f A o a B l U F K C=>?_) ?_
      ·have cN:=U.v 1 34;have cM:=U.v 2 35;have t:=D.out.trans (F.bel.mono D.out.size);have pc:=PC.out o t;have sc:=J.out o F.bel;clear t pc sc;go_simp;exact pF C (F.skip 3 _)
      refine rN rfl (λ L f A o a B l U F K C=>?_) ?_
      ·have cL:=U.v 3 36;have t:=D.out.trans (F.bel.mono D.out.size);obtain⟨c0,c1,c2⟩:=PC.out o t;obtain⟨d0,d1,d2,d3⟩:=J.out o F.bel;obtain⟨q0,q1,q2,q3⟩:=(S.out.below F.bel S.out.lt).c4;clear t;go_simp;exact pF C (F.skip 4 _)
      refine rN rfl (λ L f A o a B l U F K C=>?_) ?_
      ·have cK:=U.v 4 37;have t:=D.out.trans (F.bel.mono D.out.size);obtain⟨c0,c1,c2⟩:=PC.out o t;obtain⟨d0,d1,d2,d3⟩:=J.out o F.bel;obtain⟨q0,q1,q2,q3⟩:=(S.out.below F.bel S.out.lt).c4;clear t;go_simp;exact pF C (F.skip 5 _)
      refine rN rfl (λ L f A o a B l U F K C=>?_) ?_
      ·have e9:=U.w 9 (.slice (some ⟨b5,o5,none⟩) M ab);have t:=D.out.trans (F.bel.mono D.out.size);have pc:=PC.out o t;have sc:=J.out o F.bel;clear t pc sc;go_simp;exact pF C (F.skip 6 _)
      refine rN rfl (λ L f A o a B l U F K C=>?_) ?_
      ·have bS:=U.w 10 (.int .i64 (j:Int));have t:=D.out.trans (F.bel.mono D.out.size);have pc:=PC.out o t;have sc:=J.out o F.bel;clear t pc sc;go_simp;exact pF C (F.skip 7 _)
      refine rN rfl (λ L f A o a B l U F K C=>?_) ?_
      ·have cI:=U.v 6 39;have cH:=U.v 7 40;have t:=D.out.trans (F.bel.mono D.out.size);have pc:=PC.out o t;have sc:=J.out o F.bel;clear t pc sc;go_simp;exact pF C (F.skip 8 _)
      refine rN rfl (λ L f A o a B l U F K C=>?_) ?_
      ·have cG:=U.v 8 41;have t:=D.out.trans (F.bel.mono D.out.size);obtain⟨c0,c1,c2⟩:=PC.out o t;obtain⟨d0,d1,d2,d3⟩:=J.out o F.bel;obtain⟨q0,q1,q2,q3⟩:=(S.out.below F.bel S.out.lt).c4;clear t;go_simp;exact pF C (F.skip 9 _)
      refine rN rfl (λ L f A o a B l U F K C=>?_) ?_
      ·have cO:=U.v 0 33;have cJ:=U.v 5 38;have cF:=U.v 9 42;have t:=D.out.trans (F.bel.mono D.out.size);go_simp;refine(CA.out o t).mono ?_;rintro e w6 ⟨A3,c3,A4,c4,rfl,h3,h4,cm,bH⟩;rw [ai] at h3;rw [ah] at h4;simp only [ai,ah];exact C.out _ w6 (Pl.any rfl) (by simpa [upd] using F.s10 (λ h=>a (l 12 10 (by kernel_rfl) h)) h3 h4 bH)
      refine rN rfl (λ L f A o a B l U F K C=>?_) ?_
      ·go_simp;exact C.out _ _ (Pl.any rfl) (by simpa [upd] using F.s11 (λ h=>a (l 12 11 (by kernel_rfl) h)) _ _)
      refine rN rfl (λ L f A o a B l U F K C=>?_) ?_
      ·have af:=U.x 11 11;have bi:=U.x 10 43;have bq:=F.f10 (bK B 10);have bp:=F.f11 (bK B 11) a;refine bp.elim λ g q=>?_
       refine q.elim λ x q=>?_
       refine q.elim λ y q=>?_
       refine bq.elim λ A3 z=>?_
       refine z.elim λ c3 z=>?_
       refine z.elim λ A4 z=>?_
       refine z.elim λ c4 z=>?_
       have cc:=af.trans q.1;have cb:=bi.trans z.1;obtain⟨x0,x1⟩:=q.2.2.c2;have xf:=q.2.2.frozen;clear af bi;go_simp;exact C.out undef _ (Pl.any rfl) (by simpa [upd] using F.s12 (bK B 11) q.1 q.2.1 q.2.2 z.1 z.2.1 z.2.2)
      exact RelFrom.nil (by decide)
     case gfin_1 =>
      intro f o hp F;simp only [Fr,Act.put,sX,Nat.reduceAdd];obtain⟨bL,A3,c3,A4,c4,af,ad,rn,o3,o4⟩:=F.f12 trivial;have ap:=F.bel;clear F hp;rw [af];have ae:=E.k1.blk;have aK:∀ b,wr.heap.size<=b->NotIn u7 (w.heap.size+1) b:=λ b hb=>⟨λ h=>by have:=(ae b h).2;omega,by omega⟩
      have aw:SlV 1 enI o (NotIn u7 (w.heap.size+1)) (.slice A3 n c3) W.1:=((relO 2 1 enI).weak o3 (λ b hb _=>aK b hb.1):OwnV 2 1 enI o _ _ W.1).sl enI_len;have av:SlV 1 enI o (NotIn u7 (w.heap.size+1)) (.slice A4 n c4) W.2:=((relO 2 1 enI).weak o4 (λ b hb _=>aK b hb.1):OwnV 2 1 enI o _ _ W.2).sl enI_len;have E:=E.below ap;have J:=kD (λ(w8:World) (h:Below o.heap.size o w8)=>J.out w8 (ap.trans (h.mono ap.size)));clear o3 o4 aK ae af CA D S aS O;have O:=E.k1.rv.lt;have bC:=rn.lt;obtain⟨z0,z1⟩:=rn.c2;have FI:=kD (by
       obtain⟨Ax,cx,ex,kx,-⟩:=aw;obtain⟨Ay,cy,ey,ky,-⟩:=av;simp only [Value.slice.injEq] at ex ey;obtain⟨rfl,-,rfl⟩:=ex;obtain⟨rfl,-,rfl⟩:=ey;exact find_s Y W n (by omega) (row_sides E.k1.co.ok (by have:=HP.out;omega)) ai ah u7 A3 A4 c3 c4 o.heap.size o (Nat.le_refl _) ((relSl RelP 3 enP).weak (E.k1.og.sl enP_len (Nat.le_refl _)) (λ _ _ _=>trivial)) kx.rd ky.rd)
      have ai:=kD ai;have ah:=kD ah;go_wp2_with fail;refine FI.out.mono ?_;rintro e w8 ⟨r,rfl,hr,aa⟩;have E:=E.below aa;have rn:=rn.below aa rn.lt;have aw:=(relV 1 enI).keep aw (.below aa);have av:=(relV 1 enI).keep av (.below aa);have J:=kD (λ(w7:World) (h:Below w8.heap.size w8 w7)=>J.out w7 (aa.trans (h.mono aa.size)));clear z0 z1 O bC aa FI ap;obtain⟨x,hx⟩:∃ x,hasB Y W=x:=⟨_,rfl⟩;rw [hx] at hr;have HX:=kD hx;clear hx
      cases x
      case true =>
       have hr:decide (r<0)=false:=hr;have bl:nxIn v (V,H) ((legalP v H d).take (j+1)) X=Y:=by rw [HS.out];exact addOne_has HX.out
       have K9:Nx2 w w8 v u7 (nxIn v (V,H) ((legalP v H d).take (j+1)) X) (m+1) (k*25+(j+1)) (.slice (some ⟨b5,o5,none⟩) M ab) (legalP v H d):=by
        rw [bl];exact⟨⟨E.k1.bel,E.k1.rv,E.k1.og,E.k1.co.more (by omega)⟩,E.st⟩
       clear E bl;go_wp2_with fail;go_roundw
       case rel=>exact⟨j+1,by omega,by go_num,K9⟩
       case measure=>simp [intOf];omega
      case false =>
       have hr:decide (r<0)=true:=hr;have b4:Y.length<=1000000:=by have:=E.k1.co.len;omega
       have bW:=kD (show nxIn v (V,H) ((legalP v H d).take (j+1)) X=Y++[(V++[(sf,I,sd,sh)],W)] from by rw [HS.out];exact addOne_new HX.out);have aI:=E.k1.co.add (p:=(V++[(sf,I,sd,sh)],W)) ⟨aQ.out,by simp [T.out.2]⟩;rw [addOne_new (show hasB Y W=false from HX.out)] at aI;have cf:w.heap.size+1<=w8.heap.size:=E.k1.rv.lt;have D:=kD E.k1.bel;have S:=kD E.k1.rv;have OG:=kD E.k1.og;have bU:=kD E.st;have RN:=kD rn;have bV:=kD (RS.out w8 D.out);have aS:w.heap.size<=w8.heap.size:=by omega
       have ae:=kD E.k1.blk;obtain⟨aU,aA⟩:∃ k,(V++[(sf,I,sd,sh)]).length=k:=⟨_,rfl⟩;have aC:=kD aA;have b0:=kD aI;clear E rn HX HS aA aI RS RO aN;go_wp2_with fail;refine rG [some 48,some 49,some 50,some 51,some 52,some 53,some 54,some 55,some 56,some 57,some 58,some 59,some 60,some 61,some 62,some 63,some 64,some 65,some 7] 19 (Pl [some (u7),none,some (.slice (some ⟨b1,o1,none⟩) N cp),some (.int .i64 (k:Int)),some (.pointer (some ⟨b1,o1+k*3,none⟩)),some (.pointer (some ⟨b1,o1+k*3,none⟩)),some (.slice As ns cs),none,some (.slice (some ⟨b5,o5,none⟩) M ab),some (.int .i64 (j:Int)),some (.pointer (some ⟨b5,o5+j*4,none⟩)),some (.agg #[.int .i64 sf,.int .i64 I,.int .i64 sd,.bool sh]),none,none,some (.agg #[.slice A3 n c3,.slice A4 n c4]),none,none,none,none]) (λ L f w'=>NxF w w8 u7 Y V (sf,I,sd,sh) W (.slice A3 n c3) (.slice A4 n c4) (L 1) (L 7) (L 12) (L 13) (L 15) (L 16) (L 17) (L 18) (f 1) (f 7) (f 12) (f 13) (f 15) (f 16) (f 17) (f 18) w') ?g0_2 ?gst_2 ?gfin_2
       case g0_2=>exact⟨λ _=>⟨(Below.refl _ _).drew,λ h=>absurd h (by decide),λ h=>absurd h (by decide),λ h=>absurd h (by decide),λ h=>absurd h (by decide),λ h=>h.elim⟩,λ h=>absurd h (by decide),λ h=>absurd h (by decide),λ h=>absurd h (by decide),λ h=>absurd h (by decide)⟩
       case gst_2 =>
        refine rN rfl (λ L f A o a B l U F K C=>?_) ?_
        ·have e7:A.tmps[7]?.getD undef=u7:=U.z 7 (λ j hl hj=>by obtain rfl:=nd_of _ (by kernel_rfl) j 18 7 hj rfl;exact a (l 18 0 (by kernel_rfl) hl));go_simp;exact pF C (F.skip 0 _)
        refine rN rfl (λ L f A o a B l U F K C=>?_) ?_
        ·have G:=F.pre (λ h=>a (l 17 1 (by kernel_rfl) h));go_simp;exact C.out _ _ (Pl.any rfl) (by simpa [upd] using F.early (λ h=>a (l 15 1 (by kernel_rfl) h)) (λ h=>a (l 16 1 (by kernel_rfl) h)) (λ h=>a (l 17 1 (by kernel_rfl) h)) (λ h=>a (l 18 1 (by kernel_rfl) h)) (G.s4 (λ h=>a (l 7 1 (by kernel_rfl) h)) (λ h=>a (l 13 1 (by kernel_rfl) h)) (λ h=>h) (RowB.own (xs:=([]:List Stp)) (RowB.new _ _ _) enSt_len G.bel.size (by simp) (by decide)) (World.grownBy_alloc _ _ _)))
        refine rN rfl (λ L f A o a B l U F K C=>?_) ?_
        ·have e1:=U.w 1 (.slice (some ⟨b1,o1,none⟩) N cp);go_simp;exact pF C (F.skip 2 _)
        refine rN rfl (λ L f A o a B l U F K C=>?_) ?_
        ·have e8:=U.w 8 (.int .i64 (k:Int));go_simp;exact pF C (F.skip 3 _)
        refine rN rfl (λ L f A o a B l U F K C=>?_) ?_
        ·have cE:=U.v 2 50;have cD:=U.v 3 51;have G:=F.pre (λ h=>a (l 17 4 (by kernel_rfl) h));have t:=D.out.trans (G.bel.mono D.out.size);have pc:=PC.out o t;have sc:=J.out o G.bel;clear t pc sc;go_simp;exact pF C (F.skip 4 _)
        refine rN rfl (λ L f A o a B l U F K C=>?_) ?_
        ·have cC:=U.v 4 52;have G:=F.pre (λ h=>a (l 17 5 (by kernel_rfl) h));obtain⟨z0,z1⟩:=(RN.out.below G.bel RN.out.lt).c2;have t:=D.out.trans (G.bel.mono D.out.size);obtain⟨c0,c1,c2⟩:=PC.out o t;obtain⟨d0,d1,d2,d3⟩:=J.out o G.bel;obtain⟨q0,q1,q2,q3⟩:=(S.out.below G.bel S.out.lt).c4;clear t;go_simp;exact pF C (F.skip 5 _)
        refine rN rfl (λ L f A o a B l U F K C=>?_) ?_
        ·have cB:=U.v 5 53;have G:=F.pre (λ h=>a (l 17 6 (by kernel_rfl) h));obtain⟨z0,z1⟩:=(RN.out.below G.bel RN.out.lt).c2;have t:=D.out.trans (G.bel.mono D.out.size);obtain⟨c0,c1,c2⟩:=PC.out o t;obtain⟨d0,d1,d2,d3⟩:=J.out o G.bel;obtain⟨q0,q1,q2,q3⟩:=(S.out.below G.bel S.out.lt).c4;clear t;go_simp;exact pF C (F.skip 6 _)
        refine rN rfl (λ L f A o a B l U F K C=>?_) ?_
        ·have bQ:=U.x 1 49;have bP:=U.v 6 54;have G:=F.pre (λ h=>a (l 17 7 (by kernel_rfl) h));have o4:=G.f4 (bK B 1) a;refine wp_app (en:=enSt) _ _ _ rfl w8.heap.size o.heap.size 111 i4 (.agg #[.int .i64 0,.int .i64 0,.int .i64 0,.bool false]) 4 32 Tryz.underlying26 a3 aX aW aV rfl (by decide) enSt_len (f 1) [] V (λ x _=>one_St x) (ev bQ) o4 As ns cs w.heap.size (ev bP) aO.out.symm (bV.out.below G.bel aS) (by unfold maxLen;simp;omega) (by simp;omega) G.bel.size (Nat.le_refl _) ?_;intro v' aD ag ad al;exact C.out _ aD (Pl.any rfl) (by simpa [upd] using F.early (λ h=>a (l 15 7 (by kernel_rfl) h)) (λ h=>a (l 16 7 (by kernel_rfl) h)) (λ h=>a (l 17 7 (by kernel_rfl) h)) (λ h=>a (l 18 7 (by kernel_rfl) h)) (G.s7 (bK B 1) a (λ h=>a (l 13 7 (by kernel_rfl) h)) (λ h=>h) (by simpa using ag) ad al))
        refine rN rfl (λ L f A o a B l U F K C=>?_) ?_
        ·have e9:=U.w 9 (.slice (some ⟨b5,o5,none⟩) M ab);go_simp;exact pF C (F.skip 8 _)
        refine rN rfl (λ L f A o a B l U F K C=>?_) ?_
        ·have bS:=U.w 10 (.int .i64 (j:Int));go_simp;exact pF C (F.skip 9 _)
        refine rN rfl (λ L f A o a B l U F K C=>?_) ?_
        ·have cA:=U.v 8 56;have cz:=U.v 9 57;have G:=F.pre (λ h=>a (l 17 10 (by kernel_rfl) h));have t:=D.out.trans (G.bel.mono D.out.size);have pc:=PC.out o t;have sc:=J.out o G.bel;clear t pc sc;go_simp;exact pF C (F.skip 10 _)
        refine rN rfl (λ L f A o a B l U F K C=>?_) ?_
        ·have cw:=U.v 10 58;have G:=F.pre (λ h=>a (l 17 11 (by kernel_rfl) h));obtain⟨z0,z1⟩:=(RN.out.below G.bel RN.out.lt).c2;have t:=D.out.trans (G.bel.mono D.out.size);obtain⟨c0,c1,c2⟩:=PC.out o t;obtain⟨d0,d1,d2,d3⟩:=J.out o G.bel;obtain⟨q0,q1,q2,q3⟩:=(S.out.below G.bel S.out.lt).c4;clear t;go_simp;exact pF C (F.skip 11 _)
        refine rN rfl (λ L f A o a B l U F K C=>?_) ?_
        ·have cv:=U.v 11 59;have G:=F.pre (λ h=>a (l 17 12 (by kernel_rfl) h));go_simp;exact C.out _ _ (Pl.any rfl) (by simpa [upd,enSt] using F.early (λ h=>a (l 15 12 (by kernel_rfl) h)) (λ h=>a (l 16 12 (by kernel_rfl) h)) (λ h=>a (l 17 12 (by kernel_rfl) h)) (λ h=>a (l 18 12 (by kernel_rfl) h)) (G.s9 (λ h=>a (l 13 12 (by kernel_rfl) h)) (λ h=>h)))
        refine rN rfl (λ L f A o a B l U F K C=>?_) ?_
        ·have bO:=U.x 7 55;have bN:=U.x 12 60;have G:=F.pre (λ h=>a (l 17 13 (by kernel_rfl) h));have o7:=G.f7 (bK B 7) a;have q9:=G.f9 (bK B 12) a;refine q9.elim λ g9 q9=>?_
         refine wp_app (en:=enSt) _ _ _ rfl w8.heap.size o.heap.size 111 i4 (.agg #[.int .i64 0,.int .i64 0,.int .i64 0,.bool false]) 4 32 Tryz.underlying26 a3 aX aW aV rfl (by decide) enSt_len (f 7) V [(sf,I,sd,sh)] (λ x _=>one_St x) (ev bO) o7 (some ⟨g9,0,none⟩) 1 1 (g9+1) ((ev bN).trans q9.1) rfl (rd_row q9.2.2.1 (Nat.lt_succ_self _)) (by rw [aO.out];unfold maxLen;omega) (by rw [aO.out];omega) G.bel.size (Nat.le_refl _) ?_;intro v' aD ag ad al;exact C.out _ aD (Pl.any rfl) (by simpa [upd] using F.early (λ h=>a (l 15 13 (by kernel_rfl) h)) (λ h=>a (l 16 13 (by kernel_rfl) h)) (λ h=>a (l 17 13 (by kernel_rfl) h)) (λ h=>a (l 18 13 (by kernel_rfl) h)) (G.s10 (bK B 7) a (λ h=>h) ag ad))
        refine rN rfl (λ L f A o a B l U F K C=>?_) ?_
        ·have af:=U.w 11 (.pointer (some ⟨bL,0,none⟩));have G:=F.pre (λ h=>a (l 17 14 (by kernel_rfl) h));obtain⟨z0,z1⟩:=(RN.out.below G.bel RN.out.lt).c2;have t:=D.out.trans (G.bel.mono D.out.size);obtain⟨c0,c1,c2⟩:=PC.out o t;obtain⟨d0,d1,d2,d3⟩:=J.out o G.bel;obtain⟨q0,q1,q2,q3⟩:=(S.out.below G.bel S.out.lt).c4;clear t;go_simp;exact pF C (F.skip 14 _)
        refine rN rfl (λ L f A o a B l U F K C=>?_) ?_
        ·have bh:=U.x 13 61;have cr:=U.v 14 62;have G:=F.pre (λ h=>a (l 17 15 (by kernel_rfl) h));have an:=G.f10 (bK B 13);refine(an.form enSt_len).elim λ aT Q=>?_
         refine Q.elim λ aM Q=>?_
         have ac:f 13=.slice aT aU aM:=by rw [<-aC.out];exact Q.1
         clear Q;have ca:=bh.trans ac;clear bh;go_simp;exact C.out _ _ (Pl.any rfl) (by rw [<-ac];simpa [upd] using F.s15 (λ h=>a (l 16 15 (by kernel_rfl) h)) (λ h=>a (l 17 15 (by kernel_rfl) h)) (λ h=>a (l 18 15 (by kernel_rfl) h)))
        refine rN rfl (λ L f A o a B l U F K C=>?_) ?_
        ·have bg:=U.x 15 63;have b9:=bg.trans (F.f15 (bK B 15));clear bg;go_simp;exact C.out _ _ (Pl.any rfl) (by simpa [upd] using F.s16 (bK B 7) (bK B 13) (λ h=>a (l 17 16 (by kernel_rfl) h)) (λ h=>a (l 18 16 (by kernel_rfl) h)))
        refine rN rfl (λ L f A o a B l U F K C=>?_) ?_
        ·have bR:=U.v 0 48;have bM:=U.x 16 64;have G:=F.pre a;have an:=G.f10 (bK B 13);refine(an.form enSt_len).elim λ aT Q=>?_
         refine Q.elim λ aM Q=>?_
         have ac:f 13=.slice aT aU aM:=by rw [<-aC.out];exact Q.1
         clear Q;have am:=F.f16 (bK B 16) a;refine am.elim λ bJ am=>?_
         refine((OG.out.below_ G.bel).more G.bel.size:OwnG RelP o (w.heap.size+1) o.heap.size 98 3 enP u7 Y).elim λ bo hq=>?_
         have cg:=hq.2.1;refine wp_one _ _ _ rfl (w.heap.size+1) o.heap.size 98 i3 (.agg #[.slice none 0 0,.slice none 0 0,.slice none 0 0]) 3 72 Tryz.underlying94 bD bv bt bs rfl (by decide) enP_len u7 bo (f 13,.slice A3 n c3,.slice A4 n c4) (one_P _ ⟨by rw [ac];rfl,rfl,rfl⟩) (ev bR) hq.1 bJ 1 98 ((ev bM).trans am.1) am.2 (by unfold maxLen;omega) (by omega) (by have:=G.bel.size;omega) ?_;intro cn cP bn aZ aB ak bB;have bw:RelP.R o (NotIn u7 (w.heap.size+1)) (f 13,.slice A3 n c3,.slice A4 n c4) (V++[(sf,I,sd,sh)],W):=⟨OwnV.of an (Nat.le_refl _) (λ b hb _=>⟨λ h=>by have:=(ae.out b h).2;omega,by omega⟩),(relV 1 enI).keep aw (.below G.bel),(relV 1 enI).keep av (.below G.bel)⟩;exact C.out _ bn (Pl.any rfl) (by simpa [upd] using F.s17 (λ h=>a (l 18 17 (by kernel_rfl) h)) rfl (own_snoc hq.2 bw aZ aB ak) (below_grown G.bel aB) (ak.imp (λ h=>h) (λ h=>by rw [h];exact G.bel.size)))
        refine rN rfl (λ L f A o a B l U F K C=>?_) ?_
        ·have cq:=U.x 17 65;go_simp;exact C.out _ o (Pl.any rfl) (by simpa [upd] using F.s18)
        exact RelFrom.nil (by decide)
       case gfin_2 =>
        intro f o hp F;simp only [Fr,Act.put,sX,Nat.reduceAdd];obtain⟨bI,br,bT,bj,ho,hg,a7⟩:=F.f17 trivial;have aL:=F.f18 trivial;rw [bj] at aL ho;clear F hp bj;rw [aL];have b6:=hg.size;have K9:Nx2 w o v (.slice (some ⟨bI,0,none⟩) br bT) (nxIn v (V,H) ((legalP v H d).take (j+1)) X) (m+1) (k*25+(j+1)) (.slice (some ⟨b5,o5,none⟩) M ab) (legalP v H d):=by
         rw [bW.out];exact⟨⟨D.out.grown hg D.out.size (λ g h=>by have:=(ae.out g h).1;omega),S.out.grown hg (λ g h=>by have:=(ae.out g h).1;omega),ho,b0.out⟩,app_still' (K:=relV 4 enSt) hg a7 bU.out⟩
        clear ho hg a7 aL;go_wp2_with fail;go_roundw
        case rel=>exact⟨j+1,by omega,by go_num,K9⟩
        case measure=>simp [intOf];omega
    ·obtain rfl:j=M:=by omega
     have Z:nxIn v (V,H) ((legalP v H d).take j) X=nxGo v d (ps.take (k+1)) []:=by rw [<-HM.out,List.take_length];exact HT.out.symm
     have K9:=E.k1;rw [Z] at K9;have K9:Nx1 w wr v u7 (nxGo v d (ps.take (k+1)) []) (m+1) ((k+1)*25):=⟨K9.bel,K9.rv,K9.og,K9.co.more (by omega)⟩;clear E Z;go_wp2_with fail;go_roundw
     case rel=>exact⟨k+1,by omega,by go_num,K9⟩
     case measure=>simp [intOf];omega
  ·obtain rfl:k=N:=by omega
   have Z:nxGo v d (ps.take k) []=nextP v d ps:=by rw [<-aP.out,List.take_length];rfl
   rw [Z] at K;have ch:¬ ((k:Int)<(k:Int)):=by omega
   clear Z;go_wp2_with fail;go_ret;exact⟨_,rfl,K.og.less (by omega),K.bel⟩
end Bd18
namespace Bd19
open Go.ChangeShapes Go.WideShapes Go.ChangeAt Go.RowKit Base Ints Own Clone RelG PlP Bd1 Bd4 Bd5 Bd6 Bd7 Bd7S Bd8 Bd9 Bd11 RegInv RegF RegG Bd16 Bd17
theorem drop_at {l:List Int} {i:Nat} (h:i<l.length):l.drop i=at_ l i :: l.drop (i+1):=by
 have a:=at_get h;rw [List.getElem?_eq_getElem h] at a;rw [List.drop_eq_getElem_cons h];simp only [Option.some.injEq] at a;rw [a]
theorem last_of {R:List (List Pl)} {i:Nat} (h:R.length=i+1):R[i]?=some (R.getLastD []):=by
 rw [List.getLastD_eq_getLast?,List.getLast?_eq_getElem?,h,Nat.add_sub_cancel];rw [List.getElem?_eq_getElem (by omega)];rfl
theorem OwnG.form {ρ α:Type} {K:Rel ρ α} {w:World} {lo hi sz:Nat} {e:TypeId} {en:ρ->List Value} {v:Value} {xs:List α} (hen:∀ x,(en x).length=sz) (h:OwnG K w lo hi e sz en v xs):∃ A c,v=.slice A xs.length c∧(A=none->c=0):=by
 obtain⟨i,b,f⟩:=h;obtain⟨A,c,a,-⟩:=b.form hen;refine⟨A,c,by rw [a,f.1],λ d=>?_⟩;rcases b.cases_ with ⟨e2,_⟩ | ⟨g,cap,rest,e2,_⟩
 ·rw [a] at e2;simp only [Value.slice.injEq] at e2;exact e2.2.2
 ·rw [a,d] at e2;simp only [Value.slice.injEq] at e2;exact absurd e2.1 (by simp)
theorem pow_le {i:Nat} (h:i<=3):25 ^ i<=20000:=by
 have:i=0∨i=1∨i=2∨i=3:=by omega
 rcases this with rfl | rfl | rfl | rfl <;> decide
end Bd19
namespace Bd20
open Go.ChangeShapes Go.WideShapes Go.ChangeAt Go.RowKit Base Ints Own Clone RelG PlP Bd1 Bd4 Bd5 Bd6 Bd7 Bd7S Bd8 Bd9 Bd11 RegInv RegF RegG Bd16 Bd17 Bd19
theorem ord_dice {x y:Int} (hx:1<=x∧x<=6) (hy:1<=y∧y<=6):(∀ o ∈ ordP x y,(∀ d ∈ o,1<=d∧d<=6)∧o.length<=4)∧(ordP x y).length<=2:=by
 unfold ordP;split
 ·exact⟨λ o a=>by simp at a;subst a;exact⟨by intro d b;simp at b;omega,by simp⟩,by simp⟩
 ·exact⟨λ o a=>by simp at a;rcases a with rfl | rfl <;> exact⟨by intro d b;simp at b;omega,by simp⟩,by simp⟩
end Bd20
namespace Bd21
open Go.ChangeShapes Go.WideShapes Go.ChangeAt Go.RowKit Base Ints Own Clone RelG PlP Bd1 Bd4 Bd5 Bd6 Bd7 Bd7S Bd8 Bd9 Bd11 RegInv RegF RegG Seen Bd16 Bd17 Bd19 Bd20
theorem p25 {n:Nat} (h:n<=4):25 ^ n<=390625:=by
 have:n=0∨n=1∨n=2∨n=3∨n=4:=by omega
 rcases this with rfl | rfl | rfl | rfl | rfl <;> omega
end Bd21
end Go.Proofs.YtjdefiinmicjiaaGreatDoor
