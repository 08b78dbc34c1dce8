/- Parts of the proof of FnHints. Conditions: each theorem's own. -/
import Derived.Test.YtmncnhbjifeoeaaGreatT11
set_option linter.unusedVariables false
set_option linter.unusedSimpArgs false
set_option maxHeartbeats 8000000
set_option maxRecDepth 100000
namespace Go.Proofs.YtmncnhbjifeoeaaGreat
namespace Bd16
open Go.ChangeShapes Go.WideShapes Go.ChangeAt Go.RowKit Base Ints Own Clone RelG PlP Bd1 Bd5 Bd6 Bd7 Bd8 Bd9 Bd11 RegInv RegF RegG Seen
theorem infoP:(Tryz.prog.info? 44).map (λ i=>(i.zero,i.size,i.bytes))=some (some (.agg #[.slice none 0 0,.slice none 0 0,.slice none 0 0]),3,72):=by kernel_rfl
theorem one_P (r:PRow) (h:r.1.oneCell'=true∧r.2.1.oneCell'=true∧r.2.2.oneCell'=true):∀ u ∈ enP r,u.oneCell'=true:=by
 intro u a;simp [enP] at a;rcases a with rfl | rfl | rfl
 ·exact h.1
 ·exact h.2.1
 ·exact h.2.2
theorem rd_row {α:Type} {en:α->List Value} {w:World} {g sz B:Nat} {e:TypeId} {x:α} (h:RowB w g e (en x)) (hg:g<B):RdS w B sz en (some ⟨g,0,none⟩) [x] :=
 ⟨by show 1<=maxLen;decide,λ _=>⟨g,0,rfl,hg,λ i y hy j u hu=>by
  cases i with
  | zero =>
   simp at hy;subst hy;rw [show 0+0*sz+j=j from by omega,h.cell j];exact hu
  | succ i=>simp at hy⟩⟩
section
variable {ρ α:Type} {K:Rel ρ α} {w w':World} {lo hi sz:Nat} {e:TypeId} {en:ρ->List Value} {v:Value} {xs:List α}
theorem own_low {g:Nat} (h:OwnG K w lo hi e sz en v xs) (hg:w.grownBy w' (some g)) (hl:g<lo):OwnG K w' lo hi e sz en v xs:=by
 obtain⟨b,f,d⟩:=h;exact⟨b,f.grown hg (λ k a=>by simp at a;omega),d.keep (Still.grown hg (λ k a c=>by simp at a;have:=c.2;omega))⟩
theorem own_snoc {rs:List ρ} {r:ρ} {x:α} {g n c:Nat} (h2:LsR K w (NotIn v lo) rs xs) (hx:K.R w (NotIn v lo) r x) (ho:OwnS w' lo w'.heap.size e sz en (.slice (some ⟨g,0,none⟩) n c) (rs++[r])) (hg:w.grownBy w' v.ownBlock) (hat:v.ownBlock=some g∨g=w.heap.size) :
  OwnG K w' lo w'.heap.size e sz en (.slice (some ⟨g,0,none⟩) n c) (xs++[x]) :=
 ⟨rs++[r],ho,LsR.snoc ⟨h2.1,λ i r' x' hr hx'=>app_still hg hat (h2.2 i r' x' hr hx')⟩ (app_still hg hat hx)⟩
end
theorem app_still' {w w':World} {lo g n c:Nat} {v:Value} (hg:w.grownBy w' v.ownBlock) (hat:v.ownBlock=some g∨w.heap.size<=g) {ρ α:Type} {K:Rel ρ α} {r:ρ} {x:α} (h:K.R w (NotIn v lo) r x):K.R w' (NotIn (.slice (some ⟨g,0,none⟩) n c) lo) r x:=by
 have l:K.R w (λ b=>NotIn v lo b∧b<w.heap.size) r x:=K.weak h (λ b a f=>⟨a,f⟩);have j:=K.keep l (Still.grown (S:=λ b=>NotIn v lo b∧b<w.heap.size) hg (λ k i d=>d.1.1 i));refine K.weak j (λ b a _=>⟨?_,a.1.2⟩);intro e;simp [Value.ownBlock] at e;subst e;rcases hat with hat | hat
 ·exact a.1.1 hat
 ·have:=a.2;omega
theorem Seen.same {w:World} {b n:Nat} {S S':List (List UInt8)} (h:Seen w b n S) (hs:∀ s,s ∈ S↔s ∈ S'):Seen w b n S':=by
 obtain⟨D,e,d,c⟩:=h;exact⟨D,e,d,λ s a=>by rw [c s a];congr 2;exact decide_eq_decide.2 (hs _)⟩
def keysP (X:List Pl):List (List UInt8):=X.map λ q=>keyP q.2
structure Go1 (w wr:World) (v:Vr) (gs:Nat) (vl:Value) (X:List Pl) (k m:Nat):Prop where
 bel:Below w.heap.size w wr
 rv:RowB wr w.heap.size 25 (vL v)
 ge:w.heap.size<gs
 sn:Seen wr gs X.length (keysP X)
 og:OwnG RelP wr (gs+1) wr.heap.size 44 3 enP vl X
 co:Coll v k m X
theorem Go1.below {w wr w':World} {v:Vr} {gs:Nat} {vl:Value} {X:List Pl} {k m:Nat} (h:Go1 w wr v gs vl X k m) (hb:Below wr.heap.size wr w'):Go1 w w' v gs vl X k m :=
 ⟨h.bel.trans (hb.mono h.bel.size),h.rv.below hb h.rv.lt,h.ge,h.sn.below hb,(h.og.below_ hb).more hb.size,h.co⟩
structure Go2 (w wr:World) (v:Vr) (gs:Nat) (vl:Value) (X:List Pl) (k m:Nat) (g:Nat) (cs:List Value) (sv:Value) (ss:List Stp):Prop where
 k1:Go1 w wr v gs vl X k m
 gg:gs<g
 rp:RowB wr g 44 cs
 np:vl.ownBlock≠some g
 st:SlV 4 enSt wr (NotIn vl (gs+1)) sv ss
theorem Go2.below {w wr w':World} {v:Vr} {gs:Nat} {vl:Value} {X:List Pl} {k m g:Nat} {cs:List Value} {sv:Value} {ss:List Stp} (h:Go2 w wr v gs vl X k m g cs sv ss) (hb:Below wr.heap.size wr w'):Go2 w w' v gs vl X k m g cs sv ss :=
 ⟨h.k1.below hb,h.gg,h.rp.below hb h.rp.lt,h.np,(relV 4 enSt).keep h.st (.below hb)⟩
theorem Go2.put {w wr w':World} {v:Vr} {gs:Nat} {vl:Value} {X:List Pl} {k m g:Nat} {cs:List Value} {sv:Value} {ss:List Stp} (h:Go2 w wr v gs vl X k m g cs sv ss) (hg:wr.grownBy w' (some gs)) :
  Below w.heap.size w w'∧RowB w' w.heap.size 25 (vL v)∧OwnG RelP w' (gs+1) w'.heap.size 44 3 enP vl X∧RowB w' g 44 cs∧SlV 4 enSt w' (NotIn vl (gs+1)) sv ss :=
 ⟨h.k1.bel.grown hg h.k1.bel.size (λ k hk=>by simp at hk;have:=h.k1.ge;omega),h.k1.rv.grown hg (λ k hk=>by simp at hk;have:=h.k1.ge;omega),(own_low h.k1.og hg (by omega)).more hg.size,h.rp.grown hg (λ k hk=>by simp at hk;have:=h.gg;omega),(relV 4 enSt).keep h.st (Still.grown hg (λ k hk hn=>by simp at hk;have:=hn.2;omega))⟩
end Bd16
namespace Bd17
open Go.ChangeShapes Go.WideShapes Go.ChangeAt Go.RowKit Base Ints Own Clone RelG PlP Bd1 Bd4 Bd5 Bd6 Bd7 Bd8 Bd9 Bd11 RegInv RegF RegG Seen Bd16
structure GoF (w9:World) (sp:List Stp) (s:Stp) (p4 p7 p9 p10 p11:Prop) (v4 v7 v9 v10 v11:Value) (w':World):Prop where
 bel:Below w9.heap.size w9 w'
 f4:p4->¬ p7->OwnS w' w9.heap.size w'.heap.size 150 4 enSt v4 []
 f7:p7->¬ p10->OwnS w' w9.heap.size w'.heap.size 150 4 enSt v7 sp
 f9:p9->¬ p10->∃ g,v9=.slice (some ⟨g,0,none⟩) 1 1∧w9.heap.size<=g∧RowB w' g 150 (enSt s)∧(p4->¬ p7->v4.ownBlock≠some g)∧(p7->v7.ownBlock≠some g)
 f10:p10->OwnS w' w9.heap.size w'.heap.size 150 4 enSt v10 (sp++[s])
 f11:p11->v11=v10
theorem GoF.skip {w9:World} {sp:List Stp} {s:Stp} {L:Nat->Prop} {vals:Nat->Value} {w':World} (F:GoF w9 sp s (L 4) (L 7) (L 9) (L 10) (L 11) (vals 4) (vals 7) (vals 9) (vals 10) (vals 11) w') (k:Nat) (x:Value) (h4:4≠k:=by decide) (h7:7≠k:=by decide) (h9:9≠k:=by decide) (h10:10≠k:=by decide) (h11:11≠k:=by decide) :
  GoF w9 sp s (4=k∨L 4) (7=k∨L 7) (9=k∨L 9) (10=k∨L 10) (11=k∨L 11) (upd vals k x 4) (upd vals k x 7) (upd vals k x 9) (upd vals k x 10) (upd vals k x 11) w':=by
 rw [or_ne h4,or_ne h7,or_ne h9,or_ne h10,or_ne h11,upd_ne h4,upd_ne h7,upd_ne h9,upd_ne h10,upd_ne h11];exact F
section
variable {w9 w' w'':World} {sp:List Stp} {s:Stp} {p4 p7 p9 p10 p11:Prop} {v4 v7 v9 v10 v11 v':Value}
theorem GoF.s4 (F:GoF w9 sp s p4 p7 p9 p10 p11 v4 v7 v9 v10 v11 w') {c:Nat} (n7:¬ p7) (n10:¬ p10) (n11:¬ p11) (hown:OwnS w'' w9.heap.size w''.heap.size 150 4 enSt (.slice (some ⟨w'.heap.size,0,none⟩) 0 c) []) (hg:w'.grownBy w'' none) :
  GoF w9 sp s True p7 p9 p10 p11 (.slice (some ⟨w'.heap.size,0,none⟩) 0 c) v7 v9 v10 v11 w'':=by
 refine⟨F.bel.grown hg F.bel.size (λ g h=>by simp at h),λ _ _=>hown,λ h=>absurd h n7,λ h b=>?_,λ h=>absurd h n10,λ h=>absurd h n11⟩;obtain⟨g,e,i,a,l,j⟩:=F.f9 h b;refine⟨g,e,i,a.grown hg (λ k d=>by simp at d),λ _ _ f=>?_,λ h=>absurd h n7⟩;have:=a.lt;simp [Value.ownBlock] at f;omega
theorem GoF.s7 (F:GoF w9 sp s p4 p7 p9 p10 p11 v4 v7 v9 v10 v11 w') (y4:p4) (n7:¬ p7) (n10:¬ p10) (n11:¬ p11) (hown:OwnS w'' w9.heap.size w''.heap.size 150 4 enSt v' sp) (hg:w'.grownBy w'' v4.ownBlock) (hat:∀ g,v'.ownBlock=some g->v4.ownBlock=some g∨g=w'.heap.size) :
  GoF w9 sp s p4 True p9 p10 p11 v4 v' v9 v10 v11 w'':=by
 have d:=F.f4 y4 n7;refine⟨F.bel.grown hg F.bel.size (λ g h=>(d.block g h).1),λ _ h=>absurd trivial h,λ _ _=>hown,λ h f=>?_,λ h=>absurd h n10,λ h=>absurd h n11⟩;obtain⟨g,e,j,c,b,l⟩:=F.f9 h f;refine⟨g,e,j,c.grown hg (λ k i a=>b y4 n7 (by rw [i,a])),λ _ h=>absurd trivial h,λ _ a=>?_⟩;rcases hat g a with h5 | h5
 ·exact b y4 n7 h5
 ·have:=c.lt;omega
theorem GoF.s9 (F:GoF w9 sp s p4 p7 p9 p10 p11 v4 v7 v9 v10 v11 w') (n10:¬ p10) (n11:¬ p11) :
  GoF w9 sp s p4 p7 True p10 p11 v4 v7 (.slice (some ⟨w'.heap.size,0,none⟩) 1 1) v10 v11 (w'.alloc (.cells ⟨enSt s⟩ 150)):=by
 refine⟨F.bel.alloc F.bel.size _,λ h a=>((F.f4 h a).alloc _).more (by simp),λ h a=>((F.f7 h a).alloc _).more (by simp),λ _ _=>⟨_,rfl,F.bel.size,RowB.new _ _ _,λ h a b=>?_,λ h b=>?_⟩,λ h=>absurd h n10,λ h=>absurd h n11⟩
 ·have:=((F.f4 h a).block _ b).2;omega
 ·have:=((F.f7 h n10).block _ b).2;omega
theorem GoF.s10 (F:GoF w9 sp s p4 p7 p9 p10 p11 v4 v7 v9 v10 v11 w') (y7:p7) (n10:¬ p10) (n11:¬ p11) (hown:OwnS w'' w9.heap.size w''.heap.size 150 4 enSt v' (sp++[s])) (hg:w'.grownBy w'' v7.ownBlock) :
  GoF w9 sp s p4 p7 p9 True p11 v4 v7 v9 v' v11 w'':=by
 have a:=F.f7 y7 n10;exact⟨F.bel.grown hg F.bel.size (λ g h=>(a.block g h).1),λ _ h=>absurd y7 h,λ _ h=>absurd trivial h,λ _ h=>absurd trivial h,λ _=>hown,λ h=>absurd h n11⟩
theorem GoF.s11 (F:GoF w9 sp s p4 p7 p9 p10 p11 v4 v7 v9 v10 v11 w'):GoF w9 sp s p4 p7 p9 p10 True v4 v7 v9 v10 v10 w' :=
 ⟨F.bel,F.f4,F.f7,F.f9,F.f10,λ _=>rfl⟩
end
theorem goOn_i (v:Vr) (hv:okV v=true) (m:Nat) (hm:m<=10) (ps:List Pl) (hps:RowOk v m ps) (hN:ps.length<=20000) (d:Int) (hd:1<=d∧d<=6) (u:Value) (S0:Nat->Prop) (w:World) (hu:SlG RelP 3 enP w S0 u ps) :
  Calls Tryz.prog 151 #[.agg #[.int .i64 v.p,.int .i64 v.c,.int .i64 v.h,.int .i64 v.s],u,.int .i64 d] w λ e w'=>∃ vv,e=.returned vv∧OwnG RelP w' w.heap.size w'.heap.size 44 3 enP vv (nextP v d ps)∧Below w.heap.size w w':=by
 obtain⟨i4,a7,aU,aT,aS⟩:=info_parts infoSt;obtain⟨i3,b9,b3,b2,b0⟩:=info_parts infoP;have b4:=okV_iff.1 hv;obtain⟨Ap,cp,rs,rfl,bn,bt,-⟩:=hu;obtain⟨N,bc⟩:∃ N,ps.length=N:=⟨_,rfl⟩;rw [bc] at hN ⊢;have bV:=kD bc;have cl:=kD bn;have bX:=kD bt;have cm:=kD hps;obtain⟨P,hP⟩:∃ P:Nat,v.p=(P:Int):=⟨v.p.toNat,by omega⟩;have HP:=kD hP;have cA:P<=24:=by omega
 have HC:=kD (show v.c<=15 by omega);have bW:Tryz.prog.underlying 130=some (.map 9 4):=by first | exact Tryz.underlying130 | kernel_rfl
 have cS:∀ w:World,(Instr.makeMap 130 none).run Tryz.prog w=.ok (.map (some w.heap.size)) (w.alloc (.map #[] 0)):=λ _=>rfl
 clear bc bn bt hps hP hv b4;go_enter Tryz.func151,Tryz.ntmps151;go_upto_region 1 with fail;refine wp_gen (λ W'=>Below w.heap.size w W'∧RowB W' w.heap.size 25 (vL v)) ⟨by go_grown,RowB.new _ _ _⟩ ?_;rintro w1 ⟨aA,rv⟩;go_upto_region 2 with fail;refine wp_gen (λ W'=>Go1 w W' v w1.heap.size (.slice none 0 0) [] (m+1) 0) ⟨(aA.alloc aA.size _),rv.alloc _,rv.lt,Seen.made _,OwnG.nil_ _ _ _ _ _ _ _,Coll.nil _ _⟩ ?_;intro w2 K;obtain⟨S,bA⟩:∃ g,w1.heap.size=g:=⟨_,rfl⟩;rw [bA] at K ⊢;have C:=K.rv.lt;clear aA rv bA;go_wp2_with fail;go_loopw [8,19] (λ vl i wr=>∃ k:Nat,k<=N∧i=.int .i64 (k:Int)∧Go1 w wr v S vl (nxGo v d (ps.take k) []) (m+1) (k*25)) (λ _ i _=>N - (intOf i).toNat)
 case atStart=>exact⟨0,Nat.zero_le _,by first | rfl | trivial,K⟩
 case round =>
  obtain⟨k,hk,rfl,K⟩:=hrel;clear C;have C:=K.rv.lt;by_cases hlt:k<N
  ·obtain⟨b1,o1,r,rfl,-,aA,hr,hc⟩:=(cl.out.keep (.below K.bel)).at_ (i:=k) (by rw [bX.out.1,bV.out];exact hlt);obtain⟨p,hp,hR⟩:=bX.out.at_ hr;have HT:=kD (show nxGo v d (ps.take (k+1)) []=nxIn v p (legalP v p.2 d) (nxGo v d (ps.take k) []) from by rw [takeS hp,nxGo_snoc]);have ac:=kD (cm.out p (List.mem_of_getElem? hp));obtain⟨X,hX⟩:∃ X,nxGo v d (ps.take k) []=X:=⟨_,rfl⟩;rw [hX] at K HT;clear hX;obtain⟨V,B⟩:=p;obtain⟨r0,rl,rm⟩:=r;have bL:=hR.1.sl enSt_len;have bJ:=hR.2.1;have bI:=hR.2.2;simp only at bL bJ bI ac HT;obtain⟨As,cs,rfl,ks,-⟩:=bL;obtain⟨Ao,co,rfl,ko,bP⟩:=bJ;obtain⟨At,ct,rfl,kt,bN⟩:=bI;have bF:wr.cell? ⟨b1,o1+k*3,none⟩=some (.slice As V.length cs):=hc 0 _ rfl;have bE:wr.cell? ⟨b1,o1+k*3+1,none⟩=some (.slice Ao B.1.length co):=hc 1 _ rfl;have bD:wr.cell? ⟨b1,o1+k*3+2,none⟩=some (.slice At B.2.length ct):=hc 2 _ rfl;have cH:(k:Int)<(N:Int):=by omega
   have cC:IntKind.i64.wrap ((k:Int)+1)=(k:Int)+1:=IntWalk.i64_in _ (by omega);have bw:=ac.out.1.own.len;have bv:=ac.out.1.oth.len;obtain⟨n,hn⟩:∃ n,P+1=n:=⟨_,rfl⟩;have aH:B.1.length=n:=by have:=HP.out;omega
   have aG:B.2.length=n:=by have:=HP.out;omega
   obtain⟨ns,aY⟩:∃ k,V.length=k:=⟨_,rfl⟩;have bh:=kD aY;have b7:ns<=10:=by have:=ac.out.2;omega
   have bO:=kD bP;have bM:=kD bN;have RS:=kD (λ(o:World) (h:Below w.heap.size w o)=>(ks.rd.below h (Nat.le_refl _)));have RO:=kD (λ(o:World) (h:Below w.heap.size w o)=>(ko.rd.below h (Nat.le_refl _)));have bg:=kD (λ(o:World) (h:Below w.heap.size w o)=>(kt.rd.below h (Nat.le_refl _)));have cq:=kD aH;have cn:=kD aG;have CL:=kD (λ(o:World) (h:Below w.heap.size w o)=>legal_i v B ac.out.1 Ao At co ct w.heap.size d hd o h.size (RO.out o h) (bg.out o h));rw [aH,aG] at CL;rw [aH] at bE;rw [aG] at bD;rw [aY] at bF;clear hr hp hR hc ks ko kt bP bN bw bv aH aG aY;go_upto_region 6 with fail;refine wp_gen (λ W'=>Below wr.heap.size wr W'∧RowB W' wr.heap.size 44 [.slice As ns cs,.slice Ao n co,.slice At n ct]) ?_ ?_
   ·exact⟨(Below.refl _ _).alloc (Nat.le_refl _) _,RowB.new _ _ _⟩
   rintro w3 ⟨bH,rp⟩;have a8:S<wr.heap.size:=K.sn.lt;have aZ:u8.ownBlock≠some wr.heap.size:=λ h=>by obtain⟨W,h9,-⟩:=K.og;have:=(h9.block _ h).2;omega
   have K:=K.below bH;obtain⟨gp,bB⟩:∃ g,wr.heap.size=g:=⟨_,rfl⟩;rw [bB] at rp a8 aZ ⊢;clear bF bE bD aA bH C bB;obtain⟨q0,q1,q2,q3⟩:=K.rv.c4;obtain⟨p0,p1,p2⟩:=rp.c3;have C:=K.rv.lt;have a4:=rp.lt;go_wp2_with fail;refine(CL.out w3 K.bel).mono ?_;rintro e w4 ⟨sv,rfl,aV,bb⟩;obtain⟨cw,be,b6,-⟩:=aV.form enSt_len;have aJ:SlV 4 enSt w4 (NotIn u8 (S+1)) sv (legalP v B d):=by
    have h1:OwnV 150 4 enSt w4 (NotIn u8 (S+1)) sv (legalP v B d):=OwnV.of aV (Nat.le_refl _) (λ b hb _=>⟨λ h=>by obtain⟨W,h9,-⟩:=K.og;have:=(h9.block _ h).2;omega,by omega⟩);exact h1.sl enSt_len
   have f:Go2 w w4 v S u8 X (m+1) (k*25) gp [.slice As ns cs,.slice Ao n co,.slice At n ct] sv (legalP v B d):=⟨K.below bb,a8,rp.below bb rp.lt,aZ,aJ⟩;subst b6;clear K rp aV aJ bb a8 aZ q0 q1 q2 q3 p0 p1 p2 C a4;have C:=f.k1.rv.lt;obtain⟨M,hM⟩:∃ M,(legalP v B d).length=M:=⟨_,rfl⟩;have HM:=kD hM;have cB:M<=25:=by have:=legal_len v B d;have:=HP.out;omega
   rw [hM] at f ⊢;clear hM;go_wp2_with fail;go_loopw [8,29] (λ vl i wq=>∃ j:Nat,j<=M∧i=.int .i64 (j:Int)∧Go2 w wq v S vl (nxIn v (V,B) ((legalP v B d).take j) X) (m+1) (k*25+j) gp [.slice As ns cs,.slice Ao n co,.slice At n ct] (.slice cw M be) (legalP v B d)) (λ _ i _=>M - (intOf i).toNat)
   case atStart=>exact⟨0,Nat.zero_le _,by first | rfl | trivial,f⟩
   case round =>
    obtain⟨j,hj,rfl,f⟩:=hrel;clear C;have C:=f.k1.rv.lt;by_cases hlj:j<M
    ·obtain⟨A5,c5,e5,aL,-⟩:=f.st;simp only [Value.slice.injEq] at e5;obtain⟨rfl,-,rfl⟩:=e5;obtain⟨b5,o5,s,rfl,-,cb,aW,ay⟩:=aL.at_ (i:=j) (by rw [HM.out];exact hlj);have bT:=kD (List.mem_of_getElem? aW);have aK:StOk v s:=legal_parts hd.1 ac.out.1 bT.out;obtain⟨G,aD⟩:∃ G,afterP v B s=G:=⟨_,rfl⟩;have ah:=kD (show Ok v G from by rw [<-aD];exact legal_ok hd.1 ac.out.1 bT.out);have HS:=kD (show nxIn v (V,B) ((legalP v B d).take (j+1)) X=addOne (nxIn v (V,B) ((legalP v B d).take j) X) (V++[s],G) from by rw [takeS aW,nxIn_snoc,aD]);obtain⟨Y,hY⟩:∃ Y,nxIn v (V,B) ((legalP v B d).take j) X=Y:=⟨_,rfl⟩;rw [hY] at f HS;have aw:G.1.length=n:=by have:=ah.out.own.len;have:=HP.out;omega
     have ar:G.2.length=n:=by have:=ah.out.oth.len;have:=HP.out;omega
     have CA:=kD (λ(o:World) (h:Below w.heap.size w o)=>after_i v B ac.out.1 Ao At co ct w.heap.size s aK o h.size (RO.out o h) (bg.out o h) bO.out bM.out);rw [aD,cq.out,cn.out] at CA;obtain⟨sf,E,sd,sh⟩:=s;have d0:wr.cell? ⟨b5,o5+j*4,none⟩=some (.int .i64 sf):=ay 0 _ rfl;have d1:wr.cell? ⟨b5,o5+j*4+1,none⟩=some (.int .i64 E):=ay 1 _ rfl;have d2:wr.cell? ⟨b5,o5+j*4+2,none⟩=some (.int .i64 sd):=ay 2 _ rfl;have d3:wr.cell? ⟨b5,o5+j*4+3,none⟩=some (.bool sh):=ay 3 _ rfl;have cI:(j:Int)<(M:Int):=by omega
     have cD:IntKind.i64.wrap ((j:Int)+1)=(j:Int)+1:=IntWalk.i64_in _ (by omega);simp only at CA;clear hY aD aW ay aK aL;go_upto_region 9 with fail;refine wp_gen (λ W'=>Below wr.heap.size wr W'∧RowB W' wr.heap.size 150 [.int .i64 sf,.int .i64 E,.int .i64 sd,.bool sh]) ?_ ?_
     ·exact⟨(Below.refl _ _).alloc (Nat.le_refl _) _,RowB.new _ _ _⟩
     rintro w5 ⟨aQ,y⟩;have ba:S<wr.heap.size:=f.k1.sn.lt;have br:u8.ownBlock≠some wr.heap.size:=λ h=>by obtain⟨W,h9,-⟩:=f.k1.og;have:=(h9.block _ h).2;omega
     have a2:gp≠wr.heap.size:=by have:=f.rp.lt;omega
     have f:=f.below aQ;obtain⟨bQ,O⟩:∃ g,wr.heap.size=g:=⟨_,rfl⟩;rw [O] at y ba br a2 ⊢;clear d0 d1 d2 d3 cb aQ C O;obtain⟨q0,q1,q2,q3⟩:=f.k1.rv.c4;obtain⟨p0,p1,p2⟩:=f.rp.c3;obtain⟨s0,s1,s2,s3⟩:=y.c4;have C:=f.k1.rv.lt;have a4:=f.rp.lt;have bx:=y.lt;go_wp2_with fail;refine(CA.out w5 f.k1.bel).mono ?_;rintro e w6 ⟨A3,c3,A4,c4,rfl,bp,bo,cc,aE⟩;have bG:=f.k1.bel;have bq:u8.ownBlock≠some w6.heap.size:=λ h=>by obtain⟨W,h9,-⟩:=f.k1.og;have:=(h9.block _ h).2;have:=aE.size;omega
     have a0:∀ b,u8.ownBlock=some b->b<w5.heap.size:=λ b h=>by obtain⟨W,h9,-⟩:=f.k1.og;exact(h9.block _ h).2
     have bz:S<w5.heap.size:=f.k1.sn.lt;have J:SlV 1 enI w6 (NotIn u8 (S+1)) (.slice A3 G.1.length c3) G.1:=(OwnV.of bp (Nat.le_refl _) (λ b hb _=>⟨λ h=>by have:=a0 b h;omega,by omega⟩):OwnV 2 1 enI w6 (NotIn u8 (S+1)) _ G.1).sl enI_len;have I:SlV 1 enI w6 (NotIn u8 (S+1)) (.slice A4 G.2.length c4) G.2:=(OwnV.of bo (Nat.le_refl _) (λ b hb _=>⟨λ h=>by have:=a0 b h;omega,by omega⟩):OwnV 2 1 enI w6 (NotIn u8 (S+1)) _ G.2).sl enI_len;have f:=f.below aE;have y:=y.below aE y.lt;have av:=y.lt;have aO:=f.rp.lt;rw [aw] at J ⊢;rw [ar] at I ⊢;clear q0 q1 q2 q3 p0 p1 p2 s0 s1 s2 s3 C a4 bx aE bp bo cc a0 bG CA;go_upto_region 10 with fail;refine wp_gen (λ W'=>Below w6.heap.size w6 W'∧RowB W' w6.heap.size 28 [.slice A3 n c3,.slice A4 n c4]) ?_ ?_
     ·exact⟨(Below.refl _ _).alloc (Nat.le_refl _) _,RowB.new _ _ _⟩
     rintro w7 ⟨az,rn⟩;have f:=f.below az;have y:=y.below az y.lt;have J:=(relV 1 enI).keep J (.below az);have I:=(relV 1 enI).keep I (.below az);have a9:S<w6.heap.size:=by omega
     have a1:gp<w6.heap.size∧bQ<w6.heap.size:=⟨aO,av⟩;obtain⟨cK,aP⟩:∃ g,w6.heap.size=g:=⟨_,rfl⟩;rw [aP] at rn bq a9 a1 ⊢;clear az aP av bz aO;obtain⟨z0,z1⟩:=rn.c2;have C:=rn.lt;have bS:=kD (by
      obtain⟨Ax,cx,ex,kx,-⟩:=J;obtain⟨Ay,cy,ey,ky,-⟩:=I;simp only [Value.slice.injEq] at ex ey;obtain⟨rfl,-,rfl⟩:=ex;obtain⟨rfl,-,rfl⟩:=ey;exact key_i G.1 G.2 n aw ar (by omega) (λ i=>⟨ah.out.own.nn i,by have:=ah.out.own.top i;have:=HC.out;omega⟩) (λ i=>⟨ah.out.oth.nn i,by have:=ah.out.oth.top i;have:=HC.out;omega⟩) A3 A4 c3 c4 w7.heap.size w7 (Nat.le_refl _) kx.rd ky.rd)
     go_wp2_with fail;refine bS.out.mono ?_;rintro e w8 ⟨rfl,ap⟩;have f:=f.below ap;have y:=y.below ap y.lt;have rn:=rn.below ap rn.lt;have J:=(relV 1 enI).keep J (.below ap);have I:=(relV 1 enI).keep I (.below ap);have aw:=kD aw;have ar:=kD ar;clear z0 z1 C ap bS;obtain⟨aj,am⟩:∃ aj:ByteArray,(⟨(keyP (G.1,G.2)).toArray⟩:ByteArray)=aj:=⟨_,rfl⟩;rw [am];have a6:aj.data.toList=keyP G:=by rw [<-am]
     have a5:aj.size<=maxLen:=by rw [<-am];show (keyP G).toArray.size<=maxLen;rw [List.size_toArray,key_len,aw.out,ar.out];unfold maxLen;omega
     obtain⟨x,hx⟩:∃ x,decide (aj.data.toList ∈ keysP Y)=x:=⟨_,rfl⟩;have cr:=f.k1.sn.look bW aj a5 x hx;have aI:=kD (show x=hasB Y G from by rw [<-hx,a6];exact has_key (λ q hq=>(f.k1.co.ok q hq).1) ah.out);have bZ:=kD a6;have bY:=kD a5;clear am a6 a5 hx
     cases x
     case true =>
      have bU:nxIn v (V,B) ((legalP v B d).take (j+1)) X=Y:=by rw [HS.out];exact addOne_has aI.out.symm
      have K9:Go2 w w8 v S u8 (nxIn v (V,B) ((legalP v B d).take (j+1)) X) (m+1) (k*25+(j+1)) gp [.slice As ns cs,.slice Ao n co,.slice At n ct] (.slice (some ⟨b5,o5,none⟩) M be) (legalP v B d):=by
       rw [bU];exact⟨⟨f.k1.bel,f.k1.rv,f.k1.ge,f.k1.sn,f.k1.og,f.k1.co.more (by omega)⟩,f.gg,f.rp,f.np,f.st⟩
      clear f bU;go_wp2_with fail;go_roundw
      case rel=>exact⟨j+1,by omega,by go_num,K9⟩
      case measure=>simp [intOf];omega
     case false =>
      have cz:Y.length<=1000000:=by have:=f.k1.co.len;omega
      go_wp2_with (refine Seen.wpL_put rfl _ _ _ _ rfl bW rfl f.k1.sn (by unfold maxLen;omega) aj bY.out rfl rfl ?_);intro aa ad Z;obtain⟨ab,rv,og,rp,st⟩:=f.put Z;have y:=y.grown Z (λ k hk=>by simp at hk;omega);have rn:=rn.grown Z (λ k hk=>by simp at hk;omega);have J:=(relV 1 enI).keep J (Still.grown Z (λ k hk hn=>by simp at hk;have:=hn.2;omega));have I:=(relV 1 enI).keep I (Still.grown Z (λ k hk hn=>by simp at hk;have:=hn.2;omega));have ad:Seen aa S (Y++[(V++[(sf,E,sd,sh)],G)]).length (keysP (Y++[(V++[(sf,E,sd,sh)],G)])):=by
       rw [List.length_append];refine Bd16.Seen.same ad (λ q=>?_);rw [bZ.out];unfold keysP;rw [List.map_append];simp [or_comm]
      have ck:=kD (show nxIn v (V,B) ((legalP v B d).take (j+1)) X=Y++[(V++[(sf,E,sd,sh)],G)] from by rw [HS.out];exact addOne_new aI.out.symm);have bC:=f.k1.co.add (p:=(V++[(sf,E,sd,sh)],G)) ⟨ah.out,by simp [ac.out.2]⟩;rw [addOne_new (show hasB Y G=false from aI.out.symm)] at bC;have ge:=f.k1.ge;have gg:=f.gg;have np:=f.np;clear f Z cr aI bZ bY HS;have RP:=kD rp;have T:=kD y;have bR:=kD (RS.out aa ab);have cv:w.heap.size<=aa.heap.size:=ab.size;have cE:IntKind.i64.wrap ((ns:Int)+1)=((ns+1:Nat):Int):=by rw [IntWalk.i64_in _ (by omega)];omega
      have BE:=kD ab;have RV:=kD rv;have ca:S<aa.heap.size:=ad.lt;have cj:∀ b,u8.ownBlock=some b->¬ aa.heap.size<=b:=λ b h=>by obtain⟨W,h9,-⟩:=og;have:=(h9.block _ h).2;omega
      clear ab rv rp y;go_wp2_with fail;refine rG [some 45,some 46,some 47,some 48,some 49,some 50,some 51,some 52,some 53,some 54,some 55,some 15] 12 (Pl [some (.pointer (some ⟨gp,0,none⟩)),some (.slice As ns cs),some (.int .i64 (ns:Int)),some (.int .i64 ((ns+1:Nat):Int)),none,some (.pointer (some ⟨gp,0,none⟩)),some (.slice As ns cs),none,some (.agg #[.int .i64 sf,.int .i64 E,.int .i64 sd,.bool sh]),none,none,none]) (λ L a w'=>GoF aa V (sf,E,sd,sh) (L 4) (L 7) (L 9) (L 10) (L 11) (a 4) (a 7) (a 9) (a 10) (a 11) w') ?g0_1 ?gst_1 ?gfin_1
      case g0_1=>exact⟨(Below.refl _ _).drew,λ h=>absurd h (by decide),λ h=>absurd h (by decide),λ h=>absurd h (by decide),λ h=>absurd h (by decide),λ h=>absurd h (by decide)⟩
      case gst_1 =>
       refine rN rfl (λ L a A o l z t U F K Q=>?_) ?_
       ·have ci:=U.w 10 (.pointer (some ⟨gp,0,none⟩));have cp:=(RP.out.below F.bel RP.out.lt).c3;have cs:=(T.out.below F.bel T.out.lt).c4;have c0:=cp.1;obtain⟨d0,d1,d2,d3⟩:=cs;clear cp;go_simp;exact pF Q (F.skip 0 _)
       refine rN rfl (λ L a A o l z t U F K Q=>?_) ?_
       ·have cQ:=U.v 0 45;have cp:=(RP.out.below F.bel RP.out.lt).c3;have cs:=(T.out.below F.bel T.out.lt).c4;have c0:=cp.1;obtain⟨d0,d1,d2,d3⟩:=cs;clear cp;go_simp;exact pF Q (F.skip 1 _)
       refine rN rfl (λ L a A o l z t U F K Q=>?_) ?_
       ·have cP:=U.v 1 46;go_simp;exact pF Q (F.skip 2 _)
       refine rN rfl (λ L a A o l z t U F K Q=>?_) ?_
       ·have cO:=U.v 2 47;go_simp;exact pF Q (F.skip 3 _)
       refine rN rfl (λ L a A o l z t U F K Q=>?_) ?_
       ·have ch:=U.v 3 48;refine wp_make (en:=enSt) _ _ _ rfl aa.heap.size 150 i4 (.agg #[.int .i64 0,.int .i64 0,.int .i64 0,.bool false]) 4 Tryz.underlying33 a7 aU aT .i64 .i64 (ns+1) rfl (ev ch) (by rw [aS];omega) (by unfold maxLen;omega) F.bel.size ?_;intro aq ae af;exact Q.out _ aq (Pl.any rfl) (by simpa [upd] using F.s4 (λ h=>l (t 7 4 (by kernel_rfl) h)) (λ h=>l (t 10 4 (by kernel_rfl) h)) (λ h=>l (t 11 4 (by kernel_rfl) h)) ae af)
       refine rN rfl (λ L a A o l z t U F K Q=>?_) ?_
       ·have ci:=U.w 10 (.pointer (some ⟨gp,0,none⟩));have cp:=(RP.out.below F.bel RP.out.lt).c3;have cs:=(T.out.below F.bel T.out.lt).c4;have c0:=cp.1;obtain⟨d0,d1,d2,d3⟩:=cs;clear cp;go_simp;exact pF Q (F.skip 5 _)
       refine rN rfl (λ L a A o l z t U F K Q=>?_) ?_
       ·have cN:=U.v 5 50;have cp:=(RP.out.below F.bel RP.out.lt).c3;have cs:=(T.out.below F.bel T.out.lt).c4;have c0:=cp.1;obtain⟨d0,d1,d2,d3⟩:=cs;clear cp;go_simp;exact pF Q (F.skip 6 _)
       refine rN rfl (λ L a A o l z t U F K Q=>?_) ?_
       ·have cg:=U.x 4 49;have cf:=U.v 6 51;have o4:=F.f4 (bK z 4) l;refine wp_app (en:=enSt) _ _ _ rfl aa.heap.size o.heap.size 150 i4 (.agg #[.int .i64 0,.int .i64 0,.int .i64 0,.bool false]) 4 32 Tryz.underlying33 a7 aU aT aS rfl (by decide) enSt_len (a 4) [] V (λ x _=>one_St x) (ev cg) o4 As ns cs w.heap.size (ev cf) bh.out.symm (bR.out.below F.bel cv) (by unfold maxLen;simp;omega) (by simp;omega) F.bel.size (Nat.le_refl _) ?_;intro v' aq ae af aB;exact Q.out _ aq (Pl.any rfl) (by simpa [upd] using F.s7 (bK z 4) l (λ h=>l (t 10 7 (by kernel_rfl) h)) (λ h=>l (t 11 7 (by kernel_rfl) h)) (by simpa using ae) af aB)
       refine rN rfl (λ L a A o l z t U F K Q=>?_) ?_
       ·have cR:=U.w 12 (.pointer (some ⟨bQ,0,none⟩));have cp:=(RP.out.below F.bel RP.out.lt).c3;have cs:=(T.out.below F.bel T.out.lt).c4;have c0:=cp.1;obtain⟨d0,d1,d2,d3⟩:=cs;clear cp;go_simp;exact pF Q (F.skip 8 _)
       refine rN rfl (λ L a A o l z t U F K Q=>?_) ?_
       ·have cM:=U.v 8 53;go_simp;exact Q.out _ _ (Pl.any rfl) (by simpa [upd,enSt] using F.s9 (λ h=>l (t 10 9 (by kernel_rfl) h)) (λ h=>l (t 11 9 (by kernel_rfl) h)))
       refine rN rfl (λ L a A o l z t U F K Q=>?_) ?_
       ·have ce:=U.x 7 52;have cd:=U.x 9 54;have o7:=F.f7 (bK z 7) l;have q9:=F.f9 (bK z 9) l;refine q9.elim λ g9 q9=>?_
        refine wp_app (en:=enSt) _ _ _ rfl aa.heap.size o.heap.size 150 i4 (.agg #[.int .i64 0,.int .i64 0,.int .i64 0,.bool false]) 4 32 Tryz.underlying33 a7 aU aT aS rfl (by decide) enSt_len (a 7) V [(sf,E,sd,sh)] (λ x _=>one_St x) (ev ce) o7 (some ⟨g9,0,none⟩) 1 1 (g9+1) ((ev cd).trans q9.1) rfl (rd_row q9.2.2.1 (Nat.lt_succ_self _)) (by rw [bh.out];unfold maxLen;omega) (by rw [bh.out];omega) F.bel.size (Nat.le_refl _) ?_;intro v' aq ae af aB;exact Q.out _ aq (Pl.any rfl) (by simpa [upd] using F.s10 (bK z 7) l (λ h=>l (t 11 10 (by kernel_rfl) h)) ae af)
       refine rN rfl (λ L a A o l z t U F K Q=>?_) ?_
       ·have cL:=U.x 10 55;go_simp;exact Q.out _ o (Pl.any rfl) (by simpa [upd] using F.s11)
       exact RelFrom.nil (by decide)
      case gfin_1 =>
       intro a o hp F;simp only [Fr,Act.put,sX,Nat.reduceAdd];have an:=F.f10 trivial;rw [<-F.f11 trivial] at an;have H:=F.bel;clear F hp
       generalize a 11=v15 at an ⊢
       obtain⟨al,ak,bl,-⟩:=an.form enSt_len;subst bl;obtain⟨ai,aN⟩:∃ k,(V++[(sf,E,sd,sh)]).length=k:=⟨_,rfl⟩;rw [aN] at an ⊢;clear aN;have ab:=BE.out.trans (H.mono BE.out.size);have rv:=RV.out.below H RV.out.lt;have og:=(og.below_ H).more H.size;have rp:=RP.out.below H RP.out.lt;have st:=(relV 4 enSt).keep st (.below H);have rn:=rn.below H rn.lt;have J:=(relV 1 enI).keep J (.below H);have I:=(relV 1 enI).keep I (.below H);have ad:=ad.below H;have bs:=H.size;obtain⟨W,aX,a3⟩:=og;have bm:=kD a3.1;have aC:∀ g,u8.ownBlock=some g->S+1<=g∧g<o.heap.size:=λ g hg=>aX.block g hg
       have aR:OwnV 150 4 enSt o (NotIn u8 (S+1)) (.slice al ai ak) (V++[(sf,E,sd,sh)]):=OwnV.of an (Nat.le_refl _) (λ b hb cJ=>⟨λ h=>cj b h hb,by omega⟩);clear an RS RO bg bR H BE RV RP T;obtain⟨z0,z1⟩:=rn.c2;have C:=rn.lt;go_wp2_with (at_builtin;go_loud (refine wpL_one rfl _ _ _ rfl (S+1) _ 44 i3 (.agg #[.slice none 0 0,.slice none 0 0,.slice none 0 0]) 3 72 Tryz.underlying38 b9 b3 b2 b0 rfl (by decide) enP_len u8 W (.slice al ai ak,.slice A3 n c3,.slice A4 n c4) (one_P _ ⟨rfl,rfl,rfl⟩) rfl (aX.alloc _) o.heap.size 1 44 rfl (RowB.new _ _ _) ?c1 ?c2 ?c3 ?_))
       case c1=>have:=bm.out;unfold maxLen;omega
       case c2=>have:=bm.out;omega
       case c3=>have:=ab.size;have:=ad.lt;go_size
       intro aF bf bi aM O D b8;have ao:Below o.heap.size o (o.alloc (.cells #[.slice al ai ak,.slice A3 n c3,.slice A4 n c4] 44)):=by go_grown
       have D:u8.ownBlock=some aF∨aF=(o.alloc (.cells #[.slice al ai ak,.slice A3 n c3,.slice A4 n c4] 44)).heap.size:=by simpa using D
       have cF:(o.alloc (.cells #[.slice al ai ak,.slice A3 n c3,.slice A4 n c4] 44)).heap.size=o.heap.size+1:=by simp
       have ax:o.grownBy bi u8.ownBlock:=below_grown (w:=o) ao O;have bk:RelP.R (o.alloc (.cells #[.slice al ai ak,.slice A3 n c3,.slice A4 n c4] 44)) (NotIn u8 (S+1)) (.slice al ai ak,.slice A3 n c3,.slice A4 n c4) (V++[(sf,E,sd,sh)],G):=RelP.keep ⟨aR,J,I⟩ (.below ao);have og:=own_snoc (a3.keep (.below ao)) bk aM O D;have st:=app_still (K:=relV 4 enSt) (n:=W.length+1) (c:=bf) O D ((relV 4 enSt).keep st (.below ao));have bj:(Value.slice (some ⟨aF,0,none⟩) (W.length+1) bf).ownBlock≠some gp:=λ h=>by
        simp [Value.ownBlock] at h;rcases D with h9 | h9
        ·exact np (by rw [h9,h])
        ·have:=rp.lt;have:=ao.size;omega
       have K9:Go2 w bi v S (.slice (some ⟨aF,0,none⟩) (W.length+1) bf) (nxIn v (V,B) ((legalP v B d).take (j+1)) X) (m+1) (k*25+(j+1)) gp [.slice As ns cs,.slice Ao n co,.slice At n ct] (.slice (some ⟨b5,o5,none⟩) M be) (legalP v B d):=by
        rw [ck.out];exact⟨⟨ab.grown ax ab.size (λ g hg=>by have:=(aC g hg).1;omega),rv.grown ax (λ g hg=>by have:=(aC g hg).1;omega),ge,ad.grown ax (λ hg=>by have:=(aC S hg).1;omega),og,bC⟩,gg,rp.grown ax (λ g hg hh=>np (by rw [hg,hh])),bj,st⟩
       clear og st bj bk ax ao aM O D ab rv rp rn J I ad bs aX a3 aC aR z0 z1 C;go_wp2_with fail;go_roundw
       case rel=>exact⟨j+1,by omega,by go_num,K9⟩
       case measure=>simp [intOf];omega
    ·obtain rfl:j=M:=by omega
     have ag:nxIn v (V,B) ((legalP v B d).take j) X=nxGo v d (ps.take (k+1)) []:=by rw [<-HM.out,List.take_length];exact HT.out.symm
     have K9:=f.k1;rw [ag] at K9;have K9:Go1 w wr v S u8 (nxGo v d (ps.take (k+1)) []) (m+1) ((k+1)*25):=⟨K9.bel,K9.rv,K9.ge,K9.sn,K9.og,K9.co.more (by omega)⟩;clear f ag;go_wp2_with fail;go_roundw
     case rel=>exact⟨k+1,by omega,by go_num,K9⟩
     case measure=>simp [intOf];omega
  ·obtain rfl:k=N:=by omega
   have ag:nxGo v d (ps.take k) []=nextP v d ps:=by rw [<-bV.out,List.take_length];rfl
   rw [ag] at K;have cG:¬ ((k:Int)<(k:Int)):=by omega
   clear ag;go_wp2_with fail;go_ret;exact⟨_,rfl,K.og.less (by have:=K.ge;omega),K.bel⟩
end Bd17
end Go.Proofs.YtmncnhbjifeoeaaGreat
