/- Parts of the proof of FnVerdicts. Conditions: each theorem's own. -/
import Derived.Test.YtmncnhbjifeoeaaGreatT39
set_option linter.unusedVariables false
set_option linter.unusedSimpArgs false
set_option maxHeartbeats 8000000
set_option maxRecDepth 100000
namespace Go.Proofs.YtmncnhbjifeoeaaGreat
namespace VdP
open Go Go.ChangeShapes Go.WideShapes Go.ChangeAt Go.RowKit Base Ints Own RelG PlP TxP Gm HmP RegInv RegF RegG Bd1 Bd5 Bd22 Bd23 Bd24 Bd11 Bd27 Bd29 Bd31 Bd32
theorem infoVd:(Tryz.prog.info? 55).map (λ i=>(i.zero,i.size,i.bytes))=some (some (.agg #[.int .i64 0,.int .i64 0,.int .i64 0,.int .i64 0]),4,32):=by kernel_rfl
theorem one_Vd (x:V4):∀ u ∈ enI4 x,u.oneCell'=true:=by
 intro u a;simp only [enI4,List.mem_cons,List.not_mem_nil,or_false] at a;rcases a with rfl | rfl | rfl | rfl <;> rfl
theorem enI4_len' (x:V4):(enI4 x).length=4:=rfl
structure VdF (w1:World) (lo:Nat) (u:Value) (vs:List V4) (z:V4) (p12 p13 p14:Prop) (v12 v13 v14:Value) (w':World):Prop where
 pre:¬ p13->Below w1.heap.size w1 w'
 f12:p12->¬ p13->∃ g,v12=.slice (some ⟨g,0,none⟩) 1 1∧RowB w' g 55 (enI4 z)
 f13:p13->∃ g k c,v13=.slice (some ⟨g,0,none⟩) k c∧OwnS w' lo w'.heap.size 55 4 enI4 v13 (vs++[z])∧w1.grownBy w' u.ownBlock∧(u.ownBlock=some g∨w1.heap.size<=g)
 f14:p14->v14=v13
section
variable {w1 w' w'':World} {lo:Nat} {u:Value} {vs:List V4} {z:V4} {p12 p13 p14:Prop} {v12 v13 v14 v':Value}
theorem VdF.skip {L:Nat->Prop} {vals:Nat->Value} (F:VdF w1 lo u vs z (L 12) (L 13) (L 14) (vals 12) (vals 13) (vals 14) w') (k:Nat) (x:Value) (h:12≠k∧13≠k∧14≠k:=by decide) :
  VdF w1 lo u vs z (12=k∨L 12) (13=k∨L 13) (14=k∨L 14) (upd vals k x 12) (upd vals k x 13) (upd vals k x 14) w':=by
 rw [or_ne h.1,or_ne h.2.1,or_ne h.2.2,upd_ne h.1,upd_ne h.2.1,upd_ne h.2.2];exact F
theorem VdF.below (F:VdF w1 lo u vs z p12 p13 p14 v12 v13 v14 w') (n13:¬ p13) (hb:Below w'.heap.size w' w''):VdF w1 lo u vs z p12 p13 p14 v12 v13 v14 w'' :=
 ⟨λ h=>(F.pre h).trans (hb.mono (F.pre h).size),λ h hn=>by obtain⟨g,e,h1⟩:=F.f12 h hn;exact⟨g,e,h1.below hb h1.lt⟩,λ h=>absurd h n13,F.f14⟩
theorem VdF.s12 (F:VdF w1 lo u vs z p12 p13 p14 v12 v13 v14 w') (n13:¬ p13):VdF w1 lo u vs z True p13 p14 (.slice (some ⟨w'.heap.size,0,none⟩) 1 1) v13 v14 (w'.alloc (.cells ⟨enI4 z⟩ 55)):=by
 have G:=F.below (w'':=w'.alloc (.cells ⟨enI4 z⟩ 55)) n13 ((Below.refl _ _).alloc (Nat.le_refl _) _);exact⟨G.pre,λ _ _=>⟨_,rfl,RowB.new _ _ _⟩,G.f13,G.f14⟩
theorem VdF.s13 (F:VdF w1 lo u vs z p12 p13 p14 v12 v13 v14 w') (n14:¬ p14) {g k c:Nat} (ho:OwnS w'' lo w''.heap.size 55 4 enI4 (.slice (some ⟨g,0,none⟩) k c) (vs++[z])) (hg:w1.grownBy w'' u.ownBlock) (hat:u.ownBlock=some g∨w1.heap.size<=g) :
  VdF w1 lo u vs z p12 True p14 v12 (.slice (some ⟨g,0,none⟩) k c) v14 w'' :=
 ⟨λ h=>absurd trivial h,λ _ h=>absurd trivial h,λ _=>⟨g,k,c,rfl,ho,hg,hat⟩,λ h=>absurd h n14⟩
theorem VdF.s14 (F:VdF w1 lo u vs z p12 p13 p14 v12 v13 v14 w'):VdF w1 lo u vs z p12 p13 True v12 v13 v13 w':=⟨F.pre,F.f12,F.f13,λ _=>rfl⟩
end
structure Rw (w wr:World) (v:Vr) (n:Int) (ev:Value) (g7 g8:Nat) (su u1 u2:Value) (x:Ms) (uo:Value) (vs:List V4):Prop where
 k:Gm.Rows w wr [(0,48,[.int .i64 v.p,.int .i64 v.c,.int .i64 v.h,.int .i64 v.s,.int .i64 n,ev])]
 r7:RowB wr g7 25 (vL v)
 r8:RowB wr g8 59 (msC su u1 u2 x)
 ms:MsR wr (λ b=>NotIn uo (w.heap.size+1) b∧b≠g8) su u1 u2 x
 st:OwnS wr (w.heap.size+1) wr.heap.size 55 4 enI4 uo vs
 ap:∀ q,uo.ownBlock=some q->q≠g7∧q≠g8
 lo:w.heap.size+1<=g7∧g7<g8
section
variable {w wr w':World} {g7 g8:Nat} {v:Vr} {n:Int} {ev:Value} {su u1 u2 uo:Value} {x:Ms} {vs:List V4}
theorem Rw.below (K:Rw w wr v n ev g7 g8 su u1 u2 x uo vs) (hb:Below wr.heap.size wr w'):Rw w w' v n ev g7 g8 su u1 u2 x uo vs :=
 ⟨K.k.below hb,K.r7.below hb K.r7.lt,K.r8.below hb K.r8.lt,K.ms.below hb,(K.st.below hb (Nat.le_refl _)).more hb.size,K.ap,K.lo⟩
theorem Rw.put {su' u1' u2':Value} {x':Ms} (K:Rw w wr v n ev g7 g8 su u1 u2 x uo vs) (h:RowB w' g8 59 (msC su' u1' u2' x')) (hg:wr.grownBy w' (some g8)) (hm:MsR wr (λ b=>NotIn uo (w.heap.size+1) b∧b≠g8) su' u1' u2' x'):Rw w w' v n ev g7 g8 su' u1' u2' x' uo vs:=by
 have l:=K.lo;have f:=K.k.bel.size;refine⟨⟨K.k.bel.grown hg f (λ k a=>by simp at a;omega),λ p d=>?_⟩,K.r7.grown hg (λ k a=>by simp at a;omega),h,hm.keep (Still.grown hg (λ k a i=>by simp at a;exact i.2 a.symm)),?_,K.ap,l⟩
 ·have j:=K.k.at_ _ d;obtain rfl:=List.mem_singleton.1 d;exact j.grown hg (λ k a=>by simp at a;simp only;omega)
 ·refine⟨K.st.1.kept hg ?_,λ g c=>Nat.lt_of_lt_of_le (K.st.2 g c) hg.size⟩
  cases hv:uo.ownBlock with
  | none=>exact .inl rfl
  | some g=>exact .inr (λ e=>(K.ap g hv).2 (Option.some.inj e))
theorem Rw.app {g m c:Nat} {vs':List V4} (K:Rw w wr v n ev g7 g8 su u1 u2 x uo vs) (ho:OwnS w' (w.heap.size+1) w'.heap.size 55 4 enI4 (.slice (some ⟨g,0,none⟩) m c) vs') (hg:wr.grownBy w' uo.ownBlock) (hat:uo.ownBlock=some g∨wr.heap.size<=g):Rw w w' v n ev g7 g8 su u1 u2 x (.slice (some ⟨g,0,none⟩) m c) vs':=by
 have f:∀ q,uo.ownBlock=some q->w.heap.size+1<=q:=λ q a=>(K.st.block q a).1
 have l:=K.r7.lt;have j:=K.r8.lt;refine⟨⟨K.k.bel.grown hg K.k.bel.size (λ q a=>by have:=f q a;omega),λ p d=>?_⟩,K.r7.grown hg (λ q a=>(K.ap q a).1),K.r8.grown hg (λ q a=>(K.ap q a).2),?_,ho,λ q a=>?_,K.lo⟩
 ·have t:=K.k.at_ _ d;obtain rfl:=List.mem_singleton.1 d;exact t.grown hg (λ q a=>by have:=f q a;simp only;omega)
 ·have s:=(K.ms.weak (S':=λ b=>(NotIn uo (w.heap.size+1) b∧b≠g8)∧b<wr.heap.size) (λ b h o=>⟨h,o⟩)).keep (Still.grown hg (λ k r i=>i.1.1.1 r));refine s.weak (λ b h _=>⟨⟨λ e=>?_,h.1.1.2⟩,h.1.2⟩);simp [Value.ownBlock] at e;subst e;rcases hat with hat | hat
  ·exact h.1.1.1 hat
  ·have:=h.2;omega
 ·simp [Value.ownBlock] at a;subst a;rcases hat with hat | hat
  ·exact K.ap _ hat
  ·exact⟨by omega,by omega⟩
end
theorem vdE_eq {v:Vr} {d:Nat} {x:Ms} {i:Nat} {e:Ev} {c:Bd} {L K:Int} (hp:playP v x.g.b e.a e.b e.ss=some c) (hl:(lossF v d x.g.b e.a e.b c).1=L) (hk:luckP v d x.g.b e.a e.b=K):vdE v d x i e=((i:Int),x.g.pl,L,K):=by
 unfold vdE aftP;rw [hp,<-hl,<-hk]
 rfl
theorem rv_s (v:Vr) (n:Int) (es:List Ev) (Ae:Option Addr) (ce:Nat) (d:Int) (w:World) (hes:EvL w All Ae es) (R:List V4 × Int) (hR:rvR v n es d=R) :
  Calls Tryz.prog 16 #[.agg #[.int .i64 v.p,.int .i64 v.c,.int .i64 v.h,.int .i64 v.s,.int .i64 n,.slice Ae es.length ce],.int .i64 d] w λ f w'=>∃ uo,f=.returned (.tuple #[uo,.int .i64 R.2])∧OwnS w' w.heap.size w'.heap.size 55 4 enI4 uo R.1∧Below w.heap.size w w':=by
 obtain⟨iv,cG,cy,cx,cw⟩:=info_parts infoVd;obtain⟨ok,aU⟩:∃ b,(finS v n es).isSome=b:=⟨_,rfl⟩;obtain⟨b1,aW⟩:∃ b,decide ((0:Int)<=d∧d<=1)=b:=⟨_,rfl⟩;obtain⟨b2,aV⟩:∃ b,smV v=b:=⟨_,rfl⟩;have CI:=kD (λ(C:World) (P:Below w.heap.size w C)=>ismatch_s v n es Ae ce C (hes.keep (.below P)) ok aU);have co:=kD (λ(C:World)=>in_s d 0 1 b1 aW C);have CS:=kD (λ(C:World)=>sml_s v b2 aV C);have aL:codeT v ok true d=if ok=false then 1 else if b1=false then 2 else if b2=false then 3 else 0:=by
  unfold codeT;rw [aW,aV,Bool.and_true]
 have bm:R=if codeT v ok true d=0 then (vdGo v n d.toNat (startS v) es 0,0) else ([],codeT v ok true d):=by rw [<-hR];unfold rvR;rw [aU]
 rw [aL] at bm;have cL:=hes.len;have cX:=kD hes;have bA:=kD aU;have dH:=kD aV;have HD:=kD aW;obtain⟨M,hM⟩:∃ M,es.length=M:=⟨_,rfl⟩;rw [hM] at cL CI ⊢;have HM:=kD hM;have aO:=kD bm;clear hes hM aU aW aV hR bm aL;go_enter Tryz.func16,Tryz.ntmps16;go_upto_region 1 with fail;refine wp_gen (λ W'=>Gm.Rows w W' [(0,48,[.int .i64 v.p,.int .i64 v.c,.int .i64 v.h,.int .i64 v.s,.int .i64 n,.slice Ae M ce])]) ⟨by go_grown,λ p hp=>?_⟩ ?_
 ·obtain rfl:=List.mem_singleton.1 hp;exact RowB.new _ _ _
 intro w1 K;have rm:=K.nth0 0 rfl;obtain⟨q0,q1,Z,Y,q4,q5⟩:=rm.c6;have X:=rm.lt;go_wp2_with fail;refine(CI.out w1 K.bel).mono ?_;rintro e w2 ⟨rfl,hb⟩;have K:=K.below hb;clear hb CI q0 q1 Z Y q4 q5 X rm;have rm:=K.nth0 0 rfl;obtain⟨q0,q1,Z,Y,q4,q5⟩:=rm.c6;have X:=rm.lt
 cases ok with
 | false =>
  have ab:=aO.out;simp only [Bool.true_eq_false,Bool.false_eq_true,if_false,if_true,reduceIte,if_neg (show ¬ ((1:Int)=0) by decide)] at ab;subst ab;have al:=K.bel;clear K q0 q1 Z Y q4 q5 X rm;refine kD ?_
  repeat (first | go_values | go_skip | go_step | go_upon)
  refine bodyPost_ret (v:=.tuple #[.slice none 0 0,.int .i64 1]) (by simp [results,Tryz.results16,go_sem]) rfl ?_;exact⟨_,rfl,OwnS.nil_ _ _ _ _ _ _,al⟩
 | true =>
 go_wp2_with fail;refine(co.out _).mono ?_;rintro e w3 ⟨rfl,rfl⟩;clear co
 cases b1 with
 | false =>
  have ab:=aO.out;simp only [Bool.true_eq_false,Bool.false_eq_true,if_false,if_true,reduceIte,if_neg (show ¬ ((2:Int)=0) by decide)] at ab;subst ab;have al:=K.bel;clear K q0 q1 Z Y q4 q5 X rm;refine kD ?_
  repeat (first | go_values | go_skip | go_step | go_upon)
  refine bodyPost_ret (v:=.tuple #[.slice none 0 0,.int .i64 2]) (by simp [results,Tryz.results16,go_sem]) rfl ?_;exact⟨_,rfl,OwnS.nil_ _ _ _ _ _ _,al⟩
 | true =>
 go_wp2_with fail;refine(CS.out _).mono ?_;rintro e w3 ⟨rfl,hb⟩;have K:=K.below hb;clear hb CS q0 q1 Z Y q4 q5 X rm;have rm:=K.nth0 0 rfl;obtain⟨q0,q1,Z,Y,q4,q5⟩:=rm.c6;have X:=rm.lt
 cases b2 with
 | false =>
  have ab:=aO.out;simp only [Bool.true_eq_false,Bool.false_eq_true,if_false,if_true,reduceIte,if_neg (show ¬ ((3:Int)=0) by decide)] at ab;subst ab;have al:=K.bel;clear K q0 q1 Z Y q4 q5 X rm;refine kD ?_
  repeat (first | go_values | go_skip | go_step | go_upon)
  refine bodyPost_ret (v:=.tuple #[.slice none 0 0,.int .i64 3]) (by simp [results,Tryz.results16,go_sem]) rfl ?_;exact⟨_,rfl,OwnS.nil_ _ _ _ _ _ _,al⟩
 | true =>
 have ax:=fin_parts bA.out;have dd:M<=300:=by rw [<-HM.out];exact ax.2
 have aS:=head_parts ax.1;have CF:=kD (λ(C:World)=>fst_s v aS.1 aS.2.1 C);have cV:=kD (start_ms ax.1);have ci:=kD (show 1<=n∧n<=25 from aS.2.2);have cY:Hid ((enS v n (startS v) es).isSome=true):=by
  show _=_
  have h:=bA.out;unfold finS at h;rw [if_neg (λ h=>h.elim (λ h=>by rw [ax.1] at h;cases h) (λ h=>by have:=ax.2;omega))] at h;exact h
 have cI:0<=d∧d<=1:=by simpa using HD.out
 obtain⟨dn,rfl⟩:∃ q:Nat,d=(q:Int):=⟨d.toNat,by omega⟩;have cH:dn<=1:=by omega
 have ab:=aO.out;simp only [Int.toNat_natCast,Bool.true_eq_false,if_false,if_true] at ab;subst ab;have HO:Hid (vdGo v n dn (startS v) es 0=[]++vdGo v n dn (startS v) (es.drop 0) 0):=rfl;obtain⟨a2,ar⟩:∃ o,vdGo v n dn (startS v) es 0=o:=⟨_,rfl⟩;rw [ar] at HO;have cg:=kD ar;simp only [ar];clear ax aS bA HD cI aO ar;go_upto_region 9 with fail;obtain⟨g6,aJ⟩:∃ q,w3.heap.size=q:=⟨_,rfl⟩;refine wp_gen (λ W'=>Gm.Rows w W' [(0,48,[.int .i64 v.p,.int .i64 v.c,.int .i64 v.h,.int .i64 v.s,.int .i64 n,.slice Ae M ce])]∧RowB W' (g6+1) 25 (vL v)∧OwnS W' (w.heap.size+1) W'.heap.size 55 4 enI4 (.slice (some ⟨g6,0,none⟩) 0 0) []∧g6+2=W'.heap.size∧w.heap.size+1<=g6) ⟨K.below (by go_grown),RowB.new' _ _ _ (by rw [<-aJ];simp),RowB.own (xs:=([]:List V4)) (RowB.alloc (by rw [<-aJ];exact RowB.new _ _ _) _) enI4_len' (by omega) (by simp;omega) (by simp),by rw [<-aJ];simp,by omega⟩ ?_;clear K q0 q1 Z Y q4 q5 X rm
 try simp only [aJ]
 rintro w4 ⟨K,R7,OG,cB,cE⟩;clear aJ;obtain⟨q0,q1,Z,Y⟩:=R7.c4;have ag:=R7.lt;go_wp2_with fail;refine(CF.out _).mono ?_;rintro e w5 ⟨v6,rfl,⟨su,u1,u2,rfl,aw⟩,hb⟩;have bO:=hb.size;have K:=K.below hb;have R7:=R7.below hb R7.lt;have OG:=(OG.below hb (Nat.le_refl _)).more hb.size;clear hb CF q0 q1 Z Y ag;obtain⟨⟨A0,c0,rfl,-,-⟩,⟨A1,c1,rfl,-,-⟩,⟨A2,c2,rfl,-,-⟩⟩:=id aw;have am:=kD (show MsR w5 (λ b=>NotIn (.slice (some ⟨g6,0,none⟩) 0 0) (w.heap.size+1) b∧b≠w5.heap.size) _ _ _ (startS v) from aw.weak (λ b h hl=>by
  have h:=h.elim False.elim id;exact⟨⟨λ e=>by simp [Value.ownBlock] at e;omega,by omega⟩,by omega⟩))
 clear aw;simp only [msC,List.length_cons,List.length_nil,Nat.zero_add,Nat.reduceAdd];go_upto_region 10 with fail;have ag:=R7.lt;refine wp_gen (λ W'=>Rw w W' v n (.slice Ae M ce) (g6+1) w5.heap.size (.slice A0 2 c0) (.slice A1 (startS v).g.b.1.length c1) (.slice A2 (startS v).g.b.2.length c2) (startS v) (.slice (some ⟨g6,0,none⟩) 0 0) []) ⟨K.below ((Below.refl _ _).alloc (Nat.le_refl _) _),R7.alloc _,RowB.new _ _ _,am.out.keep (.below ((Below.refl _ _).alloc (Nat.le_refl _) _)),(OG.alloc _).more (by simp),λ q hq=>by(simp [Value.ownBlock] at hq;omega),by omega,by omega⟩ ?_;clear K am OG R7 ag;obtain⟨g8,bY⟩:∃ q,w5.heap.size=q:=⟨_,rfl⟩;obtain⟨g7,bZ⟩:∃ q,g6+1=q:=⟨_,rfl⟩;rw [bY] at bO ⊢;rw [bZ];clear bY bZ bO cB cE;intro w6 K;have HK:=kD K;clear K;go_wp2_with fail;go_loopw [6,9,10,11,12,13,14,15,16,17,18,19] (λ s6 s9 _ _ _ _ _ _ _ _ _ _ wr=>∃(k:Nat) (x:Ms) (su u1 u2:Value) (vs:List V4),s9=.int .i64 (k:Int)∧k<=M∧vs.length<=k∧Hid (Rw w wr v n (.slice Ae M ce) g7 g8 su u1 u2 x s6 vs)∧Hid (MsOk v n k x)∧Hid ((enS v n x (es.drop k)).isSome=true)∧Hid (a2=vs++vdGo v n dn x (es.drop k) k)) (λ _ s9 _ _ _ _ _ _ _ _ _ _ _=>M - (intOf s9).toNat)
 case atStart=>exact⟨0,startS v,_,_,_,[],by first | rfl | trivial,Nat.zero_le _,Nat.le_refl _,HK,cV,cY,HO⟩
 case round =>
  obtain⟨k,x,su,u1,u2,vs,rfl,dc,db,HK,az,bq,hQ⟩:=hrel;have K:=HK.out;have rm:=K.k.nth0 0 rfl;obtain⟨q0,q1,Z,Y,q4,q5⟩:=rm.c6;have X:=rm.lt;obtain⟨⟨B0,d0,rfl,cC,cF⟩,⟨B1,d1,rfl,bQ,bX⟩,⟨B2,d2,rfl,bP,bW⟩⟩:=id K.ms;by_cases hlt:k<M
  ·obtain⟨ba,oa,e,As,cs,rfl,bh,Q,bd,ca,cb,cc,cd,aZ⟩:=cX.out.at_ (i:=k) (by rw [HM.out];exact hlt);have aj:=K.k.bel;have ca:=(aj.cell (p:=⟨ba,oa+k*5,none⟩) Q).trans ca;have cb:=(aj.cell (p:=⟨ba,oa+k*5+1,none⟩) Q).trans cb;have cc:=(aj.cell (p:=⟨ba,oa+k*5+2,none⟩) Q).trans cc;have cd:=(aj.cell (p:=⟨ba,oa+k*5+3,none⟩) Q).trans cd;have aZ:=(aj.cell (p:=⟨ba,oa+k*5+4,none⟩) Q).trans aZ;have Q:=Nat.lt_of_lt_of_le Q aj.size;obtain⟨y,hy,a8⟩:=enS_step bh bq.out;have ck:=kD a8;have cU:=kD (next_ms ci.out.1 az.out hy);have bB:Hid (a2=(vs++(if e.k=2 then [vdE v dn x k e] else []))++vdGo v n dn y (es.drop (k+1)) (k+1)):=by
    show _=_
    rw [hQ.out,vdGo_drop bh hy k,List.append_assoc]
   have CN:=kD (λ(C:World) (P:Below w.heap.size w C) (S:Nat->Prop) (hm:MsR C S (.slice B0 2 d0) (.slice B1 x.g.b.1.length d1) (.slice B2 x.g.b.2.length d2) x)=>next_s v n k x az.out (by omega) ci.out S _ _ _ e As cs C.heap.size C (Nat.le_refl _) hm (bd.keep (.below P)).rd (some y) hy);have bx:=kD (λ h2:e.k=2=>turn_facts az.out.gm h2 hy);have HG:=kD (gm_parts az.out.gm);have bz:=kD (λ(C:World) (P:Below w.heap.size w C)=>(bd.keep (.below P)).rd);have a6:=kD (λ(C:World) (P:Below wr.heap.size wr C)=>(bQ.keep (.below P)).rd);have a5:=kD (λ(C:World) (P:Below wr.heap.size wr C)=>(bP.keep (.below P)).rd);have a4:=kD bX;have a3:=kD bW;obtain⟨ek,ea,eb,ss,er⟩:=e;simp only at ca cb cc cd aZ CN bx bB bz;obtain⟨sl,be⟩:∃ q,ss.length=q:=⟨_,rfl⟩;rw [be] at cd CN;have cf:=kD be;simp only [List.length_cons,List.length_nil,Nat.zero_add,Nat.reduceAdd] at K;have HK:=kD K;clear bh hy a8 be bd hQ az bq cC bQ bP cF bX bW aj;go_upto_region 14 with fail;refine wp_gen (λ W'=>Below wr.heap.size wr W'∧RowB W' wr.heap.size 63 [.int .i64 ek,.int .i64 ea,.int .i64 eb,.slice As sl cs,.int .i64 er]) ⟨(Below.refl _ _).alloc (Nat.le_refl _) _,RowB.new _ _ _⟩ ?_;obtain⟨cN,ao⟩:∃ q,wr.heap.size=q:=⟨_,rfl⟩;have bb:=kD ao;rw [ao];rintro w5 ⟨bk,G⟩;rw [<-ao] at bk;have aQ:=kD bk;clear ao bk ca cb cc cd aZ Q q0 q1 Z Y q4 q5 X rm K;obtain⟨k0,k1,k2,k3,k4⟩:=G.c5;have ae:=G.lt;obtain⟨cv,aE⟩:∃ t,(ek == 2)=t:=⟨_,rfl⟩;have HT:=kD aE;go_upto_if 49 with (fail);go_cut [6] from 50 to 96 (λ s6 wx=>∃ av,Hid (av=vs++(if ek=2 then [vdE v dn x k ⟨ek,ea,eb,ss,er⟩] else []))∧Hid (Rw w wx v n (.slice (some ⟨ba,oa,none⟩) M ce) g7 g8 (.slice B0 2 d0) (.slice B1 x.g.b.1.length d1) (.slice B2 x.g.b.2.length d2) x s6 av)∧RowB wx cN 63 [.int .i64 ek,.int .i64 ea,.int .i64 eb,.slice As sl cs,.int .i64 er])
   case first =>
    cases cv with
    | true =>
     have h2:ek=2:=by simpa using HT.out
     subst h2;clear aE HT;obtain⟨bf,c,aT,hc⟩:=bx.out rfl;have hb:=HG.out.1;have aa:(1<=ea∧ea<=6)∧(1<=eb∧eb<=6):=by
      have h:=bf;unfold rollB at h;simp only [Bool.and_eq_true,decide_eq_true_eq] at h;have:=hb.v1;omega
     have CP:=kD (λ(C:World) (P:Below wr.heap.size wr C)=>play_s v x.g.b hb _ _ _ ea eb bf ss As cs C.heap.size C (Nat.le_refl _) (HK.out.ms.2.below P) (bz.out C (HK.out.k.bel.trans (P.mono HK.out.k.bel.size))));rw [cf.out,aT] at CP;obtain⟨N,hN⟩:∃ N:Nat,c.1.length=N:=⟨_,rfl⟩;have B:c.2.length=N∧0<N∧N<=1000:=by have:=hc.own.len;have:=hc.oth.len;have:=hb.v1;omega
     have aX:=(allP_ok (x:=ea) (y:=eb) hb aa.1.1 aa.2.1).1;have bg:=(pls_bd (d:=dn) hb aa.1.1 aa.2.1).1;have bc:(allP v x.g.b ea eb).1.length=(plsP v dn x.g.b ea eb).length:=by unfold plsP;rw [List.length_map]
     obtain⟨q,hq,bR,aY⟩:=loss_at (d:=dn) (play_all (by have:=hb.v1;omega) aT);have aG:∀ p ∈ (allP v x.g.b ea eb).1,p.2.1.length=N∧p.2.2.length=N:=λ p hp=>by
      have h1:=(aX p hp).1.own.len;have h2:=(aX p hp).1.oth.len;have h3:=hc.own.len;omega
     have CA:=kD (λ(C:World) (P:Below wr.heap.size wr C)=>all_s v x.g.b hb B1 B2 d1 d2 ea eb aa.1 aa.2 C (a6.out C P) (a5.out C P) a4.out a3.out);have CV:=kD (λ(C:World) (P:Below wr.heap.size wr C)=>(vals_s dn (by omega)).2 v x.g.b hb B1 B2 d1 d2 ea eb aa.1 aa.2 C (a6.out C P) (a5.out C P) a4.out a3.out);have cq:=kD (λ(C:World) (P:Below wr.heap.size wr C)=>luck_s v x.g.b hb B1 B2 d1 d2 ea eb aa.1 aa.2 dn cH C (a6.out C P) (a5.out C P) a4.out a3.out);obtain⟨LK,bp⟩:∃ z,luckP v dn x.g.b ea eb=z:=⟨_,rfl⟩;rw [bp] at cq;obtain⟨zs,bI⟩:∃ z,plsP v dn x.g.b ea eb=z:=⟨_,rfl⟩;rw [bI] at CV bg bc aY;obtain⟨ps,bS⟩:∃ ps,(allP v x.g.b ea eb).1=ps:=⟨_,rfl⟩;obtain⟨fb,b3⟩:∃ ps,(allP v x.g.b ea eb).2=ps:=⟨_,rfl⟩;rw [bS] at CA bc aX bR hq aG;rw [b3] at CA;obtain⟨LS,bo⟩:∃ z,grt zs - at_ zs q=z:=⟨_,rfl⟩;have cS:=kD (vdE_eq (L:=LS) (K:=LK) (v:=v) (d:=dn) (x:=x) (i:=k) (e:=⟨2,ea,eb,ss,er⟩) aT (by first | (rw [aY];exact bo) | rw [aY]) bp);have bE:=kD (λ(C:World) (u:Value) (E1 E2:Option Addr) (e1 e2:Nat) (hu:SlG RelP 3 enP C All u ps) (r1:RdS C C.heap.size 1 enI E1 c.1) (r2:RdS C C.heap.size 1 enI E2 c.2)=>find2_s ps c N B.2 aG hN B.1 u E1 E2 e1 e2 C.heap.size C (Nat.le_refl _) hu r1 r2);rw [hq] at bE;obtain⟨Ln,bn⟩:∃ l,zs.length=l:=⟨_,rfl⟩;have bF:=kD (λ(C:World) (A:Option Addr) (cp:Nat) (hr:RdS C C.heap.size 1 enI A zs)=>loss29 zs Ln bn q (by omega) bg A cp C hr);rw [bo] at bF;have cW:=kD bn;have ch:=kD (And.intro hN B.1);have K5:=HK.out.below aQ.out;have R7:=K5.r7;have R8:=K5.r8;obtain⟨y0,y1,y2,y3,y4,y5,y6,y7,y8,y9,aD,aC⟩:=row12 R8;have af:=R8.lt;clear bf aT hc hb aa B aX bg bc hq bR aY aG bp bI bS b3 bo bn hN K5 R7;go_upto_region 17 with fail;obtain⟨aA,ai⟩:∃ q,w5.heap.size=q:=⟨_,rfl⟩;refine wp_gen (λ W'=>Below w5.heap.size w5 W'∧RowB W' aA 28 [.slice B1 x.g.b.1.length d1,.slice B2 x.g.b.2.length d2]∧RowB W' (aA+1) 30 [.int .i64 ea,.int .i64 eb]) ⟨by go_grown,by rw [<-ai];exact(RowB.new _ _ _).alloc _,by exact RowB.new' _ _ _ (by rw [<-ai];simp)⟩ ?_
     try simp only [ai]
     rintro wa ⟨Q,W,V⟩;rw [<-ai] at Q;clear ai y0 y1 y2 y3 y4 y5 y6 y7 y8 y9 aD aC k0 k1 k2 k3 k4 af ae R8;have T:=aQ.out.trans (Q.mono aQ.out.size);have G:=G.below Q G.lt;have K:=HK.out.below T;obtain⟨z0,z1,z2,z3⟩:=K.r7.c4;obtain⟨k0,k1,k2,k3,k4⟩:=G.c5;obtain⟨a0,a1⟩:=W.c2;obtain⟨r0,r1⟩:=V.c2;have ag:=K.r7.lt;have ae:=G.lt;have aI:=W.lt;have aH:=V.lt;clear K Q;go_wp2_with fail;refine(CP.out wa T).mono ?_;rintro e wb ⟨v8,rfl,⟨u3,u4,c',cc,rfl,ad,b4,-⟩,aM⟩;obtain⟨b5,cJ⟩:=b4 c rfl;rw [b5] at ad;subst cJ;obtain⟨⟨E1,e1,rfl,s1,-⟩,⟨E2,e2,rfl,s2,-⟩⟩:=ad;rw [ch.out.1,ch.out.2];have cm:=kD (λ(C:World) (P:Below wb.heap.size wb C)=>(s1.keep (.below P)).rd);have cl:=kD (λ(C:World) (P:Below wb.heap.size wb C)=>(s2.keep (.below P)).rd);have bj:=T.trans (aM.mono T.size);have G:=G.below aM G.lt;have W:=W.below aM W.lt;have V:=V.below aM V.lt;clear s1 s2 b4 b5 aM T CP z0 z1 z2 z3 k0 k1 k2 k3 k4 a0 a1 r0 r1 ag ae aI aH;go_upto_region 18 with fail;obtain⟨b7,an⟩:∃ q,wb.heap.size=q:=⟨_,rfl⟩;refine wp_gen (λ W'=>Below wb.heap.size wb W'∧RowB W' b7 28 [.slice E1 N e1,.slice E2 N e2]) ⟨(Below.refl _ _).alloc (Nat.le_refl _) _,by rw [<-an];exact RowB.new _ _ _⟩ ?_
     try simp only [an]
     rintro wc ⟨ak,bw⟩;rw [<-an] at ak;clear an;have bD:=kD ak;have aN:=bj.trans (ak.mono bj.size);have G:=G.below ak G.lt;have W:=W.below ak W.lt;have V:=V.below ak V.lt;have K:=HK.out.below aN;obtain⟨z0,z1,z2,z3⟩:=K.r7.c4;obtain⟨a0,a1⟩:=W.c2;obtain⟨r0,r1⟩:=V.c2;have ag:=K.r7.lt;have aI:=W.lt;have aH:=V.lt;clear K ak bj;go_wp2_with fail;refine(CA.out wc aN).mono ?_;rintro e wd ⟨pv,rfl,bT,ad⟩;have HA:=kD ((relSl RelP 3 enP).weak (bT.sl enP_len (Nat.le_refl _)) (S':=All) (λ _ _ _=>trivial));have bC:=kD (bD.out.trans (ad.mono bD.out.size));have bi:=aN.trans (ad.mono aN.size);have a7:=kD (G.below ad G.lt);have J:=kD (W.below ad W.lt);have I:=kD (V.below ad V.lt);have ah:=kD (bw.below ad bw.lt);have aB:=kD (HK.out.below bi);have aP:=kD bi;clear bT ad aN bi bD G W V bw CA z0 z1 z2 z3 a0 a1 r0 r1 ag aI aH;go_upto_region 19 with fail;refine region_rel [some 74,some 75,some 76,some 77,some 78,some 79,some 80,some 81,some 82,some 17] 10 (Pl [some (.agg #[.int .i64 v.p,.int .i64 v.c,.int .i64 v.h,.int .i64 v.s]),some (.agg #[.slice B1 x.g.b.1.length d1,.slice B2 x.g.b.2.length d2]),some (.agg #[.int .i64 ea,.int .i64 eb]),some (.int .i64 (dn:Int)),none,some (pv),some (.agg #[.slice E1 N e1,.slice E2 N e2]),some (.int .i64 (q:Int)),some (.int .i64 LS),some (.int .i64 LS)]) (λ L a w'=>LuF wd zs (L 4) (a 4) w') (by kernel_rfl) (by kernel_rfl) (by kernel_rfl) (by kernel_rfl) (by kernel_rfl) (by kernel_rfl) (by first | kernel_rfl | rfl) ?g0_1 ?gst_1 ?gfin_1
     case g0_1=>exact⟨(Below.refl _ _).drew,λ h=>absurd h (by decide)⟩
     case gst_1 =>
      refine rN rfl (λ L a A C D E B U F K H=>?_) ?_
      ·have e7:=U.w 7 (.pointer (some ⟨g7,0,none⟩));have O:=aB.out.below F.bel;obtain⟨q0,q1,Z,Y⟩:=O.r7.c4;obtain⟨z0,z1⟩:=(J.out.below F.bel J.out.lt).c2;obtain⟨r0,r1⟩:=(I.out.below F.bel I.out.lt).c2;obtain⟨a0,a1⟩:=(ah.out.below F.bel ah.out.lt).c2;clear O;go_simp;exact pF H (F.skip 0 _)
      refine rN rfl (λ L a A C D E B U F K H=>?_) ?_
      ·have cR:=U.w 11 (.pointer (some ⟨aA,0,none⟩));have O:=aB.out.below F.bel;obtain⟨q0,q1,Z,Y⟩:=O.r7.c4;obtain⟨z0,z1⟩:=(J.out.below F.bel J.out.lt).c2;obtain⟨r0,r1⟩:=(I.out.below F.bel I.out.lt).c2;obtain⟨a0,a1⟩:=(ah.out.below F.bel ah.out.lt).c2;clear O;go_simp;exact pF H (F.skip 1 _)
      refine rN rfl (λ L a A C D E B U F K H=>?_) ?_
      ·have cQ:=U.w 12 (.pointer (some ⟨aA+1,0,none⟩));have O:=aB.out.below F.bel;obtain⟨q0,q1,Z,Y⟩:=O.r7.c4;obtain⟨z0,z1⟩:=(J.out.below F.bel J.out.lt).c2;obtain⟨r0,r1⟩:=(I.out.below F.bel I.out.lt).c2;obtain⟨a0,a1⟩:=(ah.out.below F.bel ah.out.lt).c2;clear O;go_simp;exact pF H (F.skip 2 _)
      refine rN rfl (λ L a A C D E B U F K H=>?_) ?_
      ·have e1:=U.w 1 (.int .i64 (dn:Int));go_simp;exact pF H (F.skip 3 _)
      refine rN rfl (λ L a A C D E B U F K H=>?_) ?_
      ·have dD:=U.v 0 74;have dC:=U.v 1 75;have dB:=U.v 2 76;have dA:=U.v 3 77;go_simp;refine(CV.out C (aP.out.trans (F.bel.mono aP.out.size))).mono ?_;rintro e w6 ⟨vv,rfl,h3,T⟩;exact H.out _ w6 (Pl.any rfl) (by simpa [upd] using F.s4 T h3)
      refine rN rfl (λ L a A C D E B U F K H=>?_) ?_
      ·have dF:=U.w 15 pv;go_simp;exact pF H (F.skip 5 _)
      refine rN rfl (λ L a A C D E B U F K H=>?_) ?_
      ·have bt:=U.w 13 (.pointer (some ⟨b7,0,none⟩));have O:=aB.out.below F.bel;obtain⟨q0,q1,Z,Y⟩:=O.r7.c4;obtain⟨z0,z1⟩:=(J.out.below F.bel J.out.lt).c2;obtain⟨r0,r1⟩:=(I.out.below F.bel I.out.lt).c2;obtain⟨a0,a1⟩:=(ah.out.below F.bel ah.out.lt).c2;clear O;go_simp;exact pF H (F.skip 6 _)
      refine rN rfl (λ L a A C D E B U F K H=>?_) ?_
      ·have dz:=U.v 5 79;have dy:=U.v 6 80;have pa:=(relSl RelP 3 enP).keep HA.out (.below F.bel);have BB:=bC.out.trans (F.bel.mono bC.out.size);go_simp;refine(bE.out C pv E1 E2 e1 e2 pa (cm.out C BB) (cl.out C BB)).mono ?_;rintro e w6 ⟨rfl,T⟩;exact pF H ((F.below T).skip 7 _)
      refine rN rfl (λ L a A C D E B U F K H=>?_) ?_
      ·have b8:=U.x 4 78;have dx:=U.v 7 81;have o4:=F.f4 (bK E 4);refine(o4.form enI_len).elim λ cZ q'=>?_
       refine q'.elim λ b9 q'=>?_
       have br:=q'.1;rw [cW.out] at br;have c3:=b8.trans br;clear b8 br;go_simp;refine(bF.out C cZ b9 q'.2).mono ?_;rintro e w6 ⟨rfl,T⟩;exact pF H ((F.below T).skip 8 _)
      refine rN rfl (λ L a A C D E B U F K H=>?_) ?_
      ·have dw:=U.v 8 82;go_simp;exact pF H (F.skip 9 _)
      exact RelFrom.nil (by decide)
     intro a we hp F;simp only [Fr,Act.put,sX,Nat.reduceAdd];have P:a 9=.int .i64 LS:=hp 9 (by decide) _ rfl;rw [P];have ay:=F.bel;have ac:=kD (aB.out.below ay);have a7:=kD (a7.out.below ay a7.out.lt);have J:=kD (J.out.below ay J.out.lt);have I:=kD (I.out.below ay I.out.lt);have cn:=kD (aP.out.trans (ay.mono aP.out.size));clear F hp P ay ah aB aP bC HA cm cl CV bE bF;go_upto_region 20 with fail;refine region_rel [some 83,some 84,some 85,some 86,some 87,some 88,some 89,some 90,some 91,some 92,some 93,some 94,some 95,some 96,some 6] 15 (Pl [some (u6),some (.int .i64 (k:Int)),some (.pointer (some ⟨g8,2,none⟩)),some (.pointer (some ⟨g8,4,none⟩)),some (.int .i64 x.g.pl),some (.int .i64 LS),some (.agg #[.int .i64 v.p,.int .i64 v.c,.int .i64 v.h,.int .i64 v.s]),some (.agg #[.slice B1 x.g.b.1.length d1,.slice B2 x.g.b.2.length d2]),some (.agg #[.int .i64 ea,.int .i64 eb]),some (.int .i64 (dn:Int)),some (.int .i64 LK),some (.agg #[.int .i64 (k:Int),.int .i64 x.g.pl,.int .i64 LS,.int .i64 LK]),none,none,none]) (λ L a w'=>VdF we (w.heap.size+1) u6 vs ((k:Int),x.g.pl,LS,LK) (L 12) (L 13) (L 14) (a 12) (a 13) (a 14) w') (by kernel_rfl) (by kernel_rfl) (by kernel_rfl) (by kernel_rfl) (by kernel_rfl) (by kernel_rfl) (by first | kernel_rfl | rfl) ?g0_2 ?gst_2 ?gfin_2
     case g0_2=>exact⟨λ _=>(Below.refl _ _).drew,λ h=>absurd h (by decide),λ h=>absurd h (by decide),λ h=>absurd h (by decide)⟩
     case gst_2 =>
      refine rN rfl (λ L a A C D E B U F K H=>?_) ?_
      ·have e6:A.tmps[6]?.getD undef=u6:=U.z 6 (λ j hl hj=>by obtain rfl:=nd_of _ (by kernel_rfl) j 14 6 hj rfl;exact D (B 14 0 (by kernel_rfl) hl));have m:=F.pre (λ h=>D (B 13 0 (by kernel_rfl) h));clear m;go_simp;exact pF H (F.skip 0 _)
      refine rN rfl (λ L a A C D E B U F K H=>?_) ?_
      ·have e9:=U.w 9 (.int .i64 (k:Int));have m:=F.pre (λ h=>D (B 13 1 (by kernel_rfl) h));clear m;go_simp;exact pF H (F.skip 1 _)
      refine rN rfl (λ L a A C D E B U F K H=>?_) ?_
      ·have e8:=U.w 8 (.pointer (some ⟨g8,0,none⟩));have m:=F.pre (λ h=>D (B 13 2 (by kernel_rfl) h));have O:=ac.out.below m;obtain⟨q0,q1,Z,Y⟩:=O.r7.c4;obtain⟨z0,z1⟩:=(J.out.below m J.out.lt).c2;obtain⟨r0,r1⟩:=(I.out.below m I.out.lt).c2;have yy:=(row12 O.r8).2.2.2.2.1;have af:=O.r8.lt;clear O m;go_simp;exact pF H (F.skip 2 _)
      refine rN rfl (λ L a A C D E B U F K H=>?_) ?_
      ·have dt:=U.v 2 85;have m:=F.pre (λ h=>D (B 13 3 (by kernel_rfl) h));have O:=ac.out.below m;obtain⟨q0,q1,Z,Y⟩:=O.r7.c4;obtain⟨z0,z1⟩:=(J.out.below m J.out.lt).c2;obtain⟨r0,r1⟩:=(I.out.below m I.out.lt).c2;have yy:=(row12 O.r8).2.2.2.2.1;have af:=O.r8.lt;clear O m;go_simp;exact pF H (F.skip 3 _)
      refine rN rfl (λ L a A C D E B U F K H=>?_) ?_
      ·have ds:=U.v 3 86;have m:=F.pre (λ h=>D (B 13 4 (by kernel_rfl) h));have O:=ac.out.below m;obtain⟨q0,q1,Z,Y⟩:=O.r7.c4;obtain⟨z0,z1⟩:=(J.out.below m J.out.lt).c2;obtain⟨r0,r1⟩:=(I.out.below m I.out.lt).c2;have yy:=(row12 O.r8).2.2.2.2.1;have af:=O.r8.lt;clear O m;go_simp;exact pF H (F.skip 4 _)
      refine rN rfl (λ L a A C D E B U F K H=>?_) ?_
      ·have dE:=U.w 17 (.int .i64 LS);have m:=F.pre (λ h=>D (B 13 5 (by kernel_rfl) h));clear m;go_simp;exact pF H (F.skip 5 _)
      refine rN rfl (λ L a A C D E B U F K H=>?_) ?_
      ·have e7:=U.w 7 (.pointer (some ⟨g7,0,none⟩));have m:=F.pre (λ h=>D (B 13 6 (by kernel_rfl) h));have O:=ac.out.below m;obtain⟨q0,q1,Z,Y⟩:=O.r7.c4;obtain⟨z0,z1⟩:=(J.out.below m J.out.lt).c2;obtain⟨r0,r1⟩:=(I.out.below m I.out.lt).c2;have yy:=(row12 O.r8).2.2.2.2.1;have af:=O.r8.lt;clear O m;go_simp;exact pF H (F.skip 6 _)
      refine rN rfl (λ L a A C D E B U F K H=>?_) ?_
      ·have cR:=U.w 11 (.pointer (some ⟨aA,0,none⟩));have m:=F.pre (λ h=>D (B 13 7 (by kernel_rfl) h));have O:=ac.out.below m;obtain⟨q0,q1,Z,Y⟩:=O.r7.c4;obtain⟨z0,z1⟩:=(J.out.below m J.out.lt).c2;obtain⟨r0,r1⟩:=(I.out.below m I.out.lt).c2;have yy:=(row12 O.r8).2.2.2.2.1;have af:=O.r8.lt;clear O m;go_simp;exact pF H (F.skip 7 _)
      refine rN rfl (λ L a A C D E B U F K H=>?_) ?_
      ·have cQ:=U.w 12 (.pointer (some ⟨aA+1,0,none⟩));have m:=F.pre (λ h=>D (B 13 8 (by kernel_rfl) h));have O:=ac.out.below m;obtain⟨q0,q1,Z,Y⟩:=O.r7.c4;obtain⟨z0,z1⟩:=(J.out.below m J.out.lt).c2;obtain⟨r0,r1⟩:=(I.out.below m I.out.lt).c2;have yy:=(row12 O.r8).2.2.2.2.1;have af:=O.r8.lt;clear O m;go_simp;exact pF H (F.skip 8 _)
      refine rN rfl (λ L a A C D E B U F K H=>?_) ?_
      ·have e1:=U.w 1 (.int .i64 (dn:Int));have m:=F.pre (λ h=>D (B 13 9 (by kernel_rfl) h));clear m;go_simp;exact pF H (F.skip 9 _)
      refine rN rfl (λ L a A C D E B U F K H=>?_) ?_
      ·have dp:=U.v 6 89;have dm:=U.v 7 90;have dl:=U.v 8 91;have dk:=U.v 9 92;have m:=F.pre (λ h=>D (B 13 10 (by kernel_rfl) h));go_simp;refine(cq.out C (cn.out.trans (m.mono cn.out.size))).mono ?_;rintro e w6 ⟨rfl,T⟩;exact pF H ((F.below (λ h=>D (B 13 10 (by kernel_rfl) h)) T).skip 10 _)
      refine rN rfl (λ L a A C D E B U F K H=>?_) ?_
      ·have dv:=U.v 1 84;have dr:=U.v 4 87;have dq:=U.v 5 88;have dj:=U.v 10 93;have m:=F.pre (λ h=>D (B 13 11 (by kernel_rfl) h));clear m;go_simp;exact pF H (F.skip 11 _)
      refine rN rfl (λ L a A C D E B U F K H=>?_) ?_
      ·have di:=U.v 11 94;go_simp;exact H.out _ _ (Pl.any rfl) (by simpa [upd,enI4] using F.s12 (λ h=>D (B 13 12 (by kernel_rfl) h)))
      refine rN rfl (λ L a A C D E B U F K H=>?_) ?_
      ·have cP:=U.v 0 83;have cO:=U.x 12 95;have m:=F.pre D;refine(F.f12 (bK E 12) D).elim λ cM bH=>?_
       have o9:=(ac.out.st.below m (Nat.le_refl _)).more m.size;refine wp_one _ _ _ rfl (w.heap.size+1) C.heap.size 55 iv (.agg #[.int .i64 0,.int .i64 0,.int .i64 0,.int .i64 0]) 4 32 Tryz.underlying51 cG cy cx cw rfl (by decide) enI4_len' u6 vs ((k:Int),x.g.pl,LS,LK) (one_Vd _) (ev cP) o9 cM 1 55 ((ev cO).trans bH.1) bH.2 (by unfold maxLen;omega) (by omega) (by have:=m.size;have:=ac.out.k.bel.size;have:=ac.out.lo;have:=ac.out.r7.lt;omega) ?_;intro dg b9 ct bU b0 bl cD;exact H.out _ ct (Pl.any rfl) (by simpa [upd] using F.s13 (λ h=>D (B 14 13 (by kernel_rfl) h)) bU (below_grown m b0) (bl.imp id (λ h=>by have:=m.size;omega)))
      refine rN rfl (λ L a A C D E B U F K H=>?_) ?_
      ·have dh:=U.x 13 96;go_simp;exact H.out _ C (Pl.any rfl) (by simpa [upd] using F.s14)
      exact RelFrom.nil (by decide)
     intro a C hp F;simp only [Fr,Act.put,sX,Nat.reduceAdd];obtain⟨df,c9,dG,bt,ho,hg,b6⟩:=F.f13 trivial;have bs:=F.f14 trivial;rw [bt] at bs ho;clear F hp bt;rw [bs];have K9:=kD (ac.out.app ho hg b6);have bM:=HK.out.st.block;have G:=a7.out.grown hg (λ r hr=>by have:=bM r hr;have:=bb.out;omega);have hR:Hid (vs++[((k:Int),x.g.pl,LS,LK)]=vs++(if (2:Int)=2 then [vdE v dn x k ⟨2,ea,eb,ss,er⟩] else [])):=by
      show _=_
      rw [if_pos rfl,cS.out]
     clear ho hg b6 bM bs;go_wp2_with fail;go_meet;exact⟨_,hR,K9,G⟩
    | false =>
     have h2:¬ ek=2:=by simpa using HT.out
     have hR:Hid (vs=vs++(if ek=2 then [vdE v dn x k ⟨ek,ea,eb,ss,er⟩] else [])):=by
      show _=_
      rw [if_neg h2,List.append_nil]
     have K5:=HK.out.below aQ.out;clear h2;go_wp2_with fail;go_meet;exact⟨vs,hR,kD K5,G⟩
   case rest =>
    clear aE HT;obtain⟨av,hv,cj,G⟩:=hcut;have K:=cj.out;have bN:=K.st.block;have cz:av.length<=k+1:=by
     rw [hv.out,List.length_append];have:(if ek=2 then [vdE v dn x k ⟨ek,ea,eb,ss,er⟩] else ([]:List V4)).length<=1:=by split <;> simp
     omega
    have cT:Hid (a2=av++vdGo v n dn y (es.drop (k+1)) (k+1)):=by
     show _=_
     rw [bB.out,hv.out]
    clear k0 k1 k2 k3 k4 ae bB bx HG bz cf a6 a5 a4 a3 HK hv aQ bb cj;obtain⟨q0,q1,Z,Y,q4,q5⟩:=(K.k.nth0 0 rfl).c6;obtain⟨z0,z1,z2,z3⟩:=K.r7.c4;obtain⟨y0,y1,y2,y3,y4,y5,y6,y7,y8,y9,aD,aC⟩:=row12 K.r8;obtain⟨k0,k1,k2,k3,k4⟩:=G.c5;have X:=(K.k.nth0 0 rfl).lt;have ag:=K.r7.lt;have af:=K.r8.lt;have ae:=G.lt;go_wp2_with fail;refine(CN.out _ K.k.bel _ K.ms).mono ?_;rintro e aR ⟨v6,rfl,⟨B3,m3,f3,B4,m4,f4,B5,m5,f5,y',rfl,aF⟩,aq⟩;obtain⟨bJ,aw⟩:=aF _ rfl;rw [bJ];have cA:=aq.size;have K:=K.below aq;have G:=G.below aq G.lt;have am:=kD (aw.weak (S':=λ b=>NotIn u6 (w.heap.size+1) b∧b≠g8) (λ b h hl=>by
     have h:=h.elim False.elim id;exact⟨⟨λ e=>by have:=bN b e;omega,by omega⟩,by omega⟩))
    clear aw aF bJ CN q0 q1 Z Y q4 q5 z0 z1 z2 z3 y0 y1 y2 y3 y4 y5 y6 y7 y8 y9 aD aC k0 k1 k2 k3 k4 X ag af ae bN cA;simp only [msC];go_upto_region 22 with fail;refine wp_gen (λ W'=>Below aR.heap.size aR W'∧RowB W' aR.heap.size 59 (msC (.slice B3 m3 f3) (.slice B4 m4 f4) (.slice B5 m5 f5) y)) ⟨(Below.refl _ _).alloc (Nat.le_refl _) _,RowB.new _ _ _⟩ ?_;obtain⟨de,aK⟩:∃ q,aR.heap.size=q:=⟨_,rfl⟩
    try simp only [aK]
    rintro c8 ⟨ap,bv⟩;rw [<-aK] at ap;clear aK aq;have K:=K.below ap;have am:=kD (am.out.below ap);obtain⟨y0,y1,y2,y3,y4,y5,y6,y7,y8,y9,aD,aC⟩:=row12 bv;have bV:=bv.lt;have R8:=K.r8;have da:IntKind.i64.wrap ((k:Int)+1)=(k:Int)+1:=IntWalk.i64_in _ (by omega);clear ap G;go_upto_region 12 with (first | (refine wM 59 0 (msC (.slice B3 m3 f3) (.slice B4 m4 f4) (.slice B5 m5 f5) y) R8 ?_;intro c7 bG a9 cr));have K2:=kD (K.put bG a9 am.out);clear y0 y1 y2 y3 y4 y5 y6 y7 y8 y9 aD aC bV R8 bv bG a9 cr K am;go_wp2_with fail;go_roundw
    case rel=>exact⟨k+1,y,_,_,_,av,by first | rfl | go_num,by omega,cz,K2,cU,ck,cT⟩
    case measure=>simp [intOf];omega
  ·obtain rfl:M=k:=by omega
   have cK:a2=vs:=by rw [hQ.out,<-HM.out,vdGo_end,List.append_nil]
   subst cK;have al:=K.k.bel;have bL:=K.st;clear hQ az bq K HK rm;go_wp2_with fail;refine bodyPost_ret (v:=.tuple #[u6,.int .i64 0]) (by simp [results,Tryz.results16,go_sem]) rfl ?_;exact⟨_,rfl,by first | exact bL.less (Nat.le_succ _) | (rw [cg.out];exact bL.less (Nat.le_succ _)),al⟩
end VdP
end Go.Proofs.YtmncnhbjifeoeaaGreat
