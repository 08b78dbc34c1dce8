/- Parts of the proof of FnExactReviewMatch. Conditions: each theorem's own. -/
import Derived.Test.YtmncnhbjifeoeaaGreatQ33
import Derived.Test.YtmncnhbjifeoeaaGreatQ34
import Derived.Laws.DeepStrings4
import Derived.Deep.CutBlock
set_option linter.unusedVariables false
set_option linter.unusedSimpArgs false
set_option maxHeartbeats 8000000
set_option maxRecDepth 100000
namespace Go.Proofs.YtmncnhbjifeoeaaGreat
namespace VdP
open Go Go.ChangeShapes Go.WideShapes Go.ChangeAt Go.RowKit Base Ints Own RelG PlP TxP Gm HmP RegInv RegF RegG Bd1 Bd5 Bd22 Bd23 Bd24 Bd11 Bd27 Bd29 Bd31 Bd32
theorem stGo_at {v:Vr} {n:Int} {es:List Ev} {k:Nat} {e:Ev} {x:Ms} {xs:List Ms} (h:es[k]?=some e) (hs:stGo v n x (es.drop k)=some (xs.drop k)) :
  xs[k]?=some x∧∃ y,nextS v n x e=some y∧stGo v n y (es.drop (k+1))=some (xs.drop (k+1)):=by
 rw [stGo_drop x h] at hs
 cases hy:nextS v n x e with
 | none=>rw [hy] at hs;cases hs
 | some y =>
  rw [hy] at hs;simp only at hs
  cases hr:stGo v n y (es.drop (k+1)) with
  | none=>rw [hr] at hs;cases hs
  | some r =>
   rw [hr] at hs;simp only [Option.map_some,Option.some.injEq] at hs;have b:xs[k]?=some x:=by
    have:=congrArg (λ l=>l[0]?) hs
    simpa using this.symm
   refine⟨b,y,rfl,?_⟩;have a:=congrArg List.tail hs;simp only [List.tail_cons,List.tail_drop] at a;rw [hr,a]
theorem stGo_len {v:Vr} {n:Int}:∀(es:List Ev) (x:Ms) (xs:List Ms),stGo v n x es=some xs->xs.length=es.length+1:=by
 intro es
 induction es with
 | nil=>intro x xs h;simp only [stGo,Option.some.injEq] at h;subst h;rfl
 | cons e es ih =>
  intro x xs h;simp only [stGo] at h
  cases hy:nextS v n x e with
  | none=>rw [hy] at h;cases h
  | some y =>
   rw [hy] at h;simp only at h
   cases hr:stGo v n y es with
   | none=>rw [hr] at h;cases h
   | some r =>
    rw [hr] at h;simp only [Option.map_some,Option.some.injEq] at h;subst h;simp only [List.length_cons,ih y r hr]
theorem rv_i (v:Vr) (n:Int) (es:List Ev) (Ae:Option Addr) (ce:Nat) (d:Int) (w:World) (hes:EvL w All Ae es) (R:List V4 × Int) (hR:rvR v n es d=R) :
  Calls Tryz.prog 15 #[.agg #[.int .i64 v.p,.int .i64 v.c,.int .i64 v.h,.int .i64 v.s,.int .i64 n,.slice Ae es.length ce],.int .i64 d] w λ f w'=>∃ uo,f=.returned (.tuple #[uo,.int .i64 R.2])∧OwnS w' w.heap.size w'.heap.size 55 4 enI4 uo R.1∧Below w.heap.size w w':=by
 obtain⟨iv,cf,b5,b4,b3⟩:=info_parts infoVd;obtain⟨X,hX⟩:∃ X,statesP v n es=X:=⟨_,rfl⟩;have CI:=kD (λ(C:World) (J:Below w.heap.size w C)=>states_i v n es Ae ce C (hes.keep (.below J)) X hX);obtain⟨z,hz⟩:∃ z,codeT v X.isSome true d=z:=⟨_,rfl⟩;have CT:=kD (λ(C:World)=>tutor_i v X.isSome true d z hz C);have bI:R=if z=0 then (vdGo v n d.toNat (startS v) es 0,0) else ([],z):=by rw [<-hR];unfold rvR;rw [<-states_fin,hX,hz]
 have ci:=hes.len;have cB:=kD hes;obtain⟨M,hM⟩:∃ M,es.length=M:=⟨_,rfl⟩;rw [hM] at ci CI ⊢;have HM:=kD hM;have bn:=kD bI;have HX:=kD hX;have HZ:=kD hz;clear hes hM hX hz hR bI;go_enter Tryz.func15,Tryz.ntmps15;go_upto_region 1 with fail;refine wp_gen (λ W'=>Gm.Rows w W' [(0,48,[.int .i64 v.p,.int .i64 v.c,.int .i64 v.h,.int .i64 v.s,.int .i64 n,.slice Ae M ce])]) ⟨by go_grown,λ p hp=>?_⟩ ?_
 ·obtain rfl:=List.mem_singleton.1 hp;exact RowB.new _ _ _
 intro w1 K;have rm:=K.nth0 0 rfl;obtain⟨q0,q1,q2,q3,q4,q5⟩:=rm.c6;have ac:=rm.lt;go_wp2_with fail;refine(CI.out w1 K.bel).mono ?_;rintro e w2 ⟨A,m,c,rfl,az,hb⟩;have K:=K.below hb;clear CI q0 q1 q2 q3 q4 q5 ac rm;have rm:=K.nth0 0 rfl;obtain⟨q0,q1,q2,q3,q4,q5⟩:=rm.c6;have ac:=rm.lt;go_upto_region 3 with fail;obtain⟨g8,aL⟩:∃ q,w2.heap.size=q:=⟨_,rfl⟩;refine wp_gen (λ W'=>Below w2.heap.size w2 W'∧RowB W' g8 25 (vL v)) ⟨(Below.refl _ _).alloc (Nat.le_refl _) _,by rw [<-aL];exact RowB.new _ _ _⟩ ?_
 try simp only [aL]
 rintro w3 ⟨aE,R8⟩;rw [<-aL] at aE;have b7:=hb.size;have b8:=K.bel.size;have K:=K.below aE;have aT:=kD (λ l h=>((az l h).below aE (Nat.le_refl _)).more aE.size);clear hb aE aL az q0 q1 q2 q3 q4 q5 ac rm;have rm:=K.nth0 0 rfl;obtain⟨q0,q1,q2,q3,q4,q5⟩:=rm.c6;have ac:=rm.lt;obtain⟨z0,z1,z2,z3⟩:=R8.c4;have aA:=R8.lt;go_wp2_with fail;refine(CT.out w3).mono ?_;rintro e w4 ⟨rfl,hb⟩;have K:=K.below hb;have R8:=R8.below hb R8.lt;have aS:=kD (λ l h=>((aT.out l h).below hb (Nat.le_refl _)).more hb.size);clear CT q0 q1 q2 q3 q4 q5 ac rm z0 z1 z2 z3 aA hb aT;have rm:=K.nth0 0 rfl;obtain⟨q0,q1,q2,q3,q4,q5⟩:=rm.c6;have ac:=rm.lt;by_cases h0:z=0
 case neg =>
  have cJ:(z != 0)=true:=by simp [h0]
  have av:=bn.out;rw [if_neg h0] at av;subst av;have bh:=K.bel;clear K h0 q0 q1 q2 q3 q4 q5 ac rm;refine kD ?_
  repeat (first | go_values | go_skip | go_step | go_upon)
  refine bodyPost_ret (v:=.tuple #[.slice none 0 0,.int .i64 z]) (by simp [results,Tryz.results15,go_sem]) rfl ?_;exact⟨_,rfl,OwnS.nil_ _ _ _ _ _ _,bh⟩
 case pos =>
 subst h0;have av:=bn.out;rw [if_pos rfl] at av;have hz:=HZ.out;unfold codeT at hz;have b6:∃ xs,X=some xs:=by
  cases X with
  | none=>rw [if_pos (by rfl)] at hz;cases hz
  | some xs=>exact⟨xs,rfl⟩
 obtain⟨xs,rfl⟩:=b6;simp only [Option.isSome_some,Bool.true_eq_false,if_false,Bool.and_true] at hz
 try simp only [Option.isSome_some]
 have bF:0<=d∧d<=1:=by
  apply Decidable.byContradiction
  intro h;rw [if_pos (by simpa using h)] at hz
  cases hz
 rw [if_neg (by simpa using bF)] at hz;have aJ:smV v=true:=by
  cases h:smV v with
  | true=>rfl
  | false=>rw [if_pos h] at hz;cases hz
 have bs:v.p<=6:=by
  unfold smV at aJ;simp only [Bool.and_eq_true,decide_eq_true_eq] at aJ;exact aJ.2.1
 have ap:=HX.out;have aV:(finS v n es).isSome=true:=by rw [<-states_fin,ap];rfl
 have aq:=fin_parts aV;have cN:M<=300:=by rw [<-HM.out];exact aq.2
 have cA:=kD (show 1<=n∧n<=25 from(head_parts aq.1).2.2);have cy:=kD (start_ms aq.1);unfold statesP at ap;rw [if_neg (λ h=>h.elim (λ h=>by rw [aq.1] at h;cases h) (λ h=>by have:=aq.2;omega))] at ap;have aY:=stGo_len _ _ _ ap;rw [HM.out] at aY;have cp:Hid (stGo v n (startS v) (es.drop 0)=some (xs.drop 0)):=ap;obtain⟨dn,rfl⟩:∃ q:Nat,d=(q:Int):=⟨d.toNat,by omega⟩;have bE:dn<=1:=by omega
 rw [Int.toNat_natCast] at av;subst av;have HO:Hid (vdGo v n dn (startS v) es 0=[]++vdGo v n dn (startS v) (es.drop 0) 0):=rfl;obtain⟨aG,ao⟩:∃ o,vdGo v n dn (startS v) es 0=o:=⟨_,rfl⟩;rw [ao] at HO;have bO:=kD ao
 try simp only [ao]
 obtain⟨rs,al,be⟩:=aS.out xs rfl;have ai:rs.length=M+1:=by rw [be.1,aY]
 obtain⟨r0,bx⟩:∃ r,rs[0]?=some r:=⟨rs[0]'(by omega),List.getElem?_eq_getElem _⟩;obtain⟨S,cs,ay,-,-⟩:=own_row enMs_len al bx;obtain⟨A',c',bb,-⟩:=al.form enMs_len;rw [ai] at bb;simp only [Value.slice.injEq] at ay bb;obtain⟨rfl,-,rfl⟩:=ay;obtain⟨-,rfl,-⟩:=bb;have cx:=kD al;have cz:=kD be;have cw:=kD ai;have HK:=kD K;have H8:=kD R8;have cK:w.heap.size+1<=w4.heap.size:=ac;clear bx al be ai aS aY ap aq aV aJ hz bF HZ HX bn ao b8 b7;go_wp2_with fail;clear q0 q1 q2 q3 q4 q5 ac rm K R8;go_loopw [10,11,12,13,14,15,16,17,18,36] (λ b2 _ _ _ _ _ _ _ _ aX wr=>∃(k:Nat) (x:Ms) (vs:List V4),aX=.int .i64 (k:Int)∧k<=M∧vs.length<=k∧Hid (Below w4.heap.size w4 wr)∧Hid (OwnS wr w4.heap.size wr.heap.size 55 4 enI4 b2 vs)∧Hid (MsOk v n k x)∧Hid (stGo v n x (es.drop k)=some (xs.drop k))∧Hid (aG=vs++vdGo v n dn x (es.drop k) k)) (λ _ _ _ _ _ _ _ _ _ aX _=>M - (intOf aX).toNat)
 case atStart=>exact⟨0,startS v,[],by first | rfl | trivial,Nat.zero_le _,Nat.le_refl _,Below.refl _ _,OwnS.nil_ _ _ _ _ _ _,cy,cp,HO⟩
 case round =>
  obtain⟨k,x,vs,rfl,cM,cH,HB,aQ,aF,bj,hQ⟩:=hrel;by_cases hlt:k<M
  ·obtain⟨ba,oa,e,As,cq,rfl,bg,T,bt,ca,cb,cc,cd,aP⟩:=cB.out.at_ (i:=k) (by rw [HM.out];exact hlt);obtain⟨bq,y,hy,aU⟩:=stGo_at bg bj.out;have ar:=HK.out.bel.trans (HB.out.mono HK.out.bel.size);have ca:=(ar.cell (p:=⟨ba,oa+k*5,none⟩) T).trans ca;have cb:=(ar.cell (p:=⟨ba,oa+k*5+1,none⟩) T).trans cb;have cc:=(ar.cell (p:=⟨ba,oa+k*5+2,none⟩) T).trans cc;have cd:=(ar.cell (p:=⟨ba,oa+k*5+3,none⟩) T).trans cd;have aP:=(ar.cell (p:=⟨ba,oa+k*5+4,none⟩) T).trans aP;have T:=Nat.lt_of_lt_of_le T ar.size;have aW:=kD aU;have bQ:=kD (next_ms cA.out.1 aF.out hy);have aH:Hid (aG=(vs++(if e.k=2 then [vdE v dn x k e] else []))++vdGo v n dn y (es.drop (k+1)) (k+1)):=by
    show _=_
    rw [hQ.out,vdGo_drop bg hy k,List.append_assoc]
   have bL:=kD (λ h2:e.k=2=>turn_facts aF.out.gm h2 hy);have HG:=kD (gm_parts aF.out.gm);have bM:=kD (λ(C:World) (J:Below w.heap.size w C)=>(bt.keep (.below J)).rd);obtain⟨r,bc⟩:∃ r,rs[k]?=some r:=⟨rs[k]'(by rw [cw.out];omega),List.getElem?_eq_getElem _⟩;obtain⟨su,u1,u2,x'⟩:=r;obtain⟨x2,aZ,br,aK⟩:=cz.out.at_ bc;rw [bq] at aZ;simp only at br aK;subst br;obtain rfl:=Option.some.inj aZ;obtain⟨g',db,ay,bD,an⟩:=own_row enMs_len cx.out bc;simp only [Value.slice.injEq,Option.some.injEq,Addr.mk.injEq,and_true] at ay;obtain⟨rfl,-,-⟩:=ay;have bf:=bD.2;have G:=λ(j:Nat) (u:Value) (hu:(enMs (su,u1,u2,x))[j]?=some u)=>(HB.out.cell (p:=⟨S,k*12+j,none⟩) bf).trans (an j u hu)
   obtain⟨-,⟨B1,d1,rfl,bw,bC⟩,⟨B2,d2,rfl,bv,bB⟩⟩:=id aK;have y2:wr.cell? ⟨S,k*12+2,none⟩=some (.slice B1 x.g.b.1.length d1):=G 2 _ rfl;have y3:wr.cell? ⟨S,k*12+3,none⟩=some (.slice B2 x.g.b.2.length d2):=G 3 _ rfl;have y4:wr.cell? ⟨S,k*12+4,none⟩=some (.int .i64 x.g.pl):=G 4 _ rfl;have y5:wr.cell? ⟨S,k*12+5,none⟩=some (.int .i64 x.g.x):=G 5 _ rfl;have y6:wr.cell? ⟨S,k*12+6,none⟩=some (.int .i64 x.g.y):=G 6 _ rfl;have y7:wr.cell? ⟨S,k*12+7,none⟩=some (.int .i64 x.g.ph):=G 7 _ rfl;have y8:wr.cell? ⟨S,k*12+8,none⟩=some (.int .i64 x.g.wn):=G 8 _ rfl;have y9:wr.cell? ⟨S,k*12+9,none⟩=some (.int .i64 x.g.rs):=G 9 _ rfl;have aI:wr.cell? ⟨S,k*12+10,none⟩=some (.int .i64 x.g.tn):=G 10 _ rfl;have Y:S<wr.heap.size:=Nat.lt_of_lt_of_le bf HB.out.size;have co:=kD (λ(C:World) (J:Below wr.heap.size wr C)=>(⟨(J.cell (p:=⟨S,k*12+2,none⟩) Y).trans y2,(J.cell (p:=⟨S,k*12+3,none⟩) Y).trans y3,(J.cell (p:=⟨S,k*12+4,none⟩) Y).trans y4,(J.cell (p:=⟨S,k*12+5,none⟩) Y).trans y5,(J.cell (p:=⟨S,k*12+6,none⟩) Y).trans y6,(J.cell (p:=⟨S,k*12+7,none⟩) Y).trans y7,(J.cell (p:=⟨S,k*12+8,none⟩) Y).trans y8,(J.cell (p:=⟨S,k*12+9,none⟩) Y).trans y9,(J.cell (p:=⟨S,k*12+10,none⟩) Y).trans aI⟩:C.cell? ⟨S,k*12+2,none⟩=some (.slice B1 x.g.b.1.length d1)∧C.cell? ⟨S,k*12+3,none⟩=some (.slice B2 x.g.b.2.length d2)∧C.cell? ⟨S,k*12+4,none⟩=some (.int .i64 x.g.pl)∧C.cell? ⟨S,k*12+5,none⟩=some (.int .i64 x.g.x)∧C.cell? ⟨S,k*12+6,none⟩=some (.int .i64 x.g.y)∧C.cell? ⟨S,k*12+7,none⟩=some (.int .i64 x.g.ph)∧C.cell? ⟨S,k*12+8,none⟩=some (.int .i64 x.g.wn)∧C.cell? ⟨S,k*12+9,none⟩=some (.int .i64 x.g.rs)∧C.cell? ⟨S,k*12+10,none⟩=some (.int .i64 x.g.tn)));have cC:=kD aK.2;have bX:=kD (λ(C:World) (J:Below w4.heap.size w4 C)=>(bw.keep (.below J)).rd);have bW:=kD (λ(C:World) (J:Below w4.heap.size w4 C)=>(bv.keep (.below J)).rd);have bS:=kD bC;have bR:=kD bB;have aR:=kD (H8.out.below HB.out H8.out.lt);have cL:(k:Int)<((M+1:Nat):Int):=by omega
   have cG:IntKind.i64.wrap ((k:Int)+1)=(k:Int)+1:=IntWalk.i64_in _ (by omega);obtain⟨ek,ea,eb,ss,er⟩:=e;simp only at ca cb cc cd aP bL aH bM;obtain⟨sl,a9⟩:∃ q,ss.length=q:=⟨_,rfl⟩;rw [a9] at cd;have cr:=kD a9;clear bg hy aU a9 bt hQ aF bj bw bv bC bB aK bq aZ bc an G bD y2 y3 y4 y5 y6 y7 y8 y9 aI bf;go_upto_region 10 with fail;obtain⟨cl,ab⟩:∃ q,wr.heap.size=q:=⟨_,rfl⟩;refine wp_gen (λ W'=>Below wr.heap.size wr W'∧RowB W' cl 63 [.int .i64 ek,.int .i64 ea,.int .i64 eb,.slice As sl cq,.int .i64 er]) ⟨(Below.refl _ _).alloc (Nat.le_refl _) _,by rw [<-ab];exact RowB.new _ _ _⟩ ?_
   try simp only [ab]
   rintro w5 ⟨af,ag⟩;rw [<-ab] at af;clear ab ca cb cc cd aP T;obtain⟨k0,k1,k2,k3,k4⟩:=ag.c5;have aC:=ag.lt;by_cases h2:ek=2
   ·subst h2;obtain⟨ai,c,bd,hc⟩:=bL.out rfl;have hb:=HG.out.1;have ax:(1<=ea∧ea<=6)∧(1<=eb∧eb<=6):=by
     have h:=ai;unfold rollB at h;simp only [Bool.and_eq_true,decide_eq_true_eq] at h;have:=hb.v1;omega
    have CP:=kD (λ(C:World) (J:Below w4.heap.size w4 C)=>play_i v x.g.b hb _ _ _ ea eb ai ss As cq C.heap.size C (Nat.le_refl _) (cC.out.below J) (bM.out C (HK.out.bel.trans (J.mono HK.out.bel.size))));rw [cr.out,bd] at CP;obtain⟨N,hN⟩:∃ N:Nat,c.1.length=N:=⟨_,rfl⟩;have t:c.2.length=N:=by have:=hc.own.len;have:=hc.oth.len;omega
    obtain⟨LK,bk⟩:∃ z,luckP v dn x.g.b ea eb=z:=⟨_,rfl⟩;obtain⟨LF,bl⟩:∃ z,lossF v dn x.g.b ea eb c=z:=⟨_,rfl⟩;have bY:=kD (λ(C:World) (J:Below w4.heap.size w4 C)=>luckOf_i v x.g.b hb bs B1 B2 d1 d2 ea eb ax.1 ax.2 dn bE C (bX.out C J) (bW.out C J) bS.out bR.out);rw [bk] at bY;have aw:=kD (λ(C:World) (J:Below w4.heap.size w4 C) (E1 E2:Option Addr) (e1 e2:Nat) (r1:RdS C C.heap.size 1 enI E1 c.1) (r2:RdS C C.heap.size 1 enI E2 c.2)=>lossOf_i v x.g.b hb bs B1 B2 d1 d2 ea eb ax.1 ax.2 c hc E1 E2 e1 e2 dn bE C (bX.out C J) (bW.out C J) bS.out bR.out r1 r2);rw [hN,t,bl] at aw;obtain⟨LS,cE⟩:=LF;simp only at aw;have bJ:=kD (vdE_eq (L:=LS) (K:=LK) (v:=v) (d:=dn) (x:=x) (i:=k) (e:=⟨2,ea,eb,ss,er⟩) bd (by rw [bl]) bk);have bP:=kD (And.intro hN t);obtain⟨y2,y3,y4,y5,y6,y7,y8,y9,aI⟩:=co.out w5 af;have Y:=Nat.lt_of_lt_of_le Y af.size;clear ai bd hc hb ax t bk bl hN;go_upto_region 13 with fail;obtain⟨ak,ad⟩:∃ q,w5.heap.size=q:=⟨_,rfl⟩;refine wp_gen (λ W'=>Below w5.heap.size w5 W'∧RowB W' ak 57 (gmC (.slice B1 x.g.b.1.length d1) (.slice B2 x.g.b.2.length d2) x.g)∧RowB W' (ak+1) 30 [.int .i64 ea,.int .i64 eb]) ⟨by go_grown,by rw [<-ad];exact(RowB.new _ _ _).alloc _,by exact RowB.new' _ _ _ (by rw [<-ad];simp)⟩ ?_
    try simp only [ad]
    rintro wa ⟨T,W,V⟩;rw [<-ad] at T;clear ad y2 y3 y4 y5 y6 y7 y8 y9 aI k0 k1 k2 k3 k4 aC Y;have H:=af.trans (T.mono af.size);have aD:=HB.out.trans (H.mono HB.out.size);have ag:=ag.below T ag.lt;have R8:=aR.out.below H aR.out.lt;obtain⟨z0,z1,z2,z3⟩:=R8.c4;obtain⟨k0,k1,k2,k3,k4⟩:=ag.c5;obtain⟨a0,a1,a2,a3,a4,a5,a6,a7,a8⟩:=row9 W;obtain⟨r0,r1⟩:=V.c2;have aA:=R8.lt;have aC:=ag.lt;have P:=W.lt;have aB:=V.lt;clear T;go_wp2_with fail;refine(CP.out wa aD).mono ?_;rintro e wb ⟨v8,rfl,⟨u3,u4,c',rfl,ae,bG⟩,aM⟩;have bH:=bG c rfl;rw [bH] at ae;obtain⟨⟨E1,e1,rfl,s1,-⟩,⟨E2,e2,rfl,s2,-⟩⟩:=ae;rw [bP.out.1,bP.out.2];have bU:=kD (λ(C:World) (J:Below wb.heap.size wb C)=>(s1.keep (.below J)).rd);have bT:=kD (λ(C:World) (J:Below wb.heap.size wb C)=>(s2.keep (.below J)).rd);have H:=H.trans (aM.mono H.size);have W:=W.below aM W.lt;have V:=V.below aM V.lt;clear s1 s2 bG bH aM aD CP z0 z1 z2 z3 k0 k1 k2 k3 k4 a0 a1 a2 a3 a4 a5 a6 a7 a8 r0 r1 aA aC P aB R8 ag;go_upto_region 14 with fail;obtain⟨ck,am⟩:∃ q,wb.heap.size=q:=⟨_,rfl⟩;refine wp_gen (λ W'=>Below wb.heap.size wb W'∧RowB W' ck 28 [.slice E1 N e1,.slice E2 N e2]) ⟨(Below.refl _ _).alloc (Nat.le_refl _) _,by rw [<-am];exact RowB.new _ _ _⟩ ?_
    try simp only [am]
    rintro wc ⟨aj,bm⟩;rw [<-am] at aj;clear am;have H:=H.trans (aj.mono H.size);have aD:=HB.out.trans (H.mono HB.out.size);have W:=W.below aj W.lt;have V:=V.below aj V.lt;have R8:=aR.out.below H aR.out.lt;obtain⟨z0,z1,z2,z3⟩:=R8.c4;obtain⟨a0,a1,a2,a3,a4,a5,a6,a7,a8⟩:=row9 W;obtain⟨r0,r1⟩:=V.c2;obtain⟨b0,b1⟩:=bm.c2;have aA:=R8.lt;have P:=W.lt;have aB:=V.lt;have bA:=bm.lt;have aw:=kD (aw.out wc aD E1 E2 e1 e2 (bU.out wc aj) (bT.out wc aj));clear aj bU bT;go_wp2_with fail;refine aw.out.mono ?_;rintro e wd ⟨rfl,ae⟩;have H:=H.trans (ae.mono H.size);have E:=kD (W.below ae W.lt);have aa:=kD (V.below ae V.lt);have Z:=kD (R8.below ae R8.lt);have ah:=kD (HB.out.trans (H.mono HB.out.size));have bN:=kD ((aQ.out.below H (Nat.le_refl _)).more H.size);have dc:=kD H;clear ae H aD aw W V bm R8 z0 z1 z2 z3 a0 a1 a2 a3 a4 a5 a6 a7 a8 r0 r1 b0 b1 aA P aB bA;go_upto_region 15 with fail;refine region_rel [some 74,some 75,some 76,some 77,some 78,some 79,some 80,some 81,some 82,some 83,some 84,some 85,some 86,some 87,some 10] 15 (Pl [some (u10),some (.int .i64 (k:Int)),some (.pointer (some ⟨ak,2,none⟩)),some (.int .i64 x.g.pl),some (.int .i64 LS),some (.agg #[.int .i64 v.p,.int .i64 v.c,.int .i64 v.h,.int .i64 v.s]),some (.pointer (some ⟨ak,0,none⟩)),some (.agg #[.slice B1 x.g.b.1.length d1,.slice B2 x.g.b.2.length d2]),some (.agg #[.int .i64 ea,.int .i64 eb]),some (.int .i64 (dn:Int)),some (.int .i64 LK),some (.agg #[.int .i64 (k:Int),.int .i64 x.g.pl,.int .i64 LS,.int .i64 LK]),none,none,none]) (λ L D w'=>VdF wd w4.heap.size u10 vs ((k:Int),x.g.pl,LS,LK) (L 12) (L 13) (L 14) (D 12) (D 13) (D 14) w') (by kernel_rfl) (by kernel_rfl) (by kernel_rfl) (by kernel_rfl) (by kernel_rfl) (by kernel_rfl) (by first | kernel_rfl | rfl) ?g0_1 ?gst_1 ?gfin_1
    case g0_1=>exact⟨λ _=>(Below.refl _ _).drew,λ h=>absurd h (by decide),λ h=>absurd h (by decide),λ h=>absurd h (by decide)⟩
    case gst_1 =>
     refine rN rfl (λ L D A C B I t U F K Q=>?_) ?_
     ·have c8:A.tmps[10]?.getD undef=u10:=U.z 10 (λ j hl hj=>by obtain rfl:=nd_of _ (by kernel_rfl) j 14 10 hj rfl;exact B (t 14 0 (by kernel_rfl) hl));have a:=F.pre (λ h=>B (t 13 0 (by kernel_rfl) h));clear a;go_simp;exact pF Q (F.skip 0 _)
     refine rN rfl (λ L D A C B I t U F K Q=>?_) ?_
     ·have c7:=U.w 11 (.int .i64 (k:Int));have a:=F.pre (λ h=>B (t 13 1 (by kernel_rfl) h));clear a;go_simp;exact pF Q (F.skip 1 _)
     refine rN rfl (λ L D A C B I t U F K Q=>?_) ?_
     ·have aO:=U.w 13 (.pointer (some ⟨ak,0,none⟩));have a:=F.pre (λ h=>B (t 13 2 (by kernel_rfl) h));obtain⟨q0,q1,q2,q3⟩:=(Z.out.below a Z.out.lt).c4;have O:=row9 (E.out.below a E.out.lt);have z0:=O.1;have z1:=O.2.1;have z2:=O.2.2.1;obtain⟨r0,r1⟩:=(aa.out.below a aa.out.lt).c2;have P:=(E.out.below a E.out.lt).lt;clear O a;go_simp;exact pF Q (F.skip 2 _)
     refine rN rfl (λ L D A C B I t U F K Q=>?_) ?_
     ·have c0:=U.v 2 76;have a:=F.pre (λ h=>B (t 13 3 (by kernel_rfl) h));obtain⟨q0,q1,q2,q3⟩:=(Z.out.below a Z.out.lt).c4;have O:=row9 (E.out.below a E.out.lt);have z0:=O.1;have z1:=O.2.1;have z2:=O.2.2.1;obtain⟨r0,r1⟩:=(aa.out.below a aa.out.lt).c2;have P:=(E.out.below a E.out.lt).lt;clear O a;go_simp;exact pF Q (F.skip 3 _)
     refine rN rfl (λ L D A C B I t U F K Q=>?_) ?_
     ·have c3:=U.w 17 (.int .i64 LS);have a:=F.pre (λ h=>B (t 13 4 (by kernel_rfl) h));clear a;go_simp;exact pF Q (F.skip 4 _)
     refine rN rfl (λ L D A C B I t U F K Q=>?_) ?_
     ·have e8:=U.w 8 (.pointer (some ⟨g8,0,none⟩));have a:=F.pre (λ h=>B (t 13 5 (by kernel_rfl) h));obtain⟨q0,q1,q2,q3⟩:=(Z.out.below a Z.out.lt).c4;have O:=row9 (E.out.below a E.out.lt);have z0:=O.1;have z1:=O.2.1;have z2:=O.2.2.1;obtain⟨r0,r1⟩:=(aa.out.below a aa.out.lt).c2;have P:=(E.out.below a E.out.lt).lt;clear O a;go_simp;exact pF Q (F.skip 5 _)
     refine rN rfl (λ L D A C B I t U F K Q=>?_) ?_
     ·have aO:=U.w 13 (.pointer (some ⟨ak,0,none⟩));have a:=F.pre (λ h=>B (t 13 6 (by kernel_rfl) h));obtain⟨q0,q1,q2,q3⟩:=(Z.out.below a Z.out.lt).c4;have O:=row9 (E.out.below a E.out.lt);have z0:=O.1;have z1:=O.2.1;have z2:=O.2.2.1;obtain⟨r0,r1⟩:=(aa.out.below a aa.out.lt).c2;have P:=(E.out.below a E.out.lt).lt;clear O a;go_simp;exact pF Q (F.skip 6 _)
     refine rN rfl (λ L D A C B I t U F K Q=>?_) ?_
     ·have cW:=U.v 6 80;have a:=F.pre (λ h=>B (t 13 7 (by kernel_rfl) h));obtain⟨q0,q1,q2,q3⟩:=(Z.out.below a Z.out.lt).c4;have O:=row9 (E.out.below a E.out.lt);have z0:=O.1;have z1:=O.2.1;have z2:=O.2.2.1;obtain⟨r0,r1⟩:=(aa.out.below a aa.out.lt).c2;have P:=(E.out.below a E.out.lt).lt;clear O a;go_simp;exact pF Q (F.skip 7 _)
     refine rN rfl (λ L D A C B I t U F K Q=>?_) ?_
     ·have aN:=U.w 14 (.pointer (some ⟨ak+1,0,none⟩));have a:=F.pre (λ h=>B (t 13 8 (by kernel_rfl) h));obtain⟨q0,q1,q2,q3⟩:=(Z.out.below a Z.out.lt).c4;have O:=row9 (E.out.below a E.out.lt);have z0:=O.1;have z1:=O.2.1;have z2:=O.2.2.1;obtain⟨r0,r1⟩:=(aa.out.below a aa.out.lt).c2;have P:=(E.out.below a E.out.lt).lt;clear O a;go_simp;exact pF Q (F.skip 8 _)
     refine rN rfl (λ L D A C B I t U F K Q=>?_) ?_
     ·have e1:=U.w 1 (.int .i64 (dn:Int));have a:=F.pre (λ h=>B (t 13 9 (by kernel_rfl) h));clear a;go_simp;exact pF Q (F.skip 9 _)
     refine rN rfl (λ L D A C B I t U F K Q=>?_) ?_
     ·have cX:=U.v 5 79;have cV:=U.v 7 81;have cU:=U.v 8 82;have cT:=U.v 9 83;have a:=F.pre (λ h=>B (t 13 10 (by kernel_rfl) h));go_simp;refine(bY.out C (ah.out.trans (a.mono ah.out.size))).mono ?_;rintro e w6 ⟨rfl,H⟩;exact pF Q ((F.below (λ h=>B (t 13 10 (by kernel_rfl) h)) H).skip 10 _)
     refine rN rfl (λ L D A C B I t U F K Q=>?_) ?_
     ·have c1:=U.v 1 75;have cZ:=U.v 3 77;have cY:=U.v 4 78;have cS:=U.v 10 84;have a:=F.pre (λ h=>B (t 13 11 (by kernel_rfl) h));clear a;go_simp;exact pF Q (F.skip 11 _)
     refine rN rfl (λ L D A C B I t U F K Q=>?_) ?_
     ·have cR:=U.v 11 85;go_simp;exact Q.out _ _ (Pl.any rfl) (by simpa [upd,enI4] using F.s12 (λ h=>B (t 13 12 (by kernel_rfl) h)))
     refine rN rfl (λ L D A C B I t U F K Q=>?_) ?_
     ·have cn:=U.v 0 74;have cm:=U.x 12 86;have a:=F.pre B;refine(F.f12 (bK I 12) B).elim λ cj bp=>?_
      have o9:=(bN.out.below a (Nat.le_refl _)).more a.size;refine wp_one _ _ _ rfl w4.heap.size C.heap.size 55 iv (.agg #[.int .i64 0,.int .i64 0,.int .i64 0,.int .i64 0]) 4 32 Tryz.underlying51 cf b5 b4 b3 rfl (by decide) enI4_len' u10 vs ((k:Int),x.g.pl,LS,LK) (one_Vd _) (ev cn) o9 cj 1 55 ((ev cm).trans bp.1) bp.2 (by unfold maxLen;omega) (by omega) (by have:=a.size;have:=ah.out.size;omega) ?_;intro cP da bZ bz ab bi b9;exact Q.out _ bZ (Pl.any rfl) (by simpa [upd] using F.s13 (λ h=>B (t 14 13 (by kernel_rfl) h)) bz (below_grown a ab) (bi.imp id (λ h=>by have:=a.size;omega)))
     refine rN rfl (λ L D A C B I t U F K Q=>?_) ?_
     ·have cQ:=U.x 13 87;go_simp;exact Q.out _ C (Pl.any rfl) (by simpa [upd] using F.s14)
     exact RelFrom.nil (by decide)
    intro D C hp F;simp only [Fr,Act.put,sX,Nat.reduceAdd];obtain⟨cO,cF,c9,aO,ho,hg,cg⟩:=F.f13 trivial;have aN:=F.f14 trivial;rw [aO] at aN ho;clear F hp aO;rw [aN];have cD:=kD (ah.out.grown hg ah.out.size (λ r hr=>(bN.out.block r hr).1));have bo:Hid (aG=(vs++[((k:Int),x.g.pl,LS,LK)])++vdGo v n dn y (es.drop (k+1)) (k+1)):=by
     show _=_
     first | rw [aH.out,if_pos rfl,bJ.out] | rw [aH.out,if_pos trivial,bJ.out]
    have ct:=kD ho;clear hg cg aN ho;go_wp2_with fail;go_roundw
    case rel =>
     exact⟨k+1,y,_,by first | rfl | go_num,by omega,by simp;omega,cD,ct,bQ,aW,bo⟩
    case measure=>simp [intOf];omega
   ·have cI:(ek != 2)=true:=by simp [h2]
    have bo:Hid (aG=vs++vdGo v n dn y (es.drop (k+1)) (k+1)):=by
     show _=_
     rw [aH.out,if_neg h2,List.append_nil]
    have bV:=kD (HB.out.trans (af.mono HB.out.size));have cv:=kD ((aQ.out.below af (Nat.le_refl _)).more af.size);clear h2 aH;go_wp2_with fail;go_roundw
    case rel=>exact⟨k+1,y,vs,by first | rfl | go_num,by omega,by omega,bV,cv,bQ,aW,bo⟩
    case measure=>simp [intOf];omega
  ·obtain rfl:M=k:=by omega
   have ch:aG=vs:=by rw [hQ.out,<-HM.out,vdGo_end,List.append_nil]
   subst ch;have bh:=HK.out.bel.trans (HB.out.mono HK.out.bel.size);have az:=aQ.out.less (lo':=w.heap.size) (by omega);clear hQ aF bj HK HB aQ;go_wp2_with fail;refine bodyPost_ret (v:=.tuple #[u10,.int .i64 0]) (by simp [results,Tryz.results15,go_sem]) rfl ?_;exact⟨_,rfl,by first | exact az | (rw [bO.out];exact az),bh⟩
end VdP
namespace TsI
open Go.ChangeShapes Go.WideShapes Go.ChangeAt Go.RowKit Base Ints Own PlP TxP Bd1 Bd5 RegF RegG TxI
structure Bg (w wr:World) (v:Vr) (cs:List Value):Prop where
 bel:Below w.heap.size w wr
 rv:RowB wr w.heap.size 25 (vL v)
 r0:RowB wr (w.heap.size+1) 150 [.int .i64 0,.int .i64 0,.int .i64 0,.bool false]
 rs:RowB wr (w.heap.size+2) 150 cs
theorem Bg.below {w wr w':World} {v:Vr} {cs:List Value} (k:Bg w wr v cs) (hb:Below wr.heap.size wr w'):Bg w w' v cs :=
 ⟨k.bel.trans (hb.mono k.bel.size),k.rv.below hb k.rv.lt,k.r0.below hb k.r0.lt,k.rs.below hb k.rs.lt⟩
theorem Bg.set {w wr:World} {v:Vr} {cs:List Value} (k:Bg w wr v cs) (j:Nat) (u:Value):Bg w (wr.setCell ⟨w.heap.size+2,j,none⟩ u) v (cs.set j u) :=
 ⟨k.bel.setCell (p:=⟨w.heap.size+2,j,none⟩) (by show w.heap.size<=w.heap.size+2;omega) u,k.rv.other (p:=⟨w.heap.size+2,j,none⟩) (by show w.heap.size≠w.heap.size+2;omega) u,k.r0.other (p:=⟨w.heap.size+2,j,none⟩) (by show w.heap.size+1≠w.heap.size+2;omega) u,k.rs.set j u⟩
structure RsF (w1:World) (s:Stp) (p9 p10:Prop) (v9:Value) (w':World):Prop where
 bel:Below w1.heap.size w1 w'
 f9:p9->∃ g,v9=.pointer (some ⟨g,0,none⟩)∧w1.heap.size<=g∧∃ a b c d,RowB w' g 150 [a,b,c,d]
 f10:p10->∃ g,v9=.pointer (some ⟨g,0,none⟩)∧w1.heap.size<=g∧RowB w' g 150 [.int .i64 s.1,.int .i64 s.2.1,.int .i64 s.2.2.1,.bool s.2.2.2]
theorem RsF.skip {w1 w':World} {s:Stp} {L:Nat->Prop} {vals:Nat->Value} (F:RsF w1 s (L 9) (L 10) (vals 9) w') (k:Nat) (z:Value) (h9:9≠k:=by decide) (h10:10≠k:=by decide):RsF w1 s (9=k∨L 9) (10=k∨L 10) (upd vals k z 9) w':=by
 rw [or_ne h9,or_ne h10,upd_ne h9];exact F
theorem RsF.below {w1 w' w'':World} {s:Stp} {p9 p10:Prop} {v9:Value} (F:RsF w1 s p9 p10 v9 w') (hb:Below w'.heap.size w' w''):RsF w1 s p9 p10 v9 w'' :=
 ⟨F.bel.trans (hb.mono F.bel.size),λ h=>by obtain⟨g,h1,h2,a,b,c,d,h3⟩:=F.f9 h;exact⟨g,h1,h2,a,b,c,d,h3.below hb h3.lt⟩,λ h=>by obtain⟨g,h1,h2,h3⟩:=F.f10 h;exact⟨g,h1,h2,h3.below hb h3.lt⟩⟩
structure RqF (w1:World) (x y:Int) (p7 p8:Prop) (v7:Value) (w':World):Prop where
 bel:Below w1.heap.size w1 w'
 f7:p7->∃ g,v7=.pointer (some ⟨g,0,none⟩)∧w1.heap.size<=g∧∃ a b,RowB w' g 30 [a,b]
 f8:p8->∃ g,v7=.pointer (some ⟨g,0,none⟩)∧w1.heap.size<=g∧RowB w' g 30 [.int .i64 x,.int .i64 y]
theorem RqF.skip {w1 w':World} {x y:Int} {L:Nat->Prop} {vals:Nat->Value} (F:RqF w1 x y (L 7) (L 8) (vals 7) w') (k:Nat) (z:Value) (h7:7≠k:=by decide) (h8:8≠k:=by decide):RqF w1 x y (7=k∨L 7) (8=k∨L 8) (upd vals k z 7) w':=by
 rw [or_ne h7,or_ne h8,upd_ne h7];exact F
theorem RqF.below {w1 w' w'':World} {x y:Int} {p7 p8:Prop} {v7:Value} (F:RqF w1 x y p7 p8 v7 w') (hb:Below w'.heap.size w' w''):RqF w1 x y p7 p8 v7 w'' :=
 ⟨F.bel.trans (hb.mono F.bel.size),λ h=>by obtain⟨g,h1,h2,a,b,h3⟩:=F.f7 h;exact⟨g,h1,h2,a,b,h3.below hb h3.lt⟩,λ h=>by obtain⟨g,h1,h2,h3⟩:=F.f8 h;exact⟨g,h1,h2,h3.below hb h3.lt⟩⟩
theorem RqF.s7 {w1 w':World} {x y:Int} {p7 p8:Prop} {v7:Value} (F:RqF w1 x y p7 p8 v7 w') (n8:¬ p8) {a b:Value}:RqF w1 x y True p8 (.pointer (some ⟨w'.heap.size,0,none⟩)) (w'.alloc (.cells #[a,b] 30)) :=
 ⟨F.bel.alloc F.bel.size _,λ _=>⟨_,rfl,F.bel.size,a,b,RowB.new _ _ _⟩,λ h=>absurd h n8⟩
structure SqF (w1:World) (ss:List Stp) (ok:Bool) (p3 p4 p5 p7:Prop) (v3 v4 v5 v7:Value) (w':World):Prop where
 bel:Below w1.heap.size w1 w'
 f3:p3->∃ sv,v3=.tuple #[sv,.bool ok]∧OwnS w' w1.heap.size w'.heap.size 150 4 enSt sv ss∧(p4->v4=v3)∧(p5->v5=sv)∧(p7->v7=sv)
theorem SqF.skip {w1 w':World} {ss:List Stp} {ok:Bool} {L:Nat->Prop} {vals:Nat->Value} (F:SqF w1 ss ok (L 3) (L 4) (L 5) (L 7) (vals 3) (vals 4) (vals 5) (vals 7) w') (k:Nat) (z:Value) (h3:3≠k:=by decide) (h4:4≠k:=by decide) (h5:5≠k:=by decide) (h7:7≠k:=by decide) :
  SqF w1 ss ok (3=k∨L 3) (4=k∨L 4) (5=k∨L 5) (7=k∨L 7) (upd vals k z 3) (upd vals k z 4) (upd vals k z 5) (upd vals k z 7) w':=by
 rw [or_ne h3,or_ne h4,or_ne h5,or_ne h7,upd_ne h3,upd_ne h4,upd_ne h5,upd_ne h7];exact F
theorem SqF.s5 {w1 w':World} {ss:List Stp} {ok:Bool} {p3 p4 p5 p7:Prop} {v3 v4 v5 v7 sv:Value} (F:SqF w1 ss ok p3 p4 p5 p7 v3 v4 v5 v7 w') (hv:v3=.tuple #[sv,.bool ok]):SqF w1 ss ok p3 p4 True p7 v3 v4 sv v7 w' :=
 ⟨F.bel,λ h=>by
  obtain⟨s2,a,b,c,d,e⟩:=F.f3 h;have:s2=sv:=by rw [hv] at a;simpa using a.symm
  subst this;exact⟨s2,a,b,c,λ _=>rfl,e⟩⟩
theorem SqF.s7 {w1 w':World} {ss:List Stp} {ok:Bool} {p3 p4 p5 p7:Prop} {v3 v4 v5 v7:Value} (F:SqF w1 ss ok p3 p4 p5 p7 v3 v4 v5 v7 w') (h5:p5):SqF w1 ss ok p3 p4 p5 True v3 v4 v5 v5 w' :=
 ⟨F.bel,λ h=>by
  obtain⟨sv,a,b,c,d,e⟩:=F.f3 h;exact⟨sv,a,b,c,d,λ _=>d h5⟩⟩
structure Bl (w wr:World) (v:Vr) (cs:List Value):Prop where
 bel:Below w.heap.size w wr
 rv:RowB wr w.heap.size 25 (vL v)
 re:RowB wr (w.heap.size+1) 63 [.int .i64 0,.int .i64 0,.int .i64 0,.slice none 0 0,.int .i64 0]
 rs:RowB wr (w.heap.size+2) 63 cs
theorem Bl.below {w wr w':World} {v:Vr} {cs:List Value} (k:Bl w wr v cs) (hb:Below wr.heap.size wr w'):Bl w w' v cs :=
 ⟨k.bel.trans (hb.mono k.bel.size),k.rv.below hb k.rv.lt,k.re.below hb k.re.lt,k.rs.below hb k.rs.lt⟩
def TrnOk (o:Option (Int × Int × List Stp)) (x y c:Int) (ss:List Stp):Prop :=
 match o with
 | some r=>r=(x,y,ss)∧c=0
 | none=>c≠0
structure TnF (w1:World) (o:Option (Int × Int × List Stp)) (p3 p4 p5 p6 p7 p8 p9 p10 p11:Prop) (v3 v4 v5 v6 v7 v8 v10 v11:Value) (w':World):Prop where
 bel:Below w1.heap.size w1 w'
 f3:p3->∃(x y:Int) (sv:Value) (c:Int) (ss:List Stp),v3=.tuple #[.agg #[.int .i64 x,.int .i64 y],sv,.int .i64 c]∧OwnS w' w1.heap.size w'.heap.size 150 4 enSt sv ss∧TrnOk o x y c ss
 f4:p4->v4=v3
 f5:p5->∀ X S C,v3=.tuple #[X,S,C]->v5=X
 f6:p6->∀ X S C,v3=.tuple #[X,S,C]->v6=S
 f7:p7->∀ X S C,v3=.tuple #[X,S,C]->v7=C
 f8:p8->∃ g,v8=.pointer (some ⟨g,0,none⟩)∧w1.heap.size<=g∧(∃ a b,RowB w' g 30 [a,b])∧(p3->∀ X S C,v3=.tuple #[X,S,C]->S.ownBlock≠some g)
 f9:p9->∀ x y S C g,v3=.tuple #[.agg #[x,y],S,C]->v8=.pointer (some ⟨g,0,none⟩)->RowB w' g 30 [x,y]
 f10:p10->v10=v6
 f11:p11->v11=v7
section
variable {w1 w' w'':World} {o:Option (Int × Int × List Stp)} {p3 p4 p5 p6 p7 p8 p9 p10 p11:Prop} {v3 v4 v5 v6 v7 v8 v10 v11:Value}
theorem TnF.skip {L:Nat->Prop} {vals:Nat->Value} (F:TnF w1 o (L 3) (L 4) (L 5) (L 6) (L 7) (L 8) (L 9) (L 10) (L 11) (vals 3) (vals 4) (vals 5) (vals 6) (vals 7) (vals 8) (vals 10) (vals 11) w') (k:Nat) (z:Value) (hk:k<3:=by decide) :
  TnF w1 o (3=k∨L 3) (4=k∨L 4) (5=k∨L 5) (6=k∨L 6) (7=k∨L 7) (8=k∨L 8) (9=k∨L 9) (10=k∨L 10) (11=k∨L 11) (upd vals k z 3) (upd vals k z 4) (upd vals k z 5) (upd vals k z 6) (upd vals k z 7) (upd vals k z 8) (upd vals k z 10) (upd vals k z 11) w':=by
 have h:3≠k:=by omega
 have g:4≠k:=by omega
 have f:5≠k:=by omega
 have e:6≠k:=by omega
 have d:7≠k:=by omega
 have c:8≠k:=by omega
 have i:9≠k:=by omega
 have b:10≠k:=by omega
 have a:11≠k:=by omega
 rw [or_ne h,or_ne g,or_ne f,or_ne e,or_ne d,or_ne c,or_ne i,or_ne b,or_ne a,upd_ne h,upd_ne g,upd_ne f,upd_ne e,upd_ne d,upd_ne c,upd_ne b,upd_ne a];exact F
theorem inj3 {X S C X' S' C':Value} (e:Value.tuple #[X,S,C]=.tuple #[X',S',C']):X=X'∧S=S'∧C=C':=by simpa using e
theorem TnF.s5 {X S C:Value} (F:TnF w1 o p3 p4 p5 p6 p7 p8 p9 p10 p11 v3 v4 v5 v6 v7 v8 v10 v11 w') (hv:v3=.tuple #[X,S,C]):TnF w1 o p3 p4 True p6 p7 p8 p9 p10 p11 v3 v4 X v6 v7 v8 v10 v11 w' :=
 ⟨F.bel,F.f3,F.f4,λ _ X' S' C' e=>(inj3 (hv.symm.trans e)).1,F.f6,F.f7,F.f8,F.f9,F.f10,F.f11⟩
theorem TnF.s7 {X S C:Value} (F:TnF w1 o p3 p4 p5 p6 p7 p8 p9 p10 p11 v3 v4 v5 v6 v7 v8 v10 v11 w') (hv:v3=.tuple #[X,S,C]) (n11:¬ p11):TnF w1 o p3 p4 p5 p6 True p8 p9 p10 p11 v3 v4 v5 v6 C v8 v10 v11 w' :=
 ⟨F.bel,F.f3,F.f4,F.f5,F.f6,λ _ X' S' C' e=>(inj3 (hv.symm.trans e)).2.2,F.f8,F.f9,F.f10,λ h=>absurd h n11⟩
end
end TsI
namespace Gm
open Go Go.ChangeShapes Go.WideShapes Go.ChangeAt Go.RowKit Base Ints Own RelG PlP TxP Bd1 Bd5 RegInv RegF RegG TxI TsI
theorem own_lo {α:Type} {w:World} {S:Nat->Prop} {lo sz:Nat} {e:TypeId} {en:α->List Value} {v:Value} {xs:List α} (h:OwnV e sz en w S v xs) (hS:∀ b,S b->lo<=b):OwnS w lo w.heap.size e sz en v xs:=by
 refine⟨⟨h.1.1.1,?_⟩,h.1.2⟩;rcases h.1.1.2 with h0 | ⟨g,cap,cur,rfl,-,rest⟩
 ·exact .inl h0
 ·exact .inr ⟨g,cap,cur,rfl,hS g (h.2 g rfl),rest⟩
structure Rs (w wr:World) (g8 g10:Nat) (v:Vr) (n:Int) (ev:Value) (es:List Ev) (su u1 u2:Value) (x:Ms):Prop where
 k:Rows w wr [(0,48,[.int .i64 0,.int .i64 0,.int .i64 0,.int .i64 0,.int .i64 0,.slice none 0 0])]
 r8:RowB wr g8 48 [.int .i64 v.p,.int .i64 v.c,.int .i64 v.h,.int .i64 v.s,.int .i64 n,.slice none 0 0]
 r10:RowB wr g10 59 (msC su u1 u2 x)
 ms:MsR wr (λ b=>NotIn ev (g8+1) b∧b≠g10) su u1 u2 x
 es:Evs wr (g10+1) ev es
 lo:w.heap.size<g8∧g8<g10
section
variable {w wr w':World} {g8 g10:Nat} {v:Vr} {n:Int} {ev:Value} {es:List Ev} {su u1 u2:Value} {x:Ms}
theorem Rs.below (K:Rs w wr g8 g10 v n ev es su u1 u2 x) (hb:Below wr.heap.size wr w'):Rs w w' g8 g10 v n ev es su u1 u2 x :=
 ⟨K.k.below hb,K.r8.below hb K.r8.lt,K.r10.below hb K.r10.lt,K.ms.below hb,K.es.below hb,K.lo⟩
end
end Gm
namespace Bd36
open Go.ChangeShapes Go.WideShapes Go.ChangeAt Go.RowKit Base Base2 Ints PlP Bd5
theorem rdSt_at {w:World} {B:Nat} {A:Option Addr} {xs:List Stp} (h:RdS w B 4 enSt A xs) {i:Nat} (hi:i<xs.length) :
  ∃ b off p q r s,A=some ⟨b,off,none⟩∧b<B∧xs[i]?=some (p,q,r,s)∧w.cell? ⟨b,off+i*4,none⟩=some (.int .i64 p)∧w.cell? ⟨b,off+i*4+1,none⟩=some (.int .i64 q)∧w.cell? ⟨b,off+i*4+2,none⟩=some (.int .i64 r)∧w.cell? ⟨b,off+i*4+3,none⟩=some (.bool s):=by
 obtain⟨b,off,⟨p,q,r,s⟩,e,d,c,a⟩:=h.at_ hi;exact⟨b,off,p,q,r,s,e,d,c,a 0 _ rfl,a 1 _ rfl,a 2 _ rfl,a 3 _ rfl⟩
theorem mark_fillS (P R:List Value) (x y:Stp) (i:Nat) (h:P.length=i) :
  (((((P++(enSt x++R)).set (i) (Value.int .i64 y.1)).set (i+1) (Value.int .i64 y.2.1)).set (i+2) (Value.int .i64 y.2.2.1)).set (i+3) (Value.bool y.2.2.2))=P++(enSt y++R):=by
 subst h;simp [enSt]
def mB (x:Int):Bool:=x % 3 == 0
def mkS (k i:Nat):Stp:=((k:Int)+(i:Int)*4,(k:Int)+(i:Int)*4+1,(k:Int)+(i:Int)*4+1+1,mB ((k:Int)+(i:Int)*4+1+1+1))
def markL (k n:Nat):List Stp:=(List.range n).map (mkS k)
theorem markL_len (k n:Nat):(markL k n).length=n:=by simp [markL]
theorem markL_at (k n i:Nat) (h:i<n):(markL k n)[i]?=some ((k:Int)+(i:Int)*4,(k:Int)+(i:Int)*4+1,(k:Int)+(i:Int)*4+1+1,mB ((k:Int)+(i:Int)*4+1+1+1)):=by simp [markL,h,mkS]
theorem markL_succ (k n:Nat):markL k (n+1)=markL k n++[((k:Int)+(n:Int)*4,(k:Int)+(n:Int)*4+1,(k:Int)+(n:Int)*4+1+1,mB ((k:Int)+(n:Int)*4+1+1+1))]:=by simp [markL,List.range_succ,mkS]
theorem eq1 (p q r:Int) (s:Bool) (w:World) :
  Calls Tryz.prog 170 #[.agg #[.int .i64 p,.int .i64 q,.int .i64 r,.bool s],.agg #[.int .i64 p,.int .i64 q,.int .i64 r,.bool s]] w λ e w'=>e=.returned (.bool true)∧Below w.heap.size w w':=by
 have d:(p != p)=false:=by simp
 have c:(q != q)=false:=by simp
 have b:(r != r)=false:=by simp
 have a:(s != s)=false:=by simp
 go_enter Tryz.func170,Tryz.ntmps170;go_wp2;go_ret;exact⟨rfl,by go_grown⟩
theorem eqS (B1 B2:Nat) (A1 A2:Option Addr) (c1 c2:Nat) (xs:List Stp) (w:World) (h1:RdS w B1 4 enSt A1 xs) (h2:RdS w B2 4 enSt A2 xs) (hB1:B1<=w.heap.size) (hB2:B2<=w.heap.size) :
  Calls Tryz.prog 148 #[.slice A1 xs.length c1,.slice A2 xs.length c2] w λ e w'=>e=.returned (.bool true)∧Below w.heap.size w w':=by
 have V:=h1.len
 generalize hnn:xs.length=n at *
 have H:=kD hnn;clear hnn;go_enter Tryz.func148,Tryz.ntmps148;go_wp2;go_loopw [5] (λ i wr=>∃ k:Nat,k<=n∧i=.int .i64 k∧Below w.heap.size w wr) (λ i _=>n - (intOf i).toNat)
 case atStart=>exact⟨0,Nat.zero_le _,rfl,Below.refl _ _⟩
 case round =>
  obtain⟨k,W,rfl,c⟩:=hrel;by_cases hlt:k<n
  ·obtain⟨b,d,p,q,r,s,rfl,P,D,C,B,A,z⟩:=rdSt_at h1 (by rw [H.out];exact hlt);obtain⟨h,a,T,S,R,Q,rfl,o,l,y,x,v,t⟩:=rdSt_at h2 (by rw [H.out];exact hlt);rw [D] at l;simp only [Option.some.injEq,Prod.mk.injEq] at l;obtain⟨rfl,rfl,rfl,rfl⟩:=l;have O:=c.size;have g:b<wr.heap.size:=by omega
   have f:h<wr.heap.size:=by omega
   have M:=(c.cell (p:=⟨b,d+k*4,none⟩) (by show b<_;omega)).trans C;have L:=(c.cell (p:=⟨b,d+k*4+1,none⟩) (by show b<_;omega)).trans B;have K:=(c.cell (p:=⟨b,d+k*4+2,none⟩) (by show b<_;omega)).trans A;have J:=(c.cell (p:=⟨b,d+k*4+3,none⟩) (by show b<_;omega)).trans z;have I:=(c.cell (p:=⟨h,a+k*4,none⟩) (by show h<_;omega)).trans y;have G:=(c.cell (p:=⟨h,a+k*4+1,none⟩) (by show h<_;omega)).trans x;have F:=(c.cell (p:=⟨h,a+k*4+2,none⟩) (by show h<_;omega)).trans v;have E:=(c.cell (p:=⟨h,a+k*4+3,none⟩) (by show h<_;omega)).trans t;clear C B A z y x v t D P o;go_wp2;go_region_held3 (λ w'=>w'.cell? ⟨b,d+k*4,none⟩=some (.int .i64 p)∧w'.cell? ⟨b,d+k*4+1,none⟩=some (.int .i64 q)∧w'.cell? ⟨b,d+k*4+2,none⟩=some (.int .i64 r)∧w'.cell? ⟨b,d+k*4+3,none⟩=some (.bool s)∧w'.cell? ⟨h,a+k*4,none⟩=some (.int .i64 p)∧w'.cell? ⟨h,a+k*4+1,none⟩=some (.int .i64 q)∧w'.cell? ⟨h,a+k*4+2,none⟩=some (.int .i64 r)∧w'.cell? ⟨h,a+k*4+3,none⟩=some (.bool s)) ((first | exact⟨M,L,K,J,I,G,F,E⟩ | exact⟨(j.cell (by first | exact g | exact f)).trans M,(j.cell (by first | exact g | exact f)).trans L,(j.cell (by first | exact g | exact f)).trans K,(j.cell (by first | exact g | exact f)).trans J,(j.cell (by first | exact g | exact f)).trans I,(j.cell (by first | exact g | exact f)).trans G,(j.cell (by first | exact g | exact f)).trans F,(j.cell (by first | exact g | exact f)).trans E⟩)) (first | (go_at_call 170;refine(eq1 p q r s _).mono ?_;rintro e N ⟨rfl,m⟩;have j:Below wr.heap.size wr N:=Below.then_ (by go_grown) m (by go_size)));go_wp2;go_roundw
   case rel=>exact⟨k+1,by omega,by go_num,c.trans (j.mono O)⟩
   case measure=>simp [intOf];omega
  ·go_wp2;go_ret;exact⟨rfl,c⟩
theorem markS (lo hi:Nat) (v:Value) (k:Nat) (xs:List Stp) (w:World) (hn:xs.length<=1048576) (hk:k<=1152921504606846976) (h:OwnS w lo hi 150 4 enSt v xs) :
  Calls Tryz.prog 117 #[v,.int .i64 k] w λ e w'=>e=.returned (.int .i64 ((k+xs.length*4:Nat):Int))∧w.grownBy w' v.ownBlock∧OwnS w' lo hi 150 4 enSt v (markL k xs.length):=by
 rcases h.cases_ with ⟨rfl,rfl⟩ | ⟨g,cap,rest,rfl,hlo,hhi,c,hnc,hcm,hl⟩
 ·go_enter Tryz.func117,Tryz.ntmps117;go_wp2;go_rounds 1;go_ret;exact⟨rfl,grownBy_refl _ _,OwnS.nil_ _ _ _ _ _ _⟩
 ·generalize hnn:xs.length=n at *
  have H:=kD hnn;clear hnn;have B:=kD hl;clear hl;have c:=kD c;unfold maxLen at hcm;go_enter Tryz.func117,Tryz.ntmps117;go_wp2;go_loopw [1,5] (λ q i wr=>∃ j:Nat,j<=n∧i=.int .i64 j∧q=.int .i64 ((k:Int)+(j:Int)*4)∧w.grownBy wr (some g)∧Hid (RowB wr g 150 ((markL k j++xs.drop j).flatMap enSt++rest))) (λ _ i _=>n - (intOf i).toNat)
  case atStart=>exact⟨0,Nat.zero_le _,rfl,by go_num,grownBy_refl _ _,by simpa [markL] using c⟩
  case round =>
   obtain⟨j,G,rfl,rfl,o,a⟩:=hrel;clear c;by_cases hlt:j<n
   ·have m:j*4+4<=((markL k j++xs.drop j).flatMap enSt++rest).length:=by
     rw [List.length_append,flatMap_len enSt_len,List.length_append,markL_len,List.length_drop,H.out];omega
    obtain⟨F,t⟩:∃ z,wr.cell? ⟨g,j*4,none⟩=some z:=⟨_,(a.out.cell _).trans (List.getElem?_eq_getElem (by omega))⟩;obtain⟨E,s⟩:∃ z,wr.cell? ⟨g,j*4+1,none⟩=some z:=⟨_,(a.out.cell _).trans (List.getElem?_eq_getElem (by omega))⟩;obtain⟨D,r⟩:∃ z,wr.cell? ⟨g,j*4+1+1,none⟩=some z:=⟨_,(a.out.cell _).trans (List.getElem?_eq_getElem (by omega))⟩;obtain⟨C,p⟩:∃ z,wr.cell? ⟨g,j*4+3,none⟩=some z:=⟨_,(a.out.cell _).trans (List.getElem?_eq_getElem (by omega))⟩;clear m;have y:=a.out.frozen;go_wp2;go_roundw
    case rel =>
     refine⟨j+1,by omega,by go_num,by congr 1;omega,?_,?_⟩
     ·exact grownBy_trans (grownBy_trans (grownBy_trans (grownBy_trans o (grownBy_setCell _ _ _ _)) (grownBy_setCell _ _ _ _)) (grownBy_setCell _ _ _ _)) (grownBy_setCell _ _ _ _)
     ·have:=((((a.out.set (j*4) (.int .i64 ((k:Int)+(j:Int)*4))).set (j*4+1) (.int .i64 ((k:Int)+(j:Int)*4+1))).set (j*4+1+1) (.int .i64 ((k:Int)+(j:Int)*4+1+1))).set (j*4+1+1+1) (.bool (mB ((k:Int)+(j:Int)*4+1+1+1))));have A:xs.drop j=xs[j]'(by rw [H.out];exact hlt) :: xs.drop (j+1):=List.drop_eq_getElem_cons (by rw [H.out];exact hlt);rw [A] at this;rw [markL_succ];have x:((markL k j).flatMap enSt).length=j*4:=by rw [flatMap_len enSt_len,markL_len]
      have e:=mark_fillS ((markL k j).flatMap enSt) ((xs.drop (j+1)).flatMap enSt++rest) (xs[j]'(by rw [H.out];exact hlt)) (((k:Int)+(j:Int)*4),((k:Int)+(j:Int)*4+1),((k:Int)+(j:Int)*4+1+1),mB ((k:Int)+(j:Int)*4+1+1+1)) (j*4) x;simp only [List.flatMap_append,List.flatMap_cons,List.flatMap_nil,List.append_nil,List.append_assoc] at this e ⊢;rw [e] at this;obtain⟨I,l⟩:∃ b,mB ((k:Int)+(j:Int)*4+1+1+1)=b:=⟨_,rfl⟩;rw [l] at this ⊢;unfold mB at l;rw [l];exact kD (by simpa [Int.natCast_add,Int.natCast_mul,Int.add_assoc] using this)
    case measure=>simp [intOf];omega
   ·obtain rfl:j=n:=by omega
    have f:=a.out;clear a;rw [List.drop_of_length_le (by rw [H.out];exact Nat.le_refl _),List.append_nil] at f;have a:=kD f;clear f;go_wp2;go_ret;refine⟨by simp,o,?_⟩;have d:=markL_len k j;have:=OwnS.mk_ (lo:=lo) (hi:=hi) (cap:=cap) enSt_len a.out hlo hhi (by rw [d];omega) (by unfold maxLen;omega) (by rw [d];exact B.out);rw [d] at this;exact this
end Bd36
namespace TsI
open Go.ChangeShapes Go.WideShapes Go.ChangeAt Go.RowKit Base Ints Own PlP TxP Bd1 Bd5 RegF RegG TxI Bd36
theorem eqE (k a b r:Int) (A1 A2:Option Addr) (c1 c2 B1 B2:Nat) (n:Nat) (xs:List Stp) (w:World) (hn:xs.length=n) (hB1:B1<=w.heap.size) (hB2:B2<=w.heap.size) (h1:RdS w B1 4 enSt A1 xs) (h2:RdS w B2 4 enSt A2 xs) :
  Calls Tryz.prog 116 #[.agg #[.int .i64 k,.int .i64 a,.int .i64 b,.slice A1 n c1,.int .i64 r],.agg #[.int .i64 k,.int .i64 a,.int .i64 b,.slice A2 n c2,.int .i64 r]] w λ e w'=>e=.returned (.bool true)∧Below w.heap.size w w':=by
 have A:=kD (λ(z:World) (h:Below w.heap.size w z)=>eqS B1 B2 A1 A2 c1 c2 xs z (h1.below h hB1) (h2.below h hB2) (Nat.le_trans hB1 h.size) (Nat.le_trans hB2 h.size));rw [hn] at A;have E:(k != k)=false:=by simp
 have G:(a != a)=false:=by simp
 have F:(b != b)=false:=by simp
 have D:(r != r)=false:=by simp
 clear hn h1 h2;go_enter Tryz.func116,Tryz.ntmps116;go_upto_region 1 with fail;refine wp_gen (λ j=>Below w.heap.size w j∧RowB j w.heap.size 63 [.int .i64 k,.int .i64 a,.int .i64 b,.slice A1 n c1,.int .i64 r]∧RowB j (w.heap.size+1) 63 [.int .i64 k,.int .i64 a,.int .i64 b,.slice A2 n c2,.int .i64 r]) ⟨by go_grown,(RowB.new _ _ _).alloc _,RowB.new' _ _ _ (by simp)⟩ ?_;rintro C ⟨d,g,f⟩;obtain⟨y,x,v,t,s⟩:=g.c5;obtain⟨q,p,o,m,l⟩:=f.c5;go_wp2_with fail;refine(A.out _ d).mono ?_;rintro e B ⟨rfl,c⟩;have i:=d.trans (c.mono d.size);have g:=g.below c g.lt;have f:=f.below c f.lt;clear y x v t s q p o m l;obtain⟨y,x,v,t,s⟩:=g.c5;obtain⟨q,p,o,m,l⟩:=f.c5;go_wp2_with fail;go_ret;exact⟨rfl,i⟩
end TsI
end Go.Proofs.YtmncnhbjifeoeaaGreat
