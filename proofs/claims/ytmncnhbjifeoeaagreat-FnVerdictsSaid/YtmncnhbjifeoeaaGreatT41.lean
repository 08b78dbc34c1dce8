/- Parts of the proof of FnVerdicts. Conditions: each theorem's own. -/
import Derived.Test.YtmncnhbjifeoeaaGreatT40
set_option linter.unusedVariables false
set_option linter.unusedSimpArgs false
set_option maxHeartbeats 8000000
set_option maxRecDepth 100000
namespace Go.Proofs.YtmncnhbjifeoeaaGreat
namespace VdP
open Go Go.ChangeShapes Go.WideShapes Go.ChangeAt Go.RowKit Base Ints Own RelG PlP TxP Gm HmP RegInv RegF RegG Bd1 Bd5 Bd22 Bd23 Bd24 Bd11 Bd27 Bd29 Bd31 Bd32
theorem stGo_at {v:Vr} {n:Int} {es:List Ev} {k:Nat} {e:Ev} {x:Ms} {xs:List Ms} (h:es[k]?=some e) (hs:stGo v n x (es.drop k)=some (xs.drop k)) :
  xs[k]?=some x∧∃ y,nextS v n x e=some y∧stGo v n y (es.drop (k+1))=some (xs.drop (k+1)):=by
 rw [stGo_drop x h] at hs
 cases hy:nextS v n x e with
 | none=>rw [hy] at hs;cases hs
 | some y =>
  rw [hy] at hs;simp only at hs
  cases hr:stGo v n y (es.drop (k+1)) with
  | none=>rw [hr] at hs;cases hs
  | some r =>
   rw [hr] at hs;simp only [Option.map_some,Option.some.injEq] at hs;have b:xs[k]?=some x:=by
    have:=congrArg (λ l=>l[0]?) hs
    simpa using this.symm
   refine⟨b,y,rfl,?_⟩;have a:=congrArg List.tail hs;simp only [List.tail_cons,List.tail_drop] at a;rw [hr,a]
theorem stGo_len {v:Vr} {n:Int}:∀(es:List Ev) (x:Ms) (xs:List Ms),stGo v n x es=some xs->xs.length=es.length+1:=by
 intro es
 induction es with
 | nil=>intro x xs h;simp only [stGo,Option.some.injEq] at h;subst h;rfl
 | cons e es ih =>
  intro x xs h;simp only [stGo] at h
  cases hy:nextS v n x e with
  | none=>rw [hy] at h;cases h
  | some y =>
   rw [hy] at h;simp only at h
   cases hr:stGo v n y es with
   | none=>rw [hr] at h;cases h
   | some r =>
    rw [hr] at h;simp only [Option.map_some,Option.some.injEq] at h;subst h;simp only [List.length_cons,ih y r hr]
theorem rv_i (v:Vr) (n:Int) (es:List Ev) (Ae:Option Addr) (ce:Nat) (d:Int) (w:World) (hes:EvL w All Ae es) (R:List V4 × Int) (hR:rvR v n es d=R) :
  Calls Tryz.prog 15 #[.agg #[.int .i64 v.p,.int .i64 v.c,.int .i64 v.h,.int .i64 v.s,.int .i64 n,.slice Ae es.length ce],.int .i64 d] w λ f w'=>∃ uo,f=.returned (.tuple #[uo,.int .i64 R.2])∧OwnS w' w.heap.size w'.heap.size 55 4 enI4 uo R.1∧Below w.heap.size w w':=by
 obtain⟨iv,cf,b5,b4,b3⟩:=info_parts infoVd;obtain⟨X,hX⟩:∃ X,statesP v n es=X:=⟨_,rfl⟩;have CI:=kD (λ(C:World) (J:Below w.heap.size w C)=>states_i v n es Ae ce C (hes.keep (.below J)) X hX);obtain⟨z,hz⟩:∃ z,codeT v X.isSome true d=z:=⟨_,rfl⟩;have CT:=kD (λ(C:World)=>tutor_i v X.isSome true d z hz C);have bI:R=if z=0 then (vdGo v n d.toNat (startS v) es 0,0) else ([],z):=by rw [<-hR];unfold rvR;rw [<-states_fin,hX,hz]
 have ci:=hes.len;have cB:=kD hes;obtain⟨M,hM⟩:∃ M,es.length=M:=⟨_,rfl⟩;rw [hM] at ci CI ⊢;have HM:=kD hM;have bn:=kD bI;have HX:=kD hX;have HZ:=kD hz;clear hes hM hX hz hR bI;go_enter Tryz.func15,Tryz.ntmps15;go_upto_region 1 with fail;refine wp_gen (λ W'=>Gm.Rows w W' [(0,48,[.int .i64 v.p,.int .i64 v.c,.int .i64 v.h,.int .i64 v.s,.int .i64 n,.slice Ae M ce])]) ⟨by go_grown,λ p hp=>?_⟩ ?_
 ·obtain rfl:=List.mem_singleton.1 hp;exact RowB.new _ _ _
 intro w1 K;have rm:=K.nth0 0 rfl;obtain⟨q0,q1,q2,q3,q4,q5⟩:=rm.c6;have ac:=rm.lt;go_wp2_with fail;refine(CI.out w1 K.bel).mono ?_;rintro e w2 ⟨A,m,c,rfl,az,hb⟩;have K:=K.below hb;clear CI q0 q1 q2 q3 q4 q5 ac rm;have rm:=K.nth0 0 rfl;obtain⟨q0,q1,q2,q3,q4,q5⟩:=rm.c6;have ac:=rm.lt;go_upto_region 3 with fail;obtain⟨g8,aL⟩:∃ q,w2.heap.size=q:=⟨_,rfl⟩;refine wp_gen (λ W'=>Below w2.heap.size w2 W'∧RowB W' g8 25 (vL v)) ⟨(Below.refl _ _).alloc (Nat.le_refl _) _,by rw [<-aL];exact RowB.new _ _ _⟩ ?_
 try simp only [aL]
 rintro w3 ⟨aE,R8⟩;rw [<-aL] at aE;have b7:=hb.size;have b8:=K.bel.size;have K:=K.below aE;have aT:=kD (λ l h=>((az l h).below aE (Nat.le_refl _)).more aE.size);clear hb aE aL az q0 q1 q2 q3 q4 q5 ac rm;have rm:=K.nth0 0 rfl;obtain⟨q0,q1,q2,q3,q4,q5⟩:=rm.c6;have ac:=rm.lt;obtain⟨z0,z1,z2,z3⟩:=R8.c4;have aA:=R8.lt;go_wp2_with fail;refine(CT.out w3).mono ?_;rintro e w4 ⟨rfl,hb⟩;have K:=K.below hb;have R8:=R8.below hb R8.lt;have aS:=kD (λ l h=>((aT.out l h).below hb (Nat.le_refl _)).more hb.size);clear CT q0 q1 q2 q3 q4 q5 ac rm z0 z1 z2 z3 aA hb aT;have rm:=K.nth0 0 rfl;obtain⟨q0,q1,q2,q3,q4,q5⟩:=rm.c6;have ac:=rm.lt;by_cases h0:z=0
 case neg =>
  have cJ:(z != 0)=true:=by simp [h0]
  have av:=bn.out;rw [if_neg h0] at av;subst av;have bh:=K.bel;clear K h0 q0 q1 q2 q3 q4 q5 ac rm;refine kD ?_
  repeat (first | go_values | go_skip | go_step | go_upon)
  refine bodyPost_ret (v:=.tuple #[.slice none 0 0,.int .i64 z]) (by simp [results,Tryz.results15,go_sem]) rfl ?_;exact⟨_,rfl,OwnS.nil_ _ _ _ _ _ _,bh⟩
 case pos =>
 subst h0;have av:=bn.out;rw [if_pos rfl] at av;have hz:=HZ.out;unfold codeT at hz;have b6:∃ xs,X=some xs:=by
  cases X with
  | none=>rw [if_pos (by rfl)] at hz;cases hz
  | some xs=>exact⟨xs,rfl⟩
 obtain⟨xs,rfl⟩:=b6;simp only [Option.isSome_some,Bool.true_eq_false,if_false,Bool.and_true] at hz
 try simp only [Option.isSome_some]
 have bF:0<=d∧d<=1:=by
  apply Decidable.byContradiction
  intro h;rw [if_pos (by simpa using h)] at hz
  cases hz
 rw [if_neg (by simpa using bF)] at hz;have aJ:smV v=true:=by
  cases h:smV v with
  | true=>rfl
  | false=>rw [if_pos h] at hz;cases hz
 have bs:v.p<=6:=by
  unfold smV at aJ;simp only [Bool.and_eq_true,decide_eq_true_eq] at aJ;exact aJ.2.1
 have ap:=HX.out;have aV:(finS v n es).isSome=true:=by rw [<-states_fin,ap];rfl
 have aq:=fin_parts aV;have cN:M<=300:=by rw [<-HM.out];exact aq.2
 have cA:=kD (show 1<=n∧n<=25 from(head_parts aq.1).2.2);have cy:=kD (start_ms aq.1);unfold statesP at ap;rw [if_neg (λ h=>h.elim (λ h=>by rw [aq.1] at h;cases h) (λ h=>by have:=aq.2;omega))] at ap;have aY:=stGo_len _ _ _ ap;rw [HM.out] at aY;have cp:Hid (stGo v n (startS v) (es.drop 0)=some (xs.drop 0)):=ap;obtain⟨dn,rfl⟩:∃ q:Nat,d=(q:Int):=⟨d.toNat,by omega⟩;have bE:dn<=1:=by omega
 rw [Int.toNat_natCast] at av;subst av;have HO:Hid (vdGo v n dn (startS v) es 0=[]++vdGo v n dn (startS v) (es.drop 0) 0):=rfl;obtain⟨aG,ao⟩:∃ o,vdGo v n dn (startS v) es 0=o:=⟨_,rfl⟩;rw [ao] at HO;have bO:=kD ao
 try simp only [ao]
 obtain⟨rs,al,be⟩:=aS.out xs rfl;have ai:rs.length=M+1:=by rw [be.1,aY]
 obtain⟨r0,bx⟩:∃ r,rs[0]?=some r:=⟨rs[0]'(by omega),List.getElem?_eq_getElem _⟩;obtain⟨S,cs,ay,-,-⟩:=own_row enMs_len al bx;obtain⟨A',c',bb,-⟩:=al.form enMs_len;rw [ai] at bb;simp only [Value.slice.injEq] at ay bb;obtain⟨rfl,-,rfl⟩:=ay;obtain⟨-,rfl,-⟩:=bb;have cx:=kD al;have cz:=kD be;have cw:=kD ai;have HK:=kD K;have H8:=kD R8;have cK:w.heap.size+1<=w4.heap.size:=ac;clear bx al be ai aS aY ap aq aV aJ hz bF HZ HX bn ao b8 b7;go_wp2_with fail;clear q0 q1 q2 q3 q4 q5 ac rm K R8;go_loopw [10,11,12,13,14,15,16,17,18,36] (λ b2 _ _ _ _ _ _ _ _ aX wr=>∃(k:Nat) (x:Ms) (vs:List V4),aX=.int .i64 (k:Int)∧k<=M∧vs.length<=k∧Hid (Below w4.heap.size w4 wr)∧Hid (OwnS wr w4.heap.size wr.heap.size 55 4 enI4 b2 vs)∧Hid (MsOk v n k x)∧Hid (stGo v n x (es.drop k)=some (xs.drop k))∧Hid (aG=vs++vdGo v n dn x (es.drop k) k)) (λ _ _ _ _ _ _ _ _ _ aX _=>M - (intOf aX).toNat)
 case atStart=>exact⟨0,startS v,[],by first | rfl | trivial,Nat.zero_le _,Nat.le_refl _,Below.refl _ _,OwnS.nil_ _ _ _ _ _ _,cy,cp,HO⟩
 case round =>
  obtain⟨k,x,vs,rfl,cM,cH,HB,aQ,aF,bj,hQ⟩:=hrel;by_cases hlt:k<M
  ·obtain⟨ba,oa,e,As,cq,rfl,bg,T,bt,ca,cb,cc,cd,aP⟩:=cB.out.at_ (i:=k) (by rw [HM.out];exact hlt);obtain⟨bq,y,hy,aU⟩:=stGo_at bg bj.out;have ar:=HK.out.bel.trans (HB.out.mono HK.out.bel.size);have ca:=(ar.cell (p:=⟨ba,oa+k*5,none⟩) T).trans ca;have cb:=(ar.cell (p:=⟨ba,oa+k*5+1,none⟩) T).trans cb;have cc:=(ar.cell (p:=⟨ba,oa+k*5+2,none⟩) T).trans cc;have cd:=(ar.cell (p:=⟨ba,oa+k*5+3,none⟩) T).trans cd;have aP:=(ar.cell (p:=⟨ba,oa+k*5+4,none⟩) T).trans aP;have T:=Nat.lt_of_lt_of_le T ar.size;have aW:=kD aU;have bQ:=kD (next_ms cA.out.1 aF.out hy);have aH:Hid (aG=(vs++(if e.k=2 then [vdE v dn x k e] else []))++vdGo v n dn y (es.drop (k+1)) (k+1)):=by
    show _=_
    rw [hQ.out,vdGo_drop bg hy k,List.append_assoc]
   have bL:=kD (λ h2:e.k=2=>turn_facts aF.out.gm h2 hy);have HG:=kD (gm_parts aF.out.gm);have bM:=kD (λ(C:World) (J:Below w.heap.size w C)=>(bt.keep (.below J)).rd);obtain⟨r,bc⟩:∃ r,rs[k]?=some r:=⟨rs[k]'(by rw [cw.out];omega),List.getElem?_eq_getElem _⟩;obtain⟨su,u1,u2,x'⟩:=r;obtain⟨x2,aZ,br,aK⟩:=cz.out.at_ bc;rw [bq] at aZ;simp only at br aK;subst br;obtain rfl:=Option.some.inj aZ;obtain⟨g',db,ay,bD,an⟩:=own_row enMs_len cx.out bc;simp only [Value.slice.injEq,Option.some.injEq,Addr.mk.injEq,and_true] at ay;obtain⟨rfl,-,-⟩:=ay;have bf:=bD.2;have G:=λ(j:Nat) (u:Value) (hu:(enMs (su,u1,u2,x))[j]?=some u)=>(HB.out.cell (p:=⟨S,k*12+j,none⟩) bf).trans (an j u hu)
   obtain⟨-,⟨B1,d1,rfl,bw,bC⟩,⟨B2,d2,rfl,bv,bB⟩⟩:=id aK;have y2:wr.cell? ⟨S,k*12+2,none⟩=some (.slice B1 x.g.b.1.length d1):=G 2 _ rfl;have y3:wr.cell? ⟨S,k*12+3,none⟩=some (.slice B2 x.g.b.2.length d2):=G 3 _ rfl;have y4:wr.cell? ⟨S,k*12+4,none⟩=some (.int .i64 x.g.pl):=G 4 _ rfl;have y5:wr.cell? ⟨S,k*12+5,none⟩=some (.int .i64 x.g.x):=G 5 _ rfl;have y6:wr.cell? ⟨S,k*12+6,none⟩=some (.int .i64 x.g.y):=G 6 _ rfl;have y7:wr.cell? ⟨S,k*12+7,none⟩=some (.int .i64 x.g.ph):=G 7 _ rfl;have y8:wr.cell? ⟨S,k*12+8,none⟩=some (.int .i64 x.g.wn):=G 8 _ rfl;have y9:wr.cell? ⟨S,k*12+9,none⟩=some (.int .i64 x.g.rs):=G 9 _ rfl;have aI:wr.cell? ⟨S,k*12+10,none⟩=some (.int .i64 x.g.tn):=G 10 _ rfl;have Y:S<wr.heap.size:=Nat.lt_of_lt_of_le bf HB.out.size;have co:=kD (λ(C:World) (J:Below wr.heap.size wr C)=>(⟨(J.cell (p:=⟨S,k*12+2,none⟩) Y).trans y2,(J.cell (p:=⟨S,k*12+3,none⟩) Y).trans y3,(J.cell (p:=⟨S,k*12+4,none⟩) Y).trans y4,(J.cell (p:=⟨S,k*12+5,none⟩) Y).trans y5,(J.cell (p:=⟨S,k*12+6,none⟩) Y).trans y6,(J.cell (p:=⟨S,k*12+7,none⟩) Y).trans y7,(J.cell (p:=⟨S,k*12+8,none⟩) Y).trans y8,(J.cell (p:=⟨S,k*12+9,none⟩) Y).trans y9,(J.cell (p:=⟨S,k*12+10,none⟩) Y).trans aI⟩:C.cell? ⟨S,k*12+2,none⟩=some (.slice B1 x.g.b.1.length d1)∧C.cell? ⟨S,k*12+3,none⟩=some (.slice B2 x.g.b.2.length d2)∧C.cell? ⟨S,k*12+4,none⟩=some (.int .i64 x.g.pl)∧C.cell? ⟨S,k*12+5,none⟩=some (.int .i64 x.g.x)∧C.cell? ⟨S,k*12+6,none⟩=some (.int .i64 x.g.y)∧C.cell? ⟨S,k*12+7,none⟩=some (.int .i64 x.g.ph)∧C.cell? ⟨S,k*12+8,none⟩=some (.int .i64 x.g.wn)∧C.cell? ⟨S,k*12+9,none⟩=some (.int .i64 x.g.rs)∧C.cell? ⟨S,k*12+10,none⟩=some (.int .i64 x.g.tn)));have cC:=kD aK.2;have bX:=kD (λ(C:World) (J:Below w4.heap.size w4 C)=>(bw.keep (.below J)).rd);have bW:=kD (λ(C:World) (J:Below w4.heap.size w4 C)=>(bv.keep (.below J)).rd);have bS:=kD bC;have bR:=kD bB;have aR:=kD (H8.out.below HB.out H8.out.lt);have cL:(k:Int)<((M+1:Nat):Int):=by omega
   have cG:IntKind.i64.wrap ((k:Int)+1)=(k:Int)+1:=IntWalk.i64_in _ (by omega);obtain⟨ek,ea,eb,ss,er⟩:=e;simp only at ca cb cc cd aP bL aH bM;obtain⟨sl,a9⟩:∃ q,ss.length=q:=⟨_,rfl⟩;rw [a9] at cd;have cr:=kD a9;clear bg hy aU a9 bt hQ aF bj bw bv bC bB aK bq aZ bc an G bD y2 y3 y4 y5 y6 y7 y8 y9 aI bf;go_upto_region 10 with fail;obtain⟨cl,ab⟩:∃ q,wr.heap.size=q:=⟨_,rfl⟩;refine wp_gen (λ W'=>Below wr.heap.size wr W'∧RowB W' cl 63 [.int .i64 ek,.int .i64 ea,.int .i64 eb,.slice As sl cq,.int .i64 er]) ⟨(Below.refl _ _).alloc (Nat.le_refl _) _,by rw [<-ab];exact RowB.new _ _ _⟩ ?_
   try simp only [ab]
   rintro w5 ⟨af,ag⟩;rw [<-ab] at af;clear ab ca cb cc cd aP T;obtain⟨k0,k1,k2,k3,k4⟩:=ag.c5;have aC:=ag.lt;by_cases h2:ek=2
   ·subst h2;obtain⟨ai,c,bd,hc⟩:=bL.out rfl;have hb:=HG.out.1;have ax:(1<=ea∧ea<=6)∧(1<=eb∧eb<=6):=by
     have h:=ai;unfold rollB at h;simp only [Bool.and_eq_true,decide_eq_true_eq] at h;have:=hb.v1;omega
    have CP:=kD (λ(C:World) (J:Below w4.heap.size w4 C)=>play_i v x.g.b hb _ _ _ ea eb ai ss As cq C.heap.size C (Nat.le_refl _) (cC.out.below J) (bM.out C (HK.out.bel.trans (J.mono HK.out.bel.size))));rw [cr.out,bd] at CP;obtain⟨N,hN⟩:∃ N:Nat,c.1.length=N:=⟨_,rfl⟩;have t:c.2.length=N:=by have:=hc.own.len;have:=hc.oth.len;omega
    obtain⟨LK,bk⟩:∃ z,luckP v dn x.g.b ea eb=z:=⟨_,rfl⟩;obtain⟨LF,bl⟩:∃ z,lossF v dn x.g.b ea eb c=z:=⟨_,rfl⟩;have bY:=kD (λ(C:World) (J:Below w4.heap.size w4 C)=>luckOf_i v x.g.b hb bs B1 B2 d1 d2 ea eb ax.1 ax.2 dn bE C (bX.out C J) (bW.out C J) bS.out bR.out);rw [bk] at bY;have aw:=kD (λ(C:World) (J:Below w4.heap.size w4 C) (E1 E2:Option Addr) (e1 e2:Nat) (r1:RdS C C.heap.size 1 enI E1 c.1) (r2:RdS C C.heap.size 1 enI E2 c.2)=>lossOf_i v x.g.b hb bs B1 B2 d1 d2 ea eb ax.1 ax.2 c hc E1 E2 e1 e2 dn bE C (bX.out C J) (bW.out C J) bS.out bR.out r1 r2);rw [hN,t,bl] at aw;obtain⟨LS,cE⟩:=LF;simp only at aw;have bJ:=kD (vdE_eq (L:=LS) (K:=LK) (v:=v) (d:=dn) (x:=x) (i:=k) (e:=⟨2,ea,eb,ss,er⟩) bd (by rw [bl]) bk);have bP:=kD (And.intro hN t);obtain⟨y2,y3,y4,y5,y6,y7,y8,y9,aI⟩:=co.out w5 af;have Y:=Nat.lt_of_lt_of_le Y af.size;clear ai bd hc hb ax t bk bl hN;go_upto_region 13 with fail;obtain⟨ak,ad⟩:∃ q,w5.heap.size=q:=⟨_,rfl⟩;refine wp_gen (λ W'=>Below w5.heap.size w5 W'∧RowB W' ak 57 (gmC (.slice B1 x.g.b.1.length d1) (.slice B2 x.g.b.2.length d2) x.g)∧RowB W' (ak+1) 30 [.int .i64 ea,.int .i64 eb]) ⟨by go_grown,by rw [<-ad];exact(RowB.new _ _ _).alloc _,by exact RowB.new' _ _ _ (by rw [<-ad];simp)⟩ ?_
    try simp only [ad]
    rintro wa ⟨T,W,V⟩;rw [<-ad] at T;clear ad y2 y3 y4 y5 y6 y7 y8 y9 aI k0 k1 k2 k3 k4 aC Y;have H:=af.trans (T.mono af.size);have aD:=HB.out.trans (H.mono HB.out.size);have ag:=ag.below T ag.lt;have R8:=aR.out.below H aR.out.lt;obtain⟨z0,z1,z2,z3⟩:=R8.c4;obtain⟨k0,k1,k2,k3,k4⟩:=ag.c5;obtain⟨a0,a1,a2,a3,a4,a5,a6,a7,a8⟩:=row9 W;obtain⟨r0,r1⟩:=V.c2;have aA:=R8.lt;have aC:=ag.lt;have P:=W.lt;have aB:=V.lt;clear T;go_wp2_with fail;refine(CP.out wa aD).mono ?_;rintro e wb ⟨v8,rfl,⟨u3,u4,c',rfl,ae,bG⟩,aM⟩;have bH:=bG c rfl;rw [bH] at ae;obtain⟨⟨E1,e1,rfl,s1,-⟩,⟨E2,e2,rfl,s2,-⟩⟩:=ae;rw [bP.out.1,bP.out.2];have bU:=kD (λ(C:World) (J:Below wb.heap.size wb C)=>(s1.keep (.below J)).rd);have bT:=kD (λ(C:World) (J:Below wb.heap.size wb C)=>(s2.keep (.below J)).rd);have H:=H.trans (aM.mono H.size);have W:=W.below aM W.lt;have V:=V.below aM V.lt;clear s1 s2 bG bH aM aD CP z0 z1 z2 z3 k0 k1 k2 k3 k4 a0 a1 a2 a3 a4 a5 a6 a7 a8 r0 r1 aA aC P aB R8 ag;go_upto_region 14 with fail;obtain⟨ck,am⟩:∃ q,wb.heap.size=q:=⟨_,rfl⟩;refine wp_gen (λ W'=>Below wb.heap.size wb W'∧RowB W' ck 28 [.slice E1 N e1,.slice E2 N e2]) ⟨(Below.refl _ _).alloc (Nat.le_refl _) _,by rw [<-am];exact RowB.new _ _ _⟩ ?_
    try simp only [am]
    rintro wc ⟨aj,bm⟩;rw [<-am] at aj;clear am;have H:=H.trans (aj.mono H.size);have aD:=HB.out.trans (H.mono HB.out.size);have W:=W.below aj W.lt;have V:=V.below aj V.lt;have R8:=aR.out.below H aR.out.lt;obtain⟨z0,z1,z2,z3⟩:=R8.c4;obtain⟨a0,a1,a2,a3,a4,a5,a6,a7,a8⟩:=row9 W;obtain⟨r0,r1⟩:=V.c2;obtain⟨b0,b1⟩:=bm.c2;have aA:=R8.lt;have P:=W.lt;have aB:=V.lt;have bA:=bm.lt;have aw:=kD (aw.out wc aD E1 E2 e1 e2 (bU.out wc aj) (bT.out wc aj));clear aj bU bT;go_wp2_with fail;refine aw.out.mono ?_;rintro e wd ⟨rfl,ae⟩;have H:=H.trans (ae.mono H.size);have E:=kD (W.below ae W.lt);have aa:=kD (V.below ae V.lt);have Z:=kD (R8.below ae R8.lt);have ah:=kD (HB.out.trans (H.mono HB.out.size));have bN:=kD ((aQ.out.below H (Nat.le_refl _)).more H.size);have dc:=kD H;clear ae H aD aw W V bm R8 z0 z1 z2 z3 a0 a1 a2 a3 a4 a5 a6 a7 a8 r0 r1 b0 b1 aA P aB bA;go_upto_region 15 with fail;refine region_rel [some 74,some 75,some 76,some 77,some 78,some 79,some 80,some 81,some 82,some 83,some 84,some 85,some 86,some 87,some 10] 15 (Pl [some (u10),some (.int .i64 (k:Int)),some (.pointer (some ⟨ak,2,none⟩)),some (.int .i64 x.g.pl),some (.int .i64 LS),some (.agg #[.int .i64 v.p,.int .i64 v.c,.int .i64 v.h,.int .i64 v.s]),some (.pointer (some ⟨ak,0,none⟩)),some (.agg #[.slice B1 x.g.b.1.length d1,.slice B2 x.g.b.2.length d2]),some (.agg #[.int .i64 ea,.int .i64 eb]),some (.int .i64 (dn:Int)),some (.int .i64 LK),some (.agg #[.int .i64 (k:Int),.int .i64 x.g.pl,.int .i64 LS,.int .i64 LK]),none,none,none]) (λ L D w'=>VdF wd w4.heap.size u10 vs ((k:Int),x.g.pl,LS,LK) (L 12) (L 13) (L 14) (D 12) (D 13) (D 14) w') (by kernel_rfl) (by kernel_rfl) (by kernel_rfl) (by kernel_rfl) (by kernel_rfl) (by kernel_rfl) (by first | kernel_rfl | rfl) ?g0_1 ?gst_1 ?gfin_1
    case g0_1=>exact⟨λ _=>(Below.refl _ _).drew,λ h=>absurd h (by decide),λ h=>absurd h (by decide),λ h=>absurd h (by decide)⟩
    case gst_1 =>
     refine rN rfl (λ L D A C B I t U F K Q=>?_) ?_
     ·have c8:A.tmps[10]?.getD undef=u10:=U.z 10 (λ j hl hj=>by obtain rfl:=nd_of _ (by kernel_rfl) j 14 10 hj rfl;exact B (t 14 0 (by kernel_rfl) hl));have a:=F.pre (λ h=>B (t 13 0 (by kernel_rfl) h));clear a;go_simp;exact pF Q (F.skip 0 _)
     refine rN rfl (λ L D A C B I t U F K Q=>?_) ?_
     ·have c7:=U.w 11 (.int .i64 (k:Int));have a:=F.pre (λ h=>B (t 13 1 (by kernel_rfl) h));clear a;go_simp;exact pF Q (F.skip 1 _)
     refine rN rfl (λ L D A C B I t U F K Q=>?_) ?_
     ·have aO:=U.w 13 (.pointer (some ⟨ak,0,none⟩));have a:=F.pre (λ h=>B (t 13 2 (by kernel_rfl) h));obtain⟨q0,q1,q2,q3⟩:=(Z.out.below a Z.out.lt).c4;have O:=row9 (E.out.below a E.out.lt);have z0:=O.1;have z1:=O.2.1;have z2:=O.2.2.1;obtain⟨r0,r1⟩:=(aa.out.below a aa.out.lt).c2;have P:=(E.out.below a E.out.lt).lt;clear O a;go_simp;exact pF Q (F.skip 2 _)
     refine rN rfl (λ L D A C B I t U F K Q=>?_) ?_
     ·have c0:=U.v 2 76;have a:=F.pre (λ h=>B (t 13 3 (by kernel_rfl) h));obtain⟨q0,q1,q2,q3⟩:=(Z.out.below a Z.out.lt).c4;have O:=row9 (E.out.below a E.out.lt);have z0:=O.1;have z1:=O.2.1;have z2:=O.2.2.1;obtain⟨r0,r1⟩:=(aa.out.below a aa.out.lt).c2;have P:=(E.out.below a E.out.lt).lt;clear O a;go_simp;exact pF Q (F.skip 3 _)
     refine rN rfl (λ L D A C B I t U F K Q=>?_) ?_
     ·have c3:=U.w 17 (.int .i64 LS);have a:=F.pre (λ h=>B (t 13 4 (by kernel_rfl) h));clear a;go_simp;exact pF Q (F.skip 4 _)
     refine rN rfl (λ L D A C B I t U F K Q=>?_) ?_
     ·have e8:=U.w 8 (.pointer (some ⟨g8,0,none⟩));have a:=F.pre (λ h=>B (t 13 5 (by kernel_rfl) h));obtain⟨q0,q1,q2,q3⟩:=(Z.out.below a Z.out.lt).c4;have O:=row9 (E.out.below a E.out.lt);have z0:=O.1;have z1:=O.2.1;have z2:=O.2.2.1;obtain⟨r0,r1⟩:=(aa.out.below a aa.out.lt).c2;have P:=(E.out.below a E.out.lt).lt;clear O a;go_simp;exact pF Q (F.skip 5 _)
     refine rN rfl (λ L D A C B I t U F K Q=>?_) ?_
     ·have aO:=U.w 13 (.pointer (some ⟨ak,0,none⟩));have a:=F.pre (λ h=>B (t 13 6 (by kernel_rfl) h));obtain⟨q0,q1,q2,q3⟩:=(Z.out.below a Z.out.lt).c4;have O:=row9 (E.out.below a E.out.lt);have z0:=O.1;have z1:=O.2.1;have z2:=O.2.2.1;obtain⟨r0,r1⟩:=(aa.out.below a aa.out.lt).c2;have P:=(E.out.below a E.out.lt).lt;clear O a;go_simp;exact pF Q (F.skip 6 _)
     refine rN rfl (λ L D A C B I t U F K Q=>?_) ?_
     ·have cW:=U.v 6 80;have a:=F.pre (λ h=>B (t 13 7 (by kernel_rfl) h));obtain⟨q0,q1,q2,q3⟩:=(Z.out.below a Z.out.lt).c4;have O:=row9 (E.out.below a E.out.lt);have z0:=O.1;have z1:=O.2.1;have z2:=O.2.2.1;obtain⟨r0,r1⟩:=(aa.out.below a aa.out.lt).c2;have P:=(E.out.below a E.out.lt).lt;clear O a;go_simp;exact pF Q (F.skip 7 _)
     refine rN rfl (λ L D A C B I t U F K Q=>?_) ?_
     ·have aN:=U.w 14 (.pointer (some ⟨ak+1,0,none⟩));have a:=F.pre (λ h=>B (t 13 8 (by kernel_rfl) h));obtain⟨q0,q1,q2,q3⟩:=(Z.out.below a Z.out.lt).c4;have O:=row9 (E.out.below a E.out.lt);have z0:=O.1;have z1:=O.2.1;have z2:=O.2.2.1;obtain⟨r0,r1⟩:=(aa.out.below a aa.out.lt).c2;have P:=(E.out.below a E.out.lt).lt;clear O a;go_simp;exact pF Q (F.skip 8 _)
     refine rN rfl (λ L D A C B I t U F K Q=>?_) ?_
     ·have e1:=U.w 1 (.int .i64 (dn:Int));have a:=F.pre (λ h=>B (t 13 9 (by kernel_rfl) h));clear a;go_simp;exact pF Q (F.skip 9 _)
     refine rN rfl (λ L D A C B I t U F K Q=>?_) ?_
     ·have cX:=U.v 5 79;have cV:=U.v 7 81;have cU:=U.v 8 82;have cT:=U.v 9 83;have a:=F.pre (λ h=>B (t 13 10 (by kernel_rfl) h));go_simp;refine(bY.out C (ah.out.trans (a.mono ah.out.size))).mono ?_;rintro e w6 ⟨rfl,H⟩;exact pF Q ((F.below (λ h=>B (t 13 10 (by kernel_rfl) h)) H).skip 10 _)
     refine rN rfl (λ L D A C B I t U F K Q=>?_) ?_
     ·have c1:=U.v 1 75;have cZ:=U.v 3 77;have cY:=U.v 4 78;have cS:=U.v 10 84;have a:=F.pre (λ h=>B (t 13 11 (by kernel_rfl) h));clear a;go_simp;exact pF Q (F.skip 11 _)
     refine rN rfl (λ L D A C B I t U F K Q=>?_) ?_
     ·have cR:=U.v 11 85;go_simp;exact Q.out _ _ (Pl.any rfl) (by simpa [upd,enI4] using F.s12 (λ h=>B (t 13 12 (by kernel_rfl) h)))
     refine rN rfl (λ L D A C B I t U F K Q=>?_) ?_
     ·have cn:=U.v 0 74;have cm:=U.x 12 86;have a:=F.pre B;refine(F.f12 (bK I 12) B).elim λ cj bp=>?_
      have o9:=(bN.out.below a (Nat.le_refl _)).more a.size;refine wp_one _ _ _ rfl w4.heap.size C.heap.size 55 iv (.agg #[.int .i64 0,.int .i64 0,.int .i64 0,.int .i64 0]) 4 32 Tryz.underlying51 cf b5 b4 b3 rfl (by decide) enI4_len' u10 vs ((k:Int),x.g.pl,LS,LK) (one_Vd _) (ev cn) o9 cj 1 55 ((ev cm).trans bp.1) bp.2 (by unfold maxLen;omega) (by omega) (by have:=a.size;have:=ah.out.size;omega) ?_;intro cP da bZ bz ab bi b9;exact Q.out _ bZ (Pl.any rfl) (by simpa [upd] using F.s13 (λ h=>B (t 14 13 (by kernel_rfl) h)) bz (below_grown a ab) (bi.imp id (λ h=>by have:=a.size;omega)))
     refine rN rfl (λ L D A C B I t U F K Q=>?_) ?_
     ·have cQ:=U.x 13 87;go_simp;exact Q.out _ C (Pl.any rfl) (by simpa [upd] using F.s14)
     exact RelFrom.nil (by decide)
    intro D C hp F;simp only [Fr,Act.put,sX,Nat.reduceAdd];obtain⟨cO,cF,c9,aO,ho,hg,cg⟩:=F.f13 trivial;have aN:=F.f14 trivial;rw [aO] at aN ho;clear F hp aO;rw [aN];have cD:=kD (ah.out.grown hg ah.out.size (λ r hr=>(bN.out.block r hr).1));have bo:Hid (aG=(vs++[((k:Int),x.g.pl,LS,LK)])++vdGo v n dn y (es.drop (k+1)) (k+1)):=by
     show _=_
     first | rw [aH.out,if_pos rfl,bJ.out] | rw [aH.out,if_pos trivial,bJ.out]
    have ct:=kD ho;clear hg cg aN ho;go_wp2_with fail;go_roundw
    case rel =>
     exact⟨k+1,y,_,by first | rfl | go_num,by omega,by simp;omega,cD,ct,bQ,aW,bo⟩
    case measure=>simp [intOf];omega
   ·have cI:(ek != 2)=true:=by simp [h2]
    have bo:Hid (aG=vs++vdGo v n dn y (es.drop (k+1)) (k+1)):=by
     show _=_
     rw [aH.out,if_neg h2,List.append_nil]
    have bV:=kD (HB.out.trans (af.mono HB.out.size));have cv:=kD ((aQ.out.below af (Nat.le_refl _)).more af.size);clear h2 aH;go_wp2_with fail;go_roundw
    case rel=>exact⟨k+1,y,vs,by first | rfl | go_num,by omega,by omega,bV,cv,bQ,aW,bo⟩
    case measure=>simp [intOf];omega
  ·obtain rfl:M=k:=by omega
   have ch:aG=vs:=by rw [hQ.out,<-HM.out,vdGo_end,List.append_nil]
   subst ch;have bh:=HK.out.bel.trans (HB.out.mono HK.out.bel.size);have az:=aQ.out.less (lo':=w.heap.size) (by omega);clear hQ aF bj HK HB aQ;go_wp2_with fail;refine bodyPost_ret (v:=.tuple #[u10,.int .i64 0]) (by simp [results,Tryz.results15,go_sem]) rfl ?_;exact⟨_,rfl,by first | exact az | (rw [bO.out];exact az),bh⟩
end VdP
namespace VdP
open Go PlP TxP Gm HmP Bd15 Bd29 Bd31 Bd32
theorem vd_mem {v:Vr} {n:Int} {d:Nat}:∀(es:List Ev) (x:Ms) (i:Nat) (V:V4),(enS v n x es).isSome=true->V ∈ vdGo v n d x es i ->
  ∃(j:Nat) (e:Ev) (y z:Ms),es[j]?=some e∧e.k=2∧enS v n x (es.take j)=some y∧nextS v n y e=some z∧V=vdE v d y (i+j) e:=by
 intro es
 induction es with
 | nil=>intro x i V b a;simp [vdGo] at a
 | cons e es ih =>
  intro x i V b a;simp only [enS] at b
  cases hy:nextS v n x e with
  | none=>rw [hy] at b;cases b
  | some y =>
   rw [hy] at b;simp only [vdGo,hy,List.mem_append] at a;rcases a with a | a
   ·by_cases c:e.k=2
    ·rw [if_pos c] at a;obtain rfl:=List.mem_singleton.1 a;exact⟨0,e,x,y,rfl,c,rfl,hy,rfl⟩
    ·rw [if_neg c] at a;simp at a
   ·obtain⟨j,o,f,z,m,c,l,h,g⟩:=ih y (i+1) V b a;refine⟨j+1,o,f,z,m,c,?_,h,by rw [g,Nat.add_assoc,Nat.add_comm 1 j]⟩;simp only [List.take_succ_cons,enS,hy];exact l
theorem en_ms {v:Vr} {n:Int} (hn:1<=n):∀(es:List Ev) (i:Nat) (x y:Ms),MsOk v n i x->enS v n x es=some y->MsOk v n (i+es.length) y:=by
 intro es
 induction es with
 | nil=>intro i x y a h;simp only [enS,Option.some.injEq] at h;subst h;exact a
 | cons e es ih =>
  intro i x y a h;simp only [enS] at h
  cases hy:nextS v n x e with
  | none=>rw [hy] at h;cases h
  | some z =>
   rw [hy] at h;have:=ih (i+1) z y (next_ms hn a hy) h
   rwa [List.length_cons,show i+(es.length+1)=i+1+es.length by omega]
theorem st_last {v:Vr} {n:Int}:∀(es:List Ev) (x:Ms) (xs:List Ms),stGo v n x es=some xs->xs[es.length]?=enS v n x es:=by
 intro es
 induction es with
 | nil=>intro x xs h;simp only [stGo,Option.some.injEq] at h;subst h;rfl
 | cons e es ih =>
  intro x xs h;simp only [stGo] at h
  cases hy:nextS v n x e with
  | none=>rw [hy] at h;cases h
  | some y =>
   rw [hy] at h;simp only at h
   cases hr:stGo v n y es with
   | none=>rw [hr] at h;cases h
   | some r =>
    rw [hr] at h;simp only [Option.map_some,Option.some.injEq] at h;subst h;simp only [List.length_cons,List.getElem?_cons_succ,enS,hy];exact ih y r hr
theorem fin_last {v:Vr} {n:Int} {es:List Ev} {x:Ms} (h:finS v n es=some x):∃ xs,statesP v n es=some xs∧xs[es.length]?=some x∧xs.length=es.length+1:=by
 have c:(finS v n es).isSome=true:=by rw [h];rfl
 have b:=fin_parts c;have d:¬ (headB v n=false∨300<es.length):=λ q=>q.elim (λ q=>by rw [b.1] at q;cases q) (λ q=>by have:=b.2;omega)
 have e:(statesP v n es).isSome=true:=by rw [states_fin];exact c
 obtain⟨xs,a⟩:=Option.isSome_iff_exists.1 e;refine⟨xs,a,?_⟩;unfold statesP at a;rw [if_neg d] at a;refine⟨?_,stGo_len _ _ _ a⟩;rw [st_last _ _ _ a];unfold finS at h;rw [if_neg d] at h;exact h
theorem vd_turn {v:Vr} {n:Int} {es:List Ev} {d:Int} {Ls:List V4} {V:V4} (h0:rvR v n es d=(Ls,0)) (hV:V ∈ Ls) :
  ∃(j:Nat) (e:Ev) (y:Ms) (c:Bd),es[j]?=some e∧finS v n (es.take j)=some y∧MsOk v n j y∧j<=300∧rollB v e.a e.b=true∧playP v y.g.b e.a e.b e.ss=some c∧Ok v c∧V.1=(j:Int)∧V.2.1=y.g.pl∧lossR v y.g.b e.a e.b c d=(V.2.2.1,0)∧luckR v y.g.b e.a e.b d=(V.2.2.2,0):=by
 obtain⟨N,H⟩:∃ q,(finS v n es).isSome=q:=⟨_,rfl⟩;unfold rvR at h0;by_cases hc:codeT v (finS v n es).isSome true d=0
 rotate_left
 ·rw [if_neg hc] at h0;simp only [Prod.mk.injEq] at h0;exact absurd h0.2 hc
 rw [if_pos hc] at h0;simp only [Prod.mk.injEq,and_true] at h0;subst h0;have f:(finS v n es).isSome=true:=by
  cases h:(finS v n es).isSome with
  | true=>rfl
  | false=>rw [h] at hc;unfold codeT at hc;simp at hc
 rw [f] at hc;have m:=fin_parts f;have B:¬ (headB v n=false∨300<es.length):=λ q=>q.elim (λ q=>by rw [m.1] at q;cases q) (λ q=>by have:=m.2;omega)
 have A:(enS v n (startS v) es).isSome=true:=by
  have h:=f;unfold finS at h;rw [if_neg B] at h;exact h
 obtain⟨j,e,y,z,F,M,E,J,I⟩:=vd_mem es (startS v) 0 V A hV;have w:=(List.getElem?_eq_some_iff.1 F).1;have k:=en_ms (head_parts m.1).2.2.1 (es.take j) 0 _ _ (start_ms m.1) E;rw [Nat.zero_add,List.length_take,Nat.min_eq_left (Nat.le_of_lt w)] at k;obtain⟨o,c,l,r⟩:=turn_facts k.gm M J;have s:=(gm_parts k.gm).1;have x:finS v n (es.take j)=some y:=by
  unfold finS;rw [if_neg (λ q=>q.elim (λ q=>by rw [m.1] at q;cases q) (λ q=>by rw [List.length_take] at q;have:=m.2;omega))];exact E
 have D:=okB_iff.2 s;have p:=okB_iff.2 r;have C:okR v e.a e.b=true:=o;obtain⟨q,O,G,t⟩:=loss_at (d:=d.toNat) (play_all (by have:=s.v1;omega) l);have i:V=vdE v d.toNat y j e:=by rw [I,Nat.zero_add]
 rw [vdE_eq (L:=(lossF v d.toNat y.g.b e.a e.b c).1) (K:=luckP v d.toNat y.g.b e.a e.b) l rfl rfl] at i;refine⟨j,e,y,c,F,x,k,by have:=m.2;omega,o,l,r,by rw [i],by rw [i],?_,?_⟩
 ·unfold lossR;rw [D,p,C,Bool.and_true,if_pos hc,i,t,if_pos rfl]
 ·unfold luckR;rw [D,C,if_pos hc,i]
end VdP
end Go.Proofs.YtmncnhbjifeoeaaGreat
