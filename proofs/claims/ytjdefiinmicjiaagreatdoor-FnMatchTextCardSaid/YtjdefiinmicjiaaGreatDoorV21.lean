/- Parts of a proof. Conditions: each theorem's own. -/
import Derived.Test.YtjdefiinmicjiaaGreatDoorV19
import Derived.Test.YtjdefiinmicjiaaGreatDoorV20
import Derived.Shelf.Strings.BuilderF
set_option linter.unusedVariables false
set_option linter.unusedSimpArgs false
set_option maxHeartbeats 8000000
set_option maxRecDepth 100000
namespace Go.Proofs.YtjdefiinmicjiaaGreatDoor
open _root_.Go.Proofs.Tryz
namespace Gm
open Go Go.ChangeShapes Go.WideShapes Go.ChangeAt Go.RowKit Base Ints Own RelG PlP TxP Num Bd1 Bd5 Bd8 RegInv RegF RegG TxI TsI
theorem own_row {α:Type} {w:World} {lo hi sz:Nat} {e:TypeId} {en:α->List Value} {v:Value} {xs:List α} (hen:∀ x,(en x).length=sz) (h:OwnS w lo hi e sz en v xs) {k:Nat} {r:α} (hk:xs[k]?=some r) :
  ∃ g c,v=.slice (sA g 0) xs.length c∧(lo<=g∧g<hi)∧∀ j u,(en r)[j]?=some u->w.cell? ⟨g,k*sz+j,none⟩=some u:=by
 have a:=(List.getElem?_eq_some_iff.1 hk).1;rcases h.cases_ with ⟨_,h0⟩ | ⟨g,cap,rest,e1,h1,h2,-,-,-,-⟩
 ·rw [h0] at a;simp at a
 ·obtain⟨A,c,f,d⟩:=h.form hen;rw [e1] at f;simp only [Value.slice.injEq] at f;obtain⟨rfl,-,-⟩:=f;obtain⟨b,l,i,-,n⟩:=d.2 (by omega);simp only [Option.some.injEq,Addr.mk.injEq] at i;obtain⟨rfl,rfl,-⟩:=i;exact⟨g,cap,e1,⟨h1,h2⟩,λ j u m=>by have:=n k r hk j u m;rwa [Nat.zero_add] at this⟩
abbrev MRow:=Value × Value × Value × Ms
def enMs (r:MRow):List Value:=msC r.1 r.2.1 r.2.2.1 r.2.2.2
theorem enMs_len (r:MRow):(enMs r).length=12:=rfl
theorem infoMs:(Tryz.prog.info? 57).map (λ i=>(i.zero,i.size,i.bytes))=some (some (.agg ⟨nulMC⟩),12,144):=by kernel_rfl
def RelMs:Rel MRow Ms where
 R:=λ w S r x=>r.2.2.2=x∧MsR w S r.1 r.2.1 r.2.2.1 x
 keep:=λ h hs=>⟨h.1,h.2.keep hs⟩
 weak:=λ h hs=>⟨h.1,h.2.weak hs⟩
theorem one_Ms {A0 A1 A2:Option Addr} {m0 c0 m1 c1 m2 c2:Nat} {x:Ms}:∀ u ∈ enMs (.slice A0 m0 c0,.slice A1 m1 c1,.slice A2 m2 c2,x),u.oneCell'=true:=by
 intro u a;simp only [enMs,msC,List.mem_cons,List.not_mem_nil,or_false] at a;rcases a with rfl | rfl | rfl | rfl | rfl | rfl | rfl | rfl | rfl | rfl | rfl | rfl <;> rfl
theorem stGo_drop {v:Vr} {n:Int} {es:List Ev} {k:Nat} {e:Ev} (x:Ms) (h:es[k]?=some e):stGo v n x (es.drop k)=(match nextS v n x e with | some y=>(stGo v n y (es.drop (k+1))).map (x :: ·) | none=>none):=by
 obtain⟨a,b⟩:=List.getElem?_eq_some_iff.1 h;rw [List.drop_eq_getElem_cons a,b]
 rfl
theorem stGo_end {v:Vr} {n:Int} {es:List Ev} (x:Ms):stGo v n x (es.drop es.length)=some [x]:=by rw [List.drop_eq_nil_of_le lR];rfl
theorem stGo_fin (v:Vr) (n:Int):∀(es:List Ev) (x:Ms),(stGo v n x es).isSome=(enS v n x es).isSome:=by
 intro es
 induction es with
 | nil=>intro x;rfl
 | cons e es ih =>
  intro x;simp only [stGo,enS]
  cases nextS v n x e with
  | none=>rfl
  | some y=>simp only [Option.isSome_map,ih]
theorem states_fin (v:Vr) (n:Int) (es:List Ev):(statesP v n es).isSome=(finS v n es).isSome:=by
 unfold statesP finS;split
 ·rfl
 ·exact stGo_fin v n es _
structure Sgs (w wr:World) (v:Vr) (n:Int) (ev sv:Value) (xs:List Ms):Prop where
 k:Rows w wr [(0,37,[iL v.p,iL v.c,iL v.h,iL v.s,iL n,ev])]
 st:OwnG RelMs wr (w.heap.size+1) wr.heap.size 57 12 enMs sv xs
theorem Sgs.below {w wr w':World} {v:Vr} {n:Int} {ev sv:Value} {xs:List Ms} (K:Sgs w wr v n ev sv xs) (hb:zB wr w'):Sgs w w' v n ev sv xs :=
 ⟨K.k.below hb,(K.st.below hb lR).more hb.size⟩
theorem Sgs.app {w wr w1:World} {v:Vr} {n:Int} {ev sv:Value} {xs:List Ms} {rs:List MRow} {r:MRow} {x:Ms} {g m c:Nat} (k:Rows w wr [(0,37,[iL v.p,iL v.c,iL v.h,iL v.s,iL n,ev])]) (h2:LsR RelMs wr (NotIn sv (w.heap.size+1)) rs xs)
  (hx:RelMs.R wr (NotIn sv (w.heap.size+1)) r x) (ho:OwnS w1 (w.heap.size+1) w1.heap.size 57 12 enMs (.slice (sA g 0) m c) (rs++[r])) (hg:wr.grownBy w1 sv.ownBlock) (hat:sv.ownBlock=some g∨g=wr.heap.size) (hlo:∀ q,sv.ownBlock=some q->w.heap.size+1<=q) :
  Sgs w w1 v n ev (.slice (sA g 0) m c) (xs++[x]):=by
 refine⟨⟨k.bel.grown hg k.bel.size (λ q b=>by have:=hlo q b;omega),λ p j=>?_⟩,rs++[r],ho,LsR.snoc ⟨h2.1,λ i e d f a=>app_still hg hat (h2.2 i e d f a)⟩ (app_still hg hat hx)⟩;obtain rfl:=List.mem_singleton.1 j;exact(k.at_ _ (List.mem_singleton.2 rfl)).grown hg (λ q b=>by have:=hlo q b;simp only;omega)
def StR (o:Option (List Ms)) (w:World) (e:Ending) (w':World):Prop :=
 ∃ A m c,e=.returned (.tuple #[.slice A m c,.bool o.isSome])∧(∀ l,o=some l->OwnG RelMs w' w.heap.size w'.heap.size 57 12 enMs (.slice A m c) l)∧Below w.heap.size w w'
theorem states_i (v:Vr) (n:Int) (es:List Ev) (Ae:Option Addr) (ce:Nat) (w:World) (hes:EvL w All Ae es) (X:Option (List Ms)) (hX:statesP v n es=X) :
  Calls prog 39 #[.agg #[iL v.p,iL v.c,iL v.h,iL v.s,iL n,.slice Ae es.length ce]] w λ f w'=>StR X w f w':=by
 obtain⟨a5,aM,a8,a7,a6⟩:=info_parts infoMs;obtain⟨hd,ay⟩:=eX (headB v n);have CH:=kD (λ(ev:Value) (C:World)=>head_i v n ev hd ay C);have bi:=hes.len;have bq:=kD (λ(C:World) (h9:zB w C)=>hes.keep (.below h9));obtain⟨M,hM⟩:=eX (es.length);rw [hM] at bi ⊢;have HM:=kD hM;have am:=kD hX;have aE:=kD ay;obtain⟨ag,ht⟩:=eX ((!hd || decide (300<M)));have HT:=kD ht;clear hes hM hX ay ht;go_enter func39,ntmps39;go_upto_region 1 with fail;refine wp_gen (λ W'=>Rows w W' [(0,37,[iL v.p,iL v.c,iL v.h,iL v.s,iL n,.slice Ae M ce])]) ⟨by go_grown,λ p P=>?_⟩ ?_
 ·obtain rfl:=List.mem_singleton.1 P;exact nW
 intro w1 K;have E:=K.nth0 0 rfl;obtain⟨q0,q1,q2,q3,q4,q5⟩:=E.c6;have N:=E.lt;go_cut [17] from 9 to 17 (λ a4 wx=>a4=.bool ag∧Below w1.heap.size w1 wx)
 case first =>
  cases hd with
  | false =>
   have ht:ag=true:=by rw [<-HT.out];rfl
   subst ht;go_wp2_with fail;refine(CH.out _ _).mono ?_;rintro e w2 ⟨rfl,Z⟩;go_wp2_with fail;go_meet;exact⟨rfl,Z⟩
  | true =>
   have ht:ag=decide (300<M):=by rw [<-HT.out];simp
   subst ht;go_wp2_with fail;refine(CH.out _ _).mono ?_;rintro e w2 ⟨rfl,Z⟩;have E:=(K.below Z).nth0 0 rfl;clear q0 q1 q2 q3 q4 q5 N;obtain⟨q0,q1,q2,q3,q4,q5⟩:=E.c6;have N:=E.lt;go_wp2_with fail;go_meet;exact⟨by first | rfl | (congr 1;simp;done) | (by_cases h3:300<M <;> simp [h3] <;> omega),Z⟩
 case rest =>
 obtain⟨rfl,Z⟩:=hcut;have K:=K.below Z;clear Z CH q0 q1 q2 q3 q4 q5 N E;have E:=K.nth0 0 rfl;obtain⟨q0,q1,q2,q3,q4,q5⟩:=E.c6;have N:=E.lt
 cases ag with
 | true =>
  have aB:X=none:=by
   rw [<-am.out];unfold statesP;rw [if_pos];have h:=HT.out;rw [aE.out,HM.out]
   cases hd with
   | false=>exact .inl rfl
   | true=>exact .inr (by simpa using h)
  subst aB;clear am;have ac:=K.bel;clear K q0 q1 q2 q3 q4 q5 N E;refine kD ?_
  repeat (first | go_values | go_skip | go_step | go_upon)
  refine bodyPost_ret (v:=.tuple #[.slice none 0 0,.bool false]) (by simp [results,results39,go_sem]) rfl ?_;exact⟨none,0,0,rfl,λ l h=>(by cases h),ac⟩
 | false =>
 have hh:headB v n=true∧M<=300:=by
  have h:=HT.out;rw [aE.out]
  cases hd with
  | false=>cases h
  | true=>exact⟨rfl,by simpa using h⟩
 have bm:Hid (X=(stGo v n (startS v) es).map ([]++·)):=by
  show _=_
  rw [<-am.out];unfold statesP;rw [if_neg (λ h=>h.elim (λ h=>by rw [hh.1] at h;cases h) (λ h=>by rw [HM.out] at h;omega))]
  cases stGo v n (startS v) es <;> rfl
 have bB:M<=300:=hh.2;have ah:=head_parts hh.1;have CF:=kD (λ(C:World)=>fst_i v ah.1 ah.2.1 C);have bo:=kD (start_ms hh.1);have a1:=kD (show 1<=n∧n<=25 from ah.2.2);clear hh ah am HT aE;go_wp2_with fail;refine(CF.out _).mono ?_;rintro e w3 ⟨v6,rfl,⟨su,u1,u2,rfl,I⟩,Z⟩;have bc:=(K.nth0 0 rfl).lt;have aJ:=Z.size;have K:=K.below Z;clear Z CF q0 q1 q2 q3 q4 q5 N E;obtain⟨⟨A0,c0,rfl,-,-⟩,⟨A1,c1,rfl,-,-⟩,⟨A2,c2,rfl,-,-⟩⟩:=id I;have aZ:=kD (show MsR w3 (NotIn (.slice (sA w3.heap.size 0) 1 1) (w.heap.size+1)) _ _ _ (startS v) from I.weak (λ b h hl=>by
  have h:=h.elim False.elim id;exact⟨λ e=>by simp [Value.ownBlock] at e;omega,by omega⟩))
 clear I;simp only [msC,List.length_cons,List.length_nil,Nat.zero_add,Nat.reduceAdd];go_upto_region 4 with fail;refine wp_gen (λ W'=>Sgs w W' v n (.slice Ae M ce) (.slice (sA w3.heap.size 0) 1 1) [startS v]) ⟨K.below ((zRf).alloc lR _),[(.slice A0 2 c0,.slice A1 (startS v).g.b.1.length c1,.slice A2 (startS v).g.b.2.length c2,startS v)],RowB.own (xs:=[(.slice A0 2 c0,.slice A1 (startS v).g.b.1.length c1,.slice A2 (startS v).g.b.2.length c2,startS v)]) (nW) enMs_len (by omega) (by simp) (show (1:Nat)<=maxLen by decide),LsR.snoc (LsR.nil _ _ _) ⟨rfl,aZ.out.keep (.below ((zRf).alloc lR _))⟩⟩ ?_;clear K aZ;obtain⟨g4,aO⟩:=eX (w3.heap.size);rw [aO] at aJ ⊢;clear aO;intro w4 K;have HK:=kD K;have E:=K.k.nth0 0 rfl;obtain⟨q0,q1,q2,q3,q4,q5⟩:=E.c6;have N:=E.lt;clear K bc aJ;go_wp2_with fail;clear q0 q1 q2 q3 q4 q5 N E;go_loopw [2,3,4,5,6,7,8,25] (λ _ _ s4 _ _ _ _ ap wr=>∃(k:Nat) (x:Ms) (O:List Ms) (H W:Nat),s4=.slice (sA H 0) (k+1) W∧ap=iL (k:Int)∧k<=M∧O.length=k∧Hid (Sgs w wr v n (.slice Ae M ce) (.slice (sA H 0) (k+1) W) (O++[x]))∧Hid (MsOk v n k x)∧Hid (X=(stGo v n x (es.drop k)).map (O++·))) (λ _ _ _ _ _ _ _ ap _=>M - (intOf ap).toNat)
 case atStart=>exact⟨0,startS v,[],_,_,rfl,by first | rfl | trivial,Nat.zero_le _,rfl,HK,bo,bm⟩
 case round =>
  obtain⟨k,x,O,H,W,rfl,rfl,bx,ai,HK,al,hQ⟩:=hrel;have K:=HK.out;by_cases hlt:k<M
  ·obtain⟨ba,oa,e,As,cq,rfl,aP,bf,av,ca,cb,cc,cd,aV⟩:=(bq.out wr K.k.bel).at_ (i:=k) (by rw [HM.out];exact hlt);obtain⟨X2,ak⟩:=eX (nextS v n x e);have an:Hid (X=(match X2 with | some y=>(stGo v n y (es.drop (k+1))).map (x :: ·) | none=>none).map (O++·)):=by
    show _=_
    rw [hQ.out,stGo_drop x aP,ak]
   obtain⟨rs,Q,V⟩:=K.st;have aF:(O++[x])[k]?=some x:=by rw [List.getElem?_append_right (by omega),ai,Nat.sub_self];rfl
   obtain⟨r,aw⟩:∃ r,rs[k]?=some r:=⟨rs[k]'(by rw [V.1,List.length_append,ai];simp),List.getElem?_eq_getElem _⟩;obtain⟨su,u1,u2,x'⟩:=r;obtain⟨x2,aq,aG,I⟩:=V.at_ aw;rw [aF] at aq;simp only at aG I;subst aG;obtain rfl:=Option.some.inj aq;obtain⟨g',c',aH,aA,m⟩:=own_row enMs_len Q aw;simp only [Value.slice.injEq,Option.some.injEq,Addr.mk.injEq,and_true] at aH;obtain⟨rfl,-,-⟩:=aH;obtain⟨⟨B0,d0,rfl,-,-⟩,⟨B1,d1,rfl,-,-⟩,⟨B2,d2,rfl,-,-⟩⟩:=id I;simp only [List.length_cons,List.length_nil,Nat.zero_add,Nat.reduceAdd] at m I;have CN:=kD (λ(C:World) (h9:zB wr C)=>next_i v n k x al.out (by omega) a1.out (λ b=>NotIn (.slice (sA H 0) (k+1) W) (w.heap.size+1) b∧b<wr.heap.size) _ _ _ e As (sA ba oa) cq C.heap.size M ce C lR ((I.weak (λ b h hl=>⟨h,hl⟩)).below h9) (av.keep (.below h9)).rd X2 ak);have aD:=kD (λ y (h:X2=some y)=>next_ms a1.out.1 al.out (h ▸ ak));have y0:wr.cell? ⟨H,k*12,none⟩=some (.slice B0 2 d0):=m 0 _ rfl;have y1:wr.cell? ⟨H,k*12+1,none⟩=some (iL x.gs):=m 1 _ rfl;have y2:wr.cell? ⟨H,k*12+2,none⟩=some (.slice B1 x.g.b.1.length d1):=m 2 _ rfl;have y3:wr.cell? ⟨H,k*12+3,none⟩=some (.slice B2 x.g.b.2.length d2):=m 3 _ rfl;have y4:wr.cell? ⟨H,k*12+4,none⟩=some (iL x.g.pl):=m 4 _ rfl;have y5:wr.cell? ⟨H,k*12+5,none⟩=some (iL x.g.x):=m 5 _ rfl;have y6:wr.cell? ⟨H,k*12+6,none⟩=some (iL x.g.y):=m 6 _ rfl;have y7:wr.cell? ⟨H,k*12+7,none⟩=some (iL x.g.ph):=m 7 _ rfl;have y8:wr.cell? ⟨H,k*12+8,none⟩=some (iL x.g.wn):=m 8 _ rfl;have y9:wr.cell? ⟨H,k*12+9,none⟩=some (iL x.g.rs):=m 9 _ rfl;have T:wr.cell? ⟨H,k*12+10,none⟩=some (iL x.g.tn):=m 10 _ rfl;have S:wr.cell? ⟨H,k*12+11,none⟩=some (.bool x.ov):=m 11 _ rfl;have Y:=kD (And.intro y0 (And.intro y1 (And.intro y2 (And.intro y3 (And.intro y4 (And.intro y5 (And.intro y6 (And.intro y7 (And.intro y8 (And.intro y9 (And.intro T S)))))))))));have j:H<wr.heap.size:=aA.2;have bw:(k:Int)<(k:Int)+1:=by omega
   have bA:w.heap.size+1<=H:=aA.1;obtain⟨ek,ea,eb,ss,er⟩:=e;simp only at ca cb cc cd aV CN av;obtain⟨sl,aI⟩:=eX (ss.length);rw [aI] at cd CN;clear aP ak av aI hQ al aF aw V Q I m y0 y1 y2 y3 y4 y5 y6 y7 y8 y9 T S aq aA K;go_upto_region 7 with fail;refine wp_gen (λ W'=>Below wr.heap.size wr W'∧RowB W' wr.heap.size 28 [iL ek,iL ea,iL eb,.slice As sl cq,iL er]) ⟨(zRf).alloc lR _,nW⟩ ?_;have bn:=kD (show ∀ b,wr.heap.size<=b->NotIn (.slice (sA H 0) (k+1) W) (w.heap.size+1) b from λ b Z=>⟨λ e=>by simp [Value.ownBlock] at e;omega,by omega⟩);obtain⟨g6,aj⟩:=eX (wr.heap.size);rw [aj];have bJ:=kD aj;rintro w5 ⟨ad,R6⟩;rw [<-aj] at ad;have d:=kD ad;have a:H<w5.heap.size:=Nat.lt_of_lt_of_le j ad.size;have af:=kD (HK.out.below ad);clear aj ad ca cb cc cd aV bf;refine region_rel [some 31,some 32,some 33,some 34,some 35,some 36,some 37,some 30,some 38,some 39,some 7,none,some 8] 13 (Pl [some (.agg #[iL v.p,iL v.c,iL v.h,iL v.s,iL n,.slice (sA ba oa) M ce]),some (.slice (sA H 0) (k+1) W),some (iL (k:Int)),some (pT H (k*12)),some (.agg #[.slice B0 2 d0,iL x.gs,.slice B1 x.g.b.1.length d1,.slice B2 x.g.b.2.length d2,iL x.g.pl,iL x.g.x,iL x.g.y,iL x.g.ph,iL x.g.wn,iL x.g.rs,iL x.g.tn,.bool x.ov]),some (.agg #[iL ek,iL ea,iL eb,.slice As sl cq,iL er]),none,none,none,none,none,none,none]) (λ L z w'=>CbF (inS RelMO (NotIn (.slice (sA H 0) (k+1) W) (w.heap.size+1))) X2 w5 6 10 11 [(7,(λ v=>v)),(8,ext 0),(9,ext 1),(12,ext 1)] (λ v=>aggC (ext 0 v)) 57 12 L z w') (by kernel_rfl) (by kernel_rfl) (by kernel_rfl) (by kernel_rfl) (by kernel_rfl) (by kernel_rfl) (by first | kernel_rfl | rfl) ?g0_1 ?gst_1 ?gfin_1
   case g0_1=>exact⟨(zRf).drew,λ h=>absurd h (by decide),λ p P h=>absurd h (by simp only [List.mem_cons,List.not_mem_nil,or_false] at P;rcases P with rfl | rfl | rfl | rfl <;> decide),λ h=>absurd h (by decide),λ h=>absurd h (by decide)⟩
   case gst_1 =>
    refine rN rfl (λ L z A C D o G U F K J=>?_) ?_
    ·have e1:=U.w 1 (pT w.heap.size 0);have E:=(af.out.below F.bel).k.nth0 0 rfl;obtain⟨q0,q1,q2,q3,q4,q5⟩:=E.c6;have N:=E.lt;have r6:=R6.below F.bel R6.lt;obtain⟨k0,k1,k2,k3,k4⟩:=r6.c5;have aL:=r6.lt;have B:=Y.out;have y0:=(F.bel.cell a).trans ((d.out.cell j).trans B.1);have y1:=(F.bel.cell a).trans ((d.out.cell j).trans B.2.1);have y2:=(F.bel.cell a).trans ((d.out.cell j).trans B.2.2.1);have y3:=(F.bel.cell a).trans ((d.out.cell j).trans B.2.2.2.1);have y4:=(F.bel.cell a).trans ((d.out.cell j).trans B.2.2.2.2.1);have y5:=(F.bel.cell a).trans ((d.out.cell j).trans B.2.2.2.2.2.1);have y6:=(F.bel.cell a).trans ((d.out.cell j).trans B.2.2.2.2.2.2.1);have y7:=(F.bel.cell a).trans ((d.out.cell j).trans B.2.2.2.2.2.2.2.1);have y8:=(F.bel.cell a).trans ((d.out.cell j).trans B.2.2.2.2.2.2.2.2.1);have y9:=(F.bel.cell a).trans ((d.out.cell j).trans B.2.2.2.2.2.2.2.2.2.1);have T:=(F.bel.cell a).trans ((d.out.cell j).trans B.2.2.2.2.2.2.2.2.2.2.1);have S:=(F.bel.cell a).trans ((d.out.cell j).trans B.2.2.2.2.2.2.2.2.2.2.2);clear E r6 B;go_simp;exact pF J (F.skip 0 _)
    refine rN rfl (λ L z A C D o G U F K J=>?_) ?_
    ·have e4:=U.w 4 (.slice (sA H 0) (k+1) W);have B:=Y.out;clear B;go_simp;exact pF J (F.skip 1 _)
    refine rN rfl (λ L z A C D o G U F K J=>?_) ?_
    ·have e5:=U.w 5 (iL (k:Int));have B:=Y.out;clear B;go_simp;exact pF J (F.skip 2 _)
    refine rN rfl (λ L z A C D o G U F K J=>?_) ?_
    ·have bH:=U.v 1 32;have bG:=U.v 2 33;have B:=Y.out;clear B;go_simp;exact pF J (F.skip 3 _)
    refine rN rfl (λ L z A C D o G U F K J=>?_) ?_
    ·have bF:=U.v 3 34;have E:=(af.out.below F.bel).k.nth0 0 rfl;obtain⟨q0,q1,q2,q3,q4,q5⟩:=E.c6;have N:=E.lt;have r6:=R6.below F.bel R6.lt;obtain⟨k0,k1,k2,k3,k4⟩:=r6.c5;have aL:=r6.lt;have B:=Y.out;have y0:=(F.bel.cell a).trans ((d.out.cell j).trans B.1);have y1:=(F.bel.cell a).trans ((d.out.cell j).trans B.2.1);have y2:=(F.bel.cell a).trans ((d.out.cell j).trans B.2.2.1);have y3:=(F.bel.cell a).trans ((d.out.cell j).trans B.2.2.2.1);have y4:=(F.bel.cell a).trans ((d.out.cell j).trans B.2.2.2.2.1);have y5:=(F.bel.cell a).trans ((d.out.cell j).trans B.2.2.2.2.2.1);have y6:=(F.bel.cell a).trans ((d.out.cell j).trans B.2.2.2.2.2.2.1);have y7:=(F.bel.cell a).trans ((d.out.cell j).trans B.2.2.2.2.2.2.2.1);have y8:=(F.bel.cell a).trans ((d.out.cell j).trans B.2.2.2.2.2.2.2.2.1);have y9:=(F.bel.cell a).trans ((d.out.cell j).trans B.2.2.2.2.2.2.2.2.2.1);have T:=(F.bel.cell a).trans ((d.out.cell j).trans B.2.2.2.2.2.2.2.2.2.2.1);have S:=(F.bel.cell a).trans ((d.out.cell j).trans B.2.2.2.2.2.2.2.2.2.2.2);clear E r6 B;go_simp;exact pF J (F.skip 4 _)
    refine rN rfl (λ L z A C D o G U F K J=>?_) ?_
    ·have e6:=U.w 6 (pT g6 0);have E:=(af.out.below F.bel).k.nth0 0 rfl;obtain⟨q0,q1,q2,q3,q4,q5⟩:=E.c6;have N:=E.lt;have r6:=R6.below F.bel R6.lt;obtain⟨k0,k1,k2,k3,k4⟩:=r6.c5;have aL:=r6.lt;have B:=Y.out;have y0:=(F.bel.cell a).trans ((d.out.cell j).trans B.1);have y1:=(F.bel.cell a).trans ((d.out.cell j).trans B.2.1);have y2:=(F.bel.cell a).trans ((d.out.cell j).trans B.2.2.1);have y3:=(F.bel.cell a).trans ((d.out.cell j).trans B.2.2.2.1);have y4:=(F.bel.cell a).trans ((d.out.cell j).trans B.2.2.2.2.1);have y5:=(F.bel.cell a).trans ((d.out.cell j).trans B.2.2.2.2.2.1);have y6:=(F.bel.cell a).trans ((d.out.cell j).trans B.2.2.2.2.2.2.1);have y7:=(F.bel.cell a).trans ((d.out.cell j).trans B.2.2.2.2.2.2.2.1);have y8:=(F.bel.cell a).trans ((d.out.cell j).trans B.2.2.2.2.2.2.2.2.1);have y9:=(F.bel.cell a).trans ((d.out.cell j).trans B.2.2.2.2.2.2.2.2.2.1);have T:=(F.bel.cell a).trans ((d.out.cell j).trans B.2.2.2.2.2.2.2.2.2.2.1);have S:=(F.bel.cell a).trans ((d.out.cell j).trans B.2.2.2.2.2.2.2.2.2.2.2);clear E r6 B;go_simp;exact pF J (F.skip 5 _)
    refine rN rfl (λ L z A C D o G U F K J=>?_) ?_
    ·have bI:=U.v 0 31;have bE:=U.v 4 35;have bD:=U.v 5 36;go_simp;refine(CN.out C (d.out.trans (F.bel.mono d.out.size))).mono ?_;rintro e w6 ⟨v6,rfl,bd,bg⟩;exact J.out v6 w6 (Pl.any rfl) (F.call D (by decide) bg (RelMO.weak bd (λ b Z _=>Z.elim (λ h=>⟨.inl (Nat.lt_of_lt_of_le h.2 d.out.size),h.1⟩) (λ h=>⟨.inr h,bn.out b (Nat.le_trans d.out.size (Nat.le_trans F.bel.size h))⟩))))
    refine rN rfl (λ L z A C D o G U F K J=>?_) ?_
    ·have bC:=U.x 6 37;go_simp;exact J.out _ C (Pl.any rfl) (F.part 7 (by decide) (bK o 6) (by intro p P e;simp only [List.mem_cons,List.not_mem_nil,or_false] at P;rcases P with rfl | rfl | rfl | rfl <;> first | exact absurd e (by decide) | rfl))
    refine rN rfl (λ L z A C D o G U F K J=>?_) ?_
    ·have ae:=U.x 7 30;have fc:=F.fc (bK o 6);refine fc.elim λ B3 q=>?_
     refine q.elim λ d3 q=>?_
     refine q.elim λ f3 q=>?_
     refine q.elim λ B4 q=>?_
     refine q.elim λ d4 q=>?_
     refine q.elim λ f4 q=>?_
     refine q.elim λ B5 q=>?_
     refine q.elim λ d5 q=>?_
     refine q.elim λ f5 q=>?_
     refine q.elim λ y q=>?_
     have aU:=ae.trans ((F.fd (7,(λ v=>v)) (by simp) (bK o 7)).2.trans q.1);clear ae fc;go_simp;exact J.out _ C (Pl.any rfl) (F.part 8 (by decide) (bK o 6) (by intro p P e;simp only [List.mem_cons,List.not_mem_nil,or_false] at P;rcases P with rfl | rfl | rfl | rfl <;> first | exact absurd e (by decide) | (rw [q.1];try rfl)))
    refine rN rfl (λ L z A C D o G U F K J=>?_) ?_
    ·have ae:=U.x 7 30;have fc:=F.fc (bK o 6);refine fc.elim λ B3 q=>?_
     refine q.elim λ d3 q=>?_
     refine q.elim λ f3 q=>?_
     refine q.elim λ B4 q=>?_
     refine q.elim λ d4 q=>?_
     refine q.elim λ f4 q=>?_
     refine q.elim λ B5 q=>?_
     refine q.elim λ d5 q=>?_
     refine q.elim λ f5 q=>?_
     refine q.elim λ y q=>?_
     have aU:=ae.trans ((F.fd (7,(λ v=>v)) (by simp) (bK o 7)).2.trans q.1);clear ae fc;go_simp;exact J.out _ C (Pl.any rfl) (F.part 9 (by decide) (bK o 6) (by intro p P e;simp only [List.mem_cons,List.not_mem_nil,or_false] at P;rcases P with rfl | rfl | rfl | rfl <;> first | exact absurd e (by decide) | (rw [q.1];try rfl)))
    refine rN rfl (λ L z A C D o G U F K J=>?_) ?_
    ·go_simp;exact J.out _ _ (Pl.any rfl) (F.box D (by decide) (λ h=>D (G 11 10 (by kernel_rfl) h)) rfl)
    refine rN rfl (λ L z A C D o G U F K J=>?_) ?_
    ·have e7:=U.x 10 7;have bj:=U.x 8 38;have fc:=F.fc (bK o 6);refine fc.elim λ B3 q=>?_
     refine q.elim λ d3 q=>?_
     refine q.elim λ f3 q=>?_
     refine q.elim λ B4 q=>?_
     refine q.elim λ d4 q=>?_
     refine q.elim λ f4 q=>?_
     refine q.elim λ B5 q=>?_
     refine q.elim λ d5 q=>?_
     refine q.elim λ f5 q=>?_
     refine q.elim λ y q=>?_
     refine(F.fa (bK o 10)).elim λ g qa=>?_
     refine qa.2.2.1.elim λ W qc=>?_
     have aQ:W.length=12:=qc.1;have a9:z 8=.agg ⟨(msC (.slice B3 d3 f3) (.slice B4 d4 f4) (.slice B5 d5 f5) y)⟩:=by rw [(F.fd (8,ext 0) (by simp) (bK o 8)).2,q.1];rfl
     refine wp_sm 57 _ _ rfl g 0 (msC (.slice B3 d3 f3) (.slice B4 d4 f4) (.slice B5 d5 f5) y) W (ev (e7.trans qa.1)) (ev (bj.trans a9)) 57 qc.2 (by kernel_rfl) (Nat.le_of_eq aQ.symm) rfl ?_;exact J.out undef _ (Pl.any rfl) (F.wrote (by decide) (bK o 6) (bK o 10) qa.1 qa.2.1 qc.2 (by rw [q.1];exact setL_all W _ aQ))
    refine rN rfl (λ L z A C D o G U F K J=>?_) ?_
    ·have aT:=U.x 9 39;have fc:=F.fc (bK o 6);refine fc.elim λ B3 q=>?_
     refine q.elim λ d3 q=>?_
     refine q.elim λ f3 q=>?_
     refine q.elim λ B4 q=>?_
     refine q.elim λ d4 q=>?_
     refine q.elim λ f4 q=>?_
     refine q.elim λ B5 q=>?_
     refine q.elim λ d5 q=>?_
     refine q.elim λ f5 q=>?_
     refine q.elim λ y q=>?_
     have bs:=aT.trans ((F.fd (9,ext 1) (by simp) (bK o 9)).2.trans (by rw [q.1];try rfl));clear fc aT;go_simp;exact J.out _ C (Pl.any rfl) (F.part 12 (by decide) (bK o 6) (by intro p P e;simp only [List.mem_cons,List.not_mem_nil,or_false] at P;rcases P with rfl | rfl | rfl | rfl <;> first | exact absurd e (by decide) | (rw [q.1];try rfl)))
    exact RelFrom.nil (by decide)
   intro z C P F;simp only [Fr,Act.put,sX,Nat.reduceAdd];obtain⟨gx,az,bz,-,aN⟩:=F.fa trivial;have R7:=(F.fw trivial).2 gx az;obtain⟨B3,d3,f3,B4,d4,f4,B5,d5,f5,y,ar,ab⟩:=aN trivial;have ao:z 12=.bool X2.isSome:=(F.fd (12,ext 1) (by simp) trivial).2.trans (by rw [ar];try rfl);rw [ar] at R7;have R7:RowB C gx 57 (msC (.slice B3 d3 f3) (.slice B4 d4 f4) (.slice B5 d5 f5) y):=R7;rw [az,ao];have aR:=F.bel;have K:=af.out.below aR;have aC:=kD ab;clear F P ar ao aN az CN HK af Y ab aR d R6
   cases X2 with
   | none =>
    have aB:X=none:=by rw [an.out];rfl
    subst aB;have ac:=K.k.bel;clear an aC R7 K aD;go_wp2_with fail;refine bodyPost_ret (v:=.tuple #[.slice none 0 0,.bool false]) (by simp [results,results39,go_sem]) rfl ?_;exact⟨none,0,0,rfl,λ l h=>(by cases h),ac⟩
   | some y0 =>
   obtain⟨rfl,I⟩:=aC.out _ rfl;have aY:=kD (aD.out y rfl);have bl:Hid (X=(stGo v n y (es.drop (k+1))).map ((O++[x])++·)):=by
    show _=_
    rw [an.out];simp only [Option.map_map]
    congr 1
    funext l
    simp
   have bv:=iW (((k:Int)+1));obtain⟨a3,y1,y2,y3,y4,y5,y6,y7,y8,y9,T,S⟩:=row12 R7;have be:=R7.lt;obtain⟨rs,Q,V⟩:=K.st;have aK:rs.length=k+1:=by rw [V.1,List.length_append,ai];rfl
   have aa:Below C.heap.size C (C.alloc (.cells ⟨msC (.slice B3 d3 f3) (.slice B4 d4 f4) (.slice B5 d5 f5) y⟩ 57)):=(zRf).alloc lR _;have aX:=kD ((Q.below aa lR).more aa.size);have a0:=kD (V.keep (.below aa));have a2:=kD (K.k.below aa);have aW:=kD (show RelMs.R (C.alloc (.cells ⟨msC (.slice B3 d3 f3) (.slice B4 d4 f4) (.slice B5 d5 f5) y⟩ 57)) (NotIn (.slice (sA H 0) (k+1) W) (w.heap.size+1)) (.slice B3 d3 f3,.slice B4 d4 f4,.slice B5 d5 f5,y) y from⟨rfl,(I.weak (λ b h _=>h.2)).below aa⟩);have br:w.heap.size+1<=C.heap.size:=(K.k.nth0 0 rfl).lt;clear an aC aD K Q V aa I;go_wp2_with (at_builtin;refine wpL_one rfl _ _ _ rfl (w.heap.size+1) _ 57 a5 (.agg ⟨nulMC⟩) 12 144 Tryz.underlying78 aM a8 a7 a6 rfl (by decide) enMs_len (.slice (sA H 0) (k+1) W) rs (.slice B3 d3 f3,.slice B4 d4 f4,.slice B5 d5 f5,y) one_Ms rfl aX.out C.heap.size 1 57 (by first | rfl | (simp;rfl)) (nW) ?c1 ?c2 ?c3 ?_)
   case c1=>unfold maxLen;omega
   case c2=>omega
   case c3=>first | omega | (simp;omega)
   intro g bk bt ho hg aS ax;have K:=Sgs.app a2.out a0.out aW.out ho hg (aS.imp id (λ h=>by first | exact h | (rw [World.size_alloc];exact h) | simpa using h)) (λ q hq=>by simp [Value.ownBlock] at hq;omega)
   try rw [aK] at K
   try rw [aK]
   have bp:=kD K;clear ho hg aS K a2 a0 aW aX a3 y1 y2 y3 y4 y5 y6 y7 y8 y9 T S R7 be ax;go_wp2_with fail;go_roundw
   case rel=>exact⟨k+1,y,O++[x],g,bk,rfl,by first | rfl | go_num,by omega,by rw [List.length_append,ai];rfl,bp,aY,bl⟩
   case measure=>simp [intOf];omega
  ·obtain rfl:M=k:=by omega
   have bh:X=some (O++[x]):=by rw [hQ.out,<-HM.out,stGo_end];rfl
   subst bh;have ac:=K.k.bel;have bb:=K.st;clear hQ al K HK;go_wp2_with fail;refine bodyPost_ret (v:=.tuple #[.slice (sA H 0) (M+1) W,.bool true]) (by simp [results,results39,go_sem]) rfl ?_;exact⟨_,_,_,rfl,λ l h=>(by obtain rfl:=Option.some.inj h;exact bb.less (Nat.le_succ _)),ac⟩
theorem ismatch_i (v:Vr) (n:Int) (es:List Ev) (Ae:Option Addr) (ce:Nat) (w:World) (hes:EvL w All Ae es) (ok:Bool) (hok:(finS v n es).isSome=ok) :
  Calls prog 14 #[.agg #[iL v.p,iL v.c,iL v.h,iL v.s,iL n,.slice Ae es.length ce]] w λ f w'=>f=.returned (.bool ok)∧Below w.heap.size w w':=by
 obtain⟨X,g⟩:=eX (statesP v n es);have i:=kD (λ(j:World) (z:zB w j)=>states_i v n es Ae ce j (hes.keep (.below z)) X g);rw [<-states_fin,g] at hok;obtain⟨M,l⟩:=eX (es.length);rw [l] at i ⊢;clear hes g l;go_enter func14,ntmps14;go_upto_region 1 with fail;refine wp_gen (λ A=>Rows w A [(0,37,[iL v.p,iL v.c,iL v.h,iL v.s,iL n,.slice Ae M ce])]) ⟨by go_grown,λ p y=>?_⟩ ?_
 ·obtain rfl:=List.mem_singleton.1 y;exact nW
 intro C K;have a:=K.nth0 0 rfl;obtain⟨x,t,r,q,o,m⟩:=a.c6;have b:=a.lt;go_wp2_with fail;refine(i.out _ K.bel).mono ?_;rintro e B ⟨F,D,E,rfl,-,k⟩;have d:=(K.below k).bel;clear i K k a x t r q o m b;go_wp2_with fail;go_ret;exact⟨by first | rfl | (rw [hok];rfl),d⟩
def Bld (b:Nat) (l:By) (w:World):Prop:=Lib.IsBuilderF 71 5 b b (Lib.byteCells l) w
section
variable {b:Nat} {l:By} {w w':World}
theorem Bld.below (h:Bld b l w) (hb:zB w w'):Bld b l w':=by
 have a:∀ p,Lib.BuilderAtF 71 5 b b p (Lib.byteCells l) w->Lib.BuilderAtF 71 5 b b p (Lib.byteCells l) w':=by
  rintro p ⟨j,v,c,g,f⟩;have d:b<w.heap.size:=(Array.getElem?_eq_some_iff.1 c).1;exact⟨j,v,(hb.block b d).trans c,g.kept (row:=none) ⟨hb.os,hb.tape,hb.output,hb.size,λ i e _=>hb.block i e⟩ (by cases v.ownBlock <;> simp),f⟩
 exact h.imp (a _) (a _)
theorem Bld.new (w:World):Bld w.heap.size [] (w.alloc (.cells #[.pointer none,.slice none 0 0] 71)) :=
 .inl ⟨Nat.le_refl _,.slice none 0 0,heap_alloc_new w _,World.ownsRowF_nil _ _ _ _,by simp [Value.ownBlock]⟩
theorem cells_app (l s:By):Lib.byteCells l++Lib.strCells (bs s)=Lib.byteCells (l++s):=by
 unfold Lib.byteCells Lib.strCells;rw [List.map_append,bs_data]
theorem Bld.lt (h:Bld b l w):b<w.heap.size:=h.elim (λ h=>h.lt) (λ h=>h.lt)
theorem Bld.write (h:Bld b l w) (s:By) (hl:l.length+s.length<=140737488355328) :
  Calls prog 34 #[pT b 0,.string (bs s)] w λ e w'=>e=.returned (.tuple #[iL (bs s).size,.nilIface])∧Bld b (l++s) w'∧Below b w w':=by
 have a:=h.lt;refine(Any.Builder_WriteString_f (ρ:=Tryz.lays156_ren) { Tryz.lays156 with } Tryz.Builder_Extra_156 b b (Lib.byteCells l) (bs s) w h (by rw [Lib.byteCells_length,bs_size];exact hl) (Nat.le_of_lt a)).mono ?_;rintro e w' ⟨rfl,d,c⟩;exact⟨rfl,.inr (by rw [<-cells_app];exact d),c⟩
theorem Bld.string (h:Bld b l w) :
  Calls prog 36 #[pT b 0] w λ e w'=>e=.returned (.string (bs l))∧Below b w w':=by
 have a:=h.lt;refine(Any.Builder_String_any_f (ρ:=Tryz.lays156_ren) { Tryz.lays156 with } Tryz.Builder_Extra_156 b b l w h (Nat.le_of_lt a)).mono ?_;rintro e w' ⟨rfl,d,c⟩;exact⟨rfl,c⟩
end
structure Mt (w wr:World) (v:Vr) (n:Int) (ev:Value) (b:Nat) (l:By):Prop where
 k:Rows w wr [(0,37,[iL v.p,iL v.c,iL v.h,iL v.s,iL n,ev])]
 bl:Bld b l wr
 lo:w.heap.size<b
section
variable {w wr w':World} {v:Vr} {n:Int} {ev:Value} {b:Nat} {l l':By}
theorem Mt.below (K:Mt w wr v n ev b l) (hb:zB wr w'):Mt w w' v n ev b l:=⟨K.k.below hb,K.bl.below hb,K.lo⟩
theorem Mt.wrote (K:Mt w wr v n ev b l) (hb:Below b wr w') (h:Bld b l' w'):Mt w w' v n ev b l':=by
 have a:=K.lo;refine⟨⟨K.k.bel.trans (hb.mono (Nat.le_of_lt a)),λ p c=>?_⟩,h,a⟩;have d:=K.k.at_ _ c;obtain rfl:=List.mem_singleton.1 c;exact d.below hb a
end
structure WsF (w1:World) (b:Nat) (l':By) (p:Prop) (w':World):Prop where
 bel:Below b w1 w'
 old:¬ p->Below w1.heap.size w1 w'
 new:p->Bld b l' w'
section
variable {w1 w' w'':World} {b:Nat} {l':By} {L:Nat->Prop}
theorem WsF.skip (F:WsF w1 b l' (L 10) w') (k:Nat) (h:10≠k:=by decide):WsF w1 b l' (10=k∨L 10) w' :=
 ⟨F.bel,λ c=>F.old (λ a=>c (.inr a)),λ a=>F.new (a.resolve_left h)⟩
theorem WsF.call (F:WsF w1 b l' (L 10) w') (k:Nat) (h:10≠k) (hn:¬ L 10) (hb:zB w' w'') (hl:b<=w1.heap.size):WsF w1 b l' (10=k∨L 10) w'' :=
 ⟨F.bel.trans (hb.mono (Nat.le_trans hl F.bel.size)),λ _=>(F.old hn).trans (hb.mono (F.old hn).size),λ hp=>hp.elim (λ e=>absurd e h) (λ hp=>absurd hp hn)⟩
end
theorem mtext_i (v:Vr) (n:Int) (es:List Ev) (Ae:Option Addr) (ce:Nat) (w:World) (E:Env w) (hes:EvL w All Ae es) :
  Calls prog 12 #[.agg #[iL v.p,iL v.c,iL v.h,iL v.s,iL n,.slice Ae es.length ce]] w λ f w'=>f=.returned (.string (bs (matX v n es)))∧Below w.heap.size w w':=by
 obtain⟨ok,ac⟩:=eX ((finS v n es).isSome);have CI:=kD (λ(g:World) (S:zB w g)=>ismatch_i v n es Ae ce g (hes.keep (.below S)) ok ac);have aJ:=kD (λ(g:World) (S:zB w g)=>hes.keep (.below S));have HE:=kD (λ(g:World) (S:zB w g)=>E.below S);have hR:matX v n es=if ok=true then matT v n es else []:=by unfold matX;rw [ac]
 rw [hR];have av:=kD (λ(h:ok=true)=>fin_parts (ac.trans h));have ar:=kD (matJ_end v n es);obtain⟨T,hT⟩:=eX (matT v n es);rw [hT] at ar ⊢;obtain⟨M,hM⟩:=eX (es.length);rw [hM] at CI av ar ⊢;have HM:=kD hM;clear hes ac hR hT E hM;go_enter func12,ntmps12;go_upto_region 1 with fail;refine wp_gen (λ W'=>Rows w W' [(0,37,[iL v.p,iL v.c,iL v.h,iL v.s,iL n,.slice Ae M ce])]) ⟨by go_grown,λ p hp=>?_⟩ ?_
 ·obtain rfl:=List.mem_singleton.1 hp;exact nW
 intro w1 K;have V:=K.nth0 0 rfl;obtain⟨q0,q1,q2,q3,q4,q5⟩:=V.c6;have W:=V.lt;go_wp2_with fail;refine(CI.out _ K.bel).mono ?_;rintro e w2 ⟨rfl,hb⟩;have K:=K.below hb;clear q0 q1 q2 q3 q4 q5 W V hb CI
 cases ok with
 | false =>
  have P:=K.bel;clear K;go_wp2_with fail;go_ret;exact⟨rfl,P⟩
 | true =>
 obtain⟨ay,aL⟩:=av.out (by first | rfl | trivial);have ab:=head_parts ay;have HV:=kD ab.1;have HN:=kD ab.2.2;have CV:=kD (λ(g:World) (S:zB w g)=>vtext_i v g (HE.out g S));have CN:=kD (λ(g:World) (S:zB w g)=>decimalZ n (by omega) (by omega) g (HE.out g S).tab);have z1:=vT_short ab.1;have z2:=(ito_len (n:=n) (by omega) (by omega)).2;obtain⟨x1,Z⟩:∃ z:ByteArray,bs (vT v)=z:=⟨_,rfl⟩;obtain⟨x2,Y⟩:∃ z:ByteArray,(⟨(Lib.itoa n).toArray⟩:ByteArray)=z:=⟨_,rfl⟩;have s1:x1.size<=11:=by rw [<-Z];exact Nat.le_trans (Nat.le_of_eq (bs_size _)) z1
 have s2:x2.size<=2:=by rw [<-Y];exact Nat.le_trans (Nat.le_of_eq (bs_size _)) z2
 have HI:Hid ((((⟨#[109,97,116,99,104,32]⟩:ByteArray)++x1)++(⟨#[32]⟩:ByteArray))++x2++(⟨#[10]⟩:ByteArray)=bs (matJ v n es 0)):=by
  show _=_
  rw [matJ_zero,<-Z,<-Y];have g1:(⟨#[109,97,116,99,104,32]⟩:ByteArray)=bs (maW++[32]):=rfl;have g2:(⟨#[32]⟩:ByteArray)=bs [32]:=rfl;have g3:(⟨#[10]⟩:ByteArray)=bs [10]:=rfl;have g4:(⟨(Lib.itoa n).toArray⟩:ByteArray)=bs (Lib.itoa n):=rfl;simp only [g1,g2,g3,g4,bs_cat,hdT]
 have aD:Hid ((matJ v n es 0).length<=60*0+40):=by
  show _<=_
  rw [matJ_zero];simp only [hdT,List.length_append,List.length_cons,List.length_nil,maW];omega
 rw [Z] at CV;rw [Y] at CN;obtain⟨T1,ah⟩:=eX ((⟨#[109,97,116,99,104,32]⟩:ByteArray)++x1);have u1:T1.size<=17:=by rw [<-ah,ByteArray.size_append];show 6+x1.size<=17;omega
 obtain⟨T2,ag⟩:=eX (T1++(⟨#[32]⟩:ByteArray));have u2:T2.size<=18:=by rw [<-ag,ByteArray.size_append];show T1.size+1<=18;omega
 obtain⟨T3,af⟩:=eX (T2++x2);have u3:T3.size<=20:=by rw [<-af,ByteArray.size_append];omega
 obtain⟨T4,ao⟩:=eX (T3++(⟨#[10]⟩:ByteArray));rw [ah,ag,af,ao] at HI;have G1:Hid (¬ 9223372036854775807<6+x1.size):=kD (by omega);have G2:Hid (¬ 9223372036854775807<T1.size+1):=kD (by omega);have G3:Hid (¬ 9223372036854775807<T2.size+x2.size):=kD (by omega);have G4:Hid (¬ 9223372036854775807<T3.size+1):=kD (by omega);have H:=kD ah;have G:=kD ag;have D:=kD af;have C:=kD ao;clear Z Y s1 s2 z1 z2 u1 u2 u3 ah ag af ao ab ay av;have t:=(K.nth0 0 rfl).lt;go_upto_region 4 with fail;refine wp_gen (λ W'=>Mt w W' v n (.slice Ae M ce) w2.heap.size []) ⟨K.below ((zRf).alloc lR _),Bld.new _,t⟩ ?_;clear K t;obtain⟨g3,az⟩:=eX (w2.heap.size);rw [az];clear az;intro w3 K;have o:=kD K;clear K;refine region_rel [some 9,some 10,some 11,some 12,some 13,some 14,some 15,some 16,some 17,some 18,some 19] 11 (Pl [some (pT w.heap.size 0),some (vA v),some (.string x1),some (.string T1),some (.string T2),some (pT w.heap.size 4),some (iL n),some (.string x2),some (.string T3),some (.string T4),none]) (λ L d w'=>WsF w3 g3 (matJ v n es 0) (L 10) w') (by kernel_rfl) (by kernel_rfl) (by kernel_rfl) (by kernel_rfl) (by kernel_rfl) (by kernel_rfl) (by first | kernel_rfl | rfl) ?g0_1 ?gst_1 ?gfin_1
 case g0_1=>exact⟨(zRf).drew,λ _=>(zRf).drew,λ h=>absurd h (by decide)⟩
 case gst_1 =>
  refine rN rfl (λ L d A g l x m U F K y=>?_) ?_
  ·have e1:=U.w 1 (pT w.heap.size 0);have J:=(o.out.k.nth0 0 rfl).below F.bel o.out.lo;have j:=J.c6;have r0:=j.1;have r1:=j.2.1;have r2:=j.2.2.1;have r3:=j.2.2.2.1;have r4:=j.2.2.2.2.1;have al:=J.lt;clear J j;have B:=G1.out;have t:=G2.out;have O:=G3.out;have N:=G4.out;have R:=H.out;have t2:=G.out;have t3:=D.out;have t4:=C.out;go_simp;exact pF y (F.skip 0 (by decide))
  refine rN rfl (λ L d A g l x m U F K y=>?_) ?_
  ·have e9:=U.v 0 9;have J:=(o.out.k.nth0 0 rfl).below F.bel o.out.lo;have j:=J.c6;have r0:=j.1;have r1:=j.2.1;have r2:=j.2.2.1;have r3:=j.2.2.2.1;have r4:=j.2.2.2.2.1;have al:=J.lt;clear J j;have B:=G1.out;have t:=G2.out;have O:=G3.out;have N:=G4.out;have R:=H.out;have t2:=G.out;have t3:=D.out;have t4:=C.out;go_simp;exact pF y (F.skip 1 (by decide))
  refine rN rfl (λ L d A g l x m U F K y=>?_) ?_
  ·have aU:=U.v 1 10;have hn:¬ L 10:=(λ h=>l (m 10 2 (by kernel_rfl) h));have P:=o.out.k.bel.trans ((F.old hn).mono o.out.k.bel.size);go_simp;refine(CV.out g P).mono ?_;rintro e w6 ⟨rfl,I⟩;exact pF y (F.call 2 (by decide) hn I (Nat.le_of_lt o.out.bl.lt))
  refine rN rfl (λ L d A g l x m U F K y=>?_) ?_
  ·have aT:=U.v 2 11;have B:=G1.out;have t:=G2.out;have O:=G3.out;have N:=G4.out;have R:=H.out;have t2:=G.out;have t3:=D.out;have t4:=C.out;go_simp;exact pF y (F.skip 3 (by decide))
  refine rN rfl (λ L d A g l x m U F K y=>?_) ?_
  ·have aS:=U.v 3 12;have B:=G1.out;have t:=G2.out;have O:=G3.out;have N:=G4.out;have R:=H.out;have t2:=G.out;have t3:=D.out;have t4:=C.out;go_simp;exact pF y (F.skip 4 (by decide))
  refine rN rfl (λ L d A g l x m U F K y=>?_) ?_
  ·have e1:=U.w 1 (pT w.heap.size 0);have J:=(o.out.k.nth0 0 rfl).below F.bel o.out.lo;have j:=J.c6;have r0:=j.1;have r1:=j.2.1;have r2:=j.2.2.1;have r3:=j.2.2.2.1;have r4:=j.2.2.2.2.1;have al:=J.lt;clear J j;have B:=G1.out;have t:=G2.out;have O:=G3.out;have N:=G4.out;have R:=H.out;have t2:=G.out;have t3:=D.out;have t4:=C.out;go_simp;exact pF y (F.skip 5 (by decide))
  refine rN rfl (λ L d A g l x m U F K y=>?_) ?_
  ·have aQ:=U.v 5 14;have J:=(o.out.k.nth0 0 rfl).below F.bel o.out.lo;have j:=J.c6;have r0:=j.1;have r1:=j.2.1;have r2:=j.2.2.1;have r3:=j.2.2.2.1;have r4:=j.2.2.2.2.1;have al:=J.lt;clear J j;have B:=G1.out;have t:=G2.out;have O:=G3.out;have N:=G4.out;have R:=H.out;have t2:=G.out;have t3:=D.out;have t4:=C.out;go_simp;exact pF y (F.skip 6 (by decide))
  refine rN rfl (λ L d A g l x m U F K y=>?_) ?_
  ·have aP:=U.v 6 15;have hn:¬ L 10:=(λ h=>l (m 10 7 (by kernel_rfl) h));have P:=o.out.k.bel.trans ((F.old hn).mono o.out.k.bel.size);go_simp;refine(CN.out g P).mono ?_;rintro e w6 ⟨rfl,I⟩;exact pF y (F.call 7 (by decide) hn I (Nat.le_of_lt o.out.bl.lt))
  refine rN rfl (λ L d A g l x m U F K y=>?_) ?_
  ·have aR:=U.v 4 13;have aO:=U.v 7 16;have B:=G1.out;have t:=G2.out;have O:=G3.out;have N:=G4.out;have R:=H.out;have t2:=G.out;have t3:=D.out;have t4:=C.out;go_simp;exact pF y (F.skip 8 (by decide))
  refine rN rfl (λ L d A g l x m U F K y=>?_) ?_
  ·have aN:=U.v 8 17;have B:=G1.out;have t:=G2.out;have O:=G3.out;have N:=G4.out;have R:=H.out;have t2:=G.out;have t3:=D.out;have t4:=C.out;go_simp;exact pF y (F.skip 9 (by decide))
  refine rN rfl (λ L d A g l x m U F K y=>?_) ?_
  ·have e3:=U.w 3 (pT g3 0);have aM:=U.v 9 18;go_simp;rw [HI.out];refine(((o.out.bl).below (F.old l)).write (matJ v n es 0) (by have:=aD.out;simp only [List.length_nil];omega)).mono ?_;rintro e w6 ⟨rfl,ae,I⟩;exact y.out _ w6 (Pl.any rfl) ⟨F.bel.trans I,λ hn=>absurd (.inl rfl) hn,λ _=>by simpa using ae⟩
  exact RelFrom.nil (by decide)
 intro d g hp F;simp only [Fr,Act.put,sX,Nat.reduceAdd];have ai:=kD (o.out.wrote F.bel (F.new trivial));clear F hp o H G D C G1 G2 G3 G4 CV CN HI;have K:=ai.out.k;have V:=K.nth0 0 rfl;obtain⟨q0,q1,q2,q3,q4,q5⟩:=V.c6;have W:=V.lt;go_wp2_with fail;clear q0 q1 q2 q3 q4 q5 W V K;go_loopw [5,23] (λ _ aj wr=>∃ k:Nat,k<=M∧aj=iL (k:Int)∧Hid (Mt w wr v n (.slice Ae M ce) g3 (matJ v n es k))∧Hid ((matJ v n es k).length<=60*k+40)) (λ _ aj _=>M - (intOf aj).toNat)
 case atStart=>exact⟨0,Nat.zero_le _,by first | rfl | trivial,ai,aD⟩
 case round =>
  obtain⟨k,hk,rfl,o,HL⟩:=hrel;have K:=o.out.k;by_cases hlt:k<M
  ·obtain⟨ba,oa,e,As,cq,rfl,aB,aC,ak,ca,cb,j,cd,aq⟩:=(aJ.out wr K.bel).at_ (i:=k) (by rw [HM.out];exact hlt);have CE:=kD (λ(g:World) (S:zB wr g)=>event_i v e.k e.a e.b e.ss e.r As cq g.heap.size g lR (ak.keep (.below S)).rd (HE.out g (K.bel.tR S)));have am:matJ v n es (k+1)=matJ v n es k++evnT v e++[10]:=matJ_succ aB;have aA:=evnT_len HV.out e;obtain⟨ek,ea,eb,ss,er⟩:=e;simp only [HV.out,if_true] at ca cb j cd aq CE ak;obtain⟨sl,ax⟩:=eX (ss.length);rw [ax] at cd CE;obtain⟨R,aa⟩:∃ z:ByteArray,bs (evnT v ⟨ek,ea,eb,ss,er⟩)=z:=⟨_,rfl⟩;have zt:R.size<=59:=by rw [<-aa,bs_size];exact aA
   have HS:Hid (R++(⟨#[10]⟩:ByteArray)=bs (evnT v ⟨ek,ea,eb,ss,er⟩++[10])):=by
    show _=_
    rw [<-aa];have g3:(⟨#[10]⟩:ByteArray)=bs [10]:=rfl;simp only [g3,bs_cat]
   rw [aa] at CE;have aG:(evnT v ⟨ek,ea,eb,ss,er⟩++[10]).length<=60:=by simp only [List.length_append,List.length_cons,List.length_nil];omega
   have aI:Hid ((matJ v n es (k+1)).length<=60*(k+1)+40):=by
    show _<=_
    have:=HL.out;rw [am];simp only [List.length_append,List.length_cons,List.length_nil];omega
   have aE:=kD (show matJ v n es k++(evnT v ⟨ek,ea,eb,ss,er⟩++[10])=matJ v n es (k+1) by rw [am,List.append_assoc]);obtain⟨S1,ap⟩:=eX (R++(⟨#[10]⟩:ByteArray));have aH:=kD ap;rw [ap] at HS;obtain⟨tx,aw⟩:=eX (evnT v ⟨ek,ea,eb,ss,er⟩++[10]);rw [aw] at HS aE aG;have F1:¬ 9223372036854775807<R.size+1:=by omega
   have aK:=iW (((k:Int)+1));have aX:=kD aC;have aW:=kD (And.intro ca (And.intro cb (And.intro j (And.intro cd aq))));clear aB am aA ax ak aa zt ap aw;go_upto_region 8 with fail;refine wp_gen (λ W'=>Mt w W' v n (.slice (sA ba oa) M ce) g3 (matJ v n es k)∧Below wr.heap.size wr W'∧RowB W' wr.heap.size 28 [iL ek,iL ea,iL eb,.slice As sl cq,iL er]) ⟨o.out.below ((zRf).alloc lR _),(zRf).alloc lR _,nW⟩ ?_;clear K ca cb j cd aq aC;obtain⟨g5,ad⟩:=eX (wr.heap.size);rw [ad];have aV:=kD ad;rintro w5 ⟨Q,an,R5⟩;rw [<-ad] at an;clear ad;have K:=Q.k;have V:=K.nth0 0 rfl;obtain⟨q0,q1,q2,q3,q4,q5⟩:=V.c6;have W:=V.lt;obtain⟨k0,k1,k2,k3,k4⟩:=R5.c5;have aF:=R5.lt;go_wp2_with fail;refine(CE.out _ an).mono ?_;rintro e w6 ⟨rfl,I⟩;have Q:=Q.below I;have B:=aH.out;clear K q0 q1 q2 q3 q4 q5 W V k0 k1 k2 k3 k4 aF R5 CE an I;go_wp2_with fail;rw [HS.out];refine(Q.bl.write tx (by have:=HL.out;omega)).mono ?_;rintro e w7 ⟨rfl,ae,X⟩;have Q:=Q.wrote X ae;rw [aE.out] at Q;have ai:=kD Q;clear Q ae X B;go_wp2_with fail;go_roundw
   case rel=>exact⟨k+1,by omega,by first | rfl | go_num,ai,aI⟩
   case measure=>simp [intOf];omega
  ·obtain rfl:M=k:=by omega
   have Q:=o.out;clear K o;go_wp2_with fail;refine(Q.bl.string).mono ?_;rintro e w7 ⟨rfl,X⟩;have P:=Q.k.bel.trans (X.mono (Nat.le_of_lt Q.lo));clear Q X;go_wp2_with fail;go_ret;exact⟨by first | rfl | (rw [ar.out];rfl),P⟩
end Gm
end Go.Proofs.YtjdefiinmicjiaaGreatDoor
