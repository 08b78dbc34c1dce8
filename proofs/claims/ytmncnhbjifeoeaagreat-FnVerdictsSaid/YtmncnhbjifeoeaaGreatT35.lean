/- Parts of the proof of FnVerdicts. Conditions: each theorem's own. -/
import Derived.Test.YtmncnhbjifeoeaaGreatT31
import Derived.Laws.DeepStrings4
import Derived.Deep.CutBlock
set_option linter.unusedVariables false
set_option linter.unusedSimpArgs false
set_option maxHeartbeats 8000000
set_option maxRecDepth 100000
namespace Go.Proofs.YtmncnhbjifeoeaaGreat
namespace Gm
open Go Go.ChangeShapes Go.WideShapes Go.ChangeAt Go.RowKit Base Ints Own RelG PlP TxP Bd1 Bd5 Bd8 RegInv RegF RegG
theorem own_row {α:Type} {w:World} {lo hi sz:Nat} {e:TypeId} {en:α->List Value} {v:Value} {xs:List α} (hen:∀ x,(en x).length=sz) (h:OwnS w lo hi e sz en v xs) {k:Nat} {r:α} (hk:xs[k]?=some r) :
  ∃ g c,v=.slice (some ⟨g,0,none⟩) xs.length c∧(lo<=g∧g<hi)∧∀ j u,(en r)[j]?=some u->w.cell? ⟨g,k*sz+j,none⟩=some u:=by
 have a:=(List.getElem?_eq_some_iff.1 hk).1;rcases h.cases_ with ⟨_,h0⟩ | ⟨g,cap,rest,e1,h1,h2,-,-,-,-⟩
 ·rw [h0] at a;simp at a
 ·obtain⟨A,c,f,d⟩:=h.form hen;rw [e1] at f;simp only [Value.slice.injEq] at f;obtain⟨rfl,-,-⟩:=f;obtain⟨b,l,i,-,n⟩:=d.2 (by omega);simp only [Option.some.injEq,Addr.mk.injEq] at i;obtain⟨rfl,rfl,-⟩:=i;exact⟨g,cap,e1,⟨h1,h2⟩,λ j u m=>by have:=n k r hk j u m;rwa [Nat.zero_add] at this⟩
abbrev MRow:=Value × Value × Value × Ms
def enMs (r:MRow):List Value:=msC r.1 r.2.1 r.2.2.1 r.2.2.2
theorem enMs_len (r:MRow):(enMs r).length=12:=rfl
theorem infoMs:(Tryz.prog.info? 59).map (λ i=>(i.zero,i.size,i.bytes))=some (some (.agg ⟨nulMC⟩),12,144):=by kernel_rfl
def RelMs:Rel MRow Ms where
 R:=λ w S r x=>r.2.2.2=x∧MsR w S r.1 r.2.1 r.2.2.1 x
 keep:=λ h hs=>⟨h.1,h.2.keep hs⟩
 weak:=λ h hs=>⟨h.1,h.2.weak hs⟩
theorem one_Ms {A0 A1 A2:Option Addr} {m0 c0 m1 c1 m2 c2:Nat} {x:Ms}:∀ u ∈ enMs (.slice A0 m0 c0,.slice A1 m1 c1,.slice A2 m2 c2,x),u.oneCell'=true:=by
 intro u a;simp only [enMs,msC,List.mem_cons,List.not_mem_nil,or_false] at a;rcases a with rfl | rfl | rfl | rfl | rfl | rfl | rfl | rfl | rfl | rfl | rfl | rfl <;> rfl
theorem stGo_drop {v:Vr} {n:Int} {es:List Ev} {k:Nat} {e:Ev} (x:Ms) (h:es[k]?=some e):stGo v n x (es.drop k)=(match nextS v n x e with | some y=>(stGo v n y (es.drop (k+1))).map (x :: ·) | none=>none):=by
 obtain⟨a,b⟩:=List.getElem?_eq_some_iff.1 h;rw [List.drop_eq_getElem_cons a,b]
 rfl
theorem stGo_end {v:Vr} {n:Int} {es:List Ev} (x:Ms):stGo v n x (es.drop es.length)=some [x]:=by rw [List.drop_eq_nil_of_le (Nat.le_refl _)];rfl
theorem stGo_fin (v:Vr) (n:Int):∀(es:List Ev) (x:Ms),(stGo v n x es).isSome=(enS v n x es).isSome:=by
 intro es
 induction es with
 | nil=>intro x;rfl
 | cons e es ih =>
  intro x;simp only [stGo,enS]
  cases nextS v n x e with
  | none=>rfl
  | some y=>simp only [Option.isSome_map,ih]
theorem states_fin (v:Vr) (n:Int) (es:List Ev):(statesP v n es).isSome=(finS v n es).isSome:=by
 unfold statesP finS;split
 ·rfl
 ·exact stGo_fin v n es _
structure Sgs (w wr:World) (v:Vr) (n:Int) (ev sv:Value) (xs:List Ms):Prop where
 k:Rows w wr [(0,48,[.int .i64 v.p,.int .i64 v.c,.int .i64 v.h,.int .i64 v.s,.int .i64 n,ev])]
 st:OwnG RelMs wr (w.heap.size+1) wr.heap.size 59 12 enMs sv xs
theorem Sgs.below {w wr w':World} {v:Vr} {n:Int} {ev sv:Value} {xs:List Ms} (K:Sgs w wr v n ev sv xs) (hb:Below wr.heap.size wr w'):Sgs w w' v n ev sv xs :=
 ⟨K.k.below hb,(K.st.below hb (Nat.le_refl _)).more hb.size⟩
theorem Sgs.app {w wr w1:World} {v:Vr} {n:Int} {ev sv:Value} {xs:List Ms} {rs:List MRow} {r:MRow} {x:Ms} {g m c:Nat} (k:Rows w wr [(0,48,[.int .i64 v.p,.int .i64 v.c,.int .i64 v.h,.int .i64 v.s,.int .i64 n,ev])]) (h2:LsR RelMs wr (NotIn sv (w.heap.size+1)) rs xs)
  (hx:RelMs.R wr (NotIn sv (w.heap.size+1)) r x) (ho:OwnS w1 (w.heap.size+1) w1.heap.size 59 12 enMs (.slice (some ⟨g,0,none⟩) m c) (rs++[r])) (hg:wr.grownBy w1 sv.ownBlock) (hat:sv.ownBlock=some g∨g=wr.heap.size) (hlo:∀ q,sv.ownBlock=some q->w.heap.size+1<=q) :
  Sgs w w1 v n ev (.slice (some ⟨g,0,none⟩) m c) (xs++[x]):=by
 refine⟨⟨k.bel.grown hg k.bel.size (λ q b=>by have:=hlo q b;omega),λ p j=>?_⟩,rs++[r],ho,LsR.snoc ⟨h2.1,λ i e d f a=>app_still hg hat (h2.2 i e d f a)⟩ (app_still hg hat hx)⟩;obtain rfl:=List.mem_singleton.1 j;exact(k.at_ _ (List.mem_singleton.2 rfl)).grown hg (λ q b=>by have:=hlo q b;simp only;omega)
def StR (o:Option (List Ms)) (w:World) (e:Ending) (w':World):Prop :=
 ∃ A m c,e=.returned (.tuple #[.slice A m c,.bool o.isSome])∧(∀ l,o=some l->OwnG RelMs w' w.heap.size w'.heap.size 59 12 enMs (.slice A m c) l)∧Below w.heap.size w w'
theorem states_i (v:Vr) (n:Int) (es:List Ev) (Ae:Option Addr) (ce:Nat) (w:World) (hes:EvL w All Ae es) (X:Option (List Ms)) (hX:statesP v n es=X) :
  Calls Tryz.prog 55 #[.agg #[.int .i64 v.p,.int .i64 v.c,.int .i64 v.h,.int .i64 v.s,.int .i64 n,.slice Ae es.length ce]] w λ f w'=>StR X w f w':=by
 obtain⟨a5,aM,a8,a7,a6⟩:=info_parts infoMs;obtain⟨hd,ay⟩:∃ b,headB v n=b:=⟨_,rfl⟩;have CH:=kD (λ(ev:Value) (C:World)=>head_i v n ev hd ay C);have bi:=hes.len;have bq:=kD (λ(C:World) (h9:Below w.heap.size w C)=>hes.keep (.below h9));obtain⟨M,hM⟩:∃ M,es.length=M:=⟨_,rfl⟩;rw [hM] at bi ⊢;have HM:=kD hM;have am:=kD hX;have aE:=kD ay;obtain⟨ag,ht⟩:∃ t,(!hd || decide (300<M))=t:=⟨_,rfl⟩;have HT:=kD ht;clear hes hM hX ay ht;go_enter Tryz.func55,Tryz.ntmps55;go_upto_region 1 with fail;refine wp_gen (λ W'=>Rows w W' [(0,48,[.int .i64 v.p,.int .i64 v.c,.int .i64 v.h,.int .i64 v.s,.int .i64 n,.slice Ae M ce])]) ⟨by go_grown,λ p P=>?_⟩ ?_
 ·obtain rfl:=List.mem_singleton.1 P;exact RowB.new _ _ _
 intro w1 K;have E:=K.nth0 0 rfl;obtain⟨q0,q1,q2,q3,q4,q5⟩:=E.c6;have N:=E.lt;go_cut [17] from 9 to 17 (λ a4 wx=>a4=.bool ag∧Below w1.heap.size w1 wx)
 case first =>
  cases hd with
  | false =>
   have ht:ag=true:=by rw [<-HT.out];rfl
   subst ht;go_wp2_with fail;refine(CH.out _ _).mono ?_;rintro e w2 ⟨rfl,Z⟩;go_wp2_with fail;go_meet;exact⟨rfl,Z⟩
  | true =>
   have ht:ag=decide (300<M):=by rw [<-HT.out];simp
   subst ht;go_wp2_with fail;refine(CH.out _ _).mono ?_;rintro e w2 ⟨rfl,Z⟩;have E:=(K.below Z).nth0 0 rfl;clear q0 q1 q2 q3 q4 q5 N;obtain⟨q0,q1,q2,q3,q4,q5⟩:=E.c6;have N:=E.lt;go_wp2_with fail;go_meet;exact⟨by first | rfl | (congr 1;simp;done) | (by_cases h3:300<M <;> simp [h3] <;> omega),Z⟩
 case rest =>
 obtain⟨rfl,Z⟩:=hcut;have K:=K.below Z;clear Z CH q0 q1 q2 q3 q4 q5 N E;have E:=K.nth0 0 rfl;obtain⟨q0,q1,q2,q3,q4,q5⟩:=E.c6;have N:=E.lt
 cases ag with
 | true =>
  have aB:X=none:=by
   rw [<-am.out];unfold statesP;rw [if_pos];have h:=HT.out;rw [aE.out,HM.out]
   cases hd with
   | false=>exact .inl rfl
   | true=>exact .inr (by simpa using h)
  subst aB;clear am;have ac:=K.bel;clear K q0 q1 q2 q3 q4 q5 N E;refine kD ?_
  repeat (first | go_values | go_skip | go_step | go_upon)
  refine bodyPost_ret (v:=.tuple #[.slice none 0 0,.bool false]) (by simp [results,Tryz.results55,go_sem]) rfl ?_;exact⟨none,0,0,rfl,λ l h=>(by cases h),ac⟩
 | false =>
 have hh:headB v n=true∧M<=300:=by
  have h:=HT.out;rw [aE.out]
  cases hd with
  | false=>cases h
  | true=>exact⟨rfl,by simpa using h⟩
 have bm:Hid (X=(stGo v n (startS v) es).map ([]++·)):=by
  show _=_
  rw [<-am.out];unfold statesP;rw [if_neg (λ h=>h.elim (λ h=>by rw [hh.1] at h;cases h) (λ h=>by rw [HM.out] at h;omega))]
  cases stGo v n (startS v) es <;> rfl
 have bB:M<=300:=hh.2;have ah:=head_parts hh.1;have CF:=kD (λ(C:World)=>fst_i v ah.1 ah.2.1 C);have bo:=kD (start_ms hh.1);have a1:=kD (show 1<=n∧n<=25 from ah.2.2);clear hh ah am HT aE;go_wp2_with fail;refine(CF.out _).mono ?_;rintro e w3 ⟨v6,rfl,⟨su,u1,u2,rfl,I⟩,Z⟩;have bc:=(K.nth0 0 rfl).lt;have aJ:=Z.size;have K:=K.below Z;clear Z CF q0 q1 q2 q3 q4 q5 N E;obtain⟨⟨A0,c0,rfl,-,-⟩,⟨A1,c1,rfl,-,-⟩,⟨A2,c2,rfl,-,-⟩⟩:=id I;have aZ:=kD (show MsR w3 (NotIn (.slice (some ⟨w3.heap.size,0,none⟩) 1 1) (w.heap.size+1)) _ _ _ (startS v) from I.weak (λ b h hl=>by
  have h:=h.elim False.elim id;exact⟨λ e=>by simp [Value.ownBlock] at e;omega,by omega⟩))
 clear I;simp only [msC,List.length_cons,List.length_nil,Nat.zero_add,Nat.reduceAdd];go_upto_region 4 with fail;refine wp_gen (λ W'=>Sgs w W' v n (.slice Ae M ce) (.slice (some ⟨w3.heap.size,0,none⟩) 1 1) [startS v]) ⟨K.below ((Below.refl _ _).alloc (Nat.le_refl _) _),[(.slice A0 2 c0,.slice A1 (startS v).g.b.1.length c1,.slice A2 (startS v).g.b.2.length c2,startS v)],RowB.own (xs:=[(.slice A0 2 c0,.slice A1 (startS v).g.b.1.length c1,.slice A2 (startS v).g.b.2.length c2,startS v)]) (RowB.new _ _ _) enMs_len (by omega) (by simp) (show (1:Nat)<=maxLen by decide),LsR.snoc (LsR.nil _ _ _) ⟨rfl,aZ.out.keep (.below ((Below.refl _ _).alloc (Nat.le_refl _) _))⟩⟩ ?_;clear K aZ;obtain⟨g4,aO⟩:∃ q,w3.heap.size=q:=⟨_,rfl⟩;rw [aO] at aJ ⊢;clear aO;intro w4 K;have HK:=kD K;have E:=K.k.nth0 0 rfl;obtain⟨q0,q1,q2,q3,q4,q5⟩:=E.c6;have N:=E.lt;clear K bc aJ;go_wp2_with fail;clear q0 q1 q2 q3 q4 q5 N E;go_loopw [2,3,4,5,6,7,8,25] (λ _ _ s4 _ _ _ _ ap wr=>∃(k:Nat) (x:Ms) (O:List Ms) (H W:Nat),s4=.slice (some ⟨H,0,none⟩) (k+1) W∧ap=.int .i64 (k:Int)∧k<=M∧O.length=k∧Hid (Sgs w wr v n (.slice Ae M ce) (.slice (some ⟨H,0,none⟩) (k+1) W) (O++[x]))∧Hid (MsOk v n k x)∧Hid (X=(stGo v n x (es.drop k)).map (O++·))) (λ _ _ _ _ _ _ _ ap _=>M - (intOf ap).toNat)
 case atStart=>exact⟨0,startS v,[],_,_,rfl,by first | rfl | trivial,Nat.zero_le _,rfl,HK,bo,bm⟩
 case round =>
  obtain⟨k,x,O,H,W,rfl,rfl,bx,ai,HK,al,hQ⟩:=hrel;have K:=HK.out;by_cases hlt:k<M
  ·obtain⟨ba,oa,e,As,cq,rfl,aP,bf,av,ca,cb,cc,cd,aV⟩:=(bq.out wr K.k.bel).at_ (i:=k) (by rw [HM.out];exact hlt);obtain⟨X2,ak⟩:∃ X2,nextS v n x e=X2:=⟨_,rfl⟩;have an:Hid (X=(match X2 with | some y=>(stGo v n y (es.drop (k+1))).map (x :: ·) | none=>none).map (O++·)):=by
    show _=_
    rw [hQ.out,stGo_drop x aP,ak]
   obtain⟨rs,Q,V⟩:=K.st;have aF:(O++[x])[k]?=some x:=by rw [List.getElem?_append_right (by omega),ai,Nat.sub_self];rfl
   obtain⟨r,aw⟩:∃ r,rs[k]?=some r:=⟨rs[k]'(by rw [V.1,List.length_append,ai];simp),List.getElem?_eq_getElem _⟩;obtain⟨su,u1,u2,x'⟩:=r;obtain⟨x2,aq,aG,I⟩:=V.at_ aw;rw [aF] at aq;simp only at aG I;subst aG;obtain rfl:=Option.some.inj aq;obtain⟨g',c',aH,aA,m⟩:=own_row enMs_len Q aw;simp only [Value.slice.injEq,Option.some.injEq,Addr.mk.injEq,and_true] at aH;obtain⟨rfl,-,-⟩:=aH;obtain⟨⟨B0,d0,rfl,-,-⟩,⟨B1,d1,rfl,-,-⟩,⟨B2,d2,rfl,-,-⟩⟩:=id I;simp only [List.length_cons,List.length_nil,Nat.zero_add,Nat.reduceAdd] at m I;have CN:=kD (λ(C:World) (h9:Below wr.heap.size wr C)=>next_i v n k x al.out (by omega) a1.out (λ b=>NotIn (.slice (some ⟨H,0,none⟩) (k+1) W) (w.heap.size+1) b∧b<wr.heap.size) _ _ _ e As (some ⟨ba,oa,none⟩) cq C.heap.size M ce C (Nat.le_refl _) ((I.weak (λ b h hl=>⟨h,hl⟩)).below h9) (av.keep (.below h9)).rd X2 ak);have aD:=kD (λ y (h:X2=some y)=>next_ms a1.out.1 al.out (h ▸ ak));have y0:wr.cell? ⟨H,k*12,none⟩=some (.slice B0 2 d0):=m 0 _ rfl;have y1:wr.cell? ⟨H,k*12+1,none⟩=some (.int .i64 x.gs):=m 1 _ rfl;have y2:wr.cell? ⟨H,k*12+2,none⟩=some (.slice B1 x.g.b.1.length d1):=m 2 _ rfl;have y3:wr.cell? ⟨H,k*12+3,none⟩=some (.slice B2 x.g.b.2.length d2):=m 3 _ rfl;have y4:wr.cell? ⟨H,k*12+4,none⟩=some (.int .i64 x.g.pl):=m 4 _ rfl;have y5:wr.cell? ⟨H,k*12+5,none⟩=some (.int .i64 x.g.x):=m 5 _ rfl;have y6:wr.cell? ⟨H,k*12+6,none⟩=some (.int .i64 x.g.y):=m 6 _ rfl;have y7:wr.cell? ⟨H,k*12+7,none⟩=some (.int .i64 x.g.ph):=m 7 _ rfl;have y8:wr.cell? ⟨H,k*12+8,none⟩=some (.int .i64 x.g.wn):=m 8 _ rfl;have y9:wr.cell? ⟨H,k*12+9,none⟩=some (.int .i64 x.g.rs):=m 9 _ rfl;have T:wr.cell? ⟨H,k*12+10,none⟩=some (.int .i64 x.g.tn):=m 10 _ rfl;have S:wr.cell? ⟨H,k*12+11,none⟩=some (.bool x.ov):=m 11 _ rfl;have Y:=kD (And.intro y0 (And.intro y1 (And.intro y2 (And.intro y3 (And.intro y4 (And.intro y5 (And.intro y6 (And.intro y7 (And.intro y8 (And.intro y9 (And.intro T S)))))))))));have j:H<wr.heap.size:=aA.2;have bw:(k:Int)<(k:Int)+1:=by omega
   have bA:w.heap.size+1<=H:=aA.1;obtain⟨ek,ea,eb,ss,er⟩:=e;simp only at ca cb cc cd aV CN av;obtain⟨sl,aI⟩:∃ q,ss.length=q:=⟨_,rfl⟩;rw [aI] at cd CN;clear aP ak av aI hQ al aF aw V Q I m y0 y1 y2 y3 y4 y5 y6 y7 y8 y9 T S aq aA K;go_upto_region 7 with fail;refine wp_gen (λ W'=>Below wr.heap.size wr W'∧RowB W' wr.heap.size 63 [.int .i64 ek,.int .i64 ea,.int .i64 eb,.slice As sl cq,.int .i64 er]) ⟨(Below.refl _ _).alloc (Nat.le_refl _) _,RowB.new _ _ _⟩ ?_;have bn:=kD (show ∀ b,wr.heap.size<=b->NotIn (.slice (some ⟨H,0,none⟩) (k+1) W) (w.heap.size+1) b from λ b Z=>⟨λ e=>by simp [Value.ownBlock] at e;omega,by omega⟩);obtain⟨g6,aj⟩:∃ q,wr.heap.size=q:=⟨_,rfl⟩;rw [aj];have bJ:=kD aj;rintro w5 ⟨ad,R6⟩;rw [<-aj] at ad;have d:=kD ad;have a:H<w5.heap.size:=Nat.lt_of_lt_of_le j ad.size;have af:=kD (HK.out.below ad);clear aj ad ca cb cc cd aV bf;refine region_rel [some 31,some 32,some 33,some 34,some 35,some 36,some 37,some 30,some 38,some 39,some 7,none,some 8] 13 (Pl [some (.agg #[.int .i64 v.p,.int .i64 v.c,.int .i64 v.h,.int .i64 v.s,.int .i64 n,.slice (some ⟨ba,oa,none⟩) M ce]),some (.slice (some ⟨H,0,none⟩) (k+1) W),some (.int .i64 (k:Int)),some (.pointer (some ⟨H,k*12,none⟩)),some (.agg #[.slice B0 2 d0,.int .i64 x.gs,.slice B1 x.g.b.1.length d1,.slice B2 x.g.b.2.length d2,.int .i64 x.g.pl,.int .i64 x.g.x,.int .i64 x.g.y,.int .i64 x.g.ph,.int .i64 x.g.wn,.int .i64 x.g.rs,.int .i64 x.g.tn,.bool x.ov]),some (.agg #[.int .i64 ek,.int .i64 ea,.int .i64 eb,.slice As sl cq,.int .i64 er]),none,none,none,none,none,none,none]) (λ L z w'=>CbF (inS RelMO (NotIn (.slice (some ⟨H,0,none⟩) (k+1) W) (w.heap.size+1))) X2 w5 6 10 11 [(7,(λ v=>v)),(8,ext 0),(9,ext 1),(12,ext 1)] (λ v=>aggC (ext 0 v)) 59 12 L z w') (by kernel_rfl) (by kernel_rfl) (by kernel_rfl) (by kernel_rfl) (by kernel_rfl) (by kernel_rfl) (by first | kernel_rfl | rfl) ?g0_1 ?gst_1 ?gfin_1
   case g0_1=>exact⟨(Below.refl _ _).drew,λ h=>absurd h (by decide),λ p P h=>absurd h (by simp only [List.mem_cons,List.not_mem_nil,or_false] at P;rcases P with rfl | rfl | rfl | rfl <;> decide),λ h=>absurd h (by decide),λ h=>absurd h (by decide)⟩
   case gst_1 =>
    refine rN rfl (λ L z A C D o G U F K J=>?_) ?_
    ·have e1:=U.w 1 (.pointer (some ⟨w.heap.size,0,none⟩));have E:=(af.out.below F.bel).k.nth0 0 rfl;obtain⟨q0,q1,q2,q3,q4,q5⟩:=E.c6;have N:=E.lt;have r6:=R6.below F.bel R6.lt;obtain⟨k0,k1,k2,k3,k4⟩:=r6.c5;have aL:=r6.lt;have B:=Y.out;have y0:=(F.bel.cell a).trans ((d.out.cell j).trans B.1);have y1:=(F.bel.cell a).trans ((d.out.cell j).trans B.2.1);have y2:=(F.bel.cell a).trans ((d.out.cell j).trans B.2.2.1);have y3:=(F.bel.cell a).trans ((d.out.cell j).trans B.2.2.2.1);have y4:=(F.bel.cell a).trans ((d.out.cell j).trans B.2.2.2.2.1);have y5:=(F.bel.cell a).trans ((d.out.cell j).trans B.2.2.2.2.2.1);have y6:=(F.bel.cell a).trans ((d.out.cell j).trans B.2.2.2.2.2.2.1);have y7:=(F.bel.cell a).trans ((d.out.cell j).trans B.2.2.2.2.2.2.2.1);have y8:=(F.bel.cell a).trans ((d.out.cell j).trans B.2.2.2.2.2.2.2.2.1);have y9:=(F.bel.cell a).trans ((d.out.cell j).trans B.2.2.2.2.2.2.2.2.2.1);have T:=(F.bel.cell a).trans ((d.out.cell j).trans B.2.2.2.2.2.2.2.2.2.2.1);have S:=(F.bel.cell a).trans ((d.out.cell j).trans B.2.2.2.2.2.2.2.2.2.2.2);clear E r6 B;go_simp;exact pF J (F.skip 0 _)
    refine rN rfl (λ L z A C D o G U F K J=>?_) ?_
    ·have e4:=U.w 4 (.slice (some ⟨H,0,none⟩) (k+1) W);have B:=Y.out;clear B;go_simp;exact pF J (F.skip 1 _)
    refine rN rfl (λ L z A C D o G U F K J=>?_) ?_
    ·have e5:=U.w 5 (.int .i64 (k:Int));have B:=Y.out;clear B;go_simp;exact pF J (F.skip 2 _)
    refine rN rfl (λ L z A C D o G U F K J=>?_) ?_
    ·have bH:=U.v 1 32;have bG:=U.v 2 33;have B:=Y.out;clear B;go_simp;exact pF J (F.skip 3 _)
    refine rN rfl (λ L z A C D o G U F K J=>?_) ?_
    ·have bF:=U.v 3 34;have E:=(af.out.below F.bel).k.nth0 0 rfl;obtain⟨q0,q1,q2,q3,q4,q5⟩:=E.c6;have N:=E.lt;have r6:=R6.below F.bel R6.lt;obtain⟨k0,k1,k2,k3,k4⟩:=r6.c5;have aL:=r6.lt;have B:=Y.out;have y0:=(F.bel.cell a).trans ((d.out.cell j).trans B.1);have y1:=(F.bel.cell a).trans ((d.out.cell j).trans B.2.1);have y2:=(F.bel.cell a).trans ((d.out.cell j).trans B.2.2.1);have y3:=(F.bel.cell a).trans ((d.out.cell j).trans B.2.2.2.1);have y4:=(F.bel.cell a).trans ((d.out.cell j).trans B.2.2.2.2.1);have y5:=(F.bel.cell a).trans ((d.out.cell j).trans B.2.2.2.2.2.1);have y6:=(F.bel.cell a).trans ((d.out.cell j).trans B.2.2.2.2.2.2.1);have y7:=(F.bel.cell a).trans ((d.out.cell j).trans B.2.2.2.2.2.2.2.1);have y8:=(F.bel.cell a).trans ((d.out.cell j).trans B.2.2.2.2.2.2.2.2.1);have y9:=(F.bel.cell a).trans ((d.out.cell j).trans B.2.2.2.2.2.2.2.2.2.1);have T:=(F.bel.cell a).trans ((d.out.cell j).trans B.2.2.2.2.2.2.2.2.2.2.1);have S:=(F.bel.cell a).trans ((d.out.cell j).trans B.2.2.2.2.2.2.2.2.2.2.2);clear E r6 B;go_simp;exact pF J (F.skip 4 _)
    refine rN rfl (λ L z A C D o G U F K J=>?_) ?_
    ·have e6:=U.w 6 (.pointer (some ⟨g6,0,none⟩));have E:=(af.out.below F.bel).k.nth0 0 rfl;obtain⟨q0,q1,q2,q3,q4,q5⟩:=E.c6;have N:=E.lt;have r6:=R6.below F.bel R6.lt;obtain⟨k0,k1,k2,k3,k4⟩:=r6.c5;have aL:=r6.lt;have B:=Y.out;have y0:=(F.bel.cell a).trans ((d.out.cell j).trans B.1);have y1:=(F.bel.cell a).trans ((d.out.cell j).trans B.2.1);have y2:=(F.bel.cell a).trans ((d.out.cell j).trans B.2.2.1);have y3:=(F.bel.cell a).trans ((d.out.cell j).trans B.2.2.2.1);have y4:=(F.bel.cell a).trans ((d.out.cell j).trans B.2.2.2.2.1);have y5:=(F.bel.cell a).trans ((d.out.cell j).trans B.2.2.2.2.2.1);have y6:=(F.bel.cell a).trans ((d.out.cell j).trans B.2.2.2.2.2.2.1);have y7:=(F.bel.cell a).trans ((d.out.cell j).trans B.2.2.2.2.2.2.2.1);have y8:=(F.bel.cell a).trans ((d.out.cell j).trans B.2.2.2.2.2.2.2.2.1);have y9:=(F.bel.cell a).trans ((d.out.cell j).trans B.2.2.2.2.2.2.2.2.2.1);have T:=(F.bel.cell a).trans ((d.out.cell j).trans B.2.2.2.2.2.2.2.2.2.2.1);have S:=(F.bel.cell a).trans ((d.out.cell j).trans B.2.2.2.2.2.2.2.2.2.2.2);clear E r6 B;go_simp;exact pF J (F.skip 5 _)
    refine rN rfl (λ L z A C D o G U F K J=>?_) ?_
    ·have bI:=U.v 0 31;have bE:=U.v 4 35;have bD:=U.v 5 36;go_simp;refine(CN.out C (d.out.trans (F.bel.mono d.out.size))).mono ?_;rintro e w6 ⟨v6,rfl,bd,bg⟩;exact J.out v6 w6 (Pl.any rfl) (F.call D (by decide) bg (RelMO.weak bd (λ b Z _=>Z.elim (λ h=>⟨.inl (Nat.lt_of_lt_of_le h.2 d.out.size),h.1⟩) (λ h=>⟨.inr h,bn.out b (Nat.le_trans d.out.size (Nat.le_trans F.bel.size h))⟩))))
    refine rN rfl (λ L z A C D o G U F K J=>?_) ?_
    ·have bC:=U.x 6 37;go_simp;exact J.out _ C (Pl.any rfl) (F.part 7 (by decide) (bK o 6) (by intro p P e;simp only [List.mem_cons,List.not_mem_nil,or_false] at P;rcases P with rfl | rfl | rfl | rfl <;> first | exact absurd e (by decide) | rfl))
    refine rN rfl (λ L z A C D o G U F K J=>?_) ?_
    ·have ae:=U.x 7 30;have fc:=F.fc (bK o 6);refine fc.elim λ B3 q=>?_
     refine q.elim λ d3 q=>?_
     refine q.elim λ f3 q=>?_
     refine q.elim λ B4 q=>?_
     refine q.elim λ d4 q=>?_
     refine q.elim λ f4 q=>?_
     refine q.elim λ B5 q=>?_
     refine q.elim λ d5 q=>?_
     refine q.elim λ f5 q=>?_
     refine q.elim λ y q=>?_
     have aU:=ae.trans ((F.fd (7,(λ v=>v)) (by simp) (bK o 7)).2.trans q.1);clear ae fc;go_simp;exact J.out _ C (Pl.any rfl) (F.part 8 (by decide) (bK o 6) (by intro p P e;simp only [List.mem_cons,List.not_mem_nil,or_false] at P;rcases P with rfl | rfl | rfl | rfl <;> first | exact absurd e (by decide) | (rw [q.1];try rfl)))
    refine rN rfl (λ L z A C D o G U F K J=>?_) ?_
    ·have ae:=U.x 7 30;have fc:=F.fc (bK o 6);refine fc.elim λ B3 q=>?_
     refine q.elim λ d3 q=>?_
     refine q.elim λ f3 q=>?_
     refine q.elim λ B4 q=>?_
     refine q.elim λ d4 q=>?_
     refine q.elim λ f4 q=>?_
     refine q.elim λ B5 q=>?_
     refine q.elim λ d5 q=>?_
     refine q.elim λ f5 q=>?_
     refine q.elim λ y q=>?_
     have aU:=ae.trans ((F.fd (7,(λ v=>v)) (by simp) (bK o 7)).2.trans q.1);clear ae fc;go_simp;exact J.out _ C (Pl.any rfl) (F.part 9 (by decide) (bK o 6) (by intro p P e;simp only [List.mem_cons,List.not_mem_nil,or_false] at P;rcases P with rfl | rfl | rfl | rfl <;> first | exact absurd e (by decide) | (rw [q.1];try rfl)))
    refine rN rfl (λ L z A C D o G U F K J=>?_) ?_
    ·go_simp;exact J.out _ _ (Pl.any rfl) (F.box D (by decide) (λ h=>D (G 11 10 (by kernel_rfl) h)) rfl)
    refine rN rfl (λ L z A C D o G U F K J=>?_) ?_
    ·have e7:=U.x 10 7;have bj:=U.x 8 38;have fc:=F.fc (bK o 6);refine fc.elim λ B3 q=>?_
     refine q.elim λ d3 q=>?_
     refine q.elim λ f3 q=>?_
     refine q.elim λ B4 q=>?_
     refine q.elim λ d4 q=>?_
     refine q.elim λ f4 q=>?_
     refine q.elim λ B5 q=>?_
     refine q.elim λ d5 q=>?_
     refine q.elim λ f5 q=>?_
     refine q.elim λ y q=>?_
     refine(F.fa (bK o 10)).elim λ g qa=>?_
     refine qa.2.2.1.elim λ W qc=>?_
     have aQ:W.length=12:=qc.1;have a9:z 8=.agg ⟨(msC (.slice B3 d3 f3) (.slice B4 d4 f4) (.slice B5 d5 f5) y)⟩:=by rw [(F.fd (8,ext 0) (by simp) (bK o 8)).2,q.1];rfl
     refine wp_sm 59 _ _ rfl g 0 (msC (.slice B3 d3 f3) (.slice B4 d4 f4) (.slice B5 d5 f5) y) W (ev (e7.trans qa.1)) (ev (bj.trans a9)) 59 qc.2 (by kernel_rfl) (Nat.le_of_eq aQ.symm) rfl ?_;exact J.out undef _ (Pl.any rfl) (F.wrote (by decide) (bK o 6) (bK o 10) qa.1 qa.2.1 qc.2 (by rw [q.1];exact setL_all W _ aQ))
    refine rN rfl (λ L z A C D o G U F K J=>?_) ?_
    ·have aT:=U.x 9 39;have fc:=F.fc (bK o 6);refine fc.elim λ B3 q=>?_
     refine q.elim λ d3 q=>?_
     refine q.elim λ f3 q=>?_
     refine q.elim λ B4 q=>?_
     refine q.elim λ d4 q=>?_
     refine q.elim λ f4 q=>?_
     refine q.elim λ B5 q=>?_
     refine q.elim λ d5 q=>?_
     refine q.elim λ f5 q=>?_
     refine q.elim λ y q=>?_
     have bs:=aT.trans ((F.fd (9,ext 1) (by simp) (bK o 9)).2.trans (by rw [q.1];try rfl));clear fc aT;go_simp;exact J.out _ C (Pl.any rfl) (F.part 12 (by decide) (bK o 6) (by intro p P e;simp only [List.mem_cons,List.not_mem_nil,or_false] at P;rcases P with rfl | rfl | rfl | rfl <;> first | exact absurd e (by decide) | (rw [q.1];try rfl)))
    exact RelFrom.nil (by decide)
   intro z C P F;simp only [Fr,Act.put,sX,Nat.reduceAdd];obtain⟨gx,az,bz,-,aN⟩:=F.fa trivial;have R7:=(F.fw trivial).2 gx az;obtain⟨B3,d3,f3,B4,d4,f4,B5,d5,f5,y,ar,ab⟩:=aN trivial;have ao:z 12=.bool X2.isSome:=(F.fd (12,ext 1) (by simp) trivial).2.trans (by rw [ar];try rfl);rw [ar] at R7;have R7:RowB C gx 59 (msC (.slice B3 d3 f3) (.slice B4 d4 f4) (.slice B5 d5 f5) y):=R7;rw [az,ao];have aR:=F.bel;have K:=af.out.below aR;have aC:=kD ab;clear F P ar ao aN az CN HK af Y ab aR d R6
   cases X2 with
   | none =>
    have aB:X=none:=by rw [an.out];rfl
    subst aB;have ac:=K.k.bel;clear an aC R7 K aD;go_wp2_with fail;refine bodyPost_ret (v:=.tuple #[.slice none 0 0,.bool false]) (by simp [results,Tryz.results55,go_sem]) rfl ?_;exact⟨none,0,0,rfl,λ l h=>(by cases h),ac⟩
   | some y0 =>
   obtain⟨rfl,I⟩:=aC.out _ rfl;have aY:=kD (aD.out y rfl);have bl:Hid (X=(stGo v n y (es.drop (k+1))).map ((O++[x])++·)):=by
    show _=_
    rw [an.out];simp only [Option.map_map]
    congr 1
    funext l
    simp
   have bv:IntKind.i64.wrap ((k:Int)+1)=(k:Int)+1:=IntWalk.i64_in _ (by omega);obtain⟨a3,y1,y2,y3,y4,y5,y6,y7,y8,y9,T,S⟩:=row12 R7;have be:=R7.lt;obtain⟨rs,Q,V⟩:=K.st;have aK:rs.length=k+1:=by rw [V.1,List.length_append,ai];rfl
   have aa:Below C.heap.size C (C.alloc (.cells ⟨msC (.slice B3 d3 f3) (.slice B4 d4 f4) (.slice B5 d5 f5) y⟩ 59)):=(Below.refl _ _).alloc (Nat.le_refl _) _;have aX:=kD ((Q.below aa (Nat.le_refl _)).more aa.size);have a0:=kD (V.keep (.below aa));have a2:=kD (K.k.below aa);have aW:=kD (show RelMs.R (C.alloc (.cells ⟨msC (.slice B3 d3 f3) (.slice B4 d4 f4) (.slice B5 d5 f5) y⟩ 59)) (NotIn (.slice (some ⟨H,0,none⟩) (k+1) W) (w.heap.size+1)) (.slice B3 d3 f3,.slice B4 d4 f4,.slice B5 d5 f5,y) y from⟨rfl,(I.weak (λ b h _=>h.2)).below aa⟩);have br:w.heap.size+1<=C.heap.size:=(K.k.nth0 0 rfl).lt;clear an aC aD K Q V aa I;go_wp2_with (at_builtin;refine wpL_one rfl _ _ _ rfl (w.heap.size+1) _ 59 a5 (.agg ⟨nulMC⟩) 12 144 Tryz.underlying104 aM a8 a7 a6 rfl (by decide) enMs_len (.slice (some ⟨H,0,none⟩) (k+1) W) rs (.slice B3 d3 f3,.slice B4 d4 f4,.slice B5 d5 f5,y) one_Ms rfl aX.out C.heap.size 1 59 (by first | rfl | (simp;rfl)) (RowB.new _ _ _) ?c1 ?c2 ?c3 ?_)
   case c1=>unfold maxLen;omega
   case c2=>omega
   case c3=>first | omega | (simp;omega)
   intro g bk bt ho hg aS ax;have K:=Sgs.app a2.out a0.out aW.out ho hg (aS.imp id (λ h=>by first | exact h | (rw [World.size_alloc];exact h) | simpa using h)) (λ q hq=>by simp [Value.ownBlock] at hq;omega)
   try rw [aK] at K
   try rw [aK]
   have bp:=kD K;clear ho hg aS K a2 a0 aW aX a3 y1 y2 y3 y4 y5 y6 y7 y8 y9 T S R7 be ax;go_wp2_with fail;go_roundw
   case rel=>exact⟨k+1,y,O++[x],g,bk,rfl,by first | rfl | go_num,by omega,by rw [List.length_append,ai];rfl,bp,aY,bl⟩
   case measure=>simp [intOf];omega
  ·obtain rfl:M=k:=by omega
   have bh:X=some (O++[x]):=by rw [hQ.out,<-HM.out,stGo_end];rfl
   subst bh;have ac:=K.k.bel;have bb:=K.st;clear hQ al K HK;go_wp2_with fail;refine bodyPost_ret (v:=.tuple #[.slice (some ⟨H,0,none⟩) (M+1) W,.bool true]) (by simp [results,Tryz.results55,go_sem]) rfl ?_;exact⟨_,_,_,rfl,λ l h=>(by obtain rfl:=Option.some.inj h;exact bb.less (Nat.le_succ _)),ac⟩
theorem own_lo {α:Type} {w:World} {S:Nat->Prop} {lo sz:Nat} {e:TypeId} {en:α->List Value} {v:Value} {xs:List α} (h:OwnV e sz en w S v xs) (hS:∀ b,S b->lo<=b):OwnS w lo w.heap.size e sz en v xs:=by
 refine⟨⟨h.1.1.1,?_⟩,h.1.2⟩;rcases h.1.1.2 with h0 | ⟨g,cap,cur,rfl,-,rest⟩
 ·exact .inl h0
 ·exact .inr ⟨g,cap,cur,rfl,hS g (h.2 g rfl),rest⟩
theorem Evs.at {w:World} {lo:Nat} {ev:Value} {es:List Ev} (h:Evs w lo ev es) {j:Nat} {e:Ev} (hj:es[j]?=some e) :
  ∃ g cap A c,ev=.slice (some ⟨g,0,none⟩) es.length cap∧lo<=g∧g<w.heap.size ∧
   w.cell? ⟨g,j*5,none⟩=some (.int .i64 e.k)∧w.cell? ⟨g,j*5+1,none⟩=some (.int .i64 e.a)∧w.cell? ⟨g,j*5+2,none⟩=some (.int .i64 e.b)∧w.cell? ⟨g,j*5+3,none⟩=some (.slice A e.ss.length c)∧w.cell? ⟨g,j*5+4,none⟩=some (.int .i64 e.r) ∧
   (∀ i,w.frozen? ⟨g,i,none⟩=false)∧OwnS w lo w.heap.size 150 4 enSt (.slice A e.ss.length c) e.ss∧(Value.slice A e.ss.length c).ownBlock≠some g:=by
 obtain⟨s,C,z,H⟩:=h;have v:=(List.getElem?_eq_some_iff.1 hj).1;have p:j<s.length:=by rw [z.1];exact v
 obtain⟨x,B,q⟩:=z.at_ (List.getElem?_eq_getElem p);rw [hj] at B;obtain rfl:=Option.some.inj B;rcases C.cases_ with ⟨_,e0⟩ | ⟨g,cap,rest,rfl,hlo,hhi,hrow,_⟩
 ·rw [e0] at p;simp at p
 obtain⟨A,c,m,-⟩:=q.2.1.form enSt_len;have l:=own_lo q.2 (lo:=lo) (λ b y=>y.2);have n:(s[j]).2.2.2.1.ownBlock≠some g:=λ e=>(q.2.2 g e).1 rfl
 rw [m] at l n;have d:∀ f u,(enEv s[j])[f]?=some u->w.cell? ⟨g,j*5+f,none⟩=some u:=λ f u D=>by
  obtain⟨b,o,e,_,F⟩:=(C.rd enEv_len).2 (by omega);simp only [Option.some.injEq,Addr.mk.injEq,and_true] at e;obtain⟨rfl,rfl⟩:=e;have:=F j _ (List.getElem?_eq_getElem p) f u D
  rwa [Nat.zero_add] at this
 obtain⟨E,G,y,t⟩:=q.1;refine⟨g,cap,A,c,by rw [z.1],hlo,hhi,?_,?_,?_,?_,?_,hrow.frozen,l,n⟩
 ·rw [<-E];exact d 0 _ rfl
 ·rw [<-G];exact d 1 _ rfl
 ·rw [<-y];exact d 2 _ rfl
 ·rw [<-m];exact d 3 _ rfl
 ·rw [<-t];exact d 4 _ rfl
theorem Evs.evl {w:World} {lo:Nat} {A:Option Addr} {m c:Nat} {es:List Ev} (h:Evs w lo (.slice A m c) es):EvL w All A es:=by
 obtain⟨j,n,g,s⟩:=h;obtain⟨v,t,e,d⟩:=n.form enEv_len;simp only [Value.slice.injEq] at e;obtain⟨rfl,-,-⟩:=e;refine⟨j,RdF.of d (Nat.le_refl _) (λ _ _=>trivial),g.1,λ i r x l k=>?_⟩;obtain⟨a,b⟩:=g.2 i r x l k;obtain⟨q,p,o,f⟩:=b.1.form enSt_len;exact⟨a,q,p,o,RdF.of f (Nat.le_refl _) (λ _ _=>trivial)⟩
end Gm
end Go.Proofs.YtmncnhbjifeoeaaGreat
