/- Parts of the proof of FnHints. Conditions: each theorem's own. -/
import Derived.Test.YtmncnhbjifeoeaaGreatT13
set_option linter.unusedVariables false
set_option linter.unusedSimpArgs false
set_option maxHeartbeats 8000000
set_option maxRecDepth 100000
namespace Go.Proofs.YtmncnhbjifeoeaaGreat
namespace Bd19
open Go.ChangeShapes Go.WideShapes Go.ChangeAt Go.RowKit Base Ints Own Clone RelG PlP Bd1 Bd4 Bd5 Bd6 Bd7 Bd7S Bd8 Bd9 Bd11 RegInv RegF RegG Bd16 Bd17
abbrev RelQ:Rel Value (List Pl):=relSl RelP 3 enP
theorem infoQ:(Tryz.prog.info? 38).map (λ i=>(i.zero,i.size,i.bytes))=some (some (.slice none 0 0),1,24):=by kernel_rfl
theorem rows_zero {v:Vr} {d:Int} {ds:List Int} {R:List (List Pl)} {f:Bool} (h:(nextP v d (R.getLastD [])).length=0):rowsGo v (d :: ds) R f=(R,f):=by
 simp only [rowsGo];rw [if_pos h]
theorem rows_more {v:Vr} {d:Int} {ds:List Int} {R:List (List Pl)} {f:Bool} (h:¬ (nextP v d (R.getLastD [])).length=0):rowsGo v (d :: ds) R f=rowsGo v ds (R++[nextP v d (R.getLastD [])]) (f && decide ((nextP v d (R.getLastD [])).length<=3000)):=by
 simp only [rowsGo];rw [if_neg h]
theorem drop_at {l:List Int} {i:Nat} (h:i<l.length):l.drop i=at_ l i :: l.drop (i+1):=by
 have a:=at_get h;rw [List.getElem?_eq_getElem h] at a;rw [List.drop_eq_getElem_cons h];simp only [Option.some.injEq] at a;rw [a]
theorem last_of {R:List (List Pl)} {i:Nat} (h:R.length=i+1):R[i]?=some (R.getLastD []):=by
 rw [List.getLastD_eq_getLast?,List.getLast?_eq_getElem?,h,Nat.add_sub_cancel];rw [List.getElem?_eq_getElem (by omega)];rfl
theorem OwnG.form {ρ α:Type} {K:Rel ρ α} {w:World} {lo hi sz:Nat} {e:TypeId} {en:ρ->List Value} {v:Value} {xs:List α} (hen:∀ x,(en x).length=sz) (h:OwnG K w lo hi e sz en v xs):∃ A c,v=.slice A xs.length c∧(A=none->c=0):=by
 obtain⟨i,b,f⟩:=h;obtain⟨A,c,a,-⟩:=b.form hen;refine⟨A,c,by rw [a,f.1],λ d=>?_⟩;rcases b.cases_ with ⟨e2,_⟩ | ⟨g,cap,rest,e2,_⟩
 ·rw [a] at e2;simp only [Value.slice.injEq] at e2;exact e2.2.2
 ·rw [a,d] at e2;simp only [Value.slice.injEq] at e2;exact absurd e2.1 (by simp)
structure Sq (w wr:World) (v:Vr) (vl:Value) (R:List (List Pl)):Prop where
 bel:Below w.heap.size w wr
 rv:RowB wr w.heap.size 25 (vL v)
 og:OwnG RelQ wr (w.heap.size+2) wr.heap.size 38 1 en1 vl R
theorem Sq.below {w wr w':World} {v:Vr} {vl:Value} {R:List (List Pl)} (h:Sq w wr v vl R) (hb:Below wr.heap.size wr w'):Sq w w' v vl R :=
 ⟨h.bel.trans (hb.mono h.bel.size),h.rv.below hb h.rv.lt,(h.og.below_ hb).more hb.size⟩
theorem pow_le {i:Nat} (h:i<=3):25 ^ i<=20000:=by
 have:i=0∨i=1∨i=2∨i=3:=by omega
 rcases this with rfl | rfl | rfl | rfl <;> decide
theorem first_row {W:World} {b:Bd} {n g1 g2 lo:Nat} {A1 A2:Option Addr} {c1 c2:Nat} (h1:RowB W g1 44 [.slice none 0 0,.slice A1 n c1,.slice A2 n c2]) (h2:RowB W g2 38 [.slice (some ⟨g1,0,none⟩) 1 1]) (hg:g1≠g2) (l1:lo<=g1) (l2:lo<=g2)
  (k1:SlV 1 enI W (λ x=>lo<=x∧x≠g2) (.slice A1 n c1) b.1) (k2:SlV 1 enI W (λ x=>lo<=x∧x≠g2) (.slice A2 n c2) b.2):OwnG RelQ W lo W.heap.size 38 1 en1 (.slice (some ⟨g2,0,none⟩) 1 1) [[([],b)]]:=by
 have d:∀ x,(lo<=x∧x≠g2)->NotIn (.slice (some ⟨g2,0,none⟩) 1 1) lo x:=λ x a=>⟨λ e=>a.2 (by simp [Value.ownBlock] at e;exact e.symm),a.1⟩
 refine⟨[.slice (some ⟨g1,0,none⟩) 1 1],RowB.own (xs:=[Value.slice (some ⟨g1,0,none⟩) 1 1]) h2 en1_len l2 h2.lt (show 1<=maxLen by decide),LsR.snoc (LsR.nil _ _ _) ?_⟩;have j:OwnS W 0 W.heap.size 44 3 enP (.slice (some ⟨g1,0,none⟩) 1 1) [((.slice none 0 0,.slice A1 n c1,.slice A2 n c2):PRow)]:=RowB.own (xs:=[((.slice none 0 0,.slice A1 n c1,.slice A2 n c2):PRow)]) h1 enP_len (Nat.zero_le _) h1.lt (show 1<=maxLen by decide);have f:OwnV 44 3 enP W (λ x=>lo<=x∧x≠g2) (.slice (some ⟨g1,0,none⟩) 1 1) [((.slice none 0 0,.slice A1 n c1,.slice A2 n c2):PRow)]:=⟨j,λ g h=>by simp [Value.ownBlock] at h;subst h;exact⟨l1,hg⟩⟩;obtain⟨A,c,l,i,k⟩:=f.sl enP_len;refine RelQ.weak (S:=λ x=>lo<=x∧x≠g2) ⟨A,c,_,l,i,?_,k⟩ (λ x a _=>d x a);exact LsR.snoc (LsR.nil _ _ _) ⟨⟨OwnS.nil_ _ _ _ _ _ _,λ g h=>by simp [Value.ownBlock] at h⟩,k1,k2⟩
theorem seqOf_i (v:Vr) (b:Bd) (hb:Ok v b) (Ao At:Option Addr) (co ct:Nat) (ds:List Int) (hds:∀ d ∈ ds,1<=d∧d<=6) (hlen:ds.length<=4) (u:Value) (w:World) (ho:RdS w w.heap.size 1 enI Ao b.1) (ht:RdS w w.heap.size 1 enI At b.2) (hA:Ao=none->co=0) (hT:At=none->ct=0) (hu:SlV 1 enI w All u ds) :
  Calls Tryz.prog 120 #[.agg #[.int .i64 v.p,.int .i64 v.c,.int .i64 v.h,.int .i64 v.s],.agg #[.slice Ao b.1.length co,.slice At b.2.length ct],u] w λ e w'=>∃ vv,e=.returned (.tuple #[vv,.bool (rowsP v b ds).2])∧OwnG RelQ w' w.heap.size w'.heap.size 38 1 en1 vv (rowsP v b ds).1∧Below w.heap.size w w':=by
 obtain⟨iQ,aE,ax,aw,av⟩:=info_parts infoQ;have hv:=hb.v1;have af:okV v=true:=okV_iff.2 hv;obtain⟨P,hP⟩:∃ P:Nat,v.p=(P:Int):=⟨v.p.toNat,by omega⟩;have HP:=kD hP;have aO:P<=24:=by omega
 obtain⟨n,hn⟩:∃ n,P+1=n:=⟨_,rfl⟩;have aa:b.1.length=n:=by have:=hb.own.len;omega
 have Z:b.2.length=n:=by have:=hb.oth.len;omega
 have CC:=kD (λ(w9:World) (h:Below w.heap.size w w9)=>clone_i b.1 b.2 Ao At co ct w.heap.size w9 h.size (ho.below h (Nat.le_refl _)) (ht.below h (Nat.le_refl _)) hA hT (by omega) (by omega));rw [aa,Z] at CC ⊢;have aq:=kD aa;have ap:=kD Z;have HB:=kD hb;obtain⟨Au,cu,rfl,ag,-⟩:=hu;obtain⟨N,hN⟩:∃ N,ds.length=N:=⟨_,rfl⟩;have HN:=kD hN;rw [hN] at hlen ⊢;have aI:=kD ag;have aM:=kD (λ i (h:i<N)=>hds _ (List.mem_of_getElem? (at_get (l:=ds) (i:=i) (by rw [hN];exact h))));have aL:=kD (λ(w9:World) (i:Nat) (hi:i<=3) (xs:List Pl) (ay:RowOk v i xs) (az:xs.length<=25 ^ i) (d:Int) (hd:1<=d∧d<=6) (uu:Value) (S0:Nat->Prop) (hu:SlG RelP 3 enP w9 S0 uu xs)=>goOn_i v af i (by omega) xs ay (Nat.le_trans az (pow_le hi)) d hd uu S0 w9 hu);obtain⟨RR,Y⟩:∃ r,rowsP v b ds=r:=⟨_,rfl⟩;rw [Y];have aJ:=kD Y;clear hb hv af hP aa Z ho ht hA hT hN ag hds Y;go_enter Tryz.func120,Tryz.ntmps120;go_upto_region 1 with fail;refine wp_gen (λ W'=>Below w.heap.size w W'∧RowB W' w.heap.size 25 (vL v)∧RowB W' (w.heap.size+1) 28 [.slice Ao n co,.slice At n ct]) ⟨by go_grown,(RowB.new _ _ _).alloc _,RowB.new' _ _ _ (by simp)⟩ ?_;rintro w1 ⟨J,rv,rb⟩;obtain⟨r0,r1⟩:=rb.c2;have aD:=rb.lt;go_wp2_with fail;refine(CC.out w1 J).mono ?_;rintro e w2 ⟨A1,c1,A2,c2,rfl,o1,o2,-,I⟩;have rv:=rv.below I rv.lt;have aC:w.heap.size+2<=w1.heap.size:=by omega
 have ao:=J.trans (I.mono J.size);have aB:=I.size;rw [aq.out] at o1;rw [ap.out] at o2;simp only [aq.out,ap.out];clear r0 r1 aD rb J I CC;go_upto_region 2 with fail;refine wp_gen (λ W'=>Sq w W' v (.slice (some ⟨w2.heap.size+1,0,none⟩) 1 1) [[([],b)]]) ?_ ?_
 ·refine⟨by go_grown,(rv.alloc _).alloc _,first_row (g1:=w2.heap.size) (RowB.alloc (RowB.new _ _ _) _) (RowB.new' _ _ _ (by simp)) (by omega) (by omega) (by omega) ?_ ?_⟩
  ·have h1:=(OwnV.of o1 (Nat.le_refl _) (S:=λ x=>w1.heap.size<=x∧x<w2.heap.size) (λ x D m=>⟨D,m⟩)).sl enI_len;exact(relV 1 enI).weak ((relV 1 enI).keep h1 (.below (by go_grown))) (λ x D _=>⟨by omega,by omega⟩)
  ·have h1:=(OwnV.of o2 (Nat.le_refl _) (S:=λ x=>w1.heap.size<=x∧x<w2.heap.size) (λ x D m=>⟨D,m⟩)).sl enI_len;exact(relV 1 enI).weak ((relV 1 enI).keep h1 (.below (by go_grown))) (λ x D _=>⟨by omega,by omega⟩)
 intro w3 K;clear rv o1 o2 ao aC aB;have G:=K.rv.lt;go_wp2_with fail;go_loopw [8,9,20] (λ vl fv i wr=>∃(k:Nat) (R:List (List Pl)) (f:Bool),k<=N∧i=.int .i64 (k:Int)∧fv=.bool f∧Sq w wr v vl R∧Hid (R.length=k+1)∧Hid (RowOk v k (R.getLastD [])∧(R.getLastD []).length<=25 ^ k)∧Hid (rowsGo v (ds.drop k) R f=RR)) (λ _ _ i _=>N - (intOf i).toNat)
 case atStart=>exact⟨0,[[([],b)]],true,Nat.zero_le _,by first | rfl | trivial,by first | rfl | trivial,K,kD rfl,kD ⟨λ q hq=>by simp at hq;subst hq;exact⟨HB.out,rfl⟩,by simp⟩,aJ⟩
 case round =>
  obtain⟨k,R,f,hk,rfl,rfl,K,HL,HO,HG⟩:=hrel;clear G;have G:=K.rv.lt;by_cases hlt:k<N
  ·obtain⟨bu,ou,rfl,aG,am⟩:=at_rd (aI.out.rd.below K.bel (Nat.le_refl _)) (i:=k) (by rw [HN.out];exact hlt);have aS:(k:Int)<(N:Int):=by omega
   have aQ:IntKind.i64.wrap ((k:Int)+1)=(k:Int)+1:=IntWalk.i64_in _ (by omega);have hD:=aM.out k hlt;have z:=kD HG.out;rw [drop_at (by rw [HN.out];exact hlt)] at z;obtain⟨d,hd⟩:∃ d,at_ ds k=d:=⟨_,rfl⟩;rw [hd] at am hD z;clear hd HG;obtain⟨rs,j,a⟩:=K.og;obtain⟨Av,cv,ae,ai⟩:=j.form en1_len;have o:rs.length=k+1:=by rw [a.1];exact HL.out
   obtain⟨L,hL⟩:∃ L,k+1=L:=⟨_,rfl⟩;have ad:=kD hL;rw [o,hL] at ae;subst ae;obtain⟨bv,ov,r,rfl,aF,hr,A⟩:=ai.at_ (i:=k) (by omega);have A:=A 0 r rfl;have A:wr.cell? ⟨bv,ov+k,none⟩=some r:=by simpa using A
   have HR:=kD (a.2 k r _ hr (last_of HL.out));have aU:IntKind.i64.wrap ((L:Int) - 1)=(k:Int):=by rw [IntWalk.i64_in _ (by omega)];omega
   have aT:(k:Int)<(L:Int):=by omega
   clear j a ai hr o hL;obtain⟨q0,q1,q2,q3⟩:=K.rv.c4;go_wp2_with fail;go_still_tail 8,(by kernel_rfl);go_wp2_with fail;refine(aL.out wr.drew k (by omega) _ HO.out.1 HO.out.2 d hD r _ (RelQ.keep HR.out (.below (Below.refl _ _).drew))).mono ?_;rintro e T ⟨nv,rfl,E,an⟩;have K0:Sq w wr.drew v _ R:=K.below (Below.refl _ _).drew;have B:∀ g,(Value.slice (some ⟨bv,ov,none⟩) L cv).ownBlock=some g->w.heap.size+2<=g∧g<wr.heap.size:=λ g hg=>by obtain⟨aP,h9,-⟩:=K.og;exact h9.block g hg
   have aA:w.heap.size+2<=wr.heap.size:=by have:=(B bv rfl);omega
   obtain⟨t,F⟩:∃ l,nextP v d (R.getLastD [])=l:=⟨_,rfl⟩;have aK:=kD (show RowOk v (k+1) t∧t.length<=25 ^ (k+1) from by
    rw [<-F];refine⟨next_ok hD.1 HO.out.1,Nat.le_trans next_len ?_⟩;rw [Nat.pow_succ];exact Nat.mul_le_mul HO.out.2 (by have:=HP.out;omega))
   rw [F] at E;have ab:SlG RelP 3 enP T (NotIn (.slice (some ⟨bv,ov,none⟩) L cv) (w.heap.size+2)) nv t:=RelQ.weak (E.sl enP_len (Nat.le_refl _)) (λ x (D:wr.heap.size<=x) _=>⟨λ h=>by have:=(B x h).2;omega,by omega⟩);obtain⟨An,cn,ak,-⟩:=OwnG.form enP_len E;have K:=K0.below an;obtain⟨M,hM⟩:∃ M,t.length=M:=⟨_,rfl⟩;rw [hM] at ak;subst ak;have ac:=kD hM;have C:=kD F;clear K0 E an HR aG am aF A B hM F q0 q1 q2 q3 G aA;have G:=K.rv.lt;by_cases h0:M=0
   ·have e7:((M:Int) == 0)=true:=by simp [h0]
    have O:(R,f)=RR:=by rw [<-z.out,rows_zero (by rw [C.out,ac.out];exact h0)]
    subst O;have aH:=kD h0;clear h0 z ab;go_wp2_with fail;go_ret2;exact⟨_,rfl,K.og.less (by omega),K.bel⟩
   ·have e7:((M:Int) == 0)=false:=by simp [h0]
    have O:Hid (rowsGo v (ds.drop (k+1)) (R++[t]) (f && decide (t.length<=3000))=RR):=kD (by
     rw [<-z.out,rows_more (by rw [C.out,ac.out];exact h0),C.out])
    have aH:=kD h0;obtain⟨x,D⟩:∃ x,decide ((M:Int)<=3000)=x:=⟨_,rfl⟩;have m:decide (t.length<=3000)=x:=by rw [<-D,ac.out];exact decide_eq_decide.2 (by omega)
    rw [m] at O;have HX:=kD m;have al:(R++[t]).getLastD []=t:=by simp
    have ar:Hid ((R++[t]).length=k+1+1)∧Hid (RowOk v (k+1) ((R++[t]).getLastD [])∧((R++[t]).getLastD []).length<=25 ^ (k+1)):=⟨kD (by rw [List.length_append,HL.out];rfl),by rw [al];exact aK⟩;clear h0 z m al;obtain⟨rs,j,a⟩:=K.og;have o:=kD (show rs.length=L from by rw [a.1,<-ad.out];exact HL.out);have ah:=kD j.block;have HF:Hid ((f && x)=(f && x)):=kD rfl
    cases f
    all_goals
     go_wp2_with (at_builtin;refine wpL_one rfl _ _ _ rfl (w.heap.size+2) _ 38 iQ (.slice none 0 0) 1 24 Tryz.underlying131 aE ax aw av rfl (by decide) en1_len (.slice (some ⟨bv,ov,none⟩) L cv) rs (.slice An M cn) (by intro u hu;simp [en1] at hu;subst hu;rfl) rfl (j.alloc _) T.heap.size 1 38 rfl (RowB.new _ _ _) ?c1 ?c2 ?c3 ?_)
     case c1=>have:=o.out;have:=ad.out;unfold maxLen;omega
     case c2=>have:=o.out;have:=ad.out;omega
     case c3=>go_size
     intro g6 c6 w6 aj W y aN;have H:Below T.heap.size T (T.alloc (.cells #[.slice An M cn] 38)):=by go_grown
     have y:(Value.slice (some ⟨bv,ov,none⟩) L cv).ownBlock=some g6∨g6=(T.alloc (.cells #[.slice An M cn] 38)).heap.size:=by simpa using y
     have V:=below_grown (w:=T) H W;have og:=own_snoc (a.keep (.below H)) (RelQ.keep ab (.below H)) aj W y;have X:=ah.out;rw [o.out] at og;have Q:=o.out;have K9:Sq w w6 v (.slice (some ⟨g6,0,none⟩) (L+1) c6) (R++[t]):=⟨K.bel.grown V K.bel.size (λ g hg=>by have:=(X g hg).1;omega),K.rv.grown V (λ g hg=>by have:=(X g hg).1;omega),og⟩;clear og V y H aj W X K j a ab;rw [Q];clear Q;go_wp2_with fail;go_roundw
     case rel=>exact⟨k+1,R++[t],_,by omega,by go_num,by first | rfl | (rw [D];rfl) | simp,K9,ar.1,ar.2,by first | exact O | (rw [<-D] at O;exact O) | simpa using O⟩
     case measure=>simp [intOf];omega
  ·obtain rfl:k=N:=by omega
   have aR:¬ ((k:Int)<(k:Int)):=by omega
   have O:(R,f)=RR:=by rw [<-HG.out,List.drop_of_length_le (by rw [HN.out];exact Nat.le_refl _)];rfl
   subst O;clear HG;go_wp2_with fail;go_ret2;exact⟨_,rfl,K.og.less (by omega),K.bel⟩
end Bd19
namespace Bd20
open Go.ChangeShapes Go.WideShapes Go.ChangeAt Go.RowKit Base Ints Own Clone RelG PlP Bd1 Bd4 Bd5 Bd6 Bd7 Bd7S Bd8 Bd9 Bd11 RegInv RegF RegG Bd16 Bd17 Bd19
abbrev RelR:Rel Value (List (List Pl)):=relSl RelQ 1 en1
theorem infoS:(Tryz.prog.info? 131).map (λ i=>(i.zero,i.size,i.bytes))=some (some (.slice none 0 0),1,24):=by kernel_rfl
theorem ord_dice {x y:Int} (hx:1<=x∧x<=6) (hy:1<=y∧y<=6):(∀ o ∈ ordP x y,(∀ d ∈ o,1<=d∧d<=6)∧o.length<=4)∧(ordP x y).length<=2:=by
 unfold ordP;split
 ·exact⟨λ o a=>by simp at a;subst a;exact⟨by intro d b;simp at b;omega,by simp⟩,by simp⟩
 ·exact⟨λ o a=>by simp at a;rcases a with rfl | rfl <;> exact⟨by intro d b;simp at b;omega,by simp⟩,by simp⟩
def sqM (v:Vr) (b:Bd) (os:List (List Int)):List (List (List Pl)):=os.map λ o=>(rowsP v b o).1
def sqF (v:Vr) (b:Bd) (os:List (List Int)):Bool:=os.all λ o=>(rowsP v b o).2
theorem sqM_snoc (v:Vr) (b:Bd) (os:List (List Int)) (o:List Int):sqM v b (os++[o])=sqM v b os++[(rowsP v b o).1]:=by unfold sqM;rw [List.map_append];rfl
theorem sqF_snoc (v:Vr) (b:Bd) (os:List (List Int)) (o:List Int):sqF v b (os++[o])=(sqF v b os && (rowsP v b o).2):=by unfold sqF;rw [List.all_append];simp
structure Sr2 (w wr:World) (v:Vr) (cs:List Value) (vl:Value) (R:List (List (List Pl))) (uo:Value) (os:List (List Int)):Prop where
 bel:Below w.heap.size w wr
 rv:RowB wr w.heap.size 25 (vL v)
 rb:RowB wr (w.heap.size+1) 28 cs
 og:OwnG RelR wr (w.heap.size+3) wr.heap.size 131 1 en1 vl R
 or_:SlG RelI 1 en1 wr (NotIn vl 0) uo os
theorem Sr2.below {w wr w':World} {v:Vr} {cs:List Value} {vl:Value} {R:List (List (List Pl))} {uo:Value} {os:List (List Int)} (h:Sr2 w wr v cs vl R uo os) (hb:Below wr.heap.size wr w'):Sr2 w w' v cs vl R uo os :=
 ⟨h.bel.trans (hb.mono h.bel.size),h.rv.below hb h.rv.lt,h.rb.below hb h.rb.lt,(h.og.below_ hb).more hb.size,(relSl RelI 1 en1).keep h.or_ (.below hb)⟩
theorem seqs_i (v:Vr) (b:Bd) (hb:Ok v b) (Ao At:Option Addr) (co ct:Nat) (x y:Int) (hx:1<=x∧x<=6) (hy:1<=y∧y<=6) (w:World) (ho:RdS w w.heap.size 1 enI Ao b.1) (ht:RdS w w.heap.size 1 enI At b.2) (hA:Ao=none->co=0) (hT:At=none->ct=0) :
  Calls Tryz.prog 83 #[.agg #[.int .i64 v.p,.int .i64 v.c,.int .i64 v.h,.int .i64 v.s],.agg #[.slice Ao b.1.length co,.slice At b.2.length ct],.agg #[.int .i64 x,.int .i64 y]] w λ e w'=>∃ vv,e=.returned (.tuple #[vv,.bool (sqF v b (ordP x y))])∧OwnG RelR w' w.heap.size w'.heap.size 131 1 en1 vv (sqM v b (ordP x y))∧Below w.heap.size w w':=by
 obtain⟨iQ,aq,ao,an,am⟩:=info_parts infoS;have CO:=kD (λ(R:World)=>orders_i x y R);obtain⟨a,aa⟩:∃ a,ordP x y=a:=⟨_,rfl⟩;have HD:=ord_dice hx hy;rw [aa] at HD CO ⊢;have al:=kD HD.1;have Z:=HD.2;obtain⟨n1,ag⟩:∃ n,b.1.length=n:=⟨_,rfl⟩;obtain⟨n2,af⟩:∃ n,b.2.length=n:=⟨_,rfl⟩;have CS:=kD (λ(R:World) (h:Below w.heap.size w R) (o:List Int) (ac:o ∈ a) (u:Value) (hu:SlV 1 enI R All u o)=>seqOf_i v b hb Ao At co ct o (al.out o ac).1 (al.out o ac).2 u R ((ho.below h (Nat.le_refl _)).more h.size) ((ht.below h (Nat.le_refl _)).more h.size) hA hT hu);rw [ag,af] at CS ⊢;obtain⟨N,hN⟩:∃ N,a.length=N:=⟨_,rfl⟩;have HN:=kD hN;rw [hN] at Z;clear hb ho ht hA hT aa HD ag af hN hx hy;go_enter Tryz.func83,Tryz.ntmps83;go_upto_region 1 with fail;refine wp_gen (λ W'=>Below w.heap.size w W'∧RowB W' w.heap.size 25 (vL v)∧RowB W' (w.heap.size+1) 28 [.slice Ao n1 co,.slice At n2 ct]∧RowB W' (w.heap.size+2) 30 [.int .i64 x,.int .i64 y]) ⟨by go_grown,((RowB.new _ _ _).alloc _).alloc _,RowB.alloc (RowB.new' _ _ _ (by simp)) _,RowB.new' _ _ _ (by simp)⟩ ?_;rintro w1 ⟨Q,rv,rb,rr⟩;obtain⟨r0,r1⟩:=rr.c2;have J:=rr.lt;go_wp2_with fail;refine(CO.out w1).mono ?_;rintro e w2 ⟨uo,rfl,ab,A⟩;have K:Sr2 w w2 v [.slice Ao n1 co,.slice At n2 ct] (.slice none 0 0) [] uo a:=⟨Q.trans (A.mono Q.size),rv.below A rv.lt,rb.below A rb.lt,OwnG.nil_ _ _ _ _ _ _ _,(relSl RelI 1 en1).weak ab (λ x _ _=>⟨λ h=>by simp [Value.ownBlock] at h,Nat.zero_le _⟩)⟩;obtain⟨Ar,cr,ay,T,-⟩:=ab;have V:w.heap.size+3<=w2.heap.size:=by have:=A.size;omega
 rw [HN.out] at T;subst T;clear r0 r1 J rb rr rv Q A CO;have L:=K.rv.lt;go_wp2_with fail;go_loopw [8,9,17] (λ vl fv i wr=>∃(k:Nat),k<=N∧i=.int .i64 (k:Int)∧fv=.bool (sqF v b (a.take k))∧Sr2 w wr v [.slice Ao n1 co,.slice At n2 ct] vl (sqM v b (a.take k)) (.slice Ar N cr) a∧w.heap.size+3<=wr.heap.size) (λ _ _ i _=>N - (intOf i).toNat)
 case atStart=>exact⟨0,Nat.zero_le _,by first | rfl | trivial,by first | rfl | trivial,K,V⟩
 case round =>
  obtain⟨k,hk,rfl,rfl,K,V⟩:=hrel;clear L;have L:=K.rv.lt;have J:=K.rb.lt;by_cases hlt:k<N
  ·obtain⟨A5,c5,rs,e5,E,m,-⟩:=K.or_;simp only [Value.slice.injEq] at e5;obtain⟨rfl,-,rfl⟩:=e5;obtain⟨b5,o5,r,rfl,-,ar,hr,P⟩:=E.at_ (i:=k) (by rw [m.1,HN.out];exact hlt);obtain⟨o,ho,ai⟩:=m.at_ hr;have P:wr.cell? ⟨b5,o5+k,none⟩=some r:=by have:=P 0 r rfl;simpa using this
   have aw:=kD (List.mem_of_getElem? ho);have av:=kD ((RelI).weak ai (S':=All) (λ _ _ _=>trivial));have HM:=kD (show sqM v b (a.take (k+1))=sqM v b (a.take k)++[(rowsP v b o).1] from by rw [takeS ho,sqM_snoc]);have HF:=kD (show sqF v b (a.take (k+1))=(sqF v b (a.take k) && (rowsP v b o).2) from by rw [takeS ho,sqF_snoc]);have aC:(k:Int)<(N:Int):=by omega
   have az:IntKind.i64.wrap ((k:Int)+1)=(k:Int)+1:=IntWalk.i64_in _ (by omega);obtain⟨X,hX⟩:∃ X,sqM v b (a.take k)=X:=⟨_,rfl⟩;obtain⟨f,hf⟩:∃ f,sqF v b (a.take k)=f:=⟨_,rfl⟩;have aj:=kD (show X.length<=2 from by rw [<-hX];unfold sqM;rw [List.length_map,List.length_take,HN.out];omega);rw [hX] at K HM;rw [hf] at HF ⊢;clear hX hf E m hr ho ai;obtain⟨q0,q1,q2,q3⟩:=K.rv.c4;obtain⟨z0,z1⟩:=K.rb.c2;go_wp2_with fail;refine(CS.out wr K.bel o aw.out r av.out).mono ?_;rintro e H ⟨nv,rfl,I,z⟩;have F:∀ g,u8.ownBlock=some g->w.heap.size+3<=g∧g<wr.heap.size:=λ g O=>by obtain⟨B,h9,-⟩:=K.og;exact h9.block g O
   have ak:SlG RelQ 1 en1 H (NotIn u8 (w.heap.size+3)) nv (rowsP v b o).1:=(relSl RelQ 1 en1).weak (I.sl en1_len (Nat.le_refl _)) (λ x (hx:wr.heap.size<=x) _=>⟨λ h=>by have:=(F x h).2;omega,by omega⟩);have K:=K.below z;have aA:=z.size;obtain⟨An,cn,ae,-⟩:=Bd19.OwnG.form en1_len I;obtain⟨M,hM⟩:∃ M,(rowsP v b o).1.length=M:=⟨_,rfl⟩;rw [hM] at ae;subst ae;obtain⟨fo,ah⟩:∃ f,(rowsP v b o).2=f:=⟨_,rfl⟩;rw [ah] at HF ⊢;clear I z P ar F q0 q1 q2 q3 z0 z1 L J hM ah;obtain⟨B,l,j⟩:=K.og;have Y:=kD j.1;have W:=kD l.block
   cases f
   all_goals
    go_wp2_with (at_builtin;refine wpL_one rfl _ _ _ rfl (w.heap.size+3) _ 131 iQ (.slice none 0 0) 1 24 Tryz.underlying126 aq ao an am rfl (by decide) en1_len u8 B (.slice An M cn) (by intro u hu;simp [en1] at hu;subst hu;rfl) rfl (l.alloc _) H.heap.size 1 131 rfl (RowB.new _ _ _) ?c1 ?c2 ?c3 ?_)
    case c1=>have:=Y.out;have:=aj.out;unfold maxLen;omega
    case c2=>have:=Y.out;have:=aj.out;omega
    case c3=>go_size
    intro g6 c6 w6 ad C d ax;have t:Below H.heap.size H (H.alloc (.cells #[.slice An M cn] 131)):=by go_grown
    have d:u8.ownBlock=some g6∨g6=(H.alloc (.cells #[.slice An M cn] 131)).heap.size:=by simpa using d
    have q:=below_grown (w:=H) t C;have og:=own_snoc (j.keep (.below t)) ((relSl RelQ 1 en1).keep ak (.below t)) ad C d;have S:=app_still (K:=relSl RelI 1 en1) (n:=B.length+1) (c:=c6) C d ((relSl RelI 1 en1).keep K.or_ (.below t));have D:=W.out;have K9:Sr2 w w6 v [.slice Ao n1 co,.slice At n2 ct] (.slice (some ⟨g6,0,none⟩) (B.length+1) c6) (sqM v b (a.take (k+1))) (.slice (some ⟨b5,o5,none⟩) N cr) a:=by
     rw [HM.out];exact⟨K.bel.grown q K.bel.size (λ g O=>by have:=(D g O).1;omega),K.rv.grown q (λ g O=>by have:=(D g O).1;omega),K.rb.grown q (λ g O=>by have:=(D g O).1;omega),og,S⟩
    have ap:w.heap.size+3<=w6.heap.size:=by have:=q.size;omega
    clear og S q d t ad C D K l j ak;go_wp2_with fail;go_roundw
    case rel=>exact⟨k+1,by omega,by go_num,by rw [HF.out];first | rfl | simp,K9,ap⟩
    case measure=>simp [intOf];omega
  ·obtain rfl:k=N:=by omega
   have aB:¬ ((k:Int)<(k:Int)):=by omega
   have G:a.take k=a:=List.take_of_length_le (by rw [HN.out];exact Nat.le_refl _);rw [G] at K ⊢;clear G;go_wp2_with fail;go_ret2;exact⟨_,rfl,K.og.less (by omega),K.bel⟩
theorem used_i (all:List (List (List Pl))) (S0:Nat->Prop) (u:Value) (w:World) (hu:SlG RelR 1 en1 w S0 u all) (h1:∀ R ∈ all,1<=R.length∧R.length<=100) :
  Calls Tryz.prog 84 #[u] w λ e w'=>e=.returned (.int .i64 ((usedR all 0:Nat):Int))∧w=w':=by
 obtain⟨X,W,S,rfl,a,b,-⟩:=hu;obtain⟨N,g⟩:∃ N,all.length=N:=⟨_,rfl⟩;have B:=kD g;have l:=a.len;rw [b.1,g] at l;rw [g];obtain⟨z,h⟩:∃ z,usedR all 0=z:=⟨_,rfl⟩;rw [h];have K:=kD h;have p:=kD a;have f:=kD b;have P:=kD h1;clear g h a b h1;go_enter Tryz.func84,Tryz.ntmps84;go_wp2_with fail;go_loopw [3,8] (λ s i wr=>∃(k t:Nat),k<=N∧s=.int .i64 (t:Int)∧i=.int .i64 (k:Int)∧Hid (w=wr)∧Hid (t=usedR (all.take k) 0)) (λ _ i _=>N - (intOf i).toNat)
 case atStart=>exact⟨0,0,Nat.zero_le _,by first | rfl | trivial,by first | rfl | trivial,kD (by first | rfl | trivial),kD rfl⟩
 case round =>
  obtain⟨k,t,T,rfl,rfl,j,v⟩:=hrel;by_cases hlt:k<N
  ·obtain⟨J,D,r,rfl,-,G,x,c⟩:=p.out.at_ (i:=k) (by rw [f.out.1,B.out];exact hlt);obtain⟨R,n,m⟩:=f.out.at_ x;obtain⟨Q,I,C,rfl,-⟩:=m;have c:wr.cell? ⟨J,D+k,none⟩=some (.slice Q R.length I):=by rw [<-j.out];have:=c 0 _ rfl;simpa using this
   have d:=P.out R (List.mem_of_getElem? n);have o:=kD (show usedR (all.take (k+1)) 0=max (usedR (all.take k) 0) (R.length - 1) from by rw [takeS n];unfold usedR;rw [List.foldl_append];rfl);obtain⟨M,A⟩:∃ M,R.length=M:=⟨_,rfl⟩;rw [A] at c d o;have F:(k:Int)<(N:Int):=by omega
   have V:IntKind.i64.wrap ((k:Int)+1)=(k:Int)+1:=IntWalk.i64_in _ (by omega);have H:IntKind.i64.wrap ((M:Int) - 1)=((M - 1:Nat):Int):=by rw [IntWalk.i64_in _ (by omega)];omega
   obtain⟨q,y⟩:∃ q,M - 1=q:=⟨_,rfl⟩;rw [y] at H o;have L:Hid ((if t<q then (q:Int) else (t:Int))=((max t q:Nat):Int)):=kD (by
    split <;> omega)
   have O:=kD (show max t q=usedR (all.take (k+1)) 0 from by rw [o.out,v.out]);clear x n A y d;go_wp2_with fail;go_roundw
   case rel=>exact⟨k+1,max t q,by omega,by rw [L.out],by go_num,j,O⟩
   case measure=>simp [intOf];omega
  ·obtain rfl:k=N:=by omega
   have E:¬ ((k:Int)<(k:Int)):=by omega
   obtain rfl:t=z:=by rw [v.out,<-K.out,List.take_of_length_le (by rw [B.out];exact Nat.le_refl _)]
   go_wp2_with fail;go_ret;exact⟨rfl,j.out⟩
end Bd20
namespace Bd21
open Go.ChangeShapes Go.WideShapes Go.ChangeAt Go.RowKit Base Ints Own Clone RelG PlP Bd1 Bd4 Bd5 Bd6 Bd7 Bd7S Bd8 Bd9 Bd11 RegInv RegF RegG Seen Bd16 Bd17 Bd19 Bd20
def OffB (v:Value) (T:Nat->Prop) (b:Nat):Prop:=v.ownBlock≠some b∧T b
def OwnT {ρ α:Type} (K:Rel ρ α) (T:Nat->Prop) (w:World) (lo hi:Nat) (e:TypeId) (sz:Nat) (en:ρ->List Value) (v:Value) (xs:List α):Prop :=
 ∃ rs,OwnS w lo hi e sz en v rs∧LsR K w (OffB v T) rs xs
theorem app_off {w w':World} {T:Nat->Prop} {g n c:Nat} {v:Value} (hg:w.grownBy w' v.ownBlock) (hat:v.ownBlock=some g∨g=w.heap.size) {ρ α:Type} {K:Rel ρ α} {r:ρ} {x:α} (h:K.R w (OffB v T) r x):K.R w' (OffB (.slice (some ⟨g,0,none⟩) n c) T) r x:=by
 have l:K.R w (λ b=>OffB v T b∧b<w.heap.size) r x:=K.weak h (λ b a f=>⟨a,f⟩);have j:=K.keep l (Still.grown (S:=λ b=>OffB v T b∧b<w.heap.size) hg (λ k i d=>d.1.1 i));refine K.weak j (λ b a _=>⟨?_,a.1.2⟩);intro e;simp [Value.ownBlock] at e;subst e;rcases hat with hat | hat
 ·exact a.1.1 hat
 ·have:=a.2;omega
section
variable {ρ α:Type} {K:Rel ρ α} {T:Nat->Prop} {w w':World} {lo hi sz:Nat} {e:TypeId} {en:ρ->List Value} {v:Value} {xs:List α}
theorem OwnT.below (h:OwnT K T w lo w.heap.size e sz en v xs) (hb:Below w.heap.size w w'):OwnT K T w' lo w'.heap.size e sz en v xs:=by
 obtain⟨a,c,b⟩:=h;exact⟨a,(c.below hb (Nat.le_refl _)).more hb.size,b.keep (.below hb)⟩
theorem OwnT.nil_ (K:Rel ρ α) (T:Nat->Prop) (w:World) (lo hi:Nat) (e:TypeId) (sz:Nat) (en:ρ->List Value):OwnT K T w lo hi e sz en (.slice none 0 0) [] :=
 ⟨[],OwnS.nil_ _ _ _ _ _ _,LsR.nil _ _ _⟩
theorem OwnT.low {g:Nat} (h:OwnT K T w lo w.heap.size e sz en v xs) (hg:w.grownBy w' (some g)) (hl:g<lo) (hT:¬ T g):OwnT K T w' lo w'.heap.size e sz en v xs:=by
 obtain⟨b,f,d⟩:=h;exact⟨b,(f.grown hg (λ k a=>by simp at a;omega)).more hg.size,d.keep (Still.grown hg (λ k a c=>by simp at a;subst a;exact hT c.2))⟩
theorem OwnT.snoc {rs:List ρ} {r:ρ} {x:α} {g n c:Nat} (h2:LsR K w (OffB v T) rs xs) (hx:K.R w (OffB v T) r x) (ho:OwnS w' lo w'.heap.size e sz en (.slice (some ⟨g,0,none⟩) n c) (rs++[r])) (hg:w.grownBy w' v.ownBlock) (hat:v.ownBlock=some g∨g=w.heap.size) :
  OwnT K T w' lo w'.heap.size e sz en (.slice (some ⟨g,0,none⟩) n c) (xs++[x]) :=
 ⟨rs++[r],ho,LsR.snoc ⟨h2.1,λ i r' x' hr hx'=>app_off hg hat (h2.2 i r' x' hr hx')⟩ (app_off hg hat hx)⟩
theorem OwnT.own {lo':Nat} (h:OwnT K T w lo hi e sz en v xs) (hl:lo'<=lo) (hT:∀ b,T b->lo'<=b):OwnG K w lo' hi e sz en v xs:=by
 obtain⟨c,f,d⟩:=h;exact⟨c,f.less hl,d.weak (λ b a _=>⟨a.1,hT b a.2⟩)⟩
end
def Tl (lo gs b:Nat):Prop:=lo<=b∧b≠gs
structure Al1 (w wr:World) (v:Vr) (lo gs:Nat) (av:Value) (AL:List (List (List Pl))) (vl:Value) (X:List Pl) (n m:Nat):Prop where
 bel:Below w.heap.size w wr
 ge:w.heap.size<=lo∧lo<=gs
 sn:Seen wr gs X.length (keysP X)
 og:OwnT RelP (Tl lo gs) wr (gs+1) wr.heap.size 44 3 enP vl X
 al:SlG RelR 1 en1 wr (OffB vl (Tl lo gs)) av AL
 co:Coll v n m X
structure Al2 (w wr:World) (v:Vr) (lo gs:Nat) (av:Value) (AL:List (List (List Pl))) (vl:Value) (X:List Pl) (n m:Nat) (pv:Value) (ps:List Pl):Prop where
 k1:Al1 w wr v lo gs av AL vl X n m
 pl:SlG RelP 3 enP wr (OffB vl (Tl lo gs)) pv ps
section
variable {w wr w':World} {v:Vr} {lo gs:Nat} {av:Value} {AL:List (List (List Pl))} {vl:Value} {X:List Pl} {n m:Nat} {pv:Value} {ps:List Pl}
theorem Al1.below (h:Al1 w wr v lo gs av AL vl X n m) (hb:Below wr.heap.size wr w'):Al1 w w' v lo gs av AL vl X n m :=
 ⟨h.bel.trans (hb.mono h.bel.size),h.ge,h.sn.below hb,h.og.below hb,(relSl RelR 1 en1).keep h.al (.below hb),h.co⟩
theorem Al2.below (h:Al2 w wr v lo gs av AL vl X n m pv ps) (hb:Below wr.heap.size wr w'):Al2 w w' v lo gs av AL vl X n m pv ps :=
 ⟨h.k1.below hb,(relSl RelP 3 enP).keep h.pl (.below hb)⟩
theorem Al1.more {m':Nat} (h:Al1 w wr v lo gs av AL vl X n m) (hm:m<=m'):Al1 w wr v lo gs av AL vl X n m' :=
 ⟨h.bel,h.ge,h.sn,h.og,h.al,h.co.more hm⟩
theorem Al1.blk (h:Al1 w wr v lo gs av AL vl X n m):∀ g,vl.ownBlock=some g->gs+1<=g∧g<wr.heap.size:=λ g hg=>by obtain⟨rs,h1,-⟩:=h.og;exact h1.block g hg
end
theorem p25 {n:Nat} (h:n<=4):25 ^ n<=390625:=by
 have:n=0∨n=1∨n=2∨n=3∨n=4:=by omega
 rcases this with rfl | rfl | rfl | rfl | rfl <;> omega
theorem one_play {W:World} {b:Bd} {n g1 lo:Nat} {A1 A2:Option Addr} {c1 c2:Nat} (h1:RowB W g1 44 [.slice none 0 0,.slice A1 n c1,.slice A2 n c2]) (l1:lo<=g1)
  (k1:SlV 1 enI W (λ x=>lo<=x∧x≠g1) (.slice A1 n c1) b.1) (k2:SlV 1 enI W (λ x=>lo<=x∧x≠g1) (.slice A2 n c2) b.2):OwnG RelP W lo W.heap.size 44 3 enP (.slice (some ⟨g1,0,none⟩) 1 1) [([],b)]:=by
 have c:∀ x,(lo<=x∧x≠g1)->NotIn (.slice (some ⟨g1,0,none⟩) 1 1) lo x:=λ x a=>⟨λ e=>a.2 (by simp [Value.ownBlock] at e;exact e.symm),a.1⟩
 refine⟨[((.slice none 0 0,.slice A1 n c1,.slice A2 n c2):PRow)],RowB.own (xs:=[((.slice none 0 0,.slice A1 n c1,.slice A2 n c2):PRow)]) h1 enP_len l1 h1.lt (show 1<=maxLen by decide),LsR.snoc (LsR.nil _ _ _) ?_⟩;exact RelP.weak (S:=λ x=>lo<=x∧x≠g1) ⟨⟨OwnS.nil_ _ _ _ _ _ _,λ g h=>by simp [Value.ownBlock] at h⟩,k1,k2⟩ (λ x a _=>c x a)
theorem allPl_i (v:Vr) (b:Bd) (hb:Ok v b) (Ao At:Option Addr) (co ct:Nat) (x y:Int) (hx:1<=x∧x<=6) (hy:1<=y∧y<=6) (w:World) (ho:RdS w w.heap.size 1 enI Ao b.1) (ht:RdS w w.heap.size 1 enI At b.2) (hA:Ao=none->co=0) (hT:At=none->ct=0) :
  Calls Tryz.prog 33 #[.agg #[.int .i64 v.p,.int .i64 v.c,.int .i64 v.h,.int .i64 v.s],.agg #[.slice Ao b.1.length co,.slice At b.2.length ct],.agg #[.int .i64 x,.int .i64 y]] w λ e w'=>∃ vv,e=.returned (.tuple #[vv,.bool (allI v b x y).2])∧OwnG RelP w' w.heap.size w'.heap.size 44 3 enP vv (allI v b x y).1∧Below w.heap.size w w':=by
 obtain⟨i3,bL,bF,bE,bD⟩:=info_parts infoP;have bw:Tryz.prog.underlying 130=some (.map 9 4):=by first | exact Tryz.underlying130 | kernel_rfl
 have bQ:10000000<maxLen:=by unfold maxLen;omega
 have ci:∀ w:World,(Instr.makeMap 130 none).run Tryz.prog w=.ok (.map (some w.heap.size)) (w.alloc (.map #[] 0)):=λ _=>rfl
 have hv:=hb.v1;obtain⟨P,hP⟩:∃ P:Nat,v.p=(P:Int):=⟨v.p.toNat,by omega⟩;have HP:=kD hP;have bU:P<=24:=by omega
 have HC:=kD (show v.c<=15 by omega);obtain⟨z,b3⟩:∃ n,P+1=n:=⟨_,rfl⟩;have a3:b.1.length=z:=by have:=hb.own.len;omega
 have a2:b.2.length=z:=by have:=hb.oth.len;omega
 have CQ:=kD (λ(w9:World) (h:Below w.heap.size w w9)=>seqs_i v b hb Ao At co ct x y hx hy w9 ((ho.below h (Nat.le_refl _)).more h.size) ((ht.below h (Nat.le_refl _)).more h.size) hA hT);have CC:=kD (λ(w9:World) (h:Below w.heap.size w w9)=>clone_i b.1 b.2 Ao At co ct w.heap.size w9 h.size (ho.below h (Nat.le_refl _)) (ht.below h (Nat.le_refl _)) hA hT (by omega) (by omega));rw [a3,a2] at CC CQ ⊢;have a7:=kD a3;have a6:=kD a2;obtain⟨RR,ay⟩:∃ r,allI v b x y=r:=⟨_,rfl⟩;have hE:=allI_eq2 v b x y;have az:=ord_dice hx hy;have aA:(∀ R ∈ sqM v b (ordP x y),RowsOk v R∧1<=R.length∧R.length<=5)∧(sqM v b (ordP x y)).length<=2:=by
  refine⟨λ R hR=>?_,by unfold sqM;rw [List.length_map];exact az.2⟩;obtain⟨o,ho,rfl⟩:=List.mem_map.1 hR;exact rowsP_ok hb (λ d hd=>((az.1 o ho).1 d hd).1) (az.1 o ho).2
 rw [ay] at hE ⊢;rw [show ((ordP x y).all λ o=>(rowsP v b o).2)=sqF v b (ordP x y) from rfl,show ((ordP x y).map λ o=>(rowsP v b o).1)=sqM v b (ordP x y) from rfl] at hE;obtain⟨D,ak⟩:∃ l,sqM v b (ordP x y)=l:=⟨_,rfl⟩;obtain⟨bo,bg⟩:∃ f,sqF v b (ordP x y)=f:=⟨_,rfl⟩;rw [ak,bg] at hE CQ;rw [ak] at aA;have HE:=kD hE;have aE:=kD aA.1;have bn:=aA.2;obtain⟨L,hL⟩:∃ L,D.length=L:=⟨_,rfl⟩;have HL:=kD hL;rw [hL] at bn;clear hb hv hP a3 a2 ho ht hA hT ay hE az aA ak bg hL hx hy;go_enter Tryz.func33,Tryz.ntmps33;go_upto_region 1 with fail;refine wp_gen (λ Q=>Below w.heap.size w Q∧RowB Q w.heap.size 25 (vL v)∧RowB Q (w.heap.size+1) 28 [.slice Ao z co,.slice At z ct]∧RowB Q (w.heap.size+2) 30 [.int .i64 x,.int .i64 y]) ⟨by go_grown,((RowB.new _ _ _).alloc _).alloc _,RowB.alloc (RowB.new' _ _ _ (by simp)) _,RowB.new' _ _ _ (by simp)⟩ ?_;rintro w1 ⟨ax,rv,rb,rr⟩;obtain⟨q0,q1,q2,q3⟩:=rv.c4;obtain⟨z0,z1⟩:=rb.c2;obtain⟨r0,r1⟩:=rr.c2;have ai:=rv.lt;have aS:=rb.lt;have aa:=rr.lt;go_wp2_with fail;refine(CQ.out w1 ax).mono ?_;rintro e w2 ⟨av,rfl,aP,aw⟩;have rb:=rb.below aw rb.lt;have G:=ax.trans (aw.mono ax.size);obtain⟨Aa,ca,bi,-⟩:=Bd19.OwnG.form en1_len aP;rw [HL.out] at bi;subst bi;have HA:=aP.sl en1_len (Nat.le_refl _);have bJ:w.heap.size+3<=w1.heap.size:=by omega
 have aN:=aw.size;clear q0 q1 q2 q3 z0 z1 r0 r1 ai aS aa rv rr ax aw aP CQ
 cases bo
 case false =>
  obtain rfl:RR=([],false):=by rw [HE.out];rfl
  clear HA rb;go_wp2_with fail;go_ret2;exact⟨_,rfl,OwnG.nil_ _ _ _ _ _ _ _,G⟩
 have CU:=kD (used_i D _ _ w2 HA (λ R hR=>⟨(aE.out R hR).2.1,by have:=(aE.out R hR).2.2;omega⟩));obtain⟨n,hn⟩:∃ n,usedR D 0=n:=⟨_,rfl⟩;have bH:n<=4:=by rw [<-hn];exact usedR_bd D 0 4 (by omega) (λ R hR=>by have:=(aE.out R hR).2.2;omega)
 rw [hn] at CU HE;go_wp2_with fail;refine CU.out.mono ?_;rintro e w3 ⟨rfl,rfl⟩;by_cases h0:n=0
 ·obtain rfl:RR=([([],b)],true):=by rw [HE.out];simp [h0]
  have e0:((n:Int) == 0)=true:=by simp [h0]
  obtain⟨z0,z1⟩:=rb.c2;have aS:=rb.lt;clear CU HE HA hn h0;go_wp2_with fail;refine(CC.out w2 G).mono ?_;rintro e w4 ⟨A1,c1,A2,c2,rfl,o1,o2,-,aZ⟩;rw [a7.out] at o1;rw [a6.out] at o2;simp only [a7.out,a6.out];have bT:=G.trans (aZ.mono G.size);have b0:=aZ.size;clear z0 z1 aS rb CC aZ;go_wp2_with fail;refine bp_gen (λ Q=>Below w.heap.size w Q∧RowB Q w4.heap.size 44 [.slice none 0 0,.slice A1 z c1,.slice A2 z c2]∧SlV 1 enI Q (λ q=>w.heap.size<=q∧q≠w4.heap.size) (.slice A1 z c1) b.1∧SlV 1 enI Q (λ q=>w.heap.size<=q∧q≠w4.heap.size) (.slice A2 z c2) b.2) ⟨by go_grown,RowB.new _ _ _,?_,?_⟩ ?_
  ·have h1:=(OwnV.of o1 (Nat.le_refl _) (S:=λ x=>w2.heap.size<=x∧x<w4.heap.size) (λ x hx an=>⟨hx,an⟩)).sl enI_len;exact(relV 1 enI).weak ((relV 1 enI).keep h1 (.below (by go_grown))) (λ x hx _=>⟨by omega,by omega⟩)
  ·have h1:=(OwnV.of o2 (Nat.le_refl _) (S:=λ x=>w2.heap.size<=x∧x<w4.heap.size) (λ x hx an=>⟨hx,an⟩)).sl enI_len;exact(relV 1 enI).weak ((relV 1 enI).keep h1 (.below (by go_grown))) (λ x hx _=>⟨by omega,by omega⟩)
  rintro Q ⟨bM,rp,k1,k2⟩;go_ret2;exact⟨_,rfl,one_play rp (by omega) k1 k2,bM⟩
 have e0:((n:Int) == 0)=false:=by simp [h0]
 have bq:Hid (RR=(implGo n D [],true)):=kD (by rw [HE.out];simp [h0]);have ch:=kD h0;clear CU HE hn CC a7 a6 h0;go_upto_region 8 with fail;refine wp_gen (λ Q=>Al1 w Q v w1.heap.size w2.heap.size (.slice Aa L ca) D (.slice none 0 0) [] n 0) ?_ ?_
 ·exact⟨by go_grown,⟨by omega,aN⟩,Seen.made _,OwnT.nil_ _ _ _ _ _ _ _ _,(relSl RelR 1 en1).keep ((relSl RelR 1 en1).weak HA (S':=OffB (.slice none 0 0) (Tl w1.heap.size w2.heap.size)) (λ x (hx:w1.heap.size<=x) an=>⟨λ h=>by simp [Value.ownBlock] at h,hx,by omega⟩)) (.below (by go_grown)),Coll.nil _ _⟩
 intro w3 K;obtain⟨lo,aH⟩:∃ l,w1.heap.size=l:=⟨_,rfl⟩;obtain⟨gs,aI⟩:∃ l,w2.heap.size=l:=⟨_,rfl⟩;rw [aH] at K bJ aN;rw [aI] at K aN ⊢;clear HA rb aH aI G;go_wp2_with fail;go_loopw [12,38] (λ vl i wr=>∃(k:Nat) (X:List Pl),k<=L∧i=.int .i64 (k:Int)∧Al1 w wr v lo gs (.slice Aa L ca) D vl X n (k*400000)∧Hid (implGo n (D.drop k) X=implGo n D [])) (λ _ i _=>L - (intOf i).toNat)
 case atStart=>exact⟨0,[],Nat.zero_le _,by first | rfl | trivial,K.more (by omega),kD rfl⟩
 case round =>
  obtain⟨k,X,hk,rfl,K,HG⟩:=hrel;by_cases hlt:k<L
  ·obtain⟨A5,c5,rs,e5,af,T,-⟩:=K.al;simp only [Value.slice.injEq] at e5;obtain⟨rfl,-,rfl⟩:=e5;obtain⟨b5,o5,r,rfl,-,cc,hr,aY⟩:=af.at_ (i:=k) (by rw [T.1,HL.out];exact hlt);obtain⟨R,hR,ay⟩:=T.at_ hr;obtain⟨Ar,cr,bX,rfl,ag,V,-⟩:=ay;have aY:wr.cell? ⟨b5,o5+k,none⟩=some (.slice Ar R.length cr):=by have:=aY 0 _ rfl;simpa using this
   have bP:=kD (aE.out R (List.mem_of_getElem? hR));have HD:=HG.out;rw [drop_cons hR] at HD;obtain⟨M,hM⟩:∃ M,R.length=M:=⟨_,rfl⟩;have HM:=kD hM;rw [hM] at aY;have b8:(k:Int)<(L:Int):=by omega
   have bY:IntKind.i64.wrap ((k:Int)+1)=(k:Int)+1:=IntWalk.i64_in _ (by omega);by_cases hMn:M<=n
   ·have e1:decide ((M:Int)<=(n:Int))=true:=decide_eq_true (by omega);rw [implGo_skip (by rw [hM];exact hMn)] at HD;have HG:=kD HD;have bm:(M:Int)<=(n:Int):=by omega
    clear HD hR hM hr ag V af T hMn;go_wp2_with fail;go_roundw
    case rel=>exact⟨k+1,X,by omega,by go_num,K.more (by omega),HG⟩
    case measure=>simp [intOf];omega
   ·have bm:¬ ((M:Int)<=(n:Int)):=by omega
    have b4:(n:Int)<(M:Int):=by omega
    obtain⟨t,aO⟩:∃ t,R.getD n []=t:=⟨_,rfl⟩;have a0:R[n]?=some t:=by rw [<-aO,List.getD_eq_getElem?_getD,List.getElem?_eq_getElem (by omega)];rfl
    have br:=kD (bP.out.1 n t a0);obtain⟨b6,o6,r6,rfl,-,cb,bc,aX⟩:=ag.at_ (i:=n) (by rw [V.1,hM];omega);have aX:wr.cell? ⟨b6,o6+n,none⟩=some r6:=by have:=aX 0 _ rfl;simpa using this
    have bl:=V.2 n r6 t bc a0;have aj:=bl;obtain⟨Ap,cp,bV,rfl,-⟩:=bl;obtain⟨N,hN⟩:∃ N,t.length=N:=⟨_,rfl⟩;have bt:=kD hN;rw [hN] at aX aj;have cd:N<=390625:=by
     rw [<-hN];exact Nat.le_trans br.out.2 (p25 bH)
    have a:Al2 w wr v lo gs (.slice (some ⟨b5,o5,none⟩) L ca) D u12 X n (k*400000) (.slice Ap N cp) t:=⟨K,aj⟩;have bC:=kD HD;have bv:=kD hMn;have cg:Hid (addAll X (t.take 0)=X):=kD rfl;have bs:=kD aO;clear HD hR hM hr ag V af T hMn aj aO a0 bc hN K HG;go_wp2_with fail;go_loopw [12,51] (λ vl i wq=>∃ j:Nat,j<=N∧i=.int .i64 (j:Int)∧Al2 w wq v lo gs (.slice (some ⟨b5,o5,none⟩) L ca) D vl (addAll X (t.take j)) n (k*400000+j) (.slice Ap N cp) t) (λ _ i _=>N - (intOf i).toNat)
    case atStart=>exact⟨0,Nat.zero_le _,by first | rfl | trivial,⟨a.k1.more (by omega),a.pl⟩⟩
    case round =>
     obtain⟨j,hj,rfl,a⟩:=hrel;by_cases hlj:j<N
     ·obtain⟨A7,c7,bW,e7,aF,ah,-⟩:=a.pl;simp only [Value.slice.injEq] at e7;obtain⟨rfl,-,rfl⟩:=e7;obtain⟨b7,o7,r7,rfl,-,bN,bb,aq⟩:=aF.at_ (i:=j) (by rw [ah.1,bt.out];exact hlj);obtain⟨p,hp,ac⟩:=ah.at_ bb;have C:=kD (br.out.1 p (List.mem_of_getElem? hp));have HS:=kD (show addAll X (t.take (j+1))=addOne (addAll X (t.take j)) p from by rw [takeS hp,addAll_snoc]);obtain⟨Y,hY⟩:∃ Y,addAll X (t.take j)=Y:=⟨_,rfl⟩;rw [hY] at a HS;obtain⟨sp,O⟩:=p;obtain⟨r0,rl,rm⟩:=r7;have a5:=kD ac;have bk:=ac.2.1;have bj:=ac.2.2;simp only at bk bj C;obtain⟨A3,c3,rfl,k3,-⟩:=bk;obtain⟨A4,c4,rfl,k4,-⟩:=bj;have aa:O.1.length=z:=by have:=C.out.1.own.len;have:=HP.out;omega
      have ap:O.2.length=z:=by have:=C.out.1.oth.len;have:=HP.out;omega
      have c0:wr.cell? ⟨b7,o7+j*3,none⟩=some r0:=aq 0 _ rfl;have c1:wr.cell? ⟨b7,o7+j*3+1,none⟩=some (.slice A3 z c3):=by have:=aq 1 _ rfl;simp only [aa] at this;exact this
      have c2:wr.cell? ⟨b7,o7+j*3+2,none⟩=some (.slice A4 z c4):=by have:=aq 2 _ rfl;simp only [ap] at this;exact this
      have ce:r0.oneCell'=true:=by
       obtain⟨A0,I,aB,-⟩:=ac.1.1.form enSt_len;simp only at aB;rw [aB];rfl
      obtain⟨A0,n0,I,bG⟩:∃ A n c,r0=.slice A n c:=by
       obtain⟨A0,I,aB,-⟩:=ac.1.1.form enSt_len;exact⟨_,_,_,aB⟩
      subst bG;have b9:(j:Int)<(N:Int):=by omega
      have bZ:IntKind.i64.wrap ((j:Int)+1)=(j:Int)+1:=IntWalk.i64_in _ (by omega);have aC:=kD (λ(w9:World) (h:Below wr.heap.size wr w9)=>key_i O.1 O.2 z aa ap (by omega) (λ i=>⟨C.out.1.own.nn i,by have:=C.out.1.own.top i;have:=HC.out;omega⟩) (λ i=>⟨C.out.1.oth.nn i,by have:=C.out.1.oth.top i;have:=HC.out;omega⟩) A3 A4 c3 c4 w9.heap.size w9 (Nat.le_refl _) ((k3.keep (.below h)).rd) ((k4.keep (.below h)).rd));have bz:=kD aa;have bx:=kD ap;rw [bz.out,bx.out] at a5;clear hY hp ac aq aF ah bb k3 k4 aa ap;go_upto_region 16 with fail;refine wp_gen (λ Q=>Below wr.heap.size wr Q∧RowB Q wr.heap.size 44 [.slice A0 n0 I,.slice A3 z c3,.slice A4 z c4]) ?_ ?_
      ·exact⟨(Below.refl _ _).alloc (Nat.le_refl _) _,RowB.new _ _ _⟩
      rintro w5 ⟨Z,rp⟩;have aK:=a.k1.blk;have be:u12.ownBlock≠some wr.heap.size:=λ h=>by have:=(aK _ h).2;omega
      have aV:gs<wr.heap.size:=a.k1.sn.lt;have ad:RelP.R w5 (OffB u12 (Tl lo gs)) (.slice A0 n0 I,.slice A3 z c3,.slice A4 z c4) (sp,O):=RelP.keep a5.out (.below Z);have a:=a.below Z;have aC:=kD (aC.out w5 Z);obtain⟨cf,aJ⟩:∃ g,wr.heap.size=g:=⟨_,rfl⟩;rw [aJ] at rp be aV ⊢;clear c0 c1 c2 bN Z aJ a5 aK;obtain⟨z0,z1,z2⟩:=rp.c3;have ai:=rp.lt;go_wp2_with fail;refine aC.out.mono ?_;rintro e w8 ⟨rfl,ar⟩;have a:=a.below ar;have rp:=rp.below ar rp.lt;have ad:=RelP.keep ad (.below ar);clear z0 z1 z2 ai ar aC;obtain⟨H,W⟩:∃ H:ByteArray,(⟨(keyP (O.1,O.2)).toArray⟩:ByteArray)=H:=⟨_,rfl⟩;rw [W];have aU:H.data.toList=keyP O:=by rw [<-W]
      have aT:H.size<=maxLen:=by rw [<-W];show (keyP O).toArray.size<=maxLen;rw [List.size_toArray,key_len,bz.out,bx.out];unfold maxLen;omega
      obtain⟨x9,aM⟩:∃ x,decide (H.data.toList ∈ keysP Y)=x:=⟨_,rfl⟩;have bR:=a.k1.sn.look bw H aT x9 aM;have aD:=kD (show x9=hasB Y O from by rw [<-aM,aU];exact has_key (λ q hq=>(a.k1.co.ok q hq).1) C.out.1);have bB:=kD aU;have bA:=kD aT;clear W aU aT aM
      cases x9
      case true =>
       have bp:addAll X (t.take (j+1))=Y:=by rw [HS.out];exact addOne_has aD.out.symm
       have K9:Al2 w w8 v lo gs (.slice (some ⟨b5,o5,none⟩) L ca) D u12 (addAll X (t.take (j+1))) n (k*400000+(j+1)) (.slice (some ⟨b7,o7,none⟩) N cp) t:=by
        rw [bp];exact⟨a.k1.more (by omega),a.pl⟩
       clear a bp;go_wp2_with fail;go_roundw
       case rel=>exact⟨j+1,by omega,by go_num,K9⟩
       case measure=>simp [intOf];omega
      case false =>
       have a9:Y.length<=10000000:=by have:=a.k1.co.len;omega
       go_wp2_with (refine Seen.wpL_put rfl _ _ _ _ rfl bw rfl a.k1.sn (Nat.lt_of_le_of_lt a9 bQ) H bA.out rfl rfl ?_);intro B ae F;have bf:=a.k1.ge;have J:=a.k1.bel.grown F a.k1.bel.size (λ k hk=>by simp at hk;omega);have og:=a.k1.og.low F (Nat.lt_succ_self _) (λ h=>h.2 rfl);have ao:Still (OffB u12 (Tl lo gs)) w8 B:=Still.grown F (λ k hk hn=>by simp at hk;subst hk;exact hn.2.2 rfl);have al:=(relSl RelR 1 en1).keep a.k1.al ao;have pl:=(relSl RelP 3 enP).keep a.pl ao;have ad:=RelP.keep ad ao;have rp:=rp.grown F (λ k hk=>by simp at hk;omega);have ae:Seen B gs (Y++[(sp,O)]).length (keysP (Y++[(sp,O)])):=by
        rw [List.length_append];refine Bd16.Seen.same ae (λ q=>?_);rw [bB.out];unfold keysP;rw [List.map_append];simp [or_comm]
       have bO:=kD (show addAll X (t.take (j+1))=Y++[(sp,O)] from by rw [HS.out];exact addOne_new aD.out.symm);have bh:=a.k1.co.add (p:=(sp,O)) C.out;rw [addOne_new (show hasB Y O=false from aD.out.symm)] at bh;obtain⟨am,aQ,aR⟩:=og;have ba:=kD aR.1;have hu:=aQ.block;have bS:gs<B.heap.size:=ae.lt;clear a F bR aD bB bA HS ao;obtain⟨z0,z1,z2⟩:=rp.c3;have ai:=rp.lt;go_wp2_with (at_builtin;refine wpL_one rfl _ _ _ rfl (gs+1) _ 44 i3 (.agg #[.slice none 0 0,.slice none 0 0,.slice none 0 0]) 3 72 Tryz.underlying38 bL bF bE bD rfl (by decide) enP_len u12 am (.slice A0 n0 I,.slice A3 z c3,.slice A4 z c4) (one_P _ ⟨rfl,rfl,rfl⟩) rfl (aQ.alloc _) B.heap.size 1 44 rfl (RowB.new _ _ _) ?d1 ?d2 ?d3 ?_)
       case d1=>have:=ba.out;unfold maxLen;omega
       case d2=>have:=ba.out;omega
       case d3=>go_size
       intro a1 a4 a8 aG E m bI;have ab:Below B.heap.size B (B.alloc (.cells #[.slice A0 n0 I,.slice A3 z c3,.slice A4 z c4] 44)):=by go_grown
       have m:u12.ownBlock=some a1∨a1=(B.alloc (.cells #[.slice A0 n0 I,.slice A3 z c3,.slice A4 z c4] 44)).heap.size:=by simpa using m
       have aW:B.grownBy a8 u12.ownBlock:=below_grown (w:=B) ab E;have og:=OwnT.snoc (aR.keep (.below ab)) (RelP.keep ad (.below ab)) aG E m;have al:=app_off (K:=relSl RelR 1 en1) (n:=am.length+1) (c:=a4) E m ((relSl RelR 1 en1).keep al (.below ab));have pl:=app_off (K:=relSl RelP 3 enP) (n:=am.length+1) (c:=a4) E m ((relSl RelP 3 enP).keep pl (.below ab));have K9:Al2 w a8 v lo gs (.slice (some ⟨b5,o5,none⟩) L ca) D (.slice (some ⟨a1,0,none⟩) (am.length+1) a4) (addAll X (t.take (j+1))) n (k*400000+(j+1)) (.slice (some ⟨b7,o7,none⟩) N cp) t:=by
        rw [bO.out];exact⟨⟨J.grown aW J.size (λ g hg=>by have:=(hu g hg).1;omega),bf,ae.grown aW (λ hg=>by have:=(hu gs hg).1;omega),og,al,bh.more (by omega)⟩,pl⟩
       clear og al pl aW ab aG E m J rp ae aQ aR hu ad z0 z1 z2 ai;go_wp2_with fail;go_roundw
       case rel=>exact⟨j+1,by omega,by go_num,K9⟩
       case measure=>simp [intOf];omega
     ·obtain rfl:j=N:=by omega
      have b2:¬ ((j:Int)<(j:Int)):=by omega
      have aL:t.take j=t:=List.take_of_length_le (by rw [bt.out];exact Nat.le_refl _);rw [aL] at a;clear aL;by_cases h1:n=1
      ·have e1:((n:Int) == 1)=true:=by simp [h1]
       have HF:addAll X t=implGo n D []:=by rw [<-bs.out,<-implGo_one (by rw [HM.out];exact bv.out) h1];exact bC.out
       have H1:=kD h1;clear h1;obtain rfl:=bq.out;have og:=a.k1.og.own (lo':=w.heap.size) (by have:=a.k1.ge;omega) (λ b hb=>by have:=hb.1;have:=a.k1.ge;omega);rw [HF] at og;have J:=a.k1.bel;clear a HF;go_wp2_with fail;go_ret2;exact⟨_,rfl,og,J⟩
      ·have e1:((n:Int) == 1)=false:=by simp;omega
       have HG:Hid (implGo n (D.drop (k+1)) (addAll X t)=implGo n D []):=kD (by rw [<-bs.out,<-implGo_more (by rw [HM.out];exact bv.out) h1];exact bC.out);have H1:=kD h1;have K9:Al1 w wr v lo gs (.slice (some ⟨b5,o5,none⟩) L ca) D u12 (addAll X t) n ((k+1)*400000):=a.k1.more (by omega);clear h1 a;go_wp2_with fail;go_roundw
       case rel=>exact⟨k+1,addAll X t,by omega,by go_num,K9,HG⟩
       case measure=>simp [intOf];omega
  ·obtain rfl:k=L:=by omega
   have b1:¬ ((k:Int)<(k:Int)):=by omega
   have HF:X=implGo n D []:=by rw [<-HG.out,List.drop_of_length_le (by rw [HL.out];exact Nat.le_refl _)];rfl
   obtain rfl:=bq.out;have og:=K.og.own (lo':=w.heap.size) (by have:=K.ge;omega) (λ b hb=>by have:=hb.1;have:=K.ge;omega);rw [HF] at og;have J:=K.bel;clear K HG HF;go_wp2_with fail;go_ret2;exact⟨_,rfl,og,J⟩
end Bd21
end Go.Proofs.YtmncnhbjifeoeaaGreat
