/- Parts of the proof of FnExactMatchText. Conditions: each theorem's own. -/
import Derived.Test.YtblipmifflfnoaaGreatDoorV27
set_option linter.unusedVariables false
set_option linter.unusedSimpArgs false
set_option maxHeartbeats 8000000
set_option maxRecDepth 100000
namespace Go.Proofs.YtblipmifflfnoaaGreatDoor
namespace TsI
open Go.ChangeShapes Go.WideShapes Go.ChangeAt Go.RowKit Base Ints Own JoinN PlP TxP Num Bd1 Bd5 RegF RegG TxI
theorem levent_s (v:Vr) (hv:okV v=true) (k a b:Int) (ss:List Stp) (r:Int) (As:Option Addr) (cp B:Nat) (w:World) (hB:B<=w.heap.size) (hr:RdS w B 4 enSt As ss) :
  Calls Tryz.prog 44 #[.agg #[.int .i64 v.p,.int .i64 v.c,.int .i64 v.h,.int .i64 v.s],.agg #[.int .i64 k,.int .i64 a,.int .i64 b,.slice As ss.length cp,.int .i64 r]] w λ e w'=>e=.returned (.string (bs (evnT v ⟨k,a,b,ss,r⟩)))∧Below w.heap.size w w':=by
 obtain⟨R,hR⟩:∃ x,evnT v ⟨k,a,b,ss,r⟩=x:=⟨_,rfl⟩;rw [hR];have am:=kD hr;obtain⟨n,hn⟩:∃ n,ss.length=n:=⟨_,rfl⟩;have ai:blankP ⟨k,a,b,ss,r⟩=if k=1 then decide (n=0∧r=0) else if k=2 then decide (r=0) else if k=3 then decide (a=0∧b=0∧n=0) else false:=by unfold blankP;rw [hn]
 obtain⟨bl,aa⟩:∃ c,(if k=1 then decide (n=0∧r=0) else if k=2 then decide (r=0) else if k=3 then decide (a=0∧b=0∧n=0) else false)=c:=⟨_,rfl⟩;have ah:R=if bl=false then [] else
   if k=1 then (if (1<=a∧a<=v.s)∧1<=b∧b<=v.s then opW++[32]++Lib.itoa a++[32]++Lib.itoa b else [])
   else if k=3 then (if 1<=r∧r<=3 then reW++[32]++Lib.itoa r else []) else if trnT v a b ss=[] then [] else tuW++[32]++trnT v a b ss:=by rw [<-hR,<-aa,<-ai];rfl
 have CB:=kD (λ f=>blank_s k a b n As cp r bl aa f);rw [hn];have HN:=kD hn;have HE:=kD ah;have HV:=kD hv;clear hR ai aa ah hr hn hv;go_enter Tryz.func44,Tryz.ntmps44;go_upto_region 1 with fail;refine wp_gen (λ W'=>Bve w W' v [.int .i64 k,.int .i64 a,.int .i64 b,.slice As n cp,.int .i64 r]) ⟨by go_grown,(RowB.new _ _ _).alloc _,RowB.new' _ _ _ (by simp)⟩ ?_;intro w1 K;obtain⟨y0,y1,y2,y3,y4⟩:=K.re.c5;have P:=K.re.lt;go_wp2_with fail;refine(CB.out _).mono ?_;rintro e w2 ⟨rfl,N⟩;have K:=K.below N;clear y0 y1 y2 y3 y4 P N CB
 cases bl
 case false =>
  obtain rfl:R=[]:=by rw [HE.out];rfl
  go_wp2_with fail;go_ret;exact⟨rfl,K.bel⟩
 have I:Hid (R=if k=1 then (if (1<=a∧a<=v.s)∧1<=b∧b<=v.s then opW++[32]++Lib.itoa a++[32]++Lib.itoa b else [])
   else if k=3 then (if 1<=r∧r<=3 then reW++[32]++Lib.itoa r else []) else if trnT v a b ss=[] then [] else tuW++[32]++trnT v a b ss):=HE.out
 clear HE;obtain⟨c1,h1⟩:∃ c,decide (1<=a∧a<=v.s)=c:=⟨_,rfl⟩;obtain⟨c2,h2⟩:∃ c,decide (1<=b∧b<=v.s)=c:=⟨_,rfl⟩;obtain⟨c3,h3⟩:∃ c,decide (1<=r∧r<=3)=c:=⟨_,rfl⟩;have C1:=kD (λ w=>in_s a 1 v.s c1 h1 w);have C2:=kD (λ w=>in_s b 1 v.s c2 h2 w);have C3:=kD (λ w=>in_s r 1 3 c3 h3 w);have al:=kD h1;have ak:=kD h2;have aj:=kD h3;clear h1 h2 h3;obtain⟨q0,q1,q2,q3⟩:=K.rv.c4;obtain⟨y0,y1,y2,y3,y4⟩:=K.re.c5;have ag:=K.rv.lt;have P:=K.re.lt;by_cases k1:k=1
 ·subst k1;have g:Hid (R=if (1<=a∧a<=v.s)∧1<=b∧b<=v.s then opW++[32]++Lib.itoa a++[32]++Lib.itoa b else []):=I.out;clear I;go_wp2_with fail;refine(C1.out _).mono ?_;rintro e w3 ⟨rfl,rfl⟩
  cases c1
  case false =>
   obtain rfl:R=[]:=by rw [g.out,if_neg (λ h=>of_decide_eq_false al.out h.1)]
   clear g;go_wp2_with fail;go_ret;exact⟨rfl,K.bel⟩
  go_wp2_with fail;refine(C2.out _).mono ?_;rintro e w3 ⟨rfl,rfl⟩
  cases c2
  case false =>
   obtain rfl:R=[]:=by rw [g.out,if_neg (λ h=>of_decide_eq_false ak.out h.2)]
   clear g;go_wp2_with fail;go_ret;exact⟨rfl,K.bel⟩
  have ha:=of_decide_eq_true al.out;have N:=of_decide_eq_true ak.out;have hp:=okV_iff.1 HV.out;have CA:=kD (λ(f:World)=>num_s a (by omega) (by omega) f);have CB:=kD (λ(f:World)=>num_s b (by omega) (by omega) f);have z1:=ito_len (n:=a) (by omega) (by omega);have z2:=ito_len (n:=b) (by omega) (by omega);obtain⟨J,i⟩:∃ z:ByteArray,bs (Lib.itoa a)=z:=⟨_,rfl⟩;obtain⟨xb,O⟩:∃ z:ByteArray,bs (Lib.itoa b)=z:=⟨_,rfl⟩;rw [i] at CA;rw [O] at CB;have s1:J.size<=2:=by rw [<-i];exact Nat.le_trans (Nat.le_of_eq (bs_size _)) z1.2
  have s2:xb.size<=2:=by rw [<-O];exact Nat.le_trans (Nat.le_of_eq (bs_size _)) z2.2
  have W:Hid ((((⟨#[111,112,101,110,105,110,103,32]⟩:ByteArray)++J)++(⟨#[32]⟩:ByteArray))++xb=bs R):=by
   show _=_
   rw [g.out,if_pos ⟨ha,N⟩,<-i,<-O];have g1:(⟨#[111,112,101,110,105,110,103,32]⟩:ByteArray)=bs (opW++[32]):=rfl;have g2:(⟨#[32]⟩:ByteArray)=bs [32]:=rfl;simp only [g1,g2,bs_cat]
  obtain⟨T1,T⟩:∃ z,(⟨#[111,112,101,110,105,110,103,32]⟩:ByteArray)++J=z:=⟨_,rfl⟩;have u1:T1.size<=10:=by rw [<-T,ByteArray.size_append];show 8+J.size<=10;omega
  obtain⟨T2,Q⟩:∃ z,T1++(⟨#[32]⟩:ByteArray)=z:=⟨_,rfl⟩;have u2:T2.size<=11:=by rw [<-Q,ByteArray.size_append];show T1.size+1<=11;omega
  obtain⟨T3,ac⟩:∃ z,T2++xb=z:=⟨_,rfl⟩;rw [T,Q,ac] at W;have Z:Hid (¬ 9223372036854775807<8+J.size):=kD (by omega);have Y:Hid (¬ 9223372036854775807<T1.size+1):=kD (by omega);have X:Hid (¬ 9223372036854775807<T2.size+xb.size):=kD (by omega);have C:=kD T;have y:=kD Q;have t:=kD ac;have V:=kD K;clear g i O s1 s2 z1 z2 ha N hp T Q ac u1 u2 K q0 q1 q2 q3 y0 y1 y2 y3 y4 ag P;go_wp2_with fail;refine rG [some 25,some 26,some 27,some 28,some 29,some 30,some 31,some 32,some 33,some 4] 10 (Pl [some (.pointer (some ⟨w.heap.size+1,1,none⟩)),some (.int .i64 a),some (.string J),some (.string T1),some (.string T2),some (.pointer (some ⟨w.heap.size+1,2,none⟩)),some (.int .i64 b),some (.string xb),some (.string T3),some (.string T3)]) (λ L d w'=>Below w2.heap.size w2 w') ?g0_1 ?gst_1 ?gfin_1
  case g0_1=>exact(Below.refl _ _).drew
  case gst_1 =>
   refine rN rfl (λ L d A f j m o U F K q=>?_) ?_
   ·have e3:=U.w 3 (.pointer (some ⟨w.heap.size+1,0,none⟩));have D:=(V.out.re.below F V.out.re.lt).c5;have r1:=D.2.1;have r2:=D.2.2.1;clear D;have H:=Z.out;have G:=Y.out;have E:=X.out;have t1:=C.out;have t2:=y.out;have t3:=t.out;go_simp;exact pF q (F)
   refine rN rfl (λ L d A f j m o U F K q=>?_) ?_
   ·have ay:=U.v 0 25;have D:=(V.out.re.below F V.out.re.lt).c5;have r1:=D.2.1;have r2:=D.2.2.1;clear D;have H:=Z.out;have G:=Y.out;have E:=X.out;have t1:=C.out;have t2:=y.out;have t3:=t.out;go_simp;exact pF q (F)
   refine rN rfl (λ L d A f j m o U F K q=>?_) ?_
   ·have ax:=U.v 1 26;go_simp;refine(CA.out f).mono ?_;rintro e w6 ⟨rfl,ab⟩;exact pF q (F.trans (ab.mono F.size))
   refine rN rfl (λ L d A f j m o U F K q=>?_) ?_
   ·have aw:=U.v 2 27;have H:=Z.out;have G:=Y.out;have E:=X.out;have t1:=C.out;have t2:=y.out;have t3:=t.out;go_simp;exact pF q (F)
   refine rN rfl (λ L d A f j m o U F K q=>?_) ?_
   ·have av:=U.v 3 28;have H:=Z.out;have G:=Y.out;have E:=X.out;have t1:=C.out;have t2:=y.out;have t3:=t.out;go_simp;exact pF q (F)
   refine rN rfl (λ L d A f j m o U F K q=>?_) ?_
   ·have e3:=U.w 3 (.pointer (some ⟨w.heap.size+1,0,none⟩));have D:=(V.out.re.below F V.out.re.lt).c5;have r1:=D.2.1;have r2:=D.2.2.1;clear D;have H:=Z.out;have G:=Y.out;have E:=X.out;have t1:=C.out;have t2:=y.out;have t3:=t.out;go_simp;exact pF q (F)
   refine rN rfl (λ L d A f j m o U F K q=>?_) ?_
   ·have aq:=U.v 5 30;have D:=(V.out.re.below F V.out.re.lt).c5;have r1:=D.2.1;have r2:=D.2.2.1;clear D;have H:=Z.out;have G:=Y.out;have E:=X.out;have t1:=C.out;have t2:=y.out;have t3:=t.out;go_simp;exact pF q (F)
   refine rN rfl (λ L d A f j m o U F K q=>?_) ?_
   ·have ap:=U.v 6 31;go_simp;refine(CB.out f).mono ?_;rintro e w6 ⟨rfl,ab⟩;exact pF q (F.trans (ab.mono F.size))
   refine rN rfl (λ L d A f j m o U F K q=>?_) ?_
   ·have ar:=U.v 4 29;have ao:=U.v 7 32;have H:=Z.out;have G:=Y.out;have E:=X.out;have t1:=C.out;have t2:=y.out;have t3:=t.out;go_simp;exact pF q (F)
   refine rN rfl (λ L d A f j m o U F K q=>?_) ?_
   ·have an:=U.v 8 33;have H:=Z.out;have G:=Y.out;have E:=X.out;have t1:=C.out;have t2:=y.out;have t3:=t.out;go_simp;exact pF q (F)
   exact RelFrom.nil (by decide)
  case gfin_1 =>
   intro d f hp F;simp only [Fr,Act.put,sX,Nat.reduceAdd];have h4:d 9=.string T3:=hp 9 (by decide) _ rfl;rw [h4,W.out];have K:=V.out.below F;clear F hp h4;go_wp2_with fail;go_ret;exact⟨rfl,K.bel⟩
 by_cases k3:k=3
 ·subst k3;have g:Hid (R=if 1<=r∧r<=3 then reW++[32]++Lib.itoa r else []):=I.out;clear I k1;go_wp2_with fail;refine(C3.out _).mono ?_;rintro e w3 ⟨rfl,rfl⟩
  cases c3
  case false =>
   obtain rfl:R=[]:=by rw [g.out,if_neg (of_decide_eq_false aj.out)]
   clear g;go_wp2_with fail;go_ret;exact⟨rfl,K.bel⟩
  have af:=of_decide_eq_true aj.out;have CA:=kD (λ(f:World)=>num_s r (by omega) (by omega) f);have z1:=ito_len (n:=r) (by omega) (by omega);obtain⟨J,i⟩:∃ z:ByteArray,bs (Lib.itoa r)=z:=⟨_,rfl⟩;rw [i] at CA;have s1:J.size<=2:=by rw [<-i];exact Nat.le_trans (Nat.le_of_eq (bs_size _)) z1.2
  have W:Hid ((⟨#[114,101,115,105,103,110,32]⟩:ByteArray)++J=bs R):=by
   show _=_
   rw [g.out,if_pos af,<-i];exact bs_cat (reW++[32]) _
  have ad:Hid (Ending.returned (.string ((⟨#[114,101,115,105,103,110,32]⟩:ByteArray)++J))=Ending.returned (.string (bs R))):=by show _=_;rw [W.out]
  have g1:¬ 9223372036854775807<7+J.size:=by omega
  clear g i z1 af W;go_wp2_with fail;refine(CA.out _).mono ?_;rintro e w4 ⟨rfl,N⟩;have K:=K.below N;go_wp2_with fail;go_ret;exact⟨ad.out,K.bel⟩
 have M:Hid (R=if trnT v a b ss=[] then [] else tuW++[32]++trnT v a b ss):=by show _=_;rw [I.out,if_neg k1,if_neg k3]
 have d1:(k == 1)=false:=by simp [k1]
 have d3:(k == 3)=false:=by simp [k3]
 clear I k1 k3;have CT:=kD (λ(f:World) (h9:Below w.heap.size w f)=>turn_s v HV.out a b As cp B ss f (Nat.le_trans hB h9.size) (am.out.below h9 hB));obtain⟨S,hS⟩:∃ s,trnT v a b ss=s:=⟨_,rfl⟩;have hl:=trnT_len HV.out a b ss;rw [hS] at M CT hl;rw [HN.out] at CT;clear hS;go_wp2_with fail;refine(CT.out _ K.bel).mono ?_;rintro e w3 ⟨rfl,N⟩;have K:=K.below N;clear q0 q1 q2 q3 y0 y1 y2 y3 y4 ag P N CT;by_cases hS0:S=[]
 ·obtain rfl:R=[]:=by rw [M.out,if_pos hS0]
  have e0:(bs S).toList.isEmpty=true:=by rw [ByteArray.toList_eq,bs_data,hS0];rfl
  clear M hS0;go_wp2_with fail;go_ret;exact⟨rfl,K.bel⟩
 have e0:(bs S).toList.isEmpty=false:=by rw [ByteArray.toList_eq,bs_data];cases S with | nil=>exact absurd rfl hS0 | cons a l=>rfl
 have W:Hid ((⟨#[116,117,114,110,32]⟩:ByteArray)++bs S=bs R):=by
  show _=_
  rw [M.out,if_neg hS0];exact bs_cat (tuW++[32]) S
 have zS:(bs S).size<=54:=by rw [bs_size];exact hl
 obtain⟨sb,ae⟩:∃ z,bs S=z:=⟨_,rfl⟩;rw [ae] at W e0 zS ⊢;have ad:Hid (Ending.returned (.string ((⟨#[116,117,114,110,32]⟩:ByteArray)++sb))=Ending.returned (.string (bs R))):=by show _=_;rw [W.out]
 have g1:¬ 9223372036854775807<5+sb.size:=by omega
 clear M hS0 ae W hl;go_wp2_with fail;go_ret;exact⟨ad.out,K.bel⟩
structure Spl (c:UInt8) (l:By) (f k:Nat) (X:List By):Prop where
 fk:f<=k
 kl:k<=l.length
 no:∀ x ∈ (l.drop f).take (k - f),x≠c
 eq:spl c l=X++spl c (l.drop f)
 len:X.length<=k
theorem Spl.zero (c:UInt8) (l:By):Spl c l 0 0 []:=⟨Nat.le_refl _,Nat.zero_le _,by simp,by simp,by simp⟩
end TsI
namespace Gm
open Go Go.ChangeShapes Go.WideShapes Go.ChangeAt Go.RowKit Base Ints Own RelG PlP TxP Num Bd1 Bd5 RegInv RegF RegG TxI TsI
structure AsF (w1:World) (ka ks:Nat) (cells:List Value) (t:TypeId) (L:Nat->Prop) (vals:Nat->Value) (w':World):Prop where
 bel:Below w1.heap.size w1 w'
 fa:L ka->∃ g,vals ka=.pointer (some ⟨g,0,none⟩)∧w1.heap.size<=g∧∃ cs,cs.length=cells.length∧RowB w' g t cs
 fw:L ks->∀ g,vals ka=.pointer (some ⟨g,0,none⟩)->RowB w' g t cells
section
variable {w1 w' w'':World} {ka ks:Nat} {cells:List Value} {t:TypeId} {L:Nat->Prop} {vals:Nat->Value}
theorem AsF.skip (F:AsF w1 ka ks cells t L vals w') (k:Nat) (v:Value) (hk:[ka,ks].all (λ j=>j != k)=true:=by decide):AsF w1 ka ks cells t (λ j=>j=k∨L j) (upd vals k v) w':=by
 simp only [List.all_cons,Bool.and_eq_true,bne_iff_ne,ne_eq,List.all_nil,and_true] at hk;obtain⟨a,b⟩:=hk;refine⟨F.bel,λ h=>?_,λ h=>?_⟩
 ·rw [upd_ne a];exact F.fa (h.resolve_left a)
 ·rw [upd_ne a];exact F.fw (h.resolve_left b)
theorem AsF.box (F:AsF w1 ka ks cells t L vals w') (hk:ks≠ka) (hdep:¬ L ks) {cs:List Value} (hcs:cs.length=cells.length):AsF w1 ka ks cells t (λ j=>j=ka∨L j) (upd vals ka (.pointer (some ⟨w'.heap.size,0,none⟩))) (w'.alloc (.cells ⟨cs⟩ t)):=by
 refine⟨F.bel.alloc F.bel.size _,λ h=>?_,λ h=>?_⟩
 ·rw [upd_same];exact⟨_,rfl,F.bel.size,cs,hcs,RowB.new _ _ _⟩
 ·exact absurd (h.resolve_left hk) hdep
theorem AsF.wrote (F:AsF w1 ka ks cells t L vals w') (hk:ka≠ks) {g:Nat} {cs:List Value} (hg:vals ka=.pointer (some ⟨g,0,none⟩)) (hlo:w1.heap.size<=g) (r:RowB w' g t cs) (hcs:cs.length=cells.length):AsF w1 ka ks cells t (λ j=>j=ks∨L j) (upd vals ks undef) (w'.setCells g 0 cells):=by
 have c:=row_cells cells 0 w' cs r;rw [setL_all cs cells hcs] at c;have a:=grown_cells g cells 0 w';refine⟨⟨a.os.trans F.bel.os,a.tape.trans F.bel.tape,a.output.trans F.bel.output,Nat.le_trans F.bel.size a.size,λ k hk=>(a.block k (Nat.lt_of_lt_of_le hk F.bel.size) (λ e=>by simp at e;omega)).trans (F.bel.block k hk)⟩,λ h=>?_,λ _ d b=>?_⟩
 ·rw [upd_ne hk];exact⟨g,hg,hlo,cells,rfl,c⟩
 ·rw [upd_ne hk,hg] at b;have e:g=d:=by simpa using b
  exact e ▸ c
end
structure StF (w1:World) (o:Nat) (t:TypeId) (old new:List Value) (ks:Nat) (L:Nat->Prop) (w':World):Prop where
 bel:w1.grownBy w' (some o)
 row:∃ cs,cs.length=old.length∧RowB w' o t cs
 fw:L ks->RowB w' o t new
section
variable {w1 w' w'':World} {o ks:Nat} {old new:List Value} {t:TypeId} {L:Nat->Prop}
theorem StF.skip (F:StF w1 o t old new ks L w') (k:Nat) (hk:ks≠k:=by decide):StF w1 o t old new ks (λ j=>j=k∨L j) w' :=
 ⟨F.bel,F.row,λ h=>F.fw (h.resolve_left hk)⟩
theorem StF.of {L':Nat->Prop} (F:StF w1 o t old new ks L w') (h:L' ks->L ks):StF w1 o t old new ks L' w':=⟨F.bel,F.row,λ h'=>F.fw (h h')⟩
theorem StF.call (F:StF w1 o t old new ks L w') (k:Nat) (hk:ks≠k) (hb:Below w'.heap.size w' w''):StF w1 o t old new ks (λ j=>j=k∨L j) w'' :=
 ⟨Base.grownBy_trans F.bel ⟨hb.os,hb.tape,hb.output,hb.size,λ i hi _=>hb.block i hi⟩,by
  obtain⟨cs,h1,h2⟩:=F.row;exact⟨cs,h1,h2.below hb h2.lt⟩,λ h=>by
  have r:=F.fw (h.resolve_left hk);exact r.below hb r.lt⟩
theorem StF.wrote (F:StF w1 o t old new ks L w') (hn:new.length=old.length) {cs:List Value} (hcs:cs.length=old.length) (r:RowB w' o t cs):StF w1 o t old new ks (λ j=>j=ks∨L j) (w'.setCells o 0 new):=by
 have a:=row_cells new 0 w' cs r;rw [setL_all cs new (by omega)] at a;exact⟨Base.grownBy_trans F.bel (grown_cells o new 0 w'),⟨new,hn,a⟩,λ _=>a⟩
end
theorem list4 {α:Type} {X:List α} (h:X.length=4):∃ a b c d,X=[a,b,c,d]:=by
 match X,h with
 | [a,b,c,d],_=>exact⟨a,b,c,d,rfl⟩
theorem vtext_s (v:Vr) (w:World):Calls Tryz.prog 63 #[.agg #[.int .i64 v.p,.int .i64 v.c,.int .i64 v.h,.int .i64 v.s]] w λ e w'=>e=.returned (.string (bs (vT v)))∧Below w.heap.size w w':=by
 obtain⟨ov,ag⟩:∃ o,okV v=o:=⟨_,rfl⟩;have CI:=kD (λ i=>var_s v ov ag i);have HO:=kD ag;clear ag;go_enter Tryz.func63,Tryz.ntmps63;go_upto_region 1 with fail;refine wp_gen (λ W'=>Rows w W' [(0,23,vL v)]) ⟨by go_grown,λ p hp=>?_⟩ ?_
 ·obtain rfl:=List.mem_singleton.1 hp;exact RowB.new _ _ _
 intro w1 K;obtain⟨q0,q1,q2,q3⟩:=(K.nth0 0 rfl).c4;have G:=(K.nth0 0 rfl).lt;go_wp2_with fail;refine(CI.out _).mono ?_;rintro e w2 ⟨rfl,hb⟩;have K:=K.below hb;clear q0 q1 q2 q3 G hb CI;obtain⟨q0,q1,q2,q3⟩:=(K.nth0 0 rfl).c4;have G:=(K.nth0 0 rfl).lt
 cases ov with
 | false =>
  have h1:vT v=[]:=by unfold vT;rw [if_neg (by rw [HO.out];decide)]
  have HV:=kD h1;clear h1;go_wp2_with fail;go_returns;exact⟨by rw [HV.out];rfl,K.bel⟩
 | true =>
 have hp:=okV_iff.1 HO.out;have HV:=kD (vT_at HO.out);have C1:=kD (λ i=>num_s v.p (by omega) (by omega) i);have C2:=kD (λ i=>num_s v.c (by omega) (by omega) i);have C3:=kD (λ i=>num_s v.h (by omega) (by omega) i);have C4:=kD (λ i=>num_s v.s (by omega) (by omega) i);have l1:=ito_len (n:=v.p) (by omega) (by omega);have l2:=ito_len (n:=v.c) (by omega) (by omega);have l3:=ito_len (n:=v.h) (by omega) (by omega);have l4:=ito_len (n:=v.s) (by omega) (by omega);obtain⟨x1,aa⟩:∃ z:ByteArray,bs (Lib.itoa v.p)=z:=⟨_,rfl⟩;obtain⟨x2,Z⟩:∃ z:ByteArray,bs (Lib.itoa v.c)=z:=⟨_,rfl⟩;obtain⟨x3,Y⟩:∃ z:ByteArray,bs (Lib.itoa v.h)=z:=⟨_,rfl⟩;obtain⟨x4,X⟩:∃ z:ByteArray,bs (Lib.itoa v.s)=z:=⟨_,rfl⟩;have s1:x1.size<=2:=by rw [<-aa];exact Nat.le_trans (Nat.le_of_eq (bs_size _)) l1.2
 have s2:x2.size<=2:=by rw [<-Z];exact Nat.le_trans (Nat.le_of_eq (bs_size _)) l2.2
 have s3:x3.size<=2:=by rw [<-Y];exact Nat.le_trans (Nat.le_of_eq (bs_size _)) l3.2
 have s4:x4.size<=2:=by rw [<-X];exact Nat.le_trans (Nat.le_of_eq (bs_size _)) l4.2
 have HI:Hid (((((x1++(⟨#[47]⟩:ByteArray))++x2++(⟨#[47]⟩:ByteArray))++x3)++(⟨#[47]⟩:ByteArray))++x4=bs (vT v)):=by
  show _=_
  rw [HV.out,<-aa,<-Z,<-Y,<-X];have g2:(⟨#[47]⟩:ByteArray)=bs [47]:=rfl;simp only [g2,bs_cat]
 rw [aa] at C1;rw [Z] at C2;rw [Y] at C3;rw [X] at C4;obtain⟨T1,af⟩:∃ z,x1++(⟨#[47]⟩:ByteArray)=z:=⟨_,rfl⟩;have u1:T1.size<=3:=by rw [<-af,ByteArray.size_append];show x1.size+1<=3;omega
 obtain⟨T2,ae⟩:∃ z,T1++x2=z:=⟨_,rfl⟩;have u2:T2.size<=5:=by rw [<-ae,ByteArray.size_append];omega
 obtain⟨T3,ad⟩:∃ z,T2++(⟨#[47]⟩:ByteArray)=z:=⟨_,rfl⟩;have u3:T3.size<=6:=by rw [<-ad,ByteArray.size_append];show T2.size+1<=6;omega
 obtain⟨T4,ac⟩:∃ z,T3++x3=z:=⟨_,rfl⟩;have u4:T4.size<=8:=by rw [<-ac,ByteArray.size_append];omega
 obtain⟨T5,ab⟩:∃ z,T4++(⟨#[47]⟩:ByteArray)=z:=⟨_,rfl⟩;have u5:T5.size<=9:=by rw [<-ab,ByteArray.size_append];show T4.size+1<=9;omega
 obtain⟨T6,ah⟩:∃ z,T5++x4=z:=⟨_,rfl⟩;rw [af,ae,ad,ac,ab,ah] at HI;have P:Hid (¬ 9223372036854775807<x1.size+1):=kD (by omega);have O:Hid (¬ 9223372036854775807<T1.size+x2.size):=kD (by omega);have N:Hid (¬ 9223372036854775807<T2.size+1):=kD (by omega);have M:Hid (¬ 9223372036854775807<T3.size+x3.size):=kD (by omega);have J:Hid (¬ 9223372036854775807<T4.size+1):=kD (by omega);have I:Hid (¬ 9223372036854775807<T5.size+x4.size):=kD (by omega);have t:=kD af;have r:=kD ae;have q:=kD ad;have m:=kD ac;have l:=kD ab;have k:=kD ah;have HK:=kD K;clear aa Z Y X s1 s2 s3 s4 l1 l2 l3 l4 hp af ae ad ac ab ah u1 u2 u3 u4 u5 K q0 q1 q2 q3 G HO HV;go_wp2_with fail;refine region_rel [some 6,some 7,some 8,some 9,some 10,some 11,some 12,some 13,some 14,some 15,some 16,some 17,some 18,some 19,some 20,some 21,some 22,some 23,some 2] 19 (Pl [some (.pointer (some ⟨w.heap.size,0,none⟩)),some (.int .i64 v.p),some (.string x1),some (.string T1),some (.pointer (some ⟨w.heap.size,1,none⟩)),some (.int .i64 v.c),some (.string x2),some (.string T2),some (.string T3),some (.pointer (some ⟨w.heap.size,2,none⟩)),some (.int .i64 v.h),some (.string x3),some (.string T4),some (.string T5),some (.pointer (some ⟨w.heap.size,3,none⟩)),some (.int .i64 v.s),some (.string x4),some (.string T6),some (.string T6)]) (λ L a w'=>Below w2.heap.size w2 w') (by kernel_rfl) (by kernel_rfl) (by kernel_rfl) (by kernel_rfl) (by kernel_rfl) (by kernel_rfl) (by first | kernel_rfl | rfl) ?g0_1 ?gst_1 ?gfin_1
 case g0_1=>exact(Below.refl _ _).drew
 case gst_1 =>
  refine rN rfl (λ L a A i b d f U F K g=>?_) ?_
  ·have e1:=U.w 1 (.pointer (some ⟨w.heap.size,0,none⟩));have j:=(HK.out.below F).nth0 0 rfl;obtain⟨r0,r1,r2,r3⟩:=j.c4;have G:=j.lt;clear j;have E:=P.out;have D:=O.out;have C:=N.out;have B:=M.out;have y:=J.out;have x:=I.out;have W:=t.out;have V:=r.out;have T:=q.out;have S:=m.out;have R:=l.out;have Q:=k.out;go_simp;exact pF g (F)
  refine rN rfl (λ L a A i b d f U F K g=>?_) ?_
  ·have e6:=U.v 0 6;have j:=(HK.out.below F).nth0 0 rfl;obtain⟨r0,r1,r2,r3⟩:=j.c4;have G:=j.lt;clear j;have E:=P.out;have D:=O.out;have C:=N.out;have B:=M.out;have y:=J.out;have x:=I.out;have W:=t.out;have V:=r.out;have T:=q.out;have S:=m.out;have R:=l.out;have Q:=k.out;go_simp;exact pF g (F)
  refine rN rfl (λ L a A i b d f U F K g=>?_) ?_
  ·have e7:=U.v 1 7;go_simp;refine(C1.out i).mono ?_;rintro e w6 ⟨rfl,H⟩;exact pF g (F.trans (H.mono F.size))
  refine rN rfl (λ L a A i b d f U F K g=>?_) ?_
  ·have e8:=U.v 2 8;have E:=P.out;have D:=O.out;have C:=N.out;have B:=M.out;have y:=J.out;have x:=I.out;have W:=t.out;have V:=r.out;have T:=q.out;have S:=m.out;have R:=l.out;have Q:=k.out;go_simp;exact pF g (F)
  refine rN rfl (λ L a A i b d f U F K g=>?_) ?_
  ·have e1:=U.w 1 (.pointer (some ⟨w.heap.size,0,none⟩));have j:=(HK.out.below F).nth0 0 rfl;obtain⟨r0,r1,r2,r3⟩:=j.c4;have G:=j.lt;clear j;have E:=P.out;have D:=O.out;have C:=N.out;have B:=M.out;have y:=J.out;have x:=I.out;have W:=t.out;have V:=r.out;have T:=q.out;have S:=m.out;have R:=l.out;have Q:=k.out;go_simp;exact pF g (F)
  refine rN rfl (λ L a A i b d f U F K g=>?_) ?_
  ·have ay:=U.v 4 10;have j:=(HK.out.below F).nth0 0 rfl;obtain⟨r0,r1,r2,r3⟩:=j.c4;have G:=j.lt;clear j;have E:=P.out;have D:=O.out;have C:=N.out;have B:=M.out;have y:=J.out;have x:=I.out;have W:=t.out;have V:=r.out;have T:=q.out;have S:=m.out;have R:=l.out;have Q:=k.out;go_simp;exact pF g (F)
  refine rN rfl (λ L a A i b d f U F K g=>?_) ?_
  ·have ax:=U.v 5 11;go_simp;refine(C2.out i).mono ?_;rintro e w6 ⟨rfl,H⟩;exact pF g (F.trans (H.mono F.size))
  refine rN rfl (λ L a A i b d f U F K g=>?_) ?_
  ·have e9:=U.v 3 9;have aw:=U.v 6 12;have E:=P.out;have D:=O.out;have C:=N.out;have B:=M.out;have y:=J.out;have x:=I.out;have W:=t.out;have V:=r.out;have T:=q.out;have S:=m.out;have R:=l.out;have Q:=k.out;go_simp;exact pF g (F)
  refine rN rfl (λ L a A i b d f U F K g=>?_) ?_
  ·have av:=U.v 7 13;have E:=P.out;have D:=O.out;have C:=N.out;have B:=M.out;have y:=J.out;have x:=I.out;have W:=t.out;have V:=r.out;have T:=q.out;have S:=m.out;have R:=l.out;have Q:=k.out;go_simp;exact pF g (F)
  refine rN rfl (λ L a A i b d f U F K g=>?_) ?_
  ·have e1:=U.w 1 (.pointer (some ⟨w.heap.size,0,none⟩));have j:=(HK.out.below F).nth0 0 rfl;obtain⟨r0,r1,r2,r3⟩:=j.c4;have G:=j.lt;clear j;have E:=P.out;have D:=O.out;have C:=N.out;have B:=M.out;have y:=J.out;have x:=I.out;have W:=t.out;have V:=r.out;have T:=q.out;have S:=m.out;have R:=l.out;have Q:=k.out;go_simp;exact pF g (F)
  refine rN rfl (λ L a A i b d f U F K g=>?_) ?_
  ·have aq:=U.v 9 15;have j:=(HK.out.below F).nth0 0 rfl;obtain⟨r0,r1,r2,r3⟩:=j.c4;have G:=j.lt;clear j;have E:=P.out;have D:=O.out;have C:=N.out;have B:=M.out;have y:=J.out;have x:=I.out;have W:=t.out;have V:=r.out;have T:=q.out;have S:=m.out;have R:=l.out;have Q:=k.out;go_simp;exact pF g (F)
  refine rN rfl (λ L a A i b d f U F K g=>?_) ?_
  ·have ap:=U.v 10 16;go_simp;refine(C3.out i).mono ?_;rintro e w6 ⟨rfl,H⟩;exact pF g (F.trans (H.mono F.size))
  refine rN rfl (λ L a A i b d f U F K g=>?_) ?_
  ·have ar:=U.v 8 14;have ao:=U.v 11 17;have E:=P.out;have D:=O.out;have C:=N.out;have B:=M.out;have y:=J.out;have x:=I.out;have W:=t.out;have V:=r.out;have T:=q.out;have S:=m.out;have R:=l.out;have Q:=k.out;go_simp;exact pF g (F)
  refine rN rfl (λ L a A i b d f U F K g=>?_) ?_
  ·have an:=U.v 12 18;have E:=P.out;have D:=O.out;have C:=N.out;have B:=M.out;have y:=J.out;have x:=I.out;have W:=t.out;have V:=r.out;have T:=q.out;have S:=m.out;have R:=l.out;have Q:=k.out;go_simp;exact pF g (F)
  refine rN rfl (λ L a A i b d f U F K g=>?_) ?_
  ·have e1:=U.w 1 (.pointer (some ⟨w.heap.size,0,none⟩));have j:=(HK.out.below F).nth0 0 rfl;obtain⟨r0,r1,r2,r3⟩:=j.c4;have G:=j.lt;clear j;have E:=P.out;have D:=O.out;have C:=N.out;have B:=M.out;have y:=J.out;have x:=I.out;have W:=t.out;have V:=r.out;have T:=q.out;have S:=m.out;have R:=l.out;have Q:=k.out;go_simp;exact pF g (F)
  refine rN rfl (λ L a A i b d f U F K g=>?_) ?_
  ·have al:=U.v 14 20;have j:=(HK.out.below F).nth0 0 rfl;obtain⟨r0,r1,r2,r3⟩:=j.c4;have G:=j.lt;clear j;have E:=P.out;have D:=O.out;have C:=N.out;have B:=M.out;have y:=J.out;have x:=I.out;have W:=t.out;have V:=r.out;have T:=q.out;have S:=m.out;have R:=l.out;have Q:=k.out;go_simp;exact pF g (F)
  refine rN rfl (λ L a A i b d f U F K g=>?_) ?_
  ·have ak:=U.v 15 21;go_simp;refine(C4.out i).mono ?_;rintro e w6 ⟨rfl,H⟩;exact pF g (F.trans (H.mono F.size))
  refine rN rfl (λ L a A i b d f U F K g=>?_) ?_
  ·have am:=U.v 13 19;have aj:=U.v 16 22;have E:=P.out;have D:=O.out;have C:=N.out;have B:=M.out;have y:=J.out;have x:=I.out;have W:=t.out;have V:=r.out;have T:=q.out;have S:=m.out;have R:=l.out;have Q:=k.out;go_simp;exact pF g (F)
  refine rN rfl (λ L a A i b d f U F K g=>?_) ?_
  ·have ai:=U.v 17 23;have E:=P.out;have D:=O.out;have C:=N.out;have B:=M.out;have y:=J.out;have x:=I.out;have W:=t.out;have V:=r.out;have T:=q.out;have S:=m.out;have R:=l.out;have Q:=k.out;go_simp;exact pF g (F)
  exact RelFrom.nil (by decide)
 intro a i hp F;simp only [Fr,Act.put,sX,Nat.reduceAdd];have h4:a 18=.string T6:=hp 18 (by decide) _ rfl;rw [h4,HI.out];have K:=HK.out.below F;clear F hp h4;go_wp2_with fail;go_returns;exact⟨rfl,K.bel⟩
def HdR (o:Option (Vr × Int)) (w:World) (e:Ending) (w':World):Prop :=
 ∃(p c h s n:Int) (ok:Bool),e=.returned (.tuple #[.agg #[.int .i64 p,.int .i64 c,.int .i64 h,.int .i64 s,.int .i64 n,.slice none 0 0],.bool ok])∧Below w.heap.size w w'∧(if ok=true then o=some (⟨p,c,h,s⟩,n) else o=none)
theorem list3 {α:Type} {X:List α} (h:X.length=3):∃ a b c,X=[a,b,c]:=by
 match X,h with
 | [a,b,c],_=>exact⟨a,b,c,rfl⟩
abbrev ERow:=Int × Int × Int × Value × Int
def enEv (r:ERow):List Value:=[.int .i64 r.1,.int .i64 r.2.1,.int .i64 r.2.2.1,r.2.2.2.1,.int .i64 r.2.2.2.2]
theorem enEv_len (r:ERow):(enEv r).length=5:=rfl
theorem infoE:(Tryz.prog.info? 56).map (λ i=>(i.zero,i.size,i.bytes))=some (some (.agg #[.int .i64 0,.int .i64 0,.int .i64 0,.slice none 0 0,.int .i64 0]),5,56):=by kernel_rfl
def RelEv:Rel ERow Ev where
 R:=λ w S r x=>(r.1=x.k∧r.2.1=x.a∧r.2.2.1=x.b∧r.2.2.2.2=x.r)∧OwnV 135 4 enSt w S r.2.2.2.1 x.ss
 keep:=λ h hs=>⟨h.1,(relO 135 4 enSt).keep h.2 hs⟩
 weak:=λ h hs=>⟨h.1,(relO 135 4 enSt).weak h.2 hs⟩
def Evs (w:World) (lo:Nat) (ev:Value) (es:List Ev):Prop :=
 ∃ rs:List ERow,OwnS w lo w.heap.size 56 5 enEv ev rs∧LsR RelEv w (NotIn ev lo) rs es∧rs.Pairwise (λ r q=>Apart r.2.2.2.1 q.2.2.2.1)
theorem Evs.nil (w:World) (lo:Nat):Evs w lo (.slice none 0 0) []:=⟨[],OwnS.nil_ _ _ _ _ _ _,LsR.nil _ _ _,List.Pairwise.nil⟩
section
variable {w w':World} {lo:Nat} {ev:Value} {es:List Ev}
theorem Evs.below (h:Evs w lo ev es) (hb:Below w.heap.size w w'):Evs w' lo ev es:=by
 obtain⟨a,d,c,b⟩:=h;exact⟨a,(d.below hb (Nat.le_refl _)).more hb.size,c.keep (.below hb),b⟩
theorem Evs.low {g:Nat} (h:Evs w lo ev es) (hg:w.grownBy w' (some g)) (hl:g<lo):Evs w' lo ev es:=by
 obtain⟨b,f,e,d⟩:=h;exact⟨b,(f.grown hg (λ k a=>by simp at a;omega)).more hg.size,e.keep (Still.grown hg (λ k a c=>by simp at a;have:=c.2;omega)),d⟩
theorem Evs.less {lo':Nat} (h:Evs w lo ev es) (hl:lo'<=lo):Evs w lo' ev es:=by
 obtain⟨c,f,e,d⟩:=h;exact⟨c,f.less hl,e.weak (λ b a _=>⟨a.1,by have:=a.2;omega⟩),d⟩
theorem Evs.form (h:Evs w lo ev es):∃ A c,ev=.slice A es.length c:=by
 obtain⟨d,b,a,f⟩:=h;obtain⟨A,c,e,-⟩:=b.form enEv_len;exact⟨A,c,by rw [e,a.1]⟩
theorem Evs.app {w4 w6:World} {gl:Nat} (H:Evs w4 lo ev es) (hlo:lo<=w4.heap.size) (hb:w4.grownBy w6 (some gl)) (hgl:gl<lo) (k a b r:Int) (sv:Value) (ss:List Stp) (hs:OwnS w6 w4.heap.size w6.heap.size 135 4 enSt sv ss) :
  ∃ rs:List ERow,OwnS w6 lo w6.heap.size 56 5 enEv ev rs∧rs.length=es.length∧∀ g n c w7,OwnS w7 lo w7.heap.size 56 5 enEv (.slice (some ⟨g,0,none⟩) n c) (rs++[(k,a,b,sv,r)])->w6.grownBy w7 ev.ownBlock->(ev.ownBlock=some g∨g=w6.heap.size)->Evs w7 lo (.slice (some ⟨g,0,none⟩) n c) (es++[⟨k,a,b,ss,r⟩]):=by
 obtain⟨rs,w,t,I⟩:=H;have s:∀ g,ev.ownBlock=some g->g<w4.heap.size:=λ g f=>(w.block g f).2
 refine⟨rs,(w.grown hb (λ k m=>by simp at m;omega)).more hb.size,t.1,λ g n c w7 D f d=>?_⟩;have v:=t.keep (Still.grown hb (λ k m E=>by simp at m;have:=E.2;omega));have B:RelEv.R w6 (NotIn ev lo) (k,a,b,sv,r) ⟨k,a,b,ss,r⟩:=⟨⟨rfl,rfl,rfl,rfl⟩,OwnV.of hs (Nat.le_refl _) (λ L K J=>⟨λ e=>by have:=s L e;omega,by omega⟩)⟩;refine⟨rs++[(k,a,b,sv,r)],D,LsR.snoc ⟨v.1,λ i A z j h=>app_still f d (v.2 i A z j h)⟩ (app_still f d B),?_⟩;refine List.pairwise_append.2 ⟨I,List.pairwise_singleton _ _,λ q C M l=>?_⟩;obtain rfl:=List.mem_singleton.1 l;obtain⟨i,F⟩:=List.getElem?_of_mem C;obtain⟨x,N,G⟩:=t.at_ F;intro y p o;have P:=(G.2.1.block y p).2;have O:=(hs.block y o).1;omega
theorem Evs.block (h:Evs w lo ev es):∀ g,ev.ownBlock=some g->lo<=g∧g<w.heap.size:=by
 obtain⟨b,a,d,c⟩:=h;exact a.block
end
theorem HdR.v {o:Option (Vr × Int)} {w w':World} {e:Ending} (h:HdR o w e w'):∃(v:Vr) (n:Int) (ok:Bool),e=.returned (.tuple #[.agg #[.int .i64 v.p,.int .i64 v.c,.int .i64 v.h,.int .i64 v.s,.int .i64 n,.slice none 0 0],.bool ok])∧Below w.heap.size w w'∧(if ok=true then o=some (v,n) else o=none):=by
 obtain⟨p,c,h,s,n,ok,e,b,a⟩:=h;exact⟨⟨p,c,h,s⟩,n,ok,e,b,a⟩
def RelM3:Rel (Value × Value × Value) Ms where
 R:=λ w S r x=>MsR w S r.1 r.2.1 r.2.2 x
 keep:=λ h hs=>h.keep hs
 weak:=λ h hs=>h.weak hs
structure Rm (w wr:World) (g8 g10:Nat) (v:Vr) (n:Int) (ev:Value) (es:List Ev) (su u1 u2:Value) (x:Ms):Prop where
 k:Rows w wr [(0,26,[.int .i64 0,.int .i64 0,.int .i64 0,.int .i64 0,.int .i64 0,.slice none 0 0])]
 r8:RowB wr g8 26 [.int .i64 v.p,.int .i64 v.c,.int .i64 v.h,.int .i64 v.s,.int .i64 n,ev]
 r10:RowB wr g10 52 (msC su u1 u2 x)
 ms:MsR wr (λ b=>NotIn ev (g8+1) b∧b≠g10) su u1 u2 x
 es:Evs wr (g10+1) ev es
 lo:w.heap.size<g8∧g8<g10
section
variable {w wr w':World} {g8 g10:Nat} {v:Vr} {n:Int} {ev:Value} {es:List Ev} {su u1 u2:Value} {x:Ms}
theorem Rm.below (K:Rm w wr g8 g10 v n ev es su u1 u2 x) (hb:Below wr.heap.size wr w'):Rm w w' g8 g10 v n ev es su u1 u2 x :=
 ⟨K.k.below hb,K.r8.below hb K.r8.lt,K.r10.below hb K.r10.lt,K.ms.below hb,K.es.below hb,K.lo⟩
theorem Rm.app {w1:World} {g m c:Nat} {es':List Ev} (K:Rm w wr g8 g10 v n ev es su u1 u2 x) (hg:wr.grownBy w1 ev.ownBlock) (hat:ev.ownBlock=some g∨g=wr.heap.size) (he:Evs w1 (g10+1) (.slice (some ⟨g,0,none⟩) m c) es') :
  Rm w (w1.setCell ⟨g8,5,none⟩ (.slice (some ⟨g,0,none⟩) m c)) g8 g10 v n (.slice (some ⟨g,0,none⟩) m c) es' su u1 u2 x:=by
 have l:=K.lo;have h:=K.k.bel.size;have d:∀ k,ev.ownBlock=some k->g10+1<=k:=λ k a=>(K.es.block k a).1
 have o:(inS RelM3 (λ b=>b≠g10)).R w1 (NotIn (.slice (some ⟨g,0,none⟩) m c) (g8+1)) (su,u1,u2) x:=app_still (K:=inS RelM3 (λ b=>b≠g10)) hg hat K.ms;have e:=Base.grownBy_setCell w1 g8 5 (.slice (some ⟨g,0,none⟩) m c);have f:=(K.r8.grown hg (λ k a=>by have:=d k a;omega)).set 5 (.slice (some ⟨g,0,none⟩) m c);refine⟨⟨(K.k.bel.grown hg h (λ k a=>by have:=d k a;omega)).setCell (by simp only;omega) _,λ p i=>?_⟩,f,(K.r10.grown hg (λ k a=>by have:=d k a;omega)).other (by simp only;omega) _,MsR.keep o (Still.grown e (λ k a j=>by simp at a;have:=j.1.2;omega)),he.low e (by omega),l⟩;obtain rfl:=List.mem_singleton.1 i;exact((K.k.at_ _ (List.mem_singleton.2 rfl)).grown hg (λ k a=>by have:=d k a;simp only;omega)).other (by simp only;omega) _
end
end Gm
end Go.Proofs.YtblipmifflfnoaaGreatDoor
