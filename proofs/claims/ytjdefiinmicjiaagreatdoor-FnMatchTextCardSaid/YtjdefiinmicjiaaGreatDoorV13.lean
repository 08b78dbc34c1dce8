/- Parts of a proof. Conditions: each theorem's own. -/
import Derived.Test.YtjdefiinmicjiaaGreatDoorV08
set_option linter.unusedVariables false
set_option linter.unusedSimpArgs false
set_option maxHeartbeats 8000000
set_option maxRecDepth 100000
namespace Go.Proofs.YtjdefiinmicjiaaGreatDoor
open _root_.Go.Proofs.Tryz
namespace TsI
open Go.ChangeShapes Go.WideShapes Go.ChangeAt Go.RowKit Base Ints Own JoinN PlP TxP Num Bd1 Bd5 RegF RegG TxI
def jn (v:Vr) (ss:List Stp) (k:Nat):By:=Lib.join ((ss.take k).map (stpT v)) [32]
theorem jn_succ {v:Vr} {ss:List Stp} {k:Nat} {s:Stp} (h:ss[k]?=some s):jn v ss (k+1)=(if k=0 then [] else jn v ss k++[32])++stpT v s:=by
 unfold jn;rw [take_succ ss k s h,List.map_append];have b:=(List.getElem?_eq_some_iff.1 h).1
 cases k with
 | zero=>simp [Lib.join_one]
 | succ k =>
  cases hl:(ss.take (k+1)).map (stpT v) with
  | nil =>
   have a:((ss.take (k+1)).map (stpT v)).length=k+1:=by rw [List.length_map,List.length_take];omega
   rw [hl] at a;simp at a
  | cons x r =>
   rw [if_neg (by omega),List.cons_append,Lib.join_cons,Lib.join_cons];simp [Lib.joinTail]
theorem steps_s (v:Vr) (A:Option Addr) (cp B:Nat) (ss:List Stp) (R:By) (hR:(if okV v=true then stpsT v ss else [])=R) (w:World) (hB:B<=w.heap.size) (hr:RdS w B 4 enSt A ss) :
  Calls prog 86 #[vA v,.slice A ss.length cp] w λ e w'=>e=.returned (.string (bs R))∧Below w.heap.size w w':=by
 have aw:=hr.len;obtain⟨n,hn⟩:=eX (ss.length);obtain⟨ok,ak⟩:=eX (okV v);have CV:=kD (λ D=>var_s v ok ak D);rw [hn] at aw ⊢;have HN:=kD hn;have HR:=kD hR;have HO:=kD ak;clear hR hn ak;go_enter func86,ntmps86;go_upto_region 1 with fail;refine wp_gen (λ W'=>Below w.heap.size w W'∧RowB W' w.heap.size 25 (vL v)) ⟨by go_grown,nW⟩ ?_;rintro w1 ⟨Q,rv⟩;obtain⟨q0,q1,q2,q3⟩:=rv.c4;have aq:=rv.lt;go_wp2_with fail;refine(CV.out _).mono ?_;rintro e w2 ⟨rfl,hb⟩;have Q:=Q.tR hb;have rv:=rv.below hb aq;clear q0 q1 q2 q3 aq hb
 cases ok
 case false =>
  obtain rfl:R=[]:=by rw [<-HR.out,HO.out];rfl
  go_wp2_with fail;go_ret;exact⟨rfl,Q⟩
 have HS:Hid (stpsT v ss=R):=by show _=_;rw [<-HR.out,HO.out];rfl
 clear HR;by_cases h4:4<n
 ·obtain rfl:R=[]:=by rw [<-HS.out];unfold stpsT;rw [if_pos (by rw [HN.out];exact h4)]
  have d4:decide ((4:Int)<(n:Int))=true:=decide_eq_true (by omega);clear h4;go_wp2_with fail;go_ret;exact⟨rfl,Q⟩
 have d4:decide ((4:Int)<(n:Int))=false:=decide_eq_false (by omega);by_cases h0:n=0
 ·obtain rfl:R=[45]:=by rw [<-HS.out];unfold stpsT;rw [if_neg (by rw [HN.out];exact h4),if_pos (by rw [HN.out];exact h0)]
  have d0:((n:Int) == 0)=true:=by simp [h0]
  clear h0 h4;go_wp2_with fail;go_ret;exact⟨rfl,Q⟩
 have d0:((n:Int) == 0)=false:=by simp [h0]
 have HT:Hid (R=if allPl v ss=true then Lib.join (ss.map (stpT v)) [32] else []):=by show _=_;rw [<-HS.out];unfold stpsT;rw [if_neg (by rw [HN.out];exact h4),if_neg (by rw [HN.out];exact h0)]
 have aH:n<=4:=by omega
 have aI:0<n:=by omega
 have RV:=kD rv;have T:=kD Q;have ax:w.heap.size+1<=w2.heap.size:=rv.lt;clear HS h4 h0 rv Q;go_wp2_with fail;go_loopw [5,6] (λ s5 i wr=>∃ k:Nat,k<=n∧i=iL (k:Int)∧s5=.string (bs (jn v ss k))∧Hid (Below w2.heap.size w2 wr)∧Hid (∀ s ∈ ss.take k,plainB v s=true)∧(jn v ss k).length<=12*k) (λ _ i _=>n - (intOf i).toNat)
 case atStart=>exact⟨0,Nat.zero_le _,rfl,rfl,kD (zRf),kD (λ s hs=>by simp at hs),by simp [jn,Lib.join_nil]⟩
 case round =>
  obtain⟨k,hk,rfl,rfl,hb,ai,ad⟩:=hrel;clear d0 d4;by_cases hlt:k<n
  ·obtain⟨b,I,f,t,d,h,rfl,aK,ao,x0,x1,x2,x3⟩:=rdStp_at (hr.below (T.out.trans (hb.out.mono T.out.size)) hB) (by rw [HN.out];exact hlt);have HX:=kD ao;have an:b<wr.heap.size:=by have:=hb.out.size;have:=T.out.size;omega
   obtain⟨J,hJ⟩:=eX (jn v ss k);rw [hJ] at ad ⊢;have HJ:=kD hJ;have C:=kD (And.intro x0 (And.intro x1 (And.intro x2 x3)));have m:=kD an;obtain⟨pb,aj⟩:=eX (plainB v (f,t,d,h));have CP:=kD (λ D=>plain_s v HO.out (f,t,d,h) pb aj D);simp only at CP;have aa:=kD aj;have H:=kD (RV.out.below hb.out ax);clear ao hJ x0 x1 x2 x3 aj;go_wp2_with fail;refine rG [some 24,some 25,some 26,some 27,some 28,some 29,some 30] 7 (Pl [some (vA v),some (.slice (sA b I) n cp),some (iL (k:Int)),some (pT b (I+k*4)),some (.agg #[iL f,iL t,iL d,.bool h]),some (.bool pb),some (.bool (!pb))]) (λ L a w'=>Below wr.heap.size wr w') ?g0_3 ?gst_3 ?gfin_3
   case g0_3=>exact(zRf).drew
   case gst_3 =>
    refine rN rfl (λ L a A D o r q U F K y=>?_) ?_
    ·have e2:=U.w 2 (pT w.heap.size 0);have M:=H.out.below F H.out.lt;obtain⟨q0,q1,q2,q3⟩:=M.c4;have Y:=M.lt;have l:=bcell F;have g:=C.out;have x0:=(l.1 b _ m.out).trans g.1;have x1:=(l.1 b _ m.out).trans g.2.1;have x2:=(l.1 b _ m.out).trans g.2.2.1;have x3:=(l.1 b _ m.out).trans g.2.2.2;clear M l g;go_simp;exact pF y (F)
    refine rN rfl (λ L a A D o r q U F K y=>?_) ?_
    ·have e1:=U.w 1 (.slice (sA b I) n cp);have l:=bcell F;have g:=C.out;clear l g;go_simp;exact pF y (F)
    refine rN rfl (λ L a A D o r q U F K y=>?_) ?_
    ·have e6:=U.w 6 (iL (k:Int));have l:=bcell F;have g:=C.out;clear l g;go_simp;exact pF y (F)
    refine rN rfl (λ L a A D o r q U F K y=>?_) ?_
    ·have aP:=U.v 1 25;have aO:=U.v 2 26;have l:=bcell F;have g:=C.out;clear l g;go_simp;exact pF y (F)
    refine rN rfl (λ L a A D o r q U F K y=>?_) ?_
    ·have aN:=U.v 3 27;have M:=H.out.below F H.out.lt;obtain⟨q0,q1,q2,q3⟩:=M.c4;have Y:=M.lt;have l:=bcell F;have g:=C.out;have x0:=(l.1 b _ m.out).trans g.1;have x1:=(l.1 b _ m.out).trans g.2.1;have x2:=(l.1 b _ m.out).trans g.2.2.1;have x3:=(l.1 b _ m.out).trans g.2.2.2;clear M l g;go_simp;exact pF y (F)
    refine rN rfl (λ L a A D o r q U F K y=>?_) ?_
    ·have aQ:=U.v 0 24;have aM:=U.v 4 28;go_simp;refine(CP.out D).mono ?_;rintro e w6 ⟨rfl,Z⟩;exact pF y (F.tR Z)
    refine rN rfl (λ L a A D o r q U F K y=>?_) ?_
    ·have aL:=U.v 5 29;have l:=bcell F;have g:=C.out;clear l g;go_simp;exact pF y (F)
    exact RelFrom.nil (by decide)
   case gfin_3 =>
    intro a D hp F;simp only [Fr,Act.put,sX,Nat.reduceAdd];have h6:a 6=.bool (!pb):=hp 6 (by decide) _ rfl;rw [h6];have W:=F;clear F hp h6 CP;have N:=kD (hb.out.tR W);obtain⟨O,ap⟩:=eX (D);rw [ap] at W N ⊢;clear ap D
    cases pb
    case false =>
     have ay:R=[]:=by
      rw [HT.out,if_neg];intro ha;have:=List.all_eq_true.1 ha _ (List.mem_of_getElem? HX.out);rw [aa.out] at this;simp at this
     subst ay;clear HT;go_wp2_with fail;go_ret;exact⟨rfl,T.out.trans (N.out.mono T.out.size)⟩
    have CT:=kD (λ(D:World)=>step_s v HO.out (f,t,d,h) aa.out D);have X:=step_len HO.out aa.out;obtain⟨tx,ab⟩:=eX (stpT v (f,t,d,h));rw [ab] at CT X;simp only at CT;have aR:=kD ab;have HQ:Hid (∀ s ∈ ss.take (k+1),plainB v s=true):=by
     show ∀ s ∈ ss.take (k+1),plainB v s=true
     rw [take_succ ss k _ HX.out];intro s hs;rcases List.mem_append.1 hs with hs | hs
     ·exact ai.out s hs
     ·simp at hs;subst hs;exact aa.out
    obtain⟨Jp,P⟩:∃ j,(if k=0 then [] else J++[32])=j:=⟨_,rfl⟩;have al:jn v ss (k+1)=Jp++tx:=by rw [jn_succ HX.out,HJ.out,P,ab]
    have av:Jp.length<=12*k+1:=by
     rw [<-P];split
     ·simp
     ·simp;omega
    have zt:(bs tx).size<=11:=by rw [bs_size];exact X.2
    have zj:(bs Jp).size<=12*k+1:=by rw [bs_size];exact av
    have am:Hid (bs Jp++bs tx=bs (jn v ss (k+1))):=by show _=_;rw [bs_cat,al]
    have af:(jn v ss (k+1)).length<=12*(k+1):=by
     rw [al,List.length_append];by_cases h0:k=0
     ·rw [if_pos h0] at P;rw [<-P];simp;omega
     ·rw [if_neg h0] at P;rw [<-P];simp;omega
    have E:Hid (¬ 9223372036854775807<(bs Jp).size+(bs tx).size):=kD (by omega);obtain⟨V,ac⟩:=eX (bs Jp);obtain⟨st,ah⟩:=eX (bs tx);rw [ah] at CT;rw [ac,ah] at am E;have H:=kD (H.out.below W H.out.lt);have C:Hid (O.cell? ⟨b,I+k*4,none⟩=some (iL f)∧O.cell? ⟨b,I+k*4+1,none⟩=some (iL t)∧O.cell? ⟨b,I+k*4+2,none⟩=some (iL d)∧O.cell? ⟨b,I+k*4+3,none⟩=some (.bool h)):=by
     have l:=bcell W;have g:=C.out;exact kD ⟨(l.1 b _ m.out).trans g.1,(l.1 b _ m.out).trans g.2.1,(l.1 b _ m.out).trans g.2.2.1,(l.1 b _ m.out).trans g.2.2.2⟩
    have m:Hid (b<O.heap.size):=kD (Nat.lt_of_lt_of_le m.out W.size);have aJ:(bs J).size<=12*k:=by rw [bs_size];exact ad
    have ae:Hid (if k=0 then bs J=V else bs J++(⟨#[32]⟩:ByteArray)=V):=by
     show if k=0 then bs J=V else _
     split
     ·rename_i h0
      rw [<-ac,<-P,if_pos h0,<-HJ.out];subst h0
      rfl
     ·rename_i h0
      rw [<-ac,<-P,if_neg h0];exact bs_cat J [32]
    clear P al av zj ac ah ab X hb HX ai aa HJ zt W ad an;by_cases k0:k=0
    ·have dk:decide ((0:Int)<(k:Int))=false:=decide_eq_false (by omega);have S:=ae.out;rw [if_pos k0] at S;clear ae;go_upto_region 13 with fail;rw [S];clear S dk k0;refine rG [some 35,some 36,some 37,some 38,some 39,some 40,some 41,some 42,some 5] 9 (Pl [some (.string V),some (vA v),some (.slice (sA b I) n cp),some (iL (k:Int)),some (pT b (I+k*4)),some (.agg #[iL f,iL t,iL d,.bool h]),some (.string st),some (.string (V++st)),some (.string (V++st))]) (λ L a w'=>Below O.heap.size O w') ?g0_1 ?gst_1 ?gfin_1
     case g0_1=>exact(zRf).drew
     case gst_1 =>
      refine rN rfl (λ L a A D o r q U F K y=>?_) ?_
      ·have e5:A.tmps[5]?.getD undef=.string V:=U.z 5 (λ j hl hj=>by obtain rfl:=nd_of _ (by kernel_rfl) j 8 5 hj rfl;exact o (q 8 0 (by kernel_rfl) hl));have l:=bcell F;have g:=C.out;clear l g;have G:=E.out;go_simp;exact pF y (F)
      refine rN rfl (λ L a A D o r q U F K y=>?_) ?_
      ·have e2:=U.w 2 (pT w.heap.size 0);have M:=H.out.below F H.out.lt;obtain⟨q0,q1,q2,q3⟩:=M.c4;have Y:=M.lt;have l:=bcell F;have g:=C.out;have x0:=(l.1 b _ m.out).trans g.1;have x1:=(l.1 b _ m.out).trans g.2.1;have x2:=(l.1 b _ m.out).trans g.2.2.1;have x3:=(l.1 b _ m.out).trans g.2.2.2;clear M l g;have G:=E.out;go_simp;exact pF y (F)
      refine rN rfl (λ L a A D o r q U F K y=>?_) ?_
      ·have e1:=U.w 1 (.slice (sA b I) n cp);have l:=bcell F;have g:=C.out;clear l g;have G:=E.out;go_simp;exact pF y (F)
      refine rN rfl (λ L a A D o r q U F K y=>?_) ?_
      ·have e6:=U.w 6 (iL (k:Int));have l:=bcell F;have g:=C.out;clear l g;have G:=E.out;go_simp;exact pF y (F)
      refine rN rfl (λ L a A D o r q U F K y=>?_) ?_
      ·have aE:=U.v 2 37;have aD:=U.v 3 38;have l:=bcell F;have g:=C.out;clear l g;have G:=E.out;go_simp;exact pF y (F)
      refine rN rfl (λ L a A D o r q U F K y=>?_) ?_
      ·have aC:=U.v 4 39;have M:=H.out.below F H.out.lt;obtain⟨q0,q1,q2,q3⟩:=M.c4;have Y:=M.lt;have l:=bcell F;have g:=C.out;have x0:=(l.1 b _ m.out).trans g.1;have x1:=(l.1 b _ m.out).trans g.2.1;have x2:=(l.1 b _ m.out).trans g.2.2.1;have x3:=(l.1 b _ m.out).trans g.2.2.2;clear M l g;have G:=E.out;go_simp;exact pF y (F)
      refine rN rfl (λ L a A D o r q U F K y=>?_) ?_
      ·have aF:=U.v 1 36;have aB:=U.v 5 40;go_simp;refine(CT.out D).mono ?_;rintro e w6 ⟨rfl,Z⟩;exact pF y (F.tR Z)
      refine rN rfl (λ L a A D o r q U F K y=>?_) ?_
      ·have aG:=U.v 0 35;have aA:=U.v 6 41;have l:=bcell F;have g:=C.out;clear l g;have G:=E.out;go_simp;exact pF y (F)
      refine rN rfl (λ L a A D o r q U F K y=>?_) ?_
      ·have az:=U.v 7 42;have l:=bcell F;have g:=C.out;clear l g;have G:=E.out;go_simp;exact pF y (F)
      exact RelFrom.nil (by decide)
     case gfin_1 =>
      intro a D hp F;simp only [Fr,Act.put,sX,Nat.reduceAdd];have h8:a 8=.string (V++st):=hp 8 (by decide) _ rfl;rw [h8,am.out];have N:=kD (N.out.tR F);clear F hp h8 CT;go_wp2_with fail;go_roundw
      case rel=>exact⟨k+1,by omega,by go_num,rfl,N,HQ,af⟩
      case measure=>simp [intOf];omega
    ·have dk:decide ((0:Int)<(k:Int))=true:=decide_eq_true (by omega);have S:=ae.out;rw [if_neg k0] at S;clear ae;have g1:¬ 9223372036854775807<(bs J).size+1:=by omega
     go_upto_region 13 with fail
     (try rw [S])
     clear S dk k0 g1;refine rG [some 35,some 36,some 37,some 38,some 39,some 40,some 41,some 42,some 5] 9 (Pl [some (.string V),some (vA v),some (.slice (sA b I) n cp),some (iL (k:Int)),some (pT b (I+k*4)),some (.agg #[iL f,iL t,iL d,.bool h]),some (.string st),some (.string (V++st)),some (.string (V++st))]) (λ L a w'=>Below O.heap.size O w') ?g0_2 ?gst_2 ?gfin_2
     case g0_2=>exact(zRf).drew
     case gst_2 =>
      refine rN rfl (λ L a A D o r q U F K y=>?_) ?_
      ·have e5:A.tmps[5]?.getD undef=.string V:=U.z 5 (λ j hl hj=>by obtain rfl:=nd_of _ (by kernel_rfl) j 8 5 hj rfl;exact o (q 8 0 (by kernel_rfl) hl));have l:=bcell F;have g:=C.out;clear l g;have G:=E.out;go_simp;exact pF y (F)
      refine rN rfl (λ L a A D o r q U F K y=>?_) ?_
      ·have e2:=U.w 2 (pT w.heap.size 0);have M:=H.out.below F H.out.lt;obtain⟨q0,q1,q2,q3⟩:=M.c4;have Y:=M.lt;have l:=bcell F;have g:=C.out;have x0:=(l.1 b _ m.out).trans g.1;have x1:=(l.1 b _ m.out).trans g.2.1;have x2:=(l.1 b _ m.out).trans g.2.2.1;have x3:=(l.1 b _ m.out).trans g.2.2.2;clear M l g;have G:=E.out;go_simp;exact pF y (F)
      refine rN rfl (λ L a A D o r q U F K y=>?_) ?_
      ·have e1:=U.w 1 (.slice (sA b I) n cp);have l:=bcell F;have g:=C.out;clear l g;have G:=E.out;go_simp;exact pF y (F)
      refine rN rfl (λ L a A D o r q U F K y=>?_) ?_
      ·have e6:=U.w 6 (iL (k:Int));have l:=bcell F;have g:=C.out;clear l g;have G:=E.out;go_simp;exact pF y (F)
      refine rN rfl (λ L a A D o r q U F K y=>?_) ?_
      ·have aE:=U.v 2 37;have aD:=U.v 3 38;have l:=bcell F;have g:=C.out;clear l g;have G:=E.out;go_simp;exact pF y (F)
      refine rN rfl (λ L a A D o r q U F K y=>?_) ?_
      ·have aC:=U.v 4 39;have M:=H.out.below F H.out.lt;obtain⟨q0,q1,q2,q3⟩:=M.c4;have Y:=M.lt;have l:=bcell F;have g:=C.out;have x0:=(l.1 b _ m.out).trans g.1;have x1:=(l.1 b _ m.out).trans g.2.1;have x2:=(l.1 b _ m.out).trans g.2.2.1;have x3:=(l.1 b _ m.out).trans g.2.2.2;clear M l g;have G:=E.out;go_simp;exact pF y (F)
      refine rN rfl (λ L a A D o r q U F K y=>?_) ?_
      ·have aF:=U.v 1 36;have aB:=U.v 5 40;go_simp;refine(CT.out D).mono ?_;rintro e w6 ⟨rfl,Z⟩;exact pF y (F.tR Z)
      refine rN rfl (λ L a A D o r q U F K y=>?_) ?_
      ·have aG:=U.v 0 35;have aA:=U.v 6 41;have l:=bcell F;have g:=C.out;clear l g;have G:=E.out;go_simp;exact pF y (F)
      refine rN rfl (λ L a A D o r q U F K y=>?_) ?_
      ·have az:=U.v 7 42;have l:=bcell F;have g:=C.out;clear l g;have G:=E.out;go_simp;exact pF y (F)
      exact RelFrom.nil (by decide)
     case gfin_2 =>
      intro a D hp F;simp only [Fr,Act.put,sX,Nat.reduceAdd];have h8:a 8=.string (V++st):=hp 8 (by decide) _ rfl;rw [h8,am.out];have N:=kD (N.out.tR F);clear F hp h8 CT;go_wp2_with fail;go_roundw
      case rel=>exact⟨k+1,by omega,by go_num,rfl,N,HQ,af⟩
      case measure=>simp [intOf];omega
  ·obtain rfl:k=n:=by omega
   have ag:allPl v ss=true:=by
    unfold allPl;rw [List.all_eq_true];intro s hs;exact ai.out s (by rw [List.take_of_length_le (by rw [HN.out];exact Nat.le_refl _)];exact hs)
   have ar:jn v ss k=R:=by rw [HT.out,if_pos ag];unfold jn;rw [List.take_of_length_le (by rw [HN.out];exact Nat.le_refl _)]
   rw [ar];clear HT ag ar ad;go_wp2_with fail;go_ret;exact⟨rfl,T.out.trans (hb.out.mono T.out.size)⟩
end TsI
namespace TxI
open Go.ChangeShapes Go.WideShapes Go.ChangeAt Go.RowKit Base Ints Own JoinN PlP TxP Num Bd1 Bd5 RegF RegG
def TurnR (o:Option (Int × Int × List Stp)) (w:World) (e:Ending) (w':World):Prop :=
 ∃(x y:Int) (sv:Value) (c:Int) (ss:List Stp),e=.returned (.tuple #[.agg #[iL x,iL y],sv,iL c])∧OwnS w' w.heap.size w'.heap.size 111 4 enSt sv ss∧Below w.heap.size w w'∧(match o with
  | some r=>r=(x,y,ss)∧c=0
  | none=>c≠0)
def pairT (a:Option (Int × Int)) (b:Option (List Stp)):Option (Int × Int × List Stp):=a.bind λ p=>b.map λ ss=>(p.1,p.2,ss)
theorem rdTI_eq {v:Vr} {t l r:By} {one:Bool} (h:Lib.cut t [58,32]=(l,r,one)):rdTI v t=if 80<t.length then none else if one=false then none else pairT (rdR v l) (rdSs v r):=by
 unfold rdTI;rw [h];simp only
 cases rdR v l with
 | none=>rfl
 | some p=>cases rdSs v r <;> rfl
theorem optR_inv {o:Option (Int × Int)} {s:Int × Int} {ok:Bool} (h:optR o=(s,ok)):if ok=true then o=some s else o=none:=by
 cases o with
 | none=>simp [optR] at h;obtain⟨_,rfl⟩:=h;simp
 | some x=>simp [optR] at h;obtain⟨rfl,rfl⟩:=h;simp
theorem rturn_i (v:Vr) (hv:okV v=true) (t:By) (hl:t.length<=4194304) (w:World) (E:Env w) :
  Calls prog 61 #[vA v,.string (bs t)] w λ e w'=>TurnR (rdTI v t) w e w':=by
 obtain⟨R,hR⟩:=eX (rdTI v t);obtain⟨⟨l,r,H⟩,Z⟩:=eX (Lib.cut t [58,32]);have hc:=cut_len t [58,32];rw [Z] at hc;simp only at hc;have hE:R=if 80<t.length then none else if H=false then none else pairT (rdR v l) (rdSs v r):=by rw [<-hR];exact rdTI_eq Z
 rw [hR];have CV:=kD (λ B=>var_i v true hv B);have CC:=kD (λ(B:World) (E9:Env B)=>cut_w t [58,32] hl B E9);have CR:=kD (λ(B:World)=>rroll_i v hv l (by omega) B);have CS:=kD (λ(B:World) (E9:Env B)=>rsteps_i v hv r (by omega) B E9);rw [Z] at CC;simp only at CC;obtain⟨⟨⟨x,y⟩,o1⟩,hq⟩:=eX (optR (rdR v l));rw [hq] at CR;simp only at CR;have HQ:=kD (optR_inv hq);obtain⟨O,hO⟩:=eX (rdSs v r);rw [hO] at CS hE;have Y:=bs_size t;have HE:=kD hE;clear hE hR Z hc hq hO hv hl;go_enter func61,ntmps61;go_upto_region 1 with fail;refine wp_gen (λ a=>Bvr w a v 0 0) ⟨by go_grown,(nW).alloc _,nX⟩ ?_;intro w1 K;obtain⟨N,M,L,J⟩:=K.rv.c4;have m:=K.rv.lt;go_wp2_with fail;refine(CV.out _).mono ?_;rintro e w2 ⟨rfl,k⟩;have K:=K.below k;clear N M L J m k CV;have D:=K.rr.lt;have F:=K.rr.frozen;obtain⟨X,W⟩:=K.rr.c2;by_cases h80:80<t.length
 ·have d:R=none:=by rw [HE.out,if_pos h80]
  subst d;have d1:decide ((80:Int)<((bs t).size:Int))=true:=decide_eq_true (by rw [Y];omega);clear Y h80 HE;go_wp2_with fail;refine bp_gen (λ a=>Below w.heap.size w a∧RowB a (w.heap.size+1) 53 [iL 0,iL 0]) ⟨(K.bel.setCell (p:=⟨w.heap.size+1,0,none⟩) (by show w.heap.size<=w.heap.size+1;omega) _).setCell (p:=⟨w.heap.size+1,1,none⟩) (by show w.heap.size<=w.heap.size+1;omega) _,(K.rr.set 0 _).set 1 _⟩ ?_;rintro T ⟨b,C⟩;obtain⟨A,n⟩:=C.c2;refine bodyPost_ret (v:=.tuple #[.agg #[iL 0,iL 0],.slice none 0 0,iL 3]) (by simp [results,results61,go_sem,A,n]) rfl ?_;exact⟨0,0,_,3,[],rfl,OwnS.nil_ _ _ _ _ _ _,b,by decide⟩
 have d1:decide ((80:Int)<((bs t).size:Int))=false:=decide_eq_false (by rw [Y];omega);have G:Hid (R=if H=false then none else pairT (rdR v l) O):=by show _=_;rw [HE.out,if_neg h80]
 clear Y h80 HE;go_wp2_with fail;refine(CC.out _ (E.below K.bel)).mono ?_;rintro e w3 ⟨rfl,k⟩;have K:=K.below k;clear X W D F k CC d1;have D:=K.rr.lt;have F:=K.rr.frozen;obtain⟨X,W⟩:=K.rr.c2
 cases H
 case false =>
  have d:R=none:=by rw [G.out,if_pos rfl]
  subst d;clear G;go_wp2_with fail;refine bp_gen (λ a=>Below w.heap.size w a∧RowB a (w.heap.size+1) 53 [iL 0,iL 0]) ⟨(K.bel.setCell (p:=⟨w.heap.size+1,0,none⟩) (by show w.heap.size<=w.heap.size+1;omega) _).setCell (p:=⟨w.heap.size+1,1,none⟩) (by show w.heap.size<=w.heap.size+1;omega) _,(K.rr.set 0 _).set 1 _⟩ ?_;rintro T ⟨b,C⟩;obtain⟨A,n⟩:=C.c2;refine bodyPost_ret (v:=.tuple #[.agg #[iL 0,iL 0],.slice none 0 0,iL 6]) (by simp [results,results61,go_sem,A,n]) rfl ?_;exact⟨0,0,_,6,[],rfl,OwnS.nil_ _ _ _ _ _ _,b,by decide⟩
 have j:Hid (R=pairT (rdR v l) O):=by show _=_;rw [G.out,if_neg (by simp)]
 clear G;obtain⟨N,M,L,J⟩:=K.rv.c4;have m:=K.rv.lt;go_wp2_with fail;refine(CR.out _).mono ?_;rintro e w4 ⟨rfl,k⟩;have K:=K.below k;clear X W D F k CR N M L J m;go_upto_region 9 with fail;refine wp_gen (λ a=>Bvr w a v 0 0∧RowB a w4.heap.size 53 [iL x,iL y]) ⟨K.below ((zRf).alloc lR _),nW⟩ ?_;have aa:w.heap.size+2<=w4.heap.size:=K.rr.lt;clear K;rintro w5 ⟨K,I⟩;obtain⟨gx,Q⟩:=eX (w4.heap.size);rw [Q] at I aa ⊢;clear Q;obtain⟨N,M,L,J⟩:=K.rv.c4;have m:=K.rv.lt;go_wp2_with fail;refine(CS.out _ (E.below K.bel)).mono ?_;rintro e w6 ⟨V,rfl,i,k⟩;have S:w.heap.size+1<w5.heap.size:=K.rr.lt;have ab:w.heap.size<=w5.heap.size:=K.bel.size;have K:=K.below k;have I:=I.below k I.lt;clear N M L J m k CS;have D:=K.rr.lt;have F:=K.rr.frozen;obtain⟨X,W⟩:=K.rr.c2;have ad:=I.lt;obtain⟨x0,x1⟩:=I.c2
 cases o1
 case false =>
  have P:rdR v l=none:=HQ.out;have d:R=none:=by rw [j.out,P];rfl
  subst d;clear j i P;go_wp2_with fail;refine bp_gen (λ a=>Below w.heap.size w a∧RowB a (w.heap.size+1) 53 [iL 0,iL 0]) ⟨(K.bel.setCell (p:=⟨w.heap.size+1,0,none⟩) (by show w.heap.size<=w.heap.size+1;omega) _).setCell (p:=⟨w.heap.size+1,1,none⟩) (by show w.heap.size<=w.heap.size+1;omega) _,(K.rr.set 0 _).set 1 _⟩ ?_;rintro T ⟨b,C⟩;obtain⟨A,n⟩:=C.c2;refine bodyPost_ret (v:=.tuple #[.agg #[iL 0,iL 0],.slice none 0 0,iL 6]) (by simp [results,results61,go_sem,A,n]) rfl ?_;exact⟨0,0,_,6,[],rfl,OwnS.nil_ _ _ _ _ _ _,b,by decide⟩
 have f:rdR v l=some (x,y):=HQ.out
 cases O with
 | none =>
  have d:R=none:=by rw [j.out,f];rfl
  subst d;clear j i f;go_wp2_with fail;refine bp_gen (λ a=>Below w.heap.size w a∧RowB a (w.heap.size+1) 53 [iL 0,iL 0]) ⟨(K.bel.setCell (p:=⟨w.heap.size+1,0,none⟩) (by show w.heap.size<=w.heap.size+1;omega) _).setCell (p:=⟨w.heap.size+1,1,none⟩) (by show w.heap.size<=w.heap.size+1;omega) _,(K.rr.set 0 _).set 1 _⟩ ?_;rintro T ⟨b,C⟩;obtain⟨A,n⟩:=C.c2;refine bodyPost_ret (v:=.tuple #[.agg #[iL 0,iL 0],.slice none 0 0,iL 6]) (by simp [results,results61,go_sem,A,n]) rfl ?_;exact⟨0,0,_,6,[],rfl,OwnS.nil_ _ _ _ _ _ _,b,by decide⟩
 | some ss =>
  have d:R=some (x,y,ss):=by rw [j.out,f];rfl
  subst d;have i:OwnS w6 w5.heap.size w6.heap.size 111 4 enSt V ss:=i;have ac:=kD i;clear j i f;go_wp2_with fail;refine bp_gen (λ a=>Below w.heap.size w a∧RowB a (w.heap.size+1) 53 [iL x,iL y]∧OwnS a w.heap.size a.heap.size 111 4 enSt V ss) ⟨(K.bel.setCell (p:=⟨w.heap.size+1,0,none⟩) (by show w.heap.size<=w.heap.size+1;omega) _).setCell (p:=⟨w.heap.size+1,1,none⟩) (by show w.heap.size<=w.heap.size+1;omega) _,(K.rr.set 0 _).set 1 _,?_⟩ ?_
  ·have h2:=((ac.out.setCell (p:=⟨w.heap.size+1,0,none⟩) S (iL x)).setCell (p:=⟨w.heap.size+1,1,none⟩) S (iL y)).less ab
   simpa using h2
  rintro T ⟨b,C,o8⟩;obtain⟨A,n⟩:=C.c2;refine bodyPost_ret (v:=.tuple #[.agg #[iL x,iL y],V,iL 0]) (by simp [results,results61,go_sem,A,n]) rfl ?_;exact⟨x,y,V,0,ss,rfl,o8,b,rfl,rfl⟩
structure Bve (w wr:World) (v:Vr) (cs:List Value):Prop where
 bel:Below w.heap.size w wr
 rv:RowB wr w.heap.size 25 (vL v)
 re:RowB wr (w.heap.size+1) 28 cs
theorem Bve.below {w wr w':World} {v:Vr} {cs:List Value} (k:Bve w wr v cs) (hb:zB wr w'):Bve w w' v cs :=
 ⟨k.bel.tR hb,k.rv.below hb k.rv.lt,k.re.below hb k.re.lt⟩
theorem event_i (v:Vr) (k a b:Int) (ss:List Stp) (r:Int) (A:Option Addr) (cp B:Nat) (w:World) (hB:B<=w.heap.size) (hr:RdS w B 4 enSt A ss) (E:Env w) :
  Calls prog 7 #[vA v,.agg #[iL k,iL a,iL b,.slice A ss.length cp,iL r]] w λ e w'=>e=.returned (.string (bs (if okV v=true then evnT v ⟨k,a,b,ss,r⟩ else [])))∧Below w.heap.size w w':=by
 obtain⟨ok,aa⟩:=eX (okV v);have CV:=kD (λ g=>var_i v ok aa g);obtain⟨R,hR⟩:∃ x,(if okV v=true then evnT v ⟨k,a,b,ss,r⟩ else [])=x:=⟨_,rfl⟩;rw [hR];have an:=kD hr;obtain⟨n,hn⟩:=eX (ss.length);have am:=hr.len;rw [hn] at am ⊢;have HN:=kD hn;have HR:=kD hR;have HO:=kD aa;clear hR aa hr hn;go_enter func7,ntmps7;go_upto_region 1 with fail;refine wp_gen (λ W'=>Bve w W' v [iL k,iL a,iL b,.slice A n cp,iL r]) ⟨by go_grown,(nW).alloc _,nX⟩ ?_;intro w1 K;obtain⟨q0,q1,q2,q3⟩:=K.rv.c4;have V:=K.rv.lt;go_wp2_with fail;refine(CV.out _).mono ?_;rintro e w2 ⟨rfl,Q⟩;have K:=K.below Q;clear q0 q1 q2 q3 V Q CV
 cases ok
 case false =>
  obtain rfl:R=[]:=by rw [<-HR.out,HO.out];rfl
  go_wp2_with fail;go_ret;exact⟨rfl,K.bel⟩
 have HE:Hid (R=evnT v ⟨k,a,b,ss,r⟩):=by show _=_;rw [<-HR.out,HO.out];rfl
 clear HR;obtain⟨q0,q1,q2,q3⟩:=K.rv.c4;obtain⟨y0,y1,y2,y3,y4⟩:=K.re.c5;have V:=K.rv.lt;have ab:=K.re.lt;have ai:blankP ⟨k,a,b,ss,r⟩=if k=1 then decide (n=0∧r=0) else if k=2 then decide (r=0) else if k=3 then decide (a=0∧b=0∧n=0) else false:=by unfold blankP;rw [HN.out]
 have ah:evnT v ⟨k,a,b,ss,r⟩=if (if k=1 then decide (n=0∧r=0) else if k=2 then decide (r=0) else if k=3 then decide (a=0∧b=0∧n=0) else false)=false then [] else
   if k=1 then (if (1<=a∧a<=v.s)∧1<=b∧b<=v.s then opW++[32]++Lib.itoa a++[32]++Lib.itoa b else [])
   else if k=3 then (if 1<=r∧r<=3 then reW++[32]++Lib.itoa r else []) else if trnT v a b ss=[] then [] else tuW++[32]++trnT v a b ss:=by rw [<-ai];rfl
 have H:=kD (HE.out.trans ah);clear HE ai ah;obtain⟨c1,h1⟩:∃ c,decide (1<=a∧a<=v.s)=c:=⟨_,rfl⟩;obtain⟨c2,h2⟩:∃ c,decide (1<=b∧b<=v.s)=c:=⟨_,rfl⟩;obtain⟨c3,h3⟩:∃ c,decide (1<=r∧r<=3)=c:=⟨_,rfl⟩;have C1:=kD (λ w=>in_i a 1 v.s c1 h1 w);have C2:=kD (λ w=>in_i b 1 v.s c2 h2 w);have C3:=kD (λ w=>in_i r 1 3 c3 h3 w);have al:=kD h1;have ak:=kD h2;have aj:=kD h3;clear h1 h2 h3;by_cases k1:k=1
 ·subst k1;have d:Hid (R=if decide (n=0∧r=0)=false then [] else if (1<=a∧a<=v.s)∧1<=b∧b<=v.s then opW++[32]++Lib.itoa a++[32]++Lib.itoa b else []):=H.out;clear H;by_cases n0:n=0
  case neg =>
   have d0:((n:Int) == 0)=false:=by simp;omega
   obtain rfl:R=[]:=by rw [d.out,decide_eq_false (λ h=>n0 h.1)];rfl
   clear n0 d;go_wp2_with fail;go_ret;exact⟨rfl,K.bel⟩
  have d0:((n:Int) == 0)=true:=by simp [n0]
  by_cases r0:r=0
  case neg =>
   have d1:(r == 0)=false:=by simp [r0]
   obtain rfl:R=[]:=by rw [d.out,decide_eq_false (λ h=>r0 h.2)];rfl
   clear n0 r0 d;go_wp2_with fail;go_ret;exact⟨rfl,K.bel⟩
  have d1:(r == 0)=true:=by simp [r0]
  have i:Hid (R=if (1<=a∧a<=v.s)∧1<=b∧b<=v.s then opW++[32]++Lib.itoa a++[32]++Lib.itoa b else []):=by show _=_;rw [d.out,decide_eq_true ⟨n0,r0⟩];rfl
  clear n0 r0 d;go_wp2_with fail;refine(C1.out _).mono ?_;rintro e w3 ⟨rfl,rfl⟩
  cases c1
  case false =>
   obtain rfl:R=[]:=by rw [i.out,if_neg (λ h=>of_decide_eq_false al.out h.1)]
   clear i;go_wp2_with fail;go_ret;exact⟨rfl,K.bel⟩
  go_wp2_with fail;refine(C2.out _).mono ?_;rintro e w3 ⟨rfl,rfl⟩
  cases c2
  case false =>
   obtain rfl:R=[]:=by rw [i.out,if_neg (λ h=>of_decide_eq_false ak.out h.2)]
   clear i;go_wp2_with fail;go_ret;exact⟨rfl,K.bel⟩
  have ha:=of_decide_eq_true al.out;have Q:=of_decide_eq_true ak.out;have hp:=okV_iff.1 HO.out;have CA:=kD (λ(g:World) (E9:Env g)=>decimalZ a (by omega) (by omega) g E9.tab);have CB:=kD (λ(g:World) (E9:Env g)=>decimalZ b (by omega) (by omega) g E9.tab);have z1:=ito_len (n:=a) (by omega) (by omega);have z2:=ito_len (n:=b) (by omega) (by omega);obtain⟨P,j⟩:∃ z:ByteArray,(⟨(Lib.itoa a).toArray⟩:ByteArray)=z:=⟨_,rfl⟩;obtain⟨xb,T⟩:∃ z:ByteArray,(⟨(Lib.itoa b).toArray⟩:ByteArray)=z:=⟨_,rfl⟩;rw [j] at CA;rw [T] at CB;have s1:P.size<=2:=by rw [<-j];exact Nat.le_trans (Nat.le_of_eq (bs_size _)) z1.2
  have s2:xb.size<=2:=by rw [<-T];exact Nat.le_trans (Nat.le_of_eq (bs_size _)) z2.2
  have Y:Hid ((((⟨#[111,112,101,110,105,110,103,32]⟩:ByteArray)++P)++(⟨#[32]⟩:ByteArray))++xb=bs R):=by
   show _=_
   rw [i.out,if_pos ⟨ha,Q⟩,<-j,<-T];have g1:(⟨#[111,112,101,110,105,110,103,32]⟩:ByteArray)=bs (opW++[32]):=rfl;have g2:(⟨#[32]⟩:ByteArray)=bs [32]:=rfl;have g3:∀ n,(⟨(Lib.itoa n).toArray⟩:ByteArray)=bs (Lib.itoa n):=λ _=>rfl
   simp only [g1,g2,g3,bs_cat]
  obtain⟨T1,X⟩:=eX ((⟨#[111,112,101,110,105,110,103,32]⟩:ByteArray)++P);have u1:T1.size<=10:=by rw [<-X,ByteArray.size_append];show 8+P.size<=10;omega
  obtain⟨T2,W⟩:=eX (T1++(⟨#[32]⟩:ByteArray));have u2:T2.size<=11:=by rw [<-W,ByteArray.size_append];show T1.size+1<=11;omega
  obtain⟨T3,ad⟩:=eX (T2++xb);rw [X,W,ad] at Y;have G1:Hid (¬ 9223372036854775807<8+P.size):=kD (by omega);have G2:Hid (¬ 9223372036854775807<T1.size+1):=kD (by omega);have Z:Hid (¬ 9223372036854775807<T2.size+xb.size):=kD (by omega);have G:=kD X;have D:=kD W;have C:=kD ad;have O:=kD K;clear i j T s1 s2 z1 z2 ha Q hp X W ad u1 u2 K q0 q1 q2 q3 y0 y1 y2 y3 y4 V ab d0 d1;go_wp2_with fail;refine rG [some 36,some 37,some 38,some 39,some 40,some 41,some 42,some 43,some 44,some 4] 10 (Pl [some (pT (w.heap.size+1) 1),some (iL a),some (.string P),some (.string T1),some (.string T2),some (pT (w.heap.size+1) 2),some (iL b),some (.string xb),some (.string T3),some (.string T3)]) (λ L f w'=>Below w2.heap.size w2 w') ?g0_1 ?gst_1 ?gfin_1
  case g0_1=>exact(zRf).drew
  case gst_1 =>
   refine rN rfl (λ L f A g m q t U F K y=>?_) ?_
   ·have e3:=U.w 3 (pT (w.heap.size+1) 0);have I:=(O.out.re.below F O.out.re.lt).c5;have r1:=I.2.1;have r2:=I.2.2.1;clear I;have N:=G1.out;have M:=G2.out;have J:=Z.out;have t1:=G.out;have t2:=D.out;have t3:=C.out;go_simp;exact pF y (F)
   refine rN rfl (λ L f A g m q t U F K y=>?_) ?_
   ·have az:=U.v 0 36;have I:=(O.out.re.below F O.out.re.lt).c5;have r1:=I.2.1;have r2:=I.2.2.1;clear I;have N:=G1.out;have M:=G2.out;have J:=Z.out;have t1:=G.out;have t2:=D.out;have t3:=C.out;go_simp;exact pF y (F)
   refine rN rfl (λ L f A g m q t U F K y=>?_) ?_
   ·have ay:=U.v 1 37;go_simp;refine(CA.out g (E.below (O.out.bel.tR F))).mono ?_;rintro e w6 ⟨rfl,ac⟩;exact pF y (F.tR ac)
   refine rN rfl (λ L f A g m q t U F K y=>?_) ?_
   ·have ax:=U.v 2 38;have N:=G1.out;have M:=G2.out;have J:=Z.out;have t1:=G.out;have t2:=D.out;have t3:=C.out;go_simp;exact pF y (F)
   refine rN rfl (λ L f A g m q t U F K y=>?_) ?_
   ·have aw:=U.v 3 39;have N:=G1.out;have M:=G2.out;have J:=Z.out;have t1:=G.out;have t2:=D.out;have t3:=C.out;go_simp;exact pF y (F)
   refine rN rfl (λ L f A g m q t U F K y=>?_) ?_
   ·have e3:=U.w 3 (pT (w.heap.size+1) 0);have I:=(O.out.re.below F O.out.re.lt).c5;have r1:=I.2.1;have r2:=I.2.2.1;clear I;have N:=G1.out;have M:=G2.out;have J:=Z.out;have t1:=G.out;have t2:=D.out;have t3:=C.out;go_simp;exact pF y (F)
   refine rN rfl (λ L f A g m q t U F K y=>?_) ?_
   ·have ar:=U.v 5 41;have I:=(O.out.re.below F O.out.re.lt).c5;have r1:=I.2.1;have r2:=I.2.2.1;clear I;have N:=G1.out;have M:=G2.out;have J:=Z.out;have t1:=G.out;have t2:=D.out;have t3:=C.out;go_simp;exact pF y (F)
   refine rN rfl (λ L f A g m q t U F K y=>?_) ?_
   ·have aq:=U.v 6 42;go_simp;refine(CB.out g (E.below (O.out.bel.tR F))).mono ?_;rintro e w6 ⟨rfl,ac⟩;exact pF y (F.tR ac)
   refine rN rfl (λ L f A g m q t U F K y=>?_) ?_
   ·have av:=U.v 4 40;have ap:=U.v 7 43;have N:=G1.out;have M:=G2.out;have J:=Z.out;have t1:=G.out;have t2:=D.out;have t3:=C.out;go_simp;exact pF y (F)
   refine rN rfl (λ L f A g m q t U F K y=>?_) ?_
   ·have ao:=U.v 8 44;have N:=G1.out;have M:=G2.out;have J:=Z.out;have t1:=G.out;have t2:=D.out;have t3:=C.out;go_simp;exact pF y (F)
   exact RelFrom.nil (by decide)
  case gfin_1 =>
   intro f g hp F;simp only [Fr,Act.put,sX,Nat.reduceAdd];have h4:f 9=.string T3:=hp 9 (by decide) _ rfl;rw [h4,Y.out];have K:=O.out.below F;clear F hp h4;go_wp2_with fail;go_ret;exact⟨rfl,K.bel⟩
 by_cases k2:k=2
 ·subst k2;have d:Hid (R=if decide (r=0)=false then [] else if trnT v a b ss=[] then [] else tuW++[32]++trnT v a b ss):=H.out;clear H k1;have CT:=kD (λ(g:World) (h9:zB w g)=>turn_i v HO.out a b A cp B ss g (Nat.le_trans hB h9.size) (an.out.below h9 hB) (E.below h9));obtain⟨S,hS⟩:=eX (trnT v a b ss);have hl:=trnT_len HO.out a b ss;rw [hS] at d CT hl;rw [HN.out] at CT;clear hS;go_wp2_with fail;refine(CT.out _ K.bel).mono ?_;rintro e w3 ⟨rfl,Q⟩;have K:=K.below Q;clear q0 q1 q2 q3 y0 y1 y2 y3 y4 V ab Q CT;obtain⟨y0,y1,y2,y3,y4⟩:=K.re.c5;have ab:=K.re.lt;by_cases hS0:S=[]
  ·obtain rfl:R=[]:=by rw [d.out,if_pos hS0];split <;> rfl
   have e0:(bs S).toList.isEmpty=true:=by rw [ByteArray.toList_eq,bs_data,hS0];rfl
   clear d hS0;go_wp2_with fail;go_ret;exact⟨rfl,K.bel⟩
  have e0:(bs S).toList.isEmpty=false:=by rw [ByteArray.toList_eq,bs_data];cases S with | nil=>exact absurd rfl hS0 | cons a l=>rfl
  by_cases r0:r=0
  case neg =>
   obtain rfl:R=[]:=by rw [d.out,decide_eq_false r0];rfl
   have d1:(r == 0)=false:=by simp [r0]
   clear d hS0 r0;go_wp2_with fail;go_ret;exact⟨rfl,K.bel⟩
  have d1:(r == 0)=true:=by simp [r0]
  have Y:Hid ((⟨#[116,117,114,110,32]⟩:ByteArray)++bs S=bs R):=by
   show _=_
   rw [d.out,decide_eq_true r0,if_neg (by simp),if_neg hS0];exact bs_cat (tuW++[32]) S
  have zS:(bs S).size<=54:=by rw [bs_size];exact hl
  obtain⟨sb,af⟩:=eX (bs S);rw [af] at Y e0 zS ⊢;have ae:Hid (Ending.returned (.string ((⟨#[116,117,114,110,32]⟩:ByteArray)++sb))=Ending.returned (.string (bs R))):=by show _=_;rw [Y.out]
  have g1:¬ 9223372036854775807<5+sb.size:=by omega
  clear d hS0 r0 af Y hl;go_wp2_with fail;go_ret;exact⟨ae.out,K.bel⟩
 by_cases k3:k=3
 ·subst k3;have d:Hid (R=if decide (a=0∧b=0∧n=0)=false then [] else if 1<=r∧r<=3 then reW++[32]++Lib.itoa r else []):=H.out;clear H k1 k2;by_cases n0:n=0
  case neg =>
   have d0:((n:Int) == 0)=false:=by simp;omega
   obtain rfl:R=[]:=by rw [d.out,decide_eq_false (λ h=>n0 h.2.2)];rfl
   clear n0 d;go_wp2_with fail;go_ret;exact⟨rfl,K.bel⟩
  have d0:((n:Int) == 0)=true:=by simp [n0]
  by_cases a0:a=0
  case neg =>
   have d1:(a == 0)=false:=by simp [a0]
   obtain rfl:R=[]:=by rw [d.out,decide_eq_false (λ h=>a0 h.1)];rfl
   clear n0 a0 d;go_wp2_with fail;go_ret;exact⟨rfl,K.bel⟩
  have d1:(a == 0)=true:=by simp [a0]
  by_cases b0:b=0
  case neg =>
   have d2:(b == 0)=false:=by simp [b0]
   obtain rfl:R=[]:=by rw [d.out,decide_eq_false (λ h=>b0 h.2.1)];rfl
   clear n0 a0 b0 d;go_wp2_with fail;go_ret;exact⟨rfl,K.bel⟩
  have d2:(b == 0)=true:=by simp [b0]
  have i:Hid (R=if 1<=r∧r<=3 then reW++[32]++Lib.itoa r else []):=by show _=_;rw [d.out,decide_eq_true ⟨a0,b0,n0⟩];rfl
  clear n0 a0 b0 d;go_wp2_with fail;refine(C3.out _).mono ?_;rintro e w3 ⟨rfl,rfl⟩
  cases c3
  case false =>
   obtain rfl:R=[]:=by rw [i.out,if_neg (of_decide_eq_false aj.out)]
   clear i;go_wp2_with fail;go_ret;exact⟨rfl,K.bel⟩
  have ag:=of_decide_eq_true aj.out;have CA:=kD (λ(g:World) (E9:Env g)=>decimalZ r (by omega) (by omega) g E9.tab);have z1:=ito_len (n:=r) (by omega) (by omega);obtain⟨P,j⟩:∃ z:ByteArray,(⟨(Lib.itoa r).toArray⟩:ByteArray)=z:=⟨_,rfl⟩;rw [j] at CA;have s1:P.size<=2:=by rw [<-j];exact Nat.le_trans (Nat.le_of_eq (bs_size _)) z1.2
  have Y:Hid ((⟨#[114,101,115,105,103,110,32]⟩:ByteArray)++P=bs R):=by
   show _=_
   rw [i.out,if_pos ag,<-j];exact bs_cat (reW++[32]) _
  have ae:Hid (Ending.returned (.string ((⟨#[114,101,115,105,103,110,32]⟩:ByteArray)++P))=Ending.returned (.string (bs R))):=by show _=_;rw [Y.out]
  have g1:¬ 9223372036854775807<7+P.size:=by omega
  clear i j z1 ag Y;go_wp2_with fail;refine(CA.out _ (E.below K.bel)).mono ?_;rintro e w4 ⟨rfl,Q⟩;have K:=K.below Q;go_wp2_with fail;go_ret;exact⟨ae.out,K.bel⟩
 obtain rfl:R=[]:=by rw [H.out];simp [k1,k2,k3]
 have d1:(k == 1)=false:=by simp [k1]
 have d2:(k == 2)=false:=by simp [k2]
 have d3:(k == 3)=false:=by simp [k3]
 clear H k1 k2 k3;go_wp2_with fail;go_ret;exact⟨rfl,K.bel⟩
end TxI
namespace TsI
open Go.ChangeShapes Go.WideShapes Go.ChangeAt Go.RowKit Base Ints Own JoinN PlP TxP Num Bd1 Bd5 RegF RegG TxI
theorem roll_sg (v:Vr) (hv:okV v=true) (x y:Int) (w:World) :
  Calls prog 85 #[vA v,.agg #[iL x,iL y]] w λ e w'=>e=.returned (.string (bs (if rollB v x y=true then rolT x y else [])))∧Below w.heap.size w w':=by
 cases hc:rollB v x y with
 | true=>exact roll_s v hv x y hc w
 | false =>
  have f:=kD (λ g=>isroll_ws v hv x y false hc g);clear hc;go_enter func85,ntmps85;go_upto_region 1 with fail;refine wp_gen (λ o=>Bvr w o v x y) ⟨by go_grown,(nW).alloc _,nX⟩ ?_;intro r K;obtain⟨n,m,l,k⟩:=K.rv.c4;obtain⟨j,i⟩:=K.rr.c2;have a:=K.rv.lt;have b:=K.rr.lt;go_wp2_with fail;refine(f.out _).mono ?_;rintro e q ⟨rfl,d⟩;have K:=K.below d;clear n m l k j i a b d f;go_wp2_with fail;go_ret;exact⟨rfl,K.bel⟩
theorem turn_s (v:Vr) (hv:okV v=true) (x y:Int) (As:Option Addr) (cp B:Nat) (ss:List Stp) (w:World) (hB:B<=w.heap.size) (hr:RdS w B 4 enSt As ss) :
  Calls prog 59 #[vA v,.agg #[iL x,iL y],.slice As ss.length cp] w λ e w'=>e=.returned (.string (bs (trnT v x y ss)))∧Below w.heap.size w w':=by
 obtain⟨S,J⟩:=eX (stpsT v ss);have Q:=kD (λ(f:World) (h9:zB w f)=>steps_s v As cp B ss S (by rw [hv];exact J) f (Nat.le_trans hB h9.size) (hr.below h9 hB));obtain⟨P,o⟩:∃ p,(if rollB v x y=true then rolT x y else [])=p:=⟨_,rfl⟩;have T:=kD (λ f=>roll_sg v hv x y f);rw [o] at T;have N:trnT v x y ss=if P≠[]∧S≠[] then P++[58,32]++S else []:=by
  unfold trnT;rw [J]
  cases hc:rollB v x y with
  | false=>rw [hc] at o;subst o;simp
  | true =>
   rw [hc] at o;have:P≠[]:=by rw [<-o];simp only [if_true];rw [rolT_at hv hc];simp
   simp only [true_and,this,ne_eq,not_false_eq_true];rw [<-o];simp
 have H:P.length<=2:=by
  rw [<-o];split
  ·rename_i hc;rw [rolT_at hv hc];simp
  ·simp
 obtain⟨R,hR⟩:=eX (trnT v x y ss);rw [hR] at N ⊢;obtain⟨n,hn⟩:=eX (ss.length);rw [hn] at Q ⊢;have q:=stpsT_len hv (ss:=ss);rw [J] at q;have D:=kD N;have HL:=kD (And.intro q H);clear N hR J hn hr hv q o H;go_enter func59,ntmps59;go_upto_region 1 with fail;refine wp_gen (λ W'=>Bvr w W' v x y) ⟨by go_grown,(nW).alloc _,nX⟩ ?_;intro V K;have C:=kD K;clear K;go_wp2_with fail;refine rG [some 9,some 10,some 11,some 12,some 13,some 14,some 7,some 8] 8 (Pl [some (vA v),some (.agg #[iL x,iL y]),some (.string (bs P)),some (vA v),some (.slice As n cp),some (.string (bs S)),some (.string (bs P)),some (.string (bs S))]) (λ L b w'=>Below V.heap.size V w') ?g0_1 ?gst_1 ?gfin_1
 case g0_1=>exact(zRf).drew
 case gst_1 =>
  refine rN rfl (λ L b A f g i j U F K k=>?_) ?_
  ·have e3:=U.w 3 (pT w.heap.size 0);have d:=C.out.below F;obtain⟨q0,I,Z,Y⟩:=d.rv.c4;obtain⟨X,W⟩:=d.rr.c2;have E:=d.rv.lt;have G:=d.rr.lt;clear d;go_simp;exact pF k (F)
  refine rN rfl (λ L b A f g i j U F K k=>?_) ?_
  ·have e4:=U.w 4 (pT (w.heap.size+1) 0);have d:=C.out.below F;obtain⟨q0,I,Z,Y⟩:=d.rv.c4;obtain⟨X,W⟩:=d.rr.c2;have E:=d.rv.lt;have G:=d.rr.lt;clear d;go_simp;exact pF k (F)
  refine rN rfl (λ L b A f g i j U F K k=>?_) ?_
  ·have e9:=U.v 0 9;have ae:=U.v 1 10;go_simp;refine(T.out f).mono ?_;rintro e w6 ⟨rfl,t⟩;exact pF k (F.tR t)
  refine rN rfl (λ L b A f g i j U F K k=>?_) ?_
  ·have e3:=U.w 3 (pT w.heap.size 0);have d:=C.out.below F;obtain⟨q0,I,Z,Y⟩:=d.rv.c4;obtain⟨X,W⟩:=d.rr.c2;have E:=d.rv.lt;have G:=d.rr.lt;clear d;go_simp;exact pF k (F)
  refine rN rfl (λ L b A f g i j U F K k=>?_) ?_
  ·have e2:=U.w 2 (.slice As n cp);go_simp;exact pF k (F)
  refine rN rfl (λ L b A f g i j U F K k=>?_) ?_
  ·have ac:=U.v 3 12;have ab:=U.v 4 13;go_simp;refine(Q.out f (C.out.bel.tR F)).mono ?_;rintro e w6 ⟨rfl,t⟩;exact pF k (F.tR t)
  refine rN rfl (λ L b A f g i j U F K k=>?_) ?_
  ·have ad:=U.v 2 11;go_simp;exact pF k (F)
  refine rN rfl (λ L b A f g i j U F K k=>?_) ?_
  ·have aa:=U.v 5 14;go_simp;exact pF k (F)
  exact RelFrom.nil (by decide)
 case gfin_1 =>
  intro b f M F;simp only [Fr,Act.put,sX,Nat.reduceAdd];have h7:b 6=.string (bs P):=M 6 (by decide) _ rfl;have h8:b 7=.string (bs S):=M 7 (by decide) _ rfl;rw [h7,h8];have z:=(C.out.below F).bel;clear F M h7 h8 T Q C;by_cases hP0:P=[]
  ·have m:R=[]:=by rw [D.out,if_neg (λ h=>h.1 hP0)]
   subst m;have e0:(bs P).toList.isEmpty=true:=by rw [ByteArray.toList_eq,bs_data,hP0];rfl
   clear D hP0;go_wp2_with fail;go_ret;exact⟨rfl,z⟩
  have e0:(bs P).toList.isEmpty=false:=by rw [ByteArray.toList_eq,bs_data];cases P with | nil=>exact absurd rfl hP0 | cons a l=>rfl
  by_cases hS0:S=[]
  ·have m:R=[]:=by rw [D.out,if_neg (λ h=>h.2 hS0)]
   subst m;have e1:(bs S).toList.isEmpty=true:=by rw [ByteArray.toList_eq,bs_data,hS0];rfl
   clear D hS0 hP0;go_wp2_with fail;go_ret;exact⟨rfl,z⟩
  have e1:(bs S).toList.isEmpty=false:=by rw [ByteArray.toList_eq,bs_data];cases S with | nil=>exact absurd rfl hS0 | cons a l=>rfl
  have m:R=P++[58,32]++S:=by rw [D.out,if_pos ⟨hP0,hS0⟩]
  have HI:Hid ((bs P++(⟨#[58,32]⟩:ByteArray))++bs S=bs R):=by
   show _=_
   have I:(⟨#[58,32]⟩:ByteArray)=bs [58,32]:=rfl;rw [I,bs_cat,bs_cat,m]
  have z1:(bs P).size<=2:=by rw [bs_size];exact HL.out.2
  have z2:(bs S).size<=50:=by rw [bs_size];exact HL.out.1
  have O:Hid (Ending.returned (.string ((bs P++(⟨#[58,32]⟩:ByteArray))++bs S))=Ending.returned (.string (bs R))):=by show _=_;rw [HI.out]
  have g1:¬ 9223372036854775807<(bs P).size+2:=by omega
  have g2:¬ 9223372036854775807<(bs P).size+2+(bs S).size:=by omega
  clear D hS0 hP0 m HI;go_wp2_with fail;go_ret;exact⟨O.out,z⟩
theorem blank_s (k a b:Int) (n:Nat) (A:Option Addr) (cp:Nat) (r:Int) (c:Bool) (hc:(if k=1 then decide (n=0∧r=0) else if k=2 then decide (r=0) else if k=3 then decide (a=0∧b=0∧n=0) else false)=c) (w:World) :
  Calls prog 57 #[.agg #[iL k,iL a,iL b,.slice A n cp,iL r]] w λ e w'=>e=.returned (.bool c)∧Below w.heap.size w w':=by
 have d:=kD hc;clear hc;by_cases k1:k=1
 ·subst k1;have hc:decide (n=0∧r=0)=c:=d.out;clear d;by_cases n0:n=0
  ·have g:((n:Int) == 0)=true:=by simp [n0]
   by_cases r0:r=0
   ·have f:(r == 0)=true:=by simp [r0]
    obtain rfl:c=true:=by rw [<-hc];exact decide_eq_true ⟨n0,r0⟩
    clear hc n0 r0;go_enter func57,ntmps57;go_wp2_with fail;go_ret;exact⟨rfl,by go_grown⟩
   ·have f:(r == 0)=false:=by simp [r0]
    obtain rfl:c=false:=by rw [<-hc];exact decide_eq_false (λ h=>r0 h.2)
    clear hc n0 r0;go_enter func57,ntmps57;go_wp2_with fail;go_ret;exact⟨rfl,by go_grown⟩
  ·have g:((n:Int) == 0)=false:=by simp;omega
   obtain rfl:c=false:=by rw [<-hc];exact decide_eq_false (λ h=>n0 h.1)
   clear hc n0;go_enter func57,ntmps57;go_wp2_with fail;go_ret;exact⟨rfl,by go_grown⟩
 by_cases k2:k=2
 ·subst k2;have hc:decide (r=0)=c:=d.out;clear d k1;by_cases r0:r=0
  ·have f:(r == 0)=true:=by simp [r0]
   obtain rfl:c=true:=by rw [<-hc];exact decide_eq_true r0
   clear hc r0;go_enter func57,ntmps57;go_wp2_with fail;go_ret;exact⟨rfl,by go_grown⟩
  ·have f:(r == 0)=false:=by simp [r0]
   obtain rfl:c=false:=by rw [<-hc];exact decide_eq_false r0
   clear hc r0;go_enter func57,ntmps57;go_wp2_with fail;go_ret;exact⟨rfl,by go_grown⟩
 by_cases k3:k=3
 ·subst k3;have hc:decide (a=0∧b=0∧n=0)=c:=d.out;clear d k1 k2;by_cases a0:a=0
  ·have f:(a == 0)=true:=by simp [a0]
   by_cases b0:b=0
   ·have i:(b == 0)=true:=by simp [b0]
    by_cases n0:n=0
    ·have g:((n:Int) == 0)=true:=by simp [n0]
     obtain rfl:c=true:=by rw [<-hc];exact decide_eq_true ⟨a0,b0,n0⟩
     clear hc n0 a0 b0;go_enter func57,ntmps57;go_wp2_with fail;go_ret;exact⟨rfl,by go_grown⟩
    ·have g:((n:Int) == 0)=false:=by simp;omega
     obtain rfl:c=false:=by rw [<-hc];exact decide_eq_false (λ h=>n0 h.2.2)
     clear hc n0 a0 b0;go_enter func57,ntmps57;go_wp2_with fail;go_ret;exact⟨rfl,by go_grown⟩
   ·have i:(b == 0)=false:=by simp [b0]
    obtain rfl:c=false:=by rw [<-hc];exact decide_eq_false (λ h=>b0 h.2.1)
    clear hc a0 b0;go_enter func57,ntmps57;go_wp2_with fail;go_ret;exact⟨rfl,by go_grown⟩
  ·have f:(a == 0)=false:=by simp [a0]
   obtain rfl:c=false:=by rw [<-hc];exact decide_eq_false (λ h=>a0 h.1)
   clear hc a0;go_enter func57,ntmps57;go_wp2_with fail;go_ret;exact⟨rfl,by go_grown⟩
 obtain rfl:c=false:=by rw [<-d.out];simp [k1,k2,k3]
 have f:(k == 1)=false:=by simp [k1]
 have i:(k == 2)=false:=by simp [k2]
 have j:(k == 3)=false:=by simp [k3]
 clear d k1 k2 k3;go_enter func57,ntmps57;go_wp2_with fail;go_ret;exact⟨rfl,by go_grown⟩
end TsI
namespace TxI
open Go.ChangeShapes Go.WideShapes Go.ChangeAt Go.RowKit Base Ints Own JoinN PlP TxP Num Bd1 Bd5 RegF RegG
theorem infoI:(Tryz.prog.info? 2).map (λ i=>(i.zero,i.size,i.bytes))=some (some (iL 0),1,8):=by kernel_rfl
def decF (x:By):Option Int:=if (rdDec x).2=true then some (rdDec x).1 else none
theorem split_i (t:By) (c:UInt8) (hl:t.length<=4194304) (w:World) (E:Env w) :
  Calls prog 60 #[.string (bs t),.string (bs [c])] w λ e w'=>∃ sv,e=.returned (.tuple #[sv,.bool (mapO decF (spl c t)).isSome])∧OwnS w' w.heap.size w'.heap.size 2 1 enI sv ((mapO decF (spl c t)).getD [])∧Below w.heap.size w w':=by
 obtain⟨i4,ad,ab,aa,Z⟩:=info_parts infoI;obtain⟨R,m⟩:=eX (mapO decF (spl c t));rw [m];have CS:=kD (λ(C:World) (E9:Env C)=>split_w t c hl C E9);have HW:=kD (λ x hx=>Nat.le_trans (spl_word c t x hx) hl);obtain⟨Q,p⟩:=eX (spl c t);obtain⟨n,S⟩:=eX (Q.length);have K:=spl_len c t;rw [p,S] at K;rw [p] at CS HW m;rw [S] at CS;have T:=kD m.symm;have HN:=kD S;have ak:n<=4194305:=by omega
 clear m p S K hl;go_enter func60,ntmps60;go_wp2_with fail;refine(CS.out _ E).mono ?_;rintro e z ⟨A,cp,rfl,G,v⟩;have af:=kD G;have a:=kD v;have ac:w.heap.size<=z.heap.size:=v.size;clear G v;go_wp2_with fail;go_loopw [6,8,9,10,15] (λ vl _ _ _ i wr=>∃(k:Nat) (X:List Int),k<=n∧i=iL (k:Int)∧Hid (Below z.heap.size z wr)∧Hid (OwnS wr z.heap.size wr.heap.size 2 1 enI vl X)∧Hid (mapO decF (Q.take k)=some X)∧X.length=k) (λ _ _ _ _ i _=>n - (intOf i).toNat)
 case atStart=>exact⟨0,[],Nat.zero_le _,rfl,kD (zRf),kD (OwnS.nil_ _ _ _ _ _ _),kD rfl,rfl⟩
 case round =>
  obtain⟨k,X,hk,rfl,y,B,hX,O⟩:=hrel;by_cases hlt:k<n
  ·obtain⟨b,ah,x,rfl,ae,o,hc⟩:=rdBs_at (af.out.below y.out lR) (by rw [HN.out];exact hlt);have HX:=kD o;have D:=HW.out x (List.mem_of_getElem? o);have V:=kD (λ(C:World) (E9:Env C)=>rdd_w x D C E9);obtain⟨⟨s,ok⟩,hq⟩:=eX (rdDec x);rw [hq] at V;simp only at V;have HQ:=kD hq;obtain⟨Av,cv,F,_⟩:=B.out.form enI_len;rw [O] at F;subst F;clear o D hq;go_wp2_with fail;refine(V.out wr (E.below (a.out.trans (y.out.mono a.out.size)))).mono ?_;rintro e W ⟨rfl,f⟩;have d:=kD (y.out.tR f);have B:=kD ((B.out.below f lR).more f.size);have ai:=f.size;have aj:=y.out.size;clear y f V hc ae
   cases ok
   case false =>
    have J:decF x=none:=by unfold decF;rw [HQ.out];rfl
    have m:R=none:=by rw [T.out];exact mapO_none J _ (List.mem_of_getElem? HX.out)
    subst m;clear T J;go_wp2_with fail;go_ret2;refine⟨_,rfl,OwnS.nil_ _ _ _ _ _ _,?_⟩;exact a.out.trans (d.out.mono a.out.size)
   have h:decF x=some s:=by unfold decF;rw [HQ.out];rfl
   have P:Hid (mapO decF (Q.take (k+1))=some (X++[s])):=by
    show _=_
    rw [take_succ Q k x HX.out,mapO_snoc,hX.out];simp only [h,Option.map_some]
   clear h HQ;go_wp2_with (at_builtin;refine wpL_app rfl _ _ _ rfl z.heap.size _ 2 i4 (iL 0) 1 8 Tryz.underlying49 ad ab aa Z rfl (by decide) enI_len one_I (.slice Av k cv) X [s] rfl (B.out.alloc _) ⟨W.heap.size,0,none⟩ 1 1 (by first | rfl | (simp;rfl) | (simp [go_sem];done)) rfl (news_new (nW)) (by decide) ?c1 ?c2 ?c3 ?_)
   case c1=>unfold maxLen;omega
   case c2=>omega
   case c3=>go_size
   intro k2 c2 w7 I M N ag;have j:∀ g,(Value.slice Av k cv).ownBlock=some g->z.heap.size<=g:=λ g hg=>(B.out.block g hg).1
   have L:W.grownBy w7 (Value.slice Av k cv).ownBlock:=below_grown (w:=W) (by go_grown) M;have d:=kD (d.out.grown L d.out.size (λ g hg=>j g hg));have H:=kD I;have l:(X++[s]).length=k+1:=by rw [List.length_append,O];rfl
   obtain⟨Y,hY⟩:=eX (X++[s]);rw [hY] at P H l;clear M L N I j hY;go_wp2_with fail;go_roundw
   case rel=>exact⟨k+1,Y,by omega,by first | rfl | trivial | go_num,d,H,P,l⟩
   case measure=>simp [intOf];omega
  ·obtain rfl:k=n:=by omega
   have m:R=some X:=by
    rw [T.out];have:=hX.out;rw [List.take_of_length_le (by rw [HN.out];exact Nat.le_refl _)] at this;exact this
   subst m;clear T;go_wp2_with fail;go_ret2;exact⟨_,rfl,B.out.less ac,a.out.trans (y.out.mono a.out.size)⟩
theorem five {W:World} {g:Nat} {t:TypeId} {a b c d f:Value} (h:RowB W g t [a,b,c,d,f]) (u v x y z:Value):RowB (((((W.setCell ⟨g,0,none⟩ u).setCell ⟨g,1,none⟩ v).setCell ⟨g,2,none⟩ x).setCell ⟨g,3,none⟩ y).setCell ⟨g,4,none⟩ z) g t [u,v,x,y,z] :=
 ((((h.set 0 u).set 1 v).set 2 x).set 3 y).set 4 z
theorem below_five {B:Nat} {w W:World} (h:Below B w W) {g:Nat} (hg:B<=g) (u v x y z:Value):Below B w (((((W.setCell ⟨g,0,none⟩ u).setCell ⟨g,1,none⟩ v).setCell ⟨g,2,none⟩ x).setCell ⟨g,3,none⟩ y).setCell ⟨g,4,none⟩ z) :=
 ((((h.setCell (p:=⟨g,0,none⟩) hg _).setCell (p:=⟨g,1,none⟩) hg _).setCell (p:=⟨g,2,none⟩) hg _).setCell (p:=⟨g,3,none⟩) hg _).setCell (p:=⟨g,4,none⟩) hg _
theorem own_five {lo hi:Nat} {W:World} {sv:Value} {ss:List Stp} (h:OwnS W lo hi 111 4 enSt sv ss) {g:Nat} (hg:g<lo) (u v x y z:Value):OwnS (((((W.setCell ⟨g,0,none⟩ u).setCell ⟨g,1,none⟩ v).setCell ⟨g,2,none⟩ x).setCell ⟨g,3,none⟩ y).setCell ⟨g,4,none⟩ z) lo hi 111 4 enSt sv ss :=
 ((((h.setCell (p:=⟨g,0,none⟩) hg _).setCell (p:=⟨g,1,none⟩) hg _).setCell (p:=⟨g,2,none⟩) hg _).setCell (p:=⟨g,3,none⟩) hg _).setCell (p:=⟨g,4,none⟩) hg _
structure OpF (w:World) (g:Nat) (a b:Int) (rest:List Value) (p7:Prop) (w':World):Prop where
 bel:Below w.heap.size w w'
 row:∃ c0 c1 c2 c3 c4,RowB w' (w.heap.size+1) 28 [c0,c1,c2,c3,c4]
 own:RowB w' g 2 ([iL a,iL b]++rest)
 f7:p7->RowB w' (w.heap.size+1) 28 [iL 1,iL a,iL b,.slice none 0 0,iL 0]
theorem OpF.skip {w w':World} {g:Nat} {a b:Int} {rest:List Value} {L:Nat->Prop} (F:OpF w g a b rest (L 7) w') (k:Nat) (h:7≠k:=by decide):OpF w g a b rest (7=k∨L 7) w':=by rw [or_ne h];exact F
theorem row_cell2 {w':World} {g:Nat} {a b:Int} {rest:List Value} (h:RowB w' g 2 ([iL a,iL b]++rest)):w'.cell? ⟨g,0,none⟩=some (iL a)∧w'.cell? ⟨g,1,none⟩=some (iL b):=⟨h.cell 0,h.cell 1⟩
theorem OpF.s7 {w w':World} {g:Nat} {a b:Int} {rest:List Value} {p7:Prop} (F:OpF w g a b rest p7 w') (hg:w.heap.size+2<=g) :
  OpF w g a b rest True (((((w'.setCell ⟨w.heap.size+1,0,none⟩ (iL 1)).setCell ⟨w.heap.size+1,1,none⟩ (iL a)).setCell ⟨w.heap.size+1,2,none⟩ (iL b)).setCell ⟨w.heap.size+1,3,none⟩ (.slice none 0 0)).setCell ⟨w.heap.size+1,4,none⟩ (iL 0)):=by
 obtain⟨k,j,i,h,f,e⟩:=F.row;have d:=five e (iL 1) (iL a) (iL b) (.slice none 0 0) (iL 0);have c:g≠w.heap.size+1:=by omega
 exact⟨below_five F.bel (by omega) _ _ _ _ _,⟨_,_,_,_,_,d⟩,((((F.own.other (p:=⟨w.heap.size+1,0,none⟩) c _).other (p:=⟨w.heap.size+1,1,none⟩) c _).other (p:=⟨w.heap.size+1,2,none⟩) c _).other (p:=⟨w.heap.size+1,3,none⟩) c _).other (p:=⟨w.heap.size+1,4,none⟩) c _,λ _=>d⟩
def PartsR (v:Vr) (t:By) (w:World) (e:Ending) (w':World):Prop :=
 ∃(k a b:Int) (sv:Value) (ss:List Stp) (r:Int) (ok:Bool),e=.returned (.tuple #[.agg #[iL k,iL a,iL b,sv,iL r],.bool ok])∧OwnS w' w.heap.size w'.heap.size 111 4 enSt sv ss∧Below w.heap.size w w' ∧
  (if ok=true then gEI v t=⟨k,a,b,ss,r⟩∧t≠[] else gEI v t=nulE)
theorem gEI_eq {v:Vr} {t l r:By} {one:Bool} (h:Lib.cut t [32]=(l,r,one)):gEI v t=if l=opW then (match mapO decF (spl 32 r) with
  | some [a,b]=>⟨1,a,b,[],0⟩
  | _=>nulE) else if l=tuW then (match rdTI v r with
  | some (x,y,ss)=>⟨2,x,y,ss,0⟩
  | none=>nulE) else if l=reW then (if (rdDec r).2=true then ⟨3,0,0,[],(rdDec r).1⟩ else nulE) else nulE:=by
 unfold gEI;simp only [h]
 rfl
theorem cut_nil_w {l r:By} {one:Bool} (h:Lib.cut [] [32]=(l,r,one)):l=[]:=by
 have:Lib.cut ([]:By) [32]=([],[],false):=rfl;rw [this] at h;simp only [Prod.mk.injEq] at h;exact h.1.symm
theorem parts_i (v:Vr) (hv:okV v=true) (t:By) (hl:t.length<=4194304) (w:World) (E:Env w) :
  Calls prog 31 #[vA v,.string (bs t)] w λ e w'=>PartsR v t w e w':=by
 obtain⟨⟨l,r,av⟩,h1⟩:=eX (Lib.cut t [32]);have hc:=cut_len t [32];rw [h1] at hc;simp only at hc;have hG:=gEI_eq (v:=v) h1;have ai:l≠[]->t≠[]:=λ h e=>by subst e;exact h (cut_nil_w h1)
 have CC:=kD (λ(C:World) (E9:Env C)=>cut_w t [32] hl C E9);rw [h1] at CC;simp only at CC;have CS:=kD (λ(C:World) (E9:Env C)=>split_i r 32 (by omega) C E9);have CT:=kD (λ(C:World) (E9:Env C)=>rturn_i v hv r (by omega) C E9);have CD:=kD (λ(C:World) (E9:Env C)=>rdd_w r (by omega) C E9);have HG:=kD hG;have T:=kD ai;clear hG h1 hc hl hv ai;go_enter func31,ntmps31;go_upto_region 1 with fail;refine wp_gen (λ Q=>Bve w Q v [iL 0,iL 0,iL 0,.slice none 0 0,iL 0]) ⟨by go_grown,(nW).alloc _,nX⟩ ?_;intro w1 K;go_wp2_with fail;refine(CC.out _ (E.below K.bel)).mono ?_;rintro e w2 ⟨rfl,Z⟩;have K:=K.below Z;clear Z CC;have I:=K.re.lt;have am:w.heap.size+2<=w2.heap.size:=I;have S:=K.re.frozen;obtain⟨y0,y1,y2,y3,y4⟩:=K.re.c5;by_cases ho:l=opW
 ·have f:Hid (gEI v t=match mapO decF (spl 32 r) with
  | some [a,b]=>⟨1,a,b,[],0⟩
  | _=>nulE):=by show _=_;rw [HG.out,if_pos ho]
  have G:t≠[]:=T.out (by rw [ho];decide);have aa:=kD G;have e0:((bs l).toList == [111,112,101,110,105,110,103])=true:=by rw [ByteArray.toList_eq,bs_data,ho];rfl
  obtain⟨O,hO⟩:=eX (mapO decF (spl 32 r));rw [hO] at CS f;clear HG T G ho hO;go_wp2_with fail;refine(CS.out _ (E.below K.bel)).mono ?_;rintro e P ⟨sv,rfl,j,Z⟩;have K:=K.below Z;clear y0 y1 y2 y3 y4 I S Z CS;have I:=K.re.lt;have S:=K.re.frozen;obtain⟨y0,y1,y2,y3,y4⟩:=K.re.c5
  cases O with
  | none =>
   have d:gEI v t=nulE:=f.out;have m:=kD d;clear d f;go_wp2_with fail;refine bp_row2 [iL 0,iL 0,iL 0,.slice none 0 0,iL 0] (.bool false) (below_five K.bel (by omega) _ _ _ _ _) (five K.re _ _ _ _ _) (λ w8 R=>by simp [results,results31,go_sem,R]) rfl λ w8 k=>?_;exact⟨0,0,0,_,[],0,false,rfl,OwnS.nil_ _ _ _ _ _ _,k,m.out⟩
  | some X =>
   by_cases hx2:X.length=2
   case neg =>
    have j:OwnS P w2.heap.size P.heap.size 2 1 enI sv X:=j;obtain⟨A,cp,D,ag⟩:=j.form enI_len;have e1:((X.length:Int) == 2)=false:=by simp;omega
    have an:=ag.len;obtain⟨nx,ah⟩:=eX (X.length);rw [ah] at D e1 an;subst D;have d:gEI v t=nulE:=by
     rw [f.out]
     match X,hx2 with
     | [],_=>rfl
     | [a],_=>rfl
     | [a,b],h=>exact absurd rfl h
     | a :: b :: c :: l,_=>rfl
    have m:=kD d;clear d f j ag ah hx2;go_wp2_with fail;refine bp_row2 [iL 0,iL 0,iL 0,.slice none 0 0,iL 0] (.bool false) (below_five K.bel (by omega) _ _ _ _ _) (five K.re _ _ _ _ _) (λ w8 R=>by simp [results,results31,go_sem,R]) rfl λ w8 k=>?_;exact⟨0,0,0,_,[],0,false,rfl,OwnS.nil_ _ _ _ _ _ _,k,m.out⟩
   obtain⟨a,b,rfl⟩:=list2 hx2;have j:OwnS P w2.heap.size P.heap.size 2 1 enI sv [a,b]:=j;have B:gEI v t=⟨1,a,b,[],0⟩:=f.out;have HY:=kD B;rcases j.cases_ with ⟨_,h⟩ | ⟨g,cap,rest,D,hg1,hg2,V,hc1,hc2,hc3⟩
   ·cases h
   have af:sv=.slice (sA g 0) 2 cap:=D;subst af;have ap:w.heap.size+2<=g:=by omega
   have V:RowB P g 2 ([iL a,iL b]++rest):=V;have Y:2<=cap:=hc1;have ay:cap<=9223372036854775807:=by have:=hc2;unfold maxLen at this;omega
   have HK:=kD K;have aq:=kD V;clear j D hg1 hg2 V hc1 hc2 hc3 B f hx2 K y0 y1 y2 y3 y4 I S e0 am;go_wp2_with fail;refine rG [some 36,some 37,some 38,some 39,some 40,some 41,some 42,none,some 5] 9 (Pl [some (.slice (sA g 0) 2 cap),some (pT g 0),some (iL a),some (.slice (sA g 0) 2 cap),some (pT g 1),some (iL b),some (.agg #[iL 1,iL a,iL b,.slice none 0 0,iL 0]),none,some (.bool true)]) (λ L i w'=>OpF w g a b rest (L 7) w') ?g0_1 ?gst_1 ?gfin_1
   case g0_1=>exact⟨HK.out.bel.drew,⟨_,_,_,_,_,HK.out.re.drew⟩,aq.out.drew,λ h=>absurd h (by decide)⟩
   case gst_1 =>
    refine rN rfl (λ L i A C H J M U F K N=>?_) ?_
    ·have e9:=U.w 9 (.slice (sA g 0) 2 cap);have cc:=row_cell2 F.own;go_simp;exact pF N (F.skip 0 (by decide))
    refine rN rfl (λ L i A C H J M U F K N=>?_) ?_
    ·have aF:=U.v 0 36;have cc:=row_cell2 F.own;go_simp;exact pF N (F.skip 1 (by decide))
    refine rN rfl (λ L i A C H J M U F K N=>?_) ?_
    ·have aE:=U.v 1 37;obtain⟨c0,c1⟩:=row_cell2 F.own;have ao:=F.own.lt;go_simp;exact pF N (F.skip 2 (by decide))
    refine rN rfl (λ L i A C H J M U F K N=>?_) ?_
    ·have e9:=U.w 9 (.slice (sA g 0) 2 cap);have cc:=row_cell2 F.own;go_simp;exact pF N (F.skip 3 (by decide))
    refine rN rfl (λ L i A C H J M U F K N=>?_) ?_
    ·have aC:=U.v 3 39;have cc:=row_cell2 F.own;go_simp;exact pF N (F.skip 4 (by decide))
    refine rN rfl (λ L i A C H J M U F K N=>?_) ?_
    ·have aB:=U.v 4 40;obtain⟨c0,c1⟩:=row_cell2 F.own;have ao:=F.own.lt;go_simp;exact pF N (F.skip 5 (by decide))
    refine rN rfl (λ L i A C H J M U F K N=>?_) ?_
    ·have aD:=U.v 2 38;have aA:=U.v 5 41;have cc:=row_cell2 F.own;go_simp;exact pF N (F.skip 6 (by decide))
    refine rN rfl (λ L i A C H J M U F K N=>?_) ?_
    ·have e4:=U.w 4 (pT (w.heap.size+1) 0);have az:=U.v 6 42;refine F.row.elim λ c0 q=>?_
     refine q.elim λ c1 q=>?_
     refine q.elim λ c2 q=>?_
     refine q.elim λ c3 q=>?_
     refine q.elim λ c4 q=>?_
     have fr:=q.frozen;have hl:=q.lt;obtain⟨z0,z1,z2,z3,z4⟩:=q.c5;go_simp;exact N.out undef _ (Pl.any rfl) (by simpa [upd] using F.s7 ap)
    refine rN rfl (λ L i A C H J M U F K N=>?_) ?_
    ·have cc:=row_cell2 F.own;go_simp;exact pF N (F.skip 8 (by decide))
    exact RelFrom.nil (by decide)
   case gfin_1 =>
    intro i C hp F;simp only [Fr,Act.put,sX,Nat.reduceAdd];have h5:i 8=.bool true:=hp 8 (by decide) _ rfl;rw [h5];have R:=F.f7 trivial;have k:=F.bel;clear F hp h5;go_wp2_with fail;obtain⟨z0,z1,z2,z3,z4⟩:=R.c5;refine bodyPost_ret (v:=.tuple #[.agg #[iL 1,iL a,iL b,.slice none 0 0,iL 0],.bool true]) (by simp [results,results31,go_sem,z0,z1,z2,z3,z4]) rfl ?_;exact⟨1,a,b,_,[],0,true,rfl,OwnS.nil_ _ _ _ _ _ _,k,HY.out,aa.out⟩
 by_cases htu:l=tuW
 ·have f:Hid (gEI v t=match rdTI v r with
  | some (x,y,ss)=>⟨2,x,y,ss,0⟩
  | none=>nulE):=by show _=_;rw [HG.out,if_neg ho,if_pos htu]
  have G:t≠[]:=T.out (by rw [htu];decide);have aa:=kD G;have e0:((bs l).toList == [111,112,101,110,105,110,103])=false:=by rw [ByteArray.toList_eq,bs_data,htu];rfl
  have e1:((bs l).toList == [116,117,114,110])=true:=by rw [ByteArray.toList_eq,bs_data,htu];rfl
  obtain⟨O,hO⟩:=eX (rdTI v r);rw [hO] at CT f;have al:=K.rv.lt;obtain⟨q0,q1,q2,q3⟩:=K.rv.c4;clear HG T G ho htu hO;go_wp2_with fail;refine(CT.out _ (E.below K.bel)).mono ?_;rintro e P ⟨x,y,sv,c,ss,rfl,j,Z,ad⟩;have ar:=Z.size;have K:=K.below Z;clear y0 y1 y2 y3 y4 I S Z CT q0 q1 q2 q3 al;have W:=kD ad;obtain⟨A,cp,D,_⟩:=j.form enSt_len;obtain⟨n,hn⟩:=eX (ss.length);rw [hn] at D;subst D;clear ad hn;go_upto_region 9 with fail;refine wp_gen (λ Q=>Below P.heap.size P Q∧Bve w Q v [iL 0,iL 0,iL 0,.slice none 0 0,iL 0]∧RowB Q P.heap.size 53 [iL x,iL y]∧OwnS Q w2.heap.size P.heap.size 111 4 enSt (.slice A n cp) ss) ⟨(zRf).alloc lR _,K.below ((zRf).alloc lR _),nW,j.alloc _⟩ ?_;clear K j;rintro w5 ⟨aj,K,rx,j⟩;have ac:=aj.size;have ak:=kD j;obtain⟨gx,ab⟩:=eX (P.heap.size);have ax:w.heap.size+2<=gx:=by omega
  rw [ab] at rx
  (try rw [ab])
  clear j aj;have I:=K.re.lt;have S:=K.re.frozen;obtain⟨y0,y1,y2,y3,y4⟩:=K.re.c5;have aw:=rx.lt;obtain⟨x0,x1⟩:=rx.c2
  cases O with
  | none =>
   have Y:c≠0:=W.out;have d0:(c == 0)=false:=by simp [Y]
   have d:gEI v t=nulE:=f.out;have m:=kD d;clear Y d f W ab;go_wp2_with fail;refine bp_gen (λ Q=>Below w.heap.size w Q∧RowB Q (w.heap.size+1) 28 [iL 2,iL x,iL y,.slice A n cp,iL 0]∧P.heap.size<=Q.heap.size∧OwnS Q w2.heap.size P.heap.size 111 4 enSt (.slice A n cp) ss) ⟨below_five K.bel (by omega) _ _ _ _ _,five K.re _ _ _ _ _,by simpa using ac,own_five ak.out (by omega) _ _ _ _ _⟩ ?_;rintro w8 ⟨k,R,ae,o8⟩;obtain⟨z0,z1,z2,z3,z4⟩:=R.c5;refine bodyPost_ret (v:=.tuple #[.agg #[iL 2,iL x,iL y,.slice A n cp,iL 0],.bool false]) (by simp [results,results31,go_sem,z0,z1,z2,z3,z4]) rfl ?_;exact⟨2,x,y,_,ss,0,false,rfl,(o8.less (by omega)).more ae,k,m.out⟩
  | some z =>
   obtain⟨hz,Y⟩:z=(x,y,ss)∧c=0:=W.out;have d0:(c == 0)=true:=by simp [Y]
   have B:gEI v t=⟨2,x,y,ss,0⟩:=by rw [f.out,hz]
   have HY:=kD B;clear Y B f W ab hz;go_wp2_with fail;refine bp_gen (λ Q=>Below w.heap.size w Q∧RowB Q (w.heap.size+1) 28 [iL 2,iL x,iL y,.slice A n cp,iL 0]∧P.heap.size<=Q.heap.size∧OwnS Q w2.heap.size P.heap.size 111 4 enSt (.slice A n cp) ss) ⟨below_five K.bel (by omega) _ _ _ _ _,five K.re _ _ _ _ _,by simpa using ac,own_five ak.out (by omega) _ _ _ _ _⟩ ?_;rintro w8 ⟨k,R,ae,o8⟩;obtain⟨z0,z1,z2,z3,z4⟩:=R.c5;refine bodyPost_ret (v:=.tuple #[.agg #[iL 2,iL x,iL y,.slice A n cp,iL 0],.bool true]) (by simp [results,results31,go_sem,z0,z1,z2,z3,z4]) rfl ?_;exact⟨2,x,y,_,ss,0,true,rfl,(o8.less (by omega)).more ae,k,HY.out,aa.out⟩
 by_cases hre:l=reW
 ·have f:Hid (gEI v t=if (rdDec r).2=true then ⟨3,0,0,[],(rdDec r).1⟩ else nulE):=by show _=_;rw [HG.out,if_neg ho,if_neg htu,if_pos hre]
  have G:t≠[]:=T.out (by rw [hre];decide);have aa:=kD G;have e0:((bs l).toList == [111,112,101,110,105,110,103])=false:=by rw [ByteArray.toList_eq,bs_data,hre];rfl
  have e1:((bs l).toList == [116,117,114,110])=false:=by rw [ByteArray.toList_eq,bs_data,hre];rfl
  have e2:((bs l).toList == [114,101,115,105,103,110])=true:=by rw [ByteArray.toList_eq,bs_data,hre];rfl
  obtain⟨⟨x,o⟩,hO⟩:=eX (rdDec r);rw [hO] at CD f;simp only at CD f;clear HG T G ho htu hre hO CS CT;go_wp2_with fail;refine(CD.out _ (E.below K.bel)).mono ?_;rintro e P ⟨rfl,Z⟩;have K:=K.below Z;clear y0 y1 y2 y3 y4 I S Z CD;have I:=K.re.lt;have S:=K.re.frozen;obtain⟨y0,y1,y2,y3,y4⟩:=K.re.c5
  cases o
  case false =>
   have d:gEI v t=nulE:=f.out;have m:=kD d;clear d f;go_wp2_with fail;refine bp_row2 [iL 3,iL 0,iL 0,.slice none 0 0,iL x] (.bool false) (below_five K.bel (by omega) _ _ _ _ _) (five K.re _ _ _ _ _) (λ w8 R=>by simp [results,results31,go_sem,R]) rfl λ w8 k=>?_;exact⟨3,0,0,_,[],x,false,rfl,OwnS.nil_ _ _ _ _ _ _,k,m.out⟩
  have B:gEI v t=⟨3,0,0,[],x⟩:=f.out;have HY:=kD B;clear B f;go_wp2_with fail;refine bp_row2 [iL 3,iL 0,iL 0,.slice none 0 0,iL x] (.bool true) (below_five K.bel (by omega) _ _ _ _ _) (five K.re _ _ _ _ _) (λ w8 R=>by simp [results,results31,go_sem,R]) rfl λ w8 k=>?_;exact⟨3,0,0,_,[],x,true,rfl,OwnS.nil_ _ _ _ _ _ _,k,HY.out,aa.out⟩
 have d:gEI v t=nulE:=by rw [HG.out,if_neg ho,if_neg htu,if_neg hre]
 have m:=kD d;have e0:((bs l).toList == [111,112,101,110,105,110,103])=false:=by rw [ByteArray.toList_eq,bs_data];exact beq_eq_false_iff_ne.2 ho
 have e1:((bs l).toList == [116,117,114,110])=false:=by rw [ByteArray.toList_eq,bs_data];exact beq_eq_false_iff_ne.2 htu
 have e2:((bs l).toList == [114,101,115,105,103,110])=false:=by rw [ByteArray.toList_eq,bs_data];exact beq_eq_false_iff_ne.2 hre
 clear HG T ho htu hre CS CT CD d;go_wp2_with fail;refine bp_row2 [iL 0,iL 0,iL 0,.slice none 0 0,iL 0] (.bool false) (below_five K.bel (by omega) _ _ _ _ _) (five K.re _ _ _ _ _) (λ w8 R=>by simp [results,results31,go_sem,R]) rfl λ w8 k=>?_;exact⟨0,0,0,_,[],0,false,rfl,OwnS.nil_ _ _ _ _ _ _,k,m.out⟩
def rdEv (v:Vr) (t:By):Option Ev:=if okV v=true then rdE v t else none
def EvR (o:Option Ev) (w:World) (e:Ending) (w':World):Prop :=
 ∃(k a b:Int) (sv:Value) (ss:List Stp) (r:Int) (ok:Bool),e=.returned (.tuple #[.agg #[iL k,iL a,iL b,sv,iL r],.bool ok])∧OwnS w' w.heap.size w'.heap.size 111 4 enSt sv ss∧Below w.heap.size w w' ∧
  (if ok=true then o=some ⟨k,a,b,ss,r⟩ else o=none∧k=0∧a=0∧b=0∧ss=[]∧r=0)
theorem revent_i (v:Vr) (t:By) (hl:t.length<=4194304) (w:World) (E:Env w) :
  Calls prog 9 #[vA v,.string (bs t)] w λ e w'=>EvR (rdEv v t) w e w':=by
 obtain⟨aa,Q⟩:=eX (okV v);have CV:=kD (λ M=>var_i v aa Q M);obtain⟨R,hR⟩:=eX (rdEv v t);rw [hR];have HR:=kD hR;have HO:=kD Q;have CP:=kD (λ(hv:okV v=true) (M:World) (E9:Env M)=>parts_i v hv t hl M E9);clear hR Q;go_enter func9,ntmps9;go_upto_region 1 with fail;refine wp_gen (λ q=>Bve w q v [iL 0,iL 0,iL 0,.slice none 0 0,iL 0]) ⟨by go_grown,(nW).alloc _,nX⟩ ?_;intro w1 K;obtain⟨Z,Y,X,W⟩:=K.rv.c4;have m:=K.rv.lt;go_wp2_with fail;refine(CV.out _).mono ?_;rintro e w2 ⟨rfl,l⟩;have K:=K.below l;clear Z Y X W m l CV;have C:=K.re.lt;have S:=K.re.frozen;obtain⟨y0,y1,y2,y3,y4⟩:=K.re.c5
 cases aa
 case false =>
  have f:R=none:=by rw [<-HR.out];unfold rdEv;rw [HO.out];rfl
  subst f;clear HR;go_wp2_with fail;refine bp_row2 [iL 0,iL 0,iL 0,.slice none 0 0,iL 0] (.bool false) (below_five K.bel (by omega) _ _ _ _ _) (five K.re _ _ _ _ _) (λ T O=>by simp [results,results9,go_sem,O]) rfl λ T d=>?_;exact⟨0,0,0,_,[],0,false,rfl,OwnS.nil_ _ _ _ _ _ _,d,rfl,rfl,rfl,rfl,rfl,rfl⟩
 have G:Hid (R=if evnT v (gEI v t)=t∧t≠[] then some (gEI v t) else none):=by show _=_;rw [<-HR.out];unfold rdEv;rw [HO.out];rfl
 have HV:=HO.out;clear HR;obtain⟨Z,Y,X,W⟩:=K.rv.c4;have m:=K.rv.lt;go_wp2_with fail;refine(CP.out HV _ (E.below K.bel)).mono ?_;rintro e y ⟨k,a,b,sv,z,r,ok,rfl,j,l,J⟩;have aj:=l.size;have ak:w.heap.size+2<=w2.heap.size:=C;have K:=K.below l;clear Z Y X W m l CP y0 y1 y2 y3 y4 C S;obtain⟨A,V,ab,_⟩:=j.form enSt_len;have i:=kD J;obtain⟨n,hn⟩:=eX (z.length);rw [hn] at ab;subst ab;have HN:=kD hn;clear J hn;go_upto_region 4 with fail;refine wp_gen (λ q=>Below y.heap.size y q∧Bve w q v [iL 0,iL 0,iL 0,.slice none 0 0,iL 0]∧RowB q y.heap.size 28 [iL k,iL a,iL b,.slice A n V,iL r]∧OwnS q w2.heap.size y.heap.size 111 4 enSt (.slice A n V) z) ⟨(zRf).alloc lR _,K.below ((zRf).alloc lR _),nW,j.alloc _⟩ ?_;clear K j;rintro w5 ⟨af,K,I,j⟩;have ai:=af.size;have H:=kD j;obtain⟨gx,D⟩:=eX (y.heap.size);rw [D] at I
 (try rw [D])
 have al:w.heap.size+2<=gx:=by omega
 clear j af
 cases ok
 case false =>
  have L:gEI v t=nulE:=i.out;have f:R=none:=by rw [G.out,L,evnT_nul v,if_neg (λ h=>h.2 h.1.symm)]
  subst f;have C:=K.re.lt;have S:=K.re.frozen;obtain⟨y0,y1,y2,y3,y4⟩:=K.re.c5;clear G i L D;go_wp2_with fail;refine bp_row2 [iL 0,iL 0,iL 0,.slice none 0 0,iL 0] (.bool false) (below_five K.bel (by omega) _ _ _ _ _) (five K.re _ _ _ _ _) (λ T O=>by simp [results,results9,go_sem,O]) rfl λ T d=>?_;exact⟨0,0,0,_,[],0,false,rfl,OwnS.nil_ _ _ _ _ _ _,d,rfl,rfl,rfl,rfl,rfl,rfl⟩
 obtain⟨ae,ad⟩:gEI v t=⟨k,a,b,z,r⟩∧t≠[]:=i.out;have CE:=kD (λ(M:World) (h9:zB w5 M)=>event_i v k a b z r A V y.heap.size M (by have:=h9.size;omega) ((H.out.rd enSt_len).below h9 (by omega)) (E.below (K.bel.tR h9)));rw [if_pos HV,HN.out] at CE;obtain⟨N,P⟩:=eX (evnT v ⟨k,a,b,z,r⟩);rw [P] at CE;have ag:R=if N=t then some ⟨k,a,b,z,r⟩ else none:=by
  rw [G.out,ae,P];by_cases h:N=t
  ·rw [if_pos ⟨h,ad⟩,if_pos h]
  ·rw [if_neg (λ h'=>h h'.1),if_neg h]
 have F:=kD ag;obtain⟨Z,Y,X,W⟩:=K.rv.c4;have m:=K.rv.lt;obtain⟨x0,x1,x2,x3,x4⟩:=I.c5;have B:=I.lt;clear ag P ae G i D ad;go_wp2_with fail;refine(CE.out _ (zRf)).mono ?_;rintro e w6 ⟨rfl,l⟩;have K:=K.below l;have I:=I.below l B;have ac:y.heap.size<=w6.heap.size:=by have:=l.size;omega
 have H:=kD (H.out.below l (by omega));clear Z Y X W m l CE x0 x1 x2 x3 x4 B;have C:=K.re.lt;have S:=K.re.frozen;obtain⟨y0,y1,y2,y3,y4⟩:=K.re.c5;obtain⟨x0,x1,x2,x3,x4⟩:=I.c5;have B:=I.lt;by_cases heq:N=t
 ·have f:R=some ⟨k,a,b,z,r⟩:=by rw [F.out,if_pos heq]
  subst f;have e1:((bs N).toList == (bs t).toList)=true:=by rw [bs_eq];exact decide_eq_true heq
  have e2:((bs N).toList != (bs t).toList)=false:=by simp only [bne,e1];rfl
  clear heq F;go_wp2_with fail;refine bp_gen (λ q=>Below w.heap.size w q∧RowB q (w.heap.size+1) 28 [iL k,iL a,iL b,.slice A n V,iL r]∧y.heap.size<=q.heap.size∧OwnS q w2.heap.size y.heap.size 111 4 enSt (.slice A n V) z) ⟨below_five K.bel (by omega) _ _ _ _ _,five K.re _ _ _ _ _,by simpa using ac,own_five H.out (by omega) _ _ _ _ _⟩ ?_;rintro T ⟨d,O,ah,o8⟩;obtain⟨z0,z1,z2,z3,z4⟩:=O.c5;refine bodyPost_ret (v:=.tuple #[.agg #[iL k,iL a,iL b,.slice A n V,iL r],.bool true]) (by simp [results,results9,go_sem,z0,z1,z2,z3,z4]) rfl ?_;exact⟨k,a,b,_,z,r,true,rfl,(o8.less (by omega)).more ah,d,rfl⟩
 ·have f:R=none:=by rw [F.out,if_neg heq]
  subst f;have e1:((bs N).toList == (bs t).toList)=false:=by rw [bs_eq];exact decide_eq_false heq
  have e2:((bs N).toList != (bs t).toList)=true:=by simp only [bne,e1];rfl
  clear heq F x0 x1 x2 x3 x4 B I;go_wp2_with fail;refine bp_row2 [iL 0,iL 0,iL 0,.slice none 0 0,iL 0] (.bool false) (below_five K.bel (by omega) _ _ _ _ _) (five K.re _ _ _ _ _) (λ T O=>by simp [results,results9,go_sem,O]) rfl λ T d=>?_;exact⟨0,0,0,_,[],0,false,rfl,OwnS.nil_ _ _ _ _ _ _,d,rfl,rfl,rfl,rfl,rfl,rfl⟩
end TxI
namespace TsI
open Go.ChangeShapes Go.WideShapes Go.ChangeAt Go.RowKit Base Ints Own JoinN PlP TxP Num Bd1 Bd5 RegF RegG TxI
theorem levent_s (v:Vr) (hv:okV v=true) (k a b:Int) (ss:List Stp) (r:Int) (As:Option Addr) (cp B:Nat) (w:World) (hB:B<=w.heap.size) (hr:RdS w B 4 enSt As ss) :
  Calls prog 30 #[vA v,.agg #[iL k,iL a,iL b,.slice As ss.length cp,iL r]] w λ e w'=>e=.returned (.string (bs (evnT v ⟨k,a,b,ss,r⟩)))∧Below w.heap.size w w':=by
 obtain⟨R,hR⟩:=eX (evnT v ⟨k,a,b,ss,r⟩);rw [hR];have am:=kD hr;obtain⟨n,hn⟩:=eX (ss.length);have ai:blankP ⟨k,a,b,ss,r⟩=if k=1 then decide (n=0∧r=0) else if k=2 then decide (r=0) else if k=3 then decide (a=0∧b=0∧n=0) else false:=by unfold blankP;rw [hn]
 obtain⟨bl,aa⟩:∃ c,(if k=1 then decide (n=0∧r=0) else if k=2 then decide (r=0) else if k=3 then decide (a=0∧b=0∧n=0) else false)=c:=⟨_,rfl⟩;have ah:R=if bl=false then [] else
   if k=1 then (if (1<=a∧a<=v.s)∧1<=b∧b<=v.s then opW++[32]++Lib.itoa a++[32]++Lib.itoa b else [])
   else if k=3 then (if 1<=r∧r<=3 then reW++[32]++Lib.itoa r else []) else if trnT v a b ss=[] then [] else tuW++[32]++trnT v a b ss:=by rw [<-hR,<-aa,<-ai];rfl
 have CB:=kD (λ f=>blank_s k a b n As cp r bl aa f);rw [hn];have HN:=kD hn;have HE:=kD ah;have HV:=kD hv;clear hR ai aa ah hr hn hv;go_enter func30,ntmps30;go_upto_region 1 with fail;refine wp_gen (λ W'=>Bve w W' v [iL k,iL a,iL b,.slice As n cp,iL r]) ⟨by go_grown,(nW).alloc _,nX⟩ ?_;intro w1 K;obtain⟨y0,y1,y2,y3,y4⟩:=K.re.c5;have P:=K.re.lt;go_wp2_with fail;refine(CB.out _).mono ?_;rintro e w2 ⟨rfl,N⟩;have K:=K.below N;clear y0 y1 y2 y3 y4 P N CB
 cases bl
 case false =>
  obtain rfl:R=[]:=by rw [HE.out];rfl
  go_wp2_with fail;go_ret;exact⟨rfl,K.bel⟩
 have I:Hid (R=if k=1 then (if (1<=a∧a<=v.s)∧1<=b∧b<=v.s then opW++[32]++Lib.itoa a++[32]++Lib.itoa b else [])
   else if k=3 then (if 1<=r∧r<=3 then reW++[32]++Lib.itoa r else []) else if trnT v a b ss=[] then [] else tuW++[32]++trnT v a b ss):=HE.out
 clear HE;obtain⟨c1,h1⟩:∃ c,decide (1<=a∧a<=v.s)=c:=⟨_,rfl⟩;obtain⟨c2,h2⟩:∃ c,decide (1<=b∧b<=v.s)=c:=⟨_,rfl⟩;obtain⟨c3,h3⟩:∃ c,decide (1<=r∧r<=3)=c:=⟨_,rfl⟩;have C1:=kD (λ w=>in_s a 1 v.s c1 h1 w);have C2:=kD (λ w=>in_s b 1 v.s c2 h2 w);have C3:=kD (λ w=>in_s r 1 3 c3 h3 w);have al:=kD h1;have ak:=kD h2;have aj:=kD h3;clear h1 h2 h3;obtain⟨q0,q1,q2,q3⟩:=K.rv.c4;obtain⟨y0,y1,y2,y3,y4⟩:=K.re.c5;have ag:=K.rv.lt;have P:=K.re.lt;by_cases k1:k=1
 ·subst k1;have g:Hid (R=if (1<=a∧a<=v.s)∧1<=b∧b<=v.s then opW++[32]++Lib.itoa a++[32]++Lib.itoa b else []):=I.out;clear I;go_wp2_with fail;refine(C1.out _).mono ?_;rintro e w3 ⟨rfl,rfl⟩
  cases c1
  case false =>
   obtain rfl:R=[]:=by rw [g.out,if_neg (λ h=>of_decide_eq_false al.out h.1)]
   clear g;go_wp2_with fail;go_ret;exact⟨rfl,K.bel⟩
  go_wp2_with fail;refine(C2.out _).mono ?_;rintro e w3 ⟨rfl,rfl⟩
  cases c2
  case false =>
   obtain rfl:R=[]:=by rw [g.out,if_neg (λ h=>of_decide_eq_false ak.out h.2)]
   clear g;go_wp2_with fail;go_ret;exact⟨rfl,K.bel⟩
  have ha:=of_decide_eq_true al.out;have N:=of_decide_eq_true ak.out;have hp:=okV_iff.1 HV.out;have CA:=kD (λ(f:World)=>num_s a (by omega) (by omega) f);have CB:=kD (λ(f:World)=>num_s b (by omega) (by omega) f);have z1:=ito_len (n:=a) (by omega) (by omega);have z2:=ito_len (n:=b) (by omega) (by omega);obtain⟨J,i⟩:∃ z:ByteArray,bs (Lib.itoa a)=z:=⟨_,rfl⟩;obtain⟨xb,O⟩:∃ z:ByteArray,bs (Lib.itoa b)=z:=⟨_,rfl⟩;rw [i] at CA;rw [O] at CB;have s1:J.size<=2:=by rw [<-i];exact Nat.le_trans (Nat.le_of_eq (bs_size _)) z1.2
  have s2:xb.size<=2:=by rw [<-O];exact Nat.le_trans (Nat.le_of_eq (bs_size _)) z2.2
  have W:Hid ((((⟨#[111,112,101,110,105,110,103,32]⟩:ByteArray)++J)++(⟨#[32]⟩:ByteArray))++xb=bs R):=by
   show _=_
   rw [g.out,if_pos ⟨ha,N⟩,<-i,<-O];have g1:(⟨#[111,112,101,110,105,110,103,32]⟩:ByteArray)=bs (opW++[32]):=rfl;have g2:(⟨#[32]⟩:ByteArray)=bs [32]:=rfl;simp only [g1,g2,bs_cat]
  obtain⟨T1,T⟩:=eX ((⟨#[111,112,101,110,105,110,103,32]⟩:ByteArray)++J);have u1:T1.size<=10:=by rw [<-T,ByteArray.size_append];show 8+J.size<=10;omega
  obtain⟨T2,Q⟩:=eX (T1++(⟨#[32]⟩:ByteArray));have u2:T2.size<=11:=by rw [<-Q,ByteArray.size_append];show T1.size+1<=11;omega
  obtain⟨T3,ac⟩:=eX (T2++xb);rw [T,Q,ac] at W;have Z:Hid (¬ 9223372036854775807<8+J.size):=kD (by omega);have Y:Hid (¬ 9223372036854775807<T1.size+1):=kD (by omega);have X:Hid (¬ 9223372036854775807<T2.size+xb.size):=kD (by omega);have C:=kD T;have y:=kD Q;have t:=kD ac;have V:=kD K;clear g i O s1 s2 z1 z2 ha N hp T Q ac u1 u2 K q0 q1 q2 q3 y0 y1 y2 y3 y4 ag P;go_wp2_with fail;refine rG [some 25,some 26,some 27,some 28,some 29,some 30,some 31,some 32,some 33,some 4] 10 (Pl [some (pT (w.heap.size+1) 1),some (iL a),some (.string J),some (.string T1),some (.string T2),some (pT (w.heap.size+1) 2),some (iL b),some (.string xb),some (.string T3),some (.string T3)]) (λ L d w'=>Below w2.heap.size w2 w') ?g0_1 ?gst_1 ?gfin_1
  case g0_1=>exact(zRf).drew
  case gst_1 =>
   refine rN rfl (λ L d A f j m o U F K q=>?_) ?_
   ·have e3:=U.w 3 (pT (w.heap.size+1) 0);have D:=(V.out.re.below F V.out.re.lt).c5;have r1:=D.2.1;have r2:=D.2.2.1;clear D;have H:=Z.out;have G:=Y.out;have E:=X.out;have t1:=C.out;have t2:=y.out;have t3:=t.out;go_simp;exact pF q (F)
   refine rN rfl (λ L d A f j m o U F K q=>?_) ?_
   ·have ay:=U.v 0 25;have D:=(V.out.re.below F V.out.re.lt).c5;have r1:=D.2.1;have r2:=D.2.2.1;clear D;have H:=Z.out;have G:=Y.out;have E:=X.out;have t1:=C.out;have t2:=y.out;have t3:=t.out;go_simp;exact pF q (F)
   refine rN rfl (λ L d A f j m o U F K q=>?_) ?_
   ·have ax:=U.v 1 26;go_simp;refine(CA.out f).mono ?_;rintro e w6 ⟨rfl,ab⟩;exact pF q (F.tR ab)
   refine rN rfl (λ L d A f j m o U F K q=>?_) ?_
   ·have aw:=U.v 2 27;have H:=Z.out;have G:=Y.out;have E:=X.out;have t1:=C.out;have t2:=y.out;have t3:=t.out;go_simp;exact pF q (F)
   refine rN rfl (λ L d A f j m o U F K q=>?_) ?_
   ·have av:=U.v 3 28;have H:=Z.out;have G:=Y.out;have E:=X.out;have t1:=C.out;have t2:=y.out;have t3:=t.out;go_simp;exact pF q (F)
   refine rN rfl (λ L d A f j m o U F K q=>?_) ?_
   ·have e3:=U.w 3 (pT (w.heap.size+1) 0);have D:=(V.out.re.below F V.out.re.lt).c5;have r1:=D.2.1;have r2:=D.2.2.1;clear D;have H:=Z.out;have G:=Y.out;have E:=X.out;have t1:=C.out;have t2:=y.out;have t3:=t.out;go_simp;exact pF q (F)
   refine rN rfl (λ L d A f j m o U F K q=>?_) ?_
   ·have aq:=U.v 5 30;have D:=(V.out.re.below F V.out.re.lt).c5;have r1:=D.2.1;have r2:=D.2.2.1;clear D;have H:=Z.out;have G:=Y.out;have E:=X.out;have t1:=C.out;have t2:=y.out;have t3:=t.out;go_simp;exact pF q (F)
   refine rN rfl (λ L d A f j m o U F K q=>?_) ?_
   ·have ap:=U.v 6 31;go_simp;refine(CB.out f).mono ?_;rintro e w6 ⟨rfl,ab⟩;exact pF q (F.tR ab)
   refine rN rfl (λ L d A f j m o U F K q=>?_) ?_
   ·have ar:=U.v 4 29;have ao:=U.v 7 32;have H:=Z.out;have G:=Y.out;have E:=X.out;have t1:=C.out;have t2:=y.out;have t3:=t.out;go_simp;exact pF q (F)
   refine rN rfl (λ L d A f j m o U F K q=>?_) ?_
   ·have an:=U.v 8 33;have H:=Z.out;have G:=Y.out;have E:=X.out;have t1:=C.out;have t2:=y.out;have t3:=t.out;go_simp;exact pF q (F)
   exact RelFrom.nil (by decide)
  case gfin_1 =>
   intro d f hp F;simp only [Fr,Act.put,sX,Nat.reduceAdd];have h4:d 9=.string T3:=hp 9 (by decide) _ rfl;rw [h4,W.out];have K:=V.out.below F;clear F hp h4;go_wp2_with fail;go_ret;exact⟨rfl,K.bel⟩
 by_cases k3:k=3
 ·subst k3;have g:Hid (R=if 1<=r∧r<=3 then reW++[32]++Lib.itoa r else []):=I.out;clear I k1;go_wp2_with fail;refine(C3.out _).mono ?_;rintro e w3 ⟨rfl,rfl⟩
  cases c3
  case false =>
   obtain rfl:R=[]:=by rw [g.out,if_neg (of_decide_eq_false aj.out)]
   clear g;go_wp2_with fail;go_ret;exact⟨rfl,K.bel⟩
  have af:=of_decide_eq_true aj.out;have CA:=kD (λ(f:World)=>num_s r (by omega) (by omega) f);have z1:=ito_len (n:=r) (by omega) (by omega);obtain⟨J,i⟩:∃ z:ByteArray,bs (Lib.itoa r)=z:=⟨_,rfl⟩;rw [i] at CA;have s1:J.size<=2:=by rw [<-i];exact Nat.le_trans (Nat.le_of_eq (bs_size _)) z1.2
  have W:Hid ((⟨#[114,101,115,105,103,110,32]⟩:ByteArray)++J=bs R):=by
   show _=_
   rw [g.out,if_pos af,<-i];exact bs_cat (reW++[32]) _
  have ad:Hid (Ending.returned (.string ((⟨#[114,101,115,105,103,110,32]⟩:ByteArray)++J))=Ending.returned (.string (bs R))):=by show _=_;rw [W.out]
  have g1:¬ 9223372036854775807<7+J.size:=by omega
  clear g i z1 af W;go_wp2_with fail;refine(CA.out _).mono ?_;rintro e w4 ⟨rfl,N⟩;have K:=K.below N;go_wp2_with fail;go_ret;exact⟨ad.out,K.bel⟩
 have M:Hid (R=if trnT v a b ss=[] then [] else tuW++[32]++trnT v a b ss):=by show _=_;rw [I.out,if_neg k1,if_neg k3]
 have d1:(k == 1)=false:=by simp [k1]
 have d3:(k == 3)=false:=by simp [k3]
 clear I k1 k3;have CT:=kD (λ(f:World) (h9:zB w f)=>turn_s v HV.out a b As cp B ss f (Nat.le_trans hB h9.size) (am.out.below h9 hB));obtain⟨S,hS⟩:=eX (trnT v a b ss);have hl:=trnT_len HV.out a b ss;rw [hS] at M CT hl;rw [HN.out] at CT;clear hS;go_wp2_with fail;refine(CT.out _ K.bel).mono ?_;rintro e w3 ⟨rfl,N⟩;have K:=K.below N;clear q0 q1 q2 q3 y0 y1 y2 y3 y4 ag P N CT;by_cases hS0:S=[]
 ·obtain rfl:R=[]:=by rw [M.out,if_pos hS0]
  have e0:(bs S).toList.isEmpty=true:=by rw [ByteArray.toList_eq,bs_data,hS0];rfl
  clear M hS0;go_wp2_with fail;go_ret;exact⟨rfl,K.bel⟩
 have e0:(bs S).toList.isEmpty=false:=by rw [ByteArray.toList_eq,bs_data];cases S with | nil=>exact absurd rfl hS0 | cons a l=>rfl
 have W:Hid ((⟨#[116,117,114,110,32]⟩:ByteArray)++bs S=bs R):=by
  show _=_
  rw [M.out,if_neg hS0];exact bs_cat (tuW++[32]) S
 have zS:(bs S).size<=54:=by rw [bs_size];exact hl
 obtain⟨sb,ae⟩:=eX (bs S);rw [ae] at W e0 zS ⊢;have ad:Hid (Ending.returned (.string ((⟨#[116,117,114,110,32]⟩:ByteArray)++sb))=Ending.returned (.string (bs R))):=by show _=_;rw [W.out]
 have g1:¬ 9223372036854775807<5+sb.size:=by omega
 clear M hS0 ae W hl;go_wp2_with fail;go_ret;exact⟨ad.out,K.bel⟩
end TsI
end Go.Proofs.YtjdefiinmicjiaaGreatDoor
