/- Parts of the proof of FnEventText. Conditions: each theorem's own. -/
import Derived.Test.YtjdefiinmicjiaaGreatDoorU16
set_option linter.unusedVariables false
set_option linter.unusedSimpArgs false
set_option maxHeartbeats 8000000
set_option maxRecDepth 100000
namespace Go.Proofs.YtjdefiinmicjiaaGreatDoor
namespace TsI
open Go.ChangeShapes Go.WideShapes Go.ChangeAt Go.RowKit Base Ints Own JoinN PlP TxP Num Bd1 Bd5 RegF RegG TxI
def jn (v:Vr) (ss:List Stp) (k:Nat):By:=Lib.join ((ss.take k).map (stpT v)) [32]
theorem jn_succ {v:Vr} {ss:List Stp} {k:Nat} {s:Stp} (h:ss[k]?=some s):jn v ss (k+1)=(if k=0 then [] else jn v ss k++[32])++stpT v s:=by
 unfold jn;rw [take_succ ss k s h,List.map_append];have b:=(List.getElem?_eq_some_iff.1 h).1
 cases k with
 | zero=>simp [Lib.join_one]
 | succ k =>
  cases hl:(ss.take (k+1)).map (stpT v) with
  | nil =>
   have a:((ss.take (k+1)).map (stpT v)).length=k+1:=by rw [List.length_map,List.length_take];omega
   rw [hl] at a;simp at a
  | cons x r =>
   rw [if_neg (by omega),List.cons_append,Lib.join_cons,Lib.join_cons];simp [Lib.joinTail]
theorem steps_s (v:Vr) (A:Option Addr) (cp B:Nat) (ss:List Stp) (R:By) (hR:(if okV v=true then stpsT v ss else [])=R) (w:World) (hB:B<=w.heap.size) (hr:RdS w B 4 enSt A ss) :
  Calls Tryz.prog 86 #[.agg #[.int .i64 v.p,.int .i64 v.c,.int .i64 v.h,.int .i64 v.s],.slice A ss.length cp] w λ e w'=>e=.returned (.string (bs R))∧Below w.heap.size w w':=by
 have aw:=hr.len;obtain⟨n,hn⟩:∃ n,ss.length=n:=⟨_,rfl⟩;obtain⟨ok,ak⟩:∃ b,okV v=b:=⟨_,rfl⟩;have CV:=kD (λ D=>var_s v ok ak D);rw [hn] at aw ⊢;have HN:=kD hn;have HR:=kD hR;have HO:=kD ak;clear hR hn ak;go_enter Tryz.func86,Tryz.ntmps86;go_upto_region 1 with fail;refine wp_gen (λ W'=>Below w.heap.size w W'∧RowB W' w.heap.size 25 (vL v)) ⟨by go_grown,RowB.new _ _ _⟩ ?_;rintro w1 ⟨Q,rv⟩;obtain⟨q0,q1,q2,q3⟩:=rv.c4;have aq:=rv.lt;go_wp2_with fail;refine(CV.out _).mono ?_;rintro e w2 ⟨rfl,hb⟩;have Q:=Q.trans (hb.mono Q.size);have rv:=rv.below hb aq;clear q0 q1 q2 q3 aq hb
 cases ok
 case false =>
  obtain rfl:R=[]:=by rw [<-HR.out,HO.out];rfl
  go_wp2_with fail;go_ret;exact⟨rfl,Q⟩
 have HS:Hid (stpsT v ss=R):=by show _=_;rw [<-HR.out,HO.out];rfl
 clear HR;by_cases h4:4<n
 ·obtain rfl:R=[]:=by rw [<-HS.out];unfold stpsT;rw [if_pos (by rw [HN.out];exact h4)]
  have d4:decide ((4:Int)<(n:Int))=true:=decide_eq_true (by omega);clear h4;go_wp2_with fail;go_ret;exact⟨rfl,Q⟩
 have d4:decide ((4:Int)<(n:Int))=false:=decide_eq_false (by omega);by_cases h0:n=0
 ·obtain rfl:R=[45]:=by rw [<-HS.out];unfold stpsT;rw [if_neg (by rw [HN.out];exact h4),if_pos (by rw [HN.out];exact h0)]
  have d0:((n:Int) == 0)=true:=by simp [h0]
  clear h0 h4;go_wp2_with fail;go_ret;exact⟨rfl,Q⟩
 have d0:((n:Int) == 0)=false:=by simp [h0]
 have HT:Hid (R=if allPl v ss=true then Lib.join (ss.map (stpT v)) [32] else []):=by show _=_;rw [<-HS.out];unfold stpsT;rw [if_neg (by rw [HN.out];exact h4),if_neg (by rw [HN.out];exact h0)]
 have aH:n<=4:=by omega
 have aI:0<n:=by omega
 have RV:=kD rv;have T:=kD Q;have ax:w.heap.size+1<=w2.heap.size:=rv.lt;clear HS h4 h0 rv Q;go_wp2_with fail;go_loopw [5,6] (λ s5 i wr=>∃ k:Nat,k<=n∧i=.int .i64 (k:Int)∧s5=.string (bs (jn v ss k))∧Hid (Below w2.heap.size w2 wr)∧Hid (∀ s ∈ ss.take k,plainB v s=true)∧(jn v ss k).length<=12*k) (λ _ i _=>n - (intOf i).toNat)
 case atStart=>exact⟨0,Nat.zero_le _,rfl,rfl,kD (Below.refl _ _),kD (λ s hs=>by simp at hs),by simp [jn,Lib.join_nil]⟩
 case round =>
  obtain⟨k,hk,rfl,rfl,hb,ai,ad⟩:=hrel;clear d0 d4;by_cases hlt:k<n
  ·obtain⟨b,I,f,t,d,h,rfl,aK,ao,x0,x1,x2,x3⟩:=rdStp_at (hr.below (T.out.trans (hb.out.mono T.out.size)) hB) (by rw [HN.out];exact hlt);have HX:=kD ao;have an:b<wr.heap.size:=by have:=hb.out.size;have:=T.out.size;omega
   obtain⟨J,hJ⟩:∃ J,jn v ss k=J:=⟨_,rfl⟩;rw [hJ] at ad ⊢;have HJ:=kD hJ;have C:=kD (And.intro x0 (And.intro x1 (And.intro x2 x3)));have m:=kD an;obtain⟨pb,aj⟩:∃ b,plainB v (f,t,d,h)=b:=⟨_,rfl⟩;have CP:=kD (λ D=>plain_s v HO.out (f,t,d,h) pb aj D);simp only at CP;have aa:=kD aj;have H:=kD (RV.out.below hb.out ax);clear ao hJ x0 x1 x2 x3 aj;go_wp2_with fail;refine rG [some 24,some 25,some 26,some 27,some 28,some 29,some 30] 7 (Pl [some (.agg #[.int .i64 v.p,.int .i64 v.c,.int .i64 v.h,.int .i64 v.s]),some (.slice (some ⟨b,I,none⟩) n cp),some (.int .i64 (k:Int)),some (.pointer (some ⟨b,I+k*4,none⟩)),some (.agg #[.int .i64 f,.int .i64 t,.int .i64 d,.bool h]),some (.bool pb),some (.bool (!pb))]) (λ L a w'=>Below wr.heap.size wr w') ?g0_3 ?gst_3 ?gfin_3
   case g0_3=>exact(Below.refl _ _).drew
   case gst_3 =>
    refine rN rfl (λ L a A D o r q U F K y=>?_) ?_
    ·have e2:=U.w 2 (.pointer (some ⟨w.heap.size,0,none⟩));have M:=H.out.below F H.out.lt;obtain⟨q0,q1,q2,q3⟩:=M.c4;have Y:=M.lt;have l:=bcell F;have g:=C.out;have x0:=(l.1 b _ m.out).trans g.1;have x1:=(l.1 b _ m.out).trans g.2.1;have x2:=(l.1 b _ m.out).trans g.2.2.1;have x3:=(l.1 b _ m.out).trans g.2.2.2;clear M l g;go_simp;exact pF y (F)
    refine rN rfl (λ L a A D o r q U F K y=>?_) ?_
    ·have e1:=U.w 1 (.slice (some ⟨b,I,none⟩) n cp);have l:=bcell F;have g:=C.out;clear l g;go_simp;exact pF y (F)
    refine rN rfl (λ L a A D o r q U F K y=>?_) ?_
    ·have e6:=U.w 6 (.int .i64 (k:Int));have l:=bcell F;have g:=C.out;clear l g;go_simp;exact pF y (F)
    refine rN rfl (λ L a A D o r q U F K y=>?_) ?_
    ·have aP:=U.v 1 25;have aO:=U.v 2 26;have l:=bcell F;have g:=C.out;clear l g;go_simp;exact pF y (F)
    refine rN rfl (λ L a A D o r q U F K y=>?_) ?_
    ·have aN:=U.v 3 27;have M:=H.out.below F H.out.lt;obtain⟨q0,q1,q2,q3⟩:=M.c4;have Y:=M.lt;have l:=bcell F;have g:=C.out;have x0:=(l.1 b _ m.out).trans g.1;have x1:=(l.1 b _ m.out).trans g.2.1;have x2:=(l.1 b _ m.out).trans g.2.2.1;have x3:=(l.1 b _ m.out).trans g.2.2.2;clear M l g;go_simp;exact pF y (F)
    refine rN rfl (λ L a A D o r q U F K y=>?_) ?_
    ·have aQ:=U.v 0 24;have aM:=U.v 4 28;go_simp;refine(CP.out D).mono ?_;rintro e w6 ⟨rfl,Z⟩;exact pF y (F.trans (Z.mono F.size))
    refine rN rfl (λ L a A D o r q U F K y=>?_) ?_
    ·have aL:=U.v 5 29;have l:=bcell F;have g:=C.out;clear l g;go_simp;exact pF y (F)
    exact RelFrom.nil (by decide)
   case gfin_3 =>
    intro a D hp F;simp only [Fr,Act.put,sX,Nat.reduceAdd];have h6:a 6=.bool (!pb):=hp 6 (by decide) _ rfl;rw [h6];have W:=F;clear F hp h6 CP;have N:=kD (hb.out.trans (W.mono hb.out.size));obtain⟨O,ap⟩:∃ z,D=z:=⟨_,rfl⟩;rw [ap] at W N ⊢;clear ap D
    cases pb
    case false =>
     have ay:R=[]:=by
      rw [HT.out,if_neg];intro ha;have:=List.all_eq_true.1 ha _ (List.mem_of_getElem? HX.out);rw [aa.out] at this;simp at this
     subst ay;clear HT;go_wp2_with fail;go_ret;exact⟨rfl,T.out.trans (N.out.mono T.out.size)⟩
    have CT:=kD (λ(D:World)=>step_s v HO.out (f,t,d,h) aa.out D);have X:=step_len HO.out aa.out;obtain⟨tx,ab⟩:∃ x,stpT v (f,t,d,h)=x:=⟨_,rfl⟩;rw [ab] at CT X;simp only at CT;have aR:=kD ab;have HQ:Hid (∀ s ∈ ss.take (k+1),plainB v s=true):=by
     show ∀ s ∈ ss.take (k+1),plainB v s=true
     rw [take_succ ss k _ HX.out];intro s hs;rcases List.mem_append.1 hs with hs | hs
     ·exact ai.out s hs
     ·simp at hs;subst hs;exact aa.out
    obtain⟨Jp,P⟩:∃ j,(if k=0 then [] else J++[32])=j:=⟨_,rfl⟩;have al:jn v ss (k+1)=Jp++tx:=by rw [jn_succ HX.out,HJ.out,P,ab]
    have av:Jp.length<=12*k+1:=by
     rw [<-P];split
     ·simp
     ·simp;omega
    have zt:(bs tx).size<=11:=by rw [bs_size];exact X.2
    have zj:(bs Jp).size<=12*k+1:=by rw [bs_size];exact av
    have am:Hid (bs Jp++bs tx=bs (jn v ss (k+1))):=by show _=_;rw [bs_cat,al]
    have af:(jn v ss (k+1)).length<=12*(k+1):=by
     rw [al,List.length_append];by_cases h0:k=0
     ·rw [if_pos h0] at P;rw [<-P];simp;omega
     ·rw [if_neg h0] at P;rw [<-P];simp;omega
    have E:Hid (¬ 9223372036854775807<(bs Jp).size+(bs tx).size):=kD (by omega);obtain⟨V,ac⟩:∃ z,bs Jp=z:=⟨_,rfl⟩;obtain⟨st,ah⟩:∃ z,bs tx=z:=⟨_,rfl⟩;rw [ah] at CT;rw [ac,ah] at am E;have H:=kD (H.out.below W H.out.lt);have C:Hid (O.cell? ⟨b,I+k*4,none⟩=some (.int .i64 f)∧O.cell? ⟨b,I+k*4+1,none⟩=some (.int .i64 t)∧O.cell? ⟨b,I+k*4+2,none⟩=some (.int .i64 d)∧O.cell? ⟨b,I+k*4+3,none⟩=some (.bool h)):=by
     have l:=bcell W;have g:=C.out;exact kD ⟨(l.1 b _ m.out).trans g.1,(l.1 b _ m.out).trans g.2.1,(l.1 b _ m.out).trans g.2.2.1,(l.1 b _ m.out).trans g.2.2.2⟩
    have m:Hid (b<O.heap.size):=kD (Nat.lt_of_lt_of_le m.out W.size);have aJ:(bs J).size<=12*k:=by rw [bs_size];exact ad
    have ae:Hid (if k=0 then bs J=V else bs J++(⟨#[32]⟩:ByteArray)=V):=by
     show if k=0 then bs J=V else _
     split
     ·rename_i h0
      rw [<-ac,<-P,if_pos h0,<-HJ.out];subst h0
      rfl
     ·rename_i h0
      rw [<-ac,<-P,if_neg h0];exact bs_cat J [32]
    clear P al av zj ac ah ab X hb HX ai aa HJ zt W ad an;by_cases k0:k=0
    ·have dk:decide ((0:Int)<(k:Int))=false:=decide_eq_false (by omega);have S:=ae.out;rw [if_pos k0] at S;clear ae;go_upto_region 13 with fail;rw [S];clear S dk k0;refine rG [some 35,some 36,some 37,some 38,some 39,some 40,some 41,some 42,some 5] 9 (Pl [some (.string V),some (.agg #[.int .i64 v.p,.int .i64 v.c,.int .i64 v.h,.int .i64 v.s]),some (.slice (some ⟨b,I,none⟩) n cp),some (.int .i64 (k:Int)),some (.pointer (some ⟨b,I+k*4,none⟩)),some (.agg #[.int .i64 f,.int .i64 t,.int .i64 d,.bool h]),some (.string st),some (.string (V++st)),some (.string (V++st))]) (λ L a w'=>Below O.heap.size O w') ?g0_1 ?gst_1 ?gfin_1
     case g0_1=>exact(Below.refl _ _).drew
     case gst_1 =>
      refine rN rfl (λ L a A D o r q U F K y=>?_) ?_
      ·have e5:A.tmps[5]?.getD undef=.string V:=U.z 5 (λ j hl hj=>by obtain rfl:=nd_of _ (by kernel_rfl) j 8 5 hj rfl;exact o (q 8 0 (by kernel_rfl) hl));have l:=bcell F;have g:=C.out;clear l g;have G:=E.out;go_simp;exact pF y (F)
      refine rN rfl (λ L a A D o r q U F K y=>?_) ?_
      ·have e2:=U.w 2 (.pointer (some ⟨w.heap.size,0,none⟩));have M:=H.out.below F H.out.lt;obtain⟨q0,q1,q2,q3⟩:=M.c4;have Y:=M.lt;have l:=bcell F;have g:=C.out;have x0:=(l.1 b _ m.out).trans g.1;have x1:=(l.1 b _ m.out).trans g.2.1;have x2:=(l.1 b _ m.out).trans g.2.2.1;have x3:=(l.1 b _ m.out).trans g.2.2.2;clear M l g;have G:=E.out;go_simp;exact pF y (F)
      refine rN rfl (λ L a A D o r q U F K y=>?_) ?_
      ·have e1:=U.w 1 (.slice (some ⟨b,I,none⟩) n cp);have l:=bcell F;have g:=C.out;clear l g;have G:=E.out;go_simp;exact pF y (F)
      refine rN rfl (λ L a A D o r q U F K y=>?_) ?_
      ·have e6:=U.w 6 (.int .i64 (k:Int));have l:=bcell F;have g:=C.out;clear l g;have G:=E.out;go_simp;exact pF y (F)
      refine rN rfl (λ L a A D o r q U F K y=>?_) ?_
      ·have aE:=U.v 2 37;have aD:=U.v 3 38;have l:=bcell F;have g:=C.out;clear l g;have G:=E.out;go_simp;exact pF y (F)
      refine rN rfl (λ L a A D o r q U F K y=>?_) ?_
      ·have aC:=U.v 4 39;have M:=H.out.below F H.out.lt;obtain⟨q0,q1,q2,q3⟩:=M.c4;have Y:=M.lt;have l:=bcell F;have g:=C.out;have x0:=(l.1 b _ m.out).trans g.1;have x1:=(l.1 b _ m.out).trans g.2.1;have x2:=(l.1 b _ m.out).trans g.2.2.1;have x3:=(l.1 b _ m.out).trans g.2.2.2;clear M l g;have G:=E.out;go_simp;exact pF y (F)
      refine rN rfl (λ L a A D o r q U F K y=>?_) ?_
      ·have aF:=U.v 1 36;have aB:=U.v 5 40;go_simp;refine(CT.out D).mono ?_;rintro e w6 ⟨rfl,Z⟩;exact pF y (F.trans (Z.mono F.size))
      refine rN rfl (λ L a A D o r q U F K y=>?_) ?_
      ·have aG:=U.v 0 35;have aA:=U.v 6 41;have l:=bcell F;have g:=C.out;clear l g;have G:=E.out;go_simp;exact pF y (F)
      refine rN rfl (λ L a A D o r q U F K y=>?_) ?_
      ·have az:=U.v 7 42;have l:=bcell F;have g:=C.out;clear l g;have G:=E.out;go_simp;exact pF y (F)
      exact RelFrom.nil (by decide)
     case gfin_1 =>
      intro a D hp F;simp only [Fr,Act.put,sX,Nat.reduceAdd];have h8:a 8=.string (V++st):=hp 8 (by decide) _ rfl;rw [h8,am.out];have N:=kD (N.out.trans (F.mono N.out.size));clear F hp h8 CT;go_wp2_with fail;go_roundw
      case rel=>exact⟨k+1,by omega,by go_num,rfl,N,HQ,af⟩
      case measure=>simp [intOf];omega
    ·have dk:decide ((0:Int)<(k:Int))=true:=decide_eq_true (by omega);have S:=ae.out;rw [if_neg k0] at S;clear ae;have g1:¬ 9223372036854775807<(bs J).size+1:=by omega
     go_upto_region 13 with fail
     (try rw [S])
     clear S dk k0 g1;refine rG [some 35,some 36,some 37,some 38,some 39,some 40,some 41,some 42,some 5] 9 (Pl [some (.string V),some (.agg #[.int .i64 v.p,.int .i64 v.c,.int .i64 v.h,.int .i64 v.s]),some (.slice (some ⟨b,I,none⟩) n cp),some (.int .i64 (k:Int)),some (.pointer (some ⟨b,I+k*4,none⟩)),some (.agg #[.int .i64 f,.int .i64 t,.int .i64 d,.bool h]),some (.string st),some (.string (V++st)),some (.string (V++st))]) (λ L a w'=>Below O.heap.size O w') ?g0_2 ?gst_2 ?gfin_2
     case g0_2=>exact(Below.refl _ _).drew
     case gst_2 =>
      refine rN rfl (λ L a A D o r q U F K y=>?_) ?_
      ·have e5:A.tmps[5]?.getD undef=.string V:=U.z 5 (λ j hl hj=>by obtain rfl:=nd_of _ (by kernel_rfl) j 8 5 hj rfl;exact o (q 8 0 (by kernel_rfl) hl));have l:=bcell F;have g:=C.out;clear l g;have G:=E.out;go_simp;exact pF y (F)
      refine rN rfl (λ L a A D o r q U F K y=>?_) ?_
      ·have e2:=U.w 2 (.pointer (some ⟨w.heap.size,0,none⟩));have M:=H.out.below F H.out.lt;obtain⟨q0,q1,q2,q3⟩:=M.c4;have Y:=M.lt;have l:=bcell F;have g:=C.out;have x0:=(l.1 b _ m.out).trans g.1;have x1:=(l.1 b _ m.out).trans g.2.1;have x2:=(l.1 b _ m.out).trans g.2.2.1;have x3:=(l.1 b _ m.out).trans g.2.2.2;clear M l g;have G:=E.out;go_simp;exact pF y (F)
      refine rN rfl (λ L a A D o r q U F K y=>?_) ?_
      ·have e1:=U.w 1 (.slice (some ⟨b,I,none⟩) n cp);have l:=bcell F;have g:=C.out;clear l g;have G:=E.out;go_simp;exact pF y (F)
      refine rN rfl (λ L a A D o r q U F K y=>?_) ?_
      ·have e6:=U.w 6 (.int .i64 (k:Int));have l:=bcell F;have g:=C.out;clear l g;have G:=E.out;go_simp;exact pF y (F)
      refine rN rfl (λ L a A D o r q U F K y=>?_) ?_
      ·have aE:=U.v 2 37;have aD:=U.v 3 38;have l:=bcell F;have g:=C.out;clear l g;have G:=E.out;go_simp;exact pF y (F)
      refine rN rfl (λ L a A D o r q U F K y=>?_) ?_
      ·have aC:=U.v 4 39;have M:=H.out.below F H.out.lt;obtain⟨q0,q1,q2,q3⟩:=M.c4;have Y:=M.lt;have l:=bcell F;have g:=C.out;have x0:=(l.1 b _ m.out).trans g.1;have x1:=(l.1 b _ m.out).trans g.2.1;have x2:=(l.1 b _ m.out).trans g.2.2.1;have x3:=(l.1 b _ m.out).trans g.2.2.2;clear M l g;have G:=E.out;go_simp;exact pF y (F)
      refine rN rfl (λ L a A D o r q U F K y=>?_) ?_
      ·have aF:=U.v 1 36;have aB:=U.v 5 40;go_simp;refine(CT.out D).mono ?_;rintro e w6 ⟨rfl,Z⟩;exact pF y (F.trans (Z.mono F.size))
      refine rN rfl (λ L a A D o r q U F K y=>?_) ?_
      ·have aG:=U.v 0 35;have aA:=U.v 6 41;have l:=bcell F;have g:=C.out;clear l g;have G:=E.out;go_simp;exact pF y (F)
      refine rN rfl (λ L a A D o r q U F K y=>?_) ?_
      ·have az:=U.v 7 42;have l:=bcell F;have g:=C.out;clear l g;have G:=E.out;go_simp;exact pF y (F)
      exact RelFrom.nil (by decide)
     case gfin_2 =>
      intro a D hp F;simp only [Fr,Act.put,sX,Nat.reduceAdd];have h8:a 8=.string (V++st):=hp 8 (by decide) _ rfl;rw [h8,am.out];have N:=kD (N.out.trans (F.mono N.out.size));clear F hp h8 CT;go_wp2_with fail;go_roundw
      case rel=>exact⟨k+1,by omega,by go_num,rfl,N,HQ,af⟩
      case measure=>simp [intOf];omega
  ·obtain rfl:k=n:=by omega
   have ag:allPl v ss=true:=by
    unfold allPl;rw [List.all_eq_true];intro s hs;exact ai.out s (by rw [List.take_of_length_le (by rw [HN.out];exact Nat.le_refl _)];exact hs)
   have ar:jn v ss k=R:=by rw [HT.out,if_pos ag];unfold jn;rw [List.take_of_length_le (by rw [HN.out];exact Nat.le_refl _)]
   rw [ar];clear HT ag ar ad;go_wp2_with fail;go_ret;exact⟨rfl,T.out.trans (hb.out.mono T.out.size)⟩
end TsI
namespace TxI
open Go.ChangeShapes Go.WideShapes Go.ChangeAt Go.RowKit Base Ints Own JoinN PlP TxP Num Bd1 Bd5 RegF RegG
def TurnR (o:Option (Int × Int × List Stp)) (w:World) (e:Ending) (w':World):Prop :=
 ∃(x y:Int) (sv:Value) (c:Int) (ss:List Stp),e=.returned (.tuple #[.agg #[.int .i64 x,.int .i64 y],sv,.int .i64 c])∧OwnS w' w.heap.size w'.heap.size 111 4 enSt sv ss∧Below w.heap.size w w'∧(match o with
  | some r=>r=(x,y,ss)∧c=0
  | none=>c≠0)
def pairT (a:Option (Int × Int)) (b:Option (List Stp)):Option (Int × Int × List Stp):=a.bind λ p=>b.map λ ss=>(p.1,p.2,ss)
theorem rdTI_eq {v:Vr} {t l r:By} {one:Bool} (h:Lib.cut t [58,32]=(l,r,one)):rdTI v t=if 80<t.length then none else if one=false then none else pairT (rdR v l) (rdSs v r):=by
 unfold rdTI;rw [h];simp only
 cases rdR v l with
 | none=>rfl
 | some p=>cases rdSs v r <;> rfl
theorem optR_inv {o:Option (Int × Int)} {s:Int × Int} {ok:Bool} (h:optR o=(s,ok)):if ok=true then o=some s else o=none:=by
 cases o with
 | none=>simp [optR] at h;obtain⟨_,rfl⟩:=h;simp
 | some x=>simp [optR] at h;obtain⟨rfl,rfl⟩:=h;simp
theorem rturn_i (v:Vr) (hv:okV v=true) (t:By) (hl:t.length<=4194304) (w:World) (E:Env w) :
  Calls Tryz.prog 61 #[.agg #[.int .i64 v.p,.int .i64 v.c,.int .i64 v.h,.int .i64 v.s],.string (bs t)] w λ e w'=>TurnR (rdTI v t) w e w':=by
 obtain⟨R,hR⟩:∃ r,rdTI v t=r:=⟨_,rfl⟩;obtain⟨⟨l,r,H⟩,Z⟩:∃ z,Lib.cut t [58,32]=z:=⟨_,rfl⟩;have hc:=cut_len t [58,32];rw [Z] at hc;simp only at hc;have hE:R=if 80<t.length then none else if H=false then none else pairT (rdR v l) (rdSs v r):=by rw [<-hR];exact rdTI_eq Z
 rw [hR];have CV:=kD (λ B=>var_i v true hv B);have CC:=kD (λ(B:World) (E9:Env B)=>cut_w t [58,32] hl B E9);have CR:=kD (λ(B:World)=>rroll_i v hv l (by omega) B);have CS:=kD (λ(B:World) (E9:Env B)=>rsteps_i v hv r (by omega) B E9);rw [Z] at CC;simp only at CC;obtain⟨⟨⟨x,y⟩,o1⟩,hq⟩:∃ q,optR (rdR v l)=q:=⟨_,rfl⟩;rw [hq] at CR;simp only at CR;have HQ:=kD (optR_inv hq);obtain⟨O,hO⟩:∃ o,rdSs v r=o:=⟨_,rfl⟩;rw [hO] at CS hE;have Y:=bs_size t;have HE:=kD hE;clear hE hR Z hc hq hO hv hl;go_enter Tryz.func61,Tryz.ntmps61;go_upto_region 1 with fail;refine wp_gen (λ a=>Bvr w a v 0 0) ⟨by go_grown,(RowB.new _ _ _).alloc _,RowB.new' _ _ _ (by simp)⟩ ?_;intro w1 K;obtain⟨N,M,L,J⟩:=K.rv.c4;have m:=K.rv.lt;go_wp2_with fail;refine(CV.out _).mono ?_;rintro e w2 ⟨rfl,k⟩;have K:=K.below k;clear N M L J m k CV;have D:=K.rr.lt;have F:=K.rr.frozen;obtain⟨X,W⟩:=K.rr.c2;by_cases h80:80<t.length
 ·have d:R=none:=by rw [HE.out,if_pos h80]
  subst d;have d1:decide ((80:Int)<((bs t).size:Int))=true:=decide_eq_true (by rw [Y];omega);clear Y h80 HE;go_wp2_with fail;refine bp_gen (λ a=>Below w.heap.size w a∧RowB a (w.heap.size+1) 53 [.int .i64 0,.int .i64 0]) ⟨(K.bel.setCell (p:=⟨w.heap.size+1,0,none⟩) (by show w.heap.size<=w.heap.size+1;omega) _).setCell (p:=⟨w.heap.size+1,1,none⟩) (by show w.heap.size<=w.heap.size+1;omega) _,(K.rr.set 0 _).set 1 _⟩ ?_;rintro T ⟨b,C⟩;obtain⟨A,n⟩:=C.c2;refine bodyPost_ret (v:=.tuple #[.agg #[.int .i64 0,.int .i64 0],.slice none 0 0,.int .i64 3]) (by simp [results,Tryz.results61,go_sem,A,n]) rfl ?_;exact⟨0,0,_,3,[],rfl,OwnS.nil_ _ _ _ _ _ _,b,by decide⟩
 have d1:decide ((80:Int)<((bs t).size:Int))=false:=decide_eq_false (by rw [Y];omega);have G:Hid (R=if H=false then none else pairT (rdR v l) O):=by show _=_;rw [HE.out,if_neg h80]
 clear Y h80 HE;go_wp2_with fail;refine(CC.out _ (E.below K.bel)).mono ?_;rintro e w3 ⟨rfl,k⟩;have K:=K.below k;clear X W D F k CC d1;have D:=K.rr.lt;have F:=K.rr.frozen;obtain⟨X,W⟩:=K.rr.c2
 cases H
 case false =>
  have d:R=none:=by rw [G.out,if_pos rfl]
  subst d;clear G;go_wp2_with fail;refine bp_gen (λ a=>Below w.heap.size w a∧RowB a (w.heap.size+1) 53 [.int .i64 0,.int .i64 0]) ⟨(K.bel.setCell (p:=⟨w.heap.size+1,0,none⟩) (by show w.heap.size<=w.heap.size+1;omega) _).setCell (p:=⟨w.heap.size+1,1,none⟩) (by show w.heap.size<=w.heap.size+1;omega) _,(K.rr.set 0 _).set 1 _⟩ ?_;rintro T ⟨b,C⟩;obtain⟨A,n⟩:=C.c2;refine bodyPost_ret (v:=.tuple #[.agg #[.int .i64 0,.int .i64 0],.slice none 0 0,.int .i64 6]) (by simp [results,Tryz.results61,go_sem,A,n]) rfl ?_;exact⟨0,0,_,6,[],rfl,OwnS.nil_ _ _ _ _ _ _,b,by decide⟩
 have j:Hid (R=pairT (rdR v l) O):=by show _=_;rw [G.out,if_neg (by simp)]
 clear G;obtain⟨N,M,L,J⟩:=K.rv.c4;have m:=K.rv.lt;go_wp2_with fail;refine(CR.out _).mono ?_;rintro e w4 ⟨rfl,k⟩;have K:=K.below k;clear X W D F k CR N M L J m;go_upto_region 9 with fail;refine wp_gen (λ a=>Bvr w a v 0 0∧RowB a w4.heap.size 53 [.int .i64 x,.int .i64 y]) ⟨K.below ((Below.refl _ _).alloc (Nat.le_refl _) _),RowB.new _ _ _⟩ ?_;have aa:w.heap.size+2<=w4.heap.size:=K.rr.lt;clear K;rintro w5 ⟨K,I⟩;obtain⟨gx,Q⟩:∃ g,w4.heap.size=g:=⟨_,rfl⟩;rw [Q] at I aa ⊢;clear Q;obtain⟨N,M,L,J⟩:=K.rv.c4;have m:=K.rv.lt;go_wp2_with fail;refine(CS.out _ (E.below K.bel)).mono ?_;rintro e w6 ⟨V,rfl,i,k⟩;have S:w.heap.size+1<w5.heap.size:=K.rr.lt;have ab:w.heap.size<=w5.heap.size:=K.bel.size;have K:=K.below k;have I:=I.below k I.lt;clear N M L J m k CS;have D:=K.rr.lt;have F:=K.rr.frozen;obtain⟨X,W⟩:=K.rr.c2;have ad:=I.lt;obtain⟨x0,x1⟩:=I.c2
 cases o1
 case false =>
  have P:rdR v l=none:=HQ.out;have d:R=none:=by rw [j.out,P];rfl
  subst d;clear j i P;go_wp2_with fail;refine bp_gen (λ a=>Below w.heap.size w a∧RowB a (w.heap.size+1) 53 [.int .i64 0,.int .i64 0]) ⟨(K.bel.setCell (p:=⟨w.heap.size+1,0,none⟩) (by show w.heap.size<=w.heap.size+1;omega) _).setCell (p:=⟨w.heap.size+1,1,none⟩) (by show w.heap.size<=w.heap.size+1;omega) _,(K.rr.set 0 _).set 1 _⟩ ?_;rintro T ⟨b,C⟩;obtain⟨A,n⟩:=C.c2;refine bodyPost_ret (v:=.tuple #[.agg #[.int .i64 0,.int .i64 0],.slice none 0 0,.int .i64 6]) (by simp [results,Tryz.results61,go_sem,A,n]) rfl ?_;exact⟨0,0,_,6,[],rfl,OwnS.nil_ _ _ _ _ _ _,b,by decide⟩
 have f:rdR v l=some (x,y):=HQ.out
 cases O with
 | none =>
  have d:R=none:=by rw [j.out,f];rfl
  subst d;clear j i f;go_wp2_with fail;refine bp_gen (λ a=>Below w.heap.size w a∧RowB a (w.heap.size+1) 53 [.int .i64 0,.int .i64 0]) ⟨(K.bel.setCell (p:=⟨w.heap.size+1,0,none⟩) (by show w.heap.size<=w.heap.size+1;omega) _).setCell (p:=⟨w.heap.size+1,1,none⟩) (by show w.heap.size<=w.heap.size+1;omega) _,(K.rr.set 0 _).set 1 _⟩ ?_;rintro T ⟨b,C⟩;obtain⟨A,n⟩:=C.c2;refine bodyPost_ret (v:=.tuple #[.agg #[.int .i64 0,.int .i64 0],.slice none 0 0,.int .i64 6]) (by simp [results,Tryz.results61,go_sem,A,n]) rfl ?_;exact⟨0,0,_,6,[],rfl,OwnS.nil_ _ _ _ _ _ _,b,by decide⟩
 | some ss =>
  have d:R=some (x,y,ss):=by rw [j.out,f];rfl
  subst d;have i:OwnS w6 w5.heap.size w6.heap.size 111 4 enSt V ss:=i;have ac:=kD i;clear j i f;go_wp2_with fail;refine bp_gen (λ a=>Below w.heap.size w a∧RowB a (w.heap.size+1) 53 [.int .i64 x,.int .i64 y]∧OwnS a w.heap.size a.heap.size 111 4 enSt V ss) ⟨(K.bel.setCell (p:=⟨w.heap.size+1,0,none⟩) (by show w.heap.size<=w.heap.size+1;omega) _).setCell (p:=⟨w.heap.size+1,1,none⟩) (by show w.heap.size<=w.heap.size+1;omega) _,(K.rr.set 0 _).set 1 _,?_⟩ ?_
  ·have h2:=((ac.out.setCell (p:=⟨w.heap.size+1,0,none⟩) S (.int .i64 x)).setCell (p:=⟨w.heap.size+1,1,none⟩) S (.int .i64 y)).less ab
   simpa using h2
  rintro T ⟨b,C,o8⟩;obtain⟨A,n⟩:=C.c2;refine bodyPost_ret (v:=.tuple #[.agg #[.int .i64 x,.int .i64 y],V,.int .i64 0]) (by simp [results,Tryz.results61,go_sem,A,n]) rfl ?_;exact⟨x,y,V,0,ss,rfl,o8,b,rfl,rfl⟩
structure Bve (w wr:World) (v:Vr) (cs:List Value):Prop where
 bel:Below w.heap.size w wr
 rv:RowB wr w.heap.size 25 (vL v)
 re:RowB wr (w.heap.size+1) 28 cs
theorem Bve.below {w wr w':World} {v:Vr} {cs:List Value} (k:Bve w wr v cs) (hb:Below wr.heap.size wr w'):Bve w w' v cs :=
 ⟨k.bel.trans (hb.mono k.bel.size),k.rv.below hb k.rv.lt,k.re.below hb k.re.lt⟩
theorem event_i (v:Vr) (k a b:Int) (ss:List Stp) (r:Int) (A:Option Addr) (cp B:Nat) (w:World) (hB:B<=w.heap.size) (hr:RdS w B 4 enSt A ss) (E:Env w) :
  Calls Tryz.prog 7 #[.agg #[.int .i64 v.p,.int .i64 v.c,.int .i64 v.h,.int .i64 v.s],.agg #[.int .i64 k,.int .i64 a,.int .i64 b,.slice A ss.length cp,.int .i64 r]] w λ e w'=>e=.returned (.string (bs (if okV v=true then evnT v ⟨k,a,b,ss,r⟩ else [])))∧Below w.heap.size w w':=by
 obtain⟨ok,aa⟩:∃ o,okV v=o:=⟨_,rfl⟩;have CV:=kD (λ g=>var_i v ok aa g);obtain⟨R,hR⟩:∃ x,(if okV v=true then evnT v ⟨k,a,b,ss,r⟩ else [])=x:=⟨_,rfl⟩;rw [hR];have an:=kD hr;obtain⟨n,hn⟩:∃ n,ss.length=n:=⟨_,rfl⟩;have am:=hr.len;rw [hn] at am ⊢;have HN:=kD hn;have HR:=kD hR;have HO:=kD aa;clear hR aa hr hn;go_enter Tryz.func7,Tryz.ntmps7;go_upto_region 1 with fail;refine wp_gen (λ W'=>Bve w W' v [.int .i64 k,.int .i64 a,.int .i64 b,.slice A n cp,.int .i64 r]) ⟨by go_grown,(RowB.new _ _ _).alloc _,RowB.new' _ _ _ (by simp)⟩ ?_;intro w1 K;obtain⟨q0,q1,q2,q3⟩:=K.rv.c4;have V:=K.rv.lt;go_wp2_with fail;refine(CV.out _).mono ?_;rintro e w2 ⟨rfl,Q⟩;have K:=K.below Q;clear q0 q1 q2 q3 V Q CV
 cases ok
 case false =>
  obtain rfl:R=[]:=by rw [<-HR.out,HO.out];rfl
  go_wp2_with fail;go_ret;exact⟨rfl,K.bel⟩
 have HE:Hid (R=evnT v ⟨k,a,b,ss,r⟩):=by show _=_;rw [<-HR.out,HO.out];rfl
 clear HR;obtain⟨q0,q1,q2,q3⟩:=K.rv.c4;obtain⟨y0,y1,y2,y3,y4⟩:=K.re.c5;have V:=K.rv.lt;have ab:=K.re.lt;have ai:blankP ⟨k,a,b,ss,r⟩=if k=1 then decide (n=0∧r=0) else if k=2 then decide (r=0) else if k=3 then decide (a=0∧b=0∧n=0) else false:=by unfold blankP;rw [HN.out]
 have ah:evnT v ⟨k,a,b,ss,r⟩=if (if k=1 then decide (n=0∧r=0) else if k=2 then decide (r=0) else if k=3 then decide (a=0∧b=0∧n=0) else false)=false then [] else
   if k=1 then (if (1<=a∧a<=v.s)∧1<=b∧b<=v.s then opW++[32]++Lib.itoa a++[32]++Lib.itoa b else [])
   else if k=3 then (if 1<=r∧r<=3 then reW++[32]++Lib.itoa r else []) else if trnT v a b ss=[] then [] else tuW++[32]++trnT v a b ss:=by rw [<-ai];rfl
 have H:=kD (HE.out.trans ah);clear HE ai ah;obtain⟨c1,h1⟩:∃ c,decide (1<=a∧a<=v.s)=c:=⟨_,rfl⟩;obtain⟨c2,h2⟩:∃ c,decide (1<=b∧b<=v.s)=c:=⟨_,rfl⟩;obtain⟨c3,h3⟩:∃ c,decide (1<=r∧r<=3)=c:=⟨_,rfl⟩;have C1:=kD (λ w=>in_i a 1 v.s c1 h1 w);have C2:=kD (λ w=>in_i b 1 v.s c2 h2 w);have C3:=kD (λ w=>in_i r 1 3 c3 h3 w);have al:=kD h1;have ak:=kD h2;have aj:=kD h3;clear h1 h2 h3;by_cases k1:k=1
 ·subst k1;have d:Hid (R=if decide (n=0∧r=0)=false then [] else if (1<=a∧a<=v.s)∧1<=b∧b<=v.s then opW++[32]++Lib.itoa a++[32]++Lib.itoa b else []):=H.out;clear H;by_cases n0:n=0
  case neg =>
   have d0:((n:Int) == 0)=false:=by simp;omega
   obtain rfl:R=[]:=by rw [d.out,decide_eq_false (λ h=>n0 h.1)];rfl
   clear n0 d;go_wp2_with fail;go_ret;exact⟨rfl,K.bel⟩
  have d0:((n:Int) == 0)=true:=by simp [n0]
  by_cases r0:r=0
  case neg =>
   have d1:(r == 0)=false:=by simp [r0]
   obtain rfl:R=[]:=by rw [d.out,decide_eq_false (λ h=>r0 h.2)];rfl
   clear n0 r0 d;go_wp2_with fail;go_ret;exact⟨rfl,K.bel⟩
  have d1:(r == 0)=true:=by simp [r0]
  have i:Hid (R=if (1<=a∧a<=v.s)∧1<=b∧b<=v.s then opW++[32]++Lib.itoa a++[32]++Lib.itoa b else []):=by show _=_;rw [d.out,decide_eq_true ⟨n0,r0⟩];rfl
  clear n0 r0 d;go_wp2_with fail;refine(C1.out _).mono ?_;rintro e w3 ⟨rfl,rfl⟩
  cases c1
  case false =>
   obtain rfl:R=[]:=by rw [i.out,if_neg (λ h=>of_decide_eq_false al.out h.1)]
   clear i;go_wp2_with fail;go_ret;exact⟨rfl,K.bel⟩
  go_wp2_with fail;refine(C2.out _).mono ?_;rintro e w3 ⟨rfl,rfl⟩
  cases c2
  case false =>
   obtain rfl:R=[]:=by rw [i.out,if_neg (λ h=>of_decide_eq_false ak.out h.2)]
   clear i;go_wp2_with fail;go_ret;exact⟨rfl,K.bel⟩
  have ha:=of_decide_eq_true al.out;have Q:=of_decide_eq_true ak.out;have hp:=okV_iff.1 HO.out;have CA:=kD (λ(g:World) (E9:Env g)=>decimalZ a (by omega) (by omega) g E9.tab);have CB:=kD (λ(g:World) (E9:Env g)=>decimalZ b (by omega) (by omega) g E9.tab);have z1:=ito_len (n:=a) (by omega) (by omega);have z2:=ito_len (n:=b) (by omega) (by omega);obtain⟨P,j⟩:∃ z:ByteArray,(⟨(Lib.itoa a).toArray⟩:ByteArray)=z:=⟨_,rfl⟩;obtain⟨xb,T⟩:∃ z:ByteArray,(⟨(Lib.itoa b).toArray⟩:ByteArray)=z:=⟨_,rfl⟩;rw [j] at CA;rw [T] at CB;have s1:P.size<=2:=by rw [<-j];exact Nat.le_trans (Nat.le_of_eq (bs_size _)) z1.2
  have s2:xb.size<=2:=by rw [<-T];exact Nat.le_trans (Nat.le_of_eq (bs_size _)) z2.2
  have Y:Hid ((((⟨#[111,112,101,110,105,110,103,32]⟩:ByteArray)++P)++(⟨#[32]⟩:ByteArray))++xb=bs R):=by
   show _=_
   rw [i.out,if_pos ⟨ha,Q⟩,<-j,<-T];have g1:(⟨#[111,112,101,110,105,110,103,32]⟩:ByteArray)=bs (opW++[32]):=rfl;have g2:(⟨#[32]⟩:ByteArray)=bs [32]:=rfl;have g3:∀ n,(⟨(Lib.itoa n).toArray⟩:ByteArray)=bs (Lib.itoa n):=λ _=>rfl
   simp only [g1,g2,g3,bs_cat]
  obtain⟨T1,X⟩:∃ z,(⟨#[111,112,101,110,105,110,103,32]⟩:ByteArray)++P=z:=⟨_,rfl⟩;have u1:T1.size<=10:=by rw [<-X,ByteArray.size_append];show 8+P.size<=10;omega
  obtain⟨T2,W⟩:∃ z,T1++(⟨#[32]⟩:ByteArray)=z:=⟨_,rfl⟩;have u2:T2.size<=11:=by rw [<-W,ByteArray.size_append];show T1.size+1<=11;omega
  obtain⟨T3,ad⟩:∃ z,T2++xb=z:=⟨_,rfl⟩;rw [X,W,ad] at Y;have G1:Hid (¬ 9223372036854775807<8+P.size):=kD (by omega);have G2:Hid (¬ 9223372036854775807<T1.size+1):=kD (by omega);have Z:Hid (¬ 9223372036854775807<T2.size+xb.size):=kD (by omega);have G:=kD X;have D:=kD W;have C:=kD ad;have O:=kD K;clear i j T s1 s2 z1 z2 ha Q hp X W ad u1 u2 K q0 q1 q2 q3 y0 y1 y2 y3 y4 V ab d0 d1;go_wp2_with fail;refine rG [some 36,some 37,some 38,some 39,some 40,some 41,some 42,some 43,some 44,some 4] 10 (Pl [some (.pointer (some ⟨w.heap.size+1,1,none⟩)),some (.int .i64 a),some (.string P),some (.string T1),some (.string T2),some (.pointer (some ⟨w.heap.size+1,2,none⟩)),some (.int .i64 b),some (.string xb),some (.string T3),some (.string T3)]) (λ L f w'=>Below w2.heap.size w2 w') ?g0_1 ?gst_1 ?gfin_1
  case g0_1=>exact(Below.refl _ _).drew
  case gst_1 =>
   refine rN rfl (λ L f A g m q t U F K y=>?_) ?_
   ·have e3:=U.w 3 (.pointer (some ⟨w.heap.size+1,0,none⟩));have I:=(O.out.re.below F O.out.re.lt).c5;have r1:=I.2.1;have r2:=I.2.2.1;clear I;have N:=G1.out;have M:=G2.out;have J:=Z.out;have t1:=G.out;have t2:=D.out;have t3:=C.out;go_simp;exact pF y (F)
   refine rN rfl (λ L f A g m q t U F K y=>?_) ?_
   ·have az:=U.v 0 36;have I:=(O.out.re.below F O.out.re.lt).c5;have r1:=I.2.1;have r2:=I.2.2.1;clear I;have N:=G1.out;have M:=G2.out;have J:=Z.out;have t1:=G.out;have t2:=D.out;have t3:=C.out;go_simp;exact pF y (F)
   refine rN rfl (λ L f A g m q t U F K y=>?_) ?_
   ·have ay:=U.v 1 37;go_simp;refine(CA.out g (E.below (O.out.bel.trans (F.mono O.out.bel.size)))).mono ?_;rintro e w6 ⟨rfl,ac⟩;exact pF y (F.trans (ac.mono F.size))
   refine rN rfl (λ L f A g m q t U F K y=>?_) ?_
   ·have ax:=U.v 2 38;have N:=G1.out;have M:=G2.out;have J:=Z.out;have t1:=G.out;have t2:=D.out;have t3:=C.out;go_simp;exact pF y (F)
   refine rN rfl (λ L f A g m q t U F K y=>?_) ?_
   ·have aw:=U.v 3 39;have N:=G1.out;have M:=G2.out;have J:=Z.out;have t1:=G.out;have t2:=D.out;have t3:=C.out;go_simp;exact pF y (F)
   refine rN rfl (λ L f A g m q t U F K y=>?_) ?_
   ·have e3:=U.w 3 (.pointer (some ⟨w.heap.size+1,0,none⟩));have I:=(O.out.re.below F O.out.re.lt).c5;have r1:=I.2.1;have r2:=I.2.2.1;clear I;have N:=G1.out;have M:=G2.out;have J:=Z.out;have t1:=G.out;have t2:=D.out;have t3:=C.out;go_simp;exact pF y (F)
   refine rN rfl (λ L f A g m q t U F K y=>?_) ?_
   ·have ar:=U.v 5 41;have I:=(O.out.re.below F O.out.re.lt).c5;have r1:=I.2.1;have r2:=I.2.2.1;clear I;have N:=G1.out;have M:=G2.out;have J:=Z.out;have t1:=G.out;have t2:=D.out;have t3:=C.out;go_simp;exact pF y (F)
   refine rN rfl (λ L f A g m q t U F K y=>?_) ?_
   ·have aq:=U.v 6 42;go_simp;refine(CB.out g (E.below (O.out.bel.trans (F.mono O.out.bel.size)))).mono ?_;rintro e w6 ⟨rfl,ac⟩;exact pF y (F.trans (ac.mono F.size))
   refine rN rfl (λ L f A g m q t U F K y=>?_) ?_
   ·have av:=U.v 4 40;have ap:=U.v 7 43;have N:=G1.out;have M:=G2.out;have J:=Z.out;have t1:=G.out;have t2:=D.out;have t3:=C.out;go_simp;exact pF y (F)
   refine rN rfl (λ L f A g m q t U F K y=>?_) ?_
   ·have ao:=U.v 8 44;have N:=G1.out;have M:=G2.out;have J:=Z.out;have t1:=G.out;have t2:=D.out;have t3:=C.out;go_simp;exact pF y (F)
   exact RelFrom.nil (by decide)
  case gfin_1 =>
   intro f g hp F;simp only [Fr,Act.put,sX,Nat.reduceAdd];have h4:f 9=.string T3:=hp 9 (by decide) _ rfl;rw [h4,Y.out];have K:=O.out.below F;clear F hp h4;go_wp2_with fail;go_ret;exact⟨rfl,K.bel⟩
 by_cases k2:k=2
 ·subst k2;have d:Hid (R=if decide (r=0)=false then [] else if trnT v a b ss=[] then [] else tuW++[32]++trnT v a b ss):=H.out;clear H k1;have CT:=kD (λ(g:World) (h9:Below w.heap.size w g)=>turn_i v HO.out a b A cp B ss g (Nat.le_trans hB h9.size) (an.out.below h9 hB) (E.below h9));obtain⟨S,hS⟩:∃ s,trnT v a b ss=s:=⟨_,rfl⟩;have hl:=trnT_len HO.out a b ss;rw [hS] at d CT hl;rw [HN.out] at CT;clear hS;go_wp2_with fail;refine(CT.out _ K.bel).mono ?_;rintro e w3 ⟨rfl,Q⟩;have K:=K.below Q;clear q0 q1 q2 q3 y0 y1 y2 y3 y4 V ab Q CT;obtain⟨y0,y1,y2,y3,y4⟩:=K.re.c5;have ab:=K.re.lt;by_cases hS0:S=[]
  ·obtain rfl:R=[]:=by rw [d.out,if_pos hS0];split <;> rfl
   have e0:(bs S).toList.isEmpty=true:=by rw [ByteArray.toList_eq,bs_data,hS0];rfl
   clear d hS0;go_wp2_with fail;go_ret;exact⟨rfl,K.bel⟩
  have e0:(bs S).toList.isEmpty=false:=by rw [ByteArray.toList_eq,bs_data];cases S with | nil=>exact absurd rfl hS0 | cons a l=>rfl
  by_cases r0:r=0
  case neg =>
   obtain rfl:R=[]:=by rw [d.out,decide_eq_false r0];rfl
   have d1:(r == 0)=false:=by simp [r0]
   clear d hS0 r0;go_wp2_with fail;go_ret;exact⟨rfl,K.bel⟩
  have d1:(r == 0)=true:=by simp [r0]
  have Y:Hid ((⟨#[116,117,114,110,32]⟩:ByteArray)++bs S=bs R):=by
   show _=_
   rw [d.out,decide_eq_true r0,if_neg (by simp),if_neg hS0];exact bs_cat (tuW++[32]) S
  have zS:(bs S).size<=54:=by rw [bs_size];exact hl
  obtain⟨sb,af⟩:∃ z,bs S=z:=⟨_,rfl⟩;rw [af] at Y e0 zS ⊢;have ae:Hid (Ending.returned (.string ((⟨#[116,117,114,110,32]⟩:ByteArray)++sb))=Ending.returned (.string (bs R))):=by show _=_;rw [Y.out]
  have g1:¬ 9223372036854775807<5+sb.size:=by omega
  clear d hS0 r0 af Y hl;go_wp2_with fail;go_ret;exact⟨ae.out,K.bel⟩
 by_cases k3:k=3
 ·subst k3;have d:Hid (R=if decide (a=0∧b=0∧n=0)=false then [] else if 1<=r∧r<=3 then reW++[32]++Lib.itoa r else []):=H.out;clear H k1 k2;by_cases n0:n=0
  case neg =>
   have d0:((n:Int) == 0)=false:=by simp;omega
   obtain rfl:R=[]:=by rw [d.out,decide_eq_false (λ h=>n0 h.2.2)];rfl
   clear n0 d;go_wp2_with fail;go_ret;exact⟨rfl,K.bel⟩
  have d0:((n:Int) == 0)=true:=by simp [n0]
  by_cases a0:a=0
  case neg =>
   have d1:(a == 0)=false:=by simp [a0]
   obtain rfl:R=[]:=by rw [d.out,decide_eq_false (λ h=>a0 h.1)];rfl
   clear n0 a0 d;go_wp2_with fail;go_ret;exact⟨rfl,K.bel⟩
  have d1:(a == 0)=true:=by simp [a0]
  by_cases b0:b=0
  case neg =>
   have d2:(b == 0)=false:=by simp [b0]
   obtain rfl:R=[]:=by rw [d.out,decide_eq_false (λ h=>b0 h.2.1)];rfl
   clear n0 a0 b0 d;go_wp2_with fail;go_ret;exact⟨rfl,K.bel⟩
  have d2:(b == 0)=true:=by simp [b0]
  have i:Hid (R=if 1<=r∧r<=3 then reW++[32]++Lib.itoa r else []):=by show _=_;rw [d.out,decide_eq_true ⟨a0,b0,n0⟩];rfl
  clear n0 a0 b0 d;go_wp2_with fail;refine(C3.out _).mono ?_;rintro e w3 ⟨rfl,rfl⟩
  cases c3
  case false =>
   obtain rfl:R=[]:=by rw [i.out,if_neg (of_decide_eq_false aj.out)]
   clear i;go_wp2_with fail;go_ret;exact⟨rfl,K.bel⟩
  have ag:=of_decide_eq_true aj.out;have CA:=kD (λ(g:World) (E9:Env g)=>decimalZ r (by omega) (by omega) g E9.tab);have z1:=ito_len (n:=r) (by omega) (by omega);obtain⟨P,j⟩:∃ z:ByteArray,(⟨(Lib.itoa r).toArray⟩:ByteArray)=z:=⟨_,rfl⟩;rw [j] at CA;have s1:P.size<=2:=by rw [<-j];exact Nat.le_trans (Nat.le_of_eq (bs_size _)) z1.2
  have Y:Hid ((⟨#[114,101,115,105,103,110,32]⟩:ByteArray)++P=bs R):=by
   show _=_
   rw [i.out,if_pos ag,<-j];exact bs_cat (reW++[32]) _
  have ae:Hid (Ending.returned (.string ((⟨#[114,101,115,105,103,110,32]⟩:ByteArray)++P))=Ending.returned (.string (bs R))):=by show _=_;rw [Y.out]
  have g1:¬ 9223372036854775807<7+P.size:=by omega
  clear i j z1 ag Y;go_wp2_with fail;refine(CA.out _ (E.below K.bel)).mono ?_;rintro e w4 ⟨rfl,Q⟩;have K:=K.below Q;go_wp2_with fail;go_ret;exact⟨ae.out,K.bel⟩
 obtain rfl:R=[]:=by rw [H.out];simp [k1,k2,k3]
 have d1:(k == 1)=false:=by simp [k1]
 have d2:(k == 2)=false:=by simp [k2]
 have d3:(k == 3)=false:=by simp [k3]
 clear H k1 k2 k3;go_wp2_with fail;go_ret;exact⟨rfl,K.bel⟩
end TxI
end Go.Proofs.YtjdefiinmicjiaaGreatDoor
