/- Parts of a proof. Conditions: each theorem's own. -/
import Derived.Test.YtjdefiinmicjiaaGreatDoorV16
import Derived.Test.YtjdefiinmicjiaaGreatDoorV18
import Derived.Deep.RegionLaw
import Derived.Lib.SliceRun
import Derived.Lib.LazyBuf
set_option linter.unusedVariables false
set_option linter.unusedSimpArgs false
set_option maxHeartbeats 8000000
set_option maxRecDepth 100000
namespace Go.Proofs.YtjdefiinmicjiaaGreatDoor
open _root_.Go.Proofs.Tryz
namespace Gm
open Go Go.ChangeShapes Go.WideShapes Go.ChangeAt Go.RowKit Base Ints Own RelG PlP TxP Num Bd1 Bd5 RegInv RegF RegG TxI TsI
theorem lines_succ {v:Vr} {es:List Ev} {k:Nat} {e:Ev} (h:es[k]?=some e):linesT v (es.take (k+1))=linesT v (es.take k)++(evnT v e++[10]):=by
 unfold linesT;rw [take_succ es k e h,List.map_append,List.flatten_append];simp
def matJ (v:Vr) (n:Int) (es:List Ev) (k:Nat):By:=hdT v n++[10]++linesT v (es.take k)
theorem matJ_succ {v:Vr} {n:Int} {es:List Ev} {k:Nat} {e:Ev} (h:es[k]?=some e):matJ v n es (k+1)=matJ v n es k++evnT v e++[10]:=by
 unfold matJ;rw [lines_succ h];simp [List.append_assoc]
theorem matJ_end (v:Vr) (n:Int) (es:List Ev):matJ v n es es.length=matT v n es:=by
 unfold matJ matT;rw [List.take_of_length_le lR]
theorem matJ_zero (v:Vr) (n:Int) (es:List Ev):matJ v n es 0=hdT v n++[10]:=by
 unfold matJ linesT;simp
def matX (v:Vr) (n:Int) (es:List Ev):By:=if (finS v n es).isSome=true then matT v n es else []
theorem fin_parts {v:Vr} {n:Int} {es:List Ev} (h:(finS v n es).isSome=true):headB v n=true∧es.length<=300:=by
 unfold finS at h;split at h
 ·cases h
 ·rename_i hn
  refine⟨?_,by omega⟩
  cases hb:headB v n with
  | true=>rfl
  | false=>exact absurd (.inl hb) hn
theorem vT_short {v:Vr} (hv:okV v=true):(vT v).length<=11:=by
 have f:=okV_iff.1 hv;have e:=(ito_len (n:=v.p) (by omega) (by omega)).2;have d:=(ito_len (n:=v.c) (by omega) (by omega)).2;have b:=(ito_len (n:=v.h) (by omega) (by omega)).2;have a:=(ito_len (n:=v.s) (by omega) (by omega)).2;rw [vT_at hv];simp only [List.length_append,List.length_cons,List.length_nil];omega
theorem ismatch_s (v:Vr) (n:Int) (es:List Ev) (Ae:Option Addr) (ce:Nat) (w:World) (hes:EvL w All Ae es) (ok:Bool) (hok:(finS v n es).isSome=ok) :
  Calls prog 37 #[.agg #[iL v.p,iL v.c,iL v.h,iL v.s,iL n,.slice Ae es.length ce]] w λ f w'=>f=.returned (.bool ok)∧Below w.heap.size w w':=by
 obtain⟨X,g⟩:=eX (finS v n es);have i:=kD (λ(j:World) (A:zB w j)=>lstate_s v n es Ae ce j (hes.keep (.below A)) X g);rw [g] at hok;obtain⟨M,l⟩:=eX (es.length);rw [l] at i ⊢;clear hes g l;go_enter func37,ntmps37;go_upto_region 1 with fail;refine wp_gen (λ B=>Rows w B [(0,37,[iL v.p,iL v.c,iL v.h,iL v.s,iL n,.slice Ae M ce])]) ⟨by go_grown,λ p z=>?_⟩ ?_
 ·obtain rfl:=List.mem_singleton.1 z;exact nW
 intro D K;have b:=K.nth0 0 rfl;obtain⟨x,t,r,q,o,m⟩:=b.c6;have d:=b.lt;go_wp2_with fail;refine(i.out _ K.bel).mono ?_;rintro e C ⟨E,rfl,⟨P,H,L,O,G,J,N,F,I,y,rfl,-⟩,k⟩;have a:=(K.below k).bel;clear i K k b d x t r q o m;simp only [msC];go_wp2_with fail;go_ret;exact⟨by first | rfl | (rw [hok];rfl),by go_grown <;> first | exact a | exact a.size | omega⟩
theorem ltext_s (v:Vr) (n:Int) (es:List Ev) (Ae:Option Addr) (ce:Nat) (hv:okV v=true) (hn:1<=n∧n<=25) (hm:es.length<=300) (w:World) (hes:EvL w All Ae es) :
  Calls prog 38 #[.agg #[iL v.p,iL v.c,iL v.h,iL v.s,iL n,.slice Ae es.length ce]] w λ f w'=>f=.returned (.string (bs (matT v n es)))∧Below w.heap.size w w':=by
 have CV:=kD (λ(B:World)=>vtext_s v B);have CN:=kD (λ(B:World)=>num_s n (by omega) (by omega) B);have aD:=kD (λ(B:World) (h9:zB w B)=>hes.keep (.below h9));have HV:=kD hv;have z1:=vT_short hv;have z2:=(ito_len (n:=n) (by omega) (by omega)).2;obtain⟨x1,ab⟩:∃ z:ByteArray,bs (vT v)=z:=⟨_,rfl⟩;obtain⟨x2,aa⟩:∃ z:ByteArray,bs (Lib.itoa n)=z:=⟨_,rfl⟩;have s1:x1.size<=11:=by rw [<-ab];exact Nat.le_trans (Nat.le_of_eq (bs_size _)) z1
 have s2:x2.size<=2:=by rw [<-aa];exact Nat.le_trans (Nat.le_of_eq (bs_size _)) z2
 have HI:Hid ((((⟨#[109,97,116,99,104,32]⟩:ByteArray)++x1)++(⟨#[32]⟩:ByteArray))++x2++(⟨#[10]⟩:ByteArray)=bs (matJ v n es 0)):=by
  show _=_
  rw [matJ_zero,<-ab,<-aa];have g1:(⟨#[109,97,116,99,104,32]⟩:ByteArray)=bs (maW++[32]):=rfl;have g2:(⟨#[32]⟩:ByteArray)=bs [32]:=rfl;have g3:(⟨#[10]⟩:ByteArray)=bs [10]:=rfl;simp only [g1,g2,g3,bs_cat,hdT]
 have aB:Hid ((matJ v n es 0).length<=60*0+40):=by
  show _<=_
  rw [matJ_zero];simp only [hdT,List.length_append,List.length_cons,List.length_nil,maW];omega
 rw [ab] at CV;rw [aa] at CN;obtain⟨T1,af⟩:=eX ((⟨#[109,97,116,99,104,32]⟩:ByteArray)++x1);have u1:T1.size<=17:=by rw [<-af,ByteArray.size_append];show 6+x1.size<=17;omega
 obtain⟨T2,ae⟩:=eX (T1++(⟨#[32]⟩:ByteArray));have u2:T2.size<=18:=by rw [<-ae,ByteArray.size_append];show T1.size+1<=18;omega
 obtain⟨T3,ad⟩:=eX (T2++x2);have u3:T3.size<=20:=by rw [<-ad,ByteArray.size_append];omega
 obtain⟨T4,ap⟩:=eX (T3++(⟨#[10]⟩:ByteArray));rw [af,ae,ad,ap] at HI;have G1:Hid (¬ 9223372036854775807<6+x1.size):=kD (by omega);have G2:Hid (¬ 9223372036854775807<T1.size+1):=kD (by omega);have G3:Hid (¬ 9223372036854775807<T2.size+x2.size):=kD (by omega);have G4:Hid (¬ 9223372036854775807<T3.size+1):=kD (by omega);have P:=kD af;have O:=kD ae;have N:=kD ad;have J:=kD ap;have ay:=kD (matJ_end v n es);obtain⟨M,hM⟩:=eX (es.length);rw [hM] at hm ay ⊢;have HM:=kD hM;clear ab aa s1 s2 z1 z2 u1 u2 u3 af ae ad ap hv hn hes hM;go_enter func38,ntmps38;go_upto_region 1 with fail;refine wp_gen (λ W'=>Rows w W' [(0,37,[iL v.p,iL v.c,iL v.h,iL v.s,iL n,.slice Ae M ce])]) ⟨by go_grown,λ p hp=>?_⟩ ?_
 ·obtain rfl:=List.mem_singleton.1 hp;exact nW
 intro w1 K;have W:=kD K;clear K;refine region_rel [some 5,some 6,some 7,some 8,some 9,some 10,some 11,some 12,some 13,some 14,some 3] 11 (Pl [some (pT w.heap.size 0),some (vA v),some (.string x1),some (.string T1),some (.string T2),some (pT w.heap.size 4),some (iL n),some (.string x2),some (.string T3),some (.string T4),some (.string T4)]) (λ L d w'=>Below w1.heap.size w1 w') (by kernel_rfl) (by kernel_rfl) (by kernel_rfl) (by kernel_rfl) (by kernel_rfl) (by kernel_rfl) (by first | kernel_rfl | rfl) ?g0_1 ?gst_1 ?gfin_1
 case g0_1=>exact(zRf).drew
 case gst_1 =>
  refine rN rfl (λ L d A B l o m U F K t=>?_) ?_
  ·have e1:=U.w 1 (pT w.heap.size 0);have C:=(W.out.below F).nth0 0 rfl;have D:=C.c6;have r0:=D.1;have r1:=D.2.1;have r2:=D.2.2.1;have r3:=D.2.2.2.1;have r4:=D.2.2.2.2.1;have an:=C.lt;clear C D;have y:=G1.out;have x:=G2.out;have R:=G3.out;have Q:=G4.out;have T:=P.out;have t2:=O.out;have t3:=N.out;have t4:=J.out;go_simp;exact pF t (F)
  refine rN rfl (λ L d A B l o m U F K t=>?_) ?_
  ·have e5:=U.v 0 5;have C:=(W.out.below F).nth0 0 rfl;have D:=C.c6;have r0:=D.1;have r1:=D.2.1;have r2:=D.2.2.1;have r3:=D.2.2.2.1;have r4:=D.2.2.2.2.1;have an:=C.lt;clear C D;have y:=G1.out;have x:=G2.out;have R:=G3.out;have Q:=G4.out;have T:=P.out;have t2:=O.out;have t3:=N.out;have t4:=J.out;go_simp;exact pF t (F)
  refine rN rfl (λ L d A B l o m U F K t=>?_) ?_
  ·have e6:=U.v 1 6;go_simp;refine(CV.out B).mono ?_;rintro e w6 ⟨rfl,X⟩;exact pF t (F.tR X)
  refine rN rfl (λ L d A B l o m U F K t=>?_) ?_
  ·have e7:=U.v 2 7;have y:=G1.out;have x:=G2.out;have R:=G3.out;have Q:=G4.out;have T:=P.out;have t2:=O.out;have t3:=N.out;have t4:=J.out;go_simp;exact pF t (F)
  refine rN rfl (λ L d A B l o m U F K t=>?_) ?_
  ·have e8:=U.v 3 8;have y:=G1.out;have x:=G2.out;have R:=G3.out;have Q:=G4.out;have T:=P.out;have t2:=O.out;have t3:=N.out;have t4:=J.out;go_simp;exact pF t (F)
  refine rN rfl (λ L d A B l o m U F K t=>?_) ?_
  ·have e1:=U.w 1 (pT w.heap.size 0);have C:=(W.out.below F).nth0 0 rfl;have D:=C.c6;have r0:=D.1;have r1:=D.2.1;have r2:=D.2.2.1;have r3:=D.2.2.2.1;have r4:=D.2.2.2.2.1;have an:=C.lt;clear C D;have y:=G1.out;have x:=G2.out;have R:=G3.out;have Q:=G4.out;have T:=P.out;have t2:=O.out;have t3:=N.out;have t4:=J.out;go_simp;exact pF t (F)
  refine rN rfl (λ L d A B l o m U F K t=>?_) ?_
  ·have aU:=U.v 5 10;have C:=(W.out.below F).nth0 0 rfl;have D:=C.c6;have r0:=D.1;have r1:=D.2.1;have r2:=D.2.2.1;have r3:=D.2.2.2.1;have r4:=D.2.2.2.2.1;have an:=C.lt;clear C D;have y:=G1.out;have x:=G2.out;have R:=G3.out;have Q:=G4.out;have T:=P.out;have t2:=O.out;have t3:=N.out;have t4:=J.out;go_simp;exact pF t (F)
  refine rN rfl (λ L d A B l o m U F K t=>?_) ?_
  ·have aT:=U.v 6 11;go_simp;refine(CN.out B).mono ?_;rintro e w6 ⟨rfl,X⟩;exact pF t (F.tR X)
  refine rN rfl (λ L d A B l o m U F K t=>?_) ?_
  ·have e9:=U.v 4 9;have aS:=U.v 7 12;have y:=G1.out;have x:=G2.out;have R:=G3.out;have Q:=G4.out;have T:=P.out;have t2:=O.out;have t3:=N.out;have t4:=J.out;go_simp;exact pF t (F)
  refine rN rfl (λ L d A B l o m U F K t=>?_) ?_
  ·have aR:=U.v 8 13;have y:=G1.out;have x:=G2.out;have R:=G3.out;have Q:=G4.out;have T:=P.out;have t2:=O.out;have t3:=N.out;have t4:=J.out;go_simp;exact pF t (F)
  refine rN rfl (λ L d A B l o m U F K t=>?_) ?_
  ·have aQ:=U.v 9 14;have y:=G1.out;have x:=G2.out;have R:=G3.out;have Q:=G4.out;have T:=P.out;have t2:=O.out;have t3:=N.out;have t4:=J.out;go_simp;exact pF t (F)
  exact RelFrom.nil (by decide)
 intro d B hp F;simp only [Fr,Act.put,sX,Nat.reduceAdd];have h4:d 10=.string T4:=hp 10 (by decide) _ rfl;rw [h4,HI.out];have K:=W.out.below F;clear F hp h4 W P O N J G1 G2 G3 G4 CV CN HI;have W:=kD K;clear K;go_wp2_with fail;go_loopw [3,4] (λ s3 i wr=>∃ k:Nat,k<=M∧i=iL (k:Int)∧s3=.string (bs (matJ v n es k))∧Hid (Rows w wr [(0,37,[iL v.p,iL v.c,iL v.h,iL v.s,iL n,.slice Ae M ce])])∧Hid ((matJ v n es k).length<=60*k+40)) (λ _ i _=>M - (intOf i).toNat)
 case atStart=>exact⟨0,Nat.zero_le _,by first | rfl | trivial,rfl,W,aB⟩
 case round =>
  obtain⟨k,hk,rfl,rfl,W,HL⟩:=hrel;have K:=W.out;have rm:=K.nth0 0 rfl;obtain⟨q0,q1,q2,q3,q4,q5⟩:=rm.c6;have V:=rm.lt;by_cases hlt:k<M
  ·obtain⟨ba,oa,e,As,cs,rfl,aw,g,am,ca,cb,D,cd,S⟩:=(aD.out wr K.bel).at_ (i:=k) (by rw [HM.out];exact hlt);have CE:=kD (λ(B:World) (h9:zB wr B)=>levent_s v HV.out e.k e.a e.b e.ss e.r As cs B.heap.size B lR (am.keep (.below h9)).rd);have ao:matJ v n es (k+1)=matJ v n es k++evnT v e++[10]:=matJ_succ aw;have av:=evnT_len HV.out e;obtain⟨ek,ea,eb,ss,er⟩:=e;simp only at ca cb D cd S CE am;obtain⟨sl,ar⟩:=eX (ss.length);rw [ar] at cd CE;have zj:(bs (matJ v n es k)).size<=60*k+40:=by rw [bs_size];exact HL.out
   obtain⟨T,ac⟩:∃ z:ByteArray,bs (evnT v ⟨ek,ea,eb,ss,er⟩)=z:=⟨_,rfl⟩;have zt:T.size<=59:=by rw [<-ac,bs_size];exact av
   have HJ:Hid (bs (matJ v n es k)++T++(⟨#[10]⟩:ByteArray)=bs (matJ v n es (k+1))):=by
    show _=_
    rw [ao,<-ac];have g3:(⟨#[10]⟩:ByteArray)=bs [10]:=rfl;simp only [g3,bs_cat]
   have aA:Hid ((matJ v n es (k+1)).length<=60*(k+1)+40):=by
    show _<=_
    have:=HL.out;rw [ao];simp only [List.length_append,List.length_cons,List.length_nil];omega
   obtain⟨bJ,ax⟩:∃ z:ByteArray,bs (matJ v n es k)=z:=⟨_,rfl⟩;rw [ac] at CE;rw [ax] at zj HJ ⊢;obtain⟨S1,ag⟩:=eX (bJ++T);have zS:S1.size<=60*k+99:=by rw [<-ag,ByteArray.size_append];omega
   obtain⟨S2,aq⟩:=eX (S1++(⟨#[10]⟩:ByteArray));rw [ag,aq] at HJ;have Z:Hid (¬ 9223372036854775807<bJ.size+T.size):=kD (by omega);have Y:Hid (¬ 9223372036854775807<S1.size+1):=kD (by omega);have G:=kD ag;have E:=kD aq;have aE:=iW (((k:Int)+1));clear aw ao av ar am zj ac zt ax ag aq zS HL;have KB:=K;go_upto_region 5 with fail;refine region_rel [some 22,some 23,some 24,some 25,some 26,some 27,some 28,some 29,some 30,some 31,some 32,some 3] 12 (Pl [some (.string bJ),some (pT w.heap.size 0),some (vA v),some (pT w.heap.size 5),some (.slice (sA ba oa) M ce),some (iL (k:Int)),some (pT ba (oa+k*5)),some (.agg #[iL ek,iL ea,iL eb,.slice As sl cs,iL er]),some (.string T),some (.string S1),some (.string S2),some (.string S2)]) (λ L d w'=>Below wr.heap.size wr w') (by kernel_rfl) (by kernel_rfl) (by kernel_rfl) (by kernel_rfl) (by kernel_rfl) (by kernel_rfl) (by first | kernel_rfl | rfl) ?g0_2 ?gst_2 ?gfin_2
   case g0_2=>exact(zRf).drew
   case gst_2 =>
    refine rN rfl (λ L d A B l o m U F K t=>?_) ?_
    ·have e3:A.tmps[3]?.getD undef=.string bJ:=U.z 3 (λ j hl hj=>by obtain rfl:=nd_of _ (by kernel_rfl) j 11 3 hj rfl;exact l (m 11 0 (by kernel_rfl) hl));have y:=Z.out;have x:=Y.out;have I:=G.out;have H:=E.out;go_simp;exact pF t (F)
    refine rN rfl (λ L d A B l o m U F K t=>?_) ?_
    ·have e1:=U.w 1 (pT w.heap.size 0);have C:=(KB.below F).nth0 0 rfl;obtain⟨q0,q1,q2,q3,q4,q5⟩:=C.c6;have V:=C.lt;have al:=(F.cell g).trans ca;have ak:=(F.cell g).trans cb;have aj:=(F.cell g).trans D;have ai:=(F.cell g).trans cd;have ah:=(F.cell g).trans S;clear C;have y:=Z.out;have x:=Y.out;have I:=G.out;have H:=E.out;go_simp;exact pF t (F)
    refine rN rfl (λ L d A B l o m U F K t=>?_) ?_
    ·have aO:=U.v 1 23;have C:=(KB.below F).nth0 0 rfl;obtain⟨q0,q1,q2,q3,q4,q5⟩:=C.c6;have V:=C.lt;have al:=(F.cell g).trans ca;have ak:=(F.cell g).trans cb;have aj:=(F.cell g).trans D;have ai:=(F.cell g).trans cd;have ah:=(F.cell g).trans S;clear C;have y:=Z.out;have x:=Y.out;have I:=G.out;have H:=E.out;go_simp;exact pF t (F)
    refine rN rfl (λ L d A B l o m U F K t=>?_) ?_
    ·have e1:=U.w 1 (pT w.heap.size 0);have C:=(KB.below F).nth0 0 rfl;obtain⟨q0,q1,q2,q3,q4,q5⟩:=C.c6;have V:=C.lt;have al:=(F.cell g).trans ca;have ak:=(F.cell g).trans cb;have aj:=(F.cell g).trans D;have ai:=(F.cell g).trans cd;have ah:=(F.cell g).trans S;clear C;have y:=Z.out;have x:=Y.out;have I:=G.out;have H:=E.out;go_simp;exact pF t (F)
    refine rN rfl (λ L d A B l o m U F K t=>?_) ?_
    ·have aM:=U.v 3 25;have C:=(KB.below F).nth0 0 rfl;obtain⟨q0,q1,q2,q3,q4,q5⟩:=C.c6;have V:=C.lt;have al:=(F.cell g).trans ca;have ak:=(F.cell g).trans cb;have aj:=(F.cell g).trans D;have ai:=(F.cell g).trans cd;have ah:=(F.cell g).trans S;clear C;have y:=Z.out;have x:=Y.out;have I:=G.out;have H:=E.out;go_simp;exact pF t (F)
    refine rN rfl (λ L d A B l o m U F K t=>?_) ?_
    ·have e4:=U.w 4 (iL (k:Int));have y:=Z.out;have x:=Y.out;have I:=G.out;have H:=E.out;go_simp;exact pF t (F)
    refine rN rfl (λ L d A B l o m U F K t=>?_) ?_
    ·have aL:=U.v 4 26;have aK:=U.v 5 27;have y:=Z.out;have x:=Y.out;have I:=G.out;have H:=E.out;go_simp;exact pF t (F)
    refine rN rfl (λ L d A B l o m U F K t=>?_) ?_
    ·have aJ:=U.v 6 28;have C:=(KB.below F).nth0 0 rfl;obtain⟨q0,q1,q2,q3,q4,q5⟩:=C.c6;have V:=C.lt;have al:=(F.cell g).trans ca;have ak:=(F.cell g).trans cb;have aj:=(F.cell g).trans D;have ai:=(F.cell g).trans cd;have ah:=(F.cell g).trans S;clear C;have y:=Z.out;have x:=Y.out;have I:=G.out;have H:=E.out;go_simp;exact pF t (F)
    refine rN rfl (λ L d A B l o m U F K t=>?_) ?_
    ·have aN:=U.v 2 24;have aI:=U.v 7 29;go_simp;refine(CE.out B F).mono ?_;rintro e w6 ⟨rfl,X⟩;exact pF t (F.tR X)
    refine rN rfl (λ L d A B l o m U F K t=>?_) ?_
    ·have aP:=U.v 0 22;have aH:=U.v 8 30;have y:=Z.out;have x:=Y.out;have I:=G.out;have H:=E.out;go_simp;exact pF t (F)
    refine rN rfl (λ L d A B l o m U F K t=>?_) ?_
    ·have aG:=U.v 9 31;have y:=Z.out;have x:=Y.out;have I:=G.out;have H:=E.out;go_simp;exact pF t (F)
    refine rN rfl (λ L d A B l o m U F K t=>?_) ?_
    ·have aF:=U.v 10 32;have y:=Z.out;have x:=Y.out;have I:=G.out;have H:=E.out;go_simp;exact pF t (F)
    exact RelFrom.nil (by decide)
   intro d B hp F;simp only [Fr,Act.put,sX,Nat.reduceAdd];have h4:d 11=.string S2:=hp 11 (by decide) _ rfl;rw [h4];have aC:=kD (KB.below F);clear F hp h4 K KB W q0 q1 q2 q3 q4 q5 V rm ca cb D cd S g CE;go_wp2_with fail;go_roundw
   case rel=>exact⟨k+1,by omega,by first | rfl | go_num,by rw [HJ.out],aC,aA⟩
   case measure=>simp [intOf];omega
  ·obtain rfl:M=k:=by omega
   have az:=K.bel;clear K W;go_wp2_with fail;go_ret;exact⟨by first | rfl | (rw [ay.out];rfl),az⟩
theorem mtext_s (v:Vr) (n:Int) (es:List Ev) (Ae:Option Addr) (ce:Nat) (w:World) (hes:EvL w All Ae es) :
  Calls prog 13 #[.agg #[iL v.p,iL v.c,iL v.h,iL v.s,iL n,.slice Ae es.length ce]] w λ f w'=>f=.returned (.string (bs (matX v n es)))∧Below w.heap.size w w':=by
 obtain⟨k,a⟩:=eX ((finS v n es).isSome);have A:=kD (λ(i:World) (z:zB w i)=>ismatch_s v n es Ae ce i (hes.keep (.below z)) k a);have l:=kD (λ(i:World) (z:zB w i) (h:k=true)=>ltext_s v n es Ae ce (head_parts (fin_parts (a.trans h)).1).1 (head_parts (fin_parts (a.trans h)).1).2.2 (fin_parts (a.trans h)).2 i (hes.keep (.below z)));have C:matX v n es=if k=true then matT v n es else []:=by unfold matX;rw [a]
 rw [C];obtain⟨T,B⟩:=eX (matT v n es);rw [B] at l ⊢;obtain⟨M,D⟩:=eX (es.length);rw [D] at A l ⊢;clear hes a D C B;go_enter func13,ntmps13;go_upto_region 1 with fail;refine wp_gen (λ F=>Rows w F [(0,37,[iL v.p,iL v.c,iL v.h,iL v.s,iL n,.slice Ae M ce])]) ⟨by go_grown,λ p E=>?_⟩ ?_
 ·obtain rfl:=List.mem_singleton.1 E;exact nW
 intro I K;have d:=K.nth0 0 rfl;obtain⟨x,t,r,q,o,m⟩:=d.c6;have g:=d.lt;go_wp2_with fail;refine(A.out _ K.bel).mono ?_;rintro e H ⟨rfl,j⟩;have K:=K.below j;clear d g x t r q o m j A;have d:=K.nth0 0 rfl;obtain⟨x,t,r,q,o,m⟩:=d.c6;have g:=d.lt
 cases k with
 | false =>
  go_wp2_with fail;go_ret;exact⟨rfl,K.bel⟩
 | true =>
  go_wp2_with fail;refine(l.out _ K.bel (by first | rfl | trivial)).mono ?_;rintro e G ⟨rfl,j⟩;have y:=(K.below j).bel;clear d g x t r q o m j l K;go_wp2_with fail;go_ret;exact⟨rfl,y⟩
end Gm
namespace DwC
open Go Go.ChangeShapes Go.WideShapes Go.ChangeAt Go.RowKit Base Ints Own RelG PlP TxP Gm RegInv RegF RegG Bd1 Bd5 Draw DrawD DwP DwQ DwA DwB TsI
theorem own_below {w w1 w2:World} {o:Obj} {row:Option Nat} (hb:zB w w1) (hg:(w1.alloc o).grownBy w2 row) (hr:∀ q,row=some q->w1.heap.size<=q):Below w1.heap.size w1 w2 :=
 ((zRf).alloc lR _).grown hg (by simp) hr
theorem eown_s (e:Ev) (As:Option Addr) (cs:Nat) (w:World) (hs:RdF w All 4 enSt As e.ss) (hl:e.ss.length<=1048576) :
  Calls prog 77 #[.agg #[iL e.k,iL e.a,iL e.b,.slice As e.ss.length cs,iL e.r]] w λ f w'=>∃ A' c',f=.returned (.agg #[iL e.k,iL e.a,iL e.b,.slice A' e.ss.length c',iL e.r])∧OwnS w' w.heap.size w'.heap.size 111 4 enSt (.slice A' e.ss.length c') e.ss∧Below w.heap.size w w':=by
 obtain⟨i4,L,H,G,F⟩:=info_parts infoSt;obtain⟨k,a,b,D,r⟩:=e;simp only at hs hl ⊢;obtain⟨n,J⟩:=eX (D.length);have Y:=kD J;have HS:=kD (λ(S:World) (h9:zB w S)=>(hs.keep (.below h9)).rd);rw [J] at hl ⊢;clear J hs;go_enter func77,ntmps77;go_upto_region 1 with fail;refine wp_gen (λ B=>Gm.Rows w B [(0,28,[iL k,iL a,iL b,.slice As n cs,iL r]),(1,28,[iL 0,iL 0,iL 0,.slice none 0 0,iL 0])]) ⟨by go_grown,λ p V=>?_⟩ ?_
 ·simp only [List.mem_cons,List.not_mem_nil,or_false] at V;rcases V with rfl | rfl
  ·exact(nW).alloc _
  ·exact nX
 intro C K;have d:=K.nth0 0 rfl;obtain⟨s,o,m,l,j⟩:=d.c5;have g:=d.lt;have R:=kD K;have ab:=(K.nth 1 rfl).lt;have X:=kD (HS.out (C.alloc (.cells #[] 111)) (K.bel.alloc K.bel.size _));go_wp2_with (at_builtin;refine wpL_appR rfl _ _ _ rfl C.heap.size _ 111 i4 (.agg #[iL 0,iL 0,iL 0,.bool false]) 4 32 Tryz.underlying26 L H G F rfl (by decide) enSt_len _ [] D (λ x _=>one_St x) rfl ((RowB.new C 111 []).own (xs:=([]:List Stp)) (en:=enSt) enSt_len lR (Nat.lt_succ_self _) (by decide)) As n cs _ (by first | rfl | (simp;rfl)) Y.out.symm X.out (by unfold maxLen;simp;omega) (by simp;omega) ?c1 ?c2 ?_)
 case c1=>simp
 case c2=>simp
 intro v' S c W O
 try rw [List.nil_append] at c
 have A:=own_below R.out.bel W (λ q y=>by simp [Value.ownBlock] at y;omega);obtain⟨A',c',t,-⟩:=c.form enSt_len;rw [Y.out] at t;subst t;have K:=R.out.below A;have i:=kD (c.less (lo':=w.heap.size+2) (by omega));clear W O c s o m l j g d X R A;have d:=K.nth0 0 rfl;obtain⟨s,o,m,l,j⟩:=d.c5;have g:=d.lt;have M:=d.frozen;have I:=(K.nth 1 rfl).lt;have z:=i.out.block;have Q:=kD z;clear z;go_upto_region 2 with fail;refine wp_gen (λ B=>Gm.Rows w B [(0,28,[iL k,iL a,iL b,.slice A' n c',iL r]),(1,28,[iL 0,iL 0,iL 0,.slice none 0 0,iL 0])]∧OwnS B (w.heap.size+2) B.heap.size 111 4 enSt (.slice A' n c') D) ⟨by have:=K.set1 0 3 (.slice A' n c');simpa using this,(i.out.grown (Base.grownBy_setCell _ _ _ _) (λ q y=>by simp at y;omega)).more (by simp)⟩ ?_;clear K i s o m l j g M d I Q;rintro aa ⟨K,i⟩;have d:=K.nth0 0 rfl;obtain⟨s,o,m,l,j⟩:=d.c5;have g:=d.lt;have T:=K.nth 1 rfl;have i:=kD i;go_wp2_with (refine wM 28 0 [iL k,iL a,iL b,.slice A' n c',iL r] T ?_;intro w7 E h z7;refine Hid.out ?_);have N:=(K.grown 1 E h).bel;have P:=(i.out.grown h (λ q y=>by simp at y;omega)).more h.size;obtain⟨z0,z1,z2,z3,Z⟩:=E.c5;have ac:=E.lt;clear h T K i s o m l j g d;refine kD ?_
 repeat (first | go_values | go_skip | go_step | go_upon)
 refine bodyPost_ret (v:=.agg #[iL k,iL a,iL b,.slice A' n c',iL r]) (by simp [results,results77,go_sem,z0,z1,z2,z3,Z]) rfl ?_;exact⟨A',c',rfl,P.less (by omega),N⟩
structure AdF (w w1:World) (lo:Nat) (u:Value) (v:Vr) (n:Int) (X:List Ev) (e:Ev) (N:Nat) (P:World->Prop) (p6 p7 p8 p9 p10:Prop) (v6 v7 v8 v9:Value) (w':World):Prop where
 rw:¬ p10->P w'
 pre:¬ p8->Below w1.heap.size w1 w'
 f6:p6->¬ p8->∃ A' c',v6=.agg #[iL e.k,iL e.a,iL e.b,.slice A' N c',iL e.r]∧OwnS w' w1.heap.size w'.heap.size 111 4 enSt (.slice A' N c') e.ss
 f7:p7->¬ p8->∃ A' c' q,v7=.slice (sA q 0) 1 1∧RowB w' q 28 [iL e.k,iL e.a,iL e.b,.slice A' N c',iL e.r]∧OwnS w' w1.heap.size w'.heap.size 111 4 enSt (.slice A' N c') e.ss
 f8:p8->¬ p10->∃ g m c,v8=.slice (sA g 0) m c∧Evs w' lo v8 X∧w1.grownBy w' u.ownBlock
 f9:p9->∃ g m c,v8=.slice (sA g 0) m c∧v9=.agg #[iL v.p,iL v.c,iL v.h,iL v.s,iL n,v8]
 f10:p10->∃ g m c,v8=.slice (sA g 0) m c∧Evs w' lo v8 X∧RowB w' (w.heap.size+2) 37 [iL v.p,iL v.c,iL v.h,iL v.s,iL n,v8]∧Below w.heap.size w w'
section
variable {w w1 w' w'':World} {lo N:Nat} {u:Value} {v:Vr} {n:Int} {X:List Ev} {e:Ev} {P:World->Prop} {L:Nat->Prop} {vals:Nat->Value}
theorem AdF.skip (F:AdF w w1 lo u v n X e N P (L 6) (L 7) (L 8) (L 9) (L 10) (vals 6) (vals 7) (vals 8) (vals 9) w') (k:Nat) (x:Value) (h:6≠k∧7≠k∧8≠k∧9≠k∧10≠k:=by decide) :
  AdF w w1 lo u v n X e N P (6=k∨L 6) (7=k∨L 7) (8=k∨L 8) (9=k∨L 9) (10=k∨L 10) (upd vals k x 6) (upd vals k x 7) (upd vals k x 8) (upd vals k x 9) w':=by
 rw [or_ne h.1,or_ne h.2.1,or_ne h.2.2.1,or_ne h.2.2.2.1,or_ne h.2.2.2.2,upd_ne h.1,upd_ne h.2.1,upd_ne h.2.2.1,upd_ne h.2.2.2.1];exact F
end
theorem add_s (v:Vr) (n:Int) (es:List Ev) (Ae:Option Addr) (ce:Nat) (e:Ev) (As:Option Addr) (cs:Nat) (w:World) (hes:EvL w All Ae es) (hs:RdF w All 4 enSt As e.ss) (hl:e.ss.length<=1048576) (hls:∀ x ∈ es,x.ss.length<=1048576) (hle:es.length<=1048576) :
  Calls prog 47 #[.agg #[iL v.p,iL v.c,iL v.h,iL v.s,iL n,.slice Ae es.length ce],.agg #[iL e.k,iL e.a,iL e.b,.slice As e.ss.length cs,iL e.r]] w λ f w'=>∃ A' c',f=.returned (.agg #[iL v.p,iL v.c,iL v.h,iL v.s,iL n,.slice A' (es.length+1) c'])∧Evs w' w.heap.size (.slice A' (es.length+1) c') (es++[e])∧Below w.heap.size w w':=by
 obtain⟨i5,ao,ak,aj,ai⟩:=info_parts infoE;have CO:=kD (λ(x:Ev) (A1:Option Addr) (c1:Nat) (y:World) (h1:RdF y All 4 enSt A1 x.ss) (h2:x.ss.length<=1048576)=>eown_s x A1 c1 y h1 h2);have CE:=kD (λ(y:World) (h9:zB w y)=>eown_s e As cs y (hs.keep (.below h9)) hl);have aM:=kD hls;have aO:=kD hes;obtain⟨k,a,b,ss,r⟩:=e;simp only at CE ⊢;obtain⟨N,hN⟩:=eX (ss.length);rw [hN] at CE ⊢;obtain⟨M,hM⟩:=eX (es.length);have HM:=kD hM;rw [hM] at hle ⊢;have aE:=hes.len;rw [hM] at aE;clear hes hs hl hls hN hM;go_enter func47,ntmps47;go_upto_region 1 with fail;refine wp_gen (λ W'=>Gm.Rows w W' [(0,37,[iL v.p,iL v.c,iL v.h,iL v.s,iL n,.slice Ae M ce]),(1,28,[iL k,iL a,iL b,.slice As N cs,iL r]),(2,37,[iL 0,iL 0,iL 0,iL 0,iL 0,.slice none 0 0])]) ⟨by go_grown,λ p J=>?_⟩ ?_
 ·simp only [List.mem_cons,List.not_mem_nil,or_false] at J;rcases J with rfl | rfl | rfl
  ·exact((nW).alloc _).alloc _
  ·exact(nX).alloc _
  ·exact nX
 intro w1 K;have aW:=(K.nth 2 rfl).lt;have C:Hid (Evs (w1.alloc (.cells #[] 28)) (w.heap.size+3) (.slice (sA w1.heap.size 0) 0 0) (es.take 0)):=kD ⟨[],(RowB.new w1 28 []).own (xs:=([]:List ERow)) (en:=enEv) enEv_len (by omega) (by simp) (by simp),LsR.nil _ _ _,List.Pairwise.nil⟩;have R:=kD (K.below ((Below.refl w1.heap.size w1).alloc lR (.cells #[] 28)));clear K;go_wp2_with fail;go_loopw [5,6] (λ s5 s6 wr=>∃(i:Nat),s6=iL (i:Int)∧i<=M∧Hid (Evs wr (w.heap.size+3) s5 (es.take i))∧Hid (Gm.Rows w wr [(0,37,[iL v.p,iL v.c,iL v.h,iL v.s,iL n,.slice Ae M ce]),(1,28,[iL k,iL a,iL b,.slice As N cs,iL r]),(2,37,[iL 0,iL 0,iL 0,iL 0,iL 0,.slice none 0 0])])) (λ _ s6 _=>M - (intOf s6).toNat)
 case atStart=>exact⟨0,by first | rfl | trivial,Nat.zero_le _,C,R⟩
 case round =>
  obtain⟨i,rfl,O,C,R⟩:=hrel;obtain⟨A5,c5,e5⟩:=C.out.form;rw [List.length_take,HM.out,Nat.min_eq_left O] at e5;subst e5;have K:=R.out;have rm:=K.nth0 0 rfl;obtain⟨q0,q1,q2,q3,q4,q5⟩:=rm.c6;have H:=rm.lt;by_cases hlt:i<M
  ·obtain⟨ba,oa,x,A1,c1,rfl,ae,G,al,ca,cb,cc,cd,Z⟩:=aO.out.at_ (i:=i) (by rw [HM.out];exact hlt);have D:=K.bel;have ca:=(D.cell (p:=⟨ba,oa+i*5,none⟩) G).trans ca;have cb:=(D.cell (p:=⟨ba,oa+i*5+1,none⟩) G).trans cb;have cc:=(D.cell (p:=⟨ba,oa+i*5+2,none⟩) G).trans cc;have cd:=(D.cell (p:=⟨ba,oa+i*5+3,none⟩) G).trans cd;have Z:=(D.cell (p:=⟨ba,oa+i*5+4,none⟩) G).trans Z;have G:=Nat.lt_of_lt_of_le G D.size;have C1:=kD (CO.out x A1 c1 wr (al.keep (.below D)) (aM.out x (List.mem_of_getElem? ae)));have HT:=kD (show es.take (i+1)=es.take i++[x] from takeS ae);obtain⟨xk,xa,xb,xs,xr⟩:=x;simp only at ca cb cc cd Z C1;obtain⟨m,hm⟩:=eX (xs.length);rw [hm] at cd C1;clear ae al D hm;go_wp2_with fail;refine C1.out.mono ?_;rintro f w2 ⟨A',c',rfl,S,hb⟩;have aU:=hb.size;have K:=R.out.below hb;have aV:=(K.nth 2 rfl).lt;have aB:=(R.out.nth 2 rfl).lt;obtain⟨rs,ab,P,ac⟩:=Evs.app C.out (by omega) (grown_bel (row:=some w.heap.size) (hb.alloc hb.size (.cells #[iL xk,iL xa,iL xb,.slice A' m c',iL xr] 28))) (by omega) xk xa xb xr (.slice A' m c') xs ((S.alloc _).more (by simp));rw [List.length_take,HM.out,Nat.min_eq_left O] at P;have az:=kD ac;have aa:=kD (K.below ((zRf).alloc lR (.cells #[iL xk,iL xa,iL xb,.slice A' m c',iL xr] 28)));have E:=C.out.block;have ah:=kD E;clear E ac S K R C q0 q1 q2 q3 q4 q5 H rm ca cb cc cd Z G hb C1;go_wp2_with (at_builtin;refine wpL_one rfl _ _ _ rfl (w.heap.size+3) _ 28 i5 (.agg #[iL 0,iL 0,iL 0,.slice none 0 0,iL 0]) 5 56 Tryz.underlying35 ao ak aj ai rfl (by decide) enEv_len (.slice A5 i c5) rs (xk,xa,xb,.slice A' m c',xr) (one_Ev _ rfl) rfl ab w2.heap.size 1 28 (by first | rfl | (simp;rfl)) (nW) ?c1 ?c2 ?c3 ?_)
   case c1=>unfold maxLen;omega
   case c2=>omega
   case c3=>first | omega | (simp;omega)
   intro g aK w3 S hg aq an;have ag:=kD (az.out g _ _ _ S hg (aq.imp id (λ h=>by rw [World.size_alloc];exact h)))
   try rw [P] at ag
   have K3:Gm.Rows w w3 [(0,37,[iL v.p,iL v.c,iL v.h,iL v.s,iL n,.slice (sA ba oa) M ce]),(1,28,[iL k,iL a,iL b,.slice As N cs,iL r]),(2,37,[iL 0,iL 0,iL 0,iL 0,iL 0,.slice none 0 0])]:=⟨aa.out.bel.grown hg aa.out.bel.size (λ q hq=>by have:=(ah.out q hq).1;omega),λ p J=>by
    have h0:=aa.out.at_ _ J;simp only [List.mem_cons,List.not_mem_nil,or_false] at J;rcases J with rfl | rfl | rfl <;> exact h0.grown hg (λ q hq=>by have:=(ah.out q hq).1;simp only;omega)⟩
   have aN:=kD K3;have aP:Hid (Evs w3 (w.heap.size+3) (.slice (sA g 0) (i+1) aK) (es.take (i+1))):=by
    show Evs _ _ _ _
    rw [HT.out];exact ag.out
   have aT:=iW (((i:Int)+1))
   try rw [P]
   clear S hg aq an ag K3 ab az aa ah P;go_wp2_with fail;go_roundw
   case rel=>exact⟨i+1,by first | rfl | go_num,by omega,aP,aN⟩
   case measure=>simp [intOf];omega
  ·obtain rfl:M=i:=by omega
   have HX:Hid (es.take M=es):=kD (by rw [<-HM.out];exact List.take_length);rw [HX.out] at C;have aQ:=kD (λ(y:World) (h9:zB wr y)=>CE.out y (K.bel.tR h9));go_upto_region 6 with fail;clear q0 q1 q2 q3 q4 q5 H rm;have aB:=(K.nth 2 rfl).lt;clear K;refine region_rel [some 24,some 25,some 26,some 27,some 28,some 29,some 30,some 31,some 32,some 33,none] 11 (Pl [some (pT w.heap.size 0),some (vA v),some (pT w.heap.size 4),some (iL n),some (.slice A5 M c5),some (.agg #[iL k,iL a,iL b,.slice As N cs,iL r]),none,none,none,none,none]) (λ L l w'=>AdF w wr (w.heap.size+3) (.slice A5 M c5) v n (es++[⟨k,a,b,ss,r⟩]) ⟨k,a,b,ss,r⟩ N (λ W=>Gm.Rows w W [(0,37,[iL v.p,iL v.c,iL v.h,iL v.s,iL n,.slice Ae M ce]),(1,28,[iL k,iL a,iL b,.slice As N cs,iL r]),(2,37,[iL 0,iL 0,iL 0,iL 0,iL 0,.slice none 0 0])]) (L 6) (L 7) (L 8) (L 9) (L 10) (l 6) (l 7) (l 8) (l 9) w') (by kernel_rfl) (by kernel_rfl) (by kernel_rfl) (by kernel_rfl) (by kernel_rfl) (by kernel_rfl) (by first | kernel_rfl | rfl) ?g0_1 ?gst_1 ?gfin_1
   case g0_1=>exact⟨λ _=>R.out.below (zRf).drew,λ _=>(zRf).drew,λ h=>absurd h (by decide),λ h=>absurd h (by decide),λ h=>absurd h (by decide),λ h=>absurd h (by decide),λ h=>absurd h (by decide)⟩
   case gst_1 =>
    refine rN rfl (λ L l A y d o j U F K B=>?_) ?_
    ·have e2:=U.w 2 (pT w.heap.size 0);have t:=F.rw (λ h=>d (j 10 0 (by kernel_rfl) h));obtain⟨q0,q1,q2,q3,q4,q5⟩:=(t.nth0 0 rfl).c6;have H:=(t.nth0 0 rfl).lt;obtain⟨r0,r1,r2,r3,r4⟩:=(t.nth 1 rfl).c5;have V:=(t.nth 1 rfl).lt;clear t;go_simp;exact pF B (F.skip 0 _)
    refine rN rfl (λ L l A y d o j U F K B=>?_) ?_
    ·have a2:=U.v 0 24;have t:=F.rw (λ h=>d (j 10 1 (by kernel_rfl) h));obtain⟨q0,q1,q2,q3,q4,q5⟩:=(t.nth0 0 rfl).c6;have H:=(t.nth0 0 rfl).lt;obtain⟨r0,r1,r2,r3,r4⟩:=(t.nth 1 rfl).c5;have V:=(t.nth 1 rfl).lt;clear t;go_simp;exact pF B (F.skip 1 _)
    refine rN rfl (λ L l A y d o j U F K B=>?_) ?_
    ·have e2:=U.w 2 (pT w.heap.size 0);have t:=F.rw (λ h=>d (j 10 2 (by kernel_rfl) h));obtain⟨q0,q1,q2,q3,q4,q5⟩:=(t.nth0 0 rfl).c6;have H:=(t.nth0 0 rfl).lt;obtain⟨r0,r1,r2,r3,r4⟩:=(t.nth 1 rfl).c5;have V:=(t.nth 1 rfl).lt;clear t;go_simp;exact pF B (F.skip 2 _)
    refine rN rfl (λ L l A y d o j U F K B=>?_) ?_
    ·have a0:=U.v 2 26;have t:=F.rw (λ h=>d (j 10 3 (by kernel_rfl) h));obtain⟨q0,q1,q2,q3,q4,q5⟩:=(t.nth0 0 rfl).c6;have H:=(t.nth0 0 rfl).lt;obtain⟨r0,r1,r2,r3,r4⟩:=(t.nth 1 rfl).c5;have V:=(t.nth 1 rfl).lt;clear t;go_simp;exact pF B (F.skip 3 _)
    refine rN rfl (λ L l A y d o j U F K B=>?_) ?_
    ·have e5:=U.w 5 (.slice A5 M c5);have t:=F.rw (λ h=>d (j 10 4 (by kernel_rfl) h));clear t;go_simp;exact pF B (F.skip 4 _)
    refine rN rfl (λ L l A y d o j U F K B=>?_) ?_
    ·have e3:=U.w 3 (pT (w.heap.size+1) 0);have t:=F.rw (λ h=>d (j 10 5 (by kernel_rfl) h));obtain⟨q0,q1,q2,q3,q4,q5⟩:=(t.nth0 0 rfl).c6;have H:=(t.nth0 0 rfl).lt;obtain⟨r0,r1,r2,r3,r4⟩:=(t.nth 1 rfl).c5;have V:=(t.nth 1 rfl).lt;clear t;go_simp;exact pF B (F.skip 5 _)
    refine rN rfl (λ L l A y d o j U F K B=>?_) ?_
    ·have aY:=U.v 5 29;have z:=F.pre (λ h=>d (j 8 6 (by kernel_rfl) h));go_simp;refine(aQ.out y z).mono ?_;rintro f w6 ⟨A7,c7,rfl,S,ap⟩;exact B.out _ w6 (Pl.any rfl) ⟨λ h=>(F.rw (λ q=>h (.inr q))).below ap,λ _=>z.tR ap,λ _ _=>⟨A7,c7,upd_same _ _ _,S.less z.size⟩,λ h hn=>absurd (j 7 6 (by kernel_rfl) (rL h)) d,λ h=>absurd (j 8 6 (by kernel_rfl) (rL h)) d,λ h=>absurd (j 9 6 (by kernel_rfl) (rL h)) d,λ h=>absurd (j 10 6 (by kernel_rfl) (rL h)) d⟩
    refine rN rfl (λ L l A y d o j U F K B=>?_) ?_
    ·have ay:=U.x 6 30;have z:=F.pre (λ h=>d (j 8 7 (by kernel_rfl) h));refine(F.f6 (bK o 6) (λ h=>d (j 8 7 (by kernel_rfl) h))).elim λ A7 q=>?_
     refine q.elim λ c7 q=>?_
     have aS:=ay.trans q.1;have S:=q.2;have qv:=q.1;clear ay q;go_simp;exact B.out _ _ (Pl.any rfl) ⟨λ h=>(F.rw (λ q=>h (.inr q))).below ((zRf).alloc lR _),λ _=>z.alloc z.size _,λ _ _=>⟨A7,c7,by rw [upd_ne (by decide)];exact qv,(S.alloc _).more (by simp)⟩,λ _ _=>⟨A7,c7,y.heap.size,upd_same _ _ _,nW,(S.alloc _).more (by simp)⟩,λ h=>absurd (j 8 7 (by kernel_rfl) (rL h)) d,λ h=>absurd (j 9 7 (by kernel_rfl) (rL h)) d,λ h=>absurd (j 10 7 (by kernel_rfl) (rL h)) d⟩
    refine rN rfl (λ L l A y d o j U F K B=>?_) ?_
    ·have aJ:=U.v 4 28;have aI:=U.x 7 31;have z:=F.pre d;refine(F.f7 (bK o 7) d).elim λ A7 q=>?_
     refine q.elim λ c7 q=>?_
     refine q.elim λ gq q=>?_
     have hE:=Evs.app C.out (by omega) (grown_bel (row:=some w.heap.size) z) (by omega) k a b r (.slice A7 N c7) ss q.2.2;refine hE.elim λ rs hE=>?_
     have P:rs.length=M:=hE.2.1.trans HM.out;have E:=C.out.block;refine wp_one _ _ _ rfl (w.heap.size+3) y.heap.size 28 i5 (.agg #[iL 0,iL 0,iL 0,.slice none 0 0,iL 0]) 5 56 Tryz.underlying35 ao ak aj ai rfl (by decide) enEv_len (.slice A5 M c5) rs (k,a,b,.slice A7 N c7,r) (one_Ev _ rfl) (ev aJ) hE.1 gq 1 28 ((ev aI).trans q.1) q.2.1 (by unfold maxLen;omega) (by omega) (by have:=z.size;omega) ?_;intro ar aL ad am I af aC;have Q:=hE.2.2 ar _ _ ad am I af;have KW:=F.rw (λ h=>d (j 10 8 (by kernel_rfl) h));have KR:Gm.Rows w ad [(0,37,[iL v.p,iL v.c,iL v.h,iL v.s,iL n,.slice Ae M ce]),(1,28,[iL k,iL a,iL b,.slice As N cs,iL r]),(2,37,[iL 0,iL 0,iL 0,iL 0,iL 0,.slice none 0 0])]:=⟨KW.bel.grown I KW.bel.size (λ i O=>by have:=(E i O).1;omega),λ p J=>by
      have h0:=KW.at_ _ J;simp only [List.mem_cons,List.not_mem_nil,or_false] at J;rcases J with rfl | rfl | rfl <;> exact h0.grown I (λ i O=>by have:=(E i O).1;simp only;omega)⟩
     exact B.out _ ad (Pl.any rfl) ⟨λ _=>KR,λ h=>absurd (.inl rfl) h,λ _ h=>absurd (.inl rfl) h,λ _ h=>absurd (.inl rfl) h,λ _ _=>⟨ar,_,aL,upd_same _ _ _,by rw [upd_same];exact Q,below_grown z I⟩,λ h=>absurd (j 9 8 (by kernel_rfl) (rL h)) d,λ h=>absurd (j 10 8 (by kernel_rfl) (rL h)) d⟩
    refine rN rfl (λ L l A y d o j U F K B=>?_) ?_
    ·have a1:=U.v 1 25;have aZ:=U.v 3 27;have ax:=U.x 8 32;refine(F.f8 (bK o 8) (λ h=>d (j 10 9 (by kernel_rfl) h))).elim λ Y q=>?_
     refine q.elim λ m8 q=>?_
     refine q.elim λ T q=>?_
     have aR:=ax.trans q.1;clear ax;have qv:=q.1;go_simp;exact B.out _ y (Pl.any rfl) ⟨λ h=>F.rw (λ q=>h (.inr q)),λ h=>F.pre (λ X=>h (.inr X)),λ h X=>absurd (.inr (bK o 8)) X,λ h X=>absurd (.inr (bK o 8)) X,λ _ _=>⟨Y,m8,T,by rw [upd_ne (by decide)];exact q⟩,λ _=>⟨Y,m8,T,by rw [upd_ne (by decide)];exact qv,by rw [upd_same,upd_ne (by decide),qv]⟩,λ h=>absurd (j 10 9 (by kernel_rfl) (rL h)) d⟩
    refine rN rfl (λ L l A y d o j U F K B=>?_) ?_
    ·have e4:=U.w 4 (pT (w.heap.size+2) 0);have aH:=U.x 9 33;refine(F.f8 (bK o 8) d).elim λ Y q=>?_
     refine q.elim λ m8 q=>?_
     refine q.elim λ T q=>?_
     have q9:=F.f9 (bK o 9);refine q9.elim λ g9 q9=>?_
     refine q9.elim λ m9 q9=>?_
     refine q9.elim λ c9 q9=>?_
     have E:=C.out.block;have rr:=(R.out.nth 2 rfl).grown q.2.2 (λ i O=>by have:=(E i O).1;omega);have aA:l 9=.agg #[iL v.p,iL v.c,iL v.h,iL v.s,iL n,.slice (sA Y 0) m8 T]:=by rw [q9.2,q.1]
     refine wp_sm 37 _ _ rfl (w.heap.size+2) 0 [iL v.p,iL v.c,iL v.h,iL v.s,iL n,.slice (sA Y 0) m8 T] _ (ev e4) (ev (aH.trans aA)) 37 rr (by kernel_rfl) lR rfl ?_;exact B.out undef _ (Pl.any rfl) ⟨λ h=>absurd (.inl rfl) h,λ h=>absurd (.inr (bK o 8)) h,λ h X=>absurd (.inr (bK o 8)) X,λ h X=>absurd (.inr (bK o 8)) X,λ h aF=>absurd (.inl rfl) aF,λ _=>⟨Y,m8,T,by rw [upd_ne (by decide)];exact q.1,by rw [upd_ne (by decide),upd_ne (by decide)];exact q9.2⟩,λ _=>⟨Y,m8,T,by rw [upd_ne (by decide)];exact q.1,by rw [upd_ne (by decide)];exact Evs.low q.2.1 (grown_cells _ _ _ _) (by omega),by rw [upd_ne (by decide),q.1];exact row_cells _ _ _ _ rr,(R.out.bel.grown q.2.2 R.out.bel.size (λ i O=>by have:=(E i O).1;omega)).grown (grown_cells _ _ _ _) (by have:=q.2.2.size;have:=R.out.bel.size;omega) (λ i O=>by simp at O;omega)⟩⟩
    exact RelFrom.nil (by decide)
   intro l y J F;simp only [Fr,Act.put,sX,Nat.reduceAdd];obtain⟨Y,m8,T,e8,Q,rr,aD⟩:=F.f10 trivial;obtain⟨A8,a3,aw⟩:=Q.form;have e9:=e8.symm.trans aw;simp only [Value.slice.injEq] at e9;rw [List.length_append,HM.out] at e9;obtain⟨aG,av,rfl⟩:=e9;simp only [List.length_cons,List.length_nil,Nat.zero_add] at av;subst av;rw [e8] at rr Q;clear F J aw aG;obtain⟨z0,z1,z2,z3,z4,z5⟩:=rr.c6;have aX:=rr.lt
   repeat (first | go_values | go_skip | go_step | go_upon)
   refine bodyPost_ret (v:=.agg #[iL v.p,iL v.c,iL v.h,iL v.s,iL n,.slice (sA Y 0) (M+1) T]) (by simp [results,results47,go_sem,z0,z1,z2,z3,z4,z5]) rfl ?_;exact⟨_,T,rfl,Q.less (by omega),aD⟩
end DwC
namespace Gm
open Go Go.ChangeShapes Go.WideShapes Go.ChangeAt Go.RowKit Base Ints Own RelG PlP TxP Num Bd1 Bd5 Bd8 RegInv RegF RegG TxI TsI
theorem vtext_i (v:Vr) (w:World) (E:Env w):Calls prog 35 #[vA v] w λ e w'=>e=.returned (.string (bs (vT v)))∧Below w.heap.size w w':=by
 obtain⟨G,f⟩:=eX (okV v);have M:=kD (λ d=>var_i v G f d);have m:=kD f;clear f;go_enter func35,ntmps35;go_upto_region 1 with fail;refine wp_gen (λ O=>Rows w O [(0,25,vL v)]) ⟨by go_grown,λ p B=>?_⟩ ?_
 ·obtain rfl:=List.mem_singleton.1 B;exact nW
 intro R K;obtain⟨y,t,q,n⟩:=(K.nth0 0 rfl).c4;have g:=(K.nth0 0 rfl).lt;go_wp2_with fail;refine(M.out _).mono ?_;rintro e a ⟨rfl,l⟩;have K:=K.below l;clear y t q n g l M;obtain⟨y,t,q,n⟩:=(K.nth0 0 rfl).c4;have g:=(K.nth0 0 rfl).lt
 cases G with
 | false =>
  have j:vT v=[]:=by unfold vT;rw [if_neg (by rw [m.out];decide)]
  have F:=kD j;clear j;go_wp2_with fail;go_ret;exact⟨by first | rfl | (rw [F.out];rfl),K.bel⟩
 | true =>
 have B:=okV_iff.1 m.out;have j:vT v=Lib.join ([v.p,v.c,v.h,v.s].map Lib.itoa) [47]:=by
  rw [vT_at m.out];simp only [List.map_cons,List.map_nil];rw [join4]
 have C:=vT_short m.out;have L:=kD (λ(A:Option Addr) (N:Nat) (d:World) (h:RdS d d.heap.size 1 enI A [v.p,v.c,v.h,v.s]) (P:Env d)=>JoinN.join A N d.heap.size [v.p,v.c,v.h,v.s] ⟨#[47]⟩ d lR h (by intro x H;simp at H;rcases H with rfl | rfl | rfl | rfl <;> omega) (by simp) (by rw [j] at C;exact Nat.le_trans C (by decide)) (by simp) P.tab);have F:=kD j;have J:=kD (E.below K.bel);clear j B C m E;go_wp2_with fail;have r:RowB (a.alloc (.cells #[iL v.p,iL v.c,iL v.h,iL v.s] 2)) a.heap.size 2 [iL v.p,iL v.c,iL v.h,iL v.s]:=nW;have z:SlV 1 enI (a.alloc (.cells #[iL v.p,iL v.c,iL v.h,iL v.s] 2)) (λ b=>a.heap.size<=b) (.slice (sA a.heap.size 0) 4 4) [v.p,v.c,v.h,v.s]:=sl_new (xs:=[v.p,v.c,v.h,v.s]) r (show (4:Nat)<=maxLen by decide) lR;obtain⟨A,c,I,k,-⟩:=z;simp only [Value.slice.injEq] at I;obtain⟨rfl,-,rfl⟩:=I;have i:Below a.heap.size a (a.alloc (.cells #[iL v.p,iL v.c,iL v.h,iL v.s] 2)):=(zRf).alloc lR _;refine(L.out _ _ _ k.rd (J.out.below i)).mono ?_;rintro e Q ⟨rfl,l⟩;have D:=(K.below i).below l |>.bel
 clear k i l K y t q n g r L J;go_wp2_with fail;go_ret;exact⟨by first | rfl | (rw [F.out];rfl),D⟩
end Gm
end Go.Proofs.YtjdefiinmicjiaaGreatDoor
