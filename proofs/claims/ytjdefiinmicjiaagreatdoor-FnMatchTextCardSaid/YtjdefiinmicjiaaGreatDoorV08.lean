/- Parts of a proof. Conditions: each theorem's own. -/
import Derived.Test.YtjdefiinmicjiaaGreatDoorV05
import Derived.Test.YtjdefiinmicjiaaGreatDoorV07
set_option linter.unusedVariables false
set_option linter.unusedSimpArgs false
set_option maxHeartbeats 8000000
set_option maxRecDepth 100000
namespace Go.Proofs.YtjdefiinmicjiaaGreatDoor
open _root_.Go.Proofs.Tryz
namespace TsI
open Go.ChangeShapes Go.WideShapes Go.ChangeAt Go.RowKit Base Ints Own JoinN PlP TxP Num Bd1 Bd5 RegF RegG TxI
theorem num_s (n:Int) (h0:0<=n) (h1:n<100) (w:World):Calls prog 58 #[iL n] w λ e w'=>e=.returned (.string (bs (Lib.itoa n)))∧Below w.heap.size w w':=by
 obtain⟨k,rfl⟩:∃ k:Nat,n=k:=⟨n.toNat,by omega⟩;have e:Lib.itoa (k:Int)=Lib.decDigits k:=by unfold Lib.itoa;rw [if_neg (by omega),Int.toNat_natCast]
 rw [e];exact TsN.num k (by omega) w
theorem isroll_ws (v:Vr) (hv:okV v=true) (a b:Int) (x:Bool) (hx:rollB v a b=x) (w:World):Calls prog 105 #[vA v,.agg #[iL a,iL b]] w λ e w'=>e=.returned (.bool x)∧Below w.heap.size w w':=by
 unfold rollB at hx;obtain⟨B,m⟩:∃ c,decide (1<=a∧a<=v.s)=c:=⟨_,rfl⟩;obtain⟨A,l⟩:∃ c,decide (1<=b∧b<=a)=c:=⟨_,rfl⟩;rw [m,l] at hx;have G:=kD (λ w=>var_s v true hv w);have F:=kD (λ w=>in_s a 1 v.s B m w);have E:=kD (λ w=>in_s b 1 a A l w);have C:=kD hx;clear hx m l hv;go_enter func105,ntmps105;go_upto_region 1 with fail;refine wp_gen (λ n=>Below w.heap.size w n∧RowB n w.heap.size 25 (vL v)∧RowB n (w.heap.size+1) 53 [iL a,iL b]) ⟨by go_grown,(nW).alloc _,nX⟩ ?_;rintro I ⟨d,i,j⟩;obtain⟨z,y,t,r⟩:=i.c4;obtain⟨q,o⟩:=j.c2;have f:=i.lt;have g:=j.lt;go_wp2_with fail;refine(G.out _).mono ?_;rintro e H ⟨rfl,k⟩;have d:=d.tR k;have i:=i.below k f;have j:=j.below k g;clear z y t r q o f g k;obtain⟨z,y,t,r⟩:=i.c4;obtain⟨q,o⟩:=j.c2;have f:=i.lt;have g:=j.lt;go_wp2_with fail;refine(F.out _).mono ?_;rintro e D ⟨rfl,rfl⟩
 cases B
 case false =>
  obtain rfl:x=false:=by rw [<-C.out];rfl
  go_wp2_with fail;go_ret;exact⟨rfl,d⟩
 go_wp2_with fail;refine(E.out _).mono ?_;rintro e D ⟨rfl,rfl⟩;obtain rfl:A=x:=by rw [<-C.out];rfl
 go_wp2_with fail;go_ret;exact⟨rfl,d⟩
theorem plain_s (v:Vr) (hv:okV v=true) (s:Stp) (c:Bool) (hc:plainB v s=c) (w:World):Calls prog 115 #[vA v,.agg #[iL s.1,iL s.2.1,iL s.2.2.1,.bool s.2.2.2]] w λ e w'=>e=.returned (.bool c)∧Below w.heap.size w w':=by
 have n:=okV_iff.1 hv;obtain⟨f,t,d,h⟩:=s;unfold plainB at hc;simp only at hc ⊢;obtain⟨q,b⟩:∃ c,decide (0<=f∧f<=v.p)=c:=⟨_,rfl⟩;obtain⟨o,a⟩:∃ c,decide (1<=d∧d<=v.s)=c:=⟨_,rfl⟩;rw [b,a] at hc;have m:=kD (λ w=>in_s f 0 v.p q b w);have r:=kD (λ w=>in_s d 1 v.s o a w);have g:=kD (And.intro b a);have E:=kD n;have j:=kD hc;clear hc b a n hv
 cases q
 ·obtain rfl:c=false:=by rw [<-j.out];simp
  go_enter func115,ntmps115;go_wp2_with fail;refine(m.out _).mono ?_;rintro e i ⟨rfl,rfl⟩;go_wp2_with fail;go_ret;exact⟨rfl,by go_grown⟩
 cases o
 ·obtain rfl:c=false:=by rw [<-j.out];simp
  go_enter func115,ntmps115;go_wp2_with fail;refine(m.out _).mono ?_;rintro e i ⟨rfl,rfl⟩;go_wp2_with fail;refine(r.out _).mono ?_;rintro e i ⟨rfl,rfl⟩;go_wp2_with fail;go_ret;exact⟨rfl,by go_grown⟩
 have B:(0<=f∧f<=24)∧1<=d∧d<=6:=by
  have b:=of_decide_eq_true g.out.1;have a:=of_decide_eq_true g.out.2;have:=E.out;omega
 obtain⟨⟨y,x⟩,A,z⟩:=B;go_enter func115,ntmps115;go_wp2_with fail;refine(m.out _).mono ?_;rintro e i ⟨rfl,rfl⟩;go_wp2_with fail;refine(r.out _).mono ?_;rintro e i ⟨rfl,rfl⟩;by_cases ht:t=-1
 ·have C:(t == -1)=true:=by simp [ht]
  have hc:=j.out;rw [if_pos ht] at hc;simp only [Bool.true_and] at hc;clear ht
  cases h
  ·by_cases h3:f<v.p
   ·have l:=decide_eq_true h3;by_cases h4:f<d
    ·obtain rfl:c=true:=by rw [<-hc];simp [h3,h4]
     have D:=decide_eq_true h4;clear hc;go_wp2_with fail;go_ret;exact⟨rfl,by go_grown⟩
    ·obtain rfl:c=false:=by rw [<-hc];simp [h4]
     have D:=decide_eq_false h4;clear hc;go_wp2_with fail;go_ret;exact⟨rfl,by go_grown⟩
   ·obtain rfl:c=false:=by rw [<-hc];simp [h3]
    have l:=decide_eq_false h3;clear hc;go_wp2_with fail;go_ret;exact⟨rfl,by go_grown⟩
  ·obtain rfl:c=false:=by rw [<-hc];simp
   clear hc;go_wp2_with fail;go_ret;exact⟨rfl,by go_grown⟩
 ·have C:(t == -1)=false:=by simp [ht]
  have hc:=j.out;rw [if_neg ht] at hc;simp only [Bool.true_and] at hc;clear ht;by_cases h3:0<=t
  ·have l:=decide_eq_true h3;by_cases h4:t=f - d
   ·obtain rfl:c=true:=by rw [<-hc];exact decide_eq_true ⟨h3,h4⟩
    have k:(t == f - d)=true:=by simp [h4]
    clear hc h4;go_wp2_with fail;go_ret;exact⟨rfl,by go_grown⟩
   ·obtain rfl:c=false:=by rw [<-hc];exact decide_eq_false (λ h=>h4 h.2)
    have k:(t == f - d)=false:=by simp [h4]
    clear hc h4;go_wp2_with fail;go_ret;exact⟨rfl,by go_grown⟩
  ·obtain rfl:c=false:=by rw [<-hc];exact decide_eq_false (λ h=>h3 h.1)
   have l:=decide_eq_false h3;clear hc;by_cases h4:t=f - d
   ·have k:(t == f - d)=true:=by simp [h4]
    clear h4;go_wp2_with fail;go_ret;exact⟨rfl,by go_grown⟩
   ·have k:(t == f - d)=false:=by simp [h4]
    clear h4;go_wp2_with fail;go_ret;exact⟨rfl,by go_grown⟩
theorem step_s (v:Vr) (hv:okV v=true) (s:Stp) (hs:plainB v s=true) (w:World):Calls prog 116 #[vA v,.agg #[iL s.1,iL s.2.1,iL s.2.2.1,.bool s.2.2.2]] w λ e w'=>e=.returned (.string (bs (stpT v s)))∧Below w.heap.size w w':=by
 have hp:=okV_iff.1 hv;obtain⟨h1,Z,X⟩:=plain_parts hs;obtain⟨f,t,d,h⟩:=s;simp only at h1 Z X ⊢;have k:(0<=f∧f<=24)∧(1<=d∧d<=6)∧-1<=t∧t<=24:=by omega
 have T:=kD (λ(M:World)=>num_s (f+1) (by omega) (by omega) M);have S:=kD (λ(M:World)=>num_s (t+1) (by omega) (by omega) M);have CD:=kD (λ(M:World)=>num_s d (by omega) (by omega) M);obtain⟨H,J⟩:∃ x:ByteArray,bs (Lib.itoa (f+1))=x:=⟨_,rfl⟩;obtain⟨G,I⟩:∃ x:ByteArray,bs (Lib.itoa (t+1))=x:=⟨_,rfl⟩;obtain⟨V,L⟩:∃ x:ByteArray,bs (Lib.itoa d)=x:=⟨_,rfl⟩;have zf:H.size<=2:=by rw [<-J];have:=ito_len (n:=f+1) (by omega) (by omega);exact Nat.le_trans (Nat.le_of_eq (bs_size _)) this.2
 have zt:G.size<=2:=by rw [<-I];have:=ito_len (n:=t+1) (by omega) (by omega);exact Nat.le_trans (Nat.le_of_eq (bs_size _)) this.2
 have zd:V.size<=2:=by rw [<-L];have:=ito_len (n:=d) (by omega) (by omega);exact Nat.le_trans (Nat.le_of_eq (bs_size _)) this.2
 rw [J] at T;rw [I] at S;rw [L] at CD;have l:=kD (And.intro J.symm (And.intro I.symm L.symm));have H3:=kD X;obtain⟨R,W⟩:=eX (bs (stpT v (f,t,d,h)));have B:=kD W;rw [W];clear J I L W hs X hv hp;obtain⟨⟨ad,ac⟩,⟨af,ae⟩,ab,aa⟩:=k;clear h1 Z;by_cases hfp:f<v.p
 ·by_cases ht:0<=t
  ·cases h
   ·have A:Hid ((((H++⟨#[47]⟩)++G):ByteArray)=R):=by
     show _=_
     rw [<-B.out];simp only [l.out.1,l.out.2.1,l.out.2.2];have j:(⟨#[47]⟩:ByteArray)=bs [47]:=rfl;have i:(⟨#[42]⟩:ByteArray)=bs [42]:=rfl;have g:(⟨#[111,102,102]⟩:ByteArray)=bs [111,102,102]:=rfl;have E:(⟨#[40]⟩:ByteArray)=bs [40]:=rfl;have D:(⟨#[41]⟩:ByteArray)=bs [41]:=rfl;have C:(⟨#[98,97,114,47]⟩:ByteArray)=bs [98,97,114,47]:=rfl;simp only [j,i,g,E,D,C,bs_cat];unfold stpT fromT;simp [hfp,ht]
    have z:Hid (Ending.returned (.string (((H++⟨#[47]⟩)++G)))=Ending.returned (.string R)):=by show _=_;rw [A.out]
    have Q:decide (0<=t)=true:=decide_eq_true ht;have P:decide (f<v.p)=true:=decide_eq_true hfp;clear A l B;go_enter func116,ntmps116;go_upto_region 1 with fail;refine wp_gen (λ F=>Bx w F v f t d false) ⟨by go_grown,(nW).alloc _,nX⟩ ?_;intro O K;obtain⟨y,j,i,g⟩:=K.rv.c4;obtain⟨r,q,o,m⟩:=K.rs.c4;have b:=K.rv.lt;have a:=K.rs.lt;go_wp2_with fail;refine(T.out _).mono ?_;rintro e N ⟨rfl,k⟩;have K:=K.below k;clear y j i g r q o m b a k;obtain⟨y,j,i,g⟩:=K.rv.c4;obtain⟨r,q,o,m⟩:=K.rs.c4;have b:=K.rv.lt;have a:=K.rs.lt;go_wp2_with fail;refine(S.out _).mono ?_;rintro e Y ⟨rfl,k⟩;have K:=K.below k;clear y j i g r q o m b a k;obtain⟨y,j,i,g⟩:=K.rv.c4;obtain⟨r,q,o,m⟩:=K.rs.c4;have b:=K.rv.lt;have a:=K.rs.lt;go_wp2_with fail;go_ret;exact⟨z.out,K.bel⟩
   ·have A:Hid ((((H++⟨#[47]⟩)++G)++⟨#[42]⟩:ByteArray)=R):=by
     show _=_
     rw [<-B.out];simp only [l.out.1,l.out.2.1,l.out.2.2];have j:(⟨#[47]⟩:ByteArray)=bs [47]:=rfl;have i:(⟨#[42]⟩:ByteArray)=bs [42]:=rfl;have g:(⟨#[111,102,102]⟩:ByteArray)=bs [111,102,102]:=rfl;have E:(⟨#[40]⟩:ByteArray)=bs [40]:=rfl;have D:(⟨#[41]⟩:ByteArray)=bs [41]:=rfl;have C:(⟨#[98,97,114,47]⟩:ByteArray)=bs [98,97,114,47]:=rfl;simp only [j,i,g,E,D,C,bs_cat];unfold stpT fromT;simp [hfp,ht]
    have z:Hid (Ending.returned (.string (((H++⟨#[47]⟩)++G)++⟨#[42]⟩))=Ending.returned (.string R)):=by show _=_;rw [A.out]
    have Q:decide (0<=t)=true:=decide_eq_true ht;have P:decide (f<v.p)=true:=decide_eq_true hfp;clear A l B;go_enter func116,ntmps116;go_upto_region 1 with fail;refine wp_gen (λ F=>Bx w F v f t d true) ⟨by go_grown,(nW).alloc _,nX⟩ ?_;intro O K;obtain⟨y,j,i,g⟩:=K.rv.c4;obtain⟨r,q,o,m⟩:=K.rs.c4;have b:=K.rv.lt;have a:=K.rs.lt;go_wp2_with fail;refine(T.out _).mono ?_;rintro e N ⟨rfl,k⟩;have K:=K.below k;clear y j i g r q o m b a k;obtain⟨y,j,i,g⟩:=K.rv.c4;obtain⟨r,q,o,m⟩:=K.rs.c4;have b:=K.rv.lt;have a:=K.rs.lt;go_wp2_with fail;refine(S.out _).mono ?_;rintro e Y ⟨rfl,k⟩;have K:=K.below k;clear y j i g r q o m b a k;obtain⟨y,j,i,g⟩:=K.rv.c4;obtain⟨r,q,o,m⟩:=K.rs.c4;have b:=K.rv.lt;have a:=K.rs.lt;go_wp2_with fail;go_ret;exact⟨z.out,K.bel⟩
  ·obtain rfl:h=false:=by have:=H3.out;rcases this with h | h;exact h.2.1;omega
   by_cases hdf:d=f+1
   ·have A:Hid ((((H++⟨#[47]⟩)++⟨#[111,102,102]⟩):ByteArray)=R):=by
     show _=_
     rw [<-B.out];simp only [l.out.1,l.out.2.1,l.out.2.2];have j:(⟨#[47]⟩:ByteArray)=bs [47]:=rfl;have i:(⟨#[42]⟩:ByteArray)=bs [42]:=rfl;have g:(⟨#[111,102,102]⟩:ByteArray)=bs [111,102,102]:=rfl;have E:(⟨#[40]⟩:ByteArray)=bs [40]:=rfl;have D:(⟨#[41]⟩:ByteArray)=bs [41]:=rfl;have C:(⟨#[98,97,114,47]⟩:ByteArray)=bs [98,97,114,47]:=rfl;simp only [j,i,g,E,D,C,bs_cat];unfold stpT fromT;simp [hfp,ht,hdf]
    have z:Hid (Ending.returned (.string (((H++⟨#[47]⟩)++⟨#[111,102,102]⟩)))=Ending.returned (.string R)):=by show _=_;rw [A.out]
    have Q:decide (0<=t)=false:=decide_eq_false ht;have g3:(d != f+1)=false:=by simp [hdf]
    have P:decide (f<v.p)=true:=decide_eq_true hfp;clear A l B hdf;go_enter func116,ntmps116;go_upto_region 1 with fail;refine wp_gen (λ F=>Bx w F v f t d false) ⟨by go_grown,(nW).alloc _,nX⟩ ?_;intro O K;obtain⟨y,j,i,g⟩:=K.rv.c4;obtain⟨r,q,o,m⟩:=K.rs.c4;have b:=K.rv.lt;have a:=K.rs.lt;go_wp2_with fail;refine(T.out _).mono ?_;rintro e N ⟨rfl,k⟩;have K:=K.below k;clear y j i g r q o m b a k;obtain⟨y,j,i,g⟩:=K.rv.c4;obtain⟨r,q,o,m⟩:=K.rs.c4;have b:=K.rv.lt;have a:=K.rs.lt;go_wp2_with fail;go_ret;exact⟨z.out,K.bel⟩
   ·have A:Hid ((((((H++⟨#[47]⟩)++⟨#[111,102,102]⟩)++(⟨#[40]⟩:ByteArray))++V)++⟨#[41]⟩:ByteArray)=R):=by
     show _=_
     rw [<-B.out];simp only [l.out.1,l.out.2.1,l.out.2.2];have j:(⟨#[47]⟩:ByteArray)=bs [47]:=rfl;have i:(⟨#[42]⟩:ByteArray)=bs [42]:=rfl;have g:(⟨#[111,102,102]⟩:ByteArray)=bs [111,102,102]:=rfl;have E:(⟨#[40]⟩:ByteArray)=bs [40]:=rfl;have D:(⟨#[41]⟩:ByteArray)=bs [41]:=rfl;have C:(⟨#[98,97,114,47]⟩:ByteArray)=bs [98,97,114,47]:=rfl;simp only [j,i,g,E,D,C,bs_cat];unfold stpT fromT;simp [hfp,ht,hdf]
    have z:Hid (Ending.returned (.string (((((H++⟨#[47]⟩)++⟨#[111,102,102]⟩)++(⟨#[40]⟩:ByteArray))++V)++⟨#[41]⟩))=Ending.returned (.string R)):=by show _=_;rw [A.out]
    have Q:decide (0<=t)=false:=decide_eq_false ht;have g3:(d != f+1)=true:=by simp;exact hdf
    have P:decide (f<v.p)=true:=decide_eq_true hfp;clear A l B hdf;go_enter func116,ntmps116;go_upto_region 1 with fail;refine wp_gen (λ F=>Bx w F v f t d false) ⟨by go_grown,(nW).alloc _,nX⟩ ?_;intro O K;obtain⟨y,j,i,g⟩:=K.rv.c4;obtain⟨r,q,o,m⟩:=K.rs.c4;have b:=K.rv.lt;have a:=K.rs.lt;go_wp2_with fail;refine(T.out _).mono ?_;rintro e N ⟨rfl,k⟩;have K:=K.below k;clear y j i g r q o m b a k;obtain⟨y,j,i,g⟩:=K.rv.c4;obtain⟨r,q,o,m⟩:=K.rs.c4;have b:=K.rv.lt;have a:=K.rs.lt;go_wp2_with fail;refine(CD.out _).mono ?_;rintro e Y ⟨rfl,k⟩;have K:=K.below k;clear y j i g r q o m b a k;obtain⟨y,j,i,g⟩:=K.rv.c4;obtain⟨r,q,o,m⟩:=K.rs.c4;have b:=K.rv.lt;have a:=K.rs.lt;go_wp2_with fail;go_ret;exact⟨z.out,K.bel⟩
 ·by_cases ht:0<=t
  ·cases h
   ·have A:Hid ((((⟨#[98,97,114,47]⟩:ByteArray)++G):ByteArray)=R):=by
     show _=_
     rw [<-B.out];simp only [l.out.1,l.out.2.1,l.out.2.2];have j:(⟨#[47]⟩:ByteArray)=bs [47]:=rfl;have i:(⟨#[42]⟩:ByteArray)=bs [42]:=rfl;have g:(⟨#[111,102,102]⟩:ByteArray)=bs [111,102,102]:=rfl;have E:(⟨#[40]⟩:ByteArray)=bs [40]:=rfl;have D:(⟨#[41]⟩:ByteArray)=bs [41]:=rfl;have C:(⟨#[98,97,114,47]⟩:ByteArray)=bs [98,97,114,47]:=rfl;simp only [j,i,g,E,D,C,bs_cat];unfold stpT fromT;simp [hfp,ht]
    have z:Hid (Ending.returned (.string (((⟨#[98,97,114,47]⟩:ByteArray)++G)))=Ending.returned (.string R)):=by show _=_;rw [A.out]
    have Q:decide (0<=t)=true:=decide_eq_true ht;have P:decide (f<v.p)=false:=decide_eq_false hfp;clear A l B;go_enter func116,ntmps116;go_upto_region 1 with fail;refine wp_gen (λ F=>Bx w F v f t d false) ⟨by go_grown,(nW).alloc _,nX⟩ ?_;intro O K;obtain⟨y,j,i,g⟩:=K.rv.c4;obtain⟨r,q,o,m⟩:=K.rs.c4;have b:=K.rv.lt;have a:=K.rs.lt;go_wp2_with fail;refine(S.out _).mono ?_;rintro e N ⟨rfl,k⟩;have K:=K.below k;clear y j i g r q o m b a k;obtain⟨y,j,i,g⟩:=K.rv.c4;obtain⟨r,q,o,m⟩:=K.rs.c4;have b:=K.rv.lt;have a:=K.rs.lt;go_wp2_with fail;go_ret;exact⟨z.out,K.bel⟩
   ·have A:Hid ((((⟨#[98,97,114,47]⟩:ByteArray)++G)++⟨#[42]⟩:ByteArray)=R):=by
     show _=_
     rw [<-B.out];simp only [l.out.1,l.out.2.1,l.out.2.2];have j:(⟨#[47]⟩:ByteArray)=bs [47]:=rfl;have i:(⟨#[42]⟩:ByteArray)=bs [42]:=rfl;have g:(⟨#[111,102,102]⟩:ByteArray)=bs [111,102,102]:=rfl;have E:(⟨#[40]⟩:ByteArray)=bs [40]:=rfl;have D:(⟨#[41]⟩:ByteArray)=bs [41]:=rfl;have C:(⟨#[98,97,114,47]⟩:ByteArray)=bs [98,97,114,47]:=rfl;simp only [j,i,g,E,D,C,bs_cat];unfold stpT fromT;simp [hfp,ht]
    have z:Hid (Ending.returned (.string (((⟨#[98,97,114,47]⟩:ByteArray)++G)++⟨#[42]⟩))=Ending.returned (.string R)):=by show _=_;rw [A.out]
    have Q:decide (0<=t)=true:=decide_eq_true ht;have P:decide (f<v.p)=false:=decide_eq_false hfp;clear A l B;go_enter func116,ntmps116;go_upto_region 1 with fail;refine wp_gen (λ F=>Bx w F v f t d true) ⟨by go_grown,(nW).alloc _,nX⟩ ?_;intro O K;obtain⟨y,j,i,g⟩:=K.rv.c4;obtain⟨r,q,o,m⟩:=K.rs.c4;have b:=K.rv.lt;have a:=K.rs.lt;go_wp2_with fail;refine(S.out _).mono ?_;rintro e N ⟨rfl,k⟩;have K:=K.below k;clear y j i g r q o m b a k;obtain⟨y,j,i,g⟩:=K.rv.c4;obtain⟨r,q,o,m⟩:=K.rs.c4;have b:=K.rv.lt;have a:=K.rs.lt;go_wp2_with fail;go_ret;exact⟨z.out,K.bel⟩
  ·exfalso;have:=H3.out;omega
theorem roll_s (v:Vr) (hv:okV v=true) (x y:Int) (hr:rollB v x y=true) (w:World) :
  Calls prog 85 #[vA v,.agg #[iL x,iL y]] w λ e w'=>e=.returned (.string (bs (rolT x y)))∧Below w.heap.size w w':=by
 have E:=okV_iff.1 hv;have h1:=roll_parts hr;have S:=kD (λ b=>isroll_ws v hv x y true hr b);have V:=kD (λ(b:World)=>num_s x (by omega) (by omega) b);have T:=kD (λ(b:World)=>num_s y (by omega) (by omega) b);have J:=ito_len (n:=x) (by omega) (by omega);have I:=ito_len (n:=y) (by omega) (by omega);obtain⟨o,k⟩:∃ z:ByteArray,bs (Lib.itoa x)=z:=⟨_,rfl⟩;obtain⟨m,j⟩:∃ z:ByteArray,bs (Lib.itoa y)=z:=⟨_,rfl⟩;rw [k] at V;rw [j] at T;have Y:o.size<=2:=by rw [<-k];exact Nat.le_trans (Nat.le_of_eq (bs_size _)) J.2
 have X:m.size<=2:=by rw [<-j];exact Nat.le_trans (Nat.le_of_eq (bs_size _)) I.2
 have t:Hid (¬ 9223372036854775807<o.size+m.size):=kD (by omega);have Q:Hid (o++m=bs (rolT x y)):=by
  show _=_
  rw [<-k,<-j];exact bs_cat _ _
 obtain⟨R,O⟩:=eX (bs (rolT x y));rw [O] at Q ⊢;clear k j Y X J I h1 E hv hr O;go_enter func85,ntmps85;go_upto_region 1 with fail;refine wp_gen (λ W'=>Bvr w W' v x y) ⟨by go_grown,(nW).alloc _,nX⟩ ?_;intro w1 K;obtain⟨q0,q1,q2,Z⟩:=K.rv.c4;obtain⟨C,B⟩:=K.rr.c2;have G:=K.rv.lt;have H:=K.rr.lt;go_wp2_with fail;refine(S.out _).mono ?_;rintro e M ⟨rfl,N⟩;have K:=K.below N;clear q0 q1 q2 Z C B G H N S;have l:=kD K;clear K;go_wp2_with fail;refine rG [some 9,some 10,some 11,some 12,some 13,some 14,some 15,some 4] 8 (Pl [some (pT (w.heap.size+1) 0),some (iL x),some (.string o),some (pT (w.heap.size+1) 1),some (iL y),some (.string m),some (.string (o++m)),some (.string (o++m))]) (λ L a w'=>Below M.heap.size M w') ?g0_2 ?gst_2 ?gfin_2
 case g0_2=>exact(zRf).drew
 case gst_2 =>
  refine rN rfl (λ L a A b d f g U F K i=>?_) ?_
  ·have e3:=U.w 3 (pT (w.heap.size+1) 0);obtain⟨C,B⟩:=(l.out.rr.below F l.out.rr.lt).c2
   skip
   have D:=t.out;go_simp;exact pF i (F)
  refine rN rfl (λ L a A b d f g U F K i=>?_) ?_
  ·have e9:=U.v 0 9;obtain⟨C,B⟩:=(l.out.rr.below F l.out.rr.lt).c2
   skip
   have D:=t.out;go_simp;exact pF i (F)
  refine rN rfl (λ L a A b d f g U F K i=>?_) ?_
  ·have af:=U.v 1 10;go_simp;refine(V.out b).mono ?_;rintro e W ⟨rfl,q⟩;exact pF i (F.tR q)
  refine rN rfl (λ L a A b d f g U F K i=>?_) ?_
  ·have e3:=U.w 3 (pT (w.heap.size+1) 0);obtain⟨C,B⟩:=(l.out.rr.below F l.out.rr.lt).c2
   skip
   have D:=t.out;go_simp;exact pF i (F)
  refine rN rfl (λ L a A b d f g U F K i=>?_) ?_
  ·have ad:=U.v 3 12;obtain⟨C,B⟩:=(l.out.rr.below F l.out.rr.lt).c2
   skip
   have D:=t.out;go_simp;exact pF i (F)
  refine rN rfl (λ L a A b d f g U F K i=>?_) ?_
  ·have ac:=U.v 4 13;go_simp;refine(T.out b).mono ?_;rintro e W ⟨rfl,q⟩;exact pF i (F.tR q)
  refine rN rfl (λ L a A b d f g U F K i=>?_) ?_
  ·have ae:=U.v 2 11;have ab:=U.v 5 14;have D:=t.out;go_simp;exact pF i (F)
  refine rN rfl (λ L a A b d f g U F K i=>?_) ?_
  ·have aa:=U.v 6 15;have D:=t.out;go_simp;exact pF i (F)
  exact RelFrom.nil (by decide)
 case gfin_2 =>
  intro a b E F;simp only [Fr,Act.put,sX,Nat.reduceAdd];have P:a 7=.string (o++m):=E 7 (by decide) _ rfl;rw [P,Q.out];have K:=l.out.below F;clear F E P;go_wp2_with fail;go_ret;exact⟨rfl,K.bel⟩
end TsI
namespace Gm
open Go Go.ChangeShapes Go.WideShapes Go.ChangeAt Go.RowKit Base Ints Own Clone RelG PlP Bd1 Bd2 Bd5 Bd6 Bd7 Bd8 RegInv RegF RegG
theorem setL_drop:∀(vs cs:List Value) (o:Nat),o+vs.length=cs.length->setL cs o vs=cs.take o++vs
 | [],cs,o,h=>by simp only [setL,List.append_nil];rw [List.take_of_length_le (by simp at h;omega)]
 | v :: r,cs,o,h=>by
  simp only [List.length_cons] at h;rw [setL,setL_drop r (cs.set o v) (o+1) (by simp;omega),List.take_add_one,List.take_set_of_le lR,List.getElem?_set_self (by omega)];simp
theorem setL_all (cs vs:List Value) (h:cs.length=vs.length):setL cs 0 vs=vs:=by rw [setL_drop vs cs 0 (by omega)];simp
theorem rdf_take {α:Type} {w:World} {S:Nat->Prop} {sz:Nat} {en:α->List Value} {A:Option Addr} {rs:List α} (h:RdF w S sz en A rs) (k:Nat):RdF w S sz en A (rs.take k):=by
 refine⟨by have:=h.1;rw [List.length_take];omega,λ f=>?_⟩;have d:0<rs.length:=by rw [List.length_take] at f;omega
 obtain⟨b,c,e,l,j,g⟩:=h.2 d;refine⟨b,c,e,l,j,λ i x a=>g i x ?_⟩;rw [List.getElem?_take] at a;split at a
 ·exact a
 ·cases a
def inS {ρ α:Type} (K:Rel ρ α) (S0:Nat->Prop):Rel ρ α where
 R:=λ w S r x=>K.R w (λ b=>S b∧S0 b) r x
 keep:=λ h hs=>K.keep h ⟨hs.1,λ b hb hl=>hs.2 b hb.1 hl⟩
 weak:=λ h hs=>K.weak h (λ b hb hl=>⟨hs b hb.1 hl,hb.2⟩)
structure B3r (w wr:World) (v:Vr) (u1 u2:Value) (x y:Int):Prop where
 bel:Below w.heap.size w wr
 rv:RowB wr w.heap.size 25 (vL v)
 rb:RowB wr (w.heap.size+1) 51 [u1,u2]
 rr:RowB wr (w.heap.size+2) 53 [iL x,iL y]
theorem B3r.below {w wr w':World} {v:Vr} {u1 u2:Value} {x y:Int} (k:B3r w wr v u1 u2 x y) (hb:zB wr w'):B3r w w' v u1 u2 x y :=
 ⟨k.bel.tR hb,k.rv.below hb k.rv.lt,k.rb.below hb k.rb.lt,k.rr.below hb k.rr.lt⟩
theorem code_s (v:Vr) (b:Bd) (hb:Ok v b) (S:Nat->Prop) (u1 u2:Value) (x y:Int) (hr:rollB v x y=true) (w:World) (hR:BdR w S u1 u2 b) :
  Calls prog 78 #[vA v,.agg #[u1,u2],.agg #[iL x,iL y]] w λ e w'=>e=.returned (iL 0)∧Below w.heap.size w w':=by
 obtain⟨⟨C,z,rfl,k,M⟩,⟨B,t,rfl,j,L⟩⟩:=hR;have A:=kD (λ(f:World) (r:zB w f)=>Bd3.isB_s v b C B z t f.heap.size f lR (k.keep (.below r)).rd (j.keep (.below r)).rd true (okB_iff.2 hb));have G:=kD (λ(f:World)=>TsI.isroll_ws v (okV_iff.2 hb.v1) x y true hr f);obtain⟨E,d⟩:=eX (b.1.length);obtain⟨D,a⟩:=eX (b.2.length);rw [d,a] at A;rw [d,a];clear d a k j hb hr;go_enter func78,ntmps78;go_upto_region 1 with fail;refine wp_gen (λ F=>B3r w F v (.slice C E z) (.slice B D t) x y) ⟨by go_grown,((nW).alloc _).alloc _,(nX).alloc _,nX⟩ ?_;intro J K;obtain⟨q,o,m,l⟩:=K.rv.c4;obtain⟨i,g⟩:=K.rb.c2;go_wp2_with fail;refine(A.out _ K.bel).mono ?_;rintro e I ⟨rfl,hb⟩;have K:=K.below hb;clear q o m l i g hb;obtain⟨q,o,m,l⟩:=K.rv.c4;obtain⟨i,g⟩:=K.rr.c2;go_wp2_with fail;refine(G.out _).mono ?_;rintro e H ⟨rfl,hb⟩;have K:=K.below hb;go_wp2_with fail;go_ret;exact⟨rfl,K.bel⟩
theorem ord_len (x y:Int):∀ o ∈ ordP x y,o.length<=4:=by
 intro o a;unfold ordP at a;split at a
 ·simp only [List.mem_singleton] at a;rw [a];simp
 ·simp only [List.mem_cons,List.not_mem_nil,or_false] at a;rcases a with rfl | rfl <;> simp
def OrdC (xs:List (List Int)) (w:World) (e:Ending) (w':World):Prop :=
 ∃ A,e=.returned (.slice A xs.length xs.length)∧SlG RelI 1 en1 w' (λ b=>w.heap.size<=b) (.slice A xs.length xs.length) xs∧Below w.heap.size w w'
theorem orders2_s (a b:Int) (w:World):Calls prog 107 #[.agg #[iL a,iL b]] w λ e w'=>OrdC (ordP a b) w e w':=by
 by_cases h:a=b
 ·have i:Hid (ordP a b=[[a,a,a,a]]):=kD (by unfold ordP;rw [if_pos h]);have k:(a == b)=true:=by simp [h]
  clear h;go_enter func107,ntmps107;go_wp2_with fail;refine bp_gen (λ c=>Below w.heap.size w c∧RowB c (w.heap.size+1) 2 [iL a,iL a,iL a,iL a]∧RowB c (w.heap.size+2) 49 [.slice (sA (w.heap.size+1) 0) 4 4]) ⟨by go_grown,RowB.alloc (RowB.new' _ _ _ (by first | simp | go_size | rfl)) _,RowB.new' _ _ _ (by first | simp | go_size | rfl)⟩ ?_;rintro c ⟨d,g,f⟩;go_ret;rw [i.out];refine⟨_,rfl,?_,d⟩;exact slg_new f (LsR.snoc (LsR.nil _ _ _) (sl_new (xs:=[a,a,a,a]) g (show (4:Nat)<=maxLen by decide) (by omega))) rfl (show (1:Nat)<=maxLen by decide) (by omega)
 ·have i:Hid (ordP a b=[[a,b],[b,a]]):=kD (by unfold ordP;rw [if_neg h]);have k:(a == b)=false:=by simp [h]
  clear h;go_enter func107,ntmps107;go_wp2_with fail;refine bp_gen (λ c=>Below w.heap.size w c∧RowB c (w.heap.size+1) 2 [iL a,iL b]∧RowB c (w.heap.size+2) 2 [iL b,iL a]∧RowB c (w.heap.size+3) 49 [.slice (sA (w.heap.size+1) 0) 2 2,.slice (sA (w.heap.size+2) 0) 2 2]) ⟨by go_grown,RowB.alloc (RowB.alloc (RowB.new' _ _ _ (by first | simp | go_size | rfl)) _) _,RowB.alloc (RowB.new' _ _ _ (by first | simp | go_size | rfl)) _,RowB.new' _ _ _ (by first | simp | go_size | rfl)⟩ ?_;rintro c ⟨d,g,f,j⟩;go_ret;rw [i.out];refine⟨_,rfl,?_,d⟩;exact slg_new j (LsR.snoc (LsR.snoc (LsR.nil _ _ _) (sl_new (xs:=[a,b]) g (show (2:Nat)<=maxLen by decide) (by omega))) (sl_new (xs:=[b,a]) f (show (2:Nat)<=maxLen by decide) (by omega))) rfl (show (2:Nat)<=maxLen by decide) (by omega)
structure F4 (w wr:World) (v:Vr) (us:List Value) (x y:Int):Prop where
 bel:Below w.heap.size w wr
 rv:RowB wr w.heap.size 25 (vL v)
 rb:RowB wr (w.heap.size+1) 51 us
 rd:RowB wr (w.heap.size+2) 53 [iL x,iL y]
 rr:RowB wr (w.heap.size+3) 51 [.slice none 0 0,.slice none 0 0]
theorem F4.below {w wr w':World} {v:Vr} {us:List Value} {x y:Int} (k:F4 w wr v us x y) (hb:zB wr w'):F4 w w' v us x y :=
 ⟨k.bel.tR hb,k.rv.below hb k.rv.lt,k.rb.below hb k.rb.lt,k.rd.below hb k.rd.lt,k.rr.below hb k.rr.lt⟩
theorem play_s (v:Vr) (b:Bd) (hb:Ok v b) (S:Nat->Prop) (u1 u2:Value) (x y:Int) (hr:rollB v x y=true) (ss:List Stp) (As:Option Addr) (cp BS:Nat) (w:World) (hBS:BS<=w.heap.size) (hR:BdR w S u1 u2 b) (hs:RdS w BS 4 enSt As ss) :
  Calls prog 139 #[vA v,.agg #[u1,u2],.agg #[iL x,iL y],.slice As ss.length cp] w λ e w'=>Ret RelBI (playP v b x y ss) (λ _=>False) w e w':=by
 have ai:(1<=x∧x<=v.s)∧1<=y∧y<=x:=by unfold rollB at hr;simpa only [Bool.and_eq_true,decide_eq_true_eq] using hr
 have a0:=hb.v1.2.2.2.2;have CC:=kD (λ(f:World) (E:zB w f)=>code_s v b hb S u1 u2 x y hr f (hR.keep (.below E)));have CF:=kD (λ(ds:List Int) (hd:ds.length<=4) (uo:Value) (f:World) (E:zB w f) (ho:SlV 1 enI f All uo ds)=>follow_s v b hb S u1 u2 ds hd uo ss As cp BS f (Nat.le_trans hBS E.size) (hR.keep (.below E)) ho (hs.below E hBS));obtain⟨⟨A1,c1,rfl,r1,k1⟩,⟨A2,c2,rfl,r2,k2⟩⟩:=hR;have CU:=kD (λ(f:World) (E:zB w f)=>Bd23.used_s v b hb A1 A2 c1 c2 x y ⟨ai.1.1,by omega⟩ ⟨ai.2.1,by omega⟩ f (r1.keep (.below E)).rd (r2.keep (.below E)).rd k1 k2);have CL:=kD (λ(f:World) (E:zB w f)=>Bd5.legal_s v b hb A1 A2 c1 c2 f.heap.size x ⟨ai.1.1,by omega⟩ f lR (r1.keep (.below E)).rd (r2.keep (.below E)).rd);obtain⟨n1,aa⟩:=eX (b.1.length);obtain⟨n2,av⟩:=eX (b.2.length);rw [aa,av] at CC CF CU CL;rw [aa,av];obtain⟨N,hN⟩:=eX (ss.length);rw [hN] at CF;rw [hN];obtain⟨un,ah⟩:=eX (usedP v b (ordP x y));rw [ah] at CU;obtain⟨R,az⟩:=eX (playP v b x y ss);have hP:R=if N=un then firstF v b ss (ordS v b x y) else none:=by rw [<-az,<-hN,<-ah];rfl
 rw [az];have HP:=kD hP;have a9:=kD ah;clear hP az hN ah aa av r1 r2 hs hb a0 hr ai;go_enter func139,ntmps139;go_upto_region 1 with fail;refine wp_gen (λ W'=>F4 w W' v [.slice A1 n1 c1,.slice A2 n2 c2] x y) ⟨by go_grown,(((nW).alloc _).alloc _).alloc _,((nX).alloc _).alloc _,(nX).alloc _,nX⟩ ?_;intro w1 K;obtain⟨W,V,T,Q⟩:=K.rv.c4;obtain⟨P,J⟩:=K.rb.c2;obtain⟨d0,d1⟩:=K.rd.c2;go_wp2_with fail;refine(CC.out _ K.bel).mono ?_;rintro e w2 ⟨rfl,hb⟩;have K:=K.below hb;clear W V T Q P J d0 d1 hb CC;obtain⟨W,V,T,Q⟩:=K.rv.c4;obtain⟨P,J⟩:=K.rb.c2;obtain⟨d0,d1⟩:=K.rd.c2;go_wp2_with fail;refine(CU.out _ K.bel).mono ?_;rintro e w3 ⟨rfl,hb⟩;have K:=K.below hb;clear W V T Q P J d0 d1 hb CU;obtain⟨z0,z1⟩:=K.rr.c2;have aj:=K.rr.lt;have al:=K.rr.frozen;by_cases hNu:N=un
 rotate_left
 ·have af:R=none:=by rw [HP.out,if_neg hNu]
  subst af;have a3:((N:Int) != (un:Int))=true:=by simpa using (λ h:(N:Int)=un=>hNu (by omega))
  clear HP;go_wp2_with fail;refine bp_gen (λ W'=>Below w.heap.size w W'∧RowB W' (w.heap.size+3) 51 [.slice none 0 0,.slice none 0 0]) ⟨below_two (K.bel) (by omega) _ _,two_ (K.rr) _ _⟩ ?_;rintro w8 ⟨ae,r8⟩;obtain⟨z0,z1⟩:=r8.c2;refine bodyPost_ret (v:=.tuple #[.agg #[.slice none 0 0,.slice none 0 0],iL 5]) (by simp [results,results139,go_sem,z0,z1]) rfl ?_;exact⟨_,rfl,⟨_,_,([],[]),5,rfl,BdR.nil _ _,(λ _ h=>by cases h),(λ _=>by decide)⟩,ae⟩
 subst hNu;have HQ:Hid (R=firstF v b ss (ordS v b x y)):=by show _=_;rw [HP.out,if_pos rfl]
 have a3:((N:Int) != (N:Int))=false:=by simp
 clear HP z0 z1 aj al;obtain⟨W,V,T,Q⟩:=K.rv.c4;obtain⟨P,J⟩:=K.rb.c2;obtain⟨d0,d1⟩:=K.rd.c2;have CO:=kD (λ(f:World)=>orders2_s x y f);go_wp2_with fail;refine(CO.out _).mono ?_;rintro e w4 ⟨aE,rfl,a2,hb⟩;have K:=K.below hb;clear W V T Q P J d0 d1 hb CO;obtain⟨Aq,bw,rs,ay,Z,ab,-⟩:=a2;obtain rfl:aE=Aq:=by simp only [Value.slice.injEq] at ay;exact ay.1
 clear ay;have B:=kD ab;have D:=kD Z;have an:=kD (ord_len x y);clear Z ab;have aD:=K;obtain⟨P,J⟩:=K.rb.c2;obtain⟨d0,d1⟩:=K.rd.c2;obtain⟨W,V,T,Q⟩:=K.rv.c4;have H:=K.rv.lt;obtain⟨M0,ak⟩:=eX ((ordP x y).length);obtain⟨z,ht⟩:∃ t:Bool,decide (N=1∧M0=2∧0<(legalP v b x).length)=t:=⟨_,rfl⟩;have HO:Hid (ordS v b x y=if z=true then (ordP x y).take 1 else ordP x y):=by
  show _=_
  rw [<-ht];unfold ordS;rw [a9.out,ak];simp only [decide_eq_true_eq]
 rw [ak];have HT:=kD ht;have aV:=kD ak;clear ht ak aD;go_upto_region 8 with fail;go_cut [50] from 35 to 50 (λ aX wx=>aX=.bool z∧Below w4.heap.size w4 wx)
 case first =>
  by_cases h1:N=1
  rotate_left
  ·have aa:((N:Int) == 1)=false:=by simpa using (λ h:(N:Int)=1=>h1 (by omega))
   have ht:z=false:=by rw [<-HT.out];exact decide_eq_false (λ h=>h1 h.1)
   subst ht;clear h1;go_wp2_with fail;go_meet;exact⟨rfl,zRf⟩
  have aa:((N:Int) == 1)=true:=by rw [h1];rfl
  by_cases h2:M0=2
  rotate_left
  ·have a4:((M0:Int) == 2)=false:=by simpa using (λ h:(M0:Int)=2=>h2 (by omega))
   have ht:z=false:=by rw [<-HT.out];exact decide_eq_false (λ h=>h2 h.2.1)
   subst ht;clear h1 h2;go_wp2_with fail;go_meet;exact⟨rfl,zRf⟩
  have a4:((M0:Int) == 2)=true:=by rw [h2];rfl
  have aW:=kD (And.intro h1 h2);clear h1 h2;go_wp2_with fail;refine(CL.out _ K.bel).mono ?_;rintro e w5 ⟨vl,rfl,aH,hb⟩;obtain⟨Al,cl,rfl,-⟩:=aH.form enSt_len;obtain⟨ll,aw⟩:=eX ((legalP v b x).length);rw [aw];have ht:z=decide (0<ll):=by rw [<-HT.out,aw];simp [aW.out.1,aW.out.2]
  subst ht;clear aw aH;go_wp2_with fail;go_meet;exact⟨by first | rfl | simp,hb⟩
 case rest =>
 obtain⟨rfl,hb⟩:=hcut;have K:=K.below hb;have D:=kD (D.out.keep (.below hb));have B:=kD (B.out.keep (.below hb));clear W V T Q P J d0 d1 H hb;have aS:Hid (R=firstF v b ss (if z=true then (ordP x y).take 1 else ordP x y)):=by show _=_;rw [HQ.out,HO.out]
 have HQ:=aS;have am:Hid (z=true->M0=2):=kD (λ h=>by have h2:=HT.out;rw [h] at h2;exact(of_decide_eq_true h2).2.1);clear HO aS HT;go_upto_if 50 with fail;go_cut [12] from 51 to 52 (λ aY wx=>∃(L:List (List Int)) (cq:Nat),aY=.slice aE L.length cq∧F4 w wx v [.slice A1 n1 c1,.slice A2 n2 c2] x y∧(∃ rs,RdF wx (λ b=>w3.heap.size<=b) 1 en1 aE rs∧LsR RelI wx (λ b=>w3.heap.size<=b) rs L)∧Hid (∀ o ∈ L,o.length<=4)∧Hid (R=firstF v b ss L))
 case first =>
  cases z
  ·go_wp2_with fail;go_meet;exact⟨ordP x y,_,by rw [aV.out],K,⟨rs,D.out,B.out⟩,an,HQ⟩
  ·have am:=kD (am.out rfl);have bk:(1:Int)<=(M0:Int):=by rw [am.out];decide
   go_wp2_with fail;go_meet;exact⟨(ordP x y).take 1,M0,by simp [List.length_take,aV.out,am.out],K,⟨rs.take 1,rdf_take D.out 1,B.out.take 1⟩,kD (λ o ho=>an.out o (List.mem_of_mem_take ho)),HQ⟩
 case rest =>
 obtain⟨L,cq,rfl,K,⟨be,Z,ab⟩,an,HQ⟩:=hcut;have B:=kD ab;have D:=kD Z;clear Z ab;obtain⟨P,J⟩:=K.rb.c2;obtain⟨d0,d1⟩:=K.rd.c2;obtain⟨W,V,T,Q⟩:=K.rv.c4;have H:=K.rv.lt;go_upto_region 10 with fail;obtain⟨M,hM⟩:=eX (L.length);rw [hM];have bj:M<=9223372036854775807:=by have:=D.out.len;have:=B.out.1;omega
 have aU:=kD hM;clear hM W V T Q P J d0 d1 H;go_wp2_with fail;go_loopw [13] (λ i wr=>∃ k:Nat,k<=M∧i=iL (k:Int)∧Below wc.heap.size wc wr∧F4 w wr v [.slice A1 n1 c1,.slice A2 n2 c2] x y∧Hid (R=firstF v b ss (L.drop k))) (λ i _=>M - (intOf i).toNat)
 case atStart=>exact⟨0,Nat.zero_le _,by first | rfl | trivial,zRf,K,HQ⟩
 case round =>
  obtain⟨k,hk,rfl,I,K,aA⟩:=hrel;by_cases hlt:k<M
  ·obtain⟨ob,oo,r,rfl,-,ar,aG,hc⟩:=(D.out.keep (.below I)).at_ (i:=k) (by rw [B.out.1,aU.out];exact hlt);obtain⟨o,aq,a6⟩:=(B.out.keep (.below I)).at_ aG;have ac:=hc 0 r rfl;simp only [Nat.mul_one,Nat.add_zero] at ac;have aT:=kD (drop_at aq);have aI:=an.out o (List.mem_of_getElem? aq);obtain⟨Ao,co,rfl,aF,aM⟩:=a6;have aC:=kD (λ(f:World) (E:zB wr f)=>CF.out o aI (.slice Ao o.length co) f (K.bel.tR E) ⟨Ao,co,rfl,(aF.weak (λ _ _ _=>trivial)).keep (.below E),aM⟩);obtain⟨lo,aJ⟩:=eX (o.length);rw [aJ] at aC ac;have bh:k<M:=hlt;clear hc aG aq aF aM aI aJ;have KB:=K;have bb:w.heap.size+4<=wr.heap.size:=by have:=K.rr.lt;omega
   go_wp2_with fail;refine region_rel [some 60,some 61,some 62,some 63,some 64,some 65,some 66,some 67,some 59,some 68,some 69,some 14,none,some 15] 14 (Pl [some (vA v),some (.agg #[.slice A1 n1 c1,.slice A2 n2 c2]),some (.slice (sA ob oo) M cq),some (iL (k:Int)),some (pT ob (oo+k)),some (.slice Ao lo co),some (.slice As N cp),none,none,none,none,none,none,none]) (λ L d w'=>CbF (inS RelBB (λ b=>w.heap.size+4<=b)) (followP v b o ss) wr 7 11 12 [(8,(λ v=>v)),(9,ext 0),(10,ext 1),(13,ext 1)] (λ v=>aggC (ext 0 v)) 51 2 L d w') (by kernel_rfl) (by kernel_rfl) (by kernel_rfl) (by kernel_rfl) (by kernel_rfl) (by kernel_rfl) (by first | kernel_rfl | rfl) ?g0_1 ?gst_1 ?gfin_1
   case g0_1=>exact⟨(zRf).drew,λ h=>absurd h (by decide),λ p C h=>absurd h (by simp only [List.mem_cons,List.not_mem_nil,or_false] at C;rcases C with rfl | rfl | rfl | rfl <;> decide),λ h=>absurd h (by decide),λ h=>absurd h (by decide)⟩
   case gst_1 =>
    refine rN rfl (λ L d A f j a l U F K m=>?_) ?_
    ·have e4:=U.w 4 (pT w.heap.size 0);have G:=KB.below F.bel;obtain⟨W,V,T,Q⟩:=G.rv.c4;obtain⟨P,J⟩:=G.rb.c2;have oc:=(F.bel.cell ar).trans ac;have H:=G.rv.lt;clear G;go_simp;exact pF m (F.skip 0 _)
    refine rN rfl (λ L d A f j a l U F K m=>?_) ?_
    ·have e5:=U.w 5 (pT (w.heap.size+1) 0);have G:=KB.below F.bel;obtain⟨W,V,T,Q⟩:=G.rv.c4;obtain⟨P,J⟩:=G.rb.c2;have oc:=(F.bel.cell ar).trans ac;have H:=G.rv.lt;clear G;go_simp;exact pF m (F.skip 1 _)
    refine rN rfl (λ L d A f j a l U F K m=>?_) ?_
    ·have bv:=U.w 12 (.slice (sA ob oo) M cq);go_simp;exact pF m (F.skip 2 _)
    refine rN rfl (λ L d A f j a l U F K m=>?_) ?_
    ·have bt:=U.w 13 (iL (k:Int));go_simp;exact pF m (F.skip 3 _)
    refine rN rfl (λ L d A f j a l U F K m=>?_) ?_
    ·have bq:=U.v 2 62;have bp:=U.v 3 63;go_simp;exact pF m (F.skip 4 _)
    refine rN rfl (λ L d A f j a l U F K m=>?_) ?_
    ·have bo:=U.v 4 64;have G:=KB.below F.bel;obtain⟨W,V,T,Q⟩:=G.rv.c4;obtain⟨P,J⟩:=G.rb.c2;have oc:=(F.bel.cell ar).trans ac;have H:=G.rv.lt;clear G;go_simp;exact pF m (F.skip 5 _)
    refine rN rfl (λ L d A f j a l U F K m=>?_) ?_
    ·have e3:=U.w 3 (.slice As N cp);go_simp;exact pF m (F.skip 6 _)
    refine rN rfl (λ L d A f j a l U F K m=>?_) ?_
    ·have bs:=U.v 0 60;have br:=U.v 1 61;have bn:=U.v 5 65;have bm:=U.v 6 66;go_simp;refine(aC.out f F.bel).mono ?_;rintro e w6 ⟨v6,rfl,a1,a5⟩;exact m.out v6 w6 (Pl.any rfl) (F.call j (by decide) a5 (RelBB.weak a1 (λ b hb _=>hb.elim False.elim (λ h=>⟨.inr h,by have:=F.bel.size;omega⟩))))
    refine rN rfl (λ L d A f j a l U F K m=>?_) ?_
    ·have bl:=U.x 7 67;go_simp;exact m.out _ f (Pl.any rfl) (F.part 8 (by decide) (bK a 7) (by intro p C e;simp only [List.mem_cons,List.not_mem_nil,or_false] at C;rcases C with rfl | rfl | rfl | rfl <;> first | exact absurd e (by decide) | rfl))
    refine rN rfl (λ L d A f j a l U F K m=>?_) ?_
    ·have ag:=U.x 8 59;have fc:=F.fc (bK a 7);refine fc.elim λ u3 q=>?_
     refine q.elim λ u4 q=>?_
     refine q.elim λ X q=>?_
     have aR:=ag.trans ((F.fd (8,(λ v=>v)) (by simp) (bK a 8)).2.trans q.1);clear ag fc;go_simp;exact m.out _ f (Pl.any rfl) (F.part 9 (by decide) (bK a 7) (by intro p C e;simp only [List.mem_cons,List.not_mem_nil,or_false] at C;rcases C with rfl | rfl | rfl | rfl <;> first | exact absurd e (by decide) | (rw [q.1];try rfl)))
    refine rN rfl (λ L d A f j a l U F K m=>?_) ?_
    ·have ag:=U.x 8 59;have fc:=F.fc (bK a 7);refine fc.elim λ u3 q=>?_
     refine q.elim λ u4 q=>?_
     refine q.elim λ X q=>?_
     have aR:=ag.trans ((F.fd (8,(λ v=>v)) (by simp) (bK a 8)).2.trans q.1);clear ag fc;go_simp;exact m.out _ f (Pl.any rfl) (F.part 10 (by decide) (bK a 7) (by intro p C e;simp only [List.mem_cons,List.not_mem_nil,or_false] at C;rcases C with rfl | rfl | rfl | rfl <;> first | exact absurd e (by decide) | (rw [q.1];try rfl)))
    refine rN rfl (λ L d A f j a l U F K m=>?_) ?_
    ·go_simp;exact m.out _ _ (Pl.any rfl) (F.box j (by decide) (λ h=>j (l 12 11 (by kernel_rfl) h)) rfl)
    refine rN rfl (λ L d A f j a l U F K m=>?_) ?_
    ·have a8:=U.x 11 14;have a7:=U.x 9 68;have fc:=F.fc (bK a 7);refine fc.elim λ u3 q=>?_
     refine q.elim λ u4 q=>?_
     refine q.elim λ X q=>?_
     refine(F.fa (bK a 11)).elim λ g qa=>?_
     refine qa.2.2.1.elim λ cs qc=>?_
     have aO:cs.length=2:=qc.1;have aZ:d 9=.agg ⟨[u3,u4]⟩:=by rw [(F.fd (9,ext 0) (by simp) (bK a 9)).2,q.1];rfl
     refine q.2.1.1.elim λ A5 qs=>?_
     refine qs.elim λ c5 qs=>?_
     refine q.2.1.2.elim λ A6 qt=>?_
     refine qt.elim λ c6 qt=>?_
     refine wp_sm 51 _ _ rfl g 0 [u3,u4] cs (ev (a8.trans qa.1)) (ev (a7.trans aZ)) 51 qc.2 (by kernel_rfl) (Nat.le_of_eq aO.symm) (by rw [qs.1,qt.1];rfl) ?_;exact m.out undef _ (Pl.any rfl) (F.wrote (by decide) (bK a 7) (bK a 11) qa.1 qa.2.1 qc.2 (by rw [q.1];exact setL_all cs _ aO))
    refine rN rfl (λ L d A f j a l U F K m=>?_) ?_
    ·have aQ:=U.x 10 69;have fc:=F.fc (bK a 7);refine fc.elim λ u3 q=>?_
     refine q.elim λ u4 q=>?_
     refine q.elim λ X q=>?_
     have bd:=aQ.trans ((F.fd (10,ext 1) (by simp) (bK a 10)).2.trans (by rw [q.1];try rfl));clear fc aQ;go_simp;exact m.out _ f (Pl.any rfl) (F.part 13 (by decide) (bK a 7) (by intro p C e;simp only [List.mem_cons,List.not_mem_nil,or_false] at C;rcases C with rfl | rfl | rfl | rfl <;> first | exact absurd e (by decide) | (rw [q.1];try rfl)))
    exact RelFrom.nil (by decide)
   intro d f C F;simp only [Fr,Act.put,sX,Nat.reduceAdd];obtain⟨gx,ax,bi,-,aN⟩:=F.fa trivial;have rx:=(F.fw trivial).2 gx ax;obtain⟨u3,u4,X,ap,ad,Y⟩:=aN trivial;have ao:d 13=.bool (followP v b o ss).isSome:=(F.fd (13,ext 1) (by simp) trivial).2.trans (by rw [ap];try rfl);rw [ap] at rx;have rx:RowB f gx 51 [u3,u4]:=rx;rw [ax,ao];have aP:=F.bel;have K:=KB.below aP;have I:=I.tR aP;have bc:w.heap.size+4<=gx:=by have:=KB.rr.lt;omega
   clear F C ap ao aN ax KB aC;obtain⟨O,hO⟩:=eX (followP v b o ss);rw [hO] at Y ⊢;have HO:=kD hO;clear hO;obtain⟨z0,z1⟩:=K.rr.c2;have aj:=K.rr.lt;have al:=K.rr.frozen
   cases O with
   | none =>
    have ba:Hid (R=firstF v b ss (L.drop (k+1))):=by
     show _=_
     rw [aA.out,aT.out];simp only [firstF];rw [HO.out]
    have bg:=iW (((k:Int)+1));clear rx ad z0 z1 aj al;go_wp2_with fail;go_roundw
    case rel=>exact⟨k+1,by omega,by go_num,I,K,ba⟩
    case measure=>simp [intOf];omega
   | some c =>
    obtain rfl:=Y c rfl;have af:R=some X:=by rw [aA.out,aT.out];simp only [firstF];rw [HO.out]
    subst af;obtain⟨⟨A5,c5,rfl,p5,k5⟩,⟨A6,c6,rfl,p6,k6⟩⟩:=ad;have ad:BdR f (λ b=>b≠gx∧w.heap.size+4<=b) (.slice A5 X.1.length c5) (.slice A6 X.2.length c6) X:=⟨⟨A5,c5,rfl,p5,k5⟩,⟨A6,c6,rfl,p6,k6⟩⟩;have aB:=kD ad;obtain⟨l5,aL⟩:=eX (X.1.length);obtain⟨l6,aK⟩:=eX (X.2.length);rw [aL,aK] at rx aB;obtain⟨x0,x1⟩:=rx.c2;have bf:=rx.lt;clear ad p5 p6 aL aK HO;go_wp2_with fail;refine bp_gen (λ W'=>Below w.heap.size w W'∧RowB W' (w.heap.size+3) 51 [.slice A5 l5 c5,.slice A6 l6 c6]∧Hid (BdR W' (λ b=>(λ _=>False) b∨w.heap.size<=b) (.slice A5 l5 c5) (.slice A6 l6 c6) X)) ⟨below_two K.bel (by omega) _ _,two_ K.rr _ _,kD ⟨?_,?_⟩⟩ ?_
    ·exact(relV 1 enI).weak (sl_two' aB.out.1 (by omega) _ _) (λ b hb _=>.inr (by omega))
    ·exact(relV 1 enI).weak (sl_two' aB.out.2 (by omega) _ _) (λ b hb _=>.inr (by omega))
    rintro w8 ⟨ae,r8,h8⟩;obtain⟨z0,z1⟩:=r8.c2;refine bodyPost_ret (v:=.tuple #[.agg #[.slice A5 l5 c5,.slice A6 l6 c6],iL 0]) (by simp [results,results139,go_sem,z0,z1]) rfl ?_;exact⟨_,rfl,⟨_,_,X,0,rfl,h8.out,(λ b0 h=>⟨by simpa using h,rfl⟩),(λ h=>by cases h)⟩,ae⟩
  ·obtain rfl:M=k:=by omega
   have af:R=none:=by
    rw [aA.out,show L.drop M=[] from List.drop_eq_nil_of_le (by rw [aU.out];exact Nat.le_refl _)];rfl
   subst af;obtain⟨z0,z1⟩:=K.rr.c2;have aj:=K.rr.lt;have al:=K.rr.frozen;go_wp2_with fail;refine bp_gen (λ W'=>Below w.heap.size w W'∧RowB W' (w.heap.size+3) 51 [.slice none 0 0,.slice none 0 0]) ⟨below_two (K.bel) (by omega) _ _,two_ (K.rr) _ _⟩ ?_;rintro w8 ⟨ae,r8⟩;obtain⟨z0,z1⟩:=r8.c2;refine bodyPost_ret (v:=.tuple #[.agg #[.slice none 0 0,.slice none 0 0],iL 5]) (by simp [results,results139,go_sem,z0,z1]) rfl ?_;exact⟨_,rfl,⟨_,_,([],[]),5,rfl,BdR.nil _ _,(λ _ h=>by cases h),(λ _=>by decide)⟩,ae⟩
open Bd19 Bd20
theorem play_i (v:Vr) (b:Bd) (hb:Ok v b) (S:Nat->Prop) (u1 u2:Value) (x y:Int) (hr:rollB v x y=true) (ss:List Stp) (As:Option Addr) (cp BS:Nat) (w:World) (hBS:BS<=w.heap.size) (hR:BdR w S u1 u2 b) (hs:RdS w BS 4 enSt As ss) :
  Calls prog 133 #[vA v,.agg #[u1,u2],.agg #[iL x,iL y],.slice As ss.length cp] w λ e w'=>Ret RelBB (playP v b x y ss) (λ _=>False) w e w':=by
 have ab:(1<=x∧x<=v.s)∧1<=y∧y<=x:=by unfold rollB at hr;simpa only [Bool.and_eq_true,decide_eq_true_eq] using hr
 have aW:=hb.v1.2.2.2.2;have aa:1<=x∧x<=6:=⟨ab.1.1,by omega⟩;have Z:1<=y∧y<=6:=⟨ab.2.1,by omega⟩;have CF:=kD (λ(ds:List Int) (hd:ds.length<=4) (uo:Value) (V:World) (h9:zB w V) (ho:SlV 1 enI V All uo ds)=>follow_i v b hb S u1 u2 ds hd uo ss As cp BS V (Nat.le_trans hBS h9.size) (hR.keep (.below h9)) ho (hs.below h9 hBS));obtain⟨⟨A1,c1,rfl,r1,k1⟩,⟨A2,c2,rfl,r2,k2⟩⟩:=hR;have CQ:=kD (λ(V:World) (h9:zB w V)=>seqs_i v b hb A1 A2 c1 c2 x y aa Z V (r1.keep (.below h9)).rd (r2.keep (.below h9)).rd k1 k2);obtain⟨n1,C⟩:=eX (b.1.length);obtain⟨n2,ac⟩:=eX (b.2.length);rw [C,ac] at CF CQ;rw [C,ac];obtain⟨N,hN⟩:=eX (ss.length);rw [hN] at CF;rw [hN];have an:=ord_dice aa Z;have ao:(∀ R ∈ sqM v b (ordP x y),1<=R.length∧R.length<=5):=by
  intro R hR;obtain⟨o,ho,rfl⟩:=List.mem_map.1 hR;exact(rowsP_ok hb (λ d hd=>((an.1 o ho).1 d hd).1) (an.1 o ho).2).2
 obtain⟨R,al⟩:=eX (playP v b x y ss);have hP:R=if ss.length=usedR (sqM v b (ordP x y)) 0 then playGo v b ss (usedR (sqM v b (ordP x y)) 0) (ordP x y) (sqM v b (ordP x y)) else none:=by rw [<-al,<-playI_eq (by have:=hb.v1;omega)];rfl
 rw [al];rw [hN] at hP;have ap:∀(k:Nat) o,(ordP x y)[k]?=some o->∃ Q,(sqM v b (ordP x y))[k]?=some Q:=λ k o h=>⟨_,by unfold sqM;rw [List.getElem?_map,h];rfl⟩
 have E:(sqM v b (ordP x y)).length=(ordP x y).length:=by unfold sqM;rw [List.length_map]
 obtain⟨T,W⟩:=eX (sqM v b (ordP x y));obtain⟨a4,aL⟩:=eX (sqF v b (ordP x y));rw [W] at hP ao CQ ap E;rw [aL] at CQ;have HP:=kD hP;have aU:=kD ao;have aV:=kD ap;have X:=kD E;have aT:=kD (ord_len x y);clear hP al hN C ac r1 r2 hs hb aW hr ab an ao W aL aa Z ap E;go_enter func133,ntmps133;go_upto_region 1 with fail;refine wp_gen (λ g=>F4 w g v [.slice A1 n1 c1,.slice A2 n2 c2] x y) ⟨by go_grown,(((nW).alloc _).alloc _).alloc _,((nX).alloc _).alloc _,(nX).alloc _,nX⟩ ?_;intro w1 K;obtain⟨q0,q1,q2,q3⟩:=K.rv.c4;obtain⟨y0,y1⟩:=K.rb.c2;obtain⟨d0,d1⟩:=K.rd.c2;go_wp2_with fail;refine(CQ.out _ K.bel).mono ?_;rintro e w2 ⟨av,rfl,B,hb⟩;have K:=K.below hb;obtain⟨L,hL⟩:=eX (T.length);obtain⟨Aa,ca,aO,-⟩:=Bd19.OwnG.form en1_len B;rw [hL] at aO;subst aO;have HA:=kD (B.sl en1_len lR);have aS:=kD hL;clear q0 q1 q2 q3 y0 y1 d0 d1 hb CQ B hL;have CU:=kD (used_i T _ _ w2 HA.out (λ R hR=>⟨(aU.out R hR).1,by have:=(aU.out R hR).2;omega⟩));obtain⟨un,aC⟩:=eX (usedR T 0);rw [aC] at CU HP;clear aC;go_wp2_with fail;refine CU.out.mono ?_;rintro e w3 ⟨rfl,rfl⟩;obtain⟨z,t⟩:=K.rr.c2;have ae:=K.rr.lt;have aq:=K.rr.frozen;by_cases hNu:N=un
 rotate_left
 ·have m:R=none:=by rw [HP.out,if_neg hNu]
  subst m;have aY:((N:Int) != (un:Int))=true:=by simpa using (λ h:(N:Int)=un=>hNu (by omega))
  clear HP;go_wp2_with fail;refine bp_gen (λ g=>Below w.heap.size w g∧RowB g (w.heap.size+3) 51 [.slice none 0 0,.slice none 0 0]) ⟨below_two (K.bel) (by omega) _ _,two_ (K.rr) _ _⟩ ?_;rintro w8 ⟨j,Y⟩;obtain⟨z,t⟩:=Y.c2;refine bodyPost_ret (v:=.tuple #[.agg #[.slice none 0 0,.slice none 0 0],.bool false]) (by simp [results,results133,go_sem,z,t]) rfl ?_;exact⟨_,rfl,⟨_,_,([],[]),rfl,BdR.nil _ _,(λ _ h=>by cases h)⟩,j⟩
 subst hNu;have HQ:Hid (R=playGo v b ss N (ordP x y) T):=by show _=_;rw [HP.out,if_pos rfl]
 have aY:((N:Int) != (N:Int))=false:=by simp
 clear HP z t ae aq;obtain⟨d0,d1⟩:=K.rd.c2;have CO:=kD (λ(V:World)=>orders_i x y V);go_wp2_with fail;refine(CO.out _).mono ?_;rintro e w4 ⟨vv,rfl,B,hb⟩;have K:=K.below hb;have HA:=kD ((relSl RelR 1 en1).keep HA.out (.below hb));clear d0 d1 hb CO;obtain⟨Aq,cq,rs,rfl,aG,ad,-⟩:=B;obtain⟨M,hM⟩:=eX ((ordP x y).length);rw [hM] at X;rw [hM];obtain⟨OS,aP⟩:=eX (ordP x y);rw [aP] at ad HQ aV aT hM;have az:=kD ad;have aQ:=kD aG;have ay:=kD hM;have bd:M<=9223372036854775807:=by have:=aQ.out.len;have:=az.out.1;have:=ay.out;omega
 have aR:Hid (L=M):=by show _=_;rw [<-aS.out];exact X.out
 clear aG ad aP hM;go_wp2_with fail;go_loopw [34] (λ i wr=>∃ k:Nat,k<=M∧i=iL (k:Int)∧Below w4.heap.size w4 wr∧F4 w wr v [.slice A1 n1 c1,.slice A2 n2 c2] x y∧Hid (R=playGo v b ss N (OS.drop k) (T.drop k))) (λ i _=>M - (intOf i).toNat)
 case atStart=>exact⟨0,Nat.zero_le _,by first | rfl | trivial,zRf,K,HQ⟩
 case round =>
  obtain⟨k,hk,rfl,a,K,G⟩:=hrel;by_cases hlt:k<M
  ·obtain⟨ob,oo,r,rfl,-,a8,aF,hc⟩:=(aQ.out.keep (.below a)).at_ (i:=k) (by rw [az.out.1,ay.out];exact hlt);obtain⟨o,H,a0⟩:=(az.out.keep (.below a)).at_ aF;have ak:=hc 0 r rfl;simp only [Nat.mul_one,Nat.add_zero] at ak;have ax:=kD (drop_at H);have aI:=aT.out o (List.mem_of_getElem? H);obtain⟨Ao,co,rfl,aE,aK⟩:=a0;have aB:=kD (CF.out o aI (.slice Ao o.length co) wr K.bel ⟨Ao,co,rfl,aE.weak (λ _ _ _=>trivial),aK⟩);obtain⟨lo,aJ⟩:=eX (o.length);rw [aJ] at aB ak;obtain⟨Q,hQ⟩:=aV.out k o H;have aw:=kD (drop_at hQ);obtain⟨a2,a1,a6,aM,aH,ag,-⟩:=(relSl RelR 1 en1).keep HA.out (.below a);obtain⟨rfl,-,rfl⟩:Aa=a2∧L=T.length∧ca=a1:=by simpa only [Value.slice.injEq] using aM
   obtain⟨vb,vo,rq,rfl,-,a7,aD,aN⟩:=aH.at_ (i:=k) (by rw [ag.1,aS.out,aR.out];exact hlt);obtain⟨Q',am,aZ⟩:=ag.at_ aD;obtain rfl:Q=Q':=by rw [hQ] at am;simpa using am
   obtain⟨Ar,cr,a5,rfl,-,-,-⟩:=aZ;have aj:=aN 0 _ rfl;simp only [Nat.mul_one,Nat.add_zero] at aj;obtain⟨lq,af⟩:=eX (Q.length);rw [af] at aj;have aA:=kD af;have bb:k<M:=hlt;have bc:k<L:=by rw [aR.out];exact hlt
   obtain⟨q0,q1,q2,q3⟩:=K.rv.c4;obtain⟨y0,y1⟩:=K.rb.c2;have ba:=iW (((k:Int)+1));clear hc aF H aE aK aI aJ hQ aM aH ag aD aN am af;by_cases hsh:lq<=N
   ·have ar:Hid (R=playGo v b ss N (OS.drop (k+1)) (T.drop (k+1))):=by
     show _=_
     rw [G.out,ax.out,aw.out];simp only [playGo];rw [if_pos (by rw [aA.out];exact hsh)]
    have aX:decide (lq<=N)=true:=decide_eq_true hsh;go_wp2_with fail;go_roundw
    case rel=>exact⟨k+1,by omega,by go_num,a,K,ar⟩
    case measure=>simp [intOf];omega
   have aX:decide (lq<=N)=false:=decide_eq_false hsh;have P:Hid (∀ c,followP v b o ss=some c->R=some c):=by
    intro c hc;rw [G.out,ax.out,aw.out];simp only [playGo];rw [if_neg (by rw [aA.out];exact hsh),hc]
   have F:Hid (followP v b o ss=none->R=if N=1 then none else playGo v b ss N (OS.drop (k+1)) (T.drop (k+1))):=by
    intro hc;rw [G.out,ax.out,aw.out];simp only [playGo];rw [if_neg (by rw [aA.out];exact hsh),hc]
   clear G;go_wp2_with fail;refine aB.out.mono ?_;rintro e w5 ⟨v6,rfl,⟨u3,u4,J,rfl,I,A⟩,D⟩;have a3:w.heap.size+4<=wr.heap.size:=by have:=K.rr.lt;omega
   have K:=K.below D;have a:=a.tR D;obtain⟨O,hO⟩:=eX (followP v b o ss);rw [hO] at A P F ⊢;obtain⟨⟨A5,c5,rfl,p5,k5⟩,⟨A6,c6,rfl,p6,k6⟩⟩:=I;have I:BdR w5 (λ b=>w.heap.size+4<=b) (.slice A5 J.1.length c5) (.slice A6 J.2.length c6) J:=⟨⟨A5,c5,rfl,p5.weak (λ b hb _=>hb.elim False.elim (λ h=>by omega)),k5⟩,⟨A6,c6,rfl,p6.weak (λ b hb _=>hb.elim False.elim (λ h=>by omega)),k6⟩⟩;have q:=kD I;obtain⟨l5,ai⟩:=eX (J.1.length);obtain⟨l6,ah⟩:=eX (J.2.length);rw [ai,ah] at q;rw [ai,ah];clear q0 q1 q2 q3 y0 y1 I p5 p6 ai ah hO ak aj aB D;go_upto_region 10 with fail;refine wp_gen (λ g=>Below w5.heap.size w5 g∧F4 w g v [.slice A1 n1 c1,.slice A2 n2 c2] x y∧RowB g w5.heap.size 51 [.slice A5 l5 c5,.slice A6 l6 c6]∧Hid (BdR g (λ b=>w.heap.size+4<=b) (.slice A5 l5 c5) (.slice A6 l6 c6) J)) ⟨(zRf).alloc lR _,K.below ((zRf).alloc lR _),nW,kD (q.out.keep (.below ((zRf).alloc lR _)))⟩ ?_;clear K q;rintro w6 ⟨D,K,rx,q⟩;have a:=a.tR D;obtain⟨x0,x1⟩:=rx.c2;have a9:=rx.lt;obtain⟨z,t⟩:=K.rr.c2;have ae:=K.rr.lt;have aq:=K.rr.frozen
   cases O with
   | some c =>
    obtain rfl:=A c rfl;have m:R=some J:=P.out _ rfl;subst m;go_wp2_with fail;refine bp_gen (λ g=>Below w.heap.size w g∧RowB g (w.heap.size+3) 51 [.slice A5 l5 c5,.slice A6 l6 c6]∧Hid (BdR g (λ b=>(λ _=>False) b∨w.heap.size<=b) (.slice A5 l5 c5) (.slice A6 l6 c6) J)) ⟨below_two K.bel (by omega) _ _,two_ K.rr _ _,kD ⟨?_,?_⟩⟩ ?_
    ·exact(relV 1 enI).weak (sl_two' q.out.1 (by omega) _ _) (λ b hb _=>.inr (by omega))
    ·exact(relV 1 enI).weak (sl_two' q.out.2 (by omega) _ _) (λ b hb _=>.inr (by omega))
    rintro w8 ⟨j,Y,h8⟩;obtain⟨z,t⟩:=Y.c2;refine bodyPost_ret (v:=.tuple #[.agg #[.slice A5 l5 c5,.slice A6 l6 c6],.bool true]) (by simp [results,results133,go_sem,z,t]) rfl ?_;exact⟨_,rfl,⟨_,_,J,rfl,h8.out,(λ b0 h=>by simpa using h)⟩,j⟩
   | none =>
    by_cases h1:N=1
    ·have m:R=none:=by rw [F.out rfl,if_pos h1]
     subst m;have C:((N:Int) == 1)=true:=by rw [h1];rfl
     clear h1 F P;go_wp2_with fail;refine bp_gen (λ g=>Below w.heap.size w g∧RowB g (w.heap.size+3) 51 [.slice none 0 0,.slice none 0 0]) ⟨below_two (K.bel) (by omega) _ _,two_ (K.rr) _ _⟩ ?_;rintro w8 ⟨j,Y⟩;obtain⟨z,t⟩:=Y.c2;refine bodyPost_ret (v:=.tuple #[.agg #[.slice none 0 0,.slice none 0 0],.bool false]) (by simp [results,results133,go_sem,z,t]) rfl ?_;exact⟨_,rfl,⟨_,_,([],[]),rfl,BdR.nil _ _,(λ _ h=>by cases h)⟩,j⟩
    ·have ar:Hid (R=playGo v b ss N (OS.drop (k+1)) (T.drop (k+1))):=by show _=_;rw [F.out rfl,if_neg h1]
     have C:((N:Int) == 1)=false:=by simpa using (λ h:(N:Int)=1=>h1 (by omega))
     clear h1 F P;go_wp2_with fail;go_roundw
     case rel=>exact⟨k+1,by omega,by go_num,a,K,ar⟩
     case measure=>simp [intOf];omega
  ·obtain rfl:M=k:=by omega
   have m:R=none:=by
    rw [G.out,show OS.drop M=[] from List.drop_eq_nil_of_le (by rw [ay.out];exact Nat.le_refl _)];rfl
   subst m;obtain⟨z,t⟩:=K.rr.c2;have ae:=K.rr.lt;have aq:=K.rr.frozen;go_wp2_with fail;refine bp_gen (λ g=>Below w.heap.size w g∧RowB g (w.heap.size+3) 51 [.slice none 0 0,.slice none 0 0]) ⟨below_two (K.bel) (by omega) _ _,two_ (K.rr) _ _⟩ ?_;rintro w8 ⟨j,Y⟩;obtain⟨z,t⟩:=Y.c2;refine bodyPost_ret (v:=.tuple #[.agg #[.slice none 0 0,.slice none 0 0],.bool false]) (by simp [results,results133,go_sem,z,t]) rfl ?_;exact⟨_,rfl,⟨_,_,([],[]),rfl,BdR.nil _ _,(λ _ h=>by cases h)⟩,j⟩
theorem full_s (w:World):Calls prog 73 #[] w λ e w'=>e=.returned (.agg #[iL 24,iL 15,iL 6,iL 6])∧Below w.heap.size w w':=by
 go_enter func73,ntmps73;go_wp2;go_returns;exact⟨rfl,by go_grown⟩
theorem full_i (w:World):Calls prog 128 #[] w λ e w'=>e=.returned (.agg #[iL 24,iL 15,iL 6,iL 6])∧Below w.heap.size w w':=by
 go_enter func128,ntmps128;go_wp2;go_returns;exact⟨rfl,by go_grown⟩
def fullB (v:Vr):Bool:=decide (v.p=24) && decide (v.c=15) && decide (v.h=6) && decide (v.s=6)
theorem eq_full (v:Vr) (w:World):(binOp .eql 25 (vA v) (.agg #[iL 24,iL 15,iL 6,iL 6])).run prog w=.ok (.bool (fullB v)) w:=by
 unfold fullB;by_cases h1:v.p=24 <;> by_cases h2:v.c=15 <;> by_cases h3:v.h=6 <;> by_cases h4:v.s=6 <;> go_simp <;> simp [h1,h2,h3,h4]
theorem flatI_rep (n:Nat):(List.replicate n (0:Int)).flatMap enI=List.replicate n (iL 0):=by
 induction n with
 | zero=>rfl
 | succ n ih=>rw [List.replicate_succ,List.flatMap_cons,ih];rfl
theorem empty_s (v:Vr) (hv:okV v=true) (w:World):Calls prog 135 #[vA v] w λ e w'=>(∃(g n:Nat),(n:Int)=v.p+1∧e=.returned (.slice (sA g 0) n n)∧w.heap.size<=g∧RowI w' g (List.replicate n 0) [])∧Below w.heap.size w w':=by
 have x:=okV_iff.1 hv;obtain⟨r,m,k,j,i⟩:=info_parts Ints.info;obtain⟨n,l⟩:∃ n:Nat,(n:Int)=v.p+1:=⟨(v.p+1).toNat,by omega⟩;have t:IntKind.i64.wrap (v.p+1)=(n:Int):=by rw [IntWalk.i64_in _ (by omega)];exact l.symm
 have y:n<=25:=by omega
 have z:=kD l;clear l x hv;go_enter func135,ntmps135;go_wp2_with (at_make;refine wpList_make_full _ rfl _ _ _ rfl (w.heap.size+1) 2 r (iL 0) 1 Tryz.underlying49 m k j _ _ _ _ n rfl rfl rfl rfl ?c1 ?c2 (by go_size) ?_)
 case c1=>rw [i];omega
 case c2=>unfold maxLen;omega
 intro q b a;have d:Below w.heap.size w (w.alloc (.cells #[iL v.p,iL v.c,iL v.h,iL v.s] 25)):=by go_grown
 have o:Below w.heap.size w q:=d.grown a d.size (by simp);have f:RowI q (w.heap.size+1) (List.replicate n 0) []:=by
  have:=RowB.of_own b;unfold RowI
  simpa [made_rep,flatI_rep] using this
 clear b a d;go_wp2_with fail;go_ret;exact⟨⟨w.heap.size+1,n,z.out,rfl,by omega,f⟩,o⟩
structure Sg (w wr:World) (v:Vr) (g:Nat) (l:List Int):Prop where
 bel:Below w.heap.size w wr
 rv:RowB wr w.heap.size 25 (vL v)
 rl:RowI wr g l []
theorem Sg.below {w wr w':World} {v:Vr} {g:Nat} {l:List Int} (k:Sg w wr v g l) (hb:zB wr w'):Sg w w' v g l :=
 ⟨k.bel.tR hb,k.rv.below hb k.rv.lt,k.rl.below hb k.rl.lt⟩
theorem Sg.put {w wr:World} {v:Vr} {g:Nat} {l:List Int} (k:Sg w wr v g l) (hg:w.heap.size<g) {i:Nat} (hi:i<l.length) (x:Int):Sg w (wr.setCell ⟨g,i,none⟩ (iL x)) v g (l.set i x) :=
 ⟨k.bel.setCell (p:=⟨g,i,none⟩) (by show w.heap.size<=g;omega) _,k.rv.other (p:=⟨g,i,none⟩) (by show w.heap.size≠g;omega) _,k.rl.put hi x⟩
theorem start_s (v:Vr) (hv:okV v=true) (h4:4<=v.p) (w:World):Calls prog 99 #[vA v] w λ e w'=>(∃ sv,e=.returned sv∧OwnS w' w.heap.size w'.heap.size 2 1 enI sv (startL v))∧Below w.heap.size w w':=by
 have r:=okV_iff.1 hv;have CE:=kD (λ l=>empty_s v hv l);have CF:=kD (λ l=>full_s l);obtain⟨q,W⟩:=eX (fullB v);have qE:∀ w:World,(binOp .eql 25 (vA v) (.agg #[iL 24,iL 15,iL 6,iL 6])).run prog w=.ok (.bool q) w:=λ w=>by rw [eq_full,W]
 have HQ:=kD W;clear W hv;go_enter func99,ntmps99;go_upto_region 1 with fail;refine wp_gen (λ W'=>Below w.heap.size w W'∧RowB W' w.heap.size 25 (vL v)) ⟨by go_grown,nW⟩ ?_;rintro w1 ⟨C,S⟩;obtain⟨I,H,G,E⟩:=S.c4;have f:=S.lt;go_wp2_with fail;refine(CE.out _).mono ?_;rintro e V ⟨⟨g,n,hn,rfl,hg,m⟩,B⟩;have K:Sg w V v g (List.replicate n 0):=⟨C.tR B,S.below B f,m⟩;have b:w.heap.size<g:=by omega
 clear C B S I H G E m hg f;obtain⟨I,H,G,E⟩:=K.rv.c4;have f:=K.rv.lt;have T:=kD hn;have ah:5<=n:=by omega
 have aa:n<=25:=by omega
 have hP:=kD r;clear hn r;go_wp2_with fail;have KB:=K;refine rG [some 6,some 7,some 8] 3 (Pl [some (vA v),some (.agg #[iL 24,iL 15,iL 6,iL 6]),some (.bool q)]) (λ L a w'=>Below V.heap.size V w') ?g0_1 ?gst_1 ?gfin_1
 case g0_1=>exact(zRf).drew
 case gst_1 =>
  refine rN rfl (λ L a A l M N O U F K Q=>?_) ?_
  ·have e1:=U.w 1 (pT w.heap.size 0);have KK:=KB.below F;obtain⟨I,H,G,E⟩:=KK.rv.c4;have ai:=KK.rv.lt;clear KK;go_simp;exact pF Q (F)
  refine rN rfl (λ L a A l M N O U F K Q=>?_) ?_
  ·go_simp;refine(CF.out l).mono ?_;rintro e w6 ⟨rfl,Y⟩;exact pF Q (F.tR Y)
  refine rN rfl (λ L a A l M N O U F K Q=>?_) ?_
  ·have e6:=U.v 0 6;have e7:=U.v 1 7;go_simp;exact pF Q (F)
  exact RelFrom.nil (by decide)
 intro a l r F;simp only [Fr,Act.put,sX,Nat.reduceAdd];have J:a 2=.bool q:=r 2 (by decide) _ rfl;rw [J];have P:=F;have K:=KB.below P;obtain⟨w3,o⟩:=eX (l);rw [o] at K ⊢;clear I H G E f P F r J o KB qE CF CE
 cases q
 case true =>
  have x:v.p=24∧v.c=15∧v.h=6∧v.s=6:=by
   have:=HQ.out;unfold fullB at this;simp only [Bool.and_eq_true,decide_eq_true_eq] at this;exact⟨this.1.1.1,this.1.1.2,this.1.2,this.2⟩
  have d:n=25:=by have:=T.out;omega
  have HF:Hid (startL v=((((List.replicate n (0:Int)).set 5 5).set 7 3).set 12 5).set 23 2):=by
   show _=_
   unfold startL;rw [if_pos x,d]
  have g5:5<n:=by omega
  have g7:7<n:=by omega
  have ax:12<n:=by omega
  have aw:23<n:=by omega
  clear d x;have av:=K.rl.at_ (i:=5) (by simp only [List.length_set,List.length_replicate];omega);have ar:=K.rl.at_ (i:=7) (by simp only [List.length_set,List.length_replicate];omega);have ac:=K.rl.at_ (i:=12) (by simp only [List.length_set,List.length_replicate];omega);have ab:=K.rl.at_ (i:=23) (by simp only [List.length_set,List.length_replicate];omega);have Z:=RowB.frozen K.rl;have t:=RowB.lt K.rl;have R:=(((K.put b (i:=5) (by simp only [List.length_set,List.length_replicate];omega) 5).put b (i:=7) (by simp only [List.length_set,List.length_replicate];omega) 3).put b (i:=12) (by simp only [List.length_set,List.length_replicate];omega) 5).put b (i:=23) (by simp only [List.length_set,List.length_replicate];omega) 2;have k:=kD R;clear K R;go_wp2_with fail;go_ret;refine⟨⟨_,rfl,?_⟩,k.out.bel⟩;show OwnS _ w.heap.size _ 2 1 enI (.slice (sA g 0) n n) _
  rw [HF.out];have X:=RowI.own k.out.rl (lo:=w.heap.size) (hi:=w3.heap.size) (by omega) t rfl (by simp only [List.length_set,List.length_replicate,List.length_nil];unfold maxLen;omega)
  simpa only [List.length_set,List.length_replicate,List.length_nil,Nat.add_zero] using X.more (by simp)
 case false =>
  obtain⟨I,H,G,E⟩:=K.rv.c4;have f:=K.rv.lt;have Z:=RowB.frozen K.rl;have t:=RowB.lt K.rl;have r:=hP.out;obtain⟨i,hi⟩:∃ i:Nat,(i:Int)=v.p - 1:=⟨(v.p - 1).toNat,by omega⟩;obtain⟨j,hj⟩:∃ j:Nat,(j:Int)=v.p / 2 - 1:=⟨(v.p / 2 - 1).toNat,by omega⟩;have ag:IntKind.i64.wrap (v.p - 1)=(i:Int):=by rw [IntWalk.i64_in _ (by omega)];exact hi.symm
  have al:i<n:=by have:=T.out;omega
  have aj:j<n:=by have:=T.out;omega
  have am:¬ i=j:=by omega
  have ak:¬ j=i:=by omega
  have aq:=K.rl.at_ (i:=i) (by simp only [List.length_set,List.length_replicate];omega);have ap:=K.rl.at_ (i:=j) (by simp only [List.length_set,List.length_replicate];omega);obtain⟨D,z⟩:∃ c:Int,v.c / 2=c:=⟨_,rfl⟩;obtain⟨dd,y⟩:∃ c:Int,v.c - D=c:=⟨_,rfl⟩;have ao:Int.tdiv v.p 2=(j:Int)+1:=by rw [Int.tdiv_eq_ediv_of_nonneg (by omega)];omega
  have af:=iW (((j:Int)+1));have o:IntKind.i64.wrap ((j:Int)+1 - 1)=(j:Int):=by rw [IntWalk.i64_in _ (by omega)];omega
  have an:Int.tdiv v.c 2=D:=by rw [Int.tdiv_eq_ediv_of_nonneg (by omega)];exact z
  have ae:=iW D;have ad:IntKind.i64.wrap (v.c - D)=dd:=by rw [IntWalk.i64_in _ (by omega)];exact y
  have HF:Hid (startL v=((List.replicate n (0:Int)).set i D).set j dd):=by
   show _=_
   unfold startL;rw [if_neg (λ x=>by have:=HQ.out;unfold fullB at this;simp [x.1,x.2.1,x.2.2.1,x.2.2.2] at this)];rw [show (v.p+1).toNat=n from by have:=T.out;omega,show (v.p - 1).toNat=i from by omega,show (v.p / 2 - 1).toNat=j from by omega,<-y,<-z]
  have R:=(K.put b (i:=i) (by simp only [List.length_set,List.length_replicate];omega) D).put b (i:=j) (by simp only [List.length_set,List.length_replicate];omega) dd;have k:=kD R;clear hi hj r z y K R;go_wp2_with fail;go_ret;refine⟨⟨_,rfl,?_⟩,k.out.bel⟩;show OwnS _ w.heap.size _ 2 1 enI (.slice (sA g 0) n n) _
  rw [HF.out];have X:=RowI.own k.out.rl (lo:=w.heap.size) (hi:=w3.heap.size) (by omega) t rfl (by simp only [List.length_set,List.length_replicate,List.length_nil];unfold maxLen;omega)
  simpa only [List.length_set,List.length_replicate,List.length_nil,Nat.add_zero] using X.more (by simp)
structure Dv (M:(Nat->Prop)->(Nat->Value)->World->Prop) (k5 k4:Nat) (g:Value->Value) (L:Nat->Prop) (vals:Nat->Value) (w':World):Prop where
 a:M L vals w'
 b:L k5->L k4∧vals k5=g (vals k4)
section
variable {M:(Nat->Prop)->(Nat->Value)->World->Prop} {k5 k4:Nat} {g:Value->Value} {L:Nat->Prop} {vals:Nat->Value} {w' w'':World}
theorem Dv.other {k:Nat} {x:Value} (F:Dv M k5 k4 g L vals w') (hk:k5≠k∧k4≠k) (ha:M (λ j=>j=k∨L j) (upd vals k x) w''):Dv M k5 k4 g (λ j=>j=k∨L j) (upd vals k x) w'' :=
 ⟨ha,λ h=>by have:=F.b (h.resolve_left hk.1);rw [upd_ne hk.1,upd_ne hk.2];exact⟨.inr this.1,this.2⟩⟩
theorem Dv.at4 {x:Value} (F:Dv M k5 k4 g L vals w') (hno:¬ L k4) (hk:k5≠k4) (ha:M (λ j=>j=k4∨L j) (upd vals k4 x) w''):Dv M k5 k4 g (λ j=>j=k4∨L j) (upd vals k4 x) w'' :=
 ⟨ha,λ h=>absurd (F.b (h.resolve_left hk)).1 hno⟩
theorem Dv.at5 {x:Value} (F:Dv M k5 k4 g L vals w') (hk:k4≠k5) (l4:L k4) (hx:x=g (vals k4)) (ha:M (λ j=>j=k5∨L j) (upd vals k5 x) w''):Dv M k5 k4 g (λ j=>j=k5∨L j) (upd vals k5 x) w'' :=
 ⟨ha,λ _=>by rw [upd_same,upd_ne hk];exact⟨.inr l4,hx⟩⟩
end
def gm0 (v:Value):List Value:=aggC v++[iL 0,iL 0,iL 0,iL 0,iL 0,iL 0,iL 0]
theorem new_s (v:Vr) (hv:okV v=true) (h4:4<=v.p) (w:World):Calls prog 74 #[vA v] w λ e w'=>Ret RelGV (newG v) (λ _=>False) w e w':=by
 have CS:=kD (λ i=>start_s v hv h4 i);clear hv h4;go_enter func74,ntmps74;go_upto_region 1 with fail;refine wp_gen (λ W'=>Below w.heap.size w W'∧RowB W' w.heap.size 25 (vL v)∧RowB W' (w.heap.size+1) 55 gM) ⟨by go_grown,(nW).alloc _,nX⟩ ?_;rintro w1 ⟨t,T,X⟩;have O:=T.lt;have Z:=X.lt;refine rG [some 3,some 4,some 5,some 6,some 7,some 8,none] 7 (Pl [some (vA v),none,some (vA v),none,none,none,none]) (λ L f w'=>Dv (λ L f w'=>C2E RelI (startL v) RelI (startL v) w1 1 3 4 6 (λ a b=>.agg #[a,b]) (w.heap.size+1) 55 (gmC (.slice none 0 0) (.slice none 0 0) nulG) gm0 L f w') 5 4 (λ v=>.agg ⟨gm0 v⟩) L f w') ?g0_2 ?gst_2 ?gfin_2
 case g0_2=>exact⟨⟨⟨rfl,rfl,rfl,Nat.le_refl _,λ _ _ _=>rfl⟩,Z,λ h=>absurd h (by decide),λ h=>absurd h (by decide),λ h=>absurd h (by decide),λ _=>X,λ h=>absurd h (by decide)⟩,λ h=>absurd h (by decide)⟩
 case gst_2 =>
  refine rN rfl (λ L f A i g d q U F K y=>?_) ?_
  ·have e1:=U.w 1 (pT w.heap.size 0);have m:RowB i w.heap.size 25 (vL v):=(F.a.bel.block w.heap.size O (λ e=>by simp at e)).trans T;obtain⟨q0,l,j,q3⟩:=m.c4;have Y:=m.lt;clear m;go_simp;exact pF y (F.other (by decide) (F.a.skip 0 _))
  refine rN rfl (λ L f A i g d q U F K y=>?_) ?_
  ·have e3:=U.v 0 3;go_simp;refine(CS.out i).mono ?_;rintro e V ⟨⟨W,rfl,E⟩,G⟩;exact y.out W V (Pl.any rfl) (F.other (by decide) (F.a.call1 g (by decide) G (OwnV.sl enI_len (OwnV.of E lR (λ b hb _=>hb)))))
  refine rN rfl (λ L f A i g d q U F K y=>?_) ?_
  ·have e1:=U.w 1 (pT w.heap.size 0);have m:RowB i w.heap.size 25 (vL v):=(F.a.bel.block w.heap.size O (λ e=>by simp at e)).trans T;obtain⟨q0,l,j,q3⟩:=m.c4;have Y:=m.lt;clear m;go_simp;exact pF y (F.other (by decide) (F.a.skip 2 _))
  refine rN rfl (λ L f A i g d q U F K y=>?_) ?_
  ·have e5:=U.v 2 5;go_simp;refine(CS.out i).mono ?_;rintro e V ⟨⟨W,rfl,E⟩,G⟩;exact y.out W V (Pl.any rfl) (F.other (by decide) (F.a.call2 g (by decide) G (OwnV.sl enI_len (OwnV.of E lR (λ b hb _=>hb)))))
  refine rN rfl (λ L f A i g d q U F K y=>?_) ?_
  ·have R:=U.x 1 4;have e6:=U.x 3 6;refine(F.a.f1 (bK d 1)).elim λ D l=>?_
   refine l.elim λ B l=>?_
   refine(F.a.f2 (bK d 3)).elim λ C j=>?_
   refine j.elim λ z j=>?_
   have ad:=R.trans l.1;have ac:=e6.trans j.1;clear R e6;go_simp;exact y.out _ i (Pl.any rfl) (F.at4 g (by decide) (F.a.built g (by decide) (bK d 1) (bK d 3) (by rw [l.1,j.1])))
  refine rN rfl (λ L f A i g d q U F K y=>?_) ?_
  ·have e7:=U.x 4 7;refine(F.a.f1 (bK d 1)).elim λ D l=>?_
   refine l.elim λ B l=>?_
   refine(F.a.f2 (bK d 3)).elim λ C j=>?_
   refine j.elim λ z j=>?_
   have aa:=e7.trans (F.a.fb (bK d 4)).2.2;rw [l.1,j.1] at aa;clear e7;go_simp;exact y.out _ i (Pl.any rfl) (F.at5 (by decide) (bK d 4) (by rw [(F.a.fb (bK d 4)).2.2,l.1,j.1];rfl) (F.a.skip 5 _))
  refine rN rfl (λ L f A i g d q U F K y=>?_) ?_
  ·have e2:=U.w 2 (pT (w.heap.size+1) 0);have e8:=U.x 5 8;refine(F.a.f1 (bK d 1)).elim λ D l=>?_
   refine l.elim λ B l=>?_
   refine(F.a.f2 (bK d 3)).elim λ C j=>?_
   refine j.elim λ z j=>?_
   have h5:=(F.b (bK d 5)).2;rw [(F.a.fb (bK d 4)).2.2,l.1,j.1] at h5;refine wp_sm 55 _ _ rfl (w.heap.size+1) 0 (gmC (.slice D (startL v).length B) (.slice C (startL v).length z) (newG v)) (gmC (.slice none 0 0) (.slice none 0 0) nulG) (ev e2) (ev (e8.trans h5)) 55 (F.a.row g) (by kernel_rfl) lR rfl ?_;exact y.out undef _ (Pl.any rfl) (F.other (by decide) (F.a.wrote (by decide) g (bK d 4) 0 (by rw [(F.a.fb (bK d 4)).2.2,l.1,j.1];rfl)))
  exact RelFrom.nil (by decide)
 intro f i hp F;simp only [Fr,Act.put,sX,Nat.reduceAdd];obtain⟨-,r⟩:=F.a.fw trivial;obtain⟨-,-,N⟩:=F.a.fb (F.a.fw trivial).1;obtain⟨D,B,e3,I,M⟩:=F.a.f1 trivial;obtain⟨C,z,R,H,J⟩:=F.a.f2 trivial;rw [N,e3,R] at r;have o:=F.a.bel;have Q:Below w.heap.size w i:=⟨o.os.trans t.os,o.tape.trans t.tape,o.output.trans t.output,Nat.le_trans t.size o.size,λ k hk=>(o.block k (by omega) (λ e=>by simp at e;omega)).trans (t.block k hk)⟩;have r:RowB i (w.heap.size+1) 55 (gmC (.slice D (startL v).length B) (.slice C (startL v).length z) (newG v)):=r;have P:BdR i (λ b=>(λ _=>False) b∨w.heap.size<=b) (.slice D (startL v).length B) (.slice C (startL v).length z) (newG v).b:=⟨⟨D,B,rfl,I.weak (λ b h _=>.inr (by omega)),M⟩,⟨C,z,rfl,H.weak (λ b h _=>.inr (by omega)),J⟩⟩;have S:=kD P;have ab:=kD Q;clear F hp N e3 R I H M J P Q o t T X;obtain⟨n,hn⟩:=eX ((startL v).length);rw [hn] at r S;clear hn;obtain⟨x0,x1,x2,x3,x4,x5,x6,x7,x8⟩:=row9 r;go_wp2_with fail;refine bodyPost_ret (v:=.agg ⟨gmC (.slice D n B) (.slice C n z) (newG v)⟩) (by simp [results,results74,go_sem,gmC,newG,x0,x1,x2,x3,x4,x5,x6,x7,x8]) rfl ?_;exact⟨_,rfl,⟨_,_,rfl,S.out⟩,ab.out⟩
end Gm
namespace Bd31
open Go.ChangeShapes Go.WideShapes Go.ChangeAt Go.RowKit Base Ints Own Clone RelG PlP Bd1 Bd5 Bd8 Bd10 Bd11
theorem slEq (l m:List Int) (n:Nat) (hl:l.length=n) (hm:m.length=n) (A1 A2:Option Addr) (c1 c2 B:Nat) (w:World) (r1:RdS w B 1 enI A1 l) (r2:RdS w B 1 enI A2 m) (x:Bool) (hx:decide (l=m)=x) :
  Calls prog 194 #[.slice A1 n c1,.slice A2 n c2] w λ e w'=>e=.returned (.bool x)∧Below w.heap.size w w':=by
 have g:=r1.len;rw [hl] at g;have p:Hid (decide (∀ i,i<n->at_ l i=at_ m i)=x):=kD (by rw [<-hx,<-hl];exact(eq_at (by rw [hl,hm])).symm);have G:=kD hl;have F:=kD hm;have E:=kD r1;have D:=kD r2;clear hl hm r1 r2 hx;go_enter func194,ntmps194;go_wp2_with fail;go_loopw [13] (λ i wr=>∃ k:Nat,k<=n∧i=iL (k:Int)∧Hid (∃ q,wr=w.drewN q)∧Hid (∀ i,i<k->at_ l i=at_ m i)) (λ i _=>n - (intOf i).toNat)
 case atStart=>exact⟨0,Nat.zero_le _,by first | rfl | trivial,kD ⟨0,rfl⟩,kD (λ i h=>absurd h (Nat.not_lt_zero _))⟩
 case round =>
  obtain⟨k,H,rfl,b,a⟩:=hrel;by_cases hlt:k<n
  ·obtain⟨C,s,rfl,o,d⟩:=at_rd E.out (i:=k) (by rw [G.out];exact hlt);obtain⟨A,r,rfl,j,c⟩:=at_rd D.out (i:=k) (by rw [F.out];exact hlt);have K:wr.cell? ⟨C,s+k,none⟩=some (iL (at_ l k)):=by obtain⟨q,rfl⟩:=b.out;exact d
   have J:wr.cell? ⟨A,r+k,none⟩=some (iL (at_ m k)):=by obtain⟨q,rfl⟩:=b.out;exact c
   have y:(k:Int)<(n:Int):=by omega
   have t:=iW (((k:Int)+1));clear d c;by_cases hv:at_ l k=at_ m k
   ·have z:(at_ l k != at_ m k)=false:=by simp [hv]
    have f:=kD (show ∀ i,i<k+1->at_ l i=at_ m i from λ i I=>by
     by_cases e:i=k
     ·rw [e];exact hv
     ·exact a.out i (by omega))
    clear hv;go_wp2_with fail;go_quiet (fail);go_wp2_with fail;go_roundw
    case rel=>exact⟨k+1,by omega,by go_num,kD (by obtain⟨q,rfl⟩:=b.out;exact⟨_,World.drewN_drewN _ _ _⟩),f⟩
    case measure=>simp [intOf];omega
   ·have z:(at_ l k != at_ m k)=true:=by simp [hv]
    obtain rfl:x=false:=by rw [<-p.out];exact decide_eq_false (λ h=>hv (h k hlt))
    clear hv;go_wp2_with fail;go_quiet (fail);go_wp2_with fail;go_ret;exact⟨rfl,by obtain⟨q,rfl⟩:=b.out;exact below_drewN (below_drewN (zRf) _) _⟩
  ·obtain rfl:k=n:=by omega
   have v:¬ ((k:Int)<(k:Int)):=by omega
   obtain rfl:x=true:=by rw [<-p.out];exact decide_eq_true a.out
   go_wp2_with fail;go_ret;exact⟨rfl,by obtain⟨q,rfl⟩:=b.out;exact below_drewN (zRf) _⟩
theorem same_i (a b:Bd) (n:Nat) (h1:a.1.length=n) (h2:a.2.length=n) (h3:b.1.length=n) (h4:b.2.length=n) (A1 A2 A3 A4:Option Addr) (c1 c2 c3 c4:Nat) (w:World)
  (r1:RdS w w.heap.size 1 enI A1 a.1) (r2:RdS w w.heap.size 1 enI A2 a.2) (r3:RdS w w.heap.size 1 enI A3 b.1) (r4:RdS w w.heap.size 1 enI A4 b.2) (x:Bool) (hx:decide (a=b)=x) :
  Calls prog 167 #[.agg #[.slice A1 n c1,.slice A2 n c2],.agg #[.slice A3 n c3,.slice A4 n c4]] w λ e w'=>e=.returned (.bool x)∧Below w.heap.size w w':=by
 obtain⟨y,m⟩:∃ y,decide (a.1=b.1)=y:=⟨_,rfl⟩;obtain⟨z,l⟩:∃ z,decide (a.2=b.2)=z:=⟨_,rfl⟩;have t:Hid ((y && z)=x):=kD (by
  rw [<-hx,<-m,<-l,<-Bool.decide_and];exact decide_eq_decide.2 ⟨λ h=>Prod.ext h.1 h.2,λ h=>by rw [h];exact⟨rfl,rfl⟩⟩)
 have C:=kD (λ(i:World) (h:zB w i)=>slEq a.1 b.1 n h1 h3 A1 A3 c1 c3 w.heap.size i (r1.below h lR) (r3.below h lR) y m);have B:=kD (λ(i:World) (h:zB w i)=>slEq a.2 b.2 n h2 h4 A2 A4 c2 c4 w.heap.size i (r2.below h lR) (r4.below h lR) z l);clear h1 h2 h3 h4 r1 r2 r3 r4 hx m l;go_enter func167,ntmps167;go_upto_region 1 with fail;refine wp_gen (λ p=>Below w.heap.size w p∧RowB p w.heap.size 51 [.slice A1 n c1,.slice A2 n c2]∧RowB p (w.heap.size+1) 51 [.slice A3 n c3,.slice A4 n c4]) ⟨by go_grown,(nW).alloc _,nX⟩ ?_;rintro A ⟨c,g,f⟩;obtain⟨s,r⟩:=g.c2;obtain⟨q,r1⟩:=f.c2;have k:=g.lt;have j:=f.lt;go_wp2_with fail;refine(C.out A c).mono ?_;rintro e v ⟨rfl,d⟩;have g:=g.below d g.lt;have f:=f.below d f.lt;have c:=c.tR d;clear s r q r1 k j d;obtain⟨s,r⟩:=g.c2;obtain⟨q,r1⟩:=f.c2;have k:=g.lt;have j:=f.lt
 cases y
 ·obtain rfl:x=false:=by rw [<-t.out];rfl
  go_wp2_with fail;go_ret;exact⟨rfl,c⟩
 ·obtain rfl:x=z:=by rw [<-t.out];rfl
  go_wp2_with fail;refine(B.out v c).mono ?_;rintro e D ⟨rfl,o⟩;have c:=c.tR o;go_wp2_with fail;go_ret;exact⟨rfl,c⟩
end Bd31
namespace Gm
open Go Go.ChangeShapes Go.WideShapes Go.ChangeAt Go.RowKit Base Ints Own Clone RelG PlP Bd1 Bd2 Bd5 Bd6 Bd7 Bd8 RegInv RegF RegG
theorem res_s (v:Vr) (b:Bd) (hb:Ok v b) (S:Nat->Prop) (u1 u2:Value) (z:Int) (hz:resP v b=z) (w:World) (hR:BdR w S u1 u2 b) :
  Calls prog 176 #[vA v,.agg #[u1,u2]] w λ e w'=>e=.returned (iL z)∧Below w.heap.size w w':=by
 obtain⟨⟨V,T,rfl,Y,_⟩,⟨A2,c2,rfl,r2,_⟩⟩:=hR;have hv:=hb.v1;have N1:b.1.length<=1000:=by have:=hb.own.len;omega
 have N2:b.2.length<=1000:=by have:=hb.oth.len;omega
 have C1:=kD (λ(j:World) (h:zB w j)=>sum_s V T j.heap.size b.1 j (Y.keep (.below h)).rd (λ i=>⟨hb.own.nn i,by have:=hb.own.top i;omega⟩) N1);obtain⟨o,d⟩:∃ l,(if b.1.sum=0 then b.2 else b.1)=l:=⟨_,rfl⟩;have aa:∃(J:Option Addr) (N:Nat),RdF w S 1 enI J o∧(∀ i,0<=at_ o i∧at_ o i<=1000)∧o.length<=1000∧(b.1.sum=0->J=A2∧N=c2∧o.length=b.2.length)∧(¬ b.1.sum=0->J=V∧N=T∧o.length=b.1.length):=by
  by_cases h0:b.1.sum=0
  ·rw [if_pos h0] at d;subst d;exact⟨A2,c2,r2,λ i=>⟨hb.oth.nn i,by have:=hb.oth.top i;omega⟩,N2,λ _=>⟨rfl,rfl,rfl⟩,λ h=>absurd h0 h⟩
  ·rw [if_neg h0] at d;subst d;exact⟨V,T,Y,λ i=>⟨hb.own.nn i,by have:=hb.own.top i;omega⟩,N1,λ h=>absurd h h0,λ _=>⟨rfl,rfl,rfl⟩⟩
 obtain⟨J,N,X,bz,Z,r,q⟩:=aa;obtain⟨B,E⟩:=eX (o.sum);obtain⟨C,D⟩:=eX (last o);have hZ:z=if B<v.c then 1 else if v.p - v.h<=C then 3 else 2:=by rw [<-hz,<-E,<-D,<-d];rfl
 have I:=kD hZ;obtain⟨n1,t⟩:=eX (b.1.length);obtain⟨n2,F⟩:=eX (b.2.length);obtain⟨m,L⟩:=eX (o.length);have CS:=kD (λ(j:World) (k:Nat) (h:zB w j)=>sum_sq J m N j.heap.size o B L E j k (X.keep (.below h)).rd bz Z);have CT:=kD (λ(j:World) (h:zB w j)=>last_s J N j.heap.size o j (X.keep (.below h)).rd Z);rw [L,D] at CT;rw [L,F] at r;rw [L,t] at q;rw [t] at C1;rw [t,F];obtain⟨W,K⟩:=eX (b.1.sum);rw [K] at C1 r q;have HV:=kD hv;have ac:=iW ((v.p - v.h));clear hz hZ E D d t F L K Y r2 X bz Z N1 N2 hv hb;go_enter func176,ntmps176;go_upto_region 1 with fail;refine wp_gen (λ A=>Below w.heap.size w A∧RowB A w.heap.size 25 (vL v)∧RowB A (w.heap.size+1) 51 [.slice V n1 T,.slice A2 n2 c2]) ⟨by go_grown,(nW).alloc _,nX⟩ ?_;rintro w1 ⟨y,g,rb⟩;obtain⟨R,Q,P,O⟩:=g.c4;obtain⟨y0,y1⟩:=rb.c2;have x:=g.lt;have M:=rb.lt;have f:=kD y;go_wp2_with fail;refine(C1.out _ y).mono ?_;rintro e w2 ⟨rfl,rfl⟩;by_cases h0:W=0
 ·obtain⟨rfl,rfl,rfl⟩:=r h0;have ab:(W == 0)=true:=by rw [h0];rfl
  clear h0 r q y;go_wp2_with fail;go_quiet ((go_at_call 142;exact CS.out _ _ f.out));by_cases h1:B<v.c
  ·obtain rfl:z=1:=by rw [I.out,if_pos h1]
   have H:decide (B<v.c)=true:=decide_eq_true h1;go_wp2_with fail;go_ret;exact⟨rfl,below_drewN f.out _⟩
  have H:decide (B<v.c)=false:=decide_eq_false h1;go_wp2_with fail;refine wp_gen (λ A=>Below w.heap.size w A∧RowB A w.heap.size 25 (vL v)) ⟨below_drewN f.out _,g.drewN _⟩ ?_;clear R Q P O y0 y1 x M g;rintro w2 ⟨a,g⟩;obtain⟨R,Q,P,O⟩:=g.c4;have x:=g.lt;go_quiet ((go_at_call 199;exact Calls.quiet_of_same ((CT.out _ (below_drewN a _)).mono λ _ _ h=>⟨h.1,h.2.symm⟩)));by_cases h2:v.p - v.h<=C
  ·obtain rfl:z=3:=by rw [I.out,if_neg (by omega),if_pos h2]
   have G:decide (v.p - v.h<=C)=true:=decide_eq_true h2;go_wp2_with fail;go_ret;exact⟨rfl,below_drewN a _⟩
  ·obtain rfl:z=2:=by rw [I.out,if_neg (by omega),if_neg (by omega)]
   have G:decide (v.p - v.h<=C)=false:=decide_eq_false h2;go_wp2_with fail;go_ret;exact⟨rfl,below_drewN a _⟩
 ·obtain⟨rfl,rfl,rfl⟩:=q h0;have ab:(W == 0)=false:=by simpa using h0
  clear h0 r q y;go_wp2_with fail;go_quiet ((go_at_call 142;exact CS.out _ _ f.out));by_cases h1:B<v.c
  ·obtain rfl:z=1:=by rw [I.out,if_pos h1]
   have H:decide (B<v.c)=true:=decide_eq_true h1;go_wp2_with fail;go_ret;exact⟨rfl,below_drewN f.out _⟩
  have H:decide (B<v.c)=false:=decide_eq_false h1;go_wp2_with fail;refine wp_gen (λ A=>Below w.heap.size w A∧RowB A w.heap.size 25 (vL v)) ⟨below_drewN f.out _,g.drewN _⟩ ?_;clear R Q P O y0 y1 x M g;rintro w2 ⟨a,g⟩;obtain⟨R,Q,P,O⟩:=g.c4;have x:=g.lt;go_quiet ((go_at_call 199;exact Calls.quiet_of_same ((CT.out _ (below_drewN a _)).mono λ _ _ h=>⟨h.1,h.2.symm⟩)));by_cases h2:v.p - v.h<=C
  ·obtain rfl:z=3:=by rw [I.out,if_neg (by omega),if_pos h2]
   have G:decide (v.p - v.h<=C)=true:=decide_eq_true h2;go_wp2_with fail;go_ret;exact⟨rfl,below_drewN a _⟩
  ·obtain rfl:z=2:=by rw [I.out,if_neg (by omega),if_neg (by omega)]
   have G:decide (v.p - v.h<=C)=false:=decide_eq_false h2;go_wp2_with fail;go_ret;exact⟨rfl,below_drewN a _⟩
theorem res_i (v:Vr) (b:Bd) (hb:Ok v b) (S:Nat->Prop) (u1 u2:Value) (z:Int) (hz:resP v b=z) (w:World) (hR:BdR w S u1 u2 b) :
  Calls prog 169 #[vA v,.agg #[u1,u2]] w λ e w'=>e=.returned (iL z)∧Below w.heap.size w w':=by
 obtain⟨⟨V,T,rfl,Y,_⟩,⟨A2,c2,rfl,r2,_⟩⟩:=hR;have hv:=hb.v1;have N1:b.1.length<=1000:=by have:=hb.own.len;omega
 have N2:b.2.length<=1000:=by have:=hb.oth.len;omega
 have C1:=kD (λ(j:World) (h:zB w j)=>sum_i V T j.heap.size b.1 j (Y.keep (.below h)).rd (λ i=>⟨hb.own.nn i,by have:=hb.own.top i;omega⟩) N1);obtain⟨o,d⟩:∃ l,(if b.1.sum=0 then b.2 else b.1)=l:=⟨_,rfl⟩;have aa:∃(J:Option Addr) (N:Nat),RdF w S 1 enI J o∧(∀ i,0<=at_ o i∧at_ o i<=1000)∧o.length<=1000∧(b.1.sum=0->J=A2∧N=c2∧o.length=b.2.length)∧(¬ b.1.sum=0->J=V∧N=T∧o.length=b.1.length):=by
  by_cases h0:b.1.sum=0
  ·rw [if_pos h0] at d;subst d;exact⟨A2,c2,r2,λ i=>⟨hb.oth.nn i,by have:=hb.oth.top i;omega⟩,N2,λ _=>⟨rfl,rfl,rfl⟩,λ h=>absurd h0 h⟩
  ·rw [if_neg h0] at d;subst d;exact⟨V,T,Y,λ i=>⟨hb.own.nn i,by have:=hb.own.top i;omega⟩,N1,λ h=>absurd h h0,λ _=>⟨rfl,rfl,rfl⟩⟩
 obtain⟨J,N,X,bz,Z,r,q⟩:=aa;obtain⟨B,E⟩:=eX (o.sum);obtain⟨C,D⟩:=eX (last o);have hZ:z=if B<v.c then 1 else if v.p - v.h<=C then 3 else 2:=by rw [<-hz,<-E,<-D,<-d];rfl
 have I:=kD hZ;obtain⟨n1,t⟩:=eX (b.1.length);obtain⟨n2,F⟩:=eX (b.2.length);obtain⟨m,L⟩:=eX (o.length);have CS:=kD (λ(j:World) (k:Nat) (h:zB w j)=>sum_iq J m N j.heap.size o B L E j k (X.keep (.below h)).rd bz Z);have CT:=kD (λ(j:World) (h:zB w j)=>last_i J N j.heap.size o j (X.keep (.below h)).rd Z);rw [L,D] at CT;rw [L,F] at r;rw [L,t] at q;rw [t] at C1;rw [t,F];obtain⟨W,K⟩:=eX (b.1.sum);rw [K] at C1 r q;have HV:=kD hv;have ac:=iW ((v.p - v.h));clear hz hZ E D d t F L K Y r2 X bz Z N1 N2 hv hb;go_enter func169,ntmps169;go_upto_region 1 with fail;refine wp_gen (λ A=>Below w.heap.size w A∧RowB A w.heap.size 25 (vL v)∧RowB A (w.heap.size+1) 51 [.slice V n1 T,.slice A2 n2 c2]) ⟨by go_grown,(nW).alloc _,nX⟩ ?_;rintro w1 ⟨y,g,rb⟩;obtain⟨R,Q,P,O⟩:=g.c4;obtain⟨y0,y1⟩:=rb.c2;have x:=g.lt;have M:=rb.lt;have f:=kD y;go_wp2_with fail;refine(C1.out _ y).mono ?_;rintro e w2 ⟨rfl,rfl⟩;by_cases h0:W=0
 ·obtain⟨rfl,rfl,rfl⟩:=r h0;have ab:(W == 0)=true:=by rw [h0];rfl
  clear h0 r q y;go_wp2_with fail;go_quiet ((go_at_call 168;exact CS.out _ _ f.out));by_cases h1:B<v.c
  ·obtain rfl:z=1:=by rw [I.out,if_pos h1]
   have H:decide (B<v.c)=true:=decide_eq_true h1;go_wp2_with fail;go_ret;exact⟨rfl,below_drewN f.out _⟩
  have H:decide (B<v.c)=false:=decide_eq_false h1;go_wp2_with fail;refine wp_gen (λ A=>Below w.heap.size w A∧RowB A w.heap.size 25 (vL v)) ⟨below_drewN f.out _,g.drewN _⟩ ?_;clear R Q P O y0 y1 x M g;rintro w2 ⟨a,g⟩;obtain⟨R,Q,P,O⟩:=g.c4;have x:=g.lt;go_quiet ((go_at_call 195;exact Calls.quiet_of_same ((CT.out _ (below_drewN a _)).mono λ _ _ h=>⟨h.1,h.2.symm⟩)));by_cases h2:v.p - v.h<=C
  ·obtain rfl:z=3:=by rw [I.out,if_neg (by omega),if_pos h2]
   have G:decide (v.p - v.h<=C)=true:=decide_eq_true h2;go_wp2_with fail;go_ret;exact⟨rfl,below_drewN a _⟩
  ·obtain rfl:z=2:=by rw [I.out,if_neg (by omega),if_neg (by omega)]
   have G:decide (v.p - v.h<=C)=false:=decide_eq_false h2;go_wp2_with fail;go_ret;exact⟨rfl,below_drewN a _⟩
 ·obtain⟨rfl,rfl,rfl⟩:=q h0;have ab:(W == 0)=false:=by simpa using h0
  clear h0 r q y;go_wp2_with fail;go_quiet ((go_at_call 168;exact CS.out _ _ f.out));by_cases h1:B<v.c
  ·obtain rfl:z=1:=by rw [I.out,if_pos h1]
   have H:decide (B<v.c)=true:=decide_eq_true h1;go_wp2_with fail;go_ret;exact⟨rfl,below_drewN f.out _⟩
  have H:decide (B<v.c)=false:=decide_eq_false h1;go_wp2_with fail;refine wp_gen (λ A=>Below w.heap.size w A∧RowB A w.heap.size 25 (vL v)) ⟨below_drewN f.out _,g.drewN _⟩ ?_;clear R Q P O y0 y1 x M g;rintro w2 ⟨a,g⟩;obtain⟨R,Q,P,O⟩:=g.c4;have x:=g.lt;go_quiet ((go_at_call 195;exact Calls.quiet_of_same ((CT.out _ (below_drewN a _)).mono λ _ _ h=>⟨h.1,h.2.symm⟩)));by_cases h2:v.p - v.h<=C
  ·obtain rfl:z=3:=by rw [I.out,if_neg (by omega),if_pos h2]
   have G:decide (v.p - v.h<=C)=true:=decide_eq_true h2;go_wp2_with fail;go_ret;exact⟨rfl,below_drewN a _⟩
  ·obtain rfl:z=2:=by rw [I.out,if_neg (by omega),if_neg (by omega)]
   have G:decide (v.p - v.h<=C)=false:=decide_eq_false h2;go_wp2_with fail;go_ret;exact⟨rfl,below_drewN a _⟩
structure Sh (w wr:World) (v:Vr) (g:Nat) (l:List Int):Prop where
 k:Sg w wr v g l
 rr:RowB wr (w.heap.size+1) 51 [.slice none 0 0,.slice none 0 0]
theorem Sh.below {w wr w':World} {v:Vr} {g:Nat} {l:List Int} (k:Sh w wr v g l) (hb:zB wr w'):Sh w w' v g l :=
 ⟨k.k.below hb,k.rr.below hb k.rr.lt⟩
theorem Sh.put {w wr:World} {v:Vr} {g:Nat} {l:List Int} (k:Sh w wr v g l) (hg:w.heap.size+1<g) {i:Nat} (hi:i<l.length) (x:Int):Sh w (wr.setCell ⟨g,i,none⟩ (iL x)) v g (l.set i x) :=
 ⟨k.k.put (by omega) hi x,k.rr.other (p:=⟨g,i,none⟩) (by show w.heap.size+1≠g;omega) _⟩
theorem start_i (v:Vr) (hv:okV v=true) (h4:4<=v.p) (w:World):Calls prog 94 #[vA v] w λ e w'=>Ret RelBB (some (startB v)) (λ _=>False) w e w':=by
 have hp:=okV_iff.1 hv;obtain⟨i0,av,ao,an,am⟩:=info_parts Ints.info;have CV:=kD (λ O=>var_i v true hv O);have CF:=kD (λ O=>full_i O);obtain⟨q,hq⟩:=eX (fullB v);have qE:∀ w:World,(binOp .eql 25 (vA v) (.agg #[iL 24,iL 15,iL 6,iL 6])).run prog w=.ok (.bool q) w:=λ w=>by rw [eq_full,hq]
 have HQ:=kD hq;obtain⟨n,hn⟩:∃ n:Nat,(n:Int)=v.p+1:=⟨(v.p+1).toNat,by omega⟩;have aB:IntKind.i64.wrap (v.p+1)=(n:Int):=by rw [IntWalk.i64_in _ (by omega)];exact hn.symm
 have aJ:5<=n:=by omega
 have aA:n<=25:=by omega
 have aQ:decide (v.p<4)=false:=decide_eq_false (by omega);have HN:=kD hn;have hP:=kD hp;clear hq hv hn hp;go_enter func94,ntmps94;go_upto_region 1 with fail;refine wp_gen (λ o=>Below w.heap.size w o∧RowB o w.heap.size 25 (vL v)∧RowB o (w.heap.size+1) 51 [.slice none 0 0,.slice none 0 0]) ⟨by go_grown,(nW).alloc _,nX⟩ ?_;rintro w1 ⟨ae,E,Z⟩;obtain⟨J,I,H,G⟩:=E.c4;have d:=E.lt;go_wp2_with fail;refine(CV.out _).mono ?_;rintro e w2 ⟨rfl,Q⟩;have C:=ae.tR Q;have E:=E.below Q E.lt;have Z:=Z.below Q Z.lt;have l:w.heap.size+1<w2.heap.size:=Z.lt;clear ae Q J I H G d;obtain⟨J,I,H,G⟩:=E.c4;have d:=E.lt;go_wp2_with (at_make;refine wpList_make_full _ rfl _ _ _ rfl w2.heap.size 2 i0 (iL 0) 1 Tryz.underlying49 av ao an _ _ _ _ n rfl rfl rfl rfl ?c1 ?c2 lR ?_)
 case c1=>rw [am];omega
 case c2=>unfold maxLen;omega
 intro w3 X B;have t:Below w2.heap.size w2 w3:=(zRf).grown B lR (by simp);have W:RowI w3 w2.heap.size (List.replicate n 0) []:=by
  have:=RowB.of_own X;unfold RowI
  simpa [made_rep,flatI_rep] using this
 obtain⟨g,hg⟩:=eX (w2.heap.size);have K:Sh w w3 v g (List.replicate n 0):=⟨⟨C.tR t,E.below t E.lt,hg ▸ W⟩,Z.below t Z.lt⟩;rw [hg] at l ⊢;clear X B t W C E Z J I H G d hg;obtain⟨J,I,H,G⟩:=K.k.rv.c4;have d:=K.k.rv.lt;go_wp2_with fail;have KB:=K;clear K;refine rG [some 18,some 19,some 20] 3 (Pl [some (vA v),some (.agg #[iL 24,iL 15,iL 6,iL 6]),some (.bool q)]) (λ L f w'=>Below w3.heap.size w3 w') ?g0_3 ?gst_3 ?gfin_3
 case g0_3=>exact(zRf).drew
 case gst_3 =>
  refine rN rfl (λ L f A O ag ah m U F K hK=>?_) ?_
  ·have e1:=U.w 1 (pT w.heap.size 0);have KK:=KB.k.below F;obtain⟨J,I,H,G⟩:=KK.rv.c4;have aK:=KK.rv.lt;clear KK;go_simp;exact pF hK (F)
  refine rN rfl (λ L f A O ag ah m U F K hK=>?_) ?_
  ·go_simp;refine(CF.out O).mono ?_;rintro e w6 ⟨rfl,r⟩;exact pF hK (F.tR r)
  refine rN rfl (λ L f A O ag ah m U F K hK=>?_) ?_
  ·have aU:=U.v 0 18;have aT:=U.v 1 19;go_simp;exact pF hK (F)
  exact RelFrom.nil (by decide)
 intro f O hp F;simp only [Fr,Act.put,sX,Nat.reduceAdd];have af:f 2=.bool q:=hp 2 (by decide) _ rfl;rw [af];have t:=F;have K:=KB.below t;obtain⟨w4,aa⟩:=eX (O);rw [aa] at K ⊢;clear J I H G d t F hp af aa KB qE CF CV
 cases q
 case true =>
  have hf:v.p=24∧v.c=15∧v.h=6∧v.s=6:=by
   have:=HQ.out;unfold fullB at this;simp only [Bool.and_eq_true,decide_eq_true_eq] at this;exact⟨this.1.1.1,this.1.1.2,this.1.2,this.2⟩
  have y:n=25:=by have:=HN.out;omega
  have HF:Hid (startL v=((((List.replicate n (0:Int)).set 5 5).set 7 3).set 12 5).set 23 2):=by
   show _=_
   unfold startL;rw [if_pos hf,y]
  have g5:5<n:=by omega
  have g7:7<n:=by omega
  have aS:12<n:=by omega
  have aR:23<n:=by omega
  clear y hf;have ay:=K.k.rl.at_ (i:=5) (by simp only [List.length_set,List.length_replicate];omega);have ax:=K.k.rl.at_ (i:=7) (by simp only [List.length_set,List.length_replicate];omega);have ak:=K.k.rl.at_ (i:=12) (by simp only [List.length_set,List.length_replicate];omega);have aj:=K.k.rl.at_ (i:=23) (by simp only [List.length_set,List.length_replicate];omega);have D:=RowB.frozen K.k.rl;have z:=RowB.lt K.k.rl;have K4:=(((K.put l (i:=5) (by simp only [List.length_set,List.length_replicate];omega) 5).put l (i:=7) (by simp only [List.length_set,List.length_replicate];omega) 3).put l (i:=12) (by simp only [List.length_set,List.length_replicate];omega) 5).put l (i:=23) (by simp only [List.length_set,List.length_replicate];omega) 2;have al:=kD K4;clear K K4;go_upto_region 8 with fail;refine wp_gen (λ o=>Sh w o v g ((((List.replicate n (0:Int)).set 5 5).set 7 3 |>.set 12 5).set 23 2)) al.out ?_;clear ay ax ak aj D z al;intro Y K;have m:=clone (sA g 0) n Y.heap.size (((((List.replicate n (0:Int)).set 5 5).set 7 3).set 12 5).set 23 2) Y lR (RowI.own K.k.rl (lo:=g) (hi:=Y.heap.size) lR (RowB.lt K.k.rl) rfl (by simp only [List.length_set,List.length_replicate,List.length_nil];unfold maxLen;omega) |>.rd enI_len) (λ h=>by cases h) (by simp only [List.length_set,List.length_replicate];omega);have CL:=kD m;simp only [List.length_set,List.length_replicate] at CL;clear m;go_wp2_with fail;refine CL.out.mono ?_;rintro e w6 ⟨⟨sv,rfl,a⟩,r⟩;have ap:g<Y.heap.size:=RowB.lt K.k.rl;have K:=K.below r;have a:=OwnV.of a lR (S:=λ b=>Y.heap.size<=b) (λ b R _=>R);have a:=a.sl enI_len;obtain⟨V,T,rfl,p6,k6⟩:=a;simp only [List.length_set,List.length_replicate];have P6:=kD p6;obtain⟨z0,z1⟩:=K.rr.c2;have aq:=K.rr.lt;have az:=K.rr.frozen;clear p6 CL r;go_wp2_with fail;have P:=OwnV.of (RowI.own K.k.rl (lo:=g) (hi:=w6.heap.size) lR (RowB.lt K.k.rl) rfl (by simp only [List.length_set,List.length_replicate,List.length_nil];unfold maxLen;omega)) lR (S:=λ b=>w.heap.size+2<=b) (λ b R _=>by omega);have P:=P.sl enI_len;simp only [List.length_set,List.length_replicate,List.length_nil,Nat.add_zero] at P;refine bp_gen (λ o=>Below w.heap.size w o∧RowB o (w.heap.size+1) 51 [.slice (sA g 0) n n,.slice V n T]∧Hid (BdR o (λ b=>(λ _=>False) b∨w.heap.size<=b) (.slice (sA g 0) n n) (.slice V n T) (startB v))) ⟨below_two K.k.bel (by omega) _ _,two_ K.rr _ _,kD ⟨?_,?_⟩⟩ ?_
  ·show SlV 1 enI _ _ _ (startL v)
   rw [HF.out];exact(relV 1 enI).weak (sl_two' P (by omega) _ _) (λ b R _=>.inr (by omega))
  ·show SlV 1 enI _ _ _ (startL v)
   rw [HF.out];exact(relV 1 enI).weak (sl_two' (S:=λ b=>Y.heap.size<=b) ⟨V,T,by simp only [List.length_set,List.length_replicate],P6.out,k6⟩ (by omega) _ _) (λ b R _=>.inr (by omega))
  rintro w8 ⟨ad,r8,h8⟩;obtain⟨z0,z1⟩:=r8.c2;refine bodyPost_ret (v:=.tuple #[.agg #[.slice (sA g 0) n n,.slice V n T],.bool true]) (by simp [results,results94,go_sem,z0,z1]) rfl ?_;exact⟨_,rfl,⟨_,_,_,rfl,h8.out,(λ b0 h=>by simpa using h)⟩,ad⟩
 case false =>
  obtain⟨J,I,H,G⟩:=K.k.rv.c4;have d:=K.k.rv.lt;have D:=RowB.frozen K.k.rl;have z:=RowB.lt K.k.rl;have hp:=hP.out;obtain⟨i,hi⟩:∃ i:Nat,(i:Int)=v.p - 1:=⟨(v.p - 1).toNat,by omega⟩;obtain⟨j,hj⟩:∃ j:Nat,(j:Int)=v.p / 2 - 1:=⟨(v.p / 2 - 1).toNat,by omega⟩;have aI:IntKind.i64.wrap (v.p - 1)=(i:Int):=by rw [IntWalk.i64_in _ (by omega)];exact hi.symm
  have aM:i<n:=by have:=HN.out;omega
  have aL:j<n:=by have:=HN.out;omega
  have aN:¬ i=j:=by omega
  have ar:¬ j=i:=by omega
  have aw:=K.k.rl.at_ (i:=i) (by simp only [List.length_set,List.length_replicate];omega);obtain⟨N,ac⟩:∃ c:Int,v.c / 2=c:=⟨_,rfl⟩;obtain⟨M,ab⟩:∃ c:Int,v.c - N=c:=⟨_,rfl⟩;have aP:Int.tdiv v.p 2=(j:Int)+1:=by rw [Int.tdiv_eq_ediv_of_nonneg (by omega)];omega
  have aH:=iW (((j:Int)+1));have aG:IntKind.i64.wrap ((j:Int)+1 - 1)=(j:Int):=by rw [IntWalk.i64_in _ (by omega)];omega
  have aO:Int.tdiv v.c 2=N:=by rw [Int.tdiv_eq_ediv_of_nonneg (by omega)];exact ac
  have aa:=iW N;have aF:IntKind.i64.wrap (v.c - N)=M:=by rw [IntWalk.i64_in _ (by omega)];exact ab
  have aE:IntKind.i64.wrap (0+M)=M:=by rw [Int.zero_add];exact IntWalk.i64_in _ (by omega)
  have aD:=iW M;have aC:=iW ((j:Int));have HF:Hid (startL v=((List.replicate n (0:Int)).set i N).set j M):=by
   show _=_
   unfold startL;rw [if_neg (λ hf=>by have:=HQ.out;unfold fullB at this;simp [hf.1,hf.2.1,hf.2.2.1,hf.2.2.2] at this)];rw [show (v.p+1).toNat=n from by have:=HN.out;omega,show (v.p - 1).toNat=i from by omega,show (v.p / 2 - 1).toNat=j from by omega,<-ab,<-ac]
  clear hi hj hp ac ab;go_upto_region 7 with fail;refine wp_gen (λ o=>Sh w o v g ((List.replicate n (0:Int)).set i N)) (K.put l (by simp only [List.length_set,List.length_replicate];omega) N) ?_;clear K J I H G d D z aw;intro Y K;obtain⟨J,I,H,G⟩:=K.k.rv.c4;have d:=K.k.rv.lt;have D:=RowB.frozen K.k.rl;have z:=RowB.lt K.k.rl;have ai:=K.k.rl.at_ (i:=j) (by simp only [List.length_set,List.length_replicate];omega);rw [at_set _ _ _ _ (by simp only [List.length_set,List.length_replicate];omega),if_neg ar,at_rep] at ai;go_still_tail 15,(by kernel_rfl);go_upto_region 8 with fail;refine wp_gen (λ o=>Sh w o v g (((List.replicate n (0:Int)).set i N).set j M)) (by first | exact(K.below (zRf).drew).put l (by simp only [List.length_set,List.length_replicate];omega) M | exact K.put l (by simp only [List.length_set,List.length_replicate];omega) M) ?_;clear K J I H G d D z ai;intro x K;have m:=clone (sA g 0) n x.heap.size (((List.replicate n (0:Int)).set i N).set j M) x lR (RowI.own K.k.rl (lo:=g) (hi:=x.heap.size) lR (RowB.lt K.k.rl) rfl (by simp only [List.length_set,List.length_replicate,List.length_nil];unfold maxLen;omega) |>.rd enI_len) (λ h=>by cases h) (by simp only [List.length_set,List.length_replicate];omega);have CL:=kD m;simp only [List.length_set,List.length_replicate] at CL;clear m;go_wp2_with fail;refine CL.out.mono ?_;rintro e w6 ⟨⟨sv,rfl,a⟩,r⟩;have ap:g<x.heap.size:=RowB.lt K.k.rl;have K:=K.below r;have a:=OwnV.of a lR (S:=λ b=>x.heap.size<=b) (λ b R _=>R);have a:=a.sl enI_len;obtain⟨V,T,rfl,p6,k6⟩:=a;simp only [List.length_set,List.length_replicate];have P6:=kD p6;obtain⟨z0,z1⟩:=K.rr.c2;have aq:=K.rr.lt;have az:=K.rr.frozen;clear p6 CL r;go_wp2_with fail;have P:=OwnV.of (RowI.own K.k.rl (lo:=g) (hi:=w6.heap.size) lR (RowB.lt K.k.rl) rfl (by simp only [List.length_set,List.length_replicate,List.length_nil];unfold maxLen;omega)) lR (S:=λ b=>w.heap.size+2<=b) (λ b R _=>by omega);have P:=P.sl enI_len;simp only [List.length_set,List.length_replicate,List.length_nil,Nat.add_zero] at P;refine bp_gen (λ o=>Below w.heap.size w o∧RowB o (w.heap.size+1) 51 [.slice (sA g 0) n n,.slice V n T]∧Hid (BdR o (λ b=>(λ _=>False) b∨w.heap.size<=b) (.slice (sA g 0) n n) (.slice V n T) (startB v))) ⟨below_two K.k.bel (by omega) _ _,two_ K.rr _ _,kD ⟨?_,?_⟩⟩ ?_
  ·show SlV 1 enI _ _ _ (startL v)
   rw [HF.out];exact(relV 1 enI).weak (sl_two' P (by omega) _ _) (λ b R _=>.inr (by omega))
  ·show SlV 1 enI _ _ _ (startL v)
   rw [HF.out];exact(relV 1 enI).weak (sl_two' (S:=λ b=>x.heap.size<=b) ⟨V,T,by simp only [List.length_set,List.length_replicate],P6.out,k6⟩ (by omega) _ _) (λ b R _=>.inr (by omega))
  rintro w8 ⟨ad,r8,h8⟩;obtain⟨z0,z1⟩:=r8.c2;refine bodyPost_ret (v:=.tuple #[.agg #[.slice (sA g 0) n n,.slice V n T],.bool true]) (by simp [results,results94,go_sem,z0,z1]) rfl ?_;exact⟨_,rfl,⟨_,_,_,rfl,h8.out,(λ b0 h=>by simpa using h)⟩,ad⟩
end Gm
end Go.Proofs.YtjdefiinmicjiaaGreatDoor
