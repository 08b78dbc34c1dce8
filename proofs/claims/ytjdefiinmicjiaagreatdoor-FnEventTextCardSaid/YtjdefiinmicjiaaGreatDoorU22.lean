/- Parts of the proof of FnEventText. Conditions: each theorem's own. -/
import Derived.Test.YtjdefiinmicjiaaGreatDoorU21
set_option linter.unusedVariables false
set_option linter.unusedSimpArgs false
set_option maxHeartbeats 8000000
set_option maxRecDepth 100000
namespace Go.Proofs.YtjdefiinmicjiaaGreatDoor
namespace TsI
open Go.ChangeShapes Go.WideShapes Go.ChangeAt Go.RowKit Base Ints Own JoinN PlP TxP Num Bd1 Bd5 RegF RegG TxI
theorem roll_sg (v:Vr) (hv:okV v=true) (x y:Int) (w:World) :
  Calls Tryz.prog 85 #[.agg #[.int .i64 v.p,.int .i64 v.c,.int .i64 v.h,.int .i64 v.s],.agg #[.int .i64 x,.int .i64 y]] w λ e w'=>e=.returned (.string (bs (if rollB v x y=true then rolT x y else [])))∧Below w.heap.size w w':=by
 cases hc:rollB v x y with
 | true=>exact roll_s v hv x y hc w
 | false =>
  have f:=kD (λ g=>isroll_ws v hv x y false hc g);clear hc;go_enter Tryz.func85,Tryz.ntmps85;go_upto_region 1 with fail;refine wp_gen (λ o=>Bvr w o v x y) ⟨by go_grown,(RowB.new _ _ _).alloc _,RowB.new' _ _ _ (by simp)⟩ ?_;intro r K;obtain⟨n,m,l,k⟩:=K.rv.c4;obtain⟨j,i⟩:=K.rr.c2;have a:=K.rv.lt;have b:=K.rr.lt;go_wp2_with fail;refine(f.out _).mono ?_;rintro e q ⟨rfl,d⟩;have K:=K.below d;clear n m l k j i a b d f;go_wp2_with fail;go_ret;exact⟨rfl,K.bel⟩
theorem turn_s (v:Vr) (hv:okV v=true) (x y:Int) (As:Option Addr) (cp B:Nat) (ss:List Stp) (w:World) (hB:B<=w.heap.size) (hr:RdS w B 4 enSt As ss) :
  Calls Tryz.prog 59 #[.agg #[.int .i64 v.p,.int .i64 v.c,.int .i64 v.h,.int .i64 v.s],.agg #[.int .i64 x,.int .i64 y],.slice As ss.length cp] w λ e w'=>e=.returned (.string (bs (trnT v x y ss)))∧Below w.heap.size w w':=by
 obtain⟨S,J⟩:∃ s,stpsT v ss=s:=⟨_,rfl⟩;have Q:=kD (λ(f:World) (h9:Below w.heap.size w f)=>steps_s v As cp B ss S (by rw [hv];exact J) f (Nat.le_trans hB h9.size) (hr.below h9 hB));obtain⟨P,o⟩:∃ p,(if rollB v x y=true then rolT x y else [])=p:=⟨_,rfl⟩;have T:=kD (λ f=>roll_sg v hv x y f);rw [o] at T;have N:trnT v x y ss=if P≠[]∧S≠[] then P++[58,32]++S else []:=by
  unfold trnT;rw [J]
  cases hc:rollB v x y with
  | false=>rw [hc] at o;subst o;simp
  | true =>
   rw [hc] at o;have:P≠[]:=by rw [<-o];simp only [if_true];rw [rolT_at hv hc];simp
   simp only [true_and,this,ne_eq,not_false_eq_true];rw [<-o];simp
 have H:P.length<=2:=by
  rw [<-o];split
  ·rename_i hc;rw [rolT_at hv hc];simp
  ·simp
 obtain⟨R,hR⟩:∃ r,trnT v x y ss=r:=⟨_,rfl⟩;rw [hR] at N ⊢;obtain⟨n,hn⟩:∃ n,ss.length=n:=⟨_,rfl⟩;rw [hn] at Q ⊢;have q:=stpsT_len hv (ss:=ss);rw [J] at q;have D:=kD N;have HL:=kD (And.intro q H);clear N hR J hn hr hv q o H;go_enter Tryz.func59,Tryz.ntmps59;go_upto_region 1 with fail;refine wp_gen (λ W'=>Bvr w W' v x y) ⟨by go_grown,(RowB.new _ _ _).alloc _,RowB.new' _ _ _ (by simp)⟩ ?_;intro V K;have C:=kD K;clear K;go_wp2_with fail;refine rG [some 9,some 10,some 11,some 12,some 13,some 14,some 7,some 8] 8 (Pl [some (.agg #[.int .i64 v.p,.int .i64 v.c,.int .i64 v.h,.int .i64 v.s]),some (.agg #[.int .i64 x,.int .i64 y]),some (.string (bs P)),some (.agg #[.int .i64 v.p,.int .i64 v.c,.int .i64 v.h,.int .i64 v.s]),some (.slice As n cp),some (.string (bs S)),some (.string (bs P)),some (.string (bs S))]) (λ L b w'=>Below V.heap.size V w') ?g0_1 ?gst_1 ?gfin_1
 case g0_1=>exact(Below.refl _ _).drew
 case gst_1 =>
  refine rN rfl (λ L b A f g i j U F K k=>?_) ?_
  ·have e3:=U.w 3 (.pointer (some ⟨w.heap.size,0,none⟩));have d:=C.out.below F;obtain⟨q0,I,Z,Y⟩:=d.rv.c4;obtain⟨X,W⟩:=d.rr.c2;have E:=d.rv.lt;have G:=d.rr.lt;clear d;go_simp;exact pF k (F)
  refine rN rfl (λ L b A f g i j U F K k=>?_) ?_
  ·have e4:=U.w 4 (.pointer (some ⟨w.heap.size+1,0,none⟩));have d:=C.out.below F;obtain⟨q0,I,Z,Y⟩:=d.rv.c4;obtain⟨X,W⟩:=d.rr.c2;have E:=d.rv.lt;have G:=d.rr.lt;clear d;go_simp;exact pF k (F)
  refine rN rfl (λ L b A f g i j U F K k=>?_) ?_
  ·have e9:=U.v 0 9;have ae:=U.v 1 10;go_simp;refine(T.out f).mono ?_;rintro e w6 ⟨rfl,t⟩;exact pF k (F.trans (t.mono F.size))
  refine rN rfl (λ L b A f g i j U F K k=>?_) ?_
  ·have e3:=U.w 3 (.pointer (some ⟨w.heap.size,0,none⟩));have d:=C.out.below F;obtain⟨q0,I,Z,Y⟩:=d.rv.c4;obtain⟨X,W⟩:=d.rr.c2;have E:=d.rv.lt;have G:=d.rr.lt;clear d;go_simp;exact pF k (F)
  refine rN rfl (λ L b A f g i j U F K k=>?_) ?_
  ·have e2:=U.w 2 (.slice As n cp);go_simp;exact pF k (F)
  refine rN rfl (λ L b A f g i j U F K k=>?_) ?_
  ·have ac:=U.v 3 12;have ab:=U.v 4 13;go_simp;refine(Q.out f (C.out.bel.trans (F.mono C.out.bel.size))).mono ?_;rintro e w6 ⟨rfl,t⟩;exact pF k (F.trans (t.mono F.size))
  refine rN rfl (λ L b A f g i j U F K k=>?_) ?_
  ·have ad:=U.v 2 11;go_simp;exact pF k (F)
  refine rN rfl (λ L b A f g i j U F K k=>?_) ?_
  ·have aa:=U.v 5 14;go_simp;exact pF k (F)
  exact RelFrom.nil (by decide)
 case gfin_1 =>
  intro b f M F;simp only [Fr,Act.put,sX,Nat.reduceAdd];have h7:b 6=.string (bs P):=M 6 (by decide) _ rfl;have h8:b 7=.string (bs S):=M 7 (by decide) _ rfl;rw [h7,h8];have z:=(C.out.below F).bel;clear F M h7 h8 T Q C;by_cases hP0:P=[]
  ·have m:R=[]:=by rw [D.out,if_neg (λ h=>h.1 hP0)]
   subst m;have e0:(bs P).toList.isEmpty=true:=by rw [ByteArray.toList_eq,bs_data,hP0];rfl
   clear D hP0;go_wp2_with fail;go_ret;exact⟨rfl,z⟩
  have e0:(bs P).toList.isEmpty=false:=by rw [ByteArray.toList_eq,bs_data];cases P with | nil=>exact absurd rfl hP0 | cons a l=>rfl
  by_cases hS0:S=[]
  ·have m:R=[]:=by rw [D.out,if_neg (λ h=>h.2 hS0)]
   subst m;have e1:(bs S).toList.isEmpty=true:=by rw [ByteArray.toList_eq,bs_data,hS0];rfl
   clear D hS0 hP0;go_wp2_with fail;go_ret;exact⟨rfl,z⟩
  have e1:(bs S).toList.isEmpty=false:=by rw [ByteArray.toList_eq,bs_data];cases S with | nil=>exact absurd rfl hS0 | cons a l=>rfl
  have m:R=P++[58,32]++S:=by rw [D.out,if_pos ⟨hP0,hS0⟩]
  have HI:Hid ((bs P++(⟨#[58,32]⟩:ByteArray))++bs S=bs R):=by
   show _=_
   have I:(⟨#[58,32]⟩:ByteArray)=bs [58,32]:=rfl;rw [I,bs_cat,bs_cat,m]
  have z1:(bs P).size<=2:=by rw [bs_size];exact HL.out.2
  have z2:(bs S).size<=50:=by rw [bs_size];exact HL.out.1
  have O:Hid (Ending.returned (.string ((bs P++(⟨#[58,32]⟩:ByteArray))++bs S))=Ending.returned (.string (bs R))):=by show _=_;rw [HI.out]
  have g1:¬ 9223372036854775807<(bs P).size+2:=by omega
  have g2:¬ 9223372036854775807<(bs P).size+2+(bs S).size:=by omega
  clear D hS0 hP0 m HI;go_wp2_with fail;go_ret;exact⟨O.out,z⟩
theorem blank_s (k a b:Int) (n:Nat) (A:Option Addr) (cp:Nat) (r:Int) (c:Bool) (hc:(if k=1 then decide (n=0∧r=0) else if k=2 then decide (r=0) else if k=3 then decide (a=0∧b=0∧n=0) else false)=c) (w:World) :
  Calls Tryz.prog 57 #[.agg #[.int .i64 k,.int .i64 a,.int .i64 b,.slice A n cp,.int .i64 r]] w λ e w'=>e=.returned (.bool c)∧Below w.heap.size w w':=by
 have d:=kD hc;clear hc;by_cases k1:k=1
 ·subst k1;have hc:decide (n=0∧r=0)=c:=d.out;clear d;by_cases n0:n=0
  ·have g:((n:Int) == 0)=true:=by simp [n0]
   by_cases r0:r=0
   ·have f:(r == 0)=true:=by simp [r0]
    obtain rfl:c=true:=by rw [<-hc];exact decide_eq_true ⟨n0,r0⟩
    clear hc n0 r0;go_enter Tryz.func57,Tryz.ntmps57;go_wp2_with fail;go_ret;exact⟨rfl,by go_grown⟩
   ·have f:(r == 0)=false:=by simp [r0]
    obtain rfl:c=false:=by rw [<-hc];exact decide_eq_false (λ h=>r0 h.2)
    clear hc n0 r0;go_enter Tryz.func57,Tryz.ntmps57;go_wp2_with fail;go_ret;exact⟨rfl,by go_grown⟩
  ·have g:((n:Int) == 0)=false:=by simp;omega
   obtain rfl:c=false:=by rw [<-hc];exact decide_eq_false (λ h=>n0 h.1)
   clear hc n0;go_enter Tryz.func57,Tryz.ntmps57;go_wp2_with fail;go_ret;exact⟨rfl,by go_grown⟩
 by_cases k2:k=2
 ·subst k2;have hc:decide (r=0)=c:=d.out;clear d k1;by_cases r0:r=0
  ·have f:(r == 0)=true:=by simp [r0]
   obtain rfl:c=true:=by rw [<-hc];exact decide_eq_true r0
   clear hc r0;go_enter Tryz.func57,Tryz.ntmps57;go_wp2_with fail;go_ret;exact⟨rfl,by go_grown⟩
  ·have f:(r == 0)=false:=by simp [r0]
   obtain rfl:c=false:=by rw [<-hc];exact decide_eq_false r0
   clear hc r0;go_enter Tryz.func57,Tryz.ntmps57;go_wp2_with fail;go_ret;exact⟨rfl,by go_grown⟩
 by_cases k3:k=3
 ·subst k3;have hc:decide (a=0∧b=0∧n=0)=c:=d.out;clear d k1 k2;by_cases a0:a=0
  ·have f:(a == 0)=true:=by simp [a0]
   by_cases b0:b=0
   ·have i:(b == 0)=true:=by simp [b0]
    by_cases n0:n=0
    ·have g:((n:Int) == 0)=true:=by simp [n0]
     obtain rfl:c=true:=by rw [<-hc];exact decide_eq_true ⟨a0,b0,n0⟩
     clear hc n0 a0 b0;go_enter Tryz.func57,Tryz.ntmps57;go_wp2_with fail;go_ret;exact⟨rfl,by go_grown⟩
    ·have g:((n:Int) == 0)=false:=by simp;omega
     obtain rfl:c=false:=by rw [<-hc];exact decide_eq_false (λ h=>n0 h.2.2)
     clear hc n0 a0 b0;go_enter Tryz.func57,Tryz.ntmps57;go_wp2_with fail;go_ret;exact⟨rfl,by go_grown⟩
   ·have i:(b == 0)=false:=by simp [b0]
    obtain rfl:c=false:=by rw [<-hc];exact decide_eq_false (λ h=>b0 h.2.1)
    clear hc a0 b0;go_enter Tryz.func57,Tryz.ntmps57;go_wp2_with fail;go_ret;exact⟨rfl,by go_grown⟩
  ·have f:(a == 0)=false:=by simp [a0]
   obtain rfl:c=false:=by rw [<-hc];exact decide_eq_false (λ h=>a0 h.1)
   clear hc a0;go_enter Tryz.func57,Tryz.ntmps57;go_wp2_with fail;go_ret;exact⟨rfl,by go_grown⟩
 obtain rfl:c=false:=by rw [<-d.out];simp [k1,k2,k3]
 have f:(k == 1)=false:=by simp [k1]
 have i:(k == 2)=false:=by simp [k2]
 have j:(k == 3)=false:=by simp [k3]
 clear d k1 k2 k3;go_enter Tryz.func57,Tryz.ntmps57;go_wp2_with fail;go_ret;exact⟨rfl,by go_grown⟩
end TsI
end Go.Proofs.YtjdefiinmicjiaaGreatDoor
