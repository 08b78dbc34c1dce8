/- Parts of the proof of FnVerdicts. Conditions: each theorem's own. -/
import Derived.Test.YtmncnhbjifeoeaaGreatT20
set_option linter.unusedVariables false
set_option linter.unusedSimpArgs false
set_option maxHeartbeats 8000000
set_option maxRecDepth 100000
namespace Go.Proofs.YtmncnhbjifeoeaaGreat
namespace Gm
open Go Go.ChangeShapes Go.WideShapes Go.ChangeAt Go.RowKit Base Ints Own Clone RelG PlP Bd1 Bd2 Bd5 Bd6 Bd7 Bd8 RegInv RegF RegG
theorem res_s (v:Vr) (b:Bd) (hb:Ok v b) (S:Nat->Prop) (u1 u2:Value) (z:Int) (hz:resP v b=z) (w:World) (hR:BdR w S u1 u2 b) :
  Calls Tryz.prog 176 #[.agg #[.int .i64 v.p,.int .i64 v.c,.int .i64 v.h,.int .i64 v.s],.agg #[u1,u2]] w λ e w'=>e=.returned (.int .i64 z)∧Below w.heap.size w w':=by
 obtain⟨⟨V,T,rfl,Y,_⟩,⟨A2,c2,rfl,r2,_⟩⟩:=hR;have hv:=hb.v1;have N1:b.1.length<=1000:=by have:=hb.own.len;omega
 have N2:b.2.length<=1000:=by have:=hb.oth.len;omega
 have C1:=kD (λ(j:World) (h:Below w.heap.size w j)=>sum_s V T j.heap.size b.1 j (Y.keep (.below h)).rd (λ i=>⟨hb.own.nn i,by have:=hb.own.top i;omega⟩) N1);obtain⟨o,d⟩:∃ l,(if b.1.sum=0 then b.2 else b.1)=l:=⟨_,rfl⟩;have aa:∃(J:Option Addr) (N:Nat),RdF w S 1 enI J o∧(∀ i,0<=at_ o i∧at_ o i<=1000)∧o.length<=1000∧(b.1.sum=0->J=A2∧N=c2∧o.length=b.2.length)∧(¬ b.1.sum=0->J=V∧N=T∧o.length=b.1.length):=by
  by_cases h0:b.1.sum=0
  ·rw [if_pos h0] at d;subst d;exact⟨A2,c2,r2,λ i=>⟨hb.oth.nn i,by have:=hb.oth.top i;omega⟩,N2,λ _=>⟨rfl,rfl,rfl⟩,λ h=>absurd h0 h⟩
  ·rw [if_neg h0] at d;subst d;exact⟨V,T,Y,λ i=>⟨hb.own.nn i,by have:=hb.own.top i;omega⟩,N1,λ h=>absurd h h0,λ _=>⟨rfl,rfl,rfl⟩⟩
 obtain⟨J,N,X,bz,Z,r,q⟩:=aa;obtain⟨B,E⟩:∃ s,o.sum=s:=⟨_,rfl⟩;obtain⟨C,D⟩:∃ s,last o=s:=⟨_,rfl⟩;have hZ:z=if B<v.c then 1 else if v.p - v.h<=C then 3 else 2:=by rw [<-hz,<-E,<-D,<-d];rfl
 have I:=kD hZ;obtain⟨n1,t⟩:∃ n,b.1.length=n:=⟨_,rfl⟩;obtain⟨n2,F⟩:∃ n,b.2.length=n:=⟨_,rfl⟩;obtain⟨m,L⟩:∃ n,o.length=n:=⟨_,rfl⟩;have CS:=kD (λ(j:World) (k:Nat) (h:Below w.heap.size w j)=>sum_sq J m N j.heap.size o B L E j k (X.keep (.below h)).rd bz Z);have CT:=kD (λ(j:World) (h:Below w.heap.size w j)=>last_s J N j.heap.size o j (X.keep (.below h)).rd Z);rw [L,D] at CT;rw [L,F] at r;rw [L,t] at q;rw [t] at C1;rw [t,F];obtain⟨W,K⟩:∃ s,b.1.sum=s:=⟨_,rfl⟩;rw [K] at C1 r q;have HV:=kD hv;have ac:IntKind.i64.wrap (v.p - v.h)=v.p - v.h:=IntWalk.i64_in _ (by omega);clear hz hZ E D d t F L K Y r2 X bz Z N1 N2 hv hb;go_enter Tryz.func176,Tryz.ntmps176;go_upto_region 1 with fail;refine wp_gen (λ A=>Below w.heap.size w A∧RowB A w.heap.size 25 (vL v)∧RowB A (w.heap.size+1) 28 [.slice V n1 T,.slice A2 n2 c2]) ⟨by go_grown,(RowB.new _ _ _).alloc _,RowB.new' _ _ _ (by simp)⟩ ?_;rintro w1 ⟨y,g,rb⟩;obtain⟨R,Q,P,O⟩:=g.c4;obtain⟨y0,y1⟩:=rb.c2;have x:=g.lt;have M:=rb.lt;have f:=kD y;go_wp2_with fail;refine(C1.out _ y).mono ?_;rintro e w2 ⟨rfl,rfl⟩;by_cases h0:W=0
 ·obtain⟨rfl,rfl,rfl⟩:=r h0;have ab:(W == 0)=true:=by rw [h0];rfl
  clear h0 r q y;go_wp2_with fail;go_quiet ((go_at_call 65;exact CS.out _ _ f.out));by_cases h1:B<v.c
  ·obtain rfl:z=1:=by rw [I.out,if_pos h1]
   have H:decide (B<v.c)=true:=decide_eq_true h1;go_wp2_with fail;go_ret;exact⟨rfl,below_drewN f.out _⟩
  have H:decide (B<v.c)=false:=decide_eq_false h1;go_wp2_with fail;refine wp_gen (λ A=>Below w.heap.size w A∧RowB A w.heap.size 25 (vL v)) ⟨below_drewN f.out _,g.drewN _⟩ ?_;clear R Q P O y0 y1 x M g;rintro w2 ⟨a,g⟩;obtain⟨R,Q,P,O⟩:=g.c4;have x:=g.lt;go_quiet ((go_at_call 145;exact Calls.quiet_of_same ((CT.out _ (below_drewN a _)).mono λ _ _ h=>⟨h.1,h.2.symm⟩)));by_cases h2:v.p - v.h<=C
  ·obtain rfl:z=3:=by rw [I.out,if_neg (by omega),if_pos h2]
   have G:decide (v.p - v.h<=C)=true:=decide_eq_true h2;go_wp2_with fail;go_ret;exact⟨rfl,below_drewN a _⟩
  ·obtain rfl:z=2:=by rw [I.out,if_neg (by omega),if_neg (by omega)]
   have G:decide (v.p - v.h<=C)=false:=decide_eq_false h2;go_wp2_with fail;go_ret;exact⟨rfl,below_drewN a _⟩
 ·obtain⟨rfl,rfl,rfl⟩:=q h0;have ab:(W == 0)=false:=by simpa using h0
  clear h0 r q y;go_wp2_with fail;go_quiet ((go_at_call 65;exact CS.out _ _ f.out));by_cases h1:B<v.c
  ·obtain rfl:z=1:=by rw [I.out,if_pos h1]
   have H:decide (B<v.c)=true:=decide_eq_true h1;go_wp2_with fail;go_ret;exact⟨rfl,below_drewN f.out _⟩
  have H:decide (B<v.c)=false:=decide_eq_false h1;go_wp2_with fail;refine wp_gen (λ A=>Below w.heap.size w A∧RowB A w.heap.size 25 (vL v)) ⟨below_drewN f.out _,g.drewN _⟩ ?_;clear R Q P O y0 y1 x M g;rintro w2 ⟨a,g⟩;obtain⟨R,Q,P,O⟩:=g.c4;have x:=g.lt;go_quiet ((go_at_call 145;exact Calls.quiet_of_same ((CT.out _ (below_drewN a _)).mono λ _ _ h=>⟨h.1,h.2.symm⟩)));by_cases h2:v.p - v.h<=C
  ·obtain rfl:z=3:=by rw [I.out,if_neg (by omega),if_pos h2]
   have G:decide (v.p - v.h<=C)=true:=decide_eq_true h2;go_wp2_with fail;go_ret;exact⟨rfl,below_drewN a _⟩
  ·obtain rfl:z=2:=by rw [I.out,if_neg (by omega),if_neg (by omega)]
   have G:decide (v.p - v.h<=C)=false:=decide_eq_false h2;go_wp2_with fail;go_ret;exact⟨rfl,below_drewN a _⟩
theorem res_i (v:Vr) (b:Bd) (hb:Ok v b) (S:Nat->Prop) (u1 u2:Value) (z:Int) (hz:resP v b=z) (w:World) (hR:BdR w S u1 u2 b) :
  Calls Tryz.prog 182 #[.agg #[.int .i64 v.p,.int .i64 v.c,.int .i64 v.h,.int .i64 v.s],.agg #[u1,u2]] w λ e w'=>e=.returned (.int .i64 z)∧Below w.heap.size w w':=by
 obtain⟨⟨V,T,rfl,Y,_⟩,⟨A2,c2,rfl,r2,_⟩⟩:=hR;have hv:=hb.v1;have N1:b.1.length<=1000:=by have:=hb.own.len;omega
 have N2:b.2.length<=1000:=by have:=hb.oth.len;omega
 have C1:=kD (λ(j:World) (h:Below w.heap.size w j)=>sum_i V T j.heap.size b.1 j (Y.keep (.below h)).rd (λ i=>⟨hb.own.nn i,by have:=hb.own.top i;omega⟩) N1);obtain⟨o,d⟩:∃ l,(if b.1.sum=0 then b.2 else b.1)=l:=⟨_,rfl⟩;have aa:∃(J:Option Addr) (N:Nat),RdF w S 1 enI J o∧(∀ i,0<=at_ o i∧at_ o i<=1000)∧o.length<=1000∧(b.1.sum=0->J=A2∧N=c2∧o.length=b.2.length)∧(¬ b.1.sum=0->J=V∧N=T∧o.length=b.1.length):=by
  by_cases h0:b.1.sum=0
  ·rw [if_pos h0] at d;subst d;exact⟨A2,c2,r2,λ i=>⟨hb.oth.nn i,by have:=hb.oth.top i;omega⟩,N2,λ _=>⟨rfl,rfl,rfl⟩,λ h=>absurd h0 h⟩
  ·rw [if_neg h0] at d;subst d;exact⟨V,T,Y,λ i=>⟨hb.own.nn i,by have:=hb.own.top i;omega⟩,N1,λ h=>absurd h h0,λ _=>⟨rfl,rfl,rfl⟩⟩
 obtain⟨J,N,X,bz,Z,r,q⟩:=aa;obtain⟨B,E⟩:∃ s,o.sum=s:=⟨_,rfl⟩;obtain⟨C,D⟩:∃ s,last o=s:=⟨_,rfl⟩;have hZ:z=if B<v.c then 1 else if v.p - v.h<=C then 3 else 2:=by rw [<-hz,<-E,<-D,<-d];rfl
 have I:=kD hZ;obtain⟨n1,t⟩:∃ n,b.1.length=n:=⟨_,rfl⟩;obtain⟨n2,F⟩:∃ n,b.2.length=n:=⟨_,rfl⟩;obtain⟨m,L⟩:∃ n,o.length=n:=⟨_,rfl⟩;have CS:=kD (λ(j:World) (k:Nat) (h:Below w.heap.size w j)=>sum_iq J m N j.heap.size o B L E j k (X.keep (.below h)).rd bz Z);have CT:=kD (λ(j:World) (h:Below w.heap.size w j)=>last_i J N j.heap.size o j (X.keep (.below h)).rd Z);rw [L,D] at CT;rw [L,F] at r;rw [L,t] at q;rw [t] at C1;rw [t,F];obtain⟨W,K⟩:∃ s,b.1.sum=s:=⟨_,rfl⟩;rw [K] at C1 r q;have HV:=kD hv;have ac:IntKind.i64.wrap (v.p - v.h)=v.p - v.h:=IntWalk.i64_in _ (by omega);clear hz hZ E D d t F L K Y r2 X bz Z N1 N2 hv hb;go_enter Tryz.func182,Tryz.ntmps182;go_upto_region 1 with fail;refine wp_gen (λ A=>Below w.heap.size w A∧RowB A w.heap.size 25 (vL v)∧RowB A (w.heap.size+1) 28 [.slice V n1 T,.slice A2 n2 c2]) ⟨by go_grown,(RowB.new _ _ _).alloc _,RowB.new' _ _ _ (by simp)⟩ ?_;rintro w1 ⟨y,g,rb⟩;obtain⟨R,Q,P,O⟩:=g.c4;obtain⟨y0,y1⟩:=rb.c2;have x:=g.lt;have M:=rb.lt;have f:=kD y;go_wp2_with fail;refine(C1.out _ y).mono ?_;rintro e w2 ⟨rfl,rfl⟩;by_cases h0:W=0
 ·obtain⟨rfl,rfl,rfl⟩:=r h0;have ab:(W == 0)=true:=by rw [h0];rfl
  clear h0 r q y;go_wp2_with fail;go_quiet ((go_at_call 82;exact CS.out _ _ f.out));by_cases h1:B<v.c
  ·obtain rfl:z=1:=by rw [I.out,if_pos h1]
   have H:decide (B<v.c)=true:=decide_eq_true h1;go_wp2_with fail;go_ret;exact⟨rfl,below_drewN f.out _⟩
  have H:decide (B<v.c)=false:=decide_eq_false h1;go_wp2_with fail;refine wp_gen (λ A=>Below w.heap.size w A∧RowB A w.heap.size 25 (vL v)) ⟨below_drewN f.out _,g.drewN _⟩ ?_;clear R Q P O y0 y1 x M g;rintro w2 ⟨a,g⟩;obtain⟨R,Q,P,O⟩:=g.c4;have x:=g.lt;go_quiet ((go_at_call 175;exact Calls.quiet_of_same ((CT.out _ (below_drewN a _)).mono λ _ _ h=>⟨h.1,h.2.symm⟩)));by_cases h2:v.p - v.h<=C
  ·obtain rfl:z=3:=by rw [I.out,if_neg (by omega),if_pos h2]
   have G:decide (v.p - v.h<=C)=true:=decide_eq_true h2;go_wp2_with fail;go_ret;exact⟨rfl,below_drewN a _⟩
  ·obtain rfl:z=2:=by rw [I.out,if_neg (by omega),if_neg (by omega)]
   have G:decide (v.p - v.h<=C)=false:=decide_eq_false h2;go_wp2_with fail;go_ret;exact⟨rfl,below_drewN a _⟩
 ·obtain⟨rfl,rfl,rfl⟩:=q h0;have ab:(W == 0)=false:=by simpa using h0
  clear h0 r q y;go_wp2_with fail;go_quiet ((go_at_call 82;exact CS.out _ _ f.out));by_cases h1:B<v.c
  ·obtain rfl:z=1:=by rw [I.out,if_pos h1]
   have H:decide (B<v.c)=true:=decide_eq_true h1;go_wp2_with fail;go_ret;exact⟨rfl,below_drewN f.out _⟩
  have H:decide (B<v.c)=false:=decide_eq_false h1;go_wp2_with fail;refine wp_gen (λ A=>Below w.heap.size w A∧RowB A w.heap.size 25 (vL v)) ⟨below_drewN f.out _,g.drewN _⟩ ?_;clear R Q P O y0 y1 x M g;rintro w2 ⟨a,g⟩;obtain⟨R,Q,P,O⟩:=g.c4;have x:=g.lt;go_quiet ((go_at_call 175;exact Calls.quiet_of_same ((CT.out _ (below_drewN a _)).mono λ _ _ h=>⟨h.1,h.2.symm⟩)));by_cases h2:v.p - v.h<=C
  ·obtain rfl:z=3:=by rw [I.out,if_neg (by omega),if_pos h2]
   have G:decide (v.p - v.h<=C)=true:=decide_eq_true h2;go_wp2_with fail;go_ret;exact⟨rfl,below_drewN a _⟩
  ·obtain rfl:z=2:=by rw [I.out,if_neg (by omega),if_neg (by omega)]
   have G:decide (v.p - v.h<=C)=false:=decide_eq_false h2;go_wp2_with fail;go_ret;exact⟨rfl,below_drewN a _⟩
structure Sh (w wr:World) (v:Vr) (g:Nat) (l:List Int):Prop where
 k:Sg w wr v g l
 rr:RowB wr (w.heap.size+1) 28 [.slice none 0 0,.slice none 0 0]
theorem Sh.below {w wr w':World} {v:Vr} {g:Nat} {l:List Int} (k:Sh w wr v g l) (hb:Below wr.heap.size wr w'):Sh w w' v g l :=
 ⟨k.k.below hb,k.rr.below hb k.rr.lt⟩
theorem Sh.put {w wr:World} {v:Vr} {g:Nat} {l:List Int} (k:Sh w wr v g l) (hg:w.heap.size+1<g) {i:Nat} (hi:i<l.length) (x:Int):Sh w (wr.setCell ⟨g,i,none⟩ (.int .i64 x)) v g (l.set i x) :=
 ⟨k.k.put (by omega) hi x,k.rr.other (p:=⟨g,i,none⟩) (by show w.heap.size+1≠g;omega) _⟩
theorem start_i (v:Vr) (hv:okV v=true) (h4:4<=v.p) (w:World):Calls Tryz.prog 164 #[.agg #[.int .i64 v.p,.int .i64 v.c,.int .i64 v.h,.int .i64 v.s]] w λ e w'=>Ret RelBB (some (startB v)) (λ _=>False) w e w':=by
 have hp:=okV_iff.1 hv;obtain⟨i0,av,ao,an,am⟩:=info_parts Ints.info;have CV:=kD (λ O=>var_i v true hv O);have CF:=kD (λ O=>full_i O);obtain⟨q,hq⟩:∃ q,fullB v=q:=⟨_,rfl⟩;have qE:∀ w:World,(binOp .eql 25 (.agg #[.int .i64 v.p,.int .i64 v.c,.int .i64 v.h,.int .i64 v.s]) (.agg #[.int .i64 24,.int .i64 15,.int .i64 6,.int .i64 6])).run Tryz.prog w=.ok (.bool q) w:=λ w=>by rw [eq_full,hq]
 have HQ:=kD hq;obtain⟨n,hn⟩:∃ n:Nat,(n:Int)=v.p+1:=⟨(v.p+1).toNat,by omega⟩;have aB:IntKind.i64.wrap (v.p+1)=(n:Int):=by rw [IntWalk.i64_in _ (by omega)];exact hn.symm
 have aJ:5<=n:=by omega
 have aA:n<=25:=by omega
 have aQ:decide (v.p<4)=false:=decide_eq_false (by omega);have HN:=kD hn;have hP:=kD hp;clear hq hv hn hp;go_enter Tryz.func164,Tryz.ntmps164;go_upto_region 1 with fail;refine wp_gen (λ o=>Below w.heap.size w o∧RowB o w.heap.size 25 (vL v)∧RowB o (w.heap.size+1) 28 [.slice none 0 0,.slice none 0 0]) ⟨by go_grown,(RowB.new _ _ _).alloc _,RowB.new' _ _ _ (by simp)⟩ ?_;rintro w1 ⟨ae,E,Z⟩;obtain⟨J,I,H,G⟩:=E.c4;have d:=E.lt;go_wp2_with fail;refine(CV.out _).mono ?_;rintro e w2 ⟨rfl,Q⟩;have C:=ae.trans (Q.mono ae.size);have E:=E.below Q E.lt;have Z:=Z.below Q Z.lt;have l:w.heap.size+1<w2.heap.size:=Z.lt;clear ae Q J I H G d;obtain⟨J,I,H,G⟩:=E.c4;have d:=E.lt;go_wp2_with (at_make;refine wpList_make_full _ rfl _ _ _ rfl w2.heap.size 2 i0 (.int .i64 0) 1 Tryz.underlying26 av ao an _ _ _ _ n rfl rfl rfl rfl ?c1 ?c2 (Nat.le_refl _) ?_)
 case c1=>rw [am];omega
 case c2=>unfold maxLen;omega
 intro w3 X B;have t:Below w2.heap.size w2 w3:=(Below.refl _ _).grown B (Nat.le_refl _) (by simp);have W:RowI w3 w2.heap.size (List.replicate n 0) []:=by
  have:=RowB.of_own X;unfold RowI
  simpa [made_rep,flatI_rep] using this
 obtain⟨g,hg⟩:∃ g,w2.heap.size=g:=⟨_,rfl⟩;have K:Sh w w3 v g (List.replicate n 0):=⟨⟨C.trans (t.mono C.size),E.below t E.lt,hg ▸ W⟩,Z.below t Z.lt⟩;rw [hg] at l ⊢;clear X B t W C E Z J I H G d hg;obtain⟨J,I,H,G⟩:=K.k.rv.c4;have d:=K.k.rv.lt;go_wp2_with fail;have KB:=K;clear K;refine rG [some 18,some 19,some 20] 3 (Pl [some (.agg #[.int .i64 v.p,.int .i64 v.c,.int .i64 v.h,.int .i64 v.s]),some (.agg #[.int .i64 24,.int .i64 15,.int .i64 6,.int .i64 6]),some (.bool q)]) (λ L f w'=>Below w3.heap.size w3 w') ?g0_3 ?gst_3 ?gfin_3
 case g0_3=>exact(Below.refl _ _).drew
 case gst_3 =>
  refine rN rfl (λ L f A O ag ah m U F K hK=>?_) ?_
  ·have e1:=U.w 1 (.pointer (some ⟨w.heap.size,0,none⟩));have KK:=KB.k.below F;obtain⟨J,I,H,G⟩:=KK.rv.c4;have aK:=KK.rv.lt;clear KK;go_simp;exact pF hK (F)
  refine rN rfl (λ L f A O ag ah m U F K hK=>?_) ?_
  ·go_simp;refine(CF.out O).mono ?_;rintro e w6 ⟨rfl,r⟩;exact pF hK (F.trans (r.mono F.size))
  refine rN rfl (λ L f A O ag ah m U F K hK=>?_) ?_
  ·have aU:=U.v 0 18;have aT:=U.v 1 19;go_simp;exact pF hK (F)
  exact RelFrom.nil (by decide)
 intro f O hp F;simp only [Fr,Act.put,sX,Nat.reduceAdd];have af:f 2=.bool q:=hp 2 (by decide) _ rfl;rw [af];have t:=F;have K:=KB.below t;obtain⟨w4,aa⟩:∃ u,O=u:=⟨_,rfl⟩;rw [aa] at K ⊢;clear J I H G d t F hp af aa KB qE CF CV
 cases q
 case true =>
  have hf:v.p=24∧v.c=15∧v.h=6∧v.s=6:=by
   have:=HQ.out;unfold fullB at this;simp only [Bool.and_eq_true,decide_eq_true_eq] at this;exact⟨this.1.1.1,this.1.1.2,this.1.2,this.2⟩
  have y:n=25:=by have:=HN.out;omega
  have HF:Hid (startL v=((((List.replicate n (0:Int)).set 5 5).set 7 3).set 12 5).set 23 2):=by
   show _=_
   unfold startL;rw [if_pos hf,y]
  have g5:5<n:=by omega
  have g7:7<n:=by omega
  have aS:12<n:=by omega
  have aR:23<n:=by omega
  clear y hf;have ay:=K.k.rl.at_ (i:=5) (by simp only [List.length_set,List.length_replicate];omega);have ax:=K.k.rl.at_ (i:=7) (by simp only [List.length_set,List.length_replicate];omega);have ak:=K.k.rl.at_ (i:=12) (by simp only [List.length_set,List.length_replicate];omega);have aj:=K.k.rl.at_ (i:=23) (by simp only [List.length_set,List.length_replicate];omega);have D:=RowB.frozen K.k.rl;have z:=RowB.lt K.k.rl;have K4:=(((K.put l (i:=5) (by simp only [List.length_set,List.length_replicate];omega) 5).put l (i:=7) (by simp only [List.length_set,List.length_replicate];omega) 3).put l (i:=12) (by simp only [List.length_set,List.length_replicate];omega) 5).put l (i:=23) (by simp only [List.length_set,List.length_replicate];omega) 2;have al:=kD K4;clear K K4;go_upto_region 8 with fail;refine wp_gen (λ o=>Sh w o v g ((((List.replicate n (0:Int)).set 5 5).set 7 3 |>.set 12 5).set 23 2)) al.out ?_;clear ay ax ak aj D z al;intro Y K;have m:=clone (some ⟨g,0,none⟩) n Y.heap.size (((((List.replicate n (0:Int)).set 5 5).set 7 3).set 12 5).set 23 2) Y (Nat.le_refl _) (RowI.own K.k.rl (lo:=g) (hi:=Y.heap.size) (Nat.le_refl _) (RowB.lt K.k.rl) rfl (by simp only [List.length_set,List.length_replicate,List.length_nil];unfold maxLen;omega) |>.rd enI_len) (λ h=>by cases h) (by simp only [List.length_set,List.length_replicate];omega);have CL:=kD m;simp only [List.length_set,List.length_replicate] at CL;clear m;go_wp2_with fail;refine CL.out.mono ?_;rintro e w6 ⟨⟨sv,rfl,a⟩,r⟩;have ap:g<Y.heap.size:=RowB.lt K.k.rl;have K:=K.below r;have a:=OwnV.of a (Nat.le_refl _) (S:=λ b=>Y.heap.size<=b) (λ b R _=>R);have a:=a.sl enI_len;obtain⟨V,T,rfl,p6,k6⟩:=a;simp only [List.length_set,List.length_replicate];have P6:=kD p6;obtain⟨z0,z1⟩:=K.rr.c2;have aq:=K.rr.lt;have az:=K.rr.frozen;clear p6 CL r;go_wp2_with fail;have P:=OwnV.of (RowI.own K.k.rl (lo:=g) (hi:=w6.heap.size) (Nat.le_refl _) (RowB.lt K.k.rl) rfl (by simp only [List.length_set,List.length_replicate,List.length_nil];unfold maxLen;omega)) (Nat.le_refl _) (S:=λ b=>w.heap.size+2<=b) (λ b R _=>by omega);have P:=P.sl enI_len;simp only [List.length_set,List.length_replicate,List.length_nil,Nat.add_zero] at P;refine bp_gen (λ o=>Below w.heap.size w o∧RowB o (w.heap.size+1) 28 [.slice (some ⟨g,0,none⟩) n n,.slice V n T]∧Hid (BdR o (λ b=>(λ _=>False) b∨w.heap.size<=b) (.slice (some ⟨g,0,none⟩) n n) (.slice V n T) (startB v))) ⟨below_two K.k.bel (by omega) _ _,two_ K.rr _ _,kD ⟨?_,?_⟩⟩ ?_
  ·show SlV 1 enI _ _ _ (startL v)
   rw [HF.out];exact(relV 1 enI).weak (sl_two' P (by omega) _ _) (λ b R _=>.inr (by omega))
  ·show SlV 1 enI _ _ _ (startL v)
   rw [HF.out];exact(relV 1 enI).weak (sl_two' (S:=λ b=>Y.heap.size<=b) ⟨V,T,by simp only [List.length_set,List.length_replicate],P6.out,k6⟩ (by omega) _ _) (λ b R _=>.inr (by omega))
  rintro w8 ⟨ad,r8,h8⟩;obtain⟨z0,z1⟩:=r8.c2;refine bodyPost_ret (v:=.tuple #[.agg #[.slice (some ⟨g,0,none⟩) n n,.slice V n T],.bool true]) (by simp [results,Tryz.results164,go_sem,z0,z1]) rfl ?_;exact⟨_,rfl,⟨_,_,_,rfl,h8.out,(λ b0 h=>by simpa using h)⟩,ad⟩
 case false =>
  obtain⟨J,I,H,G⟩:=K.k.rv.c4;have d:=K.k.rv.lt;have D:=RowB.frozen K.k.rl;have z:=RowB.lt K.k.rl;have hp:=hP.out;obtain⟨i,hi⟩:∃ i:Nat,(i:Int)=v.p - 1:=⟨(v.p - 1).toNat,by omega⟩;obtain⟨j,hj⟩:∃ j:Nat,(j:Int)=v.p / 2 - 1:=⟨(v.p / 2 - 1).toNat,by omega⟩;have aI:IntKind.i64.wrap (v.p - 1)=(i:Int):=by rw [IntWalk.i64_in _ (by omega)];exact hi.symm
  have aM:i<n:=by have:=HN.out;omega
  have aL:j<n:=by have:=HN.out;omega
  have aN:¬ i=j:=by omega
  have ar:¬ j=i:=by omega
  have aw:=K.k.rl.at_ (i:=i) (by simp only [List.length_set,List.length_replicate];omega);obtain⟨N,ac⟩:∃ c:Int,v.c / 2=c:=⟨_,rfl⟩;obtain⟨M,ab⟩:∃ c:Int,v.c - N=c:=⟨_,rfl⟩;have aP:Int.tdiv v.p 2=(j:Int)+1:=by rw [Int.tdiv_eq_ediv_of_nonneg (by omega)];omega
  have aH:IntKind.i64.wrap ((j:Int)+1)=(j:Int)+1:=IntWalk.i64_in _ (by omega);have aG:IntKind.i64.wrap ((j:Int)+1 - 1)=(j:Int):=by rw [IntWalk.i64_in _ (by omega)];omega
  have aO:Int.tdiv v.c 2=N:=by rw [Int.tdiv_eq_ediv_of_nonneg (by omega)];exact ac
  have aa:IntKind.i64.wrap N=N:=IntWalk.i64_in _ (by omega);have aF:IntKind.i64.wrap (v.c - N)=M:=by rw [IntWalk.i64_in _ (by omega)];exact ab
  have aE:IntKind.i64.wrap (0+M)=M:=by rw [Int.zero_add];exact IntWalk.i64_in _ (by omega)
  have aD:IntKind.i64.wrap M=M:=IntWalk.i64_in _ (by omega);have aC:IntKind.i64.wrap (j:Int)=(j:Int):=IntWalk.i64_in _ (by omega);have HF:Hid (startL v=((List.replicate n (0:Int)).set i N).set j M):=by
   show _=_
   unfold startL;rw [if_neg (λ hf=>by have:=HQ.out;unfold fullB at this;simp [hf.1,hf.2.1,hf.2.2.1,hf.2.2.2] at this)];rw [show (v.p+1).toNat=n from by have:=HN.out;omega,show (v.p - 1).toNat=i from by omega,show (v.p / 2 - 1).toNat=j from by omega,<-ab,<-ac]
  clear hi hj hp ac ab;go_upto_region 7 with fail;refine wp_gen (λ o=>Sh w o v g ((List.replicate n (0:Int)).set i N)) (K.put l (by simp only [List.length_set,List.length_replicate];omega) N) ?_;clear K J I H G d D z aw;intro Y K;obtain⟨J,I,H,G⟩:=K.k.rv.c4;have d:=K.k.rv.lt;have D:=RowB.frozen K.k.rl;have z:=RowB.lt K.k.rl;have ai:=K.k.rl.at_ (i:=j) (by simp only [List.length_set,List.length_replicate];omega);rw [at_set _ _ _ _ (by simp only [List.length_set,List.length_replicate];omega),if_neg ar,at_rep] at ai;go_still_tail 15,(by kernel_rfl);go_upto_region 8 with fail;refine wp_gen (λ o=>Sh w o v g (((List.replicate n (0:Int)).set i N).set j M)) (by first | exact(K.below (Below.refl _ _).drew).put l (by simp only [List.length_set,List.length_replicate];omega) M | exact K.put l (by simp only [List.length_set,List.length_replicate];omega) M) ?_;clear K J I H G d D z ai;intro x K;have m:=clone (some ⟨g,0,none⟩) n x.heap.size (((List.replicate n (0:Int)).set i N).set j M) x (Nat.le_refl _) (RowI.own K.k.rl (lo:=g) (hi:=x.heap.size) (Nat.le_refl _) (RowB.lt K.k.rl) rfl (by simp only [List.length_set,List.length_replicate,List.length_nil];unfold maxLen;omega) |>.rd enI_len) (λ h=>by cases h) (by simp only [List.length_set,List.length_replicate];omega);have CL:=kD m;simp only [List.length_set,List.length_replicate] at CL;clear m;go_wp2_with fail;refine CL.out.mono ?_;rintro e w6 ⟨⟨sv,rfl,a⟩,r⟩;have ap:g<x.heap.size:=RowB.lt K.k.rl;have K:=K.below r;have a:=OwnV.of a (Nat.le_refl _) (S:=λ b=>x.heap.size<=b) (λ b R _=>R);have a:=a.sl enI_len;obtain⟨V,T,rfl,p6,k6⟩:=a;simp only [List.length_set,List.length_replicate];have P6:=kD p6;obtain⟨z0,z1⟩:=K.rr.c2;have aq:=K.rr.lt;have az:=K.rr.frozen;clear p6 CL r;go_wp2_with fail;have P:=OwnV.of (RowI.own K.k.rl (lo:=g) (hi:=w6.heap.size) (Nat.le_refl _) (RowB.lt K.k.rl) rfl (by simp only [List.length_set,List.length_replicate,List.length_nil];unfold maxLen;omega)) (Nat.le_refl _) (S:=λ b=>w.heap.size+2<=b) (λ b R _=>by omega);have P:=P.sl enI_len;simp only [List.length_set,List.length_replicate,List.length_nil,Nat.add_zero] at P;refine bp_gen (λ o=>Below w.heap.size w o∧RowB o (w.heap.size+1) 28 [.slice (some ⟨g,0,none⟩) n n,.slice V n T]∧Hid (BdR o (λ b=>(λ _=>False) b∨w.heap.size<=b) (.slice (some ⟨g,0,none⟩) n n) (.slice V n T) (startB v))) ⟨below_two K.k.bel (by omega) _ _,two_ K.rr _ _,kD ⟨?_,?_⟩⟩ ?_
  ·show SlV 1 enI _ _ _ (startL v)
   rw [HF.out];exact(relV 1 enI).weak (sl_two' P (by omega) _ _) (λ b R _=>.inr (by omega))
  ·show SlV 1 enI _ _ _ (startL v)
   rw [HF.out];exact(relV 1 enI).weak (sl_two' (S:=λ b=>x.heap.size<=b) ⟨V,T,by simp only [List.length_set,List.length_replicate],P6.out,k6⟩ (by omega) _ _) (λ b R _=>.inr (by omega))
  rintro w8 ⟨ad,r8,h8⟩;obtain⟨z0,z1⟩:=r8.c2;refine bodyPost_ret (v:=.tuple #[.agg #[.slice (some ⟨g,0,none⟩) n n,.slice V n T],.bool true]) (by simp [results,Tryz.results164,go_sem,z0,z1]) rfl ?_;exact⟨_,rfl,⟨_,_,_,rfl,h8.out,(λ b0 h=>by simpa using h)⟩,ad⟩
end Gm
namespace Bd3I
open Go.ChangeShapes Go.WideShapes Go.ChangeAt Go.RowKit Base Ints Own Clone RelG PlP Bd1 Bd2 RegInv RegF
theorem apart_no {v:Vr} {b:Bd} {n k:Nat} (hk:k<n) (h:0<at_ b.1 k∧0<at_ b.2 (v.p.toNat - 1 - k)):apart v b n=false:=by
 cases hc:apart v b n with
 | false=>rfl
 | true=>exact absurd h ((apart_iff n).1 hc k hk)
theorem apart_step {v:Vr} {b:Bd} {k:Nat} (h:apart v b k=true) (hn:¬ (0<at_ b.1 k∧0<at_ b.2 (v.p.toNat - 1 - k))):apart v b (k+1)=true:=by
 refine(apart_iff (k+1)).2 λ i a=>?_
 by_cases e:i=k
 ·subst e;exact hn
 ·exact(apart_iff k).1 h i (by omega)
theorem okB_eq (v:Vr) (b:Bd):okB v b=(okV v && okS v b.1 && okS v b.2 && !(decide (b.1.sum=0) && decide (b.2.sum=0)) && apart v b v.p.toNat):=rfl
theorem isB_i (v:Vr) (b:Bd) (Ao At:Option Addr) (co ct B:Nat) (w:World) (hB:B<=w.heap.size) (ho:RdS w B 1 enI Ao b.1) (ht:RdS w B 1 enI At b.2) (x:Bool) (hx:okB v b=x) :
  Calls Tryz.prog 31 #[.agg #[.int .i64 v.p,.int .i64 v.c,.int .i64 v.h,.int .i64 v.s],.agg #[.slice Ao b.1.length co,.slice At b.2.length ct]] w λ e w'=>e=.returned (.bool x)∧Below w.heap.size w w':=by
 rw [okB_eq] at hx;obtain⟨a,ha⟩:∃ a,okV v=a:=⟨_,rfl⟩;obtain⟨s1,N⟩:∃ a,okS v b.1=a:=⟨_,rfl⟩;obtain⟨s2,M⟩:∃ a,okS v b.2=a:=⟨_,rfl⟩;rw [ha,N,M] at hx;have S:=kD hx;have HA:=kD ha;have H1:=kD N;have H2:=kD M;have HO:=kD ho;have HT:=kD ht;have CV:=kD (λ w=>var_i v a ha w);clear hx ha N M ho ht;go_enter Tryz.func31,Tryz.ntmps31;go_upto_region 1 with fail;refine wp_gen (λ W'=>Below w.heap.size w W'∧RowB W' w.heap.size 25 (vL v)∧RowB W' (w.heap.size+1) 28 [.slice Ao b.1.length co,.slice At b.2.length ct]) ⟨by go_grown,(RowB.new _ _ _).alloc _,RowB.new' _ _ _ (by simp)⟩ ?_;rintro w1 ⟨O,d,f⟩;obtain⟨G,F,E,D⟩:=d.c4;obtain⟨C,A⟩:=f.c2;have q:=d.lt;have o:=f.lt;go_wp2_with fail;refine(CV.out _).mono ?_;rintro e w2 ⟨rfl,n⟩;have d:=d.below n d.lt;have f:=f.below n f.lt;have n:=O.trans (n.mono O.size);clear G F E D C A q o O;obtain⟨G,F,E,D⟩:=d.c4;obtain⟨C,A⟩:=f.c2;have q:=d.lt;have o:=f.lt
 cases a
 case false =>
  obtain rfl:x=false:=by rw [<-S.out];rfl
  go_wp2_with fail;go_ret;exact⟨rfl,n⟩
 have ac:=okV_iff.1 HA.out;go_wp2_with fail;refine(side_i v HA.out Ao co B b.1 s1 H1.out w2 (Nat.le_trans hB n.size) (HO.out.below n hB)).mono ?_;rintro e w3 ⟨rfl,m⟩;have d:=d.below m d.lt;have f:=f.below m f.lt;have m:=n.trans (m.mono n.size);clear G F E D C A q o n;obtain⟨G,F,E,D⟩:=d.c4;obtain⟨C,A⟩:=f.c2;have q:=d.lt;have o:=f.lt
 cases s1
 case false =>
  obtain rfl:x=false:=by rw [<-S.out];rfl
  go_wp2_with fail;go_ret;exact⟨rfl,m⟩
 have d1:=okS_iff.1 H1.out;go_wp2_with fail;refine(side_i v HA.out At ct B b.2 s2 H2.out w3 (Nat.le_trans hB m.size) (HT.out.below m hB)).mono ?_;rintro e w4 ⟨rfl,l⟩;have d:=d.below l d.lt;have f:=f.below l f.lt;have l:=m.trans (l.mono m.size);clear G F E D C A q o m;obtain⟨G,F,E,D⟩:=d.c4;obtain⟨C,A⟩:=f.c2;have q:=d.lt;have o:=f.lt
 cases s2
 case false =>
  obtain rfl:x=false:=by rw [<-S.out];rfl
  go_wp2_with fail;go_ret;exact⟨rfl,l⟩
 have Z:=okS_iff.1 H2.out;have D1:=kD d1;have D2:=kD Z;have N1:=d1.len;have N2:=Z.len;have S1:=kD (λ w (h:RdS w B 1 enI Ao b.1)=>sum_i Ao co B b.1 w h (λ i=>⟨d1.nn i,by have:=d1.top i;omega⟩) (by omega));have S2:=kD (λ w (h:RdS w B 1 enI At b.2)=>sum_i At ct B b.2 w h (λ i=>⟨Z.nn i,by have:=Z.top i;omega⟩) (by omega));clear d1 Z;go_wp2_with fail;refine(S1.out _ (HO.out.below l hB)).mono ?_;rintro e w5 ⟨rfl,rfl⟩;have t:Hid (¬ (b.1.sum=0∧b.2.sum=0)->apart v b v.p.toNat=x):=kD (λ h=>by
  rw [<-S.out];have:(decide (b.1.sum=0) && decide (b.2.sum=0))=false:=by
   cases e:(decide (b.1.sum=0) && decide (b.2.sum=0)) with
   | false=>rfl
   | true=>exact absurd (by simpa using e) h
  rw [this];rfl)
 obtain⟨z1,I⟩:∃ z,b.1.sum=z:=⟨_,rfl⟩;obtain⟨W,H⟩:∃ z,b.2.sum=z:=⟨_,rfl⟩;have R:=kD S2.out;rw [I] at t S ⊢;rw [H] at t S R;clear S2 S1;by_cases hzz:z1=0∧W=0
 case pos =>
  obtain rfl:x=false:=by rw [<-S.out];simp [hzz]
  obtain⟨rfl,rfl⟩:=hzz;clear I H;go_wp2_with fail;refine(R.out _ (HT.out.below l hB)).mono ?_;rintro e w5 ⟨rfl,rfl⟩;go_wp2_with fail;go_ret;exact⟨rfl,l⟩
 have J:=kD (t.out hzz);clear t;have ad:0<=v.p:=by omega
 have go:∀(K:World->Prop),K w4->True:=λ _ _=>trivial
 clear go;have e5:(W == 0)=decide (W=0):=by first | rfl | simp
 by_cases hz10:z1=0
 ·have L:¬ W=0:=λ h=>hzz ⟨hz10,h⟩
  have P:(z1 == 0)=true:=by simp [hz10]
  have V:(W == 0)=false:=by simp [L]
  clear hzz hz10 L I H e5;go_wp2_with fail;refine(R.out _ (HT.out.below l hB)).mono ?_;rintro e w5 ⟨rfl,rfl⟩;go_wp2_with fail;go_loopw [37] (λ i wr=>∃(k:Nat),(k:Int)<=v.p∧i=.int .i64 (k:Int)∧Hid (Below w.heap.size w wr)∧RowB wr w.heap.size 25 (vL v)∧RowB wr (w.heap.size+1) 28 [.slice Ao b.1.length co,.slice At b.2.length ct]∧Hid (apart v b k=true)) (λ i _=>v.p.toNat - (intOf i).toNat)
  case atStart=>exact⟨0,by omega,by first | rfl | trivial,kD l,d,f,rfl⟩
  case round =>
   obtain⟨k,hk,rfl,y,d,f,r⟩:=hrel;clear G F E D C A q o;obtain⟨G,F,E,D⟩:=d.c4;obtain⟨C,A⟩:=f.c2;by_cases hlt:(k:Int)<v.p
   ·obtain⟨b1,o1,rfl,Y,ab⟩:=at_rd (HO.out.below y.out hB) (i:=k) (by omega);have Q:(v.p - 1 - (k:Int)).toNat=v.p.toNat - 1 - k:=by omega
    obtain⟨j,hj⟩:∃ j:Nat,v.p - 1 - (k:Int)=(j:Int):=⟨(v.p - 1 - (k:Int)).toNat,by omega⟩;have g:v.p.toNat - 1 - k=j:=by omega
    obtain⟨b2,o2,rfl,X,aa⟩:=at_rd (HT.out.below y.out hB) (i:=j) (by omega);have e1:IntKind.i64.wrap (v.p - 1)=v.p - 1:=IntWalk.i64_in _ (by omega);have e2:IntKind.i64.wrap (v.p - 1 - (k:Int))=(j:Int):=by rw [hj];exact IntWalk.i64_in _ (by omega)
    by_cases P:0<at_ b.1 k
    ·by_cases V:0<at_ b.2 j
     ·obtain rfl:x=false:=by rw [<-J.out];exact apart_no (k:=k) (by omega) ⟨P,by rw [g];exact V⟩
      clear Q g;go_wp2_with fail;go_ret;exact⟨rfl,y.out⟩
     ·have T:Hid (apart v b (k+1)=true):=kD (apart_step r.out (λ h=>V (by rw [<-g];exact h.2)));clear Q g;go_wp2_with fail;go_roundw
      case rel=>exact⟨k+1,by omega,by go_num,y,d,f,T⟩
      case measure=>simp [intOf];omega
    ·have T:Hid (apart v b (k+1)=true):=kD (apart_step r.out (λ h=>P h.1));clear Q g;go_wp2_with fail;go_roundw
     case rel=>exact⟨k+1,by omega,by go_num,y,d,f,T⟩
     case measure=>simp [intOf];omega
   ·obtain rfl:x=true:=by rw [<-J.out,<-r.out];congr 1;omega
    go_wp2_with fail;go_ret;exact⟨rfl,y.out⟩
 ·have P:(z1 == 0)=false:=by simp [hz10]
  clear hzz hz10 I H e5;go_wp2_with fail;go_loopw [37] (λ i wr=>∃(k:Nat),(k:Int)<=v.p∧i=.int .i64 (k:Int)∧Hid (Below w.heap.size w wr)∧RowB wr w.heap.size 25 (vL v)∧RowB wr (w.heap.size+1) 28 [.slice Ao b.1.length co,.slice At b.2.length ct]∧Hid (apart v b k=true)) (λ i _=>v.p.toNat - (intOf i).toNat)
  case atStart=>exact⟨0,by omega,by first | rfl | trivial,kD l,d,f,rfl⟩
  case round =>
   obtain⟨k,hk,rfl,y,d,f,r⟩:=hrel;clear G F E D C A q o;obtain⟨G,F,E,D⟩:=d.c4;obtain⟨C,A⟩:=f.c2;by_cases hlt:(k:Int)<v.p
   ·obtain⟨b1,o1,rfl,Y,ab⟩:=at_rd (HO.out.below y.out hB) (i:=k) (by omega);have Q:(v.p - 1 - (k:Int)).toNat=v.p.toNat - 1 - k:=by omega
    obtain⟨j,hj⟩:∃ j:Nat,v.p - 1 - (k:Int)=(j:Int):=⟨(v.p - 1 - (k:Int)).toNat,by omega⟩;have g:v.p.toNat - 1 - k=j:=by omega
    obtain⟨b2,o2,rfl,X,aa⟩:=at_rd (HT.out.below y.out hB) (i:=j) (by omega);have e1:IntKind.i64.wrap (v.p - 1)=v.p - 1:=IntWalk.i64_in _ (by omega);have e2:IntKind.i64.wrap (v.p - 1 - (k:Int))=(j:Int):=by rw [hj];exact IntWalk.i64_in _ (by omega)
    by_cases P:0<at_ b.1 k
    ·by_cases V:0<at_ b.2 j
     ·obtain rfl:x=false:=by rw [<-J.out];exact apart_no (k:=k) (by omega) ⟨P,by rw [g];exact V⟩
      clear Q g;go_wp2_with fail;go_ret;exact⟨rfl,y.out⟩
     ·have T:Hid (apart v b (k+1)=true):=kD (apart_step r.out (λ h=>V (by rw [<-g];exact h.2)));clear Q g;go_wp2_with fail;go_roundw
      case rel=>exact⟨k+1,by omega,by go_num,y,d,f,T⟩
      case measure=>simp [intOf];omega
    ·have T:Hid (apart v b (k+1)=true):=kD (apart_step r.out (λ h=>P h.1));clear Q g;go_wp2_with fail;go_roundw
     case rel=>exact⟨k+1,by omega,by go_num,y,d,f,T⟩
     case measure=>simp [intOf];omega
   ·obtain rfl:x=true:=by rw [<-J.out,<-r.out];congr 1;omega
    go_wp2_with fail;go_ret;exact⟨rfl,y.out⟩
end Bd3I
end Go.Proofs.YtmncnhbjifeoeaaGreat
