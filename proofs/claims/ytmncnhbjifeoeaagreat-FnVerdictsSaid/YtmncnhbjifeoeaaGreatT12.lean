/- Parts of the proof of FnVerdicts. Conditions: each theorem's own. -/
import Derived.Test.YtmncnhbjifeoeaaGreatT11
set_option linter.unusedVariables false
set_option linter.unusedSimpArgs false
set_option maxHeartbeats 8000000
set_option maxRecDepth 100000
namespace Go.Proofs.YtmncnhbjifeoeaaGreat
namespace Gm
open Go Go.ChangeShapes Go.WideShapes Go.ChangeAt Go.RowKit Base Ints Own Clone RelG PlP Bd1 Bd2 Bd4 Bd5 Bd6 Bd7 Bd8 RegInv RegF RegG
structure B3 (w wr:World) (v:Vr) (u1 u2:Value) (s:Stp):Prop where
 bel:Below w.heap.size w wr
 rv:RowB wr w.heap.size 25 (vL v)
 rb:RowB wr (w.heap.size+1) 28 [u1,u2]
 rs:RowB wr (w.heap.size+2) 150 [.int .i64 s.1,.int .i64 s.2.1,.int .i64 s.2.2.1,.bool s.2.2.2]
theorem B3.below {w wr w':World} {v:Vr} {u1 u2:Value} {s:Stp} (k:B3 w wr v u1 u2 s) (hb:Below wr.heap.size wr w'):B3 w w' v u1 u2 s :=
 ⟨k.bel.trans (hb.mono k.bel.size),k.rv.below hb k.rv.lt,k.rb.below hb k.rb.lt,k.rs.below hb k.rs.lt⟩
theorem legal_s (v:Vr) (b:Bd) (hb:Ok v b) (S:Nat->Prop) (u1 u2:Value) (s:Stp) (w:World) (hR:BdR w S u1 u2 b) (x:Bool) (hx:legal1 v b s=x) :
  Calls Tryz.prog 112 #[.agg #[.int .i64 v.p,.int .i64 v.c,.int .i64 v.h,.int .i64 v.s],.agg #[u1,u2],.agg #[.int .i64 s.1,.int .i64 s.2.1,.int .i64 s.2.2.1,.bool s.2.2.2]] w λ e w'=>e=.returned (.bool x)∧Below w.heap.size w w':=by
 obtain⟨⟨P,L,rfl,W,_⟩,⟨O,J,rfl,V,_⟩⟩:=hR;obtain⟨f,t,d,h⟩:=s;simp only;obtain⟨a,H⟩:∃ a,decide (1<=d∧d<=v.s)=a:=⟨_,rfl⟩;obtain⟨c,G⟩:∃ a,decide (0<=f∧f<=v.p)=a:=⟨_,rfl⟩;have r:x=(a && c && (!over b && decide (stepP v b f d=some (f,t,d,h)))):=by
  rw [<-hx,<-H,<-G];unfold legal1;simp only;cases over b <;> simp
 have CA:=kD (λ m=>in_s d 1 v.s a H m);have CC:=kD (λ m=>in_s f 0 v.p c G m);have HA:=kD H;have HC:=kD G;have z:=kD r;have j:=kD (λ(l:Nat) (E:(l:Int)<=v.p) (F:1<=d∧d<=6) (m:World) (Z:Below w.heap.size w m)=>Bd4.step_s v b hb P O L J m.heap.size l d E F m (Nat.le_refl _) (W.keep (.below Z)).rd (V.keep (.below Z)).rd);obtain⟨Y,q⟩:∃ n,b.1.length=n:=⟨_,rfl⟩;obtain⟨X,o⟩:∃ n,b.2.length=n:=⟨_,rfl⟩;rw [q,o] at j;rw [q,o];have y:=hb.v1.2.2.2.2;have N:=kD y;clear r hx H G q o W V hb y;go_enter Tryz.func112,Tryz.ntmps112;go_upto_region 1 with fail;refine wp_gen (λ I=>B3 w I v (.slice P Y L) (.slice O X J) (f,t,d,h)) ⟨by go_grown,((RowB.new _ _ _).alloc _).alloc _,(RowB.new' _ _ _ (by simp)).alloc _,RowB.new' _ _ _ (by simp)⟩ ?_;intro w1 K;obtain⟨q0,q1,q2,q3⟩:=K.rv.c4;obtain⟨R,Q⟩:=K.rb.c2;obtain⟨D,C,B,A⟩:=K.rs.c4;go_wp2_with fail;refine(CA.out _).mono ?_;rintro e w2 ⟨rfl,rfl⟩
 cases a
 case false =>
  obtain rfl:x=false:=by rw [z.out];rfl
  go_wp2_with fail;go_ret;exact⟨rfl,K.bel⟩
 go_wp2_with fail;refine(CC.out _).mono ?_;rintro e w2 ⟨rfl,rfl⟩
 cases c
 case false =>
  obtain rfl:x=false:=by rw [z.out];rfl
  go_wp2_with fail;go_ret;exact⟨rfl,K.bel⟩
 have E:=of_decide_eq_true HC.out;have F:=of_decide_eq_true HA.out;obtain⟨l,rfl⟩:∃ l:Nat,f=l:=⟨f.toNat,by omega⟩;have j:=kD (j.out l E.2 ⟨F.1,by have:=N.out;omega⟩);clear E F;go_wp2_with fail;refine(j.out _ K.bel).mono ?_;rintro e w3 ⟨⟨f2,T,d2,h2⟩,ok,rfl,k,hb⟩;have K:=K.below hb;have i:=kD k;clear q0 q1 q2 q3 R Q D C B A k hb;obtain⟨D,C,B,A⟩:=K.rs.c4
 cases ok
 case false =>
  obtain rfl:x=false:=by
   rw [z.out];have g:=i.out;unfold opt at g
   cases ho:over b with
   | true=>simp
   | false=>rw [ho] at g;simp at g;rw [<-g];simp
  go_wp2_with fail;go_ret;exact⟨rfl,K.bel.alloc K.bel.size _⟩
 go_upto_region 4 with fail;refine wp_gen (λ I=>B3 w I v (.slice P Y L) (.slice O X J) ((l:Int),t,d,h)∧RowB I w3.heap.size 150 [.int .i64 f2,.int .i64 T,.int .i64 d2,.bool h2]) ⟨K.below ((Below.refl _ _).alloc (Nat.le_refl _) _),RowB.new _ _ _⟩ ?_;have M:Hid (x=decide ((f2,T,d2,h2)=((l:Int),t,d,h))):=by
  show _=_
  rw [z.out];have g:=i.out;unfold opt at g
  cases ho:over b with
  | true=>rw [ho] at g;simp at g
  | false =>
   rw [ho] at g;simp only [Bool.false_eq_true,if_false,if_true] at g;rw [<-g];simp
 clear z i;clear K D C B A;rintro w4 ⟨K,r4⟩;obtain⟨D,C,B,A⟩:=K.rs.c4;obtain⟨R,Q,y2,y3⟩:=r4.c4;go_wp2_with fail
 all_goals (go_ret;refine⟨?_,K.bel⟩;rw [M.out];simp [*])
theorem legal_i (v:Vr) (b:Bd) (hb:Ok v b) (S:Nat->Prop) (u1 u2:Value) (s:Stp) (w:World) (hR:BdR w S u1 u2 b) (x:Bool) (hx:legal1 v b s=x) :
  Calls Tryz.prog 131 #[.agg #[.int .i64 v.p,.int .i64 v.c,.int .i64 v.h,.int .i64 v.s],.agg #[u1,u2],.agg #[.int .i64 s.1,.int .i64 s.2.1,.int .i64 s.2.2.1,.bool s.2.2.2]] w λ e w'=>e=.returned (.bool x)∧Below w.heap.size w w':=by
 obtain⟨⟨R,O,rfl,V,_⟩,⟨Q,N,rfl,T,_⟩⟩:=hR;obtain⟨f,t,d,h⟩:=s;simp only;obtain⟨a,M⟩:∃ a,decide (1<=d∧d<=v.s)=a:=⟨_,rfl⟩;obtain⟨c,L⟩:∃ a,decide (0<=f∧f<=v.p)=a:=⟨_,rfl⟩;have m:x=(a && c && (!over b && decide (stepP v b f d=some (f,t,d,h)))):=by
  rw [<-hx,<-M,<-L];unfold legal1;simp only;cases over b <;> simp
 have CA:=kD (λ g=>in_i d 1 v.s a M g);have CC:=kD (λ g=>in_i f 0 v.p c L g);obtain⟨o,ho⟩:∃ o,over b=o:=⟨_,rfl⟩;rw [ho] at m;have CO:=kD (λ(g:World) (F:Below w.heap.size w g)=>Bd2.over_i v b hb R Q O N g.heap.size g (Nat.le_refl _) (V.keep (.below F)).rd (T.keep (.below F)).rd o ho);have HA:=kD M;have HC:=kD L;have D:=kD m;have j:=kD (λ(l:Nat) (I:(l:Int)<=v.p) (J:1<=d∧d<=6) (g:World) (F:Below w.heap.size w g)=>Bd4.step_i v b hb R Q O N g.heap.size l d I J g (Nat.le_refl _) (V.keep (.below F)).rd (T.keep (.below F)).rd);obtain⟨n1,r⟩:∃ n,b.1.length=n:=⟨_,rfl⟩;obtain⟨n2,q⟩:∃ n,b.2.length=n:=⟨_,rfl⟩;rw [r,q] at j CO;rw [r,q];have E:=hb.v1.2.2.2.2;have ab:=kD E;clear m hx M L ho r q V T hb E;go_enter Tryz.func131,Tryz.ntmps131;go_upto_region 1 with fail;refine wp_gen (λ P=>B3 w P v (.slice R n1 O) (.slice Q n2 N) (f,t,d,h)) ⟨by go_grown,((RowB.new _ _ _).alloc _).alloc _,(RowB.new' _ _ _ (by simp)).alloc _,RowB.new' _ _ _ (by simp)⟩ ?_;intro w1 K;obtain⟨Z,Y,X,W⟩:=K.rv.c4;obtain⟨H,G⟩:=K.rb.c2;obtain⟨C,B,A,z⟩:=K.rs.c4;go_wp2_with fail;refine(CO.out _ K.bel).mono ?_;rintro e ac ⟨rfl,hb⟩;have K:=K.below hb;clear Z Y X W H G C B A z hb CO;obtain⟨Z,Y,X,W⟩:=K.rv.c4;obtain⟨H,G⟩:=K.rb.c2;obtain⟨C,B,A,z⟩:=K.rs.c4
 cases o
 case true =>
  obtain rfl:x=false:=by rw [D.out];simp
  go_wp2_with fail;go_ret;exact⟨rfl,K.bel⟩
 go_wp2_with fail;refine(CA.out _).mono ?_;rintro e w2 ⟨rfl,rfl⟩
 cases a
 case false =>
  obtain rfl:x=false:=by rw [D.out];rfl
  go_wp2_with fail;go_ret;exact⟨rfl,K.bel⟩
 go_wp2_with fail;refine(CC.out _).mono ?_;rintro e w2 ⟨rfl,rfl⟩
 cases c
 case false =>
  obtain rfl:x=false:=by rw [D.out];rfl
  go_wp2_with fail;go_ret;exact⟨rfl,K.bel⟩
 have I:=of_decide_eq_true HC.out;have J:=of_decide_eq_true HA.out;obtain⟨l,rfl⟩:∃ l:Nat,f=l:=⟨f.toNat,by omega⟩;have j:=kD (j.out l I.2 ⟨J.1,by have:=ab.out;omega⟩);clear I J;go_wp2_with fail;refine(j.out _ K.bel).mono ?_;rintro e w3 ⟨⟨f2,t2,d2,h2⟩,ok,rfl,k,hb⟩;have K:=K.below hb;have i:=kD k;clear Z Y X W H G C B A z k hb;obtain⟨C,B,A,z⟩:=K.rs.c4
 cases ok
 case false =>
  obtain rfl:x=false:=by
   rw [D.out];have y:=i.out;unfold opt at y;simp at y;rw [<-y];simp
  go_wp2_with fail;go_ret;exact⟨rfl,K.bel.alloc K.bel.size _⟩
 go_upto_region 4 with fail;refine wp_gen (λ P=>B3 w P v (.slice R n1 O) (.slice Q n2 N) ((l:Int),t,d,h)∧RowB P w3.heap.size 150 [.int .i64 f2,.int .i64 t2,.int .i64 d2,.bool h2]) ⟨K.below ((Below.refl _ _).alloc (Nat.le_refl _) _),RowB.new _ _ _⟩ ?_;have aa:Hid (x=decide ((f2,t2,d2,h2)=((l:Int),t,d,h))):=by
  show _=_
  rw [D.out];have y:=i.out;unfold opt at y;simp only [if_true] at y;rw [<-y];simp
 clear D i;clear K C B A z;rintro w4 ⟨K,r4⟩;obtain⟨C,B,A,z⟩:=K.rs.c4;obtain⟨H,G,y2,y3⟩:=r4.c4;go_wp2_with fail
 all_goals (go_ret;refine⟨?_,K.bel⟩;rw [aa.out];simp [*])
def aggC:Value->List Value
 | .agg a=>a.toList
 | _=>[]
theorem two_set:∀(cs:List Value),cs.length=2->∀ a b,setL cs 0 [a,b]=aggC (.agg #[a,b])
 | [_,_],_,_,_=>rfl
structure F3 (w wr:World) (v:Vr) (us:List Value):Prop where
 bel:Below w.heap.size w wr
 rv:RowB wr w.heap.size 25 (vL v)
 rb:RowB wr (w.heap.size+1) 28 us
 rr:RowB wr (w.heap.size+2) 28 [.slice none 0 0,.slice none 0 0]
theorem F3.below {w wr w':World} {v:Vr} {us:List Value} (k:F3 w wr v us) (hb:Below wr.heap.size wr w'):F3 w w' v us :=
 ⟨k.bel.trans (hb.mono k.bel.size),k.rv.below hb k.rv.lt,k.rb.below hb k.rb.lt,k.rr.below hb k.rr.lt⟩
structure Fl (w wr:World) (v:Vr) (us:List Value) (gb:Nat) (a1 a2:Value) (bk:Bd):Prop where
 k:F3 w wr v us
 rg:RowB wr gb 28 [a1,a2]
 o1:SlV 1 enI wr (λ b=>w.heap.size+3<=b∧b≠gb) a1 bk.1
 o2:SlV 1 enI wr (λ b=>w.heap.size+3<=b∧b≠gb) a2 bk.2
theorem Fl.below {w wr w':World} {v:Vr} {us:List Value} {gb:Nat} {a1 a2:Value} {bk:Bd} (h:Fl w wr v us gb a1 a2 bk) (hb:Below wr.heap.size wr w'):Fl w w' v us gb a1 a2 bk :=
 ⟨h.k.below hb,h.rg.below hb h.rg.lt,(relV 1 enI).keep h.o1 (.below hb),(relV 1 enI).keep h.o2 (.below hb)⟩
theorem drop_at {α:Type} {l:List α} {k:Nat} {x:α} (h:l[k]?=some x):l.drop k=x :: l.drop (k+1):=by
 have a:=(List.getElem?_eq_some_iff.1 h);rw [List.drop_eq_getElem_cons a.1,a.2]
theorem st_at {w:World} {B:Nat} {A:Option Addr} {ss:List Stp} (h:RdS w B 4 enSt A ss) {k:Nat} (hk:k<ss.length) :
  ∃ sb so f t d hh,A=some ⟨sb,so,none⟩∧sb<B∧ss[k]?=some (f,t,d,hh)∧w.cell? ⟨sb,so+k*4,none⟩=some (.int .i64 f)∧w.cell? ⟨sb,so+k*4+1,none⟩=some (.int .i64 t)∧w.cell? ⟨sb,so+k*4+2,none⟩=some (.int .i64 d)∧w.cell? ⟨sb,so+k*4+3,none⟩=some (.bool hh):=by
 obtain⟨b,c,⟨p,q,r,s⟩,e,i,g,a⟩:=h.at_ hk;exact⟨b,c,p,q,r,s,e,i,g,a 0 _ rfl,a 1 _ rfl,a 2 _ rfl,a 3 _ rfl⟩
theorem in_at {w:World} {S:Nat->Prop} {A:Option Addr} {ds:List Int} (h:RdF w S 1 enI A ds) {k:Nat} (hk:k<ds.length) :
  ∃ db do_ d,A=some ⟨db,do_,none⟩∧db<w.heap.size∧ds[k]?=some d∧w.cell? ⟨db,do_+k,none⟩=some (.int .i64 d):=by
 obtain⟨b,a,x,e,-,g,c,f⟩:=h.at_ hk;exact⟨b,a,x,e,g,c,by simpa using f 0 _ rfl⟩
theorem F3.two {w wr:World} {v:Vr} {us:List Value} {gb:Nat} (k:F3 w wr v us) (h:w.heap.size+3<=gb) (a b:Value):F3 w ((wr.setCell ⟨gb,0,none⟩ a).setCell ⟨gb,1,none⟩ b) v us :=
 ⟨below_two k.bel (by omega) _ _,oth2 k.rv (by omega) _ _,oth2 k.rb (by omega) _ _,oth2 k.rr (by omega) _ _⟩
theorem two_grown (w:World) (g:Nat) (a b:Value):w.grownBy ((w.setCell ⟨g,0,none⟩ a).setCell ⟨g,1,none⟩ b) (some g):=Base.grownBy_trans (Base.grownBy_setCell _ _ _ _) (Base.grownBy_setCell _ _ _ _)
theorem sl_two {w:World} {lo g:Nat} {u:Value} {l:List Int} {S:Nat->Prop} (h:OwnS w lo w.heap.size 2 1 enI u l) (hg:g<lo) (hS:∀ b,lo<=b->S b) (a b:Value):SlV 1 enI ((w.setCell ⟨g,0,none⟩ a).setCell ⟨g,1,none⟩ b) S u l :=
 (relV 1 enI).weak ((relV 1 enI).keep (OwnV.sl enI_len (OwnV.of h (Nat.le_refl _) (S:=λ b=>lo<=b) (λ b hb _=>hb))) (Still.grown (two_grown w g a b) (λ k hk hs=>by simp at hk;omega))) (λ b hb _=>hS b hb)
theorem sl_two' {w:World} {g:Nat} {u:Value} {l:List Int} {S:Nat->Prop} (h:SlV 1 enI w S u l) (hg:¬ S g) (a b:Value):SlV 1 enI ((w.setCell ⟨g,0,none⟩ a).setCell ⟨g,1,none⟩ b) S u l :=
 (relV 1 enI).keep h (Still.grown (two_grown w g a b) (λ k hk hs=>by simp at hk;subst hk;exact hg hs))
theorem legal_stok {v:Vr} {b:Bd} {s:Stp} (hb:Ok v b) (h:legal1 v b s=true):StOk v s:=by
 obtain⟨_,m,e,g⟩:=legal1_iff.1 h;obtain⟨k,j,i,f⟩:=step_parts e hb g;have l:=hb.v1;unfold StOk;rcases f with ⟨a,b,c,d⟩ | ⟨a,b,c⟩
 ·exact⟨e,by omega,λ _=>by omega⟩
 ·exact⟨e,by omega,λ h=>by rw [c] at h;cases h⟩
theorem follow_s (v:Vr) (b:Bd) (hb:Ok v b) (S:Nat->Prop) (u1 u2:Value) (ds:List Int) (hd4:ds.length<=4) (uo:Value) (ss:List Stp) (A:Option Addr) (cp BS:Nat) (w:World) (hBS:BS<=w.heap.size) (hR:BdR w S u1 u2 b) (ho:SlV 1 enI w All uo ds) (hs:RdS w BS 4 enSt A ss) :
  Calls Tryz.prog 69 #[.agg #[.int .i64 v.p,.int .i64 v.c,.int .i64 v.h,.int .i64 v.s],.agg #[u1,u2],uo,.slice A ss.length cp] w λ e w'=>Ret RelBB (followP v b ds ss) (λ _=>False) w e w':=by
 obtain⟨⟨A1,c1,rfl,r1,k1⟩,⟨A2,c2,rfl,r2,k2⟩⟩:=hR;obtain⟨Ao,co,rfl,ro,ko⟩:=ho;have aK:b.1.length<=1048577:=by have:=hb.own.len;have:=hb.v1.1;omega
 have aJ:b.2.length<=1048577:=by have:=hb.oth.len;have:=hb.v1.1;omega
 have aA:=kD (λ(z:World) (h9:Below w.heap.size w z)=>own02 A1 c1 z.heap.size b.1 z (Nat.le_refl _) (r1.keep (.below h9)).rd k1 aK);have az:=kD (λ(z:World) (h9:Below w.heap.size w z)=>own02 A2 c2 z.heap.size b.2 z (Nat.le_refl _) (r2.keep (.below h9)).rd k2 aJ);obtain⟨n1,af⟩:∃ n,b.1.length=n:=⟨_,rfl⟩;obtain⟨n2,ae⟩:∃ n,b.2.length=n:=⟨_,rfl⟩;rw [af] at aA;rw [ae] at az;rw [af,ae];have bh:=kD af;have bg:=kD ae;obtain⟨N,hN⟩:∃ n,ss.length=n:=⟨_,rfl⟩;obtain⟨m,hm⟩:∃ n,ds.length=n:=⟨_,rfl⟩;have ba:N<=9223372036854775807:=by have:=hs.len;omega
 rw [hm] at hd4;rw [hN,hm];have HN:=kD hN;have HM:=kD hm;have RS:=kD hs;have RO:=kD ro;have HB:=kD hb;obtain⟨R,hR⟩:∃ r,followP v b ds ss=r:=⟨_,rfl⟩;rw [hR];have HR:=kD hR;clear af ae hN hm hs ro hb r1 r2 aK aJ hR;go_enter Tryz.func69,Tryz.ntmps69;go_upto_region 1 with fail;refine wp_gen (λ H=>F3 w H v [.slice A1 n1 c1,.slice A2 n2 c2]) ⟨by go_grown,((RowB.new _ _ _).alloc _).alloc _,(RowB.new' _ _ _ (by simp)).alloc _,RowB.new' _ _ _ (by simp)⟩ ?_;intro w1 Q;have aa:=Q.rb.lt;refine rG [some 12,some 13,some 14,some 15,some 16,some 17,some 18,some 10,none] 9 (Pl [some (.pointer (some ⟨w.heap.size+1,0,none⟩)),some (.slice A1 n1 c1),none,some (.pointer (some ⟨w.heap.size+1,1,none⟩)),some (.slice A2 n2 c2),none,none,none,none]) (λ L j w'=>C2F RelI b.1 RelI b.2 w1 2 5 6 7 8 (λ a b=>.agg #[a,b]) aggC 28 2 L j w') ?g0_1 ?gst_1 ?gfin_1
 case g0_1=>exact⟨(Below.refl _ _).drew,λ h=>absurd h (by decide),λ h=>absurd h (by decide),λ h=>absurd h (by decide),λ h=>absurd h (by decide),λ h=>absurd h (by decide)⟩
 case gst_1 =>
  refine rN rfl (λ L j A z o l D U F K G=>?_) ?_
  ·have e5:=U.w 5 (.pointer (some ⟨w.heap.size+1,0,none⟩));have rb:=Q.rb.below F.bel aa;obtain⟨y0,y1⟩:=rb.c2;clear rb;go_simp;exact pF G (F.skip 0 _)
  refine rN rfl (λ L j A z o l D U F K G=>?_) ?_
  ·have be:=U.v 0 12;have rb:=Q.rb.below F.bel aa;obtain⟨y0,y1⟩:=rb.c2;clear rb;go_simp;exact pF G (F.skip 1 _)
  refine rN rfl (λ L j A z o l D U F K G=>?_) ?_
  ·have bd:=U.v 1 13;go_simp;refine(aA.out z (Q.bel.trans (F.bel.mono Q.bel.size))).mono ?_;rintro e w6 ⟨⟨v6,rfl,ao⟩,av⟩;exact G.out v6 w6 (Pl.any rfl) (F.call1 o (by decide) av (OwnV.sl enI_len (OwnV.of ao (Nat.le_refl _) (λ b hb _=>hb))))
  refine rN rfl (λ L j A z o l D U F K G=>?_) ?_
  ·have e5:=U.w 5 (.pointer (some ⟨w.heap.size+1,0,none⟩));have rb:=Q.rb.below F.bel aa;obtain⟨y0,y1⟩:=rb.c2;clear rb;go_simp;exact pF G (F.skip 3 _)
  refine rN rfl (λ L j A z o l D U F K G=>?_) ?_
  ·have bc:=U.v 3 15;have rb:=Q.rb.below F.bel aa;obtain⟨y0,y1⟩:=rb.c2;clear rb;go_simp;exact pF G (F.skip 4 _)
  refine rN rfl (λ L j A z o l D U F K G=>?_) ?_
  ·have bb:=U.v 4 16;go_simp;refine(az.out z (Q.bel.trans (F.bel.mono Q.bel.size))).mono ?_;rintro e w6 ⟨⟨v6,rfl,ao⟩,av⟩;exact G.out v6 w6 (Pl.any rfl) (F.call2 o (by decide) av (OwnV.sl enI_len (OwnV.of ao (Nat.le_refl _) (λ b hb _=>hb))))
  refine rN rfl (λ L j A z o l D U F K G=>?_) ?_
  ·have aM:=U.x 2 14;have aL:=U.x 5 17;refine(F.f1 (bK l 2)).elim λ A3 Z=>?_
   refine Z.elim λ c3 Z=>?_
   refine(F.f2 (bK l 5)).elim λ A4 Y=>?_
   refine Y.elim λ c4 Y=>?_
   have a3:=aM.trans Z.1;have a0:=aL.trans Y.1;clear aM aL;go_simp;exact G.out _ z (Pl.any rfl) (F.built o (by decide) (bK l 2) (bK l 5) (by rw [Z.1,Y.1]))
  refine rN rfl (λ L j A z o l D U F K G=>?_) ?_
  ·go_simp;exact G.out _ _ (Pl.any rfl) (F.box (by decide) (λ h=>o (D 8 7 (by kernel_rfl) h)) rfl)
  refine rN rfl (λ L j A z o l D U F K G=>?_) ?_
  ·have aU:=U.x 7 10;have aT:=U.x 6 18;have fb:=F.fb (bK l 6);refine(F.f1 fb.1).elim λ A3 Z=>?_
   refine Z.elim λ c3 Z=>?_
   refine(F.f2 fb.2.1).elim λ A4 Y=>?_
   refine Y.elim λ c4 Y=>?_
   refine(F.fa (bK l 7)).elim λ g q=>?_
   refine q.2.2.1.elim λ cs qc=>?_
   have T:j 6=.agg #[.slice A3 b.1.length c3,.slice A4 b.2.length c4]:=by rw [fb.2.2,Z.1,Y.1]
   have aI:cs.length=2:=qc.1;refine wp_sm 28 _ _ rfl g 0 [.slice A3 b.1.length c3,.slice A4 b.2.length c4] cs (ev (aU.trans q.1)) (ev (aT.trans T)) 28 qc.2 (by kernel_rfl) (by simp [aI]) rfl ?_;exact G.out undef _ (Pl.any rfl) (F.wrote (by decide) (bK l 6) (bK l 7) q.1 qc.2 (by rw [T];exact two_set cs aI _ _))
  exact RelFrom.nil (by decide)
 intro j z hp F;simp only [Fr,Act.put,sX,Nat.reduceAdd];obtain⟨gb,aq,aH,-,f1,f2⟩:=F.fa trivial;have r:=(F.fw trivial).2 gb aq;obtain⟨-,-,T⟩:=F.fb (F.fw trivial).1;obtain⟨A3,c3,e3,aC,aE⟩:=f1 trivial;obtain⟨A4,c4,e4,aB,aD⟩:=f2 trivial;rw [e3,e4] at T;rw [T] at r;rw [aq];have aP:w.heap.size+3<=gb:=by have:=Q.rr.lt;omega
 have K:Fl w z v [.slice A1 n1 c1,.slice A2 n2 c2] gb (.slice A3 b.1.length c3) (.slice A4 b.2.length c4) b:=⟨Q.below F.bel,r,⟨A3,c3,rfl,aC.weak (λ _ h _=>⟨by have:=Q.rr.lt;have:=h.1;omega,h.2⟩),aE⟩,⟨A4,c4,rfl,aB.weak (λ _ h _=>⟨by have:=Q.rr.lt;have:=h.1;omega,h.2⟩),aD⟩⟩;clear F hp Q aa f1 f2 r T e3 e4 aC aB aE aD aA az aq aH;have aV:Hid (R=followP v b (ds.drop 0) (ss.drop 0)):=HR.out.symm;clear HR;go_wp2_with fail;go_loopw [11] (λ i wr=>∃(k:Nat) (y:Bd) (a1 a2:Value),k<=N∧i=.int .i64 (k:Int)∧Fl w wr v [.slice A1 n1 c1,.slice A2 n2 c2] gb a1 a2 y∧Hid (Ok v y)∧Hid (R=followP v y (ds.drop k) (ss.drop k))) (λ i _=>N - (intOf i).toNat)
 case atStart=>exact⟨0,b,_,_,Nat.zero_le _,by first | rfl | trivial,K,HB,aV⟩
 case round =>
  obtain⟨k,y,a1,a2,hk,rfl,K,am,ac⟩:=hrel;by_cases hlt:k<N
  ·obtain⟨⟨B1,e1,rfl,p1,p2⟩,⟨B2,e2,rfl,p3,p4⟩⟩:SlV 1 enI wr _ a1 y.1∧SlV 1 enI wr _ a2 y.2:=⟨K.o1,K.o2⟩;have hw:=K.k.bel;obtain⟨sb,so,f,t,d,hh,rfl,a5,ad,s0,s1,s2,s3⟩:=st_at (RS.out.below hw hBS) (by rw [HN.out];exact hlt);have al:=kD (drop_at ad);obtain⟨W,V⟩:=K.k.rr.c2;have ag:=K.k.rr.lt;have ak:=K.k.rr.frozen;by_cases hmk:m<=k
   ·have O:R=none:=by
     rw [ac.out,al.out,List.drop_eq_nil_of_le (by rw [HM.out];exact hmk)];rfl
    subst O;have aF:decide ((m:Int)<=(k:Int))=true:=decide_eq_true (by omega);have aO:(k:Int)<(N:Int):=by omega
    have a6:¬ k<m:=by omega
    clear ad s0 s1 s2 s3 p1 p2 p3 p4;go_wp2_with fail;go_quiet (fail);go_wp2_with fail;refine bp_gen (λ H=>Below w.heap.size w H∧RowB H (w.heap.size+2) 28 [.slice none 0 0,.slice none 0 0]) ⟨below_two (below_drewN K.k.bel nq) (by omega) _ _,two_ (K.k.rr.drewN nq) _ _⟩ ?_;rintro w8 ⟨M,r8⟩;obtain⟨W,V⟩:=r8.c2;refine bodyPost_ret (v:=.tuple #[.agg #[.slice none 0 0,.slice none 0 0],.bool false]) (by simp [results,Tryz.results69,go_sem,W,V]) rfl ?_;exact⟨_,rfl,⟨_,_,([],[]),rfl,BdR.nil _ _,λ _ h=>by cases h⟩,M⟩
   obtain⟨db,bf,d2,aR,a9,ar,t0⟩:=in_at (RO.out.keep (.below hw)) (k:=k) (by rw [HM.out];omega);subst aR;have ay:=kD (drop_at ar);have aF:decide ((m:Int)<=(k:Int))=false:=decide_eq_false (by omega);have aO:(k:Int)<(N:Int):=by omega
   have a7:(k:Int)<(m:Int):=by omega
   have aZ:k<m:=by omega
   have aY:decide (m<=k)=false:=decide_eq_false (by omega);by_cases hd:d=d2
   rotate_left
   ·have O:R=none:=by
     rw [ac.out,al.out,ay.out];simp only [followP];rw [if_neg (λ h=>hd h.1)]
    subst O;have aQ:(d != d2)=true:=by simpa using hd
    clear ad ar s0 s1 s3 p1 p2 p3 p4 hmk hd;go_wp2_with fail;go_quiet (fail);go_wp2_with fail;refine bp_gen (λ H=>Below w.heap.size w H∧RowB H (w.heap.size+2) 28 [.slice none 0 0,.slice none 0 0]) ⟨below_two (below_drewN K.k.bel nq) (by omega) _ _,two_ (K.k.rr.drewN nq) _ _⟩ ?_;rintro w8 ⟨M,r8⟩;obtain⟨W,V⟩:=r8.c2;refine bodyPost_ret (v:=.tuple #[.agg #[.slice none 0 0,.slice none 0 0],.bool false]) (by simp [results,Tryz.results69,go_sem,W,V]) rfl ?_;exact⟨_,rfl,⟨_,_,([],[]),rfl,BdR.nil _ _,λ _ h=>by cases h⟩,M⟩
   subst hd;obtain⟨x,hx⟩:∃ x,legal1 v y (f,t,d,hh)=x:=⟨_,rfl⟩;have CL:=kD (λ(z:World) (h9:Below wr.heap.size wr z)=>legal_s v y am.out _ (.slice B1 y.1.length e1) (.slice B2 y.2.length e2) (f,t,d,hh) z ⟨⟨B1,e1,rfl,p1.keep (.below h9),p2⟩,⟨B2,e2,rfl,p3.keep (.below h9),p4⟩⟩ x hx);simp only at CL;have HX:=kD hx;have P1:=kD p1;have P3:=kD p3;obtain⟨l1,J⟩:∃ n,y.1.length=n:=⟨_,rfl⟩;obtain⟨l2,I⟩:∃ n,y.2.length=n:=⟨_,rfl⟩;have E:=K.rg;rw [J,I] at CL E;have ax:=kD J;have aw:=kD I;have aQ:(d != d)=false:=by simp
   obtain⟨q0,Z,Y,q3⟩:=K.k.rv.c4;obtain⟨y0,y1⟩:=E.c2;have ap:=K.k.rv.lt;have C:=E.lt;have P:sb<wr.heap.size:=by have:=hw.size;omega
   clear ad ar p1 p3 J I hx hmk;go_wp2_with fail;go_still_tail 23,(by kernel_rfl);go_wp2_with fail;refine(CL.out _ (Below.refl _ _).drew).mono ?_;rintro e X ⟨rfl,B⟩;have B:Below wr.heap.size wr X:=(Below.refl wr.heap.size wr).drew.trans B;have K:=K.below B;have hw:=hw.trans (B.mono hw.size);have s0:=B.cell P |>.trans s0
   have s1:=B.cell P |>.trans s1
   have s2:=B.cell P |>.trans s2
   have s3:=B.cell P |>.trans s3
   have E:RowB X gb 28 [.slice B1 l1 e1,.slice B2 l2 e2]:=E.below B C;clear q0 Z Y q3 y0 y1 W V ap ag ak t0 CL C;obtain⟨q0,Z,Y,q3⟩:=K.k.rv.c4;obtain⟨y0,y1⟩:=E.c2;obtain⟨W,V⟩:=K.k.rr.c2;have ap:=K.k.rv.lt;have C:=E.lt;have ag:=K.k.rr.lt;have ak:=K.k.rr.frozen
   cases x
   case false =>
    have O:R=none:=by
     rw [ac.out,al.out,ay.out];simp only [followP];rw [if_neg (λ h=>by rw [HX.out] at h;exact absurd h.2 (by decide))]
    subst O;clear s0 s1 s2 s3;go_wp2_with fail;refine bp_gen (λ H=>Below w.heap.size w H∧RowB H (w.heap.size+2) 28 [.slice none 0 0,.slice none 0 0]) ⟨below_two (K.k.bel) (by omega) _ _,two_ (K.k.rr) _ _⟩ ?_;rintro w8 ⟨M,r8⟩;obtain⟨W,V⟩:=r8.c2;refine bodyPost_ret (v:=.tuple #[.agg #[.slice none 0 0,.slice none 0 0],.bool false]) (by simp [results,Tryz.results69,go_sem,W,V]) rfl ?_;exact⟨_,rfl,⟨_,_,([],[]),rfl,BdR.nil _ _,λ _ h=>by cases h⟩,M⟩
   case true =>
    have aN:Hid (R=followP v (afterP v y (f,t,d,hh)) (ds.drop (k+1)) (ss.drop (k+1))):=by
     show _=_
     rw [ac.out,al.out,ay.out];simp only [followP];rw [if_pos ⟨trivial,HX.out⟩]
    have an:=kD (legal1_ok am.out HX.out);go_wp2_with fail;go_still_tail 6,(by kernel_rfl);go_wp2_with fail;have CA:=Bd7S.after_s v y am.out B1 B2 e1 e2 X.drew.heap.size (f,t,d,hh) (legal_stok am.out HX.out) X.drew (Nat.le_refl _) (P1.out.keep (.below (B.drew))).rd (P3.out.keep (.below (B.drew))).rd p2 p4;rw [ax.out,aw.out] at CA;refine CA.mono ?_;clear CA;rintro e w3 ⟨B3,e3,B4,e4,rfl,o3,o4,-,aj⟩;have aj:Below X.heap.size X w3:=(Below.refl X.heap.size X).drew.trans aj;have K:=K.below aj;have E:RowB w3 gb 28 [.slice B1 l1 e1,.slice B2 l2 e2]:=E.below aj C;have aG:gb<X.heap.size:=C;clear q0 Z Y q3 y0 y1 W V ap ag ak s0 s1 s2 s3 C;obtain⟨y0,y1⟩:=E.c2;have C:=E.lt;have aS:=E.frozen;obtain⟨b2,ab⟩:∃ b2,afterP v y (f,t,d,hh)=b2:=⟨_,rfl⟩;rw [ab] at o3 o4 aN an;rw [ab];obtain⟨l3,ai⟩:∃ n,b2.1.length=n:=⟨_,rfl⟩;obtain⟨l4,ah⟩:∃ n,b2.2.length=n:=⟨_,rfl⟩;rw [ai] at o3;rw [ah] at o4;rw [ai,ah];have aX:=kD (show OwnS w3 X.heap.size w3.heap.size 2 1 enI (.slice B3 l3 e3) b2.1 from o3);have aW:=kD (show OwnS w3 X.heap.size w3.heap.size 2 1 enI (.slice B4 l4 e4) b2.2 from o4);have a4:w.heap.size+3<=X.heap.size:=by omega
    have bj:=kD ai;have bi:=kD ah;clear o3 o4 ai ah ab;go_upto_region 4 with fail;refine wp_gen (λ H=>Fl w H v [.slice A1 n1 c1,.slice A2 n2 c2] gb (.slice B3 l3 e3) (.slice B4 l4 e4) b2) ⟨K.k.two aP _ _,two_ E _ _,sl_two aX.out aG (λ b hb=>⟨by omega,by omega⟩) _ _,sl_two aW.out aG (λ b hb=>⟨by omega,by omega⟩) _ _⟩ ?_;clear K y0 y1 C aS E;intro w4 K;have a8:IntKind.i64.wrap ((k:Int)+1)=(k:Int)+1:=IntWalk.i64_in _ (by omega);go_wp2_with fail;go_roundw
    case rel=>exact⟨k+1,b2,_,_,by omega,by go_num,K,an,aN⟩
    case measure=>simp [intOf];omega
  ·obtain rfl:N=k:=by omega
   have O:R=some y:=by
    rw [ac.out,show ss.drop N=[] from List.drop_eq_nil_of_le (by rw [HN.out];exact Nat.le_refl _)]
    cases ds.drop N <;> rfl
   subst O;obtain⟨⟨B1,e1,rfl,p1,p2⟩,⟨B2,e2,rfl,p3,p4⟩⟩:SlV 1 enI wr _ a1 y.1∧SlV 1 enI wr _ a2 y.2:=⟨K.o1,K.o2⟩;have E:=K.rg;obtain⟨l1,J⟩:∃ n,y.1.length=n:=⟨_,rfl⟩;obtain⟨l2,I⟩:∃ n,y.2.length=n:=⟨_,rfl⟩;rw [J,I] at E;have ax:=kD J;have aw:=kD I;obtain⟨y0,y1⟩:=E.c2;obtain⟨W,V⟩:=K.k.rr.c2;have C:=E.lt;have ag:=K.k.rr.lt;have ak:=K.k.rr.frozen;have P1:=kD p1;have P3:=kD p3;clear J I p1 p3;go_wp2_with fail;refine bp_gen (λ H=>Below w.heap.size w H∧RowB H (w.heap.size+2) 28 [.slice B1 l1 e1,.slice B2 l2 e2]∧Hid (SlV 1 enI H (λ b=>(λ _=>False) b∨w.heap.size<=b) (.slice B1 l1 e1) y.1)∧Hid (SlV 1 enI H (λ b=>(λ _=>False) b∨w.heap.size<=b) (.slice B2 l2 e2) y.2)) ⟨below_two K.k.bel (by omega) _ _,two_ K.k.rr _ _,kD ?_,kD ?_⟩ ?_
   ·exact(relV 1 enI).weak (sl_two' (S:=λ b=>b≠w.heap.size+2∧w.heap.size<=b) ((relV 1 enI).weak (show SlV 1 enI wr (λ b=>w.heap.size+3<=b∧b≠gb) (.slice B1 l1 e1) y.1 from⟨B1,e1,by rw [ax.out],P1.out,p2⟩) (λ b hb _=>⟨by have:=hb.1;omega,by have:=hb.1;omega⟩)) (λ h=>h.1 rfl) _ _) (λ b hb _=>.inr hb.2)
   ·exact(relV 1 enI).weak (sl_two' (S:=λ b=>b≠w.heap.size+2∧w.heap.size<=b) ((relV 1 enI).weak (show SlV 1 enI wr (λ b=>w.heap.size+3<=b∧b≠gb) (.slice B2 l2 e2) y.2 from⟨B2,e2,by rw [aw.out],P3.out,p4⟩) (λ b hb _=>⟨by have:=hb.1;omega,by have:=hb.1;omega⟩)) (λ h=>h.1 rfl) _ _) (λ b hb _=>.inr hb.2)
   rintro w8 ⟨M,r8,h1,h2⟩;obtain⟨W,V⟩:=r8.c2;refine bodyPost_ret (v:=.tuple #[.agg #[.slice B1 l1 e1,.slice B2 l2 e2],.bool true]) (by simp [results,Tryz.results69,go_sem,W,V]) rfl ?_;exact⟨_,rfl,⟨_,_,y,rfl,⟨h1.out,h2.out⟩,λ _ h=>by simpa using h⟩,M⟩
theorem follow_long {v:Vr}:∀(ds:List Int) (b:Bd) (ss:List Stp),ds.length<ss.length->followP v b ds ss=none
 | _,_,[],h=>by simp at h
 | [],_,_ :: _,_=>rfl
 | d :: ds,b,s :: ss,h=>by
  simp only [followP];split
  ·exact follow_long ds _ ss (by simpa using h)
  ·rfl
structure Fm (w wr:World) (v:Vr) (a1 a2:Value) (bk:Bd):Prop where
 k:F3 w wr v [a1,a2]
 o1:SlV 1 enI wr (λ b=>w.heap.size+3<=b) a1 bk.1
 o2:SlV 1 enI wr (λ b=>w.heap.size+3<=b) a2 bk.2
theorem Fm.below {w wr w':World} {v:Vr} {a1 a2:Value} {bk:Bd} (h:Fm w wr v a1 a2 bk) (hb:Below wr.heap.size wr w'):Fm w w' v a1 a2 bk :=
 ⟨h.k.below hb,(relV 1 enI).keep h.o1 (.below hb),(relV 1 enI).keep h.o2 (.below hb)⟩
theorem F3.put {w wr:World} {v:Vr} {x y:Value} (k:F3 w wr v [x,y]) (a b:Value):F3 w ((wr.setCell ⟨w.heap.size+1,0,none⟩ a).setCell ⟨w.heap.size+1,1,none⟩ b) v [a,b] :=
 ⟨below_two k.bel (by omega) _ _,oth2 k.rv (by omega) _ _,two_ k.rb _ _,oth2 k.rr (by omega) _ _⟩
theorem follow_i (v:Vr) (b:Bd) (hb:Ok v b) (S:Nat->Prop) (u1 u2:Value) (ds:List Int) (hd4:ds.length<=4) (uo:Value) (ss:List Stp) (A:Option Addr) (cp BS:Nat) (w:World) (hBS:BS<=w.heap.size) (hR:BdR w S u1 u2 b) (ho:SlV 1 enI w All uo ds) (hs:RdS w BS 4 enSt A ss) :
  Calls Tryz.prog 94 #[.agg #[.int .i64 v.p,.int .i64 v.c,.int .i64 v.h,.int .i64 v.s],.agg #[u1,u2],uo,.slice A ss.length cp] w λ e w'=>Ret RelBB (followP v b ds ss) (λ _=>False) w e w':=by
 obtain⟨⟨A1,c1,rfl,r1,k1⟩,⟨A2,c2,rfl,r2,k2⟩⟩:=hR;obtain⟨Ao,co,rfl,ro,ko⟩:=ho;have CC:=kD (λ(w9:World) (h9:Below w.heap.size w w9)=>clone_i b.1 b.2 A1 A2 c1 c2 w9.heap.size w9 (Nat.le_refl _) (r1.keep (.below h9)).rd (r2.keep (.below h9)).rd k1 k2 (by have:=hb.own.len;have:=hb.v1.1;omega) (by have:=hb.oth.len;have:=hb.v1.1;omega));obtain⟨n1,I⟩:∃ n,b.1.length=n:=⟨_,rfl⟩;obtain⟨n2,H⟩:∃ n,b.2.length=n:=⟨_,rfl⟩;rw [I,H] at CC;rw [I,H];have aH:=kD I;have aG:=kD H;obtain⟨N,hN⟩:∃ n,ss.length=n:=⟨_,rfl⟩;obtain⟨m,hm⟩:∃ n,ds.length=n:=⟨_,rfl⟩;have aE:N<=9223372036854775807:=by have:=hs.len;omega
 rw [hm] at hd4;rw [hN,hm];have HN:=kD hN;have HM:=kD hm;have RS:=kD hs;have RO:=kD ro;have HB:=kD hb;obtain⟨R,hR⟩:∃ r,followP v b ds ss=r:=⟨_,rfl⟩;rw [hR];have HR:=kD hR;clear I H hN hm hs ro hb r1 r2 hR;go_enter Tryz.func94,Tryz.ntmps94;go_upto_region 1 with fail;refine wp_gen (λ g=>F3 w g v [.slice A1 n1 c1,.slice A2 n2 c2]) ⟨by go_grown,((RowB.new _ _ _).alloc _).alloc _,(RowB.new' _ _ _ (by simp)).alloc _,RowB.new' _ _ _ (by simp)⟩ ?_;intro w1 K;obtain⟨B,z⟩:=K.rr.c2;have C:=K.rr.lt;have D:=K.rr.frozen;by_cases hlong:m<N
 ·have y:R=none:=by rw [<-HR.out];exact follow_long ds b ss (by rw [HN.out,HM.out];exact hlong)
  subst y;have aj:decide (m<N)=true:=decide_eq_true hlong;clear HR;go_wp2_with fail;refine bp_gen (λ g=>Below w.heap.size w g∧RowB g (w.heap.size+2) 28 [.slice none 0 0,.slice none 0 0]) ⟨below_two (K.bel) (by omega) _ _,two_ (K.rr) _ _⟩ ?_;rintro w8 ⟨q,W⟩;obtain⟨B,z⟩:=W.c2;refine bodyPost_ret (v:=.tuple #[.agg #[.slice none 0 0,.slice none 0 0],.bool false]) (by simp [results,Tryz.results94,go_sem,B,z]) rfl ?_;exact⟨_,rfl,⟨_,_,([],[]),rfl,BdR.nil _ _,λ _ h=>by cases h⟩,q⟩
 have aj:decide (m<N)=false:=decide_eq_false hlong;obtain⟨G,F⟩:=K.rb.c2;go_wp2_with fail;refine(CC.out _ K.bel).mono ?_;rintro e w2 ⟨A3,c3,A4,c4,rfl,o3,o4,-,hb⟩;have K:=K.below hb;have aw:w.heap.size+3<=w1.heap.size:=by omega
 clear B z C D G F hb CC;obtain⟨G,F⟩:=K.rb.c2;have l:=K.rb.lt;have X:=K.rb.frozen;have T:=kD o3;have Q:=kD o4;clear o3 o4;go_upto_region 4 with fail;refine wp_gen (λ g=>Fm w g v (.slice A3 b.1.length c3) (.slice A4 b.2.length c4) b) ⟨(K.put _ _),sl_two T.out (by omega) (λ b hb=>by omega) _ _,sl_two Q.out (by omega) (λ b hb=>by omega) _ _⟩ ?_;clear K G F l X T Q;intro w3 K;have ap:Hid (R=followP v b (ds.drop 0) (ss.drop 0)):=HR.out.symm;clear HR;go_wp2_with fail;go_loopw [22] (λ i wr=>∃(k:Nat) (j:Bd) (a1 a2:Value),k<=N∧i=.int .i64 (k:Int)∧Fm w wr v a1 a2 j∧Hid (Ok v j)∧Hid (R=followP v j (ds.drop k) (ss.drop k))) (λ i _=>N - (intOf i).toNat)
 case atStart=>exact⟨0,b,_,_,Nat.zero_le _,by first | rfl | trivial,K,HB,ap⟩
 case round =>
  obtain⟨k,j,a1,a2,hk,rfl,K,P,O⟩:=hrel;obtain⟨⟨B1,e1,rfl,p1,p2⟩,⟨B2,e2,rfl,p3,p4⟩⟩:SlV 1 enI wr _ a1 j.1∧SlV 1 enI wr _ a2 j.2:=⟨K.o1,K.o2⟩;by_cases hlt:k<N
  ·have hw:=K.k.bel;obtain⟨sb,so,f,t,d,hh,rfl,az,aa,s0,s1,s2,s3⟩:=st_at (RS.out.below hw hBS) (by rw [HN.out];exact hlt);have Y:=kD (drop_at aa);obtain⟨db,aF,d2,ao,al,ab,t0⟩:=in_at (RO.out.keep (.below hw)) (k:=k) (by rw [HM.out];omega);subst ao;have Z:=kD (drop_at ab);have aB:(k:Int)<(N:Int):=by omega
   have aC:(k:Int)<(m:Int):=by omega
   have ay:k<m:=by omega
   have ax:k<N:=hlt;obtain⟨l1,o⟩:∃ n,j.1.length=n:=⟨_,rfl⟩;obtain⟨l2,a⟩:∃ n,j.2.length=n:=⟨_,rfl⟩;rw [o,a] at K;have ag:=kD o;have af:=kD a;have P1:=kD p1;have P3:=kD p3;have av:sb<wr.heap.size:=by have:=hw.size;omega
   clear aa ab p1 p3 o a;go_upto_region 7 with fail;refine wp_gen (λ g=>Below wr.heap.size wr g∧Fm w g v (.slice B1 l1 e1) (.slice B2 l2 e2) j∧RowB g wr.heap.size 150 [.int .i64 f,.int .i64 t,.int .i64 d,.bool hh]) ⟨(Below.refl _ _).alloc (Nat.le_refl _) _,K.below ((Below.refl _ _).alloc (Nat.le_refl _) _),RowB.new _ _ _⟩ ?_;rintro w4 ⟨an,K,rs⟩;have t0:=(an.cell al).trans t0;clear s0 s1 s2 s3;obtain⟨s0,s1,s2,s3⟩:=rs.c4;have ai:=rs.lt;obtain⟨B,z⟩:=K.k.rr.c2;have C:=K.k.rr.lt;have D:=K.k.rr.frozen;by_cases hd:d=d2
   rotate_left
   ·have y:R=none:=by
     rw [O.out,Y.out,Z.out];simp only [followP];rw [if_neg (λ h=>hd h.1)]
    subst y;have ak:(d != d2)=true:=by simpa using hd
    clear hd;go_wp2_with fail;go_quiet (fail);go_wp2_with fail;refine bp_gen (λ g=>Below w.heap.size w g∧RowB g (w.heap.size+2) 28 [.slice none 0 0,.slice none 0 0]) ⟨below_two (below_drewN K.k.bel nq) (by omega) _ _,two_ (K.k.rr.drewN nq) _ _⟩ ?_;rintro w8 ⟨q,W⟩;obtain⟨B,z⟩:=W.c2;refine bodyPost_ret (v:=.tuple #[.agg #[.slice none 0 0,.slice none 0 0],.bool false]) (by simp [results,Tryz.results94,go_sem,B,z]) rfl ?_;exact⟨_,rfl,⟨_,_,([],[]),rfl,BdR.nil _ _,λ _ h=>by cases h⟩,q⟩
   subst hd;obtain⟨x,hx⟩:∃ x,legal1 v j (f,t,d,hh)=x:=⟨_,rfl⟩;have CL:=legal_i v j P.out _ (.slice B1 l1 e1) (.slice B2 l2 e2) (f,t,d,hh) w4.drew ⟨(relV 1 enI).keep K.o1 (.below (Below.refl _ _).drew),(relV 1 enI).keep K.o2 (.below (Below.refl _ _).drew)⟩ x hx;have CL:=kD CL;simp only at CL;have HX:=kD hx;have ak:(d != d)=false:=by simp
   obtain⟨q0,q1,q2,q3⟩:=K.k.rv.c4;obtain⟨G,F⟩:=K.k.rb.c2;have ah:=K.k.rv.lt;have l:=K.k.rb.lt;clear hx;go_wp2_with fail;go_still_tail 11,(by kernel_rfl);go_wp2_with fail;refine CL.out.mono ?_;rintro e w5 ⟨rfl,J⟩;have J:Below w4.heap.size w4 w5:=(Below.refl w4.heap.size w4).drew.trans J;have K:=K.below J;have rs:=rs.below J ai;clear q0 q1 q2 q3 G F B z ah C D t0 CL l s0 s1 s2 s3;obtain⟨q0,q1,q2,q3⟩:=K.k.rv.c4;obtain⟨G,F⟩:=K.k.rb.c2;obtain⟨B,z⟩:=K.k.rr.c2;obtain⟨s0,s1,s2,s3⟩:=rs.c4;have C:=K.k.rr.lt;have D:=K.k.rr.frozen
   cases x
   case false =>
    have y:R=none:=by
     rw [O.out,Y.out,Z.out];simp only [followP];rw [if_neg (λ h=>by rw [HX.out] at h;exact absurd h.2 (by decide))]
    subst y;go_wp2_with fail;refine bp_gen (λ g=>Below w.heap.size w g∧RowB g (w.heap.size+2) 28 [.slice none 0 0,.slice none 0 0]) ⟨below_two (K.k.bel) (by omega) _ _,two_ (K.k.rr) _ _⟩ ?_;rintro w8 ⟨q,W⟩;obtain⟨B,z⟩:=W.c2;refine bodyPost_ret (v:=.tuple #[.agg #[.slice none 0 0,.slice none 0 0],.bool false]) (by simp [results,Tryz.results94,go_sem,B,z]) rfl ?_;exact⟨_,rfl,⟨_,_,([],[]),rfl,BdR.nil _ _,λ _ h=>by cases h⟩,q⟩
   have ae:Hid (R=followP v (afterP v j (f,t,d,hh)) (ds.drop (k+1)) (ss.drop (k+1))):=by
    show _=_
    rw [O.out,Y.out,Z.out];simp only [followP];rw [if_pos ⟨trivial,HX.out⟩]
   have V:=kD (legal1_ok P.out HX.out);obtain⟨⟨ar,ad,M,p1,p2⟩,⟨aq,ac,L,p3,p4⟩⟩:SlV 1 enI w5 _ _ j.1∧SlV 1 enI w5 _ _ j.2:=⟨K.o1,K.o2⟩;obtain⟨rfl,rfl⟩:ar=B1∧ad=e1:=by simp only [Value.slice.injEq] at M;exact⟨M.1.symm,M.2.2.symm⟩
   obtain⟨rfl,rfl⟩:aq=B2∧ac=e2:=by simp only [Value.slice.injEq] at L;exact⟨L.1.symm,L.2.2.symm⟩
   have CA:=kD (after_i v j P.out _ _ ad ac w5.heap.size (f,t,d,hh) (legal_stok P.out HX.out) w5 (Nat.le_refl _) p1.rd p3.rd p2 p4);rw [ag.out,af.out] at CA;simp only at CA;have l:=K.k.rb.lt;have aA:w.heap.size+3<=w5.heap.size:=by omega
   clear p1 p3 M L;go_wp2_with fail;refine CA.out.mono ?_;clear CA;rintro e w6 ⟨B3,e3,B4,e4,rfl,o3,o4,-,am⟩;have K:=K.below am;clear q0 q1 q2 q3 G F B z C D s0 s1 s2 s3;obtain⟨G,F⟩:=K.k.rb.c2;have l:=K.k.rb.lt;have X:=K.k.rb.frozen;obtain⟨b2,E⟩:∃ b2,afterP v j (f,t,d,hh)=b2:=⟨_,rfl⟩;rw [E] at o3 o4 ae V;rw [E];have T:=kD o3;have Q:=kD o4;clear o3 o4 E;go_upto_region 10 with fail;refine wp_gen (λ g=>Fm w g v (.slice B3 b2.1.length e3) (.slice B4 b2.2.length e4) b2) ⟨K.k.put _ _,sl_two T.out (by omega) (λ b hb=>by omega) _ _,sl_two Q.out (by omega) (λ b hb=>by omega) _ _⟩ ?_;clear K G F l X;intro w7 K;have aD:IntKind.i64.wrap ((k:Int)+1)=(k:Int)+1:=IntWalk.i64_in _ (by omega);go_wp2_with fail;go_roundw
   case rel=>exact⟨k+1,b2,_,_,by omega,by go_num,K,V,ae⟩
   case measure=>simp [intOf];omega
  ·obtain rfl:N=k:=by omega
   have y:R=some j:=by
    rw [O.out,show ss.drop N=[] from List.drop_eq_nil_of_le (by rw [HN.out];exact Nat.le_refl _)]
    cases ds.drop N <;> rfl
   subst y;obtain⟨l1,o⟩:∃ n,j.1.length=n:=⟨_,rfl⟩;obtain⟨l2,a⟩:∃ n,j.2.length=n:=⟨_,rfl⟩;rw [o,a] at K;have ag:=kD o;have af:=kD a;obtain⟨G,F⟩:=K.k.rb.c2;obtain⟨B,z⟩:=K.k.rr.c2;have l:=K.k.rb.lt;have C:=K.k.rr.lt;have D:=K.k.rr.frozen;clear o a p1 p3;go_wp2_with fail;refine bp_gen (λ g=>Below w.heap.size w g∧RowB g (w.heap.size+2) 28 [.slice B1 l1 e1,.slice B2 l2 e2]∧Hid (SlV 1 enI g (λ b=>(λ _=>False) b∨w.heap.size<=b) (.slice B1 l1 e1) j.1)∧Hid (SlV 1 enI g (λ b=>(λ _=>False) b∨w.heap.size<=b) (.slice B2 l2 e2) j.2)) ⟨below_two K.k.bel (by omega) _ _,two_ K.k.rr _ _,kD ?_,kD ?_⟩ ?_
   ·exact(relV 1 enI).weak (sl_two' K.o1 (by omega) _ _) (λ b hb _=>.inr (by omega))
   ·exact(relV 1 enI).weak (sl_two' K.o2 (by omega) _ _) (λ b hb _=>.inr (by omega))
   rintro w8 ⟨q,W,h1,h2⟩;obtain⟨B,z⟩:=W.c2;refine bodyPost_ret (v:=.tuple #[.agg #[.slice B1 l1 e1,.slice B2 l2 e2],.bool true]) (by simp [results,Tryz.results94,go_sem,B,z]) rfl ?_;exact⟨_,rfl,⟨_,_,j,rfl,⟨h1.out,h2.out⟩,λ _ h=>by simpa using h⟩,q⟩
end Gm
end Go.Proofs.YtmncnhbjifeoeaaGreat
