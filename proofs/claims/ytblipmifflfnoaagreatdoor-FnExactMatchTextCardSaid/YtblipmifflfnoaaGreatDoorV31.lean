/- Parts of the proof of FnExactMatchText. Conditions: each theorem's own. -/
import Derived.Test.YtblipmifflfnoaaGreatDoorV30
import Derived.Deep.CutBlock
set_option linter.unusedVariables false
set_option linter.unusedSimpArgs false
set_option maxHeartbeats 8000000
set_option maxRecDepth 100000
namespace Go.Proofs.YtblipmifflfnoaaGreatDoor
namespace TsI
open Go.ChangeShapes Go.WideShapes Go.ChangeAt Go.RowKit Base Ints Own JoinN PlP TxP Num Bd1 Bd5 RegF RegG TxI
structure RqF (w1:World) (x y:Int) (p7 p8:Prop) (v7:Value) (w':World):Prop where
 bel:Below w1.heap.size w1 w'
 f7:p7->∃ g,v7=.pointer (some ⟨g,0,none⟩)∧w1.heap.size<=g∧∃ a b,RowB w' g 48 [a,b]
 f8:p8->∃ g,v7=.pointer (some ⟨g,0,none⟩)∧w1.heap.size<=g∧RowB w' g 48 [.int .i64 x,.int .i64 y]
theorem RqF.skip {w1 w':World} {x y:Int} {L:Nat->Prop} {vals:Nat->Value} (F:RqF w1 x y (L 7) (L 8) (vals 7) w') (k:Nat) (z:Value) (h7:7≠k:=by decide) (h8:8≠k:=by decide):RqF w1 x y (7=k∨L 7) (8=k∨L 8) (upd vals k z 7) w':=by
 rw [or_ne h7,or_ne h8,upd_ne h7];exact F
theorem RqF.below {w1 w' w'':World} {x y:Int} {p7 p8:Prop} {v7:Value} (F:RqF w1 x y p7 p8 v7 w') (hb:Below w'.heap.size w' w''):RqF w1 x y p7 p8 v7 w'' :=
 ⟨F.bel.trans (hb.mono F.bel.size),λ h=>by obtain⟨g,h1,h2,a,b,h3⟩:=F.f7 h;exact⟨g,h1,h2,a,b,h3.below hb h3.lt⟩,λ h=>by obtain⟨g,h1,h2,h3⟩:=F.f8 h;exact⟨g,h1,h2,h3.below hb h3.lt⟩⟩
theorem RqF.s7 {w1 w':World} {x y:Int} {p7 p8:Prop} {v7:Value} (F:RqF w1 x y p7 p8 v7 w') (n8:¬ p8) {a b:Value}:RqF w1 x y True p8 (.pointer (some ⟨w'.heap.size,0,none⟩)) (w'.alloc (.cells #[a,b] 48)) :=
 ⟨F.bel.alloc F.bel.size _,λ _=>⟨_,rfl,F.bel.size,a,b,RowB.new _ _ _⟩,λ h=>absurd h n8⟩
structure SqF (w1:World) (ss:List Stp) (ok:Bool) (p3 p4 p5 p7:Prop) (v3 v4 v5 v7:Value) (w':World):Prop where
 bel:Below w1.heap.size w1 w'
 f3:p3->∃ sv,v3=.tuple #[sv,.bool ok]∧OwnS w' w1.heap.size w'.heap.size 135 4 enSt sv ss∧(p4->v4=v3)∧(p5->v5=sv)∧(p7->v7=sv)
theorem SqF.skip {w1 w':World} {ss:List Stp} {ok:Bool} {L:Nat->Prop} {vals:Nat->Value} (F:SqF w1 ss ok (L 3) (L 4) (L 5) (L 7) (vals 3) (vals 4) (vals 5) (vals 7) w') (k:Nat) (z:Value) (h3:3≠k:=by decide) (h4:4≠k:=by decide) (h5:5≠k:=by decide) (h7:7≠k:=by decide) :
  SqF w1 ss ok (3=k∨L 3) (4=k∨L 4) (5=k∨L 5) (7=k∨L 7) (upd vals k z 3) (upd vals k z 4) (upd vals k z 5) (upd vals k z 7) w':=by
 rw [or_ne h3,or_ne h4,or_ne h5,or_ne h7,upd_ne h3,upd_ne h4,upd_ne h5,upd_ne h7];exact F
theorem SqF.s5 {w1 w':World} {ss:List Stp} {ok:Bool} {p3 p4 p5 p7:Prop} {v3 v4 v5 v7 sv:Value} (F:SqF w1 ss ok p3 p4 p5 p7 v3 v4 v5 v7 w') (hv:v3=.tuple #[sv,.bool ok]):SqF w1 ss ok p3 p4 True p7 v3 v4 sv v7 w' :=
 ⟨F.bel,λ h=>by
  obtain⟨s2,a,b,c,d,e⟩:=F.f3 h;have:s2=sv:=by rw [hv] at a;simpa using a.symm
  subst this;exact⟨s2,a,b,c,λ _=>rfl,e⟩⟩
theorem SqF.s7 {w1 w':World} {ss:List Stp} {ok:Bool} {p3 p4 p5 p7:Prop} {v3 v4 v5 v7:Value} (F:SqF w1 ss ok p3 p4 p5 p7 v3 v4 v5 v7 w') (h5:p5):SqF w1 ss ok p3 p4 p5 True v3 v4 v5 v5 w' :=
 ⟨F.bel,λ h=>by
  obtain⟨sv,a,b,c,d,e⟩:=F.f3 h;exact⟨sv,a,b,c,d,λ _=>d h5⟩⟩
structure Bl (w wr:World) (v:Vr) (cs:List Value):Prop where
 bel:Below w.heap.size w wr
 rv:RowB wr w.heap.size 23 (vL v)
 re:RowB wr (w.heap.size+1) 56 [.int .i64 0,.int .i64 0,.int .i64 0,.slice none 0 0,.int .i64 0]
 rs:RowB wr (w.heap.size+2) 56 cs
theorem Bl.below {w wr w':World} {v:Vr} {cs:List Value} (k:Bl w wr v cs) (hb:Below wr.heap.size wr w'):Bl w w' v cs :=
 ⟨k.bel.trans (hb.mono k.bel.size),k.rv.below hb k.rv.lt,k.re.below hb k.re.lt,k.rs.below hb k.rs.lt⟩
def TrnOk (o:Option (Int × Int × List Stp)) (x y c:Int) (ss:List Stp):Prop :=
 match o with
 | some r=>r=(x,y,ss)∧c=0
 | none=>c≠0
structure TnF (w1:World) (o:Option (Int × Int × List Stp)) (p3 p4 p5 p6 p7 p8 p9 p10 p11:Prop) (v3 v4 v5 v6 v7 v8 v10 v11:Value) (w':World):Prop where
 bel:Below w1.heap.size w1 w'
 f3:p3->∃(x y:Int) (sv:Value) (c:Int) (ss:List Stp),v3=.tuple #[.agg #[.int .i64 x,.int .i64 y],sv,.int .i64 c]∧OwnS w' w1.heap.size w'.heap.size 135 4 enSt sv ss∧TrnOk o x y c ss
 f4:p4->v4=v3
 f5:p5->∀ X S C,v3=.tuple #[X,S,C]->v5=X
 f6:p6->∀ X S C,v3=.tuple #[X,S,C]->v6=S
 f7:p7->∀ X S C,v3=.tuple #[X,S,C]->v7=C
 f8:p8->∃ g,v8=.pointer (some ⟨g,0,none⟩)∧w1.heap.size<=g∧(∃ a b,RowB w' g 48 [a,b])∧(p3->∀ X S C,v3=.tuple #[X,S,C]->S.ownBlock≠some g)
 f9:p9->∀ x y S C g,v3=.tuple #[.agg #[x,y],S,C]->v8=.pointer (some ⟨g,0,none⟩)->RowB w' g 48 [x,y]
 f10:p10->v10=v6
 f11:p11->v11=v7
section
variable {w1 w' w'':World} {o:Option (Int × Int × List Stp)} {p3 p4 p5 p6 p7 p8 p9 p10 p11:Prop} {v3 v4 v5 v6 v7 v8 v10 v11:Value}
theorem TnF.skip {L:Nat->Prop} {vals:Nat->Value} (F:TnF w1 o (L 3) (L 4) (L 5) (L 6) (L 7) (L 8) (L 9) (L 10) (L 11) (vals 3) (vals 4) (vals 5) (vals 6) (vals 7) (vals 8) (vals 10) (vals 11) w') (k:Nat) (z:Value) (hk:k<3:=by decide) :
  TnF w1 o (3=k∨L 3) (4=k∨L 4) (5=k∨L 5) (6=k∨L 6) (7=k∨L 7) (8=k∨L 8) (9=k∨L 9) (10=k∨L 10) (11=k∨L 11) (upd vals k z 3) (upd vals k z 4) (upd vals k z 5) (upd vals k z 6) (upd vals k z 7) (upd vals k z 8) (upd vals k z 10) (upd vals k z 11) w':=by
 have h:3≠k:=by omega
 have g:4≠k:=by omega
 have f:5≠k:=by omega
 have e:6≠k:=by omega
 have d:7≠k:=by omega
 have c:8≠k:=by omega
 have i:9≠k:=by omega
 have b:10≠k:=by omega
 have a:11≠k:=by omega
 rw [or_ne h,or_ne g,or_ne f,or_ne e,or_ne d,or_ne c,or_ne i,or_ne b,or_ne a,upd_ne h,upd_ne g,upd_ne f,upd_ne e,upd_ne d,upd_ne c,upd_ne b,upd_ne a];exact F
theorem inj3 {X S C X' S' C':Value} (e:Value.tuple #[X,S,C]=.tuple #[X',S',C']):X=X'∧S=S'∧C=C':=by simpa using e
theorem TnF.s5 {X S C:Value} (F:TnF w1 o p3 p4 p5 p6 p7 p8 p9 p10 p11 v3 v4 v5 v6 v7 v8 v10 v11 w') (hv:v3=.tuple #[X,S,C]):TnF w1 o p3 p4 True p6 p7 p8 p9 p10 p11 v3 v4 X v6 v7 v8 v10 v11 w' :=
 ⟨F.bel,F.f3,F.f4,λ _ X' S' C' e=>(inj3 (hv.symm.trans e)).1,F.f6,F.f7,F.f8,F.f9,F.f10,F.f11⟩
theorem TnF.s7 {X S C:Value} (F:TnF w1 o p3 p4 p5 p6 p7 p8 p9 p10 p11 v3 v4 v5 v6 v7 v8 v10 v11 w') (hv:v3=.tuple #[X,S,C]) (n11:¬ p11):TnF w1 o p3 p4 p5 p6 True p8 p9 p10 p11 v3 v4 v5 v6 C v8 v10 v11 w' :=
 ⟨F.bel,F.f3,F.f4,F.f5,F.f6,λ _ X' S' C' e=>(inj3 (hv.symm.trans e)).2.2,F.f8,F.f9,F.f10,λ h=>absurd h n11⟩
end
end TsI
namespace Gm
open Go Go.ChangeShapes Go.WideShapes Go.ChangeAt Go.RowKit Base Ints Own RelG PlP TxP Num Bd1 Bd5 RegInv RegF RegG TxI TsI
theorem own_lo {α:Type} {w:World} {S:Nat->Prop} {lo sz:Nat} {e:TypeId} {en:α->List Value} {v:Value} {xs:List α} (h:OwnV e sz en w S v xs) (hS:∀ b,S b->lo<=b):OwnS w lo w.heap.size e sz en v xs:=by
 refine⟨⟨h.1.1.1,?_⟩,h.1.2⟩;rcases h.1.1.2 with h0 | ⟨g,cap,cur,rfl,-,rest⟩
 ·exact .inl h0
 ·exact .inr ⟨g,cap,cur,rfl,hS g (h.2 g rfl),rest⟩
structure Rs (w wr:World) (g8 g10:Nat) (v:Vr) (n:Int) (ev:Value) (es:List Ev) (su u1 u2:Value) (x:Ms):Prop where
 k:Rows w wr [(0,26,[.int .i64 0,.int .i64 0,.int .i64 0,.int .i64 0,.int .i64 0,.slice none 0 0])]
 r8:RowB wr g8 26 [.int .i64 v.p,.int .i64 v.c,.int .i64 v.h,.int .i64 v.s,.int .i64 n,.slice none 0 0]
 r10:RowB wr g10 52 (msC su u1 u2 x)
 ms:MsR wr (λ b=>NotIn ev (g8+1) b∧b≠g10) su u1 u2 x
 es:Evs wr (g10+1) ev es
 lo:w.heap.size<g8∧g8<g10
section
variable {w wr w':World} {g8 g10:Nat} {v:Vr} {n:Int} {ev:Value} {es:List Ev} {su u1 u2:Value} {x:Ms}
theorem Rs.below (K:Rs w wr g8 g10 v n ev es su u1 u2 x) (hb:Below wr.heap.size wr w'):Rs w w' g8 g10 v n ev es su u1 u2 x :=
 ⟨K.k.below hb,K.r8.below hb K.r8.lt,K.r10.below hb K.r10.lt,K.ms.below hb,K.es.below hb,K.lo⟩
end
end Gm
namespace Bd36
open Go.ChangeShapes Go.WideShapes Go.ChangeAt Go.RowKit Base Ints PlP Bd5
theorem rdSt_at {w:World} {B:Nat} {A:Option Addr} {xs:List Stp} (h:RdS w B 4 enSt A xs) {i:Nat} (hi:i<xs.length) :
  ∃ b off p q r s,A=some ⟨b,off,none⟩∧b<B∧xs[i]?=some (p,q,r,s)∧w.cell? ⟨b,off+i*4,none⟩=some (.int .i64 p)∧w.cell? ⟨b,off+i*4+1,none⟩=some (.int .i64 q)∧w.cell? ⟨b,off+i*4+2,none⟩=some (.int .i64 r)∧w.cell? ⟨b,off+i*4+3,none⟩=some (.bool s):=by
 obtain⟨b,off,⟨p,q,r,s⟩,e,d,c,a⟩:=h.at_ hi;exact⟨b,off,p,q,r,s,e,d,c,a 0 _ rfl,a 1 _ rfl,a 2 _ rfl,a 3 _ rfl⟩
theorem eq1 (p q r:Int) (s:Bool) (w:World) :
  Calls Tryz.prog 132 #[.agg #[.int .i64 p,.int .i64 q,.int .i64 r,.bool s],.agg #[.int .i64 p,.int .i64 q,.int .i64 r,.bool s]] w λ e w'=>e=.returned (.bool true)∧Below w.heap.size w w':=by
 have d:(p != p)=false:=by simp
 have c:(q != q)=false:=by simp
 have b:(r != r)=false:=by simp
 have a:(s != s)=false:=by simp
 go_enter Tryz.func132,Tryz.ntmps132;go_wp2;go_ret;exact⟨rfl,by go_grown⟩
theorem eqS (B1 B2:Nat) (A1 A2:Option Addr) (c1 c2:Nat) (xs:List Stp) (w:World) (h1:RdS w B1 4 enSt A1 xs) (h2:RdS w B2 4 enSt A2 xs) (hB1:B1<=w.heap.size) (hB2:B2<=w.heap.size) :
  Calls Tryz.prog 93 #[.slice A1 xs.length c1,.slice A2 xs.length c2] w λ e w'=>e=.returned (.bool true)∧Below w.heap.size w w':=by
 have V:=h1.len
 generalize hnn:xs.length=n at *
 have H:=kD hnn;clear hnn;go_enter Tryz.func93,Tryz.ntmps93;go_wp2;go_loopw [5] (λ i wr=>∃ k:Nat,k<=n∧i=.int .i64 k∧Below w.heap.size w wr) (λ i _=>n - (intOf i).toNat)
 case atStart=>exact⟨0,Nat.zero_le _,rfl,Below.refl _ _⟩
 case round =>
  obtain⟨k,W,rfl,c⟩:=hrel;by_cases hlt:k<n
  ·obtain⟨b,d,p,q,r,s,rfl,P,D,C,B,A,z⟩:=rdSt_at h1 (by rw [H.out];exact hlt);obtain⟨h,a,T,S,R,Q,rfl,o,l,y,x,v,t⟩:=rdSt_at h2 (by rw [H.out];exact hlt);rw [D] at l;simp only [Option.some.injEq,Prod.mk.injEq] at l;obtain⟨rfl,rfl,rfl,rfl⟩:=l;have O:=c.size;have g:b<wr.heap.size:=by omega
   have f:h<wr.heap.size:=by omega
   have M:=(c.cell (p:=⟨b,d+k*4,none⟩) (by show b<_;omega)).trans C;have L:=(c.cell (p:=⟨b,d+k*4+1,none⟩) (by show b<_;omega)).trans B;have K:=(c.cell (p:=⟨b,d+k*4+2,none⟩) (by show b<_;omega)).trans A;have J:=(c.cell (p:=⟨b,d+k*4+3,none⟩) (by show b<_;omega)).trans z;have I:=(c.cell (p:=⟨h,a+k*4,none⟩) (by show h<_;omega)).trans y;have G:=(c.cell (p:=⟨h,a+k*4+1,none⟩) (by show h<_;omega)).trans x;have F:=(c.cell (p:=⟨h,a+k*4+2,none⟩) (by show h<_;omega)).trans v;have E:=(c.cell (p:=⟨h,a+k*4+3,none⟩) (by show h<_;omega)).trans t;clear C B A z y x v t D P o;go_wp2;go_region_held3 (λ w'=>w'.cell? ⟨b,d+k*4,none⟩=some (.int .i64 p)∧w'.cell? ⟨b,d+k*4+1,none⟩=some (.int .i64 q)∧w'.cell? ⟨b,d+k*4+2,none⟩=some (.int .i64 r)∧w'.cell? ⟨b,d+k*4+3,none⟩=some (.bool s)∧w'.cell? ⟨h,a+k*4,none⟩=some (.int .i64 p)∧w'.cell? ⟨h,a+k*4+1,none⟩=some (.int .i64 q)∧w'.cell? ⟨h,a+k*4+2,none⟩=some (.int .i64 r)∧w'.cell? ⟨h,a+k*4+3,none⟩=some (.bool s)) ((first | exact⟨M,L,K,J,I,G,F,E⟩ | exact⟨(j.cell (by first | exact g | exact f)).trans M,(j.cell (by first | exact g | exact f)).trans L,(j.cell (by first | exact g | exact f)).trans K,(j.cell (by first | exact g | exact f)).trans J,(j.cell (by first | exact g | exact f)).trans I,(j.cell (by first | exact g | exact f)).trans G,(j.cell (by first | exact g | exact f)).trans F,(j.cell (by first | exact g | exact f)).trans E⟩)) (first | (go_at_call 132;refine(eq1 p q r s _).mono ?_;rintro e N ⟨rfl,m⟩;have j:Below wr.heap.size wr N:=Below.then_ (by go_grown) m (by go_size)));go_wp2;go_roundw
   case rel=>exact⟨k+1,by omega,by go_num,c.trans (j.mono O)⟩
   case measure=>simp [intOf];omega
  ·go_wp2;go_ret;exact⟨rfl,c⟩
end Bd36
namespace TsI
open Go.ChangeShapes Go.WideShapes Go.ChangeAt Go.RowKit Base Ints Own JoinN PlP TxP Num Bd1 Bd5 RegF RegG TxI Bd36
theorem eqE (k a b r:Int) (A1 A2:Option Addr) (c1 c2 B1 B2:Nat) (n:Nat) (xs:List Stp) (w:World) (hn:xs.length=n) (hB1:B1<=w.heap.size) (hB2:B2<=w.heap.size) (h1:RdS w B1 4 enSt A1 xs) (h2:RdS w B2 4 enSt A2 xs) :
  Calls Tryz.prog 58 #[.agg #[.int .i64 k,.int .i64 a,.int .i64 b,.slice A1 n c1,.int .i64 r],.agg #[.int .i64 k,.int .i64 a,.int .i64 b,.slice A2 n c2,.int .i64 r]] w λ e w'=>e=.returned (.bool true)∧Below w.heap.size w w':=by
 have A:=kD (λ(z:World) (h:Below w.heap.size w z)=>eqS B1 B2 A1 A2 c1 c2 xs z (h1.below h hB1) (h2.below h hB2) (Nat.le_trans hB1 h.size) (Nat.le_trans hB2 h.size));rw [hn] at A;have E:(k != k)=false:=by simp
 have G:(a != a)=false:=by simp
 have F:(b != b)=false:=by simp
 have D:(r != r)=false:=by simp
 clear hn h1 h2;go_enter Tryz.func58,Tryz.ntmps58;go_upto_region 1 with fail;refine wp_gen (λ j=>Below w.heap.size w j∧RowB j w.heap.size 56 [.int .i64 k,.int .i64 a,.int .i64 b,.slice A1 n c1,.int .i64 r]∧RowB j (w.heap.size+1) 56 [.int .i64 k,.int .i64 a,.int .i64 b,.slice A2 n c2,.int .i64 r]) ⟨by go_grown,(RowB.new _ _ _).alloc _,RowB.new' _ _ _ (by simp)⟩ ?_;rintro C ⟨d,g,f⟩;obtain⟨y,x,v,t,s⟩:=g.c5;obtain⟨q,p,o,m,l⟩:=f.c5;go_wp2_with fail;refine(A.out _ d).mono ?_;rintro e B ⟨rfl,c⟩;have i:=d.trans (c.mono d.size);have g:=g.below c g.lt;have f:=f.below c f.lt;clear y x v t s q p o m l;obtain⟨y,x,v,t,s⟩:=g.c5;obtain⟨q,p,o,m,l⟩:=f.c5;go_wp2_with fail;go_ret;exact⟨rfl,i⟩
end TsI
namespace Gm
open Go Go.ChangeShapes Go.WideShapes Go.ChangeAt Go.RowKit Base Ints Own RelG PlP TxP Num Bd1 Bd5 RegInv RegF RegG TxI TsI Bd36
theorem Evs.at {w:World} {lo:Nat} {ev:Value} {es:List Ev} (h:Evs w lo ev es) {j:Nat} {e:Ev} (hj:es[j]?=some e) :
  ∃ g cap A c,ev=.slice (some ⟨g,0,none⟩) es.length cap∧lo<=g∧g<w.heap.size ∧
   w.cell? ⟨g,j*5,none⟩=some (.int .i64 e.k)∧w.cell? ⟨g,j*5+1,none⟩=some (.int .i64 e.a)∧w.cell? ⟨g,j*5+2,none⟩=some (.int .i64 e.b)∧w.cell? ⟨g,j*5+3,none⟩=some (.slice A e.ss.length c)∧w.cell? ⟨g,j*5+4,none⟩=some (.int .i64 e.r) ∧
   (∀ i,w.frozen? ⟨g,i,none⟩=false)∧OwnS w lo w.heap.size 135 4 enSt (.slice A e.ss.length c) e.ss∧(Value.slice A e.ss.length c).ownBlock≠some g:=by
 obtain⟨s,C,z,H⟩:=h;have v:=(List.getElem?_eq_some_iff.1 hj).1;have p:j<s.length:=by rw [z.1];exact v
 obtain⟨x,B,q⟩:=z.at_ (List.getElem?_eq_getElem p);rw [hj] at B;obtain rfl:=Option.some.inj B;rcases C.cases_ with ⟨_,e0⟩ | ⟨g,cap,rest,rfl,hlo,hhi,hrow,_⟩
 ·rw [e0] at p;simp at p
 obtain⟨A,c,m,-⟩:=q.2.1.form enSt_len;have l:=own_lo q.2 (lo:=lo) (λ b y=>y.2);have n:(s[j]).2.2.2.1.ownBlock≠some g:=λ e=>(q.2.2 g e).1 rfl
 rw [m] at l n;have d:∀ f u,(enEv s[j])[f]?=some u->w.cell? ⟨g,j*5+f,none⟩=some u:=λ f u D=>by
  obtain⟨b,o,e,_,F⟩:=(C.rd enEv_len).2 (by omega);simp only [Option.some.injEq,Addr.mk.injEq,and_true] at e;obtain⟨rfl,rfl⟩:=e;have:=F j _ (List.getElem?_eq_getElem p) f u D
  rwa [Nat.zero_add] at this
 obtain⟨E,G,y,t⟩:=q.1;refine⟨g,cap,A,c,by rw [z.1],hlo,hhi,?_,?_,?_,?_,?_,hrow.frozen,l,n⟩
 ·rw [<-E];exact d 0 _ rfl
 ·rw [<-G];exact d 1 _ rfl
 ·rw [<-y];exact d 2 _ rfl
 ·rw [<-m];exact d 3 _ rfl
 ·rw [<-t];exact d 4 _ rfl
theorem below_ofGrown {lo:Nat} {w w':World} {row:Option Nat} (hg:w.grownBy w' row) (hlo:lo<=w.heap.size) (hr:∀ k,row=some k->lo<=k):Below lo w w' :=
 ⟨hg.os,hg.tape,hg.output,hg.size,λ i hi=>hg.block i (by omega) (λ e=>by have:=hr i e.symm;omega)⟩
structure BF (lo:Nat) (w w':World):Prop where
 bel:Below lo w w'
 fr:∀ b t cs,RowB w b t cs->t≠56->t≠135->RowB w' b t cs
theorem BF.refl (lo:Nat) (w:World):BF lo w w:=⟨Below.refl _ _,λ _ _ _ h _ _=>h⟩
theorem rowb_ty {w:World} {g:Nat} {t t':TypeId} {cs cs':List Value} (h:RowB w g t cs) (h':RowB w g t' cs'):t=t':=by
 have:=h.symm.trans h';simp only [Option.some.injEq,Obj.cells.injEq] at this;exact this.2.1
theorem BF.own {lo hi:Nat} {w wr w2:World} {sv:Value} {xs:List Stp} (h:BF lo w wr) (hlo:lo<=wr.heap.size) (ho:OwnS wr lo hi 135 4 enSt sv xs) (hg:wr.grownBy w2 sv.ownBlock):BF lo w w2:=by
 refine⟨h.bel.trans (below_ofGrown hg hlo (λ k a=>(ho.block k a).1)),λ b t j f i d=>?_⟩;have c:=h.fr b t j f i d;refine c.grown hg (λ k a e=>?_);subst e;rcases ho.cases_ with ⟨e0,_⟩ | ⟨g,cap,rest,e0,_,_,r,_⟩
 ·rw [e0] at a;simp [Value.ownBlock] at a
 ·rw [e0] at a;simp only [Value.ownBlock,Option.some.injEq] at a;subst a;exact d (rowb_ty c r)
theorem eqEs (lo1 lo2:Nat) (ev1 ev2:Value) (es:List Ev) (w:World) (h1:Evs w lo1 ev1 es) (h2:Evs w lo2 ev2 es) :
  Calls Tryz.prog 25 #[ev1,ev2] w λ e w'=>e=.returned (.bool true)∧Below w.heap.size w w':=by
 obtain⟨A,c,l⟩:=h1.form;obtain⟨A',c',d⟩:=h2.form;obtain⟨N,z⟩:∃ N,es.length=N:=⟨_,rfl⟩;have ac:N<=9223372036854775807:=by
  obtain⟨rs,W,V,-⟩:=h1;obtain⟨_,_,_,Z⟩:=W.form enEv_len;have:=Z.len;rw [V.1,z] at this;exact this
 rw [z] at l d;subst l d;have H1:=kD h1;have H2:=kD h2;have S:=kD z;clear h1 h2 z;go_enter Tryz.func25,Tryz.ntmps25;go_wp2_with fail;go_loopw [4,5] (λ _ i wr=>∃(j:Nat),j<=N∧i=.int .i64 (j:Int)∧Hid (Below w.heap.size w wr)) (λ _ i _=>N - (intOf i).toNat)
 case atStart=>exact⟨0,Nat.zero_le _,rfl,kD (Below.refl _ _)⟩
 case round =>
  obtain⟨j,hj,rfl,p⟩:=hrel;by_cases hlt:j<N
  ·obtain⟨e,D⟩:∃ e,es[j]?=some e:=⟨_,List.getElem?_eq_getElem (by rw [S.out];exact hlt)⟩;obtain⟨g,ad,As,cs,l,ab,aa,R,Q,P,G,O,C,m,-⟩:=(H1.out.below p.out).at D;obtain⟨g',M,H,F,d,L,K,y,x,v,q,t,s,h,-⟩:=(H2.out.below p.out).at D;rw [S.out] at l d;simp only [Value.slice.injEq,true_and] at l d;obtain⟨rfl,rfl⟩:=l;obtain⟨rfl,rfl⟩:=d;obtain⟨k,a,b,J,r⟩:=e;simp only at R Q P G O m y x v q t h;obtain⟨n,B⟩:∃ n,J.length=n:=⟨_,rfl⟩;rw [B] at G m q h;have T:=kD (λ(I:World) (o:Below wr.heap.size wr I)=>eqE k a b r As H cs F wr.heap.size wr.heap.size n J I B o.size o.size ((OwnS.rd enSt_len m).below o (Nat.le_refl _)) ((OwnS.rd enSt_len h).below o (Nat.le_refl _)));have X:IntKind.i64.wrap ((j:Int)+1)=(j:Int)+1:=IntWalk.i64_in _ (by omega);have Y:=p.out.size;clear m h C s D B;go_wp2_with fail;go_still_tail 8,(by kernel_rfl);go_wp2_with fail;refine(T.out _ (Below.refl _ _).drew).mono ?_;rintro f w2 ⟨rfl,o⟩;have E:=kD (p.out.drew.trans (o.mono p.out.drew.size));clear R Q P G O y x v q t o T p;go_wp2_with fail;go_roundw
   case rel=>exact⟨j+1,by omega,by go_num,E⟩
   case measure=>simp [intOf];omega
  ·go_wp2_with fail;go_ret;exact⟨rfl,p.out⟩
theorem eqVr (p c h s:Int) (w:World):Calls Tryz.prog 24 #[.agg #[.int .i64 p,.int .i64 c,.int .i64 h,.int .i64 s],.agg #[.int .i64 p,.int .i64 c,.int .i64 h,.int .i64 s]] w λ e w'=>e=.returned (.bool true)∧Below w.heap.size w w':=by
 have b:(p != p)=false:=by simp
 have f:(c != c)=false:=by simp
 have d:(h != h)=false:=by simp
 have a:(s != s)=false:=by simp
 go_enter Tryz.func24,Tryz.ntmps24;go_wp2_with fail;go_ret;exact⟨rfl,by go_grown⟩
def mC (v:Vr) (n:Int) (ev:Value):List Value:=[.int .i64 v.p,.int .i64 v.c,.int .i64 v.h,.int .i64 v.s,.int .i64 n,ev]
theorem eqM (v:Vr) (n:Int) (lo1 lo2:Nat) (A1 A2:Option Addr) (n1 n2 c1 c2:Nat) (es:List Ev) (w:World) (h1:Evs w lo1 (.slice A1 n1 c1) es) (h2:Evs w lo2 (.slice A2 n2 c2) es) :
  Calls Tryz.prog 7 #[.agg ⟨mC v n (.slice A1 n1 c1)⟩,.agg ⟨mC v n (.slice A2 n2 c2)⟩] w λ e w'=>e=.returned (.bool true)∧Below w.heap.size w w':=by
 have C:=kD (λ(g:World) (a:Below w.heap.size w g)=>eqEs lo1 lo2 _ _ es g (h1.below a) (h2.below a));have B:=kD (λ(g:World)=>eqVr v.p v.c v.h v.s g);have D:(n != n)=false:=by simp
 clear h1 h2;simp only [mC];go_enter Tryz.func7,Tryz.ntmps7;go_upto_region 1 with fail;refine wp_gen (λ E=>Rows w E [(0,26,mC v n (.slice A1 n1 c1)),(1,26,mC v n (.slice A2 n2 c2))]) ⟨by go_grown,λ p A=>?_⟩ ?_
 ·simp only [List.mem_cons,List.not_mem_nil,or_false] at A;rcases A with rfl | rfl
  ·exact(RowB.new _ _ _).alloc _
  ·exact RowB.new' _ _ _ (by simp)
 intro H K;obtain⟨z,y,x,t,r,q⟩:=(K.nth0 0 rfl).c6;obtain⟨o,m,l,k,j,i⟩:=(K.nth 1 rfl).c6;have d:=(K.nth0 0 rfl).lt;have b:=(K.nth 1 rfl).lt;go_wp2_with fail;refine(B.out _).mono ?_;rintro f G ⟨rfl,a⟩;have K:=K.below a;clear z y x t r q o m l k j i d b a B;obtain⟨z,y,x,t,r,q⟩:=(K.nth0 0 rfl).c6;obtain⟨o,m,l,k,j,i⟩:=(K.nth 1 rfl).c6;have d:=(K.nth0 0 rfl).lt;have b:=(K.nth 1 rfl).lt;go_wp2_with fail;refine(C.out _ K.bel).mono ?_;rintro f F ⟨rfl,a⟩;have K:=K.below a;clear z y x t r q o m l k j i d b a C;go_wp2_with fail;go_ret;exact⟨rfl,K.bel⟩
open Bd8
theorem setL_skip (q:List Value):∀(vs cs:List Value) (o:Nat),setL (q++cs) (q.length+o) vs=q++setL cs o vs
 | [],cs,o=>rfl
 | v :: vs,cs,o=>by
  simp only [setL];rw [List.set_append_right _ _ (by omega),show q.length+o - q.length=o by omega,Nat.add_assoc,setL_skip q vs]
theorem setL_app0:∀(vs a r:List Value),a.length=vs.length->setL (a++r) 0 vs=vs++r
 | [],a,r,h=>by
  obtain rfl:=List.eq_nil_of_length_eq_zero h
  rfl
 | v :: vs,[],r,h=>by simp at h
 | v :: vs,x :: a,r,h=>by
  have ih:=setL_app0 vs a r (by simpa using h);simp only [List.cons_append,setL,List.set_cons_zero,Nat.zero_add];have hs:=setL_skip [v] vs (a++r) 0;simp only [List.cons_append,List.nil_append,List.length_cons,List.length_nil,Nat.zero_add,Nat.add_zero] at hs;rw [hs,ih]
theorem flat_setL {α:Type} {en:α->List Value} {sz:Nat} (hen:∀ x,(en x).length=sz) (rest:List Value) (y:α):∀(xs:List α) (j:Nat),j<xs.length->setL (xs.flatMap en++rest) (j*sz) (en y)=(xs.set j y).flatMap en++rest
 | [],j,h=>by simp at h
 | x :: xs,0,h=>by
  simp only [List.flatMap_cons,List.append_assoc,List.set_cons_zero,Nat.zero_mul];exact setL_app0 _ _ _ (by rw [hen,hen])
 | x :: xs,j+1,h=>by
  simp only [List.flatMap_cons,List.append_assoc,List.set_cons_succ];have ih:=flat_setL hen rest y xs j (by simpa using h);rw [show (j+1)*sz=(en x).length+j*sz by rw [hen,Nat.add_mul,Nat.one_mul,Nat.add_comm],setL_skip,ih]
theorem own_setRow {α:Type} {w:World} {lo hi sz:Nat} {e:TypeId} {en:α->List Value} {g m cap:Nat} {xs:List α} (hen:∀ x,(en x).length=sz) (h:OwnS w lo hi e sz en (.slice (some ⟨g,0,none⟩) m cap) xs) {j:Nat} (hj:j<xs.length) :
  ∃ old,RowB w g e old∧j*sz+sz<=old.length∧∀(y:α) w',RowB w' g e (setL old (j*sz) (en y))->OwnS w' lo hi e sz en (.slice (some ⟨g,0,none⟩) m cap) (xs.set j y):=by
 rcases h.cases_ with ⟨e0,_⟩ | ⟨g',cap',rest,e0,hlo,hhi,hR0,hnc,hcm,hl⟩
 ·simp at e0
 simp only [Value.slice.injEq,Option.some.injEq,Addr.mk.injEq,and_true,true_and] at e0;obtain⟨rfl,b,rfl⟩:=e0;refine⟨_,hR0,?_,λ y w' a=>?_⟩
 ·rw [List.length_append,flatMap_len hen];have:(j+1)*sz<=xs.length*sz:=Nat.mul_le_mul_right _ hj;rw [Nat.add_mul,Nat.one_mul] at this;omega
 ·rw [flat_setL hen rest y xs j hj] at a;have:=OwnS.mk_ (lo:=lo) (hi:=hi) (cap:=cap) hen a hlo hhi (by rw [List.length_set];exact hnc) hcm (by rw [List.length_set];exact hl);rw [List.length_set,<-b] at this;exact this
theorem made_rows {α:Type} {en:α->List Value} {sz:Nat} (y:α) (z:Array Value) (hz:z.toList=en y) (hs:(en y).length=sz) (h0:0<sz) (n:Nat):(madeCells z (n*sz)).toList=(List.replicate n y).flatMap en:=by
 unfold madeCells;rw [Array.toList_map];refine List.ext_getElem? λ i=>?_
 have a:z.size=sz:=by rw [<-hs,<-hz];simp
 have b:((List.replicate n y).flatMap en).length=n*sz:=by rw [List.length_flatMap];simp [hs]
 by_cases hi:i<n*sz
 ·have e:i / sz<n:=Nat.div_lt_of_lt_mul (by rw [Nat.mul_comm];exact hi);have d:((List.replicate n y).flatMap en)[i]?=(en y)[i % sz]?:=by
   clear b
   induction n generalizing i with
   | zero=>omega
   | succ n ih =>
    rw [List.replicate_succ,List.flatMap_cons];by_cases hlt:i<sz
    ·rw [List.getElem?_append_left (by rw [hs];exact hlt),Nat.mod_eq_of_lt hlt]
    ·rw [List.getElem?_append_right (by rw [hs];omega),hs,ih (i - sz) (by rw [Nat.add_mul] at hi;omega) (Nat.div_lt_of_lt_mul (by rw [Nat.mul_comm];rw [Nat.add_mul] at hi;omega)),<-Nat.mod_eq_sub_mod (by omega)]
  rw [d];have c:i % sz<z.size:=by rw [a];exact Nat.mod_lt _ h0
  rw [<-hz];simp only [a,Array.getElem?_toList,Array.getElem?_eq_getElem c];simp [hi,c,a,Array.getD_eq_getD_getElem?,getElem!_def,Array.getElem?_eq_getElem c]
 ·rw [List.getElem?_eq_none (by simp;omega),List.getElem?_eq_none (by rw [b];omega)]
theorem fill_set {α:Type} (xs:List α) (z y:α) (n k:Nat) (hk:xs[k]?=some y) (hn:k<n):(xs.take k++List.replicate (n - k) z).set k y=xs.take (k+1)++List.replicate (n - (k+1)) z:=by
 have a:(xs.take k).length=k:=by rw [List.length_take];have:=(List.getElem?_eq_some_iff.1 hk).1;omega
 rw [List.set_append_right _ _ (by omega),a,Nat.sub_self,show n - k=(n - (k+1))+1 by omega,List.replicate_succ,List.set_cons_zero,take_succ xs k y hk];simp
theorem infoSt:(Tryz.prog.info? 135).map (λ i=>(i.zero,i.size,i.bytes))=some (some (.agg #[.int .i64 0,.int .i64 0,.int .i64 0,.bool false]),4,32):=by kernel_rfl
def zSt:Stp:=(0,0,0,false)
theorem toSt (p q r:Int) (s:Bool) (w:World):Calls Tryz.prog 133 #[.agg #[.int .i64 p,.int .i64 q,.int .i64 r,.bool s]] w λ e w'=>e=.returned (.agg #[.int .i64 p,.int .i64 q,.int .i64 r,.bool s])∧Below w.heap.size w w':=by
 go_enter Tryz.func133,Tryz.ntmps133;go_wp2_with fail;go_returns;exact⟨rfl,by go_grown⟩
theorem toSts (B:Nat) (A:Option Addr) (c:Nat) (xs:List Stp) (w:World) (hB:B<=w.heap.size) (hn:xs.length<=1048576) (hr:RdS w B 4 enSt A xs) :
  Calls Tryz.prog 95 #[.slice A xs.length c] w λ e w'=>∃ A',e=.returned (.slice A' xs.length xs.length)∧Below w.heap.size w w'∧OwnS w' w.heap.size w'.heap.size 135 4 enSt (.slice A' xs.length xs.length) xs:=by
 obtain⟨i0,hi,R,Q,P⟩:=info_parts infoSt;obtain⟨n,G⟩:∃ n,xs.length=n:=⟨_,rfl⟩;rw [G] at hn ⊢;have H:=kD G;clear G;go_enter Tryz.func95,Tryz.ntmps95;go_wp2_with (at_make;refine wpList_make_full _ rfl _ _ _ rfl w.heap.size 135 i0 _ 4 Tryz.underlying54 hi R Q _ _ _ _ n rfl rfl rfl rfl ?c1 ?c2 (Nat.le_refl _) ?_)
 case c1=>rw [P];omega
 case c2=>unfold maxLen;omega
 intro O v f;have a:=RowB.of_own v;have a:RowB O w.heap.size 135 ((List.replicate n zSt).flatMap enSt):=by rw [<-made_rows (en:=enSt) zSt #[.int .i64 0,.int .i64 0,.int .i64 0,.bool false] rfl rfl (by decide) n];exact a
 have z:Below w.heap.size w O:=(Below.refl _ _).grown f (Nat.le_refl _) (by simp);have F:=RowB.own (lo:=w.heap.size) (hi:=O.heap.size) (xs:=List.replicate n zSt) a enSt_len (Nat.le_refl _) a.lt (by rw [List.length_replicate];unfold maxLen;omega);rw [List.length_replicate] at F;obtain⟨g,W⟩:∃ g,w.heap.size=g:=⟨_,rfl⟩;rw [W] at F z a ⊢;have L:=kD W;have D:=kD F;have h:=a.lt;clear v f a F;go_wp2_with fail;go_loopw [4] (λ i wr=>∃ k:Nat,k<=n∧i=.int .i64 k∧Below g w wr∧g<wr.heap.size∧Hid (OwnS wr g wr.heap.size 135 4 enSt (.slice (some ⟨g,0,none⟩) n n) (xs.take k++List.replicate (n - k) zSt))) (λ i _=>n - (intOf i).toNat)
 case atStart=>exact⟨0,Nat.zero_le _,rfl,z,h,D⟩
 case round =>
  obtain⟨k,hk,rfl,d,h,D⟩:=hrel;by_cases hlt:k<n
  ·obtain⟨b,m,p,q,r,s,rfl,hb,V,Z,c1,c2,Y⟩:=rdSt_at hr (i:=k) (by rw [H.out];exact hlt);have o:b<g:=by have:=L.out;omega
   have d0:=(d.cell (p:=⟨b,m+k*4,none⟩) o).trans Z;have d1:=(d.cell (p:=⟨b,m+k*4+1,none⟩) o).trans c1;have d2:=(d.cell (p:=⟨b,m+k*4+2,none⟩) o).trans c2;have d3:=(d.cell (p:=⟨b,m+k*4+3,none⟩) o).trans Y;have ab:IntKind.i64.wrap ((k:Int)+1)=(k:Int)+1:=IntWalk.i64_in _ (by omega);have HX:=kD V;clear Z c1 c2 Y V hb;go_wp2_with fail;refine(toSt p q r s _).mono ?_;rintro e w2 ⟨rfl,l⟩;have C:=d.trans (l.mono (Nat.le_of_lt h));have I:=(D.out.below l (Nat.le_refl _)).more l.size;have y:g<w2.heap.size:=Nat.lt_of_lt_of_le h l.size;obtain⟨aa,T,x,t⟩:=own_setRow enSt_len I (j:=k) (by rw [List.length_append,List.length_take,List.length_replicate,H.out];omega);have HS:=kD t;clear d0 d1 d2 d3 d h l I t D;go_wp2_with (refine wpL_sm 135 _ _ rfl g (k*4) [.int .i64 p,.int .i64 q,.int .i64 r,.bool s] _ _ rfl rfl 135 T (by kernel_rfl) x rfl rfl ?_;intro N S X M);have E:=HS.out (p,q,r,s) N S;rw [fill_set xs zSt (p,q,r,s) n k HX.out hlt,<-M] at E;have K:Below g w N:=C.grown X (by have:=L.out;omega) (λ j hj=>by simp at hj;omega);have J:g<N.heap.size:=by rw [M];exact y
   have D:=kD E;clear S X M E T x HS C y;go_wp2_with fail;go_roundw
   case rel=>exact⟨k+1,by omega,by first | rfl | go_num,K,J,D⟩
   case measure=>simp [intOf];omega
  ·obtain rfl:n=k:=by omega
   have F:=D.out;rw [List.take_of_length_le (by rw [H.out];exact Nat.le_refl _),Nat.sub_self,List.replicate_zero,List.append_nil] at F;clear D;go_wp2_with fail;go_ret;exact⟨_,rfl,by rw [L.out];exact d,by rw [L.out];exact F⟩
theorem szSts (A:Option Addr) (n c:Nat) (left:Int) (w:World) (hn:n<=9223372036854775807) (h0:0<=left) (h1:left<=1048576) :
  Calls Tryz.prog 94 #[.slice A n c,.int .i64 left] w λ e w'=>e=.returned (.int .i64 (if left<n then -1 else left - n))∧w=w':=by
 by_cases h:left<n
 ·rw [if_pos h];go_enter Tryz.func94,Tryz.ntmps94;go_wp2;go_ret;exact⟨rfl,rfl⟩
 ·rw [if_neg h];go_enter Tryz.func94,Tryz.ntmps94;go_wp2;go_ret;exact⟨rfl,rfl⟩
theorem toVr (p c h s:Int) (w:World):Calls Tryz.prog 31 #[.agg #[.int .i64 p,.int .i64 c,.int .i64 h,.int .i64 s]] w λ e w'=>e=.returned (.agg #[.int .i64 p,.int .i64 c,.int .i64 h,.int .i64 s])∧Below w.heap.size w w':=by
 go_enter Tryz.func31,Tryz.ntmps31;go_wp2_with fail;go_returns;exact⟨rfl,by go_grown⟩
theorem szEv (k a b r:Int) (A:Option Addr) (n c:Nat) (left:Int) (w:World) (hn:n<=9223372036854775807) (h0:0<=left) (h1:left<=1048576) :
  Calls Tryz.prog 61 #[.agg #[.int .i64 k,.int .i64 a,.int .i64 b,.slice A n c,.int .i64 r],.int .i64 left] w λ e w'=>e=.returned (.int .i64 (if left<n then -1 else left - n))∧Below w.heap.size w w':=by
 have g:=kD (λ(i:World)=>szSts A n c left i hn h0 h1);obtain⟨q,f⟩:∃ q,(if left<n then -1 else left - n)=q:=⟨_,rfl⟩;rw [f] at g ⊢;have d:q=-1∨0<=q:=by rw [<-f];split <;> omega
 clear f;go_enter Tryz.func61,Tryz.ntmps61;go_upto_region 1 with fail;refine wp_gen (λ y=>Rows w y [(0,104,[.int .i64 k,.int .i64 a,.int .i64 b,.slice A n c,.int .i64 r])]) ⟨by go_grown,λ p v=>?_⟩ ?_
 ·obtain rfl:=List.mem_singleton.1 v;exact RowB.new _ _ _
 intro B K;obtain⟨s,o,m,l,j⟩:=(K.nth0 0 rfl).c5;have x:=(K.nth0 0 rfl).lt;go_wp2_with fail;refine(g.out _).mono ?_;rintro e z ⟨rfl,rfl⟩;have h:=K.bel;clear K s o m l j x g;rcases d with rfl | d
 ·go_wp2_with fail;go_ret;exact⟨rfl,h⟩
 ·have t:¬ q<0:=by omega
  go_wp2_with fail;go_ret;exact⟨rfl,h⟩
theorem szEvs (Ae:Option Addr) (ce:Nat) (es:List Ev) (left:Int) (w:World) (hes:EvL w All Ae es) (h0:0<=left) (h1:left<=1048576) :
  Calls Tryz.prog 28 #[.slice Ae es.length ce,.int .i64 left] w λ e w'=>∃ q:Int,e=.returned (.int .i64 q)∧Below w.heap.size w w'∧(0<=q->es.length<=1048576∧∀ e ∈ es,e.ss.length<=1048576):=by
 have s:=hes.len;have C:=kD (λ(n:World) (Q:Below w.heap.size w n)=>hes.keep (.below Q));obtain⟨M,v⟩:∃ M,es.length=M:=⟨_,rfl⟩;rw [v] at s ⊢;have J:=kD v;clear hes v;by_cases hlm:left<M
 ·have r:IntKind.i64.wrap (left - (M:Int))=left - (M:Int):=IntWalk.i64_in _ (by omega);have p:left - (M:Int)<0:=by omega
  go_enter Tryz.func28,Tryz.ntmps28;go_wp2_with fail;go_ret;exact⟨_,rfl,by go_grown,λ h=>absurd h (by decide)⟩
 have r:IntKind.i64.wrap (left - (M:Int))=left - (M:Int):=IntWalk.i64_in _ (by omega);have p:¬ left - (M:Int)<0:=by omega
 have t:M<=1048576:=by omega
 go_enter Tryz.func28,Tryz.ntmps28;go_wp2_with fail;go_loopw [1,4,5] (λ N _ o wr=>∃(k:Nat) (L:Int),k<=M∧o=.int .i64 (k:Int)∧N=.int .i64 L∧0<=L∧L<=1048576∧Hid (Below w.heap.size w wr)∧Hid (∀ e ∈ es.take k,e.ss.length<=1048576)) (λ _ _ o _=>M - (intOf o).toNat)
 case atStart=>exact⟨0,left - (M:Int),Nat.zero_le _,by first | rfl | trivial,by first | rfl | trivial,by omega,by omega,kD (Below.refl _ _),kD (λ e h=>by simp at h)⟩
 case round =>
  obtain⟨k,L,hk,rfl,rfl,y,x,c,I⟩:=hrel;by_cases hlt:k<M
  ·obtain⟨ba,Z,e,X,W,rfl,f,P,d,H,G,F,z,l⟩:=(C.out wr c.out).at_ (i:=k) (by rw [J.out];exact hlt);have a:=d.len;have D:=kD f;obtain⟨S,V,T,E,R⟩:=e;simp only at H G F z l a;obtain⟨m,b⟩:∃ q,E.length=q:=⟨_,rfl⟩;rw [b] at z a;have A:=kD b;have O:IntKind.i64.wrap ((k:Int)+1)=(k:Int)+1:=IntWalk.i64_in _ (by omega);have K:=kD (λ(n:World)=>szEv S V T R X m W L n a y x);clear f d b;go_wp2_with fail;refine(K.out _).mono ?_;rintro e Y ⟨rfl,j⟩;have c:=kD (c.out.trans (j.mono c.out.size));clear H G F z l j K;by_cases hls:L<m
   ·rw [if_pos hls];go_wp2_with fail;go_ret;exact⟨_,rfl,c.out,λ h=>absurd h (by decide)⟩
   ·rw [if_neg hls];have hq:¬ L - (m:Int)<0:=by omega
    have B:Hid (∀ e ∈ es.take (k+1),e.ss.length<=1048576):=by
     show ∀ e ∈ es.take (k+1),e.ss.length<=1048576
     rw [take_succ es k _ D.out];intro e g;rcases List.mem_append.1 g with g | g
     ·exact I.out e g
     ·obtain rfl:=List.mem_singleton.1 g;show E.length<=1048576
      rw [A.out];omega
    go_wp2_with fail;go_roundw
    case rel=>exact⟨k+1,L - (m:Int),by omega,by first | rfl | go_num,rfl,by omega,by omega,c,B⟩
    case measure=>simp [intOf];omega
  ·obtain rfl:M=k:=by omega
   go_wp2_with fail;go_ret;refine⟨_,rfl,c.out,λ _=>⟨t,?_⟩⟩;have:=I.out
   rwa [List.take_of_length_le (by rw [J.out];exact Nat.le_refl _)] at this
theorem toEv (k a b r:Int) (A:Option Addr) (c:Nat) (ss:List Stp) (w:World) (hn:ss.length<=1048576) (hr:RdS w w.heap.size 4 enSt A ss) :
  Calls Tryz.prog 65 #[.agg #[.int .i64 k,.int .i64 a,.int .i64 b,.slice A ss.length c,.int .i64 r]] w λ e w'=>∃ A',e=.returned (.agg #[.int .i64 k,.int .i64 a,.int .i64 b,.slice A' ss.length ss.length,.int .i64 r])∧Below w.heap.size w w'∧OwnS w' w.heap.size w'.heap.size 135 4 enSt (.slice A' ss.length ss.length) ss:=by
 have M:=kD (λ(N:World) (S:Below w.heap.size w N)=>toSts w.heap.size A c ss N S.size hn (hr.below S (Nat.le_refl _)));obtain⟨n,C⟩:∃ n,ss.length=n:=⟨_,rfl⟩;rw [C] at M ⊢;clear C hn hr;go_enter Tryz.func65,Tryz.ntmps65;go_upto_region 2 with fail
 try simp only [show w.heap.size+1+1=w.heap.size+2 from rfl]
 refine wp_gen (λ o=>Rows w o [(0,104,[.int .i64 k,.int .i64 a,.int .i64 b,.slice A n c,.int .i64 r]),(1,56,[.int .i64 0,.int .i64 0,.int .i64 0,.slice none 0 0,.int .i64 0]),(2,56,[.int .i64 0,.int .i64 0,.int .i64 0,.slice none 0 0,.int .i64 0])]) ⟨by go_grown,λ p Q=>?_⟩ ?_
 ·simp only [List.mem_cons,List.not_mem_nil,or_false] at Q;rcases Q with rfl | rfl | rfl
  ·exact((RowB.new _ _ _).alloc _).alloc _
  ·exact(RowB.new' _ _ _ (by simp)).alloc _
  ·exact RowB.new' _ _ _ (by simp)
 intro P K;obtain⟨z,y,x,t,s⟩:=(K.nth0 0 rfl).c5;have g:=(K.nth0 0 rfl).lt;have d:=K.nth 2 rfl;obtain⟨m,l,j,i,h⟩:=d.c5;have E:=d.frozen;have f:=d.lt;go_upto_region 5 with fail;refine wp_gen (λ o=>Rows w o [(0,104,[.int .i64 k,.int .i64 a,.int .i64 b,.slice A n c,.int .i64 r]),(1,56,[.int .i64 0,.int .i64 0,.int .i64 0,.slice none 0 0,.int .i64 0]),(2,56,[.int .i64 k,.int .i64 a,.int .i64 b,.slice none 0 0,.int .i64 0])]) (((K.set1 2 0 _).set1 2 1 _).set1 2 2 _) ?_;clear K z y x t s g d E f m l j i h;intro P K;obtain⟨z,y,x,t,s⟩:=(K.nth0 0 rfl).c5;have g:=(K.nth0 0 rfl).lt;have d:=K.nth 2 rfl;obtain⟨m,l,j,i,h⟩:=d.c5;have E:=d.frozen;have f:=d.lt;go_wp2_with fail;refine(M.out _ K.bel).mono ?_;rintro e O ⟨A',rfl,D,R⟩;have J:w.heap.size+3<=P.heap.size:=f;have K:=K.below D;clear z y x t s g d E f m l j i h M;obtain⟨z,y,x,t,s⟩:=(K.nth0 0 rfl).c5;have g:=(K.nth0 0 rfl).lt;have d:=K.nth 2 rfl;obtain⟨m,l,j,i,h⟩:=d.c5;have E:=d.frozen;have f:=d.lt;go_upto_region 7 with fail;refine wp_gen (λ o=>Rows w o [(0,104,[.int .i64 k,.int .i64 a,.int .i64 b,.slice A n c,.int .i64 r]),(1,56,[.int .i64 0,.int .i64 0,.int .i64 0,.slice none 0 0,.int .i64 0]),(2,56,[.int .i64 k,.int .i64 a,.int .i64 b,.slice A' n n,.int .i64 r])]∧Hid (OwnS o (w.heap.size+3) o.heap.size 135 4 enSt (.slice A' n n) ss)) ⟨(K.set1 2 3 _).set1 2 4 _,kD ?_⟩ ?_
 ·have h1:=(OwnS.grown R (Base.grownBy_setCell O (w.heap.size+2) 3 (.slice A' n n)) (λ q B=>by simp at B;omega)).more (Base.grownBy_setCell O (w.heap.size+2) 3 (.slice A' n n)).size;have h2:=(OwnS.grown h1 (Base.grownBy_setCell _ (w.heap.size+2) 4 (.int .i64 r)) (λ q B=>by simp at B;omega)).more (Base.grownBy_setCell _ (w.heap.size+2) 4 (.int .i64 r)).size;exact h2.less (by omega)
 clear K z y x t s g d E f m l j i h R D J;rintro w3 ⟨K,T⟩;have H:=K.nth 2 rfl;have d:=K.nth 1 rfl;obtain⟨m,l,j,i,h⟩:=H.c5;have f:=H.lt;go_wp2_with (refine wM 56 0 [.int .i64 k,.int .i64 a,.int .i64 b,.slice A' n n,.int .i64 r] d ?_;intro w7 G F z7;refine Hid.out ?_);have L:=(K.grown 1 G F).bel;have I:=((OwnS.grown T.out F (λ q B=>by simp at B;omega)).more F.size).less (lo':=w.heap.size) (by omega);obtain⟨Z,Y,X,W,V⟩:=G.c5;have aa:=G.lt;clear F d K T H m l j i h f;refine kD ?_
 repeat (first | go_values | go_skip | go_step | go_upon)
 refine bodyPost_ret (v:=.agg #[.int .i64 k,.int .i64 a,.int .i64 b,.slice A' n n,.int .i64 r]) (by simp [results,Tryz.results65,go_sem,Z,Y,X,W,V]) rfl ?_;exact⟨_,rfl,L,I⟩
theorem Evs.setRow {w4 w6:World} {lo g m cap:Nat} {es:List Ev} (H:Evs w4 lo (.slice (some ⟨g,0,none⟩) m cap) es) (hlo:lo<=w4.heap.size) (hb:Below w4.heap.size w4 w6) {j:Nat} (hj:j<es.length) (k a b r:Int) (A':Option Addr) (n c:Nat) (ss:List Stp) (hs:OwnS w6 w4.heap.size w6.heap.size 135 4 enSt (.slice A' n c) ss) :
  ∃ old,RowB w6 g 56 old∧j*5+5<=old.length∧∀ w7,RowB w7 g 56 (setL old (j*5) [.int .i64 k,.int .i64 a,.int .i64 b,.slice A' n c,.int .i64 r])->w6.grownBy w7 (some g)->w7.heap.size=w6.heap.size->Evs w7 lo (.slice (some ⟨g,0,none⟩) m cap) (es.set j ⟨k,a,b,ss,r⟩):=by
 obtain⟨y,L,w,K⟩:=H;have T:g<w4.heap.size:=(L.block g rfl).2;have G:=(L.below hb (Nat.le_refl _)).more hb.size;have F:=w.keep (.below hb);have t:j<y.length:=by rw [w.1];exact hj
 obtain⟨old,P,Q,p⟩:=own_setRow enEv_len G t;refine⟨old,P,Q,λ w7 Y V N=>?_⟩;have o:∀ S:Nat->Prop,(∀ b,S b->b≠g)->Still S w6 w7:=λ S W=>Still.grown V (λ q v hs=>by simp at v;exact W q hs v.symm)
 have s:∀ b,NotIn (.slice (some ⟨g,0,none⟩) m cap) lo b->b≠g:=λ b hb e=>hb.1 (by rw [e];rfl)
 have X:RelEv.R w7 (NotIn (.slice (some ⟨g,0,none⟩) m cap) lo) (k,a,b,.slice A' n c,r) ⟨k,a,b,ss,r⟩:=⟨⟨rfl,rfl,rfl,rfl⟩,(relO 135 4 enSt).keep (OwnV.of hs (Nat.le_refl _) (λ b' aa Z=>⟨λ e=>by simp [Value.ownBlock] at e;omega,by omega⟩)) (o _ s)⟩;have l:∀(i:Nat) (q:ERow),y[i]?=some q->∀ h,q.2.2.2.1.ownBlock=some h->h<w4.heap.size:=λ i q v h E=>by
  obtain⟨x,_,O⟩:=w.at_ v;exact(O.2.1.block h E).2
 refine⟨y.set j (k,a,b,.slice A' n c,r),by rw [N];exact p (k,a,b,.slice A' n c,r) w7 Y,⟨by simp [w.1],λ i M x f d=>?_⟩,?_⟩
 ·rw [List.getElem?_set] at f d;by_cases hij:j=i
  ·subst hij;rw [if_pos rfl,if_pos t] at f;rw [if_pos rfl,if_pos hj] at d;obtain rfl:=Option.some.inj f;obtain rfl:=Option.some.inj d;exact X
  ·rw [if_neg hij] at f d;exact RelEv.keep (F.2 i M x f d) (o _ s)
 ·rw [List.pairwise_iff_getElem] at K ⊢;intro C B A z D;rw [List.length_set] at A z;rw [List.getElem_set,List.getElem_set];by_cases e1:j=C
  ·rw [if_pos e1,if_neg (by omega)];intro h J I;have b1:=(hs.block h J).1;have b2:=l B _ (List.getElem?_eq_getElem z) h I;omega
  ·rw [if_neg e1];by_cases e2:j=B
   ·rw [if_pos e2];intro h J I;have b1:=(hs.block h I).1;have b2:=l C _ (List.getElem?_eq_getElem A) h J;omega
   ·rw [if_neg e2];exact K C B A z D
def zEv:ERow:=(0,0,0,.slice none 0 0,0)
theorem Evs.made (w:World) (g n:Nat) (h:RowB w g 56 ((List.replicate n zEv).flatMap enEv)) (hn:n<=1048576):Evs w g (.slice (some ⟨g,0,none⟩) n n) (List.replicate n nulE):=by
 have b:=RowB.own (lo:=g) (hi:=w.heap.size) h enEv_len (Nat.le_refl _) h.lt (by rw [List.length_replicate];unfold maxLen;omega);rw [List.length_replicate] at b;refine⟨_,b,⟨by simp,λ i r x d c=>?_⟩,?_⟩
 ·have f:=List.eq_of_mem_replicate (List.mem_of_getElem? d);have e:=List.eq_of_mem_replicate (List.mem_of_getElem? c);subst f;subst e;exact⟨⟨rfl,rfl,rfl,rfl⟩,OwnS.nil_ _ _ _ _ _ _,λ q a=>by simp [zEv,Value.ownBlock] at a⟩
 ·refine List.pairwise_iff_getElem.2 λ i j hi k _=>?_
  simp only [List.getElem_replicate];intro q a;simp [zEv,Value.ownBlock] at a
theorem toEvs (Ae:Option Addr) (ce:Nat) (es:List Ev) (w:World) (hes:EvL w All Ae es) (hn:es.length<=1048576) (hs:∀ e ∈ es,e.ss.length<=1048576) :
  Calls Tryz.prog 32 #[.slice Ae es.length ce] w λ e w'=>∃ A',e=.returned (.slice A' es.length es.length)∧Below w.heap.size w w'∧Evs w' w.heap.size (.slice A' es.length es.length) es:=by
 obtain⟨i0,hi,T,S,R⟩:=info_parts infoE;have ab:=kD (λ(w9:World) (h9:Below w.heap.size w w9)=>hes.keep (.below h9));have aa:=kD hs;obtain⟨n,A⟩:∃ n,es.length=n:=⟨_,rfl⟩;rw [A] at hn ⊢;have H:=kD A;clear A hs hes;go_enter Tryz.func32,Tryz.ntmps32;go_wp2_with (at_make;refine wpList_make_full _ rfl _ _ _ rfl w.heap.size 56 i0 _ 5 Tryz.underlying24 hi T S _ _ _ _ n rfl rfl rfl rfl ?c1 ?c2 (Nat.le_refl _) ?_)
 case c1=>rw [R];omega
 case c2=>unfold maxLen;omega
 intro P p f;have c:=RowB.of_own p;have c:RowB P w.heap.size 56 ((List.replicate n zEv).flatMap enEv):=by rw [<-made_rows (en:=enEv) zEv #[.int .i64 0,.int .i64 0,.int .i64 0,.slice none 0 0,.int .i64 0] rfl rfl (by decide) n];exact c
 have v:Below w.heap.size w P:=(Below.refl _ _).grown f (Nat.le_refl _) (by simp);have C:=Evs.made P w.heap.size n c hn;obtain⟨g,hg⟩:∃ g,w.heap.size=g:=⟨_,rfl⟩;rw [hg] at C v c ⊢;have L:=kD hg;have y:=kD C;have d:=c.lt;clear p f c C;go_wp2_with fail;go_loopw [4] (λ i wr=>∃ k:Nat,k<=n∧i=.int .i64 k∧Below g w wr∧g<wr.heap.size∧Hid (Evs wr g (.slice (some ⟨g,0,none⟩) n n) (es.take k++List.replicate (n - k) nulE))) (λ i _=>n - (intOf i).toNat)
 case atStart=>exact⟨0,Nat.zero_le _,rfl,v,d,y⟩
 case round =>
  obtain⟨k,hk,rfl,h,d,y⟩:=hrel;by_cases hlt:k<n
  ·obtain⟨ba,oa,e,As,cq,rfl,B,V,D,ca,cb,cc,cd,J⟩:=(ab.out wr (by rw [L.out];exact h)).at_ (i:=k) (by rw [H.out];exact hlt);have HX:=kD B;have E:=aa.out e (List.mem_of_getElem? B);have M:=kD (toEv e.k e.a e.b e.r As cq e.ss wr E D.rd);obtain⟨Y,ea,Z,Q,X⟩:=e;simp only at ca cb cc cd J M;obtain⟨K,m⟩:∃ q,Q.length=q:=⟨_,rfl⟩;rw [m] at cd M;have ad:IntKind.i64.wrap ((k:Int)+1)=(k:Int)+1:=IntWalk.i64_in _ (by omega);clear B D E m;go_wp2_with fail;refine M.out.mono ?_;rintro e w2 ⟨A',rfl,l,F⟩;obtain⟨ac,rr,s,o⟩:=Evs.setRow y.out (Nat.le_of_lt d) l (j:=k) (by rw [List.length_append,List.length_take,List.length_replicate,H.out];omega) Y ea Z X A' K K Q F;have x:=h.trans (l.mono (Nat.le_of_lt d));have t:g<w2.heap.size:=Nat.lt_of_lt_of_le d l.size;have HS:=kD o;clear ca cb cc cd J V M h d l F o y;go_wp2_with (refine wpL_sm 56 _ _ rfl g (k*5) [.int .i64 Y,.int .i64 ea,.int .i64 Z,.slice A' K K,.int .i64 X] _ _ rfl rfl 56 rr (by kernel_rfl) s rfl rfl ?_;intro O s7 W N);have z:=HS.out O s7 W N;rw [fill_set es nulE ⟨Y,ea,Z,Q,X⟩ n k HX.out hlt] at z;have I:Below g w O:=x.grown W (by have:=L.out;omega) (λ j hj=>by simp at hj;omega);have G:g<O.heap.size:=by rw [N];exact t
   have y:=kD z;clear s7 W N z rr s HS x t;go_wp2_with fail;go_roundw
   case rel=>exact⟨k+1,by omega,by first | rfl | go_num,I,G,y⟩
   case measure=>simp [intOf];omega
  ·obtain rfl:n=k:=by omega
   have C:=y.out;rw [List.take_of_length_le (by rw [H.out];exact Nat.le_refl _),Nat.sub_self,List.replicate_zero,List.append_nil] at C;clear y;go_wp2_with fail;go_ret;exact⟨_,rfl,by rw [L.out];exact h,by rw [L.out];exact C⟩
end Gm
end Go.Proofs.YtblipmifflfnoaaGreatDoor
