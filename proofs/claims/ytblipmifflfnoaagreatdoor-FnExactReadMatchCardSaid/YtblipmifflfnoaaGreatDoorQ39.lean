/- Parts of the proof of FnExactReadMatch. Conditions: each theorem's own. -/
import Derived.Test.YtblipmifflfnoaaGreatDoorQ38
import Derived.Deep.CutBlock
set_option linter.unusedVariables false
set_option linter.unusedSimpArgs false
set_option maxHeartbeats 8000000
set_option maxRecDepth 100000
namespace Go.Proofs.YtblipmifflfnoaaGreatDoor
namespace TsI
open Go.ChangeShapes Go.WideShapes Go.ChangeAt Go.RowKit Base Ints Own JoinN PlP TxP Num Bd1 Bd5 RegF RegG TxI
structure Bl (w wr:World) (v:Vr) (cs:List Value):Prop where
 bel:Below w.heap.size w wr
 rv:RowB wr w.heap.size 23 (vL v)
 re:RowB wr (w.heap.size+1) 56 [.int .i64 0,.int .i64 0,.int .i64 0,.slice none 0 0,.int .i64 0]
 rs:RowB wr (w.heap.size+2) 56 cs
theorem Bl.below {w wr w':World} {v:Vr} {cs:List Value} (k:Bl w wr v cs) (hb:Below wr.heap.size wr w'):Bl w w' v cs :=
 ⟨k.bel.trans (hb.mono k.bel.size),k.rv.below hb k.rv.lt,k.re.below hb k.re.lt,k.rs.below hb k.rs.lt⟩
theorem Bl.five {w wr:World} {v:Vr} {a b c d e:Value} (k:Bl w wr v [a,b,c,d,e]) (a2 b2 c2 d2 e2:Value) :
  Bl w (((((wr.setCell ⟨w.heap.size+2,0,none⟩ a2).setCell ⟨w.heap.size+2,1,none⟩ b2).setCell ⟨w.heap.size+2,2,none⟩ c2).setCell ⟨w.heap.size+2,3,none⟩ d2).setCell ⟨w.heap.size+2,4,none⟩ e2) v [a2,b2,c2,d2,e2]:=by
 have g:w.heap.size≠w.heap.size+2:=by omega
 have f:w.heap.size+1≠w.heap.size+2:=by omega
 exact⟨below_five k.bel (by omega) _ _ _ _ _,((((k.rv.other g _).other g _).other g _).other g _).other g _,((((k.re.other f _).other f _).other f _).other f _).other f _,TxI.five k.rs _ _ _ _ _⟩
theorem cell_at {w:World} {bw ow:Nat} {ws:List By} (h:RdS w w.heap.size 1 enBs (some ⟨bw,ow,none⟩) ws) {i:Nat} {x:By} (hx:ws[i]?=some x):w.cell? ⟨bw,ow+i,none⟩=some (.string (bs x)):=by
 have c:=(List.getElem?_eq_some_iff.1 hx).1;obtain⟨b,o,y,e,f,a,d⟩:=rdBs_at h c;simp only [Option.some.injEq,Addr.mk.injEq,and_true] at e;obtain⟨rfl,rfl⟩:=e;rw [hx] at a;obtain rfl:x=y:=by simpa using a
 exact d
theorem spl_ne (c:UInt8) (l:By):spl c l≠[]:=by
 cases l with
 | nil=>simp [spl]
 | cons y l =>
  unfold spl;split
  ·simp
  ·split <;> simp
def gEr (v:Vr) (t w:By) (ws:List By):Ev :=
 if w=opW then
  (match ws with
  | [a,b]=>⟨1,(valS a).1,(valS b).1,[],0⟩
  | _=>nulE)
 else if w=reW then
  (match ws with
  | [a]=>⟨3,0,0,[],(valS a).1⟩
  | _=>nulE)
 else if w=tuW then
  (if 5<t.length then
   match rdTI v (t.drop 5) with
   | some (x,y,ss)=>⟨2,x,y,ss,0⟩
   | none=>nulE
  else nulE)
 else nulE
def TrnOk (o:Option (Int × Int × List Stp)) (x y c:Int) (ss:List Stp):Prop :=
 match o with
 | some r=>r=(x,y,ss)∧c=0
 | none=>c≠0
structure TnF (w1:World) (o:Option (Int × Int × List Stp)) (p3 p4 p5 p6 p7 p8 p9 p10 p11:Prop) (v3 v4 v5 v6 v7 v8 v10 v11:Value) (w':World):Prop where
 bel:Below w1.heap.size w1 w'
 f3:p3->∃(x y:Int) (sv:Value) (c:Int) (ss:List Stp),v3=.tuple #[.agg #[.int .i64 x,.int .i64 y],sv,.int .i64 c]∧OwnS w' w1.heap.size w'.heap.size 135 4 enSt sv ss∧TrnOk o x y c ss
 f4:p4->v4=v3
 f5:p5->∀ X S C,v3=.tuple #[X,S,C]->v5=X
 f6:p6->∀ X S C,v3=.tuple #[X,S,C]->v6=S
 f7:p7->∀ X S C,v3=.tuple #[X,S,C]->v7=C
 f8:p8->∃ g,v8=.pointer (some ⟨g,0,none⟩)∧w1.heap.size<=g∧(∃ a b,RowB w' g 48 [a,b])∧(p3->∀ X S C,v3=.tuple #[X,S,C]->S.ownBlock≠some g)
 f9:p9->∀ x y S C g,v3=.tuple #[.agg #[x,y],S,C]->v8=.pointer (some ⟨g,0,none⟩)->RowB w' g 48 [x,y]
 f10:p10->v10=v6
 f11:p11->v11=v7
section
variable {w1 w' w'':World} {o:Option (Int × Int × List Stp)} {p3 p4 p5 p6 p7 p8 p9 p10 p11:Prop} {v3 v4 v5 v6 v7 v8 v10 v11:Value}
theorem TnF.skip {L:Nat->Prop} {vals:Nat->Value} (F:TnF w1 o (L 3) (L 4) (L 5) (L 6) (L 7) (L 8) (L 9) (L 10) (L 11) (vals 3) (vals 4) (vals 5) (vals 6) (vals 7) (vals 8) (vals 10) (vals 11) w') (k:Nat) (z:Value) (hk:k<3:=by decide) :
  TnF w1 o (3=k∨L 3) (4=k∨L 4) (5=k∨L 5) (6=k∨L 6) (7=k∨L 7) (8=k∨L 8) (9=k∨L 9) (10=k∨L 10) (11=k∨L 11) (upd vals k z 3) (upd vals k z 4) (upd vals k z 5) (upd vals k z 6) (upd vals k z 7) (upd vals k z 8) (upd vals k z 10) (upd vals k z 11) w':=by
 have h:3≠k:=by omega
 have g:4≠k:=by omega
 have f:5≠k:=by omega
 have e:6≠k:=by omega
 have d:7≠k:=by omega
 have c:8≠k:=by omega
 have i:9≠k:=by omega
 have b:10≠k:=by omega
 have a:11≠k:=by omega
 rw [or_ne h,or_ne g,or_ne f,or_ne e,or_ne d,or_ne c,or_ne i,or_ne b,or_ne a,upd_ne h,upd_ne g,upd_ne f,upd_ne e,upd_ne d,upd_ne c,upd_ne b,upd_ne a];exact F
theorem TnF.s3 {sv:Value} {x y c:Int} {ss:List Stp} (F:TnF w1 o p3 p4 p5 p6 p7 p8 p9 p10 p11 v3 v4 v5 v6 v7 v8 v10 v11 w') (n4:¬ p4) (n5:¬ p5) (n6:¬ p6) (n7:¬ p7) (n9:¬ p9) (hb:Below w'.heap.size w' w'') (h:OwnS w'' w'.heap.size w''.heap.size 135 4 enSt sv ss) (hm:TrnOk o x y c ss) :
  TnF w1 o True p4 p5 p6 p7 p8 p9 p10 p11 (.tuple #[.agg #[.int .i64 x,.int .i64 y],sv,.int .i64 c]) v4 v5 v6 v7 v8 v10 v11 w'' :=
 ⟨F.bel.trans (hb.mono F.bel.size),λ _=>⟨x,y,sv,c,ss,rfl,h.less F.bel.size,hm⟩,λ h=>absurd h n4,λ h=>absurd h n5,λ h=>absurd h n6,λ h=>absurd h n7,
  λ h8=>by
   obtain⟨g,h1,h2,⟨a,b,h3⟩,h4⟩:=F.f8 h8;refine⟨g,h1,h2,⟨a,b,h3.below hb h3.lt⟩,λ _ X S C e hg=>?_⟩;simp only [Value.tuple.injEq,Array.mk.injEq,List.cons.injEq,and_true] at e;obtain⟨-,rfl,-⟩:=e;have:=(h.block g hg).1;have:=h3.lt;omega,λ h=>absurd h n9,F.f10,F.f11⟩
theorem TnF.s4 (F:TnF w1 o p3 p4 p5 p6 p7 p8 p9 p10 p11 v3 v4 v5 v6 v7 v8 v10 v11 w'):TnF w1 o p3 True p5 p6 p7 p8 p9 p10 p11 v3 v3 v5 v6 v7 v8 v10 v11 w' :=
 ⟨F.bel,F.f3,λ _=>rfl,F.f5,F.f6,F.f7,F.f8,F.f9,F.f10,F.f11⟩
theorem inj3 {X S C X' S' C':Value} (e:Value.tuple #[X,S,C]=.tuple #[X',S',C']):X=X'∧S=S'∧C=C':=by simpa using e
theorem TnF.s5 {X S C:Value} (F:TnF w1 o p3 p4 p5 p6 p7 p8 p9 p10 p11 v3 v4 v5 v6 v7 v8 v10 v11 w') (hv:v3=.tuple #[X,S,C]):TnF w1 o p3 p4 True p6 p7 p8 p9 p10 p11 v3 v4 X v6 v7 v8 v10 v11 w' :=
 ⟨F.bel,F.f3,F.f4,λ _ X' S' C' e=>(inj3 (hv.symm.trans e)).1,F.f6,F.f7,F.f8,F.f9,F.f10,F.f11⟩
theorem TnF.s6 {X S C:Value} (F:TnF w1 o p3 p4 p5 p6 p7 p8 p9 p10 p11 v3 v4 v5 v6 v7 v8 v10 v11 w') (hv:v3=.tuple #[X,S,C]) (n10:¬ p10):TnF w1 o p3 p4 p5 True p7 p8 p9 p10 p11 v3 v4 v5 S v7 v8 v10 v11 w' :=
 ⟨F.bel,F.f3,F.f4,F.f5,λ _ X' S' C' e=>(inj3 (hv.symm.trans e)).2.1,F.f7,F.f8,F.f9,λ h=>absurd h n10,F.f11⟩
theorem TnF.s7 {X S C:Value} (F:TnF w1 o p3 p4 p5 p6 p7 p8 p9 p10 p11 v3 v4 v5 v6 v7 v8 v10 v11 w') (hv:v3=.tuple #[X,S,C]) (n11:¬ p11):TnF w1 o p3 p4 p5 p6 True p8 p9 p10 p11 v3 v4 v5 v6 C v8 v10 v11 w' :=
 ⟨F.bel,F.f3,F.f4,F.f5,F.f6,λ _ X' S' C' e=>(inj3 (hv.symm.trans e)).2.2,F.f8,F.f9,F.f10,λ h=>absurd h n11⟩
theorem TnF.s8 (F:TnF w1 o p3 p4 p5 p6 p7 p8 p9 p10 p11 v3 v4 v5 v6 v7 v8 v10 v11 w') (n9:¬ p9) {a b:Value}:TnF w1 o p3 p4 p5 p6 p7 True p9 p10 p11 v3 v4 v5 v6 v7 (.pointer (some ⟨w'.heap.size,0,none⟩)) v10 v11 (w'.alloc (.cells #[a,b] 48)) :=
 ⟨F.bel.alloc F.bel.size _,λ h=>by
   obtain⟨x,y,sv,c,ss,h1,h2,h3⟩:=F.f3 h;exact⟨x,y,sv,c,ss,h1,(h2.alloc _).more (by simp),h3⟩,F.f4,F.f5,F.f6,F.f7,
  λ _=>⟨_,rfl,F.bel.size,⟨a,b,RowB.new _ _ _⟩,λ h X S C e hg=>by
   obtain⟨x,y,sv,c,ss,h1,h2,h3⟩:=F.f3 h;have:=(inj3 (h1.symm.trans e)).2.1;subst this;have:=(h2.block _ hg).2;omega⟩,λ h=>absurd h n9,F.f10,F.f11⟩
theorem TnF.s9 {x y S C a b:Value} {g:Nat} (F:TnF w1 o p3 p4 p5 p6 p7 p8 p9 p10 p11 v3 v4 v5 v6 v7 v8 v10 v11 w') (hv:v3=.tuple #[.agg #[x,y],S,C]) (hv8:v8=.pointer (some ⟨g,0,none⟩)) (hg:w1.heap.size<=g) (r:RowB w' g 48 [a,b]) (ha:S.ownBlock≠some g) :
  TnF w1 o p3 p4 p5 p6 p7 p8 True p10 p11 v3 v4 v5 v6 v7 v8 v10 v11 ((w'.setCell ⟨g,0,none⟩ x).setCell ⟨g,1,none⟩ y):=by
 have l:RowB ((w'.setCell ⟨g,0,none⟩ x).setCell ⟨g,1,none⟩ y) g 48 [x,y]:=(r.set 0 _).set 1 _;have f:w'.grownBy ((w'.setCell ⟨g,0,none⟩ x).setCell ⟨g,1,none⟩ y) (some g):=Base.grownBy_trans (Base.grownBy_setCell _ _ _ _) (Base.grownBy_setCell _ _ _ _);refine⟨(F.bel.setCell (p:=⟨g,0,none⟩) hg _).setCell (p:=⟨g,1,none⟩) hg _,λ h=>?_,F.f4,F.f5,F.f6,F.f7,λ h=>?_,λ _ I H J K E e s=>?_,F.f10,F.f11⟩
 ·obtain⟨w,t,z,c,A,d,i,n⟩:=F.f3 h;have:=(inj3 (d.symm.trans hv)).2.1;subst this;refine⟨w,t,z,c,A,d,?_,n⟩;have:=Own.OwnS.far i (v:=.slice (some ⟨g,0,none⟩) 1 1) f (λ k m B=>by simp [Value.ownBlock] at m;subst m;exact ha B)
  simpa using this
 ·obtain⟨q,d,i,n,D⟩:=F.f8 h;have:q=g:=by rw [hv8] at d;simpa using d.symm
  subst this;exact⟨q,d,i,⟨_,_,l⟩,D⟩
 ·have j:=(inj3 (e.symm.trans hv)).1;have G:E=g:=by rw [hv8] at s;simpa using s.symm
  subst G;simp only [Value.agg.injEq,Array.mk.injEq,List.cons.injEq,and_true] at j;rw [j.1,j.2];exact l
theorem TnF.s10 (F:TnF w1 o p3 p4 p5 p6 p7 p8 p9 p10 p11 v3 v4 v5 v6 v7 v8 v10 v11 w'):TnF w1 o p3 p4 p5 p6 p7 p8 p9 True p11 v3 v4 v5 v6 v7 v8 v6 v11 w' :=
 ⟨F.bel,F.f3,F.f4,F.f5,F.f6,F.f7,F.f8,F.f9,λ _=>rfl,F.f11⟩
theorem TnF.s11 (F:TnF w1 o p3 p4 p5 p6 p7 p8 p9 p10 p11 v3 v4 v5 v6 v7 v8 v10 v11 w'):TnF w1 o p3 p4 p5 p6 p7 p8 p9 p10 True v3 v4 v5 v6 v7 v8 v10 v7 w' :=
 ⟨F.bel,F.f3,F.f4,F.f5,F.f6,F.f7,F.f8,F.f9,F.f10,λ _=>rfl⟩
end
theorem lread_s (v:Vr) (hv:okV v=true) (t:By) (hl:t.length<=4194304) (w:World) :
  Calls Tryz.prog 17 #[.agg #[.int .i64 v.p,.int .i64 v.c,.int .i64 v.h,.int .i64 v.s],.string (bs t)] w λ e w'=>EvR (rdE v t) w e w':=by
 obtain⟨R,hR⟩:∃ r,rdE v t=r:=⟨_,rfl⟩;have hE:=rdES_eq hv t;rw [hR] at hE ⊢;have HE:=kD hE;have CS:=kD (λ(D:World)=>split_s t 32 32 rfl hl D);have HW:=kD (λ x hx=>Nat.le_trans (spl_word 32 t x hx) hl);have HV:=kD hv;have HL:=kD hl;clear hE hR hv hl;go_enter Tryz.func17,Tryz.ntmps17;go_upto_region 2 with fail;refine wp_gen (λ W'=>Bl w W' v [.int .i64 0,.int .i64 0,.int .i64 0,.slice none 0 0,.int .i64 0]) ⟨by go_grown,((RowB.new _ _ _).alloc _).alloc _,(RowB.new' _ _ _ (by simp)).alloc _,RowB.new' _ _ _ (by simp)⟩ ?_;intro w2 K;have aP:w.heap.size+2<w2.heap.size:=K.rs.lt;go_wp2_with fail;refine(CS.out _).mono ?_;rintro e w3 ⟨sw,rfl,ad,I⟩;have K:=K.below I;have aI:=I.size;have aS:gES v t=gES v t:=rfl;obtain⟨G,hG⟩:∃ g,gES v t=g:=⟨_,rfl⟩;have aj:gES v t=match spl 32 t with | w :: ws=>gEr v t w ws | []=>nulE:=rfl
 rw [hG] at aj;obtain⟨ws,aw⟩:∃ z,spl 32 t=z:=⟨_,rfl⟩;rw [aw] at aj ad HW;obtain⟨w0,M,az⟩:∃ a l,ws=a :: l:=by
  cases hc:ws with
  | nil=>exact absurd (aw.trans hc) (spl_ne 32 t)
  | cons a l=>exact⟨a,l,rfl⟩
 subst az;simp only at aj;obtain⟨n,hn⟩:∃ n,M.length=n:=⟨_,rfl⟩;obtain⟨Aw,cw,aG,ay⟩:=ad.form enBs_len;rw [List.length_cons,hn] at aG;subst aG;have aC:=kD ay;obtain⟨bw,ow,x,rfl,aQ,Y,am⟩:=rdBs_at ay (i:=0) (by simp);have Y:w0=x:=by simpa using Y
 subst Y;rw [Nat.add_zero] at am;have W:=kD aj;have HN:=kD hn;have aU:=kD hG;have aV:=kD I;clear ay ad aj hn hG aw aS I CS;obtain⟨q0,q1,q2,q3⟩:=K.rv.c4;have Z:=K.rv.lt;obtain⟨y0,y1,y2,y3,y4⟩:=K.rs.c5;have N:=K.rs.lt;have ab:=K.rs.frozen;obtain⟨b1,af⟩:∃ b,((bs w0).toList == [111,112,101,110,105,110,103])=b:=⟨_,rfl⟩;obtain⟨b2,aa⟩:∃ b,((bs w0).toList == [114,101,115,105,103,110])=b:=⟨_,rfl⟩;obtain⟨b3,I⟩:∃ b,((bs w0).toList == [116,117,114,110])=b:=⟨_,rfl⟩;go_upto_block 0 with fail;go_cut [8,9,10,11,12,13,14,15,16] from 23 (λ s8 s9 a7 a6 a5 a4 a3 a0 aZ wx=>∃(k a b:Int) (J:List Stp) (r:Int) (A:Option Addr) (cp:Nat),Bl w wx v [.int .i64 k,.int .i64 a,.int .i64 b,.slice A J.length cp,.int .i64 r]∧Hid (OwnS wx w2.heap.size wx.heap.size 135 4 enSt (.slice A J.length cp) J)∧Hid (G=⟨k,a,b,J,r⟩))
 case first =>
  cases b1
  case true =>
   have H:w0=opW:=by
    rw [ByteArray.toList_eq,bs_data] at af;exact eq_of_beq af
   clear aa I b2 b3 Y;by_cases h2:n=2
   ·subst h2;obtain⟨X,xb,rfl⟩:∃ X xb,M=[X,xb]:=by
     have:=HN.out
     match M with
     | [p,q]=>exact⟨p,q,rfl⟩
    have E:G=⟨1,(valS X).1,(valS xb).1,[],0⟩:=by rw [W.out,H];rfl
    have aB:=cell_at aC.out (i:=1) (x:=X) rfl;have aA:=cell_at aC.out (i:=2) (x:=xb) rfl;have CA:=kD (λ D=>val_s X (HW.out X (by simp)) D);have CB:=kD (λ D=>val_s xb (HW.out xb (by simp)) D);obtain⟨⟨na,oa⟩,ag⟩:∃ z,valS X=z:=⟨_,rfl⟩;obtain⟨⟨nb,ob⟩,aJ⟩:∃ z,valS xb=z:=⟨_,rfl⟩;rw [ag] at CA E;rw [aJ] at CB E;simp only at CA CB E;have C:=kD E;have dn:(((2:Nat):Int)+1 == 3)=true:=by decide
    clear E ag aJ H q0 q1 q2 q3 Z y0 y1 y2 y3 y4 N ab W;go_wp2_with fail;refine(CA.out _).mono ?_;rintro e w4 ⟨rfl,T⟩;have K:=K.below T;have aA:=(T.cell (p:=⟨bw,ow+2,none⟩) aQ).trans aA;clear T aB am;go_wp2_with fail;refine(CB.out _).mono ?_;rintro e w5 ⟨rfl,T⟩;have K:=K.below T;obtain⟨y0,y1,y2,y3,y4⟩:=K.rs.c5;have N:=K.rs.lt;have ab:=K.rs.frozen;clear T aA;go_wp2_with fail;go_meet;exact⟨1,na,nb,[],0,none,0,K.five _ _ _ _ _,kD (OwnS.nil_ _ _ _ _ _ _),C⟩
   ·have E:G=⟨0,0,0,[],0⟩:=by
     rw [W.out,H];have:=HN.out;unfold gEr;rw [if_pos rfl]
     match M with
     | []=>rfl
     | [p]=>rfl
     | [p,q]=>exact absurd (HN.out.symm) h2
     | p :: q :: r :: l=>rfl
    have C:=kD E;have dn:((n:Int)+1 == 3)=false:=by
     refine beq_eq_false_iff_ne.2 ?_;omega
    clear E H;go_wp2_with fail;go_meet;exact⟨0,0,0,[],0,none,0,K,kD (OwnS.nil_ _ _ _ _ _ _),C⟩
  case false =>
   cases b2
   case true =>
    have H:w0=reW:=by
     rw [ByteArray.toList_eq,bs_data] at aa;exact eq_of_beq aa
    clear I b3 Y;by_cases h2:n=1
    ·subst h2;obtain⟨X,rfl⟩:∃ X,M=[X]:=by
      have:=HN.out
      match M with
      | [p]=>exact⟨p,rfl⟩
     have E:G=⟨3,0,0,[],(valS X).1⟩:=by rw [W.out,H];rfl
     have aB:=cell_at aC.out (i:=1) (x:=X) rfl;have CA:=kD (λ D=>val_s X (HW.out X (by simp)) D);obtain⟨⟨na,oa⟩,ag⟩:∃ z,valS X=z:=⟨_,rfl⟩;rw [ag] at CA E;simp only at CA E;have C:=kD E;have dn:(((1:Nat):Int)+1 == 2)=true:=by decide
     clear E ag H q0 q1 q2 q3 Z y0 y1 y2 y3 y4 N ab W;go_wp2_with fail;refine(CA.out _).mono ?_;rintro e w5 ⟨rfl,T⟩;have K:=K.below T;obtain⟨y0,y1,y2,y3,y4⟩:=K.rs.c5;have N:=K.rs.lt;have ab:=K.rs.frozen;clear T aB;go_wp2_with fail;go_meet;exact⟨3,0,0,[],na,none,0,K.five _ _ _ _ _,kD (OwnS.nil_ _ _ _ _ _ _),C⟩
    ·have E:G=⟨0,0,0,[],0⟩:=by
      rw [W.out,H];have:=HN.out;unfold gEr;rw [if_neg (by decide),if_pos rfl]
      match M with
      | []=>rfl
      | [p]=>exact absurd (HN.out.symm) h2
      | p :: q :: l=>rfl
     have C:=kD E;have dn:((n:Int)+1 == 2)=false:=by
      refine beq_eq_false_iff_ne.2 ?_;omega
     clear E H;go_wp2_with fail;go_meet;exact⟨0,0,0,[],0,none,0,K,kD (OwnS.nil_ _ _ _ _ _ _),C⟩
   case false =>
    cases b3
    case false =>
     have E:G=⟨0,0,0,[],0⟩:=by
      rw [W.out];unfold gEr;rw [ByteArray.toList_eq,bs_data] at af aa I;rw [if_neg (λ h=>by rw [h] at af;exact absurd af (by decide)),if_neg (λ h=>by rw [h] at aa;exact absurd aa (by decide)),if_neg (λ h=>by rw [h] at I;exact absurd I (by decide))]
      rfl
     have C:=kD E;clear E;go_wp2_with fail;go_meet;exact⟨0,0,0,[],0,none,0,K,kD (OwnS.nil_ _ _ _ _ _ _),C⟩
    case true =>
     have H:w0=tuW:=by
      rw [ByteArray.toList_eq,bs_data] at I;exact eq_of_beq I
     clear Y;have ae:G=if 5<t.length then (match rdTI v (t.drop 5) with | some (x,y,J)=>⟨2,x,y,J,0⟩ | none=>nulE) else nulE:=by
      rw [W.out,H];unfold gEr;rw [if_neg (by decide),if_neg (by decide),if_pos rfl]
     by_cases h5:5<t.length
     rotate_left
     ·have E:G=⟨0,0,0,[],0⟩:=by rw [ae,if_neg h5];rfl
      have C:=kD E;have d5:decide ((5:Int)<((bs t).size:Int))=false:=decide_eq_false (by rw [bs_size];omega);clear E H ae h5;go_wp2_with fail;go_meet;exact⟨0,0,0,[],0,none,0,K,kD (OwnS.nil_ _ _ _ _ _ _),C⟩
     rw [if_pos h5,<-rdT_eq HV.out] at ae;obtain⟨O,hO⟩:∃ o,rdTS v (t.drop 5)=o:=⟨_,rfl⟩;have CT:=kD (λ D=>rturn_s v HV.out (t.drop 5) (by rw [List.length_drop];have:=HL.out;omega) D);rw [hO] at CT ae;have ap:=kD ae;obtain⟨s,hs⟩:∃ s,bs t=s:=⟨_,rfl⟩;have aH:s.data.toList=t:=by rw [<-hs];rfl
     have HZ:Hid (s.size=t.length):=by show _=_;rw [<-hs];exact bs_size t
     have a8:s.extract 5 s.size=bs (t.drop 5):=by rw [Lib.extract_eq,aH,HZ.out,List.take_of_length_le (by rw [List.length_drop];exact Nat.le_refl _)];rfl
     have HS:=kD hs;rw [hs];have a9:s.size<=4194304:=by rw [HZ.out];exact HL.out
     have d5:decide ((5:Int)<(s.size:Int))=true:=decide_eq_true (by rw [HZ.out];omega);have be:(5:Int)<=(s.size:Int):=by rw [HZ.out];omega
     have bd:5<=s.size:=by rw [HZ.out];omega
     clear H ae h5 hO hs aH am;go_upto_region 15 with fail;have KB:=K;clear K y0 y1 y2 y3 y4 N ab q0 q1 q2 q3;refine rG [some 65,some 66,some 67,some 68,some 64,some 69,some 70,some 71,some 14,none,some 15,some 16] 12 (Pl [some (.agg #[.int .i64 v.p,.int .i64 v.c,.int .i64 v.h,.int .i64 v.s]),some (.string s),some (.string (bs (t.drop 5))),none,none,none,none,none,none,none,none,none]) (λ L d w'=>TnF w3 O (L 3) (L 4) (L 5) (L 6) (L 7) (L 8) (L 9) (L 10) (L 11) (d 3) (d 4) (d 5) (d 6) (d 7) (d 8) (d 10) (d 11) w') ?g0_1 ?gst_1 ?gfin_1
     case g0_1=>exact⟨(Below.refl _ _).drew,λ h=>absurd h (by decide),λ h=>absurd h (by decide),λ h=>absurd h (by decide),λ h=>absurd h (by decide),λ h=>absurd h (by decide),λ h=>absurd h (by decide),λ h=>absurd h (by decide),λ h=>absurd h (by decide),λ h=>absurd h (by decide)⟩
     case gst_1 =>
      refine rN rfl (λ L d A D m f B U F K P=>?_) ?_
      ·have e2:=U.w 2 (.pointer (some ⟨w.heap.size,0,none⟩));have aE:=KB.rv.below F.bel Z;obtain⟨q0,q1,q2,q3⟩:=aE.c4;clear aE;go_simp;exact pF P (F.skip 0 _)
      refine rN rfl (λ L d A D m f B U F K P=>?_) ?_
      ·have e1:=U.w 1 (.string s);go_simp;exact pF P (F.skip 1 _)
      refine rN rfl (λ L d A D m f B U F K P=>?_) ?_
      ·have bj:=U.v 1 66;go_simp;exact pF P (F.skip 2 _)
      refine rN rfl (λ L d A D m f B U F K P=>?_) ?_
      ·have bk:=U.v 0 65;have bi:=U.v 2 67;go_simp;refine(CT.out D).mono ?_;rintro e w6 ⟨x,y,sv,c,J,rfl,aN,aR,aO⟩;exact P.out _ w6 (Pl.any rfl) (by simpa [upd] using F.s3 (λ h=>m (B 4 3 (by kernel_rfl) h)) (λ h=>m (B 5 3 (by kernel_rfl) h)) (λ h=>m (B 6 3 (by kernel_rfl) h)) (λ h=>m (B 7 3 (by kernel_rfl) h)) (λ h=>m (B 9 3 (by kernel_rfl) h)) aR aN aO)
      refine rN rfl (λ L d A D m f B U F K P=>?_) ?_
      ·have bh:=U.x 3 68;go_simp;exact P.out _ D (Pl.any rfl) (by simpa [upd] using F.s4)
      refine rN rfl (λ L d A D m f B U F K P=>?_) ?_
      ·have V:=U.x 4 64;have j:=F.f3 (bK f 3);refine j.elim λ x j=>?_
       refine j.elim λ y j=>?_
       refine j.elim λ sv j=>?_
       refine j.elim λ c j=>?_
       refine j.elim λ J q=>?_
       have av:=V.trans ((F.f4 (bK f 4)).trans q.1);clear V j;go_simp;exact P.out _ D (Pl.any rfl) (by simpa [upd] using F.s5 q.1)
      refine rN rfl (λ L d A D m f B U F K P=>?_) ?_
      ·have V:=U.x 4 64;have j:=F.f3 (bK f 3);refine j.elim λ x j=>?_
       refine j.elim λ y j=>?_
       refine j.elim λ sv j=>?_
       refine j.elim λ c j=>?_
       refine j.elim λ J q=>?_
       have av:=V.trans ((F.f4 (bK f 4)).trans q.1);clear V j;go_simp;exact P.out _ D (Pl.any rfl) (by simpa [upd] using F.s6 q.1 (λ h=>m (B 10 6 (by kernel_rfl) h)))
      refine rN rfl (λ L d A D m f B U F K P=>?_) ?_
      ·have V:=U.x 4 64;have j:=F.f3 (bK f 3);refine j.elim λ x j=>?_
       refine j.elim λ y j=>?_
       refine j.elim λ sv j=>?_
       refine j.elim λ c j=>?_
       refine j.elim λ J q=>?_
       have av:=V.trans ((F.f4 (bK f 4)).trans q.1);clear V j;go_simp;exact P.out _ D (Pl.any rfl) (by simpa [upd] using F.s7 q.1 (λ h=>m (B 11 7 (by kernel_rfl) h)))
      refine rN rfl (λ L d A D m f B U F K P=>?_) ?_
      ·go_simp;exact P.out _ _ (Pl.any rfl) (by simpa [upd] using F.s8 (λ h=>m (B 9 8 (by kernel_rfl) h)))
      refine rN rfl (λ L d A D m f B U F K P=>?_) ?_
      ·have aL:=U.x 8 14;have aK:=U.x 5 69;have j:=F.f3 (bK f 3);refine j.elim λ x j=>?_
       refine j.elim λ y j=>?_
       refine j.elim λ sv j=>?_
       refine j.elim λ c j=>?_
       refine j.elim λ J q=>?_
       have f8:=F.f8 (bK f 8);refine f8.elim λ g q8=>?_
       refine q8.2.2.1.elim λ a1 r=>?_
       refine r.elim λ a2 r=>?_
       have aY:=aL.trans q8.1;have aX:=aK.trans (F.f5 (bK f 5) _ _ _ q.1);obtain⟨y0,y1⟩:=r.c2;have fr:=r.frozen;clear aL aK j f8;go_simp;exact P.out undef _ (Pl.any rfl) (by simpa [upd] using F.s9 q.1 q8.1 q8.2.1 r (q8.2.2.2 (bK f 3) _ _ _ q.1))
      refine rN rfl (λ L d A D m f B U F K P=>?_) ?_
      ·have bg:=U.x 6 70;go_simp;exact P.out _ D (Pl.any rfl) (by simpa [upd] using F.s10)
      refine rN rfl (λ L d A D m f B U F K P=>?_) ?_
      ·have bf:=U.x 7 71;go_simp;exact P.out _ D (Pl.any rfl) (by simpa [upd] using F.s11)
      exact RelFrom.nil (by decide)
     intro d D hp F;simp only [Fr,Act.put,sX,Nat.reduceAdd];obtain⟨x,y,sv,c,J,ak,ad,hm⟩:=F.f3 trivial;obtain⟨gx,ax,bc,-,-⟩:=F.f8 trivial;have rx:=F.f9 trivial _ _ _ _ gx ak ax;have ar:=(F.f10 trivial).trans (F.f6 trivial _ _ _ ak);have aq:=(F.f11 trivial).trans (F.f7 trivial _ _ _ ak);rw [ax,ar,aq];have K:=KB.below F.bel;have aW:=F.bel.size;clear F ak ax ar aq hp KB;have Q:=kD (ad.less (lo':=w2.heap.size) aI);clear ad
     cases O with
     | none =>
      have E:G=⟨0,0,0,[],0⟩:=ap.out;have C:=kD E;have dn:(c == 0)=false:=beq_eq_false_iff_ne.2 hm;clear E hm ap;go_wp2_with fail;have hs:=HS.out;subst hs;go_meet;exact⟨0,0,0,[],0,none,0,K,kD (OwnS.nil_ _ _ _ _ _ _),C⟩
     | some r =>
      obtain⟨rfl,rfl⟩:=hm;have E:G=⟨2,x,y,J,0⟩:=ap.out;have C:=kD E;obtain⟨A,cp,aM,_⟩:=Q.out.form enSt_len;subst aM;obtain⟨n2,S⟩:∃ n,J.length=n:=⟨_,rfl⟩;have aD:=kD S;rw [S];rw [S] at Q;clear E ap S;obtain⟨y0,y1,y2,y3,y4⟩:=K.rs.c5;have N:=K.rs.lt;have ab:=K.rs.frozen;obtain⟨x0,x1⟩:=rx.c2;have bb:=rx.lt;go_wp2_with fail;have hs:=HS.out;subst hs;go_meet;refine⟨2,x,y,J,0,A,cp,?_,kD ?_,C⟩
      ·rw [aD.out];exact K.five _ _ _ _ _
      ·rw [aD.out];simpa using own_five Q.out (g:=w.heap.size+2) aP (.int .i64 2) (.int .i64 x) (.int .i64 y) (.slice A n2 cp) (.int .i64 0)
 obtain⟨k,a,b,J,r,A,cp,K,Q,C⟩:=hcut;have an:(if evnT v ⟨k,a,b,J,r⟩=t∧t≠[] then some ⟨k,a,b,J,r⟩ else none)=R:=by
  rw [<-HE.out,aU.out,C.out]
 have ac:=kD an;have CE:=kD (λ(D:World) (h9:Below wc.heap.size wc D)=>levent_s v HV.out k a b J r A cp wc.heap.size D h9.size ((Q.out.rd enSt_len).below h9 (Nat.le_refl _)));obtain⟨tx,aF⟩:∃ x,evnT v ⟨k,a,b,J,r⟩=x:=⟨_,rfl⟩;rw [aF] at CE an;have ac:=kD an;obtain⟨n2,S⟩:∃ n,J.length=n:=⟨_,rfl⟩;have aD:=kD S;rw [S] at K Q CE;clear an aF S q0 q1 q2 q3 Z y0 y1 y2 y3 y4 N ab Y af aa I b1 b2 b3 am;have al:=K.re.lt;have ao:=K.re.frozen;obtain⟨y0,y1,y2,y3,y4⟩:=K.re.c5;obtain⟨q0,q1,q2,q3⟩:=K.rv.c4;have Z:=K.rv.lt;obtain⟨x0,x1,x2,x3,x4⟩:=K.rs.c5;have N:=K.rs.lt;by_cases ht:t=[]
 ·have ai:R=none:=by rw [<-ac.out,if_neg (λ h=>h.2 ht)]
  subst ai;have e0:(bs t).toList.isEmpty=true:=by rw [ByteArray.toList_eq,bs_data,ht];rfl
  have aT:((bs t).toList == [])=true:=by rw [ByteArray.toList_eq,bs_data,ht];rfl
  clear ht ac;go_wp2_with fail;refine bp_gen (λ W'=>Below w.heap.size w W'∧RowB W' (w.heap.size+1) 56 [.int .i64 0,.int .i64 0,.int .i64 0,.slice none 0 0,.int .i64 0]) ⟨below_five K.bel (by omega) _ _ _ _ _,TxI.five K.re _ _ _ _ _⟩ ?_;rintro w8 ⟨ah,r8⟩;obtain⟨z0,z1,z2,z3,z4⟩:=r8.c5;refine bodyPost_ret (v:=.tuple #[.agg #[.int .i64 0,.int .i64 0,.int .i64 0,.slice none 0 0,.int .i64 0],.bool false]) (by simp [results,Tryz.results17,go_sem,z0,z1,z2,z3,z4]) rfl ?_;exact⟨0,0,0,_,[],0,false,rfl,OwnS.nil_ _ _ _ _ _ _,ah,rfl,rfl,rfl,rfl,rfl,rfl⟩
 have e0:(bs t).toList.isEmpty=false:=by rw [ByteArray.toList_eq,bs_data];cases t with | nil=>exact absurd rfl ht | cons a l=>rfl
 have aT:((bs t).toList == [])=false:=by rw [ByteArray.toList_eq,bs_data];cases t with | nil=>exact absurd rfl ht | cons a l=>rfl
 by_cases heq:tx=t
 ·have ai:R=some ⟨k,a,b,J,r⟩:=by rw [<-ac.out,if_pos ⟨heq,ht⟩]
  subst ai;have e1:((bs tx).toList == (bs t).toList)=true:=by rw [bs_eq];exact decide_eq_true heq
  have e2:((bs tx).toList != (bs t).toList)=false:=by simp only [bne,e1];rfl
  clear heq ac ht;go_wp2_with fail;refine(CE.out _ (Below.refl _ _)).mono ?_;rintro e w6 ⟨rfl,T⟩;have ba:=aV.out.size;have K:=K.below T;have Q:=kD ((Q.out.below T (Nat.le_refl _)).more T.size);clear y0 y1 y2 y3 y4 q0 q1 q2 q3 x0 x1 x2 x3 x4 Z N al ao T CE;have al:=K.re.lt;have ao:=K.re.frozen;obtain⟨y0,y1,y2,y3,y4⟩:=K.re.c5;obtain⟨x0,x1,x2,x3,x4⟩:=K.rs.c5;have N:=K.rs.lt;go_wp2_with fail;refine bp_gen (λ W'=>Below w.heap.size w W'∧RowB W' (w.heap.size+1) 56 [.int .i64 k,.int .i64 a,.int .i64 b,.slice A n2 cp,.int .i64 r]∧OwnS W' w2.heap.size W'.heap.size 135 4 enSt (.slice A n2 cp) J) ⟨below_five K.bel (by omega) _ _ _ _ _,TxI.five K.re _ _ _ _ _,by simpa using own_five Q.out (g:=w.heap.size+1) (by omega) (.int .i64 k) (.int .i64 a) (.int .i64 b) (.slice A n2 cp) (.int .i64 r)⟩ ?_;rintro w8 ⟨ah,r8,o8⟩;obtain⟨z0,z1,z2,z3,z4⟩:=r8.c5;refine bodyPost_ret (v:=.tuple #[.agg #[.int .i64 k,.int .i64 a,.int .i64 b,.slice A n2 cp,.int .i64 r],.bool true]) (by simp [results,Tryz.results17,go_sem,z0,z1,z2,z3,z4]) rfl ?_;exact⟨k,a,b,_,J,r,true,rfl,o8.less (by omega),ah,rfl⟩
 ·have ai:R=none:=by rw [<-ac.out,if_neg (λ h=>heq h.1)]
  subst ai;have e1:((bs tx).toList == (bs t).toList)=false:=by rw [bs_eq];exact decide_eq_false heq
  have e2:((bs tx).toList != (bs t).toList)=true:=by simp only [bne,e1];rfl
  clear heq ac ht;go_wp2_with fail;refine(CE.out _ (Below.refl _ _)).mono ?_;rintro e w6 ⟨rfl,T⟩;have K:=K.below T;clear y0 y1 y2 y3 y4 q0 q1 q2 q3 x0 x1 x2 x3 x4 Z N al ao T CE;have al:=K.re.lt;have ao:=K.re.frozen;obtain⟨y0,y1,y2,y3,y4⟩:=K.re.c5;go_wp2_with fail;refine bp_gen (λ W'=>Below w.heap.size w W'∧RowB W' (w.heap.size+1) 56 [.int .i64 0,.int .i64 0,.int .i64 0,.slice none 0 0,.int .i64 0]) ⟨below_five K.bel (by omega) _ _ _ _ _,TxI.five K.re _ _ _ _ _⟩ ?_;rintro w8 ⟨ah,r8⟩;obtain⟨z0,z1,z2,z3,z4⟩:=r8.c5;refine bodyPost_ret (v:=.tuple #[.agg #[.int .i64 0,.int .i64 0,.int .i64 0,.slice none 0 0,.int .i64 0],.bool false]) (by simp [results,Tryz.results17,go_sem,z0,z1,z2,z3,z4]) rfl ?_;exact⟨0,0,0,_,[],0,false,rfl,OwnS.nil_ _ _ _ _ _ _,ah,rfl,rfl,rfl,rfl,rfl,rfl⟩
end TsI
end Go.Proofs.YtblipmifflfnoaaGreatDoor
