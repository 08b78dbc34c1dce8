/- Parts of the proof of FnExactReadMatch. Conditions: each theorem's own. -/
import Derived.Test.YtblipmifflfnoaaGreatDoorQ32
import Derived.Test.YtblipmifflfnoaaGreatDoorQ35
set_option linter.unusedVariables false
set_option linter.unusedSimpArgs false
set_option maxHeartbeats 8000000
set_option maxRecDepth 100000
namespace Go.Proofs.YtblipmifflfnoaaGreatDoor
namespace Gm
open Go Go.ChangeShapes Go.WideShapes Go.ChangeAt Go.RowKit Base Ints Own RelG PlP TxP Num Bd1 Bd5 RegInv RegF RegG TxI TsI
def HdR (o:Option (Vr × Int)) (w:World) (e:Ending) (w':World):Prop :=
 ∃(p c h s n:Int) (ok:Bool),e=.returned (.tuple #[.agg #[.int .i64 p,.int .i64 c,.int .i64 h,.int .i64 s,.int .i64 n,.slice none 0 0],.bool ok])∧Below w.heap.size w w'∧(if ok=true then o=some (⟨p,c,h,s⟩,n) else o=none)
theorem list3 {α:Type} {X:List α} (h:X.length=3):∃ a b c,X=[a,b,c]:=by
 match X,h with
 | [a,b,c],_=>exact⟨a,b,c,rfl⟩
theorem words3 {w:World} {B:Nat} {A:Option Addr} {a b c:By} (h:RdS w B 1 enBs A [a,b,c]):∃ g o,A=some ⟨g,o,none⟩∧g<B∧w.cell? ⟨g,o,none⟩=some (.string (bs a))∧w.cell? ⟨g,o+1,none⟩=some (.string (bs b))∧w.cell? ⟨g,o+2,none⟩=some (.string (bs c)):=by
 obtain⟨g,o,rfl,e,d⟩:=h.2 (by simp);refine⟨g,o,rfl,e,?_,?_,?_⟩
 ·simpa using d 0 a rfl 0 _ rfl
 ·simpa using d 1 b rfl 0 _ rfl
 ·simpa using d 2 c rfl 0 _ rfl
theorem rhead_i (t:By) (hl:t.length<=4194304) (w:World) (E:Env w) :
  Calls Tryz.prog 20 #[.string (bs t)] w λ e w'=>HdR (rdH t) w e w':=by
 have hV:rdH t=match spl 32 t with
  | [a,b,c]=>if a=maW then (match rdV b,decO c with
   | some v,some n=>if headB v n=true then some (v,n) else none
   | _,_=>none) else none
  | _=>none:=rfl
 have CS:=kD (λ(m:World) (E9:Env m)=>split_w t 32 hl m E9);have T:∀ x ∈ spl 32 t,x.length<=t.length:=spl_mem_len 32 t;obtain⟨O,hO⟩:∃ o,spl 32 t=o:=⟨_,rfl⟩;rw [hO] at CS hV T;obtain⟨R,hR⟩:∃ x,rdH t=x:=⟨_,rfl⟩;rw [hR] at hV ⊢;have Z:=kD hV;have CR:=kD (λ(x:By) (S:x ∈ O) (m:World) (E9:Env m)=>rvar_i x (Nat.le_trans (T x S) hl) m E9);have CD:=kD (λ(x:By) (S:x ∈ O) (m:World) (E9:Env m)=>rdd_w x (Nat.le_trans (T x S) hl) m E9);clear hV hO hR hl T;go_enter Tryz.func20,Tryz.ntmps20;go_upto_region 1 with fail;refine wp_gen (λ Y=>Rows w Y [(0,26,[.int .i64 0,.int .i64 0,.int .i64 0,.int .i64 0,.int .i64 0,.slice none 0 0])]) ⟨by go_grown,λ p hp=>?_⟩ ?_
 ·obtain rfl:=List.mem_singleton.1 hp;exact RowB.new _ _ _
 intro w1 K;go_wp2_with fail;refine(CS.out _ (E.below K.bel)).mono ?_;rintro e w2 ⟨A,cp,rfl,H,J⟩;have K:=K.below J;have G:=(K.nth0 0 rfl).lt;have an:=H.len;clear J CS;by_cases S:O.length=3
 case neg =>
  have e1:((O.length:Int) != 3)=true:=by simp;omega
  obtain⟨nx,aa⟩:∃ n,O.length=n:=⟨_,rfl⟩;rw [aa] at e1 an;rw [aa];have hn:none=R:=by
   rw [Z.out]
   match O,S with
   | [],_=>rfl
   | [a],_=>rfl
   | [a,b],_=>rfl
   | [a,b,c],h=>exact absurd rfl h
   | a :: b :: c :: f :: l,_=>rfl
  subst hn;clear Z H aa S CR CD;have rr:=K.nth0 0 rfl;go_wp2_with (refine wM 26 0 [.int .i64 0,.int .i64 0,.int .i64 0,.int .i64 0,.int .i64 0,.slice none 0 0] rr ?_;intro w7 s7 M z7;refine Hid.out ?_);have ad:=(K.grown 0 s7 M).bel;obtain⟨z0,z1,z2,z3,z4,z5⟩:=s7.c6;have ao:=s7.lt;clear M rr K G;refine kD ?_
  repeat (first | go_values | go_skip | go_step | go_upon)
  refine bodyPost_ret (v:=.tuple #[.agg #[.int .i64 0,.int .i64 0,.int .i64 0,.int .i64 0,.int .i64 0,.slice none 0 0],.bool false]) (by simp [results,Tryz.results20,go_sem,z0,z1,z2,z3,z4,z5]) rfl ?_;exact⟨0,0,0,0,0,false,rfl,ad,rfl⟩
 obtain⟨x0,x1,x2,rfl⟩:=list3 S;obtain⟨gw,ow,rfl,ap,aq,ac,C⟩:=words3 H;have am:=kD ac;have P:=kD C;have CR:=kD (CR.out x1 (by simp));have CD:=kD (CD.out x2 (by simp));by_cases hma:x0=maW
 rotate_left
 ·have e0:((bs x0).toList == [109,97,116,99,104])=false:=by
   rw [ByteArray.toList_eq,bs_data];exact beq_eq_false_iff_ne.2 (λ h=>hma h)
  have ak:((bs x0).toList != [109,97,116,99,104])=true:=by simp only [bne,e0];rfl
  have hn:none=R:=by rw [Z.out];simp only [if_neg hma]
  subst hn;clear Z H S CR CD am P ac C hma;have rr:=K.nth0 0 rfl;go_wp2_with (refine wM 26 0 [.int .i64 0,.int .i64 0,.int .i64 0,.int .i64 0,.int .i64 0,.slice none 0 0] rr ?_;intro w7 s7 M z7;refine Hid.out ?_);have ad:=(K.grown 0 s7 M).bel;obtain⟨z0,z1,z2,z3,z4,z5⟩:=s7.c6;have ao:=s7.lt;clear M rr K G;refine kD ?_
  repeat (first | go_values | go_skip | go_step | go_upon)
  refine bodyPost_ret (v:=.tuple #[.agg #[.int .i64 0,.int .i64 0,.int .i64 0,.int .i64 0,.int .i64 0,.slice none 0 0],.bool false]) (by simp [results,Tryz.results20,go_sem,z0,z1,z2,z3,z4,z5]) rfl ?_;exact⟨0,0,0,0,0,false,rfl,ad,rfl⟩
 have e0:((bs x0).toList == [109,97,116,99,104])=true:=by rw [ByteArray.toList_eq,bs_data,hma];rfl
 have ak:((bs x0).toList != [109,97,116,99,104])=false:=by simp only [bne,e0];rfl
 have Z:Hid (R=match rdV x1,decO x2 with
   | some v,some n=>if headB v n=true then some (v,n) else none
   | _,_=>none):=by show _=_;rw [Z.out];simp only [if_pos hma]
 clear hma S H;go_wp2_with fail;refine(CR.out _ (E.below K.bel)).mono ?_;rintro e w3 ⟨p,c,h,s,d,rfl,J,ae⟩;have al:=kD ae;have K:=K.below J;have X:gw<w3.heap.size:=by have:=J.size;omega
 have P:Hid (w3.cell? ⟨gw,ow+2,none⟩=_):=kD ((J.cell ap).trans P.out);clear J CR ae aq ac C am e0 ak G;have G:=(K.nth0 0 rfl).lt;have C:=P.out;go_upto_region 5 with fail;refine wp_gen (λ Y=>Rows w Y [(0,26,[.int .i64 0,.int .i64 0,.int .i64 0,.int .i64 0,.int .i64 0,.slice none 0 0])]∧RowB Y w3.heap.size 23 [.int .i64 p,.int .i64 c,.int .i64 h,.int .i64 s]∧Y.cell? ⟨gw,ow+2,none⟩=some (.string (bs x2))) ⟨K.below ((Below.refl _ _).alloc (Nat.le_refl _) _),RowB.new _ _ _,(((Below.refl w3.heap.size w3).alloc (Nat.le_refl _) _).cell X).trans C⟩ ?_;have ah:w.heap.size<w3.heap.size:=G;clear K G C P;obtain⟨g5,ai⟩:∃ q,w3.heap.size=q:=⟨_,rfl⟩;rw [ai] at ah X ⊢;clear ai;rintro w4 ⟨K,Q,C⟩;go_wp2_with fail;refine(CD.out _ (E.below K.bel)).mono ?_;rintro e w5 ⟨rfl,J⟩;have K:=K.below J;have Q:=Q.below J Q.lt;obtain⟨⟨n,g⟩,D⟩:∃ q,rdDec x2=q:=⟨_,rfl⟩;rw [D];have hd:decO x2=if g=true then some n else none:=by unfold decO;rw [D]
 have HD:=kD hd;clear J CD C D hd;simp only;obtain⟨X0,X1,X2,X3⟩:=Q.c4;have I:=Q.lt;go_upto_region 7 with fail;refine wp_gen (λ Y=>Rows w Y [(0,26,[.int .i64 0,.int .i64 0,.int .i64 0,.int .i64 0,.int .i64 0,.slice none 0 0])]∧RowB Y w5.heap.size 26 [.int .i64 p,.int .i64 c,.int .i64 h,.int .i64 s,.int .i64 n,.slice none 0 0]) ⟨K.below ((Below.refl _ _).alloc (Nat.le_refl _) _),RowB.new _ _ _⟩ ?_;have af:w.heap.size<w5.heap.size:=by have:=Q.lt;omega
 clear K Q X0 X1 X2 X3 I;obtain⟨g9,ag⟩:∃ q,w5.heap.size=q:=⟨_,rfl⟩;rw [ag] at af ⊢;clear ag;rintro w6 ⟨K,Q⟩;have N:=kD Q;have W:=kD K;clear K Q;obtain⟨D,ab⟩:∃ q,headB ⟨p,c,h,s⟩ n=q:=⟨_,rfl⟩;have HW:Hid (R=if (d && g && D)=true then some (⟨p,c,h,s⟩,n) else none):=by
  show _=_
  have h1:=al.out;have h2:=HD.out;rw [Z.out,h2]
  cases d with
  | false=>rw [show rdV x1=none from h1];rfl
  | true =>
   rw [show rdV x1=some ⟨p,c,h,s⟩ from h1]
   cases g with
   | false=>rfl
   | true=>simp only [if_true,ab,Bool.true_and]
 have CH:=kD (λ m=>head_i ⟨p,c,h,s⟩ n (.slice none 0 0) D ab m);simp only at CH;clear ab Z al HD;refine region_fix [some 39,some 40,some 41,some 42,some 43,some 44,some 45,some 46,some 47,none,some 3] (λ j_=>([.agg #[.int .i64 p,.int .i64 c,.int .i64 h,.int .i64 s,.int .i64 n,.slice none 0 0],.bool d,.bool d,(bif d == true then .bool g else undef),.bool (d && g),.bool (d && g),(bif (d && g) == true then .agg #[.int .i64 p,.int .i64 c,.int .i64 h,.int .i64 s,.int .i64 n,.slice none 0 0] else undef),(bif (d && g) == true then .bool D else undef),.bool (d && g && D),undef,.bool (d && g && D)]:List Value).getD j_ undef) (λ L w'=>StF w6 w.heap.size 26 [.int .i64 0,.int .i64 0,.int .i64 0,.int .i64 0,.int .i64 0,.slice none 0 0] [.int .i64 p,.int .i64 c,.int .i64 h,.int .i64 s,.int .i64 n,.slice none 0 0] 9 L w') (by kernel_rfl) (by kernel_rfl) (by kernel_rfl) (by kernel_rfl) (by first | kernel_rfl | rfl) (by first | kernel_rfl | rfl) ?hB1 ?hBL1 ?hst1 ?fin1
 case hB1=>exact⟨⟨rfl,rfl,rfl,Nat.le_refl _,λ _ _ _=>rfl⟩,⟨_,rfl,(W.out.nth0 0 rfl).drew⟩,λ h=>h.elim⟩
 case hBL1=>exact λ _ _ _ h F=>F.of (h 9 (by decide)).2
 case hst1 =>
  refine FixFrom.run rfl rfl (λ L A m z r y i K B=>?_) ?_
  ·have e9:A.tmps[9]?.getD undef=.pointer (some ⟨g9,0,none⟩):=y 9 (by decide);clear r y
   cases d <;> cases g <;>
    (have j:=N.out.grown i.bel (λ k V=>by simp at V;omega)
     have X0:=j.cell 0;have X1:=j.cell 1;have X2:=j.cell 2;have X3:=j.cell 3;have X4:=j.cell 4;have X5:=j.cell 5;have I:=j.lt;clear j;go_simp;exact B.out m (i.skip 0 (by decide)))
  refine FixFrom.run rfl rfl (λ L A m z r y i K B=>?_) ?_
  ·have e6:A.tmps[6]?.getD undef=.bool d:=y 6 (by decide);clear r y
   cases d <;> cases g <;>
    (go_simp
     exact B.out m (i.skip 1 (by decide)))
  refine FixFrom.run rfl rfl (λ L A m z r y i K B=>?_) ?_
  ·have aE:A.tmps[40]?.getD undef=.bool d:=gu r 1 40;clear r y
   cases d <;> cases g <;>
    (go_simp
     exact B.out m (i.skip 2 (by decide)))
  refine FixFrom.gd (d == true) rfl rfl (by cases d <;> cases g <;> first | exact λ _=>rfl | exact λ h=>absurd h (by decide)) (λ _ _ F=>F.skip _ (by decide)) (λ hw L A m z r y i K B=>?_) ?_
  ·have e8:A.tmps[8]?.getD undef=.bool g:=y 8 (by decide);clear r y
   cases d <;> cases g <;> first
    | exact absurd hw (by decide)
    | (go_simp
       exact B.out m (i.skip 3 (by decide)))
  refine FixFrom.run rfl rfl (λ L A m z r y i K B=>?_) ?_
  ·have aD:A.tmps[41]?.getD undef=.bool d:=gu r 2 41;have aC:A.tmps[42]?.getD undef=(bif d == true then .bool g else undef):=gu r 3 42;clear r y
   cases d <;> cases g <;>
    (go_simp
     exact B.out m (i.skip 4 (by decide)))
  refine FixFrom.run rfl rfl (λ L A m z r y i K B=>?_) ?_
  ·have aB:A.tmps[43]?.getD undef=.bool (d && g):=gu r 4 43;clear r y
   cases d <;> cases g <;>
    (go_simp
     exact B.out m (i.skip 5 (by decide)))
  refine FixFrom.gd ((d && g) == true) rfl rfl (by cases d <;> cases g <;> first | exact λ _=>rfl | exact λ h=>absurd h (by decide)) (λ _ _ F=>F.skip _ (by decide)) (λ hw L A m z r y i K B=>?_) ?_
  ·have e9:A.tmps[9]?.getD undef=.pointer (some ⟨g9,0,none⟩):=y 9 (by decide);clear r y
   cases d <;> cases g <;> first
    | exact absurd hw (by decide)
    | (have j:=N.out.grown i.bel (λ k V=>by simp at V;omega)
       have X0:=j.cell 0;have X1:=j.cell 1;have X2:=j.cell 2;have X3:=j.cell 3;have X4:=j.cell 4;have X5:=j.cell 5;have I:=j.lt;clear j;go_simp;exact B.out m (i.skip 6 (by decide)))
  refine FixFrom.gd ((d && g) == true) rfl rfl (by cases d <;> cases g <;> first | exact λ _=>rfl | exact λ h=>absurd h (by decide)) (λ _ _ F=>F.skip _ (by decide)) (λ hw L A m z r y i K B=>?_) ?_
  ·have az:A.tmps[45]?.getD undef=(bif (d && g) == true then .agg #[.int .i64 p,.int .i64 c,.int .i64 h,.int .i64 s,.int .i64 n,.slice none 0 0] else undef):=gu r 6 45;clear r y
   cases d <;> cases g <;> first
    | exact absurd hw (by decide)
    | (have j:=N.out.grown i.bel (λ k V=>by simp at V;omega)
       have X0:=j.cell 0;have X1:=j.cell 1;have X2:=j.cell 2;have X3:=j.cell 3;have X4:=j.cell 4;have X5:=j.cell 5;have I:=j.lt;clear j;go_simp;refine(CH.out m).mono ?_;rintro e w6 ⟨rfl,av⟩;exact B.out _ (i.call 7 (by decide) av))
  refine FixFrom.run rfl rfl (λ L A m z r y i K B=>?_) ?_
  ·have aA:A.tmps[44]?.getD undef=.bool (d && g):=gu r 5 44;have ay:A.tmps[46]?.getD undef=(bif (d && g) == true then .bool D else undef):=gu r 7 46;clear r y
   cases d <;> cases g <;>
    (go_simp
     exact B.out m (i.skip 8 (by decide)))
  refine FixFrom.run rfl rfl (λ L A m z r y i K B=>?_) ?_
  ·have e2:A.tmps[2]?.getD undef=.pointer (some ⟨w.heap.size,0,none⟩):=y 2 (by decide);have aw:A.tmps[39]?.getD undef=.agg #[.int .i64 p,.int .i64 c,.int .i64 h,.int .i64 s,.int .i64 n,.slice none 0 0]:=gu r 0 39;clear r y
   cases d <;> cases g <;>
    (have j:=N.out.grown i.bel (λ k V=>by simp at V;omega)
     have X0:=j.cell 0;have X1:=j.cell 1;have X2:=j.cell 2;have X3:=j.cell 3;have X4:=j.cell 4;have X5:=j.cell 5;have I:=j.lt;clear j;refine i.row.elim λ cs qc=>?_
     have aj:cs.length=6:=qc.1;refine wp_sm 26 _ _ rfl w.heap.size 0 [.int .i64 p,.int .i64 c,.int .i64 h,.int .i64 s,.int .i64 n,.slice none 0 0] cs (ev e2) (ev aw) 26 qc.2 (by kernel_rfl) (Nat.le_of_eq aj.symm) rfl ?_;exact B.out _ (i.wrote rfl aj qc.2))
  refine FixFrom.run rfl rfl (λ L A m z r y i K B=>?_) ?_
  ·have ax:A.tmps[47]?.getD undef=.bool (d && g && D):=gu r 8 47;clear r y
   cases d <;> cases g <;>
    (go_simp
     exact B.out m (i.skip 10 (by decide)))
  exact FixFrom.nil (by decide)
 intro m i;simp only [Fr,Act.put,sX,Nat.reduceAdd,List.getD_cons_zero,List.getD_cons_succ];have r8:=i.fw trivial;have ar:Below w.heap.size w m:=W.out.bel.grown i.bel W.out.bel.size (λ k V=>by simp at V;omega);clear i W N;go_wp2_with fail;obtain⟨z0,z1,z2,z3,z4,z5⟩:=r8.c6;refine bodyPost_ret (v:=.tuple #[.agg #[.int .i64 p,.int .i64 c,.int .i64 h,.int .i64 s,.int .i64 n,.slice none 0 0],.bool (d && g && D)]) (by simp [results,Tryz.results20,go_sem,z0,z1,z2,z3,z4,z5]) rfl ?_;refine⟨p,c,h,s,n,d && g && D,rfl,ar,?_⟩;rw [HW.out]
 cases d <;> cases g <;> cases D <;> rfl
theorem rhead_s (t:By) (hl:t.length<=4194304) (w:World) :
  Calls Tryz.prog 15 #[.string (bs t)] w λ e w'=>HdR (rdHS t) w e w':=by
 have hV:rdHS t=match spl 32 t with
  | [a,b,c]=>if a=maW then (match rdV b with
   | some v=>if (valS c).2=true∧headB v (valS c).1=true then some (v,(valS c).1) else none
   | none=>none) else none
  | _=>none:=rfl
 have CS:=kD (λ(m:World)=>split_s t 32 32 rfl hl m);have Q:∀ x ∈ spl 32 t,x.length<=t.length:=spl_mem_len 32 t;obtain⟨O,hO⟩:∃ o,spl 32 t=o:=⟨_,rfl⟩;rw [hO] at CS hV Q;obtain⟨R,hR⟩:∃ x,rdHS t=x:=⟨_,rfl⟩;rw [hR] at hV ⊢;have N:=kD hV;have CR:=kD (λ(x:By) (P:x ∈ O) (m:World)=>rvar_s x (Nat.le_trans (Q x P) hl) m);have CD:=kD (λ(x:By) (P:x ∈ O) (m:World)=>val_s x (Nat.le_trans (Q x P) hl) m);clear hV hO hR hl Q;go_enter Tryz.func15,Tryz.ntmps15;go_upto_region 1 with fail;refine wp_gen (λ W'=>Rows w W' [(0,26,[.int .i64 0,.int .i64 0,.int .i64 0,.int .i64 0,.int .i64 0,.slice none 0 0])]) ⟨by go_grown,λ p hp=>?_⟩ ?_
 ·obtain rfl:=List.mem_singleton.1 hp;exact RowB.new _ _ _
 intro w1 K;go_wp2_with fail;refine(CS.out _).mono ?_;rintro e w2 ⟨sv,rfl,af,H⟩;obtain⟨A,cp,am,G⟩:=af.form (λ x=>(rfl:(enBs x).length=1));subst am;have K:=K.below H;have E:=(K.nth0 0 rfl).lt;have an:=G.len;clear H CS af;by_cases P:O.length=3
 case neg =>
  have e1:((O.length:Int) != 3)=true:=by simp;omega
  obtain⟨nx,aa⟩:∃ n,O.length=n:=⟨_,rfl⟩;rw [aa] at e1 an;rw [aa];have hn:none=R:=by
   rw [N.out]
   match O,P with
   | [],_=>rfl
   | [a],_=>rfl
   | [a,b],_=>rfl
   | [a,b,c],h=>exact absurd rfl h
   | a :: b :: c :: f :: l,_=>rfl
  subst hn;clear N G aa P CR CD;have rr:=K.nth0 0 rfl;go_wp2_with (refine wM 26 0 [.int .i64 0,.int .i64 0,.int .i64 0,.int .i64 0,.int .i64 0,.slice none 0 0] rr ?_;intro w7 X I z7;refine Hid.out ?_);have ae:=(K.grown 0 X I).bel;obtain⟨z0,z1,z2,z3,z4,z5⟩:=X.c6;have ao:=X.lt;clear I rr K E;refine kD ?_
  repeat (first | go_values | go_skip | go_step | go_upon)
  refine bodyPost_ret (v:=.tuple #[.agg #[.int .i64 0,.int .i64 0,.int .i64 0,.int .i64 0,.int .i64 0,.slice none 0 0],.bool false]) (by simp [results,Tryz.results15,go_sem,z0,z1,z2,z3,z4,z5]) rfl ?_;exact⟨0,0,0,0,0,false,rfl,ae,rfl⟩
 obtain⟨x0,x1,x2,rfl⟩:=list3 P;obtain⟨gw,ow,rfl,ap,aq,ad,C⟩:=words3 G;have al:=kD ad;have M:=kD C;have CR:=kD (CR.out x1 (by simp));have CD:=kD (CD.out x2 (by simp));by_cases hma:x0=maW
 rotate_left
 ·have e0:((bs x0).toList == [109,97,116,99,104])=false:=by
   rw [ByteArray.toList_eq,bs_data];exact beq_eq_false_iff_ne.2 (λ h=>hma h)
  have aj:((bs x0).toList != [109,97,116,99,104])=true:=by simp only [bne,e0];rfl
  have hn:none=R:=by rw [N.out];simp only [if_neg hma]
  subst hn;clear N G P CR CD al M ad C hma;have rr:=K.nth0 0 rfl;go_wp2_with (refine wM 26 0 [.int .i64 0,.int .i64 0,.int .i64 0,.int .i64 0,.int .i64 0,.slice none 0 0] rr ?_;intro w7 X I z7;refine Hid.out ?_);have ae:=(K.grown 0 X I).bel;obtain⟨z0,z1,z2,z3,z4,z5⟩:=X.c6;have ao:=X.lt;clear I rr K E;refine kD ?_
  repeat (first | go_values | go_skip | go_step | go_upon)
  refine bodyPost_ret (v:=.tuple #[.agg #[.int .i64 0,.int .i64 0,.int .i64 0,.int .i64 0,.int .i64 0,.slice none 0 0],.bool false]) (by simp [results,Tryz.results15,go_sem,z0,z1,z2,z3,z4,z5]) rfl ?_;exact⟨0,0,0,0,0,false,rfl,ae,rfl⟩
 have e0:((bs x0).toList == [109,97,116,99,104])=true:=by rw [ByteArray.toList_eq,bs_data,hma];rfl
 have aj:((bs x0).toList != [109,97,116,99,104])=false:=by simp only [bne,e0];rfl
 have N:Hid (R=match rdV x1 with
   | some v=>if (valS x2).2=true∧headB v (valS x2).1=true then some (v,(valS x2).1) else none
   | none=>none):=by show _=_;rw [N.out];simp only [if_pos hma]
 clear hma P G;go_wp2_with fail;refine(CR.out _).mono ?_;rintro e W ⟨p,c,h,s,d,rfl,H,Z⟩;rw [rdVS_eq] at Z;have ak:=kD Z;have K:=K.below H;have V:gw<W.heap.size:=by have:=H.size;omega
 have M:Hid (W.cell? ⟨gw,ow+2,none⟩=_):=kD ((H.cell ap).trans M.out);clear H CR Z aq ad C al e0 aj E;have E:=(K.nth0 0 rfl).lt;have C:=M.out;go_upto_region 5 with fail;refine wp_gen (λ W'=>Rows w W' [(0,26,[.int .i64 0,.int .i64 0,.int .i64 0,.int .i64 0,.int .i64 0,.slice none 0 0])]∧RowB W' W.heap.size 23 [.int .i64 p,.int .i64 c,.int .i64 h,.int .i64 s]∧W'.cell? ⟨gw,ow+2,none⟩=some (.string (bs x2))) ⟨K.below ((Below.refl _ _).alloc (Nat.le_refl _) _),RowB.new _ _ _,(((Below.refl W.heap.size W).alloc (Nat.le_refl _) _).cell V).trans C⟩ ?_;have ag:w.heap.size<W.heap.size:=E;clear K E C M;obtain⟨g5,ah⟩:∃ q,W.heap.size=q:=⟨_,rfl⟩;rw [ah] at ag V ⊢;clear ah;rintro w4 ⟨K,RX,C⟩;go_wp2_with fail;refine(CD.out _).mono ?_;rintro e w5 ⟨rfl,H⟩;have K:=K.below H;have RX:=RX.below H RX.lt;obtain⟨⟨n,g⟩,D⟩:∃ q,valS x2=q:=⟨_,rfl⟩;rw [D];rw [D] at N;simp only at N;clear H CD C D;simp only;go_upto_region 6 with fail;have J:=kD RX;have T:=kD K;clear K RX;obtain⟨D,ac⟩:∃ q,headB ⟨p,c,h,s⟩ n=q:=⟨_,rfl⟩;have HW:Hid (R=if (d && g && D)=true then some (⟨p,c,h,s⟩,n) else none):=by
  show _=_
  have h1:=ak.out;rw [N.out]
  cases d with
  | false=>rw [show rdV x1=none from h1];rfl
  | true =>
   rw [show rdV x1=some ⟨p,c,h,s⟩ from h1]
   cases g with
   | false=>simp
   | true=>simp only [ac,true_and,Bool.true_and]
 have CH:=kD (λ m=>head_s ⟨p,c,h,s⟩ n D ac m);simp only at CH;clear ac N ak;refine region_fix [some 35,some 36,some 37,some 38,some 39,some 40,some 41,some 42,some 43,some 44,some 45,some 46,none,some 3] (λ j_=>([.agg #[.int .i64 p,.int .i64 c,.int .i64 h,.int .i64 s],.int .i64 n,.agg #[.int .i64 p,.int .i64 c,.int .i64 h,.int .i64 s,.int .i64 n,.slice none 0 0],.bool d,.bool d,(bif d == true then .bool g else undef),.bool (d && g),.bool (d && g),(bif (d && g) == true then .agg #[.int .i64 p,.int .i64 c,.int .i64 h,.int .i64 s] else undef),(bif (d && g) == true then .int .i64 n else undef),(bif (d && g) == true then .bool D else undef),.bool (d && g && D),undef,.bool (d && g && D)]:List Value).getD j_ undef) (λ L w'=>StF w5 w.heap.size 26 [.int .i64 0,.int .i64 0,.int .i64 0,.int .i64 0,.int .i64 0,.slice none 0 0] [.int .i64 p,.int .i64 c,.int .i64 h,.int .i64 s,.int .i64 n,.slice none 0 0] 12 L w') (by kernel_rfl) (by kernel_rfl) (by kernel_rfl) (by kernel_rfl) (by first | kernel_rfl | rfl) (by first | kernel_rfl | rfl) ?hB2 ?hBL2 ?hst2 ?fin2
 case hB2=>exact⟨⟨rfl,rfl,rfl,Nat.le_refl _,λ _ _ _=>rfl⟩,⟨_,rfl,(T.out.nth0 0 rfl).drew⟩,λ h=>h.elim⟩
 case hBL2=>exact λ _ _ _ h F=>F.of (h 12 (by decide)).2
 case hst2 =>
  refine FixFrom.run rfl rfl (λ L A m z j r i K B=>?_) ?_
  ·have e5:A.tmps[5]?.getD undef=.pointer (some ⟨g5,0,none⟩):=r 5 (by decide);clear j r
   cases d <;> cases g <;>
    (have y:=J.out.grown i.bel (λ k S=>by simp at S;omega)
     have X0:=y.cell 0;have X1:=y.cell 1;have X2:=y.cell 2;have X3:=y.cell 3;have ab:=y.lt;clear y;go_simp;exact B.out m (i.skip 0 (by decide)))
  refine FixFrom.run rfl rfl (λ L A m z j r i K B=>?_) ?_
  ·have e7:A.tmps[7]?.getD undef=.int .i64 n:=r 7 (by decide);clear j r;go_simp;exact B.out m (i.skip 1 (by decide))
  refine FixFrom.run rfl rfl (λ L A m z j r i K B=>?_) ?_
  ·have aH:A.tmps[35]?.getD undef=.agg #[.int .i64 p,.int .i64 c,.int .i64 h,.int .i64 s]:=gu j 0 35;have aG:A.tmps[36]?.getD undef=.int .i64 n:=gu j 1 36;clear j r
   cases d <;> cases g <;>
    (go_simp
     exact B.out m (i.skip 2 (by decide)))
  refine FixFrom.run rfl rfl (λ L A m z j r i K B=>?_) ?_
  ·have e6:A.tmps[6]?.getD undef=.bool d:=r 6 (by decide);clear j r
   cases d <;> cases g <;>
    (go_simp
     exact B.out m (i.skip 3 (by decide)))
  refine FixFrom.run rfl rfl (λ L A m z j r i K B=>?_) ?_
  ·have aF:A.tmps[38]?.getD undef=.bool d:=gu j 3 38;clear j r
   cases d <;> cases g <;>
    (go_simp
     exact B.out m (i.skip 4 (by decide)))
  refine FixFrom.gd (d == true) rfl rfl (by cases d <;> cases g <;> first | exact λ _=>rfl | exact λ h=>absurd h (by decide)) (λ _ _ F=>F.skip _ (by decide)) (λ Y L A m z j r i K B=>?_) ?_
  ·have e8:A.tmps[8]?.getD undef=.bool g:=r 8 (by decide);clear j r
   cases d <;> cases g <;> first
    | exact absurd Y (by decide)
    | (go_simp
       exact B.out m (i.skip 5 (by decide)))
  refine FixFrom.run rfl rfl (λ L A m z j r i K B=>?_) ?_
  ·have aE:A.tmps[39]?.getD undef=.bool d:=gu j 4 39;have aD:A.tmps[40]?.getD undef=(bif d == true then .bool g else undef):=gu j 5 40;clear j r
   cases d <;> cases g <;>
    (go_simp
     exact B.out m (i.skip 6 (by decide)))
  refine FixFrom.run rfl rfl (λ L A m z j r i K B=>?_) ?_
  ·have aC:A.tmps[41]?.getD undef=.bool (d && g):=gu j 6 41;clear j r
   cases d <;> cases g <;>
    (go_simp
     exact B.out m (i.skip 7 (by decide)))
  refine FixFrom.gd ((d && g) == true) rfl rfl (by cases d <;> cases g <;> first | exact λ _=>rfl | exact λ h=>absurd h (by decide)) (λ _ _ F=>F.skip _ (by decide)) (λ Y L A m z j r i K B=>?_) ?_
  ·have e5:A.tmps[5]?.getD undef=.pointer (some ⟨g5,0,none⟩):=r 5 (by decide);clear j r
   cases d <;> cases g <;> first
    | exact absurd Y (by decide)
    | (have y:=J.out.grown i.bel (λ k S=>by simp at S;omega)
       have X0:=y.cell 0;have X1:=y.cell 1;have X2:=y.cell 2;have X3:=y.cell 3;have ab:=y.lt;clear y;go_simp;exact B.out m (i.skip 8 (by decide)))
  refine FixFrom.gd ((d && g) == true) rfl rfl (by cases d <;> cases g <;> first | exact λ _=>rfl | exact λ h=>absurd h (by decide)) (λ _ _ F=>F.skip _ (by decide)) (λ Y L A m z j r i K B=>?_) ?_
  ·have e7:A.tmps[7]?.getD undef=.int .i64 n:=r 7 (by decide);clear j r
   cases d <;> cases g <;> first
    | exact absurd Y (by decide)
    | (go_simp
       exact B.out m (i.skip 9 (by decide)))
  refine FixFrom.gd ((d && g) == true) rfl rfl (by cases d <;> cases g <;> first | exact λ _=>rfl | exact λ h=>absurd h (by decide)) (λ _ _ F=>F.skip _ (by decide)) (λ Y L A m z j r i K B=>?_) ?_
  ·have aA:A.tmps[43]?.getD undef=(bif (d && g) == true then .agg #[.int .i64 p,.int .i64 c,.int .i64 h,.int .i64 s] else undef):=gu j 8 43;have az:A.tmps[44]?.getD undef=(bif (d && g) == true then .int .i64 n else undef):=gu j 9 44;clear j r
   cases d <;> cases g <;> first
    | exact absurd Y (by decide)
    | (have y:=J.out.grown i.bel (λ k S=>by simp at S;omega)
       have X0:=y.cell 0;have X1:=y.cell 1;have X2:=y.cell 2;have X3:=y.cell 3;have ab:=y.lt;clear y;go_simp;refine(CH.out m).mono ?_;rintro e w6 ⟨rfl,av⟩;exact B.out _ (i.call 10 (by decide) av))
  refine FixFrom.run rfl rfl (λ L A m z j r i K B=>?_) ?_
  ·have aB:A.tmps[42]?.getD undef=.bool (d && g):=gu j 7 42;have ay:A.tmps[45]?.getD undef=(bif (d && g) == true then .bool D else undef):=gu j 10 45;clear j r
   cases d <;> cases g <;>
    (go_simp
     exact B.out m (i.skip 11 (by decide)))
  refine FixFrom.run rfl rfl (λ L A m z j r i K B=>?_) ?_
  ·have e2:A.tmps[2]?.getD undef=.pointer (some ⟨w.heap.size,0,none⟩):=r 2 (by decide);have aw:A.tmps[37]?.getD undef=.agg #[.int .i64 p,.int .i64 c,.int .i64 h,.int .i64 s,.int .i64 n,.slice none 0 0]:=gu j 2 37;clear j r
   cases d <;> cases g <;>
    (have y:=J.out.grown i.bel (λ k S=>by simp at S;omega)
     have X0:=y.cell 0;have X1:=y.cell 1;have X2:=y.cell 2;have X3:=y.cell 3;have ab:=y.lt;clear y;refine i.row.elim λ cs qc=>?_
     have ai:cs.length=6:=qc.1;refine wp_sm 26 _ _ rfl w.heap.size 0 [.int .i64 p,.int .i64 c,.int .i64 h,.int .i64 s,.int .i64 n,.slice none 0 0] cs (ev e2) (ev aw) 26 qc.2 (by kernel_rfl) (Nat.le_of_eq ai.symm) rfl ?_;exact B.out _ (i.wrote rfl ai qc.2))
  refine FixFrom.run rfl rfl (λ L A m z j r i K B=>?_) ?_
  ·have ax:A.tmps[46]?.getD undef=.bool (d && g && D):=gu j 11 46;clear j r
   cases d <;> cases g <;>
    (go_simp
     exact B.out m (i.skip 13 (by decide)))
  exact FixFrom.nil (by decide)
 intro m i;simp only [Fr,Act.put,sX,Nat.reduceAdd,List.getD_cons_zero,List.getD_cons_succ];have r8:=i.fw trivial;have ar:Below w.heap.size w m:=T.out.bel.grown i.bel T.out.bel.size (λ k S=>by simp at S;omega);clear i T J;go_wp2_with fail;obtain⟨z0,z1,z2,z3,z4,z5⟩:=r8.c6;refine bodyPost_ret (v:=.tuple #[.agg #[.int .i64 p,.int .i64 c,.int .i64 h,.int .i64 s,.int .i64 n,.slice none 0 0],.bool (d && g && D)]) (by simp [results,Tryz.results15,go_sem,z0,z1,z2,z3,z4,z5]) rfl ?_;refine⟨p,c,h,s,n,d && g && D,rfl,ar,?_⟩;rw [HW.out]
 cases d <;> cases g <;> cases D <;> rfl
abbrev ERow:=Int × Int × Int × Value × Int
def enEv (r:ERow):List Value:=[.int .i64 r.1,.int .i64 r.2.1,.int .i64 r.2.2.1,r.2.2.2.1,.int .i64 r.2.2.2.2]
theorem enEv_len (r:ERow):(enEv r).length=5:=rfl
theorem one_Ev (r:ERow) (h:r.2.2.2.1.oneCell'=true):∀ u ∈ enEv r,u.oneCell'=true:=by
 intro u a;simp [enEv] at a;rcases a with rfl | rfl | rfl | rfl | rfl
 ·rfl
 ·rfl
 ·rfl
 ·exact h
 ·rfl
theorem infoE:(Tryz.prog.info? 56).map (λ i=>(i.zero,i.size,i.bytes))=some (some (.agg #[.int .i64 0,.int .i64 0,.int .i64 0,.slice none 0 0,.int .i64 0]),5,56):=by kernel_rfl
def RelEv:Rel ERow Ev where
 R:=λ w S r x=>(r.1=x.k∧r.2.1=x.a∧r.2.2.1=x.b∧r.2.2.2.2=x.r)∧OwnV 135 4 enSt w S r.2.2.2.1 x.ss
 keep:=λ h hs=>⟨h.1,(relO 135 4 enSt).keep h.2 hs⟩
 weak:=λ h hs=>⟨h.1,(relO 135 4 enSt).weak h.2 hs⟩
def Evs (w:World) (lo:Nat) (ev:Value) (es:List Ev):Prop :=
 ∃ rs:List ERow,OwnS w lo w.heap.size 56 5 enEv ev rs∧LsR RelEv w (NotIn ev lo) rs es∧rs.Pairwise (λ r q=>Apart r.2.2.2.1 q.2.2.2.1)
theorem Evs.nil (w:World) (lo:Nat):Evs w lo (.slice none 0 0) []:=⟨[],OwnS.nil_ _ _ _ _ _ _,LsR.nil _ _ _,List.Pairwise.nil⟩
section
variable {w w':World} {lo:Nat} {ev:Value} {es:List Ev}
theorem Evs.below (h:Evs w lo ev es) (hb:Below w.heap.size w w'):Evs w' lo ev es:=by
 obtain⟨a,d,c,b⟩:=h;exact⟨a,(d.below hb (Nat.le_refl _)).more hb.size,c.keep (.below hb),b⟩
theorem Evs.low {g:Nat} (h:Evs w lo ev es) (hg:w.grownBy w' (some g)) (hl:g<lo):Evs w' lo ev es:=by
 obtain⟨b,f,e,d⟩:=h;exact⟨b,(f.grown hg (λ k a=>by simp at a;omega)).more hg.size,e.keep (Still.grown hg (λ k a c=>by simp at a;have:=c.2;omega)),d⟩
theorem Evs.less {lo':Nat} (h:Evs w lo ev es) (hl:lo'<=lo):Evs w lo' ev es:=by
 obtain⟨c,f,e,d⟩:=h;exact⟨c,f.less hl,e.weak (λ b a _=>⟨a.1,by have:=a.2;omega⟩),d⟩
theorem Evs.form (h:Evs w lo ev es):∃ A c,ev=.slice A es.length c:=by
 obtain⟨d,b,a,f⟩:=h;obtain⟨A,c,e,-⟩:=b.form enEv_len;exact⟨A,c,by rw [e,a.1]⟩
theorem Evs.app {w4 w6:World} {gl:Nat} (H:Evs w4 lo ev es) (hlo:lo<=w4.heap.size) (hb:w4.grownBy w6 (some gl)) (hgl:gl<lo) (k a b r:Int) (sv:Value) (ss:List Stp) (hs:OwnS w6 w4.heap.size w6.heap.size 135 4 enSt sv ss) :
  ∃ rs:List ERow,OwnS w6 lo w6.heap.size 56 5 enEv ev rs∧rs.length=es.length∧∀ g n c w7,OwnS w7 lo w7.heap.size 56 5 enEv (.slice (some ⟨g,0,none⟩) n c) (rs++[(k,a,b,sv,r)])->w6.grownBy w7 ev.ownBlock->(ev.ownBlock=some g∨g=w6.heap.size)->Evs w7 lo (.slice (some ⟨g,0,none⟩) n c) (es++[⟨k,a,b,ss,r⟩]):=by
 obtain⟨rs,w,t,I⟩:=H;have s:∀ g,ev.ownBlock=some g->g<w4.heap.size:=λ g f=>(w.block g f).2
 refine⟨rs,(w.grown hb (λ k m=>by simp at m;omega)).more hb.size,t.1,λ g n c w7 D f d=>?_⟩;have v:=t.keep (Still.grown hb (λ k m E=>by simp at m;have:=E.2;omega));have B:RelEv.R w6 (NotIn ev lo) (k,a,b,sv,r) ⟨k,a,b,ss,r⟩:=⟨⟨rfl,rfl,rfl,rfl⟩,OwnV.of hs (Nat.le_refl _) (λ L K J=>⟨λ e=>by have:=s L e;omega,by omega⟩)⟩;refine⟨rs++[(k,a,b,sv,r)],D,LsR.snoc ⟨v.1,λ i A z j h=>app_still f d (v.2 i A z j h)⟩ (app_still f d B),?_⟩;refine List.pairwise_append.2 ⟨I,List.pairwise_singleton _ _,λ q C M l=>?_⟩;obtain rfl:=List.mem_singleton.1 l;obtain⟨i,F⟩:=List.getElem?_of_mem C;obtain⟨x,N,G⟩:=t.at_ F;intro y p o;have P:=(G.2.1.block y p).2;have O:=(hs.block y o).1;omega
theorem Evs.block (h:Evs w lo ev es):∀ g,ev.ownBlock=some g->lo<=g∧g<w.heap.size:=by
 obtain⟨b,a,d,c⟩:=h;exact a.block
end
def nulV:Vr:=⟨0,0,0,0⟩
def finM (v:Vr) (n:Int) (z:List Ev × Int × Int):(Vr × Int × List Ev) × Int × Int:=if z.2.1=0 then ((v,n,z.1),0,0) else ((nulV,0,[]),z.2)
theorem rdM_long {t:By} (h:20000<t.length):rdM t=((nulV,0,[]),3,0):=by unfold rdM;rw [if_pos h];rfl
theorem rdM_cut {t l r:By} {e:Bool} (h:¬ 20000<t.length) (hc:Lib.cut t [10]=(l,r,e)):rdM t=if e=true then (match rdH l with
  | some (v,n)=>finM v n (rmGo v n (spl 10 r) (startS v) [] 2)
  | none=>((nulV,0,[]),6,1)) else ((nulV,0,[]),6,1):=by
 unfold rdM;rw [if_neg h,spl_cut,hc]
 cases e with
 | false=>rfl
 | true =>
  simp only [if_true]
  cases hs:spl 10 r with
  | nil=>exact absurd hs (spl_ne 10 r)
  | cons m ls=>rfl
theorem rmGo_end (v:Vr) (n:Int) (x:Ms) (es:List Ev) (k:Int):rmGo v n (spl 10 []) x es k=(es,0,0):=rfl
def goX (v:Vr) (n:Int) (r:By) (es:List Ev) (e:Ev) (k:Int) (L:Nat):Option Ms->List Ev × Int × Int
 | none=>([],5,k)
 | some y=>if 300<=L then ([],5,k) else rmGo v n (spl 10 r) y (es++[e]) (k+1)
theorem rmGo_cut {v:Vr} {n:Int} {t l r:By} {e:Bool} (x:Ms) (es:List Ev) (k:Int) (ht:t≠[]) (hc:Lib.cut t [10]=(l,r,e)):rmGo v n (spl 10 t) x es k=if e=true then (match rdE v l with
  | none=>([],6,k)
  | some ev=>goX v n r es ev k es.length (nextS v n x ev)) else ([],6,k):=by
 rw [spl_cut,hc]
 cases e with
 | false=>simp only [Bool.false_eq_true,if_false,rmGo,if_neg ht]
 | true =>
  simp only [if_true]
  cases hs:spl 10 r with
  | nil=>exact absurd hs (spl_ne 10 r)
  | cons m ls =>
   simp only [rmGo]
   cases rdE v l with
   | none=>rfl
   | some ev =>
    simp only
    cases nextS v n x ev with
    | none=>rfl
    | some y=>simp only [goX,hs]
def MaR (o:(Vr × Int × List Ev) × Int × Int) (w:World) (e:Ending) (w':World):Prop :=
 ∃ ev:Value,e=.returned (.tuple #[.agg #[.int .i64 o.1.1.p,.int .i64 o.1.1.c,.int .i64 o.1.1.h,.int .i64 o.1.1.s,.int .i64 o.1.2.1,ev],.int .i64 o.2.1,.int .i64 o.2.2])∧Evs w' w.heap.size ev o.1.2.2∧Below w.heap.size w w'
theorem HdR.v {o:Option (Vr × Int)} {w w':World} {e:Ending} (h:HdR o w e w'):∃(v:Vr) (n:Int) (ok:Bool),e=.returned (.tuple #[.agg #[.int .i64 v.p,.int .i64 v.c,.int .i64 v.h,.int .i64 v.s,.int .i64 n,.slice none 0 0],.bool ok])∧Below w.heap.size w w'∧(if ok=true then o=some (v,n) else o=none):=by
 obtain⟨p,c,h,s,n,ok,e,b,a⟩:=h;exact⟨⟨p,c,h,s⟩,n,ok,e,b,a⟩
def strLen:Value->Nat
 | .string b=>b.size
 | _=>0
def RelM3:Rel (Value × Value × Value) Ms where
 R:=λ w S r x=>MsR w S r.1 r.2.1 r.2.2 x
 keep:=λ h hs=>h.keep hs
 weak:=λ h hs=>h.weak hs
structure Rm (w wr:World) (g8 g10:Nat) (v:Vr) (n:Int) (ev:Value) (es:List Ev) (su u1 u2:Value) (x:Ms):Prop where
 k:Rows w wr [(0,26,[.int .i64 0,.int .i64 0,.int .i64 0,.int .i64 0,.int .i64 0,.slice none 0 0])]
 r8:RowB wr g8 26 [.int .i64 v.p,.int .i64 v.c,.int .i64 v.h,.int .i64 v.s,.int .i64 n,ev]
 r10:RowB wr g10 52 (msC su u1 u2 x)
 ms:MsR wr (λ b=>NotIn ev (g8+1) b∧b≠g10) su u1 u2 x
 es:Evs wr (g10+1) ev es
 lo:w.heap.size<g8∧g8<g10
section
variable {w wr w':World} {g8 g10:Nat} {v:Vr} {n:Int} {ev:Value} {es:List Ev} {su u1 u2:Value} {x:Ms}
theorem Rm.below (K:Rm w wr g8 g10 v n ev es su u1 u2 x) (hb:Below wr.heap.size wr w'):Rm w w' g8 g10 v n ev es su u1 u2 x :=
 ⟨K.k.below hb,K.r8.below hb K.r8.lt,K.r10.below hb K.r10.lt,K.ms.below hb,K.es.below hb,K.lo⟩
theorem Rm.st10 {su' u1' u2':Value} {x':Ms} (K:Rm w wr g8 g10 v n ev es su u1 u2 x) (h:RowB w' g10 52 (msC su' u1' u2' x')) (hg:wr.grownBy w' (some g10)) (hm:MsR wr (λ b=>NotIn ev (g8+1) b∧b≠g10) su' u1' u2' x'):Rm w w' g8 g10 v n ev es su' u1' u2' x':=by
 have l:=K.lo;have c:=K.k.bel.size;refine⟨⟨K.k.bel.grown hg c (λ k a=>by simp at a;omega),λ p d=>?_⟩,K.r8.grown hg (λ k a=>by simp at a;omega),h,hm.keep (Still.grown hg (λ k a e=>by simp at a;exact e.2 a.symm)),K.es.low hg (Nat.lt_succ_self _),l⟩;obtain rfl:=List.mem_singleton.1 d;exact(K.k.at_ _ (List.mem_singleton.2 rfl)).grown hg (λ k a=>by simp at a;simp only;omega)
theorem Rm.app {w1:World} {g m c:Nat} {es':List Ev} (K:Rm w wr g8 g10 v n ev es su u1 u2 x) (hg:wr.grownBy w1 ev.ownBlock) (hat:ev.ownBlock=some g∨g=wr.heap.size) (he:Evs w1 (g10+1) (.slice (some ⟨g,0,none⟩) m c) es') :
  Rm w (w1.setCell ⟨g8,5,none⟩ (.slice (some ⟨g,0,none⟩) m c)) g8 g10 v n (.slice (some ⟨g,0,none⟩) m c) es' su u1 u2 x:=by
 have l:=K.lo;have h:=K.k.bel.size;have d:∀ k,ev.ownBlock=some k->g10+1<=k:=λ k a=>(K.es.block k a).1
 have o:(inS RelM3 (λ b=>b≠g10)).R w1 (NotIn (.slice (some ⟨g,0,none⟩) m c) (g8+1)) (su,u1,u2) x:=app_still (K:=inS RelM3 (λ b=>b≠g10)) hg hat K.ms;have e:=Base.grownBy_setCell w1 g8 5 (.slice (some ⟨g,0,none⟩) m c);have f:=(K.r8.grown hg (λ k a=>by have:=d k a;omega)).set 5 (.slice (some ⟨g,0,none⟩) m c);refine⟨⟨(K.k.bel.grown hg h (λ k a=>by have:=d k a;omega)).setCell (by simp only;omega) _,λ p i=>?_⟩,f,(K.r10.grown hg (λ k a=>by have:=d k a;omega)).other (by simp only;omega) _,MsR.keep o (Still.grown e (λ k a j=>by simp at a;have:=j.1.2;omega)),he.low e (by omega),l⟩;obtain rfl:=List.mem_singleton.1 i;exact((K.k.at_ _ (List.mem_singleton.2 rfl)).grown hg (λ k a=>by have:=d k a;simp only;omega)).other (by simp only;omega) _
end
end Gm
end Go.Proofs.YtblipmifflfnoaaGreatDoor
