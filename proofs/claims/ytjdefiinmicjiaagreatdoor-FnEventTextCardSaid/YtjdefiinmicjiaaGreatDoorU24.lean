/- Parts of the proof of FnEventText. Conditions: each theorem's own. -/
import Derived.Test.YtjdefiinmicjiaaGreatDoorU23
set_option linter.unusedVariables false
set_option linter.unusedSimpArgs false
set_option maxHeartbeats 8000000
set_option maxRecDepth 100000
namespace Go.Proofs.YtjdefiinmicjiaaGreatDoor
namespace TxI
open Go.ChangeShapes Go.WideShapes Go.ChangeAt Go.RowKit Base Ints Own JoinN PlP TxP Num Bd1 Bd5 RegF RegG
theorem infoI:(Tryz.prog.info? 2).map (λ i=>(i.zero,i.size,i.bytes))=some (some (.int .i64 0),1,8):=by kernel_rfl
def decF (x:By):Option Int:=if (rdDec x).2=true then some (rdDec x).1 else none
theorem split_i (t:By) (c:UInt8) (hl:t.length<=4194304) (w:World) (E:Env w) :
  Calls Tryz.prog 60 #[.string (bs t),.string (bs [c])] w λ e w'=>∃ sv,e=.returned (.tuple #[sv,.bool (mapO decF (spl c t)).isSome])∧OwnS w' w.heap.size w'.heap.size 2 1 enI sv ((mapO decF (spl c t)).getD [])∧Below w.heap.size w w':=by
 obtain⟨i4,ad,ab,aa,Z⟩:=info_parts infoI;obtain⟨R,m⟩:∃ r,mapO decF (spl c t)=r:=⟨_,rfl⟩;rw [m];have CS:=kD (λ(C:World) (E9:Env C)=>split_w t c hl C E9);have HW:=kD (λ x hx=>Nat.le_trans (spl_word c t x hx) hl);obtain⟨Q,p⟩:∃ x,spl c t=x:=⟨_,rfl⟩;obtain⟨n,S⟩:∃ n,Q.length=n:=⟨_,rfl⟩;have K:=spl_len c t;rw [p,S] at K;rw [p] at CS HW m;rw [S] at CS;have T:=kD m.symm;have HN:=kD S;have ak:n<=4194305:=by omega
 clear m p S K hl;go_enter Tryz.func60,Tryz.ntmps60;go_wp2_with fail;refine(CS.out _ E).mono ?_;rintro e z ⟨A,cp,rfl,G,v⟩;have af:=kD G;have a:=kD v;have ac:w.heap.size<=z.heap.size:=v.size;clear G v;go_wp2_with fail;go_loopw [6,8,9,10,15] (λ vl _ _ _ i wr=>∃(k:Nat) (X:List Int),k<=n∧i=.int .i64 (k:Int)∧Hid (Below z.heap.size z wr)∧Hid (OwnS wr z.heap.size wr.heap.size 2 1 enI vl X)∧Hid (mapO decF (Q.take k)=some X)∧X.length=k) (λ _ _ _ _ i _=>n - (intOf i).toNat)
 case atStart=>exact⟨0,[],Nat.zero_le _,rfl,kD (Below.refl _ _),kD (OwnS.nil_ _ _ _ _ _ _),kD rfl,rfl⟩
 case round =>
  obtain⟨k,X,hk,rfl,y,B,hX,O⟩:=hrel;by_cases hlt:k<n
  ·obtain⟨b,ah,x,rfl,ae,o,hc⟩:=rdBs_at (af.out.below y.out (Nat.le_refl _)) (by rw [HN.out];exact hlt);have HX:=kD o;have D:=HW.out x (List.mem_of_getElem? o);have V:=kD (λ(C:World) (E9:Env C)=>rdd_w x D C E9);obtain⟨⟨s,ok⟩,hq⟩:∃ q,rdDec x=q:=⟨_,rfl⟩;rw [hq] at V;simp only at V;have HQ:=kD hq;obtain⟨Av,cv,F,_⟩:=B.out.form enI_len;rw [O] at F;subst F;clear o D hq;go_wp2_with fail;refine(V.out wr (E.below (a.out.trans (y.out.mono a.out.size)))).mono ?_;rintro e W ⟨rfl,f⟩;have d:=kD (y.out.trans (f.mono y.out.size));have B:=kD ((B.out.below f (Nat.le_refl _)).more f.size);have ai:=f.size;have aj:=y.out.size;clear y f V hc ae
   cases ok
   case false =>
    have J:decF x=none:=by unfold decF;rw [HQ.out];rfl
    have m:R=none:=by rw [T.out];exact mapO_none J _ (List.mem_of_getElem? HX.out)
    subst m;clear T J;go_wp2_with fail;go_ret2;refine⟨_,rfl,OwnS.nil_ _ _ _ _ _ _,?_⟩;exact a.out.trans (d.out.mono a.out.size)
   have h:decF x=some s:=by unfold decF;rw [HQ.out];rfl
   have P:Hid (mapO decF (Q.take (k+1))=some (X++[s])):=by
    show _=_
    rw [take_succ Q k x HX.out,mapO_snoc,hX.out];simp only [h,Option.map_some]
   clear h HQ;go_wp2_with (at_builtin;refine wpL_app rfl _ _ _ rfl z.heap.size _ 2 i4 (.int .i64 0) 1 8 Tryz.underlying49 ad ab aa Z rfl (by decide) enI_len one_I (.slice Av k cv) X [s] rfl (B.out.alloc _) ⟨W.heap.size,0,none⟩ 1 1 (by first | rfl | (simp;rfl) | (simp [go_sem];done)) rfl (news_new (RowB.new _ _ _)) (by decide) ?c1 ?c2 ?c3 ?_)
   case c1=>unfold maxLen;omega
   case c2=>omega
   case c3=>go_size
   intro k2 c2 w7 I M N ag;have j:∀ g,(Value.slice Av k cv).ownBlock=some g->z.heap.size<=g:=λ g hg=>(B.out.block g hg).1
   have L:W.grownBy w7 (Value.slice Av k cv).ownBlock:=below_grown (w:=W) (by go_grown) M;have d:=kD (d.out.grown L d.out.size (λ g hg=>j g hg));have H:=kD I;have l:(X++[s]).length=k+1:=by rw [List.length_append,O];rfl
   obtain⟨Y,hY⟩:∃ Y,X++[s]=Y:=⟨_,rfl⟩;rw [hY] at P H l;clear M L N I j hY;go_wp2_with fail;go_roundw
   case rel=>exact⟨k+1,Y,by omega,by first | rfl | trivial | go_num,d,H,P,l⟩
   case measure=>simp [intOf];omega
  ·obtain rfl:k=n:=by omega
   have m:R=some X:=by
    rw [T.out];have:=hX.out;rw [List.take_of_length_le (by rw [HN.out];exact Nat.le_refl _)] at this;exact this
   subst m;clear T;go_wp2_with fail;go_ret2;exact⟨_,rfl,B.out.less ac,a.out.trans (y.out.mono a.out.size)⟩
theorem five {W:World} {g:Nat} {t:TypeId} {a b c d f:Value} (h:RowB W g t [a,b,c,d,f]) (u v x y z:Value):RowB (((((W.setCell ⟨g,0,none⟩ u).setCell ⟨g,1,none⟩ v).setCell ⟨g,2,none⟩ x).setCell ⟨g,3,none⟩ y).setCell ⟨g,4,none⟩ z) g t [u,v,x,y,z] :=
 ((((h.set 0 u).set 1 v).set 2 x).set 3 y).set 4 z
theorem below_five {B:Nat} {w W:World} (h:Below B w W) {g:Nat} (hg:B<=g) (u v x y z:Value):Below B w (((((W.setCell ⟨g,0,none⟩ u).setCell ⟨g,1,none⟩ v).setCell ⟨g,2,none⟩ x).setCell ⟨g,3,none⟩ y).setCell ⟨g,4,none⟩ z) :=
 ((((h.setCell (p:=⟨g,0,none⟩) hg _).setCell (p:=⟨g,1,none⟩) hg _).setCell (p:=⟨g,2,none⟩) hg _).setCell (p:=⟨g,3,none⟩) hg _).setCell (p:=⟨g,4,none⟩) hg _
theorem own_five {lo hi:Nat} {W:World} {sv:Value} {ss:List Stp} (h:OwnS W lo hi 111 4 enSt sv ss) {g:Nat} (hg:g<lo) (u v x y z:Value):OwnS (((((W.setCell ⟨g,0,none⟩ u).setCell ⟨g,1,none⟩ v).setCell ⟨g,2,none⟩ x).setCell ⟨g,3,none⟩ y).setCell ⟨g,4,none⟩ z) lo hi 111 4 enSt sv ss :=
 ((((h.setCell (p:=⟨g,0,none⟩) hg _).setCell (p:=⟨g,1,none⟩) hg _).setCell (p:=⟨g,2,none⟩) hg _).setCell (p:=⟨g,3,none⟩) hg _).setCell (p:=⟨g,4,none⟩) hg _
structure OpF (w:World) (g:Nat) (a b:Int) (rest:List Value) (p7:Prop) (w':World):Prop where
 bel:Below w.heap.size w w'
 row:∃ c0 c1 c2 c3 c4,RowB w' (w.heap.size+1) 28 [c0,c1,c2,c3,c4]
 own:RowB w' g 2 ([.int .i64 a,.int .i64 b]++rest)
 f7:p7->RowB w' (w.heap.size+1) 28 [.int .i64 1,.int .i64 a,.int .i64 b,.slice none 0 0,.int .i64 0]
theorem OpF.skip {w w':World} {g:Nat} {a b:Int} {rest:List Value} {L:Nat->Prop} (F:OpF w g a b rest (L 7) w') (k:Nat) (h:7≠k:=by decide):OpF w g a b rest (7=k∨L 7) w':=by rw [or_ne h];exact F
theorem row_cell2 {w':World} {g:Nat} {a b:Int} {rest:List Value} (h:RowB w' g 2 ([.int .i64 a,.int .i64 b]++rest)):w'.cell? ⟨g,0,none⟩=some (.int .i64 a)∧w'.cell? ⟨g,1,none⟩=some (.int .i64 b):=⟨h.cell 0,h.cell 1⟩
theorem OpF.s7 {w w':World} {g:Nat} {a b:Int} {rest:List Value} {p7:Prop} (F:OpF w g a b rest p7 w') (hg:w.heap.size+2<=g) :
  OpF w g a b rest True (((((w'.setCell ⟨w.heap.size+1,0,none⟩ (.int .i64 1)).setCell ⟨w.heap.size+1,1,none⟩ (.int .i64 a)).setCell ⟨w.heap.size+1,2,none⟩ (.int .i64 b)).setCell ⟨w.heap.size+1,3,none⟩ (.slice none 0 0)).setCell ⟨w.heap.size+1,4,none⟩ (.int .i64 0)):=by
 obtain⟨k,j,i,h,f,e⟩:=F.row;have d:=five e (.int .i64 1) (.int .i64 a) (.int .i64 b) (.slice none 0 0) (.int .i64 0);have c:g≠w.heap.size+1:=by omega
 exact⟨below_five F.bel (by omega) _ _ _ _ _,⟨_,_,_,_,_,d⟩,((((F.own.other (p:=⟨w.heap.size+1,0,none⟩) c _).other (p:=⟨w.heap.size+1,1,none⟩) c _).other (p:=⟨w.heap.size+1,2,none⟩) c _).other (p:=⟨w.heap.size+1,3,none⟩) c _).other (p:=⟨w.heap.size+1,4,none⟩) c _,λ _=>d⟩
def PartsR (v:Vr) (t:By) (w:World) (e:Ending) (w':World):Prop :=
 ∃(k a b:Int) (sv:Value) (ss:List Stp) (r:Int) (ok:Bool),e=.returned (.tuple #[.agg #[.int .i64 k,.int .i64 a,.int .i64 b,sv,.int .i64 r],.bool ok])∧OwnS w' w.heap.size w'.heap.size 111 4 enSt sv ss∧Below w.heap.size w w' ∧
  (if ok=true then gEI v t=⟨k,a,b,ss,r⟩∧t≠[] else gEI v t=nulE)
theorem gEI_eq {v:Vr} {t l r:By} {one:Bool} (h:Lib.cut t [32]=(l,r,one)):gEI v t=if l=opW then (match mapO decF (spl 32 r) with
  | some [a,b]=>⟨1,a,b,[],0⟩
  | _=>nulE) else if l=tuW then (match rdTI v r with
  | some (x,y,ss)=>⟨2,x,y,ss,0⟩
  | none=>nulE) else if l=reW then (if (rdDec r).2=true then ⟨3,0,0,[],(rdDec r).1⟩ else nulE) else nulE:=by
 unfold gEI;simp only [h]
 rfl
theorem cut_nil_w {l r:By} {one:Bool} (h:Lib.cut [] [32]=(l,r,one)):l=[]:=by
 have:Lib.cut ([]:By) [32]=([],[],false):=rfl;rw [this] at h;simp only [Prod.mk.injEq] at h;exact h.1.symm
theorem parts_i (v:Vr) (hv:okV v=true) (t:By) (hl:t.length<=4194304) (w:World) (E:Env w) :
  Calls Tryz.prog 31 #[.agg #[.int .i64 v.p,.int .i64 v.c,.int .i64 v.h,.int .i64 v.s],.string (bs t)] w λ e w'=>PartsR v t w e w':=by
 obtain⟨⟨l,r,av⟩,h1⟩:∃ z,Lib.cut t [32]=z:=⟨_,rfl⟩;have hc:=cut_len t [32];rw [h1] at hc;simp only at hc;have hG:=gEI_eq (v:=v) h1;have ai:l≠[]->t≠[]:=λ h e=>by subst e;exact h (cut_nil_w h1)
 have CC:=kD (λ(C:World) (E9:Env C)=>cut_w t [32] hl C E9);rw [h1] at CC;simp only at CC;have CS:=kD (λ(C:World) (E9:Env C)=>split_i r 32 (by omega) C E9);have CT:=kD (λ(C:World) (E9:Env C)=>rturn_i v hv r (by omega) C E9);have CD:=kD (λ(C:World) (E9:Env C)=>rdd_w r (by omega) C E9);have HG:=kD hG;have T:=kD ai;clear hG h1 hc hl hv ai;go_enter Tryz.func31,Tryz.ntmps31;go_upto_region 1 with fail;refine wp_gen (λ Q=>Bve w Q v [.int .i64 0,.int .i64 0,.int .i64 0,.slice none 0 0,.int .i64 0]) ⟨by go_grown,(RowB.new _ _ _).alloc _,RowB.new' _ _ _ (by simp)⟩ ?_;intro w1 K;go_wp2_with fail;refine(CC.out _ (E.below K.bel)).mono ?_;rintro e w2 ⟨rfl,Z⟩;have K:=K.below Z;clear Z CC;have I:=K.re.lt;have am:w.heap.size+2<=w2.heap.size:=I;have S:=K.re.frozen;obtain⟨y0,y1,y2,y3,y4⟩:=K.re.c5;by_cases ho:l=opW
 ·have f:Hid (gEI v t=match mapO decF (spl 32 r) with
  | some [a,b]=>⟨1,a,b,[],0⟩
  | _=>nulE):=by show _=_;rw [HG.out,if_pos ho]
  have G:t≠[]:=T.out (by rw [ho];decide);have aa:=kD G;have e0:((bs l).toList == [111,112,101,110,105,110,103])=true:=by rw [ByteArray.toList_eq,bs_data,ho];rfl
  obtain⟨O,hO⟩:∃ o,mapO decF (spl 32 r)=o:=⟨_,rfl⟩;rw [hO] at CS f;clear HG T G ho hO;go_wp2_with fail;refine(CS.out _ (E.below K.bel)).mono ?_;rintro e P ⟨sv,rfl,j,Z⟩;have K:=K.below Z;clear y0 y1 y2 y3 y4 I S Z CS;have I:=K.re.lt;have S:=K.re.frozen;obtain⟨y0,y1,y2,y3,y4⟩:=K.re.c5
  cases O with
  | none =>
   have d:gEI v t=nulE:=f.out;have m:=kD d;clear d f;go_wp2_with fail;refine bp_row2 [.int .i64 0,.int .i64 0,.int .i64 0,.slice none 0 0,.int .i64 0] (.bool false) (below_five K.bel (by omega) _ _ _ _ _) (five K.re _ _ _ _ _) (λ w8 R=>by simp [results,Tryz.results31,go_sem,R]) rfl λ w8 k=>?_;exact⟨0,0,0,_,[],0,false,rfl,OwnS.nil_ _ _ _ _ _ _,k,m.out⟩
  | some X =>
   by_cases hx2:X.length=2
   case neg =>
    have j:OwnS P w2.heap.size P.heap.size 2 1 enI sv X:=j;obtain⟨A,cp,D,ag⟩:=j.form enI_len;have e1:((X.length:Int) == 2)=false:=by simp;omega
    have an:=ag.len;obtain⟨nx,ah⟩:∃ n,X.length=n:=⟨_,rfl⟩;rw [ah] at D e1 an;subst D;have d:gEI v t=nulE:=by
     rw [f.out]
     match X,hx2 with
     | [],_=>rfl
     | [a],_=>rfl
     | [a,b],h=>exact absurd rfl h
     | a :: b :: c :: l,_=>rfl
    have m:=kD d;clear d f j ag ah hx2;go_wp2_with fail;refine bp_row2 [.int .i64 0,.int .i64 0,.int .i64 0,.slice none 0 0,.int .i64 0] (.bool false) (below_five K.bel (by omega) _ _ _ _ _) (five K.re _ _ _ _ _) (λ w8 R=>by simp [results,Tryz.results31,go_sem,R]) rfl λ w8 k=>?_;exact⟨0,0,0,_,[],0,false,rfl,OwnS.nil_ _ _ _ _ _ _,k,m.out⟩
   obtain⟨a,b,rfl⟩:=list2 hx2;have j:OwnS P w2.heap.size P.heap.size 2 1 enI sv [a,b]:=j;have B:gEI v t=⟨1,a,b,[],0⟩:=f.out;have HY:=kD B;rcases j.cases_ with ⟨_,h⟩ | ⟨g,cap,rest,D,hg1,hg2,V,hc1,hc2,hc3⟩
   ·cases h
   have af:sv=.slice (some ⟨g,0,none⟩) 2 cap:=D;subst af;have ap:w.heap.size+2<=g:=by omega
   have V:RowB P g 2 ([.int .i64 a,.int .i64 b]++rest):=V;have Y:2<=cap:=hc1;have ay:cap<=9223372036854775807:=by have:=hc2;unfold maxLen at this;omega
   have HK:=kD K;have aq:=kD V;clear j D hg1 hg2 V hc1 hc2 hc3 B f hx2 K y0 y1 y2 y3 y4 I S e0 am;go_wp2_with fail;refine rG [some 36,some 37,some 38,some 39,some 40,some 41,some 42,none,some 5] 9 (Pl [some (.slice (some ⟨g,0,none⟩) 2 cap),some (.pointer (some ⟨g,0,none⟩)),some (.int .i64 a),some (.slice (some ⟨g,0,none⟩) 2 cap),some (.pointer (some ⟨g,1,none⟩)),some (.int .i64 b),some (.agg #[.int .i64 1,.int .i64 a,.int .i64 b,.slice none 0 0,.int .i64 0]),none,some (.bool true)]) (λ L i w'=>OpF w g a b rest (L 7) w') ?g0_1 ?gst_1 ?gfin_1
   case g0_1=>exact⟨HK.out.bel.drew,⟨_,_,_,_,_,HK.out.re.drew⟩,aq.out.drew,λ h=>absurd h (by decide)⟩
   case gst_1 =>
    refine rN rfl (λ L i A C H J M U F K N=>?_) ?_
    ·have e9:=U.w 9 (.slice (some ⟨g,0,none⟩) 2 cap);have cc:=row_cell2 F.own;go_simp;exact pF N (F.skip 0 (by decide))
    refine rN rfl (λ L i A C H J M U F K N=>?_) ?_
    ·have aF:=U.v 0 36;have cc:=row_cell2 F.own;go_simp;exact pF N (F.skip 1 (by decide))
    refine rN rfl (λ L i A C H J M U F K N=>?_) ?_
    ·have aE:=U.v 1 37;obtain⟨c0,c1⟩:=row_cell2 F.own;have ao:=F.own.lt;go_simp;exact pF N (F.skip 2 (by decide))
    refine rN rfl (λ L i A C H J M U F K N=>?_) ?_
    ·have e9:=U.w 9 (.slice (some ⟨g,0,none⟩) 2 cap);have cc:=row_cell2 F.own;go_simp;exact pF N (F.skip 3 (by decide))
    refine rN rfl (λ L i A C H J M U F K N=>?_) ?_
    ·have aC:=U.v 3 39;have cc:=row_cell2 F.own;go_simp;exact pF N (F.skip 4 (by decide))
    refine rN rfl (λ L i A C H J M U F K N=>?_) ?_
    ·have aB:=U.v 4 40;obtain⟨c0,c1⟩:=row_cell2 F.own;have ao:=F.own.lt;go_simp;exact pF N (F.skip 5 (by decide))
    refine rN rfl (λ L i A C H J M U F K N=>?_) ?_
    ·have aD:=U.v 2 38;have aA:=U.v 5 41;have cc:=row_cell2 F.own;go_simp;exact pF N (F.skip 6 (by decide))
    refine rN rfl (λ L i A C H J M U F K N=>?_) ?_
    ·have e4:=U.w 4 (.pointer (some ⟨w.heap.size+1,0,none⟩));have az:=U.v 6 42;refine F.row.elim λ c0 q=>?_
     refine q.elim λ c1 q=>?_
     refine q.elim λ c2 q=>?_
     refine q.elim λ c3 q=>?_
     refine q.elim λ c4 q=>?_
     have fr:=q.frozen;have hl:=q.lt;obtain⟨z0,z1,z2,z3,z4⟩:=q.c5;go_simp;exact N.out undef _ (Pl.any rfl) (by simpa [upd] using F.s7 ap)
    refine rN rfl (λ L i A C H J M U F K N=>?_) ?_
    ·have cc:=row_cell2 F.own;go_simp;exact pF N (F.skip 8 (by decide))
    exact RelFrom.nil (by decide)
   case gfin_1 =>
    intro i C hp F;simp only [Fr,Act.put,sX,Nat.reduceAdd];have h5:i 8=.bool true:=hp 8 (by decide) _ rfl;rw [h5];have R:=F.f7 trivial;have k:=F.bel;clear F hp h5;go_wp2_with fail;obtain⟨z0,z1,z2,z3,z4⟩:=R.c5;refine bodyPost_ret (v:=.tuple #[.agg #[.int .i64 1,.int .i64 a,.int .i64 b,.slice none 0 0,.int .i64 0],.bool true]) (by simp [results,Tryz.results31,go_sem,z0,z1,z2,z3,z4]) rfl ?_;exact⟨1,a,b,_,[],0,true,rfl,OwnS.nil_ _ _ _ _ _ _,k,HY.out,aa.out⟩
 by_cases htu:l=tuW
 ·have f:Hid (gEI v t=match rdTI v r with
  | some (x,y,ss)=>⟨2,x,y,ss,0⟩
  | none=>nulE):=by show _=_;rw [HG.out,if_neg ho,if_pos htu]
  have G:t≠[]:=T.out (by rw [htu];decide);have aa:=kD G;have e0:((bs l).toList == [111,112,101,110,105,110,103])=false:=by rw [ByteArray.toList_eq,bs_data,htu];rfl
  have e1:((bs l).toList == [116,117,114,110])=true:=by rw [ByteArray.toList_eq,bs_data,htu];rfl
  obtain⟨O,hO⟩:∃ o,rdTI v r=o:=⟨_,rfl⟩;rw [hO] at CT f;have al:=K.rv.lt;obtain⟨q0,q1,q2,q3⟩:=K.rv.c4;clear HG T G ho htu hO;go_wp2_with fail;refine(CT.out _ (E.below K.bel)).mono ?_;rintro e P ⟨x,y,sv,c,ss,rfl,j,Z,ad⟩;have ar:=Z.size;have K:=K.below Z;clear y0 y1 y2 y3 y4 I S Z CT q0 q1 q2 q3 al;have W:=kD ad;obtain⟨A,cp,D,_⟩:=j.form enSt_len;obtain⟨n,hn⟩:∃ n,ss.length=n:=⟨_,rfl⟩;rw [hn] at D;subst D;clear ad hn;go_upto_region 9 with fail;refine wp_gen (λ Q=>Below P.heap.size P Q∧Bve w Q v [.int .i64 0,.int .i64 0,.int .i64 0,.slice none 0 0,.int .i64 0]∧RowB Q P.heap.size 53 [.int .i64 x,.int .i64 y]∧OwnS Q w2.heap.size P.heap.size 111 4 enSt (.slice A n cp) ss) ⟨(Below.refl _ _).alloc (Nat.le_refl _) _,K.below ((Below.refl _ _).alloc (Nat.le_refl _) _),RowB.new _ _ _,j.alloc _⟩ ?_;clear K j;rintro w5 ⟨aj,K,rx,j⟩;have ac:=aj.size;have ak:=kD j;obtain⟨gx,ab⟩:∃ g,P.heap.size=g:=⟨_,rfl⟩;have ax:w.heap.size+2<=gx:=by omega
  rw [ab] at rx
  (try rw [ab])
  clear j aj;have I:=K.re.lt;have S:=K.re.frozen;obtain⟨y0,y1,y2,y3,y4⟩:=K.re.c5;have aw:=rx.lt;obtain⟨x0,x1⟩:=rx.c2
  cases O with
  | none =>
   have Y:c≠0:=W.out;have d0:(c == 0)=false:=by simp [Y]
   have d:gEI v t=nulE:=f.out;have m:=kD d;clear Y d f W ab;go_wp2_with fail;refine bp_gen (λ Q=>Below w.heap.size w Q∧RowB Q (w.heap.size+1) 28 [.int .i64 2,.int .i64 x,.int .i64 y,.slice A n cp,.int .i64 0]∧P.heap.size<=Q.heap.size∧OwnS Q w2.heap.size P.heap.size 111 4 enSt (.slice A n cp) ss) ⟨below_five K.bel (by omega) _ _ _ _ _,five K.re _ _ _ _ _,by simpa using ac,own_five ak.out (by omega) _ _ _ _ _⟩ ?_;rintro w8 ⟨k,R,ae,o8⟩;obtain⟨z0,z1,z2,z3,z4⟩:=R.c5;refine bodyPost_ret (v:=.tuple #[.agg #[.int .i64 2,.int .i64 x,.int .i64 y,.slice A n cp,.int .i64 0],.bool false]) (by simp [results,Tryz.results31,go_sem,z0,z1,z2,z3,z4]) rfl ?_;exact⟨2,x,y,_,ss,0,false,rfl,(o8.less (by omega)).more ae,k,m.out⟩
  | some z =>
   obtain⟨hz,Y⟩:z=(x,y,ss)∧c=0:=W.out;have d0:(c == 0)=true:=by simp [Y]
   have B:gEI v t=⟨2,x,y,ss,0⟩:=by rw [f.out,hz]
   have HY:=kD B;clear Y B f W ab hz;go_wp2_with fail;refine bp_gen (λ Q=>Below w.heap.size w Q∧RowB Q (w.heap.size+1) 28 [.int .i64 2,.int .i64 x,.int .i64 y,.slice A n cp,.int .i64 0]∧P.heap.size<=Q.heap.size∧OwnS Q w2.heap.size P.heap.size 111 4 enSt (.slice A n cp) ss) ⟨below_five K.bel (by omega) _ _ _ _ _,five K.re _ _ _ _ _,by simpa using ac,own_five ak.out (by omega) _ _ _ _ _⟩ ?_;rintro w8 ⟨k,R,ae,o8⟩;obtain⟨z0,z1,z2,z3,z4⟩:=R.c5;refine bodyPost_ret (v:=.tuple #[.agg #[.int .i64 2,.int .i64 x,.int .i64 y,.slice A n cp,.int .i64 0],.bool true]) (by simp [results,Tryz.results31,go_sem,z0,z1,z2,z3,z4]) rfl ?_;exact⟨2,x,y,_,ss,0,true,rfl,(o8.less (by omega)).more ae,k,HY.out,aa.out⟩
 by_cases hre:l=reW
 ·have f:Hid (gEI v t=if (rdDec r).2=true then ⟨3,0,0,[],(rdDec r).1⟩ else nulE):=by show _=_;rw [HG.out,if_neg ho,if_neg htu,if_pos hre]
  have G:t≠[]:=T.out (by rw [hre];decide);have aa:=kD G;have e0:((bs l).toList == [111,112,101,110,105,110,103])=false:=by rw [ByteArray.toList_eq,bs_data,hre];rfl
  have e1:((bs l).toList == [116,117,114,110])=false:=by rw [ByteArray.toList_eq,bs_data,hre];rfl
  have e2:((bs l).toList == [114,101,115,105,103,110])=true:=by rw [ByteArray.toList_eq,bs_data,hre];rfl
  obtain⟨⟨x,o⟩,hO⟩:∃ o,rdDec r=o:=⟨_,rfl⟩;rw [hO] at CD f;simp only at CD f;clear HG T G ho htu hre hO CS CT;go_wp2_with fail;refine(CD.out _ (E.below K.bel)).mono ?_;rintro e P ⟨rfl,Z⟩;have K:=K.below Z;clear y0 y1 y2 y3 y4 I S Z CD;have I:=K.re.lt;have S:=K.re.frozen;obtain⟨y0,y1,y2,y3,y4⟩:=K.re.c5
  cases o
  case false =>
   have d:gEI v t=nulE:=f.out;have m:=kD d;clear d f;go_wp2_with fail;refine bp_row2 [.int .i64 3,.int .i64 0,.int .i64 0,.slice none 0 0,.int .i64 x] (.bool false) (below_five K.bel (by omega) _ _ _ _ _) (five K.re _ _ _ _ _) (λ w8 R=>by simp [results,Tryz.results31,go_sem,R]) rfl λ w8 k=>?_;exact⟨3,0,0,_,[],x,false,rfl,OwnS.nil_ _ _ _ _ _ _,k,m.out⟩
  have B:gEI v t=⟨3,0,0,[],x⟩:=f.out;have HY:=kD B;clear B f;go_wp2_with fail;refine bp_row2 [.int .i64 3,.int .i64 0,.int .i64 0,.slice none 0 0,.int .i64 x] (.bool true) (below_five K.bel (by omega) _ _ _ _ _) (five K.re _ _ _ _ _) (λ w8 R=>by simp [results,Tryz.results31,go_sem,R]) rfl λ w8 k=>?_;exact⟨3,0,0,_,[],x,true,rfl,OwnS.nil_ _ _ _ _ _ _,k,HY.out,aa.out⟩
 have d:gEI v t=nulE:=by rw [HG.out,if_neg ho,if_neg htu,if_neg hre]
 have m:=kD d;have e0:((bs l).toList == [111,112,101,110,105,110,103])=false:=by rw [ByteArray.toList_eq,bs_data];exact beq_eq_false_iff_ne.2 ho
 have e1:((bs l).toList == [116,117,114,110])=false:=by rw [ByteArray.toList_eq,bs_data];exact beq_eq_false_iff_ne.2 htu
 have e2:((bs l).toList == [114,101,115,105,103,110])=false:=by rw [ByteArray.toList_eq,bs_data];exact beq_eq_false_iff_ne.2 hre
 clear HG T ho htu hre CS CT CD d;go_wp2_with fail;refine bp_row2 [.int .i64 0,.int .i64 0,.int .i64 0,.slice none 0 0,.int .i64 0] (.bool false) (below_five K.bel (by omega) _ _ _ _ _) (five K.re _ _ _ _ _) (λ w8 R=>by simp [results,Tryz.results31,go_sem,R]) rfl λ w8 k=>?_;exact⟨0,0,0,_,[],0,false,rfl,OwnS.nil_ _ _ _ _ _ _,k,m.out⟩
def rdEv (v:Vr) (t:By):Option Ev:=if okV v=true then rdE v t else none
def EvR (o:Option Ev) (w:World) (e:Ending) (w':World):Prop :=
 ∃(k a b:Int) (sv:Value) (ss:List Stp) (r:Int) (ok:Bool),e=.returned (.tuple #[.agg #[.int .i64 k,.int .i64 a,.int .i64 b,sv,.int .i64 r],.bool ok])∧OwnS w' w.heap.size w'.heap.size 111 4 enSt sv ss∧Below w.heap.size w w' ∧
  (if ok=true then o=some ⟨k,a,b,ss,r⟩ else o=none∧k=0∧a=0∧b=0∧ss=[]∧r=0)
theorem revent_i (v:Vr) (t:By) (hl:t.length<=4194304) (w:World) (E:Env w) :
  Calls Tryz.prog 9 #[.agg #[.int .i64 v.p,.int .i64 v.c,.int .i64 v.h,.int .i64 v.s],.string (bs t)] w λ e w'=>EvR (rdEv v t) w e w':=by
 obtain⟨aa,Q⟩:∃ o,okV v=o:=⟨_,rfl⟩;have CV:=kD (λ M=>var_i v aa Q M);obtain⟨R,hR⟩:∃ x,rdEv v t=x:=⟨_,rfl⟩;rw [hR];have HR:=kD hR;have HO:=kD Q;have CP:=kD (λ(hv:okV v=true) (M:World) (E9:Env M)=>parts_i v hv t hl M E9);clear hR Q;go_enter Tryz.func9,Tryz.ntmps9;go_upto_region 1 with fail;refine wp_gen (λ q=>Bve w q v [.int .i64 0,.int .i64 0,.int .i64 0,.slice none 0 0,.int .i64 0]) ⟨by go_grown,(RowB.new _ _ _).alloc _,RowB.new' _ _ _ (by simp)⟩ ?_;intro w1 K;obtain⟨Z,Y,X,W⟩:=K.rv.c4;have m:=K.rv.lt;go_wp2_with fail;refine(CV.out _).mono ?_;rintro e w2 ⟨rfl,l⟩;have K:=K.below l;clear Z Y X W m l CV;have C:=K.re.lt;have S:=K.re.frozen;obtain⟨y0,y1,y2,y3,y4⟩:=K.re.c5
 cases aa
 case false =>
  have f:R=none:=by rw [<-HR.out];unfold rdEv;rw [HO.out];rfl
  subst f;clear HR;go_wp2_with fail;refine bp_row2 [.int .i64 0,.int .i64 0,.int .i64 0,.slice none 0 0,.int .i64 0] (.bool false) (below_five K.bel (by omega) _ _ _ _ _) (five K.re _ _ _ _ _) (λ T O=>by simp [results,Tryz.results9,go_sem,O]) rfl λ T d=>?_;exact⟨0,0,0,_,[],0,false,rfl,OwnS.nil_ _ _ _ _ _ _,d,rfl,rfl,rfl,rfl,rfl,rfl⟩
 have G:Hid (R=if evnT v (gEI v t)=t∧t≠[] then some (gEI v t) else none):=by show _=_;rw [<-HR.out];unfold rdEv;rw [HO.out];rfl
 have HV:=HO.out;clear HR;obtain⟨Z,Y,X,W⟩:=K.rv.c4;have m:=K.rv.lt;go_wp2_with fail;refine(CP.out HV _ (E.below K.bel)).mono ?_;rintro e y ⟨k,a,b,sv,z,r,ok,rfl,j,l,J⟩;have aj:=l.size;have ak:w.heap.size+2<=w2.heap.size:=C;have K:=K.below l;clear Z Y X W m l CP y0 y1 y2 y3 y4 C S;obtain⟨A,V,ab,_⟩:=j.form enSt_len;have i:=kD J;obtain⟨n,hn⟩:∃ n,z.length=n:=⟨_,rfl⟩;rw [hn] at ab;subst ab;have HN:=kD hn;clear J hn;go_upto_region 4 with fail;refine wp_gen (λ q=>Below y.heap.size y q∧Bve w q v [.int .i64 0,.int .i64 0,.int .i64 0,.slice none 0 0,.int .i64 0]∧RowB q y.heap.size 28 [.int .i64 k,.int .i64 a,.int .i64 b,.slice A n V,.int .i64 r]∧OwnS q w2.heap.size y.heap.size 111 4 enSt (.slice A n V) z) ⟨(Below.refl _ _).alloc (Nat.le_refl _) _,K.below ((Below.refl _ _).alloc (Nat.le_refl _) _),RowB.new _ _ _,j.alloc _⟩ ?_;clear K j;rintro w5 ⟨af,K,I,j⟩;have ai:=af.size;have H:=kD j;obtain⟨gx,D⟩:∃ g,y.heap.size=g:=⟨_,rfl⟩;rw [D] at I
 (try rw [D])
 have al:w.heap.size+2<=gx:=by omega
 clear j af
 cases ok
 case false =>
  have L:gEI v t=nulE:=i.out;have f:R=none:=by rw [G.out,L,evnT_nul v,if_neg (λ h=>h.2 h.1.symm)]
  subst f;have C:=K.re.lt;have S:=K.re.frozen;obtain⟨y0,y1,y2,y3,y4⟩:=K.re.c5;clear G i L D;go_wp2_with fail;refine bp_row2 [.int .i64 0,.int .i64 0,.int .i64 0,.slice none 0 0,.int .i64 0] (.bool false) (below_five K.bel (by omega) _ _ _ _ _) (five K.re _ _ _ _ _) (λ T O=>by simp [results,Tryz.results9,go_sem,O]) rfl λ T d=>?_;exact⟨0,0,0,_,[],0,false,rfl,OwnS.nil_ _ _ _ _ _ _,d,rfl,rfl,rfl,rfl,rfl,rfl⟩
 obtain⟨ae,ad⟩:gEI v t=⟨k,a,b,z,r⟩∧t≠[]:=i.out;have CE:=kD (λ(M:World) (h9:Below w5.heap.size w5 M)=>event_i v k a b z r A V y.heap.size M (by have:=h9.size;omega) ((H.out.rd enSt_len).below h9 (by omega)) (E.below (K.bel.trans (h9.mono K.bel.size))));rw [if_pos HV,HN.out] at CE;obtain⟨N,P⟩:∃ x,evnT v ⟨k,a,b,z,r⟩=x:=⟨_,rfl⟩;rw [P] at CE;have ag:R=if N=t then some ⟨k,a,b,z,r⟩ else none:=by
  rw [G.out,ae,P];by_cases h:N=t
  ·rw [if_pos ⟨h,ad⟩,if_pos h]
  ·rw [if_neg (λ h'=>h h'.1),if_neg h]
 have F:=kD ag;obtain⟨Z,Y,X,W⟩:=K.rv.c4;have m:=K.rv.lt;obtain⟨x0,x1,x2,x3,x4⟩:=I.c5;have B:=I.lt;clear ag P ae G i D ad;go_wp2_with fail;refine(CE.out _ (Below.refl _ _)).mono ?_;rintro e w6 ⟨rfl,l⟩;have K:=K.below l;have I:=I.below l B;have ac:y.heap.size<=w6.heap.size:=by have:=l.size;omega
 have H:=kD (H.out.below l (by omega));clear Z Y X W m l CE x0 x1 x2 x3 x4 B;have C:=K.re.lt;have S:=K.re.frozen;obtain⟨y0,y1,y2,y3,y4⟩:=K.re.c5;obtain⟨x0,x1,x2,x3,x4⟩:=I.c5;have B:=I.lt;by_cases heq:N=t
 ·have f:R=some ⟨k,a,b,z,r⟩:=by rw [F.out,if_pos heq]
  subst f;have e1:((bs N).toList == (bs t).toList)=true:=by rw [bs_eq];exact decide_eq_true heq
  have e2:((bs N).toList != (bs t).toList)=false:=by simp only [bne,e1];rfl
  clear heq F;go_wp2_with fail;refine bp_gen (λ q=>Below w.heap.size w q∧RowB q (w.heap.size+1) 28 [.int .i64 k,.int .i64 a,.int .i64 b,.slice A n V,.int .i64 r]∧y.heap.size<=q.heap.size∧OwnS q w2.heap.size y.heap.size 111 4 enSt (.slice A n V) z) ⟨below_five K.bel (by omega) _ _ _ _ _,five K.re _ _ _ _ _,by simpa using ac,own_five H.out (by omega) _ _ _ _ _⟩ ?_;rintro T ⟨d,O,ah,o8⟩;obtain⟨z0,z1,z2,z3,z4⟩:=O.c5;refine bodyPost_ret (v:=.tuple #[.agg #[.int .i64 k,.int .i64 a,.int .i64 b,.slice A n V,.int .i64 r],.bool true]) (by simp [results,Tryz.results9,go_sem,z0,z1,z2,z3,z4]) rfl ?_;exact⟨k,a,b,_,z,r,true,rfl,(o8.less (by omega)).more ah,d,rfl⟩
 ·have f:R=none:=by rw [F.out,if_neg heq]
  subst f;have e1:((bs N).toList == (bs t).toList)=false:=by rw [bs_eq];exact decide_eq_false heq
  have e2:((bs N).toList != (bs t).toList)=true:=by simp only [bne,e1];rfl
  clear heq F x0 x1 x2 x3 x4 B I;go_wp2_with fail;refine bp_row2 [.int .i64 0,.int .i64 0,.int .i64 0,.slice none 0 0,.int .i64 0] (.bool false) (below_five K.bel (by omega) _ _ _ _ _) (five K.re _ _ _ _ _) (λ T O=>by simp [results,Tryz.results9,go_sem,O]) rfl λ T d=>?_;exact⟨0,0,0,_,[],0,false,rfl,OwnS.nil_ _ _ _ _ _ _,d,rfl,rfl,rfl,rfl,rfl,rfl⟩
end TxI
namespace TsI
open Go.ChangeShapes Go.WideShapes Go.ChangeAt Go.RowKit Base Ints Own JoinN PlP TxP Num Bd1 Bd5 RegF RegG TxI
theorem levent_s (v:Vr) (hv:okV v=true) (k a b:Int) (ss:List Stp) (r:Int) (As:Option Addr) (cp B:Nat) (w:World) (hB:B<=w.heap.size) (hr:RdS w B 4 enSt As ss) :
  Calls Tryz.prog 30 #[.agg #[.int .i64 v.p,.int .i64 v.c,.int .i64 v.h,.int .i64 v.s],.agg #[.int .i64 k,.int .i64 a,.int .i64 b,.slice As ss.length cp,.int .i64 r]] w λ e w'=>e=.returned (.string (bs (evnT v ⟨k,a,b,ss,r⟩)))∧Below w.heap.size w w':=by
 obtain⟨R,hR⟩:∃ x,evnT v ⟨k,a,b,ss,r⟩=x:=⟨_,rfl⟩;rw [hR];have am:=kD hr;obtain⟨n,hn⟩:∃ n,ss.length=n:=⟨_,rfl⟩;have ai:blankP ⟨k,a,b,ss,r⟩=if k=1 then decide (n=0∧r=0) else if k=2 then decide (r=0) else if k=3 then decide (a=0∧b=0∧n=0) else false:=by unfold blankP;rw [hn]
 obtain⟨bl,aa⟩:∃ c,(if k=1 then decide (n=0∧r=0) else if k=2 then decide (r=0) else if k=3 then decide (a=0∧b=0∧n=0) else false)=c:=⟨_,rfl⟩;have ah:R=if bl=false then [] else
   if k=1 then (if (1<=a∧a<=v.s)∧1<=b∧b<=v.s then opW++[32]++Lib.itoa a++[32]++Lib.itoa b else [])
   else if k=3 then (if 1<=r∧r<=3 then reW++[32]++Lib.itoa r else []) else if trnT v a b ss=[] then [] else tuW++[32]++trnT v a b ss:=by rw [<-hR,<-aa,<-ai];rfl
 have CB:=kD (λ f=>blank_s k a b n As cp r bl aa f);rw [hn];have HN:=kD hn;have HE:=kD ah;have HV:=kD hv;clear hR ai aa ah hr hn hv;go_enter Tryz.func30,Tryz.ntmps30;go_upto_region 1 with fail;refine wp_gen (λ W'=>Bve w W' v [.int .i64 k,.int .i64 a,.int .i64 b,.slice As n cp,.int .i64 r]) ⟨by go_grown,(RowB.new _ _ _).alloc _,RowB.new' _ _ _ (by simp)⟩ ?_;intro w1 K;obtain⟨y0,y1,y2,y3,y4⟩:=K.re.c5;have P:=K.re.lt;go_wp2_with fail;refine(CB.out _).mono ?_;rintro e w2 ⟨rfl,N⟩;have K:=K.below N;clear y0 y1 y2 y3 y4 P N CB
 cases bl
 case false =>
  obtain rfl:R=[]:=by rw [HE.out];rfl
  go_wp2_with fail;go_ret;exact⟨rfl,K.bel⟩
 have I:Hid (R=if k=1 then (if (1<=a∧a<=v.s)∧1<=b∧b<=v.s then opW++[32]++Lib.itoa a++[32]++Lib.itoa b else [])
   else if k=3 then (if 1<=r∧r<=3 then reW++[32]++Lib.itoa r else []) else if trnT v a b ss=[] then [] else tuW++[32]++trnT v a b ss):=HE.out
 clear HE;obtain⟨c1,h1⟩:∃ c,decide (1<=a∧a<=v.s)=c:=⟨_,rfl⟩;obtain⟨c2,h2⟩:∃ c,decide (1<=b∧b<=v.s)=c:=⟨_,rfl⟩;obtain⟨c3,h3⟩:∃ c,decide (1<=r∧r<=3)=c:=⟨_,rfl⟩;have C1:=kD (λ w=>in_s a 1 v.s c1 h1 w);have C2:=kD (λ w=>in_s b 1 v.s c2 h2 w);have C3:=kD (λ w=>in_s r 1 3 c3 h3 w);have al:=kD h1;have ak:=kD h2;have aj:=kD h3;clear h1 h2 h3;obtain⟨q0,q1,q2,q3⟩:=K.rv.c4;obtain⟨y0,y1,y2,y3,y4⟩:=K.re.c5;have ag:=K.rv.lt;have P:=K.re.lt;by_cases k1:k=1
 ·subst k1;have g:Hid (R=if (1<=a∧a<=v.s)∧1<=b∧b<=v.s then opW++[32]++Lib.itoa a++[32]++Lib.itoa b else []):=I.out;clear I;go_wp2_with fail;refine(C1.out _).mono ?_;rintro e w3 ⟨rfl,rfl⟩
  cases c1
  case false =>
   obtain rfl:R=[]:=by rw [g.out,if_neg (λ h=>of_decide_eq_false al.out h.1)]
   clear g;go_wp2_with fail;go_ret;exact⟨rfl,K.bel⟩
  go_wp2_with fail;refine(C2.out _).mono ?_;rintro e w3 ⟨rfl,rfl⟩
  cases c2
  case false =>
   obtain rfl:R=[]:=by rw [g.out,if_neg (λ h=>of_decide_eq_false ak.out h.2)]
   clear g;go_wp2_with fail;go_ret;exact⟨rfl,K.bel⟩
  have ha:=of_decide_eq_true al.out;have N:=of_decide_eq_true ak.out;have hp:=okV_iff.1 HV.out;have CA:=kD (λ(f:World)=>num_s a (by omega) (by omega) f);have CB:=kD (λ(f:World)=>num_s b (by omega) (by omega) f);have z1:=ito_len (n:=a) (by omega) (by omega);have z2:=ito_len (n:=b) (by omega) (by omega);obtain⟨J,i⟩:∃ z:ByteArray,bs (Lib.itoa a)=z:=⟨_,rfl⟩;obtain⟨xb,O⟩:∃ z:ByteArray,bs (Lib.itoa b)=z:=⟨_,rfl⟩;rw [i] at CA;rw [O] at CB;have s1:J.size<=2:=by rw [<-i];exact Nat.le_trans (Nat.le_of_eq (bs_size _)) z1.2
  have s2:xb.size<=2:=by rw [<-O];exact Nat.le_trans (Nat.le_of_eq (bs_size _)) z2.2
  have W:Hid ((((⟨#[111,112,101,110,105,110,103,32]⟩:ByteArray)++J)++(⟨#[32]⟩:ByteArray))++xb=bs R):=by
   show _=_
   rw [g.out,if_pos ⟨ha,N⟩,<-i,<-O];have g1:(⟨#[111,112,101,110,105,110,103,32]⟩:ByteArray)=bs (opW++[32]):=rfl;have g2:(⟨#[32]⟩:ByteArray)=bs [32]:=rfl;simp only [g1,g2,bs_cat]
  obtain⟨T1,T⟩:∃ z,(⟨#[111,112,101,110,105,110,103,32]⟩:ByteArray)++J=z:=⟨_,rfl⟩;have u1:T1.size<=10:=by rw [<-T,ByteArray.size_append];show 8+J.size<=10;omega
  obtain⟨T2,Q⟩:∃ z,T1++(⟨#[32]⟩:ByteArray)=z:=⟨_,rfl⟩;have u2:T2.size<=11:=by rw [<-Q,ByteArray.size_append];show T1.size+1<=11;omega
  obtain⟨T3,ac⟩:∃ z,T2++xb=z:=⟨_,rfl⟩;rw [T,Q,ac] at W;have Z:Hid (¬ 9223372036854775807<8+J.size):=kD (by omega);have Y:Hid (¬ 9223372036854775807<T1.size+1):=kD (by omega);have X:Hid (¬ 9223372036854775807<T2.size+xb.size):=kD (by omega);have C:=kD T;have y:=kD Q;have t:=kD ac;have V:=kD K;clear g i O s1 s2 z1 z2 ha N hp T Q ac u1 u2 K q0 q1 q2 q3 y0 y1 y2 y3 y4 ag P;go_wp2_with fail;refine rG [some 25,some 26,some 27,some 28,some 29,some 30,some 31,some 32,some 33,some 4] 10 (Pl [some (.pointer (some ⟨w.heap.size+1,1,none⟩)),some (.int .i64 a),some (.string J),some (.string T1),some (.string T2),some (.pointer (some ⟨w.heap.size+1,2,none⟩)),some (.int .i64 b),some (.string xb),some (.string T3),some (.string T3)]) (λ L d w'=>Below w2.heap.size w2 w') ?g0_1 ?gst_1 ?gfin_1
  case g0_1=>exact(Below.refl _ _).drew
  case gst_1 =>
   refine rN rfl (λ L d A f j m o U F K q=>?_) ?_
   ·have e3:=U.w 3 (.pointer (some ⟨w.heap.size+1,0,none⟩));have D:=(V.out.re.below F V.out.re.lt).c5;have r1:=D.2.1;have r2:=D.2.2.1;clear D;have H:=Z.out;have G:=Y.out;have E:=X.out;have t1:=C.out;have t2:=y.out;have t3:=t.out;go_simp;exact pF q (F)
   refine rN rfl (λ L d A f j m o U F K q=>?_) ?_
   ·have ay:=U.v 0 25;have D:=(V.out.re.below F V.out.re.lt).c5;have r1:=D.2.1;have r2:=D.2.2.1;clear D;have H:=Z.out;have G:=Y.out;have E:=X.out;have t1:=C.out;have t2:=y.out;have t3:=t.out;go_simp;exact pF q (F)
   refine rN rfl (λ L d A f j m o U F K q=>?_) ?_
   ·have ax:=U.v 1 26;go_simp;refine(CA.out f).mono ?_;rintro e w6 ⟨rfl,ab⟩;exact pF q (F.trans (ab.mono F.size))
   refine rN rfl (λ L d A f j m o U F K q=>?_) ?_
   ·have aw:=U.v 2 27;have H:=Z.out;have G:=Y.out;have E:=X.out;have t1:=C.out;have t2:=y.out;have t3:=t.out;go_simp;exact pF q (F)
   refine rN rfl (λ L d A f j m o U F K q=>?_) ?_
   ·have av:=U.v 3 28;have H:=Z.out;have G:=Y.out;have E:=X.out;have t1:=C.out;have t2:=y.out;have t3:=t.out;go_simp;exact pF q (F)
   refine rN rfl (λ L d A f j m o U F K q=>?_) ?_
   ·have e3:=U.w 3 (.pointer (some ⟨w.heap.size+1,0,none⟩));have D:=(V.out.re.below F V.out.re.lt).c5;have r1:=D.2.1;have r2:=D.2.2.1;clear D;have H:=Z.out;have G:=Y.out;have E:=X.out;have t1:=C.out;have t2:=y.out;have t3:=t.out;go_simp;exact pF q (F)
   refine rN rfl (λ L d A f j m o U F K q=>?_) ?_
   ·have aq:=U.v 5 30;have D:=(V.out.re.below F V.out.re.lt).c5;have r1:=D.2.1;have r2:=D.2.2.1;clear D;have H:=Z.out;have G:=Y.out;have E:=X.out;have t1:=C.out;have t2:=y.out;have t3:=t.out;go_simp;exact pF q (F)
   refine rN rfl (λ L d A f j m o U F K q=>?_) ?_
   ·have ap:=U.v 6 31;go_simp;refine(CB.out f).mono ?_;rintro e w6 ⟨rfl,ab⟩;exact pF q (F.trans (ab.mono F.size))
   refine rN rfl (λ L d A f j m o U F K q=>?_) ?_
   ·have ar:=U.v 4 29;have ao:=U.v 7 32;have H:=Z.out;have G:=Y.out;have E:=X.out;have t1:=C.out;have t2:=y.out;have t3:=t.out;go_simp;exact pF q (F)
   refine rN rfl (λ L d A f j m o U F K q=>?_) ?_
   ·have an:=U.v 8 33;have H:=Z.out;have G:=Y.out;have E:=X.out;have t1:=C.out;have t2:=y.out;have t3:=t.out;go_simp;exact pF q (F)
   exact RelFrom.nil (by decide)
  case gfin_1 =>
   intro d f hp F;simp only [Fr,Act.put,sX,Nat.reduceAdd];have h4:d 9=.string T3:=hp 9 (by decide) _ rfl;rw [h4,W.out];have K:=V.out.below F;clear F hp h4;go_wp2_with fail;go_ret;exact⟨rfl,K.bel⟩
 by_cases k3:k=3
 ·subst k3;have g:Hid (R=if 1<=r∧r<=3 then reW++[32]++Lib.itoa r else []):=I.out;clear I k1;go_wp2_with fail;refine(C3.out _).mono ?_;rintro e w3 ⟨rfl,rfl⟩
  cases c3
  case false =>
   obtain rfl:R=[]:=by rw [g.out,if_neg (of_decide_eq_false aj.out)]
   clear g;go_wp2_with fail;go_ret;exact⟨rfl,K.bel⟩
  have af:=of_decide_eq_true aj.out;have CA:=kD (λ(f:World)=>num_s r (by omega) (by omega) f);have z1:=ito_len (n:=r) (by omega) (by omega);obtain⟨J,i⟩:∃ z:ByteArray,bs (Lib.itoa r)=z:=⟨_,rfl⟩;rw [i] at CA;have s1:J.size<=2:=by rw [<-i];exact Nat.le_trans (Nat.le_of_eq (bs_size _)) z1.2
  have W:Hid ((⟨#[114,101,115,105,103,110,32]⟩:ByteArray)++J=bs R):=by
   show _=_
   rw [g.out,if_pos af,<-i];exact bs_cat (reW++[32]) _
  have ad:Hid (Ending.returned (.string ((⟨#[114,101,115,105,103,110,32]⟩:ByteArray)++J))=Ending.returned (.string (bs R))):=by show _=_;rw [W.out]
  have g1:¬ 9223372036854775807<7+J.size:=by omega
  clear g i z1 af W;go_wp2_with fail;refine(CA.out _).mono ?_;rintro e w4 ⟨rfl,N⟩;have K:=K.below N;go_wp2_with fail;go_ret;exact⟨ad.out,K.bel⟩
 have M:Hid (R=if trnT v a b ss=[] then [] else tuW++[32]++trnT v a b ss):=by show _=_;rw [I.out,if_neg k1,if_neg k3]
 have d1:(k == 1)=false:=by simp [k1]
 have d3:(k == 3)=false:=by simp [k3]
 clear I k1 k3;have CT:=kD (λ(f:World) (h9:Below w.heap.size w f)=>turn_s v HV.out a b As cp B ss f (Nat.le_trans hB h9.size) (am.out.below h9 hB));obtain⟨S,hS⟩:∃ s,trnT v a b ss=s:=⟨_,rfl⟩;have hl:=trnT_len HV.out a b ss;rw [hS] at M CT hl;rw [HN.out] at CT;clear hS;go_wp2_with fail;refine(CT.out _ K.bel).mono ?_;rintro e w3 ⟨rfl,N⟩;have K:=K.below N;clear q0 q1 q2 q3 y0 y1 y2 y3 y4 ag P N CT;by_cases hS0:S=[]
 ·obtain rfl:R=[]:=by rw [M.out,if_pos hS0]
  have e0:(bs S).toList.isEmpty=true:=by rw [ByteArray.toList_eq,bs_data,hS0];rfl
  clear M hS0;go_wp2_with fail;go_ret;exact⟨rfl,K.bel⟩
 have e0:(bs S).toList.isEmpty=false:=by rw [ByteArray.toList_eq,bs_data];cases S with | nil=>exact absurd rfl hS0 | cons a l=>rfl
 have W:Hid ((⟨#[116,117,114,110,32]⟩:ByteArray)++bs S=bs R):=by
  show _=_
  rw [M.out,if_neg hS0];exact bs_cat (tuW++[32]) S
 have zS:(bs S).size<=54:=by rw [bs_size];exact hl
 obtain⟨sb,ae⟩:∃ z,bs S=z:=⟨_,rfl⟩;rw [ae] at W e0 zS ⊢;have ad:Hid (Ending.returned (.string ((⟨#[116,117,114,110,32]⟩:ByteArray)++sb))=Ending.returned (.string (bs R))):=by show _=_;rw [W.out]
 have g1:¬ 9223372036854775807<5+sb.size:=by omega
 clear M hS0 ae W hl;go_wp2_with fail;go_ret;exact⟨ad.out,K.bel⟩
theorem event_s (v:Vr) (k a b:Int) (ss:List Stp) (r:Int) (As:Option Addr) (cp B:Nat) (w:World) (hB:B<=w.heap.size) (hr:RdS w B 4 enSt As ss) :
  Calls Tryz.prog 8 #[.agg #[.int .i64 v.p,.int .i64 v.c,.int .i64 v.h,.int .i64 v.s],.agg #[.int .i64 k,.int .i64 a,.int .i64 b,.slice As ss.length cp,.int .i64 r]] w λ e w'=>e=.returned (.string (bs (if okV v=true then evnT v ⟨k,a,b,ss,r⟩ else [])))∧Below w.heap.size w w':=by
 obtain⟨t,d⟩:∃ o,okV v=o:=⟨_,rfl⟩;have z:=kD (λ g=>var_s v t d g);have A:=kD (λ(C:okV v=true) (g:World) (y:Below w.heap.size w g)=>levent_s v C k a b ss r As cp B g (Nat.le_trans hB y.size) (hr.below y hB));rw [d];obtain⟨n,x⟩:∃ n,ss.length=n:=⟨_,rfl⟩;rw [x] at A ⊢;have F:=kD d;clear d hr x;go_enter Tryz.func8,Tryz.ntmps8;go_upto_region 1 with fail;refine wp_gen (λ E=>Bve w E v [.int .i64 k,.int .i64 a,.int .i64 b,.slice As n cp,.int .i64 r]) ⟨by go_grown,(RowB.new _ _ _).alloc _,RowB.new' _ _ _ (by simp)⟩ ?_;intro O K;obtain⟨q,m,l,j⟩:=K.rv.c4;have f:=K.rv.lt;go_wp2_with fail;refine(z.out _).mono ?_;rintro e N ⟨rfl,i⟩;have K:=K.below i;clear q m l j f i z
 cases t
 ·go_wp2_with fail;go_ret;exact⟨rfl,K.bel⟩
 obtain⟨q,m,l,j⟩:=K.rv.c4;obtain⟨L,J,I,H,G⟩:=K.re.c5;have f:=K.rv.lt;have D:=K.re.lt;go_wp2_with fail;refine(A.out F.out _ K.bel).mono ?_;rintro e M ⟨rfl,i⟩;have K:=K.below i;go_wp2_with fail;go_ret;exact⟨rfl,K.bel⟩
end TsI
namespace Gm
open Go Go.ChangeShapes Go.WideShapes Go.ChangeAt Go.RowKit Base Ints Own RelG PlP TxP Num Bd1 Bd5 RegInv RegF RegG TxI
def HdR (o:Option (Vr × Int)) (w:World) (e:Ending) (w':World):Prop :=
 ∃(p c h s n:Int) (ok:Bool),e=.returned (.tuple #[.agg #[.int .i64 p,.int .i64 c,.int .i64 h,.int .i64 s,.int .i64 n,.slice none 0 0],.bool ok])∧Below w.heap.size w w'∧(if ok=true then o=some (⟨p,c,h,s⟩,n) else o=none)
abbrev ERow:=Int × Int × Int × Value × Int
def enEv (r:ERow):List Value:=[.int .i64 r.1,.int .i64 r.2.1,.int .i64 r.2.2.1,r.2.2.2.1,.int .i64 r.2.2.2.2]
theorem enEv_len (r:ERow):(enEv r).length=5:=rfl
theorem one_Ev (r:ERow) (h:r.2.2.2.1.oneCell'=true):∀ u ∈ enEv r,u.oneCell'=true:=by
 intro u a;simp [enEv] at a;rcases a with rfl | rfl | rfl | rfl | rfl
 ·rfl
 ·rfl
 ·rfl
 ·exact h
 ·rfl
theorem infoE:(Tryz.prog.info? 28).map (λ i=>(i.zero,i.size,i.bytes))=some (some (.agg #[.int .i64 0,.int .i64 0,.int .i64 0,.slice none 0 0,.int .i64 0]),5,56):=by kernel_rfl
def RelEv:Rel ERow Ev where
 R:=λ w S r x=>(r.1=x.k∧r.2.1=x.a∧r.2.2.1=x.b∧r.2.2.2.2=x.r)∧OwnV 111 4 enSt w S r.2.2.2.1 x.ss
 keep:=λ h hs=>⟨h.1,(relO 111 4 enSt).keep h.2 hs⟩
 weak:=λ h hs=>⟨h.1,(relO 111 4 enSt).weak h.2 hs⟩
def Evs (w:World) (lo:Nat) (ev:Value) (es:List Ev):Prop :=
 ∃ rs:List ERow,OwnS w lo w.heap.size 28 5 enEv ev rs∧LsR RelEv w (NotIn ev lo) rs es∧rs.Pairwise (λ r q=>Apart r.2.2.2.1 q.2.2.2.1)
theorem Evs.nil (w:World) (lo:Nat):Evs w lo (.slice none 0 0) []:=⟨[],OwnS.nil_ _ _ _ _ _ _,LsR.nil _ _ _,List.Pairwise.nil⟩
section
variable {w w':World} {lo:Nat} {ev:Value} {es:List Ev}
theorem Evs.below (h:Evs w lo ev es) (hb:Below w.heap.size w w'):Evs w' lo ev es:=by
 obtain⟨a,d,c,b⟩:=h;exact⟨a,(d.below hb (Nat.le_refl _)).more hb.size,c.keep (.below hb),b⟩
theorem Evs.low {g:Nat} (h:Evs w lo ev es) (hg:w.grownBy w' (some g)) (hl:g<lo):Evs w' lo ev es:=by
 obtain⟨b,f,e,d⟩:=h;exact⟨b,(f.grown hg (λ k a=>by simp at a;omega)).more hg.size,e.keep (Still.grown hg (λ k a c=>by simp at a;have:=c.2;omega)),d⟩
theorem Evs.less {lo':Nat} (h:Evs w lo ev es) (hl:lo'<=lo):Evs w lo' ev es:=by
 obtain⟨c,f,e,d⟩:=h;exact⟨c,f.less hl,e.weak (λ b a _=>⟨a.1,by have:=a.2;omega⟩),d⟩
theorem Evs.form (h:Evs w lo ev es):∃ A c,ev=.slice A es.length c:=by
 obtain⟨d,b,a,f⟩:=h;obtain⟨A,c,e,-⟩:=b.form enEv_len;exact⟨A,c,by rw [e,a.1]⟩
theorem Evs.app {w4 w6:World} {gl:Nat} (H:Evs w4 lo ev es) (hlo:lo<=w4.heap.size) (hb:w4.grownBy w6 (some gl)) (hgl:gl<lo) (k a b r:Int) (sv:Value) (ss:List Stp) (hs:OwnS w6 w4.heap.size w6.heap.size 111 4 enSt sv ss) :
  ∃ rs:List ERow,OwnS w6 lo w6.heap.size 28 5 enEv ev rs∧rs.length=es.length∧∀ g n c w7,OwnS w7 lo w7.heap.size 28 5 enEv (.slice (some ⟨g,0,none⟩) n c) (rs++[(k,a,b,sv,r)])->w6.grownBy w7 ev.ownBlock->(ev.ownBlock=some g∨g=w6.heap.size)->Evs w7 lo (.slice (some ⟨g,0,none⟩) n c) (es++[⟨k,a,b,ss,r⟩]):=by
 obtain⟨rs,w,t,I⟩:=H;have s:∀ g,ev.ownBlock=some g->g<w4.heap.size:=λ g f=>(w.block g f).2
 refine⟨rs,(w.grown hb (λ k m=>by simp at m;omega)).more hb.size,t.1,λ g n c w7 D f d=>?_⟩;have v:=t.keep (Still.grown hb (λ k m E=>by simp at m;have:=E.2;omega));have B:RelEv.R w6 (NotIn ev lo) (k,a,b,sv,r) ⟨k,a,b,ss,r⟩:=⟨⟨rfl,rfl,rfl,rfl⟩,OwnV.of hs (Nat.le_refl _) (λ L K J=>⟨λ e=>by have:=s L e;omega,by omega⟩)⟩;refine⟨rs++[(k,a,b,sv,r)],D,LsR.snoc ⟨v.1,λ i A z j h=>app_still f d (v.2 i A z j h)⟩ (app_still f d B),?_⟩;refine List.pairwise_append.2 ⟨I,List.pairwise_singleton _ _,λ q C M l=>?_⟩;obtain rfl:=List.mem_singleton.1 l;obtain⟨i,F⟩:=List.getElem?_of_mem C;obtain⟨x,N,G⟩:=t.at_ F;intro y p o;have P:=(G.2.1.block y p).2;have O:=(hs.block y o).1;omega
theorem Evs.block (h:Evs w lo ev es):∀ g,ev.ownBlock=some g->lo<=g∧g<w.heap.size:=by
 obtain⟨b,a,d,c⟩:=h;exact a.block
end
theorem HdR.v {o:Option (Vr × Int)} {w w':World} {e:Ending} (h:HdR o w e w'):∃(v:Vr) (n:Int) (ok:Bool),e=.returned (.tuple #[.agg #[.int .i64 v.p,.int .i64 v.c,.int .i64 v.h,.int .i64 v.s,.int .i64 n,.slice none 0 0],.bool ok])∧Below w.heap.size w w'∧(if ok=true then o=some (v,n) else o=none):=by
 obtain⟨p,c,h,s,n,ok,e,b,a⟩:=h;exact⟨⟨p,c,h,s⟩,n,ok,e,b,a⟩
end Gm
end Go.Proofs.YtjdefiinmicjiaaGreatDoor
