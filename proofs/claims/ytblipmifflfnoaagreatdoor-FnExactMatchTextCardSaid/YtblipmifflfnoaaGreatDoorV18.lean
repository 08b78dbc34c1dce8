/- Parts of the proof of FnExactMatchText. Conditions: each theorem's own. -/
import Derived.Test.YtblipmifflfnoaaGreatDoorV17
set_option linter.unusedVariables false
set_option linter.unusedSimpArgs false
set_option maxHeartbeats 8000000
set_option maxRecDepth 100000
namespace Go.Proofs.YtblipmifflfnoaaGreatDoor
namespace Gm
open Go Go.ChangeShapes Go.WideShapes Go.ChangeAt Go.RowKit Base Ints Own Clone RelG PlP Bd1 Bd2 Bd5 Bd6 Bd7 Bd8 RegInv RegF RegG
theorem full_s (w:World):Calls Tryz.prog 103 #[] w λ e w'=>e=.returned (.agg #[.int .i64 24,.int .i64 15,.int .i64 6,.int .i64 6])∧Below w.heap.size w w':=by
 go_enter Tryz.func103,Tryz.ntmps103;go_wp2;go_returns;exact⟨rfl,by go_grown⟩
theorem full_i (w:World):Calls Tryz.prog 123 #[] w λ e w'=>e=.returned (.agg #[.int .i64 24,.int .i64 15,.int .i64 6,.int .i64 6])∧Below w.heap.size w w':=by
 go_enter Tryz.func123,Tryz.ntmps123;go_wp2;go_returns;exact⟨rfl,by go_grown⟩
def fullB (v:Vr):Bool:=decide (v.p=24) && decide (v.c=15) && decide (v.h=6) && decide (v.s=6)
theorem eq_full (v:Vr) (w:World):(binOp .eql 23 (.agg #[.int .i64 v.p,.int .i64 v.c,.int .i64 v.h,.int .i64 v.s]) (.agg #[.int .i64 24,.int .i64 15,.int .i64 6,.int .i64 6])).run Tryz.prog w=.ok (.bool (fullB v)) w:=by
 unfold fullB;by_cases h1:v.p=24 <;> by_cases h2:v.c=15 <;> by_cases h3:v.h=6 <;> by_cases h4:v.s=6 <;> go_simp <;> simp [h1,h2,h3,h4]
theorem flatI_rep (n:Nat):(List.replicate n (0:Int)).flatMap enI=List.replicate n (Value.int .i64 0):=by
 induction n with
 | zero=>rfl
 | succ n ih=>rw [List.replicate_succ,List.flatMap_cons,ih];rfl
theorem empty_s (v:Vr) (hv:okV v=true) (w:World):Calls Tryz.prog 102 #[.agg #[.int .i64 v.p,.int .i64 v.c,.int .i64 v.h,.int .i64 v.s]] w λ e w'=>(∃(g n:Nat),(n:Int)=v.p+1∧e=.returned (.slice (some ⟨g,0,none⟩) n n)∧w.heap.size<=g∧RowI w' g (List.replicate n 0) [])∧Below w.heap.size w w':=by
 have x:=okV_iff.1 hv;obtain⟨r,m,k,j,i⟩:=info_parts Ints.info;obtain⟨n,l⟩:∃ n:Nat,(n:Int)=v.p+1:=⟨(v.p+1).toNat,by omega⟩;have t:IntKind.i64.wrap (v.p+1)=(n:Int):=by rw [IntWalk.i64_in _ (by omega)];exact l.symm
 have y:n<=25:=by omega
 have z:=kD l;clear l x hv;go_enter Tryz.func102,Tryz.ntmps102;go_wp2_with (at_make;refine wpList_make_full _ rfl _ _ _ rfl (w.heap.size+1) 2 r (.int .i64 0) 1 Tryz.underlying44 m k j _ _ _ _ n rfl rfl rfl rfl ?c1 ?c2 (by go_size) ?_)
 case c1=>rw [i];omega
 case c2=>unfold maxLen;omega
 intro q b a;have d:Below w.heap.size w (w.alloc (.cells #[.int .i64 v.p,.int .i64 v.c,.int .i64 v.h,.int .i64 v.s] 23)):=by go_grown
 have o:Below w.heap.size w q:=d.grown a d.size (by simp);have f:RowI q (w.heap.size+1) (List.replicate n 0) []:=by
  have:=RowB.of_own b;unfold RowI
  simpa [made_rep,flatI_rep] using this
 clear b a d;go_wp2_with fail;go_ret;exact⟨⟨w.heap.size+1,n,z.out,rfl,by omega,f⟩,o⟩
structure Sg (w wr:World) (v:Vr) (g:Nat) (l:List Int):Prop where
 bel:Below w.heap.size w wr
 rv:RowB wr w.heap.size 23 (vL v)
 rl:RowI wr g l []
theorem Sg.below {w wr w':World} {v:Vr} {g:Nat} {l:List Int} (k:Sg w wr v g l) (hb:Below wr.heap.size wr w'):Sg w w' v g l :=
 ⟨k.bel.trans (hb.mono k.bel.size),k.rv.below hb k.rv.lt,k.rl.below hb k.rl.lt⟩
theorem Sg.put {w wr:World} {v:Vr} {g:Nat} {l:List Int} (k:Sg w wr v g l) (hg:w.heap.size<g) {i:Nat} (hi:i<l.length) (x:Int):Sg w (wr.setCell ⟨g,i,none⟩ (.int .i64 x)) v g (l.set i x) :=
 ⟨k.bel.setCell (p:=⟨g,i,none⟩) (by show w.heap.size<=g;omega) _,k.rv.other (p:=⟨g,i,none⟩) (by show w.heap.size≠g;omega) _,k.rl.put hi x⟩
theorem start_s (v:Vr) (hv:okV v=true) (h4:4<=v.p) (w:World):Calls Tryz.prog 74 #[.agg #[.int .i64 v.p,.int .i64 v.c,.int .i64 v.h,.int .i64 v.s]] w λ e w'=>(∃ sv,e=.returned sv∧OwnS w' w.heap.size w'.heap.size 2 1 enI sv (startL v))∧Below w.heap.size w w':=by
 have r:=okV_iff.1 hv;have CE:=kD (λ l=>empty_s v hv l);have CF:=kD (λ l=>full_s l);obtain⟨q,W⟩:∃ q,fullB v=q:=⟨_,rfl⟩;have qE:∀ w:World,(binOp .eql 23 (.agg #[.int .i64 v.p,.int .i64 v.c,.int .i64 v.h,.int .i64 v.s]) (.agg #[.int .i64 24,.int .i64 15,.int .i64 6,.int .i64 6])).run Tryz.prog w=.ok (.bool q) w:=λ w=>by rw [eq_full,W]
 have HQ:=kD W;clear W hv;go_enter Tryz.func74,Tryz.ntmps74;go_upto_region 1 with fail;refine wp_gen (λ W'=>Below w.heap.size w W'∧RowB W' w.heap.size 23 (vL v)) ⟨by go_grown,RowB.new _ _ _⟩ ?_;rintro w1 ⟨C,S⟩;obtain⟨I,H,G,E⟩:=S.c4;have f:=S.lt;go_wp2_with fail;refine(CE.out _).mono ?_;rintro e V ⟨⟨g,n,hn,rfl,hg,m⟩,B⟩;have K:Sg w V v g (List.replicate n 0):=⟨C.trans (B.mono C.size),S.below B f,m⟩;have b:w.heap.size<g:=by omega
 clear C B S I H G E m hg f;obtain⟨I,H,G,E⟩:=K.rv.c4;have f:=K.rv.lt;have T:=kD hn;have ah:5<=n:=by omega
 have aa:n<=25:=by omega
 have hP:=kD r;clear hn r;go_wp2_with fail;have KB:=K;refine rG [some 6,some 7,some 8] 3 (Pl [some (.agg #[.int .i64 v.p,.int .i64 v.c,.int .i64 v.h,.int .i64 v.s]),some (.agg #[.int .i64 24,.int .i64 15,.int .i64 6,.int .i64 6]),some (.bool q)]) (λ L a w'=>Below V.heap.size V w') ?g0_1 ?gst_1 ?gfin_1
 case g0_1=>exact(Below.refl _ _).drew
 case gst_1 =>
  refine rN rfl (λ L a A l M N O U F K Q=>?_) ?_
  ·have e1:=U.w 1 (.pointer (some ⟨w.heap.size,0,none⟩));have KK:=KB.below F;obtain⟨I,H,G,E⟩:=KK.rv.c4;have ai:=KK.rv.lt;clear KK;go_simp;exact pF Q (F)
  refine rN rfl (λ L a A l M N O U F K Q=>?_) ?_
  ·go_simp;refine(CF.out l).mono ?_;rintro e w6 ⟨rfl,Y⟩;exact pF Q (F.trans (Y.mono F.size))
  refine rN rfl (λ L a A l M N O U F K Q=>?_) ?_
  ·have e6:=U.v 0 6;have e7:=U.v 1 7;go_simp;exact pF Q (F)
  exact RelFrom.nil (by decide)
 intro a l r F;simp only [Fr,Act.put,sX,Nat.reduceAdd];have J:a 2=.bool q:=r 2 (by decide) _ rfl;rw [J];have P:=F;have K:=KB.below P;obtain⟨w3,o⟩:∃ u,l=u:=⟨_,rfl⟩;rw [o] at K ⊢;clear I H G E f P F r J o KB qE CF CE
 cases q
 case true =>
  have x:v.p=24∧v.c=15∧v.h=6∧v.s=6:=by
   have:=HQ.out;unfold fullB at this;simp only [Bool.and_eq_true,decide_eq_true_eq] at this;exact⟨this.1.1.1,this.1.1.2,this.1.2,this.2⟩
  have d:n=25:=by have:=T.out;omega
  have HF:Hid (startL v=((((List.replicate n (0:Int)).set 5 5).set 7 3).set 12 5).set 23 2):=by
   show _=_
   unfold startL;rw [if_pos x,d]
  have g5:5<n:=by omega
  have g7:7<n:=by omega
  have ax:12<n:=by omega
  have aw:23<n:=by omega
  clear d x;have av:=K.rl.at_ (i:=5) (by simp only [List.length_set,List.length_replicate];omega);have ar:=K.rl.at_ (i:=7) (by simp only [List.length_set,List.length_replicate];omega);have ac:=K.rl.at_ (i:=12) (by simp only [List.length_set,List.length_replicate];omega);have ab:=K.rl.at_ (i:=23) (by simp only [List.length_set,List.length_replicate];omega);have Z:=RowB.frozen K.rl;have t:=RowB.lt K.rl;have R:=(((K.put b (i:=5) (by simp only [List.length_set,List.length_replicate];omega) 5).put b (i:=7) (by simp only [List.length_set,List.length_replicate];omega) 3).put b (i:=12) (by simp only [List.length_set,List.length_replicate];omega) 5).put b (i:=23) (by simp only [List.length_set,List.length_replicate];omega) 2;have k:=kD R;clear K R;go_wp2_with fail;go_ret;refine⟨⟨_,rfl,?_⟩,k.out.bel⟩;show OwnS _ w.heap.size _ 2 1 enI (.slice (some ⟨g,0,none⟩) n n) _
  rw [HF.out];have X:=RowI.own k.out.rl (lo:=w.heap.size) (hi:=w3.heap.size) (by omega) t rfl (by simp only [List.length_set,List.length_replicate,List.length_nil];unfold maxLen;omega)
  simpa only [List.length_set,List.length_replicate,List.length_nil,Nat.add_zero] using X.more (by simp)
 case false =>
  obtain⟨I,H,G,E⟩:=K.rv.c4;have f:=K.rv.lt;have Z:=RowB.frozen K.rl;have t:=RowB.lt K.rl;have r:=hP.out;obtain⟨i,hi⟩:∃ i:Nat,(i:Int)=v.p - 1:=⟨(v.p - 1).toNat,by omega⟩;obtain⟨j,hj⟩:∃ j:Nat,(j:Int)=v.p / 2 - 1:=⟨(v.p / 2 - 1).toNat,by omega⟩;have ag:IntKind.i64.wrap (v.p - 1)=(i:Int):=by rw [IntWalk.i64_in _ (by omega)];exact hi.symm
  have al:i<n:=by have:=T.out;omega
  have aj:j<n:=by have:=T.out;omega
  have am:¬ i=j:=by omega
  have ak:¬ j=i:=by omega
  have aq:=K.rl.at_ (i:=i) (by simp only [List.length_set,List.length_replicate];omega);have ap:=K.rl.at_ (i:=j) (by simp only [List.length_set,List.length_replicate];omega);obtain⟨D,z⟩:∃ c:Int,v.c / 2=c:=⟨_,rfl⟩;obtain⟨dd,y⟩:∃ c:Int,v.c - D=c:=⟨_,rfl⟩;have ao:Int.tdiv v.p 2=(j:Int)+1:=by rw [Int.tdiv_eq_ediv_of_nonneg (by omega)];omega
  have af:IntKind.i64.wrap ((j:Int)+1)=(j:Int)+1:=IntWalk.i64_in _ (by omega);have o:IntKind.i64.wrap ((j:Int)+1 - 1)=(j:Int):=by rw [IntWalk.i64_in _ (by omega)];omega
  have an:Int.tdiv v.c 2=D:=by rw [Int.tdiv_eq_ediv_of_nonneg (by omega)];exact z
  have ae:IntKind.i64.wrap D=D:=IntWalk.i64_in _ (by omega);have ad:IntKind.i64.wrap (v.c - D)=dd:=by rw [IntWalk.i64_in _ (by omega)];exact y
  have HF:Hid (startL v=((List.replicate n (0:Int)).set i D).set j dd):=by
   show _=_
   unfold startL;rw [if_neg (λ x=>by have:=HQ.out;unfold fullB at this;simp [x.1,x.2.1,x.2.2.1,x.2.2.2] at this)];rw [show (v.p+1).toNat=n from by have:=T.out;omega,show (v.p - 1).toNat=i from by omega,show (v.p / 2 - 1).toNat=j from by omega,<-y,<-z]
  have R:=(K.put b (i:=i) (by simp only [List.length_set,List.length_replicate];omega) D).put b (i:=j) (by simp only [List.length_set,List.length_replicate];omega) dd;have k:=kD R;clear hi hj r z y K R;go_wp2_with fail;go_ret;refine⟨⟨_,rfl,?_⟩,k.out.bel⟩;show OwnS _ w.heap.size _ 2 1 enI (.slice (some ⟨g,0,none⟩) n n) _
  rw [HF.out];have X:=RowI.own k.out.rl (lo:=w.heap.size) (hi:=w3.heap.size) (by omega) t rfl (by simp only [List.length_set,List.length_replicate,List.length_nil];unfold maxLen;omega)
  simpa only [List.length_set,List.length_replicate,List.length_nil,Nat.add_zero] using X.more (by simp)
structure Dv (M:(Nat->Prop)->(Nat->Value)->World->Prop) (k5 k4:Nat) (g:Value->Value) (L:Nat->Prop) (vals:Nat->Value) (w':World):Prop where
 a:M L vals w'
 b:L k5->L k4∧vals k5=g (vals k4)
section
variable {M:(Nat->Prop)->(Nat->Value)->World->Prop} {k5 k4:Nat} {g:Value->Value} {L:Nat->Prop} {vals:Nat->Value} {w' w'':World}
theorem Dv.other {k:Nat} {x:Value} (F:Dv M k5 k4 g L vals w') (hk:k5≠k∧k4≠k) (ha:M (λ j=>j=k∨L j) (upd vals k x) w''):Dv M k5 k4 g (λ j=>j=k∨L j) (upd vals k x) w'' :=
 ⟨ha,λ h=>by have:=F.b (h.resolve_left hk.1);rw [upd_ne hk.1,upd_ne hk.2];exact⟨.inr this.1,this.2⟩⟩
theorem Dv.at4 {x:Value} (F:Dv M k5 k4 g L vals w') (hno:¬ L k4) (hk:k5≠k4) (ha:M (λ j=>j=k4∨L j) (upd vals k4 x) w''):Dv M k5 k4 g (λ j=>j=k4∨L j) (upd vals k4 x) w'' :=
 ⟨ha,λ h=>absurd (F.b (h.resolve_left hk)).1 hno⟩
theorem Dv.at5 {x:Value} (F:Dv M k5 k4 g L vals w') (hk:k4≠k5) (l4:L k4) (hx:x=g (vals k4)) (ha:M (λ j=>j=k5∨L j) (upd vals k5 x) w''):Dv M k5 k4 g (λ j=>j=k5∨L j) (upd vals k5 x) w'' :=
 ⟨ha,λ _=>by rw [upd_same,upd_ne hk];exact⟨.inr l4,hx⟩⟩
end
def gm0 (v:Value):List Value:=aggC v++[.int .i64 0,.int .i64 0,.int .i64 0,.int .i64 0,.int .i64 0,.int .i64 0,.int .i64 0]
theorem new_s (v:Vr) (hv:okV v=true) (h4:4<=v.p) (w:World):Calls Tryz.prog 42 #[.agg #[.int .i64 v.p,.int .i64 v.c,.int .i64 v.h,.int .i64 v.s]] w λ e w'=>Ret RelGV (newG v) (λ _=>False) w e w':=by
 have CS:=kD (λ i=>start_s v hv h4 i);clear hv h4;go_enter Tryz.func42,Tryz.ntmps42;go_upto_region 1 with fail;refine wp_gen (λ W'=>Below w.heap.size w W'∧RowB W' w.heap.size 23 (vL v)∧RowB W' (w.heap.size+1) 50 gM) ⟨by go_grown,(RowB.new _ _ _).alloc _,RowB.new' _ _ _ (by simp)⟩ ?_;rintro w1 ⟨t,T,X⟩;have O:=T.lt;have Z:=X.lt;refine rG [some 3,some 4,some 5,some 6,some 7,some 8,none] 7 (Pl [some (.agg #[.int .i64 v.p,.int .i64 v.c,.int .i64 v.h,.int .i64 v.s]),none,some (.agg #[.int .i64 v.p,.int .i64 v.c,.int .i64 v.h,.int .i64 v.s]),none,none,none,none]) (λ L f w'=>Dv (λ L f w'=>C2E RelI (startL v) RelI (startL v) w1 1 3 4 6 (λ a b=>.agg #[a,b]) (w.heap.size+1) 50 (gmC (.slice none 0 0) (.slice none 0 0) nulG) gm0 L f w') 5 4 (λ v=>.agg ⟨gm0 v⟩) L f w') ?g0_2 ?gst_2 ?gfin_2
 case g0_2=>exact⟨⟨⟨rfl,rfl,rfl,Nat.le_refl _,λ _ _ _=>rfl⟩,Z,λ h=>absurd h (by decide),λ h=>absurd h (by decide),λ h=>absurd h (by decide),λ _=>X,λ h=>absurd h (by decide)⟩,λ h=>absurd h (by decide)⟩
 case gst_2 =>
  refine rN rfl (λ L f A i g d q U F K y=>?_) ?_
  ·have e1:=U.w 1 (.pointer (some ⟨w.heap.size,0,none⟩));have m:RowB i w.heap.size 23 (vL v):=(F.a.bel.block w.heap.size O (λ e=>by simp at e)).trans T;obtain⟨q0,l,j,q3⟩:=m.c4;have Y:=m.lt;clear m;go_simp;exact pF y (F.other (by decide) (F.a.skip 0 _))
  refine rN rfl (λ L f A i g d q U F K y=>?_) ?_
  ·have e3:=U.v 0 3;go_simp;refine(CS.out i).mono ?_;rintro e V ⟨⟨W,rfl,E⟩,G⟩;exact y.out W V (Pl.any rfl) (F.other (by decide) (F.a.call1 g (by decide) G (OwnV.sl enI_len (OwnV.of E (Nat.le_refl _) (λ b hb _=>hb)))))
  refine rN rfl (λ L f A i g d q U F K y=>?_) ?_
  ·have e1:=U.w 1 (.pointer (some ⟨w.heap.size,0,none⟩));have m:RowB i w.heap.size 23 (vL v):=(F.a.bel.block w.heap.size O (λ e=>by simp at e)).trans T;obtain⟨q0,l,j,q3⟩:=m.c4;have Y:=m.lt;clear m;go_simp;exact pF y (F.other (by decide) (F.a.skip 2 _))
  refine rN rfl (λ L f A i g d q U F K y=>?_) ?_
  ·have e5:=U.v 2 5;go_simp;refine(CS.out i).mono ?_;rintro e V ⟨⟨W,rfl,E⟩,G⟩;exact y.out W V (Pl.any rfl) (F.other (by decide) (F.a.call2 g (by decide) G (OwnV.sl enI_len (OwnV.of E (Nat.le_refl _) (λ b hb _=>hb)))))
  refine rN rfl (λ L f A i g d q U F K y=>?_) ?_
  ·have R:=U.x 1 4;have e6:=U.x 3 6;refine(F.a.f1 (bK d 1)).elim λ D l=>?_
   refine l.elim λ B l=>?_
   refine(F.a.f2 (bK d 3)).elim λ C j=>?_
   refine j.elim λ z j=>?_
   have ad:=R.trans l.1;have ac:=e6.trans j.1;clear R e6;go_simp;exact y.out _ i (Pl.any rfl) (F.at4 g (by decide) (F.a.built g (by decide) (bK d 1) (bK d 3) (by rw [l.1,j.1])))
  refine rN rfl (λ L f A i g d q U F K y=>?_) ?_
  ·have e7:=U.x 4 7;refine(F.a.f1 (bK d 1)).elim λ D l=>?_
   refine l.elim λ B l=>?_
   refine(F.a.f2 (bK d 3)).elim λ C j=>?_
   refine j.elim λ z j=>?_
   have aa:=e7.trans (F.a.fb (bK d 4)).2.2;rw [l.1,j.1] at aa;clear e7;go_simp;exact y.out _ i (Pl.any rfl) (F.at5 (by decide) (bK d 4) (by rw [(F.a.fb (bK d 4)).2.2,l.1,j.1];rfl) (F.a.skip 5 _))
  refine rN rfl (λ L f A i g d q U F K y=>?_) ?_
  ·have e2:=U.w 2 (.pointer (some ⟨w.heap.size+1,0,none⟩));have e8:=U.x 5 8;refine(F.a.f1 (bK d 1)).elim λ D l=>?_
   refine l.elim λ B l=>?_
   refine(F.a.f2 (bK d 3)).elim λ C j=>?_
   refine j.elim λ z j=>?_
   have h5:=(F.b (bK d 5)).2;rw [(F.a.fb (bK d 4)).2.2,l.1,j.1] at h5;refine wp_sm 50 _ _ rfl (w.heap.size+1) 0 (gmC (.slice D (startL v).length B) (.slice C (startL v).length z) (newG v)) (gmC (.slice none 0 0) (.slice none 0 0) nulG) (ev e2) (ev (e8.trans h5)) 50 (F.a.row g) (by kernel_rfl) (Nat.le_refl _) rfl ?_;exact y.out undef _ (Pl.any rfl) (F.other (by decide) (F.a.wrote (by decide) g (bK d 4) 0 (by rw [(F.a.fb (bK d 4)).2.2,l.1,j.1];rfl)))
  exact RelFrom.nil (by decide)
 intro f i hp F;simp only [Fr,Act.put,sX,Nat.reduceAdd];obtain⟨-,r⟩:=F.a.fw trivial;obtain⟨-,-,N⟩:=F.a.fb (F.a.fw trivial).1;obtain⟨D,B,e3,I,M⟩:=F.a.f1 trivial;obtain⟨C,z,R,H,J⟩:=F.a.f2 trivial;rw [N,e3,R] at r;have o:=F.a.bel;have Q:Below w.heap.size w i:=⟨o.os.trans t.os,o.tape.trans t.tape,o.output.trans t.output,Nat.le_trans t.size o.size,λ k hk=>(o.block k (by omega) (λ e=>by simp at e;omega)).trans (t.block k hk)⟩;have r:RowB i (w.heap.size+1) 50 (gmC (.slice D (startL v).length B) (.slice C (startL v).length z) (newG v)):=r;have P:BdR i (λ b=>(λ _=>False) b∨w.heap.size<=b) (.slice D (startL v).length B) (.slice C (startL v).length z) (newG v).b:=⟨⟨D,B,rfl,I.weak (λ b h _=>.inr (by omega)),M⟩,⟨C,z,rfl,H.weak (λ b h _=>.inr (by omega)),J⟩⟩;have S:=kD P;have ab:=kD Q;clear F hp N e3 R I H M J P Q o t T X;obtain⟨n,hn⟩:∃ n,(startL v).length=n:=⟨_,rfl⟩;rw [hn] at r S;clear hn;obtain⟨x0,x1,x2,x3,x4,x5,x6,x7,x8⟩:=row9 r;go_wp2_with fail;refine bodyPost_ret (v:=.agg ⟨gmC (.slice D n B) (.slice C n z) (newG v)⟩) (by simp [results,Tryz.results42,go_sem,gmC,newG,x0,x1,x2,x3,x4,x5,x6,x7,x8]) rfl ?_;exact⟨_,rfl,⟨_,_,rfl,S.out⟩,ab.out⟩
end Gm
namespace Bd31
open Go.ChangeShapes Go.WideShapes Go.ChangeAt Go.RowKit Base Ints Own Clone RelG PlP Bd1 Bd5 Bd8 Bd10 Bd11
theorem slEq (l m:List Int) (n:Nat) (hl:l.length=n) (hm:m.length=n) (A1 A2:Option Addr) (c1 c2 B:Nat) (w:World) (r1:RdS w B 1 enI A1 l) (r2:RdS w B 1 enI A2 m) (x:Bool) (hx:decide (l=m)=x) :
  Calls Tryz.prog 200 #[.slice A1 n c1,.slice A2 n c2] w λ e w'=>e=.returned (.bool x)∧Below w.heap.size w w':=by
 have g:=r1.len;rw [hl] at g;have p:Hid (decide (∀ i,i<n->at_ l i=at_ m i)=x):=kD (by rw [<-hx,<-hl];exact(eq_at (by rw [hl,hm])).symm);have G:=kD hl;have F:=kD hm;have E:=kD r1;have D:=kD r2;clear hl hm r1 r2 hx;go_enter Tryz.func200,Tryz.ntmps200;go_wp2_with fail;go_loopw [13] (λ i wr=>∃ k:Nat,k<=n∧i=.int .i64 (k:Int)∧Hid (∃ q,wr=w.drewN q)∧Hid (∀ i,i<k->at_ l i=at_ m i)) (λ i _=>n - (intOf i).toNat)
 case atStart=>exact⟨0,Nat.zero_le _,by first | rfl | trivial,kD ⟨0,rfl⟩,kD (λ i h=>absurd h (Nat.not_lt_zero _))⟩
 case round =>
  obtain⟨k,H,rfl,b,a⟩:=hrel;by_cases hlt:k<n
  ·obtain⟨C,s,rfl,o,d⟩:=at_rd E.out (i:=k) (by rw [G.out];exact hlt);obtain⟨A,r,rfl,j,c⟩:=at_rd D.out (i:=k) (by rw [F.out];exact hlt);have K:wr.cell? ⟨C,s+k,none⟩=some (.int .i64 (at_ l k)):=by obtain⟨q,rfl⟩:=b.out;exact d
   have J:wr.cell? ⟨A,r+k,none⟩=some (.int .i64 (at_ m k)):=by obtain⟨q,rfl⟩:=b.out;exact c
   have y:(k:Int)<(n:Int):=by omega
   have t:IntKind.i64.wrap ((k:Int)+1)=(k:Int)+1:=IntWalk.i64_in _ (by omega);clear d c;by_cases hv:at_ l k=at_ m k
   ·have z:(at_ l k != at_ m k)=false:=by simp [hv]
    have f:=kD (show ∀ i,i<k+1->at_ l i=at_ m i from λ i I=>by
     by_cases e:i=k
     ·rw [e];exact hv
     ·exact a.out i (by omega))
    clear hv;go_wp2_with fail;go_quiet (fail);go_wp2_with fail;go_roundw
    case rel=>exact⟨k+1,by omega,by go_num,kD (by obtain⟨q,rfl⟩:=b.out;exact⟨_,World.drewN_drewN _ _ _⟩),f⟩
    case measure=>simp [intOf];omega
   ·have z:(at_ l k != at_ m k)=true:=by simp [hv]
    obtain rfl:x=false:=by rw [<-p.out];exact decide_eq_false (λ h=>hv (h k hlt))
    clear hv;go_wp2_with fail;go_quiet (fail);go_wp2_with fail;go_ret;exact⟨rfl,by obtain⟨q,rfl⟩:=b.out;exact below_drewN (below_drewN (Below.refl _ _) _) _⟩
  ·obtain rfl:k=n:=by omega
   have v:¬ ((k:Int)<(k:Int)):=by omega
   obtain rfl:x=true:=by rw [<-p.out];exact decide_eq_true a.out
   go_wp2_with fail;go_ret;exact⟨rfl,by obtain⟨q,rfl⟩:=b.out;exact below_drewN (Below.refl _ _) _⟩
theorem same_i (a b:Bd) (n:Nat) (h1:a.1.length=n) (h2:a.2.length=n) (h3:b.1.length=n) (h4:b.2.length=n) (A1 A2 A3 A4:Option Addr) (c1 c2 c3 c4:Nat) (w:World)
  (r1:RdS w w.heap.size 1 enI A1 a.1) (r2:RdS w w.heap.size 1 enI A2 a.2) (r3:RdS w w.heap.size 1 enI A3 b.1) (r4:RdS w w.heap.size 1 enI A4 b.2) (x:Bool) (hx:decide (a=b)=x) :
  Calls Tryz.prog 170 #[.agg #[.slice A1 n c1,.slice A2 n c2],.agg #[.slice A3 n c3,.slice A4 n c4]] w λ e w'=>e=.returned (.bool x)∧Below w.heap.size w w':=by
 obtain⟨y,m⟩:∃ y,decide (a.1=b.1)=y:=⟨_,rfl⟩;obtain⟨z,l⟩:∃ z,decide (a.2=b.2)=z:=⟨_,rfl⟩;have t:Hid ((y && z)=x):=kD (by
  rw [<-hx,<-m,<-l,<-Bool.decide_and];exact decide_eq_decide.2 ⟨λ h=>Prod.ext h.1 h.2,λ h=>by rw [h];exact⟨rfl,rfl⟩⟩)
 have C:=kD (λ(i:World) (h:Below w.heap.size w i)=>slEq a.1 b.1 n h1 h3 A1 A3 c1 c3 w.heap.size i (r1.below h (Nat.le_refl _)) (r3.below h (Nat.le_refl _)) y m);have B:=kD (λ(i:World) (h:Below w.heap.size w i)=>slEq a.2 b.2 n h2 h4 A2 A4 c2 c4 w.heap.size i (r2.below h (Nat.le_refl _)) (r4.below h (Nat.le_refl _)) z l);clear h1 h2 h3 h4 r1 r2 r3 r4 hx m l;go_enter Tryz.func170,Tryz.ntmps170;go_upto_region 1 with fail;refine wp_gen (λ p=>Below w.heap.size w p∧RowB p w.heap.size 46 [.slice A1 n c1,.slice A2 n c2]∧RowB p (w.heap.size+1) 46 [.slice A3 n c3,.slice A4 n c4]) ⟨by go_grown,(RowB.new _ _ _).alloc _,RowB.new' _ _ _ (by simp)⟩ ?_;rintro A ⟨c,g,f⟩;obtain⟨s,r⟩:=g.c2;obtain⟨q,r1⟩:=f.c2;have k:=g.lt;have j:=f.lt;go_wp2_with fail;refine(C.out A c).mono ?_;rintro e v ⟨rfl,d⟩;have g:=g.below d g.lt;have f:=f.below d f.lt;have c:=c.trans (d.mono c.size);clear s r q r1 k j d;obtain⟨s,r⟩:=g.c2;obtain⟨q,r1⟩:=f.c2;have k:=g.lt;have j:=f.lt
 cases y
 ·obtain rfl:x=false:=by rw [<-t.out];rfl
  go_wp2_with fail;go_ret;exact⟨rfl,c⟩
 ·obtain rfl:x=z:=by rw [<-t.out];rfl
  go_wp2_with fail;refine(B.out v c).mono ?_;rintro e D ⟨rfl,o⟩;have c:=c.trans (o.mono c.size);go_wp2_with fail;go_ret;exact⟨rfl,c⟩
end Bd31
namespace Gm
open Go Go.ChangeShapes Go.WideShapes Go.ChangeAt Go.RowKit Base Ints Own Clone RelG PlP Bd1 Bd2 Bd5 Bd6 Bd7 Bd8 RegInv RegF RegG
theorem res_s (v:Vr) (b:Bd) (hb:Ok v b) (S:Nat->Prop) (u1 u2:Value) (z:Int) (hz:resP v b=z) (w:World) (hR:BdR w S u1 u2 b) :
  Calls Tryz.prog 148 #[.agg #[.int .i64 v.p,.int .i64 v.c,.int .i64 v.h,.int .i64 v.s],.agg #[u1,u2]] w λ e w'=>e=.returned (.int .i64 z)∧Below w.heap.size w w':=by
 obtain⟨⟨V,T,rfl,Y,_⟩,⟨A2,c2,rfl,r2,_⟩⟩:=hR;have hv:=hb.v1;have N1:b.1.length<=1000:=by have:=hb.own.len;omega
 have N2:b.2.length<=1000:=by have:=hb.oth.len;omega
 have C1:=kD (λ(j:World) (h:Below w.heap.size w j)=>sum_s V T j.heap.size b.1 j (Y.keep (.below h)).rd (λ i=>⟨hb.own.nn i,by have:=hb.own.top i;omega⟩) N1);obtain⟨o,d⟩:∃ l,(if b.1.sum=0 then b.2 else b.1)=l:=⟨_,rfl⟩;have aa:∃(J:Option Addr) (N:Nat),RdF w S 1 enI J o∧(∀ i,0<=at_ o i∧at_ o i<=1000)∧o.length<=1000∧(b.1.sum=0->J=A2∧N=c2∧o.length=b.2.length)∧(¬ b.1.sum=0->J=V∧N=T∧o.length=b.1.length):=by
  by_cases h0:b.1.sum=0
  ·rw [if_pos h0] at d;subst d;exact⟨A2,c2,r2,λ i=>⟨hb.oth.nn i,by have:=hb.oth.top i;omega⟩,N2,λ _=>⟨rfl,rfl,rfl⟩,λ h=>absurd h0 h⟩
  ·rw [if_neg h0] at d;subst d;exact⟨V,T,Y,λ i=>⟨hb.own.nn i,by have:=hb.own.top i;omega⟩,N1,λ h=>absurd h h0,λ _=>⟨rfl,rfl,rfl⟩⟩
 obtain⟨J,N,X,bz,Z,r,q⟩:=aa;obtain⟨B,E⟩:∃ s,o.sum=s:=⟨_,rfl⟩;obtain⟨C,D⟩:∃ s,last o=s:=⟨_,rfl⟩;have hZ:z=if B<v.c then 1 else if v.p - v.h<=C then 3 else 2:=by rw [<-hz,<-E,<-D,<-d];rfl
 have I:=kD hZ;obtain⟨n1,t⟩:∃ n,b.1.length=n:=⟨_,rfl⟩;obtain⟨n2,F⟩:∃ n,b.2.length=n:=⟨_,rfl⟩;obtain⟨m,L⟩:∃ n,o.length=n:=⟨_,rfl⟩;have CS:=kD (λ(j:World) (k:Nat) (h:Below w.heap.size w j)=>sum_sq J m N j.heap.size o B L E j k (X.keep (.below h)).rd bz Z);have CT:=kD (λ(j:World) (h:Below w.heap.size w j)=>last_s J N j.heap.size o j (X.keep (.below h)).rd Z);rw [L,D] at CT;rw [L,F] at r;rw [L,t] at q;rw [t] at C1;rw [t,F];obtain⟨W,K⟩:∃ s,b.1.sum=s:=⟨_,rfl⟩;rw [K] at C1 r q;have HV:=kD hv;have ac:IntKind.i64.wrap (v.p - v.h)=v.p - v.h:=IntWalk.i64_in _ (by omega);clear hz hZ E D d t F L K Y r2 X bz Z N1 N2 hv hb;go_enter Tryz.func148,Tryz.ntmps148;go_upto_region 1 with fail;refine wp_gen (λ A=>Below w.heap.size w A∧RowB A w.heap.size 23 (vL v)∧RowB A (w.heap.size+1) 46 [.slice V n1 T,.slice A2 n2 c2]) ⟨by go_grown,(RowB.new _ _ _).alloc _,RowB.new' _ _ _ (by simp)⟩ ?_;rintro w1 ⟨y,g,rb⟩;obtain⟨R,Q,P,O⟩:=g.c4;obtain⟨y0,y1⟩:=rb.c2;have x:=g.lt;have M:=rb.lt;have f:=kD y;go_wp2_with fail;refine(C1.out _ y).mono ?_;rintro e w2 ⟨rfl,rfl⟩;by_cases h0:W=0
 ·obtain⟨rfl,rfl,rfl⟩:=r h0;have ab:(W == 0)=true:=by rw [h0];rfl
  clear h0 r q y;go_wp2_with fail;go_quiet ((go_at_call 147;exact CS.out _ _ f.out));by_cases h1:B<v.c
  ·obtain rfl:z=1:=by rw [I.out,if_pos h1]
   have H:decide (B<v.c)=true:=decide_eq_true h1;go_wp2_with fail;go_ret;exact⟨rfl,below_drewN f.out _⟩
  have H:decide (B<v.c)=false:=decide_eq_false h1;go_wp2_with fail;refine wp_gen (λ A=>Below w.heap.size w A∧RowB A w.heap.size 23 (vL v)) ⟨below_drewN f.out _,g.drewN _⟩ ?_;clear R Q P O y0 y1 x M g;rintro w2 ⟨a,g⟩;obtain⟨R,Q,P,O⟩:=g.c4;have x:=g.lt;go_quiet ((go_at_call 185;exact Calls.quiet_of_same ((CT.out _ (below_drewN a _)).mono λ _ _ h=>⟨h.1,h.2.symm⟩)));by_cases h2:v.p - v.h<=C
  ·obtain rfl:z=3:=by rw [I.out,if_neg (by omega),if_pos h2]
   have G:decide (v.p - v.h<=C)=true:=decide_eq_true h2;go_wp2_with fail;go_ret;exact⟨rfl,below_drewN a _⟩
  ·obtain rfl:z=2:=by rw [I.out,if_neg (by omega),if_neg (by omega)]
   have G:decide (v.p - v.h<=C)=false:=decide_eq_false h2;go_wp2_with fail;go_ret;exact⟨rfl,below_drewN a _⟩
 ·obtain⟨rfl,rfl,rfl⟩:=q h0;have ab:(W == 0)=false:=by simpa using h0
  clear h0 r q y;go_wp2_with fail;go_quiet ((go_at_call 147;exact CS.out _ _ f.out));by_cases h1:B<v.c
  ·obtain rfl:z=1:=by rw [I.out,if_pos h1]
   have H:decide (B<v.c)=true:=decide_eq_true h1;go_wp2_with fail;go_ret;exact⟨rfl,below_drewN f.out _⟩
  have H:decide (B<v.c)=false:=decide_eq_false h1;go_wp2_with fail;refine wp_gen (λ A=>Below w.heap.size w A∧RowB A w.heap.size 23 (vL v)) ⟨below_drewN f.out _,g.drewN _⟩ ?_;clear R Q P O y0 y1 x M g;rintro w2 ⟨a,g⟩;obtain⟨R,Q,P,O⟩:=g.c4;have x:=g.lt;go_quiet ((go_at_call 185;exact Calls.quiet_of_same ((CT.out _ (below_drewN a _)).mono λ _ _ h=>⟨h.1,h.2.symm⟩)));by_cases h2:v.p - v.h<=C
  ·obtain rfl:z=3:=by rw [I.out,if_neg (by omega),if_pos h2]
   have G:decide (v.p - v.h<=C)=true:=decide_eq_true h2;go_wp2_with fail;go_ret;exact⟨rfl,below_drewN a _⟩
  ·obtain rfl:z=2:=by rw [I.out,if_neg (by omega),if_neg (by omega)]
   have G:decide (v.p - v.h<=C)=false:=decide_eq_false h2;go_wp2_with fail;go_ret;exact⟨rfl,below_drewN a _⟩
theorem res_i (v:Vr) (b:Bd) (hb:Ok v b) (S:Nat->Prop) (u1 u2:Value) (z:Int) (hz:resP v b=z) (w:World) (hR:BdR w S u1 u2 b) :
  Calls Tryz.prog 172 #[.agg #[.int .i64 v.p,.int .i64 v.c,.int .i64 v.h,.int .i64 v.s],.agg #[u1,u2]] w λ e w'=>e=.returned (.int .i64 z)∧Below w.heap.size w w':=by
 obtain⟨⟨V,T,rfl,Y,_⟩,⟨A2,c2,rfl,r2,_⟩⟩:=hR;have hv:=hb.v1;have N1:b.1.length<=1000:=by have:=hb.own.len;omega
 have N2:b.2.length<=1000:=by have:=hb.oth.len;omega
 have C1:=kD (λ(j:World) (h:Below w.heap.size w j)=>sum_i V T j.heap.size b.1 j (Y.keep (.below h)).rd (λ i=>⟨hb.own.nn i,by have:=hb.own.top i;omega⟩) N1);obtain⟨o,d⟩:∃ l,(if b.1.sum=0 then b.2 else b.1)=l:=⟨_,rfl⟩;have aa:∃(J:Option Addr) (N:Nat),RdF w S 1 enI J o∧(∀ i,0<=at_ o i∧at_ o i<=1000)∧o.length<=1000∧(b.1.sum=0->J=A2∧N=c2∧o.length=b.2.length)∧(¬ b.1.sum=0->J=V∧N=T∧o.length=b.1.length):=by
  by_cases h0:b.1.sum=0
  ·rw [if_pos h0] at d;subst d;exact⟨A2,c2,r2,λ i=>⟨hb.oth.nn i,by have:=hb.oth.top i;omega⟩,N2,λ _=>⟨rfl,rfl,rfl⟩,λ h=>absurd h0 h⟩
  ·rw [if_neg h0] at d;subst d;exact⟨V,T,Y,λ i=>⟨hb.own.nn i,by have:=hb.own.top i;omega⟩,N1,λ h=>absurd h h0,λ _=>⟨rfl,rfl,rfl⟩⟩
 obtain⟨J,N,X,bz,Z,r,q⟩:=aa;obtain⟨B,E⟩:∃ s,o.sum=s:=⟨_,rfl⟩;obtain⟨C,D⟩:∃ s,last o=s:=⟨_,rfl⟩;have hZ:z=if B<v.c then 1 else if v.p - v.h<=C then 3 else 2:=by rw [<-hz,<-E,<-D,<-d];rfl
 have I:=kD hZ;obtain⟨n1,t⟩:∃ n,b.1.length=n:=⟨_,rfl⟩;obtain⟨n2,F⟩:∃ n,b.2.length=n:=⟨_,rfl⟩;obtain⟨m,L⟩:∃ n,o.length=n:=⟨_,rfl⟩;have CS:=kD (λ(j:World) (k:Nat) (h:Below w.heap.size w j)=>sum_iq J m N j.heap.size o B L E j k (X.keep (.below h)).rd bz Z);have CT:=kD (λ(j:World) (h:Below w.heap.size w j)=>last_i J N j.heap.size o j (X.keep (.below h)).rd Z);rw [L,D] at CT;rw [L,F] at r;rw [L,t] at q;rw [t] at C1;rw [t,F];obtain⟨W,K⟩:∃ s,b.1.sum=s:=⟨_,rfl⟩;rw [K] at C1 r q;have HV:=kD hv;have ac:IntKind.i64.wrap (v.p - v.h)=v.p - v.h:=IntWalk.i64_in _ (by omega);clear hz hZ E D d t F L K Y r2 X bz Z N1 N2 hv hb;go_enter Tryz.func172,Tryz.ntmps172;go_upto_region 1 with fail;refine wp_gen (λ A=>Below w.heap.size w A∧RowB A w.heap.size 23 (vL v)∧RowB A (w.heap.size+1) 46 [.slice V n1 T,.slice A2 n2 c2]) ⟨by go_grown,(RowB.new _ _ _).alloc _,RowB.new' _ _ _ (by simp)⟩ ?_;rintro w1 ⟨y,g,rb⟩;obtain⟨R,Q,P,O⟩:=g.c4;obtain⟨y0,y1⟩:=rb.c2;have x:=g.lt;have M:=rb.lt;have f:=kD y;go_wp2_with fail;refine(C1.out _ y).mono ?_;rintro e w2 ⟨rfl,rfl⟩;by_cases h0:W=0
 ·obtain⟨rfl,rfl,rfl⟩:=r h0;have ab:(W == 0)=true:=by rw [h0];rfl
  clear h0 r q y;go_wp2_with fail;go_quiet ((go_at_call 171;exact CS.out _ _ f.out));by_cases h1:B<v.c
  ·obtain rfl:z=1:=by rw [I.out,if_pos h1]
   have H:decide (B<v.c)=true:=decide_eq_true h1;go_wp2_with fail;go_ret;exact⟨rfl,below_drewN f.out _⟩
  have H:decide (B<v.c)=false:=decide_eq_false h1;go_wp2_with fail;refine wp_gen (λ A=>Below w.heap.size w A∧RowB A w.heap.size 23 (vL v)) ⟨below_drewN f.out _,g.drewN _⟩ ?_;clear R Q P O y0 y1 x M g;rintro w2 ⟨a,g⟩;obtain⟨R,Q,P,O⟩:=g.c4;have x:=g.lt;go_quiet ((go_at_call 201;exact Calls.quiet_of_same ((CT.out _ (below_drewN a _)).mono λ _ _ h=>⟨h.1,h.2.symm⟩)));by_cases h2:v.p - v.h<=C
  ·obtain rfl:z=3:=by rw [I.out,if_neg (by omega),if_pos h2]
   have G:decide (v.p - v.h<=C)=true:=decide_eq_true h2;go_wp2_with fail;go_ret;exact⟨rfl,below_drewN a _⟩
  ·obtain rfl:z=2:=by rw [I.out,if_neg (by omega),if_neg (by omega)]
   have G:decide (v.p - v.h<=C)=false:=decide_eq_false h2;go_wp2_with fail;go_ret;exact⟨rfl,below_drewN a _⟩
 ·obtain⟨rfl,rfl,rfl⟩:=q h0;have ab:(W == 0)=false:=by simpa using h0
  clear h0 r q y;go_wp2_with fail;go_quiet ((go_at_call 171;exact CS.out _ _ f.out));by_cases h1:B<v.c
  ·obtain rfl:z=1:=by rw [I.out,if_pos h1]
   have H:decide (B<v.c)=true:=decide_eq_true h1;go_wp2_with fail;go_ret;exact⟨rfl,below_drewN f.out _⟩
  have H:decide (B<v.c)=false:=decide_eq_false h1;go_wp2_with fail;refine wp_gen (λ A=>Below w.heap.size w A∧RowB A w.heap.size 23 (vL v)) ⟨below_drewN f.out _,g.drewN _⟩ ?_;clear R Q P O y0 y1 x M g;rintro w2 ⟨a,g⟩;obtain⟨R,Q,P,O⟩:=g.c4;have x:=g.lt;go_quiet ((go_at_call 201;exact Calls.quiet_of_same ((CT.out _ (below_drewN a _)).mono λ _ _ h=>⟨h.1,h.2.symm⟩)));by_cases h2:v.p - v.h<=C
  ·obtain rfl:z=3:=by rw [I.out,if_neg (by omega),if_pos h2]
   have G:decide (v.p - v.h<=C)=true:=decide_eq_true h2;go_wp2_with fail;go_ret;exact⟨rfl,below_drewN a _⟩
  ·obtain rfl:z=2:=by rw [I.out,if_neg (by omega),if_neg (by omega)]
   have G:decide (v.p - v.h<=C)=false:=decide_eq_false h2;go_wp2_with fail;go_ret;exact⟨rfl,below_drewN a _⟩
structure Sh (w wr:World) (v:Vr) (g:Nat) (l:List Int):Prop where
 k:Sg w wr v g l
 rr:RowB wr (w.heap.size+1) 46 [.slice none 0 0,.slice none 0 0]
theorem Sh.below {w wr w':World} {v:Vr} {g:Nat} {l:List Int} (k:Sh w wr v g l) (hb:Below wr.heap.size wr w'):Sh w w' v g l :=
 ⟨k.k.below hb,k.rr.below hb k.rr.lt⟩
theorem Sh.put {w wr:World} {v:Vr} {g:Nat} {l:List Int} (k:Sh w wr v g l) (hg:w.heap.size+1<g) {i:Nat} (hi:i<l.length) (x:Int):Sh w (wr.setCell ⟨g,i,none⟩ (.int .i64 x)) v g (l.set i x) :=
 ⟨k.k.put (by omega) hi x,k.rr.other (p:=⟨g,i,none⟩) (by show w.heap.size+1≠g;omega) _⟩
theorem start_i (v:Vr) (hv:okV v=true) (h4:4<=v.p) (w:World):Calls Tryz.prog 87 #[.agg #[.int .i64 v.p,.int .i64 v.c,.int .i64 v.h,.int .i64 v.s]] w λ e w'=>Ret RelBB (some (startB v)) (λ _=>False) w e w':=by
 have hp:=okV_iff.1 hv;obtain⟨i0,av,ao,an,am⟩:=info_parts Ints.info;have CV:=kD (λ O=>var_i v true hv O);have CF:=kD (λ O=>full_i O);obtain⟨q,hq⟩:∃ q,fullB v=q:=⟨_,rfl⟩;have qE:∀ w:World,(binOp .eql 23 (.agg #[.int .i64 v.p,.int .i64 v.c,.int .i64 v.h,.int .i64 v.s]) (.agg #[.int .i64 24,.int .i64 15,.int .i64 6,.int .i64 6])).run Tryz.prog w=.ok (.bool q) w:=λ w=>by rw [eq_full,hq]
 have HQ:=kD hq;obtain⟨n,hn⟩:∃ n:Nat,(n:Int)=v.p+1:=⟨(v.p+1).toNat,by omega⟩;have aB:IntKind.i64.wrap (v.p+1)=(n:Int):=by rw [IntWalk.i64_in _ (by omega)];exact hn.symm
 have aJ:5<=n:=by omega
 have aA:n<=25:=by omega
 have aQ:decide (v.p<4)=false:=decide_eq_false (by omega);have HN:=kD hn;have hP:=kD hp;clear hq hv hn hp;go_enter Tryz.func87,Tryz.ntmps87;go_upto_region 1 with fail;refine wp_gen (λ o=>Below w.heap.size w o∧RowB o w.heap.size 23 (vL v)∧RowB o (w.heap.size+1) 46 [.slice none 0 0,.slice none 0 0]) ⟨by go_grown,(RowB.new _ _ _).alloc _,RowB.new' _ _ _ (by simp)⟩ ?_;rintro w1 ⟨ae,E,Z⟩;obtain⟨J,I,H,G⟩:=E.c4;have d:=E.lt;go_wp2_with fail;refine(CV.out _).mono ?_;rintro e w2 ⟨rfl,Q⟩;have C:=ae.trans (Q.mono ae.size);have E:=E.below Q E.lt;have Z:=Z.below Q Z.lt;have l:w.heap.size+1<w2.heap.size:=Z.lt;clear ae Q J I H G d;obtain⟨J,I,H,G⟩:=E.c4;have d:=E.lt;go_wp2_with (at_make;refine wpList_make_full _ rfl _ _ _ rfl w2.heap.size 2 i0 (.int .i64 0) 1 Tryz.underlying44 av ao an _ _ _ _ n rfl rfl rfl rfl ?c1 ?c2 (Nat.le_refl _) ?_)
 case c1=>rw [am];omega
 case c2=>unfold maxLen;omega
 intro w3 X B;have t:Below w2.heap.size w2 w3:=(Below.refl _ _).grown B (Nat.le_refl _) (by simp);have W:RowI w3 w2.heap.size (List.replicate n 0) []:=by
  have:=RowB.of_own X;unfold RowI
  simpa [made_rep,flatI_rep] using this
 obtain⟨g,hg⟩:∃ g,w2.heap.size=g:=⟨_,rfl⟩;have K:Sh w w3 v g (List.replicate n 0):=⟨⟨C.trans (t.mono C.size),E.below t E.lt,hg ▸ W⟩,Z.below t Z.lt⟩;rw [hg] at l ⊢;clear X B t W C E Z J I H G d hg;obtain⟨J,I,H,G⟩:=K.k.rv.c4;have d:=K.k.rv.lt;go_wp2_with fail;have KB:=K;clear K;refine rG [some 18,some 19,some 20] 3 (Pl [some (.agg #[.int .i64 v.p,.int .i64 v.c,.int .i64 v.h,.int .i64 v.s]),some (.agg #[.int .i64 24,.int .i64 15,.int .i64 6,.int .i64 6]),some (.bool q)]) (λ L f w'=>Below w3.heap.size w3 w') ?g0_3 ?gst_3 ?gfin_3
 case g0_3=>exact(Below.refl _ _).drew
 case gst_3 =>
  refine rN rfl (λ L f A O ag ah m U F K hK=>?_) ?_
  ·have e1:=U.w 1 (.pointer (some ⟨w.heap.size,0,none⟩));have KK:=KB.k.below F;obtain⟨J,I,H,G⟩:=KK.rv.c4;have aK:=KK.rv.lt;clear KK;go_simp;exact pF hK (F)
  refine rN rfl (λ L f A O ag ah m U F K hK=>?_) ?_
  ·go_simp;refine(CF.out O).mono ?_;rintro e w6 ⟨rfl,r⟩;exact pF hK (F.trans (r.mono F.size))
  refine rN rfl (λ L f A O ag ah m U F K hK=>?_) ?_
  ·have aU:=U.v 0 18;have aT:=U.v 1 19;go_simp;exact pF hK (F)
  exact RelFrom.nil (by decide)
 intro f O hp F;simp only [Fr,Act.put,sX,Nat.reduceAdd];have af:f 2=.bool q:=hp 2 (by decide) _ rfl;rw [af];have t:=F;have K:=KB.below t;obtain⟨w4,aa⟩:∃ u,O=u:=⟨_,rfl⟩;rw [aa] at K ⊢;clear J I H G d t F hp af aa KB qE CF CV
 cases q
 case true =>
  have hf:v.p=24∧v.c=15∧v.h=6∧v.s=6:=by
   have:=HQ.out;unfold fullB at this;simp only [Bool.and_eq_true,decide_eq_true_eq] at this;exact⟨this.1.1.1,this.1.1.2,this.1.2,this.2⟩
  have y:n=25:=by have:=HN.out;omega
  have HF:Hid (startL v=((((List.replicate n (0:Int)).set 5 5).set 7 3).set 12 5).set 23 2):=by
   show _=_
   unfold startL;rw [if_pos hf,y]
  have g5:5<n:=by omega
  have g7:7<n:=by omega
  have aS:12<n:=by omega
  have aR:23<n:=by omega
  clear y hf;have ay:=K.k.rl.at_ (i:=5) (by simp only [List.length_set,List.length_replicate];omega);have ax:=K.k.rl.at_ (i:=7) (by simp only [List.length_set,List.length_replicate];omega);have ak:=K.k.rl.at_ (i:=12) (by simp only [List.length_set,List.length_replicate];omega);have aj:=K.k.rl.at_ (i:=23) (by simp only [List.length_set,List.length_replicate];omega);have D:=RowB.frozen K.k.rl;have z:=RowB.lt K.k.rl;have K4:=(((K.put l (i:=5) (by simp only [List.length_set,List.length_replicate];omega) 5).put l (i:=7) (by simp only [List.length_set,List.length_replicate];omega) 3).put l (i:=12) (by simp only [List.length_set,List.length_replicate];omega) 5).put l (i:=23) (by simp only [List.length_set,List.length_replicate];omega) 2;have al:=kD K4;clear K K4;go_upto_region 8 with fail;refine wp_gen (λ o=>Sh w o v g ((((List.replicate n (0:Int)).set 5 5).set 7 3 |>.set 12 5).set 23 2)) al.out ?_;clear ay ax ak aj D z al;intro Y K;have m:=clone (some ⟨g,0,none⟩) n Y.heap.size (((((List.replicate n (0:Int)).set 5 5).set 7 3).set 12 5).set 23 2) Y (Nat.le_refl _) (RowI.own K.k.rl (lo:=g) (hi:=Y.heap.size) (Nat.le_refl _) (RowB.lt K.k.rl) rfl (by simp only [List.length_set,List.length_replicate,List.length_nil];unfold maxLen;omega) |>.rd enI_len) (λ h=>by cases h) (by simp only [List.length_set,List.length_replicate];omega);have CL:=kD m;simp only [List.length_set,List.length_replicate] at CL;clear m;go_wp2_with fail;refine CL.out.mono ?_;rintro e w6 ⟨⟨sv,rfl,a⟩,r⟩;have ap:g<Y.heap.size:=RowB.lt K.k.rl;have K:=K.below r;have a:=OwnV.of a (Nat.le_refl _) (S:=λ b=>Y.heap.size<=b) (λ b R _=>R);have a:=a.sl enI_len;obtain⟨V,T,rfl,p6,k6⟩:=a;simp only [List.length_set,List.length_replicate];have P6:=kD p6;obtain⟨z0,z1⟩:=K.rr.c2;have aq:=K.rr.lt;have az:=K.rr.frozen;clear p6 CL r;go_wp2_with fail;have P:=OwnV.of (RowI.own K.k.rl (lo:=g) (hi:=w6.heap.size) (Nat.le_refl _) (RowB.lt K.k.rl) rfl (by simp only [List.length_set,List.length_replicate,List.length_nil];unfold maxLen;omega)) (Nat.le_refl _) (S:=λ b=>w.heap.size+2<=b) (λ b R _=>by omega);have P:=P.sl enI_len;simp only [List.length_set,List.length_replicate,List.length_nil,Nat.add_zero] at P;refine bp_gen (λ o=>Below w.heap.size w o∧RowB o (w.heap.size+1) 46 [.slice (some ⟨g,0,none⟩) n n,.slice V n T]∧Hid (BdR o (λ b=>(λ _=>False) b∨w.heap.size<=b) (.slice (some ⟨g,0,none⟩) n n) (.slice V n T) (startB v))) ⟨below_two K.k.bel (by omega) _ _,two_ K.rr _ _,kD ⟨?_,?_⟩⟩ ?_
  ·show SlV 1 enI _ _ _ (startL v)
   rw [HF.out];exact(relV 1 enI).weak (sl_two' P (by omega) _ _) (λ b R _=>.inr (by omega))
  ·show SlV 1 enI _ _ _ (startL v)
   rw [HF.out];exact(relV 1 enI).weak (sl_two' (S:=λ b=>Y.heap.size<=b) ⟨V,T,by simp only [List.length_set,List.length_replicate],P6.out,k6⟩ (by omega) _ _) (λ b R _=>.inr (by omega))
  rintro w8 ⟨ad,r8,h8⟩;obtain⟨z0,z1⟩:=r8.c2;refine bodyPost_ret (v:=.tuple #[.agg #[.slice (some ⟨g,0,none⟩) n n,.slice V n T],.bool true]) (by simp [results,Tryz.results87,go_sem,z0,z1]) rfl ?_;exact⟨_,rfl,⟨_,_,_,rfl,h8.out,(λ b0 h=>by simpa using h)⟩,ad⟩
 case false =>
  obtain⟨J,I,H,G⟩:=K.k.rv.c4;have d:=K.k.rv.lt;have D:=RowB.frozen K.k.rl;have z:=RowB.lt K.k.rl;have hp:=hP.out;obtain⟨i,hi⟩:∃ i:Nat,(i:Int)=v.p - 1:=⟨(v.p - 1).toNat,by omega⟩;obtain⟨j,hj⟩:∃ j:Nat,(j:Int)=v.p / 2 - 1:=⟨(v.p / 2 - 1).toNat,by omega⟩;have aI:IntKind.i64.wrap (v.p - 1)=(i:Int):=by rw [IntWalk.i64_in _ (by omega)];exact hi.symm
  have aM:i<n:=by have:=HN.out;omega
  have aL:j<n:=by have:=HN.out;omega
  have aN:¬ i=j:=by omega
  have ar:¬ j=i:=by omega
  have aw:=K.k.rl.at_ (i:=i) (by simp only [List.length_set,List.length_replicate];omega);obtain⟨N,ac⟩:∃ c:Int,v.c / 2=c:=⟨_,rfl⟩;obtain⟨M,ab⟩:∃ c:Int,v.c - N=c:=⟨_,rfl⟩;have aP:Int.tdiv v.p 2=(j:Int)+1:=by rw [Int.tdiv_eq_ediv_of_nonneg (by omega)];omega
  have aH:IntKind.i64.wrap ((j:Int)+1)=(j:Int)+1:=IntWalk.i64_in _ (by omega);have aG:IntKind.i64.wrap ((j:Int)+1 - 1)=(j:Int):=by rw [IntWalk.i64_in _ (by omega)];omega
  have aO:Int.tdiv v.c 2=N:=by rw [Int.tdiv_eq_ediv_of_nonneg (by omega)];exact ac
  have aa:IntKind.i64.wrap N=N:=IntWalk.i64_in _ (by omega);have aF:IntKind.i64.wrap (v.c - N)=M:=by rw [IntWalk.i64_in _ (by omega)];exact ab
  have aE:IntKind.i64.wrap (0+M)=M:=by rw [Int.zero_add];exact IntWalk.i64_in _ (by omega)
  have aD:IntKind.i64.wrap M=M:=IntWalk.i64_in _ (by omega);have aC:IntKind.i64.wrap (j:Int)=(j:Int):=IntWalk.i64_in _ (by omega);have HF:Hid (startL v=((List.replicate n (0:Int)).set i N).set j M):=by
   show _=_
   unfold startL;rw [if_neg (λ hf=>by have:=HQ.out;unfold fullB at this;simp [hf.1,hf.2.1,hf.2.2.1,hf.2.2.2] at this)];rw [show (v.p+1).toNat=n from by have:=HN.out;omega,show (v.p - 1).toNat=i from by omega,show (v.p / 2 - 1).toNat=j from by omega,<-ab,<-ac]
  clear hi hj hp ac ab;go_upto_region 7 with fail;refine wp_gen (λ o=>Sh w o v g ((List.replicate n (0:Int)).set i N)) (K.put l (by simp only [List.length_set,List.length_replicate];omega) N) ?_;clear K J I H G d D z aw;intro Y K;obtain⟨J,I,H,G⟩:=K.k.rv.c4;have d:=K.k.rv.lt;have D:=RowB.frozen K.k.rl;have z:=RowB.lt K.k.rl;have ai:=K.k.rl.at_ (i:=j) (by simp only [List.length_set,List.length_replicate];omega);rw [at_set _ _ _ _ (by simp only [List.length_set,List.length_replicate];omega),if_neg ar,at_rep] at ai;go_still_tail 15,(by kernel_rfl);go_upto_region 8 with fail;refine wp_gen (λ o=>Sh w o v g (((List.replicate n (0:Int)).set i N).set j M)) (by first | exact(K.below (Below.refl _ _).drew).put l (by simp only [List.length_set,List.length_replicate];omega) M | exact K.put l (by simp only [List.length_set,List.length_replicate];omega) M) ?_;clear K J I H G d D z ai;intro x K;have m:=clone (some ⟨g,0,none⟩) n x.heap.size (((List.replicate n (0:Int)).set i N).set j M) x (Nat.le_refl _) (RowI.own K.k.rl (lo:=g) (hi:=x.heap.size) (Nat.le_refl _) (RowB.lt K.k.rl) rfl (by simp only [List.length_set,List.length_replicate,List.length_nil];unfold maxLen;omega) |>.rd enI_len) (λ h=>by cases h) (by simp only [List.length_set,List.length_replicate];omega);have CL:=kD m;simp only [List.length_set,List.length_replicate] at CL;clear m;go_wp2_with fail;refine CL.out.mono ?_;rintro e w6 ⟨⟨sv,rfl,a⟩,r⟩;have ap:g<x.heap.size:=RowB.lt K.k.rl;have K:=K.below r;have a:=OwnV.of a (Nat.le_refl _) (S:=λ b=>x.heap.size<=b) (λ b R _=>R);have a:=a.sl enI_len;obtain⟨V,T,rfl,p6,k6⟩:=a;simp only [List.length_set,List.length_replicate];have P6:=kD p6;obtain⟨z0,z1⟩:=K.rr.c2;have aq:=K.rr.lt;have az:=K.rr.frozen;clear p6 CL r;go_wp2_with fail;have P:=OwnV.of (RowI.own K.k.rl (lo:=g) (hi:=w6.heap.size) (Nat.le_refl _) (RowB.lt K.k.rl) rfl (by simp only [List.length_set,List.length_replicate,List.length_nil];unfold maxLen;omega)) (Nat.le_refl _) (S:=λ b=>w.heap.size+2<=b) (λ b R _=>by omega);have P:=P.sl enI_len;simp only [List.length_set,List.length_replicate,List.length_nil,Nat.add_zero] at P;refine bp_gen (λ o=>Below w.heap.size w o∧RowB o (w.heap.size+1) 46 [.slice (some ⟨g,0,none⟩) n n,.slice V n T]∧Hid (BdR o (λ b=>(λ _=>False) b∨w.heap.size<=b) (.slice (some ⟨g,0,none⟩) n n) (.slice V n T) (startB v))) ⟨below_two K.k.bel (by omega) _ _,two_ K.rr _ _,kD ⟨?_,?_⟩⟩ ?_
  ·show SlV 1 enI _ _ _ (startL v)
   rw [HF.out];exact(relV 1 enI).weak (sl_two' P (by omega) _ _) (λ b R _=>.inr (by omega))
  ·show SlV 1 enI _ _ _ (startL v)
   rw [HF.out];exact(relV 1 enI).weak (sl_two' (S:=λ b=>x.heap.size<=b) ⟨V,T,by simp only [List.length_set,List.length_replicate],P6.out,k6⟩ (by omega) _ _) (λ b R _=>.inr (by omega))
  rintro w8 ⟨ad,r8,h8⟩;obtain⟨z0,z1⟩:=r8.c2;refine bodyPost_ret (v:=.tuple #[.agg #[.slice (some ⟨g,0,none⟩) n n,.slice V n T],.bool true]) (by simp [results,Tryz.results87,go_sem,z0,z1]) rfl ?_;exact⟨_,rfl,⟨_,_,_,rfl,h8.out,(λ b0 h=>by simpa using h)⟩,ad⟩
end Gm
end Go.Proofs.YtblipmifflfnoaaGreatDoor
