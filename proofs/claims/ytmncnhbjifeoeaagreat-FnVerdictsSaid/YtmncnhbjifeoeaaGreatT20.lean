/- Parts of the proof of FnVerdicts. Conditions: each theorem's own. -/
import Derived.Test.YtmncnhbjifeoeaaGreatT19
set_option linter.unusedVariables false
set_option linter.unusedSimpArgs false
set_option maxHeartbeats 8000000
set_option maxRecDepth 100000
namespace Go.Proofs.YtmncnhbjifeoeaaGreat
namespace Gm
open Go Go.ChangeShapes Go.WideShapes Go.ChangeAt Go.RowKit Base Ints Own Clone RelG PlP Bd1 Bd2 Bd5 Bd6 Bd7 Bd8 RegInv RegF RegG
theorem full_s (w:World):Calls Tryz.prog 158 #[] w λ e w'=>e=.returned (.agg #[.int .i64 24,.int .i64 15,.int .i64 6,.int .i64 6])∧Below w.heap.size w w':=by
 go_enter Tryz.func158,Tryz.ntmps158;go_wp2;go_returns;exact⟨rfl,by go_grown⟩
theorem full_i (w:World):Calls Tryz.prog 177 #[] w λ e w'=>e=.returned (.agg #[.int .i64 24,.int .i64 15,.int .i64 6,.int .i64 6])∧Below w.heap.size w w':=by
 go_enter Tryz.func177,Tryz.ntmps177;go_wp2;go_returns;exact⟨rfl,by go_grown⟩
def fullB (v:Vr):Bool:=decide (v.p=24) && decide (v.c=15) && decide (v.h=6) && decide (v.s=6)
theorem eq_full (v:Vr) (w:World):(binOp .eql 25 (.agg #[.int .i64 v.p,.int .i64 v.c,.int .i64 v.h,.int .i64 v.s]) (.agg #[.int .i64 24,.int .i64 15,.int .i64 6,.int .i64 6])).run Tryz.prog w=.ok (.bool (fullB v)) w:=by
 unfold fullB;by_cases h1:v.p=24 <;> by_cases h2:v.c=15 <;> by_cases h3:v.h=6 <;> by_cases h4:v.s=6 <;> go_simp <;> simp [h1,h2,h3,h4]
theorem flatI_rep (n:Nat):(List.replicate n (0:Int)).flatMap enI=List.replicate n (Value.int .i64 0):=by
 induction n with
 | zero=>rfl
 | succ n ih=>rw [List.replicate_succ,List.flatMap_cons,ih];rfl
theorem empty_s (v:Vr) (hv:okV v=true) (w:World):Calls Tryz.prog 157 #[.agg #[.int .i64 v.p,.int .i64 v.c,.int .i64 v.h,.int .i64 v.s]] w λ e w'=>(∃(g n:Nat),(n:Int)=v.p+1∧e=.returned (.slice (some ⟨g,0,none⟩) n n)∧w.heap.size<=g∧RowI w' g (List.replicate n 0) [])∧Below w.heap.size w w':=by
 have x:=okV_iff.1 hv;obtain⟨r,m,k,j,i⟩:=info_parts Ints.info;obtain⟨n,l⟩:∃ n:Nat,(n:Int)=v.p+1:=⟨(v.p+1).toNat,by omega⟩;have t:IntKind.i64.wrap (v.p+1)=(n:Int):=by rw [IntWalk.i64_in _ (by omega)];exact l.symm
 have y:n<=25:=by omega
 have z:=kD l;clear l x hv;go_enter Tryz.func157,Tryz.ntmps157;go_wp2_with (at_make;refine wpList_make_full _ rfl _ _ _ rfl (w.heap.size+1) 2 r (.int .i64 0) 1 Tryz.underlying26 m k j _ _ _ _ n rfl rfl rfl rfl ?c1 ?c2 (by go_size) ?_)
 case c1=>rw [i];omega
 case c2=>unfold maxLen;omega
 intro q b a;have d:Below w.heap.size w (w.alloc (.cells #[.int .i64 v.p,.int .i64 v.c,.int .i64 v.h,.int .i64 v.s] 25)):=by go_grown
 have o:Below w.heap.size w q:=d.grown a d.size (by simp);have f:RowI q (w.heap.size+1) (List.replicate n 0) []:=by
  have:=RowB.of_own b;unfold RowI
  simpa [made_rep,flatI_rep] using this
 clear b a d;go_wp2_with fail;go_ret;exact⟨⟨w.heap.size+1,n,z.out,rfl,by omega,f⟩,o⟩
structure Sg (w wr:World) (v:Vr) (g:Nat) (l:List Int):Prop where
 bel:Below w.heap.size w wr
 rv:RowB wr w.heap.size 25 (vL v)
 rl:RowI wr g l []
theorem Sg.below {w wr w':World} {v:Vr} {g:Nat} {l:List Int} (k:Sg w wr v g l) (hb:Below wr.heap.size wr w'):Sg w w' v g l :=
 ⟨k.bel.trans (hb.mono k.bel.size),k.rv.below hb k.rv.lt,k.rl.below hb k.rl.lt⟩
theorem Sg.put {w wr:World} {v:Vr} {g:Nat} {l:List Int} (k:Sg w wr v g l) (hg:w.heap.size<g) {i:Nat} (hi:i<l.length) (x:Int):Sg w (wr.setCell ⟨g,i,none⟩ (.int .i64 x)) v g (l.set i x) :=
 ⟨k.bel.setCell (p:=⟨g,i,none⟩) (by show w.heap.size<=g;omega) _,k.rv.other (p:=⟨g,i,none⟩) (by show w.heap.size≠g;omega) _,k.rl.put hi x⟩
theorem start_s (v:Vr) (hv:okV v=true) (h4:4<=v.p) (w:World):Calls Tryz.prog 134 #[.agg #[.int .i64 v.p,.int .i64 v.c,.int .i64 v.h,.int .i64 v.s]] w λ e w'=>(∃ sv,e=.returned sv∧OwnS w' w.heap.size w'.heap.size 2 1 enI sv (startL v))∧Below w.heap.size w w':=by
 have r:=okV_iff.1 hv;have CE:=kD (λ l=>empty_s v hv l);have CF:=kD (λ l=>full_s l);obtain⟨q,W⟩:∃ q,fullB v=q:=⟨_,rfl⟩;have qE:∀ w:World,(binOp .eql 25 (.agg #[.int .i64 v.p,.int .i64 v.c,.int .i64 v.h,.int .i64 v.s]) (.agg #[.int .i64 24,.int .i64 15,.int .i64 6,.int .i64 6])).run Tryz.prog w=.ok (.bool q) w:=λ w=>by rw [eq_full,W]
 have HQ:=kD W;clear W hv;go_enter Tryz.func134,Tryz.ntmps134;go_upto_region 1 with fail;refine wp_gen (λ W'=>Below w.heap.size w W'∧RowB W' w.heap.size 25 (vL v)) ⟨by go_grown,RowB.new _ _ _⟩ ?_;rintro w1 ⟨C,S⟩;obtain⟨I,H,G,E⟩:=S.c4;have f:=S.lt;go_wp2_with fail;refine(CE.out _).mono ?_;rintro e V ⟨⟨g,n,hn,rfl,hg,m⟩,B⟩;have K:Sg w V v g (List.replicate n 0):=⟨C.trans (B.mono C.size),S.below B f,m⟩;have b:w.heap.size<g:=by omega
 clear C B S I H G E m hg f;obtain⟨I,H,G,E⟩:=K.rv.c4;have f:=K.rv.lt;have T:=kD hn;have ah:5<=n:=by omega
 have aa:n<=25:=by omega
 have hP:=kD r;clear hn r;go_wp2_with fail;have KB:=K;refine rG [some 6,some 7,some 8] 3 (Pl [some (.agg #[.int .i64 v.p,.int .i64 v.c,.int .i64 v.h,.int .i64 v.s]),some (.agg #[.int .i64 24,.int .i64 15,.int .i64 6,.int .i64 6]),some (.bool q)]) (λ L a w'=>Below V.heap.size V w') ?g0_1 ?gst_1 ?gfin_1
 case g0_1=>exact(Below.refl _ _).drew
 case gst_1 =>
  refine rN rfl (λ L a A l M N O U F K Q=>?_) ?_
  ·have e1:=U.w 1 (.pointer (some ⟨w.heap.size,0,none⟩));have KK:=KB.below F;obtain⟨I,H,G,E⟩:=KK.rv.c4;have ai:=KK.rv.lt;clear KK;go_simp;exact pF Q (F)
  refine rN rfl (λ L a A l M N O U F K Q=>?_) ?_
  ·go_simp;refine(CF.out l).mono ?_;rintro e w6 ⟨rfl,Y⟩;exact pF Q (F.trans (Y.mono F.size))
  refine rN rfl (λ L a A l M N O U F K Q=>?_) ?_
  ·have e6:=U.v 0 6;have e7:=U.v 1 7;go_simp;exact pF Q (F)
  exact RelFrom.nil (by decide)
 intro a l r F;simp only [Fr,Act.put,sX,Nat.reduceAdd];have J:a 2=.bool q:=r 2 (by decide) _ rfl;rw [J];have P:=F;have K:=KB.below P;obtain⟨w3,o⟩:∃ u,l=u:=⟨_,rfl⟩;rw [o] at K ⊢;clear I H G E f P F r J o KB qE CF CE
 cases q
 case true =>
  have x:v.p=24∧v.c=15∧v.h=6∧v.s=6:=by
   have:=HQ.out;unfold fullB at this;simp only [Bool.and_eq_true,decide_eq_true_eq] at this;exact⟨this.1.1.1,this.1.1.2,this.1.2,this.2⟩
  have d:n=25:=by have:=T.out;omega
  have HF:Hid (startL v=((((List.replicate n (0:Int)).set 5 5).set 7 3).set 12 5).set 23 2):=by
   show _=_
   unfold startL;rw [if_pos x,d]
  have g5:5<n:=by omega
  have g7:7<n:=by omega
  have ax:12<n:=by omega
  have aw:23<n:=by omega
  clear d x;have av:=K.rl.at_ (i:=5) (by simp only [List.length_set,List.length_replicate];omega);have ar:=K.rl.at_ (i:=7) (by simp only [List.length_set,List.length_replicate];omega);have ac:=K.rl.at_ (i:=12) (by simp only [List.length_set,List.length_replicate];omega);have ab:=K.rl.at_ (i:=23) (by simp only [List.length_set,List.length_replicate];omega);have Z:=RowB.frozen K.rl;have t:=RowB.lt K.rl;have R:=(((K.put b (i:=5) (by simp only [List.length_set,List.length_replicate];omega) 5).put b (i:=7) (by simp only [List.length_set,List.length_replicate];omega) 3).put b (i:=12) (by simp only [List.length_set,List.length_replicate];omega) 5).put b (i:=23) (by simp only [List.length_set,List.length_replicate];omega) 2;have k:=kD R;clear K R;go_wp2_with fail;go_ret;refine⟨⟨_,rfl,?_⟩,k.out.bel⟩;show OwnS _ w.heap.size _ 2 1 enI (.slice (some ⟨g,0,none⟩) n n) _
  rw [HF.out];have X:=RowI.own k.out.rl (lo:=w.heap.size) (hi:=w3.heap.size) (by omega) t rfl (by simp only [List.length_set,List.length_replicate,List.length_nil];unfold maxLen;omega)
  simpa only [List.length_set,List.length_replicate,List.length_nil,Nat.add_zero] using X.more (by simp)
 case false =>
  obtain⟨I,H,G,E⟩:=K.rv.c4;have f:=K.rv.lt;have Z:=RowB.frozen K.rl;have t:=RowB.lt K.rl;have r:=hP.out;obtain⟨i,hi⟩:∃ i:Nat,(i:Int)=v.p - 1:=⟨(v.p - 1).toNat,by omega⟩;obtain⟨j,hj⟩:∃ j:Nat,(j:Int)=v.p / 2 - 1:=⟨(v.p / 2 - 1).toNat,by omega⟩;have ag:IntKind.i64.wrap (v.p - 1)=(i:Int):=by rw [IntWalk.i64_in _ (by omega)];exact hi.symm
  have al:i<n:=by have:=T.out;omega
  have aj:j<n:=by have:=T.out;omega
  have am:¬ i=j:=by omega
  have ak:¬ j=i:=by omega
  have aq:=K.rl.at_ (i:=i) (by simp only [List.length_set,List.length_replicate];omega);have ap:=K.rl.at_ (i:=j) (by simp only [List.length_set,List.length_replicate];omega);obtain⟨D,z⟩:∃ c:Int,v.c / 2=c:=⟨_,rfl⟩;obtain⟨dd,y⟩:∃ c:Int,v.c - D=c:=⟨_,rfl⟩;have ao:Int.tdiv v.p 2=(j:Int)+1:=by rw [Int.tdiv_eq_ediv_of_nonneg (by omega)];omega
  have af:IntKind.i64.wrap ((j:Int)+1)=(j:Int)+1:=IntWalk.i64_in _ (by omega);have o:IntKind.i64.wrap ((j:Int)+1 - 1)=(j:Int):=by rw [IntWalk.i64_in _ (by omega)];omega
  have an:Int.tdiv v.c 2=D:=by rw [Int.tdiv_eq_ediv_of_nonneg (by omega)];exact z
  have ae:IntKind.i64.wrap D=D:=IntWalk.i64_in _ (by omega);have ad:IntKind.i64.wrap (v.c - D)=dd:=by rw [IntWalk.i64_in _ (by omega)];exact y
  have HF:Hid (startL v=((List.replicate n (0:Int)).set i D).set j dd):=by
   show _=_
   unfold startL;rw [if_neg (λ x=>by have:=HQ.out;unfold fullB at this;simp [x.1,x.2.1,x.2.2.1,x.2.2.2] at this)];rw [show (v.p+1).toNat=n from by have:=T.out;omega,show (v.p - 1).toNat=i from by omega,show (v.p / 2 - 1).toNat=j from by omega,<-y,<-z]
  have R:=(K.put b (i:=i) (by simp only [List.length_set,List.length_replicate];omega) D).put b (i:=j) (by simp only [List.length_set,List.length_replicate];omega) dd;have k:=kD R;clear hi hj r z y K R;go_wp2_with fail;go_ret;refine⟨⟨_,rfl,?_⟩,k.out.bel⟩;show OwnS _ w.heap.size _ 2 1 enI (.slice (some ⟨g,0,none⟩) n n) _
  rw [HF.out];have X:=RowI.own k.out.rl (lo:=w.heap.size) (hi:=w3.heap.size) (by omega) t rfl (by simp only [List.length_set,List.length_replicate,List.length_nil];unfold maxLen;omega)
  simpa only [List.length_set,List.length_replicate,List.length_nil,Nat.add_zero] using X.more (by simp)
structure Dv (M:(Nat->Prop)->(Nat->Value)->World->Prop) (k5 k4:Nat) (g:Value->Value) (L:Nat->Prop) (vals:Nat->Value) (w':World):Prop where
 a:M L vals w'
 b:L k5->L k4∧vals k5=g (vals k4)
section
variable {M:(Nat->Prop)->(Nat->Value)->World->Prop} {k5 k4:Nat} {g:Value->Value} {L:Nat->Prop} {vals:Nat->Value} {w' w'':World}
theorem Dv.other {k:Nat} {x:Value} (F:Dv M k5 k4 g L vals w') (hk:k5≠k∧k4≠k) (ha:M (λ j=>j=k∨L j) (upd vals k x) w''):Dv M k5 k4 g (λ j=>j=k∨L j) (upd vals k x) w'' :=
 ⟨ha,λ h=>by have:=F.b (h.resolve_left hk.1);rw [upd_ne hk.1,upd_ne hk.2];exact⟨.inr this.1,this.2⟩⟩
theorem Dv.at4 {x:Value} (F:Dv M k5 k4 g L vals w') (hno:¬ L k4) (hk:k5≠k4) (ha:M (λ j=>j=k4∨L j) (upd vals k4 x) w''):Dv M k5 k4 g (λ j=>j=k4∨L j) (upd vals k4 x) w'' :=
 ⟨ha,λ h=>absurd (F.b (h.resolve_left hk)).1 hno⟩
theorem Dv.at5 {x:Value} (F:Dv M k5 k4 g L vals w') (hk:k4≠k5) (l4:L k4) (hx:x=g (vals k4)) (ha:M (λ j=>j=k5∨L j) (upd vals k5 x) w''):Dv M k5 k4 g (λ j=>j=k5∨L j) (upd vals k5 x) w'' :=
 ⟨ha,λ _=>by rw [upd_same,upd_ne hk];exact⟨.inr l4,hx⟩⟩
end
def gm0 (v:Value):List Value:=aggC v++[.int .i64 0,.int .i64 0,.int .i64 0,.int .i64 0,.int .i64 0,.int .i64 0,.int .i64 0]
theorem new_s (v:Vr) (hv:okV v=true) (h4:4<=v.p) (w:World):Calls Tryz.prog 97 #[.agg #[.int .i64 v.p,.int .i64 v.c,.int .i64 v.h,.int .i64 v.s]] w λ e w'=>Ret RelGV (newG v) (λ _=>False) w e w':=by
 have CS:=kD (λ i=>start_s v hv h4 i);clear hv h4;go_enter Tryz.func97,Tryz.ntmps97;go_upto_region 1 with fail;refine wp_gen (λ W'=>Below w.heap.size w W'∧RowB W' w.heap.size 25 (vL v)∧RowB W' (w.heap.size+1) 57 gM) ⟨by go_grown,(RowB.new _ _ _).alloc _,RowB.new' _ _ _ (by simp)⟩ ?_;rintro w1 ⟨t,T,X⟩;have O:=T.lt;have Z:=X.lt;refine rG [some 3,some 4,some 5,some 6,some 7,some 8,none] 7 (Pl [some (.agg #[.int .i64 v.p,.int .i64 v.c,.int .i64 v.h,.int .i64 v.s]),none,some (.agg #[.int .i64 v.p,.int .i64 v.c,.int .i64 v.h,.int .i64 v.s]),none,none,none,none]) (λ L f w'=>Dv (λ L f w'=>C2E RelI (startL v) RelI (startL v) w1 1 3 4 6 (λ a b=>.agg #[a,b]) (w.heap.size+1) 57 (gmC (.slice none 0 0) (.slice none 0 0) nulG) gm0 L f w') 5 4 (λ v=>.agg ⟨gm0 v⟩) L f w') ?g0_2 ?gst_2 ?gfin_2
 case g0_2=>exact⟨⟨⟨rfl,rfl,rfl,Nat.le_refl _,λ _ _ _=>rfl⟩,Z,λ h=>absurd h (by decide),λ h=>absurd h (by decide),λ h=>absurd h (by decide),λ _=>X,λ h=>absurd h (by decide)⟩,λ h=>absurd h (by decide)⟩
 case gst_2 =>
  refine rN rfl (λ L f A i g d q U F K y=>?_) ?_
  ·have e1:=U.w 1 (.pointer (some ⟨w.heap.size,0,none⟩));have m:RowB i w.heap.size 25 (vL v):=(F.a.bel.block w.heap.size O (λ e=>by simp at e)).trans T;obtain⟨q0,l,j,q3⟩:=m.c4;have Y:=m.lt;clear m;go_simp;exact pF y (F.other (by decide) (F.a.skip 0 _))
  refine rN rfl (λ L f A i g d q U F K y=>?_) ?_
  ·have e3:=U.v 0 3;go_simp;refine(CS.out i).mono ?_;rintro e V ⟨⟨W,rfl,E⟩,G⟩;exact y.out W V (Pl.any rfl) (F.other (by decide) (F.a.call1 g (by decide) G (OwnV.sl enI_len (OwnV.of E (Nat.le_refl _) (λ b hb _=>hb)))))
  refine rN rfl (λ L f A i g d q U F K y=>?_) ?_
  ·have e1:=U.w 1 (.pointer (some ⟨w.heap.size,0,none⟩));have m:RowB i w.heap.size 25 (vL v):=(F.a.bel.block w.heap.size O (λ e=>by simp at e)).trans T;obtain⟨q0,l,j,q3⟩:=m.c4;have Y:=m.lt;clear m;go_simp;exact pF y (F.other (by decide) (F.a.skip 2 _))
  refine rN rfl (λ L f A i g d q U F K y=>?_) ?_
  ·have e5:=U.v 2 5;go_simp;refine(CS.out i).mono ?_;rintro e V ⟨⟨W,rfl,E⟩,G⟩;exact y.out W V (Pl.any rfl) (F.other (by decide) (F.a.call2 g (by decide) G (OwnV.sl enI_len (OwnV.of E (Nat.le_refl _) (λ b hb _=>hb)))))
  refine rN rfl (λ L f A i g d q U F K y=>?_) ?_
  ·have R:=U.x 1 4;have e6:=U.x 3 6;refine(F.a.f1 (bK d 1)).elim λ D l=>?_
   refine l.elim λ B l=>?_
   refine(F.a.f2 (bK d 3)).elim λ C j=>?_
   refine j.elim λ z j=>?_
   have ad:=R.trans l.1;have ac:=e6.trans j.1;clear R e6;go_simp;exact y.out _ i (Pl.any rfl) (F.at4 g (by decide) (F.a.built g (by decide) (bK d 1) (bK d 3) (by rw [l.1,j.1])))
  refine rN rfl (λ L f A i g d q U F K y=>?_) ?_
  ·have e7:=U.x 4 7;refine(F.a.f1 (bK d 1)).elim λ D l=>?_
   refine l.elim λ B l=>?_
   refine(F.a.f2 (bK d 3)).elim λ C j=>?_
   refine j.elim λ z j=>?_
   have aa:=e7.trans (F.a.fb (bK d 4)).2.2;rw [l.1,j.1] at aa;clear e7;go_simp;exact y.out _ i (Pl.any rfl) (F.at5 (by decide) (bK d 4) (by rw [(F.a.fb (bK d 4)).2.2,l.1,j.1];rfl) (F.a.skip 5 _))
  refine rN rfl (λ L f A i g d q U F K y=>?_) ?_
  ·have e2:=U.w 2 (.pointer (some ⟨w.heap.size+1,0,none⟩));have e8:=U.x 5 8;refine(F.a.f1 (bK d 1)).elim λ D l=>?_
   refine l.elim λ B l=>?_
   refine(F.a.f2 (bK d 3)).elim λ C j=>?_
   refine j.elim λ z j=>?_
   have h5:=(F.b (bK d 5)).2;rw [(F.a.fb (bK d 4)).2.2,l.1,j.1] at h5;refine wp_sm 57 _ _ rfl (w.heap.size+1) 0 (gmC (.slice D (startL v).length B) (.slice C (startL v).length z) (newG v)) (gmC (.slice none 0 0) (.slice none 0 0) nulG) (ev e2) (ev (e8.trans h5)) 57 (F.a.row g) (by kernel_rfl) (Nat.le_refl _) rfl ?_;exact y.out undef _ (Pl.any rfl) (F.other (by decide) (F.a.wrote (by decide) g (bK d 4) 0 (by rw [(F.a.fb (bK d 4)).2.2,l.1,j.1];rfl)))
  exact RelFrom.nil (by decide)
 intro f i hp F;simp only [Fr,Act.put,sX,Nat.reduceAdd];obtain⟨-,r⟩:=F.a.fw trivial;obtain⟨-,-,N⟩:=F.a.fb (F.a.fw trivial).1;obtain⟨D,B,e3,I,M⟩:=F.a.f1 trivial;obtain⟨C,z,R,H,J⟩:=F.a.f2 trivial;rw [N,e3,R] at r;have o:=F.a.bel;have Q:Below w.heap.size w i:=⟨o.os.trans t.os,o.tape.trans t.tape,o.output.trans t.output,Nat.le_trans t.size o.size,λ k hk=>(o.block k (by omega) (λ e=>by simp at e;omega)).trans (t.block k hk)⟩;have r:RowB i (w.heap.size+1) 57 (gmC (.slice D (startL v).length B) (.slice C (startL v).length z) (newG v)):=r;have P:BdR i (λ b=>(λ _=>False) b∨w.heap.size<=b) (.slice D (startL v).length B) (.slice C (startL v).length z) (newG v).b:=⟨⟨D,B,rfl,I.weak (λ b h _=>.inr (by omega)),M⟩,⟨C,z,rfl,H.weak (λ b h _=>.inr (by omega)),J⟩⟩;have S:=kD P;have ab:=kD Q;clear F hp N e3 R I H M J P Q o t T X;obtain⟨n,hn⟩:∃ n,(startL v).length=n:=⟨_,rfl⟩;rw [hn] at r S;clear hn;obtain⟨x0,x1,x2,x3,x4,x5,x6,x7,x8⟩:=row9 r;go_wp2_with fail;refine bodyPost_ret (v:=.agg ⟨gmC (.slice D n B) (.slice C n z) (newG v)⟩) (by simp [results,Tryz.results97,go_sem,gmC,newG,x0,x1,x2,x3,x4,x5,x6,x7,x8]) rfl ?_;exact⟨_,rfl,⟨_,_,rfl,S.out⟩,ab.out⟩
end Gm
namespace Bd31
open Go.ChangeShapes Go.WideShapes Go.ChangeAt Go.RowKit Base Ints Own Clone RelG PlP Bd1 Bd5 Bd8 Bd10 Bd11
def fdP:List Pl->Bd->Nat->Int
 | [],_,_=>-1
 | q :: l,b,i=>if q.2=b then (i:Int) else fdP l b (i+1)
theorem fd_skip {b:Bd}:∀(l m:List Pl) (i:Nat),hasB l b=false->fdP (l++m) b i=fdP m b (i+l.length):=by
 intro l
 induction l with
 | nil=>intro m i _;rfl
 | cons q l ih =>
  intro m i h;unfold hasB at h ih;simp only [List.any_cons,Bool.or_eq_false_iff,decide_eq_false_iff_not] at h;simp only [List.cons_append,fdP];rw [if_neg h.1,ih m (i+1) h.2,List.length_cons]
  congr 1;omega
theorem fd_at {out:List Pl} {b:Bd} {k:Nat} {q:Pl} (hq:out[k]?=some q) (hn:hasB (out.take k) b=false) (h:q.2=b):fdP out b 0=(k:Int):=by
 obtain⟨c,a⟩:=List.getElem?_eq_some_iff.1 hq;have e:out=out.take k++(q :: out.drop (k+1)):=by rw [<-a,<-List.drop_eq_getElem_cons c,List.take_append_drop]
 rw [e,fd_skip _ _ _ hn,List.length_take];simp only [fdP];rw [if_pos h];omega
theorem fd_none {out:List Pl} {b:Bd} (h:hasB out b=false):fdP out b 0=-1:=by
 have:=fd_skip out [] 0 h;rw [List.append_nil] at this;rw [this];rfl
theorem find2_s (out:List Pl) (b:Bd) (n:Nat) (hn:0<n∧n<=1000) (hout:∀ q ∈ out,q.2.1.length=n∧q.2.2.length=n) (h1:b.1.length=n) (h2:b.2.length=n) (u:Value) (A1 A2:Option Addr) (c1 c2 B:Nat) (w:World) (hB:B<=w.heap.size)
  (hu:SlG RelP 3 enP w All u out) (r1:RdS w B 1 enI A1 b.1) (r2:RdS w B 1 enI A2 b.2) :
  Calls Tryz.prog 61 #[u,.agg #[.slice A1 n c1,.slice A2 n c2]] w λ e w'=>e=.returned (.int .i64 (fdP out b 0))∧Below w.heap.size w w':=by
 obtain⟨Ap,cp,rs,rfl,j,m,-⟩:=hu;have t:=j.len;rw [m.1] at t;obtain⟨N,V⟩:∃ N,out.length=N:=⟨_,rfl⟩;rw [V] at t ⊢;have F:=kD V;obtain⟨Z,S⟩:∃ Z,fdP out b 0=Z:=⟨_,rfl⟩;rw [S];have HZ:=kD S;clear S;have aa:=kD j;have G:=kD m;have E:=kD hout;have H1:=kD h1;have H2:=kD h2;have R1:=kD r1;have R2:=kD r2;have CS:=kD (λ(q:Bd) (O M:Option Addr) (Y X:Nat) (q1:q.1.length=n) (q2:q.2.length=n) (f:World) (h:Below w.heap.size w f) (K:RdS f f.heap.size 1 enI O q.1) (J:RdS f f.heap.size 1 enI M q.2) (x:Bool) (s:decide (q=b)=x) =>
  same_s q b n q1 q2 h1 h2 hn O M A1 A2 Y X c1 c2 f.heap.size f (Nat.le_refl _) K J ((r1.below h hB).more (Nat.le_trans hB h.size)) ((r2.below h hB).more (Nat.le_trans hB h.size)) x s)
 clear V j m hout h1 h2 r1 r2;go_enter Tryz.func61,Tryz.ntmps61;go_upto_region 1 with fail;refine wp_gen (λ W'=>Below w.heap.size w W'∧RowB W' w.heap.size 28 [.slice A1 n c1,.slice A2 n c2]) ⟨by go_grown,RowB.new _ _ _⟩ ?_;rintro w1 ⟨R,c⟩;obtain⟨I,H⟩:=c.c2;have d:=c.lt;go_wp2_with fail;go_loopw [5] (λ i wr=>∃ k:Nat,k<=N∧i=.int .i64 (k:Int)∧Hid (Below w.heap.size w wr)∧RowB wr w.heap.size 28 [.slice A1 n c1,.slice A2 n c2]∧Hid (hasB (out.take k) b=false)) (λ i _=>N - (intOf i).toNat)
 case atStart=>exact⟨0,Nat.zero_le _,by first | rfl | trivial,kD R,c,kD rfl⟩
 case round =>
  obtain⟨k,hk,rfl,p,c,l⟩:=hrel;clear I H d;obtain⟨I,H⟩:=c.c2;have d:=c.lt;by_cases hlt:k<N
  ·have g:Still All w wr:=Still.below p.out;obtain⟨b1,o1,r,rfl,-,ad,hr,Q⟩:=(aa.out.keep g).at_ (i:=k) (by rw [G.out.1,F.out];exact hlt);obtain⟨q,L,T⟩:=(G.out.keep g).at_ hr;obtain⟨ss,bd⟩:=q;obtain⟨r0,rl,rm⟩:=r;have D:=T.2.1;have A:=T.2.2;simp only at D A;obtain⟨O,Y,rfl,K,-⟩:=D;obtain⟨M,X,rfl,J,-⟩:=A;have a:=E.out _ (List.mem_of_getElem? L);simp only at a;have y:=Q 1 _ rfl;have v:=Q 2 _ rfl;rw [a.1] at y;rw [a.2] at v;have HT:=kD (show out.take (k+1)=out.take k++[(ss,bd)] from take_succ out k _ L);obtain⟨x,s⟩:∃ x,decide (bd=b)=x:=⟨_,rfl⟩;have C:=kD (λ W (h:wr=W)=>CS.out bd O M Y X a.1 a.2 wr.drew p.out.drew K.rd J.rd x s);have HX:=kD s;have HQ:=kD L;have ac:(k:Int)<(N:Int):=by omega
   have ab:IntKind.i64.wrap ((k:Int)+1)=(k:Int)+1:=IntWalk.i64_in _ (by omega);clear g hr L T Q K J a s;go_wp2_with fail;go_still_tail 6,(by kernel_rfl);go_wp2_with fail;refine(C.out _ rfl).mono ?_;rintro e w2 ⟨rfl,o⟩;have c:=c.drew.below o c.drew.lt;have z:=kD (p.out.drew.trans (o.mono p.out.drew.size));clear I H d p o y v C;obtain⟨I,H⟩:=c.c2;have d:=c.lt
   cases x
   case false =>
    have P:Hid (hasB (out.take (k+1)) b=false):=kD (by rw [HT.out,hasB_snoc,l.out,HX.out];rfl);go_wp2_with fail;go_roundw
    case rel=>exact⟨k+1,by omega,by go_num,z,c,P⟩
    case measure=>simp [intOf];omega
   case true =>
    have hY:Hid (Z=(k:Int)):=kD (by rw [<-HZ.out,fd_at HQ.out l.out (of_decide_eq_true HX.out)]);go_wp2_with fail;go_ret;exact⟨ret1 hY.out.symm,z.out⟩
  ·obtain rfl:N=k:=by omega
   have hA:Hid (hasB out b=false):=kD (by rw [<-l.out,<-F.out,List.take_length]);go_wp2_with fail;go_ret;exact⟨ret1 (by rw [<-HZ.out,fd_none hA.out]),p.out⟩
theorem slEq (l m:List Int) (n:Nat) (hl:l.length=n) (hm:m.length=n) (A1 A2:Option Addr) (c1 c2 B:Nat) (w:World) (r1:RdS w B 1 enI A1 l) (r2:RdS w B 1 enI A2 m) (x:Bool) (hx:decide (l=m)=x) :
  Calls Tryz.prog 133 #[.slice A1 n c1,.slice A2 n c2] w λ e w'=>e=.returned (.bool x)∧Below w.heap.size w w':=by
 have g:=r1.len;rw [hl] at g;have p:Hid (decide (∀ i,i<n->at_ l i=at_ m i)=x):=kD (by rw [<-hx,<-hl];exact(eq_at (by rw [hl,hm])).symm);have G:=kD hl;have F:=kD hm;have E:=kD r1;have D:=kD r2;clear hl hm r1 r2 hx;go_enter Tryz.func133,Tryz.ntmps133;go_wp2_with fail;go_loopw [13] (λ i wr=>∃ k:Nat,k<=n∧i=.int .i64 (k:Int)∧Hid (∃ q,wr=w.drewN q)∧Hid (∀ i,i<k->at_ l i=at_ m i)) (λ i _=>n - (intOf i).toNat)
 case atStart=>exact⟨0,Nat.zero_le _,by first | rfl | trivial,kD ⟨0,rfl⟩,kD (λ i h=>absurd h (Nat.not_lt_zero _))⟩
 case round =>
  obtain⟨k,H,rfl,b,a⟩:=hrel;by_cases hlt:k<n
  ·obtain⟨C,s,rfl,o,d⟩:=at_rd E.out (i:=k) (by rw [G.out];exact hlt);obtain⟨A,r,rfl,j,c⟩:=at_rd D.out (i:=k) (by rw [F.out];exact hlt);have K:wr.cell? ⟨C,s+k,none⟩=some (.int .i64 (at_ l k)):=by obtain⟨q,rfl⟩:=b.out;exact d
   have J:wr.cell? ⟨A,r+k,none⟩=some (.int .i64 (at_ m k)):=by obtain⟨q,rfl⟩:=b.out;exact c
   have y:(k:Int)<(n:Int):=by omega
   have t:IntKind.i64.wrap ((k:Int)+1)=(k:Int)+1:=IntWalk.i64_in _ (by omega);clear d c;by_cases hv:at_ l k=at_ m k
   ·have z:(at_ l k != at_ m k)=false:=by simp [hv]
    have f:=kD (show ∀ i,i<k+1->at_ l i=at_ m i from λ i I=>by
     by_cases e:i=k
     ·rw [e];exact hv
     ·exact a.out i (by omega))
    clear hv;go_wp2_with fail;go_quiet (fail);go_wp2_with fail;go_roundw
    case rel=>exact⟨k+1,by omega,by go_num,kD (by obtain⟨q,rfl⟩:=b.out;exact⟨_,World.drewN_drewN _ _ _⟩),f⟩
    case measure=>simp [intOf];omega
   ·have z:(at_ l k != at_ m k)=true:=by simp [hv]
    obtain rfl:x=false:=by rw [<-p.out];exact decide_eq_false (λ h=>hv (h k hlt))
    clear hv;go_wp2_with fail;go_quiet (fail);go_wp2_with fail;go_ret;exact⟨rfl,by obtain⟨q,rfl⟩:=b.out;exact below_drewN (below_drewN (Below.refl _ _) _) _⟩
  ·obtain rfl:k=n:=by omega
   have v:¬ ((k:Int)<(k:Int)):=by omega
   obtain rfl:x=true:=by rw [<-p.out];exact decide_eq_true a.out
   go_wp2_with fail;go_ret;exact⟨rfl,by obtain⟨q,rfl⟩:=b.out;exact below_drewN (Below.refl _ _) _⟩
theorem same_i (a b:Bd) (n:Nat) (h1:a.1.length=n) (h2:a.2.length=n) (h3:b.1.length=n) (h4:b.2.length=n) (A1 A2 A3 A4:Option Addr) (c1 c2 c3 c4:Nat) (w:World)
  (r1:RdS w w.heap.size 1 enI A1 a.1) (r2:RdS w w.heap.size 1 enI A2 a.2) (r3:RdS w w.heap.size 1 enI A3 b.1) (r4:RdS w w.heap.size 1 enI A4 b.2) (x:Bool) (hx:decide (a=b)=x) :
  Calls Tryz.prog 96 #[.agg #[.slice A1 n c1,.slice A2 n c2],.agg #[.slice A3 n c3,.slice A4 n c4]] w λ e w'=>e=.returned (.bool x)∧Below w.heap.size w w':=by
 obtain⟨y,m⟩:∃ y,decide (a.1=b.1)=y:=⟨_,rfl⟩;obtain⟨z,l⟩:∃ z,decide (a.2=b.2)=z:=⟨_,rfl⟩;have t:Hid ((y && z)=x):=kD (by
  rw [<-hx,<-m,<-l,<-Bool.decide_and];exact decide_eq_decide.2 ⟨λ h=>Prod.ext h.1 h.2,λ h=>by rw [h];exact⟨rfl,rfl⟩⟩)
 have C:=kD (λ(i:World) (h:Below w.heap.size w i)=>slEq a.1 b.1 n h1 h3 A1 A3 c1 c3 w.heap.size i (r1.below h (Nat.le_refl _)) (r3.below h (Nat.le_refl _)) y m);have B:=kD (λ(i:World) (h:Below w.heap.size w i)=>slEq a.2 b.2 n h2 h4 A2 A4 c2 c4 w.heap.size i (r2.below h (Nat.le_refl _)) (r4.below h (Nat.le_refl _)) z l);clear h1 h2 h3 h4 r1 r2 r3 r4 hx m l;go_enter Tryz.func96,Tryz.ntmps96;go_upto_region 1 with fail;refine wp_gen (λ p=>Below w.heap.size w p∧RowB p w.heap.size 28 [.slice A1 n c1,.slice A2 n c2]∧RowB p (w.heap.size+1) 28 [.slice A3 n c3,.slice A4 n c4]) ⟨by go_grown,(RowB.new _ _ _).alloc _,RowB.new' _ _ _ (by simp)⟩ ?_;rintro A ⟨c,g,f⟩;obtain⟨s,r⟩:=g.c2;obtain⟨q,r1⟩:=f.c2;have k:=g.lt;have j:=f.lt;go_wp2_with fail;refine(C.out A c).mono ?_;rintro e v ⟨rfl,d⟩;have g:=g.below d g.lt;have f:=f.below d f.lt;have c:=c.trans (d.mono c.size);clear s r q r1 k j d;obtain⟨s,r⟩:=g.c2;obtain⟨q,r1⟩:=f.c2;have k:=g.lt;have j:=f.lt
 cases y
 ·obtain rfl:x=false:=by rw [<-t.out];rfl
  go_wp2_with fail;go_ret;exact⟨rfl,c⟩
 ·obtain rfl:x=z:=by rw [<-t.out];rfl
  go_wp2_with fail;refine(B.out v c).mono ?_;rintro e D ⟨rfl,o⟩;have c:=c.trans (o.mono c.size);go_wp2_with fail;go_ret;exact⟨rfl,c⟩
end Bd31
end Go.Proofs.YtmncnhbjifeoeaaGreat
