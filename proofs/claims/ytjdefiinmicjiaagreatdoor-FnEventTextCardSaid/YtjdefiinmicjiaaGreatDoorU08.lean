/- Parts of the proof of FnEventText. Conditions: each theorem's own. -/
import Derived.Test.YtjdefiinmicjiaaGreatDoorU05
import Derived.Test.YtjdefiinmicjiaaGreatDoorU07
set_option linter.unusedVariables false
set_option linter.unusedSimpArgs false
set_option maxHeartbeats 8000000
set_option maxRecDepth 100000
namespace Go.Proofs.YtjdefiinmicjiaaGreatDoor
namespace Bd7
open Go.ChangeShapes Go.WideShapes Go.ChangeAt Go.RowKit Base Ints Own Clone RelG PlP Bd1 Bd6
def RowI (w:World) (g:Nat) (l:List Int) (r:List Value):Prop:=RowB w g 2 (l.flatMap enI++r)
theorem flatI (l:List Int):l.flatMap enI=l.map (λ x=>Value.int .i64 x):=by
 induction l with
 | nil=>rfl
 | cons x l ih=>rw [List.flatMap_cons,ih];rfl
theorem RowI.at_ {w:World} {g:Nat} {l:List Int} {r:List Value} (h:RowI w g l r) {i:Nat} (hi:i<l.length):w.cell? ⟨g,i,none⟩=some (.int .i64 (PlP.at_ l i)):=by
 have:=RowB.cell h i;rw [this,flatI,List.getElem?_append_left (by simpa using hi),List.getElem?_map,at_get hi];rfl
theorem RowI.put {w:World} {g:Nat} {l:List Int} {r:List Value} (h:RowI w g l r) {i:Nat} (hi:i<l.length) (x:Int):RowI (w.setCell ⟨g,i,none⟩ (.int .i64 x)) g (l.set i x) r:=by
 have:=RowB.set h i (.int .i64 x);unfold RowI;rw [flatI] at this ⊢;rw [List.set_append_left _ _ (by simpa using hi),<-List.map_set] at this;exact this
theorem RowI.of {w:World} {lo hi:Nat} {u:Value} {l:List Int} (h:OwnS w lo hi 2 1 enI u l) (hl:0<l.length) :
  ∃(g c:Nat) (r:List Value),u=.slice (some ⟨g,0,none⟩) l.length c∧lo<=g∧g<hi∧c<=maxLen∧l.length+r.length=c∧RowI w g l r:=by
 rcases h.cases_ with ⟨-,rfl⟩ | ⟨g,c,r,h1,h2,h3,h4,h5,h6,h7⟩
 ·simp at hl
 ·exact⟨g,c,r,h1,h2,h3,h6,by omega,h4⟩
theorem RowI.own {w:World} {lo hi g c:Nat} {l:List Int} {r:List Value} (h:RowI w g l r) (hlo:lo<=g) (hhi:g<hi) (hc:l.length+r.length=c) (hm:c<=maxLen) :
  OwnS w lo hi 2 1 enI (.slice (some ⟨g,0,none⟩) l.length c) l :=
 OwnS.mk_ enI_len h hlo hhi (by omega) hm (by omega)
section
variable {w W:World} {vs ss:List Value} {gv gs gr g7 a c n ca cc:Nat} {l m:List Int} {ra rc:List Value}
end
def StOk (v:Vr) (s:Stp):Prop:=(0<=s.1∧s.1<=v.p)∧(-1<=s.2.1∧s.2.1<v.p)∧(s.2.2.2=true->0<=s.2.1)
theorem inc_bd {l:List Int} {i:Nat} {x:Int} {k:Int} (h:∀ j,-k<=at_ l j∧at_ l j<=1000+k) (hx:-1<=x∧x<=1) (hi:i<l.length):∀ j,-(k+1)<=at_ (inc l i x) j∧at_ (inc l i x) j<=1000+(k+1):=by
 intro j;rw [inc_at l i j x hi];have b:=h i;have a:=h j;split <;> omega
theorem sd_bd {v:Vr} {b:Bd} (hb:Ok v b):(∀ j,-0<=at_ b.1 j∧at_ b.1 j<=1000+0)∧∀ j,-0<=at_ b.2 j∧at_ b.2 j<=1000+0:=by
 have a:=hb.v1;exact⟨λ j=>by have:=hb.own.nn j;have:=(sum_nn _ hb.own.nn).2 j;have:=hb.own.sum;omega,λ j=>by have:=hb.oth.nn j;have:=(sum_nn _ hb.oth.nn).2 j;have:=hb.oth.sum;omega⟩
end Bd7
namespace Bd7S
open Go.ChangeShapes Go.WideShapes Go.ChangeAt Go.RowKit Base Ints Own Clone RelG PlP Bd1 Bd6 Bd7 RegInv
structure Sr (w W:World) (vs ss:List Value) (gv gs gr a c n:Nat) (l m:List Int) (ra rc:List Value):Prop where
 bel:Below w.heap.size w W
 rv:RowB W gv 25 vs
 rs:RowB W gs 111 ss
 rr:RowB W gr 51 [.slice none 0 0,.slice none 0 0]
 hl:RowI W a l ra
 hm:RowI W c m rc
 ll:l.length=n
 lm:m.length=n
 ne:(a≠c∧a≠gv∧a≠gs∧a≠gr)∧(c≠gv∧c≠gs∧c≠gr)
 ge:w.heap.size<=a∧w.heap.size<=c
section
variable {w W:World} {vs ss:List Value} {gv gs gr a c n:Nat} {l m:List Int} {ra rc:List Value}
theorem Sr.drew (h:Sr w W vs ss gv gs gr a c n l m ra rc):Sr w W.drew vs ss gv gs gr a c n l m ra rc :=
 ⟨h.bel.drew,h.rv.drew,h.rs.drew,h.rr.drew,RowB.drew h.hl,RowB.drew h.hm,h.ll,h.lm,h.ne,h.ge⟩
theorem Sr.putA (h:Sr w W vs ss gv gs gr a c n l m ra rc) {i:Nat} (hi:i<n) (x y:Int) (hx:PlP.at_ l i+y=x):Sr w (W.setCell ⟨a,i,none⟩ (.int .i64 x)) vs ss gv gs gr a c n (inc l i y) m ra rc:=by
 obtain⟨B,A,z,v,t,s,r,q,e,d⟩:=h;have k:=e;obtain⟨⟨o,j,g,f⟩,-⟩:=k;have b:inc l i y=l.set i x:=by unfold inc;rw [hx]
 exact⟨B.setCell (p:=⟨a,i,none⟩) d.1 _,A.other (p:=⟨a,i,none⟩) (Ne.symm j) _,z.other (p:=⟨a,i,none⟩) (Ne.symm g) _,v.other (p:=⟨a,i,none⟩) (Ne.symm f) _,by rw [b];exact t.put (by omega) _,RowB.other s (p:=⟨a,i,none⟩) (Ne.symm o) _,by rw [b,List.length_set];exact r,q,e,d⟩
theorem Sr.putC (h:Sr w W vs ss gv gs gr a c n l m ra rc) {i:Nat} (hi:i<n) (x y:Int) (hx:PlP.at_ m i+y=x):Sr w (W.setCell ⟨c,i,none⟩ (.int .i64 x)) vs ss gv gs gr a c n l (inc m i y) ra rc:=by
 obtain⟨B,A,z,v,t,s,r,q,e,d⟩:=h;have b:inc m i y=m.set i x:=by unfold inc;rw [hx]
 have k:=e;obtain⟨⟨o,-⟩,j,g,f⟩:=k;exact⟨B.setCell (p:=⟨c,i,none⟩) d.2 _,A.other (p:=⟨c,i,none⟩) (Ne.symm j) _,z.other (p:=⟨c,i,none⟩) (Ne.symm g) _,v.other (p:=⟨c,i,none⟩) (Ne.symm f) _,RowB.other t (p:=⟨c,i,none⟩) o _,by rw [b];exact s.put (by omega) _,r,by rw [b,List.length_set];exact q,e,d⟩
end
structure ApF (w:World) (Ao At:Option Addr) (co ct:Nat) (l m:List Int) (vs ss:List Value) (L:Nat->Prop) (v7 v8 v10 v11 v12 v13 v14 v15:Value) (w':World):Prop where
 bel:Below w.heap.size w w'
 rv:RowB w' w.heap.size 25 vs
 rb:RowB w' (w.heap.size+1) 51 [.slice Ao l.length co,.slice At m.length ct]
 rs:RowB w' (w.heap.size+2) 111 ss
 rr:RowB w' (w.heap.size+3) 51 [.slice none 0 0,.slice none 0 0]
 f0:L 0->v10=.pointer (some ⟨w.heap.size+1,0,none⟩)
 f1:L 1->v11=.slice Ao l.length co
 f2:L 2->∃(A1:Option Addr) (c1:Nat),v12=.slice A1 l.length c1∧OwnS w' (w.heap.size+4) w'.heap.size 2 1 enI (.slice A1 l.length c1) l
 f3:L 3->v13=.pointer (some ⟨w.heap.size+1,1,none⟩)
 f4:L 4->v14=.slice At m.length ct
 f5:L 5->(∃(A1:Option Addr) (c1:Nat),v15=.slice A1 m.length c1∧OwnS w' (w.heap.size+4) w'.heap.size 2 1 enI (.slice A1 m.length c1) m)∧(L 2->Own.Apart v12 v15)
 f6:L 6->v7=v12
 f7:L 7->v8=v15
theorem after_s (v:Vr) (b:Bd) (hb:Ok v b) (Ao At:Option Addr) (co ct B:Nat) (s:Stp) (hs:StOk v s) (w:World) (hB:B<=w.heap.size) (ho:RdS w B 1 enI Ao b.1) (ht:RdS w B 1 enI At b.2) (hA:Ao=none->co=0) (hT:At=none->ct=0) :
  Calls Tryz.prog 180 #[.agg #[.int .i64 v.p,.int .i64 v.c,.int .i64 v.h,.int .i64 v.s],.agg #[.slice Ao b.1.length co,.slice At b.2.length ct],.agg #[.int .i64 s.1,.int .i64 s.2.1,.int .i64 s.2.2.1,.bool s.2.2.2]] w λ e w'=>BoardR (afterP v b s).1 (afterP v b s).2 w e w':=by
 have hv:=hb.v1;have av:=kD (sd_bd hb).1;have ar:=kD (sd_bd hb).2;have N:=hb.own.len;have aC:=hb.oth.len;obtain⟨P,hP⟩:∃ P:Nat,v.p=(P:Int):=⟨v.p.toNat,by omega⟩;have aF:P<=24:=by omega
 have ax:=kD (λ(w9:World) (h:Below w.heap.size w w9)=>own02 Ao co B b.1 w9 (Nat.le_trans hB h.size) (ho.below h hB) hA (by omega));have aw:=kD (λ(w9:World) (h:Below w.heap.size w w9)=>own02 At ct B b.2 w9 (Nat.le_trans hB h.size) (ht.below h hB) hT (by omega));obtain⟨F0,T,d,aa⟩:=s;obtain⟨⟨ai,aE⟩,⟨aB,aA⟩,hh⟩:=hs;simp only at ai aE aB aA hh;obtain⟨f,rfl⟩:=Int.eq_ofNat_of_zero_le ai;obtain⟨R,hR⟩:∃ r,afterP v b ((f:Int),T,d,aa)=r:=⟨_,rfl⟩;have HR:=kD hR;simp only;rw [hR];obtain⟨p,c,h,s⟩:=v;obtain⟨l,m⟩:=b;simp only at *;subst hP;obtain⟨n,hn⟩:∃ n,P+1=n:=⟨_,rfl⟩;have ad:l.length=n:=by omega
 have ac:m.length=n:=by omega
 have HN:=kD ad;have HM:=kD ac;clear hb ho ht hR ai hA hT N aC ad ac;go_enter Tryz.func180,Tryz.ntmps180;go_upto_region 1 with fail;refine wp_gen (λ E=>Below w.heap.size w E∧RowB E w.heap.size 25 [.int .i64 (P:Int),.int .i64 c,.int .i64 h,.int .i64 s]∧RowB E (w.heap.size+1) 51 [.slice Ao l.length co,.slice At m.length ct]∧RowB E (w.heap.size+2) 111 [.int .i64 (f:Int),.int .i64 T,.int .i64 d,.bool aa]∧RowB E (w.heap.size+3) 51 [.slice none 0 0,.slice none 0 0]) ⟨by go_grown,(((RowB.new _ _ _).alloc _).alloc _).alloc _,RowB.alloc (RowB.alloc (RowB.new' _ _ _ (by first | simp | go_size | rfl)) _) _,RowB.alloc (RowB.new' _ _ _ (by first | simp | go_size | rfl)) _,RowB.new' _ _ _ (by first | simp | go_size | rfl)⟩ ?_;rintro w1 ⟨ap,rv,rb,rs,G⟩;refine region_inv (λ a0 L a w'=>∃ V S C A q z y o:Value,a=((((((((a0.put (some 7) V).put (some 8) S).put (some 10) C).put (some 11) A).put (some 12) q).put (some 13) z).put (some 14) y).put (some 15) o)∧ApF w Ao At co ct l m [.int .i64 (P:Int),.int .i64 c,.int .i64 h,.int .i64 s] [.int .i64 (f:Int),.int .i64 T,.int .i64 d,.bool aa] L V S C A q z y o w') (by kernel_rfl) (by kernel_rfl) ?h0 ?hst ?fin
 case h0 =>
  exact⟨_,_,_,_,_,_,_,_,by simp only [Act.put,sX];exact rfl,⟨ap.drew,rv.drew,rb.drew,rs.drew,G.drew,λ h=>(h:False).elim,λ h=>(h:False).elim,λ h=>(h:False).elim,λ h=>(h:False).elim,λ h=>(h:False).elim,λ h=>(h:False).elim,λ h=>(h:False).elim,λ h=>(h:False).elim⟩⟩
 case hst =>
  refine StepsFrom.cons rfl (λ L a w' hI H D I K hK=>?_) ?_
  ·obtain⟨V,S,C,A,q,z,y,o,ha,F⟩:=hI;subst ha;simp only [Act.put,sX];go_simp;exact hK.out _ _ ⟨V,S,_,A,q,z,y,o,by simp only [Act.put,sX],⟨F.bel,F.rv,F.rb,F.rs,F.rr,λ _=>rfl,λ h=>F.f1 (rL h),λ h=>F.f2 (rL h),λ h=>F.f3 (rL h),λ h=>F.f4 (rL h),λ h=>⟨(F.f5 (rL h)).1,λ O=>(F.f5 (rL h)).2 (rL O)⟩,λ h=>F.f6 (rL h),λ h=>F.f7 (rL h)⟩⟩
  refine StepsFrom.cons rfl (λ L a w' hI H D I K hK=>?_) ?_
  ·obtain⟨V,S,C,A,q,z,y,o,ha,F⟩:=hI;have r0:=F.rb.c2.1;have r1:=F.rb.c2.2;have hl:=F.rb.lt;have e3:=F.f0 (bK D 0);subst ha;simp only [Act.put,sX,e3];go_simp;exact hK.out _ _ ⟨V,S,C,_,q,z,y,o,by simp only [Act.put,sX,e3],⟨F.bel,F.rv,F.rb,F.rs,F.rr,λ h=>F.f0 (rL h),λ _=>rfl,λ h=>F.f2 (rL h),λ h=>F.f3 (rL h),λ h=>F.f4 (rL h),λ h=>⟨(F.f5 (rL h)).1,λ O=>(F.f5 (rL h)).2 (rL O)⟩,λ h=>F.f6 (rL h),λ h=>F.f7 (rL h)⟩⟩
  refine StepsFrom.cons rfl (λ L a w' hI H D I K hK=>?_) ?_
  ·obtain⟨V,S,C,A,q,z,y,o,ha,F⟩:=hI;have e4:=F.f1 (bK D 1);have aD:=F.rr.lt;subst ha;simp only [Act.put,sX,e4];go_simp;refine(ax.out w' F.bel).mono ?_;rintro e w2 ⟨⟨vv,rfl,ho⟩,hb⟩;obtain⟨A1,c1,rfl,-⟩:=ho.form enI_len;exact hK.out _ _ ⟨V,S,C,A,_,z,y,o,by simp only [Act.put,sX,e4],⟨F.bel.trans (hb.mono F.bel.size),F.rv.below hb F.rv.lt,F.rb.below hb F.rb.lt,F.rs.below hb F.rs.lt,F.rr.below hb F.rr.lt,λ h=>F.f0 (rL h),λ h=>F.f1 (rL h),λ _=>⟨A1,c1,rfl,ho.less (by omega)⟩,λ h=>F.f3 (rL h),λ h=>F.f4 (rL h),λ h=>by obtain⟨⟨A2,c2,h1,O⟩,h3⟩:=F.f5 (rL h);exact⟨⟨A2,c2,h1,(O.below hb (Nat.le_refl _)).more hb.size⟩,λ _=>by rw [h1];exact λ k hk Q=>by have:=O.2 k Q;have:=(ho.block k hk).1;omega⟩,λ h=>absurd (I 6 2 (by kernel_rfl) (rL h)) H,λ h=>absurd (I 7 2 (by kernel_rfl) (rL h)) H⟩⟩
  refine StepsFrom.cons rfl (λ L a w' hI H D I K hK=>?_) ?_
  ·obtain⟨V,S,C,A,q,z,y,o,ha,F⟩:=hI;subst ha;simp only [Act.put,sX];go_simp;exact hK.out _ _ ⟨V,S,C,A,q,_,y,o,by simp only [Act.put,sX],⟨F.bel,F.rv,F.rb,F.rs,F.rr,λ h=>F.f0 (rL h),λ h=>F.f1 (rL h),λ h=>F.f2 (rL h),λ _=>rfl,λ h=>F.f4 (rL h),λ h=>⟨(F.f5 (rL h)).1,λ O=>(F.f5 (rL h)).2 (rL O)⟩,λ h=>F.f6 (rL h),λ h=>F.f7 (rL h)⟩⟩
  refine StepsFrom.cons rfl (λ L a w' hI H D I K hK=>?_) ?_
  ·obtain⟨V,S,C,A,q,z,y,o,ha,F⟩:=hI;have r0:=F.rb.c2.1;have r1:=F.rb.c2.2;have hl:=F.rb.lt;have e6:=F.f3 (bK D 3);subst ha;simp only [Act.put,sX,e6];go_simp;exact hK.out _ _ ⟨V,S,C,A,q,z,_,o,by simp only [Act.put,sX,e6],⟨F.bel,F.rv,F.rb,F.rs,F.rr,λ h=>F.f0 (rL h),λ h=>F.f1 (rL h),λ h=>F.f2 (rL h),λ h=>F.f3 (rL h),λ _=>rfl,λ h=>⟨(F.f5 (rL h)).1,λ O=>(F.f5 (rL h)).2 (rL O)⟩,λ h=>F.f6 (rL h),λ h=>F.f7 (rL h)⟩⟩
  refine StepsFrom.cons rfl (λ L a w' hI H D I K hK=>?_) ?_
  ·obtain⟨V,S,C,A,q,z,y,o,ha,F⟩:=hI;have e7:=F.f4 (bK D 4);have aD:=F.rr.lt;subst ha;simp only [Act.put,sX,e7];go_simp;refine(aw.out w' F.bel).mono ?_;rintro e w2 ⟨⟨vv,rfl,ho⟩,hb⟩;obtain⟨A1,c1,rfl,-⟩:=ho.form enI_len;exact hK.out _ _ ⟨V,S,C,A,q,z,y,_,by simp only [Act.put,sX,e7],⟨F.bel.trans (hb.mono F.bel.size),F.rv.below hb F.rv.lt,F.rb.below hb F.rb.lt,F.rs.below hb F.rs.lt,F.rr.below hb F.rr.lt,λ h=>F.f0 (rL h),λ h=>F.f1 (rL h),λ h=>by obtain⟨A2,c2,h1,O⟩:=F.f2 (rL h);exact⟨A2,c2,h1,(O.below hb (Nat.le_refl _)).more hb.size⟩,λ h=>F.f3 (rL h),λ h=>F.f4 (rL h),λ _=>⟨⟨A1,c1,rfl,ho.less (by omega)⟩,λ O=>by obtain⟨A2,c2,h1,h3⟩:=F.f2 (rL O);rw [h1];exact λ k hk Q=>by have:=h3.2 k hk;have:=(ho.block k Q).1;omega⟩,λ h=>absurd (I 6 5 (by kernel_rfl) (rL h)) H,λ h=>absurd (I 7 5 (by kernel_rfl) (rL h)) H⟩⟩
  refine StepsFrom.cons rfl (λ L a w' hI H D I K hK=>?_) ?_
  ·obtain⟨V,S,C,A,q,z,y,o,ha,F⟩:=hI;subst ha;simp only [Act.put,sX];go_simp;exact hK.out _ _ ⟨q,S,C,A,q,z,y,o,by simp only [Act.put,sX],⟨F.bel,F.rv,F.rb,F.rs,F.rr,λ h=>F.f0 (rL h),λ h=>F.f1 (rL h),λ h=>F.f2 (rL h),λ h=>F.f3 (rL h),λ h=>F.f4 (rL h),λ h=>⟨(F.f5 (rL h)).1,λ O=>(F.f5 (rL h)).2 (rL O)⟩,λ _=>rfl,λ h=>F.f7 (rL h)⟩⟩
  refine StepsFrom.cons rfl (λ L a w' hI H D I K hK=>?_) ?_
  ·obtain⟨V,S,C,A,q,z,y,o,ha,F⟩:=hI;subst ha;simp only [Act.put,sX];go_simp;exact hK.out _ _ ⟨V,o,C,A,q,z,y,o,by simp only [Act.put,sX],⟨F.bel,F.rv,F.rb,F.rs,F.rr,λ h=>F.f0 (rL h),λ h=>F.f1 (rL h),λ h=>F.f2 (rL h),λ h=>F.f3 (rL h),λ h=>F.f4 (rL h),λ h=>⟨(F.f5 (rL h)).1,λ O=>(F.f5 (rL h)).2 (rL O)⟩,λ h=>F.f6 (rL h),λ _=>rfl⟩⟩
  exact StepsFrom.nil (by decide)
 case fin =>
  rintro L a' w3 ⟨V,S,C,A,q,z,y,o,rfl,Fx⟩ hL;obtain⟨⟨A2,c2,e8,o2⟩,ae⟩:=Fx.f5 (hL 5 (by decide));obtain⟨A1,c1,e5,o1⟩:=Fx.f2 (hL 2 (by decide));have ae:=ae (hL 2 (by decide));have f6:=Fx.f6 (hL 6 (by decide));have f7:=Fx.f7 (hL 7 (by decide));subst f6 f7;subst e8 e5;have ad:=HN.out;have ac:=HM.out;obtain⟨a,ca,ra,h1,a1,a2,a3,a4,an⟩:=RowI.of o1 (by omega);obtain⟨g,cc,rc,O,b1,b2,b3,b4,am⟩:=RowI.of o2 (by omega);simp only [Value.slice.injEq,true_and] at h1 O;obtain⟨rfl,rfl⟩:=h1;obtain⟨rfl,rfl⟩:=O;have af:a≠g:=λ h=>ae a rfl (by rw [h];rfl)
  have K3:Sr w w3 [.int .i64 (P:Int),.int .i64 c,.int .i64 h,.int .i64 s] [.int .i64 (f:Int),.int .i64 T,.int .i64 d,.bool aa] w.heap.size (w.heap.size+2) (w.heap.size+3) a g n l m ra rc:=⟨Fx.bel,Fx.rv,Fx.rs,Fx.rr,an,am,ad,ac,⟨⟨af,by omega,by omega,by omega⟩,by omega,by omega,by omega⟩,by omega,by omega⟩;clear Fx hL o1 o2 ae an am rv rb rs G ap;simp only [Act.put,sX,ad,ac];clear ad ac;obtain⟨q0,q1,q2,q3⟩:=K3.rv.c4;obtain⟨s0,s1,s2,s3⟩:=K3.rs.c4;have fa:=RowB.frozen K3.hl;have fc:=RowB.frozen K3.hm;have Z:=K3.rv.lt;have N:=K3.rs.lt;have Y:=RowB.lt K3.hl;have X:=RowB.lt K3.hm;have ah:f<n:=by omega
  have aI:(f:Int)<(n:Int):=by omega
  have ak:=RowI.at_ K3.hl (i:=f) (by rw [K3.ll];exact ah);have ab:IntKind.i64.wrap (at_ l f - 1)=at_ l f - 1:=by have:=av.out f;exact IntWalk.i64_in _ (by omega)
  go_wp2_with fail;go_still_tail 10,(by kernel_rfl);go_upto_region 3 with fail;refine wp_gen (λ E=>Sr w E [.int .i64 (P:Int),.int .i64 c,.int .i64 h,.int .i64 s] [.int .i64 (f:Int),.int .i64 T,.int .i64 d,.bool aa] w.heap.size (w.heap.size+2) (w.heap.size+3) a g n (inc l f (-1)) m ra rc) (K3.drew.putA ah _ (-1) rfl) ?_;intro w4 M;clear q0 q1 q2 q3 s0 s1 s2 s3 fa fc Z N Y X ak ab K3;obtain⟨q0,q1,q2,q3⟩:=M.rv.c4;obtain⟨s0,s1,s2,s3⟩:=M.rs.c4;have fa:=RowB.frozen M.hl;have fc:=RowB.frozen M.hm;have Z:=M.rv.lt;have N:=M.rs.lt;have Y:=RowB.lt M.hl;have X:=RowB.lt M.hm;by_cases gT:0<=T
  ·obtain⟨t,rfl⟩:=Int.eq_ofNat_of_zero_le gT;have al:t<n:=by omega
   have aG:(t:Int)<(n:Int):=by omega
   have ak:=RowI.at_ M.hl (i:=t) (by rw [M.ll];exact al);have ab:IntKind.i64.wrap (at_ (inc l f (-1)) t+1)=at_ (inc l f (-1)) t+1:=by
    have:=inc_bd (k:=0) av.out (x:=-1) (by omega) (i:=f) (by rw [HN.out];exact ah) t;exact IntWalk.i64_in _ (by omega)
   go_wp2_with fail;go_still_tail 10,(by kernel_rfl);go_upto_region 5 with fail;refine wp_gen (λ E=>Sr w E [.int .i64 (P:Int),.int .i64 c,.int .i64 h,.int .i64 s] [.int .i64 (f:Int),.int .i64 (t:Int),.int .i64 d,.bool aa] w.heap.size (w.heap.size+2) (w.heap.size+3) a g n (inc (inc l f (-1)) t 1) m ra rc) (M.drew.putA al _ 1 rfl) ?_;intro w5 J;clear q0 q1 q2 q3 s0 s1 s2 s3 fa fc Z N Y X ak ab M;obtain⟨q0,q1,q2,q3⟩:=J.rv.c4;obtain⟨s0,s1,s2,s3⟩:=J.rs.c4;have fa:=RowB.frozen J.hl;have fc:=RowB.frozen J.hm;have Z:=J.rv.lt;have N:=J.rs.lt;have Y:=RowB.lt J.hl;have X:=RowB.lt J.hm
   cases aa
   case true =>
    obtain⟨j,hj⟩:∃ j:Nat,(P:Int) - 1 - (t:Int)=(j:Int):=⟨((P:Int) - 1 - (t:Int)).toNat,by omega⟩;have ej:((P:Int) - 1 - (t:Int)).toNat=j:=by omega
    obtain rfl:R=(inc (inc l f (-1)) t 1,inc (inc m j (-1)) P 1):=by rw [<-HR.out];simp [afterP,ej]
    clear ej;have ag:j<n:=by omega
    have aH:(j:Int)<(n:Int):=by omega
    have aj:=RowI.at_ J.hm (i:=j) (by rw [J.lm];exact ag);have ab:IntKind.i64.wrap (at_ m j - 1)=at_ m j - 1:=by have:=ar.out j;exact IntWalk.i64_in _ (by omega)
    have az:IntKind.i64.wrap ((P:Int) - 1)=(P:Int) - 1:=IntWalk.i64_in _ (by omega);have ay:IntKind.i64.wrap ((P:Int) - 1 - (t:Int))=(j:Int):=by rw [hj];exact IntWalk.i64_in _ (by omega)
    go_upto_region 8 with fail;refine wp_gen (λ E=>Sr w E [.int .i64 (P:Int),.int .i64 c,.int .i64 h,.int .i64 s] [.int .i64 (f:Int),.int .i64 (t:Int),.int .i64 d,.bool true] w.heap.size (w.heap.size+2) (w.heap.size+3) a g n (inc (inc l f (-1)) t 1) (inc m j (-1)) ra rc) (J.putC ag _ (-1) rfl) ?_;intro w6 K6;clear q0 q1 q2 q3 s0 s1 s2 s3 fa fc Z N Y X aj ab az ay J;obtain⟨q0,q1,q2,q3⟩:=K6.rv.c4;obtain⟨s0,s1,s2,s3⟩:=K6.rs.c4;have fa:=RowB.frozen K6.hl;have fc:=RowB.frozen K6.hm;have Z:=K6.rv.lt;have N:=K6.rs.lt;have Y:=RowB.lt K6.hl;have X:=RowB.lt K6.hm;have aq:P<n:=by omega
    have aJ:(P:Int)<(n:Int):=by omega
    have aj:=RowI.at_ K6.hm (i:=P) (by rw [K6.lm];exact aq);have ab:IntKind.i64.wrap (at_ (inc m j (-1)) P+1)=at_ (inc m j (-1)) P+1:=by
     have:=inc_bd (k:=0) ar.out (x:=-1) (by omega) (i:=j) (by rw [HM.out];exact ag) P;exact IntWalk.i64_in _ (by omega)
    go_wp2_with fail;go_still_tail 10,(by kernel_rfl);go_upto_region 9 with fail;refine wp_gen (λ E=>Sr w E [.int .i64 (P:Int),.int .i64 c,.int .i64 h,.int .i64 s] [.int .i64 (f:Int),.int .i64 (t:Int),.int .i64 d,.bool true] w.heap.size (w.heap.size+2) (w.heap.size+3) a g n (inc (inc l f (-1)) t 1) (inc (inc m j (-1)) P 1) ra rc) (K6.drew.putC aq _ 1 rfl) ?_;intro w7 W;clear q0 q1 q2 q3 s0 s1 s2 s3 fa fc Z N Y X aj ab K6;obtain⟨q0,q1,q2,q3⟩:=W.rv.c4;obtain⟨s0,s1,s2,s3⟩:=W.rs.c4;have fa:=RowB.frozen W.hl;have fc:=RowB.frozen W.hm;have Z:=W.rv.lt;have N:=W.rs.lt;have Y:=RowB.lt W.hl;have X:=RowB.lt W.hm;have G:=W.rr;have y0:=G.c2.1;have y1:=G.c2.2;have fr:=G.frozen;have ao:=G.lt;go_wp2_with fail;refine bp_gen (λ E=>Below w.heap.size w E∧RowB E (w.heap.size+3) 51 [.slice (some ⟨a,0,none⟩) n c1,.slice (some ⟨g,0,none⟩) n c2]∧RowI E a (inc (inc l f (-1)) t 1) ra∧RowI E g (inc (inc m j (-1)) P 1) rc) ⟨below_two W.bel (by omega) _ _,two_ G _ _,oth2 W.hl W.ne.1.2.2.2 _ _,oth2 W.hm W.ne.2.2.2 _ _⟩ ?_;rintro E ⟨hb,G,hl,hm⟩;obtain⟨z0,z1⟩:=G.c2;refine bodyPost_ret (v:=.agg #[.slice (some ⟨a,0,none⟩) n c1,.slice (some ⟨g,0,none⟩) n c2]) (by simp [results,Tryz.results180,go_sem,z0,z1]) rfl ?_;have k1:=W.ll;have k2:=W.lm;have k3:=HN.out;have k4:=HM.out;exact⟨some ⟨a,0,none⟩,c1,some ⟨g,0,none⟩,c2,by simp only [k1,k2],hl.own W.ge.1 (RowB.lt hl) (by omega) a3,hm.own W.ge.2 (RowB.lt hm) (by omega) b3,λ k hk Q=>af (by simp [Value.ownBlock] at hk Q;omega),hb⟩
   case false =>
    obtain rfl:R=(inc (inc l f (-1)) t 1,m):=by rw [<-HR.out];simp [afterP]
    have G:=J.rr;have y0:=G.c2.1;have y1:=G.c2.2;have fr:=G.frozen;have ao:=G.lt;go_wp2_with fail;refine bp_gen (λ E=>Below w.heap.size w E∧RowB E (w.heap.size+3) 51 [.slice (some ⟨a,0,none⟩) n c1,.slice (some ⟨g,0,none⟩) n c2]∧RowI E a (inc (inc l f (-1)) t 1) ra∧RowI E g (m) rc) ⟨below_two J.bel (by omega) _ _,two_ G _ _,oth2 J.hl J.ne.1.2.2.2 _ _,oth2 J.hm J.ne.2.2.2 _ _⟩ ?_;rintro E ⟨hb,G,hl,hm⟩;obtain⟨z0,z1⟩:=G.c2;refine bodyPost_ret (v:=.agg #[.slice (some ⟨a,0,none⟩) n c1,.slice (some ⟨g,0,none⟩) n c2]) (by simp [results,Tryz.results180,go_sem,z0,z1]) rfl ?_;have k1:=J.ll;have k2:=J.lm;have k3:=HN.out;have k4:=HM.out;exact⟨some ⟨a,0,none⟩,c1,some ⟨g,0,none⟩,c2,by simp only [k1,k2],hl.own J.ge.1 (RowB.lt hl) (by omega) a3,hm.own J.ge.2 (RowB.lt hm) (by omega) b3,λ k hk Q=>af (by simp [Value.ownBlock] at hk Q;omega),hb⟩
  ·cases aa
   case true=>exact absurd (hh rfl) gT
   case false =>
    obtain rfl:R=(inc l f (-1),m):=by rw [<-HR.out];simp [afterP,gT]
    have G:=M.rr;have y0:=G.c2.1;have y1:=G.c2.2;have fr:=G.frozen;have ao:=G.lt;go_wp2_with fail;refine bp_gen (λ E=>Below w.heap.size w E∧RowB E (w.heap.size+3) 51 [.slice (some ⟨a,0,none⟩) n c1,.slice (some ⟨g,0,none⟩) n c2]∧RowI E a (inc l f (-1)) ra∧RowI E g (m) rc) ⟨below_two M.bel (by omega) _ _,two_ G _ _,oth2 M.hl M.ne.1.2.2.2 _ _,oth2 M.hm M.ne.2.2.2 _ _⟩ ?_;rintro E ⟨hb,G,hl,hm⟩;obtain⟨z0,z1⟩:=G.c2;refine bodyPost_ret (v:=.agg #[.slice (some ⟨a,0,none⟩) n c1,.slice (some ⟨g,0,none⟩) n c2]) (by simp [results,Tryz.results180,go_sem,z0,z1]) rfl ?_;have k1:=M.ll;have k2:=M.lm;have k3:=HN.out;have k4:=HM.out;exact⟨some ⟨a,0,none⟩,c1,some ⟨g,0,none⟩,c2,by simp only [k1,k2],hl.own M.ge.1 (RowB.lt hl) (by omega) a3,hm.own M.ge.2 (RowB.lt hm) (by omega) b3,λ k hk Q=>af (by simp [Value.ownBlock] at hk Q;omega),hb⟩
end Bd7S
namespace Bd8
open Go.ChangeShapes Go.WideShapes Go.ChangeAt Go.RowKit Base Ints Own RelG PlP
def en1 (v:Value):List Value:=[v]
theorem en1_len (v:Value):(en1 v).length=1:=rfl
theorem flat1 (rs:List Value):rs.flatMap en1=rs:=by
 induction rs with
 | nil=>rfl
 | cons x l ih=>rw [List.flatMap_cons,ih];rfl
abbrev RelI:Rel Value (List Int):=relV 1 enI
theorem sl_new {w:World} {g lo:Nat} {e:TypeId} {xs:List Int} (h:RowB w g e (xs.flatMap enI)) (hm:xs.length<=maxLen) (hg:lo<=g):SlV 1 enI w (λ b=>lo<=b) (.slice (some ⟨g,0,none⟩) xs.length xs.length) xs :=
 (OwnV.of (RowB.own (lo:=lo) (hi:=w.heap.size) h enI_len hg h.lt hm) (Nat.le_refl _) (λ b hb _=>hb)).sl enI_len
theorem slg_new {α:Type} {K:Rel Value α} {w:World} {g n lo:Nat} {e:TypeId} {rs:List Value} {xs:List α} (h:RowB w g e rs) (hl:LsR K w (λ b=>lo<=b) rs xs) (hn:xs.length=n) (hm:n<=maxLen) (hg:lo<=g):SlG K 1 en1 w (λ b=>lo<=b) (.slice (some ⟨g,0,none⟩) n n) xs:=by
 have l:=hl.1;have f:OwnS w lo w.heap.size e 1 en1 (.slice (some ⟨g,0,none⟩) rs.length rs.length) rs:=RowB.own (by rw [flat1];exact h) en1_len hg h.lt (by omega);have d:=(OwnV.of f (Nat.le_refl _) (S:=λ b=>lo<=b) (λ b i _=>i)).sl en1_len;obtain⟨A,c,a,k,j⟩:=d;simp only [Value.slice.injEq] at a;obtain⟨rfl,-,rfl⟩:=a;exact⟨_,_,rs,by rw [l,hn],k,hl,j⟩
def OrdersR (xs:List (List Int)) (w:World) (e:Ending) (w':World):Prop :=
 ∃ vv,e=.returned vv∧SlG RelI 1 en1 w' (λ b=>w.heap.size<=b) vv xs∧Below w.heap.size w w'
theorem orders_s (a b:Int) (w:World):Calls Tryz.prog 107 #[.agg #[.int .i64 a,.int .i64 b]] w λ e w'=>OrdersR (ordP a b) w e w':=by
 by_cases h:a=b
 ·have i:Hid (ordP a b=[[a,a,a,a]]):=kD (by unfold ordP;rw [if_pos h]);have k:(a == b)=true:=by simp [h]
  clear h;go_enter Tryz.func107,Tryz.ntmps107;go_wp2_with fail;refine bp_gen (λ c=>Below w.heap.size w c∧RowB c (w.heap.size+1) 2 [.int .i64 a,.int .i64 a,.int .i64 a,.int .i64 a]∧RowB c (w.heap.size+2) 49 [.slice (some ⟨w.heap.size+1,0,none⟩) 4 4]) ⟨by go_grown,RowB.alloc (RowB.new' _ _ _ (by first | simp | go_size | rfl)) _,RowB.new' _ _ _ (by first | simp | go_size | rfl)⟩ ?_;rintro c ⟨d,g,f⟩;go_ret;refine⟨_,rfl,?_,d⟩;rw [i.out];exact slg_new f (LsR.snoc (LsR.nil _ _ _) (sl_new (xs:=[a,a,a,a]) g (show (4:Nat)<=maxLen by decide) (by omega))) rfl (by decide) (by omega)
 ·have i:Hid (ordP a b=[[a,b],[b,a]]):=kD (by unfold ordP;rw [if_neg h]);have k:(a == b)=false:=by simp [h]
  clear h;go_enter Tryz.func107,Tryz.ntmps107;go_wp2_with fail;refine bp_gen (λ c=>Below w.heap.size w c∧RowB c (w.heap.size+1) 2 [.int .i64 a,.int .i64 b]∧RowB c (w.heap.size+2) 2 [.int .i64 b,.int .i64 a]∧RowB c (w.heap.size+3) 49 [.slice (some ⟨w.heap.size+1,0,none⟩) 2 2,.slice (some ⟨w.heap.size+2,0,none⟩) 2 2]) ⟨by go_grown,RowB.alloc (RowB.alloc (RowB.new' _ _ _ (by first | simp | go_size | rfl)) _) _,RowB.alloc (RowB.new' _ _ _ (by first | simp | go_size | rfl)) _,RowB.new' _ _ _ (by first | simp | go_size | rfl)⟩ ?_;rintro c ⟨d,g,f,j⟩;go_ret;refine⟨_,rfl,?_,d⟩;rw [i.out];exact slg_new j (LsR.snoc (LsR.snoc (LsR.nil _ _ _) (sl_new (xs:=[a,b]) g (show (2:Nat)<=maxLen by decide) (by omega))) (sl_new (xs:=[b,a]) f (show (2:Nat)<=maxLen by decide) (by omega))) rfl (by decide) (by omega)
end Bd8
namespace Gm
open Go Go.ChangeShapes Go.WideShapes Go.ChangeAt Go.RowKit Base Ints Own Clone RelG PlP Bd1 Bd2 Bd4 Bd5 Bd6 Bd7 Bd8 RegInv RegF RegG
structure B3 (w wr:World) (v:Vr) (u1 u2:Value) (s:Stp):Prop where
 bel:Below w.heap.size w wr
 rv:RowB wr w.heap.size 25 (vL v)
 rb:RowB wr (w.heap.size+1) 51 [u1,u2]
 rs:RowB wr (w.heap.size+2) 111 [.int .i64 s.1,.int .i64 s.2.1,.int .i64 s.2.2.1,.bool s.2.2.2]
theorem B3.below {w wr w':World} {v:Vr} {u1 u2:Value} {s:Stp} (k:B3 w wr v u1 u2 s) (hb:Below wr.heap.size wr w'):B3 w w' v u1 u2 s :=
 ⟨k.bel.trans (hb.mono k.bel.size),k.rv.below hb k.rv.lt,k.rb.below hb k.rb.lt,k.rs.below hb k.rs.lt⟩
theorem legal_s (v:Vr) (b:Bd) (hb:Ok v b) (S:Nat->Prop) (u1 u2:Value) (s:Stp) (w:World) (hR:BdR w S u1 u2 b) (x:Bool) (hx:legal1 v b s=x) :
  Calls Tryz.prog 201 #[.agg #[.int .i64 v.p,.int .i64 v.c,.int .i64 v.h,.int .i64 v.s],.agg #[u1,u2],.agg #[.int .i64 s.1,.int .i64 s.2.1,.int .i64 s.2.2.1,.bool s.2.2.2]] w λ e w'=>e=.returned (.bool x)∧Below w.heap.size w w':=by
 obtain⟨⟨P,L,rfl,W,_⟩,⟨O,J,rfl,V,_⟩⟩:=hR;obtain⟨f,t,d,h⟩:=s;simp only;obtain⟨a,H⟩:∃ a,decide (1<=d∧d<=v.s)=a:=⟨_,rfl⟩;obtain⟨c,G⟩:∃ a,decide (0<=f∧f<=v.p)=a:=⟨_,rfl⟩;have r:x=(a && c && (!over b && decide (stepP v b f d=some (f,t,d,h)))):=by
  rw [<-hx,<-H,<-G];unfold legal1;simp only;cases over b <;> simp
 have CA:=kD (λ m=>in_s d 1 v.s a H m);have CC:=kD (λ m=>in_s f 0 v.p c G m);have HA:=kD H;have HC:=kD G;have z:=kD r;have j:=kD (λ(l:Nat) (E:(l:Int)<=v.p) (F:1<=d∧d<=6) (m:World) (Z:Below w.heap.size w m)=>Bd4.step_s v b hb P O L J m.heap.size l d E F m (Nat.le_refl _) (W.keep (.below Z)).rd (V.keep (.below Z)).rd);obtain⟨Y,q⟩:∃ n,b.1.length=n:=⟨_,rfl⟩;obtain⟨X,o⟩:∃ n,b.2.length=n:=⟨_,rfl⟩;rw [q,o] at j;rw [q,o];have y:=hb.v1.2.2.2.2;have N:=kD y;clear r hx H G q o W V hb y;go_enter Tryz.func201,Tryz.ntmps201;go_upto_region 1 with fail;refine wp_gen (λ I=>B3 w I v (.slice P Y L) (.slice O X J) (f,t,d,h)) ⟨by go_grown,((RowB.new _ _ _).alloc _).alloc _,(RowB.new' _ _ _ (by simp)).alloc _,RowB.new' _ _ _ (by simp)⟩ ?_;intro w1 K;obtain⟨q0,q1,q2,q3⟩:=K.rv.c4;obtain⟨R,Q⟩:=K.rb.c2;obtain⟨D,C,B,A⟩:=K.rs.c4;go_wp2_with fail;refine(CA.out _).mono ?_;rintro e w2 ⟨rfl,rfl⟩
 cases a
 case false =>
  obtain rfl:x=false:=by rw [z.out];rfl
  go_wp2_with fail;go_ret;exact⟨rfl,K.bel⟩
 go_wp2_with fail;refine(CC.out _).mono ?_;rintro e w2 ⟨rfl,rfl⟩
 cases c
 case false =>
  obtain rfl:x=false:=by rw [z.out];rfl
  go_wp2_with fail;go_ret;exact⟨rfl,K.bel⟩
 have E:=of_decide_eq_true HC.out;have F:=of_decide_eq_true HA.out;obtain⟨l,rfl⟩:∃ l:Nat,f=l:=⟨f.toNat,by omega⟩;have j:=kD (j.out l E.2 ⟨F.1,by have:=N.out;omega⟩);clear E F;go_wp2_with fail;refine(j.out _ K.bel).mono ?_;rintro e w3 ⟨⟨f2,T,d2,h2⟩,ok,rfl,k,hb⟩;have K:=K.below hb;have i:=kD k;clear q0 q1 q2 q3 R Q D C B A k hb;obtain⟨D,C,B,A⟩:=K.rs.c4
 cases ok
 case false =>
  obtain rfl:x=false:=by
   rw [z.out];have g:=i.out;unfold opt at g
   cases ho:over b with
   | true=>simp
   | false=>rw [ho] at g;simp at g;rw [<-g];simp
  go_wp2_with fail;go_ret;exact⟨rfl,K.bel.alloc K.bel.size _⟩
 go_upto_region 4 with fail;refine wp_gen (λ I=>B3 w I v (.slice P Y L) (.slice O X J) ((l:Int),t,d,h)∧RowB I w3.heap.size 111 [.int .i64 f2,.int .i64 T,.int .i64 d2,.bool h2]) ⟨K.below ((Below.refl _ _).alloc (Nat.le_refl _) _),RowB.new _ _ _⟩ ?_;have M:Hid (x=decide ((f2,T,d2,h2)=((l:Int),t,d,h))):=by
  show _=_
  rw [z.out];have g:=i.out;unfold opt at g
  cases ho:over b with
  | true=>rw [ho] at g;simp at g
  | false =>
   rw [ho] at g;simp only [Bool.false_eq_true,if_false,if_true] at g;rw [<-g];simp
 clear z i;clear K D C B A;rintro w4 ⟨K,r4⟩;obtain⟨D,C,B,A⟩:=K.rs.c4;obtain⟨R,Q,y2,y3⟩:=r4.c4;go_wp2_with fail
 all_goals (go_ret;refine⟨?_,K.bel⟩;rw [M.out];simp [*])
end Gm
end Go.Proofs.YtjdefiinmicjiaaGreatDoor
