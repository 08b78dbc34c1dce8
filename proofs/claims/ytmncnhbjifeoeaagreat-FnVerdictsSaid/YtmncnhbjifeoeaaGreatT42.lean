/- Parts of the proof of FnVerdicts. Conditions: each theorem's own. -/
import Derived.Test.YtmncnhbjifeoeaaGreatT41
set_option linter.unusedVariables false
set_option linter.unusedSimpArgs false
set_option maxHeartbeats 8000000
set_option maxRecDepth 100000
namespace Go.Proofs.YtmncnhbjifeoeaaGreat
namespace VeA
open Go Go.ChangeShapes Go.WideShapes Go.ChangeAt Go.RowKit Base Ints Own RelG PlP Gm RegInv RegF RegG Bd1 Bd5 VdP
theorem bigF (n cp:Nat) (A:Option Addr) (b:Bool) (hb:decide ((4096:Int)<(n:Int))=b) (w:World) (hn:n<=maxLen):Calls Tryz.prog 6 #[.slice A n cp] w λ e w'=>e=.returned (.bool b)∧w=w':=by
 subst hb;unfold maxLen at hn;go_enter Tryz.func6,Tryz.ntmps6;go_wp2;go_ret;exact⟨rfl,rfl⟩
theorem mstate_i (v:Vr) (n:Int) (es:List Ev) (Ae:Option Addr) (ce:Nat) (x:Ms) (w:World) (hes:EvL w All Ae es) (hX:finS v n es=some x) :
  Calls Tryz.prog 17 #[.agg #[.int .i64 v.p,.int .i64 v.c,.int .i64 v.h,.int .i64 v.s,.int .i64 n,.slice Ae es.length ce]] w λ e w'=>∃ A0 c0 A1 c1 A2 c2,e=.returned (.tuple #[.agg ⟨msC (.slice A0 2 c0) (.slice A1 x.g.b.1.length c1) (.slice A2 x.g.b.2.length c2) x⟩,.int .i64 0])∧MsR w' (λ b=>w.heap.size<=b) (.slice A0 2 c0) (.slice A1 x.g.b.1.length c1) (.slice A2 x.g.b.2.length c2) x∧Below w.heap.size w w':=by
 obtain⟨xs,E,d,i⟩:=fin_last hX;have CI:=kD (λ(w9:World) (h9:Below w.heap.size w w9)=>states_i v n es Ae ce w9 (hes.keep (.below h9)) (some xs) E);have Z:=hes.len;obtain⟨M,hM⟩:∃ M,es.length=M:=⟨_,rfl⟩;rw [hM] at CI d Z i ⊢;have L:=kD d;have J:=(List.getElem?_eq_some_iff.1 d).1;clear hes hX E d hM;go_enter Tryz.func17,Tryz.ntmps17;go_upto_region 1 with fail;refine wp_gen (λ W'=>Gm.Rows w W' [(0,48,[.int .i64 v.p,.int .i64 v.c,.int .i64 v.h,.int .i64 v.s,.int .i64 n,.slice Ae M ce]),(1,59,nulMC)]) ⟨by go_grown,λ p hp=>?_⟩ ?_
 ·simp only [List.mem_cons,List.not_mem_nil,or_false] at hp;rcases hp with rfl | rfl
  ·exact(RowB.new _ _ _).alloc _
  ·exact RowB.new' _ _ _ (by simp)
 intro w1 K;have V:=K.nth0 0 rfl;obtain⟨q0,q1,q2,q3,q4,q5⟩:=V.c6;have W:=V.lt;have ac:=(K.nth 1 rfl).lt;go_wp2_with fail;refine(CI.out w1 K.bel).mono ?_;rintro e w2 ⟨A,m,c,rfl,G,C⟩;have K:=K.below C;clear CI q0 q1 q2 q3 q4 q5 W V;obtain⟨N,y,t⟩:=G xs rfl;have hrl:M<N.length:=by rw [t.1];exact J
 obtain⟨r,q⟩:∃ r,N[M]?=some r:=⟨N[M]'hrl,List.getElem?_eq_getElem _⟩;obtain⟨su,u1,u2,x2⟩:=r;obtain⟨x3,F,Y⟩:=t.at_ q;obtain⟨o,f⟩:=Y;simp only at o f;have D:=Option.some.inj (F.symm.trans L.out);rw [D] at o f;rw [o] at q;clear o F D;obtain⟨g,c',z,I,l⟩:=own_row enMs_len y q;obtain⟨⟨A0,c0,rfl,-,-⟩,⟨A1,c1,rfl,-,-⟩,⟨A2,c2,rfl,-,-⟩⟩:=id f;have H:N.length=M+1:=by rw [t.1,i]
 rw [H] at z;simp only [Value.slice.injEq] at z;obtain⟨rfl,rfl,rfl⟩:=z;have ad:=I.2;have a:∀ j u,(enMs (.slice A0 2 c0,.slice A1 x.g.b.1.length c1,.slice A2 x.g.b.2.length c2,x))[j]?=some u->w2.cell? ⟨g,M*12+j,none⟩=some u:=l;have y0:=a 0 _ rfl;have y1:=a 1 _ rfl;have y2:=a 2 _ rfl;have y3:=a 3 _ rfl;have y4:=a 4 _ rfl;have y5:=a 5 _ rfl;have y6:=a 6 _ rfl;have y7:=a 7 _ rfl;have y8:=a 8 _ rfl;have y9:=a 9 _ rfl;have S:=a 10 _ rfl;have R:=a 11 _ rfl;rw [Nat.add_zero] at y0;have ag:IntKind.i64.wrap (((M+1:Nat):Int) - 1)=(M:Int):=by rw [IntWalk.i64_in _ (by omega)];omega
 have af:(M:Int)<((M+1:Nat):Int):=by omega
 have ab:=kD (f.weak (S':=λ b=>w.heap.size<=b∧b≠w.heap.size+1) (λ b C _=>by have:=C.2;omega));have rr:=K.nth 1 rfl;have HK:=kD K;clear G y t q f l a i H I L K J hrl C;go_wp2_with (refine wM 59 0 (msC (.slice A0 2 c0) (.slice A1 x.g.b.1.length c1) (.slice A2 x.g.b.2.length c2) x) rr ?_;intro w7 T B z7;refine Hid.out ?_);have X:=(HK.out.grown 1 T B).bel;have aa:=ab.out.keep (Still.grown B (λ k hk hs=>by simp at hk;omega));obtain⟨z0,z1,z2,z3,z4,z5,z6,O,z8,z9,Q,P⟩:=row12 T;have ae:=T.lt;clear B rr HK y0 y1 y2 y3 y4 y5 y6 y7 y8 y9 S R;refine kD ?_
 repeat (first | go_values | go_skip | go_step | go_upon)
 refine bodyPost_ret (v:=.tuple #[.agg ⟨msC (.slice A0 2 c0) (.slice A1 x.g.b.1.length c1) (.slice A2 x.g.b.2.length c2) x⟩,.int .i64 0]) (by simp [results,Tryz.results17,go_sem,msC,z0,z1,z2,z3,z4,z5,z6,O,z8,z9,Q,P]) rfl ?_;exact⟨A0,c0,A1,c1,A2,c2,rfl,aa.weak (λ b C _=>C.1),X⟩
def Cur (p q:Prop) (v0 v3:Value) (l:List Int) (u:Value) (x:List Int):Prop:=(p∧¬ q∧u=v0∧x=[])∨(q∧u=v3∧x=l)
theorem Cur.ne {u:Value} {l x:List Int} {j i k:Nat} {L:Nat->Prop} {vals:Nat->Value} {y:Value} (hj:j≠k) (hi:i≠k) (h:Cur (j=k∨L j) (i=k∨L i) (upd vals k y j) (upd vals k y i) l u x):Cur (L j) (L i) (vals j) (vals i) l u x:=by
 rw [or_ne hj,or_ne hi,upd_ne hj,upd_ne hi] at h;exact h
structure ObF (w w1:World) (l1 l2:List Int) (L:Nat->Prop) (vals:Nat->Value) (w':World):Prop where
 bel:¬ L 9->Below w1.heap.size w1 w'
 o1:∀ u x,Cur (L 0) (L 3) (vals 0) (vals 3) l1 u x->OwnS w' w1.heap.size w'.heap.size 2 1 enI u x
 o2:∀ u x,Cur (L 4) (L 7) (vals 4) (vals 7) l2 u x->OwnS w' w1.heap.size w'.heap.size 2 1 enI u x
 ap:∀ u x u' x',Cur (L 0) (L 3) (vals 0) (vals 3) l1 u x->Cur (L 4) (L 7) (vals 4) (vals 7) l2 u' x'->Apart u u'
 s0:L 0->∃ g,vals 0=.slice (some ⟨g,0,none⟩) 0 0
 s4:L 4->∃ g,vals 4=.slice (some ⟨g,0,none⟩) 0 0
 b8:L 8->vals 8=.agg #[vals 3,vals 7]
 fin:L 9->RowB w' (w.heap.size+1) 28 [vals 3,vals 7]∧Below w.heap.size w w'
section
variable {w w1 w' w'':World} {l1 l2:List Int} {L:Nat->Prop} {vals:Nat->Value}
theorem ObF.skip (F:ObF w w1 l1 l2 L vals w') (k:Nat) (y:Value) (h:0≠k∧3≠k∧4≠k∧7≠k∧8≠k∧9≠k:=by decide):ObF w w1 l1 l2 (λ j=>j=k∨L j) (upd vals k y) w':=by
 obtain⟨e,d,c,b,g,n⟩:=h;refine⟨λ m=>F.bel (λ h=>m (.inr h)),λ u x a=>F.o1 u x (Cur.ne e d a),λ u x a=>F.o2 u x (Cur.ne c b a),λ u x l i a f=>F.ap u x l i (Cur.ne e d a) (Cur.ne c b f),λ h=>?_,λ h=>?_,λ h=>?_,λ h=>?_⟩
 ·rw [upd_ne e];exact F.s0 (h.resolve_left e)
 ·rw [upd_ne c];exact F.s4 (h.resolve_left c)
 ·rw [upd_ne g,upd_ne d,upd_ne b];exact F.b8 (h.resolve_left g)
 ·rw [upd_ne d,upd_ne b];exact F.fin (h.resolve_left n)
theorem nil_new (W:World) (lo:Nat) (h:lo<=W.heap.size):OwnS (W.alloc (.cells #[] 2)) lo (W.alloc (.cells #[] 2)).heap.size 2 1 enI (.slice (some ⟨W.heap.size,0,none⟩) 0 0) [] :=
 (RowB.new W 2 []).own (xs:=([]:List Int)) (en:=enI) enI_len h (by simp) (by simp)
theorem ObF.box1 (F:ObF w w1 l1 l2 L vals w') (h3:¬ L 3) (h8:¬ L 8) (h9:¬ L 9):ObF w w1 l1 l2 (λ j=>j=0∨L j) (upd vals 0 (.slice (some ⟨w'.heap.size,0,none⟩) 0 0)) (w'.alloc (.cells #[] 2)):=by
 have d:=F.bel h9;refine⟨λ _=>d.alloc d.size _,λ u x a=>?_,λ u x a=>((F.o2 u x (Cur.ne (by decide) (by decide) a)).alloc _).more (by simp),λ u x f e a c=>?_,λ _=>⟨_,upd_same _ _ _⟩,λ h=>?_,λ h=>absurd (rL h) h8,λ h=>absurd (rL h) h9⟩
 ·rcases a with ⟨-,-,rfl,rfl⟩ | ⟨h,-⟩
  ·rw [upd_same];exact nil_new _ _ d.size
  ·exact absurd (rL h) h3
 ·rcases a with ⟨-,-,rfl,rfl⟩ | ⟨h,-⟩
  ·rw [upd_same];intro g i b;have:=((F.o2 f e (Cur.ne (by decide) (by decide) c)).block g b).2;simp [Value.ownBlock] at i;omega
  ·exact absurd (rL h) h3
 ·rw [upd_ne (by decide)];exact F.s4 (rL h)
theorem ObF.box2 (F:ObF w w1 l1 l2 L vals w') (h7:¬ L 7) (h8:¬ L 8) (h9:¬ L 9):ObF w w1 l1 l2 (λ j=>j=4∨L j) (upd vals 4 (.slice (some ⟨w'.heap.size,0,none⟩) 0 0)) (w'.alloc (.cells #[] 2)):=by
 have d:=F.bel h9;refine⟨λ _=>d.alloc d.size _,λ u x a=>((F.o1 u x (Cur.ne (by decide) (by decide) a)).alloc _).more (by simp),λ u x a=>?_,λ u x i f a c=>?_,λ h=>?_,λ _=>⟨_,upd_same _ _ _⟩,λ h=>absurd (rL h) h8,λ h=>absurd (rL h) h9⟩
 ·rcases a with ⟨-,-,rfl,rfl⟩ | ⟨h,-⟩
  ·rw [upd_same];exact nil_new _ _ d.size
  ·exact absurd (rL h) h7
 ·rcases c with ⟨-,-,rfl,rfl⟩ | ⟨h,-⟩
  ·rw [upd_same];intro g e b;have:=((F.o1 u x (Cur.ne (by decide) (by decide) a)).block g e).2;simp [Value.ownBlock] at b;omega
  ·exact absurd (rL h) h7
 ·rw [upd_ne (by decide)];exact F.s0 (rL h)
theorem ObF.app1 (F:ObF w w1 l1 l2 L vals w') (h0:L 0) (h3:¬ L 3) (h8:¬ L 8) (h9:¬ L 9) {v':Value} (ho:OwnS w'' w1.heap.size w''.heap.size 2 1 enI v' l1) (hg:w'.grownBy w'' (vals 0).ownBlock) (hat:∀ g,v'.ownBlock=some g->(vals 0).ownBlock=some g∨g=w'.heap.size):ObF w w1 l1 l2 (λ j=>j=3∨L j) (upd vals 3 v') w'':=by
 have l:=F.bel h9;have a:Cur (L 0) (L 3) (vals 0) (vals 3) l1 (vals 0) []:=.inl ⟨h0,h3,rfl,rfl⟩;have e:=(F.o1 _ _ a).block;refine⟨λ _=>l.grown hg l.size (λ k o=>(e k o).1),λ u x b=>?_,λ u x b=>(OwnS.far (F.o2 u x (Cur.ne (by decide) (by decide) b)) hg (F.ap _ _ _ _ a (Cur.ne (by decide) (by decide) b))).more hg.size,λ u x n m b i=>?_,λ h=>?_,λ h=>?_,λ h=>absurd (rL h) h8,λ h=>absurd (rL h) h9⟩
 ·rcases b with ⟨-,h,-⟩ | ⟨-,rfl,rfl⟩
  ·exact absurd (.inl rfl) h
  ·first | exact ho | (rw [upd_same];exact ho)
 ·rcases b with ⟨-,h,-⟩ | ⟨-,rfl,rfl⟩
  ·exact absurd (.inl rfl) h
  ·try rw [upd_same]
   intro g f c;have d:=Cur.ne (by decide) (by decide) i;rcases hat g f with h | h
   ·exact F.ap _ _ _ _ a d g h c
   ·have:=((F.o2 n m d).block g c).2;omega
 ·rw [upd_ne (by decide)];exact F.s0 (rL h)
 ·rw [upd_ne (by decide)];exact F.s4 (rL h)
theorem ObF.app2 (F:ObF w w1 l1 l2 L vals w') (h4:L 4) (h7:¬ L 7) (h8:¬ L 8) (h9:¬ L 9) {v':Value} (ho:OwnS w'' w1.heap.size w''.heap.size 2 1 enI v' l2) (hg:w'.grownBy w'' (vals 4).ownBlock) (hat:∀ g,v'.ownBlock=some g->(vals 4).ownBlock=some g∨g=w'.heap.size):ObF w w1 l1 l2 (λ j=>j=7∨L j) (upd vals 7 v') w'':=by
 have l:=F.bel h9;have a:Cur (L 4) (L 7) (vals 4) (vals 7) l2 (vals 4) []:=.inl ⟨h4,h7,rfl,rfl⟩;have e:=(F.o2 _ _ a).block;refine⟨λ _=>l.grown hg l.size (λ k m=>(e k m).1),λ u x b=>(OwnS.far (F.o1 u x (Cur.ne (by decide) (by decide) b)) hg (F.ap _ _ _ _ (Cur.ne (by decide) (by decide) b) a).symm).more hg.size,λ u x b=>?_,λ u x o n b i=>?_,λ h=>?_,λ h=>?_,λ h=>absurd (rL h) h8,λ h=>absurd (rL h) h9⟩
 ·rcases b with ⟨-,h,-⟩ | ⟨-,rfl,rfl⟩
  ·exact absurd (.inl rfl) h
  ·first | exact ho | (rw [upd_same];exact ho)
 ·rcases i with ⟨-,h,-⟩ | ⟨-,rfl,rfl⟩
  ·exact absurd (.inl rfl) h
  ·try rw [upd_same]
   intro g c f;have d:=Cur.ne (by decide) (by decide) b;rcases hat g f with h | h
   ·exact F.ap _ _ _ _ d a g c h
   ·have:=((F.o1 u x d).block g c).2;omega
 ·rw [upd_ne (by decide)];exact F.s0 (rL h)
 ·rw [upd_ne (by decide)];exact F.s4 (rL h)
theorem ObF.built (F:ObF w w1 l1 l2 L vals w') (h9:¬ L 9):ObF w w1 l1 l2 (λ j=>j=8∨L j) (upd vals 8 (.agg #[vals 3,vals 7])) w':=by
 refine⟨λ _=>F.bel h9,λ u x a=>F.o1 u x (Cur.ne (by decide) (by decide) a),λ u x a=>F.o2 u x (Cur.ne (by decide) (by decide) a),λ u x d c a b=>F.ap u x d c (Cur.ne (by decide) (by decide) a) (Cur.ne (by decide) (by decide) b),λ h=>?_,λ h=>?_,λ _=>?_,λ h=>absurd (rL h) h9⟩
 ·rw [upd_ne (by decide)];exact F.s0 (rL h)
 ·rw [upd_ne (by decide)];exact F.s4 (rL h)
 ·rw [upd_same,upd_ne (by decide),upd_ne (by decide)]
theorem ObF.wrote (F:ObF w w1 l1 l2 L vals w') (h9:¬ L 9) (hw:Below w.heap.size w w1) (hl:w.heap.size+1<w1.heap.size) (hr:RowB w'' (w.heap.size+1) 28 [vals 3,vals 7]) (hg:w'.grownBy w'' (some (w.heap.size+1))) {y:Value}:ObF w w1 l1 l2 (λ j=>j=9∨L j) (upd vals 9 y) w'':=by
 have e:=F.bel h9;have i:=e.size;refine⟨λ h=>absurd (.inl rfl) h,λ u x b=>?_,λ u x b=>?_,λ u x g f b c=>F.ap u x g f (Cur.ne (by decide) (by decide) b) (Cur.ne (by decide) (by decide) c),λ h=>?_,λ h=>?_,λ h=>?_,λ _=>?_⟩
 ·have d:=F.o1 u x (Cur.ne (by decide) (by decide) b);exact(d.grown hg (λ k a=>by simp at a;omega)).more hg.size
 ·have d:=F.o2 u x (Cur.ne (by decide) (by decide) b);exact(d.grown hg (λ k a=>by simp at a;omega)).more hg.size
 ·rw [upd_ne (by decide)];exact F.s0 (rL h)
 ·rw [upd_ne (by decide)];exact F.s4 (rL h)
 ·rw [upd_ne (by decide),upd_ne (by decide),upd_ne (by decide)];exact F.b8 (rL h)
 ·rw [upd_ne (by decide),upd_ne (by decide)];exact⟨hr,(hw.trans (e.mono hw.size)).grown hg (by have:=hw.size;omega) (λ k a=>by simp at a;omega)⟩
end
theorem infoI64:(Tryz.prog.info? 2).map (λ i=>(i.zero,i.size,i.bytes))=some (some (.int .i64 0),1,8):=by kernel_rfl
theorem ownb (b:Bd) (S:Nat->Prop) (u1 u2:Value) (w:World) (hR:BdR w S u1 u2 b) (hl1:b.1.length<=1000) (hl2:b.2.length<=1000) :
  Calls Tryz.prog 20 #[.agg #[u1,u2]] w λ e w'=>∃ A1 c1 A2 c2,e=.returned (.agg #[.slice A1 b.1.length c1,.slice A2 b.2.length c2])∧BdR w' (λ q=>w.heap.size<=q) (.slice A1 b.1.length c1) (.slice A2 b.2.length c2) b∧Below w.heap.size w w':=by
 obtain⟨i1,T,P,O,N⟩:=info_parts infoI64;obtain⟨⟨A1,c1,rfl,r1,k1⟩,⟨A2,c2,rfl,r2,k2⟩⟩:=hR;have ag:=kD (λ(g:World) (h9:Below w.heap.size w g)=>(r1.keep (.below h9)).rd);have af:=kD (λ(g:World) (h9:Below w.heap.size w g)=>(r2.keep (.below h9)).rd);obtain⟨n1,J⟩:∃ n,b.1.length=n:=⟨_,rfl⟩;obtain⟨n2,I⟩:∃ n,b.2.length=n:=⟨_,rfl⟩;have aa:=kD J;have Z:=kD I;rw [J] at hl1 ⊢;rw [I] at hl2 ⊢;clear r1 r2 k1 k2 J I;go_enter Tryz.func20,Tryz.ntmps20;go_upto_region 1 with fail;refine wp_gen (λ W'=>Gm.Rows w W' [(0,28,[.slice A1 n1 c1,.slice A2 n2 c2]),(1,28,[.slice none 0 0,.slice none 0 0])]) ⟨by go_grown,λ p hp=>?_⟩ ?_
 ·simp only [List.mem_cons,List.not_mem_nil,or_false] at hp;rcases hp with rfl | rfl
  ·exact(RowB.new _ _ _).alloc _
  ·exact RowB.new' _ _ _ (by simp)
 intro w1 K;have s:=kD K;have R:=(K.nth 1 rfl).lt;clear K;refine region_rel [some 3,some 4,some 5,some 6,some 7,some 8,some 9,some 10,some 11,none] 10 (Pl [none,some (.pointer (some ⟨w.heap.size,0,none⟩)),some (.slice A1 n1 c1),none,none,some (.pointer (some ⟨w.heap.size,1,none⟩)),some (.slice A2 n2 c2),none,none,none]) (λ L f w'=>ObF w w1 b.1 b.2 L f w') (by kernel_rfl) (by kernel_rfl) (by kernel_rfl) (by kernel_rfl) (by kernel_rfl) (by kernel_rfl) (by first | kernel_rfl | rfl) ?g0_1 ?gst_1 ?gfin_1
 case g0_1=>exact⟨λ _=>(Below.refl _ _).drew,λ u x h=>h.elim (λ h=>absurd h.1 (by decide)) (λ h=>absurd h.1 (by decide)),λ u x h=>h.elim (λ h=>absurd h.1 (by decide)) (λ h=>absurd h.1 (by decide)),λ u x u' x' h _=>h.elim (λ h=>absurd h.1 (by decide)) (λ h=>absurd h.1 (by decide)),λ h=>absurd h (by decide),λ h=>absurd h (by decide),λ h=>absurd h (by decide),λ h=>absurd h (by decide)⟩
 case gst_1 =>
  refine rN rfl (λ L f A g a d c U F K i=>?_) ?_
  ·go_simp;exact i.out _ _ (Pl.any rfl) (F.box1 (λ h=>a (c 3 0 (by kernel_rfl) h)) (λ h=>a (c 8 0 (by kernel_rfl) h)) (λ h=>a (c 9 0 (by kernel_rfl) h)))
  refine rN rfl (λ L f A g a d c U F K i=>?_) ?_
  ·have e1:=U.w 1 (.pointer (some ⟨w.heap.size,0,none⟩));have o:=(s.out.nth0 0 rfl).below (F.bel (λ h=>a (c 9 1 (by kernel_rfl) h))) (by omega);obtain⟨q0,t⟩:=o.c2;have M:=o.lt;clear o;go_simp;exact pF i (F.skip 1 _)
  refine rN rfl (λ L f A g a d c U F K i=>?_) ?_
  ·have e4:=U.v 1 4;have o:=(s.out.nth0 0 rfl).below (F.bel (λ h=>a (c 9 2 (by kernel_rfl) h))) (by omega);obtain⟨q0,t⟩:=o.c2;have M:=o.lt;clear o;go_simp;exact pF i (F.skip 2 _)
  refine rN rfl (λ L f A g a d c U F K i=>?_) ?_
  ·have e3:=U.x 0 3;have e5:=U.v 2 5;have B:=F.bel (λ h=>a (c 9 3 (by kernel_rfl) h));have Q:=F.s0 (bK d 0);refine Q.elim λ gq Q=>?_
   have ho:=F.o1 _ _ (.inl ⟨d 0 (by kernel_rfl),a,rfl,rfl⟩);have H:=ag.out g (s.out.bel.trans (B.mono s.out.bel.size));refine wp_app _ _ _ rfl w1.heap.size g.heap.size 2 i1 (.int .i64 0) 1 8 Tryz.underlying26 T P O N rfl (by decide) enI_len _ [] b.1 (λ x _=>one_I x) (ev e3) ho A1 n1 c1 _ (ev e5) aa.out.symm H (by unfold maxLen;simp;omega) (by simp;omega) B.size (Nat.le_refl _) ?_;intro v' G k z r;rw [List.nil_append] at k;exact i.out v' G (Pl.any rfl) (F.app1 (bK d 0) a (λ h=>a (c 8 3 (by kernel_rfl) h)) (λ h=>a (c 9 3 (by kernel_rfl) h)) k z r)
  refine rN rfl (λ L f A g a d c U F K i=>?_) ?_
  ·go_simp;exact i.out _ _ (Pl.any rfl) (F.box2 (λ h=>a (c 7 4 (by kernel_rfl) h)) (λ h=>a (c 8 4 (by kernel_rfl) h)) (λ h=>a (c 9 4 (by kernel_rfl) h)))
  refine rN rfl (λ L f A g a d c U F K i=>?_) ?_
  ·have e1:=U.w 1 (.pointer (some ⟨w.heap.size,0,none⟩));have o:=(s.out.nth0 0 rfl).below (F.bel (λ h=>a (c 9 5 (by kernel_rfl) h))) (by omega);obtain⟨q0,t⟩:=o.c2;have M:=o.lt;clear o;go_simp;exact pF i (F.skip 5 _)
  refine rN rfl (λ L f A g a d c U F K i=>?_) ?_
  ·have e8:=U.v 5 8;have o:=(s.out.nth0 0 rfl).below (F.bel (λ h=>a (c 9 6 (by kernel_rfl) h))) (by omega);obtain⟨q0,t⟩:=o.c2;have M:=o.lt;clear o;go_simp;exact pF i (F.skip 6 _)
  refine rN rfl (λ L f A g a d c U F K i=>?_) ?_
  ·have e7:=U.x 4 7;have e9:=U.v 6 9;have B:=F.bel (λ h=>a (c 9 7 (by kernel_rfl) h));have Q:=F.s4 (bK d 4);refine Q.elim λ gq Q=>?_
   have ho:=F.o2 _ _ (.inl ⟨d 4 (by kernel_rfl),a,rfl,rfl⟩);have H:=af.out g (s.out.bel.trans (B.mono s.out.bel.size));refine wp_app _ _ _ rfl w1.heap.size g.heap.size 2 i1 (.int .i64 0) 1 8 Tryz.underlying26 T P O N rfl (by decide) enI_len _ [] b.2 (λ x _=>one_I x) (ev e7) ho A2 n2 c2 _ (ev e9) Z.out.symm H (by unfold maxLen;simp;omega) (by simp;omega) B.size (Nat.le_refl _) ?_;intro v' G k z r;rw [List.nil_append] at k;exact i.out v' G (Pl.any rfl) (F.app2 (bK d 4) a (λ h=>a (c 8 7 (by kernel_rfl) h)) (λ h=>a (c 9 7 (by kernel_rfl) h)) k z r)
  refine rN rfl (λ L f A g a d c U F K i=>?_) ?_
  ·have e6:=U.x 3 6;have W:=U.x 7 10;have l:=F.o1 _ _ (.inr ⟨d 3 (by kernel_rfl),rfl,rfl⟩);have j:=F.o2 _ _ (.inr ⟨d 7 (by kernel_rfl),rfl,rfl⟩);refine(l.form enI_len).elim λ X1 q=>?_
   refine q.elim λ Y t=>?_
   refine(j.form enI_len).elim λ X2 q=>?_
   refine q.elim λ X E=>?_
   have aj:=e6.trans t.1;have ah:=W.trans E.1;have ac:=t.1;have ab:=E.1;clear l j t E q e6 W;go_simp;exact i.out _ g (Pl.any rfl) (by have h:=F.built (λ h=>a (c 9 8 (by kernel_rfl) h));rw [ac,ab] at h;exact h)
  refine rN rfl (λ L f A g a d c U F K i=>?_) ?_
  ·have e2:=U.w 2 (.pointer (some ⟨w.heap.size+1,0,none⟩));have ae:=U.x 8 11;have l:=F.o1 _ _ (.inr ⟨d 3 (by kernel_rfl),rfl,rfl⟩);have j:=F.o2 _ _ (.inr ⟨d 7 (by kernel_rfl),rfl,rfl⟩);refine(l.form enI_len).elim λ X1 q=>?_
   refine q.elim λ Y t=>?_
   refine(j.form enI_len).elim λ X2 q=>?_
   refine q.elim λ X E=>?_
   have h8:=F.b8 (bK d 8);rw [t.1,E.1] at h8;have rr:=(s.out.nth 1 rfl).below (F.bel a) R;refine wp_sm 28 _ _ rfl (w.heap.size+1) 0 [.slice X1 b.1.length Y,.slice X2 b.2.length X] _ (ev e2) (ev (ae.trans h8)) 28 rr (by kernel_rfl) (Nat.le_refl _) rfl ?_;exact i.out undef _ (Pl.any rfl) (F.wrote a s.out.bel R (by rw [t.1,E.1];exact row_cells _ _ _ _ rr) (grown_cells _ _ _ _))
  exact RelFrom.nil (by decide)
 intro f g hp F;simp only [Fr,Act.put,sX,Nat.reduceAdd];have m:=F.fin trivial;have l:=F.o1 _ _ (.inr ⟨trivial,rfl,rfl⟩);have j:=F.o2 _ _ (.inr ⟨trivial,rfl,rfl⟩);obtain⟨B1,Y,e1,t,-⟩:=(OwnV.of l (Nat.le_refl _) (S:=λ q=>w.heap.size<=q) (λ b hb _=>by have:=s.out.bel.size;omega)).sl enI_len;obtain⟨B2,X,e2,E,-⟩:=(OwnV.of j (Nat.le_refl _) (S:=λ q=>w.heap.size<=q) (λ b hb _=>by have:=s.out.bel.size;omega)).sl enI_len;have D:=(OwnV.of l (Nat.le_refl _) (S:=λ q=>w.heap.size<=q) (λ b hb _=>by have:=s.out.bel.size;omega)).sl enI_len;have C:=(OwnV.of j (Nat.le_refl _) (S:=λ q=>w.heap.size<=q) (λ b hb _=>by have:=s.out.bel.size;omega)).sl enI_len;rw [e1] at D m;rw [e2] at C m;rw [aa.out] at D m;rw [Z.out] at C m;have V:=kD (And.intro D C);obtain⟨y,ad⟩:=m;obtain⟨z0,z1⟩:=y.c2;have ai:=y.lt;clear F hp l j e1 e2 t E D C y s
 repeat (first | go_values | go_skip | go_step | go_upon)
 refine bodyPost_ret (v:=.agg #[.slice B1 n1 Y,.slice B2 n2 X]) (by simp [results,Tryz.results20,go_sem,z0,z1]) rfl ?_;exact⟨B1,Y,B2,X,rfl,⟨by have:=V.out.1;exact this,by have:=V.out.2;exact this⟩,ad⟩
end VeA
end Go.Proofs.YtmncnhbjifeoeaaGreat
