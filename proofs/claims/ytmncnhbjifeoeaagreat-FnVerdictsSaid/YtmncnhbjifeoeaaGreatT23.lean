/- Parts of the proof of FnVerdicts. Conditions: each theorem's own. -/
import Derived.Test.YtmncnhbjifeoeaaGreatT22
set_option linter.unusedVariables false
set_option linter.unusedSimpArgs false
set_option maxHeartbeats 8000000
set_option maxRecDepth 100000
namespace Go.Proofs.YtmncnhbjifeoeaaGreat
namespace Gm
open Go Go.ChangeShapes Go.WideShapes Go.ChangeAt Go.RowKit Base Ints Own Clone RelG PlP Bd1 Bd2 Bd5 Bd6 Bd7 Bd8 RegInv RegF RegG
structure Rows (w wr:World) (L:List (Nat × TypeId × List Value)):Prop where
 bel:Below w.heap.size w wr
 at_:∀ p ∈ L,RowB wr (w.heap.size+p.1) p.2.1 p.2.2
section
variable {w wr w':World} {L:List (Nat × TypeId × List Value)}
theorem Rows.below (k:Rows w wr L) (hb:Below wr.heap.size wr w'):Rows w w' L :=
 ⟨k.bel.trans (hb.mono k.bel.size),λ p hp=>(k.at_ p hp).below hb (k.at_ p hp).lt⟩
theorem Rows.nth (k:Rows w wr L) (i:Nat) {o:Nat} {t:TypeId} {cs:List Value} (h:L[i]?=some (o,t,cs)):RowB wr (w.heap.size+o) t cs:=k.at_ _ (List.mem_of_getElem? h)
theorem Rows.nth0 (k:Rows w wr L) (i:Nat) {t:TypeId} {cs:List Value} (h:L[i]?=some (0,t,cs)):RowB wr w.heap.size t cs:=k.at_ _ (List.mem_of_getElem? h)
theorem Rows.grown (k:Rows w wr L) (o:Nat) {t:TypeId} {new:List Value} (h:RowB w' (w.heap.size+o) t new) (hg:wr.grownBy w' (some (w.heap.size+o))):Rows w w' (L.map λ p=>if p.1=o then (o,t,new) else p):=by
 refine⟨⟨hg.os.trans k.bel.os,hg.tape.trans k.bel.tape,hg.output.trans k.bel.output,Nat.le_trans k.bel.size hg.size,λ i a=>(hg.block i (Nat.lt_of_lt_of_le a k.bel.size) (λ e=>by simp at e;omega)).trans (k.bel.block i a)⟩,λ p d=>?_⟩;obtain⟨q,c,rfl⟩:=List.mem_map.1 d;by_cases e:q.1=o
 ·rw [if_pos e];exact h
 ·rw [if_neg e];have r:=k.at_ q c;exact(hg.block _ r.lt (λ b=>by simp at b;exact e b)).trans r
theorem Rows.set1 (k:Rows w wr L) (o j:Nat) (v:Value):Rows w (wr.setCell ⟨w.heap.size+o,j,none⟩ v) (L.map λ p=>if p.1=o then (p.1,p.2.1,p.2.2.set j v) else p):=by
 have a:=Base.grownBy_setCell wr (w.heap.size+o) j v;refine⟨⟨a.os.trans k.bel.os,a.tape.trans k.bel.tape,a.output.trans k.bel.output,Nat.le_trans k.bel.size a.size,λ i b=>(a.block i (Nat.lt_of_lt_of_le b k.bel.size) (λ e=>by simp at e;omega)).trans (k.bel.block i b)⟩,λ p f=>?_⟩;obtain⟨q,d,rfl⟩:=List.mem_map.1 f;have r:=k.at_ q d;by_cases e:q.1=o
 ·rw [if_pos e];have:=r.set j v;rw [<-e];exact this
 ·rw [if_neg e];exact(a.block _ r.lt (λ c=>by simp at c;exact e c)).trans r
end
theorem BdR.grown {w w':World} {S:Nat->Prop} {u1 u2:Value} {b:Bd} {row:Option Nat} (h:BdR w S u1 u2 b) (hg:w.grownBy w' row) (hr:∀ g,row=some g->¬ S g):BdR w' S u1 u2 b:=h.keep (Still.grown hg hr)
theorem pair_s (a b:Int) (w:World):Calls Tryz.prog 98 #[.int .i64 a,.int .i64 b] w λ e w'=>e=.returned (.agg #[.int .i64 (max a b),.int .i64 (min a b)])∧Below w.heap.size w w':=by
 go_enter Tryz.func98,Tryz.ntmps98;go_wp2_with fail
 all_goals go_returns
 all_goals (refine⟨?_,by go_grown⟩;first | rfl | ((have c:a=b:=(by omega));subst c;simp) | (rw [show max a b=b by omega,show min a b=a by omega]) | (rw [show max a b=a by omega,show min a b=b by omega]))
theorem pair_i (a b:Int) (w:World):Calls Tryz.prog 180 #[.int .i64 a,.int .i64 b] w λ e w'=>e=.returned (.agg #[.int .i64 (max a b),.int .i64 (min a b)])∧Below w.heap.size w w':=by
 go_enter Tryz.func180,Tryz.ntmps180;go_wp2_with fail
 all_goals go_returns
 all_goals (refine⟨?_,by go_grown⟩;first | rfl | ((have c:a=b:=(by omega));subst c;simp) | (rw [show max a b=b by omega,show min a b=a by omega]) | (rw [show max a b=a by omega,show min a b=b by omega]))
theorem cloneg_i (v:Vr) (g:Gm) (hok:Ok v g.b) (S:Nat->Prop) (u1 u2:Value) (w:World) (hR:BdR w S u1 u2 g.b) :
  Calls Tryz.prog 179 #[.agg ⟨gmC u1 u2 g⟩] w λ e w'=>Ret RelGV g (λ _=>False) w e w':=by
 obtain⟨⟨A1,c1,rfl,Y,k1⟩,⟨A2,c2,rfl,X,k2⟩⟩:=hR;have R:=kD (λ(L:World) (h9:Below w.heap.size w L)=>clone_i g.b.1 g.b.2 A1 A2 c1 c2 L.heap.size L (Nat.le_refl _) (Y.keep (.below h9)).rd (X.keep (.below h9)).rd k1 k2 (by have:=hok.own.len;have:=hok.v1.1;omega) (by have:=hok.oth.len;have:=hok.v1.1;omega));obtain⟨l,h⟩:∃ n,g.b.1.length=n:=⟨_,rfl⟩;obtain⟨k,f⟩:∃ n,g.b.2.length=n:=⟨_,rfl⟩;rw [h,f] at R;rw [h,f];have E:=kD h;have D:=kD f;clear Y X hok h f;go_enter Tryz.func179,Tryz.ntmps179;go_upto_region 1 with fail;refine wp_gen (λ I=>Rows w I [(0,57,gmC (.slice A1 l c1) (.slice A2 k c2) g),(1,57,gM)]) ⟨by go_grown,λ p Z=>?_⟩ ?_
 ·simp only [List.mem_cons,List.not_mem_nil,or_false] at Z;rcases Z with rfl | rfl
  ·exact(RowB.new _ _ _).alloc _
  ·exact RowB.new' _ _ _ (by simp)
 intro H K;have c:=K.nth0 0 rfl;obtain⟨A,z,y,x,t,s,r,q,o⟩:=row9 c;have d:=c.lt;have Q:Hid (w.heap.size+2<=H.heap.size):=(K.nth 1 rfl).lt;go_wp2_with fail;refine(R.out _ K.bel).mono ?_;rintro e T ⟨G,C,F,B,rfl,N,M,-,i⟩;have K:=K.below i;have aa:w.heap.size+2<=H.heap.size:=Q.out;have c:=K.nth0 0 rfl;clear A z y x t s r q o d i R;obtain⟨A,z,y,x,t,s,r,q,o⟩:=row9 c;have d:=c.lt;have P:=c.frozen;rw [E.out] at N;rw [D.out] at M;have m:BdR T (λ b=>w.heap.size+2<=b) (.slice G l C) (.slice F k B) g.b:=⟨(relV 1 enI).weak (OwnV.sl enI_len (OwnV.of N (Nat.le_refl _) (S:=λ b=>H.heap.size<=b) (λ b i _=>i))) (λ b i _=>by omega),(relV 1 enI).weak (OwnV.sl enI_len (OwnV.of M (Nat.le_refl _) (S:=λ b=>H.heap.size<=b) (λ b i _=>i))) (λ b i _=>by omega)⟩;have a:=kD m;clear N M m c;rw [E.out,D.out];go_upto_region 2 with fail;refine wp_gen (λ I=>Rows w I [(0,57,gmC (.slice G l C) (.slice F k B) g),(1,57,gM)]∧Hid (BdR I (λ b=>w.heap.size+2<=b) (.slice G l C) (.slice F k B) g.b)) ⟨(K.set1 0 0 _).set1 0 1 _,kD (a.out.grown (two_grown T (w.heap.size+0) _ _) (λ g O hs=>by simp at O;omega))⟩ ?_;clear K a A z y x t s r q o d P;rintro w3 ⟨K,a⟩;have c:=K.nth0 0 rfl;obtain⟨A,z,y,x,t,s,r,q,o⟩:=row9 c;have d:=c.lt;have W:=K.nth 1 rfl;go_wp2_with (refine wM 57 0 (gmC (.slice G l C) (.slice F k B) g) W ?_;intro w7 V j z7);have K:=K.grown 1 V j;have a:=kD (a.out.grown j (λ g O hs=>by simp at O;omega));obtain⟨z0,z1,z2,z3,z4,z5,z6,J,z8⟩:=row9 V;clear j A z y x t s r q o d c W;go_wp2_with fail;refine bodyPost_ret (v:=.agg ⟨gmC (.slice G l C) (.slice F k B) g⟩) (by simp [results,Tryz.results179,go_sem,gmC,z0,z1,z2,z3,z4,z5,z6,J,z8]) rfl ?_;exact⟨_,rfl,⟨_,_,rfl,a.out.weak (λ b i _=>.inr (by omega))⟩,K.bel⟩
theorem owng_s (v:Vr) (g:Gm) (hok:Ok v g.b) (S:Nat->Prop) (u1 u2:Value) (w:World) (hR:BdR w S u1 u2 g.b) :
  Calls Tryz.prog 161 #[.agg ⟨gmC u1 u2 g⟩] w λ e w'=>Ret RelGV g (λ _=>False) w e w':=by
 obtain⟨⟨X,V,rfl,r1,k1⟩,⟨W,T,rfl,r2,k2⟩⟩:=hR;have R:=kD (λ(i:World) (h9:Below w.heap.size w i)=>own02 X V i.heap.size g.b.1 i (Nat.le_refl _) (r1.keep (.below h9)).rd k1 (by have:=hok.own.len;have:=hok.v1.1;omega));have Q:=kD (λ(i:World) (h9:Below w.heap.size w i)=>own02 W T i.heap.size g.b.2 i (Nat.le_refl _) (r2.keep (.below h9)).rd k2 (by have:=hok.oth.len;have:=hok.v1.1;omega));obtain⟨H,s⟩:∃ n,g.b.1.length=n:=⟨_,rfl⟩;obtain⟨G,q⟩:∃ n,g.b.2.length=n:=⟨_,rfl⟩;rw [s] at R;rw [q] at Q;rw [s,q];have an:=kD s;have am:=kD q;clear r1 r2 hok s q;go_enter Tryz.func161,Tryz.ntmps161;go_upto_region 1 with fail;refine wp_gen (λ W'=>Rows w W' [(0,57,gmC (.slice X H V) (.slice W G T) g),(1,57,gM)]) ⟨by go_grown,λ p hp=>?_⟩ ?_
 ·simp only [List.mem_cons,List.not_mem_nil,or_false] at hp;rcases hp with rfl | rfl
  ·exact(RowB.new _ _ _).alloc _
  ·exact RowB.new' _ _ _ (by simp)
 intro w1 m;have E:=m.nth0 0 rfl;have ad:=E.lt;have ag:Hid (w.heap.size+2<=w1.heap.size):=(m.nth 1 rfl).lt;refine region_rel [some 3,some 4,some 5,some 6,some 7,some 8,some 9,some 10,some 11,some 12,none] 11 (Pl [some (.pointer (some ⟨w.heap.size,0,none⟩)),some (.pointer (some ⟨w.heap.size,0,none⟩)),some (.slice X H V),none,some (.pointer (some ⟨w.heap.size,0,none⟩)),some (.pointer (some ⟨w.heap.size,1,none⟩)),some (.slice W G T),none,none,some (.pointer (some ⟨w.heap.size,0,none⟩)),none]) (λ L c w'=>C2E RelI g.b.1 RelI g.b.2 w1 3 7 8 10 (λ a b=>.agg #[a,b]) w.heap.size 57 (gmC (.slice X H V) (.slice W G T) g) (λ x=>aggC x++(gmC (.slice X H V) (.slice W G T) g).drop 2) L c w') (by kernel_rfl) (by kernel_rfl) (by kernel_rfl) (by kernel_rfl) (by kernel_rfl) (by kernel_rfl) (by first | kernel_rfl | rfl) ?g0_1 ?gst_1 ?gfin_1
 case g0_1=>exact⟨⟨rfl,rfl,rfl,Nat.le_refl _,λ _ _ _=>rfl⟩,ad,λ h=>absurd h (by decide),λ h=>absurd h (by decide),λ h=>absurd h (by decide),λ _=>E,λ h=>absurd h (by decide)⟩
 case gst_1 =>
  refine rN rfl (λ L c A i d f j U F K l=>?_) ?_
  ·have e1:=U.w 1 (.pointer (some ⟨w.heap.size,0,none⟩));go_simp;exact pF l (F.skip 0 _)
  refine rN rfl (λ L c A i d f j U F K l=>?_) ?_
  ·have e3:=U.v 0 3;go_simp;exact pF l (F.skip 1 _)
  refine rN rfl (λ L c A i d f j U F K l=>?_) ?_
  ·have e4:=U.v 1 4;have r:=F.row (λ h=>d (j 10 2 (by kernel_rfl) h));have o:=row9 r;have g0:=o.1;have g1:=o.2.1;have ai:=r.lt;clear o;go_simp;exact pF l (F.skip 2 _)
  refine rN rfl (λ L c A i d f j U F K l=>?_) ?_
  ·have e5:=U.v 2 5;go_simp;refine(R.out i ⟨F.bel.os.trans m.bel.os,F.bel.tape.trans m.bel.tape,F.bel.output.trans m.bel.output,Nat.le_trans m.bel.size F.bel.size,λ k hk=>(F.bel.block k (Nat.lt_of_lt_of_le hk m.bel.size) (λ e=>by simp at e;omega)).trans (m.bel.block k hk)⟩).mono ?_;rintro e w6 ⟨⟨v6,rfl,I⟩,M⟩;exact l.out v6 w6 (Pl.any rfl) (F.call1 d (by decide) M (OwnV.sl enI_len (OwnV.of I (Nat.le_refl _) (λ b hb _=>hb))))
  refine rN rfl (λ L c A i d f j U F K l=>?_) ?_
  ·have e1:=U.w 1 (.pointer (some ⟨w.heap.size,0,none⟩));go_simp;exact pF l (F.skip 4 _)
  refine rN rfl (λ L c A i d f j U F K l=>?_) ?_
  ·have e7:=U.v 4 7;go_simp;exact pF l (F.skip 5 _)
  refine rN rfl (λ L c A i d f j U F K l=>?_) ?_
  ·have e8:=U.v 5 8;have r:=F.row (λ h=>d (j 10 6 (by kernel_rfl) h));have o:=row9 r;have g0:=o.1;have g1:=o.2.1;have ai:=r.lt;clear o;go_simp;exact pF l (F.skip 6 _)
  refine rN rfl (λ L c A i d f j U F K l=>?_) ?_
  ·have e9:=U.v 6 9;go_simp;refine(Q.out i ⟨F.bel.os.trans m.bel.os,F.bel.tape.trans m.bel.tape,F.bel.output.trans m.bel.output,Nat.le_trans m.bel.size F.bel.size,λ k hk=>(F.bel.block k (Nat.lt_of_lt_of_le hk m.bel.size) (λ e=>by simp at e;omega)).trans (m.bel.block k hk)⟩).mono ?_;rintro e w6 ⟨⟨v6,rfl,I⟩,M⟩;exact l.out v6 w6 (Pl.any rfl) (F.call2 d (by decide) M (OwnV.sl enI_len (OwnV.of I (Nat.le_refl _) (λ b hb _=>hb))))
  refine rN rfl (λ L c A i d f j U F K l=>?_) ?_
  ·have e6:=U.x 3 6;have af:=U.x 7 10;refine(F.f1 (bK f 3)).elim λ B D=>?_
   refine D.elim λ y D=>?_
   refine(F.f2 (bK f 7)).elim λ z C=>?_
   refine C.elim λ t C=>?_
   have ap:=e6.trans D.1;have ao:=af.trans C.1;clear e6 af;go_simp;exact l.out _ i (Pl.any rfl) (F.built d (by decide) (bK f 3) (bK f 7) (by rw [D.1,C.1]))
  refine rN rfl (λ L c A i d f j U F K l=>?_) ?_
  ·have e1:=U.w 1 (.pointer (some ⟨w.heap.size,0,none⟩));go_simp;exact pF l (F.skip 9 _)
  refine rN rfl (λ L c A i d f j U F K l=>?_) ?_
  ·have ak:=U.v 9 12;have al:=U.x 8 11;have fb:=F.fb (bK f 8);refine(F.f1 fb.1).elim λ B D=>?_
   refine D.elim λ y D=>?_
   refine(F.f2 fb.2.1).elim λ z C=>?_
   refine C.elim λ t C=>?_
   have N:=fb.2.2;rw [D.1,C.1] at N;refine wp_sm 28 _ _ rfl w.heap.size 0 [.slice B g.b.1.length y,.slice z g.b.2.length t] (gmC (.slice X H V) (.slice W G T) g) (ev ak) (ev (al.trans N)) 57 (F.row d) (by kernel_rfl) (show 2<=9 by decide) rfl ?_;exact l.out undef _ (Pl.any rfl) (F.wrote (by decide) d (bK f 8) 0 (by rw [N];rfl))
  exact RelFrom.nil (by decide)
 intro c i hp F;simp only [Fr,Act.put,sX,Nat.reduceAdd];obtain⟨-,r⟩:=F.fw trivial;obtain⟨-,-,ac⟩:=F.fb (F.fw trivial).1;obtain⟨B,y,e3,Z,ab⟩:=F.f1 trivial;obtain⟨z,t,e4,Y,aa⟩:=F.f2 trivial;rw [ac,e3,e4] at r;have ae:=F.bel;have J:BdR i (λ b=>w.heap.size+2<=b) (.slice B g.b.1.length y) (.slice z g.b.2.length t) g.b:=⟨⟨B,y,rfl,Z.weak (λ b h _=>by have:=ag.out;omega),ab⟩,⟨z,t,rfl,Y.weak (λ b h _=>by have:=ag.out;omega),aa⟩⟩;have r:RowB i (w.heap.size+0) 57 (gmC (.slice B g.b.1.length y) (.slice z g.b.2.length t) g):=r;have K:Rows w i [(0,57,gmC (.slice B g.b.1.length y) (.slice z g.b.2.length t) g),(1,57,gM)]:=m.grown 0 r ae;rw [an.out,am.out] at K J;have P:=kD J;clear F hp ac e3 e4 Z Y ab aa ae J r R Q m E ad;have rg:=K.nth0 0 rfl;obtain⟨g0,g1,g2,g3,g4,g5,g6,g7,g8⟩:=row9 rg;have aj:=rg.lt;have o:=K.nth 1 rfl;go_wp2_with (refine wM 57 0 (gmC (.slice B H y) (.slice z G t) g) o ?_;intro w7 s7 O z7);have K:=K.grown 1 s7 O;have P:=kD (P.out.grown O (λ g hg hs=>by simp at hg;omega));obtain⟨z0,z1,z2,z3,z4,z5,z6,ah,z8⟩:=row9 s7;clear O g0 g1 g2 g3 g4 g5 g6 g7 g8 aj rg o;go_wp2_with fail;refine bodyPost_ret (v:=.agg ⟨gmC (.slice B H y) (.slice z G t) g⟩) (by simp [results,Tryz.results161,go_sem,gmC,z0,z1,z2,z3,z4,z5,z6,ah,z8]) rfl ?_;exact⟨_,rfl,⟨_,_,rfl,P.out.weak (λ b hb _=>.inr (by omega))⟩,K.bel⟩
end Gm
end Go.Proofs.YtmncnhbjifeoeaaGreat
