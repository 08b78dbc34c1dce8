/- Parts of the proof of FnExactReviewMatch. Conditions: each theorem's own. -/
import Derived.Test.YtmncnhbjifeoeaaGreatQ36
set_option linter.unusedVariables false
set_option linter.unusedSimpArgs false
set_option maxHeartbeats 8000000
set_option maxRecDepth 100000
namespace Go.Proofs.YtmncnhbjifeoeaaGreat
namespace Gm
open Go Go.ChangeShapes Go.WideShapes Go.ChangeAt Go.RowKit Base Ints Own RelG PlP TxP Bd1 Bd5 Bd8 RegInv RegF RegG TxI TsI Bd36
theorem toEv (k a b r:Int) (A:Option Addr) (c:Nat) (ss:List Stp) (w:World) (hn:ss.length<=1048576) (hr:RdS w w.heap.size 4 enSt A ss) :
  Calls Tryz.prog 115 #[.agg #[.int .i64 k,.int .i64 a,.int .i64 b,.slice A ss.length c,.int .i64 r]] w λ e w'=>∃ A',e=.returned (.agg #[.int .i64 k,.int .i64 a,.int .i64 b,.slice A' ss.length ss.length,.int .i64 r])∧Below w.heap.size w w'∧OwnS w' w.heap.size w'.heap.size 150 4 enSt (.slice A' ss.length ss.length) ss:=by
 have M:=kD (λ(N:World) (S:Below w.heap.size w N)=>toSts w.heap.size A c ss N S.size hn (hr.below S (Nat.le_refl _)));obtain⟨n,C⟩:∃ n,ss.length=n:=⟨_,rfl⟩;rw [C] at M ⊢;clear C hn hr;go_enter Tryz.func115,Tryz.ntmps115;go_upto_region 2 with fail
 try simp only [show w.heap.size+1+1=w.heap.size+2 from rfl]
 refine wp_gen (λ o=>Rows w o [(0,158,[.int .i64 k,.int .i64 a,.int .i64 b,.slice A n c,.int .i64 r]),(1,63,[.int .i64 0,.int .i64 0,.int .i64 0,.slice none 0 0,.int .i64 0]),(2,63,[.int .i64 0,.int .i64 0,.int .i64 0,.slice none 0 0,.int .i64 0])]) ⟨by go_grown,λ p Q=>?_⟩ ?_
 ·simp only [List.mem_cons,List.not_mem_nil,or_false] at Q;rcases Q with rfl | rfl | rfl
  ·exact((RowB.new _ _ _).alloc _).alloc _
  ·exact(RowB.new' _ _ _ (by simp)).alloc _
  ·exact RowB.new' _ _ _ (by simp)
 intro P K;obtain⟨z,y,x,t,s⟩:=(K.nth0 0 rfl).c5;have g:=(K.nth0 0 rfl).lt;have d:=K.nth 2 rfl;obtain⟨m,l,j,i,h⟩:=d.c5;have E:=d.frozen;have f:=d.lt;go_upto_region 5 with fail;refine wp_gen (λ o=>Rows w o [(0,158,[.int .i64 k,.int .i64 a,.int .i64 b,.slice A n c,.int .i64 r]),(1,63,[.int .i64 0,.int .i64 0,.int .i64 0,.slice none 0 0,.int .i64 0]),(2,63,[.int .i64 k,.int .i64 a,.int .i64 b,.slice none 0 0,.int .i64 0])]) (((K.set1 2 0 _).set1 2 1 _).set1 2 2 _) ?_;clear K z y x t s g d E f m l j i h;intro P K;obtain⟨z,y,x,t,s⟩:=(K.nth0 0 rfl).c5;have g:=(K.nth0 0 rfl).lt;have d:=K.nth 2 rfl;obtain⟨m,l,j,i,h⟩:=d.c5;have E:=d.frozen;have f:=d.lt;go_wp2_with fail;refine(M.out _ K.bel).mono ?_;rintro e O ⟨A',rfl,D,R⟩;have J:w.heap.size+3<=P.heap.size:=f;have K:=K.below D;clear z y x t s g d E f m l j i h M;obtain⟨z,y,x,t,s⟩:=(K.nth0 0 rfl).c5;have g:=(K.nth0 0 rfl).lt;have d:=K.nth 2 rfl;obtain⟨m,l,j,i,h⟩:=d.c5;have E:=d.frozen;have f:=d.lt;go_upto_region 7 with fail;refine wp_gen (λ o=>Rows w o [(0,158,[.int .i64 k,.int .i64 a,.int .i64 b,.slice A n c,.int .i64 r]),(1,63,[.int .i64 0,.int .i64 0,.int .i64 0,.slice none 0 0,.int .i64 0]),(2,63,[.int .i64 k,.int .i64 a,.int .i64 b,.slice A' n n,.int .i64 r])]∧Hid (OwnS o (w.heap.size+3) o.heap.size 150 4 enSt (.slice A' n n) ss)) ⟨(K.set1 2 3 _).set1 2 4 _,kD ?_⟩ ?_
 ·have h1:=(OwnS.grown R (Base.grownBy_setCell O (w.heap.size+2) 3 (.slice A' n n)) (λ q B=>by simp at B;omega)).more (Base.grownBy_setCell O (w.heap.size+2) 3 (.slice A' n n)).size;have h2:=(OwnS.grown h1 (Base.grownBy_setCell _ (w.heap.size+2) 4 (.int .i64 r)) (λ q B=>by simp at B;omega)).more (Base.grownBy_setCell _ (w.heap.size+2) 4 (.int .i64 r)).size;exact h2.less (by omega)
 clear K z y x t s g d E f m l j i h R D J;rintro w3 ⟨K,T⟩;have H:=K.nth 2 rfl;have d:=K.nth 1 rfl;obtain⟨m,l,j,i,h⟩:=H.c5;have f:=H.lt;go_wp2_with (refine wM 63 0 [.int .i64 k,.int .i64 a,.int .i64 b,.slice A' n n,.int .i64 r] d ?_;intro w7 G F z7;refine Hid.out ?_);have L:=(K.grown 1 G F).bel;have I:=((OwnS.grown T.out F (λ q B=>by simp at B;omega)).more F.size).less (lo':=w.heap.size) (by omega);obtain⟨Z,Y,X,W,V⟩:=G.c5;have aa:=G.lt;clear F d K T H m l j i h f;refine kD ?_
 repeat (first | go_values | go_skip | go_step | go_upon)
 refine bodyPost_ret (v:=.agg #[.int .i64 k,.int .i64 a,.int .i64 b,.slice A' n n,.int .i64 r]) (by simp [results,Tryz.results115,go_sem,Z,Y,X,W,V]) rfl ?_;exact⟨_,rfl,L,I⟩
theorem Evs.setRow {w4 w6:World} {lo g m cap:Nat} {es:List Ev} (H:Evs w4 lo (.slice (some ⟨g,0,none⟩) m cap) es) (hlo:lo<=w4.heap.size) (hb:Below w4.heap.size w4 w6) {j:Nat} (hj:j<es.length) (k a b r:Int) (A':Option Addr) (n c:Nat) (ss:List Stp) (hs:OwnS w6 w4.heap.size w6.heap.size 150 4 enSt (.slice A' n c) ss) :
  ∃ old,RowB w6 g 63 old∧j*5+5<=old.length∧∀ w7,RowB w7 g 63 (setL old (j*5) [.int .i64 k,.int .i64 a,.int .i64 b,.slice A' n c,.int .i64 r])->w6.grownBy w7 (some g)->w7.heap.size=w6.heap.size->Evs w7 lo (.slice (some ⟨g,0,none⟩) m cap) (es.set j ⟨k,a,b,ss,r⟩):=by
 obtain⟨y,L,w,K⟩:=H;have T:g<w4.heap.size:=(L.block g rfl).2;have G:=(L.below hb (Nat.le_refl _)).more hb.size;have F:=w.keep (.below hb);have t:j<y.length:=by rw [w.1];exact hj
 obtain⟨old,P,Q,p⟩:=own_setRow enEv_len G t;refine⟨old,P,Q,λ w7 Y V N=>?_⟩;have o:∀ S:Nat->Prop,(∀ b,S b->b≠g)->Still S w6 w7:=λ S W=>Still.grown V (λ q v hs=>by simp at v;exact W q hs v.symm)
 have s:∀ b,NotIn (.slice (some ⟨g,0,none⟩) m cap) lo b->b≠g:=λ b hb e=>hb.1 (by rw [e];rfl)
 have X:RelEv.R w7 (NotIn (.slice (some ⟨g,0,none⟩) m cap) lo) (k,a,b,.slice A' n c,r) ⟨k,a,b,ss,r⟩:=⟨⟨rfl,rfl,rfl,rfl⟩,(relO 150 4 enSt).keep (OwnV.of hs (Nat.le_refl _) (λ b' aa Z=>⟨λ e=>by simp [Value.ownBlock] at e;omega,by omega⟩)) (o _ s)⟩;have l:∀(i:Nat) (q:ERow),y[i]?=some q->∀ h,q.2.2.2.1.ownBlock=some h->h<w4.heap.size:=λ i q v h E=>by
  obtain⟨x,_,O⟩:=w.at_ v;exact(O.2.1.block h E).2
 refine⟨y.set j (k,a,b,.slice A' n c,r),by rw [N];exact p (k,a,b,.slice A' n c,r) w7 Y,⟨by simp [w.1],λ i M x f d=>?_⟩,?_⟩
 ·rw [List.getElem?_set] at f d;by_cases hij:j=i
  ·subst hij;rw [if_pos rfl,if_pos t] at f;rw [if_pos rfl,if_pos hj] at d;obtain rfl:=Option.some.inj f;obtain rfl:=Option.some.inj d;exact X
  ·rw [if_neg hij] at f d;exact RelEv.keep (F.2 i M x f d) (o _ s)
 ·rw [List.pairwise_iff_getElem] at K ⊢;intro C B A z D;rw [List.length_set] at A z;rw [List.getElem_set,List.getElem_set];by_cases e1:j=C
  ·rw [if_pos e1,if_neg (by omega)];intro h J I;have b1:=(hs.block h J).1;have b2:=l B _ (List.getElem?_eq_getElem z) h I;omega
  ·rw [if_neg e1];by_cases e2:j=B
   ·rw [if_pos e2];intro h J I;have b1:=(hs.block h I).1;have b2:=l C _ (List.getElem?_eq_getElem A) h J;omega
   ·rw [if_neg e2];exact K C B A z D
def zEv:ERow:=(0,0,0,.slice none 0 0,0)
theorem Evs.made (w:World) (g n:Nat) (h:RowB w g 63 ((List.replicate n zEv).flatMap enEv)) (hn:n<=1048576):Evs w g (.slice (some ⟨g,0,none⟩) n n) (List.replicate n nulE):=by
 have b:=RowB.own (lo:=g) (hi:=w.heap.size) h enEv_len (Nat.le_refl _) h.lt (by rw [List.length_replicate];unfold maxLen;omega);rw [List.length_replicate] at b;refine⟨_,b,⟨by simp,λ i r x d c=>?_⟩,?_⟩
 ·have f:=List.eq_of_mem_replicate (List.mem_of_getElem? d);have e:=List.eq_of_mem_replicate (List.mem_of_getElem? c);subst f;subst e;exact⟨⟨rfl,rfl,rfl,rfl⟩,OwnS.nil_ _ _ _ _ _ _,λ q a=>by simp [zEv,Value.ownBlock] at a⟩
 ·refine List.pairwise_iff_getElem.2 λ i j hi k _=>?_
  simp only [List.getElem_replicate];intro q a;simp [zEv,Value.ownBlock] at a
theorem toEvs (Ae:Option Addr) (ce:Nat) (es:List Ev) (w:World) (hes:EvL w All Ae es) (hn:es.length<=1048576) (hs:∀ e ∈ es,e.ss.length<=1048576) :
  Calls Tryz.prog 72 #[.slice Ae es.length ce] w λ e w'=>∃ A',e=.returned (.slice A' es.length es.length)∧Below w.heap.size w w'∧Evs w' w.heap.size (.slice A' es.length es.length) es:=by
 obtain⟨i0,hi,T,S,R⟩:=info_parts infoE;have ab:=kD (λ(w9:World) (h9:Below w.heap.size w w9)=>hes.keep (.below h9));have aa:=kD hs;obtain⟨n,A⟩:∃ n,es.length=n:=⟨_,rfl⟩;rw [A] at hn ⊢;have H:=kD A;clear A hs hes;go_enter Tryz.func72,Tryz.ntmps72;go_wp2_with (at_make;refine wpList_make_full _ rfl _ _ _ rfl w.heap.size 63 i0 _ 5 Tryz.underlying46 hi T S _ _ _ _ n rfl rfl rfl rfl ?c1 ?c2 (Nat.le_refl _) ?_)
 case c1=>rw [R];omega
 case c2=>unfold maxLen;omega
 intro P p f;have c:=RowB.of_own p;have c:RowB P w.heap.size 63 ((List.replicate n zEv).flatMap enEv):=by rw [<-made_rows (en:=enEv) zEv #[.int .i64 0,.int .i64 0,.int .i64 0,.slice none 0 0,.int .i64 0] rfl rfl (by decide) n];exact c
 have v:Below w.heap.size w P:=(Below.refl _ _).grown f (Nat.le_refl _) (by simp);have C:=Evs.made P w.heap.size n c hn;obtain⟨g,hg⟩:∃ g,w.heap.size=g:=⟨_,rfl⟩;rw [hg] at C v c ⊢;have L:=kD hg;have y:=kD C;have d:=c.lt;clear p f c C;go_wp2_with fail;go_loopw [4] (λ i wr=>∃ k:Nat,k<=n∧i=.int .i64 k∧Below g w wr∧g<wr.heap.size∧Hid (Evs wr g (.slice (some ⟨g,0,none⟩) n n) (es.take k++List.replicate (n - k) nulE))) (λ i _=>n - (intOf i).toNat)
 case atStart=>exact⟨0,Nat.zero_le _,rfl,v,d,y⟩
 case round =>
  obtain⟨k,hk,rfl,h,d,y⟩:=hrel;by_cases hlt:k<n
  ·obtain⟨ba,oa,e,As,cq,rfl,B,V,D,ca,cb,cc,cd,J⟩:=(ab.out wr (by rw [L.out];exact h)).at_ (i:=k) (by rw [H.out];exact hlt);have HX:=kD B;have E:=aa.out e (List.mem_of_getElem? B);have M:=kD (toEv e.k e.a e.b e.r As cq e.ss wr E D.rd);obtain⟨Y,ea,Z,Q,X⟩:=e;simp only at ca cb cc cd J M;obtain⟨K,m⟩:∃ q,Q.length=q:=⟨_,rfl⟩;rw [m] at cd M;have ad:IntKind.i64.wrap ((k:Int)+1)=(k:Int)+1:=IntWalk.i64_in _ (by omega);clear B D E m;go_wp2_with fail;refine M.out.mono ?_;rintro e w2 ⟨A',rfl,l,F⟩;obtain⟨ac,rr,s,o⟩:=Evs.setRow y.out (Nat.le_of_lt d) l (j:=k) (by rw [List.length_append,List.length_take,List.length_replicate,H.out];omega) Y ea Z X A' K K Q F;have x:=h.trans (l.mono (Nat.le_of_lt d));have t:g<w2.heap.size:=Nat.lt_of_lt_of_le d l.size;have HS:=kD o;clear ca cb cc cd J V M h d l F o y;go_wp2_with (refine wpL_sm 63 _ _ rfl g (k*5) [.int .i64 Y,.int .i64 ea,.int .i64 Z,.slice A' K K,.int .i64 X] _ _ rfl rfl 63 rr (by kernel_rfl) s rfl rfl ?_;intro O s7 W N);have z:=HS.out O s7 W N;rw [fill_set es nulE ⟨Y,ea,Z,Q,X⟩ n k HX.out hlt] at z;have I:Below g w O:=x.grown W (by have:=L.out;omega) (λ j hj=>by simp at hj;omega);have G:g<O.heap.size:=by rw [N];exact t
   have y:=kD z;clear s7 W N z rr s HS x t;go_wp2_with fail;go_roundw
   case rel=>exact⟨k+1,by omega,by first | rfl | go_num,I,G,y⟩
   case measure=>simp [intOf];omega
  ·obtain rfl:n=k:=by omega
   have C:=y.out;rw [List.take_of_length_le (by rw [H.out];exact Nat.le_refl _),Nat.sub_self,List.replicate_zero,List.append_nil] at C;clear y;go_wp2_with fail;go_ret;exact⟨_,rfl,by rw [L.out];exact h,by rw [L.out];exact C⟩
theorem Evs.evl {w:World} {lo:Nat} {A:Option Addr} {m c:Nat} {es:List Ev} (h:Evs w lo (.slice A m c) es):EvL w All A es:=by
 obtain⟨j,n,g,s⟩:=h;obtain⟨v,t,e,d⟩:=n.form enEv_len;simp only [Value.slice.injEq] at e;obtain⟨rfl,-,-⟩:=e;refine⟨j,RdF.of d (Nat.le_refl _) (λ _ _=>trivial),g.1,λ i r x l k=>?_⟩;obtain⟨a,b⟩:=g.2 i r x l k;obtain⟨q,p,o,f⟩:=b.1.form enSt_len;exact⟨a,q,p,o,RdF.of f (Nat.le_refl _) (λ _ _=>trivial)⟩
theorem szM (v:Vr) (n:Int) (Ae:Option Addr) (ce:Nat) (es:List Ev) (left:Int) (w:World) (hes:EvL w All Ae es) (h0:0<=left) (h1:left<=1048576) :
  Calls Tryz.prog 22 #[.agg #[.int .i64 v.p,.int .i64 v.c,.int .i64 v.h,.int .i64 v.s,.int .i64 n,.slice Ae es.length ce],.int .i64 left] w λ e w'=>∃ q:Int,e=.returned (.int .i64 q)∧Below w.heap.size w w'∧(0<=q->es.length<=1048576∧∀ e ∈ es,e.ss.length<=1048576):=by
 have f:=kD (λ(g:World) (z:Below w.heap.size w g)=>szEvs Ae ce es left g (hes.keep (.below z)) h0 h1);obtain⟨M,k⟩:∃ M,es.length=M:=⟨_,rfl⟩;rw [k] at f ⊢;clear k hes;go_enter Tryz.func22,Tryz.ntmps22;go_upto_region 1 with fail;refine wp_gen (λ A=>Rows w A [(0,70,[.int .i64 v.p,.int .i64 v.c,.int .i64 v.h,.int .i64 v.s,.int .i64 n,.slice Ae M ce])]) ⟨by go_grown,λ p y=>?_⟩ ?_
 ·obtain rfl:=List.mem_singleton.1 y;exact RowB.new _ _ _
 intro D K;have b:=K.nth0 0 rfl;obtain⟨x,t,r,o,m,l⟩:=b.c6;have d:=b.lt;go_wp2_with fail;refine(f.out _ K.bel).mono ?_;rintro e C ⟨q,rfl,j,i⟩;have a:=(K.below j).bel;have B:=kD i;clear K x t r o m l d b j i f;by_cases hn:q<0
 ·go_wp2_with fail;go_ret;exact⟨_,rfl,a,λ h=>absurd h (by decide)⟩
 ·go_wp2_with fail;go_ret;exact⟨_,rfl,a,B.out⟩
theorem toM (v:Vr) (n:Int) (Ae:Option Addr) (ce:Nat) (es:List Ev) (w:World) (hes:EvL w All Ae es) (hn:es.length<=1048576) (hs:∀ e ∈ es,e.ss.length<=1048576) :
  Calls Tryz.prog 23 #[.agg #[.int .i64 v.p,.int .i64 v.c,.int .i64 v.h,.int .i64 v.s,.int .i64 n,.slice Ae es.length ce]] w λ e w'=>∃ A',e=.returned (.agg #[.int .i64 v.p,.int .i64 v.c,.int .i64 v.h,.int .i64 v.s,.int .i64 n,.slice A' es.length es.length])∧Below w.heap.size w w'∧Evs w' w.heap.size (.slice A' es.length es.length) es:=by
 have I:=kD (λ(D:World) (h9:Below w.heap.size w D)=>toEvs Ae ce es D (hes.keep (.below h9)) hn hs);have P:=kD (λ(D:World)=>toVr v.p v.c v.h v.s D);obtain⟨M,N⟩:∃ M,es.length=M:=⟨_,rfl⟩;rw [N] at I ⊢;clear N hes hn hs;go_enter Tryz.func23,Tryz.ntmps23;go_upto_region 2 with fail
 try simp only [show w.heap.size+1+1=w.heap.size+2 from rfl]
 refine wp_gen (λ g=>Rows w g [(0,70,[.int .i64 v.p,.int .i64 v.c,.int .i64 v.h,.int .i64 v.s,.int .i64 n,.slice Ae M ce]),(1,48,[.int .i64 0,.int .i64 0,.int .i64 0,.int .i64 0,.int .i64 0,.slice none 0 0]),(2,48,[.int .i64 0,.int .i64 0,.int .i64 0,.int .i64 0,.int .i64 0,.slice none 0 0])]) ⟨by go_grown,λ p J=>?_⟩ ?_
 ·simp only [List.mem_cons,List.not_mem_nil,or_false] at J;rcases J with rfl | rfl | rfl
  ·exact((RowB.new _ _ _).alloc _).alloc _
  ·exact(RowB.new' _ _ _ (by simp)).alloc _
  ·exact RowB.new' _ _ _ (by simp)
 intro w1 K;have d:=K.nth0 0 rfl;obtain⟨z,y,x,t,r,q⟩:=d.c6;have f:=d.lt;go_wp2_with fail;refine(P.out _).mono ?_;rintro e w2 ⟨rfl,B⟩;have K:=K.below B;clear z y x t r q f d B P;have a:=K.nth 2 rfl;obtain⟨o,m,l,k,j,i⟩:=a.c6;have C:=a.frozen;have b:=a.lt;go_upto_region 3 with fail;refine wp_gen (λ g=>Rows w g [(0,70,[.int .i64 v.p,.int .i64 v.c,.int .i64 v.h,.int .i64 v.s,.int .i64 n,.slice Ae M ce]),(1,48,[.int .i64 0,.int .i64 0,.int .i64 0,.int .i64 0,.int .i64 0,.slice none 0 0]),(2,48,[.int .i64 v.p,.int .i64 v.c,.int .i64 v.h,.int .i64 v.s,.int .i64 0,.slice none 0 0])]) ((((K.set1 2 0 _).set1 2 1 _).set1 2 2 _).set1 2 3 _) ?_;clear K a o m l k j i C b;intro X K;have d:=K.nth0 0 rfl;obtain⟨z,y,x,t,r,q⟩:=d.c6;have f:=d.lt;have a:=K.nth 2 rfl;obtain⟨o,m,l,k,j,i⟩:=a.c6;have C:=a.frozen;have b:=a.lt;go_upto_region 4 with fail;refine wp_gen (λ g=>Rows w g [(0,70,[.int .i64 v.p,.int .i64 v.c,.int .i64 v.h,.int .i64 v.s,.int .i64 n,.slice Ae M ce]),(1,48,[.int .i64 0,.int .i64 0,.int .i64 0,.int .i64 0,.int .i64 0,.slice none 0 0]),(2,48,[.int .i64 v.p,.int .i64 v.c,.int .i64 v.h,.int .i64 v.s,.int .i64 n,.slice none 0 0])]) (K.set1 2 4 _) ?_;clear K z y x t r q f d a o m l k j i C b;intro Z K;have d:=K.nth0 0 rfl;obtain⟨z,y,x,t,r,q⟩:=d.c6;have f:=d.lt;go_wp2_with fail;refine(I.out _ K.bel).mono ?_;rintro e Y ⟨A',rfl,B,L⟩;have A:w.heap.size+3<=Z.heap.size:=(K.nth 2 rfl).lt;have K:=K.below B;clear z y x t r q f d B I;have a:=K.nth 2 rfl;obtain⟨o,m,l,k,j,i⟩:=a.c6;have C:=a.frozen;have b:=a.lt;go_upto_region 5 with fail;refine wp_gen (λ g=>Rows w g [(0,70,[.int .i64 v.p,.int .i64 v.c,.int .i64 v.h,.int .i64 v.s,.int .i64 n,.slice Ae M ce]),(1,48,[.int .i64 0,.int .i64 0,.int .i64 0,.int .i64 0,.int .i64 0,.slice none 0 0]),(2,48,[.int .i64 v.p,.int .i64 v.c,.int .i64 v.h,.int .i64 v.s,.int .i64 n,.slice A' M M])]∧Hid (Evs g (w.heap.size+3) (.slice A' M M) es)) ⟨K.set1 2 5 _,kD ((L.low (Base.grownBy_setCell Y (w.heap.size+2) 5 (.slice A' M M)) (by omega)).less A)⟩ ?_;clear K a o m l k j i C b L A;rintro w5 ⟨K,O⟩;obtain⟨o,m,l,k,j,i⟩:=(K.nth 2 rfl).c6;have b:=(K.nth 2 rfl).lt;have a:=K.nth 1 rfl;go_wp2_with (refine wM 48 0 [.int .i64 v.p,.int .i64 v.c,.int .i64 v.h,.int .i64 v.s,.int .i64 n,.slice A' M M] a ?_;intro X E H z7;refine Hid.out ?_);have G:=(K.grown 1 E H).bel;have F:=(O.out.low H (by omega)).less (lo':=w.heap.size) (by omega);obtain⟨W,V,T,S,R,Q⟩:=E.c6;have aa:=E.lt;clear H a K O o m l k j i b;refine kD ?_
 repeat (first | go_values | go_skip | go_step | go_upon)
 refine bodyPost_ret (v:=.agg #[.int .i64 v.p,.int .i64 v.c,.int .i64 v.h,.int .i64 v.s,.int .i64 n,.slice A' M M]) (by simp [results,Tryz.results23,go_sem,W,V,T,S,R,Q]) rfl ?_;exact⟨_,rfl,G,F⟩
structure EqF (w1:World) (v:Vr) (n:Int) (M:Nat) (es:List Ev) (p:Prop) (u:Value) (w':World):Prop where
 bel:Below w1.heap.size w1 w'
 f2:p->∃ A3,u=.agg #[.int .i64 v.p,.int .i64 v.c,.int .i64 v.h,.int .i64 v.s,.int .i64 n,.slice A3 M M]∧Evs w' w1.heap.size (.slice A3 M M) es
theorem EqF.skip {w1 w':World} {v:Vr} {n:Int} {M:Nat} {es:List Ev} {L:Nat->Prop} {vals:Nat->Value} (F:EqF w1 v n M es (L 2) (vals 2) w') (k:Nat) (x:Value) (h:2≠k:=by decide):EqF w1 v n M es (2=k∨L 2) (upd vals k x 2) w' :=
 ⟨F.bel,λ a=>by rw [upd_ne h];exact F.f2 (a.resolve_left h)⟩
theorem EqF.call {w1 w' w'':World} {v:Vr} {n:Int} {M:Nat} {es:List Ev} {L:Nat->Prop} {vals:Nat->Value} (F:EqF w1 v n M es (L 2) (vals 2) w') (k:Nat) (x:Value) (h:2≠k) (hb:Below w'.heap.size w' w''):EqF w1 v n M es (2=k∨L 2) (upd vals k x 2) w'' :=
 ⟨F.bel.trans (hb.mono F.bel.size),λ hp=>by
  rw [upd_ne h];obtain⟨A3,e,h3⟩:=F.f2 (hp.resolve_left h);exact⟨A3,e,h3.below hb⟩⟩
theorem lsr_of {ρ α:Type} {K:Rel ρ α} {w:World} {S:Nat->Prop}:∀(rs:List ρ),(∀ r ∈ rs,∃ x,K.R w S r x)->∃ xs,LsR K w S rs xs
 | [],_=>⟨[],LsR.nil _ _ _⟩
 | r :: rs,h=>by
  obtain⟨x,hx⟩:=h r (List.mem_cons_self ..);obtain⟨xs,h1,h2⟩:=lsr_of rs (λ q hq=>h q (List.mem_cons_of_mem _ hq));refine⟨x :: xs,by simp [h1],λ i r' x' hr hx'=>?_⟩
  cases i with
  | zero =>
   simp only [List.getElem?_cons_zero,Option.some.injEq] at hr hx';subst hr;subst hx';exact hx
  | succ i =>
   simp only [List.getElem?_cons_succ] at hr hx';exact h2 i r' x' hr hx'
section
variable {H:Type} {enc:TypeId × Value->H} {w:World}
theorem steps_open {fuel:Nat} {c:Value} {y:DataW H × List MemPlace} (h:DataW.trod enc Tryz.prog w 0 (λ _=>true) true fuel 156 [c]=some y) :
  ∃(A:Option Addr) (cp:Nat) (ss:List Stp),c=.slice A ss.length cp∧RdF w All 4 enSt A ss:=by
 obtain⟨A,cp,a,rfl,d,e⟩:=slst_open Tryz.underlying156 Tryz.underlying196 (by kernel_rfl) (by kernel_rfl) (by decide) h;obtain⟨l,rfl,-⟩:=map_of (en:=enSt) (Q:=λ _=>True) a (λ r m=>by
  have b:=e r m;obtain⟨q,j,_⟩:=b.int (k:=.i64) 0 rfl (by kernel_rfl);obtain⟨p,i,_⟩:=b.int (k:=.i64) 1 rfl (by kernel_rfl);obtain⟨o,g,_⟩:=b.int (k:=.i64) 2 rfl (by kernel_rfl);obtain⟨n,f⟩:=b.bool 3 rfl (by kernel_rfl);obtain⟨x,v,t,s,rfl⟩:=list4 (b.1.trans rfl);simp only [List.getElem?_cons_zero,List.getElem?_cons_succ,Option.some.injEq] at j i g f;subst j;subst i;subst g;subst f;exact⟨(q,p,o,n),rfl,trivial⟩)
 exact⟨A,cp,l,by rw [List.length_map],RdF.of (RdS.of_map d) (Nat.le_refl _) (λ _ _=>trivial)⟩
theorem events_open {fuel:Nat} {c:Value} {y:DataW H × List MemPlace} (h:DataW.trod enc Tryz.prog w 0 (λ _=>true) true fuel 68 [c]=some y) :
  ∃(A:Option Addr) (cp:Nat) (es:List Ev),c=.slice A es.length cp∧EvL w All A es:=by
 obtain⟨A,cp,b,rfl,g,i⟩:=slst_open Tryz.underlying68 Tryz.underlying158 (by kernel_rfl) (by kernel_rfl) (by decide) h;obtain⟨j,rfl,F⟩:=map_of (en:=enEv) (Q:=λ x=>∃ e,RelEr.R w All x e) b (λ r E=>by
  have a:=i r E;obtain⟨B,q,_⟩:=a.int (k:=.i64) 0 rfl (by kernel_rfl);obtain⟨z,p,_⟩:=a.int (k:=.i64) 1 rfl (by kernel_rfl);obtain⟨v,o,_⟩:=a.int (k:=.i64) 2 rfl (by kernel_rfl);obtain⟨P,I,G,n,D⟩:=a.2 3 _ rfl;obtain⟨t,m,_⟩:=a.int (k:=.i64) 4 rfl (by kernel_rfl);obtain⟨C,s,l,rfl,f⟩:=steps_open D;obtain⟨O,N,M,L,J,rfl⟩:=list5 (a.1.trans rfl);simp only [List.getElem?_cons_zero,List.getElem?_cons_succ,Option.some.injEq] at q p o n m;subst q;subst p;subst o;subst n;subst m;exact⟨(B,z,v,.slice C l.length s,t),rfl,⟨B,z,v,l,t⟩,⟨rfl,rfl,rfl,rfl⟩,C,s,rfl,f⟩)
 obtain⟨es,d⟩:=lsr_of (K:=RelEr) j F;exact⟨A,cp,es,by rw [List.length_map,d.1],j,RdF.of (RdS.of_map g) (Nat.le_refl _) (λ _ _=>trivial),d⟩
theorem match_open {r:Reach} {b0:Nat} {v:Value} {d:DataW H} {p:List MemPlace} (hv:Value.okWide Tryz.prog w r b0 70 v) (h:DataW.Trod enc Tryz.prog w 0 (λ _=>true) true 70 v d p) :
  ∃(vr:Vr) (n:Int) (A:Option Addr) (c:Nat) (es:List Ev),v=.agg #[.int .i64 vr.p,.int .i64 vr.c,.int .i64 vr.h,.int .i64 vr.s,.int .i64 n,.slice A es.length c]∧EvL w All A es:=by
 obtain⟨⟨I⟩,rfl,F⟩:=okWide_struct Tryz.underlying70 hv;obtain⟨b,G⟩:=h;have g:DataW.trod enc Tryz.prog w 0 (λ _=>true) true b 70 I=some (d,p):=by simpa [Value.cells] using G
 obtain⟨W,m,_,_,a,f,j⟩:=DataW.trod_struct Tryz.underlying70 g;obtain⟨P,O,N,M,L,K,rfl⟩:=list6 (a.trans (by kernel_rfl));obtain⟨E,D,C,rfl⟩:=list3 (f.trans rfl);have q:=j 0 _ rfl;have o:=j 1 _ rfl;have l:=j 2 _ rfl;have q:DataW.trod enc Tryz.prog w 0 (λ _=>true) true m 67 [P,O,N,M]=some E:=q;have o:DataW.trod enc Tryz.prog w 0 (λ _=>true) true m 2 [L]=some D:=o;have l:DataW.trod enc Tryz.prog w 0 (λ _=>true) true m 68 [K]=some C:=l;have e:=fields_of Tryz.underlying67 (by kernel_rfl) (by kernel_rfl) q;obtain⟨V,B,_⟩:=e.int (k:=.i64) 0 rfl (by kernel_rfl);obtain⟨T,z,_⟩:=e.int (k:=.i64) 1 rfl (by kernel_rfl);obtain⟨S,y,_⟩:=e.int (k:=.i64) 2 rfl (by kernel_rfl);obtain⟨R,x,_⟩:=e.int (k:=.i64) 3 rfl (by kernel_rfl);obtain⟨Q,t,_⟩:=DataW.trod_int (k:=.i64) Tryz.underlying2 o;obtain⟨A,J,es,rfl,i⟩:=events_open l;simp only [List.getElem?_cons_zero,List.getElem?_cons_succ,Option.some.injEq,List.cons.injEq,and_true] at B z y x t;subst B;subst z;subst y;subst x;subst t;exact⟨⟨V,T,S,R⟩,Q,A,J,es,rfl,i⟩
end
end Gm
namespace VdS
open Go.ChangeShapes Go.WideShapes Go.ChangeAt Go.RowKit Base Base2
theorem eq1 (p q r s:Int) (w:World) :
  Calls Tryz.prog 73 #[.agg #[.int .i64 p,.int .i64 q,.int .i64 r,.int .i64 s],.agg #[.int .i64 p,.int .i64 q,.int .i64 r,.int .i64 s]] w λ e w'=>e=.returned (.bool true)∧Below w.heap.size w w':=by
 have d:(p != p)=false:=by simp
 have c:(q != q)=false:=by simp
 have b:(r != r)=false:=by simp
 have a:(s != s)=false:=by simp
 go_enter Tryz.func73,Tryz.ntmps73;go_wp2;go_ret;exact⟨rfl,by go_grown⟩
theorem eqS (B1 B2:Nat) (A1 A2:Option Addr) (c1 c2:Nat) (xs:List (Int × Int × Int × Int)) (w:World) (h1:RdS w B1 4 enI4 A1 xs) (h2:RdS w B2 4 enI4 A2 xs) (hB1:B1<=w.heap.size) (hB2:B2<=w.heap.size) :
  Calls Tryz.prog 24 #[.slice A1 xs.length c1,.slice A2 xs.length c2] w λ e w'=>e=.returned (.bool true)∧Below w.heap.size w w':=by
 have V:=h1.len
 generalize hnn:xs.length=n at *
 have H:=kD hnn;clear hnn;go_enter Tryz.func24,Tryz.ntmps24;go_wp2;go_loopw [5] (λ i wr=>∃ k:Nat,k<=n∧i=.int .i64 k∧Below w.heap.size w wr) (λ i _=>n - (intOf i).toNat)
 case atStart=>exact⟨0,Nat.zero_le _,rfl,Below.refl _ _⟩
 case round =>
  obtain⟨k,W,rfl,c⟩:=hrel;by_cases hlt:k<n
  ·obtain⟨b,d,p,q,r,s,rfl,P,D,C,B,A,z⟩:=rdI4_at h1 (by rw [H.out];exact hlt);obtain⟨h,a,T,S,R,Q,rfl,o,l,y,x,v,t⟩:=rdI4_at h2 (by rw [H.out];exact hlt);rw [D] at l;simp only [Option.some.injEq,Prod.mk.injEq] at l;obtain⟨rfl,rfl,rfl,rfl⟩:=l;have O:=c.size;have g:b<wr.heap.size:=by omega
   have f:h<wr.heap.size:=by omega
   have M:=(c.cell (p:=⟨b,d+k*4,none⟩) (by show b<_;omega)).trans C;have L:=(c.cell (p:=⟨b,d+k*4+1,none⟩) (by show b<_;omega)).trans B;have K:=(c.cell (p:=⟨b,d+k*4+2,none⟩) (by show b<_;omega)).trans A;have J:=(c.cell (p:=⟨b,d+k*4+3,none⟩) (by show b<_;omega)).trans z;have I:=(c.cell (p:=⟨h,a+k*4,none⟩) (by show h<_;omega)).trans y;have G:=(c.cell (p:=⟨h,a+k*4+1,none⟩) (by show h<_;omega)).trans x;have F:=(c.cell (p:=⟨h,a+k*4+2,none⟩) (by show h<_;omega)).trans v;have E:=(c.cell (p:=⟨h,a+k*4+3,none⟩) (by show h<_;omega)).trans t;clear C B A z y x v t D P o;go_wp2;go_region_held3 (λ w'=>w'.cell? ⟨b,d+k*4,none⟩=some (.int .i64 p)∧w'.cell? ⟨b,d+k*4+1,none⟩=some (.int .i64 q)∧w'.cell? ⟨b,d+k*4+2,none⟩=some (.int .i64 r)∧w'.cell? ⟨b,d+k*4+3,none⟩=some (.int .i64 s)∧w'.cell? ⟨h,a+k*4,none⟩=some (.int .i64 p)∧w'.cell? ⟨h,a+k*4+1,none⟩=some (.int .i64 q)∧w'.cell? ⟨h,a+k*4+2,none⟩=some (.int .i64 r)∧w'.cell? ⟨h,a+k*4+3,none⟩=some (.int .i64 s)) ((first | exact⟨M,L,K,J,I,G,F,E⟩ | exact⟨(j.cell (by first | exact g | exact f)).trans M,(j.cell (by first | exact g | exact f)).trans L,(j.cell (by first | exact g | exact f)).trans K,(j.cell (by first | exact g | exact f)).trans J,(j.cell (by first | exact g | exact f)).trans I,(j.cell (by first | exact g | exact f)).trans G,(j.cell (by first | exact g | exact f)).trans F,(j.cell (by first | exact g | exact f)).trans E⟩)) (first | (go_at_call 73;refine(eq1 p q r s _).mono ?_;rintro e N ⟨rfl,m⟩;have j:Below wr.heap.size wr N:=Below.then_ (by go_grown) m (by go_size)));go_wp2;go_roundw
   case rel=>exact⟨k+1,by omega,by go_num,c.trans (j.mono O)⟩
   case measure=>simp [intOf];omega
  ·go_wp2;go_ret;exact⟨rfl,c⟩
def markL (k n:Nat):List (Int × Int × Int × Int):=(List.range n).map λ i=>(((k+i*4:Nat):Int),((k+i*4+1:Nat):Int),((k+i*4+2:Nat):Int),((k+i*4+3:Nat):Int))
theorem markL_len (k n:Nat):(markL k n).length=n:=by simp [markL]
theorem markL_at (k n i:Nat) (h:i<n):(markL k n)[i]?=some (((k+i*4:Nat):Int),((k+i*4+1:Nat):Int),((k+i*4+2:Nat):Int),((k+i*4+3:Nat):Int)):=by simp [markL,h]
theorem markL_succ (k n:Nat):markL k (n+1)=markL k n++[(((k+n*4:Nat):Int),((k+n*4+1:Nat):Int),((k+n*4+2:Nat):Int),((k+n*4+3:Nat):Int))]:=by simp [markL,List.range_succ]
theorem markS (lo hi:Nat) (v:Value) (k:Nat) (xs:List (Int × Int × Int × Int)) (w:World) (hn:xs.length<=1048576) (hk:k<=16777216) (h:OwnS w lo hi 55 4 enI4 v xs) :
  Calls Tryz.prog 27 #[v,.int .i64 k] w λ e w'=>e=.returned (.int .i64 ((k+xs.length*4:Nat):Int))∧w.grownBy w' v.ownBlock∧OwnS w' lo hi 55 4 enI4 v (markL k xs.length):=by
 rcases h.cases_ with ⟨rfl,rfl⟩ | ⟨g,cap,rest,rfl,hlo,hhi,b,hnc,hcm,hl⟩
 ·go_enter Tryz.func27,Tryz.ntmps27;go_wp2;go_rounds 1;go_ret;exact⟨rfl,grownBy_refl _ _,OwnS.nil_ _ _ _ _ _ _⟩
 ·generalize hnn:xs.length=n at *
  have H:=kD hnn;clear hnn;have y:=kD hl;clear hl;have b:=kD b;unfold maxLen at hcm;go_enter Tryz.func27,Tryz.ntmps27;go_wp2;go_loopw [1,5] (λ q i wr=>∃ j:Nat,j<=n∧i=.int .i64 j∧q=.int .i64 ((k:Int)+(j:Int)*4)∧w.grownBy wr (some g)∧Hid (RowB wr g 55 ((markL k j++xs.drop j).flatMap enI4++rest))) (λ _ i _=>n - (intOf i).toNat)
  case atStart=>exact⟨0,Nat.zero_le _,rfl,by go_num,grownBy_refl _ _,by simpa [markL] using b⟩
  case round =>
   obtain⟨j,E,rfl,rfl,l,a⟩:=hrel;clear b;by_cases hlt:j<n
   ·have f:j*4+4<=((markL k j++xs.drop j).flatMap enI4++rest).length:=by
     rw [List.length_append,flatMap_len enI4_len,List.length_append,markL_len,List.length_drop,H.out];omega
    obtain⟨D,r⟩:∃ z,wr.cell? ⟨g,j*4,none⟩=some z:=⟨_,(a.out.cell _).trans (List.getElem?_eq_getElem (by omega))⟩;obtain⟨C,p⟩:∃ z,wr.cell? ⟨g,j*4+1,none⟩=some z:=⟨_,(a.out.cell _).trans (List.getElem?_eq_getElem (by omega))⟩;obtain⟨B,o⟩:∃ z,wr.cell? ⟨g,j*4+2,none⟩=some z:=⟨_,(a.out.cell _).trans (List.getElem?_eq_getElem (by omega))⟩;obtain⟨A,m⟩:∃ z,wr.cell? ⟨g,j*4+3,none⟩=some z:=⟨_,(a.out.cell _).trans (List.getElem?_eq_getElem (by omega))⟩;clear f;have t:=a.out.frozen;go_wp2;go_roundw
    case rel =>
     refine⟨j+1,by omega,by go_num,by congr 1;omega,?_,?_⟩
     ·exact grownBy_trans (grownBy_trans (grownBy_trans (grownBy_trans l (grownBy_setCell _ _ _ _)) (grownBy_setCell _ _ _ _)) (grownBy_setCell _ _ _ _)) (grownBy_setCell _ _ _ _)
     ·have:=((((a.out.set (j*4) (.int .i64 ((k:Int)+(j:Int)*4))).set (j*4+1) (.int .i64 ((k:Int)+(j:Int)*4+1))).set (j*4+2) (.int .i64 ((k:Int)+(j:Int)*4+2))).set (j*4+3) (.int .i64 ((k:Int)+(j:Int)*4+3)));have x:xs.drop j=xs[j]'(by rw [H.out];exact hlt) :: xs.drop (j+1):=List.drop_eq_getElem_cons (by rw [H.out];exact hlt);rw [x] at this;rw [markL_succ];have s:((markL k j).flatMap enI4).length=j*4:=by rw [flatMap_len enI4_len,markL_len]
      have e:=mark_fill4 ((markL k j).flatMap enI4) ((xs.drop (j+1)).flatMap enI4++rest) (xs[j]'(by rw [H.out];exact hlt)) (((k:Int)+(j:Int)*4),((k:Int)+(j:Int)*4+1),((k:Int)+(j:Int)*4+2),((k:Int)+(j:Int)*4+3)) (j*4) s;simp only [List.flatMap_append,List.flatMap_cons,List.flatMap_nil,List.append_nil,List.append_assoc] at this e ⊢;rw [e] at this;exact kD (by simpa [Int.natCast_add,Int.natCast_mul,Int.add_assoc] using this)
    case measure=>simp [intOf];omega
   ·obtain rfl:j=n:=by omega
    have d:=a.out;clear a;rw [List.drop_of_length_le (by rw [H.out];exact Nat.le_refl _),List.append_nil] at d;have a:=kD d;clear d;go_wp2;go_ret;refine⟨by simp,l,?_⟩;have c:=markL_len k j;have:=OwnS.mk_ (lo:=lo) (hi:=hi) (cap:=cap) enI4_len a.out hlo hhi (by rw [c];omega) (by unfold maxLen;omega) (by rw [c];exact y.out);rw [c] at this;exact this
end VdS
namespace VdP
open Go Go.ChangeShapes Go.WideShapes Go.ChangeAt Go.RowKit Base Base2 Ints Own RelG PlP TxP Gm HmP RegInv RegF RegG Bd1 Bd5 VdS
theorem rdV_at {w:World} {B:Nat} {A:Option Addr} {xs:List V4} (h:RdS w B 4 enI4 A xs) {i:Nat} (hi:i<xs.length) :
  ∃ b off p q r s,A=some ⟨b,off,none⟩∧b<B∧xs[i]?=some (p,q,r,s)∧w.cell? ⟨b,off+i*4,none⟩=some (.int .i64 p)∧w.cell? ⟨b,off+i*4+1,none⟩=some (.int .i64 q)∧w.cell? ⟨b,off+i*4+2,none⟩=some (.int .i64 r)∧w.cell? ⟨b,off+i*4+3,none⟩=some (.int .i64 s):=by
 obtain⟨b,off,⟨p,q,r,s⟩,e,d,c,a⟩:=h.at_ hi;exact⟨b,off,p,q,r,s,e,d,c,a 0 _ rfl,a 1 _ rfl,a 2 _ rfl,a 3 _ rfl⟩
theorem heldVd (B:Nat) (A:Option Addr) (c k n:Nat) (w:World) (hn:n<=1048576) (hk:k<=16777216) (h:RdS w B 4 enI4 A (markL k n)) :
  Calls Tryz.prog 28 #[.slice A n c,.int .i64 k] w λ e w'=>e=.returned (.int .i64 ((k+n*4:Nat):Int))∧w=w':=by
 go_enter Tryz.func28,Tryz.ntmps28;go_wp2;go_loop [1,5] (λ q i=>∃ j:Nat,j<=n∧i=.int .i64 j∧q=.int .i64 ((k:Int)+(j:Int)*4)) (λ _ i=>n - (intOf i).toNat)
 case atStart=>exact⟨0,Nat.zero_le _,rfl,by go_num⟩
 case round =>
  obtain⟨j,o,rfl,rfl⟩:=hrel;by_cases hlt:j<n
  ·obtain⟨b,d,x,y,z,t,rfl,p,a,m,l,g,f⟩:=rdV_at h (by rw [markL_len];exact hlt);rw [markL_at k n j hlt] at a;simp only [Option.some.injEq,Prod.mk.injEq] at a;obtain⟨rfl,rfl,rfl,rfl⟩:=a;rw [show ((k+j*4:Nat):Int)=(k:Int)+(j:Int)*4 by omega] at m;rw [show ((k+j*4+1:Nat):Int)=(k:Int)+(j:Int)*4+1 by omega] at l;rw [show ((k+j*4+2:Nat):Int)=(k:Int)+(j:Int)*4+1+1 by omega] at g;rw [show ((k+j*4+3:Nat):Int)=(k:Int)+(j:Int)*4+1+1+1 by omega] at f;have C:(((k:Int)+(j:Int)*4) != ((k:Int)+(j:Int)*4))=false:=by simp
   have v:(((k:Int)+(j:Int)*4+1) != ((k:Int)+(j:Int)*4+1))=false:=by simp
   have s:(((k:Int)+(j:Int)*4+1+1) != ((k:Int)+(j:Int)*4+1+1))=false:=by simp
   have r:(((k:Int)+(j:Int)*4+1+1+1) != ((k:Int)+(j:Int)*4+1+1+1))=false:=by simp
   go_wp2;go_round
   case rel=>exact⟨j+1,by omega,by go_num,by congr 1;omega⟩
   case measure=>simp [intOf];omega
  ·obtain rfl:j=n:=by omega
   go_wp2;go_ret;exact⟨by simp,rfl⟩
theorem BF.ownV {lo l h:Nat} {w w':World} {v:Value} {xs:List V4} (B:BF lo w w') (ho:OwnS w l h 55 4 enI4 v xs):OwnS w' l h 55 4 enI4 v xs:=by
 rcases ho.cases_ with ⟨rfl,rfl⟩ | ⟨g,cap,rest,rfl,hlo,hhi,hR0,hnc,hcm,hl⟩
 ·exact OwnS.nil_ _ _ _ _ _ _
 ·exact OwnS.mk_ enI4_len' (B.fr _ _ _ hR0 (by decide) (by decide)) hlo hhi hnc hcm hl
theorem rv_len (v:Vr) (n:Int) (es:List Ev) (d:Int):(rvR v n es d).1.length<=es.length:=by
 unfold rvR;split
 ·exact vdGo_len _ _ _ _ _ _
 ·exact Nat.zero_le _
theorem walkR (v:Vr) (n:Int) (Ae:Option Addr) (ce:Nat) (es:List Ev) (d:Int) (w:World) (hes:EvL w All Ae es) {Pd:Prop} (hPd:Pd) :
  Calls Tryz.prog 5 #[.agg #[.int .i64 v.p,.int .i64 v.c,.int .i64 v.h,.int .i64 v.s,.int .i64 n,.slice Ae es.length ce],.int .i64 d] w λ e w'=>e=.returned (.bool true)∧Below w.heap.size w w':=by
 clear hPd Pd;have CZ:=kD (λ(b:World) (h9:Below w.heap.size w b)=>szM v n Ae ce es 1048576 b (hes.keep (.below h9)) (by decide) (by decide));have CT:=kD (λ(hn:es.length<=1048576) (hs:∀ e ∈ es,e.ss.length<=1048576) (b:World) (h9:Below w.heap.size w b)=>toM v n Ae ce es b (hes.keep (.below h9)) hn hs);have D:=rv_len v n es d;obtain⟨R,hR⟩:∃ R,rvR v n es d=R:=⟨_,rfl⟩;have CP:=kD (λ(A:Option Addr) (c:Nat) (b:World) (h9:EvL b All A es)=>rv_s v n es A c d b h9 R hR);have CI:=kD (λ(A:Option Addr) (c:Nat) (b:World) (h9:EvL b All A es)=>rv_i v n es A c d b h9 R hR);rw [hR] at D;obtain⟨L,Z⟩:=R;simp only at CP CI D;have CE:=kD (λ(aJ aI:Nat) (V A2:Option Addr) (n1 n2 c1 c2:Nat) (b:World) h1 h2=>eqM v n aJ aI V A2 n1 n2 c1 c2 es b h1 h2);have CM:=kD (λ(S:Nat) (V:Option Addr) (n1 c1:Nat) (b:World) (h:Evs b S (.slice V n1 c1) es) (al:S<=b.heap.size) (hn:es.length<=1048576) (hs:∀ e ∈ es,e.ss.length<=1048576)=>markM v n S V n1 c1 es 1 b h al hn hs (by decide));obtain⟨Q,hQ⟩:∃ Q,mkN 1 (es.map λ e=>e.ss.length)=Q:=⟨_,rfl⟩;rw [hQ] at CM;have CQ:=kD (λ(B1 B2:Nat) (V A2:Option Addr) (c1 c2:Nat) (b:World) (h1:RdS b B1 4 enI4 V L) (h2:RdS b B2 4 enI4 A2 L) (aL:B1<=b.heap.size) (aK:B2<=b.heap.size)=>eqS B1 B2 V A2 c1 c2 L b h1 h2 aL aK);have CK:=kD (λ(S hi:Nat) (u:Value) (b:World) (hn:L.length<=1048576) (h:OwnS b S hi 55 4 enI4 u L)=>markS S hi u 1 L b hn (by decide) h);have CH:=kD (λ(B:Nat) (A:Option Addr) (c:Nat) (b:World) (hn:L.length<=1048576) (h:RdS b B 4 enI4 A (markL 1 L.length))=>heldVd B A c 1 L.length b hn (by decide) h);obtain⟨P,hP⟩:∃ P,1+L.length*4=P:=⟨_,rfl⟩;rw [hP] at CK CH;obtain⟨N,hN⟩:∃ N,L.length=N:=⟨_,rfl⟩;have HN:=kD hN;rw [hN] at CQ CK CH D;have aC:(markL 1 N).length=N:=markL_len 1 N;have aU:=kD aC;obtain⟨M,hM⟩:∃ M,es.length=M:=⟨_,rfl⟩;rw [hM] at CZ CT CP CI CM D ⊢;have nz:(Z != Z)=false:=by simp
 have np:((P:Int) != (P:Int))=false:=by simp
 have p0:¬ (P:Int)<0:=by omega
 have aO:¬ (Q:Int)<0:=by omega
 clear hM hes hR hN hQ hP aC;go_enter Tryz.func5,Tryz.ntmps5;go_upto_region 1 with fail;refine wp_gen (λ W'=>Gm.Rows w W' [(0,70,[.int .i64 v.p,.int .i64 v.c,.int .i64 v.h,.int .i64 v.s,.int .i64 n,.slice Ae M ce])]) ⟨by go_grown,λ p T=>?_⟩ ?_
 ·obtain rfl:=List.mem_singleton.1 T;exact RowB.new _ _ _
 intro w1 K;have j:=K.nth0 0 rfl;obtain⟨q0,q1,q2,Y,X,W⟩:=j.c6;have l:=j.lt;go_wp2_with fail;refine(CZ.out _ K.bel).mono ?_;rintro e w2 ⟨q,rfl,a,hq⟩;have K:=K.below a;have HQ:=kD hq;clear q0 q1 q2 Y X W l j a hq CZ;by_cases hn:q<0
 ·have am:=K.bel;clear K;go_wp2_with fail;go_ret;exact⟨rfl,am⟩
 have z:=HQ.out (by omega);have CT:=kD (CT.out z.1 z.2);have CM:=kD (λ S V n1 c1 b h al=>CM.out S V n1 c1 b h al z.1 z.2);have ao:N<=1048576:=Nat.le_trans D z.1;have CK:=kD (λ S hi u b h=>CK.out S hi u b ao h);have CH:=kD (λ B A c b h=>CH.out B A c b ao h);clear HQ z D ao;have j:=K.nth0 0 rfl;obtain⟨q0,q1,q2,Y,X,W⟩:=j.c6;have l:=j.lt;go_wp2_with fail;refine(CT.out _ K.bel).mono ?_;rintro e w3 ⟨V,rfl,a,h1⟩;have K:=K.below a;clear q0 q1 q2 Y X W l j a;go_wp2_with fail;refine(CP.out _ _ _ h1.evl).mono ?_;rintro e w4 ⟨uo,rfl,aA,a⟩;obtain⟨A6,c6,aw,az⟩:=aA.form enI4_len';rw [HN.out] at aw;subst aw;have K:=K.below a;have i:=kD az;clear a h1 CP aA az;have j:=K.nth0 0 rfl;obtain⟨q0,q1,q2,Y,X,W⟩:=j.c6;have l:=j.lt;go_wp2_with fail;refine(CT.out _ K.bel).mono ?_;rintro e w5 ⟨A2,rfl,a,h2⟩;have K:=K.below a;have aP:w.heap.size<w4.heap.size:=l;have i:=kD (i.out.below a (Nat.le_refl _));have af:=a.size;clear q0 q1 q2 Y X W l j a;go_upto_region 7 with fail;refine wp_gen (λ W'=>Gm.Rows w W' [(0,70,[.int .i64 v.p,.int .i64 v.c,.int .i64 v.h,.int .i64 v.s,.int .i64 n,.slice Ae M ce])]∧RowB W' w5.heap.size 48 [.int .i64 v.p,.int .i64 v.c,.int .i64 v.h,.int .i64 v.s,.int .i64 n,.slice A2 M M]∧Hid (Evs W' w4.heap.size (.slice A2 M M) es)∧Hid (RdS W' w4.heap.size 4 enI4 A6 L)∧w4.heap.size<=W'.heap.size) ⟨K.below ((Below.refl _ _).alloc (Nat.le_refl _) _),RowB.new _ _ _,kD (h2.below ((Below.refl _ _).alloc (Nat.le_refl _) _)),kD (i.out.below ((Below.refl _ _).alloc (Nat.le_refl _) _) af),by simp;omega⟩ ?_;clear K h2 i af;obtain⟨gx,aB⟩:∃ q,w5.heap.size=q:=⟨_,rfl⟩;rw [aB];clear aB;rintro w6 ⟨K,o,ap,i,ay⟩;obtain⟨x0,x1,x2,x3,x4,x5⟩:=o.c6;have C:=o.lt;go_wp2_with fail;refine(CI.out _ _ _ ap.out.evl).mono ?_;rintro e w7 ⟨uo,rfl,ak,a⟩;obtain⟨A9,c9,av,k⟩:=ak.form enI4_len';rw [HN.out] at av;subst av;have aa:=Nat.le_trans ay a.size;have G:=kD ak;have K:=K.below a;have o:=o.below a C;have HE:=kD (ap.out.below a);have i:=kD (i.out.below a ay);clear x0 x1 x2 x3 x4 x5 C a ap ak;go_wp2_with fail;refine(CQ.out _ _ _ _ _ _ w7 k i.out (Nat.le_refl _) aa).mono ?_;rintro e w8 ⟨rfl,a⟩;have HK:=kD (K.below a);have o:=kD (o.below a o.lt);have HE:=kD (HE.out.below a);have G:=kD ((G.out.below a (Nat.le_refl _)).more a.size);have i:=kD (i.out.below a aa);have aj:=Nat.le_trans aa a.size;clear a k K aa;go_upto_region 10 with fail;refine region_rel [some 45,some 46,some 47,some 48,some 49] 5 (Pl [some (.agg #[.int .i64 v.p,.int .i64 v.c,.int .i64 v.h,.int .i64 v.s,.int .i64 n,.slice A2 M M]),some (.agg #[.int .i64 v.p,.int .i64 v.c,.int .i64 v.h,.int .i64 v.s,.int .i64 n,.slice Ae M ce]),none,some (.bool true),some (.bool false)]) (λ L g w'=>EqF w8 v n M es (L 2) (g 2) w') (by kernel_rfl) (by kernel_rfl) (by kernel_rfl) (by kernel_rfl) (by kernel_rfl) (by kernel_rfl) (by first | kernel_rfl | rfl) ?g0_1 ?gst_1 ?gfin_1
 case g0_1=>exact⟨(Below.refl _ _).drew,λ h=>absurd h (by decide)⟩
 case gst_1 =>
  refine rN rfl (λ L g A b ab O ac U F K hK=>?_) ?_
  ·have e8:=U.w 8 (.pointer (some ⟨gx,0,none⟩));have j:=(HK.out.below F.bel).nth0 0 rfl;obtain⟨q0,q1,q2,Y,X,W⟩:=j.c6;have l:=j.lt;have rx:=o.out.below F.bel o.out.lt;obtain⟨x0,x1,x2,x3,x4,x5⟩:=rx.c6;have C:=rx.lt;clear j rx;go_simp;exact pF hK (F.skip 0 _)
  refine rN rfl (λ L g A b ab O ac U F K hK=>?_) ?_
  ·have e2:=U.w 2 (.pointer (some ⟨w.heap.size,0,none⟩));have j:=(HK.out.below F.bel).nth0 0 rfl;obtain⟨q0,q1,q2,Y,X,W⟩:=j.c6;have l:=j.lt;have rx:=o.out.below F.bel o.out.lt;obtain⟨x0,x1,x2,x3,x4,x5⟩:=rx.c6;have C:=rx.lt;clear j rx;go_simp;exact pF hK (F.skip 1 _)
  refine rN rfl (λ L g A b ab O ac U F K hK=>?_) ?_
  ·have aR:=U.v 1 46;go_simp;refine(CT.out b (HK.out.bel.trans (F.bel.mono HK.out.bel.size))).mono ?_;rintro e w6 ⟨A3,rfl,an,h3⟩;exact hK.out _ w6 (Pl.any rfl) ⟨F.bel.trans (an.mono F.bel.size),λ _=>⟨A3,by rw [upd_same],h3.less F.bel.size⟩⟩
  refine rN rfl (λ L g A b ab O ac U F K hK=>?_) ?_
  ·have aS:=U.v 0 45;have aD:=U.x 2 47;refine(F.f2 (bK O 2)).elim λ A3 q=>?_
   have aM:=aD.trans q.1;clear aD;go_simp;refine(CE.out _ _ _ _ _ _ _ _ b (HE.out.below F.bel) q.2).mono ?_;rintro e w6 ⟨rfl,an⟩;exact pF hK (F.call 3 _ (by decide) an)
  refine rN rfl (λ L g A b ab O ac U F K hK=>?_) ?_
  ·have aQ:=U.v 3 48;go_simp;exact pF hK (F.skip 4 _)
  exact RelFrom.nil (by decide)
 intro g b T F;simp only [Fr,Act.put,sX,Nat.reduceAdd];have h4:g 4=.bool false:=T 4 (by decide) _ rfl;rw [h4];have m:=F.bel;have K:=HK.out.below m;have o:=o.out.below m o.out.lt;have hE:=HE.out.below m;have G:=kD ((G.out.below m (Nat.le_refl _)).more m.size);have i:=kD (i.out.below m aj);have ax:=Nat.le_trans aj m.size;clear F T h4 HK HE CE m aj;obtain⟨x0,x1,x2,x3,x4,x5⟩:=o.c6;have C:=o.lt;go_wp2_with fail;refine(CM.out w4.heap.size A2 M M b hE ax).mono ?_;rintro e ar ⟨rfl,t,-⟩;have K:Gm.Rows w ar [(0,70,[.int .i64 v.p,.int .i64 v.c,.int .i64 v.h,.int .i64 v.s,.int .i64 n,.slice Ae M ce])]:=⟨K.bel.trans (t.bel.mono (by omega)),λ p T=>by
  have h0:=K.at_ _ T;obtain rfl:=List.mem_singleton.1 T;exact h0.below t.bel (by simp only;omega)⟩
 have G:=kD (BF.ownV t G.out);have i:=kD (i.out.below t.bel (Nat.le_refl _));have f:=t.bel.size;have y:=Nat.le_trans ax t.bel.size;have k:=G.out.rd enI4_len';clear x0 x1 x2 x3 x4 x5 C o hE t CM;go_wp2_with fail;refine(CQ.out _ _ _ _ _ _ ar k i.out f y).mono ?_;rintro e aH ⟨rfl,a⟩;have K:=K.below a;have G:=kD (G.out.below a f);have i:=kD (i.out.below a y);have J:=Nat.le_trans y a.size;have f:=Nat.le_trans f a.size;clear a k y;go_wp2_with fail;refine(CK.out _ _ _ aH G.out).mono ?_;rintro e aq ⟨rfl,hg,ho⟩;have ad:=G.out.block;have K:Gm.Rows w aq [(0,70,[.int .i64 v.p,.int .i64 v.c,.int .i64 v.h,.int .i64 v.s,.int .i64 n,.slice Ae M ce])]:=⟨K.bel.grown hg K.bel.size (λ r hr=>by have:=(ad r hr).1;omega),λ p T=>by
  have h0:=K.at_ _ T;obtain rfl:=List.mem_singleton.1 T;exact h0.grown hg (λ r hr=>by have:=(ad r hr).1;simp only;omega)⟩
 have i:=kD (i.out.grown hg J (λ r hr=>by have:=(ad r hr).1;omega));have E:=kD ho;have I:=Nat.le_trans J hg.size;have f:=Nat.le_trans f hg.size;have k:=ho.rd enI4_len';clear hg ho ad G CK J;go_wp2_with fail;refine(CH.out _ _ _ aq k).mono ?_;rintro e aG ⟨rfl,rfl⟩;clear k;have j:=K.nth0 0 rfl;obtain⟨q0,q1,q2,Y,X,W⟩:=j.c6;have l:=j.lt;go_wp2_with fail;refine(CT.out _ K.bel).mono ?_;rintro e aG ⟨A3,rfl,a,h3⟩;have K:=K.below a;have i:=kD (i.out.below a I);have E:=kD (E.out.below a f);have H:=Nat.le_trans I a.size;have f:=Nat.le_trans f a.size;clear q0 q1 q2 Y X W l j a CT I;go_wp2_with fail;refine(CI.out _ _ _ h3.evl).mono ?_;rintro e aF ⟨uo,rfl,ai,a⟩;obtain⟨aV,aT,ae,ah⟩:=ai.form enI4_len';rw [HN.out] at ae;subst ae;have K:=K.below a;have i:=kD (i.out.below a H);have E:=kD (E.out.below a f);have ag:=Nat.le_trans H a.size;have f:=Nat.le_trans f a.size;clear a h3 ai H CI;go_wp2_with fail;refine(CQ.out _ _ _ _ _ _ aF ah i.out (Nat.le_refl _) ag).mono ?_;rintro e aE ⟨rfl,a⟩;have am:=(K.below a).bel;have k:=(E.out.below a f).rd enI4_len';clear a ah K i E CQ ag f;go_wp2_with fail;refine(CH.out _ _ _ aE k).mono ?_;rintro e aN ⟨rfl,rfl⟩;clear k CH;go_wp2_with fail;go_ret;exact⟨rfl,am⟩
end VdP
end Go.Proofs.YtmncnhbjifeoeaaGreat
