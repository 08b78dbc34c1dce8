/- Parts of the proof of FnExactReviewMatch. Conditions: each theorem's own. -/
import Derived.Test.YtmncnhbjifeoeaaGreatQ35
set_option linter.unusedVariables false
set_option linter.unusedSimpArgs false
set_option maxHeartbeats 8000000
set_option maxRecDepth 100000
namespace Go.Proofs.YtmncnhbjifeoeaaGreat
namespace Gm
open Go Go.ChangeShapes Go.WideShapes Go.ChangeAt Go.RowKit Base Ints Own RelG PlP TxP Bd1 Bd5 RegInv RegF RegG TxI TsI Bd36
def mkEv (k n:Nat):Ev:=⟨(k:Int),(k:Int)+1,(k:Int)+2,markL (k+3) n,(k:Int)+3+(n:Int)*4⟩
def mkN:Nat->List Nat->Nat
 | k,[]=>k
 | k,n :: ns=>mkN (k+4+n*4) ns
def mkEs:Nat->List Nat->List Ev
 | _,[]=>[]
 | k,n :: ns=>mkEv k n :: mkEs (k+4+n*4) ns
theorem mkEs_len:∀(ns:List Nat) (k:Nat),(mkEs k ns).length=ns.length
 | [],_=>rfl
 | n :: ns,k=>by simp [mkEs,mkEs_len ns]
theorem mkN_bd:∀(ns:List Nat) (k:Nat),(∀ n ∈ ns,n<=1048576)->mkN k ns<=k+4194308*ns.length
 | [],k,_=>by simp [mkN]
 | n :: ns,k,h=>by
  have h1:=h n (by simp);have h2:=mkN_bd ns (k+4+n*4) (λ m hm=>h m (by simp [hm]));simp only [mkN,List.length_cons];omega
theorem mkN_snoc:∀(ns:List Nat) (n k:Nat),mkN k (ns++[n])=mkN k ns+4+n*4
 | [],n,k=>rfl
 | m :: ns,n,k=>by simp only [List.cons_append,mkN];exact mkN_snoc ns n _
theorem mkEs_snoc:∀(ns:List Nat) (n k:Nat),mkEs k (ns++[n])=mkEs k ns++[mkEv (mkN k ns) n]
 | [],n,k=>rfl
 | m :: ns,n,k=>by simp only [List.cons_append,mkEs,mkN];rw [mkEs_snoc ns n _]
theorem flat_set:∀ {rs:List ERow} {r r':ERow} {j f:Nat} {u:Value} (rest:List Value),rs[j]?=some r->f<5->(enEv r).set f u=enEv r'->(rs.flatMap enEv++rest).set (j*5+f) u=(rs.set j r').flatMap enEv++rest
 | q :: rs,r,r',0,f,u,rest,h,hf,he=>by
  simp only [List.getElem?_cons_zero,Option.some.injEq] at h;subst h;simp only [List.flatMap_cons,List.append_assoc,List.set_cons_zero,Nat.zero_mul,Nat.zero_add];rw [List.set_append_left _ _ (by rw [enEv_len];exact hf),he]
 | q :: rs,r,r',j+1,f,u,rest,h,hf,he=>by
  simp only [List.getElem?_cons_succ] at h;have ih:=flat_set (rs:=rs) rest h hf he;simp only [List.flatMap_cons,List.append_assoc,List.set_cons_succ];rw [List.set_append_right _ _ (by rw [enEv_len];omega),enEv_len,show (j+1)*5+f - 5=j*5+f by omega,ih]
theorem Evs.at {w:World} {lo:Nat} {ev:Value} {es:List Ev} (h:Evs w lo ev es) {j:Nat} {e:Ev} (hj:es[j]?=some e) :
  ∃ g cap A c,ev=.slice (some ⟨g,0,none⟩) es.length cap∧lo<=g∧g<w.heap.size ∧
   w.cell? ⟨g,j*5,none⟩=some (.int .i64 e.k)∧w.cell? ⟨g,j*5+1,none⟩=some (.int .i64 e.a)∧w.cell? ⟨g,j*5+2,none⟩=some (.int .i64 e.b)∧w.cell? ⟨g,j*5+3,none⟩=some (.slice A e.ss.length c)∧w.cell? ⟨g,j*5+4,none⟩=some (.int .i64 e.r) ∧
   (∀ i,w.frozen? ⟨g,i,none⟩=false)∧OwnS w lo w.heap.size 150 4 enSt (.slice A e.ss.length c) e.ss∧(Value.slice A e.ss.length c).ownBlock≠some g:=by
 obtain⟨s,C,z,H⟩:=h;have v:=(List.getElem?_eq_some_iff.1 hj).1;have p:j<s.length:=by rw [z.1];exact v
 obtain⟨x,B,q⟩:=z.at_ (List.getElem?_eq_getElem p);rw [hj] at B;obtain rfl:=Option.some.inj B;rcases C.cases_ with ⟨_,e0⟩ | ⟨g,cap,rest,rfl,hlo,hhi,hrow,_⟩
 ·rw [e0] at p;simp at p
 obtain⟨A,c,m,-⟩:=q.2.1.form enSt_len;have l:=own_lo q.2 (lo:=lo) (λ b y=>y.2);have n:(s[j]).2.2.2.1.ownBlock≠some g:=λ e=>(q.2.2 g e).1 rfl
 rw [m] at l n;have d:∀ f u,(enEv s[j])[f]?=some u->w.cell? ⟨g,j*5+f,none⟩=some u:=λ f u D=>by
  obtain⟨b,o,e,_,F⟩:=(C.rd enEv_len).2 (by omega);simp only [Option.some.injEq,Addr.mk.injEq,and_true] at e;obtain⟨rfl,rfl⟩:=e;have:=F j _ (List.getElem?_eq_getElem p) f u D
  rwa [Nat.zero_add] at this
 obtain⟨E,G,y,t⟩:=q.1;refine⟨g,cap,A,c,by rw [z.1],hlo,hhi,?_,?_,?_,?_,?_,hrow.frozen,l,n⟩
 ·rw [<-E];exact d 0 _ rfl
 ·rw [<-G];exact d 1 _ rfl
 ·rw [<-y];exact d 2 _ rfl
 ·rw [<-m];exact d 3 _ rfl
 ·rw [<-t];exact d 4 _ rfl
theorem pw_set {rs:List ERow} {j:Nat} {r r':ERow} (hj:rs[j]?=some r) (he:r'.2.2.2.1=r.2.2.2.1) (h:rs.Pairwise (λ r q=>Apart r.2.2.2.1 q.2.2.2.1)):(rs.set j r').Pairwise (λ r q=>Apart r.2.2.2.1 q.2.2.2.1):=by
 have e:(rs.set j r').map (λ r=>r.2.2.2.1)=rs.map (λ r=>r.2.2.2.1):=by
  obtain⟨a,b⟩:=List.getElem?_eq_some_iff.1 hj;rw [List.map_set,he,<-b];refine List.ext_getElem? λ i=>?_
  rw [List.getElem?_set];split
  ·rename_i h;subst h;simp [a]
  ·rfl
 rw [<-List.pairwise_map (f:=λ r:ERow=>r.2.2.2.1) (R:=Apart)] at h ⊢;rw [e];exact h
theorem Evs.setF {w:World} {lo g m cap:Nat} {es:List Ev} (h:Evs w lo (.slice (some ⟨g,0,none⟩) m cap) es) {j:Nat} {e:Ev} (hj:es[j]?=some e) (f:Nat) (z:Int) (e':Ev) (hf:f<5) (hss:e'.ss=e.ss)
  (hrow:∀ sv,(enEv (e.k,e.a,e.b,sv,e.r)).set f (.int .i64 z)=enEv (e'.k,e'.a,e'.b,sv,e'.r)):Evs (w.setCell ⟨g,j*5+f,none⟩ (.int .i64 z)) lo (.slice (some ⟨g,0,none⟩) m cap) (es.set j e'):=by
 obtain⟨o,K,t,J⟩:=h;have s:=(List.getElem?_eq_some_iff.1 hj).1;have C:j<o.length:=by rw [t.1];exact s
 have n:=List.getElem?_eq_getElem C;obtain⟨x,B,E⟩:=t.at_ n;rw [hj] at B;obtain rfl:=Option.some.inj B;have A:=Base.grownBy_setCell w g (j*5+f) (.int .i64 z);have p:∀ S:Nat->Prop,(∀ b,S b->b≠g)->Still S w (w.setCell ⟨g,j*5+f,none⟩ (.int .i64 z)):=λ S I=>Still.grown A (λ k D F=>by simp at D;exact I k F D.symm)
 have q:∀ b,NotIn (.slice (some ⟨g,0,none⟩) m cap) lo b->b≠g:=λ b H e=>H.1 (by rw [e];rfl)
 have v:(w.setCell ⟨g,j*5+f,none⟩ (.int .i64 z)).heap.size=w.heap.size:=by simp [World.setCell]
 rcases K.cases_ with ⟨e0,_⟩ | ⟨g',cap',rest,e0,hlo,hhi,hR0,hnc,hcm,hl⟩
 ·simp at e0
 simp only [Value.slice.injEq,Option.some.injEq,Addr.mk.injEq,and_true,true_and] at e0;obtain⟨rfl,G,rfl⟩:=e0;have y:enEv o[j]=enEv (e.k,e.a,e.b,(o[j]).2.2.2.1,e.r):=by
  obtain⟨O,N,M,L⟩:=E.1;simp only [enEv,O,N,M,L]
 have l:=hR0.set (j*5+f) (.int .i64 z);rw [flat_set (r':=(e'.k,e'.a,e'.b,(o[j]).2.2.2.1,e'.r)) rest n hf (by rw [y];exact hrow _)] at l;refine⟨o.set j (e'.k,e'.a,e'.b,(o[j]).2.2.2.1,e'.r),?_,⟨by simp [t.1],λ i r x d c=>?_⟩,pw_set n rfl J⟩
 ·have:=OwnS.mk_ (lo:=lo) (hi:=w.heap.size) (cap:=cap) enEv_len l hlo hhi (by rw [List.length_set];exact hnc) hcm (by rw [List.length_set];exact hl);rw [List.length_set,<-G] at this;rw [v];exact this
 ·rw [List.getElem?_set] at d c;by_cases hij:j=i
  ·subst hij;rw [if_pos rfl,if_pos C] at d;rw [if_pos rfl,if_pos s] at c;obtain rfl:=Option.some.inj d;obtain rfl:=Option.some.inj c;refine⟨⟨rfl,rfl,rfl,rfl⟩,?_⟩;rw [hss];exact(relO 150 4 enSt).keep E.2 (p _ q)
  ·rw [if_neg hij] at d c;exact RelEv.keep (t.2 i r x d c) (p _ q)
theorem Evs.setS {w w':World} {lo g m cap:Nat} {es:List Ev} (h:Evs w lo (.slice (some ⟨g,0,none⟩) m cap) es) {j:Nat} {e:Ev} (hj:es[j]?=some e) {A:Option Addr} {n c:Nat} (hc:w.cell? ⟨g,j*5+3,none⟩=some (.slice A n c)) (ss':List Stp)
  (hg:w.grownBy w' (Value.slice A n c).ownBlock) (ho:OwnS w' lo w.heap.size 150 4 enSt (.slice A n c) ss'):Evs w' lo (.slice (some ⟨g,0,none⟩) m cap) (es.set j { e with ss:=ss' }):=by
 obtain⟨y,I,v,H⟩:=h;have t:=(List.getElem?_eq_some_iff.1 hj).1;have z:j<y.length:=by rw [v.1];exact t
 have p:=List.getElem?_eq_getElem z;obtain⟨x,D,F⟩:=v.at_ p;rw [hj] at D;obtain rfl:=Option.some.inj D;have f:(y[j]).2.2.2.1=.slice A n c:=by
  obtain⟨b,o,K,_,B⟩:=(I.rd enEv_len).2 (by omega);simp only [Option.some.injEq,Addr.mk.injEq,and_true] at K;obtain⟨rfl,rfl⟩:=K;have:=B j _ p 3 _ rfl;rw [Nat.zero_add,hc] at this;exact(Option.some.inj this).symm
 have s:=λ b (d:(Value.slice A n c).ownBlock=some b)=>F.2.2 b (by rw [f];exact d)
 refine⟨y,?_,⟨by simp [v.1],λ i r x l a=>?_⟩,H⟩
 ·exact(OwnS.far I hg (λ b d L=>(s b d).1 L)).more hg.size
 ·rw [List.getElem?_set] at a;by_cases hij:j=i
  ·subst hij;rw [if_pos rfl,if_pos t] at a;rw [p] at l;obtain rfl:=Option.some.inj l;obtain rfl:=Option.some.inj a;refine⟨F.1,?_⟩;rw [f];exact⟨(ho.less (Nat.zero_le _)).more hg.size,λ b d=>s b d⟩
  ·rw [if_neg hij] at a;have q:=v.2 i r x l a;have C:Apart r.2.2.2.1 (.slice A n c):=by
    have G:=List.pairwise_iff_getElem.1 H;obtain⟨E,J⟩:=List.getElem?_eq_some_iff.1 l;rcases Nat.lt_or_ge i j with hlt' | hge
    ·have:=G i j E z hlt';rw [J,f] at this;exact this
    ·have:=G j i z E (by omega);rw [J,f] at this;exact this.symm
   refine⟨q.1,?_⟩;have O:OwnV 150 4 enSt w (λ b=>NotIn (.slice (some ⟨g,0,none⟩) m cap) lo b∧(Value.slice A n c).ownBlock≠some b) r.2.2.2.1 x.ss:=⟨q.2.1,λ b d=>⟨q.2.2 b d,C b d⟩⟩;exact(relO 150 4 enSt).weak (OwnV.keep O (Still.grown hg (λ k N M=>M.2 N))) (λ b d _=>d.1)
theorem below_ofGrown {lo:Nat} {w w':World} {row:Option Nat} (hg:w.grownBy w' row) (hlo:lo<=w.heap.size) (hr:∀ k,row=some k->lo<=k):Below lo w w' :=
 ⟨hg.os,hg.tape,hg.output,hg.size,λ i hi=>hg.block i (by omega) (λ e=>by have:=hr i e.symm;omega)⟩
structure BF (lo:Nat) (w w':World):Prop where
 bel:Below lo w w'
 fr:∀ b t cs,RowB w b t cs->t≠63->t≠150->RowB w' b t cs
theorem BF.refl (lo:Nat) (w:World):BF lo w w:=⟨Below.refl _ _,λ _ _ _ h _ _=>h⟩
theorem rowb_ty {w:World} {g:Nat} {t t':TypeId} {cs cs':List Value} (h:RowB w g t cs) (h':RowB w g t' cs'):t=t':=by
 have:=h.symm.trans h';simp only [Option.some.injEq,Obj.cells.injEq] at this;exact this.2.1
theorem BF.setE {lo g:Nat} {w wr:World} (h:BF lo w wr) (hg:lo<=g) (r:∃ cs,RowB wr g 63 cs) (j:Nat) (v:Value):BF lo w (wr.setCell ⟨g,j,none⟩ v):=by
 obtain⟨i,r⟩:=r;refine⟨h.bel.setCell hg v,λ b t cs d c f=>?_⟩;have a:=h.fr b t cs d c f;exact a.other (λ e=>by subst e;exact c (rowb_ty a r)) v
theorem BF.own {lo hi:Nat} {w wr w2:World} {sv:Value} {xs:List Stp} (h:BF lo w wr) (hlo:lo<=wr.heap.size) (ho:OwnS wr lo hi 150 4 enSt sv xs) (hg:wr.grownBy w2 sv.ownBlock):BF lo w w2:=by
 refine⟨h.bel.trans (below_ofGrown hg hlo (λ k a=>(ho.block k a).1)),λ b t j f i d=>?_⟩;have c:=h.fr b t j f i d;refine c.grown hg (λ k a e=>?_);subst e;rcases ho.cases_ with ⟨e0,_⟩ | ⟨g,cap,rest,e0,_,_,r,_⟩
 ·rw [e0] at a;simp [Value.ownBlock] at a
 ·rw [e0] at a;simp only [Value.ownBlock,Option.some.injEq] at a;subst a;exact d (rowb_ty c r)
theorem Evs.rowE {w:World} {lo g m c:Nat} {es:List Ev} (h:Evs w lo (.slice (some ⟨g,0,none⟩) m c) es):∃ cs,RowB w g 63 cs:=by
 obtain⟨b,a,-,-⟩:=h;rcases a.cases_ with ⟨e0,_⟩ | ⟨g',cap,rest,e0,_,_,r,_⟩
 ·simp at e0
 ·simp only [Value.slice.injEq,Option.some.injEq,Addr.mk.injEq,and_true,true_and] at e0;obtain⟨rfl,-,-⟩:=e0;exact⟨_,r⟩
theorem markEs (lo:Nat) (ev:Value) (es:List Ev) (k:Nat) (w:World) (h:Evs w lo ev es) (hlo:lo<=w.heap.size) (hn:es.length<=1048576) (hs:∀ e ∈ es,e.ss.length<=1048576) (hk:k<=100000) :
  Calls Tryz.prog 76 #[ev,.int .i64 (k:Int)] w λ e w'=>e=.returned (.int .i64 ((mkN k (es.map λ e=>e.ss.length):Nat):Int))∧BF lo w w'∧Evs w' lo ev (mkEs k (es.map λ e=>e.ss.length)):=by
 obtain⟨o,I⟩:∃ o,es.map (λ e=>e.ss.length)=o:=⟨_,rfl⟩;have ab:o.length=es.length:=by rw [<-I,List.length_map]
 have ay:∀ n ∈ o,n<=1048576:=λ n hn=>by
  rw [<-I] at hn;obtain⟨e,he,rfl⟩:=List.mem_map.1 hn;exact hs e he
 rw [I];obtain⟨A,c,d⟩:=h.form;obtain⟨N,hN⟩:∃ N,es.length=N:=⟨_,rfl⟩;rw [hN] at d ab hn;subst d;have H:=kD h;have HN:=kD hN;have aJ:=kD I;have al:=kD ab;have aC:=kD ay;clear h hN I ab ay hs;go_enter Tryz.func76,Tryz.ntmps76;go_wp2_with fail;go_loopw [1,5] (λ q i wr=>∃(j Q:Nat),j<=N∧i=.int .i64 (j:Int)∧q=.int .i64 (Q:Int)∧Hid (mkN k (o.take j)=Q)∧Hid (BF lo w wr)∧Hid (Evs wr lo (.slice A N c) (mkEs k (o.take j)++es.drop j))) (λ _ i _=>N - (intOf i).toNat)
 case atStart=>exact⟨0,k,Nat.zero_le _,rfl,rfl,kD rfl,kD (BF.refl _ _),H⟩
 case round =>
  obtain⟨j,Q,hj,rfl,rfl,hQ,m,hE⟩:=hrel;by_cases hlt:j<N
  ·have aB:j<es.length:=by rw [HN.out];exact hlt
   obtain⟨e,he⟩:∃ e,es[j]?=some e:=⟨_,List.getElem?_eq_getElem aB⟩;have ac:o[j]?=some e.ss.length:=by rw [<-aJ.out,List.getElem?_map,he];rfl
   have S:(mkEs k (o.take j)).length=j:=by rw [mkEs_len,List.length_take,al.out];omega
   obtain⟨E,L⟩:∃ E,mkEs k (o.take j)++es.drop j=E:=⟨_,rfl⟩;have ai:E[j]?=some e:=by
    rw [<-L,List.getElem?_append_right (by omega),S,Nat.sub_self,List.getElem?_drop,Nat.add_zero];exact he
   have X:∀ e',E.set j e'=mkEs k (o.take j)++e' :: es.drop (j+1):=λ e'=>by
    rw [<-L,List.set_append_right _ _ (by omega),S,Nat.sub_self,List.drop_eq_getElem_cons aB];rfl
   have aP:Q<=100000+4194308*1048576:=by
    have h1:=mkN_bd (o.take j) k (λ n hn=>aC.out n (List.mem_of_mem_take hn));have h2:(o.take j).length<=1048576:=by rw [List.length_take];omega
    have h3:=hQ.out;omega
   have h4:=aC.out _ (List.mem_of_getElem? ac);have O:=hE.out;rw [L] at O;obtain⟨g,W,As,cs,d,p,T,c0,c1,c2,D,c4,s,l,aE⟩:=O.at ai;have J:E.length=N:=by rw [<-L,List.length_append,S,List.length_drop,HN.out];omega
   rw [J] at d;simp only [Value.slice.injEq,true_and] at d;obtain⟨rfl,rfl⟩:=d;obtain⟨n,ad⟩:∃ n,e.ss.length=n:=⟨_,rfl⟩;rw [ad] at D l aE ac h4;have w1:IntKind.i64.wrap ((Q:Int)+1)=(Q:Int)+1:=IntWalk.i64_in _ (by omega);have w2:IntKind.i64.wrap ((Q:Int)+1+1)=(Q:Int)+1+1:=IntWalk.i64_in _ (by omega);have w3:IntKind.i64.wrap ((Q:Int)+1+1+1)=(Q:Int)+1+1+1:=IntWalk.i64_in _ (by omega);have ak:=O.setF ai 0 ((Q:Int)) ({ e with k:=(Q:Int) }) (by decide) rfl (λ sv=>rfl);go_upto_region 6 with fail;refine wp_gen (λ W'=>BF lo w W'∧Hid (Evs W' lo (.slice (some ⟨g,0,none⟩) N c) (E.set j ({ e with k:=(Q:Int) })))) ⟨m.out.setE p O.rowE _ _,kD (by first | exact ak | (have Z:=ak;rw [List.set_set] at Z;exact Z))⟩ ?_;clear c0 c1 c2 D c4 s l m ak O;rintro aO ⟨m,an⟩;have m:=kD m;have v:=an.out;have B:(E.set j ({ e with k:=(Q:Int) }))[j]?=some ({ e with k:=(Q:Int) }):=List.getElem?_set_self (by omega);obtain⟨g',W,aV,aS,d,p,T,c0,c1,c2,D,c4,s,l,aw⟩:=v.at B;rw [List.length_set,J] at d;simp only [Value.slice.injEq,Option.some.injEq,Addr.mk.injEq,and_true,true_and] at d;obtain⟨rfl,rfl⟩:=d;simp only [ad] at D l aw;obtain⟨e1,ah⟩:∃ q:Ev,q={ e with k:=(Q:Int) }:=⟨_,rfl⟩;rw [<-ah] at v B an;have aA:e1.ss.length=n:=by rw [ah];exact ad
   have x:=v.setF B 1 ((Q:Int)+1) ({ e1 with a:=(Q:Int)+1 }) (by decide) rfl (λ sv=>rfl);go_upto_region 8 with fail;refine wp_gen (λ W'=>BF lo w W'∧Hid (Evs W' lo (.slice (some ⟨g,0,none⟩) N c) (E.set j ({ e1 with a:=(Q:Int)+1 })))) ⟨m.out.setE p v.rowE _ _,kD (by first | exact x | (have Z:=x;rw [List.set_set] at Z;exact Z))⟩ ?_;clear c0 c1 c2 D c4 s l m x v an;rintro aN ⟨m,R⟩;have m:=kD m;have t:=R.out;have z:(E.set j ({ e1 with a:=(Q:Int)+1 }))[j]?=some ({ e1 with a:=(Q:Int)+1 }):=List.getElem?_set_self (by omega);obtain⟨g',W,aU,aR,d,p,T,c0,c1,c2,D,c4,s,l,av⟩:=t.at z;rw [List.length_set,J] at d;simp only [Value.slice.injEq,Option.some.injEq,Addr.mk.injEq,and_true,true_and] at d;obtain⟨rfl,rfl⟩:=d;simp only [aA] at D l av;obtain⟨e2,ag⟩:∃ q:Ev,q={ e1 with a:=(Q:Int)+1 }:=⟨_,rfl⟩;rw [<-ag] at t z R;have az:e2.ss.length=n:=by rw [ag];exact aA
   have aj:=t.setF z 2 ((Q:Int)+1+1) ({ e2 with b:=(Q:Int)+1+1 }) (by decide) rfl (λ sv=>rfl);go_upto_region 10 with fail;refine wp_gen (λ W'=>BF lo w W'∧Hid (Evs W' lo (.slice (some ⟨g,0,none⟩) N c) (E.set j ({ e2 with b:=(Q:Int)+1+1 })))) ⟨m.out.setE p t.rowE _ _,kD (by first | exact aj | (have Z:=aj;rw [List.set_set] at Z;exact Z))⟩ ?_;clear c0 c1 c2 D c4 s l m aj t R;rintro ao ⟨m,am⟩;have m:=kD m;have C:=am.out;have y:(E.set j ({ e2 with b:=(Q:Int)+1+1 }))[j]?=some ({ e2 with b:=(Q:Int)+1+1 }):=List.getElem?_set_self (by omega);obtain⟨g',W,aL,aG,d,p,T,c0,c1,c2,D,c4,s,l,ar⟩:=C.at y;rw [List.length_set,J] at d;simp only [Value.slice.injEq,Option.some.injEq,Addr.mk.injEq,and_true,true_and] at d;obtain⟨rfl,rfl⟩:=d;simp only [az] at D l ar;obtain⟨e3,V⟩:∃ q:Ev,q={ e2 with b:=(Q:Int)+1+1 }:=⟨_,rfl⟩;rw [<-V] at C y am;have aF:e3.ss.length=n:=by rw [V];exact az
   have CM:=markS lo ao.heap.size (.slice aL n aG) (Q+3) e3.ss ao (by omega) (by omega) (by rw [V];exact l);rw [aF,show ((Q+3:Nat):Int)=(Q:Int)+1+1+1 by omega] at CM;obtain⟨P,hP⟩:∃ P:Nat,Q+3+n*4=P:=⟨_,rfl⟩;rw [hP] at CM;have CM:=kD CM;have w4:IntKind.i64.wrap ((P:Int)+1)=(P:Int)+1:=IntWalk.i64_in _ (by omega);have aD:=kD D;have ap:=kD l;clear l;go_wp2_with fail;refine CM.out.mono ?_;rintro f aM ⟨rfl,ae,aq⟩;have F:=C.setS y aD.out (markL (Q+3) n) ae aq;rw [List.set_set] at F;have m:=kD (m.out.own (Nat.le_trans hlo m.out.bel.size) ap.out ae);obtain⟨e4,af⟩:∃ q:Ev,q={ e3 with ss:=markL (Q+3) n }:=⟨_,rfl⟩;rw [<-af] at F;have ax:e4.ss.length=n:=by rw [af];exact markL_len _ _
   have K:(E.set j e4)[j]?=some e4:=List.getElem?_set_self (by omega);clear c0 c1 c2 D c4 s ae aq CM aD C am;obtain⟨g',W,aT,aQ,d,p,T,c0,c1,c2,D,c4,s,-,-⟩:=F.at K;rw [List.length_set,J] at d;simp only [Value.slice.injEq,Option.some.injEq,Addr.mk.injEq,and_true,true_and] at d;obtain⟨rfl,rfl⟩:=d;rw [ax] at D;have M:=F.setF K 4 (P:Int) { e4 with r:=(P:Int) } (by decide) rfl (λ sv=>rfl);rw [List.set_set] at M;have Y:({ e4 with r:=(P:Int) }:Ev)=mkEv Q n:=by
    rw [af,V,ag,ah];unfold mkEv;rw [<-hP];simp only [Ev.mk.injEq,true_and,and_true];omega
   rw [Y] at M;have aa:o.take (j+1)=o.take j++[n]:=Base.take_succ o j n ac;have G:E.set j (mkEv Q n)=mkEs k (o.take (j+1))++es.drop (j+1):=by
    rw [X,aa,mkEs_snoc,hQ.out,List.append_assoc]
    rfl
   rw [G] at M;have aK:=kD M;have aH:=kD F.rowE;have aI:Hid (mkN k (o.take (j+1))=P+1):=kD (by rw [aa,mkN_snoc,hQ.out];omega);clear F M Y aa G K y z B ai X L S;go_wp2_with fail;go_roundw
   case rel=>exact⟨j+1,P+1,by omega,by go_num,by go_num,aI,kD (m.out.setE p aH.out _ _),aK⟩
   case measure=>simp [intOf];omega
  ·obtain rfl:N=j:=by omega
   have hR:mkN k o=Q:=by
    rw [<-hQ.out,List.take_of_length_le (by rw [al.out];exact Nat.le_refl _)]
   have x:=hE.out;rw [List.take_of_length_le (by rw [al.out];exact Nat.le_refl _),List.drop_of_length_le (by rw [HN.out];exact Nat.le_refl _),List.append_nil] at x;have R:=kD x;have HR:=kD hR;clear hE x hR hQ;go_wp2_with fail;go_ret;exact⟨by rw [HR.out];rfl,m.out,R.out⟩
theorem eqEs (lo1 lo2:Nat) (ev1 ev2:Value) (es:List Ev) (w:World) (h1:Evs w lo1 ev1 es) (h2:Evs w lo2 ev2 es) :
  Calls Tryz.prog 75 #[ev1,ev2] w λ e w'=>e=.returned (.bool true)∧Below w.heap.size w w':=by
 obtain⟨A,c,l⟩:=h1.form;obtain⟨A',c',d⟩:=h2.form;obtain⟨N,z⟩:∃ N,es.length=N:=⟨_,rfl⟩;have ac:N<=9223372036854775807:=by
  obtain⟨rs,W,V,-⟩:=h1;obtain⟨_,_,_,Z⟩:=W.form enEv_len;have:=Z.len;rw [V.1,z] at this;exact this
 rw [z] at l d;subst l d;have H1:=kD h1;have H2:=kD h2;have S:=kD z;clear h1 h2 z;go_enter Tryz.func75,Tryz.ntmps75;go_wp2_with fail;go_loopw [4,5] (λ _ i wr=>∃(j:Nat),j<=N∧i=.int .i64 (j:Int)∧Hid (Below w.heap.size w wr)) (λ _ i _=>N - (intOf i).toNat)
 case atStart=>exact⟨0,Nat.zero_le _,rfl,kD (Below.refl _ _)⟩
 case round =>
  obtain⟨j,hj,rfl,p⟩:=hrel;by_cases hlt:j<N
  ·obtain⟨e,D⟩:∃ e,es[j]?=some e:=⟨_,List.getElem?_eq_getElem (by rw [S.out];exact hlt)⟩;obtain⟨g,ad,As,cs,l,ab,aa,R,Q,P,G,O,C,m,-⟩:=(H1.out.below p.out).at D;obtain⟨g',M,H,F,d,L,K,y,x,v,q,t,s,h,-⟩:=(H2.out.below p.out).at D;rw [S.out] at l d;simp only [Value.slice.injEq,true_and] at l d;obtain⟨rfl,rfl⟩:=l;obtain⟨rfl,rfl⟩:=d;obtain⟨k,a,b,J,r⟩:=e;simp only at R Q P G O m y x v q t h;obtain⟨n,B⟩:∃ n,J.length=n:=⟨_,rfl⟩;rw [B] at G m q h;have T:=kD (λ(I:World) (o:Below wr.heap.size wr I)=>eqE k a b r As H cs F wr.heap.size wr.heap.size n J I B o.size o.size ((OwnS.rd enSt_len m).below o (Nat.le_refl _)) ((OwnS.rd enSt_len h).below o (Nat.le_refl _)));have X:IntKind.i64.wrap ((j:Int)+1)=(j:Int)+1:=IntWalk.i64_in _ (by omega);have Y:=p.out.size;clear m h C s D B;go_wp2_with fail;go_still_tail 8,(by kernel_rfl);go_wp2_with fail;refine(T.out _ (Below.refl _ _).drew).mono ?_;rintro f w2 ⟨rfl,o⟩;have E:=kD (p.out.drew.trans (o.mono p.out.drew.size));clear R Q P G O y x v q t o T p;go_wp2_with fail;go_roundw
   case rel=>exact⟨j+1,by omega,by go_num,E⟩
   case measure=>simp [intOf];omega
  ·go_wp2_with fail;go_ret;exact⟨rfl,p.out⟩
theorem eqVr (p c h s:Int) (w:World):Calls Tryz.prog 74 #[.agg #[.int .i64 p,.int .i64 c,.int .i64 h,.int .i64 s],.agg #[.int .i64 p,.int .i64 c,.int .i64 h,.int .i64 s]] w λ e w'=>e=.returned (.bool true)∧Below w.heap.size w w':=by
 have b:(p != p)=false:=by simp
 have f:(c != c)=false:=by simp
 have d:(h != h)=false:=by simp
 have a:(s != s)=false:=by simp
 go_enter Tryz.func74,Tryz.ntmps74;go_wp2_with fail;go_ret;exact⟨rfl,by go_grown⟩
def mC (v:Vr) (n:Int) (ev:Value):List Value:=[.int .i64 v.p,.int .i64 v.c,.int .i64 v.h,.int .i64 v.s,.int .i64 n,ev]
theorem eqM (v:Vr) (n:Int) (lo1 lo2:Nat) (A1 A2:Option Addr) (n1 n2 c1 c2:Nat) (es:List Ev) (w:World) (h1:Evs w lo1 (.slice A1 n1 c1) es) (h2:Evs w lo2 (.slice A2 n2 c2) es) :
  Calls Tryz.prog 25 #[.agg ⟨mC v n (.slice A1 n1 c1)⟩,.agg ⟨mC v n (.slice A2 n2 c2)⟩] w λ e w'=>e=.returned (.bool true)∧Below w.heap.size w w':=by
 have C:=kD (λ(g:World) (a:Below w.heap.size w g)=>eqEs lo1 lo2 _ _ es g (h1.below a) (h2.below a));have B:=kD (λ(g:World)=>eqVr v.p v.c v.h v.s g);have D:(n != n)=false:=by simp
 clear h1 h2;simp only [mC];go_enter Tryz.func25,Tryz.ntmps25;go_upto_region 1 with fail;refine wp_gen (λ E=>Rows w E [(0,48,mC v n (.slice A1 n1 c1)),(1,48,mC v n (.slice A2 n2 c2))]) ⟨by go_grown,λ p A=>?_⟩ ?_
 ·simp only [List.mem_cons,List.not_mem_nil,or_false] at A;rcases A with rfl | rfl
  ·exact(RowB.new _ _ _).alloc _
  ·exact RowB.new' _ _ _ (by simp)
 intro H K;obtain⟨z,y,x,t,r,q⟩:=(K.nth0 0 rfl).c6;obtain⟨o,m,l,k,j,i⟩:=(K.nth 1 rfl).c6;have d:=(K.nth0 0 rfl).lt;have b:=(K.nth 1 rfl).lt;go_wp2_with fail;refine(B.out _).mono ?_;rintro f G ⟨rfl,a⟩;have K:=K.below a;clear z y x t r q o m l k j i d b a B;obtain⟨z,y,x,t,r,q⟩:=(K.nth0 0 rfl).c6;obtain⟨o,m,l,k,j,i⟩:=(K.nth 1 rfl).c6;have d:=(K.nth0 0 rfl).lt;have b:=(K.nth 1 rfl).lt;go_wp2_with fail;refine(C.out _ K.bel).mono ?_;rintro f F ⟨rfl,a⟩;have K:=K.below a;clear z y x t r q o m l k j i d b a C;go_wp2_with fail;go_ret;exact⟨rfl,K.bel⟩
theorem markM (v:Vr) (n:Int) (lo:Nat) (A1:Option Addr) (n1 c1:Nat) (es:List Ev) (k:Nat) (w:World) (h:Evs w lo (.slice A1 n1 c1) es) (hlo:lo<=w.heap.size) (hn:es.length<=1048576) (hs:∀ e ∈ es,e.ss.length<=1048576) (hk:k<=100000) :
  Calls Tryz.prog 26 #[.agg ⟨mC v n (.slice A1 n1 c1)⟩,.int .i64 (k:Int)] w λ e w'=>e=.returned (.int .i64 ((mkN k (es.map λ e=>e.ss.length):Nat):Int))∧BF lo w w'∧Evs w' lo (.slice A1 n1 c1) (mkEs k (es.map λ e=>e.ss.length)):=by
 have l:=kD (λ(m:World) (d:Below w.heap.size w m)=>markEs lo _ es k m (h.below d) (Nat.le_trans hlo d.size) hn hs hk);obtain⟨Q,o⟩:∃ Q,mkN k (es.map λ e=>e.ss.length)=Q:=⟨_,rfl⟩;rw [o] at l ⊢;clear h hn hs o;simp only [mC];go_enter Tryz.func26,Tryz.ntmps26;go_upto_region 1 with fail;refine wp_gen (λ q=>Below w.heap.size w q∧RowB q w.heap.size 48 (mC v n (.slice A1 n1 c1))) ⟨by go_grown,RowB.new _ _ _⟩ ?_;rintro G ⟨a,g⟩;obtain⟨A,z,y,x,s,r⟩:=g.c6;have i:=g.lt;go_wp2_with fail;refine(l.out _ a).mono ?_;rintro f B ⟨rfl,c,p⟩;have j:=kD (show BF lo w B from⟨(a.mono hlo).trans c.bel,λ b t E d D C=>c.fr b t E (d.below a d.lt) D C⟩);have F:=kD p;clear A z y x s r i a c p l g;go_wp2_with fail;go_ret;exact⟨rfl,j.out,F.out⟩
open Bd8
theorem setL_skip (q:List Value):∀(vs cs:List Value) (o:Nat),setL (q++cs) (q.length+o) vs=q++setL cs o vs
 | [],cs,o=>rfl
 | v :: vs,cs,o=>by
  simp only [setL];rw [List.set_append_right _ _ (by omega),show q.length+o - q.length=o by omega,Nat.add_assoc,setL_skip q vs]
theorem setL_app0:∀(vs a r:List Value),a.length=vs.length->setL (a++r) 0 vs=vs++r
 | [],a,r,h=>by
  obtain rfl:=List.eq_nil_of_length_eq_zero h
  rfl
 | v :: vs,[],r,h=>by simp at h
 | v :: vs,x :: a,r,h=>by
  have ih:=setL_app0 vs a r (by simpa using h);simp only [List.cons_append,setL,List.set_cons_zero,Nat.zero_add];have hs:=setL_skip [v] vs (a++r) 0;simp only [List.cons_append,List.nil_append,List.length_cons,List.length_nil,Nat.zero_add,Nat.add_zero] at hs;rw [hs,ih]
theorem flat_setL {α:Type} {en:α->List Value} {sz:Nat} (hen:∀ x,(en x).length=sz) (rest:List Value) (y:α):∀(xs:List α) (j:Nat),j<xs.length->setL (xs.flatMap en++rest) (j*sz) (en y)=(xs.set j y).flatMap en++rest
 | [],j,h=>by simp at h
 | x :: xs,0,h=>by
  simp only [List.flatMap_cons,List.append_assoc,List.set_cons_zero,Nat.zero_mul];exact setL_app0 _ _ _ (by rw [hen,hen])
 | x :: xs,j+1,h=>by
  simp only [List.flatMap_cons,List.append_assoc,List.set_cons_succ];have ih:=flat_setL hen rest y xs j (by simpa using h);rw [show (j+1)*sz=(en x).length+j*sz by rw [hen,Nat.add_mul,Nat.one_mul,Nat.add_comm],setL_skip,ih]
theorem own_setRow {α:Type} {w:World} {lo hi sz:Nat} {e:TypeId} {en:α->List Value} {g m cap:Nat} {xs:List α} (hen:∀ x,(en x).length=sz) (h:OwnS w lo hi e sz en (.slice (some ⟨g,0,none⟩) m cap) xs) {j:Nat} (hj:j<xs.length) :
  ∃ old,RowB w g e old∧j*sz+sz<=old.length∧∀(y:α) w',RowB w' g e (setL old (j*sz) (en y))->OwnS w' lo hi e sz en (.slice (some ⟨g,0,none⟩) m cap) (xs.set j y):=by
 rcases h.cases_ with ⟨e0,_⟩ | ⟨g',cap',rest,e0,hlo,hhi,hR0,hnc,hcm,hl⟩
 ·simp at e0
 simp only [Value.slice.injEq,Option.some.injEq,Addr.mk.injEq,and_true,true_and] at e0;obtain⟨rfl,b,rfl⟩:=e0;refine⟨_,hR0,?_,λ y w' a=>?_⟩
 ·rw [List.length_append,flatMap_len hen];have:(j+1)*sz<=xs.length*sz:=Nat.mul_le_mul_right _ hj;rw [Nat.add_mul,Nat.one_mul] at this;omega
 ·rw [flat_setL hen rest y xs j hj] at a;have:=OwnS.mk_ (lo:=lo) (hi:=hi) (cap:=cap) hen a hlo hhi (by rw [List.length_set];exact hnc) hcm (by rw [List.length_set];exact hl);rw [List.length_set,<-b] at this;exact this
theorem made_rows {α:Type} {en:α->List Value} {sz:Nat} (y:α) (z:Array Value) (hz:z.toList=en y) (hs:(en y).length=sz) (h0:0<sz) (n:Nat):(madeCells z (n*sz)).toList=(List.replicate n y).flatMap en:=by
 unfold madeCells;rw [Array.toList_map];refine List.ext_getElem? λ i=>?_
 have a:z.size=sz:=by rw [<-hs,<-hz];simp
 have b:((List.replicate n y).flatMap en).length=n*sz:=by rw [List.length_flatMap];simp [hs]
 by_cases hi:i<n*sz
 ·have e:i / sz<n:=Nat.div_lt_of_lt_mul (by rw [Nat.mul_comm];exact hi);have d:((List.replicate n y).flatMap en)[i]?=(en y)[i % sz]?:=by
   clear b
   induction n generalizing i with
   | zero=>omega
   | succ n ih =>
    rw [List.replicate_succ,List.flatMap_cons];by_cases hlt:i<sz
    ·rw [List.getElem?_append_left (by rw [hs];exact hlt),Nat.mod_eq_of_lt hlt]
    ·rw [List.getElem?_append_right (by rw [hs];omega),hs,ih (i - sz) (by rw [Nat.add_mul] at hi;omega) (Nat.div_lt_of_lt_mul (by rw [Nat.mul_comm];rw [Nat.add_mul] at hi;omega)),<-Nat.mod_eq_sub_mod (by omega)]
  rw [d];have c:i % sz<z.size:=by rw [a];exact Nat.mod_lt _ h0
  rw [<-hz];simp only [a,Array.getElem?_toList,Array.getElem?_eq_getElem c];simp [hi,c,a,Array.getD_eq_getD_getElem?,getElem!_def,Array.getElem?_eq_getElem c]
 ·rw [List.getElem?_eq_none (by simp;omega),List.getElem?_eq_none (by rw [b];omega)]
theorem fill_set {α:Type} (xs:List α) (z y:α) (n k:Nat) (hk:xs[k]?=some y) (hn:k<n):(xs.take k++List.replicate (n - k) z).set k y=xs.take (k+1)++List.replicate (n - (k+1)) z:=by
 have a:(xs.take k).length=k:=by rw [List.length_take];have:=(List.getElem?_eq_some_iff.1 hk).1;omega
 rw [List.set_append_right _ _ (by omega),a,Nat.sub_self,show n - k=(n - (k+1))+1 by omega,List.replicate_succ,List.set_cons_zero,take_succ xs k y hk];simp
theorem infoSt:(Tryz.prog.info? 150).map (λ i=>(i.zero,i.size,i.bytes))=some (some (.agg #[.int .i64 0,.int .i64 0,.int .i64 0,.bool false]),4,32):=by kernel_rfl
def zSt:Stp:=(0,0,0,false)
theorem toSt (p q r:Int) (s:Bool) (w:World):Calls Tryz.prog 169 #[.agg #[.int .i64 p,.int .i64 q,.int .i64 r,.bool s]] w λ e w'=>e=.returned (.agg #[.int .i64 p,.int .i64 q,.int .i64 r,.bool s])∧Below w.heap.size w w':=by
 go_enter Tryz.func169,Tryz.ntmps169;go_wp2_with fail;go_returns;exact⟨rfl,by go_grown⟩
theorem toSts (B:Nat) (A:Option Addr) (c:Nat) (xs:List Stp) (w:World) (hB:B<=w.heap.size) (hn:xs.length<=1048576) (hr:RdS w B 4 enSt A xs) :
  Calls Tryz.prog 147 #[.slice A xs.length c] w λ e w'=>∃ A',e=.returned (.slice A' xs.length xs.length)∧Below w.heap.size w w'∧OwnS w' w.heap.size w'.heap.size 150 4 enSt (.slice A' xs.length xs.length) xs:=by
 obtain⟨i0,hi,R,Q,P⟩:=info_parts infoSt;obtain⟨n,G⟩:∃ n,xs.length=n:=⟨_,rfl⟩;rw [G] at hn ⊢;have H:=kD G;clear G;go_enter Tryz.func147,Tryz.ntmps147;go_wp2_with (at_make;refine wpList_make_full _ rfl _ _ _ rfl w.heap.size 150 i0 _ 4 Tryz.underlying33 hi R Q _ _ _ _ n rfl rfl rfl rfl ?c1 ?c2 (Nat.le_refl _) ?_)
 case c1=>rw [P];omega
 case c2=>unfold maxLen;omega
 intro O v f;have a:=RowB.of_own v;have a:RowB O w.heap.size 150 ((List.replicate n zSt).flatMap enSt):=by rw [<-made_rows (en:=enSt) zSt #[.int .i64 0,.int .i64 0,.int .i64 0,.bool false] rfl rfl (by decide) n];exact a
 have z:Below w.heap.size w O:=(Below.refl _ _).grown f (Nat.le_refl _) (by simp);have F:=RowB.own (lo:=w.heap.size) (hi:=O.heap.size) (xs:=List.replicate n zSt) a enSt_len (Nat.le_refl _) a.lt (by rw [List.length_replicate];unfold maxLen;omega);rw [List.length_replicate] at F;obtain⟨g,W⟩:∃ g,w.heap.size=g:=⟨_,rfl⟩;rw [W] at F z a ⊢;have L:=kD W;have D:=kD F;have h:=a.lt;clear v f a F;go_wp2_with fail;go_loopw [4] (λ i wr=>∃ k:Nat,k<=n∧i=.int .i64 k∧Below g w wr∧g<wr.heap.size∧Hid (OwnS wr g wr.heap.size 150 4 enSt (.slice (some ⟨g,0,none⟩) n n) (xs.take k++List.replicate (n - k) zSt))) (λ i _=>n - (intOf i).toNat)
 case atStart=>exact⟨0,Nat.zero_le _,rfl,z,h,D⟩
 case round =>
  obtain⟨k,hk,rfl,d,h,D⟩:=hrel;by_cases hlt:k<n
  ·obtain⟨b,m,p,q,r,s,rfl,hb,V,Z,c1,c2,Y⟩:=rdSt_at hr (i:=k) (by rw [H.out];exact hlt);have o:b<g:=by have:=L.out;omega
   have d0:=(d.cell (p:=⟨b,m+k*4,none⟩) o).trans Z;have d1:=(d.cell (p:=⟨b,m+k*4+1,none⟩) o).trans c1;have d2:=(d.cell (p:=⟨b,m+k*4+2,none⟩) o).trans c2;have d3:=(d.cell (p:=⟨b,m+k*4+3,none⟩) o).trans Y;have ab:IntKind.i64.wrap ((k:Int)+1)=(k:Int)+1:=IntWalk.i64_in _ (by omega);have HX:=kD V;clear Z c1 c2 Y V hb;go_wp2_with fail;refine(toSt p q r s _).mono ?_;rintro e w2 ⟨rfl,l⟩;have C:=d.trans (l.mono (Nat.le_of_lt h));have I:=(D.out.below l (Nat.le_refl _)).more l.size;have y:g<w2.heap.size:=Nat.lt_of_lt_of_le h l.size;obtain⟨aa,T,x,t⟩:=own_setRow enSt_len I (j:=k) (by rw [List.length_append,List.length_take,List.length_replicate,H.out];omega);have HS:=kD t;clear d0 d1 d2 d3 d h l I t D;go_wp2_with (refine wpL_sm 150 _ _ rfl g (k*4) [.int .i64 p,.int .i64 q,.int .i64 r,.bool s] _ _ rfl rfl 150 T (by kernel_rfl) x rfl rfl ?_;intro N S X M);have E:=HS.out (p,q,r,s) N S;rw [fill_set xs zSt (p,q,r,s) n k HX.out hlt,<-M] at E;have K:Below g w N:=C.grown X (by have:=L.out;omega) (λ j hj=>by simp at hj;omega);have J:g<N.heap.size:=by rw [M];exact y
   have D:=kD E;clear S X M E T x HS C y;go_wp2_with fail;go_roundw
   case rel=>exact⟨k+1,by omega,by first | rfl | go_num,K,J,D⟩
   case measure=>simp [intOf];omega
  ·obtain rfl:n=k:=by omega
   have F:=D.out;rw [List.take_of_length_le (by rw [H.out];exact Nat.le_refl _),Nat.sub_self,List.replicate_zero,List.append_nil] at F;clear D;go_wp2_with fail;go_ret;exact⟨_,rfl,by rw [L.out];exact d,by rw [L.out];exact F⟩
theorem szSts (A:Option Addr) (n c:Nat) (left:Int) (w:World) (hn:n<=9223372036854775807) (h0:0<=left) (h1:left<=1048576) :
  Calls Tryz.prog 146 #[.slice A n c,.int .i64 left] w λ e w'=>e=.returned (.int .i64 (if left<n then -1 else left - n))∧w=w':=by
 by_cases h:left<n
 ·rw [if_pos h];go_enter Tryz.func146,Tryz.ntmps146;go_wp2;go_ret;exact⟨rfl,rfl⟩
 ·rw [if_neg h];go_enter Tryz.func146,Tryz.ntmps146;go_wp2;go_ret;exact⟨rfl,rfl⟩
theorem toVr (p c h s:Int) (w:World):Calls Tryz.prog 71 #[.agg #[.int .i64 p,.int .i64 c,.int .i64 h,.int .i64 s]] w λ e w'=>e=.returned (.agg #[.int .i64 p,.int .i64 c,.int .i64 h,.int .i64 s])∧Below w.heap.size w w':=by
 go_enter Tryz.func71,Tryz.ntmps71;go_wp2_with fail;go_returns;exact⟨rfl,by go_grown⟩
theorem szEv (k a b r:Int) (A:Option Addr) (n c:Nat) (left:Int) (w:World) (hn:n<=9223372036854775807) (h0:0<=left) (h1:left<=1048576) :
  Calls Tryz.prog 114 #[.agg #[.int .i64 k,.int .i64 a,.int .i64 b,.slice A n c,.int .i64 r],.int .i64 left] w λ e w'=>e=.returned (.int .i64 (if left<n then -1 else left - n))∧Below w.heap.size w w':=by
 have g:=kD (λ(i:World)=>szSts A n c left i hn h0 h1);obtain⟨q,f⟩:∃ q,(if left<n then -1 else left - n)=q:=⟨_,rfl⟩;rw [f] at g ⊢;have d:q=-1∨0<=q:=by rw [<-f];split <;> omega
 clear f;go_enter Tryz.func114,Tryz.ntmps114;go_upto_region 1 with fail;refine wp_gen (λ y=>Rows w y [(0,158,[.int .i64 k,.int .i64 a,.int .i64 b,.slice A n c,.int .i64 r])]) ⟨by go_grown,λ p v=>?_⟩ ?_
 ·obtain rfl:=List.mem_singleton.1 v;exact RowB.new _ _ _
 intro B K;obtain⟨s,o,m,l,j⟩:=(K.nth0 0 rfl).c5;have x:=(K.nth0 0 rfl).lt;go_wp2_with fail;refine(g.out _).mono ?_;rintro e z ⟨rfl,rfl⟩;have h:=K.bel;clear K s o m l j x g;rcases d with rfl | d
 ·go_wp2_with fail;go_ret;exact⟨rfl,h⟩
 ·have t:¬ q<0:=by omega
  go_wp2_with fail;go_ret;exact⟨rfl,h⟩
theorem szEvs (Ae:Option Addr) (ce:Nat) (es:List Ev) (left:Int) (w:World) (hes:EvL w All Ae es) (h0:0<=left) (h1:left<=1048576) :
  Calls Tryz.prog 70 #[.slice Ae es.length ce,.int .i64 left] w λ e w'=>∃ q:Int,e=.returned (.int .i64 q)∧Below w.heap.size w w'∧(0<=q->es.length<=1048576∧∀ e ∈ es,e.ss.length<=1048576):=by
 have s:=hes.len;have C:=kD (λ(n:World) (Q:Below w.heap.size w n)=>hes.keep (.below Q));obtain⟨M,v⟩:∃ M,es.length=M:=⟨_,rfl⟩;rw [v] at s ⊢;have J:=kD v;clear hes v;by_cases hlm:left<M
 ·have r:IntKind.i64.wrap (left - (M:Int))=left - (M:Int):=IntWalk.i64_in _ (by omega);have p:left - (M:Int)<0:=by omega
  go_enter Tryz.func70,Tryz.ntmps70;go_wp2_with fail;go_ret;exact⟨_,rfl,by go_grown,λ h=>absurd h (by decide)⟩
 have r:IntKind.i64.wrap (left - (M:Int))=left - (M:Int):=IntWalk.i64_in _ (by omega);have p:¬ left - (M:Int)<0:=by omega
 have t:M<=1048576:=by omega
 go_enter Tryz.func70,Tryz.ntmps70;go_wp2_with fail;go_loopw [1,4,5] (λ N _ o wr=>∃(k:Nat) (L:Int),k<=M∧o=.int .i64 (k:Int)∧N=.int .i64 L∧0<=L∧L<=1048576∧Hid (Below w.heap.size w wr)∧Hid (∀ e ∈ es.take k,e.ss.length<=1048576)) (λ _ _ o _=>M - (intOf o).toNat)
 case atStart=>exact⟨0,left - (M:Int),Nat.zero_le _,by first | rfl | trivial,by first | rfl | trivial,by omega,by omega,kD (Below.refl _ _),kD (λ e h=>by simp at h)⟩
 case round =>
  obtain⟨k,L,hk,rfl,rfl,y,x,c,I⟩:=hrel;by_cases hlt:k<M
  ·obtain⟨ba,Z,e,X,W,rfl,f,P,d,H,G,F,z,l⟩:=(C.out wr c.out).at_ (i:=k) (by rw [J.out];exact hlt);have a:=d.len;have D:=kD f;obtain⟨S,V,T,E,R⟩:=e;simp only at H G F z l a;obtain⟨m,b⟩:∃ q,E.length=q:=⟨_,rfl⟩;rw [b] at z a;have A:=kD b;have O:IntKind.i64.wrap ((k:Int)+1)=(k:Int)+1:=IntWalk.i64_in _ (by omega);have K:=kD (λ(n:World)=>szEv S V T R X m W L n a y x);clear f d b;go_wp2_with fail;refine(K.out _).mono ?_;rintro e Y ⟨rfl,j⟩;have c:=kD (c.out.trans (j.mono c.out.size));clear H G F z l j K;by_cases hls:L<m
   ·rw [if_pos hls];go_wp2_with fail;go_ret;exact⟨_,rfl,c.out,λ h=>absurd h (by decide)⟩
   ·rw [if_neg hls];have hq:¬ L - (m:Int)<0:=by omega
    have B:Hid (∀ e ∈ es.take (k+1),e.ss.length<=1048576):=by
     show ∀ e ∈ es.take (k+1),e.ss.length<=1048576
     rw [take_succ es k _ D.out];intro e g;rcases List.mem_append.1 g with g | g
     ·exact I.out e g
     ·obtain rfl:=List.mem_singleton.1 g;show E.length<=1048576
      rw [A.out];omega
    go_wp2_with fail;go_roundw
    case rel=>exact⟨k+1,L - (m:Int),by omega,by first | rfl | go_num,rfl,by omega,by omega,c,B⟩
    case measure=>simp [intOf];omega
  ·obtain rfl:M=k:=by omega
   go_wp2_with fail;go_ret;refine⟨_,rfl,c.out,λ _=>⟨t,?_⟩⟩;have:=I.out
   rwa [List.take_of_length_le (by rw [J.out];exact Nat.le_refl _)] at this
end Gm
end Go.Proofs.YtmncnhbjifeoeaaGreat
