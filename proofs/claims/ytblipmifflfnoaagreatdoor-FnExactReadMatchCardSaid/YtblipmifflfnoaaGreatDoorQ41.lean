/- Parts of the proof of FnExactReadMatch. Conditions: each theorem's own. -/
import Derived.Test.YtblipmifflfnoaaGreatDoorQ40
set_option linter.unusedVariables false
set_option linter.unusedSimpArgs false
set_option maxHeartbeats 8000000
set_option maxRecDepth 100000
namespace Go.Proofs.YtblipmifflfnoaaGreatDoor
namespace Gm
open Go Go.ChangeShapes Go.WideShapes Go.ChangeAt Go.RowKit Base Ints Own RelG PlP TxP Num Bd1 Bd5 RegInv RegF RegG TxI TsI Bd36
def mkEv (k n:Nat):Ev:=⟨(k:Int),(k:Int)+1,(k:Int)+2,markL (k+3) n,(k:Int)+3+(n:Int)*4⟩
def mkN:Nat->List Nat->Nat
 | k,[]=>k
 | k,n :: ns=>mkN (k+4+n*4) ns
def mkEs:Nat->List Nat->List Ev
 | _,[]=>[]
 | k,n :: ns=>mkEv k n :: mkEs (k+4+n*4) ns
theorem mkEs_len:∀(ns:List Nat) (k:Nat),(mkEs k ns).length=ns.length
 | [],_=>rfl
 | n :: ns,k=>by simp [mkEs,mkEs_len ns]
theorem mkN_bd:∀(ns:List Nat) (k:Nat),(∀ n ∈ ns,n<=4)->mkN k ns<=k+20*ns.length
 | [],k,_=>by simp [mkN]
 | n :: ns,k,h=>by
  have h1:=h n (by simp);have h2:=mkN_bd ns (k+4+n*4) (λ m hm=>h m (by simp [hm]));simp only [mkN,List.length_cons];omega
theorem mkN_snoc:∀(ns:List Nat) (n k:Nat),mkN k (ns++[n])=mkN k ns+4+n*4
 | [],n,k=>rfl
 | m :: ns,n,k=>by simp only [List.cons_append,mkN];exact mkN_snoc ns n _
theorem mkEs_snoc:∀(ns:List Nat) (n k:Nat),mkEs k (ns++[n])=mkEs k ns++[mkEv (mkN k ns) n]
 | [],n,k=>rfl
 | m :: ns,n,k=>by simp only [List.cons_append,mkEs,mkN];rw [mkEs_snoc ns n _]
theorem mkEs_at:∀(ns:List Nat) (k j n:Nat),ns[j]?=some n->(mkEs k ns)[j]?=some (mkEv (mkN k (ns.take j)) n)
 | m :: ns,k,0,n,h=>by simp at h;subst h;rfl
 | m :: ns,k,j+1,n,h=>by
  simp only [mkEs,List.getElem?_cons_succ,List.take_succ_cons,mkN] at h ⊢;exact mkEs_at ns _ j n h
theorem flat_set:∀ {rs:List ERow} {r r':ERow} {j f:Nat} {u:Value} (rest:List Value),rs[j]?=some r->f<5->(enEv r).set f u=enEv r'->(rs.flatMap enEv++rest).set (j*5+f) u=(rs.set j r').flatMap enEv++rest
 | q :: rs,r,r',0,f,u,rest,h,hf,he=>by
  simp only [List.getElem?_cons_zero,Option.some.injEq] at h;subst h;simp only [List.flatMap_cons,List.append_assoc,List.set_cons_zero,Nat.zero_mul,Nat.zero_add];rw [List.set_append_left _ _ (by rw [enEv_len];exact hf),he]
 | q :: rs,r,r',j+1,f,u,rest,h,hf,he=>by
  simp only [List.getElem?_cons_succ] at h;have ih:=flat_set (rs:=rs) rest h hf he;simp only [List.flatMap_cons,List.append_assoc,List.set_cons_succ];rw [List.set_append_right _ _ (by rw [enEv_len];omega),enEv_len,show (j+1)*5+f - 5=j*5+f by omega,ih]
theorem Evs.at {w:World} {lo:Nat} {ev:Value} {es:List Ev} (h:Evs w lo ev es) {j:Nat} {e:Ev} (hj:es[j]?=some e) :
  ∃ g cap A c,ev=.slice (some ⟨g,0,none⟩) es.length cap∧lo<=g∧g<w.heap.size ∧
   w.cell? ⟨g,j*5,none⟩=some (.int .i64 e.k)∧w.cell? ⟨g,j*5+1,none⟩=some (.int .i64 e.a)∧w.cell? ⟨g,j*5+2,none⟩=some (.int .i64 e.b)∧w.cell? ⟨g,j*5+3,none⟩=some (.slice A e.ss.length c)∧w.cell? ⟨g,j*5+4,none⟩=some (.int .i64 e.r) ∧
   (∀ i,w.frozen? ⟨g,i,none⟩=false)∧OwnS w lo w.heap.size 135 4 enSt (.slice A e.ss.length c) e.ss∧(Value.slice A e.ss.length c).ownBlock≠some g:=by
 obtain⟨s,C,z,H⟩:=h;have v:=(List.getElem?_eq_some_iff.1 hj).1;have p:j<s.length:=by rw [z.1];exact v
 obtain⟨x,B,q⟩:=z.at_ (List.getElem?_eq_getElem p);rw [hj] at B;obtain rfl:=Option.some.inj B;rcases C.cases_ with ⟨_,e0⟩ | ⟨g,cap,rest,rfl,hlo,hhi,hrow,_⟩
 ·rw [e0] at p;simp at p
 obtain⟨A,c,m,-⟩:=q.2.1.form enSt_len;have l:=own_lo q.2 (lo:=lo) (λ b y=>y.2);have n:(s[j]).2.2.2.1.ownBlock≠some g:=λ e=>(q.2.2 g e).1 rfl
 rw [m] at l n;have d:∀ f u,(enEv s[j])[f]?=some u->w.cell? ⟨g,j*5+f,none⟩=some u:=λ f u D=>by
  obtain⟨b,o,e,_,F⟩:=(C.rd enEv_len).2 (by omega);simp only [Option.some.injEq,Addr.mk.injEq,and_true] at e;obtain⟨rfl,rfl⟩:=e;have:=F j _ (List.getElem?_eq_getElem p) f u D
  rwa [Nat.zero_add] at this
 obtain⟨E,G,y,t⟩:=q.1;refine⟨g,cap,A,c,by rw [z.1],hlo,hhi,?_,?_,?_,?_,?_,hrow.frozen,l,n⟩
 ·rw [<-E];exact d 0 _ rfl
 ·rw [<-G];exact d 1 _ rfl
 ·rw [<-y];exact d 2 _ rfl
 ·rw [<-m];exact d 3 _ rfl
 ·rw [<-t];exact d 4 _ rfl
theorem pw_set {rs:List ERow} {j:Nat} {r r':ERow} (hj:rs[j]?=some r) (he:r'.2.2.2.1=r.2.2.2.1) (h:rs.Pairwise (λ r q=>Apart r.2.2.2.1 q.2.2.2.1)):(rs.set j r').Pairwise (λ r q=>Apart r.2.2.2.1 q.2.2.2.1):=by
 have e:(rs.set j r').map (λ r=>r.2.2.2.1)=rs.map (λ r=>r.2.2.2.1):=by
  obtain⟨a,b⟩:=List.getElem?_eq_some_iff.1 hj;rw [List.map_set,he,<-b];refine List.ext_getElem? λ i=>?_
  rw [List.getElem?_set];split
  ·rename_i h;subst h;simp [a]
  ·rfl
 rw [<-List.pairwise_map (f:=λ r:ERow=>r.2.2.2.1) (R:=Apart)] at h ⊢;rw [e];exact h
theorem Evs.setF {w:World} {lo g m cap:Nat} {es:List Ev} (h:Evs w lo (.slice (some ⟨g,0,none⟩) m cap) es) {j:Nat} {e:Ev} (hj:es[j]?=some e) (f:Nat) (z:Int) (e':Ev) (hf:f<5) (hss:e'.ss=e.ss)
  (hrow:∀ sv,(enEv (e.k,e.a,e.b,sv,e.r)).set f (.int .i64 z)=enEv (e'.k,e'.a,e'.b,sv,e'.r)):Evs (w.setCell ⟨g,j*5+f,none⟩ (.int .i64 z)) lo (.slice (some ⟨g,0,none⟩) m cap) (es.set j e'):=by
 obtain⟨o,K,t,J⟩:=h;have s:=(List.getElem?_eq_some_iff.1 hj).1;have C:j<o.length:=by rw [t.1];exact s
 have n:=List.getElem?_eq_getElem C;obtain⟨x,B,E⟩:=t.at_ n;rw [hj] at B;obtain rfl:=Option.some.inj B;have A:=Base.grownBy_setCell w g (j*5+f) (.int .i64 z);have p:∀ S:Nat->Prop,(∀ b,S b->b≠g)->Still S w (w.setCell ⟨g,j*5+f,none⟩ (.int .i64 z)):=λ S I=>Still.grown A (λ k D F=>by simp at D;exact I k F D.symm)
 have q:∀ b,NotIn (.slice (some ⟨g,0,none⟩) m cap) lo b->b≠g:=λ b H e=>H.1 (by rw [e];rfl)
 have v:(w.setCell ⟨g,j*5+f,none⟩ (.int .i64 z)).heap.size=w.heap.size:=by simp [World.setCell]
 rcases K.cases_ with ⟨e0,_⟩ | ⟨g',cap',rest,e0,hlo,hhi,hR0,hnc,hcm,hl⟩
 ·simp at e0
 simp only [Value.slice.injEq,Option.some.injEq,Addr.mk.injEq,and_true,true_and] at e0;obtain⟨rfl,G,rfl⟩:=e0;have y:enEv o[j]=enEv (e.k,e.a,e.b,(o[j]).2.2.2.1,e.r):=by
  obtain⟨O,N,M,L⟩:=E.1;simp only [enEv,O,N,M,L]
 have l:=hR0.set (j*5+f) (.int .i64 z);rw [flat_set (r':=(e'.k,e'.a,e'.b,(o[j]).2.2.2.1,e'.r)) rest n hf (by rw [y];exact hrow _)] at l;refine⟨o.set j (e'.k,e'.a,e'.b,(o[j]).2.2.2.1,e'.r),?_,⟨by simp [t.1],λ i r x d c=>?_⟩,pw_set n rfl J⟩
 ·have:=OwnS.mk_ (lo:=lo) (hi:=w.heap.size) (cap:=cap) enEv_len l hlo hhi (by rw [List.length_set];exact hnc) hcm (by rw [List.length_set];exact hl);rw [List.length_set,<-G] at this;rw [v];exact this
 ·rw [List.getElem?_set] at d c;by_cases hij:j=i
  ·subst hij;rw [if_pos rfl,if_pos C] at d;rw [if_pos rfl,if_pos s] at c;obtain rfl:=Option.some.inj d;obtain rfl:=Option.some.inj c;refine⟨⟨rfl,rfl,rfl,rfl⟩,?_⟩;rw [hss];exact(relO 135 4 enSt).keep E.2 (p _ q)
  ·rw [if_neg hij] at d c;exact RelEv.keep (t.2 i r x d c) (p _ q)
theorem Evs.setS {w w':World} {lo g m cap:Nat} {es:List Ev} (h:Evs w lo (.slice (some ⟨g,0,none⟩) m cap) es) {j:Nat} {e:Ev} (hj:es[j]?=some e) {A:Option Addr} {n c:Nat} (hc:w.cell? ⟨g,j*5+3,none⟩=some (.slice A n c)) (ss':List Stp)
  (hg:w.grownBy w' (Value.slice A n c).ownBlock) (ho:OwnS w' lo w.heap.size 135 4 enSt (.slice A n c) ss'):Evs w' lo (.slice (some ⟨g,0,none⟩) m cap) (es.set j { e with ss:=ss' }):=by
 obtain⟨y,I,v,H⟩:=h;have t:=(List.getElem?_eq_some_iff.1 hj).1;have z:j<y.length:=by rw [v.1];exact t
 have p:=List.getElem?_eq_getElem z;obtain⟨x,D,F⟩:=v.at_ p;rw [hj] at D;obtain rfl:=Option.some.inj D;have f:(y[j]).2.2.2.1=.slice A n c:=by
  obtain⟨b,o,K,_,B⟩:=(I.rd enEv_len).2 (by omega);simp only [Option.some.injEq,Addr.mk.injEq,and_true] at K;obtain⟨rfl,rfl⟩:=K;have:=B j _ p 3 _ rfl;rw [Nat.zero_add,hc] at this;exact(Option.some.inj this).symm
 have s:=λ b (d:(Value.slice A n c).ownBlock=some b)=>F.2.2 b (by rw [f];exact d)
 refine⟨y,?_,⟨by simp [v.1],λ i r x l a=>?_⟩,H⟩
 ·exact(OwnS.far I hg (λ b d L=>(s b d).1 L)).more hg.size
 ·rw [List.getElem?_set] at a;by_cases hij:j=i
  ·subst hij;rw [if_pos rfl,if_pos t] at a;rw [p] at l;obtain rfl:=Option.some.inj l;obtain rfl:=Option.some.inj a;refine⟨F.1,?_⟩;rw [f];exact⟨(ho.less (Nat.zero_le _)).more hg.size,λ b d=>s b d⟩
  ·rw [if_neg hij] at a;have q:=v.2 i r x l a;have C:Apart r.2.2.2.1 (.slice A n c):=by
    have G:=List.pairwise_iff_getElem.1 H;obtain⟨E,J⟩:=List.getElem?_eq_some_iff.1 l;rcases Nat.lt_or_ge i j with hlt' | hge
    ·have:=G i j E z hlt';rw [J,f] at this;exact this
    ·have:=G j i z E (by omega);rw [J,f] at this;exact this.symm
   refine⟨q.1,?_⟩;have O:OwnV 135 4 enSt w (λ b=>NotIn (.slice (some ⟨g,0,none⟩) m cap) lo b∧(Value.slice A n c).ownBlock≠some b) r.2.2.2.1 x.ss:=⟨q.2.1,λ b d=>⟨q.2.2 b d,C b d⟩⟩;exact(relO 135 4 enSt).weak (OwnV.keep O (Still.grown hg (λ k N M=>M.2 N))) (λ b d _=>d.1)
theorem below_ofGrown {lo:Nat} {w w':World} {row:Option Nat} (hg:w.grownBy w' row) (hlo:lo<=w.heap.size) (hr:∀ k,row=some k->lo<=k):Below lo w w' :=
 ⟨hg.os,hg.tape,hg.output,hg.size,λ i hi=>hg.block i (by omega) (λ e=>by have:=hr i e.symm;omega)⟩
structure BF (lo:Nat) (w w':World):Prop where
 bel:Below lo w w'
 fr:∀ b t cs,RowB w b t cs->t≠56->t≠135->RowB w' b t cs
theorem BF.refl (lo:Nat) (w:World):BF lo w w:=⟨Below.refl _ _,λ _ _ _ h _ _=>h⟩
theorem rowb_ty {w:World} {g:Nat} {t t':TypeId} {cs cs':List Value} (h:RowB w g t cs) (h':RowB w g t' cs'):t=t':=by
 have:=h.symm.trans h';simp only [Option.some.injEq,Obj.cells.injEq] at this;exact this.2.1
theorem BF.setE {lo g:Nat} {w wr:World} (h:BF lo w wr) (hg:lo<=g) (r:∃ cs,RowB wr g 56 cs) (j:Nat) (v:Value):BF lo w (wr.setCell ⟨g,j,none⟩ v):=by
 obtain⟨i,r⟩:=r;refine⟨h.bel.setCell hg v,λ b t cs d c f=>?_⟩;have a:=h.fr b t cs d c f;exact a.other (λ e=>by subst e;exact c (rowb_ty a r)) v
theorem BF.own {lo hi:Nat} {w wr w2:World} {sv:Value} {xs:List Stp} (h:BF lo w wr) (hlo:lo<=wr.heap.size) (ho:OwnS wr lo hi 135 4 enSt sv xs) (hg:wr.grownBy w2 sv.ownBlock):BF lo w w2:=by
 refine⟨h.bel.trans (below_ofGrown hg hlo (λ k a=>(ho.block k a).1)),λ b t j f i d=>?_⟩;have c:=h.fr b t j f i d;refine c.grown hg (λ k a e=>?_);subst e;rcases ho.cases_ with ⟨e0,_⟩ | ⟨g,cap,rest,e0,_,_,r,_⟩
 ·rw [e0] at a;simp [Value.ownBlock] at a
 ·rw [e0] at a;simp only [Value.ownBlock,Option.some.injEq] at a;subst a;exact d (rowb_ty c r)
theorem Evs.rowE {w:World} {lo g m c:Nat} {es:List Ev} (h:Evs w lo (.slice (some ⟨g,0,none⟩) m c) es):∃ cs,RowB w g 56 cs:=by
 obtain⟨b,a,-,-⟩:=h;rcases a.cases_ with ⟨e0,_⟩ | ⟨g',cap,rest,e0,_,_,r,_⟩
 ·simp at e0
 ·simp only [Value.slice.injEq,Option.some.injEq,Addr.mk.injEq,and_true,true_and] at e0;obtain⟨rfl,-,-⟩:=e0;exact⟨_,r⟩
theorem markEs (lo:Nat) (ev:Value) (es:List Ev) (k:Nat) (w:World) (h:Evs w lo ev es) (hlo:lo<=w.heap.size) (hn:es.length<=300) (hs:∀ e ∈ es,e.ss.length<=4) (hk:k<=100000) :
  Calls Tryz.prog 26 #[ev,.int .i64 (k:Int)] w λ e w'=>e=.returned (.int .i64 ((mkN k (es.map λ e=>e.ss.length):Nat):Int))∧BF lo w w'∧Evs w' lo ev (mkEs k (es.map λ e=>e.ss.length)):=by
 obtain⟨o,I⟩:∃ o,es.map (λ e=>e.ss.length)=o:=⟨_,rfl⟩;have ab:o.length=es.length:=by rw [<-I,List.length_map]
 have ay:∀ n ∈ o,n<=4:=λ n hn=>by
  rw [<-I] at hn;obtain⟨e,he,rfl⟩:=List.mem_map.1 hn;exact hs e he
 rw [I];obtain⟨A,c,d⟩:=h.form;obtain⟨N,hN⟩:∃ N,es.length=N:=⟨_,rfl⟩;rw [hN] at d ab hn;subst d;have H:=kD h;have HN:=kD hN;have aJ:=kD I;have al:=kD ab;have aC:=kD ay;clear h hN I ab ay hs;go_enter Tryz.func26,Tryz.ntmps26;go_wp2_with fail;go_loopw [1,5] (λ q i wr=>∃(j Q:Nat),j<=N∧i=.int .i64 (j:Int)∧q=.int .i64 (Q:Int)∧Hid (mkN k (o.take j)=Q)∧Hid (BF lo w wr)∧Hid (Evs wr lo (.slice A N c) (mkEs k (o.take j)++es.drop j))) (λ _ i _=>N - (intOf i).toNat)
 case atStart=>exact⟨0,k,Nat.zero_le _,rfl,rfl,kD rfl,kD (BF.refl _ _),H⟩
 case round =>
  obtain⟨j,Q,hj,rfl,rfl,hQ,m,hE⟩:=hrel;by_cases hlt:j<N
  ·have aB:j<es.length:=by rw [HN.out];exact hlt
   obtain⟨e,he⟩:∃ e,es[j]?=some e:=⟨_,List.getElem?_eq_getElem aB⟩;have ac:o[j]?=some e.ss.length:=by rw [<-aJ.out,List.getElem?_map,he];rfl
   have S:(mkEs k (o.take j)).length=j:=by rw [mkEs_len,List.length_take,al.out];omega
   obtain⟨E,L⟩:∃ E,mkEs k (o.take j)++es.drop j=E:=⟨_,rfl⟩;have ai:E[j]?=some e:=by
    rw [<-L,List.getElem?_append_right (by omega),S,Nat.sub_self,List.getElem?_drop,Nat.add_zero];exact he
   have X:∀ e',E.set j e'=mkEs k (o.take j)++e' :: es.drop (j+1):=λ e'=>by
    rw [<-L,List.set_append_right _ _ (by omega),S,Nat.sub_self,List.drop_eq_getElem_cons aB];rfl
   have aP:Q<=100000+20*300:=by
    have h1:=mkN_bd (o.take j) k (λ n hn=>aC.out n (List.mem_of_mem_take hn));have h2:(o.take j).length<=300:=by rw [List.length_take];omega
    have h3:=hQ.out;omega
   have h4:=aC.out _ (List.mem_of_getElem? ac);have O:=hE.out;rw [L] at O;obtain⟨g,W,As,cs,d,p,T,c0,c1,c2,D,c4,s,l,aE⟩:=O.at ai;have J:E.length=N:=by rw [<-L,List.length_append,S,List.length_drop,HN.out];omega
   rw [J] at d;simp only [Value.slice.injEq,true_and] at d;obtain⟨rfl,rfl⟩:=d;obtain⟨n,ad⟩:∃ n,e.ss.length=n:=⟨_,rfl⟩;rw [ad] at D l aE ac h4;have w1:IntKind.i64.wrap ((Q:Int)+1)=(Q:Int)+1:=IntWalk.i64_in _ (by omega);have w2:IntKind.i64.wrap ((Q:Int)+1+1)=(Q:Int)+1+1:=IntWalk.i64_in _ (by omega);have w3:IntKind.i64.wrap ((Q:Int)+1+1+1)=(Q:Int)+1+1+1:=IntWalk.i64_in _ (by omega);have ak:=O.setF ai 0 ((Q:Int)) ({ e with k:=(Q:Int) }) (by decide) rfl (λ sv=>rfl);go_upto_region 6 with fail;refine wp_gen (λ W'=>BF lo w W'∧Hid (Evs W' lo (.slice (some ⟨g,0,none⟩) N c) (E.set j ({ e with k:=(Q:Int) })))) ⟨m.out.setE p O.rowE _ _,kD (by first | exact ak | (have Z:=ak;rw [List.set_set] at Z;exact Z))⟩ ?_;clear c0 c1 c2 D c4 s l m ak O;rintro aO ⟨m,an⟩;have m:=kD m;have v:=an.out;have B:(E.set j ({ e with k:=(Q:Int) }))[j]?=some ({ e with k:=(Q:Int) }):=List.getElem?_set_self (by omega);obtain⟨g',W,aV,aS,d,p,T,c0,c1,c2,D,c4,s,l,aw⟩:=v.at B;rw [List.length_set,J] at d;simp only [Value.slice.injEq,Option.some.injEq,Addr.mk.injEq,and_true,true_and] at d;obtain⟨rfl,rfl⟩:=d;simp only [ad] at D l aw;obtain⟨e1,ah⟩:∃ q:Ev,q={ e with k:=(Q:Int) }:=⟨_,rfl⟩;rw [<-ah] at v B an;have aA:e1.ss.length=n:=by rw [ah];exact ad
   have x:=v.setF B 1 ((Q:Int)+1) ({ e1 with a:=(Q:Int)+1 }) (by decide) rfl (λ sv=>rfl);go_upto_region 8 with fail;refine wp_gen (λ W'=>BF lo w W'∧Hid (Evs W' lo (.slice (some ⟨g,0,none⟩) N c) (E.set j ({ e1 with a:=(Q:Int)+1 })))) ⟨m.out.setE p v.rowE _ _,kD (by first | exact x | (have Z:=x;rw [List.set_set] at Z;exact Z))⟩ ?_;clear c0 c1 c2 D c4 s l m x v an;rintro aN ⟨m,R⟩;have m:=kD m;have t:=R.out;have z:(E.set j ({ e1 with a:=(Q:Int)+1 }))[j]?=some ({ e1 with a:=(Q:Int)+1 }):=List.getElem?_set_self (by omega);obtain⟨g',W,aU,aR,d,p,T,c0,c1,c2,D,c4,s,l,av⟩:=t.at z;rw [List.length_set,J] at d;simp only [Value.slice.injEq,Option.some.injEq,Addr.mk.injEq,and_true,true_and] at d;obtain⟨rfl,rfl⟩:=d;simp only [aA] at D l av;obtain⟨e2,ag⟩:∃ q:Ev,q={ e1 with a:=(Q:Int)+1 }:=⟨_,rfl⟩;rw [<-ag] at t z R;have az:e2.ss.length=n:=by rw [ag];exact aA
   have aj:=t.setF z 2 ((Q:Int)+1+1) ({ e2 with b:=(Q:Int)+1+1 }) (by decide) rfl (λ sv=>rfl);go_upto_region 10 with fail;refine wp_gen (λ W'=>BF lo w W'∧Hid (Evs W' lo (.slice (some ⟨g,0,none⟩) N c) (E.set j ({ e2 with b:=(Q:Int)+1+1 })))) ⟨m.out.setE p t.rowE _ _,kD (by first | exact aj | (have Z:=aj;rw [List.set_set] at Z;exact Z))⟩ ?_;clear c0 c1 c2 D c4 s l m aj t R;rintro ao ⟨m,am⟩;have m:=kD m;have C:=am.out;have y:(E.set j ({ e2 with b:=(Q:Int)+1+1 }))[j]?=some ({ e2 with b:=(Q:Int)+1+1 }):=List.getElem?_set_self (by omega);obtain⟨g',W,aL,aG,d,p,T,c0,c1,c2,D,c4,s,l,ar⟩:=C.at y;rw [List.length_set,J] at d;simp only [Value.slice.injEq,Option.some.injEq,Addr.mk.injEq,and_true,true_and] at d;obtain⟨rfl,rfl⟩:=d;simp only [az] at D l ar;obtain⟨e3,V⟩:∃ q:Ev,q={ e2 with b:=(Q:Int)+1+1 }:=⟨_,rfl⟩;rw [<-V] at C y am;have aF:e3.ss.length=n:=by rw [V];exact az
   have CM:=markS lo ao.heap.size (.slice aL n aG) (Q+3) e3.ss ao (by omega) (by omega) (by rw [V];exact l);rw [aF,show ((Q+3:Nat):Int)=(Q:Int)+1+1+1 by omega] at CM;obtain⟨P,hP⟩:∃ P:Nat,Q+3+n*4=P:=⟨_,rfl⟩;rw [hP] at CM;have CM:=kD CM;have w4:IntKind.i64.wrap ((P:Int)+1)=(P:Int)+1:=IntWalk.i64_in _ (by omega);have aD:=kD D;have ap:=kD l;clear l;go_wp2_with fail;refine CM.out.mono ?_;rintro f aM ⟨rfl,ae,aq⟩;have F:=C.setS y aD.out (markL (Q+3) n) ae aq;rw [List.set_set] at F;have m:=kD (m.out.own (Nat.le_trans hlo m.out.bel.size) ap.out ae);obtain⟨e4,af⟩:∃ q:Ev,q={ e3 with ss:=markL (Q+3) n }:=⟨_,rfl⟩;rw [<-af] at F;have ax:e4.ss.length=n:=by rw [af];exact markL_len _ _
   have K:(E.set j e4)[j]?=some e4:=List.getElem?_set_self (by omega);clear c0 c1 c2 D c4 s ae aq CM aD C am;obtain⟨g',W,aT,aQ,d,p,T,c0,c1,c2,D,c4,s,-,-⟩:=F.at K;rw [List.length_set,J] at d;simp only [Value.slice.injEq,Option.some.injEq,Addr.mk.injEq,and_true,true_and] at d;obtain⟨rfl,rfl⟩:=d;rw [ax] at D;have M:=F.setF K 4 (P:Int) { e4 with r:=(P:Int) } (by decide) rfl (λ sv=>rfl);rw [List.set_set] at M;have Y:({ e4 with r:=(P:Int) }:Ev)=mkEv Q n:=by
    rw [af,V,ag,ah];unfold mkEv;rw [<-hP];simp only [Ev.mk.injEq,true_and,and_true];omega
   rw [Y] at M;have aa:o.take (j+1)=o.take j++[n]:=Base.take_succ o j n ac;have G:E.set j (mkEv Q n)=mkEs k (o.take (j+1))++es.drop (j+1):=by
    rw [X,aa,mkEs_snoc,hQ.out,List.append_assoc]
    rfl
   rw [G] at M;have aK:=kD M;have aH:=kD F.rowE;have aI:Hid (mkN k (o.take (j+1))=P+1):=kD (by rw [aa,mkN_snoc,hQ.out];omega);clear F M Y aa G K y z B ai X L S;go_wp2_with fail;go_roundw
   case rel=>exact⟨j+1,P+1,by omega,by go_num,by go_num,aI,kD (m.out.setE p aH.out _ _),aK⟩
   case measure=>simp [intOf];omega
  ·obtain rfl:N=j:=by omega
   have hR:mkN k o=Q:=by
    rw [<-hQ.out,List.take_of_length_le (by rw [al.out];exact Nat.le_refl _)]
   have x:=hE.out;rw [List.take_of_length_le (by rw [al.out];exact Nat.le_refl _),List.drop_of_length_le (by rw [HN.out];exact Nat.le_refl _),List.append_nil] at x;have R:=kD x;have HR:=kD hR;clear hE x hR hQ;go_wp2_with fail;go_ret;exact⟨by rw [HR.out];rfl,m.out,R.out⟩
theorem heldEs (lo:Nat) (ev:Value) (ns:List Nat) (k:Nat) (w:World) (h:Evs w lo ev (mkEs k ns)) (hn:ns.length<=300) (hs:∀ n ∈ ns,n<=4) (hk:k<=100000) :
  Calls Tryz.prog 27 #[ev,.int .i64 (k:Int)] w λ e w'=>e=.returned (.int .i64 ((mkN k ns:Nat):Int))∧Below w.heap.size w w':=by
 obtain⟨A,c,a⟩:=h.form;obtain⟨N,s⟩:∃ N,ns.length=N:=⟨_,rfl⟩;rw [mkEs_len,s] at a;rw [s] at hn;subst a;have H:=kD h;have m:=kD s;have r:=kD hs;clear h s hs;go_enter Tryz.func27,Tryz.ntmps27;go_wp2_with fail;go_loopw [1,4,5] (λ q _ i wr=>∃(j Q:Nat),j<=N∧i=.int .i64 (j:Int)∧q=.int .i64 (Q:Int)∧Hid (mkN k (ns.take j)=Q)∧Hid (Below w.heap.size w wr)) (λ _ _ i _=>N - (intOf i).toNat)
 case atStart=>exact⟨0,k,Nat.zero_le _,rfl,rfl,kD rfl,kD (Below.refl _ _)⟩
 case round =>
  obtain⟨j,Q,hj,rfl,rfl,p,x⟩:=hrel;by_cases hlt:j<N
  ·have t:j<ns.length:=by rw [m.out];exact hlt
   obtain⟨n,b⟩:∃ n,ns[j]?=some n:=⟨_,List.getElem?_eq_getElem t⟩;have D:=H.out.below x.out;have l:=mkEs_at ns k j n b;rw [p.out] at l;have h4:=r.out _ (List.mem_of_getElem? b);have O:Q<=100000+20*300:=by
    have h1:=mkN_bd (ns.take j) k (λ n hn=>r.out n (List.mem_of_mem_take hn));have h2:(ns.take j).length<=300:=by rw [List.length_take];omega
    have h3:=p.out;omega
   obtain⟨g,S,I,E,a,L,K,W,V,G,T,F,v,d,-⟩:=D.at l;rw [mkEs_len,m.out] at a;simp only [Value.slice.injEq,true_and] at a;obtain⟨rfl,rfl⟩:=a;simp only [mkEv,markL_len] at W V G T F d;have w1:IntKind.i64.wrap ((Q:Int)+1)=(Q:Int)+1:=IntWalk.i64_in _ (by omega);have w2:IntKind.i64.wrap ((Q:Int)+1+1)=(Q:Int)+1+1:=IntWalk.i64_in _ (by omega);have Z:IntKind.i64.wrap ((Q:Int)+1+1+1)=(Q:Int)+1+1+1:=IntWalk.i64_in _ (by omega);have f0:((Q:Int) != (Q:Int))=false:=by simp
   have f1:((Q:Int)+1 != (Q:Int)+1)=false:=by simp
   have f2:((Q:Int)+1+1 != (Q:Int)+1+1)=false:=by simp
   rw [show (Q:Int)+2=(Q:Int)+1+1 by omega] at G;have z:=heldS w.heap.size I E (Q+3) n;have o:=OwnS.rd enSt_len d;obtain⟨P,R⟩:∃ P:Nat,Q+3+n*4=P:=⟨_,rfl⟩;have z:=kD (λ(B:World) (M:Below wr.heap.size wr B)=>heldS wr.heap.size I E (Q+3) n B (by omega) (by omega) (o.below M (Nat.le_refl _)));rw [show ((Q+3:Nat):Int)=(Q:Int)+1+1+1 by omega,R] at z;rw [show (Q:Int)+3+(n:Int)*4=(P:Int) by omega] at F;have f4:((P:Int) != (P:Int))=false:=by simp
   have f5:¬ (P:Int)<0:=by omega
   have Y:IntKind.i64.wrap ((P:Int)+1)=(P:Int)+1:=IntWalk.i64_in _ (by omega);have y:Hid (mkN k (ns.take (j+1))=P+1):=kD (by rw [Base.take_succ ns j n b,mkN_snoc,p.out];omega);clear D l d o b v;go_wp2_with fail;refine(z.out _ (Below.refl _ _)).mono ?_;rintro f J ⟨rfl,rfl⟩;go_wp2_with fail;go_roundw
   case rel=>exact⟨j+1,P+1,by omega,by go_num,by go_num,y,x⟩
   case measure=>simp [intOf];omega
  ·obtain rfl:N=j:=by omega
   have C:mkN k ns=Q:=by
    rw [<-p.out,List.take_of_length_le (by rw [m.out];exact Nat.le_refl _)]
   have X:=kD C;clear C p;go_wp2_with fail;go_ret;exact⟨by rw [X.out];rfl,x.out⟩
theorem eqEs (lo1 lo2:Nat) (ev1 ev2:Value) (es:List Ev) (w:World) (h1:Evs w lo1 ev1 es) (h2:Evs w lo2 ev2 es) :
  Calls Tryz.prog 25 #[ev1,ev2] w λ e w'=>e=.returned (.bool true)∧Below w.heap.size w w':=by
 obtain⟨A,c,l⟩:=h1.form;obtain⟨A',c',d⟩:=h2.form;obtain⟨N,z⟩:∃ N,es.length=N:=⟨_,rfl⟩;have ac:N<=9223372036854775807:=by
  obtain⟨rs,W,V,-⟩:=h1;obtain⟨_,_,_,Z⟩:=W.form enEv_len;have:=Z.len;rw [V.1,z] at this;exact this
 rw [z] at l d;subst l d;have H1:=kD h1;have H2:=kD h2;have S:=kD z;clear h1 h2 z;go_enter Tryz.func25,Tryz.ntmps25;go_wp2_with fail;go_loopw [4,5] (λ _ i wr=>∃(j:Nat),j<=N∧i=.int .i64 (j:Int)∧Hid (Below w.heap.size w wr)) (λ _ i _=>N - (intOf i).toNat)
 case atStart=>exact⟨0,Nat.zero_le _,rfl,kD (Below.refl _ _)⟩
 case round =>
  obtain⟨j,hj,rfl,p⟩:=hrel;by_cases hlt:j<N
  ·obtain⟨e,D⟩:∃ e,es[j]?=some e:=⟨_,List.getElem?_eq_getElem (by rw [S.out];exact hlt)⟩;obtain⟨g,ad,As,cs,l,ab,aa,R,Q,P,G,O,C,m,-⟩:=(H1.out.below p.out).at D;obtain⟨g',M,H,F,d,L,K,y,x,v,q,t,s,h,-⟩:=(H2.out.below p.out).at D;rw [S.out] at l d;simp only [Value.slice.injEq,true_and] at l d;obtain⟨rfl,rfl⟩:=l;obtain⟨rfl,rfl⟩:=d;obtain⟨k,a,b,J,r⟩:=e;simp only at R Q P G O m y x v q t h;obtain⟨n,B⟩:∃ n,J.length=n:=⟨_,rfl⟩;rw [B] at G m q h;have T:=kD (λ(I:World) (o:Below wr.heap.size wr I)=>eqE k a b r As H cs F wr.heap.size wr.heap.size n J I B o.size o.size ((OwnS.rd enSt_len m).below o (Nat.le_refl _)) ((OwnS.rd enSt_len h).below o (Nat.le_refl _)));have X:IntKind.i64.wrap ((j:Int)+1)=(j:Int)+1:=IntWalk.i64_in _ (by omega);have Y:=p.out.size;clear m h C s D B;go_wp2_with fail;go_still_tail 8,(by kernel_rfl);go_wp2_with fail;refine(T.out _ (Below.refl _ _).drew).mono ?_;rintro f w2 ⟨rfl,o⟩;have E:=kD (p.out.drew.trans (o.mono p.out.drew.size));clear R Q P G O y x v q t o T p;go_wp2_with fail;go_roundw
   case rel=>exact⟨j+1,by omega,by go_num,E⟩
   case measure=>simp [intOf];omega
  ·go_wp2_with fail;go_ret;exact⟨rfl,p.out⟩
theorem eqVr (p c h s:Int) (w:World):Calls Tryz.prog 24 #[.agg #[.int .i64 p,.int .i64 c,.int .i64 h,.int .i64 s],.agg #[.int .i64 p,.int .i64 c,.int .i64 h,.int .i64 s]] w λ e w'=>e=.returned (.bool true)∧Below w.heap.size w w':=by
 have b:(p != p)=false:=by simp
 have f:(c != c)=false:=by simp
 have d:(h != h)=false:=by simp
 have a:(s != s)=false:=by simp
 go_enter Tryz.func24,Tryz.ntmps24;go_wp2_with fail;go_ret;exact⟨rfl,by go_grown⟩
def mC (v:Vr) (n:Int) (ev:Value):List Value:=[.int .i64 v.p,.int .i64 v.c,.int .i64 v.h,.int .i64 v.s,.int .i64 n,ev]
theorem eqM (v:Vr) (n:Int) (lo1 lo2:Nat) (A1 A2:Option Addr) (n1 n2 c1 c2:Nat) (es:List Ev) (w:World) (h1:Evs w lo1 (.slice A1 n1 c1) es) (h2:Evs w lo2 (.slice A2 n2 c2) es) :
  Calls Tryz.prog 7 #[.agg ⟨mC v n (.slice A1 n1 c1)⟩,.agg ⟨mC v n (.slice A2 n2 c2)⟩] w λ e w'=>e=.returned (.bool true)∧Below w.heap.size w w':=by
 have C:=kD (λ(g:World) (a:Below w.heap.size w g)=>eqEs lo1 lo2 _ _ es g (h1.below a) (h2.below a));have B:=kD (λ(g:World)=>eqVr v.p v.c v.h v.s g);have D:(n != n)=false:=by simp
 clear h1 h2;simp only [mC];go_enter Tryz.func7,Tryz.ntmps7;go_upto_region 1 with fail;refine wp_gen (λ E=>Rows w E [(0,26,mC v n (.slice A1 n1 c1)),(1,26,mC v n (.slice A2 n2 c2))]) ⟨by go_grown,λ p A=>?_⟩ ?_
 ·simp only [List.mem_cons,List.not_mem_nil,or_false] at A;rcases A with rfl | rfl
  ·exact(RowB.new _ _ _).alloc _
  ·exact RowB.new' _ _ _ (by simp)
 intro H K;obtain⟨z,y,x,t,r,q⟩:=(K.nth0 0 rfl).c6;obtain⟨o,m,l,k,j,i⟩:=(K.nth 1 rfl).c6;have d:=(K.nth0 0 rfl).lt;have b:=(K.nth 1 rfl).lt;go_wp2_with fail;refine(B.out _).mono ?_;rintro f G ⟨rfl,a⟩;have K:=K.below a;clear z y x t r q o m l k j i d b a B;obtain⟨z,y,x,t,r,q⟩:=(K.nth0 0 rfl).c6;obtain⟨o,m,l,k,j,i⟩:=(K.nth 1 rfl).c6;have d:=(K.nth0 0 rfl).lt;have b:=(K.nth 1 rfl).lt;go_wp2_with fail;refine(C.out _ K.bel).mono ?_;rintro f F ⟨rfl,a⟩;have K:=K.below a;clear z y x t r q o m l k j i d b a C;go_wp2_with fail;go_ret;exact⟨rfl,K.bel⟩
theorem markM (v:Vr) (n:Int) (lo:Nat) (A1:Option Addr) (n1 c1:Nat) (es:List Ev) (k:Nat) (w:World) (h:Evs w lo (.slice A1 n1 c1) es) (hlo:lo<=w.heap.size) (hn:es.length<=300) (hs:∀ e ∈ es,e.ss.length<=4) (hk:k<=100000) :
  Calls Tryz.prog 8 #[.agg ⟨mC v n (.slice A1 n1 c1)⟩,.int .i64 (k:Int)] w λ e w'=>e=.returned (.int .i64 ((mkN k (es.map λ e=>e.ss.length):Nat):Int))∧BF lo w w'∧Evs w' lo (.slice A1 n1 c1) (mkEs k (es.map λ e=>e.ss.length)):=by
 have l:=kD (λ(m:World) (d:Below w.heap.size w m)=>markEs lo _ es k m (h.below d) (Nat.le_trans hlo d.size) hn hs hk);obtain⟨Q,o⟩:∃ Q,mkN k (es.map λ e=>e.ss.length)=Q:=⟨_,rfl⟩;rw [o] at l ⊢;clear h hn hs o;simp only [mC];go_enter Tryz.func8,Tryz.ntmps8;go_upto_region 1 with fail;refine wp_gen (λ q=>Below w.heap.size w q∧RowB q w.heap.size 26 (mC v n (.slice A1 n1 c1))) ⟨by go_grown,RowB.new _ _ _⟩ ?_;rintro G ⟨a,g⟩;obtain⟨A,z,y,x,s,r⟩:=g.c6;have i:=g.lt;go_wp2_with fail;refine(l.out _ a).mono ?_;rintro f B ⟨rfl,c,p⟩;have j:=kD (show BF lo w B from⟨(a.mono hlo).trans c.bel,λ b t E d D C=>c.fr b t E (d.below a d.lt) D C⟩);have F:=kD p;clear A z y x s r i a c p l g;go_wp2_with fail;go_ret;exact⟨rfl,j.out,F.out⟩
theorem heldM (v:Vr) (n:Int) (lo:Nat) (A1:Option Addr) (n1 c1:Nat) (ns:List Nat) (k:Nat) (w:World) (h:Evs w lo (.slice A1 n1 c1) (mkEs k ns)) (hn:ns.length<=300) (hs:∀ n ∈ ns,n<=4) (hk:k<=100000) :
  Calls Tryz.prog 9 #[.agg ⟨mC v n (.slice A1 n1 c1)⟩,.int .i64 (k:Int)] w λ e w'=>e=.returned (.int .i64 ((mkN k ns:Nat):Int))∧Below w.heap.size w w':=by
 have i:=kD (λ(j:World) (y:Below w.heap.size w j)=>heldEs lo _ ns k j (h.below y) hn hs hk);obtain⟨Q,m⟩:∃ Q,mkN k ns=Q:=⟨_,rfl⟩;rw [m] at i ⊢;have l:¬ (Q:Int)<0:=by omega
 clear h hn hs m;simp only [mC];go_enter Tryz.func9,Tryz.ntmps9;go_upto_region 1 with fail;refine wp_gen (λ o=>Below w.heap.size w o∧RowB o w.heap.size 26 (mC v n (.slice A1 n1 c1))) ⟨by go_grown,RowB.new _ _ _⟩ ?_;rintro A ⟨a,c⟩;obtain⟨x,t,s,r,q,p⟩:=c.c6;have d:=c.lt;go_wp2_with fail;refine(i.out _ a).mono ?_;rintro f z ⟨rfl,b⟩;have g:=kD (a.trans (b.mono a.size));clear x t s r q p d a b i c;go_wp2_with fail;go_ret;exact⟨rfl,g.out⟩
end Gm
namespace MLaw
open Go Go.ChangeShapes Go.WideShapes Go.ChangeAt Go.RowKit Base Ints Own RelG PlP TxP Num Bd1 Bd5 RegInv RegF RegG TxI TsI Bd36 Gm
theorem bs_back (s:ByteArray):bs s.data.toList=s:=by cases s;rfl
theorem short (v:Vr) (hv:okV v=true) (t:By) {e:Ev} (h:rdE v t=some e):e.ss.length<=4:=by
 obtain⟨c,b⟩:=(rdE_iff hv).1 h;have a:evnT v e≠[]:=by rw [c];exact b
 rcases ev_cases hv a with ⟨h4,_⟩ | ⟨_,h4,_⟩ | ⟨h4,_⟩
 ·rw [h4];simp
 ·unfold trnT at h4;split at h4
  ·rename_i h5;exact((steps_ne_nil hv).1 h5.2).1
  ·exact absurd rfl h4
 ·rw [h4];simp
theorem rmGo_small (v:Vr) (hv:okV v=true) (n:Int):∀(ls:List By) (x:Ms) (es:List Ev) (k:Int),es.length<=300->(∀ e ∈ es,e.ss.length<=4)->(rmGo v n ls x es k).1.length<=300∧∀ e ∈ (rmGo v n ls x es k).1,e.ss.length<=4:=by
 intro ls
 induction ls with
 | nil=>intro x es k d c;exact⟨d,c⟩
 | cons l ls ih =>
  intro x es k d c
  cases ls with
  | nil =>
   simp only [rmGo];split
   ·exact⟨d,c⟩
   ·exact⟨Nat.zero_le _,λ e a=>by simp at a⟩
  | cons m ls =>
   simp only [rmGo]
   cases hr:rdE v l with
   | none=>exact⟨Nat.zero_le _,λ e a=>by simp at a⟩
   | some e =>
    simp only
    cases nextS v n x e with
    | none=>exact⟨Nat.zero_le _,λ e a=>by simp at a⟩
    | some y =>
     simp only;split
     ·exact⟨Nat.zero_le _,λ e a=>by simp at a⟩
     ·refine ih y (es++[e]) (k+1) (by simp;omega) (λ q b=>?_);rcases List.mem_append.1 b with b | b
      ·exact c q b
      ·obtain rfl:=List.mem_singleton.1 b;exact short v hv l hr
theorem rdM_small (t:By):(rdM t).1.2.2.length<=300∧∀ e ∈ (rdM t).1.2.2,e.ss.length<=4:=by
 have a:([]:List Ev).length<=300∧∀ e ∈ ([]:List Ev),e.ss.length<=4:=⟨Nat.zero_le _,λ e c=>by simp at c⟩;by_cases h:20000<t.length
 ·rw [rdM_long h];exact a
 ·cases hs:spl 10 t with
  | nil=>exact absurd hs (TxP.spl_ne 10 t)
  | cons l0 ws =>
   rw [rdM_spl h hs];split
   ·exact a
   ·cases hh:rdH l0 with
    | none=>exact a
    | some q =>
     obtain⟨v,n⟩:=q;have b:=(head_parts (rdH_iff.1 hh).1).1;simp only [finM];split
     ·exact rmGo_small v b n ws (startS v) [] 2 a.1 a.2
     ·exact a
theorem walk (t:ByteArray) (w:World) (_:t.size<=maxLen) (E:Env w) :
  Calls Tryz.prog 3 #[.string t] w λ e w'=>e=.returned (.bool true)∧Below w.heap.size w w':=by
 by_cases hsz:t.size<=1048576
 rotate_left
 ·have hd:decide ((1048576:Int)<(t.size:Int))=true:=decide_eq_true (by omega);have ah:(1048576:Int)<(t.size:Int):=by omega
  clear hsz E;go_enter Tryz.func3,Tryz.ntmps3;go_wp2_with fail;go_ret;exact⟨rfl,by go_grown⟩
 have hd:¬ (1048576:Int)<(t.size:Int):=by omega
 obtain⟨J,K⟩:∃ J,bs J=t:=⟨t.data.toList,bs_back t⟩;have hl:J.length<=4194304:=by rw [<-K,bs_size] at hsz;omega
 have CS:=kD (λ(S:World)=>rmatch_s J hl S);have CI:=kD (λ(S:World) (h9:Below w.heap.size w S)=>rmatch_i J hl S (E.below h9));have m:=kD (rdM_small J);obtain⟨⟨⟨v,n,F⟩,G,D⟩,hO⟩:∃ o,rdM J=o:=⟨_,rfl⟩;rw [hO] at CS CI m;rw [K] at CS CI;have aj:(G != G)=false:=by simp
 have ai:(D != D)=false:=by simp
 clear hO hl hsz K E;go_enter Tryz.func3,Tryz.ntmps3;go_wp2_with fail;refine(CS.out _).mono ?_;rintro e w3 ⟨ev,rfl,f,b⟩;simp only at f;simp only;obtain⟨A1,c1,g⟩:=f.form;obtain⟨N,hN⟩:∃ N,F.length=N:=⟨_,rfl⟩;rw [hN] at g;subst g;have HN:=kD hN;have HA:=kD f;have HB:=kD b;clear f b hN CS;go_upto_region 4 with fail;refine wp_gen (λ h=>Below w.heap.size w h∧RowB h w3.heap.size 26 (mC v n (.slice A1 N c1))∧Hid (Evs h w.heap.size (.slice A1 N c1) F)) ⟨by first | exact HB.out.alloc HB.out.size _ | exact(HB.out.trans ((Below.refl w3.heap.size w3).alloc (Nat.le_refl _) _ |>.mono HB.out.size)),RowB.new _ _ _,kD (HA.out.below ((Below.refl _ _).alloc (Nat.le_refl _) _))⟩ ?_;clear HA HB;obtain⟨ga,aa⟩:∃ q,w3.heap.size=q:=⟨_,rfl⟩;rw [aa];clear aa;rintro A ⟨P,V,HA⟩;have W:=P.size;have ab:=HA;have i:=kD V;have R:=kD P;clear HA V P;go_wp2_with fail;refine(CI.out _ R.out).mono ?_;rintro e w5 ⟨ev,rfl,f,b⟩;simp only at f;simp only;obtain⟨I,H,g⟩:=f.form;rw [HN.out] at g;subst g;have j:=kD f;have X:=b.size;go_upto_region 5 with fail;refine wp_gen (λ h=>Below A.heap.size A h∧RowB h w5.heap.size 26 (mC v n (.slice I N H))∧Hid (Evs h A.heap.size (.slice I N H) F)) ⟨b.alloc b.size _,RowB.new _ _ _,kD (j.out.below ((Below.refl _ _).alloc (Nat.le_refl _) _))⟩ ?_;clear j f b;obtain⟨gb,Z⟩:∃ q,w5.heap.size=q:=⟨_,rfl⟩;rw [Z] at X ⊢;clear Z;rintro w6 ⟨a,c,j⟩;obtain⟨x0,x1,x2,x3,x4,x5⟩:=(i.out.below a i.out.lt).c6;obtain⟨z,y,x,s,r,p⟩:=c.c6;have M:ga<w6.heap.size:=Nat.lt_of_lt_of_le i.out.lt a.size;have d:=c.lt;go_wp2_with fail;refine(eqM v n _ _ I A1 N N H c1 F _ j.out (ab.out.below a)).mono ?_;rintro e w7 ⟨rfl,b⟩;have a:=a.trans (b.mono a.size);have c:=c.below b c.lt;have j:=kD (j.out.below b);clear x0 x1 x2 x3 x4 x5 z y x s r p M d b;obtain⟨z,y,x,s,r,p⟩:=c.c6;have d:=c.lt;go_wp2_with fail;refine(markM v n A.heap.size I N H F 1 _ j.out a.size m.out.1 m.out.2 (by decide)).mono ?_;rintro e w8 ⟨rfl,O,f⟩;have a:=a.trans O.bel;have c:=O.fr _ _ _ c (by decide) (by decide);obtain⟨C,l⟩:∃ C,F.map (λ e=>e.ss.length)=C:=⟨_,rfl⟩;rw [l] at f;have B:=kD (show C.length<=300∧∀ n ∈ C,n<=4 from⟨by rw [<-l,List.length_map];exact m.out.1,λ n hn=>by
  rw [<-l] at hn;obtain⟨e,he,rfl⟩:=List.mem_map.1 hn;exact m.out.2 e he⟩)
 have k:=kD f;rw [l];obtain⟨Q,hQ⟩:∃ Q:Nat,mkN 1 C=Q:=⟨_,rfl⟩;rw [hQ];have HQ:=kD hQ;have ag:¬ (Q:Int)<0:=by omega
 have af:((Q:Int) != (Q:Int))=false:=by simp
 clear z y x s r p d O f l hQ;obtain⟨z,y,x,s,r,p⟩:=c.c6;have d:=c.lt;go_wp2_with fail;refine(heldM v n A.heap.size I N H C 1 _ k.out B.out.1 B.out.2 (by decide)).mono ?_;rw [HQ.out];rintro e S ⟨rfl,b⟩;have a:=a.trans (b.mono a.size);have c:=c.below b c.lt;have k:=kD (k.out.below b);clear z y x s r p d b;go_wp2_with fail;refine(CI.out _ (R.out.trans (a.mono W))).mono ?_;rintro e T ⟨ev,rfl,f,b⟩;simp only at f;simp only;obtain⟨A3,c3,g⟩:=f.form;rw [HN.out] at g;subst g;have a:=a.trans (b.mono a.size);have c:=c.below b c.lt;have k:=kD (k.out.below b);have j:=kD f;have L:=b.size;clear f b;go_upto_region 16 with fail;refine wp_gen (λ h=>Below A.heap.size A h∧RowB h gb 26 (mC v n (.slice I N H))∧RowB h T.heap.size 26 (mC v n (.slice A3 N c3))∧Hid (Evs h A.heap.size (.slice I N H) (mkEs 1 C))∧Hid (Evs h S.heap.size (.slice A3 N c3) F)) ⟨a.alloc a.size _,c.alloc _,RowB.new _ _ _,kD (k.out.below ((Below.refl _ _).alloc (Nat.le_refl _) _)),kD (j.out.below ((Below.refl _ _).alloc (Nat.le_refl _) _))⟩ ?_;clear k j a c;obtain⟨gc,Y⟩:∃ q,T.heap.size=q:=⟨_,rfl⟩;rw [Y] at L ⊢;clear Y;rintro ac ⟨a,c,rc,k,j⟩;obtain⟨x0,x1,x2,x3,x4,x5⟩:=(i.out.below a i.out.lt).c6;obtain⟨z,y,x,s,r,p⟩:=rc.c6;have M:ga<ac.heap.size:=Nat.lt_of_lt_of_le i.out.lt a.size;have d:=rc.lt;go_wp2_with fail;refine(eqM v n _ _ A3 A1 N N c3 c1 F _ j.out (ab.out.below a)).mono ?_;rintro e ae ⟨rfl,b⟩;have a:=a.trans (b.mono a.size);have c:=c.below b c.lt;have k:=kD (k.out.below b);clear x0 x1 x2 x3 x4 x5 z y x s r p M d b j rc;obtain⟨z,y,x,s,r,p⟩:=c.c6;have d:=c.lt;go_wp2_with fail;refine(heldM v n A.heap.size I N H C 1 _ k.out B.out.1 B.out.2 (by decide)).mono ?_;rw [HQ.out];rintro e ad ⟨rfl,b⟩;have a:=a.trans (b.mono a.size);clear z y x s r p d b k;go_wp2_with fail;go_ret;exact⟨rfl,R.out.trans (a.mono W)⟩
end MLaw
end Go.Proofs.YtblipmifflfnoaaGreatDoor
