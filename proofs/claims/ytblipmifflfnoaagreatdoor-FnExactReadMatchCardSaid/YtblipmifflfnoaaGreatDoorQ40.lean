/- Parts of the proof of FnExactReadMatch. Conditions: each theorem's own. -/
import Derived.Test.YtblipmifflfnoaaGreatDoorQ39
set_option linter.unusedVariables false
set_option linter.unusedSimpArgs false
set_option maxHeartbeats 8000000
set_option maxRecDepth 100000
namespace Go.Proofs.YtblipmifflfnoaaGreatDoor
namespace Gm
open Go Go.ChangeShapes Go.WideShapes Go.ChangeAt Go.RowKit Base Ints Own RelG PlP TxP Num Bd1 Bd5 RegInv RegF RegG TxI TsI
theorem rdM_spl {t l0:By} {ws:List By} (h:¬ 20000<t.length) (hs:spl 10 t=l0 :: ws):rdM t=if ws=[] then ((nulV,0,[]),6,1) else (match rdH l0 with
  | some (v,n)=>finM v n (rmGo v n ws (startS v) [] 2)
  | none=>((nulV,0,[]),6,1)):=by
 unfold rdM;rw [if_neg h,hs]
 cases ws with
 | nil=>rfl
 | cons m ls=>rfl
def goW (v:Vr) (n:Int) (rest:List By) (es:List Ev) (e:Ev) (k:Int) (L:Nat):Option Ms->List Ev × Int × Int
 | none=>([],5,k)
 | some y=>if 300<=L then ([],5,k) else rmGo v n rest y (es++[e]) (k+1)
theorem rmGo_one {ws:List By} {L:Nat} {l:By} (v:Vr) (n:Int) (x:Ms) (es:List Ev) (k:Int) (hl:ws[L]?=some l) (h:L+1=ws.length):rmGo v n (ws.drop L) x es k=if l=[] then (es,0,0) else ([],6,k):=by
 obtain⟨a,b⟩:=List.getElem?_eq_some_iff.1 hl;rw [List.drop_eq_getElem_cons a,b,List.drop_eq_nil_of_le (by omega)]
 rfl
theorem rmGo_drop {ws:List By} {L:Nat} {l:By} (v:Vr) (n:Int) (x:Ms) (es:List Ev) (k:Int) (hl:ws[L]?=some l) (h:L+1<ws.length):rmGo v n (ws.drop L) x es k=match rdE v l with
  | none=>([],6,k)
  | some e=>goW v n (ws.drop (L+1)) es e k es.length (nextS v n x e):=by
 obtain⟨a,b⟩:=List.getElem?_eq_some_iff.1 hl;rw [List.drop_eq_getElem_cons a,b]
 cases hs:ws.drop (L+1) with
 | nil =>
  have:=congrArg List.length hs;rw [List.length_drop] at this;simp only [List.length_nil] at this;omega
 | cons m ls =>
  simp only [rmGo]
  cases rdE v l with
  | none=>rfl
  | some ev =>
   simp only
   cases nextS v n x ev with
   | none=>rfl
   | some y=>simp only [goW]
theorem own_lo {α:Type} {w:World} {S:Nat->Prop} {lo sz:Nat} {e:TypeId} {en:α->List Value} {v:Value} {xs:List α} (h:OwnV e sz en w S v xs) (hS:∀ b,S b->lo<=b):OwnS w lo w.heap.size e sz en v xs:=by
 refine⟨⟨h.1.1.1,?_⟩,h.1.2⟩;rcases h.1.1.2 with h0 | ⟨g,cap,cur,rfl,-,rest⟩
 ·exact .inl h0
 ·exact .inr ⟨g,cap,cur,rfl,hS g (h.2 g rfl),rest⟩
def RelEO:Rel Value (Option Ev) where
 R:=λ w S v o=>∃(k a b:Int) (A:Option Addr) (m c:Nat) (r:Int) (ok:Bool) (ss:List Stp),v=.tuple #[.agg #[.int .i64 k,.int .i64 a,.int .i64 b,.slice A m c,.int .i64 r],.bool ok]∧ss.length=m∧OwnV 135 4 enSt w S (.slice A m c) ss∧(if ok=true then o=some ⟨k,a,b,ss,r⟩ else o=none)
 keep:=λ⟨k,a,b,A,m,c,r,ok,ss,e,h1,h2,h3⟩ hs=>⟨k,a,b,A,m,c,r,ok,ss,e,h1,(relO 135 4 enSt).keep h2 hs,h3⟩
 weak:=λ⟨k,a,b,A,m,c,r,ok,ss,e,h1,h2,h3⟩ hs=>⟨k,a,b,A,m,c,r,ok,ss,e,h1,(relO 135 4 enSt).weak h2 hs,h3⟩
structure Rs (w wr:World) (g8 g10:Nat) (v:Vr) (n:Int) (ev:Value) (es:List Ev) (su u1 u2:Value) (x:Ms):Prop where
 k:Rows w wr [(0,26,[.int .i64 0,.int .i64 0,.int .i64 0,.int .i64 0,.int .i64 0,.slice none 0 0])]
 r8:RowB wr g8 26 [.int .i64 v.p,.int .i64 v.c,.int .i64 v.h,.int .i64 v.s,.int .i64 n,.slice none 0 0]
 r10:RowB wr g10 52 (msC su u1 u2 x)
 ms:MsR wr (λ b=>NotIn ev (g8+1) b∧b≠g10) su u1 u2 x
 es:Evs wr (g10+1) ev es
 lo:w.heap.size<g8∧g8<g10
section
variable {w wr w':World} {g8 g10:Nat} {v:Vr} {n:Int} {ev:Value} {es:List Ev} {su u1 u2:Value} {x:Ms}
theorem Rs.below (K:Rs w wr g8 g10 v n ev es su u1 u2 x) (hb:Below wr.heap.size wr w'):Rs w w' g8 g10 v n ev es su u1 u2 x :=
 ⟨K.k.below hb,K.r8.below hb K.r8.lt,K.r10.below hb K.r10.lt,K.ms.below hb,K.es.below hb,K.lo⟩
theorem Rs.st10 {su' u1' u2':Value} {x':Ms} (K:Rs w wr g8 g10 v n ev es su u1 u2 x) (h:RowB w' g10 52 (msC su' u1' u2' x')) (hg:wr.grownBy w' (some g10)) (hm:MsR wr (λ b=>NotIn ev (g8+1) b∧b≠g10) su' u1' u2' x'):Rs w w' g8 g10 v n ev es su' u1' u2' x':=by
 have l:=K.lo;have c:=K.k.bel.size;refine⟨⟨K.k.bel.grown hg c (λ k a=>by simp at a;omega),λ p d=>?_⟩,K.r8.grown hg (λ k a=>by simp at a;omega),h,hm.keep (Still.grown hg (λ k a e=>by simp at a;exact e.2 a.symm)),K.es.low hg (Nat.lt_succ_self _),l⟩;obtain rfl:=List.mem_singleton.1 d;exact(K.k.at_ _ (List.mem_singleton.2 rfl)).grown hg (λ k a=>by simp at a;simp only;omega)
theorem Rs.app {w1:World} {g m c:Nat} {es':List Ev} (K:Rs w wr g8 g10 v n ev es su u1 u2 x) (hg:wr.grownBy w1 ev.ownBlock) (hat:ev.ownBlock=some g∨g=wr.heap.size) (he:Evs w1 (g10+1) (.slice (some ⟨g,0,none⟩) m c) es') :
  Rs w w1 g8 g10 v n (.slice (some ⟨g,0,none⟩) m c) es' su u1 u2 x:=by
 have l:=K.lo;have e:=K.k.bel.size;have d:∀ k,ev.ownBlock=some k->g10+1<=k:=λ k a=>(K.es.block k a).1
 have h:(inS RelM3 (λ b=>b≠g10)).R w1 (NotIn (.slice (some ⟨g,0,none⟩) m c) (g8+1)) (su,u1,u2) x:=app_still (K:=inS RelM3 (λ b=>b≠g10)) hg hat K.ms;refine⟨⟨K.k.bel.grown hg e (λ k a=>by have:=d k a;omega),λ p f=>?_⟩,K.r8.grown hg (λ k a=>by have:=d k a;omega),K.r10.grown hg (λ k a=>by have:=d k a;omega),h,he,l⟩;obtain rfl:=List.mem_singleton.1 f;exact(K.k.at_ _ (List.mem_singleton.2 rfl)).grown hg (λ k a=>by have:=d k a;simp only;omega)
end
theorem rmatch_s (t:By) (hl:t.length<=4194304) (w:World) :
  Calls Tryz.prog 5 #[.string (bs t)] w λ e w'=>MaR (rdM t) w e w':=by
 obtain⟨i5,bV,bQ,bP,bO⟩:=info_parts infoE;obtain⟨R,hR⟩:∃ x,rdM t=x:=⟨_,rfl⟩;rw [hR];have a9:=bs_size t;go_enter Tryz.func5,Tryz.ntmps5;go_upto_region 1 with fail;refine wp_gen (λ S=>Rows w S [(0,26,[.int .i64 0,.int .i64 0,.int .i64 0,.int .i64 0,.int .i64 0,.slice none 0 0])]) ⟨by go_grown,λ p hp=>?_⟩ ?_
 ·obtain rfl:=List.mem_singleton.1 hp;exact RowB.new _ _ _
 intro w1 K;have ao:=(K.nth0 0 rfl).lt;by_cases h20:20000<t.length
 ·obtain rfl:((nulV,0,[]),3,0)=R:=by rw [<-hR,rdM_long h20]
  have h1:(20000:Int)<((bs t).size:Int):=by omega
  clear hR a9 h20;have O:=K.nth0 0 rfl;have d:=K.bel;go_wp2_with (refine wM 26 0 [.int .i64 0,.int .i64 0,.int .i64 0,.int .i64 0,.int .i64 0,.slice none 0 0] O ?_;intro w7 W r z7;refine Hid.out ?_);have o:Below w.heap.size w w7:=d.grown r d.size (λ k J=>by simp at J;omega);obtain⟨z0,z1,z2,z3,z4,z5⟩:=W.c6;have ab:=W.lt;clear r O d K;refine kD ?_
  repeat (first | go_values | go_skip | go_step | go_upon)
  refine bodyPost_ret (v:=.tuple #[.agg #[.int .i64 0,.int .i64 0,.int .i64 0,.int .i64 0,.int .i64 0,.slice none 0 0],.int .i64 3,.int .i64 0]) (by simp [results,Tryz.results5,go_sem,z0,z1,z2,z3,z4,z5]) rfl ?_;exact⟨.slice none 0 0,rfl,Evs.nil _ _,o⟩
 have h1:¬ (20000:Int)<((bs t).size:Int):=by omega
 have aP:=spl_len 10 t;have Y:∀ x ∈ spl 10 t,x.length<=4194304:=λ x hx=>Nat.le_trans (spl_mem_len 10 t x hx) hl
 have CS:=kD (λ(D:World)=>split_s t 10 10 rfl hl D)
 cases hO:spl 10 t with
 | nil=>exact absurd hO (TxP.spl_ne 10 t)
 | cons l0 ws =>
 rw [hO] at CS aP Y;have HR:=kD (hR.symm.trans (rdM_spl h20 hO));have b3:=kD Y;have CH:=kD (λ(D:World)=>rhead_s l0 (Y l0 (by simp)) D);rw [rdHS_eq] at CH;obtain⟨M,hM⟩:∃ M,ws.length=M:=⟨_,rfl⟩;have ck:M<=20000:=by simp only [List.length_cons] at aP;omega
 have HM:=kD hM;have cj:IntKind.i64.wrap (((M+1:Nat):Int) - 1)=(M:Int):=by rw [IntWalk.i64_in _ (by omega)];omega
 clear hR a9 h20 hl hO aP Y hM;go_wp2_with fail;refine(CS.out _).mono ?_;rintro e w2 ⟨sv,rfl,an,G⟩;obtain⟨A,cp,bS,ax⟩:=an.form (λ x=>(rfl:(enBs x).length=1));subst bS;obtain⟨bw,ow,rfl,o,-⟩:=ax.2 (by simp);have K:=K.below G;rw [List.length_cons,HM.out];have bm:=cell_at ax (i:=0) rfl;have f:=kD ax;clear G CS h1 ao an ax;have ao:=(K.nth0 0 rfl).lt;simp only [Nat.add_zero] at bm;go_wp2_with fail;refine(CH.out _).mono ?_;rintro e w3 h3;obtain⟨v,n,ok,rfl,G,ho⟩:=h3.v;have K:=K.below G;have f:=kD ((f.out.below G (Nat.le_refl _)).more G.size);have aH:w.heap.size<w3.heap.size:=(K.nth0 0 rfl).lt;clear h3 G CH ao bm;go_upto_region 6 with fail;refine wp_gen (λ S=>Rows w S [(0,26,[.int .i64 0,.int .i64 0,.int .i64 0,.int .i64 0,.int .i64 0,.slice none 0 0])]∧RowB S w3.heap.size 26 [.int .i64 v.p,.int .i64 v.c,.int .i64 v.h,.int .i64 v.s,.int .i64 n,.slice none 0 0]∧Hid (RdS S w3.heap.size 1 enBs (some ⟨bw,ow,none⟩) (l0 :: ws))) ⟨K.below ((Below.refl _ _).alloc (Nat.le_refl _) _),RowB.new _ _ _,kD (f.out.below ((Below.refl _ _).alloc (Nat.le_refl _) _) (Nat.le_refl _))⟩ ?_;clear K f;obtain⟨g8,bk⟩:∃ q,w3.heap.size=q:=⟨_,rfl⟩;rw [bk] at aH ⊢;clear bk;rintro w4 ⟨K,R8,f⟩;have ao:=(K.nth0 0 rfl).lt
 cases ok with
 | false =>
  have hn:rdH l0=none:=ho;obtain rfl:((nulV,0,[]),6,1)=R:=by rw [HR.out,hn];split <;> rfl
  clear HR ho hn;have O:=K.nth0 0 rfl;have d:=K.bel;go_wp2_with (refine wM 26 0 [.int .i64 0,.int .i64 0,.int .i64 0,.int .i64 0,.int .i64 0,.slice none 0 0] O ?_;intro w7 W r z7;refine Hid.out ?_);have o:Below w.heap.size w w7:=d.grown r d.size (λ k J=>by simp at J;omega);obtain⟨z0,z1,z2,z3,z4,z5⟩:=W.c6;have ab:=W.lt;clear r O d K;refine kD ?_
  repeat (first | go_values | go_skip | go_step | go_upon)
  refine bodyPost_ret (v:=.tuple #[.agg #[.int .i64 0,.int .i64 0,.int .i64 0,.int .i64 0,.int .i64 0,.slice none 0 0],.int .i64 6,.int .i64 1]) (by simp [results,Tryz.results5,go_sem,z0,z1,z2,z3,z4,z5]) rfl ?_;exact⟨.slice none 0 0,rfl,Evs.nil _ _,o⟩
 | true =>
 have hn:rdH l0=some (v,n):=ho;by_cases hM0:M=0
 ·have a7:ws=[]:=List.eq_nil_of_length_eq_zero (HM.out.trans hM0);obtain rfl:((nulV,0,[]),6,1)=R:=by rw [HR.out,if_pos a7]
  have e1:((M:Int) == 0)=true:=by simp;omega
  clear HR ho hn a7 hM0;have O:=K.nth0 0 rfl;have d:=K.bel;go_wp2_with (refine wM 26 0 [.int .i64 0,.int .i64 0,.int .i64 0,.int .i64 0,.int .i64 0,.slice none 0 0] O ?_;intro w7 W r z7;refine Hid.out ?_);have o:Below w.heap.size w w7:=d.grown r d.size (λ k J=>by simp at J;omega);obtain⟨z0,z1,z2,z3,z4,z5⟩:=W.c6;have ab:=W.lt;clear r O d K;refine kD ?_
  repeat (first | go_values | go_skip | go_step | go_upon)
  refine bodyPost_ret (v:=.tuple #[.agg #[.int .i64 0,.int .i64 0,.int .i64 0,.int .i64 0,.int .i64 0,.slice none 0 0],.int .i64 6,.int .i64 1]) (by simp [results,Tryz.results5,go_sem,z0,z1,z2,z3,z4,z5]) rfl ?_;exact⟨.slice none 0 0,rfl,Evs.nil _ _,o⟩
 have e1:((M:Int) == 0)=false:=by simp;omega
 have b4:Hid (R=finM v n (rmGo v n ws (startS v) [] 2)):=by
  show _=_
  rw [HR.out,hn,if_neg (λ h=>hM0 (by rw [<-HM.out,h];rfl))]
 have hh:=(rdH_iff.1 hn).1;have am:=head_parts hh;have CF:=kD (λ(D:World)=>fst_s v am.1 am.2.1 D);have b9:=kD (start_ms hh);have bz:=kD (show 1<=n∧n<=25 from am.2.2);have b8:=kD am.1;obtain⟨X0,X1,X2,X3,X4,X5⟩:=R8.c6;have I:=R8.lt;clear HR ho hn hh am;go_wp2_with fail;refine(CF.out _).mono ?_;rintro e w5 ⟨v6,rfl,⟨su,u1,u2,rfl,af⟩,G⟩;have aT:g8<w4.heap.size:=I;have bT:=G.size;obtain⟨⟨A0,c0,rfl,-,-⟩,⟨A1,c1,rfl,-,-⟩,⟨A2,c2,rfl,-,-⟩⟩:=id af;have bx:=kD (show MsR w5 (λ b=>NotIn (.slice (some ⟨w5.heap.size+1,0,none⟩) 0 0) (g8+1) b∧b≠w5.heap.size) _ _ _ (startS v) from af.weak (λ b h hl=>by
  have h:=h.elim False.elim id;exact⟨⟨λ e=>by simp [Value.ownBlock] at e;omega,by omega⟩,by omega⟩))
 have K:=K.below G;have R8:=R8.below G R8.lt;have f:=kD (f.out.below G (Nat.le_of_lt aT));clear G af CF X0 X1 X2 X3 X4 X5 I ao e1;simp only [msC,List.length_cons,List.length_nil,Nat.zero_add,Nat.reduceAdd];go_upto_region 10 with fail;refine wp_gen (λ S=>Rs w S g8 w5.heap.size v n (.slice (some ⟨w5.heap.size+1,0,none⟩) 0 0) [] (.slice A0 2 c0) (.slice A1 (startS v).g.b.1.length c1) (.slice A2 (startS v).g.b.2.length c2) (startS v)∧Hid (RdS S g8 1 enBs (some ⟨bw,ow,none⟩) (l0 :: ws))) ⟨⟨K.below (by go_grown),R8.below (by go_grown) R8.lt,(RowB.new _ _ _).alloc _,bx.out.keep (.below (by go_grown)),⟨[],RowB.own (xs:=([]:List ERow)) (en:=enEv) (RowB.new' _ 56 [] (by simp)) enEv_len (Nat.le_refl _) (by simp) (by decide),LsR.nil _ _ _,List.Pairwise.nil⟩,aH,by omega⟩,kD (f.out.below (B':=w5.heap.size) (by go_grown) (by omega))⟩ ?_;clear K R8 bx f;obtain⟨T,aJ⟩:∃ q,w5.heap.size=q:=⟨_,rfl⟩;rw [aJ] at bT ⊢;clear aJ;rintro w6 ⟨K,f⟩;have HK:=kD K;clear K;go_wp2_with fail;go_loopw [3,4,10,11,12,13,14,15] (λ _ _ bL aM _ _ _ _ wr=>∃(k:Nat) (Q:List Ev) (x:Ms) (ev su u1 u2:Value),bL=ev∧aM=.int .i64 (k:Int)∧k=Q.length+1∧Hid (Q.length<M)∧Hid (Rs w wr g8 T v n ev Q su u1 u2 x)∧Hid (RdS wr g8 1 enBs (some ⟨bw,ow,none⟩) (l0 :: ws))∧Hid (MsOk v n Q.length x)∧Hid (Q.length<=300)∧Hid (R=finM v n (rmGo v n (ws.drop Q.length) x Q ((Q.length:Int)+2)))) (λ _ _ _ aM _ _ _ _ _=>M+1 - (intOf aM).toNat)
 case atStart=>exact⟨1,[],startS v,_,_,_,_,rfl,by first | rfl | trivial,rfl,kD (by show 0<M;omega),HK,f,b9,kD (Nat.zero_le _),b4⟩
 case round =>
  obtain⟨k,Q,x,ev,su,u1,u2,rfl,rfl,aA,ay,C,f,ar,aB,hQ⟩:=hrel;obtain⟨L,hL⟩:∃ L,Q.length=L:=⟨_,rfl⟩;rw [hL] at ay ar aB hQ aA;have bo:L<M:=ay.out;obtain⟨l,Y⟩:∃ l,ws[L]?=some l:=⟨ws[L]'(by rw [HM.out];exact bo),List.getElem?_eq_getElem _⟩;have HL:=kD hL;have ai:=kD Y;have aU:=b3.out l (List.mem_cons_of_mem _ (List.mem_of_getElem? Y));have ap:wr.cell? ⟨bw,ow+k,none⟩=some (.string (bs l)):=cell_at (f.out.more (Nat.le_of_lt C.out.r8.lt)) (i:=k) (by rw [aA];simpa using Y);have bf:(k:Int)<=(M:Int):=by omega
  have aG:(k:Int)<(M:Int)+1:=by omega
  have ad:=kD aA;have a8:wr.heap.size=wr.heap.size:=rfl;have ah:bw<wr.heap.size:=by
   obtain⟨b',o',e',bY,-⟩:=f.out.2 (by simp);simp only [Option.some.injEq,Addr.mk.injEq] at e';rw [e'.1];exact Nat.lt_trans bY C.out.r8.lt
  clear Y hL ay a8 aA;by_cases hend:k=M∧l=[]
  ·obtain⟨bn,az⟩:=hend;have eB:((k:Int) == (M:Int))=true:=by simp;omega
   have e1:((bs l).toList == [])=true:=by rw [az,ByteArray.toList_eq,bs_data];rfl
   have e2:(bs l).toList.isEmpty=true:=by rw [az,ByteArray.toList_eq,bs_data];rfl
   have hR:R=((v,n,Q),0,0):=by
    rw [hQ.out,rmGo_one v n x Q _ ai.out (by rw [HM.out,<-ad.out];exact bn),if_pos az];rfl
   have K:=C.out;obtain⟨Ae,ce,rfl⟩:=K.es.form;rw [HL.out] at K;obtain⟨X0,X1,X2,X3,X4,X5⟩:=K.r8.c6;have I:=K.r8.lt;have b0:=K.r8.frozen;clear az bn hQ C ar aB ai aU f;have a3:=K.k.nth0 0 rfl;have HE:=kD K.es;have bU:=K.lo;have d:=K.k.bel;have K8:=K.r8;rw [HL.out];go_upto_region 23 with fail;refine wp_gen (λ S=>RowB S g8 26 [.int .i64 v.p,.int .i64 v.c,.int .i64 v.h,.int .i64 v.s,.int .i64 n,.slice Ae L ce]∧RowB S w.heap.size 26 [.int .i64 0,.int .i64 0,.int .i64 0,.int .i64 0,.int .i64 0,.slice none 0 0]∧Below w.heap.size w S∧Hid (Evs S (T+1) (.slice Ae L ce) Q)) ⟨K8.set 5 _,a3.other (by simp only;omega) _,d.setCell (by simp only;omega) _,kD (HE.out.low (Base.grownBy_setCell _ g8 5 _) (by omega))⟩ ?_;clear X0 X1 X2 X3 X4 X5 I b0 K K8 a3 HE d ap e1 e2 eB bf aG;rintro w7 ⟨r8,O,d,HE⟩;obtain⟨X0,X1,X2,X3,X4,X5⟩:=r8.c6;have I:=r8.lt;go_wp2_with (refine wM 26 0 [.int .i64 v.p,.int .i64 v.c,.int .i64 v.h,.int .i64 v.s,.int .i64 n,.slice Ae L ce] O ?_;intro w8 s8 aY z8;refine Hid.out ?_);have o:Below w.heap.size w w8:=d.grown aY d.size (λ k J=>by simp at J;omega);have bW:Evs w8 w.heap.size (.slice Ae L ce) Q:=(HE.out.low aY (by omega)).less (by omega);obtain⟨z0,z1,z2,z3,z4,z5⟩:=s8.c6;have ab:=s8.lt;clear aY O d X0 X1 X2 X3 X4 X5 I HE r8;refine kD ?_
   repeat (first | go_values | go_skip | go_step | go_upon)
   refine bodyPost_ret (v:=.tuple #[.agg #[.int .i64 v.p,.int .i64 v.c,.int .i64 v.h,.int .i64 v.s,.int .i64 n,.slice Ae L ce],.int .i64 0,.int .i64 0]) (by simp [results,Tryz.results5,go_sem,z0,z1,z2,z3,z4,z5]) rfl ?_;subst hR;exact⟨_,rfl,bW,o⟩
  ·have CE:=kD (λ(D:World)=>lread_s v b8.out l aU D);obtain⟨qB,aR⟩:∃ q,((k:Int) == (M:Int))=q:=⟨_,rfl⟩;have aD:=kD aR;have ak:=kD (show qB=true->l≠[] from λ h e=>hend ⟨by rw [h] at aR;have:=eq_of_beq aR;omega,e⟩);clear hend aU;go_upto_region 13 with fail;go_cut [57] from 43 to 102 (λ bJ wx=>bJ=.bool false∧wx=wr)
   case first =>
    cases qB with
    | false =>
     go_wp2_with fail;go_meet;exact⟨rfl,rfl⟩
    | true =>
     have aS:=ak.out rfl;have e1:((bs l).toList == [])=false:=by rw [ByteArray.toList_eq,bs_data];cases l with | nil=>exact absurd rfl aS | cons a l=>rfl
     have e2:(bs l).toList.isEmpty=false:=by rw [ByteArray.toList_eq,bs_data];cases l with | nil=>exact absurd rfl aS | cons a l=>rfl
     clear aS;go_wp2_with fail;go_meet;exact⟨rfl,rfl⟩
   case rest =>
   obtain⟨rfl,rfl⟩:=hcut;have Z:=C;go_upto_region 14 with fail;refine region_rel [some 59,some 60,some 61,some 62,some 63,some 64,some 65,some 58,some 66,some 67,some 12,none,some 13] 13 (Pl [some (.pointer (some ⟨g8,0,none⟩)),some (.agg #[.int .i64 v.p,.int .i64 v.c,.int .i64 v.h,.int .i64 v.s]),some (.slice (some ⟨bw,ow,none⟩) (M+1) cp),some (.int .i64 (k:Int)),some (.pointer (some ⟨bw,ow+k,none⟩)),some (.string (bs l)),none,none,none,none,none,none,none]) (λ L m w'=>CbF (inS RelEO (λ b=>wc.heap.size<=b)) (rdE v l) wc 6 10 11 [(7,(λ v=>v)),(8,ext 0),(9,ext 1),(12,ext 1)] (λ v=>aggC (ext 0 v)) 56 5 L m w') (by kernel_rfl) (by kernel_rfl) (by kernel_rfl) (by kernel_rfl) (by kernel_rfl) (by kernel_rfl) (by first | kernel_rfl | rfl) ?g0_1 ?gst_1 ?gfin_1
   case g0_1=>exact⟨(Below.refl _ _).drew,λ h=>absurd h (by decide),λ p hp h=>absurd h (by simp only [List.mem_cons,List.not_mem_nil,or_false] at hp;rcases hp with rfl | rfl | rfl | rfl <;> decide),λ h=>absurd h (by decide),λ h=>absurd h (by decide)⟩
   case gst_1 =>
    refine rN rfl (λ L m A D E j H U F K C=>?_) ?_
    ·have e7:=U.w 7 (.pointer (some ⟨g8,0,none⟩));have KK:=Z.out.below F.bel;have rc:=KK.r8.c6;have X0:=rc.1;have X1:=rc.2.1;have X2:=rc.2.2.1;have X3:=rc.2.2.2.1;have I:=KK.r8.lt;have oc:=(F.bel.cell ah).trans ap;clear KK rc;go_simp;exact pF C (F.skip 0 _)
    refine rN rfl (λ L m A D E j H U F K C=>?_) ?_
    ·have cw:=U.v 0 59;have KK:=Z.out.below F.bel;have rc:=KK.r8.c6;have X0:=rc.1;have X1:=rc.2.1;have X2:=rc.2.2.1;have X3:=rc.2.2.2.1;have I:=KK.r8.lt;have oc:=(F.bel.cell ah).trans ap;clear KK rc;go_simp;exact pF C (F.skip 1 _)
    refine rN rfl (λ L m A D E j H U F K C=>?_) ?_
    ·have e5:=U.w 5 (.slice (some ⟨bw,ow,none⟩) (M+1) cp);go_simp;exact pF C (F.skip 2 _)
    refine rN rfl (λ L m A D E j H U F K C=>?_) ?_
    ·have cx:=U.w 11 (.int .i64 (k:Int));go_simp;exact pF C (F.skip 3 _)
    refine rN rfl (λ L m A D E j H U F K C=>?_) ?_
    ·have ct:=U.v 2 61;have cr:=U.v 3 62;go_simp;exact pF C (F.skip 4 _)
    refine rN rfl (λ L m A D E j H U F K C=>?_) ?_
    ·have cq:=U.v 4 63;have KK:=Z.out.below F.bel;have rc:=KK.r8.c6;have X0:=rc.1;have X1:=rc.2.1;have X2:=rc.2.2.1;have X3:=rc.2.2.2.1;have I:=KK.r8.lt;have oc:=(F.bel.cell ah).trans ap;clear KK rc;go_simp;exact pF C (F.skip 5 _)
    refine rN rfl (λ L m A D E j H U F K C=>?_) ?_
    ·have cv:=U.v 1 60;have co:=U.v 5 64;go_simp;refine(CE.out D).mono ?_;rintro e w6 ⟨k6,a6,b6,ch,bI,r6,a4,rfl,bd,bX,bc⟩;refine(bd.form enSt_len).elim λ A6 q6=>?_
     refine q6.elim λ c6 q7=>?_
     exact C.out _ w6 (Pl.any rfl) (F.call E (by decide) bX ⟨k6,a6,b6,A6,_,c6,r6,a4,bI,by rw [q7.1],rfl,q7.1 ▸ OwnV.of bd (Nat.le_refl _) (λ b G _=>⟨.inr G,Nat.le_trans F.bel.size G⟩),by cases a4 <;> first | exact bc | exact bc.1⟩)
    refine rN rfl (λ L m A D E j H U F K C=>?_) ?_
    ·have cn:=U.x 6 65;go_simp;exact C.out _ D (Pl.any rfl) (F.part 7 (by decide) (bK j 6) (by intro p hp e;simp only [List.mem_cons,List.not_mem_nil,or_false] at hp;rcases hp with rfl | rfl | rfl | rfl <;> first | exact absurd e (by decide) | rfl))
    refine rN rfl (λ L m A D E j H U F K C=>?_) ?_
    ·have av:=U.x 7 58;have fc:=F.fc (bK j 6);refine fc.elim λ k5 q=>?_
     refine q.elim λ a5 q=>?_
     refine q.elim λ b5 q=>?_
     refine q.elim λ A5 q=>?_
     refine q.elim λ m5 q=>?_
     refine q.elim λ c5 q=>?_
     refine q.elim λ r5 q=>?_
     refine q.elim λ aN q=>?_
     refine q.elim λ aL q=>?_
     have bq:=av.trans ((F.fd (7,(λ v=>v)) (by simp) (bK j 7)).2.trans q.1);clear av fc;go_simp;exact C.out _ D (Pl.any rfl) (F.part 8 (by decide) (bK j 6) (by intro p hp e;simp only [List.mem_cons,List.not_mem_nil,or_false] at hp;rcases hp with rfl | rfl | rfl | rfl <;> first | exact absurd e (by decide) | (rw [q.1];try rfl)))
    refine rN rfl (λ L m A D E j H U F K C=>?_) ?_
    ·have av:=U.x 7 58;have fc:=F.fc (bK j 6);refine fc.elim λ k5 q=>?_
     refine q.elim λ a5 q=>?_
     refine q.elim λ b5 q=>?_
     refine q.elim λ A5 q=>?_
     refine q.elim λ m5 q=>?_
     refine q.elim λ c5 q=>?_
     refine q.elim λ r5 q=>?_
     refine q.elim λ aN q=>?_
     refine q.elim λ aL q=>?_
     have bq:=av.trans ((F.fd (7,(λ v=>v)) (by simp) (bK j 7)).2.trans q.1);clear av fc;go_simp;exact C.out _ D (Pl.any rfl) (F.part 9 (by decide) (bK j 6) (by intro p hp e;simp only [List.mem_cons,List.not_mem_nil,or_false] at hp;rcases hp with rfl | rfl | rfl | rfl <;> first | exact absurd e (by decide) | (rw [q.1];try rfl)))
    refine rN rfl (λ L m A D E j H U F K C=>?_) ?_
    ·go_simp;exact C.out _ _ (Pl.any rfl) (F.box E (by decide) (λ h=>E (H 11 10 (by kernel_rfl) h)) rfl)
    refine rN rfl (λ L m A D E j H U F K C=>?_) ?_
    ·have b2:=U.x 10 12;have b1:=U.x 8 66;have fc:=F.fc (bK j 6);refine fc.elim λ k5 q=>?_
     refine q.elim λ a5 q=>?_
     refine q.elim λ b5 q=>?_
     refine q.elim λ A5 q=>?_
     refine q.elim λ m5 q=>?_
     refine q.elim λ c5 q=>?_
     refine q.elim λ r5 q=>?_
     refine q.elim λ aN q=>?_
     refine q.elim λ aL q=>?_
     refine(F.fa (bK j 10)).elim λ g qa=>?_
     refine qa.2.2.1.elim λ cs qc=>?_
     have bl:cs.length=5:=qc.1;have bR:m 8=.agg ⟨[.int .i64 k5,.int .i64 a5,.int .i64 b5,.slice A5 m5 c5,.int .i64 r5]⟩:=by rw [(F.fd (8,ext 0) (by simp) (bK j 8)).2,q.1];rfl
     refine wp_sm 56 _ _ rfl g 0 [.int .i64 k5,.int .i64 a5,.int .i64 b5,.slice A5 m5 c5,.int .i64 r5] cs (ev (b2.trans qa.1)) (ev (b1.trans bR)) 56 qc.2 (by kernel_rfl) (Nat.le_of_eq bl.symm) rfl ?_;exact C.out undef _ (Pl.any rfl) (F.wrote (by decide) (bK j 6) (bK j 10) qa.1 qa.2.1 qc.2 (by rw [q.1];exact setL_all cs _ bl))
    refine rN rfl (λ L m A D E j H U F K C=>?_) ?_
    ·have bp:=U.x 9 67;have fc:=F.fc (bK j 6);refine fc.elim λ k5 q=>?_
     refine q.elim λ a5 q=>?_
     refine q.elim λ b5 q=>?_
     refine q.elim λ A5 q=>?_
     refine q.elim λ m5 q=>?_
     refine q.elim λ c5 q=>?_
     refine q.elim λ r5 q=>?_
     refine q.elim λ aN q=>?_
     refine q.elim λ aL q=>?_
     have cd:=bp.trans ((F.fd (9,ext 1) (by simp) (bK j 9)).2.trans (by rw [q.1];try rfl));clear fc bp;go_simp;exact C.out _ D (Pl.any rfl) (F.part 12 (by decide) (bK j 6) (by intro p hp e;simp only [List.mem_cons,List.not_mem_nil,or_false] at hp;rcases hp with rfl | rfl | rfl | rfl <;> first | exact absurd e (by decide) | (rw [q.1];try rfl)))
    exact RelFrom.nil (by decide)
   intro m D hp F;simp only [Fr,Act.put,sX,Nat.reduceAdd];obtain⟨aC,aW,cc,-,bj⟩:=F.fa trivial;have B:=(F.fw trivial).2 aC aW;obtain⟨ke,ae,be,As,N,cs,re,ok,ss,aO,hN,an,aa⟩:=bj trivial;have aE:m 12=.bool ok:=(F.fd (12,ext 1) (by simp) trivial).2.trans (by rw [aO];try rfl);rw [aO] at B;have B:RowB D aC 56 [.int .i64 ke,.int .i64 ae,.int .i64 be,.slice As N cs,.int .i64 re]:=B;rw [aW,aE];have ac:=F.bel;have V:=kD (own_lo an (λ b h=>h.2));have K:=Z.out.below ac;have f:=kD (f.out.below ac (Nat.le_of_lt Z.out.r8.lt));obtain⟨Ae,ce,rfl⟩:=K.es.form;rw [HL.out] at K Z;have bC:=kD Z.out.es;have aX:T+1<=wc.heap.size:=Z.out.r10.lt;have HG:=kD (show wc.grownBy D (some T) from⟨ac.os,ac.tape,ac.output,ac.size,λ i hi _=>ac.block i hi⟩);have bU:=K.lo;have bh:=B.lt;have HN:=kD hN;have ci:IntKind.i64.wrap ((k:Int)+1)=(k:Int)+1:=IntWalk.i64_in _ (by omega);rw [HL.out];clear F hp aO aE bj aW ac C Z ap bf aG CE an hN ah;obtain⟨⟨A0,c0,rfl,-,-⟩,⟨A1,c1,rfl,-,-⟩,⟨A2,c2,rfl,-,-⟩⟩:=id K.ms
   cases ok with
   | false =>
    have hn:rdE v l=none:=aa;have hR:((nulV,0,[]),6,(k:Int)+1)=R:=by
     have J:=ad.out;rw [hQ.out];by_cases ag:L+1=M
     ·have hq:qB=true:=by rw [<-aD.out];simp;omega
      rw [rmGo_one v n x Q _ ai.out (by rw [HM.out];exact ag),if_neg (ak.out hq)];show _=(((nulV,0,[]),6,(L:Int)+2):(Vr × Int × List Ev) × Int × Int)
      rw [J];simp;omega
     ·rw [rmGo_drop v n x Q _ ai.out (by rw [HM.out];omega),hn];show _=(((nulV,0,[]),6,(L:Int)+2):(Vr × Int × List Ev) × Int × Int)
      rw [J];simp;omega
    subst hR;have K:=K.k;clear hQ aa hn ak;have O:=K.nth0 0 rfl;have d:=K.bel;go_wp2_with (refine wM 26 0 [.int .i64 0,.int .i64 0,.int .i64 0,.int .i64 0,.int .i64 0,.slice none 0 0] O ?_;intro w7 W r z7;refine Hid.out ?_);have o:Below w.heap.size w w7:=d.grown r d.size (λ k J=>by simp at J;omega);obtain⟨z0,z1,z2,z3,z4,z5⟩:=W.c6;have ab:=W.lt;clear r O d K;refine kD ?_
    repeat (first | go_values | go_skip | go_step | go_upon)
    refine bodyPost_ret (v:=.tuple #[.agg #[.int .i64 0,.int .i64 0,.int .i64 0,.int .i64 0,.int .i64 0,.slice none 0 0],.int .i64 6,.int .i64 ((k:Int)+1)]) (by simp [results,Tryz.results5,go_sem,z0,z1,z2,z3,z4,z5]) rfl ?_;exact⟨.slice none 0 0,rfl,Evs.nil _ _,o⟩
   | true =>
   have hn:rdE v l=some ⟨ke,ae,be,ss,re⟩:=aa
   cases qB with
   | true =>
    have hR:((nulV,0,[]),6,(k:Int)+1)=R:=by
     have J:=ad.out;have ag:L+1=M:=by have:=eq_of_beq aD.out;omega
     rw [hQ.out,rmGo_one v n x Q _ ai.out (by rw [HM.out];exact ag),if_neg (ak.out rfl)];show _=(((nulV,0,[]),6,(L:Int)+2):(Vr × Int × List Ev) × Int × Int)
     rw [J];simp;omega
    subst hR;have e7:=aD.out;have K:=K.k;clear hQ aa hn ak;have O:=K.nth0 0 rfl;have d:=K.bel;go_wp2_with (refine wM 26 0 [.int .i64 0,.int .i64 0,.int .i64 0,.int .i64 0,.int .i64 0,.slice none 0 0] O ?_;intro w7 W r z7;refine Hid.out ?_);have o:Below w.heap.size w w7:=d.grown r d.size (λ k J=>by simp at J;omega);obtain⟨z0,z1,z2,z3,z4,z5⟩:=W.c6;have ab:=W.lt;clear r O d K;refine kD ?_
    repeat (first | go_values | go_skip | go_step | go_upon)
    refine bodyPost_ret (v:=.tuple #[.agg #[.int .i64 0,.int .i64 0,.int .i64 0,.int .i64 0,.int .i64 0,.slice none 0 0],.int .i64 6,.int .i64 ((k:Int)+1)]) (by simp [results,Tryz.results5,go_sem,z0,z1,z2,z3,z4,z5]) rfl ?_;exact⟨.slice none 0 0,rfl,Evs.nil _ _,o⟩
   | false =>
   have e7:=aD.out;have aV:L+1<M:=by
    have h1:=ad.out;have h2:¬ (k:Int)=(M:Int):=λ h=>by rw [h] at e7;simp at e7
    omega
   obtain⟨X,hX⟩:∃ X,nextS v n x ⟨ke,ae,be,ss,re⟩=X:=⟨_,rfl⟩;have aj:Hid (R=finM v n (goW v n (ws.drop (L+1)) Q ⟨ke,ae,be,ss,re⟩ ((L:Int)+2) L X)):=by
    show _=_
    rw [hQ.out,rmGo_drop v n x Q _ ai.out (by rw [HM.out];exact aV),hn,<-hX,HL.out]
   have CN:=kD (λ(a0:World) (o:Below D.heap.size D a0)=>next_s v n L x ar.out aB.out bz.out (λ b=>NotIn (.slice Ae L ce) (g8+1) b∧b≠T) _ _ _ ⟨ke,ae,be,ss,re⟩ As cs D.heap.size a0 o.size (K.ms.below o) ((OwnS.rd enSt_len V.out).below o (Nat.le_refl _)) X hX);simp only [HN.out] at CN;have CX:=kD hX;have bB:=kD K.es.block;have bt:=kD (λ y (h:X=some y)=>next_ms bz.out.1 ar.out (h ▸ CX.out));clear hQ aa hn hX ak ar;have K0:=K;obtain⟨X0,X1,X2,X3,X4,X5⟩:=K0.r8.c6;obtain⟨m0,m1,m2,m3,m4,m5,m6,m7,m8,m9,bN,bM⟩:=row12 K0.r10;obtain⟨k0,k1,k2,k3,k4⟩:=B.c5;have I:=K0.r8.lt;have bi:=K0.r10.lt;go_wp2_with fail;refine(CN.out _ (Below.refl _ _)).mono ?_;rintro e a1 ⟨v6,rfl,⟨B0,d0,f0,B1,d1,f1,B2,d2,f2,y,rfl,z⟩,G⟩;have K:=K.below G;have B:=B.below G B.lt;have f:=kD (f.out.below G (Nat.le_of_lt I));have V:=kD ((V.out.below G (Nat.le_refl _)).more G.size);have HG:=kD (grown_below HG.out G);have aQ:=G.size;clear G CN X0 X1 X2 X3 X4 X5 m0 m1 m2 m3 m4 m5 m6 m7 m8 m9 bN bM k0 k1 k2 k3 k4 I bi K0 e7;simp only [msC];go_upto_region 18 with fail;refine wp_gen (λ S=>Rs w S g8 T v n (.slice Ae L ce) Q (.slice A0 [x.s0,x.s1].length c0) (.slice A1 x.g.b.1.length c1) (.slice A2 x.g.b.2.length c2) x∧RowB S aC 56 [.int .i64 ke,.int .i64 ae,.int .i64 be,.slice As N cs,.int .i64 re]∧RowB S a1.heap.size 52 (msC (.slice B0 d0 f0) (.slice B1 d1 f1) (.slice B2 d2 f2) y)∧Hid (OwnS S wc.heap.size S.heap.size 135 4 enSt (.slice As N cs) ss)∧Hid (wc.grownBy S (some T))∧Hid (∀ x0,X=some x0->y=x0∧MsR S (λ b=>NotIn (.slice Ae L ce) (g8+1) b∧b≠T) (.slice B0 d0 f0) (.slice B1 d1 f1) (.slice B2 d2 f2) x0)∧Hid (RdS S g8 1 enBs (some ⟨bw,ow,none⟩) (l0 :: ws))) ⟨K.below ((Below.refl _ _).alloc (Nat.le_refl _) _),B.alloc _,RowB.new _ _ _,kD ((V.out.alloc _).more (by simp)),kD (grown_below HG.out ((Below.refl _ _).alloc (Nat.le_refl _) _)),kD λ x0 h=>⟨(z x0 h).1,((z x0 h).2.weak (λ b G hl=>G.elim False.elim (λ G=>⟨⟨λ e=>by have:=(bB.out b e).2;omega,by omega⟩,by omega⟩))).below ((Below.refl _ _).alloc (Nat.le_refl _) _)⟩,kD (f.out.below ((Below.refl _ _).alloc (Nat.le_refl _) _) (Nat.le_of_lt K.r8.lt))⟩ ?_;clear K B V HG z aQ bB f bh;obtain⟨cm,aI⟩:∃ q,a1.heap.size=q:=⟨_,rfl⟩;rw [aI];clear aI;rintro cg ⟨K,B,aZ,V,HG,z,f⟩;have bZ:L<=300:=aB.out
   cases X with
   | none =>
    have hR:((nulV,0,[]),5,(k:Int)+1)=R:=by
     have J:=ad.out;rw [aj.out];show _=(((nulV,0,[]),5,(L:Int)+2):(Vr × Int × List Ev) × Int × Int)
     rw [J];simp;omega
    subst hR;have K:=K.k;clear aj z;have O:=K.nth0 0 rfl;have d:=K.bel;go_wp2_with (refine wM 26 0 [.int .i64 0,.int .i64 0,.int .i64 0,.int .i64 0,.int .i64 0,.slice none 0 0] O ?_;intro w7 W r z7;refine Hid.out ?_);have o:Below w.heap.size w w7:=d.grown r d.size (λ k J=>by simp at J;omega);obtain⟨z0,z1,z2,z3,z4,z5⟩:=W.c6;have ab:=W.lt;clear r O d K;refine kD ?_
    repeat (first | go_values | go_skip | go_step | go_upon)
    refine bodyPost_ret (v:=.tuple #[.agg #[.int .i64 0,.int .i64 0,.int .i64 0,.int .i64 0,.int .i64 0,.slice none 0 0],.int .i64 5,.int .i64 ((k:Int)+1)]) (by simp [results,Tryz.results5,go_sem,z0,z1,z2,z3,z4,z5]) rfl ?_;exact⟨.slice none 0 0,rfl,Evs.nil _ _,o⟩
   | some y0 =>
   obtain⟨rfl,af⟩:=z.out _ rfl;by_cases h300:L=300
   ·have e8:((L:Int) == 300)=true:=by simp;omega
    have hR:((nulV,0,[]),5,(k:Int)+1)=R:=by
     have J:=ad.out;rw [aj.out];simp only [goW];rw [if_pos (by omega)];show _=(((nulV,0,[]),5,(L:Int)+2):(Vr × Int × List Ev) × Int × Int)
     rw [J];simp;omega
    subst hR;have K:=K.k;clear aj z af h300;have O:=K.nth0 0 rfl;have d:=K.bel;go_wp2_with (refine wM 26 0 [.int .i64 0,.int .i64 0,.int .i64 0,.int .i64 0,.int .i64 0,.slice none 0 0] O ?_;intro w7 W r z7;refine Hid.out ?_);have o:Below w.heap.size w w7:=d.grown r d.size (λ k J=>by simp at J;omega);obtain⟨z0,z1,z2,z3,z4,z5⟩:=W.c6;have ab:=W.lt;clear r O d K;refine kD ?_
    repeat (first | go_values | go_skip | go_step | go_upon)
    refine bodyPost_ret (v:=.tuple #[.agg #[.int .i64 0,.int .i64 0,.int .i64 0,.int .i64 0,.int .i64 0,.slice none 0 0],.int .i64 5,.int .i64 ((k:Int)+1)]) (by simp [results,Tryz.results5,go_sem,z0,z1,z2,z3,z4,z5]) rfl ?_;exact⟨.slice none 0 0,rfl,Evs.nil _ _,o⟩
   have e8:((L:Int) == 300)=false:=by simp;omega
   have b7:Hid (R=finM v n (rmGo v n (ws.drop (L+1)) y (Q++[⟨ke,ae,be,ss,re⟩]) ((L:Int)+2+1))):=by
    show _=_
    rw [aj.out];simp only [goW];rw [if_neg (by omega)]
   have bv:=kD (bt.out y rfl);have ca:=kD (show L<300 by omega);have bA:=kD aV;obtain⟨bH,y1,y2,y3,y4,y5,y6,y7,y8,y9,bG,bF⟩:=row12 aZ;have bg:=aZ.lt;have br:=K.r10;clear aj z bt h300 aV bo;go_upto_region 21 with (first | (refine wM 52 0 (msC (.slice B0 d0 f0) (.slice B1 d1 f1) (.slice B2 d2 f2) y) br ?_;intro al a2 P bE));have K2:=K.st10 a2 P af;have B:=B.grown P (λ q hq=>by simp at hq;omega);have V:=kD (((OwnS.grown V.out P (λ q hq=>by simp at hq;left;omega))).more P.size);have HG:=kD (Base.grownBy_trans HG.out P);have f:=kD (RdS.grown f.out P (Nat.le_of_lt K.r8.lt) (λ q hq=>by simp at hq;omega));clear bH y1 y2 y3 y4 y5 y6 y7 y8 y9 bG bF bg br aZ a2 P bE K af e8;have K:=K2;clear K2;have cl:aC<al.heap.size:=B.lt;have f:=kD (f.out.below (w':=al.alloc (.cells #[.int .i64 ke,.int .i64 ae,.int .i64 be,.slice As N cs,.int .i64 re] 56)) ((Below.refl _ _).alloc (Nat.le_refl _) _) (Nat.le_of_lt K.r8.lt));have K:=K.below ((Below.refl _ _).alloc (Nat.le_refl _) (.cells #[.int .i64 ke,.int .i64 ae,.int .i64 be,.slice As N cs,.int .i64 re] 56));obtain⟨rs,aF,bb,aK⟩:=Evs.app bC.out aX (grown_below HG.out ((Below.refl _ _).alloc (Nat.le_refl _) (.cells #[.int .i64 ke,.int .i64 ae,.int .i64 be,.slice As N cs,.int .i64 re] 56))) (Nat.lt_succ_self _) ke ae be re (.slice As N cs) ss ((V.out.alloc _).more (by simp));have ba:rs.length=L:=bb.trans HL.out;have bD:=kD aK;have ab:T+1<=al.heap.size:=by omega
   obtain⟨k0,k1,k2,k3,k4⟩:=B.c5;have aw:=kD K;clear aK bb V HG bC K;go_wp2_with (at_builtin;refine wpL_one rfl _ _ _ rfl (T+1) _ 56 i5 (.agg #[.int .i64 0,.int .i64 0,.int .i64 0,.slice none 0 0,.int .i64 0]) 5 56 Tryz.underlying24 bV bQ bP bO rfl (by decide) enEv_len (.slice Ae L ce) rs (ke,ae,be,.slice As N cs,re) (one_Ev _ rfl) rfl aF al.heap.size 1 56 (by first | rfl | (simp;rfl)) (RowB.new _ _ _) ?c1 ?c2 ?c3 ?_)
   case c1=>unfold maxLen;omega
   case c2=>omega
   case c3=>first | omega | (simp;omega)
   intro g cy cf ho hg aq ay;have aq:(Value.slice Ae L ce).ownBlock=some g∨g=(al.alloc (.cells #[.int .i64 ke,.int .i64 ae,.int .i64 be,.slice As N cs,.int .i64 re] 56)).heap.size:=aq.imp id (λ h=>by rw [World.size_alloc];exact h);have K:=aw.out.app hg aq (bD.out g _ _ _ ho hg aq);have f:=kD (RdS.grown f.out hg (Nat.le_of_lt aw.out.r8.lt) (λ q hq=>by have:=(aw.out.es.block q hq).1;have:=aw.out.lo;omega))
   try rw [ba] at K
   have cb:=kD K;clear ho hg aq K bD aw aF k0 k1 k2 k3 k4 B;go_wp2_with fail;go_roundw
   case rel=>exact⟨k+1,Q++[⟨ke,ae,be,ss,re⟩],y,_,_,_,_,rfl,by first | rfl | trivial | go_num,by rw [List.length_append,HL.out,ad.out];rfl,kD (by show _<M;rw [List.length_append,HL.out];exact bA.out),cb,f,kD (by show MsOk v n _ y;rw [List.length_append,HL.out];exact bv.out),kD (by show _<=300;rw [List.length_append,HL.out];exact ca.out),kD (by show R=_;rw [b7.out,List.length_append,HL.out];rfl)⟩
   case measure =>
    have h1:=bA.out;have h2:=ad.out;simp [intOf];omega
end Gm
namespace Bd36
open Go.ChangeShapes Go.WideShapes Go.ChangeAt Go.RowKit Base Ints PlP Bd5
theorem rdSt_at {w:World} {B:Nat} {A:Option Addr} {xs:List Stp} (h:RdS w B 4 enSt A xs) {i:Nat} (hi:i<xs.length) :
  ∃ b off p q r s,A=some ⟨b,off,none⟩∧b<B∧xs[i]?=some (p,q,r,s)∧w.cell? ⟨b,off+i*4,none⟩=some (.int .i64 p)∧w.cell? ⟨b,off+i*4+1,none⟩=some (.int .i64 q)∧w.cell? ⟨b,off+i*4+2,none⟩=some (.int .i64 r)∧w.cell? ⟨b,off+i*4+3,none⟩=some (.bool s):=by
 obtain⟨b,off,⟨p,q,r,s⟩,e,d,c,a⟩:=h.at_ hi;exact⟨b,off,p,q,r,s,e,d,c,a 0 _ rfl,a 1 _ rfl,a 2 _ rfl,a 3 _ rfl⟩
theorem mark_fillS (P R:List Value) (x y:Stp) (i:Nat) (h:P.length=i) :
  (((((P++(enSt x++R)).set (i) (Value.int .i64 y.1)).set (i+1) (Value.int .i64 y.2.1)).set (i+2) (Value.int .i64 y.2.2.1)).set (i+3) (Value.bool y.2.2.2))=P++(enSt y++R):=by
 subst h;simp [enSt]
def mB (x:Int):Bool:=x % 3 == 0
def mkS (k i:Nat):Stp:=((k:Int)+(i:Int)*4,(k:Int)+(i:Int)*4+1,(k:Int)+(i:Int)*4+1+1,mB ((k:Int)+(i:Int)*4+1+1+1))
def markL (k n:Nat):List Stp:=(List.range n).map (mkS k)
theorem markL_len (k n:Nat):(markL k n).length=n:=by simp [markL]
theorem markL_at (k n i:Nat) (h:i<n):(markL k n)[i]?=some ((k:Int)+(i:Int)*4,(k:Int)+(i:Int)*4+1,(k:Int)+(i:Int)*4+1+1,mB ((k:Int)+(i:Int)*4+1+1+1)):=by simp [markL,h,mkS]
theorem markL_succ (k n:Nat):markL k (n+1)=markL k n++[((k:Int)+(n:Int)*4,(k:Int)+(n:Int)*4+1,(k:Int)+(n:Int)*4+1+1,mB ((k:Int)+(n:Int)*4+1+1+1))]:=by simp [markL,List.range_succ,mkS]
theorem eq1 (p q r:Int) (s:Bool) (w:World) :
  Calls Tryz.prog 132 #[.agg #[.int .i64 p,.int .i64 q,.int .i64 r,.bool s],.agg #[.int .i64 p,.int .i64 q,.int .i64 r,.bool s]] w λ e w'=>e=.returned (.bool true)∧Below w.heap.size w w':=by
 have d:(p != p)=false:=by simp
 have c:(q != q)=false:=by simp
 have b:(r != r)=false:=by simp
 have a:(s != s)=false:=by simp
 go_enter Tryz.func132,Tryz.ntmps132;go_wp2;go_ret;exact⟨rfl,by go_grown⟩
theorem eqS (B1 B2:Nat) (A1 A2:Option Addr) (c1 c2:Nat) (xs:List Stp) (w:World) (h1:RdS w B1 4 enSt A1 xs) (h2:RdS w B2 4 enSt A2 xs) (hB1:B1<=w.heap.size) (hB2:B2<=w.heap.size) :
  Calls Tryz.prog 93 #[.slice A1 xs.length c1,.slice A2 xs.length c2] w λ e w'=>e=.returned (.bool true)∧Below w.heap.size w w':=by
 have V:=h1.len
 generalize hnn:xs.length=n at *
 have H:=kD hnn;clear hnn;go_enter Tryz.func93,Tryz.ntmps93;go_wp2;go_loopw [5] (λ i wr=>∃ k:Nat,k<=n∧i=.int .i64 k∧Below w.heap.size w wr) (λ i _=>n - (intOf i).toNat)
 case atStart=>exact⟨0,Nat.zero_le _,rfl,Below.refl _ _⟩
 case round =>
  obtain⟨k,W,rfl,c⟩:=hrel;by_cases hlt:k<n
  ·obtain⟨b,d,p,q,r,s,rfl,P,D,C,B,A,z⟩:=rdSt_at h1 (by rw [H.out];exact hlt);obtain⟨h,a,T,S,R,Q,rfl,o,l,y,x,v,t⟩:=rdSt_at h2 (by rw [H.out];exact hlt);rw [D] at l;simp only [Option.some.injEq,Prod.mk.injEq] at l;obtain⟨rfl,rfl,rfl,rfl⟩:=l;have O:=c.size;have g:b<wr.heap.size:=by omega
   have f:h<wr.heap.size:=by omega
   have M:=(c.cell (p:=⟨b,d+k*4,none⟩) (by show b<_;omega)).trans C;have L:=(c.cell (p:=⟨b,d+k*4+1,none⟩) (by show b<_;omega)).trans B;have K:=(c.cell (p:=⟨b,d+k*4+2,none⟩) (by show b<_;omega)).trans A;have J:=(c.cell (p:=⟨b,d+k*4+3,none⟩) (by show b<_;omega)).trans z;have I:=(c.cell (p:=⟨h,a+k*4,none⟩) (by show h<_;omega)).trans y;have G:=(c.cell (p:=⟨h,a+k*4+1,none⟩) (by show h<_;omega)).trans x;have F:=(c.cell (p:=⟨h,a+k*4+2,none⟩) (by show h<_;omega)).trans v;have E:=(c.cell (p:=⟨h,a+k*4+3,none⟩) (by show h<_;omega)).trans t;clear C B A z y x v t D P o;go_wp2;go_region_held3 (λ w'=>w'.cell? ⟨b,d+k*4,none⟩=some (.int .i64 p)∧w'.cell? ⟨b,d+k*4+1,none⟩=some (.int .i64 q)∧w'.cell? ⟨b,d+k*4+2,none⟩=some (.int .i64 r)∧w'.cell? ⟨b,d+k*4+3,none⟩=some (.bool s)∧w'.cell? ⟨h,a+k*4,none⟩=some (.int .i64 p)∧w'.cell? ⟨h,a+k*4+1,none⟩=some (.int .i64 q)∧w'.cell? ⟨h,a+k*4+2,none⟩=some (.int .i64 r)∧w'.cell? ⟨h,a+k*4+3,none⟩=some (.bool s)) ((first | exact⟨M,L,K,J,I,G,F,E⟩ | exact⟨(j.cell (by first | exact g | exact f)).trans M,(j.cell (by first | exact g | exact f)).trans L,(j.cell (by first | exact g | exact f)).trans K,(j.cell (by first | exact g | exact f)).trans J,(j.cell (by first | exact g | exact f)).trans I,(j.cell (by first | exact g | exact f)).trans G,(j.cell (by first | exact g | exact f)).trans F,(j.cell (by first | exact g | exact f)).trans E⟩)) (first | (go_at_call 132;refine(eq1 p q r s _).mono ?_;rintro e N ⟨rfl,m⟩;have j:Below wr.heap.size wr N:=Below.then_ (by go_grown) m (by go_size)));go_wp2;go_roundw
   case rel=>exact⟨k+1,by omega,by go_num,c.trans (j.mono O)⟩
   case measure=>simp [intOf];omega
  ·go_wp2;go_ret;exact⟨rfl,c⟩
theorem markS (lo hi:Nat) (v:Value) (k:Nat) (xs:List Stp) (w:World) (hn:xs.length<=1048576) (hk:k<=16777216) (h:OwnS w lo hi 135 4 enSt v xs) :
  Calls Tryz.prog 59 #[v,.int .i64 k] w λ e w'=>e=.returned (.int .i64 ((k+xs.length*4:Nat):Int))∧w.grownBy w' v.ownBlock∧OwnS w' lo hi 135 4 enSt v (markL k xs.length):=by
 rcases h.cases_ with ⟨rfl,rfl⟩ | ⟨g,cap,rest,rfl,hlo,hhi,c,hnc,hcm,hl⟩
 ·go_enter Tryz.func59,Tryz.ntmps59;go_wp2;go_rounds 1;go_ret;exact⟨rfl,grownBy_refl _ _,OwnS.nil_ _ _ _ _ _ _⟩
 ·generalize hnn:xs.length=n at *
  have H:=kD hnn;clear hnn;have B:=kD hl;clear hl;have c:=kD c;unfold maxLen at hcm;go_enter Tryz.func59,Tryz.ntmps59;go_wp2;go_loopw [1,5] (λ q i wr=>∃ j:Nat,j<=n∧i=.int .i64 j∧q=.int .i64 ((k:Int)+(j:Int)*4)∧w.grownBy wr (some g)∧Hid (RowB wr g 135 ((markL k j++xs.drop j).flatMap enSt++rest))) (λ _ i _=>n - (intOf i).toNat)
  case atStart=>exact⟨0,Nat.zero_le _,rfl,by go_num,grownBy_refl _ _,by simpa [markL] using c⟩
  case round =>
   obtain⟨j,G,rfl,rfl,o,a⟩:=hrel;clear c;by_cases hlt:j<n
   ·have m:j*4+4<=((markL k j++xs.drop j).flatMap enSt++rest).length:=by
     rw [List.length_append,flatMap_len enSt_len,List.length_append,markL_len,List.length_drop,H.out];omega
    obtain⟨F,t⟩:∃ z,wr.cell? ⟨g,j*4,none⟩=some z:=⟨_,(a.out.cell _).trans (List.getElem?_eq_getElem (by omega))⟩;obtain⟨E,s⟩:∃ z,wr.cell? ⟨g,j*4+1,none⟩=some z:=⟨_,(a.out.cell _).trans (List.getElem?_eq_getElem (by omega))⟩;obtain⟨D,r⟩:∃ z,wr.cell? ⟨g,j*4+1+1,none⟩=some z:=⟨_,(a.out.cell _).trans (List.getElem?_eq_getElem (by omega))⟩;obtain⟨C,p⟩:∃ z,wr.cell? ⟨g,j*4+3,none⟩=some z:=⟨_,(a.out.cell _).trans (List.getElem?_eq_getElem (by omega))⟩;clear m;have y:=a.out.frozen;go_wp2;go_roundw
    case rel =>
     refine⟨j+1,by omega,by go_num,by congr 1;omega,?_,?_⟩
     ·exact grownBy_trans (grownBy_trans (grownBy_trans (grownBy_trans o (grownBy_setCell _ _ _ _)) (grownBy_setCell _ _ _ _)) (grownBy_setCell _ _ _ _)) (grownBy_setCell _ _ _ _)
     ·have:=((((a.out.set (j*4) (.int .i64 ((k:Int)+(j:Int)*4))).set (j*4+1) (.int .i64 ((k:Int)+(j:Int)*4+1))).set (j*4+1+1) (.int .i64 ((k:Int)+(j:Int)*4+1+1))).set (j*4+1+1+1) (.bool (mB ((k:Int)+(j:Int)*4+1+1+1))));have A:xs.drop j=xs[j]'(by rw [H.out];exact hlt) :: xs.drop (j+1):=List.drop_eq_getElem_cons (by rw [H.out];exact hlt);rw [A] at this;rw [markL_succ];have x:((markL k j).flatMap enSt).length=j*4:=by rw [flatMap_len enSt_len,markL_len]
      have e:=mark_fillS ((markL k j).flatMap enSt) ((xs.drop (j+1)).flatMap enSt++rest) (xs[j]'(by rw [H.out];exact hlt)) (((k:Int)+(j:Int)*4),((k:Int)+(j:Int)*4+1),((k:Int)+(j:Int)*4+1+1),mB ((k:Int)+(j:Int)*4+1+1+1)) (j*4) x;simp only [List.flatMap_append,List.flatMap_cons,List.flatMap_nil,List.append_nil,List.append_assoc] at this e ⊢;rw [e] at this;obtain⟨I,l⟩:∃ b,mB ((k:Int)+(j:Int)*4+1+1+1)=b:=⟨_,rfl⟩;rw [l] at this ⊢;unfold mB at l;rw [l];exact kD (by simpa [Int.natCast_add,Int.natCast_mul,Int.add_assoc] using this)
    case measure=>simp [intOf];omega
   ·obtain rfl:j=n:=by omega
    have f:=a.out;clear a;rw [List.drop_of_length_le (by rw [H.out];exact Nat.le_refl _),List.append_nil] at f;have a:=kD f;clear f;go_wp2;go_ret;refine⟨by simp,o,?_⟩;have d:=markL_len k j;have:=OwnS.mk_ (lo:=lo) (hi:=hi) (cap:=cap) enSt_len a.out hlo hhi (by rw [d];omega) (by unfold maxLen;omega) (by rw [d];exact B.out);rw [d] at this;exact this
theorem heldS (B:Nat) (A:Option Addr) (c k n:Nat) (w:World) (hn:n<=1048576) (hk:k<=16777216) (h:RdS w B 4 enSt A (markL k n)) :
  Calls Tryz.prog 60 #[.slice A n c,.int .i64 k] w λ e w'=>e=.returned (.int .i64 ((k+n*4:Nat):Int))∧w=w':=by
 go_enter Tryz.func60,Tryz.ntmps60;go_wp2;go_loop [1,5] (λ q i=>∃ j:Nat,j<=n∧i=.int .i64 j∧q=.int .i64 ((k:Int)+(j:Int)*4)) (λ _ i=>n - (intOf i).toNat)
 case atStart=>exact⟨0,Nat.zero_le _,rfl,by go_num⟩
 case round =>
  obtain⟨j,m,rfl,rfl⟩:=hrel;by_cases hlt:j<n
  ·obtain⟨b,l,x,y,z,t,rfl,o,a,E,D,C,f⟩:=rdSt_at h (by rw [markL_len];exact hlt);rw [markL_at k n j hlt] at a;simp only [Option.some.injEq,Prod.mk.injEq] at a;obtain⟨rfl,rfl,rfl,rfl⟩:=a;have v:(((k:Int)+(j:Int)*4) != ((k:Int)+(j:Int)*4))=false:=by simp
   have s:(((k:Int)+(j:Int)*4+1) != ((k:Int)+(j:Int)*4+1))=false:=by simp
   have r:(((k:Int)+(j:Int)*4+1+1) != ((k:Int)+(j:Int)*4+1+1))=false:=by simp
   unfold mB at f;obtain⟨g,d⟩:∃ b,(((k:Int)+(j:Int)*4+1+1+1) % 3 == 0)=b:=⟨_,rfl⟩;rw [d] at f;have p:(g != g)=false:=by simp
   go_wp2;go_round
   case rel=>exact⟨j+1,by omega,by go_num,by congr 1;omega⟩
   case measure=>simp [intOf];omega
  ·obtain rfl:j=n:=by omega
   go_wp2;go_ret;exact⟨by simp,rfl⟩
end Bd36
namespace TsI
open Go.ChangeShapes Go.WideShapes Go.ChangeAt Go.RowKit Base Ints Own JoinN PlP TxP Num Bd1 Bd5 RegF RegG TxI Bd36
theorem eqE (k a b r:Int) (A1 A2:Option Addr) (c1 c2 B1 B2:Nat) (n:Nat) (xs:List Stp) (w:World) (hn:xs.length=n) (hB1:B1<=w.heap.size) (hB2:B2<=w.heap.size) (h1:RdS w B1 4 enSt A1 xs) (h2:RdS w B2 4 enSt A2 xs) :
  Calls Tryz.prog 58 #[.agg #[.int .i64 k,.int .i64 a,.int .i64 b,.slice A1 n c1,.int .i64 r],.agg #[.int .i64 k,.int .i64 a,.int .i64 b,.slice A2 n c2,.int .i64 r]] w λ e w'=>e=.returned (.bool true)∧Below w.heap.size w w':=by
 have A:=kD (λ(z:World) (h:Below w.heap.size w z)=>eqS B1 B2 A1 A2 c1 c2 xs z (h1.below h hB1) (h2.below h hB2) (Nat.le_trans hB1 h.size) (Nat.le_trans hB2 h.size));rw [hn] at A;have E:(k != k)=false:=by simp
 have G:(a != a)=false:=by simp
 have F:(b != b)=false:=by simp
 have D:(r != r)=false:=by simp
 clear hn h1 h2;go_enter Tryz.func58,Tryz.ntmps58;go_upto_region 1 with fail;refine wp_gen (λ j=>Below w.heap.size w j∧RowB j w.heap.size 56 [.int .i64 k,.int .i64 a,.int .i64 b,.slice A1 n c1,.int .i64 r]∧RowB j (w.heap.size+1) 56 [.int .i64 k,.int .i64 a,.int .i64 b,.slice A2 n c2,.int .i64 r]) ⟨by go_grown,(RowB.new _ _ _).alloc _,RowB.new' _ _ _ (by simp)⟩ ?_;rintro C ⟨d,g,f⟩;obtain⟨y,x,v,t,s⟩:=g.c5;obtain⟨q,p,o,m,l⟩:=f.c5;go_wp2_with fail;refine(A.out _ d).mono ?_;rintro e B ⟨rfl,c⟩;have i:=d.trans (c.mono d.size);have g:=g.below c g.lt;have f:=f.below c f.lt;clear y x v t s q p o m l;obtain⟨y,x,v,t,s⟩:=g.c5;obtain⟨q,p,o,m,l⟩:=f.c5;go_wp2_with fail;go_ret;exact⟨rfl,i⟩
end TsI
end Go.Proofs.YtblipmifflfnoaaGreatDoor
