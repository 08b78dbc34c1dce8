/- Parts of a proof. Conditions: each theorem's own. -/
import Derived.Test.YtjdefiinmicjiaaGreatDoorV20
import Derived.Test.YtjdefiinmicjiaaGreatDoorV21
import Derived.Test.YtjdefiinmicjiaaGreatDoorV22
set_option linter.unusedVariables false
set_option linter.unusedSimpArgs false
set_option maxHeartbeats 8000000
set_option maxRecDepth 100000
namespace Go.Proofs.YtjdefiinmicjiaaGreatDoor
open _root_.Go.Proofs.Tryz
namespace HmP
open Go PlP TxP Gm
theorem lastU_ge (l:List Int) (i:Nat) (hi:0<at_ l i):∀ k,i<k->(i:Int)<=lastU l k:=by
 intro k
 induction k with
 | zero=>intro h;omega
 | succ k ih =>
  intro h;unfold lastU;split
  ·omega
  ·rename_i hk
   by_cases e:i=k
   ·subst e;exact absurd hi hk
   ·exact ih (by omega)
theorem legal_plain {v:Vr} {b:Bd} {s:Stp} (hb:Ok v b) (h:legal1 v b s=true):plainB v s=true:=by
 obtain⟨o,n,m,a⟩:=legal1_iff.1 h;have l:=hb.v1;unfold stepP at a;split at a
 ·cases a
 ·rename_i h5
  split at a
  ·rename_i h6
   split at a
   ·simp only [Option.some.injEq] at a;have c:=congrArg (λ q:Stp=>q.2.1) a;simp only at c;unfold plainB;rw [if_neg (by omega)];simp only [Bool.and_eq_true,decide_eq_true_eq];omega
   ·cases a
  ·rename_i h6
   split at a
   ·cases a
   ·rename_i h7
    simp only [Option.some.injEq] at a;have i:s.1<v.p:=by
     by_cases e:s.1=v.p
     ·exfalso
      have f:=hb.own.len;have k:0<at_ b.1 v.p.toNat:=by
       have:=hb.own.nn v.p.toNat;have d:¬ at_ b.1 s.1.toNat=0:=λ j=>h5 (.inl j)
       rw [e] at d;omega
      have:=lastU_ge b.1 v.p.toNat k b.1.length (by omega);exact h7 (.inl (by unfold last;omega))
     ·omega
    have c:=congrArg (λ q:Stp=>q.2.1) a;have g:=congrArg (λ q:Stp=>q.2.2.2) a;simp only at c g;unfold plainB;rw [if_pos c.symm,<-g];simp only [Bool.and_eq_true,decide_eq_true_eq,Bool.not_false,true_and];omega
theorem follow_plain {v:Vr}:∀(ss:List Stp) (b:Bd) (ds:List Int) (c:Bd),Ok v b->followP v b ds ss=some c->allPl v ss=true∧ss.length<=ds.length:=by
 intro ss
 induction ss with
 | nil=>intro b ds c _ _;exact⟨rfl,Nat.zero_le _⟩
 | cons s ss ih =>
  intro b ds c a h
  cases ds with
  | nil=>simp [followP] at h
  | cons d ds =>
   simp only [followP] at h;split at h
   ·rename_i h1
    obtain⟨e,f⟩:=ih _ _ _ (legal1_ok a h1.2) h;refine⟨?_,by simp only [List.length_cons];omega⟩;unfold allPl at e ⊢;rw [List.all_cons,e,Bool.and_true];exact legal_plain a h1.2
   ·cases h
theorem first_plain {v:Vr} {b:Bd} {ss:List Stp} {c:Bd} (hb:Ok v b):∀(os:List (List Int)),(∀ o ∈ os,o.length<=4)->firstF v b ss os=some c->allPl v ss=true∧ss.length<=4:=by
 intro os
 induction os with
 | nil=>intro _ h;simp [firstF] at h
 | cons o os ih =>
  intro a h;simp only [firstF] at h
  cases hf:followP v b o ss with
  | some c' =>
   obtain⟨f,e⟩:=follow_plain ss b o c' hb hf;exact⟨f,Nat.le_trans e (a o (List.mem_cons_self ..))⟩
  | none =>
   rw [hf] at h;exact ih (λ q d=>a q (List.mem_cons_of_mem _ d)) h
theorem ord4 (x y:Int):∀ o ∈ ordP x y,o.length<=4:=by
 intro o a;unfold ordP at a;split at a
 ·simp only [List.mem_singleton] at a;rw [a];simp
 ·simp only [List.mem_cons,List.not_mem_nil,or_false] at a;rcases a with rfl | rfl <;> simp
theorem play_text {v:Vr} {b:Bd} {x y:Int} {ss:List Stp} {c:Bd} (hb:Ok v b) (hr:rollB v x y=true) (h:playP v b x y ss=some c):trnT v x y ss≠[]:=by
 unfold playP at h;split at h
 ·have d:=first_plain hb (ordS v b x y) (λ o a=>ord4 x y o (by
   unfold ordS at a;split at a
   ·exact List.mem_of_mem_take a
   ·exact a)) h
  have e:=(steps_ne_nil (okV_iff.2 hb.v1)).2 ⟨d.2,d.1⟩;unfold trnT;rw [if_pos ⟨hr,e⟩];simp
 ·cases h
theorem turn_some {v:Vr} {g:Gm} {ss:List Stp} {g':Gm} (h:(turnP v g ss).1=some g'):g.ph=2∧∃ c,playP v g.b g.x g.y ss=some c:=by
 unfold turnP at h;split at h
 ·cases h
 ·split at h
  ·cases h
  ·rename_i h2
   cases hp:playP v g.b g.x g.y ss with
   | none=>rw [hp] at h;cases h
   | some c=>exact⟨by omega,c,rfl⟩
theorem event_text {v:Vr} {g:Gm} {e:Ev} {g':Gm} (hg:gmB v g=true) (hbl:blankP e=true) (h:gameP v g e=some g'):evnT v e≠[]:=by
 have f:=gm_parts hg;have q:=okV_iff.2 f.1.v1;unfold evnT;rw [if_neg (by rw [hbl];decide)];unfold gameP at h;by_cases h1:e.k=1
 ·rw [if_pos h1] at h ⊢;split at h
  ·rename_i hc
   unfold openC at hc;rw [if_neg (by rw [hg];decide)] at hc;split at hc
   ·cases hc
   ·split at hc
    ·cases hc
    ·rename_i hn
     rw [not_or] at hn;simp only [decide_eq_false_iff_not,Decidable.not_not] at hn;rw [if_pos ⟨hn.1,hn.2⟩];simp [opW]
  ·cases h
 ·rw [if_neg h1] at h ⊢;by_cases h3:e.k=3
  ·rw [if_pos h3] at h ⊢;split at h
   ·rename_i hc
    unfold resgC at hc;rw [if_neg (by rw [hg];decide)] at hc;split at hc
    ·cases hc
    ·split at hc
     ·cases hc
     ·rename_i hn
      simp only [decide_eq_false_iff_not,Decidable.not_not] at hn;rw [if_pos hn];simp [reW]
   ·cases h
  ·rw [if_neg h3] at h ⊢;have i:trnT v e.a e.b e.ss≠[]:=by
    split at h
    ·rename_i hph
     split at h
     ·rename_i hc
      unfold rollC at hc;rw [if_neg (by rw [hg];decide)] at hc;split at hc
      ·cases hc
      ·split at hc
       ·cases hc
       ·rename_i j
        have j:rollB v e.a e.b=true:=by cases hq:rollB v e.a e.b with | true=>rfl | false=>exact absurd hq j
        obtain⟨_,c,d⟩:=turn_some h;exact play_text (b:=(rollG g e.a e.b).b) f.1 j d
     ·cases h
    ·split at h
     ·rename_i hph
      obtain⟨_,c,d⟩:=turn_some h;obtain⟨n,m,l⟩:=f.2.2.2.2.1 hph.1;rw [hph.2.1,hph.2.2] at d;refine play_text f.1 ?_ d;unfold rollB;simp only [Bool.and_eq_true,decide_eq_true_eq];have p:=hph.2.1;have o:=hph.2.2;exact⟨by omega,by omega⟩
     ·cases h
   rw [if_neg i];simp [tuW]
theorem next_text {v:Vr} {n:Int} {x y:Ms} {e:Ev} (hg:gmB v x.g=true) (h:nextS v n x e=some y):evnT v e≠[]:=by
 unfold nextS at h;split at h
 ·cases h
 ·rename_i hn
  have a:blankP e=true:=by cases hq:blankP e with | true=>rfl | false=>exact absurd (.inr hq) hn
  cases hga:gameP v x.g e with
  | none=>rw [hga] at h;cases h
  | some g'=>exact event_text hg a hga
theorem rm_run {v:Vr} {n:Int} (hv:okV v=true) (hn:1<=n):∀(es:List Ev) (i:Nat) (x z:Ms) (acc:List Ev) (k:Int),MsOk v n i x->enS v n x es=some z->acc.length+es.length<=300->rmGo v n (es.map (evnT v)++[[]]) x acc k=(acc++es,0,0):=by
 intro es
 induction es with
 | nil=>intro i x z acc k _ _ _;simp [rmGo]
 | cons e es ih =>
  intro i x z acc k c h d;simp only [enS] at h
  cases hy:nextS v n x e with
  | none=>rw [hy] at h;cases h
  | some y =>
   rw [hy] at h;simp only at h;have b:=next_text c.gm hy;have a:rdE v (evnT v e)=some e:=(rdE_iff hv).2 ⟨rfl,b⟩;have f:=ih (i+1) y z (acc++[e]) (k+1) (next_ms hn c hy) h (by simp only [List.length_append,List.length_cons,List.length_nil] at d ⊢;omega);rw [List.map_cons,List.cons_append]
   cases hs:es.map (evnT v)++[[]] with
   | nil=>simp at hs
   | cons m ls =>
    rw [hs] at f;simp only [rmGo,a,hy];rw [if_neg (by simp only [List.length_cons] at d;omega),f];simp
theorem lines_len {v:Vr} (hv:okV v=true):∀ es:List Ev,(linesT v es).length<=60*es.length:=by
 intro es
 induction es with
 | nil=>simp [linesT]
 | cons e es ih =>
  have a:linesT v (e :: es)=(evnT v e++[10])++linesT v es:=by unfold linesT;simp
  have:=evnT_len hv e;rw [a];simp only [List.length_append,List.length_cons,List.length_nil];omega
theorem mat_spl {v:Vr} {n:Int} (h:headB v n=true) (es:List Ev):spl 10 (matT v n es)=hdT v n :: (es.map (evnT v)++[[]]):=by
 have e:matT v n es=hdT v n++10 :: linesT v es:=by unfold matT;simp
 rw [e,spl_at _ _ _ (hdT_ne h),lines_spl (head_parts h).1]
theorem mat_len {v:Vr} {n:Int} (h:headB v n=true) {es:List Ev} (hl:es.length<=300):(matT v n es).length<=20000:=by
 have a:=head_parts h;have d:=lines_len a.1 es;have c:=vT_short a.1;have b:=(ito_len (n:=n) (by omega) (by omega)).2;unfold matT hdT;simp only [List.length_append,List.length_cons,List.length_nil,maW];omega
theorem back {v:Vr} {n:Int} {es:List Ev} (h:(finS v n es).isSome=true):rdM (matT v n es)=((v,n,es),0,0):=by
 obtain⟨a,g⟩:=fin_parts h;have f:=head_parts a;have c:finS v n es=enS v n (startS v) es:=by
  unfold finS;rw [if_neg (λ q=>q.elim (λ q=>by rw [a] at q;cases q) (λ q=>by omega))]
 obtain⟨z,d⟩:=Option.isSome_iff_exists.1 h;rw [c] at d;have e:=rm_run f.1 f.2.2.1 es 0 (startS v) z [] 2 (start_ms a) d (by simpa using g);unfold rdM;rw [if_neg (by have:=mat_len a g;omega),mat_spl a]
 cases hs:es.map (evnT v)++[[]] with
 | nil=>simp at hs
 | cons m ls =>
  rw [hs] at e;have b:rdH (hdT v n)=some (v,n):=rdH_iff.2 ⟨a,rfl⟩;simp only [b,e];simp
theorem rm_inv {v:Vr} {n:Int} (hv:okV v=true):∀(ls:List By) (x:Ms) (acc:List Ev) (k:Int),ls≠[]->acc.length<=300->(rmGo v n ls x acc k).2.1=0 ->
  ∃ es',(rmGo v n ls x acc k).1=acc++es'∧ls=es'.map (evnT v)++[[]]∧(enS v n x es').isSome=true∧acc.length+es'.length<=300:=by
 intro ls
 induction ls with
 | nil=>intro x acc k h;exact absurd rfl h
 | cons l ls ih =>
  intro x acc k _ b a
  cases ls with
  | nil =>
   simp only [rmGo] at a ⊢;split at a
   ·rename_i hl
    rw [if_pos hl];exact⟨[],by simp,by simp [hl],rfl,by simpa using b⟩
   ·simp at a
  | cons m ls =>
   simp only [rmGo] at a ⊢
   cases hr:rdE v l with
   | none=>rw [hr] at a;simp at a
   | some e =>
    rw [hr] at a;simp only at a ⊢
    cases hy:nextS v n x e with
    | none=>rw [hy] at a;simp at a
    | some y =>
     rw [hy] at a;simp only at a ⊢;split at a
     ·simp at a
     ·rename_i h3
      rw [if_neg h3];obtain⟨es',g,f,d,c⟩:=ih y (acc++[e]) (k+1) (by simp) (by simp only [List.length_append,List.length_cons,List.length_nil];omega) a;refine⟨e :: es',by rw [g];simp,by rw [f,<-((rdE_iff hv).1 hr).1];rfl,?_,by simp only [List.length_append,List.length_cons,List.length_nil] at c ⊢;omega⟩;simp only [enS,hy];exact d
theorem accepted {t:By} {v:Vr} {n:Int} {es:List Ev} {k:Int} (h:rdM t=((v,n,es),0,k)):(finS v n es).isSome=true∧matT v n es=t∧k=0:=by
 unfold rdM at h;split at h
 ·simp at h
 ·rename_i hlen
  split at h
  ·rename_i l m ls hs
   cases hr:rdH l with
   | none=>rw [hr] at h;simp at h
   | some q =>
    obtain⟨a,c⟩:=q;rw [hr] at h;simp only at h;split at h
    ·rename_i h0
     simp only [Prod.mk.injEq,true_and] at h;obtain⟨⟨rfl,rfl,p⟩,o⟩:=h;obtain⟨b,f⟩:=rdH_iff.1 hr;obtain⟨r,d,j,i,g⟩:=rm_inv (head_parts b).1 (m :: ls) (startS a) [] 2 (by simp) (by simp) h0;rw [p,List.nil_append] at d;subst d;have e:es.length<=300:=by simpa using g
     refine⟨?_,?_,o.symm⟩
     ·unfold finS;rw [if_neg (λ q=>q.elim (λ q=>by rw [b] at q;cases q) (λ q=>by omega))];exact i
     ·have s:spl 10 t=spl 10 (matT a c es):=by rw [hs,mat_spl b,<-f,j]
      rw [<-spl_join 10 t,<-spl_join 10 (matT a c es),s]
    ·rename_i h0
     simp only [Prod.mk.injEq] at h;exact absurd (by rw [h.2]) h0
  ·simp at h
theorem rm_line {v:Vr} {n:Int}:∀(ls:List By) (x:Ms) (acc:List Ev) (k:Int),0<=k->0<=(rmGo v n ls x acc k).2.2:=by
 intro ls
 induction ls with
 | nil=>intro x acc k _;simp [rmGo]
 | cons l ls ih =>
  intro x acc k a
  cases ls with
  | nil =>
   simp only [rmGo];split <;> simp <;> omega
  | cons m ls =>
   simp only [rmGo]
   cases rdE v l with
   | none=>simpa using a
   | some e =>
    simp only
    cases nextS v n x e with
    | none=>simpa using a
    | some y =>
     simp only;split
     ·simpa using a
     ·exact ih y (acc++[e]) (k+1) (by omega)
theorem refused {t:By} (h:(rdM t).2.1≠0):(rdM t).1.2.2=[]∧0<=(rdM t).2.2:=by
 unfold rdM at h ⊢;split
 ·simp
 ·rename_i hlen
  rw [if_neg hlen] at h;split
  ·rename_i l m ls hs
   cases hr:rdH l with
   | none=>simp
   | some q =>
    obtain⟨a,b⟩:=q;simp only;rw [hs] at h;simp only [hr] at h;split
    ·rename_i h0
     rw [if_pos h0] at h;simp at h
    ·exact⟨rfl,rm_line _ _ _ _ (by decide)⟩
  ·simp
end HmP
namespace MtA
open Go Go.ChangeShapes Go.WideShapes Go.ChangeAt Go.RowKit Base Ints Own RelG PlP TxP Num TxI Gm RegInv RegF RegG Bd1 Bd5 Draw DrawD DwP DwQ DwA DwB DwC DwD DwE EtA
theorem one_B (x:Int):∀ u ∈ enB x,u.oneCell'=true:=by intro u a;simp [enB] at a;subst a;rfl
theorem infoB:(Tryz.prog.info? 5).map (λ i=>(i.zero,i.size,i.bytes))=some (some (.int .u8 0),1,1):=by kernel_rfl
theorem bs_back (s:ByteArray):bs s.data.toList=s:=by cases s;rfl
theorem other28 (A:Option Addr) (cp:Nat) (xs:List Int) (w:World) (hn:xs.length<=4096) (hr:RdS w w.heap.size 1 enB A xs) :
  Calls prog 18 #[.slice A xs.length cp,.int .u8 28] w λ e w'=>∃ A' c',e=.returned (.slice A' (xs.length+3) c')∧RdS w' w'.heap.size 1 enB A' (28 :: 35 :: 84 :: xs)∧Below w.heap.size w w':=by
 obtain⟨v,l,g,f,d⟩:=info_parts infoB;have F:IntKind.u8.wrap (28+7)=35:=by decide
 have E:IntKind.u8.wrap (3*28)=84:=by decide
 obtain⟨N,n⟩:=eX (xs.length);have t:=kD n;rw [n] at hn ⊢;clear n;go_enter func18,ntmps18;go_upto_region 2 with fail;refine wp_gen (λ r=>Below w.heap.size w r∧RowB r w.heap.size 5 ([28,35,84].flatMap enB)) ⟨by go_grown,by exact nW⟩ ?_;rintro C ⟨c,R⟩;have b:=hr.below c lR;have o:=R.lt;have i:=c.size;go_wp2_with (at_builtin;refine wpL_appR rfl _ _ _ rfl w.heap.size _ 5 v (.int .u8 0) 1 1 Tryz.underlying22 l g f d rfl (by decide) Base.enB_len _ [28,35,84] xs (λ x _=>one_B x) rfl (R.own Base.enB_len lR o (by decide)) A N cp _ rfl t.out.symm b (by unfold maxLen;simp;omega) (by simp;omega) i lR ?_);intro D B a p m;obtain⟨A',c',rfl,-⟩:=a.form Base.enB_len;have h:(28 :: 35 :: 84 :: xs:List Int).length=N+3:=by simp [t.out]
 have s:=kD (OwnV.of (S:=λ _=>True) a lR (λ _ _ _=>trivial));have z:=kD (c.grown p i (λ k y=>by simp [Value.ownBlock] at y;omega));rw [h] at s ⊢;clear a p m R c b hr o i;go_wp2_with fail;go_ret;refine⟨_,_,rfl,?_,z.out⟩;obtain⟨H,G,e,j,-⟩:=s.out.sl Base.enB_len;simp only [Value.slice.injEq] at e;obtain⟨rfl,-,-⟩:=e;exact j.rd
theorem dmatch {w:World} {cp:Nat} {A:Option Addr} {xs:List Int} (hr:RdS w w.heap.size 1 enB A xs) (hw:∀ x ∈ xs,(Lit.int .u8 x).wf=true) :
  Calls prog 11 #[.slice A xs.length cp] w λ e w'=>∃(v:Vr) (n:Int) (es:List Ev) (Ae:Option Addr) (ce:Nat),e=.returned (.agg #[iL v.p,iL v.c,iL v.h,iL v.s,iL n,.slice Ae es.length ce])∧EvL w' All Ae es∧Below w.heap.size w w':=by
 have S:=kD hw;go_enter func11,ntmps11;go_upto_region 1 with fail;refine wp_gen (λ C=>RowB C w.heap.size 37 [iL 0,iL 0,iL 0,iL 0,iL 0,.slice none 0 0]∧Below w.heap.size w C∧w.heap.size+1=C.heap.size) ⟨nW,by go_grown,by simp⟩ ?_;rintro Q ⟨H,a,t⟩;have G:=((hr.below a lR).more a.size);clear hr hw;go_wp2_with fail;refine(newX G S.out).mono ?_;rintro e Y ⟨rfl,f⟩;have o:=kD a;have m:=kD H;obtain⟨g,l⟩:=eX (Q.heap.size);rw [l] at f t ⊢;have V:=kD l;clear l G a H;have z:=f.lt;go_wp2_with fail;refine(an28_x f).mono ?_;rintro e X ⟨v,n,es,Z,Ae,ce,rfl,-,⟨F,-,j,-⟩,f,l⟩;obtain⟨M,B⟩:=eX (es.length);rw [B];have T:=kD B;have d:=kD (o.out.trans (f.bel.mono (by have:=V.out;have:=o.out.size;omega)));have E:=m.out.below f.bel (by omega);have D:=kD (F.weak (S':=λ b=>w.heap.size<b) (λ b h=>by omega));clear B F j f l z m;go_wp2_with (refine wM 37 0 [iL v.p,iL v.c,iL v.h,iL v.s,iL n,.slice Ae M ce] E ?_;intro W r i K;refine Hid.out ?_);have D:=kD (D.out.keep (Still.grown i (λ k y hs=>by simp at y;omega)));have d:=kD (d.out.grown i d.out.size (λ k y=>by simp at y;omega));obtain⟨P,O,N,L,J,I⟩:=r.c6;have R:=r.lt;clear E i K r;refine kD ?_
 repeat (first | go_values | go_skip | go_step | go_upon)
 refine bodyPost_ret (v:=.agg #[iL v.p,iL v.c,iL v.h,iL v.s,iL n,.slice Ae M ce]) (by simp [results,results11,go_sem,P,O,N,L,J,I]) rfl ?_;exact⟨v,n,es,Ae,ce,by rw [T.out],D.out.weak (λ _ _=>trivial),d.out⟩
theorem matX_size (v:Vr) (n:Int) (es:List Ev):(bs (matX v n es)).size<=20000:=by
 rw [bs_size];unfold matX;split
 ·rename_i h
  obtain⟨b,a⟩:=fin_parts h;exact HmP.mat_len b a
 ·simp
def sixS:List Value:=[.string ⟨#[49]⟩,.string ⟨#[32]⟩,.string ⟨#[10]⟩,.string ⟨#[114,101,115,105,103,110,32,49,10]⟩,.string ⟨#[111,112,101,110,105,110,103,32,50,32,49,10]⟩,.string ⟨#[120]⟩]
theorem six_at {z:Nat} (h:z<6):∃ s:ByteArray,sixS[z]?=some (.string s)∧s.size<=12:=by
 match z,h with
 | 0,_=>exact⟨_,rfl,by decide⟩
 | 1,_=>exact⟨_,rfl,by decide⟩
 | 2,_=>exact⟨_,rfl,by decide⟩
 | 3,_=>exact⟨_,rfl,by decide⟩
 | 4,_=>exact⟨_,rfl,by decide⟩
 | 5,_=>exact⟨_,rfl,by decide⟩
structure R8 (w:World) (g:Nat) (A:Option Addr) (cp:Nat) (xs:List Int) (s3:St) (z:Nat) (p3 p5 p6:Prop) (v3 v6:Value) (W:World):Prop where
 d:∃ st,Dx w g g A cp xs st W∧(¬ p5->st=s3)
 b3:p3->∃ q,v3=.slice (sA q 0) 6 6∧g<q∧RowB W q 9 sixS
 b6:p6->∃ q,v6=pT q z∧g<q∧RowB W q 9 sixS
section
variable {w W W':World} {g cp:Nat} {A:Option Addr} {xs:List Int} {s3:St} {z:Nat} {L:Nat->Prop} {vals:Nat->Value}
theorem R8.skip (F:R8 w g A cp xs s3 z (L 3) (L 5) (L 6) (vals 3) (vals 6) W) (k:Nat) (u:Value) (h:3≠k∧5≠k∧6≠k:=by decide):R8 w g A cp xs s3 z (3=k∨L 3) (5=k∨L 5) (6=k∨L 6) (upd vals k u 3) (upd vals k u 6) W:=by
 rw [or_ne h.1,or_ne h.2.1,or_ne h.2.2,upd_ne h.1,upd_ne h.2.2];exact F
end
theorem dread {w:World} {cp:Nat} {A:Option Addr} {xs:List Int} (hr:RdS w w.heap.size 1 enB A xs) (hw:∀ x ∈ xs,(Lit.int .u8 x).wf=true) :
  Calls prog 17 #[.slice A xs.length cp] w λ e w'=>∃ T:ByteArray,e=.returned (.string T)∧T.size<=100000∧Below w.heap.size w w':=by
 go_enter func17,ntmps17;go_wp2_with fail;refine(newX hr hw).mono ?_;rintro e w2 ⟨rfl,m⟩;obtain⟨g,hg⟩:=eX (w.heap.size);rw [hg] at m ⊢;have D:=kD hg;clear hr hw hg;go_wp2_with fail;refine(an28_x m).mono ?_;rintro e w3 ⟨v,n,X,s1,Ae,ce,rfl,-,⟨hE,-,-,-⟩,m,-⟩;have Z:=kD (mtext_s v n X Ae ce w3 (hE.weak (λ _ _=>trivial)));have W:=matX_size v n X;obtain⟨T,H⟩:=eX (bs (matX v n X));rw [H] at Z W;obtain⟨M,hM⟩:=eX (X.length);rw [hM] at Z ⊢;clear H hM hE;go_wp2_with fail;refine Z.out.mono ?_;rintro e w4 ⟨rfl,hb⟩;clear Z;have m:=m.below hb m.lt;have ac:=iW (((T.size:Int)+1));clear hb;go_wp2_with fail;refine(nextX m ((T.size:Int)+1) (by omega)).mono ?_;rintro e w5 ⟨z,s2,⟨rfl,k0,k1,-,-⟩,m,-,-⟩;have k1:=k1 (by omega);obtain⟨k,rfl⟩:∃ k:Nat,z=k:=⟨z.toNat,by omega⟩;have V:k<=T.size:=by omega
 have an:(k:Int)<=(T.size:Int):=by omega
 clear k0 k1 ac;go_wp2_with fail;refine(nextX m 8 (by decide)).mono ?_;rintro e w6 ⟨z,s3,⟨rfl,-,-,-,-⟩,m,-,-⟩;by_cases e0:z=0
 ·subst e0;go_wp2_with fail;go_ret;exact⟨_,rfl,by simp;omega,D.out ▸ m.bel⟩
 have z0:(z == 0)=false:=by simp [e0]
 by_cases e3:z=3
 ·subst e3;go_wp2_with fail;refine(nextX (m.alloc _) 3 (by decide)).mono ?_;rintro e w7 ⟨r,s6,⟨rfl,u0,u1,-,-⟩,y,t,-⟩;have u1:=u1 (by decide);have P:=RowB.grown (RowB.new w6 9 [.string ⟨#[114,101,115,105,103,110,32,50,10]⟩,.string ⟨#[111,112,101,110,105,110,103,32,49,32,49,10]⟩,.string ⟨#[116,117,114,110,32,50,49,58,32,45,10]⟩]) t (λ k V=>by simp at V;have:=m.lt;omega);have c0:=P.cell 0;have c1:=P.cell 1;have c2:=P.cell 2;have am:=P.lt;have p:=D.out ▸ y.bel;have ae:r=0∨r=1∨r=2:=by omega
  clear P t y m u0 u1;rcases ae with rfl | rfl | rfl
  ·go_wp2_with fail;go_ret;exact⟨_,rfl,by rw [ByteArray.size_append];exact Nat.le_trans (Nat.add_le_add W (show _<=12 by decide)) (by decide),p⟩
  ·go_wp2_with fail;go_ret;exact⟨_,rfl,by rw [ByteArray.size_append];exact Nat.le_trans (Nat.add_le_add W (show _<=12 by decide)) (by decide),p⟩
  ·go_wp2_with fail;go_ret;exact⟨_,rfl,by rw [ByteArray.size_append];exact Nat.le_trans (Nat.add_le_add W (show _<=12 by decide)) (by decide),p⟩
 by_cases e2:z=2
 ·subst e2;by_cases hlt:k<T.size
  ·have G:(k:Int)<(T.size:Int):=by omega
   have af:(k:Int)+1<=(T.size:Int):=by omega
   have ak:=iW (((k:Int)+1));go_wp2_with fail;go_quiet (fail);go_wp2_with fail;go_ret;exact⟨_,rfl,by simp;omega,below_drewN (D.out ▸ m.bel) _⟩
  ·have G:¬ (k:Int)<(T.size:Int):=by omega
   go_wp2_with fail;go_ret;exact⟨_,rfl,by omega,D.out ▸ m.bel⟩
 have z2:(z == 2)=false:=by simp [e2]
 have z3:(z == 3)=false:=by simp [e3]
 by_cases e1:z=1
 ·subst e1;obtain⟨zz,s4,Y⟩:=m.gd.nb 6;have ab:=Y.ge;have aa:=Y.lt (by decide);obtain⟨r,rfl⟩:∃ q:Nat,zz=q:=⟨zz.toNat,by omega⟩;have R:=kD Y;obtain⟨s,E,al⟩:=six_at (show r<6 by omega);have Q:=kD E;have aj:(r:Int)<6:=by omega
  have HD:=kD m;clear Y E ab aa;go_upto_region 8 with fail;clear m;refine region_rel [some 25,some 26,some 27,some 28,some 29,some 30,some 31,some 32,some 33,some 34,some 35,some 36,some 37,some 2] 14 (Pl [some (.string T),some (iL (k:Int)),some (.string (T.extract 0 k)),none,some (pT g 0),some (iL (r:Int)),none,some (.string s),some (.string (T.extract 0 k++s)),some (.string T),some (iL (k:Int)),some (.string (T.extract k T.size)),some (.string (T.extract 0 k++s++T.extract k T.size)),some (.string (T.extract 0 k++s++T.extract k T.size))]) (λ L c w'=>R8 w g A cp xs s3 r (L 3) (L 5) (L 6) (c 3) (c 6) w') (by kernel_rfl) (by kernel_rfl) (by kernel_rfl) (by kernel_rfl) (by kernel_rfl) (by kernel_rfl) (by first | kernel_rfl | rfl) ?g0_5 ?gst_5 ?gfin_5
  case g0_5=>exact⟨⟨_,(HD.out).below (zRf).drew HD.out.lt,λ _=>rfl⟩,λ h=>absurd h (by decide),λ h=>absurd h (by decide)⟩
  case gst_5 =>
   refine rN rfl (λ L c A o f i j U F K l=>?_) ?_
   ·have e4:=U.w 4 (.string T);go_simp;exact pF l (F.skip 0 _)
   refine rN rfl (λ L c A o f i j U F K l=>?_) ?_
   ·have e5:=U.w 5 (iL (k:Int));go_simp;exact pF l (F.skip 1 _)
   refine rN rfl (λ L c A o f i j U F K l=>?_) ?_
   ·have aB:=U.v 0 25;have aA:=U.v 1 26;go_simp;exact pF l (F.skip 2 _)
   refine rN rfl (λ L c A o f i j U F K l=>?_) ?_
   ·obtain⟨S,hd,he⟩:=F.d;go_simp;exact l.out _ _ (Pl.any rfl) ⟨⟨S,hd.alloc _,λ h=>he (λ h'=>h (.inr h'))⟩,λ _=>⟨o.heap.size,upd_same _ _ _,hd.lt,nW⟩,λ h=>absurd (j 6 3 (by kernel_rfl) (rL h)) f⟩
   refine rN rfl (λ L c A o f i j U F K l=>?_) ?_
   ·have e3:=U.w 3 (pT g 0);go_simp;exact pF l (F.skip 4 _)
   refine rN rfl (λ L c A o f i j U F K l=>?_) ?_
   ·have ay:=U.v 4 29;obtain⟨S,hd,he⟩:=F.d;obtain rfl:=he f;go_simp;refine(nextK hd R.out.nx (by decide)).mono ?_;rintro e' w6 ⟨rfl,y,t,-⟩;exact pF l ⟨⟨_,y,λ h=>absurd (.inl rfl) h⟩,λ h=>by rw [upd_ne (by decide)];obtain⟨q,J,C,B⟩:=F.b3 (rL h);exact⟨q,J,C,B.grown t (λ k V=>by simp at V;omega)⟩,λ h=>absurd (j 6 5 (by kernel_rfl) (rL h)) f⟩
   refine rN rfl (λ L c A o f i j U F K l=>?_) ?_
   ·have O:=U.x 3 28;have ax:=U.v 5 30;obtain⟨q,J,C,B⟩:=F.b3 (bK i 3);have ah:=O.trans J;have ad:=B.lt;clear O;go_simp;exact l.out _ o (Pl.any rfl) ⟨by obtain⟨S,a,b⟩:=F.d;exact⟨S,a,λ h=>b (λ h'=>h (.inr h'))⟩,λ h=>by rw [upd_ne (by decide)];exact F.b3 (rL h),λ _=>⟨q,upd_same _ _ _,C,B⟩⟩
   refine rN rfl (λ L c A o f i j U F K l=>?_) ?_
   ·have N:=U.x 6 31;obtain⟨q,J,C,B⟩:=F.b6 (bK i 6);have ag:=N.trans J;have ad:=B.lt;have hc:=(B.cell r).trans Q.out;clear N;go_simp;exact pF l (F.skip 7 _)
   refine rN rfl (λ L c A o f i j U F K l=>?_) ?_
   ·have az:=U.v 2 27;have aw:=U.v 7 32;go_simp;rw [if_neg (by omega)];exact pF l (F.skip 8 _)
   refine rN rfl (λ L c A o f i j U F K l=>?_) ?_
   ·have e4:=U.w 4 (.string T);go_simp;exact pF l (F.skip 9 _)
   refine rN rfl (λ L c A o f i j U F K l=>?_) ?_
   ·have e5:=U.w 5 (iL (k:Int));go_simp;exact pF l (F.skip 10 _)
   refine rN rfl (λ L c A o f i j U F K l=>?_) ?_
   ·have ar:=U.v 9 34;have aq:=U.v 10 35;go_simp;exact pF l (F.skip 11 _)
   refine rN rfl (λ L c A o f i j U F K l=>?_) ?_
   ·have av:=U.v 8 33;have ap:=U.v 11 36;go_simp;rw [if_neg (by omega)];exact pF l (F.skip 12 _)
   refine rN rfl (λ L c A o f i j U F K l=>?_) ?_
   ·have ao:=U.v 12 37;go_simp;exact pF l (F.skip 13 _)
   exact RelFrom.nil (by decide)
  intro c wD hp F;simp only [Fr,Act.put,sX,Nat.reduceAdd];have C:c 13=.string (T.extract 0 k++s++T.extract k T.size):=hp 13 (by decide) _ rfl;rw [C];obtain⟨ai,I,-⟩:=F.d;have p:=D.out ▸ I.bel;clear F hp C I HD R Q;go_wp2_with fail;go_ret;exact⟨_,rfl,by simp;omega,p⟩
 have z1:(z == 1)=false:=by simp [e1]
 go_wp2_with fail;go_ret;exact⟨_,rfl,by omega,D.out ▸ m.bel⟩
end MtA
namespace W9
open Go Go.ChangeShapes Go.WideShapes Go.ChangeAt Go.RowKit Base Ints Own RelG PlP TxP Gm Bd1 Bd5 RegInv RegF RegG
theorem rdSt_at {w:World} {B:Nat} {A:Option Addr} {xs:List Stp} (h:RdS w B 4 enSt A xs) {i:Nat} (hi:i<xs.length) :
  ∃ b off p q r s,A=some ⟨b,off,none⟩∧b<B∧xs[i]?=some (p,q,r,s)∧w.cell? ⟨b,off+i*4,none⟩=some (iL p)∧w.cell? ⟨b,off+i*4+1,none⟩=some (iL q)∧w.cell? ⟨b,off+i*4+2,none⟩=some (iL r)∧w.cell? ⟨b,off+i*4+3,none⟩=some (.bool s):=by
 obtain⟨b,off,⟨p,q,r,s⟩,e,d,c,a⟩:=h.at_ hi;exact⟨b,off,p,q,r,s,e,d,c,a 0 _ rfl,a 1 _ rfl,a 2 _ rfl,a 3 _ rfl⟩
theorem neq_S (p q r:Int) (s:Bool) (w:World):(binOp .neq 111 (.agg #[iL p,iL q,iL r,.bool s]) (.agg #[iL p,iL q,iL r,.bool s])).run prog w=.ok (.bool false) w:=by
 go_simp
theorem w9steps (B1 B2:Nat) (A1 A2:Option Addr) (c1 c2:Nat) (xs:List Stp) (n:Nat) (hnn:xs.length=n) (w:World) (h1:RdS w B1 4 enSt A1 xs) (h2:RdS w B2 4 enSt A2 xs) (hB1:B1<=w.heap.size) (hB2:B2<=w.heap.size) :
  Calls prog 32 #[.slice A1 n c1,.slice A2 n c2] w λ e w'=>e=.returned (.bool true)∧Below w.heap.size w w':=by
 have E:=h1.len;rw [hnn] at E;have H:=kD hnn;clear hnn;have D:((n:Int) != (n:Int))=false:=by simp
 go_enter func32,ntmps32;go_wp2_with fail;go_loopw [5] (λ i wr=>∃ k:Nat,k<=n∧i=iL (k:Int)∧Hid (∃ m,wr=w.drewN m)) (λ i _=>n - (intOf i).toNat)
 case atStart=>exact⟨0,Nat.zero_le _,by first | rfl | trivial,kD ⟨0,rfl⟩⟩
 case round =>
  obtain⟨k,N,rfl,c⟩:=hrel;by_cases hlt:k<n
  ·obtain⟨b,d,p,q,r,s,rfl,G,B,A,z,y,x⟩:=rdSt_at h1 (by rw [H.out];exact hlt);obtain⟨g,a,M,L,J,I,rfl,j,f,v,t,o,l⟩:=rdSt_at h2 (by rw [H.out];exact hlt);rw [B] at f;simp only [Option.some.injEq,Prod.mk.injEq] at f;obtain⟨rfl,rfl,rfl,rfl⟩:=f;have W:wr.cell? ⟨b,d+k*4,none⟩=some (iL p):=by obtain⟨m,rfl⟩:=c.out;exact A
   have V:wr.cell? ⟨b,d+k*4+1,none⟩=some (iL q):=by obtain⟨m,rfl⟩:=c.out;exact z
   have T:wr.cell? ⟨b,d+k*4+2,none⟩=some (iL r):=by obtain⟨m,rfl⟩:=c.out;exact y
   have S:wr.cell? ⟨b,d+k*4+3,none⟩=some (.bool s):=by obtain⟨m,rfl⟩:=c.out;exact x
   have R:wr.cell? ⟨g,a+k*4,none⟩=some (iL p):=by obtain⟨m,rfl⟩:=c.out;exact v
   have Q:wr.cell? ⟨g,a+k*4+1,none⟩=some (iL q):=by obtain⟨m,rfl⟩:=c.out;exact t
   have P:wr.cell? ⟨g,a+k*4+2,none⟩=some (iL r):=by obtain⟨m,rfl⟩:=c.out;exact o
   have O:wr.cell? ⟨g,a+k*4+3,none⟩=some (.bool s):=by obtain⟨m,rfl⟩:=c.out;exact l
   have h:wr.heap.size=w.heap.size:=by obtain⟨m,rfl⟩:=c.out;rfl
   have F:b<wr.heap.size:=by omega
   have C:g<wr.heap.size:=by omega
   have K:=neq_S p q r s;clear A z y x v t o l B G j h;go_wp2_with fail;go_quiet (fail);go_wp2_with fail;go_roundw
   case rel=>exact⟨k+1,by omega,by first | rfl | go_num,kD (by obtain⟨m,rfl⟩:=c.out;exact⟨_,World.drewN_drewN _ _ _⟩)⟩
   case measure=>simp [intOf] <;> omega
  ·obtain rfl:k=n:=by omega
   go_wp2_with fail;go_ret;obtain⟨m,rfl⟩:=c.out;exact⟨rfl,below_drewN (zRf) _⟩
theorem w9events (k a b r:Int) (ss:List Stp) (n:Nat) (hnn:ss.length=n) (A1 A2:Option Addr) (c1 c2:Nat) (w:World) (h1:RdS w w.heap.size 4 enSt A1 ss) (h2:RdS w w.heap.size 4 enSt A2 ss) :
  Calls prog 10 #[.agg #[iL k,iL a,iL b,.slice A1 n c1,iL r],.agg #[iL k,iL a,iL b,.slice A2 n c2,iL r]] w λ e w'=>e=.returned (.bool true)∧Below w.heap.size w w':=by
 have p:=kD (λ(o:World) (f:zB w o)=>w9steps w.heap.size w.heap.size A1 A2 c1 c2 ss n hnn o (h1.below f lR) (h2.below f lR) f.size f.size);clear hnn h1 h2;have F:(k == k)=true:=by simp
 have H:(a == a)=true:=by simp
 have G:(b == b)=true:=by simp
 have E:(r == r)=true:=by simp
 go_enter func10,ntmps10;go_upto_region 1 with fail;refine wp_gen (λ j=>Below w.heap.size w j∧RowB j w.heap.size 28 [iL k,iL a,iL b,.slice A1 n c1,iL r]∧RowB j (w.heap.size+1) 28 [iL k,iL a,iL b,.slice A2 n c2,iL r]) ⟨by go_grown,(nW).alloc _,nX⟩ ?_;rintro y ⟨d,m,l⟩;obtain⟨D,C,B,A,z⟩:=m.c5;obtain⟨x,v,t,s,q⟩:=l.c5;have h:=m.lt;have g:=l.lt;go_wp2_with fail;refine(p.out y d).mono ?_;rintro e I ⟨rfl,c⟩;have i:=d.tR c;clear p d c m l D C B A z x v t s q h g;go_wp2_with fail;go_ret;exact⟨rfl,i⟩
theorem bskip {p:Prop} (h:p) (k:Nat):p:=h
theorem neq_V (p q r s:Int) (w:World):(binOp .neq 25 (.agg #[iL p,iL q,iL r,iL s]) (.agg #[iL p,iL q,iL r,iL s])).run prog w=.ok (.bool false) w:=by
 go_simp
structure W2 (w:World) (v:Vr) (n:Int) (A1 A2:Option Addr) (c1 c2 M:Nat) (es:List Ev) (wr:World):Prop where
 bel:Below w.heap.size w wr
 r0:RowB wr w.heap.size 37 [iL v.p,iL v.c,iL v.h,iL v.s,iL n,.slice A1 M c1]
 r1:RowB wr (w.heap.size+1) 37 [iL v.p,iL v.c,iL v.h,iL v.s,iL n,.slice A2 M c2]
 e1:EvL wr All A1 es
 e2:EvL wr All A2 es
theorem W2.below {w wr w':World} {v:Vr} {n:Int} {A1 A2:Option Addr} {c1 c2 M:Nat} {es:List Ev} (K:W2 w v n A1 A2 c1 c2 M es wr) (hb:zB wr w'):W2 w v n A1 A2 c1 c2 M es w' :=
 ⟨K.bel.tR hb,K.r0.below hb K.r0.lt,K.r1.below hb K.r1.lt,K.e1.keep (.below hb),K.e2.keep (.below hb)⟩
theorem w9matches (v:Vr) (n:Int) (A1 A2:Option Addr) (c1 c2 M:Nat) (es:List Ev) (hM:es.length=M) (w:World) (h1:EvL w All A1 es) (h2:EvL w All A2 es) :
  Calls prog 16 #[.agg #[iL v.p,iL v.c,iL v.h,iL v.s,iL n,.slice A1 M c1],.agg #[iL v.p,iL v.c,iL v.h,iL v.s,iL n,.slice A2 M c2]] w λ e w'=>e=.returned (.bool true)∧Below w.heap.size w w':=by
 have ag:=h1.len;rw [hM] at ag;have HM:=kD hM;have qE:=neq_V v.p v.c v.h v.s;have nn:(n != n)=false:=by simp
 have nM:((M:Int) != (M:Int))=false:=by simp
 go_enter func16,ntmps16;go_upto_region 1 with fail;refine wp_gen (λ W'=>W2 w v n A1 A2 c1 c2 M es W') ?_ ?_
 ·have hb:Below w.heap.size w ((w.alloc (.cells #[iL v.p,iL v.c,iL v.h,iL v.s,iL n,.slice A1 M c1] 37)).alloc (.cells #[iL v.p,iL v.c,iL v.h,iL v.s,iL n,.slice A2 M c2] 37)):=by go_grown
  exact⟨hb,(nW).alloc _,nX,h1.keep (.below hb),h2.keep (.below hb)⟩
 intro w1 K;clear h1 h2 hM;obtain⟨q0,q1,q2,q3,q4,N⟩:=K.r0.c6;obtain⟨y0,y1,y2,y3,y4,J⟩:=K.r1.c6;have t:=K.r0.lt;have r:=K.r1.lt;go_wp2_with fail;have B:=kD K;clear K q0 q1 q2 q3 q4 N y0 y1 y2 y3 y4 J t r nn nM qE;go_loopw [5] (λ s5 wr=>∃ i:Nat,s5=iL (i:Int)∧i<=M∧Hid (W2 w v n A1 A2 c1 c2 M es wr)) (λ s5 _=>M - (intOf s5).toNat)
 case atStart=>exact⟨0,by first | rfl | trivial,Nat.zero_le _,B⟩
 case round =>
  clear B;obtain⟨i,rfl,hi,B⟩:=hrel;have K:=B.out;obtain⟨q0,q1,q2,q3,q4,N⟩:=K.r0.c6;obtain⟨y0,y1,y2,y3,y4,J⟩:=K.r1.c6;have t:=K.r0.lt;have r:=K.r1.lt;by_cases hlt:i<M
  ·obtain⟨G,D,e,Aa,ca,rfl,he,g,T,ad,ac,ab,R,aa⟩:=K.e1.at_ (i:=i) (by rw [HM.out];exact hlt);obtain⟨E,C,e',Ab,cb,rfl,ae,f,S,Z,Y,X,Q,W⟩:=K.e2.at_ (i:=i) (by rw [HM.out];exact hlt);obtain rfl:=Option.some.inj (he.symm.trans ae);obtain⟨ek,ea,eb,ss,er⟩:=e;simp only at T S ad ac ab R aa Z Y X Q W;obtain⟨ns,V⟩:=eX (ss.length);rw [V] at R Q;have I:=kD (λ(a:World) (z:zB wr a)=>(⟨(z.cell (p:=⟨G,D+i*5,none⟩) g).trans ad,(z.cell (p:=⟨G,D+i*5+1,none⟩) g).trans ac,(z.cell (p:=⟨G,D+i*5+2,none⟩) g).trans ab,(z.cell (p:=⟨G,D+i*5+3,none⟩) g).trans R,(z.cell (p:=⟨G,D+i*5+4,none⟩) g).trans aa⟩:a.cell? ⟨G,D+i*5,none⟩=some (iL ek)∧a.cell? ⟨G,D+i*5+1,none⟩=some (iL ea)∧a.cell? ⟨G,D+i*5+2,none⟩=some (iL eb)∧a.cell? ⟨G,D+i*5+3,none⟩=some (.slice Aa ns ca)∧a.cell? ⟨G,D+i*5+4,none⟩=some (iL er)));have H:=kD (λ(a:World) (z:zB wr a)=>(⟨(z.cell (p:=⟨E,C+i*5,none⟩) f).trans Z,(z.cell (p:=⟨E,C+i*5+1,none⟩) f).trans Y,(z.cell (p:=⟨E,C+i*5+2,none⟩) f).trans X,(z.cell (p:=⟨E,C+i*5+3,none⟩) f).trans Q,(z.cell (p:=⟨E,C+i*5+4,none⟩) f).trans W⟩:a.cell? ⟨E,C+i*5,none⟩=some (iL ek)∧a.cell? ⟨E,C+i*5+1,none⟩=some (iL ea)∧a.cell? ⟨E,C+i*5+2,none⟩=some (iL eb)∧a.cell? ⟨E,C+i*5+3,none⟩=some (.slice Ab ns cb)∧a.cell? ⟨E,C+i*5+4,none⟩=some (iL er)));have b:=kD (And.intro g f);have CE:=kD (λ(a:World) (z:zB wr a)=>w9events ek ea eb er ss ns V Aa Ab ca cb a (T.keep (.below z)).rd (S.keep (.below z)).rd);have al:(i:Int)<(M:Int):=by omega
   clear he ae g f T S ad ac ab R aa Z Y X Q W V K;go_upto_region 6 with fail;clear q0 q1 q2 q3 q4 N y0 y1 y2 y3 y4 J t r;refine region_rel [some 34,some 35,some 36,some 37,some 38,some 39,some 40,some 41,some 42,some 43,some 44,some 45] 12 (Pl [some (pT w.heap.size 5),some (.slice (sA G D) M c1),some (iL (i:Int)),some (pT G (D+i*5)),some (.agg #[iL ek,iL ea,iL eb,.slice Aa ns ca,iL er]),some (pT (w.heap.size+1) 5),some (.slice (sA E C) M c2),some (iL (i:Int)),some (pT E (C+i*5)),some (.agg #[iL ek,iL ea,iL eb,.slice Ab ns cb,iL er]),some (.bool true),some (.bool false)]) (λ L d w'=>Below wr.heap.size wr w') (by kernel_rfl) (by kernel_rfl) (by kernel_rfl) (by kernel_rfl) (by kernel_rfl) (by kernel_rfl) (by first | kernel_rfl | rfl) ?g0_1 ?gst_1 ?gfin_1
   case g0_1=>exact(zRf).drew
   case gst_1 =>
    refine rN rfl (λ L d A a k l m U F K o=>?_) ?_
    ·have e2:=U.w 2 (pT w.heap.size 0);have j:=B.out.below F;have y:=j.r0.c6;have N:=y.2.2.2.2.2;have x:=j.r1.c6;have J:=x.2.2.2.2.2;have t:=j.r0.lt;have r:=j.r1.lt;obtain⟨x0,x1,x2,x3,x4⟩:=I.out a F;obtain⟨z0,z1,z2,z3,z4⟩:=H.out a F;have g:=Nat.lt_of_lt_of_le b.out.1 F.size;have f:=Nat.lt_of_lt_of_le b.out.2 F.size;clear j y x;go_simp;exact pF o (bskip F 0)
    refine rN rfl (λ L d A a k l m U F K o=>?_) ?_
    ·have az:=U.v 0 34;have j:=B.out.below F;have y:=j.r0.c6;have N:=y.2.2.2.2.2;have x:=j.r1.c6;have J:=x.2.2.2.2.2;have t:=j.r0.lt;have r:=j.r1.lt;obtain⟨x0,x1,x2,x3,x4⟩:=I.out a F;obtain⟨z0,z1,z2,z3,z4⟩:=H.out a F;have g:=Nat.lt_of_lt_of_le b.out.1 F.size;have f:=Nat.lt_of_lt_of_le b.out.2 F.size;clear j y x;go_simp;exact pF o (bskip F 1)
    refine rN rfl (λ L d A a k l m U F K o=>?_) ?_
    ·have e5:=U.w 5 (iL (i:Int));have P:=I.out a F;have O:=H.out a F;have g:=Nat.lt_of_lt_of_le b.out.1 F.size;have f:=Nat.lt_of_lt_of_le b.out.2 F.size;clear P O;go_simp;exact pF o (bskip F 2)
    refine rN rfl (λ L d A a k l m U F K o=>?_) ?_
    ·have ay:=U.v 1 35;have ax:=U.v 2 36;have P:=I.out a F;have O:=H.out a F;have g:=Nat.lt_of_lt_of_le b.out.1 F.size;have f:=Nat.lt_of_lt_of_le b.out.2 F.size;clear P O;go_simp;exact pF o (bskip F 3)
    refine rN rfl (λ L d A a k l m U F K o=>?_) ?_
    ·have aw:=U.v 3 37;have j:=B.out.below F;have y:=j.r0.c6;have N:=y.2.2.2.2.2;have x:=j.r1.c6;have J:=x.2.2.2.2.2;have t:=j.r0.lt;have r:=j.r1.lt;obtain⟨x0,x1,x2,x3,x4⟩:=I.out a F;obtain⟨z0,z1,z2,z3,z4⟩:=H.out a F;have g:=Nat.lt_of_lt_of_le b.out.1 F.size;have f:=Nat.lt_of_lt_of_le b.out.2 F.size;clear j y x;go_simp;exact pF o (bskip F 4)
    refine rN rfl (λ L d A a k l m U F K o=>?_) ?_
    ·have e3:=U.w 3 (pT (w.heap.size+1) 0);have j:=B.out.below F;have y:=j.r0.c6;have N:=y.2.2.2.2.2;have x:=j.r1.c6;have J:=x.2.2.2.2.2;have t:=j.r0.lt;have r:=j.r1.lt;obtain⟨x0,x1,x2,x3,x4⟩:=I.out a F;obtain⟨z0,z1,z2,z3,z4⟩:=H.out a F;have g:=Nat.lt_of_lt_of_le b.out.1 F.size;have f:=Nat.lt_of_lt_of_le b.out.2 F.size;clear j y x;go_simp;exact pF o (bskip F 5)
    refine rN rfl (λ L d A a k l m U F K o=>?_) ?_
    ·have ar:=U.v 5 39;have j:=B.out.below F;have y:=j.r0.c6;have N:=y.2.2.2.2.2;have x:=j.r1.c6;have J:=x.2.2.2.2.2;have t:=j.r0.lt;have r:=j.r1.lt;obtain⟨x0,x1,x2,x3,x4⟩:=I.out a F;obtain⟨z0,z1,z2,z3,z4⟩:=H.out a F;have g:=Nat.lt_of_lt_of_le b.out.1 F.size;have f:=Nat.lt_of_lt_of_le b.out.2 F.size;clear j y x;go_simp;exact pF o (bskip F 6)
    refine rN rfl (λ L d A a k l m U F K o=>?_) ?_
    ·have e5:=U.w 5 (iL (i:Int));have P:=I.out a F;have O:=H.out a F;have g:=Nat.lt_of_lt_of_le b.out.1 F.size;have f:=Nat.lt_of_lt_of_le b.out.2 F.size;clear P O;go_simp;exact pF o (bskip F 7)
    refine rN rfl (λ L d A a k l m U F K o=>?_) ?_
    ·have aq:=U.v 6 40;have ap:=U.v 7 41;have P:=I.out a F;have O:=H.out a F;have g:=Nat.lt_of_lt_of_le b.out.1 F.size;have f:=Nat.lt_of_lt_of_le b.out.2 F.size;clear P O;go_simp;exact pF o (bskip F 8)
    refine rN rfl (λ L d A a k l m U F K o=>?_) ?_
    ·have ao:=U.v 8 42;have j:=B.out.below F;have y:=j.r0.c6;have N:=y.2.2.2.2.2;have x:=j.r1.c6;have J:=x.2.2.2.2.2;have t:=j.r0.lt;have r:=j.r1.lt;obtain⟨x0,x1,x2,x3,x4⟩:=I.out a F;obtain⟨z0,z1,z2,z3,z4⟩:=H.out a F;have g:=Nat.lt_of_lt_of_le b.out.1 F.size;have f:=Nat.lt_of_lt_of_le b.out.2 F.size;clear j y x;go_simp;exact pF o (bskip F 9)
    refine rN rfl (λ L d A a k l m U F K o=>?_) ?_
    ·have av:=U.v 4 38;have an:=U.v 9 43;go_simp;refine(CE.out a F).mono ?_;rintro e' w6 ⟨rfl,ai⟩;exact pF o (F.tR ai)
    refine rN rfl (λ L d A a k l m U F K o=>?_) ?_
    ·have am:=U.v 10 44;have P:=I.out a F;have O:=H.out a F;have g:=Nat.lt_of_lt_of_le b.out.1 F.size;have f:=Nat.lt_of_lt_of_le b.out.2 F.size;clear P O;go_simp;exact pF o (bskip F 11)
    exact RelFrom.nil (by decide)
   intro d wD hp F;simp only [Fr,Act.put,sX,Nat.reduceAdd];have af:d 11=.bool false:=hp 11 (by decide) _ rfl;rw [af];have aj:=kD (B.out.below F);clear F hp af I H b CE B;have ak:=iW (((i:Int)+1));go_wp2_with fail;go_roundw
   case rel=>exact⟨i+1,by first | rfl | go_num,by omega,aj⟩
   case measure=>simp [intOf] <;> omega
  ·obtain rfl:M=i:=by omega
   have ah:=K.bel;clear B;go_wp2_with fail;go_ret;exact⟨rfl,ah⟩
end W9
namespace MtL
open Go Go.ChangeShapes Go.WideShapes Go.ChangeAt Go.RowKit Base Ints Own RelG PlP TxP Num TxI Gm RegInv RegF RegG Bd1 Bd5 W9 EtA MtA
theorem bigF (n cp:Nat) (A:Option Addr) (b:Bool) (hb:decide ((4096:Int)<(n:Int))=b) (w:World) (hn:n<=maxLen):Calls prog 5 #[.slice A n cp] w λ e w'=>e=.returned (.bool b)∧w=w':=by
 subst hb;unfold maxLen at hn;go_enter func5,ntmps5;go_wp2;go_ret;exact⟨rfl,rfl⟩
theorem matT_ne (v:Vr) (n:Int) (es:List Ev):matT v n es≠[]:=by
 unfold matT;simp
structure Lm (w:World) (g3:Nat) (v:Vr) (n:Int) (Ae:Option Addr) (M ce:Nat) (es:List Ev) (W:World):Prop where
 bel:Below w.heap.size w W
 r3:RowB W g3 37 [iL v.p,iL v.c,iL v.h,iL v.s,iL n,.slice Ae M ce]
 ev:EvL W All Ae es
theorem Lm.below {w W W':World} {g3:Nat} {v:Vr} {n:Int} {Ae:Option Addr} {M ce:Nat} {es:List Ev} (K:Lm w g3 v n Ae M ce es W) (hb:zB W W'):Lm w g3 v n Ae M ce es W' :=
 ⟨K.bel.tR hb,K.r3.below hb K.r3.lt,K.ev.keep (.below hb)⟩
theorem walkT (A:Option Addr) (cp:Nat) (xs:List Int) (w:World) (hr:RdS w w.heap.size 1 enB A xs) (hw:∀ x ∈ xs,(Lit.int .u8 x).wf=true) (E:Env w) :
  Calls prog 4 #[.slice A xs.length cp] w λ e w'=>e=.returned (.bool true)∧Below w.heap.size w w':=by
 have ak:=hr.1;have CD:=kD (dmatch (cp:=cp) hr hw);have CO:=kD (λ(hn:xs.length<=4096) (N:World) (h9:zB w N)=>other28 A cp xs N hn ((hr.below h9 lR).more h9.size));have CR:=kD (λ(A':Option Addr) (c':Nat) (N:World) (D:RdS N N.heap.size 1 enB A' (28 :: 35 :: 84 :: xs))=>dread (cp:=c') D (by
  intro x hx;simp only [List.mem_cons] at hx;rcases hx with rfl | rfl | rfl | hx
  ·decide
  ·decide
  ·decide
  ·exact hw x hx))
 have HE:=kD E;have ac:(28 :: 35 :: 84 :: xs).length=xs.length+3:=by simp
 simp only [ac] at CR;obtain⟨NX,aj⟩:=eX (xs.length);rw [aj] at CD CO ak ⊢;simp only [aj] at CR;obtain⟨bg,ai⟩:=eX (decide ((4096:Int)<(NX:Int)));have CB:=kD (bigF NX cp A bg ai w ak);have ap:=kD ai;clear hr hw aj ai E ac;go_enter func4,ntmps4;go_wp2_with fail;refine CB.out.mono ?_;rintro e w1 ⟨rfl,rfl⟩;clear CB
 cases bg with
 | true =>
  go_wp2_with fail;go_ret;exact⟨rfl,zRf⟩
 | false =>
 have CO:=kD (CO.out (by have:=of_decide_eq_false ap.out;omega));clear ap;go_wp2_with fail;refine CD.out.mono ?_;rintro e w2 ⟨v,n,B,Ae,ce,rfl,am,d⟩;obtain⟨M,hM⟩:=eX (B.length);rw [hM];have HM:=kD hM;have HB:=kD d;have ao:=kD am;clear hM d am CD;go_upto_region 4 with fail;refine wp_gen (λ W'=>Lm w w2.heap.size v n Ae M ce B W') ?_ ?_
 ·have an:Below w2.heap.size w2 (w2.alloc (.cells #[iL v.p,iL v.c,iL v.h,iL v.s,iL n,.slice Ae M ce] 37)):=by go_grown
  exact⟨HB.out.tR an,nW,ao.out.keep (.below an)⟩
 obtain⟨g3,al⟩:=eX (w2.heap.size)
 try simp only [al]
 clear al HB ao;intro w3 K;have CI:=mtext_i v n B Ae ce w3 (HE.out.below K.bel) K.ev;have CS:=kD (λ(N:World) (h9:EvL N All Ae B)=>mtext_s v n B Ae ce N h9);obtain⟨ok,ab⟩:=eX ((finS v n B).isSome);have CM:=kD (λ(N:World) (h9:EvL N All Ae B)=>ismatch_i v n B Ae ce N h9 ok ab);have ae:=kD ab;have af:=kD (show matX v n B=if ok=true then matT v n B else [] by unfold matX;rw [ab]);obtain⟨X,hX⟩:=eX (bs (matX v n B));have HX:=kD hX;rw [hX,HM.out] at CI;simp only [hX,HM.out] at CS CM;have CI:=kD CI;clear ab hX;obtain⟨q0,q1,q2,q3,q4,q5⟩:=K.r3.c6;have F:=K.r3.lt;go_wp2_with fail;refine CI.out.mono ?_;rintro e w4 ⟨rfl,d⟩;have K:=K.below d;clear q0 q1 q2 q3 q4 q5 F d CI;obtain⟨q0,q1,q2,q3,q4,q5⟩:=K.r3.c6;have F:=K.r3.lt;have az:(X.toList == X.toList)=true:=by simp
 have ay:(X.toList != X.toList)=false:=by simp
 go_wp2_with fail;refine(CS.out _ K.ev).mono ?_;rintro e w5 ⟨rfl,d⟩;have K:=K.below d;clear q0 q1 q2 q3 q4 q5 F d CS;obtain⟨q0,q1,q2,q3,q4,q5⟩:=K.r3.c6;have F:=K.r3.lt;go_wp2_with fail;refine(CM.out _ K.ev).mono ?_;rintro e w6 ⟨rfl,d⟩;have K:=K.below d;clear q0 q1 q2 q3 q4 q5 F d CM
 cases ok with
 | false =>
  have he:X.toList.isEmpty=true:=by
   have h:=af.out;simp at h;rw [<-HX.out,h,ByteArray.toList_eq]
   rfl
  clear HX af ae;go_upto_region 11 with fail;have a:=K.bel;clear K;go_wp2_with fail;refine(CO.out _ a).mono ?_;rintro e x1 ⟨A',c',rfl,D,d⟩;have a:=a.tR d;clear d;go_wp2_with fail;refine(CR.out A' c' x1 D).mono ?_;rintro e x2 ⟨W,rfl,T,d⟩;have a:=a.tR d;clear d D CO CR;obtain⟨L,m⟩:∃ L,bs L=W:=⟨_,bs_back W⟩;have P:L.length<=4194304:=by rw [<-m,bs_size] at T;omega
  have i:=rmatch_i L P x2 (HE.out.below a);rw [m] at i;obtain⟨R,hR⟩:=eX (rdM L);obtain⟨⟨J,n2,H⟩,C,O⟩:=R;rw [hR] at i;have i:=kD i;have j:=kD hR;have I:=kD m;clear hR m P T;go_wp2_with fail;refine i.out.mono ?_;rintro e x3 ⟨aw,rfl,f,d⟩;simp only at f ⊢;obtain⟨A9,c9,V⟩:=f.form;subst V;obtain⟨L2,G⟩:=eX (H.length);rw [G] at f ⊢;have Y:=kD G;have g:=kD (evs_l (S:=λ _=>True) f (λ _ _=>trivial));have a:=a.tR d;clear d f G i;go_upto_region 13 with fail;obtain⟨g9,o⟩:=eX (x3.heap.size);refine wp_gen (λ W'=>Below x3.heap.size x3 W'∧RowB W' g9 37 [iL J.p,iL J.c,iL J.h,iL J.s,iL n2,.slice A9 L2 c9]) ⟨(zRf).alloc lR _,by rw [<-o];exact nW⟩ ?_
  try simp only [o]
  rintro x4 ⟨d,R9⟩;rw [<-o] at d;have g:=kD (g.out.keep (.below d));have a:=a.tR d;clear d o;obtain⟨p0,p1,p2,p3,p4,p5⟩:=R9.c6;have aq:=R9.lt;by_cases hcd:C=0
  ·subst hcd;obtain⟨Q,y,rfl⟩:=HmP.accepted j.out;have k:=mtext_i J n2 H A9 c9 x4 (HE.out.below a) (g.out.weak (λ _ _=>trivial));have r:bs (matX J n2 H)=W:=by unfold matX;rw [if_pos Q,y];exact I.out
   rw [r,Y.out] at k;have k:=kD k;have f1:(W.toList == W.toList)=true:=by simp
   clear Q y r j I g;go_wp2_with fail;refine k.out.mono ?_;rintro e x5 ⟨rfl,d⟩;have a:=a.tR d;clear d k;go_wp2_with fail;go_ret;exact⟨rfl,a⟩
  ·obtain⟨h1,h2⟩:=HmP.refused (t:=L) (by rw [j.out];exact hcd);rw [j.out] at h1 h2;simp only at h1 h2;have av:(C != 0)=true:=by simp [hcd]
   subst h1;obtain rfl:L2=0:=Y.out.symm;have ac:decide ((0:Int)<=O)=true:=decide_eq_true h2;clear j I g h2;go_wp2_with fail;go_ret;exact⟨rfl,a⟩
 | true =>
  have y:matX v n B=matT v n B:=by have h:=af.out;simpa using h
  have aa:=HX.out;rw [y] at aa;have he:X.toList.isEmpty=false:=by
   rw [<-aa,ByteArray.toList_eq]
   cases hl:matT v n B with
   | nil=>exact absurd hl (matT_ne v n B)
   | cons x l=>rfl
  have ah:=fin_parts ae.out;have Z:=rmatch_i (matT v n B) (Nat.le_trans (HmP.mat_len ah.1 ah.2) (by decide)) w6 (HE.out.below K.bel);rw [aa,HmP.back ae.out] at Z;have Z:=kD Z;clear y aa ah HX af ae;go_wp2_with fail;refine Z.out.mono ?_;rintro e w7 ⟨ax,rfl,z,d⟩;simp only at z ⊢;obtain⟨A5,c5,V⟩:=z.form;subst V;rw [HM.out] at z ⊢;have ag:=kD (evs_l (S:=All) z (λ _ _=>trivial));have K:=K.below d;clear d z Z;go_upto_region 9 with fail;obtain⟨g5,ad⟩:=eX (w7.heap.size);refine wp_gen (λ W'=>Below w7.heap.size w7 W'∧RowB W' g5 37 [iL v.p,iL v.c,iL v.h,iL v.s,iL n,.slice A5 M c5]) ⟨(zRf).alloc lR _,by rw [<-ad];exact nW⟩ ?_
  try simp only [ad]
  rintro w8 ⟨d,R5⟩;rw [<-ad] at d;have K:=K.below d;have CW:=kD (w9matches v n A5 Ae c5 ce M B HM.out w8 (ag.out.keep (.below d)) K.ev);clear d ad ag;obtain⟨q0,q1,q2,q3,q4,q5⟩:=K.r3.c6;have F:=K.r3.lt;obtain⟨y0,y1,y2,y3,y4,y5⟩:=R5.c6;have ar:=R5.lt;go_wp2_with fail;refine CW.out.mono ?_;rintro e N ⟨rfl,d⟩;have K:=K.below d;clear d CW q0 q1 q2 q3 q4 q5 F y0 y1 y2 y3 y4 y5 ar R5;go_upto_region 11 with fail;have a:=K.bel;clear K;go_wp2_with fail;refine(CO.out _ a).mono ?_;rintro e x1 ⟨A',c',rfl,D,d⟩;have a:=a.tR d;clear d;go_wp2_with fail;refine(CR.out A' c' x1 D).mono ?_;rintro e x2 ⟨W,rfl,T,d⟩;have a:=a.tR d;clear d D CO CR;obtain⟨L,m⟩:∃ L,bs L=W:=⟨_,bs_back W⟩;have P:L.length<=4194304:=by rw [<-m,bs_size] at T;omega
  have i:=rmatch_i L P x2 (HE.out.below a);rw [m] at i;obtain⟨R,hR⟩:=eX (rdM L);obtain⟨⟨J,n2,H⟩,C,O⟩:=R;rw [hR] at i;have i:=kD i;have j:=kD hR;have I:=kD m;clear hR m P T;go_wp2_with fail;refine i.out.mono ?_;rintro e x3 ⟨aw,rfl,f,d⟩;simp only at f ⊢;obtain⟨A9,c9,V⟩:=f.form;subst V;obtain⟨L2,G⟩:=eX (H.length);rw [G] at f ⊢;have Y:=kD G;have g:=kD (evs_l (S:=λ _=>True) f (λ _ _=>trivial));have a:=a.tR d;clear d f G i;go_upto_region 13 with fail;obtain⟨g9,o⟩:=eX (x3.heap.size);refine wp_gen (λ W'=>Below x3.heap.size x3 W'∧RowB W' g9 37 [iL J.p,iL J.c,iL J.h,iL J.s,iL n2,.slice A9 L2 c9]) ⟨(zRf).alloc lR _,by rw [<-o];exact nW⟩ ?_
  try simp only [o]
  rintro x4 ⟨d,R9⟩;rw [<-o] at d;have g:=kD (g.out.keep (.below d));have a:=a.tR d;clear d o;obtain⟨p0,p1,p2,p3,p4,p5⟩:=R9.c6;have aq:=R9.lt;by_cases hcd:C=0
  ·subst hcd;obtain⟨Q,y,rfl⟩:=HmP.accepted j.out;have k:=mtext_i J n2 H A9 c9 x4 (HE.out.below a) (g.out.weak (λ _ _=>trivial));have r:bs (matX J n2 H)=W:=by unfold matX;rw [if_pos Q,y];exact I.out
   rw [r,Y.out] at k;have k:=kD k;have f1:(W.toList == W.toList)=true:=by simp
   clear Q y r j I g;go_wp2_with fail;refine k.out.mono ?_;rintro e x5 ⟨rfl,d⟩;have a:=a.tR d;clear d k;go_wp2_with fail;go_ret;exact⟨rfl,a⟩
  ·obtain⟨h1,h2⟩:=HmP.refused (t:=L) (by rw [j.out];exact hcd);rw [j.out] at h1 h2;simp only at h1 h2;have av:(C != 0)=true:=by simp [hcd]
   subst h1;obtain rfl:L2=0:=Y.out.symm;have ac:decide ((0:Int)<=O)=true:=decide_eq_true h2;clear j I g h2;go_wp2_with fail;go_ret;exact⟨rfl,a⟩
end MtL
end Go.Proofs.YtjdefiinmicjiaaGreatDoor
