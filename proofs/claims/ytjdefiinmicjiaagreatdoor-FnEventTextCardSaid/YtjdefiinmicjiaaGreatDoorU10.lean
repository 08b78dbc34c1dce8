/- Parts of the proof of FnEventText. Conditions: each theorem's own. -/
import Derived.Test.YtjdefiinmicjiaaGreatDoorU08
import Derived.Laws.IdiomStrings
import Derived.Maps.Own
import Derived.Maps.OwnSet
import Derived.Maps.Views
import Derived.StringKeys
set_option linter.unusedVariables false
set_option linter.unusedSimpArgs false
set_option maxHeartbeats 8000000
set_option maxRecDepth 100000
namespace Go.Proofs.YtjdefiinmicjiaaGreatDoor
namespace Bd9
open Go.ChangeShapes Go.WideShapes Go.ChangeAt Go.RowKit Base Ints Own Clone PlP Bd1
end Bd9
namespace Bd10
open Go.ChangeShapes Go.WideShapes Go.ChangeAt Go.RowKit Base Ints Own Clone PlP Bd1
theorem same_s (a b:Bd) (n:Nat) (h1:a.1.length=n) (h2:a.2.length=n) (h3:b.1.length=n) (h4:b.2.length=n) (hn:0<n∧n<=1000) (A1 A2 A3 A4:Option Addr) (c1 c2 c3 c4 B:Nat) (w:World) (hB:B<=w.heap.size)
  (r1:RdS w B 1 enI A1 a.1) (r2:RdS w B 1 enI A2 a.2) (r3:RdS w B 1 enI A3 b.1) (r4:RdS w B 1 enI A4 b.2) (x:Bool) (hx:decide (a=b)=x) :
  Calls Tryz.prog 144 #[.agg #[.slice A1 n c1,.slice A2 n c2],.agg #[.slice A3 n c3,.slice A4 n c4]] w λ e w'=>e=.returned (.bool x)∧Below w.heap.size w w':=by
 obtain⟨l,m⟩:=a;obtain⟨p,q⟩:=b;simp only at *;have K:Hid (decide ((∀ i,i<n->at_ l i=at_ p i)∧(∀ i,i<n->at_ m i=at_ q i))=x):=kD (by
  rw [<-hx];refine decide_eq_decide.2 ⟨λ h=>?_,λ h=>?_⟩
  ·exact Prod.ext (list_ext (by simp only;omega) (λ i s=>h.1 i (by simp only at s;omega))) (list_ext (by simp only;omega) (λ i s=>h.2 i (by simp only at s;omega)))
  ·simp only [Prod.mk.injEq] at h;rw [h.1,h.2];exact⟨λ _ _=>rfl,λ _ _=>rfl⟩)
 have Z:=kD h1;have Y:=kD h2;have X:=kD h3;have W:=kD h4;have T:=kD r1;have S:=kD r2;have R:=kD r3;have Q:=kD r4;clear h1 h2 h3 h4 r1 r2 r3 r4 hx;go_enter Tryz.func144,Tryz.ntmps144;go_upto_region 1 with fail;refine wp_gen (λ J=>Below w.heap.size w J∧RowB J w.heap.size 51 [.slice A1 n c1,.slice A2 n c2]∧RowB J (w.heap.size+1) 51 [.slice A3 n c3,.slice A4 n c4]) ⟨by go_grown,RowB.alloc (RowB.new _ _ _) _,RowB.new' _ _ _ (by first | simp | go_size | rfl)⟩ ?_;rintro w1 ⟨H,f,d⟩;obtain⟨C,A⟩:=f.c2;obtain⟨z,y⟩:=d.c2;have o:=f.lt;have j:=d.lt;go_wp2_with fail;go_loopw [5] (λ i wr=>∃ k:Nat,k<=n∧i=.int .i64 (k:Int)∧Hid (Below w.heap.size w wr)∧RowB wr w.heap.size 51 [.slice A1 n c1,.slice A2 n c2]∧RowB wr (w.heap.size+1) 51 [.slice A3 n c3,.slice A4 n c4]∧Hid (∀ i,i<k->at_ l i=at_ p i)) (λ i _=>n - (intOf i).toNat)
 case atStart=>exact⟨0,Nat.zero_le _,by first | rfl | trivial,kD H,f,d,kD (λ i h=>absurd h (Nat.not_lt_zero _))⟩
 case round =>
  obtain⟨k,N,rfl,g,f,d,c⟩:=hrel;clear C A z y o j;obtain⟨C,A⟩:=f.c2;obtain⟨z,y⟩:=d.c2;have o:=f.lt;have j:=d.lt;by_cases hlt:k<n
  ·obtain⟨P,M,rfl,v,G⟩:=at_rd (T.out.below g.out hB) (i:=k) (by rw [Z.out];exact hlt);obtain⟨O,L,rfl,t,F⟩:=at_rd (R.out.below g.out hB) (i:=k) (by rw [X.out];exact hlt);have E:(k:Int)<(n:Int):=by omega
   have D:IntKind.i64.wrap ((k:Int)+1)=(k:Int)+1:=IntWalk.i64_in _ (by omega);by_cases hv:at_ l k=at_ p k
   ·have I:(at_ l k != at_ p k)=false:=by simp [hv]
    have r:=kD (show ∀ i,i<k+1->at_ l i=at_ p i from λ i s=>by
     by_cases e:i=k
     ·rw [e];exact hv
     ·exact c.out i (by omega))
    clear hv;go_wp2_with fail;go_quiet (fail);go_wp2_with fail;go_roundw
    case rel=>exact⟨k+1,by omega,by go_num,kD (below_drewN g.out _),f.drewN _,d.drewN _,r⟩
    case measure=>simp [intOf];omega
   ·have I:(at_ l k != at_ p k)=true:=by simp [hv]
    obtain rfl:x=false:=by rw [<-K.out];exact decide_eq_false (λ h=>hv (h.1 k hlt))
    clear hv;go_wp2_with fail;go_quiet (fail);go_wp2_with fail;go_ret;exact⟨rfl,below_drewN g.out _⟩
  ·obtain rfl:n=k:=by omega
   have V:=c;clear c;go_wp2_with fail;go_loopw [6] (λ i wr=>∃ k:Nat,k<=n∧i=.int .i64 (k:Int)∧Hid (Below w.heap.size w wr)∧RowB wr w.heap.size 51 [.slice A1 n c1,.slice A2 n c2]∧RowB wr (w.heap.size+1) 51 [.slice A3 n c3,.slice A4 n c4]∧Hid (∀ i,i<k->at_ m i=at_ q i)) (λ i _=>n - (intOf i).toNat)
   case atStart=>exact⟨0,Nat.zero_le _,by first | rfl | trivial,g,f,d,kD (λ i h=>absurd h (Nat.not_lt_zero _))⟩
   case round =>
    obtain⟨k,N,rfl,g,f,d,c⟩:=hrel;clear C A z y o j;obtain⟨C,A⟩:=f.c2;obtain⟨z,y⟩:=d.c2;have o:=f.lt;have j:=d.lt;by_cases hlt:k<n
    ·obtain⟨P,M,rfl,v,G⟩:=at_rd (S.out.below g.out hB) (i:=k) (by rw [Y.out];exact hlt);obtain⟨O,L,rfl,t,F⟩:=at_rd (Q.out.below g.out hB) (i:=k) (by rw [W.out];exact hlt);have E:(k:Int)<(n:Int):=by omega
     have D:IntKind.i64.wrap ((k:Int)+1)=(k:Int)+1:=IntWalk.i64_in _ (by omega);by_cases hv:at_ m k=at_ q k
     ·have I:(at_ m k != at_ q k)=false:=by simp [hv]
      have r:=kD (show ∀ i,i<k+1->at_ m i=at_ q i from λ i s=>by
       by_cases e:i=k
       ·rw [e];exact hv
       ·exact c.out i (by omega))
      clear hv;go_wp2_with fail;go_quiet (fail);go_wp2_with fail;go_roundw
      case rel=>exact⟨k+1,by omega,by go_num,kD (below_drewN g.out _),f.drewN _,d.drewN _,r⟩
      case measure=>simp [intOf];omega
     ·have I:(at_ m k != at_ q k)=true:=by simp [hv]
      obtain rfl:x=false:=by rw [<-K.out];exact decide_eq_false (λ h=>hv (h.2 k hlt))
      clear hv;go_wp2_with fail;go_quiet (fail);go_wp2_with fail;go_ret;exact⟨rfl,below_drewN g.out _⟩
    ·obtain rfl:n=k:=by omega
     obtain rfl:x=true:=by rw [<-K.out];exact decide_eq_true ⟨V.out,c.out⟩
     go_wp2_with fail;go_ret;exact⟨rfl,g.out⟩
end Bd10
namespace Bd11
open Go.ChangeShapes Go.WideShapes Go.ChangeAt Go.RowKit Base Ints Own Clone RelG PlP Bd1 Bd5 Bd8 Bd10
abbrev PRow:=Value × Value × Value
def enP (r:PRow):List Value:=[r.1,r.2.1,r.2.2]
theorem enP_len (r:PRow):(enP r).length=3:=rfl
def RelP:Rel PRow Pl where
 R:=λ w S r x=>OwnV 111 4 enSt w S r.1 x.1∧SlV 1 enI w S r.2.1 x.2.1∧SlV 1 enI w S r.2.2 x.2.2
 keep:=λ h hs=>⟨(relO 111 4 enSt).keep h.1 hs,(relV 1 enI).keep h.2.1 hs,(relV 1 enI).keep h.2.2 hs⟩
 weak:=λ h hs=>⟨(relO 111 4 enSt).weak h.1 hs,(relV 1 enI).weak h.2.1 hs,(relV 1 enI).weak h.2.2 hs⟩
theorem hasB_snoc (out:List Pl) (p:Pl) (b:Bd):hasB (out++[p]) b=(hasB out b || decide (p.2=b)):=by unfold hasB;simp
theorem find_s (out:List Pl) (b:Bd) (n:Nat) (hn:0<n∧n<=1000) (hout:∀ q ∈ out,q.2.1.length=n∧q.2.2.length=n) (h1:b.1.length=n) (h2:b.2.length=n) (u:Value) (A1 A2:Option Addr) (c1 c2 B:Nat) (w:World) (hB:B<=w.heap.size)
  (hu:SlG RelP 3 enP w All u out) (r1:RdS w B 1 enI A1 b.1) (r2:RdS w B 1 enI A2 b.2) :
  Calls Tryz.prog 109 #[u,.agg #[.slice A1 n c1,.slice A2 n c2]] w λ e w'=>∃ r:Int,e=.returned (.int .i64 r)∧decide (r<0)=!hasB out b∧Below w.heap.size w w':=by
 obtain⟨Ap,cp,rs,rfl,j,l,-⟩:=hu;have v:=j.len;rw [l.1] at v;obtain⟨N,T⟩:∃ N,out.length=N:=⟨_,rfl⟩;rw [T] at v ⊢;have G:=kD T;have Z:=kD j;have H:=kD l;have F:=kD hout;have H1:=kD h1;have H2:=kD h2;have R1:=kD r1;have R2:=kD r2;have CS:=kD (λ(q:Bd) (O M:Option Addr) (X V:Nat) (q1:q.1.length=n) (q2:q.2.length=n) (f:World) (h:Below w.heap.size w f) (L:RdS f f.heap.size 1 enI O q.1) (K:RdS f f.heap.size 1 enI M q.2) (x:Bool) (p:decide (q=b)=x) =>
  same_s q b n q1 q2 h1 h2 hn O M A1 A2 X V c1 c2 f.heap.size f (Nat.le_refl _) L K ((r1.below h hB).more (Nat.le_trans hB h.size)) ((r2.below h hB).more (Nat.le_trans hB h.size)) x p)
 clear T j l hout h1 h2 r1 r2;go_enter Tryz.func109,Tryz.ntmps109;go_upto_region 1 with fail;refine wp_gen (λ W'=>Below w.heap.size w W'∧RowB W' w.heap.size 51 [.slice A1 n c1,.slice A2 n c2]) ⟨by go_grown,RowB.new _ _ _⟩ ?_;rintro w1 ⟨R,c⟩;obtain⟨J,I⟩:=c.c2;have d:=c.lt;go_wp2_with fail;go_loopw [5] (λ i wr=>∃ k:Nat,k<=N∧i=.int .i64 (k:Int)∧Hid (Below w.heap.size w wr)∧RowB wr w.heap.size 51 [.slice A1 n c1,.slice A2 n c2]∧Hid (hasB (out.take k) b=false)) (λ i _=>N - (intOf i).toNat)
 case atStart=>exact⟨0,Nat.zero_le _,by first | rfl | trivial,kD R,c,kD rfl⟩
 case round =>
  obtain⟨k,hk,rfl,o,c,t⟩:=hrel;clear J I d;obtain⟨J,I⟩:=c.c2;have d:=c.lt;by_cases hlt:k<N
  ·have g:Still All w wr:=Still.below o.out;obtain⟨b1,o1,r,rfl,-,ac,hr,Q⟩:=(Z.out.keep g).at_ (i:=k) (by rw [H.out.1,G.out];exact hlt);obtain⟨q,s,S⟩:=(H.out.keep g).at_ hr;obtain⟨ss,Y⟩:=q;obtain⟨r0,rl,rm⟩:=r;have E:=S.2.1;have D:=S.2.2;simp only at E D;obtain⟨O,X,rfl,L,-⟩:=E;obtain⟨M,V,rfl,K,-⟩:=D;have a:=F.out _ (List.mem_of_getElem? s);simp only at a;have z:=Q 1 _ rfl;have y:=Q 2 _ rfl;rw [a.1] at z;rw [a.2] at y;have HT:=kD (show out.take (k+1)=out.take k++[(ss,Y)] from take_succ out k _ s);obtain⟨x,p⟩:∃ x,decide (Y=b)=x:=⟨_,rfl⟩;have C:=kD (λ W (h:wr=W)=>CS.out Y O M X V a.1 a.2 wr.drew o.out.drew L.rd K.rd x p);have HX:=kD p;have ab:(k:Int)<(N:Int):=by omega
   have aa:IntKind.i64.wrap ((k:Int)+1)=(k:Int)+1:=IntWalk.i64_in _ (by omega);clear g hr s S Q L K a p;go_wp2_with fail;go_still_tail 6,(by kernel_rfl);go_wp2_with fail;refine(C.out _ rfl).mono ?_;rintro e w2 ⟨rfl,m⟩;have c:=c.drew.below m c.drew.lt;have A:=kD (o.out.drew.trans (m.mono o.out.drew.size));clear J I d o m z y C;obtain⟨J,I⟩:=c.c2;have d:=c.lt
   cases x
   case false =>
    have P:Hid (hasB (out.take (k+1)) b=false):=kD (by rw [HT.out,hasB_snoc,t.out,HX.out];rfl);go_wp2_with fail;go_roundw
    case rel=>exact⟨k+1,by omega,by go_num,A,c,P⟩
    case measure=>simp [intOf];omega
   case true =>
    have hY:Hid (hasB out b=true):=kD (by
     have h0:hasB (out.take (k+1)) b=true:=by rw [HT.out,hasB_snoc,HX.out,Bool.or_true]
     unfold hasB at h0 ⊢;obtain⟨q,s,he⟩:=List.any_eq_true.1 h0;exact List.any_eq_true.2 ⟨q,List.mem_of_mem_take s,he⟩)
    go_wp2_with fail;go_ret;exact⟨(k:Int),rfl,by rw [hY.out];simp,A.out⟩
  ·obtain rfl:N=k:=by omega
   have hA:Hid (hasB out b=false):=kD (by rw [<-t.out,<-G.out,List.take_length]);go_wp2_with fail;go_ret;exact⟨-1,rfl,by rw [hA.out];rfl,o.out⟩
end Bd11
namespace Seen
open Go Go.RowKit Base
open Go.Maps (Keyed IsMap isMap_empty)
open Go.WideMaps (keyOf_string_mk)
def Seen (w:World) (b n:Nat) (S:List (List UInt8)):Prop :=
 ∃ D:DataW Unit,w.ownsMap Tryz.prog 9 (plainElem Tryz.prog 4) b n D∧IsMap D∧∀ s:ByteArray,s.size<=maxLen->D.atKey (.string s.data.toList) (.lit (.bool false))=.lit (.bool (decide (s.data.toList ∈ S)))
end Seen
namespace Bd16
open Go.ChangeShapes Go.WideShapes Go.ChangeAt Go.RowKit Base Ints Own Clone RelG PlP Bd1 Bd5 Bd6 Bd7 Bd8 Bd9 Bd11 RegInv RegF RegG Seen
theorem infoP:(Tryz.prog.info? 98).map (λ i=>(i.zero,i.size,i.bytes))=some (some (.agg #[.slice none 0 0,.slice none 0 0,.slice none 0 0]),3,72):=by kernel_rfl
theorem one_P (r:PRow) (h:r.1.oneCell'=true∧r.2.1.oneCell'=true∧r.2.2.oneCell'=true):∀ u ∈ enP r,u.oneCell'=true:=by
 intro u a;simp [enP] at a;rcases a with rfl | rfl | rfl
 ·exact h.1
 ·exact h.2.1
 ·exact h.2.2
theorem rd_row {α:Type} {en:α->List Value} {w:World} {g sz B:Nat} {e:TypeId} {x:α} (h:RowB w g e (en x)) (hg:g<B):RdS w B sz en (some ⟨g,0,none⟩) [x] :=
 ⟨by show 1<=maxLen;decide,λ _=>⟨g,0,rfl,hg,λ i y hy j u hu=>by
  cases i with
  | zero =>
   simp at hy;subst hy;rw [show 0+0*sz+j=j from by omega,h.cell j];exact hu
  | succ i=>simp at hy⟩⟩
section
variable {ρ α:Type} {K:Rel ρ α} {w w':World} {lo hi sz:Nat} {e:TypeId} {en:ρ->List Value} {v:Value} {xs:List α}
theorem own_snoc {rs:List ρ} {r:ρ} {x:α} {g n c:Nat} (h2:LsR K w (NotIn v lo) rs xs) (hx:K.R w (NotIn v lo) r x) (ho:OwnS w' lo w'.heap.size e sz en (.slice (some ⟨g,0,none⟩) n c) (rs++[r])) (hg:w.grownBy w' v.ownBlock) (hat:v.ownBlock=some g∨g=w.heap.size) :
  OwnG K w' lo w'.heap.size e sz en (.slice (some ⟨g,0,none⟩) n c) (xs++[x]) :=
 ⟨rs++[r],ho,LsR.snoc ⟨h2.1,λ i r' x' hr hx'=>app_still hg hat (h2.2 i r' x' hr hx')⟩ (app_still hg hat hx)⟩
end
theorem app_still' {w w':World} {lo g n c:Nat} {v:Value} (hg:w.grownBy w' v.ownBlock) (hat:v.ownBlock=some g∨w.heap.size<=g) {ρ α:Type} {K:Rel ρ α} {r:ρ} {x:α} (h:K.R w (NotIn v lo) r x):K.R w' (NotIn (.slice (some ⟨g,0,none⟩) n c) lo) r x:=by
 have l:K.R w (λ b=>NotIn v lo b∧b<w.heap.size) r x:=K.weak h (λ b a f=>⟨a,f⟩);have j:=K.keep l (Still.grown (S:=λ b=>NotIn v lo b∧b<w.heap.size) hg (λ k i d=>d.1.1 i));refine K.weak j (λ b a _=>⟨?_,a.1.2⟩);intro e;simp [Value.ownBlock] at e;subst e;rcases hat with hat | hat
 ·exact a.1.1 hat
 ·have:=a.2;omega
end Bd16
namespace Bd17
open Go.ChangeShapes Go.WideShapes Go.ChangeAt Go.RowKit Base Ints Own Clone RelG PlP Bd1 Bd4 Bd5 Bd6 Bd7 Bd8 Bd9 Bd11 RegInv RegF RegG Seen Bd16
structure GoF (w9:World) (sp:List Stp) (s:Stp) (p4 p7 p9 p10 p11:Prop) (v4 v7 v9 v10 v11:Value) (w':World):Prop where
 bel:Below w9.heap.size w9 w'
 f4:p4->¬ p7->OwnS w' w9.heap.size w'.heap.size 111 4 enSt v4 []
 f7:p7->¬ p10->OwnS w' w9.heap.size w'.heap.size 111 4 enSt v7 sp
 f9:p9->¬ p10->∃ g,v9=.slice (some ⟨g,0,none⟩) 1 1∧w9.heap.size<=g∧RowB w' g 111 (enSt s)∧(p4->¬ p7->v4.ownBlock≠some g)∧(p7->v7.ownBlock≠some g)
 f10:p10->OwnS w' w9.heap.size w'.heap.size 111 4 enSt v10 (sp++[s])
 f11:p11->v11=v10
section
variable {w9 w' w'':World} {sp:List Stp} {s:Stp} {p4 p7 p9 p10 p11:Prop} {v4 v7 v9 v10 v11 v':Value}
theorem GoF.s4 (F:GoF w9 sp s p4 p7 p9 p10 p11 v4 v7 v9 v10 v11 w') {c:Nat} (n7:¬ p7) (n10:¬ p10) (n11:¬ p11) (hown:OwnS w'' w9.heap.size w''.heap.size 111 4 enSt (.slice (some ⟨w'.heap.size,0,none⟩) 0 c) []) (hg:w'.grownBy w'' none) :
  GoF w9 sp s True p7 p9 p10 p11 (.slice (some ⟨w'.heap.size,0,none⟩) 0 c) v7 v9 v10 v11 w'':=by
 refine⟨F.bel.grown hg F.bel.size (λ g h=>by simp at h),λ _ _=>hown,λ h=>absurd h n7,λ h b=>?_,λ h=>absurd h n10,λ h=>absurd h n11⟩;obtain⟨g,e,i,a,l,j⟩:=F.f9 h b;refine⟨g,e,i,a.grown hg (λ k d=>by simp at d),λ _ _ f=>?_,λ h=>absurd h n7⟩;have:=a.lt;simp [Value.ownBlock] at f;omega
theorem GoF.s7 (F:GoF w9 sp s p4 p7 p9 p10 p11 v4 v7 v9 v10 v11 w') (y4:p4) (n7:¬ p7) (n10:¬ p10) (n11:¬ p11) (hown:OwnS w'' w9.heap.size w''.heap.size 111 4 enSt v' sp) (hg:w'.grownBy w'' v4.ownBlock) (hat:∀ g,v'.ownBlock=some g->v4.ownBlock=some g∨g=w'.heap.size) :
  GoF w9 sp s p4 True p9 p10 p11 v4 v' v9 v10 v11 w'':=by
 have d:=F.f4 y4 n7;refine⟨F.bel.grown hg F.bel.size (λ g h=>(d.block g h).1),λ _ h=>absurd trivial h,λ _ _=>hown,λ h f=>?_,λ h=>absurd h n10,λ h=>absurd h n11⟩;obtain⟨g,e,j,c,b,l⟩:=F.f9 h f;refine⟨g,e,j,c.grown hg (λ k i a=>b y4 n7 (by rw [i,a])),λ _ h=>absurd trivial h,λ _ a=>?_⟩;rcases hat g a with h5 | h5
 ·exact b y4 n7 h5
 ·have:=c.lt;omega
theorem GoF.s9 (F:GoF w9 sp s p4 p7 p9 p10 p11 v4 v7 v9 v10 v11 w') (n10:¬ p10) (n11:¬ p11) :
  GoF w9 sp s p4 p7 True p10 p11 v4 v7 (.slice (some ⟨w'.heap.size,0,none⟩) 1 1) v10 v11 (w'.alloc (.cells ⟨enSt s⟩ 111)):=by
 refine⟨F.bel.alloc F.bel.size _,λ h a=>((F.f4 h a).alloc _).more (by simp),λ h a=>((F.f7 h a).alloc _).more (by simp),λ _ _=>⟨_,rfl,F.bel.size,RowB.new _ _ _,λ h a b=>?_,λ h b=>?_⟩,λ h=>absurd h n10,λ h=>absurd h n11⟩
 ·have:=((F.f4 h a).block _ b).2;omega
 ·have:=((F.f7 h n10).block _ b).2;omega
theorem GoF.s10 (F:GoF w9 sp s p4 p7 p9 p10 p11 v4 v7 v9 v10 v11 w') (y7:p7) (n10:¬ p10) (n11:¬ p11) (hown:OwnS w'' w9.heap.size w''.heap.size 111 4 enSt v' (sp++[s])) (hg:w'.grownBy w'' v7.ownBlock) :
  GoF w9 sp s p4 p7 p9 True p11 v4 v7 v9 v' v11 w'':=by
 have a:=F.f7 y7 n10;exact⟨F.bel.grown hg F.bel.size (λ g h=>(a.block g h).1),λ _ h=>absurd y7 h,λ _ h=>absurd trivial h,λ _ h=>absurd trivial h,λ _=>hown,λ h=>absurd h n11⟩
end
end Bd17
end Go.Proofs.YtjdefiinmicjiaaGreatDoor
