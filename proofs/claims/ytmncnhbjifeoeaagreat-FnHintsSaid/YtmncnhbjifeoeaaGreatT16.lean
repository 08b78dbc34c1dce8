/- Parts of the proof of FnHints. Conditions: each theorem's own. -/
import Derived.Test.YtmncnhbjifeoeaaGreatT15
import Derived.Lib.ParseIntB
import Derived.Lib.ItoaNum
import Derived.Lib.IndexMore
import Derived.Lib.Strings
import Derived.Lib.SplitLaws
import Derived.Lib.Join
import Derived.IntWalk
import Derived.ShapedOpen
import Derived.ChangeAgain
import Derived.Lib.ParseIntBTie
import Derived.Deep.CutRange
set_option linter.unusedVariables false
set_option linter.unusedSimpArgs false
set_option maxHeartbeats 8000000
set_option maxRecDepth 100000
namespace Go.Proofs.YtmncnhbjifeoeaaGreat
namespace TsI
open Go.ChangeShapes Go.WideShapes Go.ChangeAt Go.RowKit Base Ints Own PlP Bd1 Bd5 RegF RegG
theorem isroll_ws (v:Vr) (hv:okV v=true) (a b:Int) (x:Bool) (hx:rollB v a b=x) (w:World):Calls Tryz.prog 95 #[.agg #[.int .i64 v.p,.int .i64 v.c,.int .i64 v.h,.int .i64 v.s],.agg #[.int .i64 a,.int .i64 b]] w λ e w'=>e=.returned (.bool x)∧Below w.heap.size w w':=by
 unfold rollB at hx;obtain⟨B,m⟩:∃ c,decide (1<=a∧a<=v.s)=c:=⟨_,rfl⟩;obtain⟨A,l⟩:∃ c,decide (1<=b∧b<=a)=c:=⟨_,rfl⟩;rw [m,l] at hx;have G:=kD (λ w=>var_s v true hv w);have F:=kD (λ w=>in_s a 1 v.s B m w);have E:=kD (λ w=>in_s b 1 a A l w);have C:=kD hx;clear hx m l hv;go_enter Tryz.func95,Tryz.ntmps95;go_upto_region 1 with fail;refine wp_gen (λ n=>Below w.heap.size w n∧RowB n w.heap.size 25 (vL v)∧RowB n (w.heap.size+1) 30 [.int .i64 a,.int .i64 b]) ⟨by go_grown,(RowB.new _ _ _).alloc _,RowB.new' _ _ _ (by simp)⟩ ?_;rintro I ⟨d,i,j⟩;obtain⟨z,y,t,r⟩:=i.c4;obtain⟨q,o⟩:=j.c2;have f:=i.lt;have g:=j.lt;go_wp2_with fail;refine(G.out _).mono ?_;rintro e H ⟨rfl,k⟩;have d:=d.trans (k.mono d.size);have i:=i.below k f;have j:=j.below k g;clear z y t r q o f g k;obtain⟨z,y,t,r⟩:=i.c4;obtain⟨q,o⟩:=j.c2;have f:=i.lt;have g:=j.lt;go_wp2_with fail;refine(F.out _).mono ?_;rintro e D ⟨rfl,rfl⟩
 cases B
 case false =>
  obtain rfl:x=false:=by rw [<-C.out];rfl
  go_wp2_with fail;go_ret;exact⟨rfl,d⟩
 go_wp2_with fail;refine(E.out _).mono ?_;rintro e D ⟨rfl,rfl⟩;obtain rfl:A=x:=by rw [<-C.out];rfl
 go_wp2_with fail;go_ret;exact⟨rfl,d⟩
end TsI
namespace Gm
open Go Go.ChangeShapes Go.WideShapes Go.ChangeAt Go.RowKit Base Ints Own Clone RelG PlP Bd1 Bd2 Bd5 Bd6 Bd7 Bd8 RegInv RegF RegG
structure B3r (w wr:World) (v:Vr) (u1 u2:Value) (x y:Int):Prop where
 bel:Below w.heap.size w wr
 rv:RowB wr w.heap.size 25 (vL v)
 rb:RowB wr (w.heap.size+1) 28 [u1,u2]
 rr:RowB wr (w.heap.size+2) 30 [.int .i64 x,.int .i64 y]
theorem B3r.below {w wr w':World} {v:Vr} {u1 u2:Value} {x y:Int} (k:B3r w wr v u1 u2 x y) (hb:Below wr.heap.size wr w'):B3r w w' v u1 u2 x y :=
 ⟨k.bel.trans (hb.mono k.bel.size),k.rv.below hb k.rv.lt,k.rb.below hb k.rb.lt,k.rr.below hb k.rr.lt⟩
theorem ord_len (x y:Int):∀ o ∈ ordP x y,o.length<=4:=by
 intro o a;unfold ordP at a;split at a
 ·simp only [List.mem_singleton] at a;rw [a];simp
 ·simp only [List.mem_cons,List.not_mem_nil,or_false] at a;rcases a with rfl | rfl <;> simp
structure F4 (w wr:World) (v:Vr) (us:List Value) (x y:Int):Prop where
 bel:Below w.heap.size w wr
 rv:RowB wr w.heap.size 25 (vL v)
 rb:RowB wr (w.heap.size+1) 28 us
 rd:RowB wr (w.heap.size+2) 30 [.int .i64 x,.int .i64 y]
 rr:RowB wr (w.heap.size+3) 28 [.slice none 0 0,.slice none 0 0]
theorem F4.below {w wr w':World} {v:Vr} {us:List Value} {x y:Int} (k:F4 w wr v us x y) (hb:Below wr.heap.size wr w'):F4 w w' v us x y :=
 ⟨k.bel.trans (hb.mono k.bel.size),k.rv.below hb k.rv.lt,k.rb.below hb k.rb.lt,k.rd.below hb k.rd.lt,k.rr.below hb k.rr.lt⟩
open Bd19 Bd20
theorem play_i (v:Vr) (b:Bd) (hb:Ok v b) (S:Nat->Prop) (u1 u2:Value) (x y:Int) (hr:rollB v x y=true) (ss:List Stp) (As:Option Addr) (cp BS:Nat) (w:World) (hBS:BS<=w.heap.size) (hR:BdR w S u1 u2 b) (hs:RdS w BS 4 enSt As ss) :
  Calls Tryz.prog 44 #[.agg #[.int .i64 v.p,.int .i64 v.c,.int .i64 v.h,.int .i64 v.s],.agg #[u1,u2],.agg #[.int .i64 x,.int .i64 y],.slice As ss.length cp] w λ e w'=>Ret RelBB (playP v b x y ss) (λ _=>False) w e w':=by
 have ab:(1<=x∧x<=v.s)∧1<=y∧y<=x:=by unfold rollB at hr;simpa only [Bool.and_eq_true,decide_eq_true_eq] using hr
 have aW:=hb.v1.2.2.2.2;have aa:1<=x∧x<=6:=⟨ab.1.1,by omega⟩;have Z:1<=y∧y<=6:=⟨ab.2.1,by omega⟩;have CF:=kD (λ(ds:List Int) (hd:ds.length<=4) (uo:Value) (V:World) (h9:Below w.heap.size w V) (ho:SlV 1 enI V All uo ds)=>follow_i v b hb S u1 u2 ds hd uo ss As cp BS V (Nat.le_trans hBS h9.size) (hR.keep (.below h9)) ho (hs.below h9 hBS));obtain⟨⟨A1,c1,rfl,r1,k1⟩,⟨A2,c2,rfl,r2,k2⟩⟩:=hR;have CQ:=kD (λ(V:World) (h9:Below w.heap.size w V)=>seqs_i v b hb A1 A2 c1 c2 x y aa Z V (r1.keep (.below h9)).rd (r2.keep (.below h9)).rd k1 k2);obtain⟨n1,C⟩:∃ n,b.1.length=n:=⟨_,rfl⟩;obtain⟨n2,ac⟩:∃ n,b.2.length=n:=⟨_,rfl⟩;rw [C,ac] at CF CQ;rw [C,ac];obtain⟨N,hN⟩:∃ n,ss.length=n:=⟨_,rfl⟩;rw [hN] at CF;rw [hN];have an:=ord_dice aa Z;have ao:(∀ R ∈ sqM v b (ordP x y),1<=R.length∧R.length<=5):=by
  intro R hR;obtain⟨o,ho,rfl⟩:=List.mem_map.1 hR;exact(rowsP_ok hb (λ d hd=>((an.1 o ho).1 d hd).1) (an.1 o ho).2).2
 obtain⟨R,al⟩:∃ r,playP v b x y ss=r:=⟨_,rfl⟩;have hP:R=if ss.length=usedR (sqM v b (ordP x y)) 0 then playGo v b ss (usedR (sqM v b (ordP x y)) 0) (ordP x y) (sqM v b (ordP x y)) else none:=by rw [<-al,<-playI_eq (by have:=hb.v1;omega)];rfl
 rw [al];rw [hN] at hP;have ap:∀(k:Nat) o,(ordP x y)[k]?=some o->∃ Q,(sqM v b (ordP x y))[k]?=some Q:=λ k o h=>⟨_,by unfold sqM;rw [List.getElem?_map,h];rfl⟩
 have E:(sqM v b (ordP x y)).length=(ordP x y).length:=by unfold sqM;rw [List.length_map]
 obtain⟨T,W⟩:∃ l,sqM v b (ordP x y)=l:=⟨_,rfl⟩;obtain⟨a4,aL⟩:∃ f,sqF v b (ordP x y)=f:=⟨_,rfl⟩;rw [W] at hP ao CQ ap E;rw [aL] at CQ;have HP:=kD hP;have aU:=kD ao;have aV:=kD ap;have X:=kD E;have aT:=kD (ord_len x y);clear hP al hN C ac r1 r2 hs hb aW hr ab an ao W aL aa Z ap E;go_enter Tryz.func44,Tryz.ntmps44;go_upto_region 1 with fail;refine wp_gen (λ g=>F4 w g v [.slice A1 n1 c1,.slice A2 n2 c2] x y) ⟨by go_grown,(((RowB.new _ _ _).alloc _).alloc _).alloc _,((RowB.new' _ _ _ (by simp)).alloc _).alloc _,(RowB.new' _ _ _ (by simp)).alloc _,RowB.new' _ _ _ (by simp)⟩ ?_;intro w1 K;obtain⟨q0,q1,q2,q3⟩:=K.rv.c4;obtain⟨y0,y1⟩:=K.rb.c2;obtain⟨d0,d1⟩:=K.rd.c2;go_wp2_with fail;refine(CQ.out _ K.bel).mono ?_;rintro e w2 ⟨av,rfl,B,hb⟩;have K:=K.below hb;obtain⟨L,hL⟩:∃ L,T.length=L:=⟨_,rfl⟩;obtain⟨Aa,ca,aO,-⟩:=Bd19.OwnG.form en1_len B;rw [hL] at aO;subst aO;have HA:=kD (B.sl en1_len (Nat.le_refl _));have aS:=kD hL;clear q0 q1 q2 q3 y0 y1 d0 d1 hb CQ B hL;have CU:=kD (used_i T _ _ w2 HA.out (λ R hR=>⟨(aU.out R hR).1,by have:=(aU.out R hR).2;omega⟩));obtain⟨un,aC⟩:∃ n,usedR T 0=n:=⟨_,rfl⟩;rw [aC] at CU HP;clear aC;go_wp2_with fail;refine CU.out.mono ?_;rintro e w3 ⟨rfl,rfl⟩;obtain⟨z,t⟩:=K.rr.c2;have ae:=K.rr.lt;have aq:=K.rr.frozen;by_cases hNu:N=un
 rotate_left
 ·have m:R=none:=by rw [HP.out,if_neg hNu]
  subst m;have aY:((N:Int) != (un:Int))=true:=by simpa using (λ h:(N:Int)=un=>hNu (by omega))
  clear HP;go_wp2_with fail;refine bp_gen (λ g=>Below w.heap.size w g∧RowB g (w.heap.size+3) 28 [.slice none 0 0,.slice none 0 0]) ⟨below_two (K.bel) (by omega) _ _,two_ (K.rr) _ _⟩ ?_;rintro w8 ⟨j,Y⟩;obtain⟨z,t⟩:=Y.c2;refine bodyPost_ret (v:=.tuple #[.agg #[.slice none 0 0,.slice none 0 0],.bool false]) (by simp [results,Tryz.results44,go_sem,z,t]) rfl ?_;exact⟨_,rfl,⟨_,_,([],[]),rfl,BdR.nil _ _,(λ _ h=>by cases h)⟩,j⟩
 subst hNu;have HQ:Hid (R=playGo v b ss N (ordP x y) T):=by show _=_;rw [HP.out,if_pos rfl]
 have aY:((N:Int) != (N:Int))=false:=by simp
 clear HP z t ae aq;obtain⟨d0,d1⟩:=K.rd.c2;have CO:=kD (λ(V:World)=>orders_i x y V);go_wp2_with fail;refine(CO.out _).mono ?_;rintro e w4 ⟨vv,rfl,B,hb⟩;have K:=K.below hb;have HA:=kD ((relSl RelR 1 en1).keep HA.out (.below hb));clear d0 d1 hb CO;obtain⟨Aq,cq,rs,rfl,aG,ad,-⟩:=B;obtain⟨M,hM⟩:∃ M,(ordP x y).length=M:=⟨_,rfl⟩;rw [hM] at X;rw [hM];obtain⟨OS,aP⟩:∃ l,ordP x y=l:=⟨_,rfl⟩;rw [aP] at ad HQ aV aT hM;have az:=kD ad;have aQ:=kD aG;have ay:=kD hM;have bd:M<=9223372036854775807:=by have:=aQ.out.len;have:=az.out.1;have:=ay.out;omega
 have aR:Hid (L=M):=by show _=_;rw [<-aS.out];exact X.out
 clear aG ad aP hM;go_wp2_with fail;go_loopw [34] (λ i wr=>∃ k:Nat,k<=M∧i=.int .i64 (k:Int)∧Below w4.heap.size w4 wr∧F4 w wr v [.slice A1 n1 c1,.slice A2 n2 c2] x y∧Hid (R=playGo v b ss N (OS.drop k) (T.drop k))) (λ i _=>M - (intOf i).toNat)
 case atStart=>exact⟨0,Nat.zero_le _,by first | rfl | trivial,Below.refl _ _,K,HQ⟩
 case round =>
  obtain⟨k,hk,rfl,a,K,G⟩:=hrel;by_cases hlt:k<M
  ·obtain⟨ob,oo,r,rfl,-,a8,aF,hc⟩:=(aQ.out.keep (.below a)).at_ (i:=k) (by rw [az.out.1,ay.out];exact hlt);obtain⟨o,H,a0⟩:=(az.out.keep (.below a)).at_ aF;have ak:=hc 0 r rfl;simp only [Nat.mul_one,Nat.add_zero] at ak;have ax:=kD (drop_at H);have aI:=aT.out o (List.mem_of_getElem? H);obtain⟨Ao,co,rfl,aE,aK⟩:=a0;have aB:=kD (CF.out o aI (.slice Ao o.length co) wr K.bel ⟨Ao,co,rfl,aE.weak (λ _ _ _=>trivial),aK⟩);obtain⟨lo,aJ⟩:∃ n,o.length=n:=⟨_,rfl⟩;rw [aJ] at aB ak;obtain⟨Q,hQ⟩:=aV.out k o H;have aw:=kD (drop_at hQ);obtain⟨a2,a1,a6,aM,aH,ag,-⟩:=(relSl RelR 1 en1).keep HA.out (.below a);obtain⟨rfl,-,rfl⟩:Aa=a2∧L=T.length∧ca=a1:=by simpa only [Value.slice.injEq] using aM
   obtain⟨vb,vo,rq,rfl,-,a7,aD,aN⟩:=aH.at_ (i:=k) (by rw [ag.1,aS.out,aR.out];exact hlt);obtain⟨Q',am,aZ⟩:=ag.at_ aD;obtain rfl:Q=Q':=by rw [hQ] at am;simpa using am
   obtain⟨Ar,cr,a5,rfl,-,-,-⟩:=aZ;have aj:=aN 0 _ rfl;simp only [Nat.mul_one,Nat.add_zero] at aj;obtain⟨lq,af⟩:∃ n,Q.length=n:=⟨_,rfl⟩;rw [af] at aj;have aA:=kD af;have bb:k<M:=hlt;have bc:k<L:=by rw [aR.out];exact hlt
   obtain⟨q0,q1,q2,q3⟩:=K.rv.c4;obtain⟨y0,y1⟩:=K.rb.c2;have ba:IntKind.i64.wrap ((k:Int)+1)=(k:Int)+1:=IntWalk.i64_in _ (by omega);clear hc aF H aE aK aI aJ hQ aM aH ag aD aN am af;by_cases hsh:lq<=N
   ·have ar:Hid (R=playGo v b ss N (OS.drop (k+1)) (T.drop (k+1))):=by
     show _=_
     rw [G.out,ax.out,aw.out];simp only [playGo];rw [if_pos (by rw [aA.out];exact hsh)]
    have aX:decide (lq<=N)=true:=decide_eq_true hsh;go_wp2_with fail;go_roundw
    case rel=>exact⟨k+1,by omega,by go_num,a,K,ar⟩
    case measure=>simp [intOf];omega
   have aX:decide (lq<=N)=false:=decide_eq_false hsh;have P:Hid (∀ c,followP v b o ss=some c->R=some c):=by
    intro c hc;rw [G.out,ax.out,aw.out];simp only [playGo];rw [if_neg (by rw [aA.out];exact hsh),hc]
   have F:Hid (followP v b o ss=none->R=if N=1 then none else playGo v b ss N (OS.drop (k+1)) (T.drop (k+1))):=by
    intro hc;rw [G.out,ax.out,aw.out];simp only [playGo];rw [if_neg (by rw [aA.out];exact hsh),hc]
   clear G;go_wp2_with fail;refine aB.out.mono ?_;rintro e w5 ⟨v6,rfl,⟨u3,u4,J,rfl,I,A⟩,D⟩;have a3:w.heap.size+4<=wr.heap.size:=by have:=K.rr.lt;omega
   have K:=K.below D;have a:=a.trans (D.mono a.size);obtain⟨O,hO⟩:∃ o',followP v b o ss=o':=⟨_,rfl⟩;rw [hO] at A P F ⊢;obtain⟨⟨A5,c5,rfl,p5,k5⟩,⟨A6,c6,rfl,p6,k6⟩⟩:=I;have I:BdR w5 (λ b=>w.heap.size+4<=b) (.slice A5 J.1.length c5) (.slice A6 J.2.length c6) J:=⟨⟨A5,c5,rfl,p5.weak (λ b hb _=>hb.elim False.elim (λ h=>by omega)),k5⟩,⟨A6,c6,rfl,p6.weak (λ b hb _=>hb.elim False.elim (λ h=>by omega)),k6⟩⟩;have q:=kD I;obtain⟨l5,ai⟩:∃ n,J.1.length=n:=⟨_,rfl⟩;obtain⟨l6,ah⟩:∃ n,J.2.length=n:=⟨_,rfl⟩;rw [ai,ah] at q;rw [ai,ah];clear q0 q1 q2 q3 y0 y1 I p5 p6 ai ah hO ak aj aB D;go_upto_region 10 with fail;refine wp_gen (λ g=>Below w5.heap.size w5 g∧F4 w g v [.slice A1 n1 c1,.slice A2 n2 c2] x y∧RowB g w5.heap.size 28 [.slice A5 l5 c5,.slice A6 l6 c6]∧Hid (BdR g (λ b=>w.heap.size+4<=b) (.slice A5 l5 c5) (.slice A6 l6 c6) J)) ⟨(Below.refl _ _).alloc (Nat.le_refl _) _,K.below ((Below.refl _ _).alloc (Nat.le_refl _) _),RowB.new _ _ _,kD (q.out.keep (.below ((Below.refl _ _).alloc (Nat.le_refl _) _)))⟩ ?_;clear K q;rintro w6 ⟨D,K,rx,q⟩;have a:=a.trans (D.mono a.size);obtain⟨x0,x1⟩:=rx.c2;have a9:=rx.lt;obtain⟨z,t⟩:=K.rr.c2;have ae:=K.rr.lt;have aq:=K.rr.frozen
   cases O with
   | some c =>
    obtain rfl:=A c rfl;have m:R=some J:=P.out _ rfl;subst m;go_wp2_with fail;refine bp_gen (λ g=>Below w.heap.size w g∧RowB g (w.heap.size+3) 28 [.slice A5 l5 c5,.slice A6 l6 c6]∧Hid (BdR g (λ b=>(λ _=>False) b∨w.heap.size<=b) (.slice A5 l5 c5) (.slice A6 l6 c6) J)) ⟨below_two K.bel (by omega) _ _,two_ K.rr _ _,kD ⟨?_,?_⟩⟩ ?_
    ·exact(relV 1 enI).weak (sl_two' q.out.1 (by omega) _ _) (λ b hb _=>.inr (by omega))
    ·exact(relV 1 enI).weak (sl_two' q.out.2 (by omega) _ _) (λ b hb _=>.inr (by omega))
    rintro w8 ⟨j,Y,h8⟩;obtain⟨z,t⟩:=Y.c2;refine bodyPost_ret (v:=.tuple #[.agg #[.slice A5 l5 c5,.slice A6 l6 c6],.bool true]) (by simp [results,Tryz.results44,go_sem,z,t]) rfl ?_;exact⟨_,rfl,⟨_,_,J,rfl,h8.out,(λ b0 h=>by simpa using h)⟩,j⟩
   | none =>
    by_cases h1:N=1
    ·have m:R=none:=by rw [F.out rfl,if_pos h1]
     subst m;have C:((N:Int) == 1)=true:=by rw [h1];rfl
     clear h1 F P;go_wp2_with fail;refine bp_gen (λ g=>Below w.heap.size w g∧RowB g (w.heap.size+3) 28 [.slice none 0 0,.slice none 0 0]) ⟨below_two (K.bel) (by omega) _ _,two_ (K.rr) _ _⟩ ?_;rintro w8 ⟨j,Y⟩;obtain⟨z,t⟩:=Y.c2;refine bodyPost_ret (v:=.tuple #[.agg #[.slice none 0 0,.slice none 0 0],.bool false]) (by simp [results,Tryz.results44,go_sem,z,t]) rfl ?_;exact⟨_,rfl,⟨_,_,([],[]),rfl,BdR.nil _ _,(λ _ h=>by cases h)⟩,j⟩
    ·have ar:Hid (R=playGo v b ss N (OS.drop (k+1)) (T.drop (k+1))):=by show _=_;rw [F.out rfl,if_neg h1]
     have C:((N:Int) == 1)=false:=by simpa using (λ h:(N:Int)=1=>h1 (by omega))
     clear h1 F P;go_wp2_with fail;go_roundw
     case rel=>exact⟨k+1,by omega,by go_num,a,K,ar⟩
     case measure=>simp [intOf];omega
  ·obtain rfl:M=k:=by omega
   have m:R=none:=by
    rw [G.out,show OS.drop M=[] from List.drop_eq_nil_of_le (by rw [ay.out];exact Nat.le_refl _)];rfl
   subst m;obtain⟨z,t⟩:=K.rr.c2;have ae:=K.rr.lt;have aq:=K.rr.frozen;go_wp2_with fail;refine bp_gen (λ g=>Below w.heap.size w g∧RowB g (w.heap.size+3) 28 [.slice none 0 0,.slice none 0 0]) ⟨below_two (K.bel) (by omega) _ _,two_ (K.rr) _ _⟩ ?_;rintro w8 ⟨j,Y⟩;obtain⟨z,t⟩:=Y.c2;refine bodyPost_ret (v:=.tuple #[.agg #[.slice none 0 0,.slice none 0 0],.bool false]) (by simp [results,Tryz.results44,go_sem,z,t]) rfl ?_;exact⟨_,rfl,⟨_,_,([],[]),rfl,BdR.nil _ _,(λ _ h=>by cases h)⟩,j⟩
theorem full_s (w:World):Calls Tryz.prog 158 #[] w λ e w'=>e=.returned (.agg #[.int .i64 24,.int .i64 15,.int .i64 6,.int .i64 6])∧Below w.heap.size w w':=by
 go_enter Tryz.func158,Tryz.ntmps158;go_wp2;go_returns;exact⟨rfl,by go_grown⟩
def fullB (v:Vr):Bool:=decide (v.p=24) && decide (v.c=15) && decide (v.h=6) && decide (v.s=6)
theorem eq_full (v:Vr) (w:World):(binOp .eql 25 (.agg #[.int .i64 v.p,.int .i64 v.c,.int .i64 v.h,.int .i64 v.s]) (.agg #[.int .i64 24,.int .i64 15,.int .i64 6,.int .i64 6])).run Tryz.prog w=.ok (.bool (fullB v)) w:=by
 unfold fullB;by_cases h1:v.p=24 <;> by_cases h2:v.c=15 <;> by_cases h3:v.h=6 <;> by_cases h4:v.s=6 <;> go_simp <;> simp [h1,h2,h3,h4]
theorem flatI_rep (n:Nat):(List.replicate n (0:Int)).flatMap enI=List.replicate n (Value.int .i64 0):=by
 induction n with
 | zero=>rfl
 | succ n ih=>rw [List.replicate_succ,List.flatMap_cons,ih];rfl
theorem empty_s (v:Vr) (hv:okV v=true) (w:World):Calls Tryz.prog 157 #[.agg #[.int .i64 v.p,.int .i64 v.c,.int .i64 v.h,.int .i64 v.s]] w λ e w'=>(∃(g n:Nat),(n:Int)=v.p+1∧e=.returned (.slice (some ⟨g,0,none⟩) n n)∧w.heap.size<=g∧RowI w' g (List.replicate n 0) [])∧Below w.heap.size w w':=by
 have x:=okV_iff.1 hv;obtain⟨r,m,k,j,i⟩:=info_parts Ints.info;obtain⟨n,l⟩:∃ n:Nat,(n:Int)=v.p+1:=⟨(v.p+1).toNat,by omega⟩;have t:IntKind.i64.wrap (v.p+1)=(n:Int):=by rw [IntWalk.i64_in _ (by omega)];exact l.symm
 have y:n<=25:=by omega
 have z:=kD l;clear l x hv;go_enter Tryz.func157,Tryz.ntmps157;go_wp2_with (at_make;refine wpList_make_full _ rfl _ _ _ rfl (w.heap.size+1) 2 r (.int .i64 0) 1 Tryz.underlying26 m k j _ _ _ _ n rfl rfl rfl rfl ?c1 ?c2 (by go_size) ?_)
 case c1=>rw [i];omega
 case c2=>unfold maxLen;omega
 intro q b a;have d:Below w.heap.size w (w.alloc (.cells #[.int .i64 v.p,.int .i64 v.c,.int .i64 v.h,.int .i64 v.s] 25)):=by go_grown
 have o:Below w.heap.size w q:=d.grown a d.size (by simp);have f:RowI q (w.heap.size+1) (List.replicate n 0) []:=by
  have:=RowB.of_own b;unfold RowI
  simpa [made_rep,flatI_rep] using this
 clear b a d;go_wp2_with fail;go_ret;exact⟨⟨w.heap.size+1,n,z.out,rfl,by omega,f⟩,o⟩
structure Sg (w wr:World) (v:Vr) (g:Nat) (l:List Int):Prop where
 bel:Below w.heap.size w wr
 rv:RowB wr w.heap.size 25 (vL v)
 rl:RowI wr g l []
theorem Sg.below {w wr w':World} {v:Vr} {g:Nat} {l:List Int} (k:Sg w wr v g l) (hb:Below wr.heap.size wr w'):Sg w w' v g l :=
 ⟨k.bel.trans (hb.mono k.bel.size),k.rv.below hb k.rv.lt,k.rl.below hb k.rl.lt⟩
theorem Sg.put {w wr:World} {v:Vr} {g:Nat} {l:List Int} (k:Sg w wr v g l) (hg:w.heap.size<g) {i:Nat} (hi:i<l.length) (x:Int):Sg w (wr.setCell ⟨g,i,none⟩ (.int .i64 x)) v g (l.set i x) :=
 ⟨k.bel.setCell (p:=⟨g,i,none⟩) (by show w.heap.size<=g;omega) _,k.rv.other (p:=⟨g,i,none⟩) (by show w.heap.size≠g;omega) _,k.rl.put hi x⟩
theorem start_s (v:Vr) (hv:okV v=true) (h4:4<=v.p) (w:World):Calls Tryz.prog 134 #[.agg #[.int .i64 v.p,.int .i64 v.c,.int .i64 v.h,.int .i64 v.s]] w λ e w'=>(∃ sv,e=.returned sv∧OwnS w' w.heap.size w'.heap.size 2 1 enI sv (startL v))∧Below w.heap.size w w':=by
 have r:=okV_iff.1 hv;have CE:=kD (λ l=>empty_s v hv l);have CF:=kD (λ l=>full_s l);obtain⟨q,W⟩:∃ q,fullB v=q:=⟨_,rfl⟩;have qE:∀ w:World,(binOp .eql 25 (.agg #[.int .i64 v.p,.int .i64 v.c,.int .i64 v.h,.int .i64 v.s]) (.agg #[.int .i64 24,.int .i64 15,.int .i64 6,.int .i64 6])).run Tryz.prog w=.ok (.bool q) w:=λ w=>by rw [eq_full,W]
 have HQ:=kD W;clear W hv;go_enter Tryz.func134,Tryz.ntmps134;go_upto_region 1 with fail;refine wp_gen (λ W'=>Below w.heap.size w W'∧RowB W' w.heap.size 25 (vL v)) ⟨by go_grown,RowB.new _ _ _⟩ ?_;rintro w1 ⟨C,S⟩;obtain⟨I,H,G,E⟩:=S.c4;have f:=S.lt;go_wp2_with fail;refine(CE.out _).mono ?_;rintro e V ⟨⟨g,n,hn,rfl,hg,m⟩,B⟩;have K:Sg w V v g (List.replicate n 0):=⟨C.trans (B.mono C.size),S.below B f,m⟩;have b:w.heap.size<g:=by omega
 clear C B S I H G E m hg f;obtain⟨I,H,G,E⟩:=K.rv.c4;have f:=K.rv.lt;have T:=kD hn;have ah:5<=n:=by omega
 have aa:n<=25:=by omega
 have hP:=kD r;clear hn r;go_wp2_with fail;have KB:=K;refine rG [some 6,some 7,some 8] 3 (Pl [some (.agg #[.int .i64 v.p,.int .i64 v.c,.int .i64 v.h,.int .i64 v.s]),some (.agg #[.int .i64 24,.int .i64 15,.int .i64 6,.int .i64 6]),some (.bool q)]) (λ L a w'=>Below V.heap.size V w') ?g0_1 ?gst_1 ?gfin_1
 case g0_1=>exact(Below.refl _ _).drew
 case gst_1 =>
  refine rN rfl (λ L a A l M N O U F K Q=>?_) ?_
  ·have e1:=U.w 1 (.pointer (some ⟨w.heap.size,0,none⟩));have KK:=KB.below F;obtain⟨I,H,G,E⟩:=KK.rv.c4;have ai:=KK.rv.lt;clear KK;go_simp;exact pF Q (F)
  refine rN rfl (λ L a A l M N O U F K Q=>?_) ?_
  ·go_simp;refine(CF.out l).mono ?_;rintro e w6 ⟨rfl,Y⟩;exact pF Q (F.trans (Y.mono F.size))
  refine rN rfl (λ L a A l M N O U F K Q=>?_) ?_
  ·have e6:=U.v 0 6;have e7:=U.v 1 7;go_simp;exact pF Q (F)
  exact RelFrom.nil (by decide)
 intro a l r F;simp only [Fr,Act.put,sX,Nat.reduceAdd];have J:a 2=.bool q:=r 2 (by decide) _ rfl;rw [J];have P:=F;have K:=KB.below P;obtain⟨w3,o⟩:∃ u,l=u:=⟨_,rfl⟩;rw [o] at K ⊢;clear I H G E f P F r J o KB qE CF CE
 cases q
 case true =>
  have x:v.p=24∧v.c=15∧v.h=6∧v.s=6:=by
   have:=HQ.out;unfold fullB at this;simp only [Bool.and_eq_true,decide_eq_true_eq] at this;exact⟨this.1.1.1,this.1.1.2,this.1.2,this.2⟩
  have d:n=25:=by have:=T.out;omega
  have HF:Hid (startL v=((((List.replicate n (0:Int)).set 5 5).set 7 3).set 12 5).set 23 2):=by
   show _=_
   unfold startL;rw [if_pos x,d]
  have g5:5<n:=by omega
  have g7:7<n:=by omega
  have ax:12<n:=by omega
  have aw:23<n:=by omega
  clear d x;have av:=K.rl.at_ (i:=5) (by simp only [List.length_set,List.length_replicate];omega);have ar:=K.rl.at_ (i:=7) (by simp only [List.length_set,List.length_replicate];omega);have ac:=K.rl.at_ (i:=12) (by simp only [List.length_set,List.length_replicate];omega);have ab:=K.rl.at_ (i:=23) (by simp only [List.length_set,List.length_replicate];omega);have Z:=RowB.frozen K.rl;have t:=RowB.lt K.rl;have R:=(((K.put b (i:=5) (by simp only [List.length_set,List.length_replicate];omega) 5).put b (i:=7) (by simp only [List.length_set,List.length_replicate];omega) 3).put b (i:=12) (by simp only [List.length_set,List.length_replicate];omega) 5).put b (i:=23) (by simp only [List.length_set,List.length_replicate];omega) 2;have k:=kD R;clear K R;go_wp2_with fail;go_ret;refine⟨⟨_,rfl,?_⟩,k.out.bel⟩;show OwnS _ w.heap.size _ 2 1 enI (.slice (some ⟨g,0,none⟩) n n) _
  rw [HF.out];have X:=RowI.own k.out.rl (lo:=w.heap.size) (hi:=w3.heap.size) (by omega) t rfl (by simp only [List.length_set,List.length_replicate,List.length_nil];unfold maxLen;omega)
  simpa only [List.length_set,List.length_replicate,List.length_nil,Nat.add_zero] using X.more (by simp)
 case false =>
  obtain⟨I,H,G,E⟩:=K.rv.c4;have f:=K.rv.lt;have Z:=RowB.frozen K.rl;have t:=RowB.lt K.rl;have r:=hP.out;obtain⟨i,hi⟩:∃ i:Nat,(i:Int)=v.p - 1:=⟨(v.p - 1).toNat,by omega⟩;obtain⟨j,hj⟩:∃ j:Nat,(j:Int)=v.p / 2 - 1:=⟨(v.p / 2 - 1).toNat,by omega⟩;have ag:IntKind.i64.wrap (v.p - 1)=(i:Int):=by rw [IntWalk.i64_in _ (by omega)];exact hi.symm
  have al:i<n:=by have:=T.out;omega
  have aj:j<n:=by have:=T.out;omega
  have am:¬ i=j:=by omega
  have ak:¬ j=i:=by omega
  have aq:=K.rl.at_ (i:=i) (by simp only [List.length_set,List.length_replicate];omega);have ap:=K.rl.at_ (i:=j) (by simp only [List.length_set,List.length_replicate];omega);obtain⟨D,z⟩:∃ c:Int,v.c / 2=c:=⟨_,rfl⟩;obtain⟨dd,y⟩:∃ c:Int,v.c - D=c:=⟨_,rfl⟩;have ao:Int.tdiv v.p 2=(j:Int)+1:=by rw [Int.tdiv_eq_ediv_of_nonneg (by omega)];omega
  have af:IntKind.i64.wrap ((j:Int)+1)=(j:Int)+1:=IntWalk.i64_in _ (by omega);have o:IntKind.i64.wrap ((j:Int)+1 - 1)=(j:Int):=by rw [IntWalk.i64_in _ (by omega)];omega
  have an:Int.tdiv v.c 2=D:=by rw [Int.tdiv_eq_ediv_of_nonneg (by omega)];exact z
  have ae:IntKind.i64.wrap D=D:=IntWalk.i64_in _ (by omega);have ad:IntKind.i64.wrap (v.c - D)=dd:=by rw [IntWalk.i64_in _ (by omega)];exact y
  have HF:Hid (startL v=((List.replicate n (0:Int)).set i D).set j dd):=by
   show _=_
   unfold startL;rw [if_neg (λ x=>by have:=HQ.out;unfold fullB at this;simp [x.1,x.2.1,x.2.2.1,x.2.2.2] at this)];rw [show (v.p+1).toNat=n from by have:=T.out;omega,show (v.p - 1).toNat=i from by omega,show (v.p / 2 - 1).toNat=j from by omega,<-y,<-z]
  have R:=(K.put b (i:=i) (by simp only [List.length_set,List.length_replicate];omega) D).put b (i:=j) (by simp only [List.length_set,List.length_replicate];omega) dd;have k:=kD R;clear hi hj r z y K R;go_wp2_with fail;go_ret;refine⟨⟨_,rfl,?_⟩,k.out.bel⟩;show OwnS _ w.heap.size _ 2 1 enI (.slice (some ⟨g,0,none⟩) n n) _
  rw [HF.out];have X:=RowI.own k.out.rl (lo:=w.heap.size) (hi:=w3.heap.size) (by omega) t rfl (by simp only [List.length_set,List.length_replicate,List.length_nil];unfold maxLen;omega)
  simpa only [List.length_set,List.length_replicate,List.length_nil,Nat.add_zero] using X.more (by simp)
end Gm
namespace HdA
open Go Go.ChangeShapes Go.WideShapes Go.ChangeAt Go.RowKit Base Ints Own Clone RelG PlP Gm Bd1 Bd2 Bd5 Bd6 Bd7 Bd8 RegInv RegF RegG Draw DrawD DwP DwQ DwA HdP
structure Sw (w0 w:World) (B g:Nat) (A:Option Addr) (cp:Nat) (xs:List Int) (st:Nat × Int) (v:Vr) (q:Nat) (At:Option Addr) (tk l:List Int) (W:World):Prop where
 D:Dx w0 B g A cp xs st W
 gr:w.grownBy W (some g)
 rv:RowB W w.heap.size 25 (vL v)
 rl:RowI W q l []
 tk:RdF W (λ b=>b<w.heap.size∧b≠g) 1 enI At tk
 lo:g<w.heap.size∧w.heap.size<q
section
variable {w0 w W W':World} {B g cp:Nat} {A:Option Addr} {xs:List Int} {st st':Nat × Int} {v:Vr} {q:Nat} {At:Option Addr} {tk l:List Int}
theorem Sw.next (K:Sw w0 w B g A cp xs st v q At tk l W) (hD:Dx w0 B g A cp xs st' W') (hg:W.grownBy W' (some g)):Sw w0 w B g A cp xs st' v q At tk l W':=by
 have l:=K.lo;exact⟨hD,grownBy_trans K.gr hg,K.rv.grown hg (λ k a=>by simp at a;omega),RowB.grown K.rl hg (λ k a=>by simp at a;omega),K.tk.keep (Still.grown hg (λ k a b=>by simp at a;exact b.2 a.symm)),l⟩
theorem Sw.put (K:Sw w0 w B g A cp xs st v q At tk l W) {i:Nat} (hi:i<l.length) (x:Int):Sw w0 w B g A cp xs st v q At tk (l.set i x) (W.setCell ⟨q,i,none⟩ (.int .i64 x)):=by
 have l:=K.lo;have b:=K.D.base;have c:=Base.grownBy_setCell W q i (.int .i64 x);exact⟨K.D.grown c (λ k a=>by simp at a;omega) (λ k a=>by simp at a;omega),grown_own K.gr c (λ k a=>by simp at a;omega),K.rv.grown c (λ k a=>by simp at a;omega),K.rl.put hi x,K.tk.keep (Still.grown c (λ k a d=>by simp at a;have:=d.1;omega)),l⟩
end
def Sb (n:Nat) (m:Int) (l:List Int):Prop:=l.length=n∧∀ i,0<=at_ l i∧at_ l i<=m
theorem Sb.inc {n:Nat} {m:Int} {l:List Int} (h:Sb n m l) {i:Nat} (hi:i<n):Sb n (m+1) (inc l i 1):=by
 refine⟨by rw [inc_len];exact h.1,λ j=>?_⟩;rw [inc_at _ _ _ _ (by rw [h.1];exact hi)];have b:=h.2 i;have a:=h.2 j;split <;> omega
theorem Sb.more {n:Nat} {m m':Int} {l:List Int} (h:Sb n m l) (hm:m<=m'):Sb n m' l:=⟨h.1,λ i=>by have:=h.2 i;omega⟩
section
variable {w0 w:World} {B g cp:Nat} {A:Option Addr} {xs:List Int} {st:Nat × Int}
theorem sd02_x (v:Vr) (hv:okV v=true) (n:Nat) (hn:(n:Int)=v.p+1) (tk:List Int) (htk:Sb n 1000 tk) (At:Option Addr) (ct:Nat) (ht:RdF w (λ b=>b≠g) 1 enI At tk) (h:Dx w0 B g A cp xs st w) :
  Calls Tryz.prog 172 #[.pointer (some ⟨g,0,none⟩),.agg #[.int .i64 v.p,.int .i64 v.c,.int .i64 v.h,.int .i64 v.s],.slice At n ct] w λ e w'=>∃(q:Nat) (l:List Int) (st':St),e=.returned (.slice (some ⟨q,0,none⟩) n n)∧sd02 xs v tk st=(l,st')∧(RowI w' q l []∧w.heap.size<q∧Sb n v.c l)∧Dx w0 B g A cp xs st' w'∧w.grownBy w' (some g):=by
 have ag:=okV_iff.1 hv;have CE:=kD (λ(w9:World)=>empty_s v hv w9);have am:=kD htk;have HT:=kD (ht.weak (S':=λ b=>b<w.heap.size∧b≠g) (λ b Y hl=>⟨hl,Y⟩));have W:=h.lt;obtain⟨P,hP⟩:∃ P:Nat,v.p=(P:Int):=⟨v.p.toNat,by omega⟩;obtain⟨C,hC⟩:∃ C:Nat,v.c=(C:Int):=⟨v.c.toNat,by omega⟩;have ac:n=P+1:=by omega
 have S:=kD hP;have HC:=kD hC;have HH:=kD h;have aF:2<=P∧P<=24:=by omega
 have aG:1<=C∧C<=15:=by omega
 have HZ:Hid (zr v=List.replicate n 0):=kD (by unfold zr;rw [hP,Int.toNat_natCast,ac]);rw [hP,hC] at CE ⊢;subst ac;clear hv htk ht h ag hP hC hn;go_enter Tryz.func172,Tryz.ntmps172;go_upto_region 1 with fail;refine wp_gen (λ W'=>Below w.heap.size w W'∧RowB W' w.heap.size 25 [.int .i64 (P:Int),.int .i64 (C:Int),.int .i64 v.h,.int .i64 v.s]) ⟨by go_grown,RowB.new _ _ _⟩ ?_;rintro w1 ⟨r,RV⟩;obtain⟨q0,q1,q2,q3⟩:=RV.c4;have o:=RV.lt;go_wp2_with fail;refine(CE.out w1).mono ?_;rintro e w2 ⟨⟨q,n',ai,rfl,hq,V⟩,Y⟩;have ah:n'=P+1:=by have:=S.out;omega
 subst ah;have L:=kD (show Sw w0 w B g A cp xs st v q At tk (List.replicate (P+1) 0) w2 from⟨(HH.out.below r W).below Y (Nat.lt_of_lt_of_le W r.size),grown_bel (r.trans (Y.mono r.size)),by unfold vL;rw [S.out,HC.out];exact RV.below Y RV.lt,V,(HT.out.keep (.below r)).keep (.below Y),W,by omega⟩);clear Y r RV q0 q1 q2 q3 o V ai CE HH HT hq;have K:=L.out;have f:=K.rv;unfold vL at f;rw [S.out,HC.out] at f;obtain⟨q0,q1,q2,q3⟩:=f.c4;have o:=f.lt;clear L;go_wp2_with fail;refine(nextX K.D (P:Int) (by omega)).mono ?_;rintro e w3 ⟨a,s1,⟨rfl,a0,a1,-,N⟩,F,E,-⟩;have a1:=a1 (by omega);have K:=K.next F E;have ab:IntKind.i64.wrap (1+a)=1+a:=IntWalk.i64_in _ (by omega);have f:=K.rv;unfold vL at f;rw [S.out,HC.out] at f;clear F E q0 q1 q2 q3 o;obtain⟨q0,q1,q2,q3⟩:=f.c4;have o:=f.lt;have ad:IntKind.i64.wrap ((C:Int)+1)=(C:Int)+1:=IntWalk.i64_in _ (by omega);go_wp2_with fail;refine(nextX K.D ((C:Int)+1) (by omega)).mono ?_;rintro e w4 ⟨z,s2,⟨rfl,z0,z1,-,nz⟩,F,E,-⟩;have z1:=z1 (by omega);obtain⟨kk,rfl⟩:∃ k:Nat,z=k:=⟨z.toNat,by omega⟩;have aj:kk<=C:=by omega
 have L:=kD (K.next F E);obtain⟨R,hR⟩:∃ R,sdGo xs v tk (1+a) kk (zr v) s2=R:=⟨_,rfl⟩;have Z:=kD (sd02_of (by rw [S.out];exact N) (by rw [HC.out];exact nz) hR);have H:Hid (SdGo xs v tk (1+a) kk (List.replicate (P+1) 0) s2 R):=kD (by rw [<-HZ.out];exact hR);have an:Hid (Sb (P+1) ((C:Int) - (kk:Int)) (List.replicate (P+1) 0)):=kD ⟨List.length_replicate ..,λ i=>by
  have h0:at_ (List.replicate (P+1) (0:Int)) i=0:=at_rep _ _;rw [h0];omega⟩
 have O:1<=1+a∧1+a<=P:=by omega
 obtain⟨wd,aa⟩:∃ z,1+a=z:=⟨_,rfl⟩;rw [aa] at O H ab ⊢;clear F E K N nz hR z0 z1 q0 q1 q2 q3 o a0 a1 ad f ab;go_wp2_with fail;go_loopw [9,10] (λ s9 _ wr=>∃(j:Nat) (l:List Int) (M:St),s9=.int .i64 (j:Int)∧j<=C∧Hid (Sw w0 w B g A cp xs M v q At tk l wr)∧Hid (Sb (P+1) ((C:Int) - (j:Int)) l)∧Hid (SdGo xs v tk wd j l M R)) (λ s9 _ _=>(intOf s9).toNat)
 case atStart=>exact⟨kk,_,_,by first | rfl | trivial,aj,L,an,H⟩
 case round =>
  obtain⟨j,l,M,rfl,av,L,d,H⟩:=hrel;have K:=L.out;by_cases j0:0<j
  ·obtain⟨j,rfl⟩:∃ i,j=i+1:=⟨j - 1,by omega⟩;have ar:IntKind.i64.wrap (((j+1:Nat):Int) - 1)=(j:Int):=by rw [IntWalk.i64_in _ (by omega)];omega
   go_wp2_with fail;refine(nextX K.D wd (by omega)).mono ?_;rintro e w5 ⟨a,s5,⟨rfl,a0,a1,-,N⟩,F,E,-⟩;have a1:=a1 (by omega);have K:=K.next F E;clear F E;go_wp2_with fail;refine(nextX K.D 10 (by decide)).mono ?_;rintro e w6 ⟨b,s6,⟨rfl,b0,b1,-,nb⟩,F,E,-⟩;have K:=K.next F E;have f:=K.rv;unfold vL at f;rw [S.out,HC.out] at f;obtain⟨q0,q1,q2,q3⟩:=f.c4;have o:=f.lt;have m:=d.out.1;have aq:q<w6.heap.size:=K.rl.lt;have aw:=K.rl.frozen;clear F E;by_cases hb0:b=0
   ·subst hb0;have ak:w6.cell? ⟨q,P,none⟩=some (.int .i64 (at_ l P)):=RowI.at_ K.rl (by rw [m];omega);have X:=d.out.2 P;have ae:IntKind.i64.wrap (at_ l P+1)=at_ l P+1:=IntWalk.i64_in _ (by omega);have G:=kD (sd_yes (k:=P) H.out N nb rfl (by unfold sdI;rw [if_pos rfl];exact S.out.symm) (.inl (by unfold sdI;rw [if_pos rfl])));have J:=kD ((d.out.inc (show P<P+1 by omega)).more (m':=(C:Int) - (j:Int)) (by omega));have ap:((P:Int) == (P:Int))=true:=by simp
    have aE:(P:Int)<((P+1:Nat):Int):=by omega
    have I:=kD (show Sw w0 w B g A cp xs s6 v q At tk (inc l P 1) _ from K.put (i:=P) (by rw [m];omega) (at_ l P+1));clear K L H d N nb X f m;go_wp2_with fail;go_roundw
    case rel=>exact⟨j,_,s6,by first | rfl | go_num,by omega,I,J,G⟩
    case measure=>simp [intOf] <;> omega
   ·have eb:(b == 0)=false:=by simp [hb0]
    obtain⟨a,rfl⟩:∃ k:Nat,a=k:=⟨a.toNat,by omega⟩;have aA:a<P:=by omega
    have Q:sdI v (a:Int) b=(a:Int):=by unfold sdI;rw [if_neg hb0]
    have y:(v.p - 1 - (a:Int)).toNat=P - 1 - a:=by rw [S.out];omega
    have ay:((a:Int) == (P:Int))=false:=by simp;omega
    have ao:IntKind.i64.wrap ((P:Int) - 1)=(P:Int) - 1:=IntWalk.i64_in _ (by omega);have af:IntKind.i64.wrap ((P:Int) - 1 - (a:Int))=((P - 1 - a:Nat):Int):=by rw [IntWalk.i64_in _ (by omega)];omega
    obtain⟨bt,ot,x,rfl,aD,ax,hx,hc⟩:=K.tk.at_ (i:=P - 1 - a) (by rw [am.out.1];omega);have t:at_ tk (P - 1 - a)=x:=by unfold at_;rw [List.getD_eq_getElem?_getD,hx];rfl
    have al:w6.cell? ⟨bt,ot+(P - 1 - a),none⟩=some (.int .i64 x):=by have:=hc 0 _ rfl;rw [Nat.mul_one,Nat.add_zero] at this;exact this
    obtain⟨T,hT⟩:∃ T,P - 1 - a=T:=⟨_,rfl⟩;have aC:T<P+1:=by omega
    have aB:(T:Int)<((P+1:Nat):Int):=by omega
    rw [hT] at af al y t;have az:(a:Int)<((P+1:Nat):Int):=by omega
    by_cases hx0:x=0
    ·subst hx0;have ak:w6.cell? ⟨q,a,none⟩=some (.int .i64 (at_ l a)):=RowI.at_ K.rl (by rw [m];omega);have X:=d.out.2 a;have ae:IntKind.i64.wrap (at_ l a+1)=at_ l a+1:=IntWalk.i64_in _ (by omega);have G:=kD (sd_yes (k:=a) H.out N nb Q rfl (.inr (by rw [y];exact t)));have J:=kD ((d.out.inc (show a<P+1 by omega)).more (m':=(C:Int) - (j:Int)) (by omega));have I:=kD (show Sw w0 w B g A cp xs s6 v q _ tk (inc l a 1) _ from K.put (i:=a) (by rw [m];omega) (at_ l a+1));clear K L H d N nb X f m t hx hc y Q hT hb0;go_wp2_with fail;go_roundw
     case rel=>exact⟨j,_,s6,by first | rfl | go_num,by omega,I,J,G⟩
     case measure=>simp [intOf] <;> omega
    ·have ex:(x == 0)=false:=by simp [hx0]
     have G:=kD (sd_no H.out N nb Q (λ h=>h.elim (λ h=>by rw [S.out] at h;omega) (λ h=>hx0 (by rw [y] at h;exact t.symm.trans h))));have J:=kD (d.out.more (m':=(C:Int) - (j:Int)) (by omega));have I:=kD K;clear K L H d N nb f m t hx hc y Q hT hb0 hx0;go_wp2_with fail;go_roundw
     case rel=>exact⟨j,_,s6,by first | rfl | go_num,by omega,I,J,G⟩
     case measure=>simp [intOf] <;> omega
  ·obtain rfl:j=0:=by omega
   have hR:=sd_end H.out;subst hR;have Z:=kD Z.out;have d:=kD d.out;clear H L;go_wp2_with fail;go_ret;exact⟨q,l,M,rfl,Z.out,⟨K.rl,K.lo.2,(d.out.more (by omega))⟩,K.D,K.gr⟩
end
end HdA
namespace Bd31
open Go.ChangeShapes Go.WideShapes Go.ChangeAt Go.RowKit Base Ints Own Clone RelG PlP Bd1 Bd5 Bd8 Bd10 Bd11
def fdP:List Pl->Bd->Nat->Int
 | [],_,_=>-1
 | q :: l,b,i=>if q.2=b then (i:Int) else fdP l b (i+1)
theorem fd_skip {b:Bd}:∀(l m:List Pl) (i:Nat),hasB l b=false->fdP (l++m) b i=fdP m b (i+l.length):=by
 intro l
 induction l with
 | nil=>intro m i _;rfl
 | cons q l ih =>
  intro m i h;unfold hasB at h ih;simp only [List.any_cons,Bool.or_eq_false_iff,decide_eq_false_iff_not] at h;simp only [List.cons_append,fdP];rw [if_neg h.1,ih m (i+1) h.2,List.length_cons]
  congr 1;omega
theorem fd_at {out:List Pl} {b:Bd} {k:Nat} {q:Pl} (hq:out[k]?=some q) (hn:hasB (out.take k) b=false) (h:q.2=b):fdP out b 0=(k:Int):=by
 obtain⟨c,a⟩:=List.getElem?_eq_some_iff.1 hq;have e:out=out.take k++(q :: out.drop (k+1)):=by rw [<-a,<-List.drop_eq_getElem_cons c,List.take_append_drop]
 rw [e,fd_skip _ _ _ hn,List.length_take];simp only [fdP];rw [if_pos h];omega
theorem fd_none {out:List Pl} {b:Bd} (h:hasB out b=false):fdP out b 0=-1:=by
 have:=fd_skip out [] 0 h;rw [List.append_nil] at this;rw [this];rfl
theorem slEq (l m:List Int) (n:Nat) (hl:l.length=n) (hm:m.length=n) (A1 A2:Option Addr) (c1 c2 B:Nat) (w:World) (r1:RdS w B 1 enI A1 l) (r2:RdS w B 1 enI A2 m) (x:Bool) (hx:decide (l=m)=x) :
  Calls Tryz.prog 133 #[.slice A1 n c1,.slice A2 n c2] w λ e w'=>e=.returned (.bool x)∧Below w.heap.size w w':=by
 have g:=r1.len;rw [hl] at g;have p:Hid (decide (∀ i,i<n->at_ l i=at_ m i)=x):=kD (by rw [<-hx,<-hl];exact(eq_at (by rw [hl,hm])).symm);have G:=kD hl;have F:=kD hm;have E:=kD r1;have D:=kD r2;clear hl hm r1 r2 hx;go_enter Tryz.func133,Tryz.ntmps133;go_wp2_with fail;go_loopw [13] (λ i wr=>∃ k:Nat,k<=n∧i=.int .i64 (k:Int)∧Hid (∃ q,wr=w.drewN q)∧Hid (∀ i,i<k->at_ l i=at_ m i)) (λ i _=>n - (intOf i).toNat)
 case atStart=>exact⟨0,Nat.zero_le _,by first | rfl | trivial,kD ⟨0,rfl⟩,kD (λ i h=>absurd h (Nat.not_lt_zero _))⟩
 case round =>
  obtain⟨k,H,rfl,b,a⟩:=hrel;by_cases hlt:k<n
  ·obtain⟨C,s,rfl,o,d⟩:=at_rd E.out (i:=k) (by rw [G.out];exact hlt);obtain⟨A,r,rfl,j,c⟩:=at_rd D.out (i:=k) (by rw [F.out];exact hlt);have K:wr.cell? ⟨C,s+k,none⟩=some (.int .i64 (at_ l k)):=by obtain⟨q,rfl⟩:=b.out;exact d
   have J:wr.cell? ⟨A,r+k,none⟩=some (.int .i64 (at_ m k)):=by obtain⟨q,rfl⟩:=b.out;exact c
   have y:(k:Int)<(n:Int):=by omega
   have t:IntKind.i64.wrap ((k:Int)+1)=(k:Int)+1:=IntWalk.i64_in _ (by omega);clear d c;by_cases hv:at_ l k=at_ m k
   ·have z:(at_ l k != at_ m k)=false:=by simp [hv]
    have f:=kD (show ∀ i,i<k+1->at_ l i=at_ m i from λ i I=>by
     by_cases e:i=k
     ·rw [e];exact hv
     ·exact a.out i (by omega))
    clear hv;go_wp2_with fail;go_quiet (fail);go_wp2_with fail;go_roundw
    case rel=>exact⟨k+1,by omega,by go_num,kD (by obtain⟨q,rfl⟩:=b.out;exact⟨_,World.drewN_drewN _ _ _⟩),f⟩
    case measure=>simp [intOf];omega
   ·have z:(at_ l k != at_ m k)=true:=by simp [hv]
    obtain rfl:x=false:=by rw [<-p.out];exact decide_eq_false (λ h=>hv (h k hlt))
    clear hv;go_wp2_with fail;go_quiet (fail);go_wp2_with fail;go_ret;exact⟨rfl,by obtain⟨q,rfl⟩:=b.out;exact below_drewN (below_drewN (Below.refl _ _) _) _⟩
  ·obtain rfl:k=n:=by omega
   have v:¬ ((k:Int)<(k:Int)):=by omega
   obtain rfl:x=true:=by rw [<-p.out];exact decide_eq_true a.out
   go_wp2_with fail;go_ret;exact⟨rfl,by obtain⟨q,rfl⟩:=b.out;exact below_drewN (Below.refl _ _) _⟩
theorem same_i (a b:Bd) (n:Nat) (h1:a.1.length=n) (h2:a.2.length=n) (h3:b.1.length=n) (h4:b.2.length=n) (A1 A2 A3 A4:Option Addr) (c1 c2 c3 c4:Nat) (w:World)
  (r1:RdS w w.heap.size 1 enI A1 a.1) (r2:RdS w w.heap.size 1 enI A2 a.2) (r3:RdS w w.heap.size 1 enI A3 b.1) (r4:RdS w w.heap.size 1 enI A4 b.2) (x:Bool) (hx:decide (a=b)=x) :
  Calls Tryz.prog 96 #[.agg #[.slice A1 n c1,.slice A2 n c2],.agg #[.slice A3 n c3,.slice A4 n c4]] w λ e w'=>e=.returned (.bool x)∧Below w.heap.size w w':=by
 obtain⟨y,m⟩:∃ y,decide (a.1=b.1)=y:=⟨_,rfl⟩;obtain⟨z,l⟩:∃ z,decide (a.2=b.2)=z:=⟨_,rfl⟩;have t:Hid ((y && z)=x):=kD (by
  rw [<-hx,<-m,<-l,<-Bool.decide_and];exact decide_eq_decide.2 ⟨λ h=>Prod.ext h.1 h.2,λ h=>by rw [h];exact⟨rfl,rfl⟩⟩)
 have C:=kD (λ(i:World) (h:Below w.heap.size w i)=>slEq a.1 b.1 n h1 h3 A1 A3 c1 c3 w.heap.size i (r1.below h (Nat.le_refl _)) (r3.below h (Nat.le_refl _)) y m);have B:=kD (λ(i:World) (h:Below w.heap.size w i)=>slEq a.2 b.2 n h2 h4 A2 A4 c2 c4 w.heap.size i (r2.below h (Nat.le_refl _)) (r4.below h (Nat.le_refl _)) z l);clear h1 h2 h3 h4 r1 r2 r3 r4 hx m l;go_enter Tryz.func96,Tryz.ntmps96;go_upto_region 1 with fail;refine wp_gen (λ p=>Below w.heap.size w p∧RowB p w.heap.size 28 [.slice A1 n c1,.slice A2 n c2]∧RowB p (w.heap.size+1) 28 [.slice A3 n c3,.slice A4 n c4]) ⟨by go_grown,(RowB.new _ _ _).alloc _,RowB.new' _ _ _ (by simp)⟩ ?_;rintro A ⟨c,g,f⟩;obtain⟨s,r⟩:=g.c2;obtain⟨q,r1⟩:=f.c2;have k:=g.lt;have j:=f.lt;go_wp2_with fail;refine(C.out A c).mono ?_;rintro e v ⟨rfl,d⟩;have g:=g.below d g.lt;have f:=f.below d f.lt;have c:=c.trans (d.mono c.size);clear s r q r1 k j d;obtain⟨s,r⟩:=g.c2;obtain⟨q,r1⟩:=f.c2;have k:=g.lt;have j:=f.lt
 cases y
 ·obtain rfl:x=false:=by rw [<-t.out];rfl
  go_wp2_with fail;go_ret;exact⟨rfl,c⟩
 ·obtain rfl:x=z:=by rw [<-t.out];rfl
  go_wp2_with fail;refine(B.out v c).mono ?_;rintro e D ⟨rfl,o⟩;have c:=c.trans (o.mono c.size);go_wp2_with fail;go_ret;exact⟨rfl,c⟩
end Bd31
end Go.Proofs.YtmncnhbjifeoeaaGreat
