/- Parts of a proof. Conditions: each theorem's own. -/
import Derived.Test.YtjdefiinmicjiaaGreatDoorV09
set_option linter.unusedVariables false
set_option linter.unusedSimpArgs false
set_option maxHeartbeats 8000000
set_option maxRecDepth 100000
namespace Go.Proofs.YtjdefiinmicjiaaGreatDoor
open _root_.Go.Proofs.Tryz
namespace DwA
open Go Go.ChangeShapes Go.WideShapes Go.ChangeAt Go.RowKit Base Ints Own Draw DrawD RegF RegG DwP DwQ PlP
theorem full_x (w:World):Calls prog 73 #[] w λ e w'=>e=.returned (.agg #[iL 24,iL 15,iL 6,iL 6])∧Below w.heap.size w w':=by
 go_enter func73,ntmps73;go_wp2_with fail;go_returns;exact⟨rfl,by go_grown⟩
section
variable {w0 w:World} {B g cp:Nat} {A:Option Addr} {xs:List Int} {st:Nat × Int}
def VEnd (f:Vr->St->Prop) (w0 w:World) (B g:Nat) (A:Option Addr) (cp:Nat) (xs:List Int) (e:Ending) (w':World):Prop :=
 ∃(v:Vr) (st':St),e=.returned (vA v)∧f v st'∧Dx w0 B g A cp xs st' w'∧w.grownBy w' (some g)
theorem pickV {W:World} {b:Nat} {e:TypeId} {zs:List Int} (h:RowB W b e (zs.map (Value.int .i64))) {m:Nat} (hm:m<zs.length):W.cell? ⟨b,m,none⟩=some (iL (zs.getD m 0)):=by
 rw [h.cell,List.getElem?_map,List.getD_eq_getElem?_getD,List.getElem?_eq_getElem hm];rfl
theorem full_ok:okV fullV=true∧4<=fullV.p:=⟨by decide,by decide⟩
theorem v08_x (h:Dx w0 B g A cp xs st w):Calls prog 44 #[pT g 0] w λ e w'=>VEnd (λ v st'=>v08 xs st=(v,st')∧okV v=true∧4<=v.p) w0 w B g A cp xs e w':=by
 go_enter func44,ntmps44;go_wp2_with fail;have K:Ru w0 w B g A cp xs st 25 [iL 0,iL 0,iL 0,iL 0] _:=Ru.start h;refine(nextX K.D (6) (by decide)).mono ?_;rintro e ad ⟨a,R,⟨rfl,ak,E,-,t⟩,f,b,-⟩;have E:=E (by decide);have K:=K.next f b;clear f b h;by_cases e0:a=0
 ·subst e0;go_wp2_with fail;refine(full_x _).mono ?_;rintro e w2 ⟨rfl,hb⟩;have K:=K.below hb;clear hb;have r:=K.rr;go_wp2_with (refine wM 25 0 [iL 24,iL 15,iL 6,iL 6] r ?_;intro w7 n j z7;refine Hid.out ?_);have K:=K.res n j;obtain⟨O,N,M,L⟩:=n.c4;have Y:=n.lt;clear j r;refine kD ?_
  repeat (first | go_values | go_skip | go_step | go_upon)
  refine bodyPost_ret (v:=.agg #[iL 24,iL 15,iL 6,iL 6]) (by simp [results,results44,go_sem,O,N,M,L]) rfl ?_;exact⟨fullV,R,rfl,⟨v08_0 t,full_ok⟩,K.D,K.gr⟩
 ·have e1:(a == 0)=false:=by simp [e0]
  go_wp2_with fail;refine(nextX K.D (5) (by decide)).mono ?_;rintro e ac ⟨p,ae,⟨rfl,ag,s,-,S⟩,f,b,-⟩;have s:=s (by decide);have K:=K.next f b;clear f b;go_wp2_with fail;refine(nextX K.D (4) (by decide)).mono ?_;rintro e ab ⟨c,af,⟨rfl,aj,C,-,W⟩,f,b,-⟩;have C:=C (by decide);have K:=K.next f b;clear f b;go_wp2_with fail;refine(nextX K.D (3) (by decide)).mono ?_;rintro e P ⟨d,Q,⟨rfl,ai,z,-,V⟩,f,b,-⟩;have z:=z (by decide);have K:=K.next f b;clear f b;go_upto_region 4 with fail;obtain⟨g3,m⟩:=eX (P.heap.size);have X:w.heap.size<g3:=by rw [<-m];exact K.rr.lt
  refine wp_gen (λ F=>Ru w0 w B g A cp xs Q 25 [iL 0,iL 0,iL 0,iL 0] F∧RowB F g3 25 [iL (4+p),iL (1+c),iL 0,iL (2+d)]) ⟨K.alloc _,by rw [<-m];exact nW⟩ ?_
  try simp only [m]
  clear K m;rintro w4 ⟨K,i⟩;obtain⟨J,I,H,G⟩:=i.c4;have l:=i.lt;have ht:Int.tdiv (4+p) 2=(4+p) / 2:=by rw [Int.tdiv_eq_ediv_of_nonneg (by omega)]
  go_wp2_with fail;refine(nextX K.D ((4+p) / 2) (by omega)).mono ?_;rintro e aa ⟨h,o,⟨rfl,ah,y,-,T⟩,f,b,-⟩;have y:=y (by omega);have K:=K.next f b;have x:=b;clear f b J I H G l;have i:=i.grown x (λ k hk=>by simp at hk;have:=K.lt;omega);clear x;obtain⟨J,I,H,G⟩:=i.c4;have l:=i.lt;have Z:=i.frozen;go_upto_region 5 with fail;refine wp_gen (λ F=>Ru w0 w B g A cp xs o 25 [iL 0,iL 0,iL 0,iL 0] F∧RowB F g3 25 [iL (4+p),iL (1+c),iL (1+h),iL (2+d)]) ⟨K.put X (Base.grownBy_setCell _ _ _ _),i.set 2 _⟩ ?_;clear K J I H G l Z i;rintro w6 ⟨K,i⟩;obtain⟨J,I,H,G⟩:=i.c4;have l:=i.lt;have r:=K.rr;go_wp2_with (refine wM 25 0 [iL (4+p),iL (1+c),iL (1+h),iL (2+d)] r ?_;intro w7 n j z7;refine Hid.out ?_);have K:=K.res n j;obtain⟨O,N,M,L⟩:=n.c4;have Y:=n.lt;clear j r;refine kD ?_
  repeat (first | go_values | go_skip | go_step | go_upon)
  refine bodyPost_ret (v:=.agg #[iL (4+p),iL (1+c),iL (1+h),iL (2+d)]) (by simp [results,results44,go_sem,O,N,M,L]) rfl ?_;exact⟨⟨4+p,1+c,1+h,2+d⟩,o,rfl,⟨v08_1 t e0 S W V T,by unfold okV;simp only [decide_eq_true_eq];omega,by show 4<=4+p;omega⟩,K.D,K.gr⟩
theorem v01s_x (h:Dx w0 B g A cp xs st w):Calls prog 80 #[pT g 0] w λ e w'=>VEnd (λ v st'=>v01s xs st=(v,st')∧2<=v.p∧v.p<=24) w0 w B g A cp xs e w':=by
 go_enter func80,ntmps80;go_wp2_with fail;have K:Ru w0 w B g A cp xs st 25 [iL 0,iL 0,iL 0,iL 0] _:=Ru.start h;refine(nextX K.D (5) (by decide)).mono ?_;rintro e Y ⟨p,Z,⟨rfl,ab,m,-,I⟩,f,a,-⟩;have m:=m (by decide);have K:=K.next f a;clear f a h;go_wp2_with fail;refine(nextX K.D (3) (by decide)).mono ?_;rintro e X ⟨c,aa,⟨rfl,af,t,-,M⟩,f,a,-⟩;have t:=t (by decide);have K:=K.next f a;clear f a;go_wp2_with fail;refine(nextX K.D (3) (by decide)).mono ?_;rintro e F ⟨d,G,⟨rfl,ae,s,-,L⟩,f,a,-⟩;have s:=s (by decide);have K:=K.next f a;clear f a;go_upto_region 2 with fail;obtain⟨P,j⟩:=eX (F.heap.size);have N:w.heap.size<P:=by rw [<-j];exact K.rr.lt
 refine wp_gen (λ x=>Ru w0 w B g A cp xs G 25 [iL 0,iL 0,iL 0,iL 0] x∧RowB x P 25 [iL (2+p),iL (1+c),iL 0,iL (1+d)]) ⟨K.alloc _,by rw [<-j];exact nW⟩ ?_
 try simp only [j]
 clear K j;rintro w4 ⟨K,b⟩;obtain⟨E,C,z,y⟩:=b.c4;have i:=b.lt;go_wp2_with fail;refine(nextX K.D (2+p) (by omega)).mono ?_;rintro e W ⟨h,l,⟨rfl,ad,o,-,J⟩,f,a,-⟩;have o:=o (by omega);have K:=K.next f a;have n:=a;clear f a E C z y i;have b:=b.grown n (λ k hk=>by simp at hk;have:=K.lt;omega);clear n;obtain⟨E,C,z,y⟩:=b.c4;have i:=b.lt;have O:=b.frozen;go_upto_region 3 with fail;refine wp_gen (λ x=>Ru w0 w B g A cp xs l 25 [iL 0,iL 0,iL 0,iL 0] x∧RowB x P 25 [iL (2+p),iL (1+c),iL (1+h),iL (1+d)]) ⟨K.put N (Base.grownBy_setCell _ _ _ _),b.set 2 _⟩ ?_;clear K E C z y i O b;rintro w6 ⟨K,b⟩;obtain⟨E,C,z,y⟩:=b.c4;have i:=b.lt;have Q:=K.rr;go_wp2_with (refine wM 25 0 [iL (2+p),iL (1+c),iL (1+h),iL (1+d)] Q ?_;intro w7 H r z7;refine Hid.out ?_);have K:=K.res H r;obtain⟨V,T,S,R⟩:=H.c4;have ac:=H.lt;clear r Q;refine kD ?_
 repeat (first | go_values | go_skip | go_step | go_upon)
 refine bodyPost_ret (v:=.agg #[iL (2+p),iL (1+c),iL (1+h),iL (1+d)]) (by simp [results,results80,go_sem,V,T,S,R]) rfl ?_;exact⟨⟨2+p,1+c,1+h,1+d⟩,l,rfl,⟨v01s_0 I M L J,by show 2<=2+p;omega,by show 2+p<=24;omega⟩,K.D,K.gr⟩
theorem v01v_x (h:Dx w0 B g A cp xs st w):Calls prog 51 #[pT g 0] w λ e w'=>VEnd (λ v st'=>v01v xs st=(v,st')∧2<=v.p∧v.p<=24) w0 w B g A cp xs e w':=by
 go_enter func51,ntmps51;go_wp2_with fail;have K:Ru w0 w B g A cp xs st 25 [iL 0,iL 0,iL 0,iL 0] _:=Ru.start h;refine(nextX K.D (4) (by decide)).mono ?_;rintro e ae ⟨a,T,⟨rfl,al,L,-,r⟩,f,b,-⟩;have L:=L (by decide);have K:=K.next f b;clear f b h;by_cases e0:a=0
 ·subst e0;go_wp2_with fail;refine(full_x _).mono ?_;rintro e w2 ⟨rfl,hb⟩;have K:=K.below hb;clear hb;have o:=K.rr;go_wp2_with (refine wM 25 0 [iL 24,iL 15,iL 6,iL 6] o ?_;intro w7 l i z7;refine Hid.out ?_);have K:=K.res l i;obtain⟨z,y,x,t⟩:=l.c4;have F:=l.lt;clear i o;refine kD ?_
  repeat (first | go_values | go_skip | go_step | go_upon)
  refine bodyPost_ret (v:=.agg #[iL 24,iL 15,iL 6,iL 6]) (by simp [results,results51,go_sem,z,y,x,t]) rfl ?_;exact⟨fullV,T,rfl,⟨v01v_0 r,by decide,by decide⟩,K.D,K.gr⟩
 by_cases e1:a=1
 ·subst e1;go_wp2_with fail;refine(nextX K.D (21) (by decide)).mono ?_;rintro e ad ⟨p,af,⟨rfl,ah,E,-,V⟩,f,b,-⟩;have E:=E (by decide);have K:=K.next f b;clear f b;go_wp2_with fail;refine(nextX K.D (15) (by decide)).mono ?_;rintro e ac ⟨c,ag,⟨rfl,ak,J,-,Y⟩,f,b,-⟩;have J:=J (by decide);have K:=K.next f b;clear f b;go_wp2_with fail;refine(nextX K.D (6) (by decide)).mono ?_;rintro e R ⟨d,S,⟨rfl,aj,I,-,X⟩,f,b,-⟩;have I:=I (by decide);have K:=K.next f b;clear f b;go_upto_region 6 with fail;obtain⟨g3,n⟩:=eX (R.heap.size);have Z:w.heap.size<g3:=by rw [<-n];exact K.rr.lt
  refine wp_gen (λ M=>Ru w0 w B g A cp xs S 25 [iL 0,iL 0,iL 0,iL 0] M∧RowB M g3 25 [iL (4+p),iL (1+c),iL 0,iL (1+d)]) ⟨K.alloc _,by rw [<-n];exact nW⟩ ?_
  try simp only [n]
  clear K n;rintro w4 ⟨K,j⟩;obtain⟨Q,P,O,N⟩:=j.c4;have m:=j.lt;have ht:Int.tdiv (4+p) 2=(4+p) / 2:=by rw [Int.tdiv_eq_ediv_of_nonneg (by omega)]
  go_wp2_with fail;refine(nextX K.D ((4+p) / 2) (by omega)).mono ?_;rintro e ab ⟨h,C,⟨rfl,ai,H,-,W⟩,f,b,-⟩;have H:=H (by omega);have K:=K.next f b;have G:=b;clear f b Q P O N m;have j:=j.grown G (λ k hk=>by simp at hk;have:=K.lt;omega);clear G;obtain⟨Q,P,O,N⟩:=j.c4;have m:=j.lt;have aa:=j.frozen;go_upto_region 7 with fail;refine wp_gen (λ M=>Ru w0 w B g A cp xs C 25 [iL 0,iL 0,iL 0,iL 0] M∧RowB M g3 25 [iL (4+p),iL (1+c),iL (1+h),iL (1+d)]) ⟨K.put Z (Base.grownBy_setCell _ _ _ _),j.set 2 _⟩ ?_;clear K Q P O N m aa j;rintro w6 ⟨K,j⟩;obtain⟨Q,P,O,N⟩:=j.c4;have m:=j.lt;have o:=K.rr;go_wp2_with (refine wM 25 0 [iL (4+p),iL (1+c),iL (1+h),iL (1+d)] o ?_;intro w7 l i z7;refine Hid.out ?_);have K:=K.res l i;obtain⟨z,y,x,t⟩:=l.c4;have F:=l.lt;clear i o;refine kD ?_
  repeat (first | go_values | go_skip | go_step | go_upon)
  refine bodyPost_ret (v:=.agg #[iL (4+p),iL (1+c),iL (1+h),iL (1+d)]) (by simp [results,results51,go_sem,z,y,x,t]) rfl ?_;exact⟨⟨4+p,1+c,1+h,1+d⟩,C,rfl,⟨v01v_1 r V Y X W,by show 2<=4+p;omega,by show 4+p<=24;omega⟩,K.D,K.gr⟩
 ·have x0:(a == 0)=false:=by simp [e0]
  have x1:(a == 1)=false:=by simp [e1]
  go_wp2_with fail;refine(v01s_x K.D).mono ?_;rintro e w2 ⟨v,s2,rfl,hv,f,b⟩;have K:=K.next f b;clear f b;have o:=K.rr;go_wp2_with (refine wM 25 0 [iL v.p,iL v.c,iL v.h,iL v.s] o ?_;intro w7 l i z7;refine Hid.out ?_);have K:=K.res l i;obtain⟨z,y,x,t⟩:=l.c4;have F:=l.lt;clear i o;refine kD ?_
  repeat (first | go_values | go_skip | go_step | go_upon)
  refine bodyPost_ret (v:=vA v) (by simp [results,results51,go_sem,z,y,x,t]) rfl ?_;exact⟨v,s2,rfl,⟨v01v_2 r e0 e1 hv.1,hv.2⟩,K.D,K.gr⟩
theorem v01a_x (h:Dx w0 B g A cp xs st w):Calls prog 24 #[pT g 0] w λ e w'=>VEnd (λ v st'=>v01a xs st=(v,st')) w0 w B g A cp xs e w':=by
 have ac:=h.lt;go_enter func24,ntmps24;go_wp2_with fail;have K:Ru w0 w B g A cp xs st 25 [iL 0,iL 0,iL 0,iL 0] _:=Ru.start h;refine(v01v_x K.D).mono ?_;rintro e w1 ⟨v,s1,rfl,⟨hv,W⟩,C,n⟩;have ab:=kD W;have K:=K.next C n;clear C n h W;go_upto_region 2 with fail;refine wp_gen (λ E=>∃ Q,w1.heap.size=Q∧w.heap.size<Q∧Ru w0 w B g A cp xs s1 25 [iL 0,iL 0,iL 0,iL 0] E∧RowB E Q 25 [iL v.p,iL v.c,iL v.h,iL v.s]) ⟨_,rfl,K.rr.lt,K.alloc _,nW⟩ ?_;rintro w2 ⟨Q,Y,N,K2,f⟩;rw [Y];clear K Y;have K:=K2;clear K2;go_wp2_with fail;refine(nextX K.D (40) (by decide)).mono ?_;rintro e aa ⟨q,R,⟨rfl,ad,T,-,F⟩,C,n,-⟩;have T:=T (by decide);have K:=K.next C n;have f:=f.grown n (λ k P=>by simp at P;have:=K.lt;omega);clear C n;have H:v01v xs st=(v,s1):=hv;obtain⟨y,x,t,r⟩:=f.c4;have a:=f.lt;have i:=f.frozen;by_cases e0:q=0
 ·subst e0;go_wp2_with fail;refine(nextX (K.alloc _).D 4 (by decide)).mono ?_;rintro e S ⟨k,o,⟨rfl,V,l,-,G⟩,C,n,-⟩;have l:=l (by decide);have K:=(K.alloc _).next C n;have f:=(f.alloc _).grown n (λ k P=>by simp at P;have:=K.lt;omega);have rb:=(RowB.new aa 2 [iL 1,iL 25,iL (-1),iL 24]).grown n (λ k P=>by simp at P;have:=K.D.lt;omega);obtain⟨m,rfl⟩:∃ m:Nat,k=m:=⟨k.toNat,by omega⟩;have X:=pickV (zs:=[1,25,-1,24]) rb (show m<_ from by simp;omega);rw [show ([1,25,-1,24]:List Int).getD m 0=badP m from rfl] at X;have af:(m:Int)<4:=l;have ag:=rb.lt;clear C n y x t r a i;obtain⟨y,x,t,r⟩:=f.c4;have a:=f.lt;have i:=f.frozen;go_upto_region 11 with fail;refine wp_gen (λ E=>Ru w0 w B g A cp xs o 25 [iL 0,iL 0,iL 0,iL 0] E∧RowB E Q 25 [iL (badP m),iL v.c,iL v.h,iL v.s]) ⟨K.put N (Base.grownBy_setCell _ _ _ _),f.set 0 _⟩ ?_;clear K f;rintro w6 ⟨K,d⟩;clear y x t r a i;obtain⟨y,x,t,r⟩:=d.c4;have a:=d.lt;have z:=K.rr;go_wp2_with (refine wM 25 0 [iL (badP m),iL v.c,iL v.h,iL v.s] z ?_;intro w7 j b Z;refine Hid.out ?_);have K:=K.res j b;obtain⟨M,L,J,I⟩:=j.c4;have O:=j.lt;clear b z;refine kD ?_
  repeat (first | go_values | go_skip | go_step | go_upon)
  refine bodyPost_ret (v:=.agg #[iL (badP m),iL v.c,iL v.h,iL v.s]) (by simp [results,results24,go_sem,M,L,J,I]) rfl ?_;exact⟨⟨badP m,v.c,v.h,v.s⟩,o,rfl,v01a_of H F (any_0 G),K.D,K.gr⟩
 have M:(q == 0)=false:=by simp [e0]
 by_cases e1:q=1
 ·subst e1;go_wp2_with fail;refine(nextX K.D (2) (by decide)).mono ?_;rintro e S ⟨k,o,⟨rfl,V,l,-,G⟩,C,n,-⟩;have l:=l (by decide);have K:=K.next C n;have f:=f.grown n (λ k P=>by simp at P;have:=K.lt;omega);clear C n y x t r a i;obtain⟨y,x,t,r⟩:=f.c4;have a:=f.lt;have i:=f.frozen;go_upto_region 11 with fail;refine wp_gen (λ E=>Ru w0 w B g A cp xs o 25 [iL 0,iL 0,iL 0,iL 0] E∧RowB E Q 25 [iL v.p,iL (16*k),iL v.h,iL v.s]) ⟨K.put N (Base.grownBy_setCell _ _ _ _),f.set 1 _⟩ ?_;clear K f;rintro w6 ⟨K,d⟩;clear y x t r a i;obtain⟨y,x,t,r⟩:=d.c4;have a:=d.lt;have z:=K.rr;go_wp2_with (refine wM 25 0 [iL v.p,iL (16*k),iL v.h,iL v.s] z ?_;intro w7 j b Z;refine Hid.out ?_);have K:=K.res j b;obtain⟨M,L,J,I⟩:=j.c4;have O:=j.lt;clear b z;refine kD ?_
  repeat (first | go_values | go_skip | go_step | go_upon)
  refine bodyPost_ret (v:=.agg #[iL v.p,iL (16*k),iL v.h,iL v.s]) (by simp [results,results24,go_sem,M,L,J,I]) rfl ?_;exact⟨⟨v.p,16*k,v.h,v.s⟩,o,rfl,v01a_of H F (any_1 G),K.D,K.gr⟩
 have L:(q == 1)=false:=by simp [e1]
 by_cases e2:q=2
 ·subst e2;have ae:=ab.out;have hw:=iW ((v.p+1));go_upto_region 11 with fail;refine wp_gen (λ E=>Ru w0 w B g A cp xs R 25 [iL 0,iL 0,iL 0,iL 0] E∧RowB E Q 25 [iL v.p,iL v.c,iL (v.p+1),iL v.s]) ⟨K.put N (Base.grownBy_setCell _ _ _ _),f.set 2 _⟩ ?_;clear K f;rintro w6 ⟨K,d⟩;clear y x t r a i;obtain⟨y,x,t,r⟩:=d.c4;have a:=d.lt;have z:=K.rr;go_wp2_with (refine wM 25 0 [iL v.p,iL v.c,iL (v.p+1),iL v.s] z ?_;intro w7 j b Z;refine Hid.out ?_);have K:=K.res j b;obtain⟨M,L,J,I⟩:=j.c4;have O:=j.lt;clear b z;refine kD ?_
  repeat (first | go_values | go_skip | go_step | go_upon)
  refine bodyPost_ret (v:=.agg #[iL v.p,iL v.c,iL (v.p+1),iL v.s]) (by simp [results,results24,go_sem,M,L,J,I]) rfl ?_;exact⟨⟨v.p,v.c,v.p+1,v.s⟩,R,rfl,v01a_of H F (any_2),K.D,K.gr⟩
 have J:(q == 2)=false:=by simp [e2]
 by_cases e3:q=3
 ·subst e3;go_wp2_with fail;refine(nextX K.D (2) (by decide)).mono ?_;rintro e S ⟨k,o,⟨rfl,V,l,-,G⟩,C,n,-⟩;have l:=l (by decide);have K:=K.next C n;have f:=f.grown n (λ k P=>by simp at P;have:=K.lt;omega);clear C n y x t r a i;obtain⟨y,x,t,r⟩:=f.c4;have a:=f.lt;have i:=f.frozen;go_upto_region 11 with fail;refine wp_gen (λ E=>Ru w0 w B g A cp xs o 25 [iL 0,iL 0,iL 0,iL 0] E∧RowB E Q 25 [iL v.p,iL v.c,iL v.h,iL (7*k)]) ⟨K.put N (Base.grownBy_setCell _ _ _ _),f.set 3 _⟩ ?_;clear K f;rintro w6 ⟨K,d⟩;clear y x t r a i;obtain⟨y,x,t,r⟩:=d.c4;have a:=d.lt;have z:=K.rr;go_wp2_with (refine wM 25 0 [iL v.p,iL v.c,iL v.h,iL (7*k)] z ?_;intro w7 j b Z;refine Hid.out ?_);have K:=K.res j b;obtain⟨M,L,J,I⟩:=j.c4;have O:=j.lt;clear b z;refine kD ?_
  repeat (first | go_values | go_skip | go_step | go_upon)
  refine bodyPost_ret (v:=.agg #[iL v.p,iL v.c,iL v.h,iL (7*k)]) (by simp [results,results24,go_sem,M,L,J,I]) rfl ?_;exact⟨⟨v.p,v.c,v.h,7*k⟩,o,rfl,v01a_of H F (any_3 G),K.D,K.gr⟩
 have I:(q == 3)=false:=by simp [e3]
 have d:=f;clear y x t r a i;obtain⟨y,x,t,r⟩:=d.c4;have a:=d.lt;have z:=K.rr;go_wp2_with (refine wM 25 0 [iL v.p,iL v.c,iL v.h,iL v.s] z ?_;intro w7 j b Z;refine Hid.out ?_);have K:=K.res j b;obtain⟨M,L,J,I⟩:=j.c4;have O:=j.lt;clear b z;refine kD ?_
 repeat (first | go_values | go_skip | go_step | go_upon)
 refine bodyPost_ret (v:=vA v) (by simp [results,results24,go_sem,M,L,J,I]) rfl ?_;exact⟨⟨v.p,v.c,v.h,v.s⟩,R,rfl,v01a_of H F (any_4 e0 e1 e2 e3),K.D,K.gr⟩
end
end DwA
namespace DwB
open Go Go.ChangeShapes Go.WideShapes Go.ChangeAt Go.RowKit Base Ints Own RelG PlP TxP Gm RegInv RegF RegG Bd1 Bd5 Bd11 Bd22 Bd23 Bd24 Draw DrawD DwP DwQ DwA
theorem own_at {α:Type} {w:World} {lo hi sz:Nat} {e:TypeId} {en:α->List Value} {v:Value} {xs:List α} (hen:∀ x,(en x).length=sz) (h:OwnS w lo hi e sz en v xs) {k:Nat} {r:α} (hk:xs[k]?=some r) :
  ∃ g c,v=.slice (sA g 0) xs.length c∧(lo<=g∧g<hi)∧∀ j u,(en r)[j]?=some u->w.cell? ⟨g,k*sz+j,none⟩=some u:=by
 have a:=(List.getElem?_eq_some_iff.1 hk).1;rcases h.cases_ with ⟨_,h0⟩ | ⟨g,cap,rest,e1,h1,h2,-,-,-,-⟩
 ·rw [h0] at a;simp at a
 ·obtain⟨A,c,f,d⟩:=h.form hen;rw [e1] at f;simp only [Value.slice.injEq] at f;obtain⟨rfl,-,-⟩:=f;obtain⟨b,l,i,-,n⟩:=d.2 (by omega);simp only [Option.some.injEq,Addr.mk.injEq] at i;obtain⟨rfl,rfl,-⟩:=i;exact⟨g,cap,e1,⟨h1,h2⟩,λ j u m=>by have:=n k r hk j u m;rwa [Nat.zero_add] at this⟩
theorem roll6 {v:Vr} {b:Bd} {x y:Int} (hb:Ok v b) (h:rollB v x y=true):(1<=x∧x<=6)∧(1<=y∧y<=6):=by
 unfold rollB at h;simp only [Bool.and_eq_true,decide_eq_true_eq] at h;have:=hb.v1;omega
def APl (v:Vr) (b:Bd) (x y:Int):List Pl × Int :=
 if okB v b=false then ([],1) else if rollB v x y=false then ([],2) else if (allP v b x y).2=false then ([],3) else ((allP v b x y).1,0)
theorem own0 {ρ α:Type} {K:Rel ρ α} {w0 w:World} {g:Nat} {t:TypeId} {sz:Nat} {en:ρ->List Value} (hen:∀ x,(en x).length=sz) (h:RowB w g t []) (hg:w0.heap.size<=g):OwnG K w w0.heap.size w.heap.size t sz en (.slice (sA g 0) 0 0) [] :=
 ⟨[],h.own (xs:=([]:List ρ)) hen hg h.lt (by simp),LsR.nil _ _ _⟩
theorem codeG_s (v:Vr) (b:Bd) (S:Nat->Prop) (u1 u2:Value) (x y:Int) (z:Int) (hz:(if okB v b=false then (1:Int) else if rollB v x y=false then 2 else 0)=z) (w:World) (hR:BdR w S u1 u2 b) :
  Calls prog 78 #[vA v,.agg #[u1,u2],.agg #[iL x,iL y]] w λ e w'=>e=.returned (iL z)∧Below w.heap.size w w':=by
 obtain⟨⟨M,H,rfl,A,Y⟩,⟨L,G,rfl,r,X⟩⟩:=hR;obtain⟨q,a⟩:=eX (okB v b);obtain⟨o,d⟩:=eX (rollB v x y);have J:=kD (λ(i:World) (F:zB w i)=>Bd3.isB_s v b M L H G i.heap.size i lR (A.keep (.below F)).rd (r.keep (.below F)).rd q a);have R:=kD (λ(P:okV v=true) (i:World)=>TsI.isroll_ws v P x y o d i);have k:=kD a;rw [a,d] at hz;have I:=kD hz;obtain⟨O,g⟩:=eX (b.1.length);obtain⟨N,f⟩:=eX (b.2.length);rw [g,f] at J;rw [g,f];clear g f A r hz a d;go_enter func78,ntmps78;go_upto_region 1 with fail;refine wp_gen (λ Q=>B3r w Q v (.slice M O H) (.slice L N G) x y) ⟨by go_grown,((nW).alloc _).alloc _,(nX).alloc _,nX⟩ ?_;intro W K;obtain⟨E,D,C,B⟩:=K.rv.c4;obtain⟨m,l⟩:=K.rb.c2;go_wp2_with fail;refine(J.out _ K.bel).mono ?_;rintro e V ⟨rfl,j⟩;have K:=K.below j;clear E D C B m l j
 cases q with
 | false =>
  have hz:=I.out;simp only [if_true] at hz;subst hz;go_wp2_with fail;go_ret;exact⟨rfl,K.bel⟩
 | true =>
 obtain⟨E,D,C,B⟩:=K.rv.c4;obtain⟨m,l⟩:=K.rr.c2;go_wp2_with fail;refine(R.out (okV_iff.2 (okB_iff.1 k.out).v1) _).mono ?_;rintro e T ⟨rfl,j⟩;have K:=K.below j;have hz:=I.out
 cases o with
 | false =>
  simp only [Bool.true_eq_false,if_false,if_true] at hz;subst hz;go_wp2_with fail;go_ret;exact⟨rfl,K.bel⟩
 | true =>
  simp only [Bool.true_eq_false,if_false,if_true] at hz;subst hz;go_wp2_with fail;go_ret;exact⟨rfl,K.bel⟩
theorem plays_s (v:Vr) (b:Bd) (S:Nat->Prop) (u1 u2:Value) (x y:Int) (R:List Pl × Int) (hRR:APl v b x y=R) (w:World) (hR:BdR w S u1 u2 b) :
  Calls prog 50 #[vA v,.agg #[u1,u2],.agg #[iL x,iL y]] w λ e w'=>∃ pv,e=.returned (.tuple #[pv,iL R.2])∧OwnG RelP w' w.heap.size w'.heap.size 98 3 enP pv R.1∧Below w.heap.size w w':=by
 obtain⟨z,a⟩:∃ z,(if okB v b=false then (1:Int) else if rollB v x y=false then 2 else 0)=z:=⟨_,rfl⟩;have W:=kD (λ(B:World) (E:zB w B)=>codeG_s v b S u1 u2 x y z a B (hR.below E));obtain⟨⟨A1,D,rfl,Y,k1⟩,⟨A2,C,rfl,X,Z⟩⟩:=hR;have A:=kD (λ(d:Ok v b) (hx:1<=x∧x<=6) (hy:1<=y∧y<=6) (B:World) (E:zB w B)=>all_s v b d A1 A2 D C x y hx hy B (Y.keep (.below E)).rd (X.keep (.below E)).rd k1 Z);have T:=kD a;have t:=kD hRR;obtain⟨n1,r⟩:=eX (b.1.length);obtain⟨n2,o⟩:=eX (b.2.length);rw [r,o] at A W;rw [r,o];clear r o Y X a hRR k1 Z;go_enter func50,ntmps50;go_upto_region 1 with fail;refine wp_gen (λ k=>B3r w k v (.slice A1 n1 D) (.slice A2 n2 C) x y) ⟨by go_grown,((nW).alloc _).alloc _,(nX).alloc _,nX⟩ ?_;intro w1 K;obtain⟨N,M,L,J⟩:=K.rv.c4;obtain⟨G,F⟩:=K.rb.c2;obtain⟨I,H⟩:=K.rr.c2;go_wp2_with fail;refine(W.out _ K.bel).mono ?_;rintro e w2 ⟨rfl,d⟩;have K:=K.below d;clear N M L J G F I H d W;by_cases h0:z=0
 case neg =>
  have aa:(z != 0)=true:=by simp [h0]
  have hR:R=([],z):=by
   rw [<-t.out];have a:=T.out;unfold APl;by_cases D:okB v b=false
   ·rw [if_pos D] at a ⊢;rw [a]
   ·rw [if_neg D] at a ⊢;by_cases C:rollB v x y=false
    ·rw [if_pos C] at a ⊢;rw [a]
    ·rw [if_neg C] at a;exact absurd a.symm h0
  subst hR;clear h0;have g:=K.bel.size;go_wp2_with fail;refine bp_gen (λ k=>Below w.heap.size w k∧∃ q,w2.heap.size=q∧RowB k q 98 []) ⟨K.bel.alloc g _,_,rfl,nW⟩ ?_;rintro k ⟨d,q,O,Q⟩;rw [O] at g ⊢;go_returns;exact⟨_,rfl,own0 enP_len Q g,d⟩
 case pos =>
 subst h0;have a:=T.out;have j:okB v b=true:=by
  cases h:okB v b with
  | true=>rfl
  | false=>rw [if_pos h] at a;cases a
 have m:rollB v x y=true:=by
  rw [if_neg (by rw [j];decide)] at a
  cases h:rollB v x y with
  | true=>rfl
  | false=>rw [if_pos h] at a;cases a
 have d:=okB_iff.1 j;have l:=roll6 d m;have hR:R=if (allP v b x y).2=false then ([],3) else ((allP v b x y).1,0):=by
  rw [<-t.out];unfold APl;rw [if_neg (by rw [j];decide),if_neg (by rw [m];decide)]
 have V:=kD hR;have A:=kD (A.out d l.1 l.2);obtain⟨f,hf⟩:=eX ((allP v b x y).2);rw [hf] at A V;clear a j m d l hR T t hf;obtain⟨N,M,L,J⟩:=K.rv.c4;obtain⟨G,F⟩:=K.rb.c2;obtain⟨I,H⟩:=K.rr.c2;go_wp2_with fail;refine(A.out _ K.bel).mono ?_;rintro e w3 ⟨pv,rfl,P,d⟩;have g:=K.bel.size;have K:=K.below d;clear N M L J G F I H d A
 cases f with
 | false =>
  have hR:=V.out;simp only [if_true] at hR;subst hR;have i:=K.bel.size;go_wp2_with fail;refine bp_gen (λ k=>Below w.heap.size w k∧∃ q,w3.heap.size=q∧RowB k q 98 []) ⟨K.bel.alloc i _,_,rfl,nW⟩ ?_;rintro k ⟨d,q,O,Q⟩;rw [O] at i ⊢;go_returns;exact⟨_,rfl,own0 enP_len Q i,d⟩
 | true =>
  have hR:=V.out;simp only [Bool.true_eq_false,if_false] at hR;subst hR;have i:=K.bel.size;go_wp2_with fail;go_returns;exact⟨_,rfl,P.less g,K.bel⟩
def EEnd (f:Ev->St->Prop) (w0 w:World) (B g:Nat) (A:Option Addr) (cp:Nat) (xs:List Int) (e0:Ending) (w':World):Prop :=
 ∃(e:Ev) (st':St) (As:Option Addr) (cs:Nat),e0=.returned (.agg #[iL e.k,iL e.a,iL e.b,.slice As e.ss.length cs,iL e.r])∧f e st'∧(RdF w' (λ b=>w.heap.size<=b) 4 enSt As e.ss∧e.ss.length<=4)∧Dx w0 B g A cp xs st' w'∧w.grownBy w' (some g)
theorem pr_roll {v:Vr} {x:Ms} {a b:Int} (hg:gmB v x.g=true) (ha:0<=a∧a<v.s) (hb:0<=b∧b<v.s):rollB v (pr28 x a b).1 (pr28 x a b).2=true:=by
 unfold pr28 rollB;by_cases h:x.g.ph=2
 ·rw [if_pos h];have:=(gm_parts hg).2.2.2.2.1 h;simp only [Bool.and_eq_true,decide_eq_true_eq];omega
 ·rw [if_neg h];simp only [Bool.and_eq_true,decide_eq_true_eq];omega
theorem APl_ok {v:Vr} {b:Bd} {x y:Int} (hb:Ok v b) (hr:rollB v x y=true):APl v b x y=if (allP v b x y).2=false then ([],3) else ((allP v b x y).1,0):=by
 unfold APl;rw [if_neg (by rw [okB_iff.2 hb];decide),if_neg (by rw [hr];decide)]
section
variable {w0 w:World} {B g cp:Nat} {A:Option Addr} {xs:List Int} {st:Nat × Int}
theorem ev28_x (v:Vr) (x:Ms) (hg:gmB v x.g=true) (S:Nat->Prop) (hSg:¬ S g) (su u1 u2:Value) (hR:MsR w S su u1 u2 x) (h:Dx w0 B g A cp xs st w) :
  Calls prog 22 #[pT g 0,vA v,.agg ⟨msC su u1 u2 x⟩] w λ e w'=>EEnd (λ e st'=>ev28 xs v x st=(e,st')) w0 w B g A cp xs e w':=by
 have aj:=gm_parts hg;have bm:=aj.1.v1;obtain⟨a,s1,NA⟩:=h.gd.nb v.s;obtain⟨b,s2,NB⟩:=NA.gd.nb v.s;have a0:=NA.ge;have a1:=NA.lt (by omega);have b0:=NB.ge;have b1:=NB.lt (by omega);obtain⟨r,hr⟩:=eX (pr28 x a b);have P:=pr_roll hg ⟨a0,a1⟩ ⟨b0,b1⟩;rw [hr] at P;obtain⟨Y,X⟩:=r;simp only at P;have CP:=kD (λ(H:World) (h9:Still S w H) (R:List Pl × Int) aq=>plays_s v x.g.b S u1 u2 Y X R aq H (hR.2.keep h9));have bG:=kD (APl_ok aj.1 P);have aC:=kD (allP_ok (x:=Y) (y:=X) aj.1 (roll6 aj.1 P).1.1 (roll6 aj.1 P).2.1);have ak:=kD hr;have av:=kD NA;have ar:=kD NB;obtain⟨⟨A0,c0,rfl,-,-⟩,⟨A1,c1,rfl,-,-⟩,⟨A2,c2,rfl,-,-⟩⟩:=id hR;obtain⟨n1,aY⟩:=eX (x.g.b.1.length);obtain⟨n2,aX⟩:=eX (x.g.b.2.length);rw [aY,aX] at CP ⊢;have bH:v.s<=6:=by omega
 have bI:1<=v.s:=by omega
 simp only [msC,List.length_cons,List.length_nil,Nat.zero_add,Nat.reduceAdd];clear aj bm P hr aY aX NA NB hR;go_enter func22,ntmps22;go_upto_region 1 with fail;refine wp_gen (λ W'=>Rx w0 w B g A cp xs st [(0,25,vL v),(1,57,[.slice A0 2 c0,iL x.gs,.slice A1 n1 c1,.slice A2 n2 c2,iL x.g.pl,iL x.g.x,iL x.g.y,iL x.g.ph,iL x.g.wn,iL x.g.rs,iL x.g.tn,.bool x.ov]),(2,28,[iL 0,iL 0,iL 0,.slice none 0 0,iL 0])] W'∧W'.heap.size=w.heap.size+3) ⟨⟨((h.alloc _).alloc _).alloc _,grown_bel (by go_grown),λ p hp=>?_,h.lt⟩,by simp⟩ ?_
 ·simp only [List.mem_cons,List.not_mem_nil,or_false] at hp;rcases hp with rfl | rfl | rfl
  ·exact((nW).alloc _).alloc _
  ·exact(nX).alloc _
  ·exact nX
 rintro w1 ⟨K,bl⟩;clear h;have V:=kD K;have b2:=K.lt;have bt:=K.D.base;clear K;refine region_rel [some 10,some 11,some 12,some 13,some 14,some 15,some 16,some 17,some 18,some 19,some 20,some 7,none] 13 (Pl [some (pT g 0),some (pT w.heap.size 3),some (iL v.s),some (iL a),some (iL (1+a)),some (pT g 0),some (pT w.heap.size 3),some (iL v.s),some (iL b),some (iL (1+b)),some (.agg #[iL (max (1+a) (1+b)),iL (min (1+a) (1+b))]),none,none]) (λ L f w'=>SqB w0 w1 B g A cp xs [st,s1,s2] L [3,8] (L 11) (L 12) (f 11) 53 [iL 0,iL 0] [iL (max (1+a) (1+b)),iL (min (1+a) (1+b))] w') (by kernel_rfl) (by kernel_rfl) (by kernel_rfl) (by kernel_rfl) (by kernel_rfl) (by kernel_rfl) (by first | kernel_rfl | rfl) ?g0_1 ?gst_1 ?gfin_1
 case g0_1=>exact SqB.start V.out.D rfl (by decide) (by decide) (by decide)
 case gst_1 =>
  refine rN rfl (λ L f A H d l j U F K C=>?_) ?_
  ·have e0:=U.w 0 (pT g 0);obtain⟨q0,q1,q2,q3⟩:=((V.out.nth0 0 rfl).grown F.sq.gr (λ k G=>by simp at G;omega)).c4
   skip
   have J:=iW ((1+a));have I:=iW ((1+b));go_simp;exact pF C (F.skip 0 _)
  refine rN rfl (λ L f A H d l j U F K C=>?_) ?_
  ·have e4:=U.w 4 (pT w.heap.size 0);obtain⟨q0,q1,q2,q3⟩:=((V.out.nth0 0 rfl).grown F.sq.gr (λ k G=>by simp at G;omega)).c4
   skip
   have J:=iW ((1+a));have I:=iW ((1+b));go_simp;exact pF C (F.skip 1 _)
  refine rN rfl (λ L f A H d l j U F K C=>?_) ?_
  ·have cD:=U.v 1 11;obtain⟨q0,q1,q2,q3⟩:=((V.out.nth0 0 rfl).grown F.sq.gr (λ k G=>by simp at G;omega)).c4
   skip
   have J:=iW ((1+a));have I:=iW ((1+b));go_simp;exact pF C (F.skip 2 _)
  refine rN rfl (λ L f A H d l j U F K C=>?_) ?_
  ·have cE:=U.v 0 10;have cC:=U.v 2 12;have O:=F.sq.at_ 0 rfl rfl d pv0;go_simp;refine(nextK O av.out.nx (by omega)).mono ?_;rintro e w6 ⟨rfl,ac,aa,-⟩;exact pF C (F.call (by omega) rfl (i:=0) rfl d pv0 (by decide) ac aa)
  refine rN rfl (λ L f A H d l j U F K C=>?_) ?_
  ·have cB:=U.v 3 13;have J:=iW ((1+a));have I:=iW ((1+b));go_simp;exact pF C (F.skip 4 _)
  refine rN rfl (λ L f A H d l j U F K C=>?_) ?_
  ·have e0:=U.w 0 (pT g 0);obtain⟨q0,q1,q2,q3⟩:=((V.out.nth0 0 rfl).grown F.sq.gr (λ k G=>by simp at G;omega)).c4
   skip
   have J:=iW ((1+a));have I:=iW ((1+b));go_simp;exact pF C (F.skip 5 _)
  refine rN rfl (λ L f A H d l j U F K C=>?_) ?_
  ·have e4:=U.w 4 (pT w.heap.size 0);obtain⟨q0,q1,q2,q3⟩:=((V.out.nth0 0 rfl).grown F.sq.gr (λ k G=>by simp at G;omega)).c4
   skip
   have J:=iW ((1+a));have I:=iW ((1+b));go_simp;exact pF C (F.skip 6 _)
  refine rN rfl (λ L f A H d l j U F K C=>?_) ?_
  ·have cy:=U.v 6 16;obtain⟨q0,q1,q2,q3⟩:=((V.out.nth0 0 rfl).grown F.sq.gr (λ k G=>by simp at G;omega)).c4
   skip
   have J:=iW ((1+a));have I:=iW ((1+b));go_simp;exact pF C (F.skip 7 _)
  refine rN rfl (λ L f A H d l j U F K C=>?_) ?_
  ·have cz:=U.v 5 15;have cx:=U.v 7 17;have O:=F.sq.at_ 1 rfl rfl d (pv1 rfl (bK l 3));go_simp;refine(nextK O ar.out.nx (by omega)).mono ?_;rintro e w6 ⟨rfl,ac,aa,-⟩;exact pF C (F.call (by omega) rfl (i:=1) rfl d (pv1 rfl (bK l 3)) (by decide) ac aa)
  refine rN rfl (λ L f A H d l j U F K C=>?_) ?_
  ·have cw:=U.v 8 18;have J:=iW ((1+a));have I:=iW ((1+b));go_simp;exact pF C (F.skip 9 _)
  refine rN rfl (λ L f A H d l j U F K C=>?_) ?_
  ·have cA:=U.v 4 14;have cv:=U.v 9 19;go_simp;refine(pair_s _ _ H).mono ?_;rintro e w6 ⟨rfl,bs⟩;exact pF C ((F.below bs).skip 10 _)
  refine rN rfl (λ L f A H d l j U F K C=>?_) ?_
  ·go_simp;exact C.out _ _ (Pl.any rfl) (F.box (λ h=>d (j 12 11 (by kernel_rfl) h)) (by decide))
  refine rN rfl (λ L f A H d l j U F K C=>?_) ?_
  ·have e7:=U.x 11 7;have bA:=U.v 10 20;have bw:=e7;obtain⟨q,e7,hq,hr⟩:=F.bx (bK l 11) d;refine wp_sm 53 _ _ rfl q 0 [iL (max (1+a) (1+b)),iL (min (1+a) (1+b))] [iL 0,iL 0] (ev (bw.trans e7)) (ev bA) 53 hr (by kernel_rfl) lR rfl ?_;exact C.out undef _ (Pl.any rfl) (F.wrote (by omega) bt e7 hq (row_cells _ _ _ _ hr) (grown_cells _ _ _ _) (by decide))
  exact RelFrom.nil (by decide)
 intro f H hp F;simp only [Fr,Act.put,sX,Nat.reduceAdd];obtain⟨q7,e7,bq,M⟩:=F.fin trivial;have ao:=F.sq.end_ 2 rfl rfl rfl (λ o _=>trivial);have K:=V.out.next ao.1 ao.2;clear F hp ao V;rw [e7];clear e7;have hq:w.heap.size+3<=q7:=by omega
 clear bq bl;have rm:=K.nth 1 rfl;obtain⟨y0,y1,y2,y3,y4,y5,y6,y7,y8,y9,ah,ag⟩:=row12 rm;have ai:=rm.lt;obtain⟨bg,aB⟩:=eX ((x.g.ph == 2));have HT:=kD aB;go_upto_if 24 with (fail);go_cut [] from 25 to 28 (λ wx=>Rx w0 w B g A cp xs s2 [(0,25,vL v),(1,57,[.slice A0 2 c0,iL x.gs,.slice A1 n1 c1,.slice A2 n2 c2,iL x.g.pl,iL x.g.x,iL x.g.y,iL x.g.ph,iL x.g.wn,iL x.g.rs,iL x.g.tn,.bool x.ov]),(2,28,[iL 0,iL 0,iL 0,.slice none 0 0,iL 0])] wx∧RowB wx q7 53 [iL Y,iL X])
 case first =>
  cases bg with
  | true =>
   have h2:x.g.ph=2:=by simpa using HT.out
   have hr:=ak.out;unfold pr28 at hr;rw [if_pos h2] at hr;simp only [Prod.mk.injEq] at hr;obtain⟨bp,bo⟩:=hr;obtain⟨f0,f1⟩:=M.c2;have b4:=M.frozen;have ad:=M.lt;clear h2;have aZ:∀ p ∈ ([(0,25,vL v),(1,57,[.slice A0 2 c0,iL x.gs,.slice A1 n1 c1,.slice A2 n2 c2,iL x.g.pl,iL x.g.x,iL x.g.y,iL x.g.ph,iL x.g.wn,iL x.g.rs,iL x.g.tn,.bool x.ov]),(2,28,[iL 0,iL 0,iL 0,.slice none 0 0,iL 0])]:List (Nat × TypeId × List Value)),w.heap.size+p.1≠q7:=λ p hp=>by simp only [List.mem_cons,List.not_mem_nil,or_false] at hp;rcases hp with rfl | rfl | rfl <;> simp only <;> omega
   have a9:=kD aZ;clear aZ;go_wp2_with fail;go_meet;have hR:=(M.set 0 (iL x.g.x)).set 1 (iL x.g.y);exact⟨(K.put a9.out (by omega) (Base.grownBy_setCell _ _ _ _)).put a9.out (by omega) (Base.grownBy_setCell _ _ _ _),by rw [bp,bo] at hR;exact hR⟩
  | false =>
   have h2:¬ x.g.ph=2:=by simpa using HT.out
   have hr:=ak.out;unfold pr28 at hr;rw [if_neg h2] at hr;simp only [Prod.mk.injEq] at hr;rw [hr.1,hr.2] at M;clear h2 hr;go_wp2_with fail;go_meet;exact⟨K,M⟩
 case rest =>
  obtain⟨K2,a4⟩:=hcut;clear K M y0 y1 y2 y3 y4 y5 y6 y7 y8 y9 ah ag ai rm;have K:=K2;have M:=a4;clear K2 a4 aB;go_wp2_with fail;refine(nextX K.D (24) (by decide)).mono ?_;rintro e bf ⟨t,bh,⟨rfl,bQ,aP,-,aw⟩,O,hg,-⟩;have aP:=aP (by decide);have K:=K.next O hg;have M:=M.grown hg (λ k G=>by simp at G;omega);clear O hg;by_cases e0:t=0
  ·subst e0;go_wp2_with fail;refine(nextX K.D (5) (by decide)).mono ?_;rintro e be ⟨k,bT,⟨rfl,bW,aT,-,bk⟩,O,hg,-⟩;have aT:=aT (by decide);have K:=K.next O hg;have M:=M.grown hg (λ k G=>by simp at G;omega);clear O hg;go_wp2_with fail;refine(nextX K.D (3) (by decide)).mono ?_;rintro e bd ⟨p,bS,⟨rfl,bV,aR,-,bj⟩,O,hg,-⟩;have aR:=aR (by decide);have K:=K.next O hg;have M:=M.grown hg (λ k G=>by simp at G;omega);clear O hg;go_wp2_with fail;refine(nextX K.D (3) (by decide)).mono ?_;rintro e bP ⟨q,bR,⟨rfl,bU,aQ,-,bi⟩,O,hg,-⟩;have aQ:=aQ (by decide);have K:=K.next O hg;have M:=M.grown hg (λ k G=>by simp at G;omega);clear O hg;go_wp2_with fail;refine(nextX K.D (4) (by decide)).mono ?_;rintro e bO ⟨z,aD,⟨rfl,bb,al,-,aE⟩,O,hg,-⟩;have al:=al (by decide);have K:=K.next O hg;have M:=M.grown hg (λ k G=>by simp at G;omega);clear O hg;have Z:=K.nth 2 rfl;go_wp2_with (refine wM 28 0 [iL k,iL p,iL q,.slice none 0 0,iL z] Z ?_;intro w7 s7 ae z7;refine Hid.out ?_);have K:=K.grown 2 s7 ae;obtain⟨z0,z1,z2,z3,z4⟩:=s7.c5;have ad:=s7.lt;clear ae Z;refine kD ?_
   repeat (first | go_values | go_skip | go_step | go_upon)
   refine bodyPost_ret (v:=.agg #[iL k,iL p,iL q,.slice none 0 0,iL z]) (by simp [results,results22,go_sem,z0,z1,z2,z3,z4]) rfl ?_;exact⟨⟨k,p,q,[],z⟩,aD,none,0,rfl,ev_of av.out.nx ar.out.nx ak.out aw (ev_0 bk bj bi aE),⟨RdF.nil _ _ _ _ _,Nat.zero_le 4⟩,K.D,K.gr⟩
  have et:(t == 0)=false:=by simp [e0]
  have rm:=K.nth 1 rfl;obtain⟨y0,y1,y2,y3,y4,y5,y6,y7,y8,y9,ah,ag⟩:=row12 rm;have ai:=rm.lt;by_cases e1:x.g.ph=0
  ·have eh:(x.g.ph == 0)=true:=by simp [e1]
   obtain⟨p,s5,NP⟩:=K.D.gd.nb v.s;obtain⟨q,s6,NQ⟩:=NP.gd.nb v.s;have p0:=NP.ge;have p1:=NP.lt (by omega);have q0:=NQ.ge;have q1:=NQ.lt (by omega);have a8:=kD NP;have a7:=kD NQ;have HE:=kD (ev_of av.out.nx ar.out.nx ak.out aw (ev_1 e0 e1 a8.out.nx a7.out.nx));clear NP NQ e1;go_upto_region 7 with fail;clear y0 y1 y2 y3 y4 y5 y6 y7 y8 y9 ah ag ai rm M eh et;have V:=kD K;clear K;refine region_rel [some 46,some 47,some 48,some 49,some 50,some 51,some 52,some 53,some 54,some 55,some 56,none] 12 (Pl [some (pT g 0),some (pT w.heap.size 3),some (iL v.s),some (iL p),some (iL (1+p)),some (pT g 0),some (pT w.heap.size 3),some (iL v.s),some (iL q),some (iL (1+q)),some (.agg #[iL 1,iL (1+p),iL (1+q),.slice none 0 0,iL 0]),none]) (λ L f w'=>SqA w0 bf B g A cp xs [bh,s5,s6] L [3,8] (L 11) (λ W=>Rx w0 w B g A cp xs s6 [(0,25,vL v),(1,57,[.slice A0 2 c0,iL x.gs,.slice A1 n1 c1,.slice A2 n2 c2,iL x.g.pl,iL x.g.x,iL x.g.y,iL x.g.ph,iL x.g.wn,iL x.g.rs,iL x.g.tn,.bool x.ov]),(2,28,[iL 1,iL (1+p),iL (1+q),.slice none 0 0,iL 0])] W) w') (by kernel_rfl) (by kernel_rfl) (by kernel_rfl) (by kernel_rfl) (by kernel_rfl) (by kernel_rfl) (by first | kernel_rfl | rfl) ?g0_2 ?gst_2 ?gfin_2
   case g0_2=>exact SqA.start V.out.D rfl (by decide) (by decide)
   case gst_2 =>
    refine rN rfl (λ L f A H d l j U F K C=>?_) ?_
    ·have e0:=U.w 0 (pT g 0);have m:=F.sq (λ h=>d (j 11 0 (by kernel_rfl) h));obtain⟨q0,q1,q2,q3⟩:=((V.out.nth0 0 rfl).grown m.gr (λ k G=>by simp at G;omega)).c4;clear m;have J:=iW ((1+p));have I:=iW ((1+q));go_simp;exact pF C (F.skip 0 (by decide))
    refine rN rfl (λ L f A H d l j U F K C=>?_) ?_
    ·have e4:=U.w 4 (pT w.heap.size 0);have m:=F.sq (λ h=>d (j 11 1 (by kernel_rfl) h));obtain⟨q0,q1,q2,q3⟩:=((V.out.nth0 0 rfl).grown m.gr (λ k G=>by simp at G;omega)).c4;clear m;have J:=iW ((1+p));have I:=iW ((1+q));go_simp;exact pF C (F.skip 1 (by decide))
    refine rN rfl (λ L f A H d l j U F K C=>?_) ?_
    ·have cr:=U.v 1 47;have m:=F.sq (λ h=>d (j 11 2 (by kernel_rfl) h));obtain⟨q0,q1,q2,q3⟩:=((V.out.nth0 0 rfl).grown m.gr (λ k G=>by simp at G;omega)).c4;clear m;have J:=iW ((1+p));have I:=iW ((1+q));go_simp;exact pF C (F.skip 2 (by decide))
    refine rN rfl (λ L f A H d l j U F K C=>?_) ?_
    ·have ct:=U.v 0 46;have co:=U.v 2 48;have O:=(F.sq (λ h=>d (j 11 3 (by kernel_rfl) h))).at_ 0 rfl rfl d pv0;go_simp;refine(nextK O a8.out.nx (by omega)).mono ?_;rintro e w6 ⟨rfl,ac,aa,-⟩;exact pF C (F.call (λ h=>d (j 11 3 (by kernel_rfl) h)) rfl (i:=0) rfl d pv0 (by decide) ac aa)
    refine rN rfl (λ L f A H d l j U F K C=>?_) ?_
    ·have cn:=U.v 3 49;have m:=F.sq (λ h=>d (j 11 4 (by kernel_rfl) h));clear m;have J:=iW ((1+p));have I:=iW ((1+q));go_simp;exact pF C (F.skip 4 (by decide))
    refine rN rfl (λ L f A H d l j U F K C=>?_) ?_
    ·have e0:=U.w 0 (pT g 0);have m:=F.sq (λ h=>d (j 11 5 (by kernel_rfl) h));obtain⟨q0,q1,q2,q3⟩:=((V.out.nth0 0 rfl).grown m.gr (λ k G=>by simp at G;omega)).c4;clear m;have J:=iW ((1+p));have I:=iW ((1+q));go_simp;exact pF C (F.skip 5 (by decide))
    refine rN rfl (λ L f A H d l j U F K C=>?_) ?_
    ·have e4:=U.w 4 (pT w.heap.size 0);have m:=F.sq (λ h=>d (j 11 6 (by kernel_rfl) h));obtain⟨q0,q1,q2,q3⟩:=((V.out.nth0 0 rfl).grown m.gr (λ k G=>by simp at G;omega)).c4;clear m;have J:=iW ((1+p));have I:=iW ((1+q));go_simp;exact pF C (F.skip 6 (by decide))
    refine rN rfl (λ L f A H d l j U F K C=>?_) ?_
    ·have ck:=U.v 6 52;have m:=F.sq (λ h=>d (j 11 7 (by kernel_rfl) h));obtain⟨q0,q1,q2,q3⟩:=((V.out.nth0 0 rfl).grown m.gr (λ k G=>by simp at G;omega)).c4;clear m;have J:=iW ((1+p));have I:=iW ((1+q));go_simp;exact pF C (F.skip 7 (by decide))
    refine rN rfl (λ L f A H d l j U F K C=>?_) ?_
    ·have cl:=U.v 5 51;have cj:=U.v 7 53;have O:=(F.sq (λ h=>d (j 11 8 (by kernel_rfl) h))).at_ 1 rfl rfl d (pv1 rfl (bK l 3));go_simp;refine(nextK O a7.out.nx (by omega)).mono ?_;rintro e w6 ⟨rfl,ac,aa,-⟩;exact pF C (F.call (λ h=>d (j 11 8 (by kernel_rfl) h)) rfl (i:=1) rfl d (pv1 rfl (bK l 3)) (by decide) ac aa)
    refine rN rfl (λ L f A H d l j U F K C=>?_) ?_
    ·have ci:=U.v 8 54;have m:=F.sq (λ h=>d (j 11 9 (by kernel_rfl) h));clear m;have J:=iW ((1+p));have I:=iW ((1+q));go_simp;exact pF C (F.skip 9 (by decide))
    refine rN rfl (λ L f A H d l j U F K C=>?_) ?_
    ·have cm:=U.v 4 50;have ch:=U.v 9 55;have m:=F.sq (λ h=>d (j 11 10 (by kernel_rfl) h));clear m;have J:=iW ((1+p));have I:=iW ((1+q));go_simp;exact pF C (F.skip 10 (by decide))
    refine rN rfl (λ L f A H d l j U F K C=>?_) ?_
    ·have e6:=U.w 6 (pT (w.heap.size+2) 0);have bz:=U.v 10 56;have hE:=(F.sq d).end_ 2 rfl rfl rfl (al2 (bK l 3) (bK l 8));have K9:=V.out.next hE.1 hE.2;have Z:=K9.nth 2 rfl;refine wp_sm 28 _ _ rfl (w.heap.size+2) 0 [iL 1,iL (1+p),iL (1+q),.slice none 0 0,iL 0] _ (ev e6) (ev bz) 28 Z (by kernel_rfl) lR rfl ?_;exact C.out undef _ (Pl.any rfl) (SqA.last (K9.grown 2 (row_cells _ _ _ _ Z) (grown_cells _ _ _ _)))
    exact RelFrom.nil (by decide)
   intro f H hp F;simp only [Fr,Act.put,sX,Nat.reduceAdd];have K:=F.fin trivial;clear F hp V;have Z:=K.nth 2 rfl;obtain⟨z0,z1,z2,z3,z4⟩:=Z.c5;have ad:=Z.lt
   repeat (first | go_values | go_skip | go_step | go_upon)
   refine bodyPost_ret (v:=.agg #[iL 1,iL (1+p),iL (1+q),.slice none 0 0,iL 0]) (by simp [results,results22,go_sem,z0,z1,z2,z3,z4]) rfl ?_;exact⟨⟨1,1+p,1+q,[],0⟩,s6,none,0,rfl,HE.out,⟨RdF.nil _ _ _ _ _,Nat.zero_le 4⟩,K.D,K.gr⟩
  have eh:(x.g.ph == 0)=false:=by simp [e1]
  go_wp2_with fail;refine(nextX K.D (16) (by decide)).mono ?_;rintro e be ⟨y,am,⟨rfl,bN,aO,-,aS⟩,O,hg,-⟩;have aO:=aO (by decide);have K:=K.next O hg;have M:=M.grown hg (λ k G=>by simp at G;omega);clear O hg y0 y1 y2 y3 y4 y5 y6 y7 y8 y9 ah ag ai rm eh et;by_cases e2:y=0
  ·subst e2;go_wp2_with fail;refine(nextX K.D (3) (by decide)).mono ?_;rintro e bd ⟨z,aD,⟨rfl,bb,al,-,aE⟩,O,hg,-⟩;have al:=al (by decide);have K:=K.next O hg;have M:=M.grown hg (λ k G=>by simp at G;omega);clear O hg;have Z:=K.nth 2 rfl;go_wp2_with (refine wM 28 0 [iL 3,iL 0,iL 0,.slice none 0 0,iL (1+z)] Z ?_;intro w7 s7 ae z7;refine Hid.out ?_);have K:=K.grown 2 s7 ae;obtain⟨z0,z1,z2,z3,z4⟩:=s7.c5;have ad:=s7.lt;clear ae Z;refine kD ?_
   repeat (first | go_values | go_skip | go_step | go_upon)
   refine bodyPost_ret (v:=.agg #[iL 3,iL 0,iL 0,.slice none 0 0,iL (1+z)]) (by simp [results,results22,go_sem,z0,z1,z2,z3,z4]) rfl ?_;exact⟨⟨3,0,0,[],1+z⟩,aD,none,0,rfl,ev_of av.out.nx ar.out.nx ak.out aw (ev_2 e0 e1 aS aE),⟨RdF.nil _ _ _ _ _,Nat.zero_le 4⟩,K.D,K.gr⟩
  have ey:(y == 0)=false:=by simp [e2]
  have HE:=kD (λ(R:Ev × St) (h:turn28 xs v x (Y,X) am=R)=>ev_of av.out.nx ar.out.nx ak.out aw (ev_3 e0 e1 aS e2 h));clear e1 e2;obtain⟨q0,q1,q2,q3⟩:=(K.nth0 0 rfl).c4;have br:=(K.nth0 0 rfl).lt;have rm:=K.nth 1 rfl;obtain⟨y0,y1,y2,y3,y4,y5,y6,y7,y8,y9,ah,ag⟩:=row12 rm;have ai:=rm.lt;obtain⟨f0,f1⟩:=M.c2;have ad:=M.lt;obtain⟨R,aq⟩:=eX (APl v x.g.b Y X);have ba:=CP.out _ (Still.grown K.gr (λ k G hs=>by simp at G;exact hSg (G ▸ hs))) R aq;have ab:=bG.out;rw [aq] at ab;clear aq;have a5:=kD ab;clear ab;go_wp2_with fail;refine ba.mono ?_;rintro e wp ⟨pv,rfl,aK,aM⟩;have bL:=K.gr.size;have bJ:=(K.nth 2 rfl).lt;have K:=K.below aM;have M:=M.below aM M.lt;clear q0 q1 q2 q3 br y0 y1 y2 y3 y4 y5 y6 y7 y8 y9 ah ag ai rm f0 f1 ad aM ba ey;by_cases hf:(allP v x.g.b Y X).2=false
  ·have ab:=a5.out;rw [if_pos hf] at ab;subst ab;have bB:=kD (turn_0 (xs:=xs) (s:=am) (r:=(Y,X)) hf);clear hf aK;obtain⟨f0,f1⟩:=M.c2;have ad:=M.lt;have Z:=K.nth 2 rfl;go_wp2_with (refine wM 28 0 [iL 2,iL Y,iL X,.slice none 0 0,iL 0] Z ?_;intro w7 s7 ae z7;refine Hid.out ?_);have K:=K.grown 2 s7 ae;obtain⟨z0,z1,z2,z3,z4⟩:=s7.c5;have ad:=s7.lt;clear ae Z;refine kD ?_
   repeat (first | go_values | go_skip | go_step | go_upon)
   refine bodyPost_ret (v:=.agg #[iL 2,iL Y,iL X,.slice none 0 0,iL 0]) (by simp [results,results22,go_sem,z0,z1,z2,z3,z4]) rfl ?_;exact⟨⟨2,Y,X,[],0⟩,am,none,0,rfl,HE.out _ bB.out,⟨RdF.nil _ _ _ _ _,Nat.zero_le 4⟩,K.D,K.gr⟩
  have ab:=a5.out;rw [if_neg hf] at ab;subst ab;have a2:(allP v x.g.b Y X).2=true:=by simpa using hf
  have an:=aC.out.2;have aA:=kD (λ(s':St) (k:Nat) (ss:List Stp) (c:Bd) (n1:Nx xs am (allP v x.g.b Y X).1.length (k:Int) s') (G:(allP v x.g.b Y X).1[k]?=some (ss,c))=>HE.out _ (turn_1 (r:=(Y,X)) a2 n1 G));obtain⟨ps,aH⟩:=eX ((allP v x.g.b Y X).1);have aN:=aC.out.1;rw [aH] at aA an aK aN;simp only [aH];clear hf a2 aH;obtain⟨n,hn⟩:=eX (ps.length);rw [hn] at aA an;obtain⟨z,s5,NZ⟩:=K.D.gd.nb (n:Int);have z0:=NZ.ge;have z1:=NZ.lt (by omega);obtain⟨k,rfl⟩:∃ k:Nat,z=k:=⟨z.toNat,by omega⟩;have b3:k<n:=by omega
  have a6:=kD NZ;obtain⟨⟨ss,bc⟩,ay⟩:∃ p,ps[k]?=some p:=⟨ps[k]'(by omega),List.getElem?_eq_getElem _⟩;have bE:=kD (aN _ (List.mem_of_getElem? ay)).2;obtain⟨rs,aJ,aL⟩:=aK;have aU:rs.length=n:=by rw [aL.1,hn]
  obtain⟨⟨r0,rl,rh⟩,aG⟩:∃ p,rs[k]?=some p:=⟨rs[k]'(by omega),List.getElem?_eq_getElem _⟩;obtain⟨N,cq,aV,aI,ap⟩:=own_at enP_len aJ aG;rw [aU] at aV;subst aV;obtain⟨pq,aW,hrel⟩:=aL.at_ aG;rw [ay] at aW;obtain rfl:=Option.some.inj aW;obtain⟨As,cs,a3,ax,-⟩:=hrel.1.sl enSt_len;simp only at a3;subst a3;have az:=ap 0 _ rfl;rw [Nat.add_zero] at az;have Q:=kD az;have bD:=kD (ax.weak (S':=λ b=>w.heap.size<=b∧b≠w.heap.size+2) (λ b hb _=>by have:=hb.2;omega));have bZ:n<=9223372036854775807:=by obtain⟨_,_,_,bn⟩:=aJ.form enP_len;have:=bn.len;omega
  have bF:=kD (aA.out s5 k ss bc a6.out.nx ay);obtain⟨sl,aF⟩:=eX (ss.length);rw [aF] at az Q;have bC:=kD aF;have E:=aI.2;have bM:=aI.1;clear aN aF NZ ay aG aL aJ hrel ap ax aI az aA hn aU an z0 z1;go_upto_region 13 with fail;have V:=kD K;have af:=kD M;have bY:=K.gr.size;have bX:=(K.nth 2 rfl).lt;clear K M;refine region_rel [some 81,some 82,some 83,some 84,some 85,some 86,some 87,some 88,some 89,some 90,some 91,some 92,some 93,none] 14 (Pl [some (pT q7 0),some (iL Y),some (pT q7 1),some (iL X),some (.slice (sA N 0) n cq),some (pT g 0),some (.slice (sA N 0) n cq),some (iL (n:Int)),some (iL (k:Int)),some (pT N (k*3)),some (pT N (k*3)),some (.slice As sl cs),some (.agg #[iL 2,iL Y,iL X,.slice As sl cs,iL 0]),none]) (λ L f w'=>SqA w0 wp B g A cp xs [am,s5] L [8] (L 13) (λ W=>Rx w0 w B g A cp xs s5 [(0,25,vL v),(1,57,[.slice A0 2 c0,iL x.gs,.slice A1 n1 c1,.slice A2 n2 c2,iL x.g.pl,iL x.g.x,iL x.g.y,iL x.g.ph,iL x.g.wn,iL x.g.rs,iL x.g.tn,.bool x.ov]),(2,28,[iL 2,iL Y,iL X,.slice As sl cs,iL 0])] W∧RdF W (λ b=>w.heap.size<=b) 4 enSt As ss) w') (by kernel_rfl) (by kernel_rfl) (by kernel_rfl) (by kernel_rfl) (by kernel_rfl) (by kernel_rfl) (by first | kernel_rfl | rfl) ?g0_3 ?gst_3 ?gfin_3
  case g0_3=>exact SqA.start V.out.D rfl (by decide) (by decide)
  case gst_3 =>
   refine rN rfl (λ L f A H d l j U F K C=>?_) ?_
   ·have e7:=U.w 7 (pT q7 0);have m:=F.sq (λ h=>d (j 13 0 (by kernel_rfl) h));obtain⟨f0,f1⟩:=(af.out.grown m.gr (λ k G=>by simp at G;omega)).c2;have c0:=(World.cell?_of_block (a:=⟨N,k*3,none⟩) (m.gr.block N E (by simp;omega))).trans Q.out;have T:=Nat.lt_of_lt_of_le E m.gr.size;clear m;go_simp;exact pF C (F.skip 0 (by decide))
   refine rN rfl (λ L f A H d l j U F K C=>?_) ?_
   ·have cg:=U.v 0 81;have m:=F.sq (λ h=>d (j 13 1 (by kernel_rfl) h));obtain⟨f0,f1⟩:=(af.out.grown m.gr (λ k G=>by simp at G;omega)).c2;have c0:=(World.cell?_of_block (a:=⟨N,k*3,none⟩) (m.gr.block N E (by simp;omega))).trans Q.out;have T:=Nat.lt_of_lt_of_le E m.gr.size;clear m;go_simp;exact pF C (F.skip 1 (by decide))
   refine rN rfl (λ L f A H d l j U F K C=>?_) ?_
   ·have e7:=U.w 7 (pT q7 0);have m:=F.sq (λ h=>d (j 13 2 (by kernel_rfl) h));obtain⟨f0,f1⟩:=(af.out.grown m.gr (λ k G=>by simp at G;omega)).c2;have c0:=(World.cell?_of_block (a:=⟨N,k*3,none⟩) (m.gr.block N E (by simp;omega))).trans Q.out;have T:=Nat.lt_of_lt_of_le E m.gr.size;clear m;go_simp;exact pF C (F.skip 2 (by decide))
   refine rN rfl (λ L f A H d l j U F K C=>?_) ?_
   ·have ce:=U.v 2 83;have m:=F.sq (λ h=>d (j 13 3 (by kernel_rfl) h));obtain⟨f0,f1⟩:=(af.out.grown m.gr (λ k G=>by simp at G;omega)).c2;have c0:=(World.cell?_of_block (a:=⟨N,k*3,none⟩) (m.gr.block N E (by simp;omega))).trans Q.out;have T:=Nat.lt_of_lt_of_le E m.gr.size;clear m;go_simp;exact pF C (F.skip 3 (by decide))
   refine rN rfl (λ L f A H d l j U F K C=>?_) ?_
   ·have e8:=U.w 8 (.slice (sA N 0) n cq);have m:=F.sq (λ h=>d (j 13 4 (by kernel_rfl) h));have c0:=(World.cell?_of_block (a:=⟨N,k*3,none⟩) (m.gr.block N E (by simp;omega))).trans Q.out;have T:=Nat.lt_of_lt_of_le E m.gr.size;clear m;go_simp;exact pF C (F.skip 4 (by decide))
   refine rN rfl (λ L f A H d l j U F K C=>?_) ?_
   ·have e0:=U.w 0 (pT g 0);have m:=F.sq (λ h=>d (j 13 5 (by kernel_rfl) h));obtain⟨f0,f1⟩:=(af.out.grown m.gr (λ k G=>by simp at G;omega)).c2;have c0:=(World.cell?_of_block (a:=⟨N,k*3,none⟩) (m.gr.block N E (by simp;omega))).trans Q.out;have T:=Nat.lt_of_lt_of_le E m.gr.size;clear m;go_simp;exact pF C (F.skip 5 (by decide))
   refine rN rfl (λ L f A H d l j U F K C=>?_) ?_
   ·have e8:=U.w 8 (.slice (sA N 0) n cq);have m:=F.sq (λ h=>d (j 13 6 (by kernel_rfl) h));have c0:=(World.cell?_of_block (a:=⟨N,k*3,none⟩) (m.gr.block N E (by simp;omega))).trans Q.out;have T:=Nat.lt_of_lt_of_le E m.gr.size;clear m;go_simp;exact pF C (F.skip 6 (by decide))
   refine rN rfl (λ L f A H d l j U F K C=>?_) ?_
   ·have ca:=U.v 6 87;have m:=F.sq (λ h=>d (j 13 7 (by kernel_rfl) h));have c0:=(World.cell?_of_block (a:=⟨N,k*3,none⟩) (m.gr.block N E (by simp;omega))).trans Q.out;have T:=Nat.lt_of_lt_of_le E m.gr.size;clear m;go_simp;exact pF C (F.skip 7 (by decide))
   refine rN rfl (λ L f A H d l j U F K C=>?_) ?_
   ·have cb:=U.v 5 86;have b9:=U.v 7 88;have O:=(F.sq (λ h=>d (j 13 8 (by kernel_rfl) h))).at_ 0 rfl rfl d pv0;go_simp;refine(nextK O a6.out.nx (by omega)).mono ?_;rintro e w6 ⟨rfl,ac,aa,-⟩;exact pF C (F.call (λ h=>d (j 13 8 (by kernel_rfl) h)) rfl (i:=0) rfl d pv0 (by decide) ac aa)
   refine rN rfl (λ L f A H d l j U F K C=>?_) ?_
   ·have cc:=U.v 4 85;have b8:=U.v 8 89;have m:=F.sq (λ h=>d (j 13 9 (by kernel_rfl) h));have c0:=(World.cell?_of_block (a:=⟨N,k*3,none⟩) (m.gr.block N E (by simp;omega))).trans Q.out;have T:=Nat.lt_of_lt_of_le E m.gr.size;clear m;go_simp;exact pF C (F.skip 9 (by decide))
   refine rN rfl (λ L f A H d l j U F K C=>?_) ?_
   ·have b7:=U.v 9 90;have m:=F.sq (λ h=>d (j 13 10 (by kernel_rfl) h));obtain⟨f0,f1⟩:=(af.out.grown m.gr (λ k G=>by simp at G;omega)).c2;have c0:=(World.cell?_of_block (a:=⟨N,k*3,none⟩) (m.gr.block N E (by simp;omega))).trans Q.out;have T:=Nat.lt_of_lt_of_le E m.gr.size;clear m;go_simp;exact pF C (F.skip 10 (by decide))
   refine rN rfl (λ L f A H d l j U F K C=>?_) ?_
   ·have b6:=U.v 10 91;have m:=F.sq (λ h=>d (j 13 11 (by kernel_rfl) h));obtain⟨f0,f1⟩:=(af.out.grown m.gr (λ k G=>by simp at G;omega)).c2;have c0:=(World.cell?_of_block (a:=⟨N,k*3,none⟩) (m.gr.block N E (by simp;omega))).trans Q.out;have T:=Nat.lt_of_lt_of_le E m.gr.size;clear m;go_simp;exact pF C (F.skip 11 (by decide))
   refine rN rfl (λ L f A H d l j U F K C=>?_) ?_
   ·have cf:=U.v 1 82;have cd:=U.v 3 84;have b5:=U.v 11 92;have m:=F.sq (λ h=>d (j 13 12 (by kernel_rfl) h));have c0:=(World.cell?_of_block (a:=⟨N,k*3,none⟩) (m.gr.block N E (by simp;omega))).trans Q.out;have T:=Nat.lt_of_lt_of_le E m.gr.size;clear m;go_simp;exact pF C (F.skip 12 (by decide))
   refine rN rfl (λ L f A H d l j U F K C=>?_) ?_
   ·have e6:=U.w 6 (pT (w.heap.size+2) 0);have bv:=U.v 12 93;have hE:=(F.sq d).end_ 1 rfl rfl rfl (al1 (bK l 8));have K9:=V.out.next hE.1 hE.2;have Z:=K9.nth 2 rfl;refine wp_sm 28 _ _ rfl (w.heap.size+2) 0 [iL 2,iL Y,iL X,.slice As sl cs,iL 0] _ (ev e6) (ev bv) 28 Z (by kernel_rfl) lR rfl ?_;exact C.out undef _ (Pl.any rfl) (SqA.last ⟨K9.grown 2 (row_cells _ _ _ _ Z) (grown_cells _ _ _ _),((bD.out.keep (Still.grown hE.2 (λ k G hs=>by simp at G;omega))).keep (Still.grown (grown_cells _ _ _ _) (λ k G hs=>by simp at G;omega))).weak (λ _ hb _=>hb.1)⟩)
   exact RelFrom.nil (by decide)
  intro f H hp F;simp only [Fr,Act.put,sX,Nat.reduceAdd];obtain⟨K,ax⟩:=F.fin trivial;clear F hp V af;obtain rfl:=bC.out;have Z:=K.nth 2 rfl;obtain⟨z0,z1,z2,z3,z4⟩:=Z.c5;have ad:=Z.lt
  repeat (first | go_values | go_skip | go_step | go_upon)
  refine bodyPost_ret (v:=.agg #[iL 2,iL Y,iL X,.slice As ss.length cs,iL 0]) (by simp [results,results22,go_sem,z0,z1,z2,z3,z4]) rfl ?_;exact⟨⟨2,Y,X,ss,0⟩,s5,As,cs,rfl,bF.out,⟨ax,bE.out⟩,K.D,K.gr⟩
end
end DwB
end Go.Proofs.YtjdefiinmicjiaaGreatDoor
