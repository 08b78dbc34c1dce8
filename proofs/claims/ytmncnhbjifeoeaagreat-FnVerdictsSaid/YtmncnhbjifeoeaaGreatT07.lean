/- Parts of the proof of FnVerdicts. Conditions: each theorem's own. -/
import Derived.Test.YtmncnhbjifeoeaaGreatT06
set_option linter.unusedVariables false
set_option linter.unusedSimpArgs false
set_option maxHeartbeats 8000000
set_option maxRecDepth 100000
namespace Go.Proofs.YtmncnhbjifeoeaaGreat
namespace DwA
open Go Go.ChangeShapes Go.WideShapes Go.ChangeAt Go.RowKit Base Ints Own Draw DrawD RegF RegG DwP DwQ PlP
theorem full_x (w:World):Calls Tryz.prog 158 #[] w λ e w'=>e=.returned (.agg #[.int .i64 24,.int .i64 15,.int .i64 6,.int .i64 6])∧Below w.heap.size w w':=by
 go_enter Tryz.func158,Tryz.ntmps158;go_wp2_with fail;go_returns;exact⟨rfl,by go_grown⟩
section
variable {w0 w:World} {B g cp:Nat} {A:Option Addr} {xs:List Int} {st:Nat × Int}
def VEnd (f:Vr->St->Prop) (w0 w:World) (B g:Nat) (A:Option Addr) (cp:Nat) (xs:List Int) (e:Ending) (w':World):Prop :=
 ∃(v:Vr) (st':St),e=.returned (.agg #[.int .i64 v.p,.int .i64 v.c,.int .i64 v.h,.int .i64 v.s])∧f v st'∧Dx w0 B g A cp xs st' w'∧w.grownBy w' (some g)
theorem pickV {W:World} {b:Nat} {e:TypeId} {zs:List Int} (h:RowB W b e (zs.map (Value.int .i64))) {m:Nat} (hm:m<zs.length):W.cell? ⟨b,m,none⟩=some (.int .i64 (zs.getD m 0)):=by
 rw [h.cell,List.getElem?_map,List.getD_eq_getElem?_getD,List.getElem?_eq_getElem hm];rfl
theorem full_ok:okV fullV=true∧4<=fullV.p:=⟨by decide,by decide⟩
theorem v08_x (h:Dx w0 B g A cp xs st w):Calls Tryz.prog 139 #[.pointer (some ⟨g,0,none⟩)] w λ e w'=>VEnd (λ v st'=>v08 xs st=(v,st')∧okV v=true∧4<=v.p) w0 w B g A cp xs e w':=by
 go_enter Tryz.func139,Tryz.ntmps139;go_wp2_with fail;have K:Ru w0 w B g A cp xs st 25 [.int .i64 0,.int .i64 0,.int .i64 0,.int .i64 0] _:=Ru.start h;refine(nextX K.D (6) (by decide)).mono ?_;rintro e ad ⟨a,R,⟨rfl,ak,E,-,t⟩,f,b,-⟩;have E:=E (by decide);have K:=K.next f b;clear f b h;by_cases e0:a=0
 ·subst e0;go_wp2_with fail;refine(full_x _).mono ?_;rintro e w2 ⟨rfl,hb⟩;have K:=K.below hb;clear hb;have r:=K.rr;go_wp2_with (refine wM 25 0 [.int .i64 24,.int .i64 15,.int .i64 6,.int .i64 6] r ?_;intro w7 n j z7;refine Hid.out ?_);have K:=K.res n j;obtain⟨O,N,M,L⟩:=n.c4;have Y:=n.lt;clear j r;refine kD ?_
  repeat (first | go_values | go_skip | go_step | go_upon)
  refine bodyPost_ret (v:=.agg #[.int .i64 24,.int .i64 15,.int .i64 6,.int .i64 6]) (by simp [results,Tryz.results139,go_sem,O,N,M,L]) rfl ?_;exact⟨fullV,R,rfl,⟨v08_0 t,full_ok⟩,K.D,K.gr⟩
 ·have e1:(a == 0)=false:=by simp [e0]
  go_wp2_with fail;refine(nextX K.D (5) (by decide)).mono ?_;rintro e ac ⟨p,ae,⟨rfl,ag,s,-,S⟩,f,b,-⟩;have s:=s (by decide);have K:=K.next f b;clear f b;go_wp2_with fail;refine(nextX K.D (4) (by decide)).mono ?_;rintro e ab ⟨c,af,⟨rfl,aj,C,-,W⟩,f,b,-⟩;have C:=C (by decide);have K:=K.next f b;clear f b;go_wp2_with fail;refine(nextX K.D (3) (by decide)).mono ?_;rintro e P ⟨d,Q,⟨rfl,ai,z,-,V⟩,f,b,-⟩;have z:=z (by decide);have K:=K.next f b;clear f b;go_upto_region 4 with fail;obtain⟨g3,m⟩:∃ q,P.heap.size=q:=⟨_,rfl⟩;have X:w.heap.size<g3:=by rw [<-m];exact K.rr.lt
  refine wp_gen (λ F=>Ru w0 w B g A cp xs Q 25 [.int .i64 0,.int .i64 0,.int .i64 0,.int .i64 0] F∧RowB F g3 25 [.int .i64 (4+p),.int .i64 (1+c),.int .i64 0,.int .i64 (2+d)]) ⟨K.alloc _,by rw [<-m];exact RowB.new _ _ _⟩ ?_
  try simp only [m]
  clear K m;rintro w4 ⟨K,i⟩;obtain⟨J,I,H,G⟩:=i.c4;have l:=i.lt;have ht:Int.tdiv (4+p) 2=(4+p) / 2:=by rw [Int.tdiv_eq_ediv_of_nonneg (by omega)]
  go_wp2_with fail;refine(nextX K.D ((4+p) / 2) (by omega)).mono ?_;rintro e aa ⟨h,o,⟨rfl,ah,y,-,T⟩,f,b,-⟩;have y:=y (by omega);have K:=K.next f b;have x:=b;clear f b J I H G l;have i:=i.grown x (λ k hk=>by simp at hk;have:=K.lt;omega);clear x;obtain⟨J,I,H,G⟩:=i.c4;have l:=i.lt;have Z:=i.frozen;go_upto_region 5 with fail;refine wp_gen (λ F=>Ru w0 w B g A cp xs o 25 [.int .i64 0,.int .i64 0,.int .i64 0,.int .i64 0] F∧RowB F g3 25 [.int .i64 (4+p),.int .i64 (1+c),.int .i64 (1+h),.int .i64 (2+d)]) ⟨K.put X (Base.grownBy_setCell _ _ _ _),i.set 2 _⟩ ?_;clear K J I H G l Z i;rintro w6 ⟨K,i⟩;obtain⟨J,I,H,G⟩:=i.c4;have l:=i.lt;have r:=K.rr;go_wp2_with (refine wM 25 0 [.int .i64 (4+p),.int .i64 (1+c),.int .i64 (1+h),.int .i64 (2+d)] r ?_;intro w7 n j z7;refine Hid.out ?_);have K:=K.res n j;obtain⟨O,N,M,L⟩:=n.c4;have Y:=n.lt;clear j r;refine kD ?_
  repeat (first | go_values | go_skip | go_step | go_upon)
  refine bodyPost_ret (v:=.agg #[.int .i64 (4+p),.int .i64 (1+c),.int .i64 (1+h),.int .i64 (2+d)]) (by simp [results,Tryz.results139,go_sem,O,N,M,L]) rfl ?_;exact⟨⟨4+p,1+c,1+h,2+d⟩,o,rfl,⟨v08_1 t e0 S W V T,by unfold okV;simp only [decide_eq_true_eq];omega,by show 4<=4+p;omega⟩,K.D,K.gr⟩
theorem v01s_x (h:Dx w0 B g A cp xs st w):Calls Tryz.prog 163 #[.pointer (some ⟨g,0,none⟩)] w λ e w'=>VEnd (λ v st'=>v01s xs st=(v,st')∧2<=v.p∧v.p<=24) w0 w B g A cp xs e w':=by
 go_enter Tryz.func163,Tryz.ntmps163;go_wp2_with fail;have K:Ru w0 w B g A cp xs st 25 [.int .i64 0,.int .i64 0,.int .i64 0,.int .i64 0] _:=Ru.start h;refine(nextX K.D (5) (by decide)).mono ?_;rintro e Y ⟨p,Z,⟨rfl,ab,m,-,I⟩,f,a,-⟩;have m:=m (by decide);have K:=K.next f a;clear f a h;go_wp2_with fail;refine(nextX K.D (3) (by decide)).mono ?_;rintro e X ⟨c,aa,⟨rfl,af,t,-,M⟩,f,a,-⟩;have t:=t (by decide);have K:=K.next f a;clear f a;go_wp2_with fail;refine(nextX K.D (3) (by decide)).mono ?_;rintro e F ⟨d,G,⟨rfl,ae,s,-,L⟩,f,a,-⟩;have s:=s (by decide);have K:=K.next f a;clear f a;go_upto_region 2 with fail;obtain⟨P,j⟩:∃ q,F.heap.size=q:=⟨_,rfl⟩;have N:w.heap.size<P:=by rw [<-j];exact K.rr.lt
 refine wp_gen (λ x=>Ru w0 w B g A cp xs G 25 [.int .i64 0,.int .i64 0,.int .i64 0,.int .i64 0] x∧RowB x P 25 [.int .i64 (2+p),.int .i64 (1+c),.int .i64 0,.int .i64 (1+d)]) ⟨K.alloc _,by rw [<-j];exact RowB.new _ _ _⟩ ?_
 try simp only [j]
 clear K j;rintro w4 ⟨K,b⟩;obtain⟨E,C,z,y⟩:=b.c4;have i:=b.lt;go_wp2_with fail;refine(nextX K.D (2+p) (by omega)).mono ?_;rintro e W ⟨h,l,⟨rfl,ad,o,-,J⟩,f,a,-⟩;have o:=o (by omega);have K:=K.next f a;have n:=a;clear f a E C z y i;have b:=b.grown n (λ k hk=>by simp at hk;have:=K.lt;omega);clear n;obtain⟨E,C,z,y⟩:=b.c4;have i:=b.lt;have O:=b.frozen;go_upto_region 3 with fail;refine wp_gen (λ x=>Ru w0 w B g A cp xs l 25 [.int .i64 0,.int .i64 0,.int .i64 0,.int .i64 0] x∧RowB x P 25 [.int .i64 (2+p),.int .i64 (1+c),.int .i64 (1+h),.int .i64 (1+d)]) ⟨K.put N (Base.grownBy_setCell _ _ _ _),b.set 2 _⟩ ?_;clear K E C z y i O b;rintro w6 ⟨K,b⟩;obtain⟨E,C,z,y⟩:=b.c4;have i:=b.lt;have Q:=K.rr;go_wp2_with (refine wM 25 0 [.int .i64 (2+p),.int .i64 (1+c),.int .i64 (1+h),.int .i64 (1+d)] Q ?_;intro w7 H r z7;refine Hid.out ?_);have K:=K.res H r;obtain⟨V,T,S,R⟩:=H.c4;have ac:=H.lt;clear r Q;refine kD ?_
 repeat (first | go_values | go_skip | go_step | go_upon)
 refine bodyPost_ret (v:=.agg #[.int .i64 (2+p),.int .i64 (1+c),.int .i64 (1+h),.int .i64 (1+d)]) (by simp [results,Tryz.results163,go_sem,V,T,S,R]) rfl ?_;exact⟨⟨2+p,1+c,1+h,1+d⟩,l,rfl,⟨v01s_0 I M L J,by show 2<=2+p;omega,by show 2+p<=24;omega⟩,K.D,K.gr⟩
theorem v01v_x (h:Dx w0 B g A cp xs st w):Calls Tryz.prog 140 #[.pointer (some ⟨g,0,none⟩)] w λ e w'=>VEnd (λ v st'=>v01v xs st=(v,st')∧2<=v.p∧v.p<=24) w0 w B g A cp xs e w':=by
 go_enter Tryz.func140,Tryz.ntmps140;go_wp2_with fail;have K:Ru w0 w B g A cp xs st 25 [.int .i64 0,.int .i64 0,.int .i64 0,.int .i64 0] _:=Ru.start h;refine(nextX K.D (4) (by decide)).mono ?_;rintro e ae ⟨a,T,⟨rfl,al,L,-,r⟩,f,b,-⟩;have L:=L (by decide);have K:=K.next f b;clear f b h;by_cases e0:a=0
 ·subst e0;go_wp2_with fail;refine(full_x _).mono ?_;rintro e w2 ⟨rfl,hb⟩;have K:=K.below hb;clear hb;have o:=K.rr;go_wp2_with (refine wM 25 0 [.int .i64 24,.int .i64 15,.int .i64 6,.int .i64 6] o ?_;intro w7 l i z7;refine Hid.out ?_);have K:=K.res l i;obtain⟨z,y,x,t⟩:=l.c4;have F:=l.lt;clear i o;refine kD ?_
  repeat (first | go_values | go_skip | go_step | go_upon)
  refine bodyPost_ret (v:=.agg #[.int .i64 24,.int .i64 15,.int .i64 6,.int .i64 6]) (by simp [results,Tryz.results140,go_sem,z,y,x,t]) rfl ?_;exact⟨fullV,T,rfl,⟨v01v_0 r,by decide,by decide⟩,K.D,K.gr⟩
 by_cases e1:a=1
 ·subst e1;go_wp2_with fail;refine(nextX K.D (21) (by decide)).mono ?_;rintro e ad ⟨p,af,⟨rfl,ah,E,-,V⟩,f,b,-⟩;have E:=E (by decide);have K:=K.next f b;clear f b;go_wp2_with fail;refine(nextX K.D (15) (by decide)).mono ?_;rintro e ac ⟨c,ag,⟨rfl,ak,J,-,Y⟩,f,b,-⟩;have J:=J (by decide);have K:=K.next f b;clear f b;go_wp2_with fail;refine(nextX K.D (6) (by decide)).mono ?_;rintro e R ⟨d,S,⟨rfl,aj,I,-,X⟩,f,b,-⟩;have I:=I (by decide);have K:=K.next f b;clear f b;go_upto_region 6 with fail;obtain⟨g3,n⟩:∃ q,R.heap.size=q:=⟨_,rfl⟩;have Z:w.heap.size<g3:=by rw [<-n];exact K.rr.lt
  refine wp_gen (λ M=>Ru w0 w B g A cp xs S 25 [.int .i64 0,.int .i64 0,.int .i64 0,.int .i64 0] M∧RowB M g3 25 [.int .i64 (4+p),.int .i64 (1+c),.int .i64 0,.int .i64 (1+d)]) ⟨K.alloc _,by rw [<-n];exact RowB.new _ _ _⟩ ?_
  try simp only [n]
  clear K n;rintro w4 ⟨K,j⟩;obtain⟨Q,P,O,N⟩:=j.c4;have m:=j.lt;have ht:Int.tdiv (4+p) 2=(4+p) / 2:=by rw [Int.tdiv_eq_ediv_of_nonneg (by omega)]
  go_wp2_with fail;refine(nextX K.D ((4+p) / 2) (by omega)).mono ?_;rintro e ab ⟨h,C,⟨rfl,ai,H,-,W⟩,f,b,-⟩;have H:=H (by omega);have K:=K.next f b;have G:=b;clear f b Q P O N m;have j:=j.grown G (λ k hk=>by simp at hk;have:=K.lt;omega);clear G;obtain⟨Q,P,O,N⟩:=j.c4;have m:=j.lt;have aa:=j.frozen;go_upto_region 7 with fail;refine wp_gen (λ M=>Ru w0 w B g A cp xs C 25 [.int .i64 0,.int .i64 0,.int .i64 0,.int .i64 0] M∧RowB M g3 25 [.int .i64 (4+p),.int .i64 (1+c),.int .i64 (1+h),.int .i64 (1+d)]) ⟨K.put Z (Base.grownBy_setCell _ _ _ _),j.set 2 _⟩ ?_;clear K Q P O N m aa j;rintro w6 ⟨K,j⟩;obtain⟨Q,P,O,N⟩:=j.c4;have m:=j.lt;have o:=K.rr;go_wp2_with (refine wM 25 0 [.int .i64 (4+p),.int .i64 (1+c),.int .i64 (1+h),.int .i64 (1+d)] o ?_;intro w7 l i z7;refine Hid.out ?_);have K:=K.res l i;obtain⟨z,y,x,t⟩:=l.c4;have F:=l.lt;clear i o;refine kD ?_
  repeat (first | go_values | go_skip | go_step | go_upon)
  refine bodyPost_ret (v:=.agg #[.int .i64 (4+p),.int .i64 (1+c),.int .i64 (1+h),.int .i64 (1+d)]) (by simp [results,Tryz.results140,go_sem,z,y,x,t]) rfl ?_;exact⟨⟨4+p,1+c,1+h,1+d⟩,C,rfl,⟨v01v_1 r V Y X W,by show 2<=4+p;omega,by show 4+p<=24;omega⟩,K.D,K.gr⟩
 ·have x0:(a == 0)=false:=by simp [e0]
  have x1:(a == 1)=false:=by simp [e1]
  go_wp2_with fail;refine(v01s_x K.D).mono ?_;rintro e w2 ⟨v,s2,rfl,hv,f,b⟩;have K:=K.next f b;clear f b;have o:=K.rr;go_wp2_with (refine wM 25 0 [.int .i64 v.p,.int .i64 v.c,.int .i64 v.h,.int .i64 v.s] o ?_;intro w7 l i z7;refine Hid.out ?_);have K:=K.res l i;obtain⟨z,y,x,t⟩:=l.c4;have F:=l.lt;clear i o;refine kD ?_
  repeat (first | go_values | go_skip | go_step | go_upon)
  refine bodyPost_ret (v:=.agg #[.int .i64 v.p,.int .i64 v.c,.int .i64 v.h,.int .i64 v.s]) (by simp [results,Tryz.results140,go_sem,z,y,x,t]) rfl ?_;exact⟨v,s2,rfl,⟨v01v_2 r e0 e1 hv.1,hv.2⟩,K.D,K.gr⟩
theorem v01a_x (h:Dx w0 B g A cp xs st w):Calls Tryz.prog 104 #[.pointer (some ⟨g,0,none⟩)] w λ e w'=>VEnd (λ v st'=>v01a xs st=(v,st')) w0 w B g A cp xs e w':=by
 have ac:=h.lt;go_enter Tryz.func104,Tryz.ntmps104;go_wp2_with fail;have K:Ru w0 w B g A cp xs st 25 [.int .i64 0,.int .i64 0,.int .i64 0,.int .i64 0] _:=Ru.start h;refine(v01v_x K.D).mono ?_;rintro e w1 ⟨v,s1,rfl,⟨hv,W⟩,C,n⟩;have ab:=kD W;have K:=K.next C n;clear C n h W;go_upto_region 2 with fail;refine wp_gen (λ E=>∃ Q,w1.heap.size=Q∧w.heap.size<Q∧Ru w0 w B g A cp xs s1 25 [.int .i64 0,.int .i64 0,.int .i64 0,.int .i64 0] E∧RowB E Q 25 [.int .i64 v.p,.int .i64 v.c,.int .i64 v.h,.int .i64 v.s]) ⟨_,rfl,K.rr.lt,K.alloc _,RowB.new _ _ _⟩ ?_;rintro w2 ⟨Q,Y,N,K2,f⟩;rw [Y];clear K Y;have K:=K2;clear K2;go_wp2_with fail;refine(nextX K.D (40) (by decide)).mono ?_;rintro e aa ⟨q,R,⟨rfl,ad,T,-,F⟩,C,n,-⟩;have T:=T (by decide);have K:=K.next C n;have f:=f.grown n (λ k P=>by simp at P;have:=K.lt;omega);clear C n;have H:v01v xs st=(v,s1):=hv;obtain⟨y,x,t,r⟩:=f.c4;have a:=f.lt;have i:=f.frozen;by_cases e0:q=0
 ·subst e0;go_wp2_with fail;refine(nextX (K.alloc _).D 4 (by decide)).mono ?_;rintro e S ⟨k,o,⟨rfl,V,l,-,G⟩,C,n,-⟩;have l:=l (by decide);have K:=(K.alloc _).next C n;have f:=(f.alloc _).grown n (λ k P=>by simp at P;have:=K.lt;omega);have rb:=(RowB.new aa 2 [.int .i64 1,.int .i64 25,.int .i64 (-1),.int .i64 24]).grown n (λ k P=>by simp at P;have:=K.D.lt;omega);obtain⟨m,rfl⟩:∃ m:Nat,k=m:=⟨k.toNat,by omega⟩;have X:=pickV (zs:=[1,25,-1,24]) rb (show m<_ from by simp;omega);rw [show ([1,25,-1,24]:List Int).getD m 0=badP m from rfl] at X;have af:(m:Int)<4:=l;have ag:=rb.lt;clear C n y x t r a i;obtain⟨y,x,t,r⟩:=f.c4;have a:=f.lt;have i:=f.frozen;go_upto_region 11 with fail;refine wp_gen (λ E=>Ru w0 w B g A cp xs o 25 [.int .i64 0,.int .i64 0,.int .i64 0,.int .i64 0] E∧RowB E Q 25 [.int .i64 (badP m),.int .i64 v.c,.int .i64 v.h,.int .i64 v.s]) ⟨K.put N (Base.grownBy_setCell _ _ _ _),f.set 0 _⟩ ?_;clear K f;rintro w6 ⟨K,d⟩;clear y x t r a i;obtain⟨y,x,t,r⟩:=d.c4;have a:=d.lt;have z:=K.rr;go_wp2_with (refine wM 25 0 [.int .i64 (badP m),.int .i64 v.c,.int .i64 v.h,.int .i64 v.s] z ?_;intro w7 j b Z;refine Hid.out ?_);have K:=K.res j b;obtain⟨M,L,J,I⟩:=j.c4;have O:=j.lt;clear b z;refine kD ?_
  repeat (first | go_values | go_skip | go_step | go_upon)
  refine bodyPost_ret (v:=.agg #[.int .i64 (badP m),.int .i64 v.c,.int .i64 v.h,.int .i64 v.s]) (by simp [results,Tryz.results104,go_sem,M,L,J,I]) rfl ?_;exact⟨⟨badP m,v.c,v.h,v.s⟩,o,rfl,v01a_of H F (any_0 G),K.D,K.gr⟩
 have M:(q == 0)=false:=by simp [e0]
 by_cases e1:q=1
 ·subst e1;go_wp2_with fail;refine(nextX K.D (2) (by decide)).mono ?_;rintro e S ⟨k,o,⟨rfl,V,l,-,G⟩,C,n,-⟩;have l:=l (by decide);have K:=K.next C n;have f:=f.grown n (λ k P=>by simp at P;have:=K.lt;omega);clear C n;clear y x t r a i;obtain⟨y,x,t,r⟩:=f.c4;have a:=f.lt;have i:=f.frozen;go_upto_region 11 with fail;refine wp_gen (λ E=>Ru w0 w B g A cp xs o 25 [.int .i64 0,.int .i64 0,.int .i64 0,.int .i64 0] E∧RowB E Q 25 [.int .i64 v.p,.int .i64 (16*k),.int .i64 v.h,.int .i64 v.s]) ⟨K.put N (Base.grownBy_setCell _ _ _ _),f.set 1 _⟩ ?_;clear K f;rintro w6 ⟨K,d⟩;clear y x t r a i;obtain⟨y,x,t,r⟩:=d.c4;have a:=d.lt;have z:=K.rr;go_wp2_with (refine wM 25 0 [.int .i64 v.p,.int .i64 (16*k),.int .i64 v.h,.int .i64 v.s] z ?_;intro w7 j b Z;refine Hid.out ?_);have K:=K.res j b;obtain⟨M,L,J,I⟩:=j.c4;have O:=j.lt;clear b z;refine kD ?_
  repeat (first | go_values | go_skip | go_step | go_upon)
  refine bodyPost_ret (v:=.agg #[.int .i64 v.p,.int .i64 (16*k),.int .i64 v.h,.int .i64 v.s]) (by simp [results,Tryz.results104,go_sem,M,L,J,I]) rfl ?_;exact⟨⟨v.p,16*k,v.h,v.s⟩,o,rfl,v01a_of H F (any_1 G),K.D,K.gr⟩
 have L:(q == 1)=false:=by simp [e1]
 by_cases e2:q=2
 ·subst e2;have ae:=ab.out;have hw:IntKind.i64.wrap (v.p+1)=v.p+1:=IntWalk.i64_in _ (by omega);go_upto_region 11 with fail;refine wp_gen (λ E=>Ru w0 w B g A cp xs R 25 [.int .i64 0,.int .i64 0,.int .i64 0,.int .i64 0] E∧RowB E Q 25 [.int .i64 v.p,.int .i64 v.c,.int .i64 (v.p+1),.int .i64 v.s]) ⟨K.put N (Base.grownBy_setCell _ _ _ _),f.set 2 _⟩ ?_;clear K f;rintro w6 ⟨K,d⟩;clear y x t r a i;obtain⟨y,x,t,r⟩:=d.c4;have a:=d.lt;have z:=K.rr;go_wp2_with (refine wM 25 0 [.int .i64 v.p,.int .i64 v.c,.int .i64 (v.p+1),.int .i64 v.s] z ?_;intro w7 j b Z;refine Hid.out ?_);have K:=K.res j b;obtain⟨M,L,J,I⟩:=j.c4;have O:=j.lt;clear b z;refine kD ?_
  repeat (first | go_values | go_skip | go_step | go_upon)
  refine bodyPost_ret (v:=.agg #[.int .i64 v.p,.int .i64 v.c,.int .i64 (v.p+1),.int .i64 v.s]) (by simp [results,Tryz.results104,go_sem,M,L,J,I]) rfl ?_;exact⟨⟨v.p,v.c,v.p+1,v.s⟩,R,rfl,v01a_of H F (any_2),K.D,K.gr⟩
 have J:(q == 2)=false:=by simp [e2]
 by_cases e3:q=3
 ·subst e3;go_wp2_with fail;refine(nextX K.D (2) (by decide)).mono ?_;rintro e S ⟨k,o,⟨rfl,V,l,-,G⟩,C,n,-⟩;have l:=l (by decide);have K:=K.next C n;have f:=f.grown n (λ k P=>by simp at P;have:=K.lt;omega);clear C n;clear y x t r a i;obtain⟨y,x,t,r⟩:=f.c4;have a:=f.lt;have i:=f.frozen;go_upto_region 11 with fail;refine wp_gen (λ E=>Ru w0 w B g A cp xs o 25 [.int .i64 0,.int .i64 0,.int .i64 0,.int .i64 0] E∧RowB E Q 25 [.int .i64 v.p,.int .i64 v.c,.int .i64 v.h,.int .i64 (7*k)]) ⟨K.put N (Base.grownBy_setCell _ _ _ _),f.set 3 _⟩ ?_;clear K f;rintro w6 ⟨K,d⟩;clear y x t r a i;obtain⟨y,x,t,r⟩:=d.c4;have a:=d.lt;have z:=K.rr;go_wp2_with (refine wM 25 0 [.int .i64 v.p,.int .i64 v.c,.int .i64 v.h,.int .i64 (7*k)] z ?_;intro w7 j b Z;refine Hid.out ?_);have K:=K.res j b;obtain⟨M,L,J,I⟩:=j.c4;have O:=j.lt;clear b z;refine kD ?_
  repeat (first | go_values | go_skip | go_step | go_upon)
  refine bodyPost_ret (v:=.agg #[.int .i64 v.p,.int .i64 v.c,.int .i64 v.h,.int .i64 (7*k)]) (by simp [results,Tryz.results104,go_sem,M,L,J,I]) rfl ?_;exact⟨⟨v.p,v.c,v.h,7*k⟩,o,rfl,v01a_of H F (any_3 G),K.D,K.gr⟩
 have I:(q == 3)=false:=by simp [e3]
 have d:=f;clear y x t r a i;obtain⟨y,x,t,r⟩:=d.c4;have a:=d.lt;have z:=K.rr;go_wp2_with (refine wM 25 0 [.int .i64 v.p,.int .i64 v.c,.int .i64 v.h,.int .i64 v.s] z ?_;intro w7 j b Z;refine Hid.out ?_);have K:=K.res j b;obtain⟨M,L,J,I⟩:=j.c4;have O:=j.lt;clear b z;refine kD ?_
 repeat (first | go_values | go_skip | go_step | go_upon)
 refine bodyPost_ret (v:=.agg #[.int .i64 v.p,.int .i64 v.c,.int .i64 v.h,.int .i64 v.s]) (by simp [results,Tryz.results104,go_sem,M,L,J,I]) rfl ?_;exact⟨⟨v.p,v.c,v.h,v.s⟩,R,rfl,v01a_of H F (any_4 e0 e1 e2 e3),K.D,K.gr⟩
end
end DwA
namespace PlP
theorem at_set (l:List Int) (i j:Nat) (x:Int) (h:i<l.length):at_ (l.set i x) j=if j=i then x else at_ l j:=by
 unfold at_;rw [List.getD_eq_getElem?_getD,List.getElem?_set];by_cases e:i=j
 ·subst e;simp [h]
 ·rw [if_neg e,if_neg (λ h=>e h.symm),List.getD_eq_getElem?_getD]
theorem at_rep (n j:Nat):at_ (List.replicate n (0:Int)) j=0:=by
 unfold at_;rw [List.getD_eq_getElem?_getD,List.getElem?_replicate];split <;> rfl
theorem sum_rep (n:Nat):(List.replicate n (0:Int)).sum=0:=by simp
theorem start_ok {v:Vr} (hv:okV v=true) (h4:4<=v.p):Ok v (startB v)∧(startL v).sum=v.c:=by
 have g:=okV_iff.1 hv;unfold startB startL;by_cases hf:v.p=24∧v.c=15∧v.h=6∧v.s=6
 ·obtain⟨p,c,h,s⟩:=v;simp only at hf;obtain⟨rfl,rfl,rfl,rfl⟩:=hf;refine⟨okB_iff.1 (by decide),by decide⟩
 ·simp only [if_neg hf];obtain⟨n,l⟩:∃ n:Nat,(v.p+1).toNat=n:=⟨_,rfl⟩;obtain⟨i,o⟩:∃ i:Nat,(v.p - 1).toNat=i:=⟨_,rfl⟩;obtain⟨j,m⟩:∃ i:Nat,(v.p / 2 - 1).toNat=i:=⟨_,rfl⟩;rw [l,o,m];have b:i<(List.replicate n (0:Int)).length:=by rw [List.length_replicate];omega
  have f:j<((List.replicate n (0:Int)).set i (v.c / 2)).length:=by rw [List.length_set,List.length_replicate];omega
  have d:∀ k,at_ (((List.replicate n (0:Int)).set i (v.c / 2)).set j (v.c - v.c / 2)) k=if k=j then v.c - v.c / 2 else if k=i then v.c / 2 else 0:=by
   intro k;rw [at_set _ _ _ _ f,at_set _ _ _ _ b,at_rep]
  have a:(((List.replicate n (0:Int)).set i (v.c / 2)).set j (v.c - v.c / 2)).sum=v.c:=by
   rw [sum_set _ _ _ f,sum_set _ _ _ b,at_set _ _ _ _ b,at_rep,at_rep,sum_rep,if_neg (by omega)];omega
  have e:Sd v (((List.replicate n (0:Int)).set i (v.c / 2)).set j (v.c - v.c / 2)):=by
   refine⟨by rw [List.length_set,List.length_set,List.length_replicate];omega,λ k=>?_,by rw [a];exact Int.le_refl _⟩;rw [d];split
   ·omega
   ·split <;> omega
  refine⟨⟨g,e,e,by rw [a];omega,λ k q=>?_⟩,a⟩;show ¬ (0<at_ _ k∧0<at_ _ (v.p.toNat - 1 - k))
  rw [d,d];by_cases k1:k=j
  ·rw [if_pos k1];by_cases k2:v.p.toNat - 1 - k=j
   ·omega
   ·rw [if_neg k2];by_cases k3:v.p.toNat - 1 - k=i
    ·omega
    ·rw [if_neg k3];omega
  ·rw [if_neg k1];by_cases k4:k=i
   ·rw [if_pos k4];by_cases k2:v.p.toNat - 1 - k=j
    ·omega
    ·rw [if_neg k2];by_cases k3:v.p.toNat - 1 - k=i
     ·omega
     ·rw [if_neg k3];omega
   ·rw [if_neg k4];omega
theorem start_over {v:Vr} (hv:okV v=true) (h4:4<=v.p):over (startB v)=false:=by
 have a:=okV_iff.1 hv;have:=(start_ok hv h4).2;unfold over startB;simp only [this,Bool.or_self,decide_eq_false_iff_not];omega
theorem new_valid {v:Vr} (hv:okV v=true) (h4:4<=v.p):gmB v (newG v)=true:=by
 unfold gmB newG;simp [okB_iff.2 (start_ok hv h4).1,h4]
theorem step_oth {v:Vr} {b:Bd} {s:Stp} (hb:Ok v b) (h:legal1 v b s=true):(afterP v b s).2.sum=b.2.sum:=by
 obtain⟨m,n,g,f⟩:=legal1_iff.1 h;obtain⟨k,j,i,d⟩:=step_parts g hb f;have e:=hb.oth.len;have l:=hb.v1;unfold afterP;simp only;split
 ·rename_i hh
  rcases d with ⟨a1,a2,a3,a4⟩ | ⟨_,_,a4⟩
  ·have c:(v.p - 1 - s.2.1).toNat<b.2.length:=by omega
   have a:v.p.toNat<(inc b.2 (v.p - 1 - s.2.1).toNat (-1)).length:=by rw [inc_len];omega
   rw [inc_sum _ _ _ a,inc_sum _ _ _ c];omega
  ·rw [a4] at hh;cases hh
 ·rfl
theorem follow_oth {v:Vr}:∀(ds:List Int) (b:Bd) (ss:List Stp) (c:Bd),Ok v b->followP v b ds ss=some c->c.2.sum=b.2.sum
 | ds,b,[],c,hb,h=>by simp only [followP,Option.some.injEq] at h;subst h;rfl
 | [],b,s :: ss,c,hb,h=>by simp [followP] at h
 | d :: ds,b,s :: ss,c,hb,h=>by
  simp only [followP] at h;split at h
  ·rename_i h1
   rw [follow_oth ds _ ss c (legal1_ok hb h1.2) h,step_oth hb h1.2]
  ·cases h
theorem first_oth {v:Vr} {b c:Bd} {ss:List Stp} (hb:Ok v b):∀(os:List (List Int)),firstF v b ss os=some c->c.2.sum=b.2.sum
 | [],h=>by simp [firstF] at h
 | o :: os,h=>by
  simp only [firstF] at h;split at h
  ·rename_i d hd
   simp only [Option.some.injEq] at h;subst h;exact follow_oth o b ss _ hb hd
  ·exact first_oth hb os h
theorem play_oth {v:Vr} {b c:Bd} {x y:Int} {ss:List Stp} (hb:Ok v b) (h:playP v b x y ss=some c):c.2.sum=b.2.sum:=by
 unfold playP at h;split at h
 ·exact first_oth hb _ h
 ·cases h
theorem res_bd (v:Vr) (b:Bd):1<=resP v b∧resP v b<=3:=by unfold resP;split <;> (try split) <;> omega
theorem over_swp (b:Bd):over (swp b)=over b:=by unfold over swp;simp only;rw [Bool.or_comm]
theorem turn_valid {v:Vr} {g g':Gm} {ss:List Stp} (hg:gmB v g=true) (h:(turnP v g ss).1=some g'):gmB v g'=true:=by
 have c:=gm_parts hg;unfold turnP at h;rw [if_neg (by rw [hg];decide)] at h;by_cases h2:g.ph=2
 ·rw [if_neg (by rw [h2];decide)] at h;split at h
  ·cases h
  ·rename_i b hb
   split at h
   ·cases h
   ·rename_i htn
    simp only [Option.some.injEq] at h;have e:=play_ok c.1 hb;have d:=play_oth c.1 hb;have l:=res_bd v b;have f:=(c.2.2.2.2.2 (.inr h2)).1;unfold turnG at h;by_cases a:over b=true
    ·rw [if_pos a] at h;subst h;have i:b.1.sum=0:=by
      unfold over at f a;simp only [Bool.or_eq_true,Bool.or_eq_false_iff,decide_eq_true_eq,decide_eq_false_iff_not] at f a;rcases a with h | h
      ·exact h
      ·rw [d] at h;exact absurd h f.2
     unfold gmB;have k:=c.2.2.1;have j:=c.2.2.2.1;simp [okB_iff.2 e,c.2.1,a,i];omega
    ·rw [if_neg a] at h;subst h;have a:over b=false:=by simpa using a
     unfold gmB;have k:=c.2.2.1;have j:=c.2.2.2.1;simp [okB_iff.2 (swp_ok e),c.2.1,over_swp,a];omega
 ·rw [if_pos h2] at h;cases h
theorem roll_valid {v:Vr} {g:Gm} {x y:Int} (hg:gmB v g=true) (h1:g.ph=1) (hr:rollB v x y=true):gmB v (rollG g x y)=true:=by
 unfold gmB at hg ⊢;unfold rollG;simp only [h1] at hg;simp only [hr];simp only [if_true,Bool.and_eq_true,decide_eq_true_eq,Bool.and_true] at hg ⊢;obtain⟨⟨a,b⟩,c⟩:=hg;refine⟨a,?_⟩
 simpa using c
theorem rollC_zero {v:Vr} {g:Gm} {x y:Int} (h:rollC v g x y=0):gmB v g=true∧g.ph=1∧rollB v x y=true:=by
 unfold rollC at h;split at h
 ·exact absurd h (by decide)
 ·split at h
  ·exact absurd h (by decide)
  ·split at h
   ·exact absurd h (by decide)
   ·rename_i a b c
    exact⟨by simpa using a,by simpa using b,by simpa using c⟩
theorem game_valid {v:Vr} {g g':Gm} {e:Ev} (hg:gmB v g=true) (h:gameP v g e=some g'):gmB v g'=true:=by
 have c:=gm_parts hg;unfold gameP at h;split at h
 ·split at h
  ·rename_i h1
   simp only [Option.some.injEq] at h;unfold openC at h1;rw [if_neg (by rw [hg];decide)] at h1;split at h1
   ·exact absurd h1 (by decide)
   ·rename_i d
    have d:g.ph=0:=by simpa using d
    split at h1
    ·exact absurd h1 (by decide)
    ·rename_i i
     have i:(1<=e.a∧e.a<=v.s)∧1<=e.b∧e.b<=v.s:=by simpa using i
     unfold openG at h;split at h
     ·subst h;exact hg
     ·rename_i hab
      subst h;have p:=okB_iff.2 c.1;have o:okV v=true:=okV_iff.2 c.1.v1;have l:=start_over o c.2.1;unfold gmB at hg;simp only [d,Bool.and_eq_true,decide_eq_true_eq] at hg;have m:=hg.2;simp only [if_true,decide_eq_true_eq] at m;obtain⟨z,y,x,w,n⟩:=m;have q:rollB v (max e.a e.b) (min e.a e.b)=true:=by
       unfold rollB;simp only [Bool.and_eq_true,decide_eq_true_eq];omega
      have k:=okB_iff.2 (swp_ok c.1);have f:over g.b=false:=by rw [n];exact l
      clear n;unfold gmB;simp only [q,y,x,w];by_cases hlt:e.a<e.b
      ·simp [hlt,k,c.2.1,over_swp,f]
      ·simp [hlt,p,c.2.1,f,z]
  ·cases h
 ·split at h
  ·split at h
   ·rename_i h1
    simp only [Option.some.injEq] at h;unfold resgC at h1;rw [if_neg (by rw [hg];decide)] at h1;split at h1
    ·exact absurd h1 (by decide)
    ·rename_i j
     have j:g.ph=1∨g.ph=2:=by omega
     split at h1
     ·exact absurd h1 (by decide)
     ·rename_i i
      have i:1<=e.r∧e.r<=3:=by simpa using i
      subst h;have t:=(c.2.2.2.2.2 j).1;have d:=c.2.2.1;have A:=c.2.2.2.1;unfold gmB resgG;simp [okB_iff.2 c.1,c.2.1,t];omega
   ·cases h
  ·split at h
   ·split at h
    ·rename_i h1 j
     have d:=rollC_zero j;exact turn_valid (roll_valid hg d.2.1 d.2.2) h
    ·cases h
   ·split at h
    ·exact turn_valid hg h
    ·cases h
structure MsOk (v:Vr) (len:Int) (i:Nat) (x:Ms):Prop where
 gm:gmB v x.g=true
 sc:x.ov=false->(0<=x.s0∧x.s0<len)∧0<=x.s1∧x.s1<len
 gs:0<=x.gs∧x.gs<=i
theorem start_ms {v:Vr} {len:Int} (h:headB v len=true):MsOk v len 0 (startS v):=by
 unfold headB at h;simp only [Bool.and_eq_true,decide_eq_true_eq] at h;refine⟨new_valid h.1.1 h.1.2,λ _=>?_,?_⟩
 ·unfold startS;simp only;omega
 ·unfold startS;simp
theorem next_ms {v:Vr} {len:Int} {i:Nat} {x y:Ms} {e:Ev} (hl:1<=len) (hx:MsOk v len i x) (h:nextS v len x e=some y):MsOk v len (i+1) y:=by
 unfold nextS at h;split at h
 ·cases h
 ·rename_i b
  have b:x.ov=false:=by cases c:x.ov with | false=>rfl | true=>exact absurd (.inl c) b
  cases hg:gameP v x.g e with
  | none=>rw [hg] at h;cases h
  | some g =>
   rw [hg] at h;simp only [Option.map_some,Option.some.injEq] at h;have a:=game_valid hx.gm hg;have j:=gm_parts a;have k:okV v=true:=okV_iff.2 j.1.v1;have f:=game_parts hg;have d:=hx.sc b;have l:=hx.gs;unfold overS at h;by_cases h3:g.ph=3
   ·rw [if_neg (by omega)] at h;have m:=f.2.2.1 h3;simp only at h;by_cases hw:g.wn=0
    ·simp only [if_pos hw] at h;by_cases hlt:len<=x.s0+g.rs
     ·rw [if_pos hlt] at h;subst h;exact⟨a,λ c=>by simp at c,by simp only;omega⟩
     ·rw [if_neg hlt] at h;subst h;exact⟨new_valid k j.2.1,λ _=>by simp only;omega,by simp only;omega⟩
    ·simp only [if_neg hw] at h;by_cases hlt:len<=x.s1+g.rs
     ·rw [if_pos hlt] at h;subst h;exact⟨a,λ c=>by simp at c,by simp only;omega⟩
     ·rw [if_neg hlt] at h;subst h;exact⟨new_valid k j.2.1,λ _=>by simp only;omega,by simp only;omega⟩
   ·rw [if_pos h3] at h;subst h;exact⟨a,λ _=>d,by simp only;omega⟩
end PlP
namespace Gm
open Go Go.RowKit Base Ints RelG PlP
def BdR (w:World) (S:Nat->Prop) (u1 u2:Value) (b:Bd):Prop:=SlV 1 enI w S u1 b.1∧SlV 1 enI w S u2 b.2
section
variable {w w':World} {S S':Nat->Prop} {u1 u2:Value} {b:Bd}
theorem BdR.keep (h:BdR w S u1 u2 b) (hs:Still S w w'):BdR w' S u1 u2 b:=⟨(relV 1 enI).keep h.1 hs,(relV 1 enI).keep h.2 hs⟩
theorem BdR.weak (h:BdR w S u1 u2 b) (hs:∀ b,S b->b<w.heap.size->S' b):BdR w S' u1 u2 b:=⟨(relV 1 enI).weak h.1 hs,(relV 1 enI).weak h.2 hs⟩
theorem BdR.below (h:BdR w S u1 u2 b) (hb:Below w.heap.size w w'):BdR w' S u1 u2 b:=h.keep (.below hb)
theorem BdR.nil (w:World) (S:Nat->Prop):BdR w S (.slice none 0 0) (.slice none 0 0) ([],[]) :=
 ⟨⟨none,0,rfl,RdF.nil _ _ _ _ _,λ _=>rfl⟩,⟨none,0,rfl,RdF.nil _ _ _ _ _,λ _=>rfl⟩⟩
end
def gmC (u1 u2:Value) (g:Gm):List Value:=[u1,u2,.int .i64 g.pl,.int .i64 g.x,.int .i64 g.y,.int .i64 g.ph,.int .i64 g.wn,.int .i64 g.rs,.int .i64 g.tn]
def msC (su u1 u2:Value) (x:Ms):List Value:=[su,.int .i64 x.gs,u1,u2,.int .i64 x.g.pl,.int .i64 x.g.x,.int .i64 x.g.y,.int .i64 x.g.ph,.int .i64 x.g.wn,.int .i64 x.g.rs,.int .i64 x.g.tn,.bool x.ov]
def nulG:Gm:=⟨([],[]),0,0,0,0,0,0,0⟩
def nulM:Ms:=⟨0,0,0,nulG,false⟩
def RelBV:Rel Value Bd where
 R:=λ w S v b=>∃ u1 u2,v=.agg #[u1,u2]∧BdR w S u1 u2 b
 keep:=λ⟨u1,u2,e,h⟩ hs=>⟨u1,u2,e,h.keep hs⟩
 weak:=λ⟨u1,u2,e,h⟩ hs=>⟨u1,u2,e,h.weak hs⟩
def RelBB:Rel Value (Option Bd) where
 R:=λ w S v x=>∃ u1 u2 b,v=.tuple #[.agg #[u1,u2],.bool x.isSome]∧BdR w S u1 u2 b∧∀ b0,x=some b0->b=b0
 keep:=λ⟨u1,u2,b,e,h,k⟩ hs=>⟨u1,u2,b,e,h.keep hs,k⟩
 weak:=λ⟨u1,u2,b,e,h,k⟩ hs=>⟨u1,u2,b,e,h.weak hs,k⟩
def RelBI:Rel Value (Option Bd) where
 R:=λ w S v x=>∃ u1 u2 b c,v=.tuple #[.agg #[u1,u2],.int .i64 c]∧BdR w S u1 u2 b∧(∀ b0,x=some b0->b=b0∧c=0)∧(x=none->c≠0)
 keep:=λ⟨u1,u2,b,c,e,h,k⟩ hs=>⟨u1,u2,b,c,e,h.keep hs,k⟩
 weak:=λ⟨u1,u2,b,c,e,h,k⟩ hs=>⟨u1,u2,b,c,e,h.weak hs,k⟩
def RelGV:Rel Value Gm where
 R:=λ w S v g=>∃ u1 u2,v=.agg ⟨gmC u1 u2 g⟩∧BdR w S u1 u2 g.b
 keep:=λ⟨u1,u2,e,h⟩ hs=>⟨u1,u2,e,h.keep hs⟩
 weak:=λ⟨u1,u2,e,h⟩ hs=>⟨u1,u2,e,h.weak hs⟩
def RelGI:Rel Value (Option Gm) where
 R:=λ w S v x=>∃ u1 u2 g c,v=.tuple #[.agg ⟨gmC u1 u2 g⟩,.int .i64 c]∧BdR w S u1 u2 g.b∧(∀ g0,x=some g0->g=g0∧c=0)∧(x=none->c≠0)
 keep:=λ⟨u1,u2,g,c,e,h,k⟩ hs=>⟨u1,u2,g,c,e,h.keep hs,k⟩
 weak:=λ⟨u1,u2,g,c,e,h,k⟩ hs=>⟨u1,u2,g,c,e,h.weak hs,k⟩
def RelGB:Rel Value (Option Gm) where
 R:=λ w S v x=>∃ u1 u2 g,v=.tuple #[.agg ⟨gmC u1 u2 g⟩,.bool x.isSome]∧BdR w S u1 u2 g.b∧∀ g0,x=some g0->g=g0
 keep:=λ⟨u1,u2,g,e,h,k⟩ hs=>⟨u1,u2,g,e,h.keep hs,k⟩
 weak:=λ⟨u1,u2,g,e,h,k⟩ hs=>⟨u1,u2,g,e,h.weak hs,k⟩
def MsR (w:World) (S:Nat->Prop) (su u1 u2:Value) (x:Ms):Prop:=SlV 1 enI w S su [x.s0,x.s1]∧BdR w S u1 u2 x.g.b
section
variable {w w':World} {S S':Nat->Prop} {su u1 u2:Value} {x:Ms}
theorem MsR.keep (h:MsR w S su u1 u2 x) (hs:Still S w w'):MsR w' S su u1 u2 x:=⟨(relV 1 enI).keep h.1 hs,h.2.keep hs⟩
theorem MsR.weak (h:MsR w S su u1 u2 x) (hs:∀ b,S b->b<w.heap.size->S' b):MsR w S' su u1 u2 x:=⟨(relV 1 enI).weak h.1 hs,h.2.weak hs⟩
theorem MsR.below (h:MsR w S su u1 u2 x) (hb:Below w.heap.size w w'):MsR w' S su u1 u2 x:=h.keep (.below hb)
end
def RelMV:Rel Value Ms where
 R:=λ w S v x=>∃ su u1 u2,v=.agg ⟨msC su u1 u2 x⟩∧MsR w S su u1 u2 x
 keep:=λ⟨su,u1,u2,e,h⟩ hs=>⟨su,u1,u2,e,h.keep hs⟩
 weak:=λ⟨su,u1,u2,e,h⟩ hs=>⟨su,u1,u2,e,h.weak hs⟩
def Ret {α:Type} (K:Rel Value α) (x:α) (S:Nat->Prop) (w:World) (e:Ending) (w':World):Prop :=
 ∃ v,e=.returned v∧K.R w' (λ b=>S b∨w.heap.size<=b) v x∧Below w.heap.size w w'
section
variable {w:World} {g:Nat} {t:TypeId} {c0 c1 c2 c3 c4 c5 c6 c7 c8 c9 c10 c11:Value}
theorem row9 (h:RowB w g t [c0,c1,c2,c3,c4,c5,c6,c7,c8]):w.cell? ⟨g,0,none⟩=some c0∧w.cell? ⟨g,1,none⟩=some c1∧w.cell? ⟨g,2,none⟩=some c2∧w.cell? ⟨g,3,none⟩=some c3∧w.cell? ⟨g,4,none⟩=some c4∧w.cell? ⟨g,5,none⟩=some c5∧w.cell? ⟨g,6,none⟩=some c6∧w.cell? ⟨g,7,none⟩=some c7∧w.cell? ⟨g,8,none⟩=some c8 :=
 ⟨h.cell 0,h.cell 1,h.cell 2,h.cell 3,h.cell 4,h.cell 5,h.cell 6,h.cell 7,h.cell 8⟩
theorem row12 (h:RowB w g t [c0,c1,c2,c3,c4,c5,c6,c7,c8,c9,c10,c11]):w.cell? ⟨g,0,none⟩=some c0∧w.cell? ⟨g,1,none⟩=some c1∧w.cell? ⟨g,2,none⟩=some c2∧w.cell? ⟨g,3,none⟩=some c3∧w.cell? ⟨g,4,none⟩=some c4∧w.cell? ⟨g,5,none⟩=some c5∧w.cell? ⟨g,6,none⟩=some c6∧w.cell? ⟨g,7,none⟩=some c7∧w.cell? ⟨g,8,none⟩=some c8∧w.cell? ⟨g,9,none⟩=some c9∧w.cell? ⟨g,10,none⟩=some c10∧w.cell? ⟨g,11,none⟩=some c11 :=
 ⟨h.cell 0,h.cell 1,h.cell 2,h.cell 3,h.cell 4,h.cell 5,h.cell 6,h.cell 7,h.cell 8,h.cell 9,h.cell 10,h.cell 11⟩
end
abbrev gM:List Value:=gmC (.slice none 0 0) (.slice none 0 0) nulG
end Gm

namespace Clone
open Go.ChangeShapes Go.WideShapes Go.ChangeAt Go.RowKit Base Ints Own
theorem news_rd {w:World} {B:Nat} {ad:Addr} {xs:List Int} (h:RdS w B 1 enI (some ad) xs):∀ j u,(xs.flatMap enI)[j]?=some u->w.cell? (ad.add j)=some u:=by
 intro j u e;have f:j<(xs.flatMap enI).length:=(List.getElem?_eq_some_iff.1 e).1;rw [flatMap_len enI_len,Nat.mul_one] at f;obtain⟨b,a,g,_,l⟩:=h.2 (by omega);simp only [Option.some.injEq] at g;subst g;have d:xs[j]?=some xs[j]:=List.getElem?_eq_getElem f;have k:=flatMap_at enI_len xs j _ d 0 _ rfl;rw [Nat.mul_one,Nat.add_zero,e] at k;have i:=l j _ d 0 _ rfl;rw [<-k,Nat.mul_one,Nat.add_zero] at i;have c:(⟨b,a,none⟩:Addr).add j=⟨b,a+j,none⟩:=by unfold Addr.add;split <;> simp_all
 rw [c];exact i
theorem rd_none {w:World} {B:Nat} {xs:List Int} (h:RdS w B 1 enI none xs):xs=[]:=by
 cases xs with
 | nil=>rfl
 | cons x xs=>obtain⟨b,a,c,_⟩:=h.2 (by simp);cases c
theorem one_Is (xs:List Int):∀ u ∈ xs.flatMap enI,u.oneCell'=true:=by
 intro u b;obtain⟨y,_,a⟩:=List.mem_flatMap.1 b;exact one_I y u a
theorem clone (A:Option Addr) (cp B:Nat) (xs:List Int) (w:World) (hB:B<=w.heap.size) (hr:RdS w B 1 enI A xs) (hA:A=none->cp=0) (hn:xs.length<=1048577) :
  Calls Tryz.prog 37 #[.slice A xs.length cp] w λ e w'=>(∃ v,e=.returned v∧OwnS w' w.heap.size w'.heap.size 2 1 enI v xs)∧Below w.heap.size w w':=by
 obtain⟨l,f,d,c,b⟩:=info_parts Ints.info
 cases A with
 | none =>
  obtain rfl:=rd_none hr;obtain rfl:=hA rfl;have k:∀ w:World,(binOp .eql 26 (.slice none 0 0) (.slice none 0 0)).run Tryz.prog w=.ok (.bool true) w:=λ w=>Lib.run_eql_slice_nil w _ _ _ _ _ _ _ Tryz.underlying26
  go_enter Tryz.func37,Tryz.ntmps37;go_wp2;go_ret;exact⟨⟨_,rfl,OwnS.nil_ _ _ _ _ _ _⟩,Below.refl _ _⟩
 | some ad =>
  have k:∀ w:World,(binOp .eql 26 (.slice (some ad) xs.length cp) (.slice none 0 0)).run Tryz.prog w=.ok (.bool false) w:=λ w=>Lib.run_eql_slice_nil w _ _ _ _ _ _ _ Tryz.underlying26
  go_enter Tryz.func37,Tryz.ntmps37;go_wp2_with (at_builtin;refine wpList_append_own _ rfl _ _ _ rfl w.heap.size 2 l (.int .i64 0) 1 8 Tryz.underlying26 f d c b rfl (by decide) _ 0 [] rfl ((RowB.new w 2 []).own (xs:=([]:List Int)) (en:=enI) enI_len (Nat.le_refl _) (by simp) (by decide):OwnS _ w.heap.size (w.alloc (.cells #[] 2)).heap.size 2 1 enI _ []).1 ad xs.length cp (xs.flatMap enI) rfl (by rw [flatMap_len enI_len]) (news_rd (hr.below (by go_grown) hB)) (one_Is xs) ?c1 ?c2 ?c3 ?_)
  case c1=>unfold maxLen;omega
  case c2=>omega
  case c3=>go_size
  intro j w' a h _;have a:w'.ownsRow w.heap.size 2 1 j xs.length (xs.flatMap enI):=by simpa using a
  go_wp2;go_ret;refine⟨⟨_,rfl,a,λ g i=>(a.lt g i).2⟩,?_⟩;exact((Below.refl w.heap.size w).alloc (Nat.le_refl _) _).grown h (by go_size) (λ g i=>by simp [Value.ownBlock] at i;omega)
theorem own02 (A:Option Addr) (cp B:Nat) (xs:List Int) (w:World) (hB:B<=w.heap.size) (hr:RdS w B 1 enI A xs) (hA:A=none->cp=0) (hn:xs.length<=1048577) :
  Calls Tryz.prog 101 #[.slice A xs.length cp] w λ e w'=>(∃ v,e=.returned v∧OwnS w' w.heap.size w'.heap.size 2 1 enI v xs)∧Below w.heap.size w w':=by
 obtain⟨j,b,f,d,c⟩:=info_parts Ints.info
 cases A with
 | none =>
  obtain rfl:=rd_none hr;obtain rfl:=hA rfl;go_enter Tryz.func101,Tryz.ntmps101;go_wp2_with (at_builtin;refine wpList_append_own_none rfl _ _ _ rfl w.heap.size 2 j 1 Tryz.underlying26 b _ 0 [] rfl ((RowB.new w 2 []).own (xs:=([]:List Int)) (en:=enI) enI_len (Nat.le_refl _) (by simp) (by decide):OwnS _ w.heap.size (w.alloc (.cells #[] 2)).heap.size 2 1 enI _ []).1 rfl ?_);go_wp2;go_ret;exact⟨⟨_,rfl,(RowB.new w 2 []).own (xs:=[]) enI_len (Nat.le_refl _) (by simp) (by decide)⟩,by go_grown⟩
 | some ad =>
  go_enter Tryz.func101,Tryz.ntmps101;go_wp2_with (at_builtin;refine wpList_append_own _ rfl _ _ _ rfl w.heap.size 2 j (.int .i64 0) 1 8 Tryz.underlying26 b f d c rfl (by decide) _ 0 [] rfl ((RowB.new w 2 []).own (xs:=([]:List Int)) (en:=enI) enI_len (Nat.le_refl _) (by simp) (by decide):OwnS _ w.heap.size (w.alloc (.cells #[] 2)).heap.size 2 1 enI _ []).1 ad xs.length cp (xs.flatMap enI) rfl (by rw [flatMap_len enI_len]) (news_rd (hr.below (by go_grown) hB)) (one_Is xs) ?c1 ?c2 ?c3 ?_)
  case c1=>unfold maxLen;omega
  case c2=>omega
  case c3=>go_size
  intro k w' a h _;have a:w'.ownsRow w.heap.size 2 1 k xs.length (xs.flatMap enI):=by simpa using a
  go_wp2;go_ret;refine⟨⟨_,rfl,a,λ g i=>(a.lt g i).2⟩,?_⟩;exact((Below.refl w.heap.size w).alloc (Nat.le_refl _) _).grown h (by go_size) (λ g i=>by simp [Value.ownBlock] at i;omega)
end Clone
end Go.Proofs.YtmncnhbjifeoeaaGreat
