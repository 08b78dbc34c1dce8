/- Parts of the proof of FnEventText. Conditions: each theorem's own. -/
import Derived.Test.YtjdefiinmicjiaaGreatDoorU06
import Derived.Test.YtjdefiinmicjiaaGreatDoorU13
import Derived.ShapedOpen
import Derived.ChangeAgain
import Derived.Lib.ParseIntBTie
set_option linter.unusedVariables false
set_option linter.unusedSimpArgs false
set_option maxHeartbeats 8000000
set_option maxRecDepth 100000
namespace Go.Proofs.YtjdefiinmicjiaaGreatDoor
namespace JoinN
open Go.ChangeShapes Go.WideShapes Go.ChangeAt Go.RowKit Go.Sort Base Ints Own
theorem grow_bel (w:World) (k:Nat) (os:Array Obj):Below w.heap.size w (grow (w.drewN k) os) :=
 ⟨rfl,rfl,rfl,by simp [grow],λ i hi=>by
  show (w.heap++os)[i]?=w.heap[i]?
  exact Array.getElem?_append_left hi⟩
def TabOk (w:World):Prop:=Lib.TabIs Tryz.prog w "internal/strconv.uint64pow10" .u64 Lib.pow10Tab
theorem tab_glob:∃ g,Tryz.prog.globalNamed "internal/strconv.uint64pow10"=some g:=by
 have h:(Tryz.prog.globalNamed "internal/strconv.uint64pow10").isSome=true:=by kernel_rfl
 exact Option.isSome_iff_exists.1 h
theorem TabOk.below {w w':World} (h:TabOk w) (hb:Below w.heap.size w w'):TabOk w':=by
 obtain⟨g,b⟩:=tab_glob;unfold TabOk Lib.TabIs at h ⊢;rw [<-h];unfold World.var? at h ⊢;rw [b] at h ⊢;have a:g<w.heap.size:=by
  rcases Nat.lt_or_ge g w.heap.size with h1 | h1
  ·exact h1
  ·replace h:(match w.heap[g]? with | some (.cells cs _ _)=>some cs | _=>none)=_:=h;rw [Array.getElem?_eq_none h1] at h
   cases h
 show (match w'.heap[g]? with | some (.cells cs _ _)=>some cs | _=>none)=(match w.heap[g]? with | some (.cells cs _ _)=>some cs | _=>none)
 rw [hb.block g a]
theorem decimal (n:Int) (h0:-9223372036854775808<=n) (h1:n<=9223372036854775807) (w:World) (ht:TabOk w) :
  Calls Tryz.prog 27 #[.int .i64 n] w λ e w'=>e=.returned (.string ⟨(Lib.itoa n).toArray⟩)∧Below w.heap.size w w':=by
 go_enter Tryz.func27,Tryz.ntmps27;go_wp2_with fail;refine(Tryz.strconv_FormatInt_10 n h0 h1 _ ht).mono ?_;rintro e a ⟨rfl,k,b,rfl⟩;go_wp2_with fail;go_ret;exact⟨rfl,grow_bel _ _ _⟩
def enT (x:Int):List Value:=[.string ⟨(Lib.itoa x).toArray⟩]
theorem enT_len (x:Int):(enT x).length=1:=rfl
theorem infoT:(Tryz.prog.info? 9).map (λ i=>(i.zero,i.size,i.bytes))=some (some (.string ⟨#[]⟩),1,16):=by kernel_rfl
theorem join (A:Option Addr) (cp B:Nat) (xs:List Int) (sep:ByteArray) (w:World) (hB:B<=w.heap.size) (hr:RdS w B 1 enI A xs) (hx:∀ x ∈ xs,-9223372036854775808<=x∧x<=9223372036854775807) (h0:0<xs.length) (hlen:(Lib.join (xs.map Lib.itoa) sep.data.toList).length<=140737488355328) (hn:xs.length<=1048576) (ht:TabOk w) :
  Calls Tryz.prog 64 #[.slice A xs.length cp,.string sep] w λ e w'=>e=.returned (.string ⟨(Lib.join (xs.map Lib.itoa) sep.data.toList).toArray⟩)∧Below w.heap.size w w':=by
 obtain⟨P,V,D,C,v⟩:=info_parts infoT
 generalize hnn:xs.length=n at *
 have H:=kD hnn;clear hnn;go_enter Tryz.func64,Tryz.ntmps64;go_wp2_with (at_make;refine wpList_make_full _ rfl _ _ _ rfl w.heap.size 9 P _ 1 Tryz.underlying87 V D C _ _ _ _ n rfl rfl rfl rfl ?c1 ?c2 (Nat.le_refl _) ?_)
 case c1=>rw [v];omega
 case c2=>unfold maxLen;omega
 intro F h d;have c:=kD (RowB.of_own h);have l:Below w.heap.size w F:=(Below.refl _ _).grown d (Nat.le_refl _) (by simp);have E:w.heap.size<F.heap.size:=c.out.lt;clear h d;go_wp2_with fail;go_loopw [13] (λ i wr=>∃ k:Nat,k<=n∧i=.int .i64 (k:Int)∧Below w.heap.size w wr∧Hid (RowB wr w.heap.size 9 ((xs.take k).flatMap enT++List.replicate (n - k) (.string ⟨#[]⟩)))) (λ i _=>n - (intOf i).toNat)
 case atStart=>exact⟨0,Nat.zero_le _,rfl,l,by simpa [made_rep] using c⟩
 case round =>
  obtain⟨k,hk,rfl,a,s⟩:=hrel;clear l c E;have T:=s.out.lt;by_cases hlt:k<n
  ·obtain⟨b,O,x,rfl,Y,q,X⟩:=rdI_at (hr.below a hB) (by rw [H.out];exact hlt);obtain⟨M,L⟩:=hx x (List.mem_of_getElem? q);have Z:=kD q;clear q;go_wp2_with fail;refine(decimal x M L _ (ht.below a)).mono ?_;rintro e t ⟨rfl,f⟩;have g:=kD (s.out.below f T);have r:=a.trans (f.mono a.size);have S:=g.out.lt;have W:=g.out.frozen;obtain⟨z,hz⟩:∃ z,t.cell? ⟨w.heap.size,k,none⟩=some z:=by
    rw [g.out.cell];refine⟨_,List.getElem?_eq_getElem ?_⟩;rw [List.length_append,flatMap_len enT_len,List.length_take,List.length_replicate,H.out];omega
   have HF:Hid (RowB (t.setCell ⟨w.heap.size,k,none⟩ (.string ⟨(Lib.itoa x).toArray⟩)) w.heap.size 9 ((xs.take (k+1)).flatMap enT++List.replicate (n - (k+1)) (.string ⟨#[]⟩))):=by
    have I:=g.out.set k (.string ⟨(Lib.itoa x).toArray⟩);obtain⟨m,R⟩:∃ m,n - k=m+1:=⟨n - k - 1,by omega⟩;rw [R,fill1 Z.out rfl enT_len] at I;rw [show n - (k+1)=m from by omega];exact I
   have N:=kD (r.setCell (p:=⟨w.heap.size,k,none⟩) (Nat.le_refl _) (.string ⟨(Lib.itoa x).toArray⟩));clear X Y;go_wp2_with fail;go_roundw
   case rel=>exact⟨k+1,by omega,by go_num,N.out,HF⟩
   case measure=>simp [intOf];omega
  ·obtain rfl:k=n:=by omega
   have o:=s.out;rw [Nat.sub_self,List.replicate_zero,List.append_nil,List.take_of_length_le (by rw [H.out];exact Nat.le_refl _)] at o;have J:Hid ((xs.map λ x=>(⟨(Lib.itoa x).toArray⟩:ByteArray)).map (·.data.toList)=xs.map Lib.itoa):=by show _=_;rw [List.map_map];exact List.map_congr_left λ x _=>rfl
   have K:=Tryz.strings_Join w.heap.size 0 k (xs.map λ x=>(⟨(Lib.itoa x).toArray⟩:ByteArray)) sep wr (λ j x G=>by
    rw [List.getElem?_map] at G;obtain⟨y,Q,rfl⟩:=Option.map_eq_some_iff.1 G;rw [Nat.zero_add,o.cell];have:=flatMap_at enT_len xs j y Q 0 _ rfl
    simpa using this) o.lt (by rw [List.length_map,H.out];omega) (by rw [List.length_map,H.out];exact Nat.le_refl _) (by rw [J.out];exact hlen)
   rw [List.length_map,H.out,J.out] at K;clear s;go_wp2_with fail;refine K.mono ?_;rintro e t ⟨rfl,f⟩;go_wp2_with fail;go_ret;exact⟨rfl,a.trans (f.mono a.size)⟩
end JoinN
namespace Num
open Go.ChangeShapes Go.WideShapes Go.ChangeAt Go.RowKit Base JoinN TxP
theorem var_below {w w':World} {n:String} {cs:Array Value} (h:w.var? Tryz.prog n=some cs) (hb:Below w.heap.size w w'):w'.var? Tryz.prog n=some cs:=by
 unfold World.var? at h ⊢
 cases hg:Tryz.prog.globalNamed n with
 | none=>rw [hg] at h;simp at h
 | some g =>
  rw [hg] at h;have a:g<w.heap.size:=by
   rcases Nat.lt_or_ge g w.heap.size with h1 | h1
   ·exact h1
   ·replace h:(match w.heap[g]? with | some (.cells cs _ _)=>some cs | _=>none)=_:=h;rw [Array.getElem?_eq_none h1] at h
    cases h
  show (match w'.heap[g]? with | some (.cells cs _ _)=>some cs | _=>none)=_
  rw [hb.block g a];exact h
structure Env (w:World):Prop where
 tab:TabOk w
 syn:∃ tp p,w.var? Tryz.prog "strconv.ErrSyntax"=some #[.iface tp p]
 rng:∃ tp p,w.var? Tryz.prog "strconv.ErrRange"=some #[.iface tp p]
 shp:w.ShapedOpen Tryz.prog
theorem Env.below {w w':World} (h:Env w) (hb:Below w.heap.size w w'):Env w':=by
 obtain⟨i,⟨b,p,g⟩,⟨a,c,f⟩,e⟩:=h;exact⟨i.below hb,⟨b,p,var_below g hb⟩,⟨a,c,var_below f hb⟩,e.keptBut (may:=λ _=>False) (hb.frame _) (λ p d=>d.elim)⟩
theorem decimalZ (n:Int) (h0:-9223372036854775808<=n) (h1:n<=9223372036854775807) (w:World) (ht:TabOk w) :
  Calls Tryz.prog 27 #[.int .i64 n] w λ e w'=>e=.returned (.string ⟨(Lib.itoa n).toArray⟩)∧Below w.heap.size w w':=by
 go_enter Tryz.func27,Tryz.ntmps27;go_wp2_with fail;refine(Tryz.strconv_FormatInt_10 n h0 h1 _ ht).mono ?_;rintro e a ⟨rfl,k,b,rfl⟩;go_wp2_with fail;go_ret;exact⟨rfl,grow_bel _ _ _⟩
def PI (s:ByteArray) (e:Ending):Prop :=
 (∃ v,Lib.parseIntB 64 s.data.toList=.ok v∧e=.returned (.tuple #[.int .i64 v,.nilIface]))∨((∀ v,Lib.parseIntB 64 s.data.toList≠.ok v)∧∃ v t a,e=.returned (.tuple #[.int .i64 v,.iface t a]))
theorem pint (s:ByteArray) (hs:s.size<=4194304) (w:World) (E:Env w) :
  Calls Tryz.prog 90 #[.string s,.int .i64 10,.int .i64 64] w λ e w'=>PI s e∧Below w.heap.size w w':=by
 obtain⟨f,p,k⟩:=E.syn;obtain⟨b,g,j⟩:=E.rng;by_cases h:∃ v,Lib.parseIntB 64 s.data.toList=.ok v
 ·obtain⟨v,a⟩:=h;refine(Tryz.strconv_ParseInt_10_at64_ok s (by omega) v a w).mono ?_;rintro e w' ⟨rfl,i⟩;refine⟨.inl ⟨v,a,rfl⟩,?_⟩;rcases i with rfl | ⟨t,rfl⟩
  ·exact Below.refl _ _
  ·exact Lib.bytesWorld_below _ _ _
 ·have c:∀ v,Lib.parseIntB 64 s.data.toList≠.ok v:=λ v a=>h ⟨v,a⟩
  by_cases hr:Lib.parseIntB 64 s.data.toList=.range
  ·refine(Tryz.strconv_ParseInt_10_at64_range_var s (by omega) hr b g w j).mono ?_;rintro e w' ⟨N,rfl,_,_,d⟩;exact⟨.inr ⟨c,_,_,_,rfl⟩,d⟩
  ·refine(Tryz.strconv_ParseInt_10_at64_fault_var s (by omega) ⟨c,hr⟩ f p w k).mono ?_;rintro e w' ⟨N,rfl,_,_,d⟩;exact⟨.inr ⟨c,_,_,_,rfl⟩,d⟩
theorem data_len (s:ByteArray):s.data.toList.length=s.size:=by rw [Array.length_toList];rfl
theorem trim_len (l:List UInt8):(Lib.trimPrefix l [45]).length<=l.length:=by
 unfold Lib.trimPrefix;split
 ·simp
 ·exact Nat.le_refl _
theorem readD (s:ByteArray) (hs:s.size<=4194304) (w:World) (E:Env w) :
  Calls Tryz.prog 62 #[.string s] w λ e w'=>e=.returned (.tuple #[.int .i64 (rdDec s.data.toList).1,.bool (rdDec s.data.toList).2])∧Below w.heap.size w w':=by
 obtain⟨T,p⟩:∃ T:List UInt8,Lib.trimPrefix s.data.toList [45]=T:=⟨_,rfl⟩;have D:=trim_len s.data.toList;rw [p,data_len] at D;obtain⟨j,c⟩:∃ j:ByteArray,(⟨T.toArray⟩:ByteArray)=j:=⟨_,rfl⟩;have n:j.size=T.length:=by rw [<-c];simp [ByteArray.size]
 have O:=kD c;have b:=Tryz.strings_TrimPrefix s ⟨#[45]⟩ w;rw [show (⟨#[45]⟩:ByteArray).data.toList=[45] from rfl,p,c] at b;have d:=kD b;by_cases h0:T=[]∨19<T.length
 ·have f:rdDec s.data.toList=(0,false):=by unfold rdDec;rw [p,if_pos h0]
  rw [f];by_cases k:T=[]
  ·have H:j.toList.isEmpty=true:=by rw [<-c,ByteArray.toList_eq,k];rfl
   clear p c b h0 f k n;go_enter Tryz.func62,Tryz.ntmps62;go_wp2_with fail;refine d.out.mono ?_;rintro e G ⟨rfl,y⟩;subst y;go_wp2_with fail;go_ret2;exact⟨rfl,Below.refl _ _⟩
  ·have M:19<T.length:=h0.elim (λ h=>absurd h k) (λ h=>h);have H:j.toList.isEmpty=false:=by
    rw [<-c,ByteArray.toList_eq]
    cases T with
    | nil=>exact absurd rfl k
    | cons x l=>rfl
   have L:decide ((19:Int)<(j.size:Int))=true:=decide_eq_true (by omega);clear p c b h0 f k n;go_enter Tryz.func62,Tryz.ntmps62;go_wp2_with fail;refine d.out.mono ?_;rintro e G ⟨rfl,y⟩;subst y;go_wp2_with fail;go_ret2;exact⟨rfl,Below.refl _ _⟩
 ·have k:¬ T=[]:=λ h=>h0 (.inl h)
  have M:¬ 19<T.length:=λ h=>h0 (.inr h)
  have A:rdDec s.data.toList=match Lib.parseIntB 64 s.data.toList with
   | .ok v=>if Lib.itoa v=s.data.toList then (v,true) else (0,false)
   | _=>(0,false):=by unfold rdDec;rw [p,if_neg h0];rfl
  have r:=kD A;obtain⟨R,f⟩:∃ R,rdDec s.data.toList=R:=⟨_,rfl⟩;have q:=kD f;rw [f];have H:j.toList.isEmpty=false:=by
   rw [<-c,ByteArray.toList_eq]
   cases T with
   | nil=>exact absurd rfl k
   | cons x l=>rfl
  have L:decide ((19:Int)<(j.size:Int))=false:=decide_eq_false (by omega);clear p c b h0 k n A f;go_enter Tryz.func62,Tryz.ntmps62;go_wp2_with fail;refine d.out.mono ?_;rintro e G ⟨rfl,y⟩;subst y;go_wp2_with fail;refine(pint s hs _ E).mono ?_;rintro e S ⟨K,g⟩;have P:=E.below g;rcases K with ⟨v,hv,rfl⟩ | ⟨hv,v,t,a,rfl⟩
  ·have J:=kD hv;have C:=Lib.parseIntB_bounds hv;have B:((2 ^ (64 - 1):Nat):Int)=9223372036854775808:=by decide
   rw [B] at C;clear hv B;go_wp2_with fail;refine(decimalZ v (by omega) (by omega) _ P.tab).mono ?_;rintro e Q ⟨rfl,z⟩;obtain⟨m,o⟩:∃ m:ByteArray,(⟨(Lib.itoa v).toArray⟩:ByteArray)=m:=⟨_,rfl⟩;have i:m.data.toList=Lib.itoa v:=by rw [<-o]
   rw [o];clear o;have I:=g.trans (z.mono g.size);clear g z;by_cases hi:Lib.itoa v=s.data.toList
   ·have f:R=(v,true):=by rw [<-q.out,r.out,J.out];simp only;rw [if_pos hi]
    have F:(m.toList == s.toList)=true:=by rw [ByteArray.toList_eq,ByteArray.toList_eq,i];simp [hi]
    have N:(m.toList != s.toList)=false:=by simp only [bne,F];rfl
    subst f;clear hi i;go_wp2_with fail;go_ret2;exact⟨rfl,I⟩
   ·have f:R=(0,false):=by rw [<-q.out,r.out,J.out];simp only;rw [if_neg hi]
    have F:(m.toList == s.toList)=false:=by rw [ByteArray.toList_eq,ByteArray.toList_eq,i];simp [hi]
    have N:(m.toList != s.toList)=true:=by simp only [bne,F];rfl
    subst f;clear hi i;go_wp2_with fail;go_ret2;exact⟨rfl,I⟩
  ·have f:R=(0,false):=by
    rw [<-q.out,r.out];split
    ·rename_i v' h';exact absurd h' (hv v')
    ·rfl
   subst f;clear hv;go_wp2_with fail;go_ret2;exact⟨rfl,g⟩
end Num
namespace TxI
open Go.ChangeShapes Go.WideShapes Go.ChangeAt Go.RowKit Base Ints JoinN PlP TxP Num Bd1
def bs (l:By):ByteArray:=⟨l.toArray⟩
theorem bs_cat (a b:By):bs a++bs b=bs (a++b):=by
 apply ByteArray.ext
 simp [bs,ByteArray.data_append]
theorem bs_size (a:By):(bs a).size=a.length:=by simp [bs,ByteArray.size]
theorem bs_data (a:By):(bs a).data.toList=a:=rfl
theorem bs_of (s:ByteArray):bs s.data.toList=s:=by obtain⟨⟨l⟩⟩:=s;rfl
theorem bs_eq {a b:By}:((bs a).toList == (bs b).toList)=decide (a=b):=by
 rw [ByteArray.toList_eq,ByteArray.toList_eq,bs_data,bs_data];by_cases h:a=b <;> simp [h]
theorem plain_i (v:Vr) (hv:okV v=true) (s:Stp) (c:Bool) (hc:plainB v s=c) (w:World):Calls Tryz.prog 82 #[.agg #[.int .i64 v.p,.int .i64 v.c,.int .i64 v.h,.int .i64 v.s],.agg #[.int .i64 s.1,.int .i64 s.2.1,.int .i64 s.2.2.1,.bool s.2.2.2]] w λ e w'=>e=.returned (.bool c)∧Below w.heap.size w w':=by
 have m:=okV_iff.1 hv;obtain⟨f,t,d,h⟩:=s;unfold plainB at hc;simp only at hc ⊢;obtain⟨o,b⟩:∃ c,decide (0<=f∧f<=v.p)=c:=⟨_,rfl⟩;obtain⟨n,a⟩:∃ c,decide (1<=d∧d<=v.s)=c:=⟨_,rfl⟩;rw [b,a] at hc;have l:=kD (λ w=>in_i f 0 v.p o b w);have q:=kD (λ w=>in_i d 1 v.s n a w);have g:=kD (And.intro b a);have E:=kD m;have j:=kD hc;clear hc b a m hv
 cases o
 ·obtain rfl:c=false:=by rw [<-j.out];simp
  go_enter Tryz.func82,Tryz.ntmps82;go_wp2_with fail;refine(l.out _).mono ?_;rintro e i ⟨rfl,rfl⟩;go_wp2_with fail;go_ret;exact⟨rfl,by go_grown⟩
 cases n
 ·obtain rfl:c=false:=by rw [<-j.out];simp
  go_enter Tryz.func82,Tryz.ntmps82;go_wp2_with fail;refine(l.out _).mono ?_;rintro e i ⟨rfl,rfl⟩;go_wp2_with fail;refine(q.out _).mono ?_;rintro e i ⟨rfl,rfl⟩;go_wp2_with fail;go_ret;exact⟨rfl,by go_grown⟩
 have A:(0<=f∧f<=24)∧1<=d∧d<=6:=by
  have b:=of_decide_eq_true g.out.1;have a:=of_decide_eq_true g.out.2;have:=E.out;omega
 obtain⟨⟨x,r⟩,z,y⟩:=A;go_enter Tryz.func82,Tryz.ntmps82;go_wp2_with fail;refine(l.out _).mono ?_;rintro e i ⟨rfl,rfl⟩;go_wp2_with fail;refine(q.out _).mono ?_;rintro e i ⟨rfl,rfl⟩;by_cases ht:t=-1
 ·have C:(t == -1)=true:=by simp [ht]
  have hc:=j.out;rw [if_pos ht] at hc;simp only [Bool.true_and] at hc;clear ht
  cases h
  ·by_cases h3:f<v.p
   ·have k:=decide_eq_true h3;by_cases h4:f<d
    ·obtain rfl:c=true:=by rw [<-hc];simp [h3,h4]
     have D:=decide_eq_true h4;clear hc;go_wp2_with fail;go_ret;exact⟨rfl,by go_grown⟩
    ·obtain rfl:c=false:=by rw [<-hc];simp [h4]
     have D:=decide_eq_false h4;clear hc;go_wp2_with fail;go_ret;exact⟨rfl,by go_grown⟩
   ·obtain rfl:c=false:=by rw [<-hc];simp [h3]
    have k:=decide_eq_false h3;clear hc;go_wp2_with fail;go_ret;exact⟨rfl,by go_grown⟩
  ·obtain rfl:c=false:=by rw [<-hc];simp
   clear hc;go_wp2_with fail;go_ret;exact⟨rfl,by go_grown⟩
 ·have C:(t == -1)=false:=by simp [ht]
  have hc:=j.out;rw [if_neg ht] at hc;simp only [Bool.true_and] at hc;clear ht;by_cases h3:0<=t
  ·have k:=decide_eq_true h3;by_cases h4:t=f - d
   ·obtain rfl:c=true:=by rw [<-hc];exact decide_eq_true ⟨h3,h4⟩
    have B:(t == f - d)=true:=by simp [h4]
    clear hc h4;go_wp2_with fail;go_ret;exact⟨rfl,by go_grown⟩
   ·obtain rfl:c=false:=by rw [<-hc];exact decide_eq_false (λ h=>h4 h.2)
    have B:(t == f - d)=false:=by simp [h4]
    clear hc h4;go_wp2_with fail;go_ret;exact⟨rfl,by go_grown⟩
  ·obtain rfl:c=false:=by rw [<-hc];exact decide_eq_false (λ h=>h3 h.1)
   have k:=decide_eq_false h3;clear hc;go_wp2_with fail;go_ret;exact⟨rfl,by go_grown⟩
structure Bx (w wr:World) (v:Vr) (f t d:Int) (h:Bool):Prop where
 bel:Below w.heap.size w wr
 rv:RowB wr w.heap.size 25 (vL v)
 rs:RowB wr (w.heap.size+1) 111 [.int .i64 f,.int .i64 t,.int .i64 d,.bool h]
theorem Bx.below {w wr w':World} {v:Vr} {f t d:Int} {h:Bool} (k:Bx w wr v f t d h) (hb:Below wr.heap.size wr w'):Bx w w' v f t d h :=
 ⟨k.bel.trans (hb.mono k.bel.size),k.rv.below hb k.rv.lt,k.rs.below hb k.rs.lt⟩
theorem step_i (v:Vr) (hv:okV v=true) (s:Stp) (hs:plainB v s=true) (w:World) (hT:TabOk w):Calls Tryz.prog 83 #[.agg #[.int .i64 v.p,.int .i64 v.c,.int .i64 v.h,.int .i64 v.s],.agg #[.int .i64 s.1,.int .i64 s.2.1,.int .i64 s.2.2.1,.bool s.2.2.2]] w λ e w'=>e=.returned (.string (bs (stpT v s)))∧Below w.heap.size w w':=by
 have hp:=okV_iff.1 hv;obtain⟨h1,h2,Z⟩:=plain_parts hs;obtain⟨f,t,d,h⟩:=s;simp only at h1 h2 Z ⊢;have HB:=kD hp;have k:(0<=f∧f<=24)∧(1<=d∧d<=6)∧-1<=t∧t<=24:=by omega
 have W:=kD (λ(M:World) (P:TabOk M)=>decimalZ (f+1) (by omega) (by omega) M P);have V:=kD (λ(M:World) (P:TabOk M)=>decimalZ (t+1) (by omega) (by omega) M P);have CD:=kD (λ(M:World) (P:TabOk M)=>decimalZ d (by omega) (by omega) M P);obtain⟨H,J⟩:∃ x:ByteArray,(⟨(Lib.itoa (f+1)).toArray⟩:ByteArray)=x:=⟨_,rfl⟩;obtain⟨G,I⟩:∃ x:ByteArray,(⟨(Lib.itoa (t+1)).toArray⟩:ByteArray)=x:=⟨_,rfl⟩;obtain⟨X,L⟩:∃ x:ByteArray,(⟨(Lib.itoa d).toArray⟩:ByteArray)=x:=⟨_,rfl⟩;have zf:H.size<=2:=by rw [<-J];have:=ito_len (n:=f+1) (by omega) (by omega);exact Nat.le_trans (Nat.le_of_eq (bs_size _)) this.2
 have zt:G.size<=2:=by rw [<-I];have:=ito_len (n:=t+1) (by omega) (by omega);exact Nat.le_trans (Nat.le_of_eq (bs_size _)) this.2
 have zd:X.size<=2:=by rw [<-L];have:=ito_len (n:=d) (by omega) (by omega);exact Nat.le_trans (Nat.le_of_eq (bs_size _)) this.2
 have qf:H=bs (Lib.itoa (f+1)):=J.symm;have qt:G=bs (Lib.itoa (t+1)):=I.symm;have qd:X=bs (Lib.itoa d):=L.symm;rw [J] at W;rw [I] at V;rw [L] at CD;have l:=kD (And.intro qf (And.intro qt qd));have H3:=kD Z;obtain⟨R,Y⟩:∃ R,bs (stpT v (f,t,d,h))=R:=⟨_,rfl⟩;have B:=kD Y;rw [Y];clear J I L qf qt qd Y hs Z hv hp;obtain⟨⟨ad,ac⟩,⟨af,ae⟩,ab,aa⟩:=k;clear h1 h2;by_cases hfp:f<v.p
 ·by_cases ht:0<=t
  ·cases h
   ·have A:Hid ((((H++⟨#[47]⟩)++G):ByteArray)=R):=by
     show _=_
     rw [<-B.out];simp only [l.out.1,l.out.2.1,l.out.2.2];have j:(⟨#[47]⟩:ByteArray)=bs [47]:=rfl;have i:(⟨#[42]⟩:ByteArray)=bs [42]:=rfl;have g:(⟨#[47,111,102,102]⟩:ByteArray)=bs [47,111,102,102]:=rfl;have E:(⟨#[40]⟩:ByteArray)=bs [40]:=rfl;have D:(⟨#[41]⟩:ByteArray)=bs [41]:=rfl;have C:(⟨#[98,97,114]⟩:ByteArray)=bs [98,97,114]:=rfl;simp only [j,i,g,E,D,C,bs_cat];unfold stpT fromT;simp [hfp,ht]
    have z:Hid (Ending.returned (.string (((H++⟨#[47]⟩)++G)))=Ending.returned (.string R)):=by show _=_;rw [A.out]
    have T:decide (0<=t)=true:=decide_eq_true ht;have S:(t == -1)=false:=by simp;omega
    have Q:decide (f<v.p)=true:=decide_eq_true hfp;clear A l B;go_enter Tryz.func83,Tryz.ntmps83;go_upto_region 1 with fail;refine wp_gen (λ F=>Bx w F v f t d false) ⟨by go_grown,(RowB.new _ _ _).alloc _,RowB.new' _ _ _ (by simp)⟩ ?_;intro O K;obtain⟨y,j,i,g⟩:=K.rv.c4;obtain⟨r,q,o,m⟩:=K.rs.c4;have b:=K.rv.lt;have a:=K.rs.lt;go_wp2_with fail;refine(W.out _ (hT.below K.bel)).mono ?_;rintro e N ⟨rfl,k⟩;have K:=K.below k;clear y j i g r q o m b a k;obtain⟨y,j,i,g⟩:=K.rv.c4;obtain⟨r,q,o,m⟩:=K.rs.c4;have b:=K.rv.lt;have a:=K.rs.lt;go_wp2_with fail;refine(V.out _ (hT.below K.bel)).mono ?_;rintro e w3 ⟨rfl,k⟩;have K:=K.below k;clear y j i g r q o m b a k;obtain⟨y,j,i,g⟩:=K.rv.c4;obtain⟨r,q,o,m⟩:=K.rs.c4;have b:=K.rv.lt;have a:=K.rs.lt;go_wp2_with fail;go_ret;exact⟨z.out,K.bel⟩
   ·have A:Hid ((((H++⟨#[47]⟩)++G)++⟨#[42]⟩:ByteArray)=R):=by
     show _=_
     rw [<-B.out];simp only [l.out.1,l.out.2.1,l.out.2.2];have j:(⟨#[47]⟩:ByteArray)=bs [47]:=rfl;have i:(⟨#[42]⟩:ByteArray)=bs [42]:=rfl;have g:(⟨#[47,111,102,102]⟩:ByteArray)=bs [47,111,102,102]:=rfl;have E:(⟨#[40]⟩:ByteArray)=bs [40]:=rfl;have D:(⟨#[41]⟩:ByteArray)=bs [41]:=rfl;have C:(⟨#[98,97,114]⟩:ByteArray)=bs [98,97,114]:=rfl;simp only [j,i,g,E,D,C,bs_cat];unfold stpT fromT;simp [hfp,ht]
    have z:Hid (Ending.returned (.string (((H++⟨#[47]⟩)++G)++⟨#[42]⟩))=Ending.returned (.string R)):=by show _=_;rw [A.out]
    have T:decide (0<=t)=true:=decide_eq_true ht;have S:(t == -1)=false:=by simp;omega
    have Q:decide (f<v.p)=true:=decide_eq_true hfp;clear A l B;go_enter Tryz.func83,Tryz.ntmps83;go_upto_region 1 with fail;refine wp_gen (λ F=>Bx w F v f t d true) ⟨by go_grown,(RowB.new _ _ _).alloc _,RowB.new' _ _ _ (by simp)⟩ ?_;intro O K;obtain⟨y,j,i,g⟩:=K.rv.c4;obtain⟨r,q,o,m⟩:=K.rs.c4;have b:=K.rv.lt;have a:=K.rs.lt;go_wp2_with fail;refine(W.out _ (hT.below K.bel)).mono ?_;rintro e N ⟨rfl,k⟩;have K:=K.below k;clear y j i g r q o m b a k;obtain⟨y,j,i,g⟩:=K.rv.c4;obtain⟨r,q,o,m⟩:=K.rs.c4;have b:=K.rv.lt;have a:=K.rs.lt;go_wp2_with fail;refine(V.out _ (hT.below K.bel)).mono ?_;rintro e w3 ⟨rfl,k⟩;have K:=K.below k;clear y j i g r q o m b a k;obtain⟨y,j,i,g⟩:=K.rv.c4;obtain⟨r,q,o,m⟩:=K.rs.c4;have b:=K.rv.lt;have a:=K.rs.lt;go_wp2_with fail;go_ret;exact⟨z.out,K.bel⟩
  ·obtain rfl:h=false:=by have:=H3.out;rcases this with h | h;exact h.2.1;omega
   by_cases hdf:d=f+1
   ·have A:Hid (((H++⟨#[47,111,102,102]⟩):ByteArray)=R):=by
     show _=_
     rw [<-B.out];simp only [l.out.1,l.out.2.1,l.out.2.2];have j:(⟨#[47]⟩:ByteArray)=bs [47]:=rfl;have i:(⟨#[42]⟩:ByteArray)=bs [42]:=rfl;have g:(⟨#[47,111,102,102]⟩:ByteArray)=bs [47,111,102,102]:=rfl;have E:(⟨#[40]⟩:ByteArray)=bs [40]:=rfl;have D:(⟨#[41]⟩:ByteArray)=bs [41]:=rfl;have C:(⟨#[98,97,114]⟩:ByteArray)=bs [98,97,114]:=rfl;simp only [j,i,g,E,D,C,bs_cat];unfold stpT fromT;simp [hfp,ht,hdf]
    have z:Hid (Ending.returned (.string ((H++⟨#[47,111,102,102]⟩)))=Ending.returned (.string R)):=by show _=_;rw [A.out]
    have T:decide (0<=t)=false:=decide_eq_false ht;have S:(t == -1)=true:=by simp;omega
    have g3:(d != f+1)=false:=by simp [hdf]
    have Q:decide (f<v.p)=true:=decide_eq_true hfp;clear A l B hdf;go_enter Tryz.func83,Tryz.ntmps83;go_upto_region 1 with fail;refine wp_gen (λ F=>Bx w F v f t d false) ⟨by go_grown,(RowB.new _ _ _).alloc _,RowB.new' _ _ _ (by simp)⟩ ?_;intro O K;obtain⟨y,j,i,g⟩:=K.rv.c4;obtain⟨r,q,o,m⟩:=K.rs.c4;have b:=K.rv.lt;have a:=K.rs.lt;go_wp2_with fail;refine(W.out _ (hT.below K.bel)).mono ?_;rintro e N ⟨rfl,k⟩;have K:=K.below k;clear y j i g r q o m b a k;obtain⟨y,j,i,g⟩:=K.rv.c4;obtain⟨r,q,o,m⟩:=K.rs.c4;have b:=K.rv.lt;have a:=K.rs.lt;go_wp2_with fail;go_ret;exact⟨z.out,K.bel⟩
   ·have A:Hid (((H++⟨#[47,111,102,102]⟩)++(((⟨#[40]⟩:ByteArray)++X)++⟨#[41]⟩):ByteArray)=R):=by
     show _=_
     rw [<-B.out];simp only [l.out.1,l.out.2.1,l.out.2.2];have j:(⟨#[47]⟩:ByteArray)=bs [47]:=rfl;have i:(⟨#[42]⟩:ByteArray)=bs [42]:=rfl;have g:(⟨#[47,111,102,102]⟩:ByteArray)=bs [47,111,102,102]:=rfl;have E:(⟨#[40]⟩:ByteArray)=bs [40]:=rfl;have D:(⟨#[41]⟩:ByteArray)=bs [41]:=rfl;have C:(⟨#[98,97,114]⟩:ByteArray)=bs [98,97,114]:=rfl;simp only [j,i,g,E,D,C,bs_cat];unfold stpT fromT;simp [hfp,ht,hdf]
    have z:Hid (Ending.returned (.string ((H++⟨#[47,111,102,102]⟩)++(((⟨#[40]⟩:ByteArray)++X)++⟨#[41]⟩)))=Ending.returned (.string R)):=by show _=_;rw [A.out]
    have T:decide (0<=t)=false:=decide_eq_false ht;have S:(t == -1)=true:=by simp;omega
    have g3:(d != f+1)=true:=by simp;exact hdf
    have Q:decide (f<v.p)=true:=decide_eq_true hfp;clear A l B hdf;go_enter Tryz.func83,Tryz.ntmps83;go_upto_region 1 with fail;refine wp_gen (λ F=>Bx w F v f t d false) ⟨by go_grown,(RowB.new _ _ _).alloc _,RowB.new' _ _ _ (by simp)⟩ ?_;intro O K;obtain⟨y,j,i,g⟩:=K.rv.c4;obtain⟨r,q,o,m⟩:=K.rs.c4;have b:=K.rv.lt;have a:=K.rs.lt;go_wp2_with fail;refine(W.out _ (hT.below K.bel)).mono ?_;rintro e N ⟨rfl,k⟩;have K:=K.below k;clear y j i g r q o m b a k;obtain⟨y,j,i,g⟩:=K.rv.c4;obtain⟨r,q,o,m⟩:=K.rs.c4;have b:=K.rv.lt;have a:=K.rs.lt;go_wp2_with fail;refine(CD.out _ (hT.below K.bel)).mono ?_;rintro e w3 ⟨rfl,k⟩;have K:=K.below k;clear y j i g r q o m b a k;obtain⟨y,j,i,g⟩:=K.rv.c4;obtain⟨r,q,o,m⟩:=K.rs.c4;have b:=K.rv.lt;have a:=K.rs.lt;go_wp2_with fail;go_ret;exact⟨z.out,K.bel⟩
 ·by_cases ht:0<=t
  ·cases h
   ·have A:Hid (((((⟨#[98,97,114]⟩:ByteArray)++⟨#[47]⟩)++G):ByteArray)=R):=by
     show _=_
     rw [<-B.out];simp only [l.out.1,l.out.2.1,l.out.2.2];have j:(⟨#[47]⟩:ByteArray)=bs [47]:=rfl;have i:(⟨#[42]⟩:ByteArray)=bs [42]:=rfl;have g:(⟨#[47,111,102,102]⟩:ByteArray)=bs [47,111,102,102]:=rfl;have E:(⟨#[40]⟩:ByteArray)=bs [40]:=rfl;have D:(⟨#[41]⟩:ByteArray)=bs [41]:=rfl;have C:(⟨#[98,97,114]⟩:ByteArray)=bs [98,97,114]:=rfl;simp only [j,i,g,E,D,C,bs_cat];unfold stpT fromT;simp [hfp,ht]
    have z:Hid (Ending.returned (.string ((((⟨#[98,97,114]⟩:ByteArray)++⟨#[47]⟩)++G)))=Ending.returned (.string R)):=by show _=_;rw [A.out]
    have T:decide (0<=t)=true:=decide_eq_true ht;have S:(t == -1)=false:=by simp;omega
    have Q:decide (f<v.p)=false:=decide_eq_false hfp;clear A l B;go_enter Tryz.func83,Tryz.ntmps83;go_upto_region 1 with fail;refine wp_gen (λ F=>Bx w F v f t d false) ⟨by go_grown,(RowB.new _ _ _).alloc _,RowB.new' _ _ _ (by simp)⟩ ?_;intro O K;obtain⟨y,j,i,g⟩:=K.rv.c4;obtain⟨r,q,o,m⟩:=K.rs.c4;have b:=K.rv.lt;have a:=K.rs.lt;go_wp2_with fail;refine(V.out _ (hT.below K.bel)).mono ?_;rintro e N ⟨rfl,k⟩;have K:=K.below k;clear y j i g r q o m b a k;obtain⟨y,j,i,g⟩:=K.rv.c4;obtain⟨r,q,o,m⟩:=K.rs.c4;have b:=K.rv.lt;have a:=K.rs.lt;go_wp2_with fail;go_ret;exact⟨z.out,K.bel⟩
   ·have A:Hid (((((⟨#[98,97,114]⟩:ByteArray)++⟨#[47]⟩)++G)++⟨#[42]⟩:ByteArray)=R):=by
     show _=_
     rw [<-B.out];simp only [l.out.1,l.out.2.1,l.out.2.2];have j:(⟨#[47]⟩:ByteArray)=bs [47]:=rfl;have i:(⟨#[42]⟩:ByteArray)=bs [42]:=rfl;have g:(⟨#[47,111,102,102]⟩:ByteArray)=bs [47,111,102,102]:=rfl;have E:(⟨#[40]⟩:ByteArray)=bs [40]:=rfl;have D:(⟨#[41]⟩:ByteArray)=bs [41]:=rfl;have C:(⟨#[98,97,114]⟩:ByteArray)=bs [98,97,114]:=rfl;simp only [j,i,g,E,D,C,bs_cat];unfold stpT fromT;simp [hfp,ht]
    have z:Hid (Ending.returned (.string ((((⟨#[98,97,114]⟩:ByteArray)++⟨#[47]⟩)++G)++⟨#[42]⟩))=Ending.returned (.string R)):=by show _=_;rw [A.out]
    have T:decide (0<=t)=true:=decide_eq_true ht;have S:(t == -1)=false:=by simp;omega
    have Q:decide (f<v.p)=false:=decide_eq_false hfp;clear A l B;go_enter Tryz.func83,Tryz.ntmps83;go_upto_region 1 with fail;refine wp_gen (λ F=>Bx w F v f t d true) ⟨by go_grown,(RowB.new _ _ _).alloc _,RowB.new' _ _ _ (by simp)⟩ ?_;intro O K;obtain⟨y,j,i,g⟩:=K.rv.c4;obtain⟨r,q,o,m⟩:=K.rs.c4;have b:=K.rv.lt;have a:=K.rs.lt;go_wp2_with fail;refine(V.out _ (hT.below K.bel)).mono ?_;rintro e N ⟨rfl,k⟩;have K:=K.below k;clear y j i g r q o m b a k;obtain⟨y,j,i,g⟩:=K.rv.c4;obtain⟨r,q,o,m⟩:=K.rs.c4;have b:=K.rv.lt;have a:=K.rs.lt;go_wp2_with fail;go_ret;exact⟨z.out,K.bel⟩
  ·exfalso;have:=H3.out;omega
theorem cut_w (l sep:By) (hl:l.length<=4194304) (w:World) (E:Env w):Calls Tryz.prog 40 #[.string (bs l),.string (bs sep)] w λ e w' =>
  e=.returned (.tuple #[.string (bs (Lib.cut l sep).1),.string (bs (Lib.cut l sep).2.1),.bool (Lib.cut l sep).2.2])∧Below w.heap.size w w':=by
 refine(Tryz.strings_Cut_shaped (bs l) (bs sep) w E.shp (by rw [bs_size];omega)).mono ?_;rintro e w' ⟨rfl,n,rfl⟩;exact⟨rfl,below_drewN (Below.refl _ _) _⟩
theorem cpre_w (l p:By) (w:World):Calls Tryz.prog 151 #[.string (bs l),.string (bs p)] w λ e w'=>e=.returned (.tuple #[.string (bs (Lib.trimPrefix l p)),.bool (Lib.hasPrefix l p)])∧w=w':=by
 refine(Tryz.strings_CutPrefix (bs l) (bs p) w).mono ?_;rintro e w' ⟨rfl,rfl⟩;exact⟨rfl,rfl⟩
theorem csuf_w (l p:By) (hl:l.length<=4194304) (w:World):Calls Tryz.prog 153 #[.string (bs l),.string (bs p)] w λ e w'=>e=.returned (.tuple #[.string (bs (Lib.trimSuffix l p)),.bool (Lib.hasSuffix l p)])∧w=w':=by
 refine(Tryz.strings_CutSuffix (bs l) (bs p) w (by rw [bs_size];omega)).mono ?_;rintro e w' ⟨rfl,rfl⟩;exact⟨rfl,rfl⟩
theorem tpre_w (l p:By) (w:World):Calls Tryz.prog 89 #[.string (bs l),.string (bs p)] w λ e w'=>e=.returned (.string (bs (Lib.trimPrefix l p)))∧w=w':=by
 refine(Tryz.strings_TrimPrefix (bs l) (bs p) w).mono ?_;rintro e w' ⟨rfl,rfl⟩;exact⟨rfl,rfl⟩
theorem tsuf_w (l p:By) (hl:l.length<=4194304) (w:World):Calls Tryz.prog 152 #[.string (bs l),.string (bs p)] w λ e w'=>e=.returned (.string (bs (Lib.trimSuffix l p)))∧w=w':=by
 refine(Tryz.strings_TrimSuffix (bs l) (bs p) w (by rw [bs_size];omega)).mono ?_;rintro e w' ⟨rfl,rfl⟩;exact⟨rfl,rfl⟩
theorem rdd_w (l:By) (hl:l.length<=4194304) (w:World) (E:Env w):Calls Tryz.prog 62 #[.string (bs l)] w λ e w'=>e=.returned (.tuple #[.int .i64 (rdDec l).1,.bool (rdDec l).2])∧Below w.heap.size w w' :=
 readD (bs l) (by rw [bs_size];omega) w E
theorem trp_len (l p:By):(Lib.trimPrefix l p).length<=l.length:=by
 unfold Lib.trimPrefix;split
 ·simp
 ·exact Nat.le_refl _
theorem trs_len (l p:By):(Lib.trimSuffix l p).length<=l.length:=by
 unfold Lib.trimSuffix;split
 ·rw [List.length_take];omega
 ·exact Nat.le_refl _
theorem rd_bd (l:By):-9223372036854775808<=(rdDec l).1∧(rdDec l).1<=9223372036854775807:=by
 unfold rdDec;split
 ·exact⟨by decide,by decide⟩
 ·split
  ·rename_i v hv
   have:=Lib.parseIntB_bounds hv;have a:((2 ^ (64 - 1):Nat):Int)=9223372036854775808:=by decide
   rw [a] at this;split
   ·simp only;omega
   ·exact⟨by decide,by decide⟩
  ·exact⟨by decide,by decide⟩
theorem spB (c:UInt8) (l:By):(Lib.splitB (bs [c]) 0 (Lib.countB (bs l) (bs [c])) (bs l))=(spl c l).map bs∧Lib.countB (bs l) (bs [c])+1=(spl c l).length:=by
 have d:=Lib.splitB_data (bs [c]) 0 (Lib.countB (bs l) (bs [c])) (bs l);have b:=split_spl c l.length l (Nat.le_refl _);have a:(Lib.splitB (bs [c]) 0 (Lib.countB (bs l) (bs [c])) (bs l)).map (·.data.toList)=spl c l:=by rw [d,<-b];rfl
 refine⟨?_,?_⟩
 ·rw [<-a,List.map_map];have:(bs ∘ λ x:ByteArray=>x.data.toList)=id:=funext λ x=>bs_of x
  rw [this,List.map_id]
 ·rw [<-a,List.length_map,Lib.splitB_all (bs [c]) (by rw [bs_size];exact Nat.le_refl _) 0 _ (bs l) rfl]
def enBs (x:By):List Value:=[.string (bs x)]
theorem split_w (l:By) (c:UInt8) (hl:l.length<=4194304) (w:World) (E:Env w):Calls Tryz.prog 68 #[.string (bs l),.string (bs [c])] w λ e w' =>
  ∃ A cp,e=.returned (.slice A (spl c l).length cp)∧RdS w' w'.heap.size 1 enBs A (spl c l)∧Below w.heap.size w w':=by
 refine(Tryz.strings_Split_shaped (bs l) (bs [c]) w E.shp (by rw [bs_size];omega) (by rw [bs_size];exact Nat.le_refl _)).mono ?_;rintro e w' ⟨rfl,rfl⟩;obtain⟨h,g⟩:=spB c l;have d:=spl_len c l;rw [h,g];refine⟨_,_,rfl,⟨by unfold maxLen;omega,λ _=>⟨w.heap.size,0,rfl,by simp,λ i x b j u a=>?_⟩⟩,(Below.refl _ _).alloc (Nat.le_refl _) _⟩;have f:j=0:=by
  have:=(List.getElem?_eq_some_iff.1 a).1
  simpa [enBs] using this
 subst f;simp only [enBs,List.getElem?_cons_zero,Option.some.injEq] at a;subst a;rw [Nat.mul_one,Nat.add_zero,Nat.zero_add];rw [World.cell?_alloc_at _ _ _ _ rfl,List.getElem?_toArray,List.getElem?_map,List.getElem?_map,b]
 rfl
theorem rdBs_at {w:World} {B:Nat} {A:Option Addr} {xs:List By} (h:RdS w B 1 enBs A xs) {i:Nat} (hi:i<xs.length) :
  ∃ b off x,A=some ⟨b,off,none⟩∧b<B∧xs[i]?=some x∧w.cell? ⟨b,off+i,none⟩=some (.string (bs x)):=by
 obtain⟨b,off,x,e,d,a,c⟩:=h.at_ hi;exact⟨b,off,x,e,d,a,by simpa using c 0 _ rfl⟩
open Own Bd5
theorem enBs_len (x:By):(enBs x).length=1:=rfl
theorem steps_i (v:Vr) (A:Option Addr) (cp B:Nat) (ss:List Stp) (R:By) (hR:(if okV v=true then stpsT v ss else [])=R) (w:World) (hB:B<=w.heap.size) (hr:RdS w B 4 enSt A ss) (E:Env w) :
  Calls Tryz.prog 53 #[.agg #[.int .i64 v.p,.int .i64 v.c,.int .i64 v.h,.int .i64 v.s],.slice A ss.length cp] w λ e w'=>e=.returned (.string (bs R))∧Below w.heap.size w w':=by
 obtain⟨i0,hi,ak,aj,ai⟩:=info_parts infoT;have av:=hr.len;obtain⟨n,hn⟩:∃ n,ss.length=n:=⟨_,rfl⟩;obtain⟨ok,af⟩:∃ b,okV v=b:=⟨_,rfl⟩;have CV:=kD (λ w9=>var_i v ok af w9);rw [hn] at av ⊢;have C:=kD hn;have HR:=kD hR;have HO:=kD af;clear hR hn af;go_enter Tryz.func53,Tryz.ntmps53;go_upto_region 1 with fail;refine wp_gen (λ W'=>Below w.heap.size w W'∧RowB W' w.heap.size 25 (vL v)) ⟨by go_grown,RowB.new _ _ _⟩ ?_;rintro w1 ⟨o,l⟩;obtain⟨Z,Y,X,W⟩:=l.c4;have a:=l.lt;go_wp2_with fail;refine(CV.out _).mono ?_;rintro e w2 ⟨rfl,hb⟩;have o:=o.trans (hb.mono o.size);have l:=l.below hb a;clear Z Y X W a hb
 cases ok
 case false =>
  obtain rfl:R=[]:=by rw [<-HR.out,HO.out];rfl
  go_wp2_with fail;go_ret;exact⟨rfl,o⟩
 have HS:Hid (stpsT v ss=R):=by show _=_;rw [<-HR.out,HO.out];rfl
 clear HR;by_cases h4:4<n
 ·obtain rfl:R=[]:=by rw [<-HS.out];unfold stpsT;rw [if_pos (by rw [C.out];exact h4)]
  have d4:decide ((4:Int)<(n:Int))=true:=decide_eq_true (by omega);clear h4;go_wp2_with fail;go_ret;exact⟨rfl,o⟩
 have d4:decide ((4:Int)<(n:Int))=false:=decide_eq_false (by omega);by_cases h0:n=0
 ·obtain rfl:R=[45]:=by rw [<-HS.out];unfold stpsT;rw [if_neg (by rw [C.out];exact h4),if_pos (by rw [C.out];exact h0)]
  have d0:((n:Int) == 0)=true:=by simp [h0]
  clear h0 h4;go_wp2_with fail;go_ret;exact⟨rfl,o⟩
 have d0:((n:Int) == 0)=false:=by simp [h0]
 have HT:Hid (R=if allPl v ss=true then Lib.join (ss.map (stpT v)) [32] else []):=by show _=_;rw [<-HS.out];unfold stpsT;rw [if_neg (by rw [C.out];exact h4),if_neg (by rw [C.out];exact h0)]
 have N:=l.lt;clear HS;go_wp2_with (at_make;refine wpList_make_full _ rfl _ _ _ rfl w2.heap.size 9 i0 _ 1 Tryz.underlying87 hi ak aj _ _ _ _ n rfl rfl rfl rfl ?c1 ?c2 (Nat.le_refl _) ?_)
 case c1=>rw [ai];omega
 case c2=>unfold maxLen;omega
 intro w3 aa F;have D:=kD (RowB.of_own aa);have ag:Below w2.heap.size w2 w3:=(Below.refl _ _).grown F (Nat.le_refl _) (by simp);have ac:=o.trans (ag.mono o.size);have l:=l.below ag N;obtain⟨G,hG⟩:∃ g,w2.heap.size=g:=⟨_,rfl⟩;have aE:w.heap.size+1<=G:=by rw [<-hG];exact N
 rw [hG] at D ⊢;have aC:n<=4:=by omega
 have aD:0<n:=by omega
 clear aa F o ag N hG d4 d0 h4 h0 hi ak aj ai;go_wp2_with fail;go_loopw [6,24] (λ _ i wr=>∃ k:Nat,k<=n∧i=.int .i64 (k:Int)∧Below w.heap.size w wr∧RowB wr w.heap.size 25 (vL v)∧Hid (RowB wr G 9 (((ss.take k).map (stpT v)).flatMap enBs++List.replicate (n - k) (.string ⟨#[]⟩)))∧Hid (∀ s ∈ ss.take k,plainB v s=true)) (λ _ i _=>n - (intOf i).toNat)
 case atStart=>exact⟨0,Nat.zero_le _,rfl,ac,l,by simpa [made_rep] using D,kD (λ s K=>by simp at K)⟩
 case round =>
  obtain⟨k,hk,rfl,r,l,hR,an⟩:=hrel;clear ac D;have O:=hR.out.lt;have a:=l.lt;obtain⟨Z,Y,X,W⟩:=l.c4;by_cases hlt:k<n
  ·obtain⟨b,aB,f,t,d,h,rfl,hb,al,x0,x1,x2,x3⟩:=rdStp_at (hr.below r hB) (by rw [C.out];exact hlt);have HX:=kD al;have ax:b<wr.heap.size:=by have:=r.size;omega
   clear al;go_upto_region 9 with fail;refine wp_gen (λ W'=>Below wr.heap.size wr W'∧RowB W' wr.heap.size 111 [.int .i64 f,.int .i64 t,.int .i64 d,.bool h]) ⟨(Below.refl _ _).alloc (Nat.le_refl _) _,RowB.new _ _ _⟩ ?_;rintro w4 ⟨Q,V⟩;obtain⟨gs,ao⟩:∃ g,wr.heap.size=g:=⟨_,rfl⟩;have H:=r.trans (Q.mono r.size);have l:=l.below Q a;have hR:=kD (hR.out.below Q O);rw [ao] at V ⊢;clear Z Y X W x0 x1 x2 x3 hb ax O a Q ao r;have O:=hR.out.lt;have a:=l.lt;have M:=V.lt;obtain⟨Z,Y,X,W⟩:=l.c4;obtain⟨x0,x1,x2,x3⟩:=V.c4;obtain⟨pb,ae⟩:∃ b,plainB v (f,t,d,h)=b:=⟨_,rfl⟩;have CP:=kD (λ w9=>plain_i v HO.out (f,t,d,h) pb ae w9);simp only at CP;have ah:=kD ae;clear ae;go_wp2_with fail;refine(CP.out _).mono ?_;rintro e w5 ⟨rfl,I⟩;have q:=H.trans (I.mono H.size);have l:=l.below I a;have V:=V.below I M;have hR:=kD (hR.out.below I O);clear Z Y X W x0 x1 x2 x3 O a M I H CP;have O:=hR.out.lt;have a:=l.lt;have M:=V.lt;obtain⟨Z,Y,X,W⟩:=l.c4;obtain⟨x0,x1,x2,x3⟩:=V.c4
   cases pb
   case false =>
    have az:R=[]:=by
     rw [HT.out,if_neg];intro ha;have:=List.all_eq_true.1 ha _ (List.mem_of_getElem? HX.out);rw [ah.out] at this;simp at this
    subst az;clear HT;go_wp2_with fail;go_ret;exact⟨rfl,q⟩
   have CT:=kD (λ(w9:World) (E9:Env w9)=>step_i v HO.out (f,t,d,h) ah.out w9 E9.tab);obtain⟨tx,ad⟩:∃ x,stpT v (f,t,d,h)=x:=⟨_,rfl⟩;rw [ad] at CT;simp only at CT;have aA:=kD ad;clear ad;go_wp2_with fail;refine(CT.out _ (E.below q)).mono ?_;rintro e w6 ⟨rfl,P⟩;have ap:=q.trans (P.mono q.size);have l:=l.below P a;have T:=kD (hR.out.below P O);clear Z Y X W x0 x1 x2 x3 O a M P q CT V hR;have N:=T.out.lt;have aF:=T.out.frozen;have aw:w.heap.size≠G:=by omega
   obtain⟨z,hz⟩:∃ z,w6.cell? ⟨G,k,none⟩=some z:=by
    rw [T.out.cell];refine⟨_,List.getElem?_eq_getElem ?_⟩;rw [List.length_append,flatMap_len enBs_len,List.length_map,List.length_take,List.length_replicate,C.out];omega
   have HF:Hid (RowB (w6.setCell ⟨G,k,none⟩ (.string (bs tx))) G 9 (((ss.take (k+1)).map (stpT v)).flatMap enBs++List.replicate (n - (k+1)) (.string ⟨#[]⟩))):=by
    have h3:=T.out.set k (.string (bs tx));obtain⟨m,hm⟩:∃ m,n - k=m+1:=⟨n - k - 1,by omega⟩;have ar:(ss.map (stpT v))[k]?=some tx:=by rw [List.getElem?_map,HX.out,<-aA.out];rfl
    rw [hm,List.map_take,fill1 ar rfl enBs_len] at h3;rw [show n - (k+1)=m from by omega,List.map_take];exact h3
   have HQ:Hid (∀ s ∈ ss.take (k+1),plainB v s=true):=by
    show ∀ s ∈ ss.take (k+1),plainB v s=true
    rw [take_succ ss k _ HX.out];intro s K;rcases List.mem_append.1 K with K | K
    ·exact an.out s K
    ·simp at K;subst K;exact ah.out
   have qs:=kD (ap.setCell (p:=⟨G,k,none⟩) (by show w.heap.size<=G;omega) (.string (bs tx)));have qv:=kD (l.other (p:=⟨G,k,none⟩) aw (.string (bs tx)));clear l;go_wp2_with fail;go_roundw
   case rel=>exact⟨k+1,by omega,by go_num,qs.out,qv.out,HF,HQ⟩
   case measure=>simp [intOf];omega
  ·obtain rfl:k=n:=by omega
   have L:=hR.out;rw [Nat.sub_self,List.replicate_zero,List.append_nil,List.take_of_length_le (by rw [C.out];exact Nat.le_refl _)] at L;have J:allPl v ss=true:=by
    unfold allPl;rw [List.all_eq_true];intro s K;exact an.out s (by rw [List.take_of_length_le (by rw [C.out];exact Nat.le_refl _)];exact K)
   have S:R=Lib.join (ss.map (stpT v)) [32]:=by rw [HT.out,if_pos J]
   have ab:=stpsT_len HO.out (ss:=ss);have am:stpsT v ss=Lib.join (ss.map (stpT v)) [32]:=by unfold stpsT;rw [if_neg (by rw [C.out];omega),if_neg (by rw [C.out];omega),if_pos J]
   rw [am,<-S] at ab;have HJ:Hid ((ss.map λ s=>bs (stpT v s)).map (·.data.toList)=ss.map (stpT v)):=by show _=_;rw [List.map_map];exact List.map_congr_left λ x _=>rfl
   have CJ:=Tryz.strings_Join G 0 k (ss.map λ s=>bs (stpT v s)) (bs [32]) wr (λ j x hj=>by
    rw [List.getElem?_map] at hj;obtain⟨y,hy,rfl⟩:=Option.map_eq_some_iff.1 hj;rw [Nat.zero_add,L.cell];have aq:(ss.map (stpT v))[j]?=some (stpT v y):=by rw [List.getElem?_map,hy];rfl
    have:=flatMap_at enBs_len (ss.map (stpT v)) j _ aq 0 _ rfl
    simpa using this) L.lt (by rw [List.length_map,C.out];omega) (by rw [List.length_map,C.out];exact Nat.le_refl _) (by rw [HJ.out,bs_data,<-S];omega)
   rw [List.length_map,C.out,HJ.out,bs_data,<-S] at CJ;have CJ:=kD CJ;clear hR L J S ab am HT HJ Z Y X W O a;go_wp2_with fail;refine CJ.out.mono ?_;rintro e w2 ⟨rfl,ay⟩;go_wp2_with fail;go_ret;exact⟨rfl,r.trans (ay.mono r.size)⟩
end TxI
end Go.Proofs.YtjdefiinmicjiaaGreatDoor
