/-
  Ints
-/
import Derived.Test.YtnlcfkpcmfljeaaGreatBase
import Derived.Test.YtnlcfkpcmfljeaaGreatProg
set_option maxHeartbeats 400000
namespace Go.Proofs.YtnlcfkpcmfljeaaGreat
open Go.RowKit
def inR (n a b:Int):Bool:=decide (a<=n)&&decide (n<=b)
theorem inR_t {n a b:Int}:inR n a b=true↔a<=n/\n<=b:=by simp [inR]
theorem inR_f {n a b:Int}:inR n a b=false↔n<a\/b<n:=by
 rw [<- Bool.not_eq_true,inR_t];omega
theorem eiInt:Ei Tryz.prog 30 3 (.int .i64 0) rInt.size 8:=⟨by kernel_rfl,by kernel_rfl,rfl⟩
theorem l1In_c (n a b:Int) (w:World) :
  Calls Tryz.prog 51 #[.int .i64 n,.int .i64 a,.int .i64 b] w fun e w'=>e=.returned (.bool (inR n a b))/\w=w':=by
 unfold inR;by_cases h1:a<=n<;>by_cases h2:n<=b
 all_goals
  go_enter Tryz.func51,Tryz.ntmps51
  go_wp2;go_ret;simp [h1,h2]
theorem within_c (n a b:Int) (w:World) :
  Calls Tryz.prog 89 #[.int .i64 n,.int .i64 a,.int .i64 b] w fun e w'=>e=.returned (.bool (inR n a b))/\w=w':=by
 unfold inR;by_cases h1:a<=n<;>by_cases h2:n<=b
 all_goals
  go_enter Tryz.func89,Tryz.ntmps89
  go_wp2;go_ret;simp [h1,h2]
theorem l1In_q (n a b:Int) (w:World):Calls Tryz.prog 51 #[.int .i64 n,.int .i64 a,.int .i64 b] w fun e w'=>e=.returned (.bool (inR n a b))/\w'=w:=(l1In_c n a b w).mono fun _ _ ⟨h,q⟩=>⟨h,q.symm⟩
theorem within_q (n a b:Int) (w:World):Calls Tryz.prog 89 #[.int .i64 n,.int .i64 a,.int .i64 b] w fun e w'=>e=.returned (.bool (inR n a b))/\w'=w:=(within_c n a b w).mono fun _ _ ⟨h,q⟩=>⟨h,q.symm⟩
theorem l1In_v {n a b:Int}{v:Bool}(h:inR n a b=v) (w:World):Calls Tryz.prog 51 #[.int .i64 n,.int .i64 a,.int .i64 b] w fun e w'=>e=.returned (.bool v)/\w'=w:=h▸l1In_q n a b w
theorem within_v {n a b:Int}{v:Bool}(h:inR n a b=v) (w:World):Calls Tryz.prog 89 #[.int .i64 n,.int .i64 a,.int .i64 b] w fun e w'=>e=.returned (.bool v)/\w'=w:=h▸within_q n a b w
def part {α:Type} (z:α) (l:List α) (k:Nat):List α:=l.take k++List.replicate (l.length - k) z
theorem part_length {α:Type}(z:α) (l:List α) (k:Nat):(part z l k).length=l.length:=by simp [part];omega
theorem part_set {α:Type}{z:α}{l:List α}{k:Nat}{x:α}(h:l[k]?=some x):(part z l k).set k x=part z l (k+1):=by
 have hk:=lt_of_at h;unfold part;rw [take_snoc h,List.set_append_right _ _ (by simp;omega)];have e1:k - (l.take k).length=0:=by simp;omega
 obtain⟨m,hm⟩:∃ m,l.length - k=m+1:=⟨l.length - k - 1,by omega⟩;have e2:l.length - (k+1)=m:=by omega
 rw [e1,hm,e2,List.replicate_succ,List.set_cons_zero,List.append_assoc,List.singleton_append]
theorem part_zero {α:Type}(z:α) (l:List α):part z l 0=List.replicate l.length z:=by simp [part]
theorem part_all {α:Type}(z:α) (l:List α) {k:Nat}(h:¬ k<l.length):part z l k=l:=by
 unfold part;rw [List.take_of_length_le (by omega)];have:l.length - k=0:=by omega
 simp [this]
theorem MS.set {B M:Nat}{e:TypeId}{w:World}{g n cap:Nat}{l:List Int}(h:MS B M e rInt w (some ⟨g,0,none⟩) n cap l) (k:Nat) {x:Int}(hx:I64 x) :
  MS B M e rInt (w.setCell ⟨g,k,none⟩ (.int .i64 x)) (some ⟨g,0,none⟩) n cap (l.set k x):=by
 obtain⟨fp,h1,h2⟩:=h;obtain⟨rfl,hM,hown,hr⟩:=osInt.1 h1;refine⟨_,osInt.2 ⟨rfl,hM,?_,fun y hy=>?_⟩,h2⟩
 ·rw [List.map_set];exact(hown.stored k _).1
 ·rcases List.mem_or_eq_of_mem_set hy with hy|rfl
  ·exact hr y hy
  ·exact hx
theorem MS.gB {α:Type}{r:Rp α}{B M:Nat}{e:TypeId}{w:World}{a:Addr}{n cap:Nat}{l:List α}(h:MS B M e r w (some a) n cap l):B<=a.block:=by
 obtain⟨fp,h1,h2⟩:=h;obtain⟨css,fps,h3,rfl,h4⟩:=h1.ex;exact h2.ge _ (List.mem_append_left _ (by simp [blk]))
theorem MS.frozen {α:Type}{r:Rp α}{B M:Nat}{e:TypeId}{w:World}{g n cap:Nat}{l:List α}(h:MS B M e r w (some ⟨g,0,none⟩) n cap l) (j:Nat):w.frozen? ⟨g,j,none⟩=false:=by
 obtain⟨fp,h1,h2⟩:=h;obtain⟨css,fps,h3,rfl,h4⟩:=h1.ex;exact h3.frozenAt j
theorem MS.celli {B M:Nat}{e:TypeId}{w:World}{g n cap:Nat}{l:List Int}(h:MS B M e rInt w (some ⟨g,0,none⟩) n cap l) {k:Nat}(hk:k<n) :
  ∃ x,w.cell? ⟨g,k,none⟩=some (.int .i64 x)/\I64 x/\Hid (l[k]?=some x):=by
 obtain⟨b,off,x,e,hc,hI,hh⟩:=(h.rs rInt_ok).ati hk;injection e with e;injection e with e1 e2;subst e1;subst e2;rw [Nat.zero_add]at hc;exact⟨x,hc,hI,hh⟩
theorem MS.made {B M:Nat}{e:TypeId}{w w1:World}{n cap:Nat}{l:List Int}(hl:l.length=n) (hM:n<=M) (hB:B<=w.heap.size)
  (h:w1.ownsRow w.heap.size e 1 (.slice (some ⟨w.heap.size,0,none⟩) n cap) n (madeCells (Value.int .i64 0).cells (n*1)).toList):MS B M e rInt w1 (some ⟨w.heap.size,0,none⟩) n cap (part 0 l 0):=by
 refine⟨_,osInt.2 ⟨rfl,hM,?_,?_⟩,⟨by simp [blk],by simp [blk,hB]⟩⟩
 ·rw [part_zero,hl]
  have:(madeCells (Value.int .i64 0).cells (n*1)).toList=(List.replicate n (0:Int)).map (Value.int .i64):=by
   rw [Nat.mul_one,List.map_replicate];exact toList_madeCells_one _ _
  rw [<- this];exact ownsRow_base h (fun _ _=>Nat.zero_le _)
 ·rw [part_zero];intro x hx;rw [List.eq_of_mem_replicate hx];unfold I64;omega
def RetI (l:List Int) (w:World) (e:Ending) (w':World):Prop:=∃ A n cap,e=.returned (.slice A n cap)/\MS w.heap.size NB 3 rInt w' A n cap l/\Below w.heap.size w w'
theorem toIntS_c (A:Option Addr) (n cap:Nat) (l:List Int) (w:World) (hr:RS NB rInt w A n cap l) :
  Calls Tryz.prog 60 #[.slice A n cap] w (RetI l w):=by
 have hn:=hr.bound;obtain⟨i0,hi,hz0,hz1,hz2⟩:=info_parts eiInt.hi
 go_enter Tryz.func60,Tryz.ntmps60
 go_wp2_with (at_make;refine wpList_make_full _ rfl _ _ 30 rfl w.heap.size 3 i0 (.int .i64 0) 1 Tryz.underlying30 hi hz0 hz1 .i64 .i64 _ _ n rfl rfl rfl rfl (by rw [hz2];omega) (by unfold maxLen;omega) (Nat.le_refl _) ?_;intro w1 hown hg)
 go_loopw [4] (fun i wr=>∃ k:Nat,k<=n/\i=.int .i64 k/\MS w.heap.size NB 3 rInt wr (some ⟨w.heap.size,0,none⟩) n n (part 0 l k)/\Below w.heap.size w wr) (fun i _=>n - (intOf i).toNat)
 case atStart=>exact⟨0,Nat.zero_le _,rfl,MS.made hr.len hr.nb (Nat.le_refl _) hown,(Below.refl _ _).grown hg (Nat.le_refl _) (by simp)⟩
 case round =>
  obtain⟨k,hk,rfl,hO,hb⟩:=hrel;by_cases hlt:k<n
  ·obtain⟨b,off,x,rfl,hc,hI,hxk⟩:=(hr.below rInt_ok hb).ati hlt
   have hfz:=hO.frozen k;obtain⟨u,hu,_,_⟩:=hO.celli hlt;go_wp2;go_roundw
   case rel=>exact⟨k+1,by omega,by go_num,part_set hxk.out▸hO.set k hI,hb.setCell (Nat.le_refl _) _⟩
   case measure=>simp [intOf];omega
  ·go_wp2
   go_ret;exact⟨_,_,_,rfl,part_all 0 l (k:=k) (by rw [hr.len];exact hlt)▸hO,hb⟩
def Qt (w w':World):Prop:=∃ m,w'=w.drewN m
theorem Qt.refl (w:World):Qt w w:=⟨0,rfl⟩
theorem Qt.below {w w':World}(h:Qt w w') (B:Nat):Below B w w':=by obtain⟨m,rfl⟩:=h;exact below_drewN (Below.refl _ _) m
theorem RS.drewN {α:Type}{M:Nat}{r:Rp α}{w:World}{A:Option Addr}{n cap:Nat}{l:List α}(h:RS M r w A n cap l) (hr:r.Ok) (q:Nat):RS M r (w.drewN q) A n cap l:=h.keep hr (fun _ _ h=>h)
theorem take_eq_snoc {α:Type}{l l':List α}{k:Nat}{x:α}(h:l.take k=l'.take k) (h1:l[k]?=some x) (h2:l'[k]?=some x):l.take (k+1)=l'.take (k+1):=by rw [take_snoc h1,take_snoc h2,h]
theorem ne_of_at {α:Type}{l l':List α}{k:Nat}{x x':α}(h1:l[k]?=some x) (h2:l'[k]?=some x') (hne:x≠x'):l≠l':=by rintro rfl;rw [h1]at h2;injection h2 with h2;exact hne h2
theorem eqIntS_c (A A':Option Addr) (n n' cap cap':Nat) (l l':List Int) (w:World) (hr:RS NB rInt w A n cap l) (hr':RS NB rInt w A' n' cap' l') :
  Calls Tryz.prog 71 #[.slice A n cap,.slice A' n' cap'] w fun e w'=>e=.returned (.bool (decide (l=l')))/\Qt w w':=by
 have hn:=hr.bound;have hn':=hr'.bound;by_cases hne:n=n'
 ·subst hne
  go_enter Tryz.func71,Tryz.ntmps71
  go_wp2
  go_loopw [5] (fun i wr=>∃ k:Nat,k<=n/\i=.int .i64 k/\l.take k=l'.take k/\∃ q,wr=w.drewN q) (fun i _=>n - (intOf i).toNat)
  case atStart=>exact⟨0,Nat.zero_le _,rfl,rfl,0,rfl⟩
  case round =>
   obtain⟨k,hk,rfl,heq,q,rfl⟩:=hrel;have HE:=Lib.hid heq;clear heq;by_cases hlt:k<n
   ·obtain⟨b,off,x,rfl,hc,hI,hxk⟩:=hr.ati hlt
    obtain⟨b',off',x',rfl,hc',hI',hxk'⟩:=hr'.ati hlt;by_cases hx:x=x'
    ·have hb:(x != x')=false:=by simp [hx]
     have HX:=Lib.hid hx;clear hx;go_wp2
     go_quiet (fail)
     go_wp2;go_roundw
     case rel=>exact⟨k+1,by omega,by go_num,take_eq_snoc HE.out hxk.out (HX.out▸hxk'.out),_,rfl⟩
     case measure=>simp [intOf];omega
    ·have hb:(x != x')=true:=by simp [hx]
     go_wp2
     go_quiet (fail)
     go_wp2;go_ret;exact⟨ret_bool (a:=false) (by have:=ne_of_at hxk.out hxk'.out hx;simp [this]),_,World.drewN_drewN _ _ _⟩
   ·go_wp2
    go_ret;have e:l=l':=by rw [<- take_all hr.len hlt,<- take_all hr'.len hlt];exact HE.out
    exact⟨ret_bool (a:=true) (by simp [e]),_,rfl⟩
 ·have hb:((n:Int) != (n':Int))=true:=by simp;omega
  go_enter Tryz.func71,Tryz.ntmps71
  go_wp2;go_ret;have e:l≠l':=by rintro rfl;exact hne (hr.len.symm.trans hr'.len)
  exact⟨ret_bool (a:=false) (by simp [e]),Qt.refl _⟩
def lessBy (left:Int) (n:Nat):Int:=if (n:Int)<=left then left - n else -1
theorem szIntS_c (A:Option Addr) (n cap:Nat) (l:List Int) (left:Int) (w:World) (hr:RS maxLen rInt w A n cap l) (h0:0<=left) (h1:left<=1048576) :
  Calls Tryz.prog 47 #[.slice A n cap,.int .i64 left] w fun e w'=>e=.returned (.int .i64 (lessBy left l.length))/\Below w.heap.size w w':=by
 have hn:n<=9223372036854775807:=hr.nb;have HL:=Lib.hid hr.len;clear hr;by_cases h:(n:Int)<=left
 all_goals
  go_enter Tryz.func47,Tryz.ntmps47
  go_wp2;go_ret;exact⟨ret_int (by rw [HL.out];unfold lessBy;split<;>omega),Below.refl _ _⟩
def upFrom (k:Int):Nat->List Int
 | 0=>[]
 | n+1=>k::upFrom (k+1) n
theorem upFrom_length (k:Int) (n:Nat):(upFrom k n).length=n:=by
 induction n generalizing k with
 | zero=>rfl
 | succ n ih=>simp [upFrom,ih]
theorem upFrom_get (k:Int) (n i:Nat) (h:i<n):(upFrom k n)[i]?=some (k+i):=by
 induction n generalizing k i with
 | zero=>omega
 | succ n ih=>cases i with
  | zero=>simp [upFrom]
  | succ i=>simp only [upFrom,List.getElem?_cons_succ];rw [ih (k+1) i (by omega)];congr 1;omega
def marked (l:List Int) (k:Int) (j:Nat):List Int:=upFrom k j++l.drop j
theorem marked_set {l:List Int}{k:Int}{j:Nat}(h:j<l.length):(marked l k j).set j (k+j)=marked l k (j+1):=by
 refine List.ext_getElem? fun i=>?_;unfold marked;have e1:=upFrom_length k j;have e2:=upFrom_length k (j+1);rw [List.getElem?_set];by_cases hi:j=i
 ·subst hi
  rw [if_pos rfl,if_pos (by simp [e1];omega),List.getElem?_append_left (by rw [e2];omega),upFrom_get _ _ _ (by omega)]
 ·rw [if_neg hi]
  by_cases hlt:i<j
  ·rw [List.getElem?_append_left (by rw [e1];exact hlt),List.getElem?_append_left (by rw [e2];omega),upFrom_get _ _ _ hlt,upFrom_get _ _ _ (by omega)]
  ·rw [List.getElem?_append_right (by rw [e1];omega),List.getElem?_append_right (by rw [e2];omega),e1,e2,List.getElem?_drop,List.getElem?_drop]
   congr 1;omega
theorem marked_zero (l:List Int) (k:Int):marked l k 0=l:=by simp [marked,upFrom]
theorem marked_all (l:List Int) (k:Int) {n:Nat}(h:l.length=n):marked l k n=upFrom k n:=by
 unfold marked;rw [List.drop_of_length_le (by omega),List.append_nil]
theorem grownBy_setCell (w:World) (g j:Nat) (u:Value):w.grownBy (w.setCell ⟨g,j,none⟩ u) (some g) :=
 ⟨rfl,rfl,rfl,by simp,fun k _ hk=>heap_setCell_other w ⟨g,j,none⟩ k u (fun e=>hk (by simp [e]))⟩
def MarkI (B:Nat) (A:Option Addr) (n cap:Nat) (k:Int) (w:World) (e:Ending) (w':World):Prop :=
 e=.returned (.int .i64 (k+n))/\MS B NB 3 rInt w' A n cap (upFrom k n)/\w.grownBy w' (A.map (·.block))/\w'.heap.size=w.heap.size
theorem markIntS_c (B:Nat) (A:Option Addr) (n cap:Nat) (l:List Int) (k:Int) (w:World) (hO:MS B NB 3 rInt w A n cap l) (h0:0<=k) (h1:k<=4611686018427387904) :
  Calls Tryz.prog 77 #[.slice A n cap,.int .i64 k] w (MarkI B A n cap k w):=by
 have hn:n<=4294967296:=hO.nb;have hlen:=Lib.hid hO.len
 go_enter Tryz.func77,Tryz.ntmps77
 go_wp2
 go_loopw [1,5] (fun kk i wr=>∃ j:Nat,j<=n/\i=.int .i64 j/\kk=.int .i64 (k+j)/\MS B NB 3 rInt wr A n cap (marked l k j)/\w.grownBy wr (A.map (·.block))/\wr.heap.size=w.heap.size) (fun _ i _=>n - (intOf i).toNat)
 case atStart=>exact⟨0,Nat.zero_le _,rfl,by simp,by rw [marked_zero];exact hO,World.grownBy.refl _ _,rfl⟩
 case round =>
  obtain⟨j,hj,rfl,rfl,hOr,hg,hsz⟩:=hrel;have HS:=Lib.hid hsz;clear hsz;by_cases hlt:j<n
  ·obtain⟨g,rfl,hgl,_⟩:=hOr.form (by omega)
   have hfz:=hOr.frozen j;obtain⟨u,hu,_,_⟩:=hOr.celli hlt;go_wp2;go_roundw
   case rel=>exact⟨j+1,by omega,by go_num,by go_num,marked_set (l:=l) (k:=k) (j:=j) (by rw [hlen.out];exact hlt)▸hOr.set j (by unfold I64;omega),hg.trans (grownBy_setCell wr g j _),by rw [World.size_setCell];exact HS.out⟩
   case measure=>simp [intOf];omega
  ·go_wp2
   go_ret;obtain rfl:j=n:=by omega
   exact⟨rfl,marked_all l k hlen.out▸hOr,hg,HS.out⟩
theorem heldIntS_c (A:Option Addr) (n cap:Nat) (k:Int) (w:World) (hr:RS NB rInt w A n cap (upFrom k n)) (h0:0<=k) (h1:k<=4611686018427387904) :
  Calls Tryz.prog 80 #[.slice A n cap,.int .i64 k] w fun e w'=>e=.returned (.int .i64 (k+n))/\w=w':=by
 have hn:=hr.bound
 go_enter Tryz.func80,Tryz.ntmps80
 go_wp2
 go_loop [1,5] (fun kk i=>∃ j:Nat,j<=n/\i=.int .i64 j/\kk=.int .i64 (k+j)) (fun _ i=>n - (intOf i).toNat)
 case atStart=>exact⟨0,Nat.zero_le _,rfl,by simp⟩
 case round =>
  obtain⟨j,hj,rfl,rfl⟩:=hrel;by_cases hlt:j<n
  ·obtain⟨b,off,x,rfl,hc,hI,hxk⟩:=hr.ati hlt
   have hx:x=k+j:=by have:=hxk.out;rw [upFrom_get _ _ _ hlt]at this;injection this with this;exact this.symm
   clear hxk;subst hx;have hb:(k+(j:Int) != k+(j:Int))=false:=by simp
   go_wp2;go_round
   case rel=>exact⟨j+1,by omega,by go_num,by go_num⟩
   case measure=>simp [intOf];omega
  ·go_wp2
   go_ret;obtain rfl:j=n:=by omega
   exact⟨rfl,rfl⟩
theorem sameInts_c (A A':Option Addr) (n n' cap cap':Nat) (l l':List Int) (w:World) (hr:RS NB rInt w A n cap l) (hr':RS NB rInt w A' n' cap' l') :
  Calls Tryz.prog 26 #[.slice A n cap,.slice A' n' cap'] w fun e w'=>e=.returned (.bool (decide (l=l')))/\Qt w w':=by
 have hn:=hr.bound;have hn':=hr'.bound;by_cases hne:n=n'
 ·subst hne
  go_enter Tryz.func26,Tryz.ntmps26
  go_wp2
  go_loopw [5] (fun i wr=>∃ k:Nat,k<=n/\i=.int .i64 k/\l.take k=l'.take k/\∃ q,wr=w.drewN q) (fun i _=>n - (intOf i).toNat)
  case atStart=>exact⟨0,Nat.zero_le _,rfl,rfl,0,rfl⟩
  case round =>
   obtain⟨k,hk,rfl,heq,q,rfl⟩:=hrel;have HE:=Lib.hid heq;clear heq;by_cases hlt:k<n
   ·obtain⟨b,off,x,rfl,hc,hI,hxk⟩:=hr.ati hlt
    obtain⟨b',off',x',rfl,hc',hI',hxk'⟩:=hr'.ati hlt;by_cases hx:x=x'
    ·have hb:(x != x')=false:=by simp [hx]
     have HX:=Lib.hid hx;clear hx;go_wp2
     go_quiet (fail)
     go_wp2;go_roundw
     case rel=>exact⟨k+1,by omega,by go_num,take_eq_snoc HE.out hxk.out (HX.out▸hxk'.out),_,rfl⟩
     case measure=>simp [intOf];omega
    ·have hb:(x != x')=true:=by simp [hx]
     go_wp2
     go_quiet (fail)
     go_wp2;go_ret;exact⟨ret_bool (a:=false) (by have:=ne_of_at hxk.out hxk'.out hx;simp [this]),_,World.drewN_drewN _ _ _⟩
   ·go_wp2
    go_ret;have e:l=l':=by rw [<- take_all hr.len hlt,<- take_all hr'.len hlt];exact HE.out
    exact⟨ret_bool (a:=true) (by simp [e]),_,rfl⟩
 ·have hb:((n:Int) != (n':Int))=true:=by simp;omega
  go_enter Tryz.func26,Tryz.ntmps26
  go_wp2;go_ret;have e:l≠l':=by rintro rfl;exact hne (hr.len.symm.trans hr'.len)
  exact⟨ret_bool (a:=false) (by simp [e]),Qt.refl _⟩
end Go.Proofs.YtnlcfkpcmfljeaaGreat
