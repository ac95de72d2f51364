/-
  Ints
-/
import Derived.Test.YtblbnbfghlkkfaaGreatBase
import Derived.Test.YtblbnbfghlkkfaaGreatProg
namespace Go.Proofs.YtblbnbfghlkkfaaGreat
open Go.RowKit

def inR (n a b:Int):Bool:=decide (a<=n)&&decide (n<=b)
theorem inR_t {n a b:Int}:inR n a b=true↔a<=n/\n<=b:=by simp [inR]
theorem inR_f {n a b:Int}:inR n a b=false↔n<a\/b<n:=by
 rw [<- Bool.not_eq_true,inR_t];omega

theorem eiInt:Ei Tryz.prog 32 3 (.int .i64 0) rInt.size 8:=⟨by kernel_rfl,by kernel_rfl,rfl⟩

theorem l1In_c (n a b:Int) (w:World) :
  Calls Tryz.prog 25 #[.int .i64 n,.int .i64 a,.int .i64 b] w fun e w'=>e=.returned (.bool (inR n a b))/\w=w':=by
 unfold inR
 by_cases h1:a<=n<;>by_cases h2:n<=b
 all_goals
  go_enter Tryz.func25,Tryz.ntmps25
  go_wp2
  go_ret
  simp [h1,h2]
theorem within_c (n a b:Int) (w:World) :
  Calls Tryz.prog 37 #[.int .i64 n,.int .i64 a,.int .i64 b] w fun e w'=>e=.returned (.bool (inR n a b))/\w=w':=by
 unfold inR
 by_cases h1:a<=n<;>by_cases h2:n<=b
 all_goals
  go_enter Tryz.func37,Tryz.ntmps37
  go_wp2
  go_ret
  simp [h1,h2]

theorem l1In_q (n a b:Int) (w:World):Calls Tryz.prog 25 #[.int .i64 n,.int .i64 a,.int .i64 b] w fun e w'=>e=.returned (.bool (inR n a b))/\w'=w:=(l1In_c n a b w).mono fun _ _ ⟨h,q⟩=>⟨h,q.symm⟩
theorem within_q (n a b:Int) (w:World):Calls Tryz.prog 37 #[.int .i64 n,.int .i64 a,.int .i64 b] w fun e w'=>e=.returned (.bool (inR n a b))/\w'=w:=(within_c n a b w).mono fun _ _ ⟨h,q⟩=>⟨h,q.symm⟩
theorem l1In_v {n a b:Int}{v:Bool}(h:inR n a b=v) (w:World):Calls Tryz.prog 25 #[.int .i64 n,.int .i64 a,.int .i64 b] w fun e w'=>e=.returned (.bool v)/\w'=w:=h▸l1In_q n a b w
theorem within_v {n a b:Int}{v:Bool}(h:inR n a b=v) (w:World):Calls Tryz.prog 37 #[.int .i64 n,.int .i64 a,.int .i64 b] w fun e w'=>e=.returned (.bool v)/\w'=w:=h▸within_q n a b w
/-! ### the laws' own functions on []int -/
/-- the first k of l, the rest z -/
def part {α:Type} (z:α) (l:List α) (k:Nat):List α:=l.take k++List.replicate (l.length - k) z
theorem part_length {α:Type}(z:α) (l:List α) (k:Nat):(part z l k).length=l.length:=by simp [part];omega
theorem part_set {α:Type}{z:α}{l:List α}{k:Nat}{x:α}(h:l[k]?=some x):(part z l k).set k x=part z l (k+1):=by
 have hk:=lt_of_at h
 unfold part
 rw [take_snoc h,List.set_append_right _ _ (by simp;omega)]
 have e1:k - (l.take k).length=0:=by simp;omega
 obtain⟨m,hm⟩:∃ m,l.length - k=m+1:=⟨l.length - k - 1,by omega⟩
 have e2:l.length - (k+1)=m:=by omega
 rw [e1,hm,e2,List.replicate_succ,List.set_cons_zero,List.append_assoc,List.singleton_append]
theorem part_zero {α:Type}(z:α) (l:List α):part z l 0=List.replicate l.length z:=by simp [part]
theorem part_all {α:Type}(z:α) (l:List α) {k:Nat}(h:¬ k<l.length):part z l k=l:=by
 unfold part
 rw [List.take_of_length_le (by omega)]
 have:l.length - k=0:=by omega
 simp [this]

/-- a store into a slice of numbers that the call owns -/
theorem MS.set {B M:Nat}{e:TypeId}{w:World}{g n cap:Nat}{l:List Int}(h:MS B M e rInt w (some ⟨g,0,none⟩) n cap l) (k:Nat) {x:Int}(hx:I64 x) :
  MS B M e rInt (w.setCell ⟨g,k,none⟩ (.int .i64 x)) (some ⟨g,0,none⟩) n cap (l.set k x):=by
 obtain⟨fp,h1,h2⟩:=h
 obtain⟨rfl,hM,hown,hr⟩:=osInt.1 h1
 refine⟨_,osInt.2 ⟨rfl,hM,?_,fun y hy=>?_⟩,h2⟩
 ·rw [List.map_set];exact(hown.stored k _).1
 ·rcases List.mem_or_eq_of_mem_set hy with hy|rfl
  ·exact hr y hy
  ·exact hx
theorem MS.gB {α:Type}{r:Rp α}{B M:Nat}{e:TypeId}{w:World}{a:Addr}{n cap:Nat}{l:List α}(h:MS B M e r w (some a) n cap l):B<=a.block:=by
 obtain⟨fp,h1,h2⟩:=h
 obtain⟨css,fps,h3,rfl,h4⟩:=h1.ex
 exact h2.ge _ (List.mem_append_left _ (by simp [blk]))
theorem MS.frozen {α:Type}{r:Rp α}{B M:Nat}{e:TypeId}{w:World}{g n cap:Nat}{l:List α}(h:MS B M e r w (some ⟨g,0,none⟩) n cap l) (j:Nat):w.frozen? ⟨g,j,none⟩=false:=by
 obtain⟨fp,h1,h2⟩:=h
 obtain⟨css,fps,h3,rfl,h4⟩:=h1.ex
 exact h3.frozenAt j
theorem MS.celli {B M:Nat}{e:TypeId}{w:World}{g n cap:Nat}{l:List Int}(h:MS B M e rInt w (some ⟨g,0,none⟩) n cap l) {k:Nat}(hk:k<n) :
  ∃ x,w.cell? ⟨g,k,none⟩=some (.int .i64 x)/\I64 x/\Hid (l[k]?=some x):=by
 obtain⟨b,off,x,e,hc,hI,hh⟩:=(h.rs rInt_ok).ati hk
 injection e with e;injection e with e1 e2;subst e1;subst e2
 rw [Nat.zero_add]at hc
 exact⟨x,hc,hI,hh⟩
theorem MS.made {B M:Nat}{e:TypeId}{w w1:World}{n cap:Nat}{l:List Int}(hl:l.length=n) (hM:n<=M) (hB:B<=w.heap.size)
  (h:w1.ownsRow w.heap.size e 1 (.slice (some ⟨w.heap.size,0,none⟩) n cap) n (madeCells (Value.int .i64 0).cells (n*1)).toList):MS B M e rInt w1 (some ⟨w.heap.size,0,none⟩) n cap (part 0 l 0):=by
 refine⟨_,osInt.2 ⟨rfl,hM,?_,?_⟩,⟨by simp [blk],by simp [blk,hB]⟩⟩
 ·rw [part_zero,hl]
  have:(madeCells (Value.int .i64 0).cells (n*1)).toList=(List.replicate n (0:Int)).map (Value.int .i64):=by
   rw [Nat.mul_one,List.map_replicate];exact toList_madeCells_one _ _
  rw [<- this]
  exact ownsRow_base h (fun _ _=>Nat.zero_le _)
 ·rw [part_zero];intro x hx;rw [List.eq_of_mem_replicate hx];unfold I64;omega

/-- what a function that hands back a new []int says -/
def RetI (l:List Int) (w:World) (e:Ending) (w':World):Prop:=∃ A n cap,e=.returned (.slice A n cap)/\MS w.heap.size NB 3 rInt w' A n cap l/\Below w.heap.size w w'


/-- only draws -/
def Qt (w w':World):Prop:=∃ m,w'=w.drewN m
theorem Qt.refl (w:World):Qt w w:=⟨0,rfl⟩
theorem Qt.below {w w':World}(h:Qt w w') (B:Nat):Below B w w':=by obtain⟨m,rfl⟩:=h;exact below_drewN (Below.refl _ _) m
theorem RS.drewN {α:Type}{M:Nat}{r:Rp α}{w:World}{A:Option Addr}{n cap:Nat}{l:List α}(h:RS M r w A n cap l) (hr:r.Ok) (q:Nat):RS M r (w.drewN q) A n cap l:=h.keep hr (fun _ _ h=>h)

theorem take_eq_snoc {α:Type}{l l':List α}{k:Nat}{x:α}(h:l.take k=l'.take k) (h1:l[k]?=some x) (h2:l'[k]?=some x):l.take (k+1)=l'.take (k+1):=by rw [take_snoc h1,take_snoc h2,h]
theorem ne_of_at {α:Type}{l l':List α}{k:Nat}{x x':α}(h1:l[k]?=some x) (h2:l'[k]?=some x') (hne:x≠x'):l≠l':=by rintro rfl;rw [h1]at h2;injection h2 with h2;exact hne h2


/-- what is left behind n more -/
def lessBy (left:Int) (n:Nat):Int:=if (n:Int)<=left then left - n else -1
/-- k, k+1, .. -/
def upFrom (k:Int):Nat->List Int
 | 0=>[]
 | n+1=>k::upFrom (k+1) n
theorem upFrom_length (k:Int) (n:Nat):(upFrom k n).length=n:=by
 induction n generalizing k with
 | zero=>rfl
 | succ n ih=>simp [upFrom,ih]
theorem upFrom_get (k:Int) (n i:Nat) (h:i<n):(upFrom k n)[i]?=some (k+i):=by
 induction n generalizing k i with
 | zero=>omega
 | succ n ih=>cases i with
  | zero=>simp [upFrom]
  | succ i=>simp only [upFrom,List.getElem?_cons_succ];rw [ih (k+1) i (by omega)];congr 1;omega
/-- the first j of l marked from k on -/
def marked (l:List Int) (k:Int) (j:Nat):List Int:=upFrom k j++l.drop j
theorem marked_set {l:List Int}{k:Int}{j:Nat}(h:j<l.length):(marked l k j).set j (k+j)=marked l k (j+1):=by
 refine List.ext_getElem? fun i=>?_
 unfold marked
 have e1:=upFrom_length k j
 have e2:=upFrom_length k (j+1)
 rw [List.getElem?_set]
 by_cases hi:j=i
 ·subst hi
  rw [if_pos rfl,if_pos (by simp [e1];omega),List.getElem?_append_left (by rw [e2];omega),upFrom_get _ _ _ (by omega)]
 ·rw [if_neg hi]
  by_cases hlt:i<j
  ·rw [List.getElem?_append_left (by rw [e1];exact hlt),List.getElem?_append_left (by rw [e2];omega),upFrom_get _ _ _ hlt,upFrom_get _ _ _ (by omega)]
  ·rw [List.getElem?_append_right (by rw [e1];omega),List.getElem?_append_right (by rw [e2];omega),e1,e2,List.getElem?_drop,List.getElem?_drop]
   congr 1;omega
theorem marked_zero (l:List Int) (k:Int):marked l k 0=l:=by simp [marked,upFrom]
theorem marked_all (l:List Int) (k:Int) {n:Nat}(h:l.length=n):marked l k n=upFrom k n:=by
 unfold marked;rw [List.drop_of_length_le (by omega),List.append_nil]

theorem grownBy_setCell (w:World) (g j:Nat) (u:Value):w.grownBy (w.setCell ⟨g,j,none⟩ u) (some g) :=
 ⟨rfl,rfl,rfl,by simp,fun k _ hk=>heap_setCell_other w ⟨g,j,none⟩ k u (fun e=>hk (by simp [e]))⟩


set_option maxHeartbeats 400000 in
theorem sameInts_c (A A':Option Addr) (n n' cap cap':Nat) (l l':List Int) (w:World) (hr:RS NB rInt w A n cap l) (hr':RS NB rInt w A' n' cap' l') :
  Calls Tryz.prog 7 #[.slice A n cap,.slice A' n' cap'] w fun e w'=>e=.returned (.bool (decide (l=l')))/\Qt w w':=by
 have hn:=hr.bound
 have hn':=hr'.bound
 by_cases hne:n=n'
 ·subst hne
  go_enter Tryz.func7,Tryz.ntmps7
  go_wp2
  go_loopw [5] (fun i wr=>∃ k:Nat,k<=n/\i=.int .i64 k/\l.take k=l'.take k/\∃ q,wr=w.drewN q) (fun i _=>n - (intOf i).toNat)
  case atStart=>exact⟨0,Nat.zero_le _,rfl,rfl,0,rfl⟩
  case round =>
   obtain⟨k,hk,rfl,heq,q,rfl⟩:=hrel
   have HE:=Lib.hid heq;clear heq
   by_cases hlt:k<n
   ·obtain⟨b,off,x,rfl,hc,hI,hxk⟩:=hr.ati hlt
    obtain⟨b',off',x',rfl,hc',hI',hxk'⟩:=hr'.ati hlt
    by_cases hx:x=x'
    ·have hb:(x != x')=false:=by simp [hx]
     have HX:=Lib.hid hx;clear hx
     go_wp2
     go_quiet (fail)
     go_wp2
     go_roundw
     case rel=>exact⟨k+1,by omega,by go_num,take_eq_snoc HE.out hxk.out (HX.out▸hxk'.out),_,rfl⟩
     case measure=>simp [intOf];omega
    ·have hb:(x != x')=true:=by simp [hx]
     go_wp2
     go_quiet (fail)
     go_wp2
     go_ret
     exact⟨ret_bool (a:=false) (by have:=ne_of_at hxk.out hxk'.out hx;simp [this]),_,World.drewN_drewN _ _ _⟩
   ·go_wp2
    go_ret
    have e:l=l':=by rw [<- take_all hr.len hlt,<- take_all hr'.len hlt];exact HE.out
    exact⟨ret_bool (a:=true) (by simp [e]),_,rfl⟩
 ·have hb:((n:Int) != (n':Int))=true:=by simp;omega
  go_enter Tryz.func7,Tryz.ntmps7
  go_wp2
  go_ret
  have e:l≠l':=by rintro rfl;exact hne (hr.len.symm.trans hr'.len)
  exact⟨ret_bool (a:=false) (by simp [e]),Qt.refl _⟩

end Go.Proofs.YtblbnbfghlkkfaaGreat
