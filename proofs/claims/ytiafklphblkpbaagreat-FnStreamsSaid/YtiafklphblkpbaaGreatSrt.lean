/-
  Srt
-/
import Derived.Test.YtiafklphblkpbaaGreatShelf
import Derived.Test.YtiafklphblkpbaaGreatStrP
namespace Go.Proofs.YtiafklphblkpbaaGreat
open Go.RowKit
set_option linter.unusedVariables false
set_option linter.unusedSimpArgs false

theorem putRow_own {w:World}{e:TypeId}{g n cap:Nat}{l l':List Int}(h:w.ownsRow 0 e 1 (.slice (some ⟨g,0,none⟩) n cap) n (l.map (Value.int .i64))) (hl:l'.length=n) (m:Nat) (os:Array Obj) :
  (Sort.grow (Sort.putRow (Value.int .i64) (Sort.ahead w m) g 0 l'.toArray) os).ownsRow 0 e 1 (.slice (some ⟨g,0,none⟩) n cap) n (l'.map (Value.int .i64)):=by
 refine⟨by simp [hl],.inr ?_⟩
 rcases h.2 with ⟨h1,_⟩|⟨g',c,cur,h1,hB,hg,hn,hm,hs,ht⟩
 ·cases h1
 injection h1 with e1 e2 e3;injection e1 with e1;injection e1 with e1
 subst e1;subst e3
 have hlt:=(Array.getElem?_eq_some_iff.1 hg).1
 refine⟨g,cap,Sort.putCells (Value.int .i64) 0 l'.toArray cur,rfl,Nat.zero_le _,?_,hn,hm,?_,?_⟩
 ·rw [Sort.heap_grow_old _ _ (by simp;exact hlt)]
  simp [Sort.putRow,Sort.mapBlock,Array.getElem?_modify,hg,Sort.onCells]
 ·simp [Sort.putCells];simpa using hs
 ·apply List.ext_getElem?
  intro i
  rw [List.getElem?_take]
  by_cases hi:i<n*1
  ·rw [if_pos hi]
   have hi2:i<cur.size:=by rw [hs];omega
   have hi3:i<l'.length:=by omega
   simp [Sort.putCells,hi2,hi3]
  ·rw [if_neg hi,List.getElem?_eq_none (by simp;omega)]
theorem putRow_below {B:Nat}{w:World}{g:Nat}(hg:g<w.heap.size) (hB:B<=g) (l:List Int) (m:Nat) (os:Array Obj):Below B w (Sort.grow (Sort.putRow (Value.int .i64) (Sort.ahead w m) g 0 l.toArray) os):=by
 refine⟨rfl,rfl,rfl,by simp,fun k hk=>?_⟩
 rw [Sort.heap_grow_old _ _ (by simp;omega)]
 simp [Sort.putRow,Sort.mapBlock,Array.getElem?_modify]
 intro e;omega
theorem MS.holds {B:Nat}{e:TypeId}{w:World}{g n cap:Nat}{l:List Int}(h:MS B NB e rInt w (some ⟨g,0,none⟩) n cap l):Sort.Holds (Value.int .i64) w g 0 l.toArray:=by
 intro j hj
 have hj':j<n:=by rw [<- h.len];simpa using hj
 obtain⟨x,h1,_,h2⟩:=h.celli hj'
 refine⟨?_,by rw [Nat.zero_add];exact h.frozen j⟩
 rw [Nat.zero_add,h1]
 have:=h2.out
 simp [getElem!_def,this]
theorem MS.puts {B:Nat}{e:TypeId}{w:World}{g n cap:Nat}{l l':List Int}(h:MS B NB e rInt w (some ⟨g,0,none⟩) n cap l) (hl:l'.length=n) (hr:∀ x∈l',I64 x) (m:Nat) (os:Array Obj) :
  MS B NB e rInt (Sort.grow (Sort.putRow (Value.int .i64) (Sort.ahead w m) g 0 l'.toArray) os) (some ⟨g,0,none⟩) n cap l':=by
 obtain⟨fp,h1,h2⟩:=h
 obtain⟨rfl,hM,hown,_⟩:=osInt.1 h1
 exact⟨_,osInt.2 ⟨rfl,hM,putRow_own hown hl m os,hr⟩,h2⟩
/-- a shorter beginning of what is owned -/
theorem MS.cut {B:Nat}{e:TypeId}{w:World}{g n cap:Nat}{l:List Int}(h:MS B NB e rInt w (some ⟨g,0,none⟩) n cap l) {k:Nat}(hk:k<=n):MS B NB e rInt w (some ⟨g,0,none⟩) k cap (l.take k):=by
 obtain⟨fp,h1,h2⟩:=h
 obtain⟨rfl,hM,hown,hr⟩:=osInt.1 h1
 refine⟨_,osInt.2 ⟨rfl,by omega,?_,fun x hx=>hr x (List.mem_of_mem_take hx)⟩,h2⟩
 have hlen:=hown.1
 rcases hown.2 with ⟨e1,_⟩|⟨g',c,cur,e1,q1,q2,q3,q4,q5,q6⟩
 ·cases e1
 injection e1 with e1 e2 e3;injection e1 with e1;injection e1 with e1
 subst e1;subst e3
 refine⟨by simp at hlen ⊢;omega,.inr ⟨g,cap,cur,rfl,Nat.zero_le _,q2,by omega,q4,q5,?_⟩⟩
 rw [List.map_take,<- q6,List.take_take]
 congr 1;omega
theorem sortInts_c {B:Nat}{A:Option Addr}{n cap:Nat}{l:List Int}{w:World}(h:MS B NB 3 rInt w A n cap l) :
  Calls Tryz.prog 49 #[.slice A n cap] w fun e w'=>e=.returned (.tuple #[])/\MS B NB 3 rInt w' A n cap (sortI l)/\Below B w w':=by
 have hlen:=h.len
 rcases Nat.eq_zero_or_pos n with h0|h0
 ·subst h0
  have hl:l=[]:=List.eq_nil_of_length_eq_zero hlen
  subst hl
  exact(Tryz.slices_Sort_int_none A cap w).mono fun e w' ⟨h1,h2⟩=>⟨h1,by rw [h2];simpa [sortI]using h,by rw [h2];exact Below.refl _ _⟩
 ·obtain⟨g,rfl,hg,hB⟩:=h.form h0
  subst hlen
  have hnb:=h.nb
  refine(Tryz.slices_Sort_int g 0 cap l w h.holds hg (by unfold NB at hnb;omega)).mono fun e w' ⟨h1,m,os,h2⟩=>?_
  subst h2
  refine⟨h1,h.puts (l':=sortI l) (sortI_perm l).length_eq (fun x hx=>?_) m os,putRow_below hg hB _ m os⟩
  exact(h.rs rInt_ok).rng x ((sortI_perm l).mem_iff.1 hx)
end Go.Proofs.YtiafklphblkpbaaGreat
