/-
  El
-/
import Derived.Test.YtiafklphblkpbaaGreatSrt
namespace Go.Proofs.YtiafklphblkpbaaGreat
open Go.RowKit
set_option linter.unusedVariables false
set_option linter.unusedSimpArgs false
/-- a row as it stands in w: its header, its footprint, its content -/
structure El (t:TypeId) (w:World) where
 v:Value
 fp:List Nat
 x:List Int
 own:(rSlice NB t rInt).own w fp [v] x
instance {t:TypeId} {w:World}:Inhabited (El t w):=⟨⟨.slice none 0 0,[],[],none,0,0,rfl,rfl,Nat.zero_le _,[],[],World.ownsRow_nil w 0 t _,rfl,trivial⟩⟩
section
variable {B:Nat} {e t:TypeId} {w w':World} {A:Option Addr} {n cap:Nat} {l:List (List Int)}
theorem els_of:∀ {fs:List (List Nat)}{css:List (List Value)}{xs:List (List Int)},All3 ((rSlice NB t rInt).own w) fs css xs->∃ E:List (El t w),E.map El.fp=fs/\E.map El.v=css.flatten/\E.map El.x=xs
 | [],[],[],_=>⟨[],rfl,rfl,rfl⟩
 | f::fs,c::css,x::xs,h=>by
  obtain⟨E,h1,h2,h3⟩:=els_of h.2
  obtain⟨A,n,cap,rfl,ho⟩:=h.1
  exact⟨⟨.slice A n cap,f,x,A,n,cap,rfl,ho⟩::E,by simp [h1],by simp [h2],by simp [h3]⟩
 | [],[],_::_,h=>by cases h
 | [],_::_,_,h=>by cases h
 | _::_,[],_,h=>by cases h
 | _::_,_::_,[],h=>by cases h
theorem all3_of:∀ (E:List (El t w)),(∀ a∈E,∀ k∈a.fp,w'.heap[k]?=w.heap[k]?)->All3 ((rSlice NB t rInt).own w') (E.map El.fp) (E.map fun a=>[a.v]) (E.map El.x)
 | [],_=>trivial
 | a::E,h=>⟨(rSlice_ok NB t rInt_ok).okeep a.own (h a (List.mem_cons_self ..)),all3_of E (fun b hb=>h b (List.mem_cons_of_mem _ hb))⟩
theorem flat_one:∀ (E:List (El t w)),(E.map fun a=>[a.v]).flatten=E.map El.v
 | []=>rfl
 | a::E=>by simp [flat_one E]
theorem MS.els (h:MS B NB e (rSlice NB t rInt) w A n cap l):∃ E:List (El t w),E.map El.x=l/\w.ownsRow 0 e 1 (.slice A n cap) n (E.map El.v)/\Fr B (blk A++(E.map El.fp).flatten):=by
 obtain⟨fp,⟨h1,h2,css,fps,h3,rfl,h5⟩,hf⟩:=h
 obtain⟨E,e1,e2,e3⟩:=els_of h5
 exact⟨E,e3,by rw [e2];exact h3,by rw [e1];exact hf⟩
theorem MS.ofEls (E:List (El t w)) (hn:E.length=n) (hN:n<=NB) (ho:w'.ownsRow 0 e 1 (.slice A n cap) n (E.map El.v)) (hf:Fr B (blk A++(E.map El.fp).flatten)) (hk:∀ a∈E,∀ k∈a.fp,w'.heap[k]?=w.heap[k]?):MS B NB e (rSlice NB t rInt) w' A n cap (E.map El.x) :=
 ⟨_,⟨by simp [hn],hN,_,_,by rw [flat_one];exact ho,rfl,all3_of E hk⟩,hf⟩
theorem Fr.perm {b:List Nat}{E E':List (El t w)}(h:Fr B (b++(E.map El.fp).flatten)) (hp:E.Perm E'):Fr B (b++(E'.map El.fp).flatten):=by
 have hq:(b++(E.map El.fp).flatten).Perm (b++(E'.map El.fp).flatten):=List.Perm.append_left b (hp.map El.fp).flatten
 exact⟨hq.nodup_iff.1 h.nd,fun k hk=>h.ge k (hq.mem_iff.2 hk)⟩
theorem sub_flat {α:Type}{l1 l2:List (List α)}(h:l1.Sublist l2):l1.flatten.Sublist l2.flatten:=by
 induction h with
 | slnil=>exact List.Sublist.refl _
 | cons a h ih=>exact ih.trans (List.sublist_append_right _ _)
 | cons_cons a h ih=>exact List.Sublist.append (List.Sublist.refl _) ih
theorem Fr.sub {b:List Nat}{E E':List (El t w)}(h:Fr B (b++(E.map El.fp).flatten)) (hp:E'.Sublist E):Fr B (b++(E'.map El.fp).flatten):=by
 have hq:(b++(E'.map El.fp).flatten).Sublist (b++(E.map El.fp).flatten):=List.Sublist.append (List.Sublist.refl b) (sub_flat (hp.map El.fp))
 exact⟨h.nd.sublist hq,fun k hk=>h.ge k (hq.subset hk)⟩
theorem putRow_ownE {α:Type} [Inhabited α] {enc:α->Value}{g:Nat}{xs:List Value}{l':List α}(h:w.ownsRow 0 e 1 (.slice (some ⟨g,0,none⟩) n cap) n xs) (hl:l'.length=n) (m:Nat) (os:Array Obj) :
  (Sort.grow (Sort.putRow enc (Sort.ahead w m) g 0 l'.toArray) os).ownsRow 0 e 1 (.slice (some ⟨g,0,none⟩) n cap) n (l'.map enc):=by
 refine⟨by simp [hl],.inr ?_⟩
 rcases h.2 with ⟨h1,_⟩|⟨g',c,cur,h1,hB,hg,hn,hm,hs,ht⟩
 ·cases h1
 injection h1 with e1 e2 e3;injection e1 with e1;injection e1 with e1
 subst e1;subst e3
 have hlt:=(Array.getElem?_eq_some_iff.1 hg).1
 refine⟨g,cap,Sort.putCells enc 0 l'.toArray cur,rfl,Nat.zero_le _,?_,hn,hm,?_,?_⟩
 ·rw [Sort.heap_grow_old _ _ (by simp;exact hlt)]
  simp [Sort.putRow,Sort.mapBlock,Array.getElem?_modify,hg,Sort.onCells]
 ·simp [Sort.putCells];simpa using hs
 ·apply List.ext_getElem?
  intro i
  rw [List.getElem?_take]
  by_cases hi:i<n*1
  ·rw [if_pos hi]
   have hi2:i<cur.size:=by rw [hs];omega
   have hi3:i<l'.length:=by omega
   simp [Sort.putCells,hi2,hi3]
  ·rw [if_neg hi,List.getElem?_eq_none (by simp;omega)]
theorem putRow_heapE {α:Type} [Inhabited α] {enc:α->Value}(w:World) (m g:Nat) (l:List α) (os:Array Obj) (k:Nat) (hk:k≠g) (hl:k<w.heap.size):(Sort.grow (Sort.putRow enc (Sort.ahead w m) g 0 l.toArray) os).heap[k]?=w.heap[k]?:=by
 rw [Sort.heap_grow_old _ _ (by simp;omega)]
 simp [Sort.putRow,Sort.mapBlock,Array.getElem?_modify]
 intro e;omega
theorem holdsE {α:Type} [Inhabited α] {enc:α->Value}{g:Nat}{E:List α}(h:w.ownsRow 0 e 1 (.slice (some ⟨g,0,none⟩) n cap) n (E.map enc)):Sort.Holds enc w g 0 E.toArray:=by
 intro j hj
 have hj':j<E.length:=by simpa using hj
 have hn:E.length=n:=by have:=h.1;simpa using this
 rcases h.2 with ⟨h1,_⟩|⟨g',c,cur,h1,hB,hg,hc,hm,hs,ht⟩
 ·cases h1
 injection h1 with e1 e2 e3;injection e1 with e1;injection e1 with e1
 subst e1;subst e3
 have hcj:cur[j]?=some (enc E[j]!):=by
  have h2:(cur.toList.take (n*1))[j]?=some (enc E[j]):=by rw [ht];simp [hj']
  rw [List.getElem?_take,if_pos (by omega)]at h2
  simpa [hj']using h2
 refine⟨?_,?_⟩
 ·rw [Nat.zero_add]
  simp [World.cell?,hg,hcj]
 ·rw [Nat.zero_add]
  simp [World.frozen?,hg]
end
end Go.Proofs.YtiafklphblkpbaaGreat
