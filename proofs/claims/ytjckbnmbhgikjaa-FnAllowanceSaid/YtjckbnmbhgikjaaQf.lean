/-
  Lkp, Qf
-/
import Derived.Test.YtjckbnmbhgikjaaKeep
import Derived.Test.YtjckbnmbhgikjaaDb
import Derived.Test.YtjckbnmbhgikjaaCpr
import Derived.Test.YtjckbnmbhgikjaaQi
namespace Go.Proofs.Ytjckbnmbhgikjaa
open Go.RowKit
set_option linter.unusedVariables false
set_option linter.unusedSimpArgs false
def isNm (nm:ByteArray) (t:TableD):Bool:=t.fName.toList==nm.toList
/-- the table of a name, if the database is fine -/
def lookup (d:DatabaseD) (nm:ByteArray):TableD × Bool:=if validDb d then (match d.fTables.find? (isNm nm) with|some t=>(t,true)|none=>(⟨⟨#[]⟩,0,[]⟩,false)) else (⟨⟨#[]⟩,0,[]⟩,false)
theorem lookup_bad {d:DatabaseD}{nm:ByteArray}(h:validDb d=false):lookup d nm=(⟨⟨#[]⟩,0,[]⟩,false):=by simp [lookup,h]
theorem lookup_no {d:DatabaseD}{nm:ByteArray}(h:d.fTables.all (fun t=>!isNm nm t)=true):lookup d nm=(⟨⟨#[]⟩,0,[]⟩,false):=by
 unfold lookup
 have:d.fTables.find? (isNm nm)=none:=by rw [List.find?_eq_none];intro t ht;rw [List.all_eq_true]at h;have:=h t ht;simpa using this
 rw [this];split<;>rfl
theorem lookup_yes {d:DatabaseD}{nm:ByteArray}{k:Nat}{t:TableD}(hv:validDb d=true) (hall:(d.fTables.take k).all (fun t=>!isNm nm t)=true) (ht:d.fTables[k]?=some t) (h:isNm nm t=true):lookup d nm=(t,true):=by
 have:d.fTables.find? (isNm nm)=some t:=by
  obtain⟨hk,rfl⟩:=List.getElem?_eq_some_iff.1 ht
  rw [List.find?_eq_some_iff_getElem]
  refine⟨h,k,hk,rfl,fun j hj=>?_⟩
  rw [List.all_eq_true]at hall
  exact hall _ (List.mem_take_iff_getElem.2 ⟨j,by omega,rfl⟩)
 simp [lookup,hv,this]
theorem zTable_ret (w:World) (w0:World) (h:Below w0.heap.size w0 w):∃ cs fp,Ending.returned (.tuple #[.agg #[.string ⟨#[]⟩,.int .i64 0,.slice none 0 0],.bool false])=.returned (.tuple #[.agg cs.toArray,.bool false])/\(rTable NB).own w fp cs ⟨⟨#[]⟩,0,[]⟩/\Fr w0.heap.size fp/\Below w0.heap.size w0 w :=
 ⟨[.string ⟨#[]⟩,.int .i64 0,.slice none 0 0],[],rfl,rTable_own.2 ⟨none,0,0,[],rfl,rfl,Nat.zero_le _,I64_zero,⟨rfl,Nat.zero_le _,[],[],World.ownsRow_nil w 0 _ _,rfl,trivial⟩⟩,Fr.nil _,h⟩
end Go.Proofs.Ytjckbnmbhgikjaa
namespace Go.Proofs.Ytjckbnmbhgikjaa
open Go.RowKit
set_option linter.unusedVariables false
set_option linter.unusedSimpArgs false
def atomIn (d:DatabaseD) (a:AtomD):Bool:=(lookup d a.fName).2&&decide ((lookup d a.fName).1.fArity=(a.fVars.length:Int))
def queryFor (d:DatabaseD) (q:QueryD):Bool:=validQ q&&q.fAtoms.all (atomIn d)
theorem queryFor_v {d:DatabaseD}{q:QueryD}(h:validQ q=false):queryFor d q=false:=by simp [queryFor,h]
theorem queryFor_no {d:DatabaseD}{q:QueryD}{k:Nat}{a:AtomD}(hx:q.fAtoms[k]?=some a) (h:atomIn d a=false):queryFor d q=false:=by
 have:q.fAtoms.all (atomIn d)=false:=by rw [Bool.eq_false_iff];intro h2;rw [List.all_eq_true]at h2;rw [h2 a (mem_of_at hx)]at h;cases h
 simp [queryFor,this]
theorem cells_set3 {W:World}{g:Nat}{t:TypeId}{a b c x y z:Value}(h:Bk W g t [a,b,c]):Bk (((W.setCell ⟨g,0,none⟩ x).setCell ⟨g,1,none⟩ y).setCell ⟨g,2,none⟩ z) g t [x,y,z]:=((h.set 0 x).set 1 y).set 2 z
end Go.Proofs.Ytjckbnmbhgikjaa
