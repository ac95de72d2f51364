/-
  Rws
-/
import Derived.Test.YtjckbnmbhgikjaaEqLib
import Derived.Lib.SlKept
namespace Go.Proofs.Ytjckbnmbhgikjaa
open Go.RowKit
set_option linter.unusedVariables false
set_option linter.unusedSimpArgs false
theorem cmpR_lt:∀ {a b:List Int},cmpRows a b<0↔a<b
 | [],[]=>by simp [cmpRows]
 | [],_::_=>by simp [cmpRows]
 | _::_,[]=>by simp [cmpRows]
 | x::s,y::t=>by
  rw [List.cons_lt_cons_iff,<- cmpR_lt (a:=s) (b:=t)]
  simp only [cmpRows]
  split
  ·rename_i h;simp [h]
  ·split
   ·rename_i h1 h2;constructor
    ·intro h;omega
    ·rintro(h|⟨h,_⟩)<;>omega
   ·have:x=y:=by omega
    subst this;simp
def ltRows (a b:List Int):Bool:=decide (cmpRows a b<0)
theorem ltRows_iff {a b:List Int}:ltRows a b=true↔a<b:=by unfold ltRows;rw [decide_eq_true_eq];exact cmpR_lt
theorem ltRows_no {a b:List Int}:ltRows a b=false↔b<=a:=by
 rw [<- List.not_lt,<- ltRows_iff,Bool.not_eq_true]
/-- the rows in order -/
def sortR (l:List (List Int)):List (List Int):=l.mergeSort fun a b=>!ltRows b a
theorem sortR_perm (l:List (List Int)):(sortR l).Perm l:=List.mergeSort_perm _ _
theorem sortR_pw (l:List (List Int)):(sortR l).Pairwise (·<=·):=by
 have h:=List.pairwise_mergeSort (le:=fun a b=>!ltRows b a) (fun a b c h1 h2=>by simp only [Bool.not_eq_true',ltRows_no]at *;exact List.le_trans h1 h2) (fun a b=>by
  simp only [Bool.or_eq_true,Bool.not_eq_true',ltRows_no];exact List.le_total _ _) l
 exact h.imp (fun h=>by simpa only [Bool.not_eq_true',ltRows_no]using h)
theorem sortR_eq {l m:List (List Int)}(hp:m.Perm l) (hs:m.Pairwise (·<=·)):m=sortR l :=
 List.Perm.eq_of_pairwise (le:=fun a b=>a<=b) (fun a b _ _ h1 h2=>List.le_antisymm h1 h2) hs (sortR_pw l) (hp.trans (sortR_perm l).symm)
/-- each run once -/
def onceK {α β:Type} [DecidableEq β] (k:α->β) (l:List α) (j:Nat):Bool:=match j with|0=>true|i+1=>decide ((l[i+1]?).map k≠(l[i]?).map k)
def onceR (l:List (List Int)):List (List Int):=(List.range l.length).filterMap fun j=>if onceK id l j then l[j]? else none
/-- rows in order, each once -/
def setR (l:List (List Int)):List (List Int):=onceR (sortR l)
end Go.Proofs.Ytjckbnmbhgikjaa
