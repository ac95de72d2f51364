/-
  Tab, Db
-/
import Derived.Test.YtadgmjdafkihfaaGreatKeep
import Derived.Test.YtadgmjdafkihfaaGreatEqLib
import Derived.Test.YtadgmjdafkihfaaGreatStr
import Derived.Test.YtadgmjdafkihfaaGreatQi
namespace Go.Proofs.YtadgmjdafkihfaaGreat
open Go.RowKit
set_option linter.unusedVariables false
set_option linter.unusedSimpArgs false
theorem Qt.tr {a b c:World}(h1:Qt a b) (h2:Qt b c):Qt a c:=by
 obtain⟨m,rfl⟩:=h1
 obtain⟨k,rfl⟩:=h2
 exact⟨_,World.drewN_drewN _ _ _⟩
/-- row i is above the one ahead of it -/
def ascAt (l:List (List Int)) (i:Nat):Bool:=match i with|0=>true|j+1=>match l[j]?,l[j+1]? with|some a,some b=>decide (cmpRows a b<0)|_,_=>true
def ascRows (l:List (List Int)):Bool:=(List.range l.length).all (ascAt l)
theorem ascAt_s {l:List (List Int)}{j:Nat}{a b:List Int}(ha:l[j]?=some a) (hb:l[j+1]?=some b):ascAt l (j+1)=decide (cmpRows a b<0):=by simp only [ascAt,ha,hb]
end Go.Proofs.YtadgmjdafkihfaaGreat
namespace Go.Proofs.YtadgmjdafkihfaaGreat
open Go.RowKit
set_option linter.unusedVariables false
set_option linter.unusedSimpArgs false
end Go.Proofs.YtadgmjdafkihfaaGreat
