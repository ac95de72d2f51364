/-
  Rws
-/
import Derived.Lib.SlKept
import Derived.Test.YtnlcfkpcmfljeaaGreatCpr
import Derived.Test.YtnlcfkpcmfljeaaGreatMid
set_option linter.unusedSimpArgs false
set_option linter.unusedVariables false
namespace Go.Proofs.YtnlcfkpcmfljeaaGreat
open Go.RowKit
section
variable {w:World} {g:Nat} {t:TypeId} {x0 x1 x2:Value}
theorem Bk.r3 (h:Bk w g t [x0,x1,x2]):w.cell? ⟨g,0,none⟩=some x0/\w.frozen? ⟨g,0,none⟩=false/\w.cell? ⟨g,1,none⟩=some x1/\w.frozen? ⟨g,1,none⟩=false/\w.cell? ⟨g,2,none⟩=some x2/\w.frozen? ⟨g,2,none⟩=false :=
 ⟨h.bx 0 _ rfl,h.frozen 0,h.bx 1 _ rfl,h.frozen 1,h.bx 2 _ rfl,h.frozen 2⟩
abbrev set3 (w:World) (g:Nat) (a b c:Value):World:=((w.setCell ⟨g,0,none⟩ a).setCell ⟨g,1,none⟩ b).setCell ⟨g,2,none⟩ c
theorem Bk.s3 (h:Bk w g t [x0,x1,x2]):(∀ a b c,(set3 w g a b c).cell? ⟨g,0,none⟩=some a)/\(∀ a b c,(set3 w g a b c).cell? ⟨g,1,none⟩=some b)/\∀ a b c,(set3 w g a b c).cell? ⟨g,2,none⟩=some c :=
 ⟨fun a b c=>(((h.set 0 a).set 1 b).set 2 c).bx 0 _ rfl,fun a b c=>(((h.set 0 a).set 1 b).set 2 c).bx 1 _ rfl,fun a b c=>(((h.set 0 a).set 1 b).set 2 c).bx 2 _ rfl⟩
theorem bls3 {B:Nat}{a:World}(h:Below B a w) (hg:B<=g) (x y z:Value):Below B a (set3 w g x y z):=((h.setCell (p:=⟨g,0,none⟩) hg _).setCell (p:=⟨g,1,none⟩) hg _).setCell (p:=⟨g,2,none⟩) hg _
theorem set3_ne {k:Nat}(hk:k≠g) (a b c:Value):(set3 w g a b c).heap[k]?=w.heap[k]? :=
 ((heap_setCell_other _ ⟨g,2,none⟩ k _ (fun e=>hk e)).trans (heap_setCell_other _ ⟨g,1,none⟩ k _ (fun e=>hk e))).trans (heap_setCell_other _ ⟨g,0,none⟩ k _ (fun e=>hk e))
end
end Go.Proofs.YtnlcfkpcmfljeaaGreat
