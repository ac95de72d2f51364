/-
  Adm
-/
import Derived.Test.YtblbnbfghlkkfaaGreatDec
import Derived.Test.YtblbnbfghlkkfaaGreatMop
import Derived.Deep.MidRow
namespace Go.Proofs.YtblbnbfghlkkfaaGreat
open Go.RowKit
set_option linter.unusedVariables false
set_option linter.unusedSimpArgs false
attribute [local go_sem ↓] Go.wp_at_zero Go.wp_at_succ

def opOk (o:OperatorD):Bool:=validOp o&&!hasDec o&&!hasCheap o
def admitted (x:ModelD):Bool:=(modelOps x).all opOk
theorem admitted_no {x:ModelD}{k:Nat}{o:OperatorD}(h:(modelOps x)[k]?=some o) (ho:opOk o=false):admitted x=false:=by
 unfold admitted;rw [List.all_eq_false];exact⟨o,mem_of_at h,by simp [ho]⟩
theorem opOk_invalid {o:OperatorD}(h:validOp o=false):opOk o=false:=by simp [opOk,h]
theorem opOk_dec {o:OperatorD}(h:hasDec o=true):opOk o=false:=by simp [opOk,h]
theorem opOk_cheap {o:OperatorD}(h:hasCheap o=true):opOk o=false:=by simp [opOk,h]
theorem opOk_yes {o:OperatorD}(h1:validOp o=true) (h2:hasDec o=false) (h3:hasCheap o=false):opOk o=true:=by simp [opOk,h1,h2,h3]
def RetK (b:Bool) (w:World) (e:Ending) (w':World):Prop:=∃ (k:Int) (v1 v2:Value),e=.returned (.tuple #[.int .i64 k,v1,v2])/\(k==0)=b/\Below w.heap.size w w'
end Go.Proofs.YtblbnbfghlkkfaaGreat
