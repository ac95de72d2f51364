/-
  Drw
-/
import Derived.Test.YtadgmjdafkihfaaGreatCur
namespace Go.Proofs.YtadgmjdafkihfaaGreat
open Go.RowKit
set_option linter.unusedVariables false
set_option linter.unusedSimpArgs false

theorem RS.lit (w:World) (l:List Int) (t:TypeId) (hl:l.length<=1000) (hI:∀ x∈l,I64 x):RS NB rInt (w.alloc (.cells (l.map (Value.int .i64)).toArray t)) (some ⟨w.heap.size,0,none⟩) l.length l.length l :=
 ⟨rfl,by unfold NB;omega,Nat.le_refl _,fun _=>⟨w.heap.size,0,rfl,fun j x hj=>⟨[.int .i64 x],⟨rfl,hI x (mem_of_at hj)⟩,fun i v hi=>by
  match i,hi with
  | 0,hi =>
   simp at hi;subst hi
   rw [cell_of_row _ w.heap.size (0+j*rInt.size+0) (l.map (Value.int .i64)).toArray t (0,0) (heap_alloc_new w _)]
   have e:rInt.size=1:=rfl
   simp [e,hj]⟩⟩⟩
theorem Cur.alloc {w:World}{g:Nat}(h:Cur w g) (o:Obj):Cur (w.alloc o) g:=h.below ((Below.refl _ _).alloc (Nat.le_refl _) o)
theorem Cur.ne {w:World}{g:Nat}(h:Cur w g):∀ k∈blk (some ⟨w.heap.size,0,none⟩),k≠g:=fun k hk=>by
 have:=h.lt;simp [blk]at hk;omega
theorem Drawn.mono {P Q:Int->Prop}{g:Nat}{w w':World}{e:Ending}(h:Drawn P g w e w') (hPQ:∀ x,P x->Q x):Drawn Q g w e w':=by
 obtain⟨x,h1,h2,h3⟩:=h;exact⟨x,h1,hPQ x h2,h3⟩
theorem mem4 {a b c d x:Int}(h:x∈[a,b,c,d]):x=a\/x=b\/x=c\/x=d:=by simpa using h

end Go.Proofs.YtadgmjdafkihfaaGreat
