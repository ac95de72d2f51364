/-
  Drw
-/
import Derived.Test.YtjckbnmbhgikjaaCur
namespace Go.Proofs.Ytjckbnmbhgikjaa
open Go.RowKit
set_option linter.unusedVariables false
set_option linter.unusedSimpArgs false

theorem RS.lit (w:World) (l:List Int) (t:TypeId) (hl:l.length<=1000) (hI:∀ x∈l,I64 x):RS NB rInt (w.alloc (.cells (l.map (Value.int .i64)).toArray t)) (some ⟨w.heap.size,0,none⟩) l.length l.length l :=
 ⟨rfl,by unfold NB;omega,Nat.le_refl _,fun _=>⟨w.heap.size,0,rfl,fun j x hj=>⟨[.int .i64 x],⟨rfl,hI x (mem_of_at hj)⟩,fun i v hi=>by
  match i,hi with
  | 0,hi =>
   simp at hi;subst hi
   rw [cell_of_row _ w.heap.size (0+j*rInt.size+0) (l.map (Value.int .i64)).toArray t (0,0) (heap_alloc_new w _)]
   have e:rInt.size=1:=rfl
   simp [e,hj]⟩⟩⟩
theorem Cur.alloc {w:World}{g:Nat}(h:Cur w g) (o:Obj):Cur (w.alloc o) g:=h.below ((Below.refl _ _).alloc (Nat.le_refl _) o)
theorem Cur.ne {w:World}{g:Nat}(h:Cur w g):∀ k∈blk (some ⟨w.heap.size,0,none⟩),k≠g:=fun k hk=>by
 have:=h.lt;simp [blk]at hk;omega
theorem Drawn.mono {P Q:Int->Prop}{g:Nat}{w w':World}{e:Ending}(h:Drawn P g w e w') (hPQ:∀ x,P x->Q x):Drawn Q g w e w':=by
 obtain⟨x,h1,h2,h3⟩:=h;exact⟨x,h1,hPQ x h2,h3⟩
theorem mem4 {a b c d x:Int}(h:x∈[a,b,c,d]):x=a\/x=b\/x=c\/x=d:=by simpa using h

set_option maxRecDepth 100000 in
set_option maxHeartbeats 1600000 in
theorem l28Budget_c (g:Nat) (w:World) (hc:Cur w g):Calls Try.prog 15 #[.pointer (some ⟨g,0,none⟩)] w (Drawn I64 g w):=by
 go_enter Try.func15,Try.ntmps15
 go_wp2_with fail
 refine(l1Once_c g 12 _ (by omega) hc).mono ?_
 rintro e w2 ⟨b,rfl,hc2,hC2⟩
 cases b
 ·go_wp2_with fail
  refine(l1PickInt_c g _ 5 5 [5,20,60,200,1000] _ (RS.lit w2 [5,20,60,200,1000] _ (by simp) (by simp [I64])) hc2.ne (by omega) (hc2.alloc _)).mono ?_
  rintro e w3 ⟨x,rfl,hx,hc3,hC3⟩
  have hx2:0<=x/\x<=1000:=by simp at hx;omega
  clear hx
  go_wp2_with fail
  refine(l1Below_c g 40 _ (by omega) hc3).mono ?_
  rintro e w4 ⟨y,rfl,⟨hy0,hy1,_⟩,hc4,hC4⟩
  go_wp2
  go_ret
  exact⟨_,rfl,⟨by omega,by omega⟩,hc4,(hC2.trans hC3.al).trans hC4⟩
 ·go_wp2_with fail
  refine(l1PickInt_c g _ 5 5 [-1,0,1000000000000,1000000000001,9223372036854775807] _ (RS.lit w2 [-1,0,1000000000000,1000000000001,9223372036854775807] _ (by simp) (by simp [I64])) hc2.ne (by omega) (hc2.alloc _)).mono ?_
  rintro e w3 ⟨x,rfl,hx,hc3,hC3⟩
  have hx2:I64 x:=by unfold I64;simp at hx;omega
  clear hx
  go_wp2
  go_ret
  exact⟨_,rfl,hx2,hc3,hC2.trans hC3.al⟩
end Go.Proofs.Ytjckbnmbhgikjaa
