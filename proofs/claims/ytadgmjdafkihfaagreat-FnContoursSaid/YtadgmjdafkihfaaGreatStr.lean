/-
  Str
-/
import Derived.Test.YtadgmjdafkihfaaGreatStrP
import Derived.Test.YtadgmjdafkihfaaGreatEqLib
namespace Go.Proofs.YtadgmjdafkihfaaGreat
open Go.RowKit
set_option linter.unusedVariables false
set_option linter.unusedSimpArgs false

theorem rowOk_no {l:List Int}{m x:Int}{k:Nat}(hx:l[k]?=some x) (h:inR x 0 9=false):rowOk l m=false:=by
 unfold rowOk
 have:l.all (fun v=>inR v 0 9)=false:=by
  rw [Bool.eq_false_iff];intro h2;rw [List.all_eq_true]at h2
  have:=h2 x (mem_of_at hx);rw [h]at this;cases this
 simp [this]
theorem rowOk_end {l:List Int}{m:Int}{n:Nat}(h:l.all (fun v=>inR v 0 9)=true) (hn:l.length=n):rowOk l m=decide ((n:Int)=m):=by
 unfold rowOk;rw [h,hn];simp
theorem colAt_no {l:List Int}{m x:Int}{k:Nat}(hx:l[k]?=some x) (h:inR x 0 (m - 1)=false):colAt l m k=false:=by
 simp [colAt,hx,h]
theorem colAt_z {l:List Int}{m x:Int}(hx:l[0]?=some x) (h:inR x 0 (m - 1)=true):colAt l m 0=true:=by
 simp [colAt,hx,h]
theorem colAt_s {l:List Int}{m x y:Int}{k:Nat}(hy:l[k]?=some y) (hx:l[k+1]?=some x) (h:inR x 0 (m - 1)=true):colAt l m (k+1)=decide (y<x):=by
 simp [colAt,hx,hy,h]
theorem colsOk_no {l:List Int}{m:Int}{k n:Nat}(hn:l.length=n) (hk:k<n) (h:colAt l m k=false):colsOk l m=false:=range_all_no (by omega) h
theorem colsOk_end {l:List Int}{m:Int}{k n:Nat}(hn:l.length=n) (hk:k<=n) (hlt:¬ k<n) (h:(List.range k).all (colAt l m)=true):colsOk l m=true:=by
 have:k=l.length:=by omega
 subst this;exact h
theorem range_all_yes {f:Nat->Bool}{k:Nat}(h:(List.range k).all f=true) (hk:f k=true):(List.range (k+1)).all f=true:=by rw [range_all_snoc,h,hk];rfl
end Go.Proofs.YtadgmjdafkihfaaGreat
