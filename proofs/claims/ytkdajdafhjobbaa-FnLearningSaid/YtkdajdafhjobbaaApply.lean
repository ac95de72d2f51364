/-
  Apply
-/
import Derived.Test.YtkdajdafhjobbaaBox
import Derived.Test.YtkdajdafhjobbaaCopy
import Derived.Test.YtkdajdafhjobbaaMarkB
namespace Go.Proofs.Ytkdajdafhjobbaa
open Go.RowKit
set_option linter.unusedVariables false

theorem Bk.chg {w w' : World} {g : Nat} {t : TypeId} {cs : List Value} {fp : List Nat} (h : Bk w g t cs) (hc : Chg fp w w') (hd : g ∉ fp) : Bk w' g t cs := (hc.block g h.lt hd).trans h
theorem OS.setI {e : TypeId} {w : World} {g n cap : Nat} {l : List Int} (h : OS NB e rInt w [g] (some ⟨g, 0, none⟩) n cap l) (k : Nat) {x : Int} (hx : I64 x) : OS NB e rInt (w.setCell ⟨g, k, none⟩ (.int .i64 x)) [g] (some ⟨g, 0, none⟩) n cap (l.set k x) := by
 obtain ⟨h1, hM, hown, hr⟩ := osInt.1 h
 refine osInt.2 ⟨rfl, hM, ?_, fun y hy => ?_⟩
 ·rw [List.map_set]; exact (hown.stored k _).1
 ·rcases List.mem_or_eq_of_mem_set hy with hy | rfl
  ·exact hr y hy
  ·exact hx
theorem OS.formI {e : TypeId} {w : World} {fp : List Nat} {A : Option Addr} {n cap : Nat} {l : List Int} (h : OS NB e rInt w fp A n cap l) (hn : 0 < n) : ∃ g, A = some ⟨g, 0, none⟩ ∧ fp = [g] ∧ g < w.heap.size := by
 obtain ⟨h1, hM, hown, hr⟩ := osInt.1 h
 rcases (ownsRow_form hown).2 with ⟨_, h0, _⟩ | ⟨g, rfl, hg, _⟩
 ·omega
 ·exact ⟨g, rfl, by rw [h1]; rfl, hg⟩
theorem OS.cellI {e : TypeId} {w : World} {fp : List Nat} {g n cap : Nat} {l : List Int} (h : OS NB e rInt w fp (some ⟨g, 0, none⟩) n cap l) {k : Nat} (hk : k < n) : ∃ x, w.cell? ⟨g, k, none⟩ = some (.int .i64 x) ∧ I64 x ∧ Hid (l[k]? = some x) := by
 obtain ⟨b, off, x, e, hc, hI, hh⟩ := (h.rs rInt_ok).ati hk
 injection e with e; injection e with e1 e2; subst e1; subst e2
 rw [Nat.zero_add] at hc
 exact ⟨x, hc, hI, hh⟩
theorem OS.frozenI {e : TypeId} {w : World} {fp : List Nat} {g n cap : Nat} {l : List Int} (h : OS NB e rInt w fp (some ⟨g, 0, none⟩) n cap l) (j : Nat) : w.frozen? ⟨g, j, none⟩ = false := by
 obtain ⟨h1, hM, hown, hr⟩ := osInt.1 h
 exact hown.frozenAt j

theorem apply_fin {w W : World} {A1 A2 : Option Addr} {n1 n2 c1 c2 : Nat} {l1 l2 : List Int} {f1 f2 : List Nat} (oL : OS NB 3 rInt W f1 A1 n1 c1 l1) (oH : OS NB 3 rInt W f2 A2 n2 c2 l2) (nd : (f1 ++ f2).Nodup) (ge : ∀ k ∈ f1 ++ f2, w.heap.size + 1 + 1 + 1 ≤ k) (hB : Below w.heap.size w W) :
  (rBox NB).own ((W.setCell ⟨w.heap.size + 1 + 1, 0, none⟩ (.slice A1 n1 c1)).setCell ⟨w.heap.size + 1 + 1, 1, none⟩ (.slice A2 n2 c2)) (f1 ++ f2) [.slice A1 n1 c1, .slice A2 n2 c2] ⟨l1, l2⟩ ∧ Fr w.heap.size (f1 ++ f2) ∧ Below w.heap.size w ((W.setCell ⟨w.heap.size + 1 + 1, 0, none⟩ (.slice A1 n1 c1)).setCell ⟨w.heap.size + 1 + 1, 1, none⟩ (.slice A2 n2 c2)) := by
 have hc : Chg [w.heap.size + 1 + 1] W ((W.setCell ⟨w.heap.size + 1 + 1, 0, none⟩ (.slice A1 n1 c1)).setCell ⟨w.heap.size + 1 + 1, 1, none⟩ (.slice A2 n2 c2)) := ((Chg.refl _ _).setCell (by simp) _ _).setCell (by simp) _ _
 refine ⟨rBox_own.2 ⟨A1, n1, c1, A2, n2, c2, f1, f2, rfl, rfl, oL.chg rInt_ok hc (fun k hk hk' => ?_), oH.chg rInt_ok hc (fun k hk hk' => ?_)⟩, ⟨nd, fun k hk => by have := ge k hk; omega⟩, hB.trans (hc.toBelow hB.size (fun k hk => by simp at hk; omega))⟩
 ·have := ge k (List.mem_append_left _ hk); simp at hk'; omega
 ·have := ge k (List.mem_append_right _ hk); simp at hk'; omega
/-- the box with coordinate m narrowed -/
def narrow (b : BoxD) (x : ObservationD) : BoxD :=
 ⟨b.fLow.set x.fMask.toNat (max ((b.fLow[x.fMask.toNat]?).getD 0) x.fClass), if x.fExact then b.fHigh.set x.fMask.toNat (min ((b.fHigh[x.fMask.toNat]?).getD 0) x.fClass) else b.fHigh⟩
def applyObs (b : BoxD) (x : ObservationD) : BoxD × Bool :=
 if validBox b && inR x.fMask 0 ((b.fLow.length : Int) - 1) then (if validBox (narrow b x) then (narrow b x, true) else (b, false)) else (b, false)

set_option maxRecDepth 100000 in
set_option maxHeartbeats 12800000 in
theorem sApplyObservation_c (csx : List Value) (x : BoxD) (csy : List Value) (y : ObservationD) (w : World) (hx : (rBox NB).rep w csx x) (hy : (rObservation NB).rep w csy y) :
  Calls Try.prog 59 #[.agg csx.toArray, .agg csy.toArray] w (RetVB (rBox NB) (applyObs x y).1 (.bool (applyObs x y).2) w) := by
 have hnM := hy
 have rx := hx
 obtain ⟨AxLow, nxLow, cxLow, AxHigh, nxHigh, cxHigh, rfl, hxLow, hxHigh⟩ := rBox_rep.1 hx
 clear hx
 have ry := hy
 obtain ⟨rfl, hyMask, hyClass⟩ := rObservation_rep.1 hy
 clear hy
 have hB : Below w.heap.size w w := Below.refl _ _
 have hAx := (Below.refl (World.heap (w)).size (w)).alloc (Nat.le_refl _) (.cells #[.slice AxLow nxLow cxLow, .slice AxHigh nxHigh cxHigh] 26)
 replace hB := hB.trans (hAx.mono hB.size)
 have bxx := Bx.new (w) [.slice AxLow nxLow cxLow, .slice AxHigh nxHigh cxHigh] 26
 clear hAx
 have hAy := (Below.refl (World.heap ((w).alloc (.cells #[.slice AxLow nxLow cxLow, .slice AxHigh nxHigh cxHigh] 26))).size ((w).alloc (.cells #[.slice AxLow nxLow cxLow, .slice AxHigh nxHigh cxHigh] 26))).alloc (Nat.le_refl _) (.cells #[.int .i64 y.fMask, .int .i64 y.fClass, .bool y.fExact] 38)
 replace hB := hB.trans (hAy.mono hB.size)
 replace bxx := bxx.below hAy
 have bxy := Bx.new ((w).alloc (.cells #[.slice AxLow nxLow cxLow, .slice AxHigh nxHigh cxHigh] 26)) [.int .i64 y.fMask, .int .i64 y.fClass, .bool y.fExact] 38
 simp only [World.size_alloc] at bxy
 clear hAy
 have HL := Lib.hid hxLow.len
 have HH := Lib.hid hxHigh.len
 have hnL := hxLow.bound
 obtain ⟨wa, hwa⟩ : ∃ wa, wa = (w.alloc (.cells #[.slice AxLow nxLow cxLow, .slice AxHigh nxHigh cxHigh] 26)).alloc (.cells #[.int .i64 y.fMask, .int .i64 y.fClass, .bool y.fExact] 38) := ⟨_, rfl⟩
 rw [← hwa] at hB bxx bxy
 have hsa : wa.heap.size = w.heap.size + 1 + 1 := by rw [hwa]; simp
 have hBA := (Below.refl wa.heap.size wa).alloc (Nat.le_refl _) (.cells #[.slice none 0 0, .slice none 0 0] 26)
 have bkR := Bk.new wa [.slice none 0 0, .slice none 0 0] 26
 replace hB := hB.trans (hBA.mono hB.size)
 replace bxx := bxx.below hBA
 replace bxy := bxy.below hBA
 clear hBA
 rw [hwa] at hB bxx bxy bkR hsa
 have HSA := Lib.hid hsa; clear hsa
 simp only [World.size_alloc] at bkR
 clear hwa
 go_enter Try.func59, Try.ntmps59
 go_wp2_with fail
 refine (sCopyBox_c _ x _ ((rBox_ok NB).keep rx (cells_below hB))).mono ?_
 rintro e w1 ⟨cs1, fp1, rfl, o1, fr1, hb1⟩
 replace hB := hB.trans (hb1.mono hB.size)
 replace bxx := bxx.below hb1
 replace bxy := bxy.below hb1
 replace bkR := bkR.below hb1
 clear hb1
 have lt1 := (rBox_ok NB).lt o1
 have ge1 := fr1.ge
 have nd1 := fr1.nd
 simp only [World.size_alloc] at ge1
 obtain ⟨A1, n1, c1, A2, n2, c2, f1, f2, rfl, rfl, oL, oH⟩ := rBox_own.1 o1
 clear o1 fr1
 have hBY := (Below.refl w1.heap.size w1).alloc (Nat.le_refl _) (.cells #[.slice A1 n1 c1, .slice A2 n2 c2] 26)
 have bkY := Bk.new w1 [.slice A1 n1 c1, .slice A2 n2 c2] 26
 have HLT := Lib.hid lt1; clear lt1
 have GE := Lib.hid ge1; have ND := Lib.hid nd1; clear ge1 nd1
 replace hB := hB.trans (hBY.mono hB.size)
 replace bxx := bxx.below hBY
 replace bxy := bxy.below hBY
 replace bkR := bkR.below hBY
 replace oL := oL.belowS rInt_ok hBY
 replace oH := oH.belowS rInt_ok hBY
 clear hBY
 have kx_0 := bxx 0 _ rfl
 have kx_1 := bxx 1 _ rfl
 go_wp2_with fail
 refine (sIsValidBox_c _ x _ ((rBox_ok NB).keep rx (cells_below hB))).mono ?_
 rintro e w2 ⟨rfl, hb2⟩
 replace hB := hB.trans (hb2.mono hB.size)
 replace bxx := bxx.below hb2
 replace bxy := bxy.below hb2
 replace bkR := bkR.below hb2
 replace oL := oL.belowS rInt_ok hb2
 replace oH := oH.belowS rInt_ok hb2
 replace bkY := bkY.below hb2
 clear hb2 kx_0 kx_1
 cases hv : validBox x
 ·have rf0 := bkR.frozen 0
  have rf1 := bkR.frozen 1
  have rc0 := bkR.bx 0 _ rfl
  have rc1 := bkR.bx 1 _ rfl
  have rl := bkR.lt
  have yc0 := bkY.bx 0 _ rfl
  have yc1 := bkY.bx 1 _ rfl
  go_wp2
  have bk3 := (bkR.set 0 (.slice A1 n1 c1)).set 1 (.slice A2 n2 c2)
  have q0 := bk3.bx 0 _ rfl
  have q1 := bk3.bx 1 _ rfl
  have hf := apply_fin oL oH ND.out GE.out hB
  refine bodyPost_ret (v := .tuple #[.agg #[.slice A1 n1 c1, .slice A2 n2 c2], .bool false]) (by simp [results, Try.results59, go_sem, q0, q1]) rfl ?_
  have he : applyObs x y = (x, false) := by simp [applyObs, hv]
  rw [he]
  exact ⟨_, _, rfl, hf.1, hf.2.1, hf.2.2⟩

 have hlenH : nxLow = nxHigh := by rw [← HL.out, ← HH.out]; exact (validBox_parts hv).2.2.2.1.symm
 subst hlenH
 have hn1 : nxLow = n1 := by rw [← oL.len, ← HL.out]
 have hn2 : nxLow = n2 := by rw [← oH.len, ← HH.out]
 subst hn1; subst hn2
 have hpos : 0 < nxLow := by rw [← HL.out]; exact (validBox_parts hv).2.2.1
 have HV := Lib.hid hv; clear hv
 have kx_0 := bxx 0 _ rfl
 have kx_1 := bxx 1 _ rfl
 have ky_0 := bxy 0 _ rfl
 have ky_1 := bxy 1 _ rfl
 have ky_2 := bxy 2 _ rfl
 have m1 : IntKind.i64.wrap ((nxLow : Int) - 1) = (nxLow : Int) - 1 := IntWalk.i64_in _ (by omega)
 cases g1 : inR y.fMask 0 ((nxLow : Int) - 1)
 ·have rf0 := bkR.frozen 0
  have rf1 := bkR.frozen 1
  have rc0 := bkR.bx 0 _ rfl
  have rc1 := bkR.bx 1 _ rfl
  have rl := bkR.lt
  have yc0 := bkY.bx 0 _ rfl
  have yc1 := bkY.bx 1 _ rfl
  go_wp2_with (go_at_call 66; refine (l1In_c _ _ _ _).mono ?_; rintro e w' ⟨rfl, rfl⟩)
  have bk3 := (bkR.set 0 (.slice A1 nxLow c1)).set 1 (.slice A2 nxLow c2)
  have q0 := bk3.bx 0 _ rfl
  have q1 := bk3.bx 1 _ rfl
  have hf := apply_fin oL oH ND.out GE.out hB
  refine bodyPost_ret (v := .tuple #[.agg #[.slice A1 nxLow c1, .slice A2 nxLow c2], .bool false]) (by simp [results, Try.results59, go_sem, q0, q1]) rfl ?_
  have he : applyObs x y = (x, false) := by simp only [applyObs, HV.out, HL.out, g1]; simp
  rw [he]
  exact ⟨_, _, rfl, hf.1, hf.2.1, hf.2.2⟩

 have g1' := inR_t.1 g1
 obtain ⟨j, hj⟩ : ∃ j : Nat, y.fMask = j := ⟨y.fMask.toNat, by omega⟩
 have hjn : j < nxLow := by omega
 have HG := Lib.hid g1; have HJ := Lib.hid hj
 rw [hj] at ky_0 g1
 clear hj g1'
 obtain ⟨gL, rfl, hf1, hgl⟩ := oL.formI (by omega)
 obtain ⟨gH, rfl, hf2, hhl⟩ := oH.formI (by omega)
 subst hf1; subst hf2
 obtain ⟨a, hca, hIa, ha⟩ := oL.cellI hjn
 obtain ⟨a2, hca2, hIa2, ha2⟩ := oH.cellI hjn
 have hfg := oL.frozenI
 have hfh := oH.frozenI
 have yc0 := bkY.bx 0 _ rfl
 have yc1 := bkY.bx 1 _ rfl
 have hgh : gL ≠ gH := by have := ND.out; simp at this; exact this
 have cI := hyClass
 by_cases hmx : a < y.fClass
 ·have dmx : decide (a < y.fClass) = true := by simpa using hmx
  have HLO : Hid (x.fLow.set y.fMask.toNat (max ((x.fLow[y.fMask.toNat]?).getD 0) y.fClass) = x.fLow.set j (y.fClass)) := by show _ = _; rw [HJ.out]; simp only [Int.toNat_natCast, ha.out, Option.getD_some]; congr 1; omega
  go_wp2_with (go_at_call 66; refine (l1In_c _ _ _ _).mono ?_; rintro e w' ⟨rfl, rfl⟩)
  go_still_tail 14, (by kernel_rfl)
  obtain ⟨wd, hwd⟩ : ∃ W : World, W = World.drew w2 := ⟨_, rfl⟩
  change wpList _ _ _ _ _ (World.drew w2)
  rw [← hwd]
  have hbd : Below (World.heap w2).size w2 wd := by rw [hwd]; exact (Below.refl _ _).drew
  clear hwd
  replace hB := hB.trans (hbd.mono hB.size)
  replace bxx := bxx.below hbd
  replace bxy := bxy.below hbd
  replace bkR := bkR.below hbd
  replace oL := oL.belowS rInt_ok hbd
  replace oH := oH.belowS rInt_ok hbd
  replace bkY := bkY.below hbd
  clear hbd kx_0 kx_1 ky_0 ky_1 ky_2
  clear hca hca2 hfg hfh yc0 yc1
  obtain ⟨u1, hu1, _, _⟩ := oL.cellI hjn
  have hfg := oL.frozenI
  have hgl2 : gL < wd.heap.size := by have := HLT.out gL (by simp); have := bkY.lt; omega
  have hc4 : Chg [gL] wd (wd.setCell ⟨gL, j, none⟩ (.int .i64 (y.fClass))) := (Chg.refl _ _).setCell (by simp) _ _
  have oL4 := oL.setI j (x := y.fClass) cI
  have oH4 := oH.chg rInt_ok hc4 (fun k hk hk' => by simp only [List.mem_singleton] at hk hk'; omega)
  clear oL oH
  have oL := oL4; have oH := oH4
  clear oL4 oH4
  have hB4 := hB.trans (hc4.toBelow hB.size (fun k hk => by simp only [List.mem_singleton] at hk; have := GE.out gL (by simp); omega))
  have bxx4 := bxx.chg hc4 (fun hk => by simp only [List.mem_singleton] at hk; have := GE.out gL (by simp); have := HLT.out gL (by simp); omega)
  have bxy4 := bxy.chg hc4 (fun hk => by simp only [List.mem_singleton] at hk; have := GE.out gL (by simp); have := HLT.out gL (by simp); omega)
  have bkR4 := bkR.chg hc4 (fun hk => by simp only [List.mem_singleton] at hk; have := GE.out gL (by simp); have := HLT.out gL (by simp); omega)
  have bkY4 := bkY.chg hc4 (fun hk => by simp only [List.mem_singleton] at hk; have := GE.out gL (by simp); have := HLT.out gL (by simp); omega)
  clear hB bxx bxy bkR bkY
  have hB := hB4; have bxx := bxx4; have bxy := bxy4; have bkR := bkR4; have bkY := bkY4
  clear hB4 bxx4 bxy4 bkR4 bkY4
  have ky_0 := bxy 0 _ rfl
  have ky_1 := bxy 1 _ rfl
  have ky_2 := bxy 2 _ rfl
  rw [HJ.out] at ky_0
  cases hex : y.fExact
  ·rw [hex] at ky_2
   have yc0 := bkY.bx 0 _ rfl
   have yc1 := bkY.bx 1 _ rfl
   have HN : Hid (narrow x y = ⟨(x.fLow.set j (y.fClass)), x.fHigh⟩) := by show narrow x y = _; rw [narrow, HLO.out, hex]; rfl
   go_wp2_with fail
   refine (sIsValidBox_c _ ⟨(x.fLow.set j (y.fClass)), x.fHigh⟩ _ ((rBox_ok NB).toRep (rBox_own.2 ⟨_, _, _, _, _, _, [gL], [gH], rfl, rfl, oL, oH⟩))).mono ?_
   rintro e w5 ⟨rfl, hb5⟩
   replace hB := hB.trans (hb5.mono hB.size)
   replace bxx := bxx.below hb5
   replace bkR := bkR.below hb5
   replace bkY := bkY.below hb5
   replace oL := oL.belowS rInt_ok hb5
   replace oH := oH.belowS rInt_ok hb5
   clear hb5 yc0 yc1
   have HNV : Hid (validBox (narrow x y) = validBox ⟨(x.fLow.set j (y.fClass)), x.fHigh⟩) := by show _ = _; rw [HN.out]
   cases hw : validBox ⟨(x.fLow.set j (y.fClass)), x.fHigh⟩
   ·have kx_0 := bxx 0 _ rfl
    have kx_1 := bxx 1 _ rfl
    go_wp2_with fail
    refine (sCopyBox_c _ x _ ((rBox_ok NB).keep rx (cells_below hB))).mono ?_
    rintro e w6 ⟨cs6, fp6, rfl, o6, fr6, hb6⟩
    replace hB := hB.trans (hb6.mono hB.size)
    replace bkR := bkR.below hb6
    have ge6 : ∀ k ∈ fp6, w.heap.size + 1 + 1 + 1 ≤ k := fun k hk => by have := fr6.ge k hk; have := bkY.lt; have := GE.out gL (by simp); have := HLT.out gL (by simp); omega
    have nd6 := fr6.nd
    obtain ⟨A3, n3, c3, A4, n4, c4, f3, f4, rfl, rfl, oL6, oH6⟩ := rBox_own.1 o6
    clear hb6 fr6 kx_0 kx_1
    have rf0 := bkR.frozen 0
    have rf1 := bkR.frozen 1
    have rc0 := bkR.bx 0 _ rfl
    have rc1 := bkR.bx 1 _ rfl
    have rl := bkR.lt
    go_wp2
    have bk3 := (bkR.set 0 (.slice A3 n3 c3)).set 1 (.slice A4 n4 c4)
    have q0 := bk3.bx 0 _ rfl
    have q1 := bk3.bx 1 _ rfl
    have hf := apply_fin oL6 oH6 nd6 ge6 hB
    refine bodyPost_ret (v := .tuple #[.agg #[.slice A3 n3 c3, .slice A4 n4 c4], .bool false]) (by simp [results, Try.results59, go_sem, q0, q1]) rfl ?_
    have he : applyObs x y = (x, false) := by simp only [applyObs, HV.out, HL.out, HG.out, HNV.out, hw]; simp
    rw [he]
    exact ⟨_, _, rfl, hf.1, hf.2.1, hf.2.2⟩
   ·have rf0 := bkR.frozen 0
    have rf1 := bkR.frozen 1
    have rc0 := bkR.bx 0 _ rfl
    have rc1 := bkR.bx 1 _ rfl
    have rl := bkR.lt
    have yc0 := bkY.bx 0 _ rfl
    have yc1 := bkY.bx 1 _ rfl
    go_wp2
    have bk3 := (bkR.set 0 (.slice (some ⟨gL, 0, none⟩) nxLow c1)).set 1 (.slice (some ⟨gH, 0, none⟩) nxLow c2)
    have q0 := bk3.bx 0 _ rfl
    have q1 := bk3.bx 1 _ rfl
    have hf := apply_fin oL oH ND.out GE.out hB
    refine bodyPost_ret (v := .tuple #[.agg #[.slice (some ⟨gL, 0, none⟩) nxLow c1, .slice (some ⟨gH, 0, none⟩) nxLow c2], .bool true]) (by simp [results, Try.results59, go_sem, q0, q1]) rfl ?_
    have he : applyObs x y = (narrow x y, true) := by simp only [applyObs, HV.out, HL.out, HG.out, HNV.out, hw]; simp
    rw [he, HN.out]
    exact ⟨_, _, rfl, hf.1, hf.2.1, hf.2.2⟩
  ·rw [hex] at ky_2
   obtain ⟨a3, hca3, hIa3, ha3⟩ := oH.cellI hjn
   obtain rfl : a3 = a2 := by have := ha3.out; rw [ha2.out] at this; injection this with this; exact this.symm
   have hfh := oH.frozenI
   have yc0 := bkY.bx 0 _ rfl
   have yc1 := bkY.bx 1 _ rfl
   by_cases hmn : y.fClass < a3
   ·have dmn : decide (y.fClass < a3) = true := by simpa using hmn
    have HHI : Hid (x.fHigh.set y.fMask.toNat (min ((x.fHigh[y.fMask.toNat]?).getD 0) y.fClass) = x.fHigh.set j (y.fClass)) := by show _ = _; rw [HJ.out]; simp only [Int.toNat_natCast, ha2.out, Option.getD_some]; congr 1; omega
    go_wp2_with fail
    clear hc4 hu1 hfg
    obtain ⟨w4, hw4⟩ : ∃ w4, w4 = wd.setCell ⟨gL, j, none⟩ (.int .i64 (y.fClass)) := ⟨_, rfl⟩
    rw [← hw4]
    rw [← hw4] at hB bxx bxy bkR bkY oL oH ky_0 ky_1 ky_2 yc0 yc1 hca3 hfh
    clear hw4
    go_still_tail 14, (by kernel_rfl)
    obtain ⟨we, hwd⟩ : ∃ W : World, W = World.drew w4 := ⟨_, rfl⟩
    change wpList _ _ _ _ _ (World.drew w4)
    rw [← hwd]
    have hbd : Below (World.heap w4).size w4 we := by rw [hwd]; exact (Below.refl _ _).drew
    clear hwd
    replace hB := hB.trans (hbd.mono hB.size)
    replace bxx := bxx.below hbd
    replace bkR := bkR.below hbd
    replace oL := oL.belowS rInt_ok hbd
    replace oH := oH.belowS rInt_ok hbd
    replace bkY := bkY.below hbd
    clear hbd
    clear hca3 hfh yc0 yc1 ky_0 ky_1 ky_2
    obtain ⟨u2, hu2, _, _⟩ := oH.cellI hjn
    have hfh := oH.frozenI
    have hgl3 : gH < we.heap.size := by have := HLT.out gH (by simp); have := bkY.lt; omega
    have hc4 : Chg [gH] we (we.setCell ⟨gH, j, none⟩ (.int .i64 (y.fClass))) := (Chg.refl _ _).setCell (by simp) _ _
    have oH4 := oH.setI j (x := y.fClass) cI
    have oL4 := oL.chg rInt_ok hc4 (fun k hk hk' => by simp only [List.mem_singleton] at hk hk'; omega)
    clear oL oH
    have oL := oL4; have oH := oH4
    clear oL4 oH4
    have hB4 := hB.trans (hc4.toBelow hB.size (fun k hk => by simp only [List.mem_singleton] at hk; have := GE.out gH (by simp); omega))
    have bxx4 := bxx.chg hc4 (fun hk => by simp only [List.mem_singleton] at hk; have := GE.out gH (by simp); have := HLT.out gH (by simp); omega)
    have bkR4 := bkR.chg hc4 (fun hk => by simp only [List.mem_singleton] at hk; have := GE.out gH (by simp); have := HLT.out gH (by simp); omega)
    have bkY4 := bkY.chg hc4 (fun hk => by simp only [List.mem_singleton] at hk; have := GE.out gH (by simp); have := HLT.out gH (by simp); omega)
    clear hB bxx bkR bkY
    have hB := hB4; have bxx := bxx4; have bkR := bkR4; have bkY := bkY4
    clear hB4 bxx4 bkR4 bkY4
    have yc0 := bkY.bx 0 _ rfl
    have yc1 := bkY.bx 1 _ rfl
    have HN : Hid (narrow x y = ⟨(x.fLow.set j (y.fClass)), (x.fHigh.set j (y.fClass))⟩) := by show narrow x y = _; rw [narrow, HLO.out, HHI.out]; simp [hex]
    go_wp2_with fail
    refine (sIsValidBox_c _ ⟨(x.fLow.set j (y.fClass)), (x.fHigh.set j (y.fClass))⟩ _ ((rBox_ok NB).toRep (rBox_own.2 ⟨_, _, _, _, _, _, [gL], [gH], rfl, rfl, oL, oH⟩))).mono ?_
    rintro e w5 ⟨rfl, hb5⟩
    replace hB := hB.trans (hb5.mono hB.size)
    replace bxx := bxx.below hb5
    replace bkR := bkR.below hb5
    replace bkY := bkY.below hb5
    replace oL := oL.belowS rInt_ok hb5
    replace oH := oH.belowS rInt_ok hb5
    clear hb5 yc0 yc1
    have HNV : Hid (validBox (narrow x y) = validBox ⟨(x.fLow.set j (y.fClass)), (x.fHigh.set j (y.fClass))⟩) := by show _ = _; rw [HN.out]
    cases hw : validBox ⟨(x.fLow.set j (y.fClass)), (x.fHigh.set j (y.fClass))⟩
    ·have kx_0 := bxx 0 _ rfl
     have kx_1 := bxx 1 _ rfl
     go_wp2_with fail
     refine (sCopyBox_c _ x _ ((rBox_ok NB).keep rx (cells_below hB))).mono ?_
     rintro e w6 ⟨cs6, fp6, rfl, o6, fr6, hb6⟩
     replace hB := hB.trans (hb6.mono hB.size)
     replace bkR := bkR.below hb6
     have ge6 : ∀ k ∈ fp6, w.heap.size + 1 + 1 + 1 ≤ k := fun k hk => by have := fr6.ge k hk; have := bkY.lt; have := GE.out gL (by simp); have := HLT.out gL (by simp); omega
     have nd6 := fr6.nd
     obtain ⟨A3, n3, c3, A4, n4, c4, f3, f4, rfl, rfl, oL6, oH6⟩ := rBox_own.1 o6
     clear hb6 fr6 kx_0 kx_1
     have rf0 := bkR.frozen 0
     have rf1 := bkR.frozen 1
     have rc0 := bkR.bx 0 _ rfl
     have rc1 := bkR.bx 1 _ rfl
     have rl := bkR.lt
     go_wp2
     have bk3 := (bkR.set 0 (.slice A3 n3 c3)).set 1 (.slice A4 n4 c4)
     have q0 := bk3.bx 0 _ rfl
     have q1 := bk3.bx 1 _ rfl
     have hf := apply_fin oL6 oH6 nd6 ge6 hB
     refine bodyPost_ret (v := .tuple #[.agg #[.slice A3 n3 c3, .slice A4 n4 c4], .bool false]) (by simp [results, Try.results59, go_sem, q0, q1]) rfl ?_
     have he : applyObs x y = (x, false) := by simp only [applyObs, HV.out, HL.out, HG.out, HNV.out, hw]; simp
     rw [he]
     exact ⟨_, _, rfl, hf.1, hf.2.1, hf.2.2⟩
    ·have rf0 := bkR.frozen 0
     have rf1 := bkR.frozen 1
     have rc0 := bkR.bx 0 _ rfl
     have rc1 := bkR.bx 1 _ rfl
     have rl := bkR.lt
     have yc0 := bkY.bx 0 _ rfl
     have yc1 := bkY.bx 1 _ rfl
     go_wp2
     have bk3 := (bkR.set 0 (.slice (some ⟨gL, 0, none⟩) nxLow c1)).set 1 (.slice (some ⟨gH, 0, none⟩) nxLow c2)
     have q0 := bk3.bx 0 _ rfl
     have q1 := bk3.bx 1 _ rfl
     have hf := apply_fin oL oH ND.out GE.out hB
     refine bodyPost_ret (v := .tuple #[.agg #[.slice (some ⟨gL, 0, none⟩) nxLow c1, .slice (some ⟨gH, 0, none⟩) nxLow c2], .bool true]) (by simp [results, Try.results59, go_sem, q0, q1]) rfl ?_
     have he : applyObs x y = (narrow x y, true) := by simp only [applyObs, HV.out, HL.out, HG.out, HNV.out, hw]; simp
     rw [he, HN.out]
     exact ⟨_, _, rfl, hf.1, hf.2.1, hf.2.2⟩
   ·have dmn : decide (y.fClass < a3) = false := by simpa using hmn
    have HHI : Hid (x.fHigh.set y.fMask.toNat (min ((x.fHigh[y.fMask.toNat]?).getD 0) y.fClass) = x.fHigh.set j (a3)) := by show _ = _; rw [HJ.out]; simp only [Int.toNat_natCast, ha2.out, Option.getD_some]; congr 1; omega
    go_wp2_with fail
    clear hc4 hu1 hfg
    obtain ⟨w4, hw4⟩ : ∃ w4, w4 = wd.setCell ⟨gL, j, none⟩ (.int .i64 (y.fClass)) := ⟨_, rfl⟩
    rw [← hw4]
    rw [← hw4] at hB bxx bxy bkR bkY oL oH ky_0 ky_1 ky_2 yc0 yc1 hca3 hfh
    clear hw4
    go_still_tail 14, (by kernel_rfl)
    obtain ⟨we, hwd⟩ : ∃ W : World, W = World.drew w4 := ⟨_, rfl⟩
    change wpList _ _ _ _ _ (World.drew w4)
    rw [← hwd]
    have hbd : Below (World.heap w4).size w4 we := by rw [hwd]; exact (Below.refl _ _).drew
    clear hwd
    replace hB := hB.trans (hbd.mono hB.size)
    replace bxx := bxx.below hbd
    replace bkR := bkR.below hbd
    replace oL := oL.belowS rInt_ok hbd
    replace oH := oH.belowS rInt_ok hbd
    replace bkY := bkY.below hbd
    clear hbd
    clear hca3 hfh yc0 yc1 ky_0 ky_1 ky_2
    obtain ⟨u2, hu2, _, _⟩ := oH.cellI hjn
    have hfh := oH.frozenI
    have hgl3 : gH < we.heap.size := by have := HLT.out gH (by simp); have := bkY.lt; omega
    have hc4 : Chg [gH] we (we.setCell ⟨gH, j, none⟩ (.int .i64 (a3))) := (Chg.refl _ _).setCell (by simp) _ _
    have oH4 := oH.setI j (x := a3) hIa2
    have oL4 := oL.chg rInt_ok hc4 (fun k hk hk' => by simp only [List.mem_singleton] at hk hk'; omega)
    clear oL oH
    have oL := oL4; have oH := oH4
    clear oL4 oH4
    have hB4 := hB.trans (hc4.toBelow hB.size (fun k hk => by simp only [List.mem_singleton] at hk; have := GE.out gH (by simp); omega))
    have bxx4 := bxx.chg hc4 (fun hk => by simp only [List.mem_singleton] at hk; have := GE.out gH (by simp); have := HLT.out gH (by simp); omega)
    have bkR4 := bkR.chg hc4 (fun hk => by simp only [List.mem_singleton] at hk; have := GE.out gH (by simp); have := HLT.out gH (by simp); omega)
    have bkY4 := bkY.chg hc4 (fun hk => by simp only [List.mem_singleton] at hk; have := GE.out gH (by simp); have := HLT.out gH (by simp); omega)
    clear hB bxx bkR bkY
    have hB := hB4; have bxx := bxx4; have bkR := bkR4; have bkY := bkY4
    clear hB4 bxx4 bkR4 bkY4
    have yc0 := bkY.bx 0 _ rfl
    have yc1 := bkY.bx 1 _ rfl
    have HN : Hid (narrow x y = ⟨(x.fLow.set j (y.fClass)), (x.fHigh.set j (a3))⟩) := by show narrow x y = _; rw [narrow, HLO.out, HHI.out]; simp [hex]
    go_wp2_with fail
    refine (sIsValidBox_c _ ⟨(x.fLow.set j (y.fClass)), (x.fHigh.set j (a3))⟩ _ ((rBox_ok NB).toRep (rBox_own.2 ⟨_, _, _, _, _, _, [gL], [gH], rfl, rfl, oL, oH⟩))).mono ?_
    rintro e w5 ⟨rfl, hb5⟩
    replace hB := hB.trans (hb5.mono hB.size)
    replace bxx := bxx.below hb5
    replace bkR := bkR.below hb5
    replace bkY := bkY.below hb5
    replace oL := oL.belowS rInt_ok hb5
    replace oH := oH.belowS rInt_ok hb5
    clear hb5 yc0 yc1
    have HNV : Hid (validBox (narrow x y) = validBox ⟨(x.fLow.set j (y.fClass)), (x.fHigh.set j (a3))⟩) := by show _ = _; rw [HN.out]
    cases hw : validBox ⟨(x.fLow.set j (y.fClass)), (x.fHigh.set j (a3))⟩
    ·have kx_0 := bxx 0 _ rfl
     have kx_1 := bxx 1 _ rfl
     go_wp2_with fail
     refine (sCopyBox_c _ x _ ((rBox_ok NB).keep rx (cells_below hB))).mono ?_
     rintro e w6 ⟨cs6, fp6, rfl, o6, fr6, hb6⟩
     replace hB := hB.trans (hb6.mono hB.size)
     replace bkR := bkR.below hb6
     have ge6 : ∀ k ∈ fp6, w.heap.size + 1 + 1 + 1 ≤ k := fun k hk => by have := fr6.ge k hk; have := bkY.lt; have := GE.out gL (by simp); have := HLT.out gL (by simp); omega
     have nd6 := fr6.nd
     obtain ⟨A3, n3, c3, A4, n4, c4, f3, f4, rfl, rfl, oL6, oH6⟩ := rBox_own.1 o6
     clear hb6 fr6 kx_0 kx_1
     have rf0 := bkR.frozen 0
     have rf1 := bkR.frozen 1
     have rc0 := bkR.bx 0 _ rfl
     have rc1 := bkR.bx 1 _ rfl
     have rl := bkR.lt
     go_wp2
     have bk3 := (bkR.set 0 (.slice A3 n3 c3)).set 1 (.slice A4 n4 c4)
     have q0 := bk3.bx 0 _ rfl
     have q1 := bk3.bx 1 _ rfl
     have hf := apply_fin oL6 oH6 nd6 ge6 hB
     refine bodyPost_ret (v := .tuple #[.agg #[.slice A3 n3 c3, .slice A4 n4 c4], .bool false]) (by simp [results, Try.results59, go_sem, q0, q1]) rfl ?_
     have he : applyObs x y = (x, false) := by simp only [applyObs, HV.out, HL.out, HG.out, HNV.out, hw]; simp
     rw [he]
     exact ⟨_, _, rfl, hf.1, hf.2.1, hf.2.2⟩
    ·have rf0 := bkR.frozen 0
     have rf1 := bkR.frozen 1
     have rc0 := bkR.bx 0 _ rfl
     have rc1 := bkR.bx 1 _ rfl
     have rl := bkR.lt
     have yc0 := bkY.bx 0 _ rfl
     have yc1 := bkY.bx 1 _ rfl
     go_wp2
     have bk3 := (bkR.set 0 (.slice (some ⟨gL, 0, none⟩) nxLow c1)).set 1 (.slice (some ⟨gH, 0, none⟩) nxLow c2)
     have q0 := bk3.bx 0 _ rfl
     have q1 := bk3.bx 1 _ rfl
     have hf := apply_fin oL oH ND.out GE.out hB
     refine bodyPost_ret (v := .tuple #[.agg #[.slice (some ⟨gL, 0, none⟩) nxLow c1, .slice (some ⟨gH, 0, none⟩) nxLow c2], .bool true]) (by simp [results, Try.results59, go_sem, q0, q1]) rfl ?_
     have he : applyObs x y = (narrow x y, true) := by simp only [applyObs, HV.out, HL.out, HG.out, HNV.out, hw]; simp
     rw [he, HN.out]
     exact ⟨_, _, rfl, hf.1, hf.2.1, hf.2.2⟩
 ·have dmx : decide (a < y.fClass) = false := by simpa using hmx
  have HLO : Hid (x.fLow.set y.fMask.toNat (max ((x.fLow[y.fMask.toNat]?).getD 0) y.fClass) = x.fLow.set j (a)) := by show _ = _; rw [HJ.out]; simp only [Int.toNat_natCast, ha.out, Option.getD_some]; congr 1; omega
  go_wp2_with (go_at_call 66; refine (l1In_c _ _ _ _).mono ?_; rintro e w' ⟨rfl, rfl⟩)
  go_still_tail 14, (by kernel_rfl)
  obtain ⟨wd, hwd⟩ : ∃ W : World, W = World.drew w2 := ⟨_, rfl⟩
  change wpList _ _ _ _ _ (World.drew w2)
  rw [← hwd]
  have hbd : Below (World.heap w2).size w2 wd := by rw [hwd]; exact (Below.refl _ _).drew
  clear hwd
  replace hB := hB.trans (hbd.mono hB.size)
  replace bxx := bxx.below hbd
  replace bxy := bxy.below hbd
  replace bkR := bkR.below hbd
  replace oL := oL.belowS rInt_ok hbd
  replace oH := oH.belowS rInt_ok hbd
  replace bkY := bkY.below hbd
  clear hbd
  clear hca hca2 hfg hfh yc0 yc1
  obtain ⟨u1, hu1, _, _⟩ := oL.cellI hjn
  have hfg := oL.frozenI
  have hgl2 : gL < wd.heap.size := by have := HLT.out gL (by simp); have := bkY.lt; omega
  have hc4 : Chg [gL] wd (wd.setCell ⟨gL, j, none⟩ (.int .i64 (a))) := (Chg.refl _ _).setCell (by simp) _ _
  have oL4 := oL.setI j (x := a) hIa
  have oH4 := oH.chg rInt_ok hc4 (fun k hk hk' => by simp only [List.mem_singleton] at hk hk'; omega)
  clear oL oH
  have oL := oL4; have oH := oH4
  clear oL4 oH4
  have hB4 := hB.trans (hc4.toBelow hB.size (fun k hk => by simp only [List.mem_singleton] at hk; have := GE.out gL (by simp); omega))
  have bxx4 := bxx.chg hc4 (fun hk => by simp only [List.mem_singleton] at hk; have := GE.out gL (by simp); have := HLT.out gL (by simp); omega)
  have bxy4 := bxy.chg hc4 (fun hk => by simp only [List.mem_singleton] at hk; have := GE.out gL (by simp); have := HLT.out gL (by simp); omega)
  have bkR4 := bkR.chg hc4 (fun hk => by simp only [List.mem_singleton] at hk; have := GE.out gL (by simp); have := HLT.out gL (by simp); omega)
  have bkY4 := bkY.chg hc4 (fun hk => by simp only [List.mem_singleton] at hk; have := GE.out gL (by simp); have := HLT.out gL (by simp); omega)
  clear hB bxx bxy bkR bkY
  have hB := hB4; have bxx := bxx4; have bxy := bxy4; have bkR := bkR4; have bkY := bkY4
  clear hB4 bxx4 bxy4 bkR4 bkY4
  have ky_0 := bxy 0 _ rfl
  have ky_1 := bxy 1 _ rfl
  have ky_2 := bxy 2 _ rfl
  rw [HJ.out] at ky_0
  cases hex : y.fExact
  ·rw [hex] at ky_2
   have yc0 := bkY.bx 0 _ rfl
   have yc1 := bkY.bx 1 _ rfl
   have HN : Hid (narrow x y = ⟨(x.fLow.set j (a)), x.fHigh⟩) := by show narrow x y = _; rw [narrow, HLO.out, hex]; rfl
   go_wp2_with fail
   refine (sIsValidBox_c _ ⟨(x.fLow.set j (a)), x.fHigh⟩ _ ((rBox_ok NB).toRep (rBox_own.2 ⟨_, _, _, _, _, _, [gL], [gH], rfl, rfl, oL, oH⟩))).mono ?_
   rintro e w5 ⟨rfl, hb5⟩
   replace hB := hB.trans (hb5.mono hB.size)
   replace bxx := bxx.below hb5
   replace bkR := bkR.below hb5
   replace bkY := bkY.below hb5
   replace oL := oL.belowS rInt_ok hb5
   replace oH := oH.belowS rInt_ok hb5
   clear hb5 yc0 yc1
   have HNV : Hid (validBox (narrow x y) = validBox ⟨(x.fLow.set j (a)), x.fHigh⟩) := by show _ = _; rw [HN.out]
   cases hw : validBox ⟨(x.fLow.set j (a)), x.fHigh⟩
   ·have kx_0 := bxx 0 _ rfl
    have kx_1 := bxx 1 _ rfl
    go_wp2_with fail
    refine (sCopyBox_c _ x _ ((rBox_ok NB).keep rx (cells_below hB))).mono ?_
    rintro e w6 ⟨cs6, fp6, rfl, o6, fr6, hb6⟩
    replace hB := hB.trans (hb6.mono hB.size)
    replace bkR := bkR.below hb6
    have ge6 : ∀ k ∈ fp6, w.heap.size + 1 + 1 + 1 ≤ k := fun k hk => by have := fr6.ge k hk; have := bkY.lt; have := GE.out gL (by simp); have := HLT.out gL (by simp); omega
    have nd6 := fr6.nd
    obtain ⟨A3, n3, c3, A4, n4, c4, f3, f4, rfl, rfl, oL6, oH6⟩ := rBox_own.1 o6
    clear hb6 fr6 kx_0 kx_1
    have rf0 := bkR.frozen 0
    have rf1 := bkR.frozen 1
    have rc0 := bkR.bx 0 _ rfl
    have rc1 := bkR.bx 1 _ rfl
    have rl := bkR.lt
    go_wp2
    have bk3 := (bkR.set 0 (.slice A3 n3 c3)).set 1 (.slice A4 n4 c4)
    have q0 := bk3.bx 0 _ rfl
    have q1 := bk3.bx 1 _ rfl
    have hf := apply_fin oL6 oH6 nd6 ge6 hB
    refine bodyPost_ret (v := .tuple #[.agg #[.slice A3 n3 c3, .slice A4 n4 c4], .bool false]) (by simp [results, Try.results59, go_sem, q0, q1]) rfl ?_
    have he : applyObs x y = (x, false) := by simp only [applyObs, HV.out, HL.out, HG.out, HNV.out, hw]; simp
    rw [he]
    exact ⟨_, _, rfl, hf.1, hf.2.1, hf.2.2⟩
   ·have rf0 := bkR.frozen 0
    have rf1 := bkR.frozen 1
    have rc0 := bkR.bx 0 _ rfl
    have rc1 := bkR.bx 1 _ rfl
    have rl := bkR.lt
    have yc0 := bkY.bx 0 _ rfl
    have yc1 := bkY.bx 1 _ rfl
    go_wp2
    have bk3 := (bkR.set 0 (.slice (some ⟨gL, 0, none⟩) nxLow c1)).set 1 (.slice (some ⟨gH, 0, none⟩) nxLow c2)
    have q0 := bk3.bx 0 _ rfl
    have q1 := bk3.bx 1 _ rfl
    have hf := apply_fin oL oH ND.out GE.out hB
    refine bodyPost_ret (v := .tuple #[.agg #[.slice (some ⟨gL, 0, none⟩) nxLow c1, .slice (some ⟨gH, 0, none⟩) nxLow c2], .bool true]) (by simp [results, Try.results59, go_sem, q0, q1]) rfl ?_
    have he : applyObs x y = (narrow x y, true) := by simp only [applyObs, HV.out, HL.out, HG.out, HNV.out, hw]; simp
    rw [he, HN.out]
    exact ⟨_, _, rfl, hf.1, hf.2.1, hf.2.2⟩
  ·rw [hex] at ky_2
   obtain ⟨a3, hca3, hIa3, ha3⟩ := oH.cellI hjn
   obtain rfl : a3 = a2 := by have := ha3.out; rw [ha2.out] at this; injection this with this; exact this.symm
   have hfh := oH.frozenI
   have yc0 := bkY.bx 0 _ rfl
   have yc1 := bkY.bx 1 _ rfl
   by_cases hmn : y.fClass < a3
   ·have dmn : decide (y.fClass < a3) = true := by simpa using hmn
    have HHI : Hid (x.fHigh.set y.fMask.toNat (min ((x.fHigh[y.fMask.toNat]?).getD 0) y.fClass) = x.fHigh.set j (y.fClass)) := by show _ = _; rw [HJ.out]; simp only [Int.toNat_natCast, ha2.out, Option.getD_some]; congr 1; omega
    go_wp2_with fail
    clear hc4 hu1 hfg
    obtain ⟨w4, hw4⟩ : ∃ w4, w4 = wd.setCell ⟨gL, j, none⟩ (.int .i64 (a)) := ⟨_, rfl⟩
    rw [← hw4]
    rw [← hw4] at hB bxx bxy bkR bkY oL oH ky_0 ky_1 ky_2 yc0 yc1 hca3 hfh
    clear hw4
    go_still_tail 14, (by kernel_rfl)
    obtain ⟨we, hwd⟩ : ∃ W : World, W = World.drew w4 := ⟨_, rfl⟩
    change wpList _ _ _ _ _ (World.drew w4)
    rw [← hwd]
    have hbd : Below (World.heap w4).size w4 we := by rw [hwd]; exact (Below.refl _ _).drew
    clear hwd
    replace hB := hB.trans (hbd.mono hB.size)
    replace bxx := bxx.below hbd
    replace bkR := bkR.below hbd
    replace oL := oL.belowS rInt_ok hbd
    replace oH := oH.belowS rInt_ok hbd
    replace bkY := bkY.below hbd
    clear hbd
    clear hca3 hfh yc0 yc1 ky_0 ky_1 ky_2
    obtain ⟨u2, hu2, _, _⟩ := oH.cellI hjn
    have hfh := oH.frozenI
    have hgl3 : gH < we.heap.size := by have := HLT.out gH (by simp); have := bkY.lt; omega
    have hc4 : Chg [gH] we (we.setCell ⟨gH, j, none⟩ (.int .i64 (y.fClass))) := (Chg.refl _ _).setCell (by simp) _ _
    have oH4 := oH.setI j (x := y.fClass) cI
    have oL4 := oL.chg rInt_ok hc4 (fun k hk hk' => by simp only [List.mem_singleton] at hk hk'; omega)
    clear oL oH
    have oL := oL4; have oH := oH4
    clear oL4 oH4
    have hB4 := hB.trans (hc4.toBelow hB.size (fun k hk => by simp only [List.mem_singleton] at hk; have := GE.out gH (by simp); omega))
    have bxx4 := bxx.chg hc4 (fun hk => by simp only [List.mem_singleton] at hk; have := GE.out gH (by simp); have := HLT.out gH (by simp); omega)
    have bkR4 := bkR.chg hc4 (fun hk => by simp only [List.mem_singleton] at hk; have := GE.out gH (by simp); have := HLT.out gH (by simp); omega)
    have bkY4 := bkY.chg hc4 (fun hk => by simp only [List.mem_singleton] at hk; have := GE.out gH (by simp); have := HLT.out gH (by simp); omega)
    clear hB bxx bkR bkY
    have hB := hB4; have bxx := bxx4; have bkR := bkR4; have bkY := bkY4
    clear hB4 bxx4 bkR4 bkY4
    have yc0 := bkY.bx 0 _ rfl
    have yc1 := bkY.bx 1 _ rfl
    have HN : Hid (narrow x y = ⟨(x.fLow.set j (a)), (x.fHigh.set j (y.fClass))⟩) := by show narrow x y = _; rw [narrow, HLO.out, HHI.out]; simp [hex]
    go_wp2_with fail
    refine (sIsValidBox_c _ ⟨(x.fLow.set j (a)), (x.fHigh.set j (y.fClass))⟩ _ ((rBox_ok NB).toRep (rBox_own.2 ⟨_, _, _, _, _, _, [gL], [gH], rfl, rfl, oL, oH⟩))).mono ?_
    rintro e w5 ⟨rfl, hb5⟩
    replace hB := hB.trans (hb5.mono hB.size)
    replace bxx := bxx.below hb5
    replace bkR := bkR.below hb5
    replace bkY := bkY.below hb5
    replace oL := oL.belowS rInt_ok hb5
    replace oH := oH.belowS rInt_ok hb5
    clear hb5 yc0 yc1
    have HNV : Hid (validBox (narrow x y) = validBox ⟨(x.fLow.set j (a)), (x.fHigh.set j (y.fClass))⟩) := by show _ = _; rw [HN.out]
    cases hw : validBox ⟨(x.fLow.set j (a)), (x.fHigh.set j (y.fClass))⟩
    ·have kx_0 := bxx 0 _ rfl
     have kx_1 := bxx 1 _ rfl
     go_wp2_with fail
     refine (sCopyBox_c _ x _ ((rBox_ok NB).keep rx (cells_below hB))).mono ?_
     rintro e w6 ⟨cs6, fp6, rfl, o6, fr6, hb6⟩
     replace hB := hB.trans (hb6.mono hB.size)
     replace bkR := bkR.below hb6
     have ge6 : ∀ k ∈ fp6, w.heap.size + 1 + 1 + 1 ≤ k := fun k hk => by have := fr6.ge k hk; have := bkY.lt; have := GE.out gL (by simp); have := HLT.out gL (by simp); omega
     have nd6 := fr6.nd
     obtain ⟨A3, n3, c3, A4, n4, c4, f3, f4, rfl, rfl, oL6, oH6⟩ := rBox_own.1 o6
     clear hb6 fr6 kx_0 kx_1
     have rf0 := bkR.frozen 0
     have rf1 := bkR.frozen 1
     have rc0 := bkR.bx 0 _ rfl
     have rc1 := bkR.bx 1 _ rfl
     have rl := bkR.lt
     go_wp2
     have bk3 := (bkR.set 0 (.slice A3 n3 c3)).set 1 (.slice A4 n4 c4)
     have q0 := bk3.bx 0 _ rfl
     have q1 := bk3.bx 1 _ rfl
     have hf := apply_fin oL6 oH6 nd6 ge6 hB
     refine bodyPost_ret (v := .tuple #[.agg #[.slice A3 n3 c3, .slice A4 n4 c4], .bool false]) (by simp [results, Try.results59, go_sem, q0, q1]) rfl ?_
     have he : applyObs x y = (x, false) := by simp only [applyObs, HV.out, HL.out, HG.out, HNV.out, hw]; simp
     rw [he]
     exact ⟨_, _, rfl, hf.1, hf.2.1, hf.2.2⟩
    ·have rf0 := bkR.frozen 0
     have rf1 := bkR.frozen 1
     have rc0 := bkR.bx 0 _ rfl
     have rc1 := bkR.bx 1 _ rfl
     have rl := bkR.lt
     have yc0 := bkY.bx 0 _ rfl
     have yc1 := bkY.bx 1 _ rfl
     go_wp2
     have bk3 := (bkR.set 0 (.slice (some ⟨gL, 0, none⟩) nxLow c1)).set 1 (.slice (some ⟨gH, 0, none⟩) nxLow c2)
     have q0 := bk3.bx 0 _ rfl
     have q1 := bk3.bx 1 _ rfl
     have hf := apply_fin oL oH ND.out GE.out hB
     refine bodyPost_ret (v := .tuple #[.agg #[.slice (some ⟨gL, 0, none⟩) nxLow c1, .slice (some ⟨gH, 0, none⟩) nxLow c2], .bool true]) (by simp [results, Try.results59, go_sem, q0, q1]) rfl ?_
     have he : applyObs x y = (narrow x y, true) := by simp only [applyObs, HV.out, HL.out, HG.out, HNV.out, hw]; simp
     rw [he, HN.out]
     exact ⟨_, _, rfl, hf.1, hf.2.1, hf.2.2⟩
   ·have dmn : decide (y.fClass < a3) = false := by simpa using hmn
    have HHI : Hid (x.fHigh.set y.fMask.toNat (min ((x.fHigh[y.fMask.toNat]?).getD 0) y.fClass) = x.fHigh.set j (a3)) := by show _ = _; rw [HJ.out]; simp only [Int.toNat_natCast, ha2.out, Option.getD_some]; congr 1; omega
    go_wp2_with fail
    clear hc4 hu1 hfg
    obtain ⟨w4, hw4⟩ : ∃ w4, w4 = wd.setCell ⟨gL, j, none⟩ (.int .i64 (a)) := ⟨_, rfl⟩
    rw [← hw4]
    rw [← hw4] at hB bxx bxy bkR bkY oL oH ky_0 ky_1 ky_2 yc0 yc1 hca3 hfh
    clear hw4
    go_still_tail 14, (by kernel_rfl)
    obtain ⟨we, hwd⟩ : ∃ W : World, W = World.drew w4 := ⟨_, rfl⟩
    change wpList _ _ _ _ _ (World.drew w4)
    rw [← hwd]
    have hbd : Below (World.heap w4).size w4 we := by rw [hwd]; exact (Below.refl _ _).drew
    clear hwd
    replace hB := hB.trans (hbd.mono hB.size)
    replace bxx := bxx.below hbd
    replace bkR := bkR.below hbd
    replace oL := oL.belowS rInt_ok hbd
    replace oH := oH.belowS rInt_ok hbd
    replace bkY := bkY.below hbd
    clear hbd
    clear hca3 hfh yc0 yc1 ky_0 ky_1 ky_2
    obtain ⟨u2, hu2, _, _⟩ := oH.cellI hjn
    have hfh := oH.frozenI
    have hgl3 : gH < we.heap.size := by have := HLT.out gH (by simp); have := bkY.lt; omega
    have hc4 : Chg [gH] we (we.setCell ⟨gH, j, none⟩ (.int .i64 (a3))) := (Chg.refl _ _).setCell (by simp) _ _
    have oH4 := oH.setI j (x := a3) hIa2
    have oL4 := oL.chg rInt_ok hc4 (fun k hk hk' => by simp only [List.mem_singleton] at hk hk'; omega)
    clear oL oH
    have oL := oL4; have oH := oH4
    clear oL4 oH4
    have hB4 := hB.trans (hc4.toBelow hB.size (fun k hk => by simp only [List.mem_singleton] at hk; have := GE.out gH (by simp); omega))
    have bxx4 := bxx.chg hc4 (fun hk => by simp only [List.mem_singleton] at hk; have := GE.out gH (by simp); have := HLT.out gH (by simp); omega)
    have bkR4 := bkR.chg hc4 (fun hk => by simp only [List.mem_singleton] at hk; have := GE.out gH (by simp); have := HLT.out gH (by simp); omega)
    have bkY4 := bkY.chg hc4 (fun hk => by simp only [List.mem_singleton] at hk; have := GE.out gH (by simp); have := HLT.out gH (by simp); omega)
    clear hB bxx bkR bkY
    have hB := hB4; have bxx := bxx4; have bkR := bkR4; have bkY := bkY4
    clear hB4 bxx4 bkR4 bkY4
    have yc0 := bkY.bx 0 _ rfl
    have yc1 := bkY.bx 1 _ rfl
    have HN : Hid (narrow x y = ⟨(x.fLow.set j (a)), (x.fHigh.set j (a3))⟩) := by show narrow x y = _; rw [narrow, HLO.out, HHI.out]; simp [hex]
    go_wp2_with fail
    refine (sIsValidBox_c _ ⟨(x.fLow.set j (a)), (x.fHigh.set j (a3))⟩ _ ((rBox_ok NB).toRep (rBox_own.2 ⟨_, _, _, _, _, _, [gL], [gH], rfl, rfl, oL, oH⟩))).mono ?_
    rintro e w5 ⟨rfl, hb5⟩
    replace hB := hB.trans (hb5.mono hB.size)
    replace bxx := bxx.below hb5
    replace bkR := bkR.below hb5
    replace bkY := bkY.below hb5
    replace oL := oL.belowS rInt_ok hb5
    replace oH := oH.belowS rInt_ok hb5
    clear hb5 yc0 yc1
    have HNV : Hid (validBox (narrow x y) = validBox ⟨(x.fLow.set j (a)), (x.fHigh.set j (a3))⟩) := by show _ = _; rw [HN.out]
    cases hw : validBox ⟨(x.fLow.set j (a)), (x.fHigh.set j (a3))⟩
    ·have kx_0 := bxx 0 _ rfl
     have kx_1 := bxx 1 _ rfl
     go_wp2_with fail
     refine (sCopyBox_c _ x _ ((rBox_ok NB).keep rx (cells_below hB))).mono ?_
     rintro e w6 ⟨cs6, fp6, rfl, o6, fr6, hb6⟩
     replace hB := hB.trans (hb6.mono hB.size)
     replace bkR := bkR.below hb6
     have ge6 : ∀ k ∈ fp6, w.heap.size + 1 + 1 + 1 ≤ k := fun k hk => by have := fr6.ge k hk; have := bkY.lt; have := GE.out gL (by simp); have := HLT.out gL (by simp); omega
     have nd6 := fr6.nd
     obtain ⟨A3, n3, c3, A4, n4, c4, f3, f4, rfl, rfl, oL6, oH6⟩ := rBox_own.1 o6
     clear hb6 fr6 kx_0 kx_1
     have rf0 := bkR.frozen 0
     have rf1 := bkR.frozen 1
     have rc0 := bkR.bx 0 _ rfl
     have rc1 := bkR.bx 1 _ rfl
     have rl := bkR.lt
     go_wp2
     have bk3 := (bkR.set 0 (.slice A3 n3 c3)).set 1 (.slice A4 n4 c4)
     have q0 := bk3.bx 0 _ rfl
     have q1 := bk3.bx 1 _ rfl
     have hf := apply_fin oL6 oH6 nd6 ge6 hB
     refine bodyPost_ret (v := .tuple #[.agg #[.slice A3 n3 c3, .slice A4 n4 c4], .bool false]) (by simp [results, Try.results59, go_sem, q0, q1]) rfl ?_
     have he : applyObs x y = (x, false) := by simp only [applyObs, HV.out, HL.out, HG.out, HNV.out, hw]; simp
     rw [he]
     exact ⟨_, _, rfl, hf.1, hf.2.1, hf.2.2⟩
    ·have rf0 := bkR.frozen 0
     have rf1 := bkR.frozen 1
     have rc0 := bkR.bx 0 _ rfl
     have rc1 := bkR.bx 1 _ rfl
     have rl := bkR.lt
     have yc0 := bkY.bx 0 _ rfl
     have yc1 := bkY.bx 1 _ rfl
     go_wp2
     have bk3 := (bkR.set 0 (.slice (some ⟨gL, 0, none⟩) nxLow c1)).set 1 (.slice (some ⟨gH, 0, none⟩) nxLow c2)
     have q0 := bk3.bx 0 _ rfl
     have q1 := bk3.bx 1 _ rfl
     have hf := apply_fin oL oH ND.out GE.out hB
     refine bodyPost_ret (v := .tuple #[.agg #[.slice (some ⟨gL, 0, none⟩) nxLow c1, .slice (some ⟨gH, 0, none⟩) nxLow c2], .bool true]) (by simp [results, Try.results59, go_sem, q0, q1]) rfl ?_
     have he : applyObs x y = (narrow x y, true) := by simp only [applyObs, HV.out, HL.out, HG.out, HNV.out, hw]; simp
     rw [he, HN.out]
     exact ⟨_, _, rfl, hf.1, hf.2.1, hf.2.2⟩
set_option maxRecDepth 100000 in
set_option maxHeartbeats 12800000 in
theorem iApplyObservation_c (csx : List Value) (x : BoxD) (csy : List Value) (y : ObservationD) (w : World) (hx : (rBox NB).rep w csx x) (hy : (rObservation NB).rep w csy y) :
  Calls Try.prog 19 #[.agg csx.toArray, .agg csy.toArray] w (RetVB (rBox NB) (applyObs x y).1 (.bool (applyObs x y).2) w) := by
 have hnM := hy
 have rx := hx
 obtain ⟨AxLow, nxLow, cxLow, AxHigh, nxHigh, cxHigh, rfl, hxLow, hxHigh⟩ := rBox_rep.1 hx
 clear hx
 have ry := hy
 obtain ⟨rfl, hyMask, hyClass⟩ := rObservation_rep.1 hy
 clear hy
 have hB : Below w.heap.size w w := Below.refl _ _
 have hAx := (Below.refl (World.heap (w)).size (w)).alloc (Nat.le_refl _) (.cells #[.slice AxLow nxLow cxLow, .slice AxHigh nxHigh cxHigh] 26)
 replace hB := hB.trans (hAx.mono hB.size)
 have bxx := Bx.new (w) [.slice AxLow nxLow cxLow, .slice AxHigh nxHigh cxHigh] 26
 clear hAx
 have hAy := (Below.refl (World.heap ((w).alloc (.cells #[.slice AxLow nxLow cxLow, .slice AxHigh nxHigh cxHigh] 26))).size ((w).alloc (.cells #[.slice AxLow nxLow cxLow, .slice AxHigh nxHigh cxHigh] 26))).alloc (Nat.le_refl _) (.cells #[.int .i64 y.fMask, .int .i64 y.fClass, .bool y.fExact] 38)
 replace hB := hB.trans (hAy.mono hB.size)
 replace bxx := bxx.below hAy
 have bxy := Bx.new ((w).alloc (.cells #[.slice AxLow nxLow cxLow, .slice AxHigh nxHigh cxHigh] 26)) [.int .i64 y.fMask, .int .i64 y.fClass, .bool y.fExact] 38
 simp only [World.size_alloc] at bxy
 clear hAy
 have HL := Lib.hid hxLow.len
 have HH := Lib.hid hxHigh.len
 have hnL := hxLow.bound
 obtain ⟨wa, hwa⟩ : ∃ wa, wa = (w.alloc (.cells #[.slice AxLow nxLow cxLow, .slice AxHigh nxHigh cxHigh] 26)).alloc (.cells #[.int .i64 y.fMask, .int .i64 y.fClass, .bool y.fExact] 38) := ⟨_, rfl⟩
 rw [← hwa] at hB bxx bxy
 have hsa : wa.heap.size = w.heap.size + 1 + 1 := by rw [hwa]; simp
 have hBA := (Below.refl wa.heap.size wa).alloc (Nat.le_refl _) (.cells #[.slice none 0 0, .slice none 0 0] 26)
 have bkR := Bk.new wa [.slice none 0 0, .slice none 0 0] 26
 replace hB := hB.trans (hBA.mono hB.size)
 replace bxx := bxx.below hBA
 replace bxy := bxy.below hBA
 clear hBA
 rw [hwa] at hB bxx bxy bkR hsa
 have HSA := Lib.hid hsa; clear hsa
 simp only [World.size_alloc] at bkR
 clear hwa
 go_enter Try.func19, Try.ntmps19
 go_wp2_with fail
 refine (iCopyBox_c _ x _ ((rBox_ok NB).keep rx (cells_below hB))).mono ?_
 rintro e w1 ⟨cs1, fp1, rfl, o1, fr1, hb1⟩
 replace hB := hB.trans (hb1.mono hB.size)
 replace bxx := bxx.below hb1
 replace bxy := bxy.below hb1
 replace bkR := bkR.below hb1
 clear hb1
 have lt1 := (rBox_ok NB).lt o1
 have ge1 := fr1.ge
 have nd1 := fr1.nd
 simp only [World.size_alloc] at ge1
 obtain ⟨A1, n1, c1, A2, n2, c2, f1, f2, rfl, rfl, oL, oH⟩ := rBox_own.1 o1
 clear o1 fr1
 have hBY := (Below.refl w1.heap.size w1).alloc (Nat.le_refl _) (.cells #[.slice A1 n1 c1, .slice A2 n2 c2] 26)
 have bkY := Bk.new w1 [.slice A1 n1 c1, .slice A2 n2 c2] 26
 have HLT := Lib.hid lt1; clear lt1
 have GE := Lib.hid ge1; have ND := Lib.hid nd1; clear ge1 nd1
 replace hB := hB.trans (hBY.mono hB.size)
 replace bxx := bxx.below hBY
 replace bxy := bxy.below hBY
 replace bkR := bkR.below hBY
 replace oL := oL.belowS rInt_ok hBY
 replace oH := oH.belowS rInt_ok hBY
 clear hBY
 have kx_0 := bxx 0 _ rfl
 have kx_1 := bxx 1 _ rfl
 go_wp2_with fail
 refine (iIsValidBox_c _ x _ ((rBox_ok NB).keep rx (cells_below hB))).mono ?_
 rintro e w2 ⟨rfl, hb2⟩
 replace hB := hB.trans (hb2.mono hB.size)
 replace bxx := bxx.below hb2
 replace bxy := bxy.below hb2
 replace bkR := bkR.below hb2
 replace oL := oL.belowS rInt_ok hb2
 replace oH := oH.belowS rInt_ok hb2
 replace bkY := bkY.below hb2
 clear hb2 kx_0 kx_1
 cases hv : validBox x
 ·have rf0 := bkR.frozen 0
  have rf1 := bkR.frozen 1
  have rc0 := bkR.bx 0 _ rfl
  have rc1 := bkR.bx 1 _ rfl
  have rl := bkR.lt
  have yc0 := bkY.bx 0 _ rfl
  have yc1 := bkY.bx 1 _ rfl
  go_wp2
  have bk3 := (bkR.set 0 (.slice A1 n1 c1)).set 1 (.slice A2 n2 c2)
  have q0 := bk3.bx 0 _ rfl
  have q1 := bk3.bx 1 _ rfl
  have hf := apply_fin oL oH ND.out GE.out hB
  refine bodyPost_ret (v := .tuple #[.agg #[.slice A1 n1 c1, .slice A2 n2 c2], .bool false]) (by simp [results, Try.results19, go_sem, q0, q1]) rfl ?_
  have he : applyObs x y = (x, false) := by simp [applyObs, hv]
  rw [he]
  exact ⟨_, _, rfl, hf.1, hf.2.1, hf.2.2⟩

 have hlenH : nxLow = nxHigh := by rw [← HL.out, ← HH.out]; exact (validBox_parts hv).2.2.2.1.symm
 subst hlenH
 have hn1 : nxLow = n1 := by rw [← oL.len, ← HL.out]
 have hn2 : nxLow = n2 := by rw [← oH.len, ← HH.out]
 subst hn1; subst hn2
 have hpos : 0 < nxLow := by rw [← HL.out]; exact (validBox_parts hv).2.2.1
 have HV := Lib.hid hv; clear hv
 have kx_0 := bxx 0 _ rfl
 have kx_1 := bxx 1 _ rfl
 have ky_0 := bxy 0 _ rfl
 have ky_1 := bxy 1 _ rfl
 have ky_2 := bxy 2 _ rfl
 have m1 : IntKind.i64.wrap ((nxLow : Int) - 1) = (nxLow : Int) - 1 := IntWalk.i64_in _ (by omega)
 cases g1 : inR y.fMask 0 ((nxLow : Int) - 1)
 ·have rf0 := bkR.frozen 0
  have rf1 := bkR.frozen 1
  have rc0 := bkR.bx 0 _ rfl
  have rc1 := bkR.bx 1 _ rfl
  have rl := bkR.lt
  have yc0 := bkY.bx 0 _ rfl
  have yc1 := bkY.bx 1 _ rfl
  go_wp2_with (go_at_call 65; refine (within_c _ _ _ _).mono ?_; rintro e w' ⟨rfl, rfl⟩)
  have bk3 := (bkR.set 0 (.slice A1 nxLow c1)).set 1 (.slice A2 nxLow c2)
  have q0 := bk3.bx 0 _ rfl
  have q1 := bk3.bx 1 _ rfl
  have hf := apply_fin oL oH ND.out GE.out hB
  refine bodyPost_ret (v := .tuple #[.agg #[.slice A1 nxLow c1, .slice A2 nxLow c2], .bool false]) (by simp [results, Try.results19, go_sem, q0, q1]) rfl ?_
  have he : applyObs x y = (x, false) := by simp only [applyObs, HV.out, HL.out, g1]; simp
  rw [he]
  exact ⟨_, _, rfl, hf.1, hf.2.1, hf.2.2⟩

 have g1' := inR_t.1 g1
 obtain ⟨j, hj⟩ : ∃ j : Nat, y.fMask = j := ⟨y.fMask.toNat, by omega⟩
 have hjn : j < nxLow := by omega
 have HG := Lib.hid g1; have HJ := Lib.hid hj
 rw [hj] at ky_0 g1
 clear hj g1'
 obtain ⟨gL, rfl, hf1, hgl⟩ := oL.formI (by omega)
 obtain ⟨gH, rfl, hf2, hhl⟩ := oH.formI (by omega)
 subst hf1; subst hf2
 obtain ⟨a, hca, hIa, ha⟩ := oL.cellI hjn
 obtain ⟨a2, hca2, hIa2, ha2⟩ := oH.cellI hjn
 have hfg := oL.frozenI
 have hfh := oH.frozenI
 have yc0 := bkY.bx 0 _ rfl
 have yc1 := bkY.bx 1 _ rfl
 have hgh : gL ≠ gH := by have := ND.out; simp at this; exact this
 have cI := hyClass
 by_cases hmx : a < y.fClass
 ·have dmx : decide (a < y.fClass) = true := by simpa using hmx
  have HLO : Hid (x.fLow.set y.fMask.toNat (max ((x.fLow[y.fMask.toNat]?).getD 0) y.fClass) = x.fLow.set j (y.fClass)) := by show _ = _; rw [HJ.out]; simp only [Int.toNat_natCast, ha.out, Option.getD_some]; congr 1; omega
  go_wp2_with (go_at_call 65; refine (within_c _ _ _ _).mono ?_; rintro e w' ⟨rfl, rfl⟩)
  go_still_tail 14, (by kernel_rfl)
  obtain ⟨wd, hwd⟩ : ∃ W : World, W = World.drew w2 := ⟨_, rfl⟩
  change wpList _ _ _ _ _ (World.drew w2)
  rw [← hwd]
  have hbd : Below (World.heap w2).size w2 wd := by rw [hwd]; exact (Below.refl _ _).drew
  clear hwd
  replace hB := hB.trans (hbd.mono hB.size)
  replace bxx := bxx.below hbd
  replace bxy := bxy.below hbd
  replace bkR := bkR.below hbd
  replace oL := oL.belowS rInt_ok hbd
  replace oH := oH.belowS rInt_ok hbd
  replace bkY := bkY.below hbd
  clear hbd kx_0 kx_1 ky_0 ky_1 ky_2
  clear hca hca2 hfg hfh yc0 yc1
  obtain ⟨u1, hu1, _, _⟩ := oL.cellI hjn
  have hfg := oL.frozenI
  have hgl2 : gL < wd.heap.size := by have := HLT.out gL (by simp); have := bkY.lt; omega
  have hc4 : Chg [gL] wd (wd.setCell ⟨gL, j, none⟩ (.int .i64 (y.fClass))) := (Chg.refl _ _).setCell (by simp) _ _
  have oL4 := oL.setI j (x := y.fClass) cI
  have oH4 := oH.chg rInt_ok hc4 (fun k hk hk' => by simp only [List.mem_singleton] at hk hk'; omega)
  clear oL oH
  have oL := oL4; have oH := oH4
  clear oL4 oH4
  have hB4 := hB.trans (hc4.toBelow hB.size (fun k hk => by simp only [List.mem_singleton] at hk; have := GE.out gL (by simp); omega))
  have bxx4 := bxx.chg hc4 (fun hk => by simp only [List.mem_singleton] at hk; have := GE.out gL (by simp); have := HLT.out gL (by simp); omega)
  have bxy4 := bxy.chg hc4 (fun hk => by simp only [List.mem_singleton] at hk; have := GE.out gL (by simp); have := HLT.out gL (by simp); omega)
  have bkR4 := bkR.chg hc4 (fun hk => by simp only [List.mem_singleton] at hk; have := GE.out gL (by simp); have := HLT.out gL (by simp); omega)
  have bkY4 := bkY.chg hc4 (fun hk => by simp only [List.mem_singleton] at hk; have := GE.out gL (by simp); have := HLT.out gL (by simp); omega)
  clear hB bxx bxy bkR bkY
  have hB := hB4; have bxx := bxx4; have bxy := bxy4; have bkR := bkR4; have bkY := bkY4
  clear hB4 bxx4 bxy4 bkR4 bkY4
  have ky_0 := bxy 0 _ rfl
  have ky_1 := bxy 1 _ rfl
  have ky_2 := bxy 2 _ rfl
  rw [HJ.out] at ky_0
  cases hex : y.fExact
  ·rw [hex] at ky_2
   have yc0 := bkY.bx 0 _ rfl
   have yc1 := bkY.bx 1 _ rfl
   have HN : Hid (narrow x y = ⟨(x.fLow.set j (y.fClass)), x.fHigh⟩) := by show narrow x y = _; rw [narrow, HLO.out, hex]; rfl
   go_wp2_with fail
   refine (iIsValidBox_c _ ⟨(x.fLow.set j (y.fClass)), x.fHigh⟩ _ ((rBox_ok NB).toRep (rBox_own.2 ⟨_, _, _, _, _, _, [gL], [gH], rfl, rfl, oL, oH⟩))).mono ?_
   rintro e w5 ⟨rfl, hb5⟩
   replace hB := hB.trans (hb5.mono hB.size)
   replace bxx := bxx.below hb5
   replace bkR := bkR.below hb5
   replace bkY := bkY.below hb5
   replace oL := oL.belowS rInt_ok hb5
   replace oH := oH.belowS rInt_ok hb5
   clear hb5 yc0 yc1
   have HNV : Hid (validBox (narrow x y) = validBox ⟨(x.fLow.set j (y.fClass)), x.fHigh⟩) := by show _ = _; rw [HN.out]
   cases hw : validBox ⟨(x.fLow.set j (y.fClass)), x.fHigh⟩
   ·have kx_0 := bxx 0 _ rfl
    have kx_1 := bxx 1 _ rfl
    go_wp2_with fail
    refine (iCopyBox_c _ x _ ((rBox_ok NB).keep rx (cells_below hB))).mono ?_
    rintro e w6 ⟨cs6, fp6, rfl, o6, fr6, hb6⟩
    replace hB := hB.trans (hb6.mono hB.size)
    replace bkR := bkR.below hb6
    have ge6 : ∀ k ∈ fp6, w.heap.size + 1 + 1 + 1 ≤ k := fun k hk => by have := fr6.ge k hk; have := bkY.lt; have := GE.out gL (by simp); have := HLT.out gL (by simp); omega
    have nd6 := fr6.nd
    obtain ⟨A3, n3, c3, A4, n4, c4, f3, f4, rfl, rfl, oL6, oH6⟩ := rBox_own.1 o6
    clear hb6 fr6 kx_0 kx_1
    have rf0 := bkR.frozen 0
    have rf1 := bkR.frozen 1
    have rc0 := bkR.bx 0 _ rfl
    have rc1 := bkR.bx 1 _ rfl
    have rl := bkR.lt
    go_wp2
    have bk3 := (bkR.set 0 (.slice A3 n3 c3)).set 1 (.slice A4 n4 c4)
    have q0 := bk3.bx 0 _ rfl
    have q1 := bk3.bx 1 _ rfl
    have hf := apply_fin oL6 oH6 nd6 ge6 hB
    refine bodyPost_ret (v := .tuple #[.agg #[.slice A3 n3 c3, .slice A4 n4 c4], .bool false]) (by simp [results, Try.results19, go_sem, q0, q1]) rfl ?_
    have he : applyObs x y = (x, false) := by simp only [applyObs, HV.out, HL.out, HG.out, HNV.out, hw]; simp
    rw [he]
    exact ⟨_, _, rfl, hf.1, hf.2.1, hf.2.2⟩
   ·have rf0 := bkR.frozen 0
    have rf1 := bkR.frozen 1
    have rc0 := bkR.bx 0 _ rfl
    have rc1 := bkR.bx 1 _ rfl
    have rl := bkR.lt
    have yc0 := bkY.bx 0 _ rfl
    have yc1 := bkY.bx 1 _ rfl
    go_wp2
    have bk3 := (bkR.set 0 (.slice (some ⟨gL, 0, none⟩) nxLow c1)).set 1 (.slice (some ⟨gH, 0, none⟩) nxLow c2)
    have q0 := bk3.bx 0 _ rfl
    have q1 := bk3.bx 1 _ rfl
    have hf := apply_fin oL oH ND.out GE.out hB
    refine bodyPost_ret (v := .tuple #[.agg #[.slice (some ⟨gL, 0, none⟩) nxLow c1, .slice (some ⟨gH, 0, none⟩) nxLow c2], .bool true]) (by simp [results, Try.results19, go_sem, q0, q1]) rfl ?_
    have he : applyObs x y = (narrow x y, true) := by simp only [applyObs, HV.out, HL.out, HG.out, HNV.out, hw]; simp
    rw [he, HN.out]
    exact ⟨_, _, rfl, hf.1, hf.2.1, hf.2.2⟩
  ·rw [hex] at ky_2
   obtain ⟨a3, hca3, hIa3, ha3⟩ := oH.cellI hjn
   obtain rfl : a3 = a2 := by have := ha3.out; rw [ha2.out] at this; injection this with this; exact this.symm
   have hfh := oH.frozenI
   have yc0 := bkY.bx 0 _ rfl
   have yc1 := bkY.bx 1 _ rfl
   by_cases hmn : y.fClass < a3
   ·have dmn : decide (y.fClass < a3) = true := by simpa using hmn
    have HHI : Hid (x.fHigh.set y.fMask.toNat (min ((x.fHigh[y.fMask.toNat]?).getD 0) y.fClass) = x.fHigh.set j (y.fClass)) := by show _ = _; rw [HJ.out]; simp only [Int.toNat_natCast, ha2.out, Option.getD_some]; congr 1; omega
    go_wp2_with fail
    clear hc4 hu1 hfg
    obtain ⟨w4, hw4⟩ : ∃ w4, w4 = wd.setCell ⟨gL, j, none⟩ (.int .i64 (y.fClass)) := ⟨_, rfl⟩
    rw [← hw4]
    rw [← hw4] at hB bxx bxy bkR bkY oL oH ky_0 ky_1 ky_2 yc0 yc1 hca3 hfh
    clear hw4
    go_still_tail 14, (by kernel_rfl)
    obtain ⟨we, hwd⟩ : ∃ W : World, W = World.drew w4 := ⟨_, rfl⟩
    change wpList _ _ _ _ _ (World.drew w4)
    rw [← hwd]
    have hbd : Below (World.heap w4).size w4 we := by rw [hwd]; exact (Below.refl _ _).drew
    clear hwd
    replace hB := hB.trans (hbd.mono hB.size)
    replace bxx := bxx.below hbd
    replace bkR := bkR.below hbd
    replace oL := oL.belowS rInt_ok hbd
    replace oH := oH.belowS rInt_ok hbd
    replace bkY := bkY.below hbd
    clear hbd
    clear hca3 hfh yc0 yc1 ky_0 ky_1 ky_2
    obtain ⟨u2, hu2, _, _⟩ := oH.cellI hjn
    have hfh := oH.frozenI
    have hgl3 : gH < we.heap.size := by have := HLT.out gH (by simp); have := bkY.lt; omega
    have hc4 : Chg [gH] we (we.setCell ⟨gH, j, none⟩ (.int .i64 (y.fClass))) := (Chg.refl _ _).setCell (by simp) _ _
    have oH4 := oH.setI j (x := y.fClass) cI
    have oL4 := oL.chg rInt_ok hc4 (fun k hk hk' => by simp only [List.mem_singleton] at hk hk'; omega)
    clear oL oH
    have oL := oL4; have oH := oH4
    clear oL4 oH4
    have hB4 := hB.trans (hc4.toBelow hB.size (fun k hk => by simp only [List.mem_singleton] at hk; have := GE.out gH (by simp); omega))
    have bxx4 := bxx.chg hc4 (fun hk => by simp only [List.mem_singleton] at hk; have := GE.out gH (by simp); have := HLT.out gH (by simp); omega)
    have bkR4 := bkR.chg hc4 (fun hk => by simp only [List.mem_singleton] at hk; have := GE.out gH (by simp); have := HLT.out gH (by simp); omega)
    have bkY4 := bkY.chg hc4 (fun hk => by simp only [List.mem_singleton] at hk; have := GE.out gH (by simp); have := HLT.out gH (by simp); omega)
    clear hB bxx bkR bkY
    have hB := hB4; have bxx := bxx4; have bkR := bkR4; have bkY := bkY4
    clear hB4 bxx4 bkR4 bkY4
    have yc0 := bkY.bx 0 _ rfl
    have yc1 := bkY.bx 1 _ rfl
    have HN : Hid (narrow x y = ⟨(x.fLow.set j (y.fClass)), (x.fHigh.set j (y.fClass))⟩) := by show narrow x y = _; rw [narrow, HLO.out, HHI.out]; simp [hex]
    go_wp2_with fail
    refine (iIsValidBox_c _ ⟨(x.fLow.set j (y.fClass)), (x.fHigh.set j (y.fClass))⟩ _ ((rBox_ok NB).toRep (rBox_own.2 ⟨_, _, _, _, _, _, [gL], [gH], rfl, rfl, oL, oH⟩))).mono ?_
    rintro e w5 ⟨rfl, hb5⟩
    replace hB := hB.trans (hb5.mono hB.size)
    replace bxx := bxx.below hb5
    replace bkR := bkR.below hb5
    replace bkY := bkY.below hb5
    replace oL := oL.belowS rInt_ok hb5
    replace oH := oH.belowS rInt_ok hb5
    clear hb5 yc0 yc1
    have HNV : Hid (validBox (narrow x y) = validBox ⟨(x.fLow.set j (y.fClass)), (x.fHigh.set j (y.fClass))⟩) := by show _ = _; rw [HN.out]
    cases hw : validBox ⟨(x.fLow.set j (y.fClass)), (x.fHigh.set j (y.fClass))⟩
    ·have kx_0 := bxx 0 _ rfl
     have kx_1 := bxx 1 _ rfl
     go_wp2_with fail
     refine (iCopyBox_c _ x _ ((rBox_ok NB).keep rx (cells_below hB))).mono ?_
     rintro e w6 ⟨cs6, fp6, rfl, o6, fr6, hb6⟩
     replace hB := hB.trans (hb6.mono hB.size)
     replace bkR := bkR.below hb6
     have ge6 : ∀ k ∈ fp6, w.heap.size + 1 + 1 + 1 ≤ k := fun k hk => by have := fr6.ge k hk; have := bkY.lt; have := GE.out gL (by simp); have := HLT.out gL (by simp); omega
     have nd6 := fr6.nd
     obtain ⟨A3, n3, c3, A4, n4, c4, f3, f4, rfl, rfl, oL6, oH6⟩ := rBox_own.1 o6
     clear hb6 fr6 kx_0 kx_1
     have rf0 := bkR.frozen 0
     have rf1 := bkR.frozen 1
     have rc0 := bkR.bx 0 _ rfl
     have rc1 := bkR.bx 1 _ rfl
     have rl := bkR.lt
     go_wp2
     have bk3 := (bkR.set 0 (.slice A3 n3 c3)).set 1 (.slice A4 n4 c4)
     have q0 := bk3.bx 0 _ rfl
     have q1 := bk3.bx 1 _ rfl
     have hf := apply_fin oL6 oH6 nd6 ge6 hB
     refine bodyPost_ret (v := .tuple #[.agg #[.slice A3 n3 c3, .slice A4 n4 c4], .bool false]) (by simp [results, Try.results19, go_sem, q0, q1]) rfl ?_
     have he : applyObs x y = (x, false) := by simp only [applyObs, HV.out, HL.out, HG.out, HNV.out, hw]; simp
     rw [he]
     exact ⟨_, _, rfl, hf.1, hf.2.1, hf.2.2⟩
    ·have rf0 := bkR.frozen 0
     have rf1 := bkR.frozen 1
     have rc0 := bkR.bx 0 _ rfl
     have rc1 := bkR.bx 1 _ rfl
     have rl := bkR.lt
     have yc0 := bkY.bx 0 _ rfl
     have yc1 := bkY.bx 1 _ rfl
     go_wp2
     have bk3 := (bkR.set 0 (.slice (some ⟨gL, 0, none⟩) nxLow c1)).set 1 (.slice (some ⟨gH, 0, none⟩) nxLow c2)
     have q0 := bk3.bx 0 _ rfl
     have q1 := bk3.bx 1 _ rfl
     have hf := apply_fin oL oH ND.out GE.out hB
     refine bodyPost_ret (v := .tuple #[.agg #[.slice (some ⟨gL, 0, none⟩) nxLow c1, .slice (some ⟨gH, 0, none⟩) nxLow c2], .bool true]) (by simp [results, Try.results19, go_sem, q0, q1]) rfl ?_
     have he : applyObs x y = (narrow x y, true) := by simp only [applyObs, HV.out, HL.out, HG.out, HNV.out, hw]; simp
     rw [he, HN.out]
     exact ⟨_, _, rfl, hf.1, hf.2.1, hf.2.2⟩
   ·have dmn : decide (y.fClass < a3) = false := by simpa using hmn
    have HHI : Hid (x.fHigh.set y.fMask.toNat (min ((x.fHigh[y.fMask.toNat]?).getD 0) y.fClass) = x.fHigh.set j (a3)) := by show _ = _; rw [HJ.out]; simp only [Int.toNat_natCast, ha2.out, Option.getD_some]; congr 1; omega
    go_wp2_with fail
    clear hc4 hu1 hfg
    obtain ⟨w4, hw4⟩ : ∃ w4, w4 = wd.setCell ⟨gL, j, none⟩ (.int .i64 (y.fClass)) := ⟨_, rfl⟩
    rw [← hw4]
    rw [← hw4] at hB bxx bxy bkR bkY oL oH ky_0 ky_1 ky_2 yc0 yc1 hca3 hfh
    clear hw4
    go_still_tail 14, (by kernel_rfl)
    obtain ⟨we, hwd⟩ : ∃ W : World, W = World.drew w4 := ⟨_, rfl⟩
    change wpList _ _ _ _ _ (World.drew w4)
    rw [← hwd]
    have hbd : Below (World.heap w4).size w4 we := by rw [hwd]; exact (Below.refl _ _).drew
    clear hwd
    replace hB := hB.trans (hbd.mono hB.size)
    replace bxx := bxx.below hbd
    replace bkR := bkR.below hbd
    replace oL := oL.belowS rInt_ok hbd
    replace oH := oH.belowS rInt_ok hbd
    replace bkY := bkY.below hbd
    clear hbd
    clear hca3 hfh yc0 yc1 ky_0 ky_1 ky_2
    obtain ⟨u2, hu2, _, _⟩ := oH.cellI hjn
    have hfh := oH.frozenI
    have hgl3 : gH < we.heap.size := by have := HLT.out gH (by simp); have := bkY.lt; omega
    have hc4 : Chg [gH] we (we.setCell ⟨gH, j, none⟩ (.int .i64 (a3))) := (Chg.refl _ _).setCell (by simp) _ _
    have oH4 := oH.setI j (x := a3) hIa2
    have oL4 := oL.chg rInt_ok hc4 (fun k hk hk' => by simp only [List.mem_singleton] at hk hk'; omega)
    clear oL oH
    have oL := oL4; have oH := oH4
    clear oL4 oH4
    have hB4 := hB.trans (hc4.toBelow hB.size (fun k hk => by simp only [List.mem_singleton] at hk; have := GE.out gH (by simp); omega))
    have bxx4 := bxx.chg hc4 (fun hk => by simp only [List.mem_singleton] at hk; have := GE.out gH (by simp); have := HLT.out gH (by simp); omega)
    have bkR4 := bkR.chg hc4 (fun hk => by simp only [List.mem_singleton] at hk; have := GE.out gH (by simp); have := HLT.out gH (by simp); omega)
    have bkY4 := bkY.chg hc4 (fun hk => by simp only [List.mem_singleton] at hk; have := GE.out gH (by simp); have := HLT.out gH (by simp); omega)
    clear hB bxx bkR bkY
    have hB := hB4; have bxx := bxx4; have bkR := bkR4; have bkY := bkY4
    clear hB4 bxx4 bkR4 bkY4
    have yc0 := bkY.bx 0 _ rfl
    have yc1 := bkY.bx 1 _ rfl
    have HN : Hid (narrow x y = ⟨(x.fLow.set j (y.fClass)), (x.fHigh.set j (a3))⟩) := by show narrow x y = _; rw [narrow, HLO.out, HHI.out]; simp [hex]
    go_wp2_with fail
    refine (iIsValidBox_c _ ⟨(x.fLow.set j (y.fClass)), (x.fHigh.set j (a3))⟩ _ ((rBox_ok NB).toRep (rBox_own.2 ⟨_, _, _, _, _, _, [gL], [gH], rfl, rfl, oL, oH⟩))).mono ?_
    rintro e w5 ⟨rfl, hb5⟩
    replace hB := hB.trans (hb5.mono hB.size)
    replace bxx := bxx.below hb5
    replace bkR := bkR.below hb5
    replace bkY := bkY.below hb5
    replace oL := oL.belowS rInt_ok hb5
    replace oH := oH.belowS rInt_ok hb5
    clear hb5 yc0 yc1
    have HNV : Hid (validBox (narrow x y) = validBox ⟨(x.fLow.set j (y.fClass)), (x.fHigh.set j (a3))⟩) := by show _ = _; rw [HN.out]
    cases hw : validBox ⟨(x.fLow.set j (y.fClass)), (x.fHigh.set j (a3))⟩
    ·have kx_0 := bxx 0 _ rfl
     have kx_1 := bxx 1 _ rfl
     go_wp2_with fail
     refine (iCopyBox_c _ x _ ((rBox_ok NB).keep rx (cells_below hB))).mono ?_
     rintro e w6 ⟨cs6, fp6, rfl, o6, fr6, hb6⟩
     replace hB := hB.trans (hb6.mono hB.size)
     replace bkR := bkR.below hb6
     have ge6 : ∀ k ∈ fp6, w.heap.size + 1 + 1 + 1 ≤ k := fun k hk => by have := fr6.ge k hk; have := bkY.lt; have := GE.out gL (by simp); have := HLT.out gL (by simp); omega
     have nd6 := fr6.nd
     obtain ⟨A3, n3, c3, A4, n4, c4, f3, f4, rfl, rfl, oL6, oH6⟩ := rBox_own.1 o6
     clear hb6 fr6 kx_0 kx_1
     have rf0 := bkR.frozen 0
     have rf1 := bkR.frozen 1
     have rc0 := bkR.bx 0 _ rfl
     have rc1 := bkR.bx 1 _ rfl
     have rl := bkR.lt
     go_wp2
     have bk3 := (bkR.set 0 (.slice A3 n3 c3)).set 1 (.slice A4 n4 c4)
     have q0 := bk3.bx 0 _ rfl
     have q1 := bk3.bx 1 _ rfl
     have hf := apply_fin oL6 oH6 nd6 ge6 hB
     refine bodyPost_ret (v := .tuple #[.agg #[.slice A3 n3 c3, .slice A4 n4 c4], .bool false]) (by simp [results, Try.results19, go_sem, q0, q1]) rfl ?_
     have he : applyObs x y = (x, false) := by simp only [applyObs, HV.out, HL.out, HG.out, HNV.out, hw]; simp
     rw [he]
     exact ⟨_, _, rfl, hf.1, hf.2.1, hf.2.2⟩
    ·have rf0 := bkR.frozen 0
     have rf1 := bkR.frozen 1
     have rc0 := bkR.bx 0 _ rfl
     have rc1 := bkR.bx 1 _ rfl
     have rl := bkR.lt
     have yc0 := bkY.bx 0 _ rfl
     have yc1 := bkY.bx 1 _ rfl
     go_wp2
     have bk3 := (bkR.set 0 (.slice (some ⟨gL, 0, none⟩) nxLow c1)).set 1 (.slice (some ⟨gH, 0, none⟩) nxLow c2)
     have q0 := bk3.bx 0 _ rfl
     have q1 := bk3.bx 1 _ rfl
     have hf := apply_fin oL oH ND.out GE.out hB
     refine bodyPost_ret (v := .tuple #[.agg #[.slice (some ⟨gL, 0, none⟩) nxLow c1, .slice (some ⟨gH, 0, none⟩) nxLow c2], .bool true]) (by simp [results, Try.results19, go_sem, q0, q1]) rfl ?_
     have he : applyObs x y = (narrow x y, true) := by simp only [applyObs, HV.out, HL.out, HG.out, HNV.out, hw]; simp
     rw [he, HN.out]
     exact ⟨_, _, rfl, hf.1, hf.2.1, hf.2.2⟩
 ·have dmx : decide (a < y.fClass) = false := by simpa using hmx
  have HLO : Hid (x.fLow.set y.fMask.toNat (max ((x.fLow[y.fMask.toNat]?).getD 0) y.fClass) = x.fLow.set j (a)) := by show _ = _; rw [HJ.out]; simp only [Int.toNat_natCast, ha.out, Option.getD_some]; congr 1; omega
  go_wp2_with (go_at_call 65; refine (within_c _ _ _ _).mono ?_; rintro e w' ⟨rfl, rfl⟩)
  go_still_tail 14, (by kernel_rfl)
  obtain ⟨wd, hwd⟩ : ∃ W : World, W = World.drew w2 := ⟨_, rfl⟩
  change wpList _ _ _ _ _ (World.drew w2)
  rw [← hwd]
  have hbd : Below (World.heap w2).size w2 wd := by rw [hwd]; exact (Below.refl _ _).drew
  clear hwd
  replace hB := hB.trans (hbd.mono hB.size)
  replace bxx := bxx.below hbd
  replace bxy := bxy.below hbd
  replace bkR := bkR.below hbd
  replace oL := oL.belowS rInt_ok hbd
  replace oH := oH.belowS rInt_ok hbd
  replace bkY := bkY.below hbd
  clear hbd
  clear hca hca2 hfg hfh yc0 yc1
  obtain ⟨u1, hu1, _, _⟩ := oL.cellI hjn
  have hfg := oL.frozenI
  have hgl2 : gL < wd.heap.size := by have := HLT.out gL (by simp); have := bkY.lt; omega
  have hc4 : Chg [gL] wd (wd.setCell ⟨gL, j, none⟩ (.int .i64 (a))) := (Chg.refl _ _).setCell (by simp) _ _
  have oL4 := oL.setI j (x := a) hIa
  have oH4 := oH.chg rInt_ok hc4 (fun k hk hk' => by simp only [List.mem_singleton] at hk hk'; omega)
  clear oL oH
  have oL := oL4; have oH := oH4
  clear oL4 oH4
  have hB4 := hB.trans (hc4.toBelow hB.size (fun k hk => by simp only [List.mem_singleton] at hk; have := GE.out gL (by simp); omega))
  have bxx4 := bxx.chg hc4 (fun hk => by simp only [List.mem_singleton] at hk; have := GE.out gL (by simp); have := HLT.out gL (by simp); omega)
  have bxy4 := bxy.chg hc4 (fun hk => by simp only [List.mem_singleton] at hk; have := GE.out gL (by simp); have := HLT.out gL (by simp); omega)
  have bkR4 := bkR.chg hc4 (fun hk => by simp only [List.mem_singleton] at hk; have := GE.out gL (by simp); have := HLT.out gL (by simp); omega)
  have bkY4 := bkY.chg hc4 (fun hk => by simp only [List.mem_singleton] at hk; have := GE.out gL (by simp); have := HLT.out gL (by simp); omega)
  clear hB bxx bxy bkR bkY
  have hB := hB4; have bxx := bxx4; have bxy := bxy4; have bkR := bkR4; have bkY := bkY4
  clear hB4 bxx4 bxy4 bkR4 bkY4
  have ky_0 := bxy 0 _ rfl
  have ky_1 := bxy 1 _ rfl
  have ky_2 := bxy 2 _ rfl
  rw [HJ.out] at ky_0
  cases hex : y.fExact
  ·rw [hex] at ky_2
   have yc0 := bkY.bx 0 _ rfl
   have yc1 := bkY.bx 1 _ rfl
   have HN : Hid (narrow x y = ⟨(x.fLow.set j (a)), x.fHigh⟩) := by show narrow x y = _; rw [narrow, HLO.out, hex]; rfl
   go_wp2_with fail
   refine (iIsValidBox_c _ ⟨(x.fLow.set j (a)), x.fHigh⟩ _ ((rBox_ok NB).toRep (rBox_own.2 ⟨_, _, _, _, _, _, [gL], [gH], rfl, rfl, oL, oH⟩))).mono ?_
   rintro e w5 ⟨rfl, hb5⟩
   replace hB := hB.trans (hb5.mono hB.size)
   replace bxx := bxx.below hb5
   replace bkR := bkR.below hb5
   replace bkY := bkY.below hb5
   replace oL := oL.belowS rInt_ok hb5
   replace oH := oH.belowS rInt_ok hb5
   clear hb5 yc0 yc1
   have HNV : Hid (validBox (narrow x y) = validBox ⟨(x.fLow.set j (a)), x.fHigh⟩) := by show _ = _; rw [HN.out]
   cases hw : validBox ⟨(x.fLow.set j (a)), x.fHigh⟩
   ·have kx_0 := bxx 0 _ rfl
    have kx_1 := bxx 1 _ rfl
    go_wp2_with fail
    refine (iCopyBox_c _ x _ ((rBox_ok NB).keep rx (cells_below hB))).mono ?_
    rintro e w6 ⟨cs6, fp6, rfl, o6, fr6, hb6⟩
    replace hB := hB.trans (hb6.mono hB.size)
    replace bkR := bkR.below hb6
    have ge6 : ∀ k ∈ fp6, w.heap.size + 1 + 1 + 1 ≤ k := fun k hk => by have := fr6.ge k hk; have := bkY.lt; have := GE.out gL (by simp); have := HLT.out gL (by simp); omega
    have nd6 := fr6.nd
    obtain ⟨A3, n3, c3, A4, n4, c4, f3, f4, rfl, rfl, oL6, oH6⟩ := rBox_own.1 o6
    clear hb6 fr6 kx_0 kx_1
    have rf0 := bkR.frozen 0
    have rf1 := bkR.frozen 1
    have rc0 := bkR.bx 0 _ rfl
    have rc1 := bkR.bx 1 _ rfl
    have rl := bkR.lt
    go_wp2
    have bk3 := (bkR.set 0 (.slice A3 n3 c3)).set 1 (.slice A4 n4 c4)
    have q0 := bk3.bx 0 _ rfl
    have q1 := bk3.bx 1 _ rfl
    have hf := apply_fin oL6 oH6 nd6 ge6 hB
    refine bodyPost_ret (v := .tuple #[.agg #[.slice A3 n3 c3, .slice A4 n4 c4], .bool false]) (by simp [results, Try.results19, go_sem, q0, q1]) rfl ?_
    have he : applyObs x y = (x, false) := by simp only [applyObs, HV.out, HL.out, HG.out, HNV.out, hw]; simp
    rw [he]
    exact ⟨_, _, rfl, hf.1, hf.2.1, hf.2.2⟩
   ·have rf0 := bkR.frozen 0
    have rf1 := bkR.frozen 1
    have rc0 := bkR.bx 0 _ rfl
    have rc1 := bkR.bx 1 _ rfl
    have rl := bkR.lt
    have yc0 := bkY.bx 0 _ rfl
    have yc1 := bkY.bx 1 _ rfl
    go_wp2
    have bk3 := (bkR.set 0 (.slice (some ⟨gL, 0, none⟩) nxLow c1)).set 1 (.slice (some ⟨gH, 0, none⟩) nxLow c2)
    have q0 := bk3.bx 0 _ rfl
    have q1 := bk3.bx 1 _ rfl
    have hf := apply_fin oL oH ND.out GE.out hB
    refine bodyPost_ret (v := .tuple #[.agg #[.slice (some ⟨gL, 0, none⟩) nxLow c1, .slice (some ⟨gH, 0, none⟩) nxLow c2], .bool true]) (by simp [results, Try.results19, go_sem, q0, q1]) rfl ?_
    have he : applyObs x y = (narrow x y, true) := by simp only [applyObs, HV.out, HL.out, HG.out, HNV.out, hw]; simp
    rw [he, HN.out]
    exact ⟨_, _, rfl, hf.1, hf.2.1, hf.2.2⟩
  ·rw [hex] at ky_2
   obtain ⟨a3, hca3, hIa3, ha3⟩ := oH.cellI hjn
   obtain rfl : a3 = a2 := by have := ha3.out; rw [ha2.out] at this; injection this with this; exact this.symm
   have hfh := oH.frozenI
   have yc0 := bkY.bx 0 _ rfl
   have yc1 := bkY.bx 1 _ rfl
   by_cases hmn : y.fClass < a3
   ·have dmn : decide (y.fClass < a3) = true := by simpa using hmn
    have HHI : Hid (x.fHigh.set y.fMask.toNat (min ((x.fHigh[y.fMask.toNat]?).getD 0) y.fClass) = x.fHigh.set j (y.fClass)) := by show _ = _; rw [HJ.out]; simp only [Int.toNat_natCast, ha2.out, Option.getD_some]; congr 1; omega
    go_wp2_with fail
    clear hc4 hu1 hfg
    obtain ⟨w4, hw4⟩ : ∃ w4, w4 = wd.setCell ⟨gL, j, none⟩ (.int .i64 (a)) := ⟨_, rfl⟩
    rw [← hw4]
    rw [← hw4] at hB bxx bxy bkR bkY oL oH ky_0 ky_1 ky_2 yc0 yc1 hca3 hfh
    clear hw4
    go_still_tail 14, (by kernel_rfl)
    obtain ⟨we, hwd⟩ : ∃ W : World, W = World.drew w4 := ⟨_, rfl⟩
    change wpList _ _ _ _ _ (World.drew w4)
    rw [← hwd]
    have hbd : Below (World.heap w4).size w4 we := by rw [hwd]; exact (Below.refl _ _).drew
    clear hwd
    replace hB := hB.trans (hbd.mono hB.size)
    replace bxx := bxx.below hbd
    replace bkR := bkR.below hbd
    replace oL := oL.belowS rInt_ok hbd
    replace oH := oH.belowS rInt_ok hbd
    replace bkY := bkY.below hbd
    clear hbd
    clear hca3 hfh yc0 yc1 ky_0 ky_1 ky_2
    obtain ⟨u2, hu2, _, _⟩ := oH.cellI hjn
    have hfh := oH.frozenI
    have hgl3 : gH < we.heap.size := by have := HLT.out gH (by simp); have := bkY.lt; omega
    have hc4 : Chg [gH] we (we.setCell ⟨gH, j, none⟩ (.int .i64 (y.fClass))) := (Chg.refl _ _).setCell (by simp) _ _
    have oH4 := oH.setI j (x := y.fClass) cI
    have oL4 := oL.chg rInt_ok hc4 (fun k hk hk' => by simp only [List.mem_singleton] at hk hk'; omega)
    clear oL oH
    have oL := oL4; have oH := oH4
    clear oL4 oH4
    have hB4 := hB.trans (hc4.toBelow hB.size (fun k hk => by simp only [List.mem_singleton] at hk; have := GE.out gH (by simp); omega))
    have bxx4 := bxx.chg hc4 (fun hk => by simp only [List.mem_singleton] at hk; have := GE.out gH (by simp); have := HLT.out gH (by simp); omega)
    have bkR4 := bkR.chg hc4 (fun hk => by simp only [List.mem_singleton] at hk; have := GE.out gH (by simp); have := HLT.out gH (by simp); omega)
    have bkY4 := bkY.chg hc4 (fun hk => by simp only [List.mem_singleton] at hk; have := GE.out gH (by simp); have := HLT.out gH (by simp); omega)
    clear hB bxx bkR bkY
    have hB := hB4; have bxx := bxx4; have bkR := bkR4; have bkY := bkY4
    clear hB4 bxx4 bkR4 bkY4
    have yc0 := bkY.bx 0 _ rfl
    have yc1 := bkY.bx 1 _ rfl
    have HN : Hid (narrow x y = ⟨(x.fLow.set j (a)), (x.fHigh.set j (y.fClass))⟩) := by show narrow x y = _; rw [narrow, HLO.out, HHI.out]; simp [hex]
    go_wp2_with fail
    refine (iIsValidBox_c _ ⟨(x.fLow.set j (a)), (x.fHigh.set j (y.fClass))⟩ _ ((rBox_ok NB).toRep (rBox_own.2 ⟨_, _, _, _, _, _, [gL], [gH], rfl, rfl, oL, oH⟩))).mono ?_
    rintro e w5 ⟨rfl, hb5⟩
    replace hB := hB.trans (hb5.mono hB.size)
    replace bxx := bxx.below hb5
    replace bkR := bkR.below hb5
    replace bkY := bkY.below hb5
    replace oL := oL.belowS rInt_ok hb5
    replace oH := oH.belowS rInt_ok hb5
    clear hb5 yc0 yc1
    have HNV : Hid (validBox (narrow x y) = validBox ⟨(x.fLow.set j (a)), (x.fHigh.set j (y.fClass))⟩) := by show _ = _; rw [HN.out]
    cases hw : validBox ⟨(x.fLow.set j (a)), (x.fHigh.set j (y.fClass))⟩
    ·have kx_0 := bxx 0 _ rfl
     have kx_1 := bxx 1 _ rfl
     go_wp2_with fail
     refine (iCopyBox_c _ x _ ((rBox_ok NB).keep rx (cells_below hB))).mono ?_
     rintro e w6 ⟨cs6, fp6, rfl, o6, fr6, hb6⟩
     replace hB := hB.trans (hb6.mono hB.size)
     replace bkR := bkR.below hb6
     have ge6 : ∀ k ∈ fp6, w.heap.size + 1 + 1 + 1 ≤ k := fun k hk => by have := fr6.ge k hk; have := bkY.lt; have := GE.out gL (by simp); have := HLT.out gL (by simp); omega
     have nd6 := fr6.nd
     obtain ⟨A3, n3, c3, A4, n4, c4, f3, f4, rfl, rfl, oL6, oH6⟩ := rBox_own.1 o6
     clear hb6 fr6 kx_0 kx_1
     have rf0 := bkR.frozen 0
     have rf1 := bkR.frozen 1
     have rc0 := bkR.bx 0 _ rfl
     have rc1 := bkR.bx 1 _ rfl
     have rl := bkR.lt
     go_wp2
     have bk3 := (bkR.set 0 (.slice A3 n3 c3)).set 1 (.slice A4 n4 c4)
     have q0 := bk3.bx 0 _ rfl
     have q1 := bk3.bx 1 _ rfl
     have hf := apply_fin oL6 oH6 nd6 ge6 hB
     refine bodyPost_ret (v := .tuple #[.agg #[.slice A3 n3 c3, .slice A4 n4 c4], .bool false]) (by simp [results, Try.results19, go_sem, q0, q1]) rfl ?_
     have he : applyObs x y = (x, false) := by simp only [applyObs, HV.out, HL.out, HG.out, HNV.out, hw]; simp
     rw [he]
     exact ⟨_, _, rfl, hf.1, hf.2.1, hf.2.2⟩
    ·have rf0 := bkR.frozen 0
     have rf1 := bkR.frozen 1
     have rc0 := bkR.bx 0 _ rfl
     have rc1 := bkR.bx 1 _ rfl
     have rl := bkR.lt
     have yc0 := bkY.bx 0 _ rfl
     have yc1 := bkY.bx 1 _ rfl
     go_wp2
     have bk3 := (bkR.set 0 (.slice (some ⟨gL, 0, none⟩) nxLow c1)).set 1 (.slice (some ⟨gH, 0, none⟩) nxLow c2)
     have q0 := bk3.bx 0 _ rfl
     have q1 := bk3.bx 1 _ rfl
     have hf := apply_fin oL oH ND.out GE.out hB
     refine bodyPost_ret (v := .tuple #[.agg #[.slice (some ⟨gL, 0, none⟩) nxLow c1, .slice (some ⟨gH, 0, none⟩) nxLow c2], .bool true]) (by simp [results, Try.results19, go_sem, q0, q1]) rfl ?_
     have he : applyObs x y = (narrow x y, true) := by simp only [applyObs, HV.out, HL.out, HG.out, HNV.out, hw]; simp
     rw [he, HN.out]
     exact ⟨_, _, rfl, hf.1, hf.2.1, hf.2.2⟩
   ·have dmn : decide (y.fClass < a3) = false := by simpa using hmn
    have HHI : Hid (x.fHigh.set y.fMask.toNat (min ((x.fHigh[y.fMask.toNat]?).getD 0) y.fClass) = x.fHigh.set j (a3)) := by show _ = _; rw [HJ.out]; simp only [Int.toNat_natCast, ha2.out, Option.getD_some]; congr 1; omega
    go_wp2_with fail
    clear hc4 hu1 hfg
    obtain ⟨w4, hw4⟩ : ∃ w4, w4 = wd.setCell ⟨gL, j, none⟩ (.int .i64 (a)) := ⟨_, rfl⟩
    rw [← hw4]
    rw [← hw4] at hB bxx bxy bkR bkY oL oH ky_0 ky_1 ky_2 yc0 yc1 hca3 hfh
    clear hw4
    go_still_tail 14, (by kernel_rfl)
    obtain ⟨we, hwd⟩ : ∃ W : World, W = World.drew w4 := ⟨_, rfl⟩
    change wpList _ _ _ _ _ (World.drew w4)
    rw [← hwd]
    have hbd : Below (World.heap w4).size w4 we := by rw [hwd]; exact (Below.refl _ _).drew
    clear hwd
    replace hB := hB.trans (hbd.mono hB.size)
    replace bxx := bxx.below hbd
    replace bkR := bkR.below hbd
    replace oL := oL.belowS rInt_ok hbd
    replace oH := oH.belowS rInt_ok hbd
    replace bkY := bkY.below hbd
    clear hbd
    clear hca3 hfh yc0 yc1 ky_0 ky_1 ky_2
    obtain ⟨u2, hu2, _, _⟩ := oH.cellI hjn
    have hfh := oH.frozenI
    have hgl3 : gH < we.heap.size := by have := HLT.out gH (by simp); have := bkY.lt; omega
    have hc4 : Chg [gH] we (we.setCell ⟨gH, j, none⟩ (.int .i64 (a3))) := (Chg.refl _ _).setCell (by simp) _ _
    have oH4 := oH.setI j (x := a3) hIa2
    have oL4 := oL.chg rInt_ok hc4 (fun k hk hk' => by simp only [List.mem_singleton] at hk hk'; omega)
    clear oL oH
    have oL := oL4; have oH := oH4
    clear oL4 oH4
    have hB4 := hB.trans (hc4.toBelow hB.size (fun k hk => by simp only [List.mem_singleton] at hk; have := GE.out gH (by simp); omega))
    have bxx4 := bxx.chg hc4 (fun hk => by simp only [List.mem_singleton] at hk; have := GE.out gH (by simp); have := HLT.out gH (by simp); omega)
    have bkR4 := bkR.chg hc4 (fun hk => by simp only [List.mem_singleton] at hk; have := GE.out gH (by simp); have := HLT.out gH (by simp); omega)
    have bkY4 := bkY.chg hc4 (fun hk => by simp only [List.mem_singleton] at hk; have := GE.out gH (by simp); have := HLT.out gH (by simp); omega)
    clear hB bxx bkR bkY
    have hB := hB4; have bxx := bxx4; have bkR := bkR4; have bkY := bkY4
    clear hB4 bxx4 bkR4 bkY4
    have yc0 := bkY.bx 0 _ rfl
    have yc1 := bkY.bx 1 _ rfl
    have HN : Hid (narrow x y = ⟨(x.fLow.set j (a)), (x.fHigh.set j (a3))⟩) := by show narrow x y = _; rw [narrow, HLO.out, HHI.out]; simp [hex]
    go_wp2_with fail
    refine (iIsValidBox_c _ ⟨(x.fLow.set j (a)), (x.fHigh.set j (a3))⟩ _ ((rBox_ok NB).toRep (rBox_own.2 ⟨_, _, _, _, _, _, [gL], [gH], rfl, rfl, oL, oH⟩))).mono ?_
    rintro e w5 ⟨rfl, hb5⟩
    replace hB := hB.trans (hb5.mono hB.size)
    replace bxx := bxx.below hb5
    replace bkR := bkR.below hb5
    replace bkY := bkY.below hb5
    replace oL := oL.belowS rInt_ok hb5
    replace oH := oH.belowS rInt_ok hb5
    clear hb5 yc0 yc1
    have HNV : Hid (validBox (narrow x y) = validBox ⟨(x.fLow.set j (a)), (x.fHigh.set j (a3))⟩) := by show _ = _; rw [HN.out]
    cases hw : validBox ⟨(x.fLow.set j (a)), (x.fHigh.set j (a3))⟩
    ·have kx_0 := bxx 0 _ rfl
     have kx_1 := bxx 1 _ rfl
     go_wp2_with fail
     refine (iCopyBox_c _ x _ ((rBox_ok NB).keep rx (cells_below hB))).mono ?_
     rintro e w6 ⟨cs6, fp6, rfl, o6, fr6, hb6⟩
     replace hB := hB.trans (hb6.mono hB.size)
     replace bkR := bkR.below hb6
     have ge6 : ∀ k ∈ fp6, w.heap.size + 1 + 1 + 1 ≤ k := fun k hk => by have := fr6.ge k hk; have := bkY.lt; have := GE.out gL (by simp); have := HLT.out gL (by simp); omega
     have nd6 := fr6.nd
     obtain ⟨A3, n3, c3, A4, n4, c4, f3, f4, rfl, rfl, oL6, oH6⟩ := rBox_own.1 o6
     clear hb6 fr6 kx_0 kx_1
     have rf0 := bkR.frozen 0
     have rf1 := bkR.frozen 1
     have rc0 := bkR.bx 0 _ rfl
     have rc1 := bkR.bx 1 _ rfl
     have rl := bkR.lt
     go_wp2
     have bk3 := (bkR.set 0 (.slice A3 n3 c3)).set 1 (.slice A4 n4 c4)
     have q0 := bk3.bx 0 _ rfl
     have q1 := bk3.bx 1 _ rfl
     have hf := apply_fin oL6 oH6 nd6 ge6 hB
     refine bodyPost_ret (v := .tuple #[.agg #[.slice A3 n3 c3, .slice A4 n4 c4], .bool false]) (by simp [results, Try.results19, go_sem, q0, q1]) rfl ?_
     have he : applyObs x y = (x, false) := by simp only [applyObs, HV.out, HL.out, HG.out, HNV.out, hw]; simp
     rw [he]
     exact ⟨_, _, rfl, hf.1, hf.2.1, hf.2.2⟩
    ·have rf0 := bkR.frozen 0
     have rf1 := bkR.frozen 1
     have rc0 := bkR.bx 0 _ rfl
     have rc1 := bkR.bx 1 _ rfl
     have rl := bkR.lt
     have yc0 := bkY.bx 0 _ rfl
     have yc1 := bkY.bx 1 _ rfl
     go_wp2
     have bk3 := (bkR.set 0 (.slice (some ⟨gL, 0, none⟩) nxLow c1)).set 1 (.slice (some ⟨gH, 0, none⟩) nxLow c2)
     have q0 := bk3.bx 0 _ rfl
     have q1 := bk3.bx 1 _ rfl
     have hf := apply_fin oL oH ND.out GE.out hB
     refine bodyPost_ret (v := .tuple #[.agg #[.slice (some ⟨gL, 0, none⟩) nxLow c1, .slice (some ⟨gH, 0, none⟩) nxLow c2], .bool true]) (by simp [results, Try.results19, go_sem, q0, q1]) rfl ?_
     have he : applyObs x y = (narrow x y, true) := by simp only [applyObs, HV.out, HL.out, HG.out, HNV.out, hw]; simp
     rw [he, HN.out]
     exact ⟨_, _, rfl, hf.1, hf.2.1, hf.2.2⟩
end Go.Proofs.Ytkdajdafhjobbaa
