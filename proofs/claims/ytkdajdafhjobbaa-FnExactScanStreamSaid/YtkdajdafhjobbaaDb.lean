/-
  Db
-/
import Derived.Test.YtkdajdafhjobbaaKeep
import Derived.Test.YtkdajdafhjobbaaTab
namespace Go.Proofs.Ytkdajdafhjobbaa
open Go.RowKit
set_option linter.unusedVariables false
set_option linter.unusedSimpArgs false
theorem RS.eTable {M M' : Nat} {w : World} {A : Option Addr} {n cap : Nat} {l : List TableD} (h : RS M (rTable M') w A n cap l) {k : Nat} (hk : k < n) :
  ∃ b off x AR nR cR, A = some ⟨b, off, none⟩ ∧ w.cell? ⟨b, off + k * 3, none⟩ = some (.string x.fName) ∧ w.cell? ⟨b, off + k * 3 + 1, none⟩ = some (.int .i64 x.fArity) ∧ w.cell? ⟨b, off + k * 3 + 2, none⟩ = some (.slice AR nR cR) ∧ (rTable M').rep w [.string x.fName, .int .i64 x.fArity, .slice AR nR cR] x ∧ Hid (l[k]? = some x) := by
 obtain ⟨b, off, x, cs, e, hrep, hc, hx⟩ := h.at_ hk
 have hrep2 := hrep
 obtain ⟨AR, nR, cR, rfl, _⟩ := rTable_rep.1 hrep
 exact ⟨b, off, x, AR, nR, cR, e, hc 0 _ rfl, hc 1 _ rfl, hc 2 _ rfl, hrep2, hx⟩
/-- table i is above the one ahead of it -/
def dbAt (l : List TableD) (i : Nat) : Bool := match i with | 0 => true | j + 1 => match l[j]?, l[j + 1]? with | some a, some b => Op.bytesLess a.fName.toList b.fName.toList | _, _ => true
theorem dbAt_s {l : List TableD} {j : Nat} {a b : TableD} (ha : l[j]? = some a) (hb : l[j + 1]? = some b) : dbAt l (j + 1) = Op.bytesLess a.fName.toList b.fName.toList := by simp only [dbAt, ha, hb]
def validDb (d : DatabaseD) : Bool := d.fTables.all validTable && ((List.range d.fTables.length).all (dbAt d.fTables) && decide (d.fTables.length ≤ 6))
theorem validDb_t {d : DatabaseD} {k : Nat} {x : TableD} (hx : d.fTables[k]? = some x) (h : validTable x = false) : validDb d = false := by
 have : d.fTables.all validTable = false := by
  rw [Bool.eq_false_iff]; intro h2; rw [List.all_eq_true] at h2; rw [h2 x (mem_of_at hx)] at h; cases h
 simp [validDb, this]
theorem validDb_a {d : DatabaseD} {k : Nat} (hk : k < d.fTables.length) (h : dbAt d.fTables k = false) : validDb d = false := by
 simp [validDb, range_all_no hk h]
set_option maxRecDepth 100000 in
set_option maxHeartbeats 1600000 in
theorem sIsValidDatabase_c (csd : List Value) (d : DatabaseD) (w : World) (hd : (rDatabase NB).rep w csd d) :
  Calls Try.prog 137 #[.agg csd.toArray] w fun e w' => e = .returned (.bool (validDb d)) ∧ Below w.heap.size w w' := by
 have rd := hd
 obtain ⟨AdTables, ndTables, cdTables, rfl, hdTables⟩ := rDatabase_rep.1 hd
 clear hd
 have hB : Below w.heap.size w w := Below.refl _ _
 have hAd := (Below.refl (World.heap (w)).size (w)).alloc (Nat.le_refl _) (.cells #[.slice AdTables ndTables cdTables] 73)
 replace hB := hB.trans (hAd.mono hB.size)
 have bxd := Bx.new (w) [.slice AdTables ndTables cdTables] 73
 clear hAd
 have hn := hdTables.bound
 have HL := Lib.hid hdTables.len
 obtain ⟨wa, hwa⟩ : ∃ W, W = w.alloc (.cells #[.slice AdTables ndTables cdTables] 73) := ⟨_, rfl⟩
 rw [← hwa] at hB bxd
 go_enter Try.func137, Try.ntmps137
 go_upto_region 1 with fail
 rw [← hwa]
 clear hwa
 have kd_0 := bxd 0 _ rfl
 go_wp2
 go_loopw [3] (fun i wr => ∃ k : Nat, k ≤ ndTables ∧ i = .int .i64 k ∧ (d.fTables.take k).all validTable = true ∧ (List.range k).all (dbAt d.fTables) = true ∧ Below wa.heap.size wa wr) (fun i _ => ndTables - (intOf i).toNat)
 case atStart => exact ⟨0, Nat.zero_le _, rfl, rfl, rfl, Below.refl _ _⟩
 case round =>
  clear kd_0
  obtain ⟨k, hk, rfl, hall, hasc, hE⟩ := hrel
  have Hall := Lib.hid hall; clear hall
  have Hasc := Lib.hid hasc; clear hasc
  have hB2 := hB.trans (hE.mono hB.size)
  have HR := (hdTables.below (rTable_ok NB) hB2)
  have kd_0 := (bxd.below hE) 0 _ rfl
  by_cases hlt : k < ndTables
  ·obtain ⟨b, off, x, AR, nR, cR, rfl, hc0, hc1, hc2, hx, hxx⟩ := HR.eTable hlt
   have hE2 := hE
   cases g : validTable x
   ·have G := Lib.hid g
    have HV : Hid (validDb d = false) := by show _ = _; exact validDb_t hxx.out g
    clear g
    have HSS : Hid (∀ w', Below wr.heap.size wr w' → (w'.cell? ⟨w.heap.size, 0, none⟩ = some (.slice (some ⟨b, off, none⟩) ndTables cdTables) ∧ w'.cell? ⟨b, off + k * 3, none⟩ = some (.string x.fName) ∧ w'.cell? ⟨b, off + k * 3 + 1, none⟩ = some (.int .i64 x.fArity) ∧ w'.cell? ⟨b, off + k * 3 + 2, none⟩ = some (.slice AR nR cR))) := by
     show ∀ w', _ → _
     intro w' hb
     exact ⟨(bxd.below (hE.trans (hb.mono hE.size))) 0 _ rfl, cells_below hb _ _ hc0, cells_below hb _ _ hc1, cells_below hb _ _ hc2⟩
    go_wp2
    refine hbg HSS.out (Below.refl _ _).drew (fun hHeld => ?_)
    refine tka 0 11 hHeld ?_; simp only [putS]
    refine tka 1 12 hHeld ?_; simp only [putS]
    refine tka 2 13 hHeld ?_; simp only [putS]
    refine tka 3 14 hHeld ?_; simp only [putS]
    refine tka 4 15 hHeld ?_; simp only [putS]
    refine wpAnyH_ready (rs := [5]) (by kernel_rfl) (by simp) ?_
    refine AllReadyH.cons (o := ⟨some 16, _, _, _, _, _⟩) rfl (fun K hK => ?_) AllReadyH.nil
    clear hHeld
    go_simp
    have C := sIsValidTable_c _ x _ ((rTable_ok NB).keep hx (cells_below (Below.refl wr.heap.size wr).drew))
    rw [G.out] at C
    refine C.mono ?_
    clear C
    rintro e w2 ⟨rfl, hb2⟩
    have hC : Below wr.heap.size wr w2 := (Below.refl wr.heap.size wr).drew.trans (hb2.mono (by simp))
    go_wp2_with fail
    refine hK.out _ _ (HSS.out _ hC) (fun hHeld => ?_)
    clear hK K
    try simp only [putS]
    refine tka 6 17 hHeld ?_; simp only [putS]
    refine tka 7 18 hHeld ?_; simp only [putS]
    refine tks 8 19 hHeld ?_; simp only [putS]
    refine tks 9 20 hHeld ?_; simp only [putS]
    refine tks 10 21 hHeld ?_; simp only [putS]
    refine tks 11 22 hHeld ?_; simp only [putS]
    refine tks 12 23 hHeld ?_; simp only [putS]
    refine tks 13 24 hHeld ?_; simp only [putS]
    refine tks 14 25 hHeld ?_; simp only [putS]
    refine tks 15 26 hHeld ?_; simp only [putS]
    refine tks 16 27 hHeld ?_; simp only [putS]
    refine tks 17 28 hHeld ?_; simp only [putS]
    refine tks 18 29 hHeld ?_; simp only [putS]
    refine tks 19 30 hHeld ?_; simp only [putS]
    refine tks 20 31 hHeld ?_; simp only [putS]
    refine tks 21 32 hHeld ?_; simp only [putS]
    refine tks 22 33 hHeld ?_; simp only [putS]
    refine tks 23 34 hHeld ?_; simp only [putS]
    refine tks 24 35 hHeld ?_; simp only [putS]
    refine tks 25 36 hHeld ?_; simp only [putS]
    refine tka 26 37 hHeld ?_; simp only [putS]
    refine wpAnyH_done (by kernel_rfl) ?_ _
    clear hHeld
    clear HSS
    go_wp2
    go_ret
    exact ⟨ret_bool (a := false) HV.out.symm, hB.trans ((hE2.trans (hC.mono hE2.size)).mono hB.size)⟩
   have G := Lib.hid g
   clear g
   by_cases hk0 : 0 < k
   ·obtain ⟨j, hj⟩ : ∃ j, k = j + 1 := ⟨k - 1, by omega⟩
    have hjn : j < ndTables := by omega
    obtain ⟨b2, off2, y, AR2, nR2, cR2, e2, hp0, _, _, _, hyy⟩ := HR.eTable hjn
    injection e2 with e2; injection e2 with e2 e3; subst e2; subst e3
    have HA := Lib.hid (dbAt_s hyy.out (hj ▸ hxx.out))
    have mj : IntKind.i64.wrap ((k : Int) - 1) = (j : Int) := by rw [IntWalk.i64_in _ (by omega)]; omega
    have hk0' : decide (0 < k) = true := by simp [hk0]
    have HJ := Lib.hid hj; clear hj
    cases hg : Op.bytesLess y.fName.toList x.fName.toList
    ·have HB : Hid (dbAt d.fTables k = false) := by show _ = _; rw [HJ.out, HA.out]; exact hg
     have HV : Hid (validDb d = false) := by show _ = _; exact validDb_a (by have := HL.out; omega) HB.out
     have HSS : Hid (∀ w', Below wr.heap.size wr w' → (w'.cell? ⟨w.heap.size, 0, none⟩ = some (.slice (some ⟨b, off, none⟩) ndTables cdTables) ∧ w'.cell? ⟨b, off + k * 3, none⟩ = some (.string x.fName) ∧ w'.cell? ⟨b, off + k * 3 + 1, none⟩ = some (.int .i64 x.fArity) ∧ w'.cell? ⟨b, off + k * 3 + 2, none⟩ = some (.slice AR nR cR) ∧ w'.cell? ⟨b, off + j * 3, none⟩ = some (.string y.fName))) := by
      show ∀ w', _ → _
      intro w' hb
      exact ⟨(bxd.below (hE.trans (hb.mono hE.size))) 0 _ rfl, cells_below hb _ _ hc0, cells_below hb _ _ hc1, cells_below hb _ _ hc2, cells_below hb _ _ hp0⟩
     go_wp2
     refine hbg HSS.out (Below.refl _ _).drew (fun hHeld => ?_)
     refine tka 0 11 hHeld ?_; simp only [putS]
     refine tka 1 12 hHeld ?_; simp only [putS]
     refine tka 2 13 hHeld ?_; simp only [putS]
     refine tka 3 14 hHeld ?_; simp only [putS]
     refine tka 4 15 hHeld ?_; simp only [putS]
     refine wpAnyH_ready (rs := [5]) (by kernel_rfl) (by simp) ?_
     refine AllReadyH.cons (o := ⟨some 16, _, _, _, _, _⟩) rfl (fun K hK => ?_) AllReadyH.nil
     clear hHeld
     go_simp
     have C := sIsValidTable_c _ x _ ((rTable_ok NB).keep hx (cells_below (Below.refl wr.heap.size wr).drew))
     rw [G.out] at C
     refine C.mono ?_
     clear C
     rintro e w2 ⟨rfl, hb2⟩
     have hC : Below wr.heap.size wr w2 := (Below.refl wr.heap.size wr).drew.trans (hb2.mono (by simp))
     go_wp2_with fail
     refine hK.out _ _ (HSS.out _ hC) (fun hHeld => ?_)
     clear hK K
     try simp only [putS]
     refine tka 6 17 hHeld ?_; simp only [putS]
     refine tka 7 18 hHeld ?_; simp only [putS]
     refine tka 8 19 hHeld ?_; simp only [putS]
     refine tka 9 20 hHeld ?_; simp only [putS]
     refine tka 10 21 hHeld ?_; simp only [putS]
     refine tka 11 22 hHeld ?_; simp only [putS]
     refine tka 12 23 hHeld ?_; simp only [putS]
     refine tka 13 24 hHeld ?_; simp only [putS]
     refine tka 14 25 hHeld ?_; simp only [putS]
     refine tka 15 26 hHeld ?_; simp only [putS]
     refine tka 16 27 hHeld ?_; simp only [putS]
     refine tka 17 28 hHeld ?_; simp only [putS]
     refine tka 18 29 hHeld ?_; simp only [putS]
     refine tka 19 30 hHeld ?_; simp only [putS]
     refine tka 20 31 hHeld ?_; simp only [putS]
     refine tka 21 32 hHeld ?_; simp only [putS]
     refine tka 22 33 hHeld ?_; simp only [putS]
     refine tka 23 34 hHeld ?_; simp only [putS]
     refine tka 24 35 hHeld ?_; simp only [putS]
     refine tka 25 36 hHeld ?_; simp only [putS]
     refine tka 26 37 hHeld ?_; simp only [putS]
     refine wpAnyH_done (by kernel_rfl) ?_ _
     clear hHeld
     clear HSS
     go_wp2
     go_ret
     exact ⟨ret_bool (a := false) HV.out.symm, hB.trans ((hE2.trans (hC.mono hE2.size)).mono hB.size)⟩
    ·have HB : Hid (dbAt d.fTables k = true) := by show _ = _; rw [HJ.out, HA.out]; exact hg
     have HSS : Hid (∀ w', Below wr.heap.size wr w' → (w'.cell? ⟨w.heap.size, 0, none⟩ = some (.slice (some ⟨b, off, none⟩) ndTables cdTables) ∧ w'.cell? ⟨b, off + k * 3, none⟩ = some (.string x.fName) ∧ w'.cell? ⟨b, off + k * 3 + 1, none⟩ = some (.int .i64 x.fArity) ∧ w'.cell? ⟨b, off + k * 3 + 2, none⟩ = some (.slice AR nR cR) ∧ w'.cell? ⟨b, off + j * 3, none⟩ = some (.string y.fName))) := by
      show ∀ w', _ → _
      intro w' hb
      exact ⟨(bxd.below (hE.trans (hb.mono hE.size))) 0 _ rfl, cells_below hb _ _ hc0, cells_below hb _ _ hc1, cells_below hb _ _ hc2, cells_below hb _ _ hp0⟩
     go_wp2
     refine hbg HSS.out (Below.refl _ _).drew (fun hHeld => ?_)
     refine tka 0 11 hHeld ?_; simp only [putS]
     refine tka 1 12 hHeld ?_; simp only [putS]
     refine tka 2 13 hHeld ?_; simp only [putS]
     refine tka 3 14 hHeld ?_; simp only [putS]
     refine tka 4 15 hHeld ?_; simp only [putS]
     refine wpAnyH_ready (rs := [5]) (by kernel_rfl) (by simp) ?_
     refine AllReadyH.cons (o := ⟨some 16, _, _, _, _, _⟩) rfl (fun K hK => ?_) AllReadyH.nil
     clear hHeld
     go_simp
     have C := sIsValidTable_c _ x _ ((rTable_ok NB).keep hx (cells_below (Below.refl wr.heap.size wr).drew))
     rw [G.out] at C
     refine C.mono ?_
     clear C
     rintro e w2 ⟨rfl, hb2⟩
     have hC : Below wr.heap.size wr w2 := (Below.refl wr.heap.size wr).drew.trans (hb2.mono (by simp))
     go_wp2_with fail
     refine hK.out _ _ (HSS.out _ hC) (fun hHeld => ?_)
     clear hK K
     try simp only [putS]
     refine tka 6 17 hHeld ?_; simp only [putS]
     refine tka 7 18 hHeld ?_; simp only [putS]
     refine tka 8 19 hHeld ?_; simp only [putS]
     refine tka 9 20 hHeld ?_; simp only [putS]
     refine tka 10 21 hHeld ?_; simp only [putS]
     refine tka 11 22 hHeld ?_; simp only [putS]
     refine tka 12 23 hHeld ?_; simp only [putS]
     refine tka 13 24 hHeld ?_; simp only [putS]
     refine tka 14 25 hHeld ?_; simp only [putS]
     refine tka 15 26 hHeld ?_; simp only [putS]
     refine tka 16 27 hHeld ?_; simp only [putS]
     refine tka 17 28 hHeld ?_; simp only [putS]
     refine tka 18 29 hHeld ?_; simp only [putS]
     refine tka 19 30 hHeld ?_; simp only [putS]
     refine tka 20 31 hHeld ?_; simp only [putS]
     refine tka 21 32 hHeld ?_; simp only [putS]
     refine tka 22 33 hHeld ?_; simp only [putS]
     refine tka 23 34 hHeld ?_; simp only [putS]
     refine tka 24 35 hHeld ?_; simp only [putS]
     refine tka 25 36 hHeld ?_; simp only [putS]
     refine tka 26 37 hHeld ?_; simp only [putS]
     refine wpAnyH_done (by kernel_rfl) ?_ _
     clear hHeld
     clear HSS
     go_wp2
     go_roundw
     case rel => exact ⟨k + 1, by omega, by go_num, all_snoc' Hall.out hxx.out G.out, range_all_yes Hasc.out HB.out, hE2.trans (hC.mono hE2.size)⟩
     case measure => simp [intOf]; omega
   ·have hk0' : decide (0 < k) = false := by simp; omega
    have HB : Hid (dbAt d.fTables k = true) := by
     show _ = _
     obtain rfl : k = 0 := by omega
     rfl
    have HSS : Hid (∀ w', Below wr.heap.size wr w' → (w'.cell? ⟨w.heap.size, 0, none⟩ = some (.slice (some ⟨b, off, none⟩) ndTables cdTables) ∧ w'.cell? ⟨b, off + k * 3, none⟩ = some (.string x.fName) ∧ w'.cell? ⟨b, off + k * 3 + 1, none⟩ = some (.int .i64 x.fArity) ∧ w'.cell? ⟨b, off + k * 3 + 2, none⟩ = some (.slice AR nR cR))) := by
     show ∀ w', _ → _
     intro w' hb
     exact ⟨(bxd.below (hE.trans (hb.mono hE.size))) 0 _ rfl, cells_below hb _ _ hc0, cells_below hb _ _ hc1, cells_below hb _ _ hc2⟩
    go_wp2
    refine hbg HSS.out (Below.refl _ _).drew (fun hHeld => ?_)
    refine tka 0 11 hHeld ?_; simp only [putS]
    refine tka 1 12 hHeld ?_; simp only [putS]
    refine tka 2 13 hHeld ?_; simp only [putS]
    refine tka 3 14 hHeld ?_; simp only [putS]
    refine tka 4 15 hHeld ?_; simp only [putS]
    refine wpAnyH_ready (rs := [5]) (by kernel_rfl) (by simp) ?_
    refine AllReadyH.cons (o := ⟨some 16, _, _, _, _, _⟩) rfl (fun K hK => ?_) AllReadyH.nil
    clear hHeld
    go_simp
    have C := sIsValidTable_c _ x _ ((rTable_ok NB).keep hx (cells_below (Below.refl wr.heap.size wr).drew))
    rw [G.out] at C
    refine C.mono ?_
    clear C
    rintro e w2 ⟨rfl, hb2⟩
    have hC : Below wr.heap.size wr w2 := (Below.refl wr.heap.size wr).drew.trans (hb2.mono (by simp))
    go_wp2_with fail
    refine hK.out _ _ (HSS.out _ hC) (fun hHeld => ?_)
    clear hK K
    try simp only [putS]
    refine tka 6 17 hHeld ?_; simp only [putS]
    refine tka 7 18 hHeld ?_; simp only [putS]
    refine tka 8 19 hHeld ?_; simp only [putS]
    refine tka 9 20 hHeld ?_; simp only [putS]
    refine tka 10 21 hHeld ?_; simp only [putS]
    refine tks 11 22 hHeld ?_; simp only [putS]
    refine tks 12 23 hHeld ?_; simp only [putS]
    refine tks 13 24 hHeld ?_; simp only [putS]
    refine tks 14 25 hHeld ?_; simp only [putS]
    refine tks 15 26 hHeld ?_; simp only [putS]
    refine tks 16 27 hHeld ?_; simp only [putS]
    refine tks 17 28 hHeld ?_; simp only [putS]
    refine tks 18 29 hHeld ?_; simp only [putS]
    refine tks 19 30 hHeld ?_; simp only [putS]
    refine tks 20 31 hHeld ?_; simp only [putS]
    refine tks 21 32 hHeld ?_; simp only [putS]
    refine tks 22 33 hHeld ?_; simp only [putS]
    refine tks 23 34 hHeld ?_; simp only [putS]
    refine tks 24 35 hHeld ?_; simp only [putS]
    refine tka 25 36 hHeld ?_; simp only [putS]
    refine tka 26 37 hHeld ?_; simp only [putS]
    refine wpAnyH_done (by kernel_rfl) ?_ _
    clear hHeld
    clear HSS
    go_wp2
    go_roundw
    case rel => exact ⟨k + 1, by omega, by go_num, all_snoc' Hall.out hxx.out G.out, range_all_yes Hasc.out HB.out, hE2.trans (hC.mono hE2.size)⟩
    case measure => simp [intOf]; omega
  ·have HV : Hid (validDb d = decide (ndTables ≤ 6)) := by
    show _ = _
    have h1 := Hall.out
    rw [take_all HL.out hlt] at h1
    have h2 := Hasc.out
    have hkl : k = d.fTables.length := by have := HL.out; omega
    rw [hkl] at h2
    unfold validDb
    rw [h1, h2, HL.out]; rfl
   go_wp2
   go_ret
   exact ⟨ret_bool (by rw [HV.out]; simp; omega), hB2⟩
set_option maxRecDepth 100000 in
set_option maxHeartbeats 1600000 in
theorem iIsValidDatabase_c (csd : List Value) (d : DatabaseD) (w : World) (hd : (rDatabase NB).rep w csd d) :
  Calls Try.prog 147 #[.agg csd.toArray] w fun e w' => e = .returned (.bool (validDb d)) ∧ Below w.heap.size w w' := by
 have rd := hd
 obtain ⟨AdTables, ndTables, cdTables, rfl, hdTables⟩ := rDatabase_rep.1 hd
 clear hd
 have hB : Below w.heap.size w w := Below.refl _ _
 have hAd := (Below.refl (World.heap (w)).size (w)).alloc (Nat.le_refl _) (.cells #[.slice AdTables ndTables cdTables] 73)
 replace hB := hB.trans (hAd.mono hB.size)
 have bxd := Bx.new (w) [.slice AdTables ndTables cdTables] 73
 clear hAd
 have hn := hdTables.bound
 have HL := Lib.hid hdTables.len
 obtain ⟨wa, hwa⟩ : ∃ W, W = w.alloc (.cells #[.slice AdTables ndTables cdTables] 73) := ⟨_, rfl⟩
 rw [← hwa] at hB bxd
 go_enter Try.func147, Try.ntmps147
 go_upto_region 1 with fail
 rw [← hwa]
 clear hwa
 have kd_0 := bxd 0 _ rfl
 go_wp2
 go_loopw [8] (fun i wr => ∃ k : Nat, k ≤ ndTables ∧ i = .int .i64 k ∧ (d.fTables.take k).all validTable = true ∧ (List.range k).all (dbAt d.fTables) = true ∧ Below wa.heap.size wa wr) (fun i _ => ndTables - (intOf i).toNat)
 case atStart => exact ⟨0, Nat.zero_le _, rfl, rfl, rfl, Below.refl _ _⟩
 case round =>
  clear kd_0
  obtain ⟨k, hk, rfl, hall, hasc, hE⟩ := hrel
  have Hall := Lib.hid hall; clear hall
  have Hasc := Lib.hid hasc; clear hasc
  have hB2 := hB.trans (hE.mono hB.size)
  have HR := (hdTables.below (rTable_ok NB) hB2)
  have kd_0 := (bxd.below hE) 0 _ rfl
  by_cases hlt : k < ndTables
  ·obtain ⟨b, off, x, AR, nR, cR, rfl, hc0, hc1, hc2, hx, hxx⟩ := HR.eTable hlt
   obtain ⟨wt, hwt⟩ : ∃ W, W = wr.alloc (.cells #[.string x.fName, .int .i64 x.fArity, .slice AR nR cR] 122) := ⟨_, rfl⟩
   have hbt : Below wr.heap.size wr wt := by rw [hwt]; exact (Below.refl wr.heap.size wr).alloc (Nat.le_refl _) _
   have bxt : Bk wt wr.heap.size 122 [.string x.fName, .int .i64 x.fArity, .slice AR nR cR] := by rw [hwt]; exact Bk.new wr _ _
   replace hx := (rTable_ok NB).keep hx (cells_below hbt)
   have hE2 := hE.trans (hbt.mono hE.size)
   go_upto_region 4 with fail
   rw [← hwt]
   clear hwt hc0 hc1 hc2 kd_0
   cases g : validTable x
   ·have G := Lib.hid g
    have HV : Hid (validDb d = false) := by show _ = _; exact validDb_t hxx.out g
    clear g
    have HSS : Hid (∀ w', Below wt.heap.size wt w' → (w'.cell? ⟨w.heap.size, 0, none⟩ = some (.slice (some ⟨b, off, none⟩) ndTables cdTables) ∧ w'.cell? ⟨wr.heap.size, 0, none⟩ = some (.string x.fName) ∧ w'.cell? ⟨wr.heap.size, 1, none⟩ = some (.int .i64 x.fArity) ∧ w'.cell? ⟨wr.heap.size, 2, none⟩ = some (.slice AR nR cR))) := by
     show ∀ w', _ → _
     intro w' hb
     exact ⟨(bxd.below (hE2.trans (hb.mono hE2.size))) 0 _ rfl, (bxt.below hb).bx 0 _ rfl, (bxt.below hb).bx 1 _ rfl, (bxt.below hb).bx 2 _ rfl⟩
    refine hbg HSS.out (Below.refl _ _).drew (fun hHeld => ?_)
    refine tka 0 13 hHeld ?_; simp only [putS]
    refine wpAnyH_ready (rs := [1]) (by kernel_rfl) (by simp) ?_
    refine AllReadyH.cons (o := ⟨some 14, _, _, _, _, _⟩) rfl (fun K hK => ?_) AllReadyH.nil
    clear hHeld
    go_simp
    have C := iIsValidTable_c _ x _ ((rTable_ok NB).keep hx (cells_below (Below.refl wt.heap.size wt).drew))
    rw [G.out] at C
    refine C.mono ?_
    clear C
    rintro e w2 ⟨rfl, hb2⟩
    have hC : Below wt.heap.size wt w2 := (Below.refl wt.heap.size wt).drew.trans (hb2.mono (by simp))
    go_wp2_with fail
    refine hK.out _ _ (HSS.out _ hC) (fun hHeld => ?_)
    clear hK K
    try simp only [putS]
    refine tka 2 15 hHeld ?_; simp only [putS]
    refine tka 3 16 hHeld ?_; simp only [putS]
    refine tks 4 17 hHeld ?_; simp only [putS]
    refine tks 5 18 hHeld ?_; simp only [putS]
    refine tks 6 19 hHeld ?_; simp only [putS]
    refine tks 7 20 hHeld ?_; simp only [putS]
    refine tks 8 21 hHeld ?_; simp only [putS]
    refine tks 9 22 hHeld ?_; simp only [putS]
    refine tks 10 23 hHeld ?_; simp only [putS]
    refine tks 11 24 hHeld ?_; simp only [putS]
    refine tks 12 25 hHeld ?_; simp only [putS]
    refine tks 13 26 hHeld ?_; simp only [putS]
    refine tks 14 27 hHeld ?_; simp only [putS]
    refine tks 15 28 hHeld ?_; simp only [putS]
    refine tks 16 29 hHeld ?_; simp only [putS]
    refine tks 17 30 hHeld ?_; simp only [putS]
    refine tka 18 31 hHeld ?_; simp only [putS]
    refine wpAnyH_done (by kernel_rfl) ?_ _
    clear hHeld
    clear HSS
    go_wp2
    go_ret
    exact ⟨ret_bool (a := false) HV.out.symm, hB.trans ((hE2.trans (hC.mono hE2.size)).mono hB.size)⟩
   have G := Lib.hid g
   clear g
   by_cases hk0 : 0 < k
   ·obtain ⟨j, hj⟩ : ∃ j, k = j + 1 := ⟨k - 1, by omega⟩
    have hjn : j < ndTables := by omega
    obtain ⟨b2, off2, y, AR2, nR2, cR2, e2, hp0, _, _, _, hyy⟩ := (HR.below (rTable_ok NB) hbt).eTable hjn
    injection e2 with e2; injection e2 with e2 e3; subst e2; subst e3
    have HA := Lib.hid (dbAt_s hyy.out (hj ▸ hxx.out))
    have mj : IntKind.i64.wrap ((k : Int) - 1) = (j : Int) := by rw [IntWalk.i64_in _ (by omega)]; omega
    have hk0' : decide (0 < k) = true := by simp [hk0]
    have HJ := Lib.hid hj; clear hj
    cases hg : Op.bytesLess y.fName.toList x.fName.toList
    ·have HB : Hid (dbAt d.fTables k = false) := by show _ = _; rw [HJ.out, HA.out]; exact hg
     have HV : Hid (validDb d = false) := by show _ = _; exact validDb_a (by have := HL.out; omega) HB.out
     have HSS : Hid (∀ w', Below wt.heap.size wt w' → (w'.cell? ⟨w.heap.size, 0, none⟩ = some (.slice (some ⟨b, off, none⟩) ndTables cdTables) ∧ w'.cell? ⟨wr.heap.size, 0, none⟩ = some (.string x.fName) ∧ w'.cell? ⟨wr.heap.size, 1, none⟩ = some (.int .i64 x.fArity) ∧ w'.cell? ⟨wr.heap.size, 2, none⟩ = some (.slice AR nR cR) ∧ w'.cell? ⟨b, off + j * 3, none⟩ = some (.string y.fName))) := by
      show ∀ w', _ → _
      intro w' hb
      exact ⟨(bxd.below (hE2.trans (hb.mono hE2.size))) 0 _ rfl, (bxt.below hb).bx 0 _ rfl, (bxt.below hb).bx 1 _ rfl, (bxt.below hb).bx 2 _ rfl, cells_below hb _ _ hp0⟩
     refine hbg HSS.out (Below.refl _ _).drew (fun hHeld => ?_)
     refine tka 0 13 hHeld ?_; simp only [putS]
     refine wpAnyH_ready (rs := [1]) (by kernel_rfl) (by simp) ?_
     refine AllReadyH.cons (o := ⟨some 14, _, _, _, _, _⟩) rfl (fun K hK => ?_) AllReadyH.nil
     clear hHeld
     go_simp
     have C := iIsValidTable_c _ x _ ((rTable_ok NB).keep hx (cells_below (Below.refl wt.heap.size wt).drew))
     rw [G.out] at C
     refine C.mono ?_
     clear C
     rintro e w2 ⟨rfl, hb2⟩
     have hC : Below wt.heap.size wt w2 := (Below.refl wt.heap.size wt).drew.trans (hb2.mono (by simp))
     go_wp2_with fail
     refine hK.out _ _ (HSS.out _ hC) (fun hHeld => ?_)
     clear hK K
     try simp only [putS]
     refine tka 2 15 hHeld ?_; simp only [putS]
     refine tka 3 16 hHeld ?_; simp only [putS]
     refine tka 4 17 hHeld ?_; simp only [putS]
     refine tka 5 18 hHeld ?_; simp only [putS]
     refine tka 6 19 hHeld ?_; simp only [putS]
     refine tka 7 20 hHeld ?_; simp only [putS]
     refine tka 8 21 hHeld ?_; simp only [putS]
     refine tka 9 22 hHeld ?_; simp only [putS]
     refine tka 10 23 hHeld ?_; simp only [putS]
     refine tka 11 24 hHeld ?_; simp only [putS]
     refine tka 12 25 hHeld ?_; simp only [putS]
     refine tka 13 26 hHeld ?_; simp only [putS]
     refine tka 14 27 hHeld ?_; simp only [putS]
     refine tka 15 28 hHeld ?_; simp only [putS]
     refine tka 16 29 hHeld ?_; simp only [putS]
     refine tka 17 30 hHeld ?_; simp only [putS]
     refine tka 18 31 hHeld ?_; simp only [putS]
     refine wpAnyH_done (by kernel_rfl) ?_ _
     clear hHeld
     clear HSS
     go_wp2
     go_ret
     exact ⟨ret_bool (a := false) HV.out.symm, hB.trans ((hE2.trans (hC.mono hE2.size)).mono hB.size)⟩
    ·have HB : Hid (dbAt d.fTables k = true) := by show _ = _; rw [HJ.out, HA.out]; exact hg
     have HSS : Hid (∀ w', Below wt.heap.size wt w' → (w'.cell? ⟨w.heap.size, 0, none⟩ = some (.slice (some ⟨b, off, none⟩) ndTables cdTables) ∧ w'.cell? ⟨wr.heap.size, 0, none⟩ = some (.string x.fName) ∧ w'.cell? ⟨wr.heap.size, 1, none⟩ = some (.int .i64 x.fArity) ∧ w'.cell? ⟨wr.heap.size, 2, none⟩ = some (.slice AR nR cR) ∧ w'.cell? ⟨b, off + j * 3, none⟩ = some (.string y.fName))) := by
      show ∀ w', _ → _
      intro w' hb
      exact ⟨(bxd.below (hE2.trans (hb.mono hE2.size))) 0 _ rfl, (bxt.below hb).bx 0 _ rfl, (bxt.below hb).bx 1 _ rfl, (bxt.below hb).bx 2 _ rfl, cells_below hb _ _ hp0⟩
     refine hbg HSS.out (Below.refl _ _).drew (fun hHeld => ?_)
     refine tka 0 13 hHeld ?_; simp only [putS]
     refine wpAnyH_ready (rs := [1]) (by kernel_rfl) (by simp) ?_
     refine AllReadyH.cons (o := ⟨some 14, _, _, _, _, _⟩) rfl (fun K hK => ?_) AllReadyH.nil
     clear hHeld
     go_simp
     have C := iIsValidTable_c _ x _ ((rTable_ok NB).keep hx (cells_below (Below.refl wt.heap.size wt).drew))
     rw [G.out] at C
     refine C.mono ?_
     clear C
     rintro e w2 ⟨rfl, hb2⟩
     have hC : Below wt.heap.size wt w2 := (Below.refl wt.heap.size wt).drew.trans (hb2.mono (by simp))
     go_wp2_with fail
     refine hK.out _ _ (HSS.out _ hC) (fun hHeld => ?_)
     clear hK K
     try simp only [putS]
     refine tka 2 15 hHeld ?_; simp only [putS]
     refine tka 3 16 hHeld ?_; simp only [putS]
     refine tka 4 17 hHeld ?_; simp only [putS]
     refine tka 5 18 hHeld ?_; simp only [putS]
     refine tka 6 19 hHeld ?_; simp only [putS]
     refine tka 7 20 hHeld ?_; simp only [putS]
     refine tka 8 21 hHeld ?_; simp only [putS]
     refine tka 9 22 hHeld ?_; simp only [putS]
     refine tka 10 23 hHeld ?_; simp only [putS]
     refine tka 11 24 hHeld ?_; simp only [putS]
     refine tka 12 25 hHeld ?_; simp only [putS]
     refine tka 13 26 hHeld ?_; simp only [putS]
     refine tka 14 27 hHeld ?_; simp only [putS]
     refine tka 15 28 hHeld ?_; simp only [putS]
     refine tka 16 29 hHeld ?_; simp only [putS]
     refine tka 17 30 hHeld ?_; simp only [putS]
     refine tka 18 31 hHeld ?_; simp only [putS]
     refine wpAnyH_done (by kernel_rfl) ?_ _
     clear hHeld
     clear HSS
     go_wp2
     go_roundw
     case rel => exact ⟨k + 1, by omega, by go_num, all_snoc' Hall.out hxx.out G.out, range_all_yes Hasc.out HB.out, hE2.trans (hC.mono hE2.size)⟩
     case measure => simp [intOf]; omega
   ·have hk0' : decide (0 < k) = false := by simp; omega
    have HB : Hid (dbAt d.fTables k = true) := by
     show _ = _
     obtain rfl : k = 0 := by omega
     rfl
    have HSS : Hid (∀ w', Below wt.heap.size wt w' → (w'.cell? ⟨w.heap.size, 0, none⟩ = some (.slice (some ⟨b, off, none⟩) ndTables cdTables) ∧ w'.cell? ⟨wr.heap.size, 0, none⟩ = some (.string x.fName) ∧ w'.cell? ⟨wr.heap.size, 1, none⟩ = some (.int .i64 x.fArity) ∧ w'.cell? ⟨wr.heap.size, 2, none⟩ = some (.slice AR nR cR))) := by
     show ∀ w', _ → _
     intro w' hb
     exact ⟨(bxd.below (hE2.trans (hb.mono hE2.size))) 0 _ rfl, (bxt.below hb).bx 0 _ rfl, (bxt.below hb).bx 1 _ rfl, (bxt.below hb).bx 2 _ rfl⟩
    refine hbg HSS.out (Below.refl _ _).drew (fun hHeld => ?_)
    refine tka 0 13 hHeld ?_; simp only [putS]
    refine wpAnyH_ready (rs := [1]) (by kernel_rfl) (by simp) ?_
    refine AllReadyH.cons (o := ⟨some 14, _, _, _, _, _⟩) rfl (fun K hK => ?_) AllReadyH.nil
    clear hHeld
    go_simp
    have C := iIsValidTable_c _ x _ ((rTable_ok NB).keep hx (cells_below (Below.refl wt.heap.size wt).drew))
    rw [G.out] at C
    refine C.mono ?_
    clear C
    rintro e w2 ⟨rfl, hb2⟩
    have hC : Below wt.heap.size wt w2 := (Below.refl wt.heap.size wt).drew.trans (hb2.mono (by simp))
    go_wp2_with fail
    refine hK.out _ _ (HSS.out _ hC) (fun hHeld => ?_)
    clear hK K
    try simp only [putS]
    refine tka 2 15 hHeld ?_; simp only [putS]
    refine tka 3 16 hHeld ?_; simp only [putS]
    refine tka 4 17 hHeld ?_; simp only [putS]
    refine tka 5 18 hHeld ?_; simp only [putS]
    refine tka 6 19 hHeld ?_; simp only [putS]
    refine tks 7 20 hHeld ?_; simp only [putS]
    refine tks 8 21 hHeld ?_; simp only [putS]
    refine tks 9 22 hHeld ?_; simp only [putS]
    refine tks 10 23 hHeld ?_; simp only [putS]
    refine tks 11 24 hHeld ?_; simp only [putS]
    refine tks 12 25 hHeld ?_; simp only [putS]
    refine tks 13 26 hHeld ?_; simp only [putS]
    refine tks 14 27 hHeld ?_; simp only [putS]
    refine tks 15 28 hHeld ?_; simp only [putS]
    refine tks 16 29 hHeld ?_; simp only [putS]
    refine tka 17 30 hHeld ?_; simp only [putS]
    refine tka 18 31 hHeld ?_; simp only [putS]
    refine wpAnyH_done (by kernel_rfl) ?_ _
    clear hHeld
    clear HSS
    go_wp2
    go_roundw
    case rel => exact ⟨k + 1, by omega, by go_num, all_snoc' Hall.out hxx.out G.out, range_all_yes Hasc.out HB.out, hE2.trans (hC.mono hE2.size)⟩
    case measure => simp [intOf]; omega
  ·have HV : Hid (validDb d = decide (ndTables ≤ 6)) := by
    show _ = _
    have h1 := Hall.out
    rw [take_all HL.out hlt] at h1
    have h2 := Hasc.out
    have hkl : k = d.fTables.length := by have := HL.out; omega
    rw [hkl] at h2
    unfold validDb
    rw [h1, h2, HL.out]; rfl
   go_wp2
   go_ret
   exact ⟨ret_bool (by rw [HV.out]; simp; omega), hB2⟩
end Go.Proofs.Ytkdajdafhjobbaa
