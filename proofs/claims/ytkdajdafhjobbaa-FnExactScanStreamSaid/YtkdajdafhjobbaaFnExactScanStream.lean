/-
  FnExactScanStream
-/
import Derived.Test.YtkdajdafhjobbaaRows
import Derived.Test.YtkdajdafhjobbaaScs
import Derived.Test.YtkdajdafhjobbaaScd
import Derived.Test.YtkdajdafhjobbaaToM
import Derived.Test.YtkdajdafhjobbaaOpens
import Derived.Test.YtkdajdafhjobbaaTo
import Derived.Test.YtkdajdafhjobbaaEq
import Derived.WalkKit
import Derived.ProofKit
import Derived.OpenShut
import Derived.ShutString
import Derived.ChangeOld
import Derived.Below
import Derived.Deep.RegionHeld3
import Derived.Test.YtkdajdafhjobbaaMark
import Derived.Test.YtkdajdafhjobbaaMarkC
namespace Go.Proofs.Ytkdajdafhjobbaa.fnExactScanStream
open Go.ChangeShapes Go.WideShapes Go.ChangeAt Go.RowKit
open Go.ChangeMaps (open_string shut_string)
set_option linter.unusedVariables false
set_option linter.unusedSimpArgs false

theorem own : ownKnob Try.prog.godebug = none := by kernel_rfl
theorem laidOut : laidOutB Try.prog = true := by kernel_rfl

set_option maxRecDepth 100000 in
set_option maxHeartbeats 4000000 in
theorem walk (csDb : List Value) (xDb : DatabaseD) (csQ : List Value) (xQ : QueryD) (aAtom : Int) (w : World) (rDb : (rDatabase maxLen).rep w csDb xDb) (rQ : (rQuery maxLen).rep w csQ xQ) (iAtom : I64 aAtom) :
  Calls Try.prog 5 #[.agg csDb.toArray, .agg csQ.toArray, .int .i64 aAtom] w fun e w' => e = .returned (.bool true) ∧ Below w.heap.size w w' := by
 have hB : Below w.heap.size w w := Below.refl _ _
 have qDb := rDb
 obtain ⟨ADbTables, nDbTables, cDbTables, rfl, hDbTables⟩ := rDatabase_rep.1 qDb
 clear qDb
 have qQ := rQ
 obtain ⟨AQAtoms, nQAtoms, cQAtoms, rfl, hQVariableCount, hQAtoms⟩ := rQuery_rep.1 qQ
 clear qQ
 go_enter Try.func5, Try.ntmps5
 have hA1 := (Below.refl (World.heap (w)).size (w)).alloc (Nat.le_refl _) (.cells #[.slice ADbTables nDbTables cDbTables] 60)
 replace hB := hB.trans (hA1.mono hB.size)
 have bxDb := Bx.new (w) [.slice ADbTables nDbTables cDbTables] 60
 clear hA1
 have hA2 := (Below.refl (World.heap ((w).alloc (.cells #[.slice ADbTables nDbTables cDbTables] 60))).size ((w).alloc (.cells #[.slice ADbTables nDbTables cDbTables] 60))).alloc (Nat.le_refl _) (.cells #[.int .i64 xQ.fVariableCount, .slice AQAtoms nQAtoms cQAtoms] 63)
 replace hB := hB.trans (hA2.mono hB.size)
 replace bxDb := bxDb.below hA2
 have bxQ := Bx.new ((w).alloc (.cells #[.slice ADbTables nDbTables cDbTables] 60)) [.int .i64 xQ.fVariableCount, .slice AQAtoms nQAtoms cQAtoms] 63
 simp only [World.size_alloc] at bxQ
 clear hA2
 go_wp2_with fail
 refine (szDatabase_c _ xDb _ _ ((rDatabase_ok maxLen).keep rDb (cells_below hB)) (by omega) (by omega)).mono ?_
 rintro e w4 ⟨rfl, hb3⟩
 have z5 := hb3.size
 try simp only [World.size_alloc] at z5
 have Hz5 := Lib.hid z5; clear z5
 replace hB := hB.trans (hb3.mono hB.size)
 replace bxDb := bxDb.below hb3
 replace bxQ := bxQ.below hb3
 clear hb3
 by_cases hszDb : ((bulkDatabase xDb : Nat) : Int) ≤ 1048576
 rotate_left
 ·rw [lessBy_no hszDb]
  go_wp2
  go_ret
  exact ⟨rfl, hB⟩
 rw [lessBy_yes hszDb]
 have sDb := smallDatabase rDb (by omega)
 obtain ⟨L6, hL6⟩ : ∃ L : Int, L = 1048576 - ((bulkDatabase xDb : Nat) : Int) := ⟨_, rfl⟩
 rw [← hL6]
 have pL6 : 0 ≤ L6 := by omega
 have uL6 : L6 ≤ 1048576 := by omega
 clear hL6
 have cbxQ_0 := bxQ 0 _ rfl
 have cbxQ_1 := bxQ 1 _ rfl
 go_wp2_with fail
 refine (szQuery_c _ xQ _ _ ((rQuery_ok maxLen).keep rQ (cells_below hB)) (by omega) (by omega)).mono ?_
 rintro e w8 ⟨rfl, hb7⟩
 have z9 := hb7.size
 try simp only [World.size_alloc] at z9
 have Hz9 := Lib.hid z9; clear z9
 replace hB := hB.trans (hb7.mono hB.size)
 replace bxDb := bxDb.below hb7
 replace bxQ := bxQ.below hb7
 clear hb7 cbxQ_0 cbxQ_1
 by_cases hszQ : ((bulkQuery xQ : Nat) : Int) ≤ L6
 rotate_left
 ·rw [lessBy_no hszQ]
  go_wp2
  go_ret
  exact ⟨rfl, hB⟩
 rw [lessBy_yes hszQ]
 have sQ := smallQuery rQ (by omega)
 obtain ⟨L10, hL10⟩ : ∃ L : Int, L = L6 - ((bulkQuery xQ : Nat) : Int) := ⟨_, rfl⟩
 rw [← hL10]
 have pL10 : 0 ≤ L10 := by omega
 have uL10 : L10 ≤ 1048576 := by omega
 clear hL10
 go_upto_region 8 with fail
 have SS11 : ∀ w', Below w8.heap.size w8 w' → (w'.cell? ⟨w.heap.size, 0, none⟩ = some (.slice ADbTables nDbTables cDbTables) ∧ w'.cell? ⟨w.heap.size + 1, 0, none⟩ = some (.int .i64 xQ.fVariableCount) ∧ w'.cell? ⟨w.heap.size + 1, 1, none⟩ = some (.slice AQAtoms nQAtoms cQAtoms)) := fun w' hb => ⟨bxDb.below hb 0 _ rfl, bxQ.below hb 0 _ rfl, bxQ.below hb 1 _ rfl⟩
 have HSS11 := Lib.hid SS11; clear SS11
 go_cut [8, 9] (fun s8 s9 wx => ∃ (cs : List Value) (f : List Nat) (g : Nat), s8 = .pointer (some ⟨g, 0, none⟩) ∧ s9 = .bool (scan xDb xQ aAtom).2 ∧ Left (rStream NB) 68 ((scan xDb xQ aAtom).1) w8 g f cs wx)
 case first =>
  go_region_held3 (fun w' => w'.cell? ⟨w.heap.size, 0, none⟩ = some (.slice ADbTables nDbTables cDbTables) ∧ w'.cell? ⟨w.heap.size + 1, 0, none⟩ = some (.int .i64 xQ.fVariableCount) ∧ w'.cell? ⟨w.heap.size + 1, 1, none⟩ = some (.slice AQAtoms nQAtoms cQAtoms)) (exact HSS11.out _ (by repeat' (first | with_reducible exact Below.refl _ _ | with_reducible refine Below.drw ?_ | with_reducible refine Below.drwN ?_ _ | with_reducible refine Below.alc ?_ _ | with_reducible refine Below.cll ?_ ?_ _ | with_reducible refine Below.sz ?_ | with_reducible exact Nat.le_refl _ | with_reducible refine Below.link ?_ (by assumption)))) (first | (go_at_call 32; refine (toDatabase_c _ xDb _ ((rDatabase_ok NB).keep sDb (cells_below (Below.link hB (by repeat' (first | with_reducible exact Below.refl _ _ | with_reducible refine Below.drw ?_ | with_reducible refine Below.drwN ?_ _ | with_reducible refine Below.alc ?_ _ | with_reducible refine Below.cll ?_ ?_ _ | with_reducible refine Below.sz ?_ | with_reducible exact Nat.le_refl _ | with_reducible refine Below.link ?_ (by assumption))))))).mono ?_; rintro e w13 ⟨csv12, fv12, rfl, ov12, frv12, hb14⟩; have Rv12 := (rDatabase_ok NB).toRep ov12; (try clear ltX); ((try have ltX := Bk.lt bkX); (try replace bkX := Bk.below bkX hb14); (try have bkX := Bk.made hb14); (try have bkX := Bk.madeD hb14); (try have ltX := Bk.madeLt hb14); (try have ltX := Bk.madeLtD hb14))) | (go_at_call 33; refine (toQuery_c _ xQ _ ((rQuery_ok NB).keep sQ (cells_below (Below.link hB (by repeat' (first | with_reducible exact Below.refl _ _ | with_reducible refine Below.drw ?_ | with_reducible refine Below.drwN ?_ _ | with_reducible refine Below.alc ?_ _ | with_reducible refine Below.cll ?_ ?_ _ | with_reducible refine Below.sz ?_ | with_reducible exact Nat.le_refl _ | with_reducible refine Below.link ?_ (by assumption))))))).mono ?_; rintro e w16 ⟨csv15, fv15, rfl, ov15, frv15, hb17⟩; have Rv15 := (rQuery_ok NB).toRep ov15; (try clear ltX); ((try have ltX := Bk.lt bkX); (try replace bkX := Bk.below bkX hb17); (try have bkX := Bk.made hb17); (try have bkX := Bk.madeD hb17); (try have ltX := Bk.madeLt hb17); (try have ltX := Bk.madeLtD hb17))) | (go_at_call 31; refine (sScanStream_c _ xDb _ xQ _ _ ((rDatabase_ok NB).keep Rv12 (cells_below (by repeat' (first | with_reducible exact Below.refl _ _ | with_reducible refine Below.drw ?_ | with_reducible refine Below.drwN ?_ _ | with_reducible refine Below.alc ?_ _ | with_reducible refine Below.cll ?_ ?_ _ | with_reducible refine Below.sz ?_ | with_reducible exact Nat.le_refl _ | with_reducible refine Below.link ?_ (by assumption))))) ((rQuery_ok NB).keep Rv15 (cells_below (by repeat' (first | with_reducible exact Below.refl _ _ | with_reducible refine Below.drw ?_ | with_reducible refine Below.drwN ?_ _ | with_reducible refine Below.alc ?_ _ | with_reducible refine Below.cll ?_ ?_ _ | with_reducible refine Below.sz ?_ | with_reducible exact Nat.le_refl _ | with_reducible refine Below.link ?_ (by assumption)))))).mono ?_; rintro e w18 ⟨csw0, fw0, rfl, ow0, frw0, hb19⟩; obtain ⟨Aw0Vars, nw0Vars, cw0Vars, Aw0Rows, nw0Rows, cw0Rows, rfl, _, _⟩ := rStream_rep.1 ((rStream_ok NB).toRep ow0); (try clear ltX); ((try have ltX := Bk.lt bkX); (try replace bkX := Bk.below bkX hb19); (try have bkX := Bk.made hb19); (try have bkX := Bk.madeD hb19); (try have ltX := Bk.madeLt hb19); (try have ltX := Bk.madeLtD hb19)); (try have jf := bkX.frozen); (try have jc0 := bkX.bx 0 _ rfl); (try have jc1 := bkX.bx 1 _ rfl)))
  all_goals (
   (go_wp2_with fail)
   go_meet
   refine ⟨[.slice Aw0Vars nw0Vars cw0Vars, .slice Aw0Rows nw0Rows cw0Rows], fw0, _, rfl, rfl, ?_⟩
   first
    | exact Left.last (rStream_ok NB) ow0 frw0 (by repeat' (first | with_reducible exact Below.refl _ _ | with_reducible refine Below.drw ?_ | with_reducible refine Below.drwN ?_ _ | with_reducible refine Below.alc ?_ _ | with_reducible refine Below.cll ?_ ?_ _ | with_reducible refine Below.sz ?_ | with_reducible exact Nat.le_refl _ | with_reducible refine Below.link ?_ (by assumption))) hb19
    | exact Left.first (rStream_ok NB) ow0 frw0 (by repeat' (first | with_reducible exact Below.refl _ _ | with_reducible refine Below.drw ?_ | with_reducible refine Below.drwN ?_ _ | with_reducible refine Below.alc ?_ _ | with_reducible refine Below.cll ?_ ?_ _ | with_reducible refine Below.sz ?_ | with_reducible exact Nat.le_refl _ | with_reducible refine Below.link ?_ (by assumption))) hb19 bkX ltX (by repeat' (first | with_reducible exact Below.refl _ _ | with_reducible refine Below.drw ?_ | with_reducible refine Below.drwN ?_ _ | with_reducible refine Below.alc ?_ _ | with_reducible refine Below.cll ?_ ?_ _ | with_reducible refine Below.sz ?_ | with_reducible exact Nat.le_refl _ | with_reducible refine Below.link ?_ (by assumption))) rfl)
 case rest =>
 obtain ⟨csw0, fw0, gw0, rfl, rfl, ⟨ow0, frw0, ngw0, ggw0, bkw0, hCw0⟩⟩ := hcut
 obtain ⟨wxw0, hwxw0⟩ : ∃ W : World, W = wc := ⟨_, rfl⟩
 subst hwxw0
 obtain ⟨Aw0Vars, nw0Vars, cw0Vars, Aw0Rows, nw0Rows, cw0Rows, rfl, _, _⟩ := rStream_rep.1 ((rStream_ok NB).toRep ow0)
 have z21 := hCw0.size
 try simp only [World.size_alloc] at z21
 have Hz21 := Lib.hid z21; clear z21
 replace hB := hB.trans (hCw0.mono hB.size)
 replace bxDb := bxDb.below hCw0
 replace bxQ := bxQ.below hCw0
 clear HSS11
 have ltw0 := Lib.hid ((rStream_ok NB).lt ow0)
 have fsw0 := frw0
 have HFw0 : Hid (∀ k ∈ fw0, _ ≤ k) := fsw0.ge
 try simp only [World.size_alloc] at HFw0
 have ndw0 := fsw0.nd; have NDw0 := Lib.hid ndw0; clear ndw0 fsw0
 have GGw0 := Lib.hid (And.intro ggw0 (Bk.lt bkw0)); clear ggw0
 have NGw0 := Lib.hid ngw0; clear ngw0
 have bxw0 := Bk.bx bkw0; clear bkw0 hCw0
 have cbxDb_0 := bxDb 0 _ rfl
 go_wp2_with fail
 refine (toDatabase_c _ xDb _ ((rDatabase_ok NB).keep sDb (cells_below hB))).mono ?_
 rintro e w22 ⟨csx0, fx0, rfl, ox0, frx0, hb23⟩
 have z24 := hb23.size
 try simp only [World.size_alloc] at z24
 have Hz24 := Lib.hid z24; clear z24
 replace ow0 := (rStream_ok NB).ownB ow0 hb23
 replace hB := hB.trans (hb23.mono hB.size)
 replace bxDb := bxDb.below hb23
 replace bxQ := bxQ.below hb23
 replace bxw0 := bxw0.below hb23
 clear hb23 cbxDb_0
 have ltx0 := Lib.hid ((rDatabase_ok NB).lt ox0)
 have fsx0 := frx0
 have HFx0 : Hid (∀ k ∈ fx0, _ ≤ k) := fsx0.ge
 try simp only [World.size_alloc] at HFx0
 have ndx0 := fsx0.nd; have NDx0 := Lib.hid ndx0; clear ndx0 fsx0
 obtain ⟨Ax0Tables, nx0Tables, cx0Tables, rfl, _⟩ := rDatabase_rep.1 ((rDatabase_ok NB).toRep ox0)
 have hA25 := (Below.refl w22.heap.size w22).alloc (Nat.le_refl _) (.cells #[.slice Ax0Tables nx0Tables cx0Tables] 73)
 replace ow0 := (rStream_ok NB).ownB ow0 hA25
 replace ox0 := (rDatabase_ok NB).ownB ox0 hA25
 replace hB := hB.trans (hA25.mono hB.size)
 replace bxDb := bxDb.below hA25
 replace bxQ := bxQ.below hA25
 replace bxw0 := bxw0.below hA25
 have bxx0 := Bx.new w22 [.slice Ax0Tables nx0Tables cx0Tables] 73
 clear hA25
 have cbxQ_0 := bxQ 0 _ rfl
 have cbxQ_1 := bxQ 1 _ rfl
 go_wp2_with fail
 refine (toQuery_c _ xQ _ ((rQuery_ok NB).keep sQ (cells_below hB))).mono ?_
 rintro e w26 ⟨csx1, fx1, rfl, ox1, frx1, hb27⟩
 have z28 := hb27.size
 try simp only [World.size_alloc] at z28
 have Hz28 := Lib.hid z28; clear z28
 replace ow0 := (rStream_ok NB).ownB ow0 hb27
 replace ox0 := (rDatabase_ok NB).ownB ox0 hb27
 replace hB := hB.trans (hb27.mono hB.size)
 replace bxDb := bxDb.below hb27
 replace bxQ := bxQ.below hb27
 replace bxw0 := bxw0.below hb27
 replace bxx0 := bxx0.below hb27
 clear hb27 cbxQ_0 cbxQ_1
 have ltx1 := Lib.hid ((rQuery_ok NB).lt ox1)
 have fsx1 := frx1
 have HFx1 : Hid (∀ k ∈ fx1, _ ≤ k) := fsx1.ge
 try simp only [World.size_alloc] at HFx1
 have ndx1 := fsx1.nd; have NDx1 := Lib.hid ndx1; clear ndx1 fsx1
 obtain ⟨Ax1Atoms, nx1Atoms, cx1Atoms, rfl, _, _⟩ := rQuery_rep.1 ((rQuery_ok NB).toRep ox1)
 have hA29 := (Below.refl w26.heap.size w26).alloc (Nat.le_refl _) (.cells #[.int .i64 xQ.fVariableCount, .slice Ax1Atoms nx1Atoms cx1Atoms] 77)
 replace ow0 := (rStream_ok NB).ownB ow0 hA29
 replace ox0 := (rDatabase_ok NB).ownB ox0 hA29
 replace ox1 := (rQuery_ok NB).ownB ox1 hA29
 replace hB := hB.trans (hA29.mono hB.size)
 replace bxDb := bxDb.below hA29
 replace bxQ := bxQ.below hA29
 replace bxw0 := bxw0.below hA29
 replace bxx0 := bxx0.below hA29
 have bxx1 := Bx.new w26 [.int .i64 xQ.fVariableCount, .slice Ax1Atoms nx1Atoms cx1Atoms] 77
 clear hA29
 have cbxx0_0 := bxx0 0 _ rfl
 have cbxx1_0 := bxx1 0 _ rfl
 have cbxx1_1 := bxx1 1 _ rfl
 go_wp2_with fail
 refine (iScanStream_c _ xDb _ xQ _ _ ((rDatabase_ok NB).toRep ox0) ((rQuery_ok NB).toRep ox1)).mono ?_
 rintro e w30 ⟨csg0, fg0, rfl, og0, frg0, hb31⟩
 have z32 := hb31.size
 try simp only [World.size_alloc] at z32
 have Hz32 := Lib.hid z32; clear z32
 replace ow0 := (rStream_ok NB).ownB ow0 hb31
 replace ox0 := (rDatabase_ok NB).ownB ox0 hb31
 replace ox1 := (rQuery_ok NB).ownB ox1 hb31
 replace hB := hB.trans (hb31.mono hB.size)
 replace bxDb := bxDb.below hb31
 replace bxQ := bxQ.below hb31
 replace bxw0 := bxw0.below hb31
 replace bxx0 := bxx0.below hb31
 replace bxx1 := bxx1.below hb31
 clear hb31 cbxx0_0 cbxx1_0 cbxx1_1
 obtain ⟨Ag0Vars, ng0Vars, cg0Vars, Ag0Rows, ng0Rows, cg0Rows, rfl, _, _⟩ := rStream_rep.1 ((rStream_ok NB).toRep og0)
 have ltg0 := Lib.hid ((rStream_ok NB).lt og0)
 have fsg0 := frg0
 have HFg0 : Hid (∀ k ∈ fg0, _ ≤ k) := fsg0.ge
 try simp only [World.size_alloc] at HFg0
 have ndg0 := fsg0.nd; have NDg0 := Lib.hid ndg0; clear ndg0 fsg0
 have hA33 := (Below.refl w30.heap.size w30).alloc (Nat.le_refl _) (.cells #[.slice Ag0Vars ng0Vars cg0Vars, .slice Ag0Rows ng0Rows cg0Rows] 68)
 replace ow0 := (rStream_ok NB).ownB ow0 hA33
 replace ox0 := (rDatabase_ok NB).ownB ox0 hA33
 replace ox1 := (rQuery_ok NB).ownB ox1 hA33
 replace og0 := (rStream_ok NB).ownB og0 hA33
 replace hB := hB.trans (hA33.mono hB.size)
 replace bxDb := bxDb.below hA33
 replace bxQ := bxQ.below hA33
 replace bxw0 := bxw0.below hA33
 replace bxx0 := bxx0.below hA33
 replace bxx1 := bxx1.below hA33
 have bxg0 := Bx.new w30 [.slice Ag0Vars ng0Vars cg0Vars, .slice Ag0Rows ng0Rows cg0Rows] 68
 clear hA33
 have hnei : ∀ v : Int, (v != v) = false := fun v => by simp
 have hneb : ∀ v : Bool, (v == v) = true := fun v => by simp
 have cbxw0_0 := bxw0 0 _ rfl
 have cbxw0_1 := bxw0 1 _ rfl
 have cbxg0_0 := bxg0 0 _ rfl
 have cbxg0_1 := bxg0 1 _ rfl
 go_wp2_with fail
 refine (eqStream_c _ _ ((scan xDb xQ aAtom).1) ((scan xDb xQ aAtom).1) _ ((rStream_ok NB).toRep og0) ((rStream_ok NB).toRep ow0)).mono ?_
 rintro e w34 ⟨rfl, hb35⟩
 have z36 := hb35.size
 try simp only [World.size_alloc] at z36
 have Hz36 := Lib.hid z36; clear z36
 replace ow0 := (rStream_ok NB).ownB ow0 hb35
 replace ox0 := (rDatabase_ok NB).ownB ox0 hb35
 replace ox1 := (rQuery_ok NB).ownB ox1 hb35
 replace og0 := (rStream_ok NB).ownB og0 hb35
 replace hB := hB.trans (hb35.mono hB.size)
 replace bxDb := bxDb.below hb35
 replace bxQ := bxQ.below hb35
 replace bxw0 := bxw0.below hb35
 replace bxx0 := bxx0.below hb35
 replace bxx1 := bxx1.below hb35
 replace bxg0 := bxg0.below hb35
 clear hb35 cbxw0_0 cbxw0_1 cbxg0_0 cbxg0_1
 have hdr37 : decide (((scan xDb xQ aAtom).1) = ((scan xDb xQ aAtom).1)) = true := by simp
 go_wp2_with fail
 have SS38 : ∀ w', Below w34.heap.size w34 w' → (Below w34.heap.size w34 w' ∧ w'.cell? ⟨w.heap.size, 0, none⟩ = some (.slice ADbTables nDbTables cDbTables) ∧ w'.cell? ⟨w22.heap.size, 0, none⟩ = some (.slice Ax0Tables nx0Tables cx0Tables)) := fun w' hb => ⟨hb, bxDb.below hb 0 _ rfl, bxx0.below hb 0 _ rfl⟩
 have HSS38 := Lib.hid SS38; clear SS38
 have tok43 : True := trivial
 have tok47 : True := trivial
 go_region_held3 (fun w' => Below w34.heap.size w34 w' ∧ w'.cell? ⟨w.heap.size, 0, none⟩ = some (.slice ADbTables nDbTables cDbTables) ∧ w'.cell? ⟨w22.heap.size, 0, none⟩ = some (.slice Ax0Tables nx0Tables cx0Tables)) (first | exact HSS38.out _ (Below.refl _ _).drew | exact HSS38.out _ (by assumption)) (first | (go_at_call 32; have _t := tok43; refine (toDatabase_c _ xDb _ ((rDatabase_ok NB).keep sDb (cells_below (hB.trans (Below.mono ((Below.refl w34.heap.size w34).drew) hB.size))))).mono ?_; rintro e w40 ⟨csv39, fv39, rfl, ov39, frv39, hb41⟩; have hC42 : Below w34.heap.size w34 w40 := Below.trans ((Below.refl w34.heap.size w34).drew) (hb41.mono ((Below.refl w34.heap.size w34).drew).size); have Rv39 := (rDatabase_ok NB).toRep ov39; clear tok43) | (go_at_call 36; have _t := tok47; refine (eqDatabase_c _ _ xDb xDb _ ((rDatabase_ok NB).keep ((rDatabase_ok NB).toRep ox0) (cells_below (hC42))) Rv39).mono ?_; rintro e w44 ⟨rfl, hb45⟩; have hC46 : Below w34.heap.size w34 w44 := Below.trans (hC42) (hb45.mono (hC42).size); clear tok47))
 have z48 := hC46.size
 try simp only [World.size_alloc] at z48
 have Hz48 := Lib.hid z48; clear z48
 replace ow0 := (rStream_ok NB).ownB ow0 hC46
 replace ox0 := (rDatabase_ok NB).ownB ox0 hC46
 replace ox1 := (rQuery_ok NB).ownB ox1 hC46
 replace og0 := (rStream_ok NB).ownB og0 hC46
 replace hB := hB.trans (hC46.mono hB.size)
 replace bxDb := bxDb.below hC46
 replace bxQ := bxQ.below hC46
 replace bxw0 := bxw0.below hC46
 replace bxx0 := bxx0.below hC46
 replace bxx1 := bxx1.below hC46
 replace bxg0 := bxg0.below hC46
 clear HSS38 hC46
 have hdx0 : decide (xDb = xDb) = true := by simp
 go_wp2_with fail
 have SS49 : ∀ w', Below w44.heap.size w44 w' → (Below w44.heap.size w44 w' ∧ w'.cell? ⟨w.heap.size + 1, 0, none⟩ = some (.int .i64 xQ.fVariableCount) ∧ w'.cell? ⟨w.heap.size + 1, 1, none⟩ = some (.slice AQAtoms nQAtoms cQAtoms) ∧ w'.cell? ⟨w26.heap.size, 0, none⟩ = some (.int .i64 xQ.fVariableCount) ∧ w'.cell? ⟨w26.heap.size, 1, none⟩ = some (.slice Ax1Atoms nx1Atoms cx1Atoms)) := fun w' hb => ⟨hb, bxQ.below hb 0 _ rfl, bxQ.below hb 1 _ rfl, bxx1.below hb 0 _ rfl, bxx1.below hb 1 _ rfl⟩
 have HSS49 := Lib.hid SS49; clear SS49
 have tok54 : True := trivial
 have tok58 : True := trivial
 go_region_held3 (fun w' => Below w44.heap.size w44 w' ∧ w'.cell? ⟨w.heap.size + 1, 0, none⟩ = some (.int .i64 xQ.fVariableCount) ∧ w'.cell? ⟨w.heap.size + 1, 1, none⟩ = some (.slice AQAtoms nQAtoms cQAtoms) ∧ w'.cell? ⟨w26.heap.size, 0, none⟩ = some (.int .i64 xQ.fVariableCount) ∧ w'.cell? ⟨w26.heap.size, 1, none⟩ = some (.slice Ax1Atoms nx1Atoms cx1Atoms)) (first | exact HSS49.out _ (Below.refl _ _).drew | exact HSS49.out _ (by assumption)) (first | (go_at_call 33; have _t := tok54; refine (toQuery_c _ xQ _ ((rQuery_ok NB).keep sQ (cells_below (hB.trans (Below.mono ((Below.refl w44.heap.size w44).drew) hB.size))))).mono ?_; rintro e w51 ⟨csv50, fv50, rfl, ov50, frv50, hb52⟩; have hC53 : Below w44.heap.size w44 w51 := Below.trans ((Below.refl w44.heap.size w44).drew) (hb52.mono ((Below.refl w44.heap.size w44).drew).size); have Rv50 := (rQuery_ok NB).toRep ov50; clear tok54) | (go_at_call 37; have _t := tok58; refine (eqQuery_c _ _ xQ xQ _ ((rQuery_ok NB).keep ((rQuery_ok NB).toRep ox1) (cells_below (hC53))) Rv50).mono ?_; rintro e w55 ⟨rfl, hb56⟩; have hC57 : Below w44.heap.size w44 w55 := Below.trans (hC53) (hb56.mono (hC53).size); clear tok58))
 have z59 := hC57.size
 try simp only [World.size_alloc] at z59
 have Hz59 := Lib.hid z59; clear z59
 replace ow0 := (rStream_ok NB).ownB ow0 hC57
 replace ox0 := (rDatabase_ok NB).ownB ox0 hC57
 replace ox1 := (rQuery_ok NB).ownB ox1 hC57
 replace og0 := (rStream_ok NB).ownB og0 hC57
 replace hB := hB.trans (hC57.mono hB.size)
 replace bxDb := bxDb.below hC57
 replace bxQ := bxQ.below hC57
 replace bxw0 := bxw0.below hC57
 replace bxx0 := bxx0.below hC57
 replace bxx1 := bxx1.below hC57
 replace bxg0 := bxg0.below hC57
 clear HSS49 hC57
 have hdx1 : decide (xQ = xQ) = true := by simp
 have hcbr : Hid ((cnt_Stream ((scan xDb xQ aAtom).1)) ≤ 1099511627776) := (by show _ ≤ _; exact cnt_scan xDb xQ aAtom)
 have cbxx0_0 := bxx0 0 _ rfl
 go_wp2_with fail
 have hcbw60 : (cnt_Database (xDb)) ≤ 1099511627776 := (by have e := cntb_Database xDb; omega)
 refine (markDatabase_m _ (xDb) 1 _ fx0 ox0 NDx0.out (by omega) (by omega)).mono ?_
 rintro e w60 ⟨rfl, omw60, hc61⟩
 replace hB := hB.trans (hc61.toBelow hB.size (fun k hk => by have := HFx0.out k hk; have := Hz5.out; have := Hz9.out; have := Hz21.out; have := GGw0.out; have := Hz24.out; have := Hz28.out; have := Hz32.out; have := Hz36.out; have := Hz48.out; have := Hz59.out; omega))
 replace bxDb := bxDb.chg hc61 (fun hk => by have := HFx0.out _ hk; have := ltx0.out _ hk; have := Hz5.out; have := Hz9.out; have := Hz21.out; have := GGw0.out; have := Hz24.out; have := Hz28.out; have := Hz32.out; have := Hz36.out; have := Hz48.out; have := Hz59.out; omega)
 replace bxQ := bxQ.chg hc61 (fun hk => by have := HFx0.out _ hk; have := ltx0.out _ hk; have := Hz5.out; have := Hz9.out; have := Hz21.out; have := GGw0.out; have := Hz24.out; have := Hz28.out; have := Hz32.out; have := Hz36.out; have := Hz48.out; have := Hz59.out; omega)
 replace bxw0 := bxw0.chg hc61 (fun hk => by have := HFx0.out _ hk; have := ltx0.out _ hk; have := Hz5.out; have := Hz9.out; have := Hz21.out; have := GGw0.out; have := Hz24.out; have := Hz28.out; have := Hz32.out; have := Hz36.out; have := Hz48.out; have := Hz59.out; omega)
 replace bxx0 := bxx0.chg hc61 (fun hk => by have := HFx0.out _ hk; have := ltx0.out _ hk; have := Hz5.out; have := Hz9.out; have := Hz21.out; have := GGw0.out; have := Hz24.out; have := Hz28.out; have := Hz32.out; have := Hz36.out; have := Hz48.out; have := Hz59.out; omega)
 replace bxx1 := bxx1.chg hc61 (fun hk => by have := HFx0.out _ hk; have := ltx0.out _ hk; have := Hz5.out; have := Hz9.out; have := Hz21.out; have := GGw0.out; have := Hz24.out; have := Hz28.out; have := Hz32.out; have := Hz36.out; have := Hz48.out; have := Hz59.out; omega)
 replace bxg0 := bxg0.chg hc61 (fun hk => by have := HFx0.out _ hk; have := ltx0.out _ hk; have := Hz5.out; have := Hz9.out; have := Hz21.out; have := GGw0.out; have := Hz24.out; have := Hz28.out; have := Hz32.out; have := Hz36.out; have := Hz48.out; have := Hz59.out; omega)
 replace ow0 := (rStream_ok NB).ownC ow0 hc61 (fun k hk hk' => by have := HFw0.out k hk; have := ltw0.out k hk; have := HFx0.out k hk'; have := ltx0.out k hk'; have := Hz5.out; have := Hz9.out; have := Hz21.out; have := GGw0.out; have := Hz24.out; have := Hz28.out; have := Hz32.out; have := Hz36.out; have := Hz48.out; have := Hz59.out; omega)
 replace ox1 := (rQuery_ok NB).ownC ox1 hc61 (fun k hk hk' => by have := HFx1.out k hk; have := ltx1.out k hk; have := HFx0.out k hk'; have := ltx0.out k hk'; have := Hz5.out; have := Hz9.out; have := Hz21.out; have := GGw0.out; have := Hz24.out; have := Hz28.out; have := Hz32.out; have := Hz36.out; have := Hz48.out; have := Hz59.out; omega)
 replace og0 := (rStream_ok NB).ownC og0 hc61 (fun k hk hk' => by have := HFg0.out k hk; have := ltg0.out k hk; have := HFx0.out k hk'; have := ltx0.out k hk'; have := Hz5.out; have := Hz9.out; have := Hz21.out; have := GGw0.out; have := Hz24.out; have := Hz28.out; have := Hz32.out; have := Hz36.out; have := Hz48.out; have := Hz59.out; omega)
 clear ox0; have ox0 := omw60; clear omw60
 have Hz62 := Lib.hid hc61.size
 try simp only [World.size_alloc] at Hz62
 clear hc61 cbxx0_0
 obtain ⟨kk63, hkk63⟩ : ∃ q : Int, q = 1 + ((cnt_Database (xDb)) : Nat) := ⟨_, rfl⟩
 rw [← hkk63]
 have pkk63 : 0 ≤ kk63 := by omega
 have ukk63 : kk63 ≤ 2199023255552 := by omega
 have Hkkk63 := Lib.hid hkk63; clear hkk63 hcbw60
 have cbxx1_0 := bxx1 0 _ rfl
 have cbxx1_1 := bxx1 1 _ rfl
 go_wp2_with fail
 have hcbw64 : (cnt_Query (xQ)) ≤ 1099511627776 := (by have e := cntb_Query xQ; omega)
 refine (markQuery_m _ (xQ) kk63 _ fx1 ox1 NDx1.out (by omega) (by omega)).mono ?_
 rintro e w64 ⟨rfl, omw64, hc65⟩
 replace hB := hB.trans (hc65.toBelow hB.size (fun k hk => by have := HFx1.out k hk; have := Hz5.out; have := Hz9.out; have := Hz21.out; have := GGw0.out; have := Hz24.out; have := Hz28.out; have := Hz32.out; have := Hz36.out; have := Hz48.out; have := Hz59.out; have := Hz62.out; omega))
 replace bxDb := bxDb.chg hc65 (fun hk => by have := HFx1.out _ hk; have := ltx1.out _ hk; have := Hz5.out; have := Hz9.out; have := Hz21.out; have := GGw0.out; have := Hz24.out; have := Hz28.out; have := Hz32.out; have := Hz36.out; have := Hz48.out; have := Hz59.out; have := Hz62.out; omega)
 replace bxQ := bxQ.chg hc65 (fun hk => by have := HFx1.out _ hk; have := ltx1.out _ hk; have := Hz5.out; have := Hz9.out; have := Hz21.out; have := GGw0.out; have := Hz24.out; have := Hz28.out; have := Hz32.out; have := Hz36.out; have := Hz48.out; have := Hz59.out; have := Hz62.out; omega)
 replace bxw0 := bxw0.chg hc65 (fun hk => by have := HFx1.out _ hk; have := ltx1.out _ hk; have := Hz5.out; have := Hz9.out; have := Hz21.out; have := GGw0.out; have := Hz24.out; have := Hz28.out; have := Hz32.out; have := Hz36.out; have := Hz48.out; have := Hz59.out; have := Hz62.out; omega)
 replace bxx0 := bxx0.chg hc65 (fun hk => by have := HFx1.out _ hk; have := ltx1.out _ hk; have := Hz5.out; have := Hz9.out; have := Hz21.out; have := GGw0.out; have := Hz24.out; have := Hz28.out; have := Hz32.out; have := Hz36.out; have := Hz48.out; have := Hz59.out; have := Hz62.out; omega)
 replace bxx1 := bxx1.chg hc65 (fun hk => by have := HFx1.out _ hk; have := ltx1.out _ hk; have := Hz5.out; have := Hz9.out; have := Hz21.out; have := GGw0.out; have := Hz24.out; have := Hz28.out; have := Hz32.out; have := Hz36.out; have := Hz48.out; have := Hz59.out; have := Hz62.out; omega)
 replace bxg0 := bxg0.chg hc65 (fun hk => by have := HFx1.out _ hk; have := ltx1.out _ hk; have := Hz5.out; have := Hz9.out; have := Hz21.out; have := GGw0.out; have := Hz24.out; have := Hz28.out; have := Hz32.out; have := Hz36.out; have := Hz48.out; have := Hz59.out; have := Hz62.out; omega)
 replace ow0 := (rStream_ok NB).ownC ow0 hc65 (fun k hk hk' => by have := HFw0.out k hk; have := ltw0.out k hk; have := HFx1.out k hk'; have := ltx1.out k hk'; have := Hz5.out; have := Hz9.out; have := Hz21.out; have := GGw0.out; have := Hz24.out; have := Hz28.out; have := Hz32.out; have := Hz36.out; have := Hz48.out; have := Hz59.out; have := Hz62.out; omega)
 replace ox0 := (rDatabase_ok NB).ownC ox0 hc65 (fun k hk hk' => by have := HFx0.out k hk; have := ltx0.out k hk; have := HFx1.out k hk'; have := ltx1.out k hk'; have := Hz5.out; have := Hz9.out; have := Hz21.out; have := GGw0.out; have := Hz24.out; have := Hz28.out; have := Hz32.out; have := Hz36.out; have := Hz48.out; have := Hz59.out; have := Hz62.out; omega)
 replace og0 := (rStream_ok NB).ownC og0 hc65 (fun k hk hk' => by have := HFg0.out k hk; have := ltg0.out k hk; have := HFx1.out k hk'; have := ltx1.out k hk'; have := Hz5.out; have := Hz9.out; have := Hz21.out; have := GGw0.out; have := Hz24.out; have := Hz28.out; have := Hz32.out; have := Hz36.out; have := Hz48.out; have := Hz59.out; have := Hz62.out; omega)
 clear ox1; have ox1 := omw64; clear omw64
 have Hz66 := Lib.hid hc65.size
 try simp only [World.size_alloc] at Hz66
 clear hc65 cbxx1_0 cbxx1_1
 obtain ⟨kk67, hkk67⟩ : ∃ q : Int, q = kk63 + ((cnt_Query (xQ)) : Nat) := ⟨_, rfl⟩
 rw [← hkk67]
 have pkk67 : 0 ≤ kk67 := by omega
 have ukk67 : kk67 ≤ 4398046511104 := by omega
 have Hkkk67 := Lib.hid hkk67; clear hkk67 hcbw64
 have cbxw0_0 := bxw0 0 _ rfl
 have cbxw0_1 := bxw0 1 _ rfl
 have cbxg0_0 := bxg0 0 _ rfl
 have cbxg0_1 := bxg0 1 _ rfl
 go_wp2_with fail
 refine (eqStream_c _ _ ((scan xDb xQ aAtom).1) ((scan xDb xQ aAtom).1) _ ((rStream_ok NB).toRep og0) ((rStream_ok NB).toRep ow0)).mono ?_
 rintro e w68 ⟨rfl, hb69⟩
 have z70 := hb69.size
 try simp only [World.size_alloc] at z70
 have Hz70 := Lib.hid z70; clear z70
 replace ow0 := (rStream_ok NB).ownB ow0 hb69
 replace ox0 := (rDatabase_ok NB).ownB ox0 hb69
 replace ox1 := (rQuery_ok NB).ownB ox1 hb69
 replace og0 := (rStream_ok NB).ownB og0 hb69
 replace hB := hB.trans (hb69.mono hB.size)
 replace bxDb := bxDb.below hb69
 replace bxQ := bxQ.below hb69
 replace bxw0 := bxw0.below hb69
 replace bxx0 := bxx0.below hb69
 replace bxx1 := bxx1.below hb69
 replace bxg0 := bxg0.below hb69
 clear hb69 cbxw0_0 cbxw0_1 cbxg0_0 cbxg0_1
 have hdr71 : decide (((scan xDb xQ aAtom).1) = ((scan xDb xQ aAtom).1)) = true := by simp
 have cbxg0_0 := bxg0 0 _ rfl
 have cbxg0_1 := bxg0 1 _ rfl
 go_wp2_with fail
 have hcbw72 : (cnt_Stream ((scan xDb xQ aAtom).1)) ≤ 1099511627776 := hcbr.out
 refine (markStream_m _ ((scan xDb xQ aAtom).1) 1 _ fg0 og0 NDg0.out (by omega) (by omega)).mono ?_
 rintro e w72 ⟨rfl, omw72, hc73⟩
 replace hB := hB.trans (hc73.toBelow hB.size (fun k hk => by have := HFg0.out k hk; have := Hz5.out; have := Hz9.out; have := Hz21.out; have := GGw0.out; have := Hz24.out; have := Hz28.out; have := Hz32.out; have := Hz36.out; have := Hz48.out; have := Hz59.out; have := Hz62.out; have := Hz66.out; have := Hz70.out; omega))
 replace bxDb := bxDb.chg hc73 (fun hk => by have := HFg0.out _ hk; have := ltg0.out _ hk; have := Hz5.out; have := Hz9.out; have := Hz21.out; have := GGw0.out; have := Hz24.out; have := Hz28.out; have := Hz32.out; have := Hz36.out; have := Hz48.out; have := Hz59.out; have := Hz62.out; have := Hz66.out; have := Hz70.out; omega)
 replace bxQ := bxQ.chg hc73 (fun hk => by have := HFg0.out _ hk; have := ltg0.out _ hk; have := Hz5.out; have := Hz9.out; have := Hz21.out; have := GGw0.out; have := Hz24.out; have := Hz28.out; have := Hz32.out; have := Hz36.out; have := Hz48.out; have := Hz59.out; have := Hz62.out; have := Hz66.out; have := Hz70.out; omega)
 replace bxw0 := bxw0.chg hc73 (fun hk => by have := HFg0.out _ hk; have := ltg0.out _ hk; have := Hz5.out; have := Hz9.out; have := Hz21.out; have := GGw0.out; have := Hz24.out; have := Hz28.out; have := Hz32.out; have := Hz36.out; have := Hz48.out; have := Hz59.out; have := Hz62.out; have := Hz66.out; have := Hz70.out; omega)
 replace bxx0 := bxx0.chg hc73 (fun hk => by have := HFg0.out _ hk; have := ltg0.out _ hk; have := Hz5.out; have := Hz9.out; have := Hz21.out; have := GGw0.out; have := Hz24.out; have := Hz28.out; have := Hz32.out; have := Hz36.out; have := Hz48.out; have := Hz59.out; have := Hz62.out; have := Hz66.out; have := Hz70.out; omega)
 replace bxx1 := bxx1.chg hc73 (fun hk => by have := HFg0.out _ hk; have := ltg0.out _ hk; have := Hz5.out; have := Hz9.out; have := Hz21.out; have := GGw0.out; have := Hz24.out; have := Hz28.out; have := Hz32.out; have := Hz36.out; have := Hz48.out; have := Hz59.out; have := Hz62.out; have := Hz66.out; have := Hz70.out; omega)
 replace bxg0 := bxg0.chg hc73 (fun hk => by have := HFg0.out _ hk; have := ltg0.out _ hk; have := Hz5.out; have := Hz9.out; have := Hz21.out; have := GGw0.out; have := Hz24.out; have := Hz28.out; have := Hz32.out; have := Hz36.out; have := Hz48.out; have := Hz59.out; have := Hz62.out; have := Hz66.out; have := Hz70.out; omega)
 replace ow0 := (rStream_ok NB).ownC ow0 hc73 (fun k hk hk' => by have := HFw0.out k hk; have := ltw0.out k hk; have := HFg0.out k hk'; have := ltg0.out k hk'; have := Hz5.out; have := Hz9.out; have := Hz21.out; have := GGw0.out; have := Hz24.out; have := Hz28.out; have := Hz32.out; have := Hz36.out; have := Hz48.out; have := Hz59.out; have := Hz62.out; have := Hz66.out; have := Hz70.out; omega)
 replace ox0 := (rDatabase_ok NB).ownC ox0 hc73 (fun k hk hk' => by have := HFx0.out k hk; have := ltx0.out k hk; have := HFg0.out k hk'; have := ltg0.out k hk'; have := Hz5.out; have := Hz9.out; have := Hz21.out; have := GGw0.out; have := Hz24.out; have := Hz28.out; have := Hz32.out; have := Hz36.out; have := Hz48.out; have := Hz59.out; have := Hz62.out; have := Hz66.out; have := Hz70.out; omega)
 replace ox1 := (rQuery_ok NB).ownC ox1 hc73 (fun k hk hk' => by have := HFx1.out k hk; have := ltx1.out k hk; have := HFg0.out k hk'; have := ltg0.out k hk'; have := Hz5.out; have := Hz9.out; have := Hz21.out; have := GGw0.out; have := Hz24.out; have := Hz28.out; have := Hz32.out; have := Hz36.out; have := Hz48.out; have := Hz59.out; have := Hz62.out; have := Hz66.out; have := Hz70.out; omega)
 clear og0; have og0 := omw72; clear omw72
 have Hz74 := Lib.hid hc73.size
 try simp only [World.size_alloc] at Hz74
 clear hc73 cbxg0_0 cbxg0_1
 obtain ⟨kk75, hkk75⟩ : ∃ q : Int, q = 1 + ((cnt_Stream ((scan xDb xQ aAtom).1)) : Nat) := ⟨_, rfl⟩
 rw [← hkk75]
 have pkk75 : 0 ≤ kk75 := by omega
 have ukk75 : kk75 ≤ 2199023255552 := by omega
 have Hkkk75 := Lib.hid hkk75; clear hkk75 hcbw72
 have cbxg0_0 := bxg0 0 _ rfl
 have cbxg0_1 := bxg0 1 _ rfl
 go_wp2_with fail
 have hcbw76 : (cnt_Stream ((scan xDb xQ aAtom).1)) ≤ 1099511627776 := hcbr.out
 refine (heldStream_m _ ((scan xDb xQ aAtom).1) 1 _ ((rStream_ok NB).toRep og0) (by omega) (by omega)).mono ?_
 rintro e w76 ⟨rfl, hb77⟩
 have z78 := hb77.size
 try simp only [World.size_alloc] at z78
 have Hz78 := Lib.hid z78; clear z78
 replace ow0 := (rStream_ok NB).ownB ow0 hb77
 replace ox0 := (rDatabase_ok NB).ownB ox0 hb77
 replace ox1 := (rQuery_ok NB).ownB ox1 hb77
 replace og0 := (rStream_ok NB).ownB og0 hb77
 replace hB := hB.trans (hb77.mono hB.size)
 replace bxDb := bxDb.below hb77
 replace bxQ := bxQ.below hb77
 replace bxw0 := bxw0.below hb77
 replace bxx0 := bxx0.below hb77
 replace bxx1 := bxx1.below hb77
 replace bxg0 := bxg0.below hb77
 clear hb77 hcbw76 cbxg0_0 cbxg0_1
 rw [← Hkkk75.out]
 go_upto_region 31 with fail
 have SS79 : ∀ w', Below w76.heap.size w76 w' → (w'.cell? ⟨w.heap.size, 0, none⟩ = some (.slice ADbTables nDbTables cDbTables) ∧ w'.cell? ⟨w.heap.size + 1, 0, none⟩ = some (.int .i64 xQ.fVariableCount) ∧ w'.cell? ⟨w.heap.size + 1, 1, none⟩ = some (.slice AQAtoms nQAtoms cQAtoms)) := fun w' hb => ⟨bxDb.below hb 0 _ rfl, bxQ.below hb 0 _ rfl, bxQ.below hb 1 _ rfl⟩
 have HSS79 := Lib.hid SS79; clear SS79
 go_cut [17, 18] (fun s17 s18 wx => ∃ (cs : List Value) (f : List Nat) (g : Nat), s17 = .pointer (some ⟨g, 0, none⟩) ∧ s18 = .bool (scan xDb xQ aAtom).2 ∧ Left (rStream NB) 68 ((scan xDb xQ aAtom).1) w76 g f cs wx)
 case first =>
  go_region_held3 (fun w' => w'.cell? ⟨w.heap.size, 0, none⟩ = some (.slice ADbTables nDbTables cDbTables) ∧ w'.cell? ⟨w.heap.size + 1, 0, none⟩ = some (.int .i64 xQ.fVariableCount) ∧ w'.cell? ⟨w.heap.size + 1, 1, none⟩ = some (.slice AQAtoms nQAtoms cQAtoms)) (exact HSS79.out _ (by repeat' (first | with_reducible exact Below.refl _ _ | with_reducible refine Below.drw ?_ | with_reducible refine Below.drwN ?_ _ | with_reducible refine Below.alc ?_ _ | with_reducible refine Below.cll ?_ ?_ _ | with_reducible refine Below.sz ?_ | with_reducible exact Nat.le_refl _ | with_reducible refine Below.link ?_ (by assumption)))) (first | (go_at_call 32; refine (toDatabase_c _ xDb _ ((rDatabase_ok NB).keep sDb (cells_below (Below.link hB (by repeat' (first | with_reducible exact Below.refl _ _ | with_reducible refine Below.drw ?_ | with_reducible refine Below.drwN ?_ _ | with_reducible refine Below.alc ?_ _ | with_reducible refine Below.cll ?_ ?_ _ | with_reducible refine Below.sz ?_ | with_reducible exact Nat.le_refl _ | with_reducible refine Below.link ?_ (by assumption))))))).mono ?_; rintro e w81 ⟨csv80, fv80, rfl, ov80, frv80, hb82⟩; have Rv80 := (rDatabase_ok NB).toRep ov80; (try clear ltX); ((try have ltX := Bk.lt bkX); (try replace bkX := Bk.below bkX hb82); (try have bkX := Bk.made hb82); (try have bkX := Bk.madeD hb82); (try have ltX := Bk.madeLt hb82); (try have ltX := Bk.madeLtD hb82))) | (go_at_call 33; refine (toQuery_c _ xQ _ ((rQuery_ok NB).keep sQ (cells_below (Below.link hB (by repeat' (first | with_reducible exact Below.refl _ _ | with_reducible refine Below.drw ?_ | with_reducible refine Below.drwN ?_ _ | with_reducible refine Below.alc ?_ _ | with_reducible refine Below.cll ?_ ?_ _ | with_reducible refine Below.sz ?_ | with_reducible exact Nat.le_refl _ | with_reducible refine Below.link ?_ (by assumption))))))).mono ?_; rintro e w84 ⟨csv83, fv83, rfl, ov83, frv83, hb85⟩; have Rv83 := (rQuery_ok NB).toRep ov83; (try clear ltX); ((try have ltX := Bk.lt bkX); (try replace bkX := Bk.below bkX hb85); (try have bkX := Bk.made hb85); (try have bkX := Bk.madeD hb85); (try have ltX := Bk.madeLt hb85); (try have ltX := Bk.madeLtD hb85))) | (go_at_call 34; refine (iScanStream_c _ xDb _ xQ _ _ ((rDatabase_ok NB).keep Rv80 (cells_below (by repeat' (first | with_reducible exact Below.refl _ _ | with_reducible refine Below.drw ?_ | with_reducible refine Below.drwN ?_ _ | with_reducible refine Below.alc ?_ _ | with_reducible refine Below.cll ?_ ?_ _ | with_reducible refine Below.sz ?_ | with_reducible exact Nat.le_refl _ | with_reducible refine Below.link ?_ (by assumption))))) ((rQuery_ok NB).keep Rv83 (cells_below (by repeat' (first | with_reducible exact Below.refl _ _ | with_reducible refine Below.drw ?_ | with_reducible refine Below.drwN ?_ _ | with_reducible refine Below.alc ?_ _ | with_reducible refine Below.cll ?_ ?_ _ | with_reducible refine Below.sz ?_ | with_reducible exact Nat.le_refl _ | with_reducible refine Below.link ?_ (by assumption)))))).mono ?_; rintro e w86 ⟨csh0, fh0, rfl, oh0, frh0, hb87⟩; obtain ⟨Ah0Vars, nh0Vars, ch0Vars, Ah0Rows, nh0Rows, ch0Rows, rfl, _, _⟩ := rStream_rep.1 ((rStream_ok NB).toRep oh0); (try clear ltX); ((try have ltX := Bk.lt bkX); (try replace bkX := Bk.below bkX hb87); (try have bkX := Bk.made hb87); (try have bkX := Bk.madeD hb87); (try have ltX := Bk.madeLt hb87); (try have ltX := Bk.madeLtD hb87)); (try have jf := bkX.frozen); (try have jc0 := bkX.bx 0 _ rfl); (try have jc1 := bkX.bx 1 _ rfl)))
  all_goals (
   (go_wp2_with fail)
   go_meet
   refine ⟨[.slice Ah0Vars nh0Vars ch0Vars, .slice Ah0Rows nh0Rows ch0Rows], fh0, _, rfl, rfl, ?_⟩
   first
    | exact Left.last (rStream_ok NB) oh0 frh0 (by repeat' (first | with_reducible exact Below.refl _ _ | with_reducible refine Below.drw ?_ | with_reducible refine Below.drwN ?_ _ | with_reducible refine Below.alc ?_ _ | with_reducible refine Below.cll ?_ ?_ _ | with_reducible refine Below.sz ?_ | with_reducible exact Nat.le_refl _ | with_reducible refine Below.link ?_ (by assumption))) hb87
    | exact Left.first (rStream_ok NB) oh0 frh0 (by repeat' (first | with_reducible exact Below.refl _ _ | with_reducible refine Below.drw ?_ | with_reducible refine Below.drwN ?_ _ | with_reducible refine Below.alc ?_ _ | with_reducible refine Below.cll ?_ ?_ _ | with_reducible refine Below.sz ?_ | with_reducible exact Nat.le_refl _ | with_reducible refine Below.link ?_ (by assumption))) hb87 bkX ltX (by repeat' (first | with_reducible exact Below.refl _ _ | with_reducible refine Below.drw ?_ | with_reducible refine Below.drwN ?_ _ | with_reducible refine Below.alc ?_ _ | with_reducible refine Below.cll ?_ ?_ _ | with_reducible refine Below.sz ?_ | with_reducible exact Nat.le_refl _ | with_reducible refine Below.link ?_ (by assumption))) rfl)
 case rest =>
 obtain ⟨csh0, fh0, gh0, rfl, rfl, ⟨oh0, frh0, ngh0, ggh0, bkh0, hCh0⟩⟩ := hcut
 obtain ⟨wxh0, hwxh0⟩ : ∃ W : World, W = wc := ⟨_, rfl⟩
 subst hwxh0
 obtain ⟨Ah0Vars, nh0Vars, ch0Vars, Ah0Rows, nh0Rows, ch0Rows, rfl, _, _⟩ := rStream_rep.1 ((rStream_ok NB).toRep oh0)
 have z89 := hCh0.size
 try simp only [World.size_alloc] at z89
 have Hz89 := Lib.hid z89; clear z89
 replace ow0 := (rStream_ok NB).ownB ow0 hCh0
 replace ox0 := (rDatabase_ok NB).ownB ox0 hCh0
 replace ox1 := (rQuery_ok NB).ownB ox1 hCh0
 replace og0 := (rStream_ok NB).ownB og0 hCh0
 replace hB := hB.trans (hCh0.mono hB.size)
 replace bxDb := bxDb.below hCh0
 replace bxQ := bxQ.below hCh0
 replace bxw0 := bxw0.below hCh0
 replace bxx0 := bxx0.below hCh0
 replace bxx1 := bxx1.below hCh0
 replace bxg0 := bxg0.below hCh0
 clear HSS79
 have lth0 := Lib.hid ((rStream_ok NB).lt oh0)
 have fsh0 := frh0
 have HFh0 : Hid (∀ k ∈ fh0, _ ≤ k) := fsh0.ge
 try simp only [World.size_alloc] at HFh0
 have ndh0 := fsh0.nd; have NDh0 := Lib.hid ndh0; clear ndh0 fsh0
 have GGh0 := Lib.hid (And.intro ggh0 (Bk.lt bkh0)); clear ggh0
 have NGh0 := Lib.hid ngh0; clear ngh0
 have bxh0 := Bk.bx bkh0; clear bkh0 hCh0
 have cbxw0_0 := bxw0 0 _ rfl
 have cbxw0_1 := bxw0 1 _ rfl
 have cbxh0_0 := bxh0 0 _ rfl
 have cbxh0_1 := bxh0 1 _ rfl
 go_wp2_with fail
 refine (eqStream_c _ _ ((scan xDb xQ aAtom).1) ((scan xDb xQ aAtom).1) _ ((rStream_ok NB).toRep oh0) ((rStream_ok NB).toRep ow0)).mono ?_
 rintro e w90 ⟨rfl, hb91⟩
 have z92 := hb91.size
 try simp only [World.size_alloc] at z92
 have Hz92 := Lib.hid z92; clear z92
 replace ow0 := (rStream_ok NB).ownB ow0 hb91
 replace ox0 := (rDatabase_ok NB).ownB ox0 hb91
 replace ox1 := (rQuery_ok NB).ownB ox1 hb91
 replace og0 := (rStream_ok NB).ownB og0 hb91
 replace oh0 := (rStream_ok NB).ownB oh0 hb91
 replace hB := hB.trans (hb91.mono hB.size)
 replace bxDb := bxDb.below hb91
 replace bxQ := bxQ.below hb91
 replace bxw0 := bxw0.below hb91
 replace bxx0 := bxx0.below hb91
 replace bxx1 := bxx1.below hb91
 replace bxg0 := bxg0.below hb91
 replace bxh0 := bxh0.below hb91
 clear hb91 cbxw0_0 cbxw0_1 cbxh0_0 cbxh0_1
 have hdr93 : decide (((scan xDb xQ aAtom).1) = ((scan xDb xQ aAtom).1)) = true := by simp
 have cbxg0_0 := bxg0 0 _ rfl
 have cbxg0_1 := bxg0 1 _ rfl
 go_wp2_with fail
 have hcbw94 : (cnt_Stream ((scan xDb xQ aAtom).1)) ≤ 1099511627776 := hcbr.out
 refine (heldStream_m _ ((scan xDb xQ aAtom).1) 1 _ ((rStream_ok NB).toRep og0) (by omega) (by omega)).mono ?_
 rintro e w94 ⟨rfl, hb95⟩
 have z96 := hb95.size
 try simp only [World.size_alloc] at z96
 have Hz96 := Lib.hid z96; clear z96
 replace ow0 := (rStream_ok NB).ownB ow0 hb95
 replace ox0 := (rDatabase_ok NB).ownB ox0 hb95
 replace ox1 := (rQuery_ok NB).ownB ox1 hb95
 replace og0 := (rStream_ok NB).ownB og0 hb95
 replace oh0 := (rStream_ok NB).ownB oh0 hb95
 replace hB := hB.trans (hb95.mono hB.size)
 replace bxDb := bxDb.below hb95
 replace bxQ := bxQ.below hb95
 replace bxw0 := bxw0.below hb95
 replace bxx0 := bxx0.below hb95
 replace bxx1 := bxx1.below hb95
 replace bxg0 := bxg0.below hb95
 replace bxh0 := bxh0.below hb95
 clear hb95 hcbw94 cbxg0_0 cbxg0_1
 rw [← Hkkk75.out]
 go_wp2
 go_ret
 exact ⟨rfl, hB⟩

set_option maxRecDepth 100000 in
theorem lifted (os : Os) (started : os.Started) (H : Type) (enc : TypeId × Value → H) :
  ReturnsInHanded {} Try.checked os 5 .any (Rows.fnExactScanStreamSpec.pre6 enc Try.prog Try.f5 Rows.fnExactScanStreamRow.domain false) (Rows.fnExactScanStreamSpec.post enc Try.prog Try.f5 false true false false) := by
 refine returnsInHanded_of_change (C := Try.checked) own started (by kernel_rfl) Try.func5
  (ChangeSpec.witness6 (enc := enc) (C := Try.checked) false ⟨#[], #[.agg #[.slice none 0 0], .agg #[.int .i64 0, .slice none 0 0], .int .i64 0], []⟩ 8 (by kernel_rfl) (by kernel_rfl) (by kernel_rfl) (by kernel_rfl)) ?_
 intro W base args ds gs before hval0 hW hcnd _
 have hval : ∀ (j : Nat) t v, Try.f5.params[j]? = some t → args[j]? = some v → Value.okWide Try.prog W .any base t v := hval0
 have hW' := hW
 obtain ⟨p, q, hA0, hV, rfl, hfz, hnd⟩ := hW
 have hA : DataW.TrodAll enc Try.prog W 0 (fun _ => true) true Try.f5.params.toList args.toList ds p := hA0
 rw [Try.params5] at hA hval
 obtain ⟨v0, vs0, d0, ds0, p0, q0, hargs, rfl, rfl, h0, r0⟩ := trodAll_cons hA
 obtain ⟨v1, vs1, d1, ds1, p1, q1, rfl, rfl, rfl, h1, r1⟩ := trodAll_cons r0
 obtain ⟨v2, vs2, d2, ds2, p2, q2, rfl, rfl, rfl, h2, r2⟩ := trodAll_cons r1
 obtain ⟨rfl, rfl, rfl⟩ := trodAll_nil r2
 obtain rfl : args = #[v0, v1, v2] := by cases args; simp_all
 obtain ⟨rfl, rfl⟩ := trodVars_none hV
 obtain ⟨ca0, rfl, _⟩ := okWide_struct Try.underlying60 (hval 0 60 v0 rfl rfl)
 obtain ⟨cl0⟩ := ca0
 have k0 := h0
 have lt0 : ∀ x ∈ p0, x.block < W.heap.size := by obtain ⟨m, hm⟩ := k0; exact DataW.trod_lt m _ _ _ hm
 obtain ⟨x0, g0⟩ : ∃ x, (rDatabase maxLen).rep W cl0 x := by
  obtain ⟨fuel, hf⟩ := h0
  exact opensDatabase hf
 obtain ⟨ca1, rfl, _⟩ := okWide_struct Try.underlying63 (hval 1 63 v1 rfl rfl)
 obtain ⟨cl1⟩ := ca1
 have k1 := h1
 have lt1 : ∀ x ∈ p1, x.block < W.heap.size := by obtain ⟨m, hm⟩ := k1; exact DataW.trod_lt m _ _ _ hm
 obtain ⟨x1, g1⟩ : ∃ x, (rQuery maxLen).rep W cl1 x := by
  obtain ⟨fuel, hf⟩ := h1
  exact opensQuery hf
 obtain ⟨a2, rfl, rfl, rfl, w2⟩ := open_int Try.underlying3 (hval 2 3 v2 rfl rfl) h2
 clear hA0 hval0
 refine (walk cl0 x0 cl1 x1 a2 W g0 g1 (bounds_i64 w2)).mono fun e W' ⟨he, bel⟩ => ?_
 subst he
 exact ⟨_, rfl, _, _, _, [], _, [], hW', trodAll_mk1 (shut_bool Try.underlying4 _), (trodAll_cons_mk (Below.trod laidOut (by kernel_rfl) (of_decide_eq_true (by kernel_rfl)) k0 bel lt0) (trodAll_cons_mk (Below.trod laidOut (by kernel_rfl) (of_decide_eq_true (by kernel_rfl)) k1 bel lt1) (trodAll_cons_mk (shut_int Try.underlying3 w2) trodAll_mk0))), rfl, bel.frame _, fun h => by cases h⟩

theorem over : Rows.fnExactScanStreamRow.holds Try.pinned (OpenSpec.ofChange Rows.fnExactScanStreamSpec) :=
 OpenClaim.holds_of_wide 5 Try.f5 rfl rfl rfl rfl rfl rfl rfl ⟨rfl, rfl, rfl, rfl, rfl⟩ rfl rfl rfl rfl rfl (by kernel_rfl) Try.func5 (by kernel_rfl)
  (of_decide_eq_true (by kernel_rfl)) (by unfold Func.isWrapper; first | (rw [if_pos (by decide +kernel)]; kernel_rfl) | (rw [if_neg (by decide +kernel)]; exact ⟨rfl, rfl⟩))
  (fun os started H enc _ => lifted os started H enc)

theorem proved : Rows.FnExactScanStreamSaid := over
#print axioms proved
end Go.Proofs.Ytkdajdafhjobbaa.fnExactScanStream
