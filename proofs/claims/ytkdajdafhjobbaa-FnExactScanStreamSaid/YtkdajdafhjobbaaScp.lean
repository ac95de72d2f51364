/-
  Scp
-/
import Derived.Test.YtkdajdafhjobbaaQf
import Derived.Test.YtkdajdafhjobbaaMsk
import Derived.Test.YtkdajdafhjobbaaStrP
import Derived.Test.YtkdajdafhjobbaaJnS
namespace Go.Proofs.Ytkdajdafhjobbaa
open Go.RowKit
set_option linter.unusedVariables false
set_option linter.unusedSimpArgs false
def scanRow (av V row : List Int) : List Int := V.map fun v => (lk av row v).getD 0
theorem scanRow_snoc {av V row : List Int} {k : Nat} {v z : Int} (hv : V[k]? = some v) (hz : lk av row v = some z) : scanRow av (V.take (k + 1)) row = scanRow av (V.take k) row ++ [z] := by
 unfold scanRow; rw [take_snoc hv, List.map_append]; simp [hz]
/-- what a scan hands back -/
def scan (d : DatabaseD) (q : QueryD) (i : Int) : StreamD × Bool :=
 if queryFor d q && inR i 0 ((q.fAtoms.length : Int) - 1) then
  (match q.fAtoms[i.toNat]? with | some a => (⟨sortI a.fVars, (lookup d a.fName).1.fRows.map (scanRow a.fVars (sortI a.fVars))⟩, true) | none => (⟨[], []⟩, false))
 else (⟨[], []⟩, false)
theorem scan_no1 {d : DatabaseD} {q : QueryD} {i : Int} (h : queryFor d q = false) : scan d q i = (⟨[], []⟩, false) := by simp [scan, h]
theorem scan_no2 {d : DatabaseD} {q : QueryD} {i : Int} (h : inR i 0 ((q.fAtoms.length : Int) - 1) = false) : scan d q i = (⟨[], []⟩, false) := by simp [scan, h]
theorem scan_yes {d : DatabaseD} {q : QueryD} {k : Nat} {a : AtomD} {t : TableD} (h1 : queryFor d q = true) (ha : q.fAtoms[k]? = some a) (ht : lookup d a.fName = (t, true)) : scan d q (k : Int) = (⟨sortI a.fVars, t.fRows.map (scanRow a.fVars (sortI a.fVars))⟩, true) := by
 have hk := lt_of_at ha
 have h2 : inR (k : Int) 0 ((q.fAtoms.length : Int) - 1) = true := inR_t.2 ⟨by omega, by omega⟩
 simp [scan, h1, h2, ha, ht]
theorem lookup_valid {d : DatabaseD} {nm : ByteArray} {t : TableD} (h : lookup d nm = (t, true)) : validTable t = true := by
 unfold lookup at h
 split at h
 ·rename_i hv
  split at h
  ·rename_i t' hf
   injection h with h _; subst h
   have hm := List.mem_of_find?_eq_some hf
   unfold validDb at hv
   simp only [Bool.and_eq_true, List.all_eq_true] at hv
   exact hv.1 _ hm
  ·injection h with _ h; cases h
 ·injection h with _ h; cases h
theorem table_rows {t : TableD} (h : validTable t = true) {r : List Int} (hr : r ∈ t.fRows) : (r.length : Int) = t.fArity ∧ ∀ v ∈ r, 0 ≤ v ∧ v ≤ 9 := by
 unfold validTable at h
 simp only [Bool.and_eq_true, List.all_eq_true] at h
 have h1 := h.2.2.2.1 r hr
 unfold rowOk at h1
 simp only [Bool.and_eq_true, List.all_eq_true, decide_eq_true_eq] at h1
 exact ⟨h1.2, fun v hv => inR_t.1 (h1.1 v hv)⟩
theorem queryFor_parts {d : DatabaseD} {q : QueryD} (h : queryFor d q = true) : validQ q = true ∧ ∀ a ∈ q.fAtoms, ∃ t, lookup d a.fName = (t, true) ∧ t.fArity = (a.fVars.length : Int) ∧ ∀ r ∈ t.fRows, r.length = a.fVars.length ∧ ∀ v ∈ r, 0 ≤ v ∧ v ≤ 9 := by
 unfold queryFor at h
 simp only [Bool.and_eq_true, List.all_eq_true] at h
 refine ⟨h.1, fun a ha => ?_⟩
 have h1 := h.2 a ha
 unfold atomIn at h1
 simp only [Bool.and_eq_true, decide_eq_true_eq] at h1
 have e : lookup d a.fName = ((lookup d a.fName).1, true) := by rw [← h1.1]
 refine ⟨_, e, h1.2, fun r hr => ?_⟩
 have h3 := table_rows (lookup_valid e) hr
 exact ⟨by omega, h3.2⟩
theorem atom_nodup {vc : Int} {a : AtomD} (h : atomOk vc a = true) : a.fVars.Nodup := by
 have h5 := (atomOk_parts h).2.2.2.2
 rw [List.nodup_iff_pairwise_ne, List.pairwise_iff_getElem]
 intro i j hi hj hij
 have := h5 j hj
 simp only [varOk, List.getElem?_eq_getElem hj, Bool.and_eq_true, Bool.not_eq_true'] at this
 intro he
 have hc : (a.fVars.take j).contains a.fVars[j] = true := by
  rw [List.contains_iff_mem, ← he]
  exact List.mem_take_iff_getElem.2 ⟨i, by omega, rfl⟩
 rw [hc] at this; cases this.2
theorem sortI_mem {l : List Int} {x : Int} : x ∈ sortI l ↔ x ∈ l := (sortI_perm l).mem_iff
theorem sortI_lt {l : List Int} (h : l.Nodup) : (sortI l).Pairwise (· < ·) := by
 have h1 := sortI_pw l
 have h2 : (sortI l).Nodup := (sortI_perm l).nodup_iff.2 h
 rw [List.nodup_iff_pairwise_ne] at h2
 exact (h1.and h2).imp (fun h => by omega)
theorem scan_vars {q : QueryD} (h : validQ q = true) {k : Nat} {a : AtomD} (ha : q.fAtoms[k]? = some a) : maskVarsL q (pow2 (k : Int)) = sortI a.fVars := by
 have hp := validQ_parts h
 have hk := lt_of_at ha
 have hm : maskOk q (pow2 (k : Int)) = true := by
  unfold maskOk
  rw [h, Bool.true_and, inR_t]
  have h1 := pow2_pos (k : Int)
  have h2 : (2 : Nat) ^ k < 2 ^ q.fAtoms.length := Nat.pow_lt_pow_right (by omega) hk
  unfold pow2 at *
  rw [Int.toNat_natCast] at *
  rw [Int.toNat_natCast]
  omega
 unfold maskVarsL
 rw [if_pos hm]
 refine pw_eq (listV_pw _ _) (sortI_lt (atom_nodup (hp.2.2.2.2.1 a (mem_of_at ha)))) fun x => ?_
 rw [listV_mem, sortI_mem, mbit_bitsQ h]
 constructor
 ·rintro ⟨h0, h4, hv⟩
  have hv' : hasV q.fAtoms (pow2 (k : Int)) x = true := by rw [Int.toNat_of_nonneg h0] at hv; exact hv
  obtain ⟨i, b, hb, hi, hx⟩ := hasV_iff.1 hv'
  rw [mbit_pow, decide_eq_true_eq, Int.toNat_natCast] at hi
  subst hi
  rw [ha] at hb; injection hb with hb; subst hb; exact hx
 ·intro hx
  have hb := validQ_var h (mem_of_at ha) hx
  refine ⟨hb.1, by omega, ?_⟩
  rw [Int.toNat_of_nonneg hb.1]
  exact hasV_iff.2 ⟨k, a, ha, by rw [mbit_pow]; simp, hx⟩
theorem scan_at {av row V : List Int} (hl : row.length = av.length) (hV : ∀ v ∈ V, v ∈ av) {k : Nat} {v : Int} (hv : V[k]? = some v) : ∃ (j : Nat) (z : Int), idxOf (fun b => b == v) av = j ∧ j < row.length ∧ row[j]? = some z ∧ lk av row v = some z := by
 obtain ⟨j, h1, h2⟩ := mem_find (hV v (mem_of_at hv))
 have hz : row[j]? = some (row[j]'(by omega)) := List.getElem?_eq_getElem (by omega)
 exact ⟨j, _, idxOf_find h1, by omega, hz, lk_some h1 hz⟩
end Go.Proofs.Ytkdajdafhjobbaa
