/-
  Contracts: the neighbours above a location; monotone spaces; frontiers.
-/
import Derived.Test.YtbipbinbehkjhaaIbf
import Derived.Test.YtbipbinbehkjhaaHas
import Derived.Test.YtbipbinbehkjhaaCut
import Derived.Deep.RegionHeld3
import Derived.Deep.DrawnRows
namespace Go.Proofs.Ytbipbinbehkjhaa
open Go.RowKit
set_option linter.unusedVariables false
set_option linter.unusedSimpArgs false

/-- the number of the location that is greater by one in coordinate k -/
def upIdx (b : BoxD) (l : List Int) (k : Nat) : Int := boxIndex b (l.set k ((l[k]?).getD 0 + 1))
/-- those of them that lie in the box, from coordinate 0 to m - 1 -/
def upTo (b : BoxD) (l : List Int) : Nat → List Int
  | 0 => []
  | m + 1 => if 0 ≤ upIdx b l m then upTo b l m ++ [upIdx b l m] else upTo b l m
theorem upTo_len (b : BoxD) (l : List Int) (m : Nat) : (upTo b l m).length ≤ m := by
  induction m with
  | zero => simp [upTo]
  | succ m ih =>
    unfold upTo
    split
    · rw [List.length_append]; simp only [List.length_cons, List.length_nil]; omega
    · omega
theorem upTo_mem {b : BoxD} {l : List Int} {m : Nat} {j : Int} (h : j ∈ upTo b l m) : 0 ≤ j ∧ j < volume b := by
  induction m with
  | zero => simp [upTo] at h
  | succ m ih =>
    unfold upTo at h
    split at h
    · rename_i h0
      rcases List.mem_append.1 h with h | h
      · exact ih h
      · simp at h; subst h; exact ⟨h0, boxIndex_lt.2.2 h0⟩
    · exact ih h
def aboveL (b : BoxD) (k : Int) : List Int := upTo b (boxLoc b k).1 (boxLoc b k).1.length
theorem digs_mem {ws : List Int} {i : Int} (h : ∀ x ∈ ws, 1 ≤ x ∧ x ≤ 8) : ∀ d ∈ (digs ws i).1, 0 ≤ d ∧ d ≤ 7 := by
  induction ws with
  | nil => intro d hd; simp [digs] at hd
  | cons v ws ih =>
    intro d hd
    simp only [digs, List.mem_cons] at hd
    rcases hd with rfl | hd
    · have hv := h v List.mem_cons_self
      have h1 : 0 ≤ (digs ws i).2 % v := Int.emod_nonneg _ (by omega)
      have h2 : (digs ws i).2 % v < v := Int.emod_lt_of_pos _ (by omega)
      omega
    · exact ih (fun x hx => h x (List.mem_cons_of_mem _ hx)) d hd
theorem mem_zipAdd {a b : List Int} {z : Int} (h : z ∈ List.zipWith (· + ·) a b) : ∃ x ∈ a, ∃ y ∈ b, z = x + y := by
  induction a generalizing b with
  | nil => simp at h
  | cons x a ih =>
    cases b with
    | nil => simp at h
    | cons y b =>
      simp only [List.zipWith_cons_cons, List.mem_cons] at h
      rcases h with rfl | h
      · exact ⟨x, List.mem_cons_self, y, List.mem_cons_self, rfl⟩
      · obtain ⟨x', hx, y', hy, e⟩ := ih h
        exact ⟨x', List.mem_cons_of_mem _ hx, y', List.mem_cons_of_mem _ hy, e⟩
theorem boxLoc_small (b : BoxD) (k : Int) : (boxLoc b k).1.length ≤ 16 ∧ ∀ z ∈ (boxLoc b k).1, 0 ≤ z ∧ z ≤ 14 := by
  unfold boxLoc
  split
  · rename_i h
    have hv : validBox b = true := by simp only [Bool.and_eq_true] at h; exact h.1
    have h1 := isLoc_at (validBox_parts hv).1
    refine ⟨?_, fun z hz => ?_⟩
    · show (List.zipWith (· + ·) b.fLow (digs (widths b) k).1).length ≤ 16
      rw [List.length_zipWith]; have := h1.1; omega
    · obtain ⟨x, hx, y, hy, rfl⟩ := mem_zipAdd hz
      obtain ⟨n, hn⟩ := List.getElem?_of_mem hx
      have := h1.2 n x hn
      have := digs_mem (widths_mem hv) y hy
      omega
  · simp
theorem MS.lowI {B T : Nat} {w w' : World} {g n cap : Nat} {l : List Int} (h : MS B NB 3 rInt w (some ⟨g, 0, none⟩) n cap l) (hg : g < T) (hb : Below T w w') : MS B NB 3 rInt w' (some ⟨g, 0, none⟩) n cap l := by
  obtain ⟨o, hB⟩ := h.blkI
  exact ⟨_, o.below rInt_ok hb (fun k hk => by simp [blk] at hk; omega), by simp [blk], hB⟩
theorem upTo_yes {b : BoxD} {l : List Int} {k : Nat} (h : 0 ≤ upIdx b l k) : upTo b l (k + 1) = upTo b l k ++ [upIdx b l k] := by
  show (if 0 ≤ upIdx b l k then _ else _) = _; rw [if_pos h]
theorem upTo_no {b : BoxD} {l : List Int} {k : Nat} (h : ¬ 0 ≤ upIdx b l k) : upTo b l (k + 1) = upTo b l k := by
  show (if 0 ≤ upIdx b l k then _ else _) = _; rw [if_neg h]
theorem upIdx_at {b : BoxD} {l : List Int} {k : Nat} {u : Int} (h : l[k]? = some u) : upIdx b l k = boxIndex b (l.set k (u + 1)) := by
  unfold upIdx; rw [h]; rfl
theorem set_back {l : List Int} {k : Nat} {u v : Int} (h : l[k]? = some u) : (l.set k v).set k u = l := by
  obtain ⟨hk, rfl⟩ := List.getElem?_eq_some_iff.1 h
  rw [List.set_set]; exact List.set_getElem_self hk

theorem cell_setCell_other {w : World} {a g j i : Nat} {v : Value} (h : a ≠ g) : (w.setCell ⟨g, i, none⟩ v).cell? ⟨a, j, none⟩ = w.cell? ⟨a, j, none⟩ := by
  have := setCells_other w g i [v] a h
  simp only [setCells] at this
  unfold World.cell?
  rw [this]
theorem low_cell {T : Nat} {w w' : World} (h : Below T w w') {a : Nat} (ha : a < T) (j : Nat) : w'.cell? ⟨a, j, none⟩ = w.cell? ⟨a, j, none⟩ := by
  unfold World.cell?
  rw [h.block a ha]
theorem upIdx_I64 (b : BoxD) (l : List Int) (k : Nat) : I64 (upIdx b l k) := by
  have h := boxIndex_lt (x := b) (l := l.set k ((l[k]?).getD 0 + 1))
  unfold upIdx
  refine ⟨by omega, ?_⟩
  by_cases h0 : 0 ≤ boxIndex b (l.set k ((l[k]?).getD 0 + 1))
  · have h1 := h.2.2 h0
    have hv := (inBox_parts (h.2.1 h0)).1
    have h2 := (prod_take_bd hv (widths b).length).2
    rw [List.take_length] at h2
    have h3 : volume b ≤ 281474976710656 := h2
    omega
  · omega

set_option maxRecDepth 100000 in
set_option maxHeartbeats 1600000 in
theorem sUp_c (csb : List Value) (b : BoxD) (Al : Option Addr) (nl cl : Nat) (l : List Int) (k : Int) (w : World) (hb : (rBox NB).rep w csb b) (hl : RS NB rInt w Al nl cl l) (hk0 : 0 ≤ k) (hk1 : k < l.length) (hz : ∀ z ∈ l, 0 ≤ z ∧ z ≤ 14) :
    Calls Try.prog 94 #[.agg csb.toArray, .slice Al nl cl, .int .i64 k] w fun e w' => e = .returned (.int .i64 (upIdx b l k.toNat)) ∧ Below w.heap.size w w' := by
  have rb := hb
  obtain ⟨AbLow, nbLow, cbLow, AbHigh, nbHigh, cbHigh, rfl, hbLow, hbHigh⟩ := rBox_rep.1 hb
  clear hb
  have hB : Below w.heap.size w w := Below.refl _ _
  have hAb := (Below.refl (World.heap (w)).size (w)).alloc (Nat.le_refl _) (.cells #[.slice AbLow nbLow cbLow, .slice AbHigh nbHigh cbHigh] 38)
  replace hB := hB.trans (hAb.mono hB.size)
  have bxb := Bx.new (w) [.slice AbLow nbLow cbLow, .slice AbHigh nbHigh cbHigh] 38
  clear hAb
  obtain ⟨j, rfl⟩ : ∃ j : Nat, k = j := ⟨k.toNat, by omega⟩
  have hjn : j < nl := by have := hl.len; omega
  have hnl := hl.bound
  simp only [Int.toNat_natCast]
  go_enter Try.func94, Try.ntmps94
  have hnew := heap_alloc_new (w.alloc (.cells #[.slice AbLow nbLow cbLow, .slice AbHigh nbHigh cbHigh] 38)) (.cells #[] 3)
  rw [World.size_alloc] at hnew
  go_upto_region 2 with (at_builtin; refine wpList_appe (r := rInt) (M := NB) rfl _ _ 26 rfl _ 8 eiInt rInt_ok rInt_flat rfl hnew rfl (hl.below rInt_ok (hB.alloc hB.size _)) hl.nb (Nat.le_refl _) (by omega) ?_; intro A3 c3 w3 o3 g3 hb3)
  obtain ⟨w0, hw0⟩ : ∃ w0, w0 = w.alloc (.cells #[.slice AbLow nbLow cbLow, .slice AbHigh nbHigh cbHigh] 38) := ⟨_, rfl⟩
  have hz0 : w0.heap.size = w.heap.size + 1 := by rw [hw0]; simp
  rw [← hw0] at hB bxb hb3 g3
  have hE : Below w0.heap.size w0 w3 := ((Below.refl w0.heap.size w0).alloc (Nat.le_refl _) (.cells #[] 3)).trans (hb3.mono (by simp))
  have hM : MS w0.heap.size NB 3 rInt w3 A3 nl c3 l := ⟨_, o3, by cases A3 <;> simp [blk], fun k hk => by have := g3 k hk; simp at this; omega⟩
  clear o3 g3 hb3 hw0
  obtain ⟨g, rfl, hgl, hgB⟩ := hM.form (by omega)
  obtain ⟨u, hu, hIu, huk⟩ := hM.celli hjn
  have hu14 := hz u (mem_of_at huk.out)
  have hfz := hM.frozen j
  have m1 : IntKind.i64.wrap (u + 1) = u + 1 := IntWalk.i64_in _ (by omega)
  go_upto_region 3 with fail
  have hS := hM.set j (x := u + 1) ⟨by omega, by omega⟩
  have hES := hE.setCell (p := ⟨g, j, none⟩) hgB (.int .i64 (u + 1))
  obtain ⟨ws, hws⟩ : ∃ ws, ws = w3.setCell ⟨g, j, none⟩ (.int .i64 (u + 1)) := ⟨_, rfl⟩
  rw [← hws] at hS hES
  rw [← hws]
  clear hws hu hfz hM hE
  replace hB := hB.trans (hES.mono hB.size)
  replace bxb := bxb.below hES
  clear hES
  have kb_0 := bxb 0 _ rfl
  have kb_1 := bxb 1 _ rfl
  go_wp2_with fail
  refine (sBoxIndex_c _ b _ _ _ _ _ ((rBox_ok NB).keep rb (cells_below hB)) (hS.rs rInt_ok)).mono ?_
  rintro e w1 ⟨rfl, hb1⟩
  replace hB := hB.trans (hb1.mono hB.size)
  replace bxb := bxb.below hb1
  clear hb1 kb_0 kb_1
  go_wp2
  go_ret
  exact ⟨ret_int (by rw [upIdx_at huk.out]), hB⟩

set_option maxRecDepth 100000 in
set_option maxHeartbeats 1600000 in
theorem iAbove_c (csx : List Value) (x : SpaceD) (k : Int) (w : World) (hx : (rSpace NB).rep w csx x) (hI : I64 k) :
    Calls Try.prog 97 #[.agg csx.toArray, .int .i64 k] w (RetS 3 rInt (aboveL x.fBox k) w) := by
  have rx := hx
  obtain ⟨AxBoxLow, nxBoxLow, cxBoxLow, AxBoxHigh, nxBoxHigh, cxBoxHigh, AxCosts, nxCosts, cxCosts, AxChoices, nxChoices, cxChoices, AxPlans, nxPlans, cxPlans, rfl, hxBoxLow, hxBoxHigh, hxCosts, hxChoices, hxPlans⟩ := rSpace_rep.1 hx
  clear hx
  have hB : Below w.heap.size w w := Below.refl _ _
  have hAx := (Below.refl (World.heap (w)).size (w)).alloc (Nat.le_refl _) (.cells #[.slice AxBoxLow nxBoxLow cxBoxLow, .slice AxBoxHigh nxBoxHigh cxBoxHigh, .slice AxCosts nxCosts cxCosts, .slice AxChoices nxChoices cxChoices, .slice AxPlans nxPlans cxPlans] 81)
  replace hB := hB.trans (hAx.mono hB.size)
  have bxx := Bx.new (w) [.slice AxBoxLow nxBoxLow cxBoxLow, .slice AxBoxHigh nxBoxHigh cxBoxHigh, .slice AxCosts nxCosts cxCosts, .slice AxChoices nxChoices cxChoices, .slice AxPlans nxPlans cxPlans] 81
  clear hAx
  have kx_0 := bxx 0 _ rfl
  have kx_1 := bxx 1 _ rfl
  go_enter Try.func97, Try.ntmps97
  go_wp2_with fail
  refine (iBoxLocation_c _ x.fBox k _ (rBox_rep.2 ⟨AxBoxLow, nxBoxLow, cxBoxLow, AxBoxHigh, nxBoxHigh, cxBoxHigh, rfl, hxBoxLow.below rInt_ok hB, hxBoxHigh.below rInt_ok hB⟩) hI).mono ?_
  rintro e w1 ⟨A1, n1, c1, rfl, M1, hb1⟩
  have hz1 := hb1.size
  replace hB := hB.trans (hb1.mono hB.size)
  replace bxx := bxx.below hb1
  clear hb1 kx_0 kx_1
  simp only [World.size_alloc] at M1
  have hsm := boxLoc_small x.fBox k
  have HA : Hid (aboveL x.fBox k = upTo x.fBox (boxLoc x.fBox k).1 (boxLoc x.fBox k).1.length) := Lib.hid rfl
  generalize (boxLoc x.fBox k).1 = l at M1 hsm HA
  have HL := Lib.hid M1.len
  have hn1 : n1 ≤ 16 := by rw [← HL.out]; exact hsm.1
  have HZ := Lib.hid hsm.2; clear hsm
  have hw1 : w.heap.size < w1.heap.size := by have := hz1; simp at this; omega
  clear hz1
  go_wp2
  go_loopw [7, 20] (fun v i wr => ∃ (q n c : Nat) (A : Option Addr), q ≤ n1 ∧ n ≤ q ∧ i = .int .i64 q ∧ v = .slice A n c ∧ MS (w.heap.size + 1) NB 3 rInt wr A1 n1 c1 l ∧ MS w1.heap.size NB 3 rInt wr A n c (upTo x.fBox l q) ∧ (∀ g ∈ blk A1, g < w1.heap.size) ∧ w1.heap.size ≤ wr.heap.size ∧ Below w.heap.size w wr ∧ Bx wr w.heap.size [.slice AxBoxLow nxBoxLow cxBoxLow, .slice AxBoxHigh nxBoxHigh cxBoxHigh, .slice AxCosts nxCosts cxCosts, .slice AxChoices nxChoices cxChoices, .slice AxPlans nxPlans cxPlans]) (fun _ i _ => n1 - (intOf i).toNat)
  case atStart =>
    have hA := (Below.refl w1.heap.size w1).alloc (Nat.le_refl _) (.cells #[] 3)
    exact ⟨0, 0, 0, _, Nat.zero_le _, Nat.le_refl _, rfl, rfl, M1.below rInt_ok hA, MS.empty _ (Nat.le_refl _), fun g hg => M1.blkI.1.lt rInt_ok g hg, hA.size, hB.trans (hA.mono hB.size), bxx.below hA⟩
  case round =>
    clear M1 hB bxx
    obtain ⟨q, n, c, A, hq, hnq, rfl, rfl, hM1, hM, hlow, hsz, hB, bxx⟩ := hrel
    by_cases hlt : q < n1
    · obtain ⟨g, rfl, hgl, hgB⟩ := hM1.form (by omega)
      have hg1 : g < w1.heap.size := hlow g (by simp [blk])
      obtain ⟨u, hu, hIu, huk⟩ := hM1.celli hlt
      have hu14 := HZ.out u (mem_of_at huk.out)
      have hfz := hM1.frozen q
      have m1 : IntKind.i64.wrap (u + 1) = u + 1 := IntWalk.i64_in _ (by omega)
      go_upto_region 7 with fail
      have hS := hM1.set q (x := u + 1) ⟨by omega, by omega⟩
      have hMs := hM.out rInt_ok ((Out.refl w1.heap.size wr).setCell (p := ⟨g, q, none⟩) hg1 (.int .i64 (u + 1)))
      have hbs : Below w.heap.size wr (wr.setCell ⟨g, q, none⟩ (.int .i64 (u + 1))) := (Below.refl w.heap.size wr).setCell (by show w.heap.size ≤ g; omega) _
      have hgx : w.heap.size ≠ g := by omega
      have bxs : Bx (wr.setCell ⟨g, q, none⟩ (.int .i64 (u + 1))) w.heap.size [.slice AxBoxLow nxBoxLow cxBoxLow, .slice AxBoxHigh nxBoxHigh cxBoxHigh, .slice AxCosts nxCosts cxCosts, .slice AxChoices nxChoices cxChoices, .slice AxPlans nxPlans cxPlans] := fun j v hj => by rw [cell_setCell_other hgx]; exact bxx j v hj
      have hzs : w1.heap.size ≤ (wr.setCell ⟨g, q, none⟩ (.int .i64 (u + 1))).heap.size := by simpa using hsz
      replace hB := hB.trans hbs
      obtain ⟨ws, hws⟩ : ∃ ws, ws = wr.setCell ⟨g, q, none⟩ (.int .i64 (u + 1)) := ⟨_, rfl⟩
      rw [← hws] at hS hMs bxs hB hzs
      rw [← hws]
      clear hws hu hfz hM1 hM hbs bxx
      have bxx := bxs; clear bxs
      have kx_0 := bxx 0 _ rfl
      have kx_1 := bxx 1 _ rfl
      have hz5 := hzs
      go_wp2_with fail
      refine (iBoxIndex_c _ x.fBox _ _ _ _ _ (rBox_rep.2 ⟨AxBoxLow, nxBoxLow, cxBoxLow, AxBoxHigh, nxBoxHigh, cxBoxHigh, rfl, hxBoxLow.below rInt_ok hB, hxBoxHigh.below rInt_ok hB⟩) (hS.rs rInt_ok)).mono ?_
      rintro e w5 ⟨rfl, hb5⟩
      replace hzs := Nat.le_trans hzs hb5.size
      replace hB := hB.trans (hb5.mono hB.size)
      replace bxx := bxx.below hb5
      replace hS := hS.below rInt_ok hb5
      replace hMs := hMs.below rInt_ok hb5
      clear hb5 kx_0 kx_1
      have HU := Lib.hid (upIdx_at (b := x.fBox) huk.out)
      rw [← HU.out]
      have hup := boxIndex_lt (x := x.fBox) (l := l.set q (u + 1))
      rw [← HU.out] at hup
      have hvol : Hid (True) := Lib.hid trivial
      have HY := fun h => upTo_yes (b := x.fBox) (l := l) (k := q) h
      have HN := fun h => upTo_no (b := x.fBox) (l := l) (k := q) h
      have HYN := Lib.hid (And.intro HY HN); clear HY HN HU
      have hIj : I64 (upIdx x.fBox l q) := upIdx_I64 _ _ _
      generalize upIdx x.fBox l q = jj at hup HYN hIj
      by_cases h0 : 0 ≤ jj
      · have HJ := Lib.hid (HYN.out.1 h0)
        go_upto_region 10 with (at_builtin; refine wpList_app (r := rInt) rfl _ _ 26 rfl _ 8 eiInt rInt_ok rfl hMs ((Below.refl _ _).alloc (Nat.le_refl _) _) hzs ⟨w5.heap.size, 0, none⟩ rfl [] [.int .i64 jj] jj ⟨rfl, rfl, hIj⟩ (Fr.nil _) (cell_one_new _ _ _) (by unfold NB; omega) (Nat.le_refl _) (by omega) ?_; intro A2 k2 w6 hM2 hb2 hg2)
        have hS5 := hS.below rInt_ok ((Below.refl _ _).alloc (Nat.le_refl _) (.cells #[.int .i64 jj] 3))
        have hS6 := hS5.lowI hg1 hb2
        have hB6 := (hB.alloc hB.size (.cells #[.int .i64 jj] 3)).trans (hb2.mono (Nat.le_of_lt hw1))
        have bx6 := fun j v (hj : _) => (low_cell hb2 hw1 j).trans ((bxx.below ((Below.refl _ _).alloc (Nat.le_refl _) (.cells #[.int .i64 jj] 3))) j v hj)
        have hz6 := Nat.le_trans (Nat.le_trans hzs (by simp)) hb2.size
        obtain ⟨u2, hu, hIu2, huk2⟩ := hS6.celli hlt
        obtain rfl : u2 = u + 1 := by have := huk2.out; rw [List.getElem?_set_self (lt_of_at huk.out)] at this; injection this with this; exact this.symm
        have hfz := hS6.frozen q
        have m2 : IntKind.i64.wrap (u + 1 - 1) = u := by rw [show u + 1 - 1 = u by omega]; exact IntWalk.i64_in _ (by omega)
        go_wp2
        go_roundw
        case rel => exact ⟨q + 1, n + 1, k2, _, by omega, by omega, by go_num, rfl, set_back huk.out ▸ hS6.set q hIu, (HJ.out ▸ hM2).out rInt_ok ((Out.refl _ _).setCell (p := ⟨g, q, none⟩) hg1 _), fun k hk => by simp [blk] at hk; omega, by simpa using hz6, hB6.setCell (by show w.heap.size ≤ g; omega) _, fun j v hj => by rw [cell_setCell_other (by omega)]; exact bx6 j v hj⟩
        case measure => simp [intOf]; omega
      · have HJ := Lib.hid (HYN.out.2 h0)
        obtain ⟨u2, hu, hIu2, huk2⟩ := hS.celli hlt
        obtain rfl : u2 = u + 1 := by have := huk2.out; rw [List.getElem?_set_self (lt_of_at huk.out)] at this; injection this with this; exact this.symm
        have hfz := hS.frozen q
        have m2 : IntKind.i64.wrap (u + 1 - 1) = u := by rw [show u + 1 - 1 = u by omega]; exact IntWalk.i64_in _ (by omega)
        go_wp2
        go_roundw
        case rel => exact ⟨q + 1, n, c, _, by omega, by omega, by go_num, rfl, set_back huk.out ▸ hS.set q hIu, (HJ.out ▸ hMs).out rInt_ok ((Out.refl _ _).setCell (p := ⟨g, q, none⟩) hg1 _), fun k hk => by simp [blk] at hk; omega, by simpa using hzs, hB.setCell (by show w.heap.size ≤ g; omega) _, fun j v hj => by rw [cell_setCell_other (by omega)]; exact bxx j v hj⟩
        case measure => simp [intOf]; omega
    · go_wp2
      go_ret
      exact ⟨_, _, _, rfl, by rw [HA.out, HL.out, show n1 = q by omega]; exact hM.base (by omega), hB⟩
end Go.Proofs.Ytbipbinbehkjhaa
