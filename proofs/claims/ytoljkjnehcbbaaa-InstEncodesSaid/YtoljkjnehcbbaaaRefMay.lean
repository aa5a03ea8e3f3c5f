/- The document's May. -/
import Derived.Test.YtoljkjnehcbbaaaMay
import Derived.Test.YtoljkjnehcbbaaaRefDecode
import Derived.Test.YtoljkjnehcbbaaaNamesWalk
namespace Go.Proofs.Ytoljkjnehcbbaaa
open Go.RowKit
noncomputable section
set_option linter.unusedVariables false
set_option linter.unusedSimpArgs false

set_option maxHeartbeats 4000000 in
set_option maxRecDepth 100000 in
theorem refMay_out (o d a b n : Int) (w : World) (h : ¬(0 ≤ o ∧ o < 64 ∧ 0 ≤ d ∧ d ≤ 31 ∧ 0 ≤ a ∧ a ≤ 31 ∧ 0 ≤ b ∧ b ≤ 31)) :
    Calls Try.prog 13 #[.agg #[.int .i64 o, .int .i64 d, .int .i64 a, .int .i64 b, .int .i64 n]] w fun e w' => e = .returned (.bool false) ∧ Below w.heap.size w w' := by
  go_enter Try.func13, Try.ntmps13
  go_wp2_with fail
  refine (kinds_any _).mono ?_
  rintro e w1 ⟨g, rfl, hg, hgs, hb1⟩
  obtain ⟨hc1, hf1⟩ := bcell hb1
  have hs1 : w.heap.size < w1.heap.size := by have := hb1.size; simp at this; omega
  have HB : Below w.heap.size w w1 := ((Below.refl _ _).alloc (Nat.le_refl _) _).trans (hb1.mono (by simp))
  clear hb1 hg
  have hcases : o < 0 ∨ (0 ≤ o ∧ 64 ≤ o) ∨ (0 ≤ o ∧ o < 64 ∧ d < 0) ∨ (0 ≤ o ∧ o < 64 ∧ 0 ≤ d ∧ 31 < d) ∨ (0 ≤ o ∧ o < 64 ∧ 0 ≤ d ∧ d ≤ 31 ∧ a < 0) ∨ (0 ≤ o ∧ o < 64 ∧ 0 ≤ d ∧ d ≤ 31 ∧ 0 ≤ a ∧ 31 < a) ∨
    (0 ≤ o ∧ o < 64 ∧ 0 ≤ d ∧ d ≤ 31 ∧ 0 ≤ a ∧ a ≤ 31 ∧ b < 0) ∨ (0 ≤ o ∧ o < 64 ∧ 0 ≤ d ∧ d ≤ 31 ∧ 0 ≤ a ∧ a ≤ 31 ∧ 0 ≤ b ∧ 31 < b) := by omega
  clear h
  rcases hcases with h1 | ⟨h1, h2⟩ | ⟨h1, h2, h3⟩ | ⟨h1, h2, h3, h4⟩ | ⟨h1, h2, h3, h4, h5⟩ | ⟨h1, h2, h3, h4, h5, h6⟩ | ⟨h1, h2, h3, h4, h5, h6, h7⟩ | ⟨h1, h2, h3, h4, h5, h6, h7, h8⟩
  all_goals
    go_wp2
    go_ret
    exact ⟨rfl, HB⟩

theorem tmod_zero (n m : Int) : n.tmod m = 0 ↔ n % m = 0 := by
  rw [← Int.dvd_iff_tmod_eq_zero, ← Int.dvd_iff_emod_eq_zero]

theorem mayP_U (d a b n : Int) (hd0 : 0 ≤ d) (hd1 : d ≤ 31) (ha0 : 0 ≤ a) (ha1 : a ≤ 31) (hb0 : 0 ≤ b) (hb1 : b ≤ 31) : mayP 85 d a b n ↔ (a = 0 ∧ b = 0 ∧ -2147483648 ≤ n ∧ n < 2147483648 ∧ n % 4096 = 0) := by
  unfold mayP
  simp [hd0, hd1, ha0, ha1, hb0, hb1]

set_option maxHeartbeats 4000000 in
set_option maxRecDepth 100000 in
theorem refMay_U (i : Nat) (hi : i < 64) (nm : List UInt8) (o f3 f7 : Nat) (he : formAt i = (nm, 85, (o : Int), (f3 : Int), (f7 : Int))) (d a b n : Int) (hd0 : 0 ≤ d) (hd1 : d ≤ 31) (ha0 : 0 ≤ a) (ha1 : a ≤ 31) (hb0 : 0 ≤ b) (hb1 : b ≤ 31) (r : Bool) (hr : r = true ↔ mayP 85 d a b n) (w : World) :
    Calls Try.prog 13 #[.agg #[.int .i64 i, .int .i64 d, .int .i64 a, .int .i64 b, .int .i64 n]] w fun e w' => e = .returned (.bool r) ∧ Below w.heap.size w w' := by
  rw [mayP_U d a b n hd0 hd1 ha0 ha1 hb0 hb1] at hr
  have Hr := hid hr
  clear hr
  go_enter Try.func13, Try.ntmps13
  go_wp2_with fail
  refine (kinds_any _).mono ?_
  rintro e w1 ⟨g, rfl, hg, hgs, hbw⟩
  obtain ⟨hc1, hf1⟩ := bcell hbw
  have hs1 : w.heap.size < w1.heap.size := by have := hbw.size; simp at this; omega
  have HB : Below w.heap.size w w1 := ((Below.refl _ _).alloc (Nat.le_refl _) _).trans (hbw.mono (by simp))
  have c1 : w1.cell? ⟨g, i * 5 + 1, none⟩ = some (.string ⟨#[85]⟩) := by
    have : w1.cell? ⟨g, i * 5 + 1, none⟩ = (kindRow (formAt i))[1]? := by
      rw [cell_of_row w1 g _ _ _ _ hg, Nat.mul_comm]; exact kindCells_get i 1 hi (by omega)
    rw [this, he]
    rfl
  clear hbw hg
  go_wp2
  all_goals
    go_ret
    refine ⟨ret_bool (Bool.eq_iff_iff.mpr ?_), HB⟩
    rw [Hr.out]
    first
    | (simp [tmod_zero]; omega)
    | (simp_all [tmod_zero]; done)
    | (simp_all [tmod_zero]; omega)

theorem mayP_J (d a b n : Int) (hd0 : 0 ≤ d) (hd1 : d ≤ 31) (ha0 : 0 ≤ a) (ha1 : a ≤ 31) (hb0 : 0 ≤ b) (hb1 : b ≤ 31) : mayP 74 d a b n ↔ (a = 0 ∧ b = 0 ∧ -1048576 ≤ n ∧ n < 1048576 ∧ n % 2 = 0) := by
  unfold mayP
  simp [hd0, hd1, ha0, ha1, hb0, hb1]

set_option maxHeartbeats 4000000 in
set_option maxRecDepth 100000 in
theorem refMay_J (i : Nat) (hi : i < 64) (nm : List UInt8) (o f3 f7 : Nat) (he : formAt i = (nm, 74, (o : Int), (f3 : Int), (f7 : Int))) (d a b n : Int) (hd0 : 0 ≤ d) (hd1 : d ≤ 31) (ha0 : 0 ≤ a) (ha1 : a ≤ 31) (hb0 : 0 ≤ b) (hb1 : b ≤ 31) (r : Bool) (hr : r = true ↔ mayP 74 d a b n) (w : World) :
    Calls Try.prog 13 #[.agg #[.int .i64 i, .int .i64 d, .int .i64 a, .int .i64 b, .int .i64 n]] w fun e w' => e = .returned (.bool r) ∧ Below w.heap.size w w' := by
  rw [mayP_J d a b n hd0 hd1 ha0 ha1 hb0 hb1] at hr
  have Hr := hid hr
  clear hr
  go_enter Try.func13, Try.ntmps13
  go_wp2_with fail
  refine (kinds_any _).mono ?_
  rintro e w1 ⟨g, rfl, hg, hgs, hbw⟩
  obtain ⟨hc1, hf1⟩ := bcell hbw
  have hs1 : w.heap.size < w1.heap.size := by have := hbw.size; simp at this; omega
  have HB : Below w.heap.size w w1 := ((Below.refl _ _).alloc (Nat.le_refl _) _).trans (hbw.mono (by simp))
  have c1 : w1.cell? ⟨g, i * 5 + 1, none⟩ = some (.string ⟨#[74]⟩) := by
    have : w1.cell? ⟨g, i * 5 + 1, none⟩ = (kindRow (formAt i))[1]? := by
      rw [cell_of_row w1 g _ _ _ _ hg, Nat.mul_comm]; exact kindCells_get i 1 hi (by omega)
    rw [this, he]
    rfl
  clear hbw hg
  go_wp2
  all_goals
    go_ret
    refine ⟨ret_bool (Bool.eq_iff_iff.mpr ?_), HB⟩
    rw [Hr.out]
    first
    | (simp [tmod_zero]; omega)
    | (simp_all [tmod_zero]; done)
    | (simp_all [tmod_zero]; omega)

theorem mayP_I (d a b n : Int) (hd0 : 0 ≤ d) (hd1 : d ≤ 31) (ha0 : 0 ≤ a) (ha1 : a ≤ 31) (hb0 : 0 ≤ b) (hb1 : b ≤ 31) : mayP 73 d a b n ↔ (b = 0 ∧ -2048 ≤ n ∧ n < 2048) := by
  unfold mayP
  simp [hd0, hd1, ha0, ha1, hb0, hb1]

set_option maxHeartbeats 4000000 in
set_option maxRecDepth 100000 in
theorem refMay_I (i : Nat) (hi : i < 64) (nm : List UInt8) (o f3 f7 : Nat) (he : formAt i = (nm, 73, (o : Int), (f3 : Int), (f7 : Int))) (d a b n : Int) (hd0 : 0 ≤ d) (hd1 : d ≤ 31) (ha0 : 0 ≤ a) (ha1 : a ≤ 31) (hb0 : 0 ≤ b) (hb1 : b ≤ 31) (r : Bool) (hr : r = true ↔ mayP 73 d a b n) (w : World) :
    Calls Try.prog 13 #[.agg #[.int .i64 i, .int .i64 d, .int .i64 a, .int .i64 b, .int .i64 n]] w fun e w' => e = .returned (.bool r) ∧ Below w.heap.size w w' := by
  rw [mayP_I d a b n hd0 hd1 ha0 ha1 hb0 hb1] at hr
  have Hr := hid hr
  clear hr
  go_enter Try.func13, Try.ntmps13
  go_wp2_with fail
  refine (kinds_any _).mono ?_
  rintro e w1 ⟨g, rfl, hg, hgs, hbw⟩
  obtain ⟨hc1, hf1⟩ := bcell hbw
  have hs1 : w.heap.size < w1.heap.size := by have := hbw.size; simp at this; omega
  have HB : Below w.heap.size w w1 := ((Below.refl _ _).alloc (Nat.le_refl _) _).trans (hbw.mono (by simp))
  have c1 : w1.cell? ⟨g, i * 5 + 1, none⟩ = some (.string ⟨#[73]⟩) := by
    have : w1.cell? ⟨g, i * 5 + 1, none⟩ = (kindRow (formAt i))[1]? := by
      rw [cell_of_row w1 g _ _ _ _ hg, Nat.mul_comm]; exact kindCells_get i 1 hi (by omega)
    rw [this, he]
    rfl
  clear hbw hg
  go_wp2
  all_goals
    go_ret
    refine ⟨ret_bool (Bool.eq_iff_iff.mpr ?_), HB⟩
    rw [Hr.out]
    first
    | (simp [tmod_zero]; omega)
    | (simp_all [tmod_zero]; done)
    | (simp_all [tmod_zero]; omega)

theorem mayP_B (d a b n : Int) (hd0 : 0 ≤ d) (hd1 : d ≤ 31) (ha0 : 0 ≤ a) (ha1 : a ≤ 31) (hb0 : 0 ≤ b) (hb1 : b ≤ 31) : mayP 66 d a b n ↔ (d = 0 ∧ -4096 ≤ n ∧ n < 4096 ∧ n % 2 = 0) := by
  unfold mayP
  simp [hd0, hd1, ha0, ha1, hb0, hb1]

set_option maxHeartbeats 4000000 in
set_option maxRecDepth 100000 in
theorem refMay_B (i : Nat) (hi : i < 64) (nm : List UInt8) (o f3 f7 : Nat) (he : formAt i = (nm, 66, (o : Int), (f3 : Int), (f7 : Int))) (d a b n : Int) (hd0 : 0 ≤ d) (hd1 : d ≤ 31) (ha0 : 0 ≤ a) (ha1 : a ≤ 31) (hb0 : 0 ≤ b) (hb1 : b ≤ 31) (r : Bool) (hr : r = true ↔ mayP 66 d a b n) (w : World) :
    Calls Try.prog 13 #[.agg #[.int .i64 i, .int .i64 d, .int .i64 a, .int .i64 b, .int .i64 n]] w fun e w' => e = .returned (.bool r) ∧ Below w.heap.size w w' := by
  rw [mayP_B d a b n hd0 hd1 ha0 ha1 hb0 hb1] at hr
  have Hr := hid hr
  clear hr
  go_enter Try.func13, Try.ntmps13
  go_wp2_with fail
  refine (kinds_any _).mono ?_
  rintro e w1 ⟨g, rfl, hg, hgs, hbw⟩
  obtain ⟨hc1, hf1⟩ := bcell hbw
  have hs1 : w.heap.size < w1.heap.size := by have := hbw.size; simp at this; omega
  have HB : Below w.heap.size w w1 := ((Below.refl _ _).alloc (Nat.le_refl _) _).trans (hbw.mono (by simp))
  have c1 : w1.cell? ⟨g, i * 5 + 1, none⟩ = some (.string ⟨#[66]⟩) := by
    have : w1.cell? ⟨g, i * 5 + 1, none⟩ = (kindRow (formAt i))[1]? := by
      rw [cell_of_row w1 g _ _ _ _ hg, Nat.mul_comm]; exact kindCells_get i 1 hi (by omega)
    rw [this, he]
    rfl
  clear hbw hg
  go_wp2
  all_goals
    go_ret
    refine ⟨ret_bool (Bool.eq_iff_iff.mpr ?_), HB⟩
    rw [Hr.out]
    first
    | (simp [tmod_zero]; omega)
    | (simp_all [tmod_zero]; done)
    | (simp_all [tmod_zero]; omega)

theorem mayP_S (d a b n : Int) (hd0 : 0 ≤ d) (hd1 : d ≤ 31) (ha0 : 0 ≤ a) (ha1 : a ≤ 31) (hb0 : 0 ≤ b) (hb1 : b ≤ 31) : mayP 83 d a b n ↔ (d = 0 ∧ -2048 ≤ n ∧ n < 2048) := by
  unfold mayP
  simp [hd0, hd1, ha0, ha1, hb0, hb1]

set_option maxHeartbeats 4000000 in
set_option maxRecDepth 100000 in
theorem refMay_S (i : Nat) (hi : i < 64) (nm : List UInt8) (o f3 f7 : Nat) (he : formAt i = (nm, 83, (o : Int), (f3 : Int), (f7 : Int))) (d a b n : Int) (hd0 : 0 ≤ d) (hd1 : d ≤ 31) (ha0 : 0 ≤ a) (ha1 : a ≤ 31) (hb0 : 0 ≤ b) (hb1 : b ≤ 31) (r : Bool) (hr : r = true ↔ mayP 83 d a b n) (w : World) :
    Calls Try.prog 13 #[.agg #[.int .i64 i, .int .i64 d, .int .i64 a, .int .i64 b, .int .i64 n]] w fun e w' => e = .returned (.bool r) ∧ Below w.heap.size w w' := by
  rw [mayP_S d a b n hd0 hd1 ha0 ha1 hb0 hb1] at hr
  have Hr := hid hr
  clear hr
  go_enter Try.func13, Try.ntmps13
  go_wp2_with fail
  refine (kinds_any _).mono ?_
  rintro e w1 ⟨g, rfl, hg, hgs, hbw⟩
  obtain ⟨hc1, hf1⟩ := bcell hbw
  have hs1 : w.heap.size < w1.heap.size := by have := hbw.size; simp at this; omega
  have HB : Below w.heap.size w w1 := ((Below.refl _ _).alloc (Nat.le_refl _) _).trans (hbw.mono (by simp))
  have c1 : w1.cell? ⟨g, i * 5 + 1, none⟩ = some (.string ⟨#[83]⟩) := by
    have : w1.cell? ⟨g, i * 5 + 1, none⟩ = (kindRow (formAt i))[1]? := by
      rw [cell_of_row w1 g _ _ _ _ hg, Nat.mul_comm]; exact kindCells_get i 1 hi (by omega)
    rw [this, he]
    rfl
  clear hbw hg
  go_wp2
  all_goals
    go_ret
    refine ⟨ret_bool (Bool.eq_iff_iff.mpr ?_), HB⟩
    rw [Hr.out]
    first
    | (simp [tmod_zero]; omega)
    | (simp_all [tmod_zero]; done)
    | (simp_all [tmod_zero]; omega)

theorem mayP_H (d a b n : Int) (hd0 : 0 ≤ d) (hd1 : d ≤ 31) (ha0 : 0 ≤ a) (ha1 : a ≤ 31) (hb0 : 0 ≤ b) (hb1 : b ≤ 31) : mayP 72 d a b n ↔ (b = 0 ∧ 0 ≤ n ∧ n < 64) := by
  unfold mayP
  simp [hd0, hd1, ha0, ha1, hb0, hb1]

set_option maxHeartbeats 4000000 in
set_option maxRecDepth 100000 in
theorem refMay_H (i : Nat) (hi : i < 64) (nm : List UInt8) (o f3 f7 : Nat) (he : formAt i = (nm, 72, (o : Int), (f3 : Int), (f7 : Int))) (d a b n : Int) (hd0 : 0 ≤ d) (hd1 : d ≤ 31) (ha0 : 0 ≤ a) (ha1 : a ≤ 31) (hb0 : 0 ≤ b) (hb1 : b ≤ 31) (r : Bool) (hr : r = true ↔ mayP 72 d a b n) (w : World) :
    Calls Try.prog 13 #[.agg #[.int .i64 i, .int .i64 d, .int .i64 a, .int .i64 b, .int .i64 n]] w fun e w' => e = .returned (.bool r) ∧ Below w.heap.size w w' := by
  rw [mayP_H d a b n hd0 hd1 ha0 ha1 hb0 hb1] at hr
  have Hr := hid hr
  clear hr
  go_enter Try.func13, Try.ntmps13
  go_wp2_with fail
  refine (kinds_any _).mono ?_
  rintro e w1 ⟨g, rfl, hg, hgs, hbw⟩
  obtain ⟨hc1, hf1⟩ := bcell hbw
  have hs1 : w.heap.size < w1.heap.size := by have := hbw.size; simp at this; omega
  have HB : Below w.heap.size w w1 := ((Below.refl _ _).alloc (Nat.le_refl _) _).trans (hbw.mono (by simp))
  have c1 : w1.cell? ⟨g, i * 5 + 1, none⟩ = some (.string ⟨#[72]⟩) := by
    have : w1.cell? ⟨g, i * 5 + 1, none⟩ = (kindRow (formAt i))[1]? := by
      rw [cell_of_row w1 g _ _ _ _ hg, Nat.mul_comm]; exact kindCells_get i 1 hi (by omega)
    rw [this, he]
    rfl
  clear hbw hg
  go_wp2
  all_goals
    go_ret
    refine ⟨ret_bool (Bool.eq_iff_iff.mpr ?_), HB⟩
    rw [Hr.out]
    first
    | (simp [tmod_zero]; omega)
    | (simp_all [tmod_zero]; done)
    | (simp_all [tmod_zero]; omega)

theorem mayP_K (d a b n : Int) (hd0 : 0 ≤ d) (hd1 : d ≤ 31) (ha0 : 0 ≤ a) (ha1 : a ≤ 31) (hb0 : 0 ≤ b) (hb1 : b ≤ 31) : mayP 75 d a b n ↔ (b = 0 ∧ 0 ≤ n ∧ n < 32) := by
  unfold mayP
  simp [hd0, hd1, ha0, ha1, hb0, hb1]

set_option maxHeartbeats 4000000 in
set_option maxRecDepth 100000 in
theorem refMay_K (i : Nat) (hi : i < 64) (nm : List UInt8) (o f3 f7 : Nat) (he : formAt i = (nm, 75, (o : Int), (f3 : Int), (f7 : Int))) (d a b n : Int) (hd0 : 0 ≤ d) (hd1 : d ≤ 31) (ha0 : 0 ≤ a) (ha1 : a ≤ 31) (hb0 : 0 ≤ b) (hb1 : b ≤ 31) (r : Bool) (hr : r = true ↔ mayP 75 d a b n) (w : World) :
    Calls Try.prog 13 #[.agg #[.int .i64 i, .int .i64 d, .int .i64 a, .int .i64 b, .int .i64 n]] w fun e w' => e = .returned (.bool r) ∧ Below w.heap.size w w' := by
  rw [mayP_K d a b n hd0 hd1 ha0 ha1 hb0 hb1] at hr
  have Hr := hid hr
  clear hr
  go_enter Try.func13, Try.ntmps13
  go_wp2_with fail
  refine (kinds_any _).mono ?_
  rintro e w1 ⟨g, rfl, hg, hgs, hbw⟩
  obtain ⟨hc1, hf1⟩ := bcell hbw
  have hs1 : w.heap.size < w1.heap.size := by have := hbw.size; simp at this; omega
  have HB : Below w.heap.size w w1 := ((Below.refl _ _).alloc (Nat.le_refl _) _).trans (hbw.mono (by simp))
  have c1 : w1.cell? ⟨g, i * 5 + 1, none⟩ = some (.string ⟨#[75]⟩) := by
    have : w1.cell? ⟨g, i * 5 + 1, none⟩ = (kindRow (formAt i))[1]? := by
      rw [cell_of_row w1 g _ _ _ _ hg, Nat.mul_comm]; exact kindCells_get i 1 hi (by omega)
    rw [this, he]
    rfl
  clear hbw hg
  go_wp2
  all_goals
    go_ret
    refine ⟨ret_bool (Bool.eq_iff_iff.mpr ?_), HB⟩
    rw [Hr.out]
    first
    | (simp [tmod_zero]; omega)
    | (simp_all [tmod_zero]; done)
    | (simp_all [tmod_zero]; omega)

theorem mayP_R (d a b n : Int) (hd0 : 0 ≤ d) (hd1 : d ≤ 31) (ha0 : 0 ≤ a) (ha1 : a ≤ 31) (hb0 : 0 ≤ b) (hb1 : b ≤ 31) : mayP 82 d a b n ↔ (n = 0) := by
  unfold mayP
  simp [hd0, hd1, ha0, ha1, hb0, hb1]

set_option maxHeartbeats 4000000 in
set_option maxRecDepth 100000 in
theorem refMay_R (i : Nat) (hi : i < 64) (nm : List UInt8) (o f3 f7 : Nat) (he : formAt i = (nm, 82, (o : Int), (f3 : Int), (f7 : Int))) (d a b n : Int) (hd0 : 0 ≤ d) (hd1 : d ≤ 31) (ha0 : 0 ≤ a) (ha1 : a ≤ 31) (hb0 : 0 ≤ b) (hb1 : b ≤ 31) (r : Bool) (hr : r = true ↔ mayP 82 d a b n) (w : World) :
    Calls Try.prog 13 #[.agg #[.int .i64 i, .int .i64 d, .int .i64 a, .int .i64 b, .int .i64 n]] w fun e w' => e = .returned (.bool r) ∧ Below w.heap.size w w' := by
  rw [mayP_R d a b n hd0 hd1 ha0 ha1 hb0 hb1] at hr
  have Hr := hid hr
  clear hr
  go_enter Try.func13, Try.ntmps13
  go_wp2_with fail
  refine (kinds_any _).mono ?_
  rintro e w1 ⟨g, rfl, hg, hgs, hbw⟩
  obtain ⟨hc1, hf1⟩ := bcell hbw
  have hs1 : w.heap.size < w1.heap.size := by have := hbw.size; simp at this; omega
  have HB : Below w.heap.size w w1 := ((Below.refl _ _).alloc (Nat.le_refl _) _).trans (hbw.mono (by simp))
  have c1 : w1.cell? ⟨g, i * 5 + 1, none⟩ = some (.string ⟨#[82]⟩) := by
    have : w1.cell? ⟨g, i * 5 + 1, none⟩ = (kindRow (formAt i))[1]? := by
      rw [cell_of_row w1 g _ _ _ _ hg, Nat.mul_comm]; exact kindCells_get i 1 hi (by omega)
    rw [this, he]
    rfl
  clear hbw hg
  go_wp2
  all_goals
    go_ret
    refine ⟨ret_bool (Bool.eq_iff_iff.mpr ?_), HB⟩
    rw [Hr.out]
    first
    | (simp [tmod_zero]; omega)
    | (simp_all [tmod_zero]; done)
    | (simp_all [tmod_zero]; omega)

theorem mayP_N (d a b n : Int) (hd0 : 0 ≤ d) (hd1 : d ≤ 31) (ha0 : 0 ≤ a) (ha1 : a ≤ 31) (hb0 : 0 ≤ b) (hb1 : b ≤ 31) : mayP 78 d a b n ↔ (d = 0 ∧ a = 0 ∧ b = 0 ∧ n = 0) := by
  unfold mayP
  simp [hd0, hd1, ha0, ha1, hb0, hb1]

set_option maxHeartbeats 4000000 in
set_option maxRecDepth 100000 in
theorem refMay_N (i : Nat) (hi : i < 64) (nm : List UInt8) (o f3 f7 : Nat) (he : formAt i = (nm, 78, (o : Int), (f3 : Int), (f7 : Int))) (d a b n : Int) (hd0 : 0 ≤ d) (hd1 : d ≤ 31) (ha0 : 0 ≤ a) (ha1 : a ≤ 31) (hb0 : 0 ≤ b) (hb1 : b ≤ 31) (r : Bool) (hr : r = true ↔ mayP 78 d a b n) (w : World) :
    Calls Try.prog 13 #[.agg #[.int .i64 i, .int .i64 d, .int .i64 a, .int .i64 b, .int .i64 n]] w fun e w' => e = .returned (.bool r) ∧ Below w.heap.size w w' := by
  rw [mayP_N d a b n hd0 hd1 ha0 ha1 hb0 hb1] at hr
  have Hr := hid hr
  clear hr
  go_enter Try.func13, Try.ntmps13
  go_wp2_with fail
  refine (kinds_any _).mono ?_
  rintro e w1 ⟨g, rfl, hg, hgs, hbw⟩
  obtain ⟨hc1, hf1⟩ := bcell hbw
  have hs1 : w.heap.size < w1.heap.size := by have := hbw.size; simp at this; omega
  have HB : Below w.heap.size w w1 := ((Below.refl _ _).alloc (Nat.le_refl _) _).trans (hbw.mono (by simp))
  have c1 : w1.cell? ⟨g, i * 5 + 1, none⟩ = some (.string ⟨#[78]⟩) := by
    have : w1.cell? ⟨g, i * 5 + 1, none⟩ = (kindRow (formAt i))[1]? := by
      rw [cell_of_row w1 g _ _ _ _ hg, Nat.mul_comm]; exact kindCells_get i 1 hi (by omega)
    rw [this, he]
    rfl
  clear hbw hg
  go_wp2
  all_goals
    go_ret
    refine ⟨ret_bool (Bool.eq_iff_iff.mpr ?_), HB⟩
    rw [Hr.out]
    first
    | (simp [tmod_zero]; omega)
    | (simp_all [tmod_zero]; done)
    | (simp_all [tmod_zero]; omega)

theorem refMay_any (o d a b n : Int) (r : Bool) (hr : r = true ↔ (0 ≤ o ∧ o < 64 ∧ mayP (letterI o) d a b n)) (w : World) :
    Calls Try.prog 13 #[.agg #[.int .i64 o, .int .i64 d, .int .i64 a, .int .i64 b, .int .i64 n]] w fun e w' => e = .returned (.bool r) ∧ Below w.heap.size w w' := by
  by_cases h : 0 ≤ o ∧ o < 64 ∧ 0 ≤ d ∧ d ≤ 31 ∧ 0 ≤ a ∧ a ≤ 31 ∧ 0 ≤ b ∧ b ≤ 31
  · obtain ⟨h1, h2, h3, h4, h5, h6, h7, h8⟩ := h
    obtain ⟨i, rfl⟩ := Int.eq_ofNat_of_zero_le h1
    have hi : i < 64 := by omega
    obtain ⟨nm, l, p, f3, f7, he, hp, hf3, hf7, hl⟩ := row_letter i hi
    have el : letterI i = l := by unfold letterI; rw [if_pos ⟨by omega, by omega⟩, Int.toNat_natCast, he]
    rw [el] at hr
    have hr' : r = true ↔ mayP l d a b n := hr.trans ⟨fun q => q.2.2, fun q => ⟨h1, h2, q⟩⟩
    rcases hl with rfl | rfl | rfl | rfl | rfl | rfl | rfl | rfl | rfl
    · exact refMay_U i hi nm p f3 f7 he d a b n h3 h4 h5 h6 h7 h8 r hr' w
    · exact refMay_J i hi nm p f3 f7 he d a b n h3 h4 h5 h6 h7 h8 r hr' w
    · exact refMay_I i hi nm p f3 f7 he d a b n h3 h4 h5 h6 h7 h8 r hr' w
    · exact refMay_B i hi nm p f3 f7 he d a b n h3 h4 h5 h6 h7 h8 r hr' w
    · exact refMay_S i hi nm p f3 f7 he d a b n h3 h4 h5 h6 h7 h8 r hr' w
    · exact refMay_H i hi nm p f3 f7 he d a b n h3 h4 h5 h6 h7 h8 r hr' w
    · exact refMay_K i hi nm p f3 f7 he d a b n h3 h4 h5 h6 h7 h8 r hr' w
    · exact refMay_R i hi nm p f3 f7 he d a b n h3 h4 h5 h6 h7 h8 r hr' w
    · exact refMay_N i hi nm p f3 f7 he d a b n h3 h4 h5 h6 h7 h8 r hr' w
  · have hf : r = false := by
      cases hq : r
      · rfl
      · exfalso
        obtain ⟨q1, q2, q3⟩ := hr.1 hq
        obtain ⟨p1, p2, p3, p4, p5, p6, _⟩ := q3
        exact h ⟨q1, q2, p1, p2, p3, p4, p5, p6⟩
    rw [hf]
    exact refMay_out o d a b n w h
end
end Go.Proofs.Ytoljkjnehcbbaaa
