/- Where a branch goes, and what a jump tells: the step at the eight words (plain). -/
import Derived.Test.YtiemingpbommeaaGreatDoorGq
namespace Go.Proofs.YtiemingpbommeaaGreatDoor
open Go Go.RowKit
noncomputable section
set_option linter.unusedVariables false
set_option linter.unusedSimpArgs false

theorem getR_zeroed {X : List Nat} (hX : Regs X) (k : Nat) (hk : k ≠ 0) : getR (X.set 0 0) k = getR X k := by
  unfold getR
  cases X with
  | nil => rfl
  | cons x X => obtain ⟨j, rfl⟩ : ∃ j, k = j + 1 := ⟨k - 1, by omega⟩; simp
theorem getR_put {X : List Nat} (hX : Regs X) (k v : Nat) (hk : k < 32) : getR (X.set k v) k = v := by
  have h := hX.len
  unfold getR
  rw [getD_at _ _ _ (by rw [List.length_set]; omega)]
  simp
theorem getR_put_ne (X : List Nat) (k j v : Nat) (hk : k ≠ j) : getR (X.set j v) k = getR X k := by
  unfold getR
  simp only [List.getD_eq_getElem?_getD, List.getElem?_set_ne (Ne.symm hk)]
theorem getR_setR_same {X : List Nat} (hX : Regs X) (k v : Nat) (hk : k < 32) (h0 : k ≠ 0) : getR (setR X k v) k = v := by
  unfold setR
  rw [if_pos (by omega)]
  exact getR_put hX k v hk

theorem put_at' (n size : Nat) (ni : Int) (h : ni = n) (w : World) (hn : n < 18446744073709551616) (h1 : 1 ≤ size) (h8 : size ≤ 8) :
    Calls Tryz.prog 12 #[.int .u64 ni, .int .i64 size] w fun e w' => e = .returned (.string ⟨(putL n size).toArray⟩) ∧ Below w.heap.size w w' := by subst h; exact put_in n size w hn h1 h8
/-- a branch's step -/
theorem step_branch (M : List Pg) (X : List Nat) (W : Nat) (o : Int) (hf : fetchN M 65600 = (W, 0, 0)) (hd : decN W = ((o, 0, 5, 6, 16), true)) (h1 : 4 ≤ o) (h2 : o ≤ 9) :
    stepN M X 65600 = ⟨M, X.set 0 0, if takenN o (getR (X.set 0 0) 5) (getR (X.set 0 0) 6) then 65616 else 65604, 0, 0, 0⟩ := by
  have hg : goesN (X.set 0 0) 65600 o 0 5 6 16 = ((X.set 0 0, if takenN o (getR (X.set 0 0) 5) (getR (X.set 0 0) 6) then 65616 else 65604, 0, 0), true) := by
    unfold goesN
    rw [if_neg (by omega), if_neg (by omega), if_pos ⟨h1, h2⟩]
    cases takenN o (getR (X.set 0 0) 5) (getR (X.set 0 0) 6) <;> rfl
  unfold stepN
  rw [if_neg (by decide), hf]
  simp only [if_true]
  rw [hd]
  simp only [if_true]
  unfold execN
  rw [show (0 : Int).toNat = 0 from rfl, show (5 : Int).toNat = 5 from rfl, show (6 : Int).toNat = 6 from rfl, hg]
  rfl
/-- a jump's -/
theorem step_jal (M : List Pg) (X : List Nat) (W : Nat) (hf : fetchN M 65600 = (W, 0, 0)) (hd : decN W = ((2, 7, 0, 0, 16), true)) :
    stepN M X 65600 = ⟨M, setR (X.set 0 0) 7 65604, 65616, 0, 0, 0⟩ := by
  have hg : goesN (X.set 0 0) 65600 2 7 0 0 16 = ((setR (X.set 0 0) 7 65604, 65616, 0, 0), true) := by
    unfold goesN
    rw [if_pos rfl]
    rfl
  unfold stepN
  rw [if_neg (by decide), hf]
  simp only [if_true]
  rw [hd]
  simp only [if_true]
  unfold execN
  rw [show (7 : Int).toNat = 7 from rfl, show (0 : Int).toNat = 0 from rfl, hg]
  rfl
theorem step_jalr (M : List Pg) (X : List Nat) (W c : Nat) (hc : getR (X.set 0 0) 5 = c) (h4 : c % 4 = 0) (hf : fetchN M 65600 = (W, 0, 0)) (hd : decN W = ((3, 7, 5, 0, 16), true)) :
    stepN M X 65600 = ⟨M, setR (X.set 0 0) 7 65604, (c + 16) % 18446744073709551616, 0, 0, 0⟩ := by
  have hg : goesN (X.set 0 0) 65600 3 7 5 0 16 = ((setR (X.set 0 0) 7 65604, (c + 16) % 18446744073709551616, 0, 0), true) := by
    have ht : adr c (u64N 16) / 2 * 2 = (c + 16) % 18446744073709551616 := by
      rw [show u64N 16 = 16 by rfl]
      unfold adr
      omega
    unfold goesN
    rw [if_neg (by decide), if_pos rfl, hc, ht]
    unfold jumpN
    rw [if_pos (by omega), show adr 65600 4 = 65604 by rfl]
  unfold stepN
  rw [if_neg (by decide), hf]
  simp only [if_true]
  rw [hd]
  simp only [if_true]
  unfold execN
  rw [show (7 : Int).toNat = 7 from rfl, show (5 : Int).toNat = 5 from rfl, show (0 : Int).toNat = 0 from rfl, hg]
  rfl
theorem run_bools0 (a0 a1 a2 a3 a4 a5 a6 a7 : Bool) (w : World) : (Instr.index 47 (.agg #[.bool a0, .bool a1, .bool a2, .bool a3, .bool a4, .bool a5, .bool a6, .bool a7]) (.int .i64 0)).run Tryz.prog w = .ok (.bool a0) w := by kernel_rfl
theorem run_bools1 (a0 a1 a2 a3 a4 a5 a6 a7 : Bool) (w : World) : (Instr.index 47 (.agg #[.bool a0, .bool a1, .bool a2, .bool a3, .bool a4, .bool a5, .bool a6, .bool a7]) (.int .i64 1)).run Tryz.prog w = .ok (.bool a1) w := by kernel_rfl
theorem run_bools2 (a0 a1 a2 a3 a4 a5 a6 a7 : Bool) (w : World) : (Instr.index 47 (.agg #[.bool a0, .bool a1, .bool a2, .bool a3, .bool a4, .bool a5, .bool a6, .bool a7]) (.int .i64 2)).run Tryz.prog w = .ok (.bool a2) w := by kernel_rfl
theorem run_bools3 (a0 a1 a2 a3 a4 a5 a6 a7 : Bool) (w : World) : (Instr.index 47 (.agg #[.bool a0, .bool a1, .bool a2, .bool a3, .bool a4, .bool a5, .bool a6, .bool a7]) (.int .i64 3)).run Tryz.prog w = .ok (.bool a3) w := by kernel_rfl
theorem run_bools4 (a0 a1 a2 a3 a4 a5 a6 a7 : Bool) (w : World) : (Instr.index 47 (.agg #[.bool a0, .bool a1, .bool a2, .bool a3, .bool a4, .bool a5, .bool a6, .bool a7]) (.int .i64 4)).run Tryz.prog w = .ok (.bool a4) w := by kernel_rfl
theorem run_bools5 (a0 a1 a2 a3 a4 a5 a6 a7 : Bool) (w : World) : (Instr.index 47 (.agg #[.bool a0, .bool a1, .bool a2, .bool a3, .bool a4, .bool a5, .bool a6, .bool a7]) (.int .i64 5)).run Tryz.prog w = .ok (.bool a5) w := by kernel_rfl
theorem run_bools6 (a0 a1 a2 a3 a4 a5 a6 a7 : Bool) (w : World) : (Instr.index 47 (.agg #[.bool a0, .bool a1, .bool a2, .bool a3, .bool a4, .bool a5, .bool a6, .bool a7]) (.int .i64 6)).run Tryz.prog w = .ok (.bool a6) w := by kernel_rfl
theorem run_bools7 (a0 a1 a2 a3 a4 a5 a6 a7 : Bool) (w : World) : (Instr.index 47 (.agg #[.bool a0, .bool a1, .bool a2, .bool a3, .bool a4, .bool a5, .bool a6, .bool a7]) (.int .i64 7)).run Tryz.prog w = .ok (.bool a7) w := by kernel_rfl
theorem doN3 (a b : Nat) : doN 3 a b = if sgn a < sgn b then 1 else 0 := by
  unfold doN simpleN
  rw [if_neg (by decide), if_neg (by decide), if_neg (by decide), if_neg (by decide), if_neg (by decide), if_neg (by decide), if_pos rfl]
theorem taken4 (a b : Nat) : takenN 4 a b = (a == b) := by unfold takenN; rw [if_pos rfl]
theorem taken5 (a b : Nat) : takenN 5 a b = (a != b) := by unfold takenN; rw [if_neg (by decide), if_pos rfl]
theorem taken6 (a b : Nat) : takenN 6 a b = (doN 3 a b == 1) := by unfold takenN; rw [if_neg (by decide), if_neg (by decide), if_pos rfl]
theorem taken7 (a b : Nat) : takenN 7 a b = (doN 3 a b == 0) := by unfold takenN; rw [if_neg (by decide), if_neg (by decide), if_neg (by decide), if_pos rfl]
theorem tk0 (a b : Nat) : ((a : Int) == (b : Int)) = takenN 4 a b := by rw [natEq, taken4]
theorem tk1 (a b : Nat) : ((a : Int) != (b : Int)) = takenN 5 a b := by rw [natNe, taken5]
theorem tk2 (a b : Nat) : decide (wrap64 (a : Int) < wrap64 (b : Int)) = takenN 6 a b := by
  rw [taken6, doN3]
  unfold sgn
  by_cases h : wrap64 (a : Int) < wrap64 (b : Int)
  · rw [decide_eq_true h, if_pos h]; rfl
  · rw [decide_eq_false h, if_neg h]; rfl
theorem tk3 (a b : Nat) : decide (wrap64 (b : Int) ≤ wrap64 (a : Int)) = takenN 7 a b := by
  rw [taken7, doN3]
  unfold sgn
  by_cases h : wrap64 (a : Int) < wrap64 (b : Int)
  · rw [decide_eq_false (by omega), if_pos h]; rfl
  · rw [decide_eq_true (by omega), if_neg h]; rfl
theorem tk4 (a b : Nat) : decide (a < b) = takenN 8 a b := by
  unfold takenN; rw [if_neg (by decide), if_neg (by decide), if_neg (by decide), if_neg (by decide), if_pos rfl]
theorem tk5 (a b : Nat) : decide (b ≤ a) = takenN 9 a b := by
  unfold takenN; rw [if_neg (by decide), if_neg (by decide), if_neg (by decide), if_neg (by decide), if_neg (by decide)]
theorem andNot3 (x : Nat) (hx : x < 18446744073709551616) : bits .andNot .u64 (x : Int) 3 = ((x / 4 * 4 : Nat) : Int) := by
  rw [u64_andNot (x : Int) 3 (by omega) (by omega) (by omega) (by omega), Int.toNat_natCast, show (3 : Int).toNat = 3 from rfl]
  congr 1
  have e2 : x / 4 * 4 = (x >>> 2) <<< 2 := by rw [Nat.shiftLeft_eq, Nat.shiftRight_eq_div_pow]
  rw [e2, show 18446744073709551615 - 3 = 4611686018427387903 <<< 2 by decide]
  apply Nat.eq_of_testBit_eq
  intro i
  rw [Nat.testBit_and, Nat.testBit_shiftLeft, Nat.testBit_shiftLeft, Nat.testBit_shiftRight, show (4611686018427387903 : Nat) = 2 ^ 62 - 1 by decide, Nat.testBit_two_pow_sub_one]
  by_cases h : 2 ≤ i
  · rw [show 2 + (i - 2) = i by omega]
    by_cases h3 : i - 2 < 62
    · simp [h, h3]
    · have : x.testBit i = false := Nat.testBit_lt_two_pow (Nat.lt_of_lt_of_le hx (Nat.pow_le_pow_right (n := 2) (i := 64) (by omega) (by omega)))
      simp [this]
  · simp [h]
/-- a space with a word at 65600 -/
def jM (W : Nat) : List Pg := (pokeN [zeroPg 1 65536] 65600 (putL W 4)).1
theorem jenc0 : encV 4 0 5 6 16 = (6457443, true) := by kernel_rfl
theorem jdec0 : decN 6457443 = ((4, 0, 5, 6, 16), true) := by kernel_rfl
theorem jget0 : fetchN (jM 6457443) 65600 = (6457443, 0, 0) := by kernel_rfl
theorem jenc1 : encV 5 0 5 6 16 = (6461539, true) := by kernel_rfl
theorem jdec1 : decN 6461539 = ((5, 0, 5, 6, 16), true) := by kernel_rfl
theorem jget1 : fetchN (jM 6461539) 65600 = (6461539, 0, 0) := by kernel_rfl
theorem jenc2 : encV 6 0 5 6 16 = (6473827, true) := by kernel_rfl
theorem jdec2 : decN 6473827 = ((6, 0, 5, 6, 16), true) := by kernel_rfl
theorem jget2 : fetchN (jM 6473827) 65600 = (6473827, 0, 0) := by kernel_rfl
theorem jenc3 : encV 7 0 5 6 16 = (6477923, true) := by kernel_rfl
theorem jdec3 : decN 6477923 = ((7, 0, 5, 6, 16), true) := by kernel_rfl
theorem jget3 : fetchN (jM 6477923) 65600 = (6477923, 0, 0) := by kernel_rfl
theorem jenc4 : encV 8 0 5 6 16 = (6482019, true) := by kernel_rfl
theorem jdec4 : decN 6482019 = ((8, 0, 5, 6, 16), true) := by kernel_rfl
theorem jget4 : fetchN (jM 6482019) 65600 = (6482019, 0, 0) := by kernel_rfl
theorem jenc5 : encV 9 0 5 6 16 = (6486115, true) := by kernel_rfl
theorem jdec5 : decN 6486115 = ((9, 0, 5, 6, 16), true) := by kernel_rfl
theorem jget5 : fetchN (jM 6486115) 65600 = (6486115, 0, 0) := by kernel_rfl
theorem jenc6 : encV 2 7 0 0 16 = (16778223, true) := by kernel_rfl
theorem jdec6 : decN 16778223 = ((2, 7, 0, 0, 16), true) := by kernel_rfl
theorem jget6 : fetchN (jM 16778223) 65600 = (16778223, 0, 0) := by kernel_rfl
theorem jenc7 : encV 3 7 5 0 16 = (16942055, true) := by kernel_rfl
theorem jdec7 : decN 16942055 = ((3, 7, 5, 0, 16), true) := by kernel_rfl
theorem jget7 : fetchN (jM 16942055) 65600 = (16942055, 0, 0) := by kernel_rfl
/-- the kinds' number -/
theorem kind_of (z : Int) : ∃ k : Nat, k < 8 ∧ (wrap64 (z.tmod 8 + 8)).tmod 8 = k := by
  have h1 : -8 < z.tmod 8 := Int.lt_tmod_of_pos _ (by decide)
  have h2 : z.tmod 8 < 8 := Int.tmod_lt_of_pos _ (by decide)
  generalize z.tmod 8 = y at *
  have h3 : wrap64 (y + 8) = y + 8 := by unfold wrap64; omega
  rw [h3]
  refine ⟨((y + 8).tmod 8).toNat, ?_, ?_⟩
  · have := Int.tmod_lt_of_pos (y + 8) (show (0 : Int) < 8 by decide); omega
  · have := Int.tmod_nonneg 8 (show 0 ≤ y + 8 by omega); omega
end
end Go.Proofs.YtiemingpbommeaaGreatDoor

/- Row CpuJumps: the law's own function, walked: kind 0. -/
namespace Go.Proofs.YtiemingpbommeaaGreatDoor
open Go Go.RowKit
noncomputable section
set_option linter.unusedVariables false
set_option linter.unusedSimpArgs false

set_option maxHeartbeats 4000000 in
set_option maxRecDepth 100000 in
theorem jumps_walk0 (a b : Nat) (z : Int) (w : World) (ha : a < 18446744073709551616) (hb : b < 18446744073709551616) (hk : (wrap64 (z.tmod 8 + 8)).tmod 8 = 0) (hL : Low w []) :
    Calls Tryz.prog 4 #[.int .u64 a, .int .u64 b, .int .i64 z] w fun e w' => e = .returned (.bool true) ∧ Below w.heap.size w w' := by
  have HL := hid hL
  have Ha := hid ha
  have Hb := hid hb
  have Hk := hid hk
  clear hL ha hb hk
  go_enter Tryz.func4, Tryz.ntmps4
  go_wp2_with fail
  refine (speaks_any _ HL.out).mono ?_
  rintro e w0 ⟨rfl, hb0⟩
  have B0 := hid hb0
  clear hb0
  go_upto_region 4 with (fail)
  rw [Hk.out]
  go_wp2_with fail
  refine (encode_at 4 0 5 6 16 6457443 true jenc0 _).mono ?_
  rintro e w0b ⟨rfl, hb1⟩
  have B0b := hid (B0.out.trans (((((Below.refl _ _).alloc (Nat.le_refl _) _).alloc (by simp) _).trans (hb1.mono (by simp <;> omega))).mono B0.out.size))
  clear hb1 B0
  go_wp2_with fail
  refine (new_any 2 (by decide) _).mono ?_
  rintro e w1 ⟨sp, m, rfl, hS, hb1, hsp, hm⟩
  have HS := hid hS
  have B1 := hid (B0b.out.trans (hb1.mono B0b.out.size))
  have Hsp := hid (Nat.le_trans B0b.out.size hsp)
  have Hm := hid (Nat.le_trans B0b.out.size hm)
  clear hS hb1 hsp hm B0b
  go_wp2_with fail
  refine (map_first sp m 2 65536 1 65792 _ HS.out ⟨by decide, by decide, by decide, by decide, by decide⟩ rfl (by decide)).mono ?_
  rintro e w2 ⟨rfl, v, qs, hS2, hqs, hbl, _, hk2⟩
  have K2 := hid ((Keep.of_below (S := [sp, m]) B1.out).trans (hk2.mono (by intro k hk; simpa [ownB, Value.ownBlock] using hk)))
  have HS2 := hid hS2
  have Hbl := hid (fun b hb => Nat.le_trans B1.out.size (hbl b hb))
  have hps : pgs ([] ++ qs) = [zeroPg 1 65536] := by rw [List.nil_append, hqs]; rfl
  clear hS2 hqs hbl hk2
  obtain ⟨ps2, hp2⟩ : ∃ ps2, [] ++ qs = ps2 := ⟨_, rfl⟩
  rw [hp2] at HS2 hps
  have Hps := hid hps
  have Hbl2 : Hid (∀ b ∈ blks ps2, w.heap.size ≤ b) := hid (by rw [← hp2, List.nil_append]; exact Hbl.out)
  clear hp2 Hbl hps
  go_wp2_with fail
  refine (put_at' 6457443 4 _ (by first | rfl | decide) _ (by decide) (by decide) (by decide)).mono ?_
  rintro e w2b ⟨rfl, hb2⟩
  have HS2b := hid (HS2.out.below hb2)
  have K2b := hid (K2.out.trans (Keep.of_below hb2))
  clear hb2 K2 HS2
  go_wp2_with fail
  refine (poke_any sp m v 2 ps2 65600 (putL 6457443 4) _ (by decide) (by rw [putL_length]; decide) HS2b.out).mono ?_
  rintro e w3 ⟨rfl, ps3, hM3, hb3, hS3, hk3⟩
  rw [Hps.out] at hM3
  have HM3 : Hid (pgs ps3 = jM 6457443) := hid hM3
  have HS3 := hid hS3
  have Hbl3 : Hid (∀ b ∈ blks ps3, w.heap.size ≤ b) := hid (by rw [hb3]; exact Hbl2.out)
  have K3 : Hid (Keep [] w w3) := hid (((K2b.out.mono (T := sp :: m :: blks ps2) (by intro k hk; simp at hk; rcases hk with rfl | rfl <;> simp)).trans (hk3.mono (by intro k hk; simp [hk]))).old (by
    intro k hk hlt
    simp only [List.mem_cons] at hk
    have h1 := Hsp.out
    have h2 := Hm.out
    rcases hk with rfl | rfl | hk
    · omega
    · omega
    · have := Hbl2.out k hk; omega))
  clear hM3 hS3 hb3 hk3 K2b HS2b Hps
  go_upto_region 14 with (fail)
  apply wp_region_lit
  obtain ⟨w4, hw4, S7, RB4⟩ := new_row w3 (stCells spkX 65600) zst 36
  refine wpList_val (w' := w3) (.agg (stCells spkX 65600)) rfl (by kernel_rfl) ?_
  simp only [Act.put, List.setIfInBounds_toArray, List.set_cons_zero, List.set_cons_succ]
  refine wpList_val (w' := w3.alloc (.cells zst 36)) (.pointer (some ⟨w3.heap.size, 0, none⟩)) rfl (by kernel_rfl) ?_
  simp only [Act.put, List.setIfInBounds_toArray, List.set_cons_zero, List.set_cons_succ]
  refine wpList_store_row rfl 36 (.tmp 13) (.tmp 55) rfl w3.heap.size (stCells spkX 65600) rfl rfl 36 zst (heap_alloc_new _ _) (infoState spk_regs 65600) (stCells_size spk_regs 65600).symm (stCells_one _ _) ?_
  simp only [Act.put, List.setIfInBounds_toArray, List.set_cons_zero, List.set_cons_succ]
  rw [hw4]
  have S7' : StIs w4 w3.heap.size spkX 65600 := S7
  have HS4 := hid (HS3.out.below RB4)
  have K4 : Hid (Keep [] w w4) := hid (K3.out.trans (Keep.of_below RB4))
  have hg7 : w.heap.size ≤ w3.heap.size := K3.out.size
  clear hw4 RB4 HS3 K3 S7
  generalize w3.heap.size = g7 at S7' hg7 ⊢
  have c5 := S7'.cell spk_regs (show 5 < 32 by decide)
  have f5 := frozen_of_row w4 _ 5 _ _ S7'
  have hk5 : Keep [g7] w4 (w4.setCell ⟨g7, 5, none⟩ (.int .u64 a)) := (Keep.refl _ _).setCell _ _ (.inr (by simp))
  have S8 := S7'.set spk_regs (show 5 < 32 by decide) a
  have HS5 := HS4.out.keepSt S7' hk5
  have R5 := spk_regs.set 5 a Ha.out
  have c6 := S8.cell R5 (show 6 < 32 by decide)
  have f6 := frozen_of_row _ _ 6 _ _ S8
  have hk6 : Keep [g7] (w4.setCell ⟨g7, 5, none⟩ (.int .u64 a)) ((w4.setCell ⟨g7, 5, none⟩ (.int .u64 a)).setCell ⟨g7, 6, none⟩ (.int .u64 b)) := (Keep.refl _ _).setCell _ _ (.inr (by simp))
  have S9 := hid (S8.set R5 (show 6 < 32 by decide) b)
  have HS6 := hid (HS5.keepSt S8 hk6)
  have R6 := R5.set 6 b Hb.out
  have K5 : Hid (Keep [] w ((w4.setCell ⟨g7, 5, none⟩ (.int .u64 a)).setCell ⟨g7, 6, none⟩ (.int .u64 b))) := hid (((K4.out.mono (T := [g7]) (by simp)).trans (hk5.trans hk6)).old (by intro k hk hlt; simp at hk; omega))
  clear hk5 hk6 S7' S8 HS4 HS5 K4 R5
  have HR6 := hid R6
  clear R6
  go_upto_region 16 with (fail)
  clear c5 c6 f5 f6
  generalize (w4.setCell ⟨g7, 5, none⟩ (.int .u64 a)).setCell ⟨g7, 6, none⟩ (.int .u64 b) = w5 at S9 HS6 K5 ⊢
  have HL5 : Hid (Low w5 (blks ps3)) := hid (by
    have h := HL.out.keep K5.out
    exact ⟨h.names, h.max, h.sz, fun b hb => by have := Hbl3.out b hb; have := HL.out.sz; omega⟩)
  obtain ⟨X, hX⟩ : ∃ X, (spkX.set 5 a).set 6 b = X := ⟨_, rfl⟩
  have hX5 : getR (X.set 0 0) 5 = a := by rw [← hX, getR_zeroed (hX ▸ HR6.out) _ (by decide), getR_put_ne _ _ _ _ (by decide), getR_put spk_regs _ _ (by decide)]
  have hX6 : getR (X.set 0 0) 6 = b := by rw [← hX, getR_zeroed (hX ▸ HR6.out) _ (by decide), getR_put (spk_regs.set 5 a Ha.out) _ _ (by decide)]
  rw [hX] at S9 HR6
  have hstep := step_any sp m v 2 ps3 X 65600 w5 HS6.out HR6.out HL5.out
  rw [HM3.out] at hstep
  have hs := step_branch (jM 6457443) X 6457443 4 jget0 jdec0 (by decide) (by decide)
  have hrg := stepN_regs (jM 6457443) HR6.out 65600
  obtain ⟨R, hR⟩ : ∃ R, stepN (jM 6457443) X 65600 = R := ⟨_, rfl⟩
  rw [hR] at hstep hs hrg
  have Hcode : Hid (R.code = 0) := hid (by rw [hs])
  have Hev : Hid (R.ev = 0) := hid (by rw [hs])
  have Hpc : Hid (R.pc = if takenN 4 a b then 65616 else 65604) := hid (by rw [hs, hX5, hX6])
  clear hX5 hX6
  have Hreg := hid hrg
  clear hX hR hs hrg HM3
  unfold StepPost at hstep
  have Hstep := hid hstep
  clear hstep
  go_upto_region 18 with (fail)
  apply wp_region_lit
  refine wpList_val (w' := w5) (.pointer (some ⟨sp, 0, none⟩)) rfl (by kernel_rfl) ?_
  simp only [Act.put, List.setIfInBounds_toArray, List.set_cons_zero, List.set_cons_succ]
  refine wpList_load_row rfl 36 (.tmp 13) rfl g7 rfl 36 (stCells X 65600) (0, 0) _ S9.out Tryz.underlying36 rfl (infoState HR6.out 65600) ?_
  simp only [Act.put, List.setIfInBounds_toArray, List.set_cons_zero, List.set_cons_succ]
  refine wpList_call (.tuple #[.agg (stCells R.X R.pc), .int .i64 R.ev, fltV R.code R.fat]) _ (f := 13) (args := #[.pointer (some ⟨sp, 0, none⟩), .agg (stCells X 65600)]) rfl (by kernel_rfl) Hstep.out ?_
  rintro w6 ⟨ps6, _, _, _, hk6⟩
  have K6 : Hid (Keep [] w w6) := hid (((K5.out.mono (T := blks ps3) (by simp)).trans hk6).old (by intro k hk hlt; have := Hbl3.out k hk; omega))
  clear hk6 Hstep
  simp only [Act.put, List.setIfInBounds_toArray, List.set_cons_zero, List.set_cons_succ]
  refine wpList_val (w' := w6) (.tuple #[.agg (stCells R.X R.pc), .int .i64 R.ev, fltV R.code R.fat]) rfl (by kernel_rfl) ?_
  simp only [Act.put, List.setIfInBounds_toArray, List.set_cons_zero, List.set_cons_succ]
  refine wpList_val (w' := w6) (.agg (stCells R.X R.pc)) rfl (by kernel_rfl) ?_
  simp only [Act.put, List.setIfInBounds_toArray, List.set_cons_zero, List.set_cons_succ]
  refine wpList_val (w' := w6) (.int .i64 R.ev) rfl (by kernel_rfl) ?_
  simp only [Act.put, List.setIfInBounds_toArray, List.set_cons_zero, List.set_cons_succ]
  refine wpList_val (w' := w6) (fltV R.code R.fat) rfl (by kernel_rfl) ?_
  simp only [Act.put, List.setIfInBounds_toArray, List.set_cons_zero, List.set_cons_succ]
  obtain ⟨W6, hW6, S11, S13, RB, h1, h2⟩ := two_new w6 36 31 zst #[.int .i64 0, .int .u64 0, .string ⟨#[]⟩] (stCells R.X R.pc) #[.int .i64 R.code, .int .u64 R.fat, .string ⟨#[]⟩]
  have S11 := hid S11
  have S13 := hid S13
  have K7 : Hid (Keep [] w W6) := hid (K6.out.trans (Keep.of_below RB))
  obtain ⟨WA, hWA⟩ : ∃ WA, w6.alloc (.cells zst 36) = WA := ⟨_, rfl⟩
  have hsA : WA.heap.size = w6.heap.size + 1 := by rw [← hWA]; simp
  refine wpList_val (w' := w6.alloc (.cells zst 36)) (.pointer (some ⟨w6.heap.size, 0, none⟩)) rfl (by kernel_rfl) ?_
  simp only [Act.put, List.setIfInBounds_toArray, List.set_cons_zero, List.set_cons_succ]
  rw [hWA]
  rw [hWA] at h1 h2 hW6
  refine wpList_val (w' := WA.alloc (.cells #[.int .i64 0, .int .u64 0, .string ⟨#[]⟩] 31)) (.pointer (some ⟨WA.heap.size, 0, none⟩)) rfl (by kernel_rfl) ?_
  simp only [Act.put, List.setIfInBounds_toArray, List.set_cons_zero, List.set_cons_succ]
  rw [hsA]
  refine wpList_store_row rfl 36 (.tmp 14) (.tmp 72) rfl w6.heap.size (stCells R.X R.pc) rfl rfl 36 zst h1 (infoState Hreg.out R.pc) (stCells_size Hreg.out _).symm (stCells_one _ _) ?_
  simp only [Act.put, List.setIfInBounds_toArray, List.set_cons_zero, List.set_cons_succ]
  refine wpList_val (w' := (WA.alloc (.cells #[.int .i64 0, .int .u64 0, .string ⟨#[]⟩] 31)).setRow w6.heap.size (stCells R.X R.pc)) (.int .i64 R.ev) rfl (by kernel_rfl) ?_
  simp only [Act.put, List.setIfInBounds_toArray, List.set_cons_zero, List.set_cons_succ]
  refine wpList_store_row rfl 31 (.tmp 16) (.tmp 74) rfl (w6.heap.size + 1) #[.int .i64 R.code, .int .u64 R.fat, .string ⟨#[]⟩] rfl rfl 31 #[.int .i64 0, .int .u64 0, .string ⟨#[]⟩] h2 infoFault rfl (faultRow_one ..) ?_
  simp only [Act.put, List.setIfInBounds_toArray, List.set_cons_zero, List.set_cons_succ]
  rw [hW6]
  clear hW6 h1 h2 RB hWA hsA K6
  generalize w6.heap.size = G at S11 S13 ⊢
  have Q11 : StIs W6 G R.X R.pc := S11.out
  have r7 := Q11.cell Hreg.out (show 7 < 32 by decide)
  have r32 := Q11.cellPc Hreg.out
  rw [Hpc.out] at r32
  have q0 : W6.cell? ⟨G + 1, 0, none⟩ = some (.int .i64 0) := by rw [cell_of_row W6 _ _ _ _ _ S13.out, Hcode.out]; rfl
  have q1 : W6.cell? ⟨G + 1, 1, none⟩ = some (.int .u64 R.fat) := by rw [cell_of_row W6 _ _ _ _ _ S13.out]; rfl
  have q2 : W6.cell? ⟨G + 1, 2, none⟩ = some (.string ⟨#[]⟩) := by rw [cell_of_row W6 _ _ _ _ _ S13.out]; rfl
  clear Q11
  rw [Hev.out]
  have S11' := S11
  clear S11' S13
  go_wp2_with fail
  rw [run_bools0, tk0]
  clear Hpc
  generalize takenN 4 a b = T at r32 ⊢
  cases T
  · have r32 : W6.cell? ⟨G, 32, none⟩ = some (.int .u64 (65604 : Nat)) := r32
    go_wp2_with fail
    refine (ok_zero _ _ _).mono ?_
    rintro e V ⟨rfl, hb⟩
    have s32 : V.cell? ⟨G, 32, none⟩ = some (.int .u64 (65604 : Nat)) := (World.cell?_of_block (hb.block _ (blk_lt' S11.out))).trans r32
    have K8 : Hid (Keep [] w V) := hid (K7.out.trans (Keep.of_below hb))
    clear hb q0 q1 q2 S11 r7 r32
    go_wp2_with fail
    go_ret
    exact ⟨rfl, K8.out.below (Nat.le_refl _) (by simp)⟩
  · have r32 : W6.cell? ⟨G, 32, none⟩ = some (.int .u64 (65616 : Nat)) := r32
    go_wp2_with fail
    refine (ok_zero _ _ _).mono ?_
    rintro e V ⟨rfl, hb⟩
    have s32 : V.cell? ⟨G, 32, none⟩ = some (.int .u64 (65616 : Nat)) := (World.cell?_of_block (hb.block _ (blk_lt' S11.out))).trans r32
    have K8 : Hid (Keep [] w V) := hid (K7.out.trans (Keep.of_below hb))
    clear hb q0 q1 q2 S11 r7 r32
    go_wp2_with fail
    go_ret
    exact ⟨rfl, K8.out.below (Nat.le_refl _) (by simp)⟩
end
end Go.Proofs.YtiemingpbommeaaGreatDoor

/- Row CpuJumps: the law's own function, walked: kind 1. -/
namespace Go.Proofs.YtiemingpbommeaaGreatDoor
open Go Go.RowKit
noncomputable section
set_option linter.unusedVariables false
set_option linter.unusedSimpArgs false

set_option maxHeartbeats 4000000 in
set_option maxRecDepth 100000 in
theorem jumps_walk1 (a b : Nat) (z : Int) (w : World) (ha : a < 18446744073709551616) (hb : b < 18446744073709551616) (hk : (wrap64 (z.tmod 8 + 8)).tmod 8 = 1) (hL : Low w []) :
    Calls Tryz.prog 4 #[.int .u64 a, .int .u64 b, .int .i64 z] w fun e w' => e = .returned (.bool true) ∧ Below w.heap.size w w' := by
  have HL := hid hL
  have Ha := hid ha
  have Hb := hid hb
  have Hk := hid hk
  clear hL ha hb hk
  go_enter Tryz.func4, Tryz.ntmps4
  go_wp2_with fail
  refine (speaks_any _ HL.out).mono ?_
  rintro e w0 ⟨rfl, hb0⟩
  have B0 := hid hb0
  clear hb0
  go_upto_region 4 with (fail)
  rw [Hk.out]
  go_wp2_with fail
  refine (encode_at 5 0 5 6 16 6461539 true jenc1 _).mono ?_
  rintro e w0b ⟨rfl, hb1⟩
  have B0b := hid (B0.out.trans (((((Below.refl _ _).alloc (Nat.le_refl _) _).alloc (by simp) _).trans (hb1.mono (by simp <;> omega))).mono B0.out.size))
  clear hb1 B0
  go_wp2_with fail
  refine (new_any 2 (by decide) _).mono ?_
  rintro e w1 ⟨sp, m, rfl, hS, hb1, hsp, hm⟩
  have HS := hid hS
  have B1 := hid (B0b.out.trans (hb1.mono B0b.out.size))
  have Hsp := hid (Nat.le_trans B0b.out.size hsp)
  have Hm := hid (Nat.le_trans B0b.out.size hm)
  clear hS hb1 hsp hm B0b
  go_wp2_with fail
  refine (map_first sp m 2 65536 1 65792 _ HS.out ⟨by decide, by decide, by decide, by decide, by decide⟩ rfl (by decide)).mono ?_
  rintro e w2 ⟨rfl, v, qs, hS2, hqs, hbl, _, hk2⟩
  have K2 := hid ((Keep.of_below (S := [sp, m]) B1.out).trans (hk2.mono (by intro k hk; simpa [ownB, Value.ownBlock] using hk)))
  have HS2 := hid hS2
  have Hbl := hid (fun b hb => Nat.le_trans B1.out.size (hbl b hb))
  have hps : pgs ([] ++ qs) = [zeroPg 1 65536] := by rw [List.nil_append, hqs]; rfl
  clear hS2 hqs hbl hk2
  obtain ⟨ps2, hp2⟩ : ∃ ps2, [] ++ qs = ps2 := ⟨_, rfl⟩
  rw [hp2] at HS2 hps
  have Hps := hid hps
  have Hbl2 : Hid (∀ b ∈ blks ps2, w.heap.size ≤ b) := hid (by rw [← hp2, List.nil_append]; exact Hbl.out)
  clear hp2 Hbl hps
  go_wp2_with fail
  refine (put_at' 6461539 4 _ (by first | rfl | decide) _ (by decide) (by decide) (by decide)).mono ?_
  rintro e w2b ⟨rfl, hb2⟩
  have HS2b := hid (HS2.out.below hb2)
  have K2b := hid (K2.out.trans (Keep.of_below hb2))
  clear hb2 K2 HS2
  go_wp2_with fail
  refine (poke_any sp m v 2 ps2 65600 (putL 6461539 4) _ (by decide) (by rw [putL_length]; decide) HS2b.out).mono ?_
  rintro e w3 ⟨rfl, ps3, hM3, hb3, hS3, hk3⟩
  rw [Hps.out] at hM3
  have HM3 : Hid (pgs ps3 = jM 6461539) := hid hM3
  have HS3 := hid hS3
  have Hbl3 : Hid (∀ b ∈ blks ps3, w.heap.size ≤ b) := hid (by rw [hb3]; exact Hbl2.out)
  have K3 : Hid (Keep [] w w3) := hid (((K2b.out.mono (T := sp :: m :: blks ps2) (by intro k hk; simp at hk; rcases hk with rfl | rfl <;> simp)).trans (hk3.mono (by intro k hk; simp [hk]))).old (by
    intro k hk hlt
    simp only [List.mem_cons] at hk
    have h1 := Hsp.out
    have h2 := Hm.out
    rcases hk with rfl | rfl | hk
    · omega
    · omega
    · have := Hbl2.out k hk; omega))
  clear hM3 hS3 hb3 hk3 K2b HS2b Hps
  go_upto_region 14 with (fail)
  apply wp_region_lit
  obtain ⟨w4, hw4, S7, RB4⟩ := new_row w3 (stCells spkX 65600) zst 36
  refine wpList_val (w' := w3) (.agg (stCells spkX 65600)) rfl (by kernel_rfl) ?_
  simp only [Act.put, List.setIfInBounds_toArray, List.set_cons_zero, List.set_cons_succ]
  refine wpList_val (w' := w3.alloc (.cells zst 36)) (.pointer (some ⟨w3.heap.size, 0, none⟩)) rfl (by kernel_rfl) ?_
  simp only [Act.put, List.setIfInBounds_toArray, List.set_cons_zero, List.set_cons_succ]
  refine wpList_store_row rfl 36 (.tmp 13) (.tmp 55) rfl w3.heap.size (stCells spkX 65600) rfl rfl 36 zst (heap_alloc_new _ _) (infoState spk_regs 65600) (stCells_size spk_regs 65600).symm (stCells_one _ _) ?_
  simp only [Act.put, List.setIfInBounds_toArray, List.set_cons_zero, List.set_cons_succ]
  rw [hw4]
  have S7' : StIs w4 w3.heap.size spkX 65600 := S7
  have HS4 := hid (HS3.out.below RB4)
  have K4 : Hid (Keep [] w w4) := hid (K3.out.trans (Keep.of_below RB4))
  have hg7 : w.heap.size ≤ w3.heap.size := K3.out.size
  clear hw4 RB4 HS3 K3 S7
  generalize w3.heap.size = g7 at S7' hg7 ⊢
  have c5 := S7'.cell spk_regs (show 5 < 32 by decide)
  have f5 := frozen_of_row w4 _ 5 _ _ S7'
  have hk5 : Keep [g7] w4 (w4.setCell ⟨g7, 5, none⟩ (.int .u64 a)) := (Keep.refl _ _).setCell _ _ (.inr (by simp))
  have S8 := S7'.set spk_regs (show 5 < 32 by decide) a
  have HS5 := HS4.out.keepSt S7' hk5
  have R5 := spk_regs.set 5 a Ha.out
  have c6 := S8.cell R5 (show 6 < 32 by decide)
  have f6 := frozen_of_row _ _ 6 _ _ S8
  have hk6 : Keep [g7] (w4.setCell ⟨g7, 5, none⟩ (.int .u64 a)) ((w4.setCell ⟨g7, 5, none⟩ (.int .u64 a)).setCell ⟨g7, 6, none⟩ (.int .u64 b)) := (Keep.refl _ _).setCell _ _ (.inr (by simp))
  have S9 := hid (S8.set R5 (show 6 < 32 by decide) b)
  have HS6 := hid (HS5.keepSt S8 hk6)
  have R6 := R5.set 6 b Hb.out
  have K5 : Hid (Keep [] w ((w4.setCell ⟨g7, 5, none⟩ (.int .u64 a)).setCell ⟨g7, 6, none⟩ (.int .u64 b))) := hid (((K4.out.mono (T := [g7]) (by simp)).trans (hk5.trans hk6)).old (by intro k hk hlt; simp at hk; omega))
  clear hk5 hk6 S7' S8 HS4 HS5 K4 R5
  have HR6 := hid R6
  clear R6
  go_upto_region 16 with (fail)
  clear c5 c6 f5 f6
  generalize (w4.setCell ⟨g7, 5, none⟩ (.int .u64 a)).setCell ⟨g7, 6, none⟩ (.int .u64 b) = w5 at S9 HS6 K5 ⊢
  have HL5 : Hid (Low w5 (blks ps3)) := hid (by
    have h := HL.out.keep K5.out
    exact ⟨h.names, h.max, h.sz, fun b hb => by have := Hbl3.out b hb; have := HL.out.sz; omega⟩)
  obtain ⟨X, hX⟩ : ∃ X, (spkX.set 5 a).set 6 b = X := ⟨_, rfl⟩
  have hX5 : getR (X.set 0 0) 5 = a := by rw [← hX, getR_zeroed (hX ▸ HR6.out) _ (by decide), getR_put_ne _ _ _ _ (by decide), getR_put spk_regs _ _ (by decide)]
  have hX6 : getR (X.set 0 0) 6 = b := by rw [← hX, getR_zeroed (hX ▸ HR6.out) _ (by decide), getR_put (spk_regs.set 5 a Ha.out) _ _ (by decide)]
  rw [hX] at S9 HR6
  have hstep := step_any sp m v 2 ps3 X 65600 w5 HS6.out HR6.out HL5.out
  rw [HM3.out] at hstep
  have hs := step_branch (jM 6461539) X 6461539 5 jget1 jdec1 (by decide) (by decide)
  have hrg := stepN_regs (jM 6461539) HR6.out 65600
  obtain ⟨R, hR⟩ : ∃ R, stepN (jM 6461539) X 65600 = R := ⟨_, rfl⟩
  rw [hR] at hstep hs hrg
  have Hcode : Hid (R.code = 0) := hid (by rw [hs])
  have Hev : Hid (R.ev = 0) := hid (by rw [hs])
  have Hpc : Hid (R.pc = if takenN 5 a b then 65616 else 65604) := hid (by rw [hs, hX5, hX6])
  clear hX5 hX6
  have Hreg := hid hrg
  clear hX hR hs hrg HM3
  unfold StepPost at hstep
  have Hstep := hid hstep
  clear hstep
  go_upto_region 18 with (fail)
  apply wp_region_lit
  refine wpList_val (w' := w5) (.pointer (some ⟨sp, 0, none⟩)) rfl (by kernel_rfl) ?_
  simp only [Act.put, List.setIfInBounds_toArray, List.set_cons_zero, List.set_cons_succ]
  refine wpList_load_row rfl 36 (.tmp 13) rfl g7 rfl 36 (stCells X 65600) (0, 0) _ S9.out Tryz.underlying36 rfl (infoState HR6.out 65600) ?_
  simp only [Act.put, List.setIfInBounds_toArray, List.set_cons_zero, List.set_cons_succ]
  refine wpList_call (.tuple #[.agg (stCells R.X R.pc), .int .i64 R.ev, fltV R.code R.fat]) _ (f := 13) (args := #[.pointer (some ⟨sp, 0, none⟩), .agg (stCells X 65600)]) rfl (by kernel_rfl) Hstep.out ?_
  rintro w6 ⟨ps6, _, _, _, hk6⟩
  have K6 : Hid (Keep [] w w6) := hid (((K5.out.mono (T := blks ps3) (by simp)).trans hk6).old (by intro k hk hlt; have := Hbl3.out k hk; omega))
  clear hk6 Hstep
  simp only [Act.put, List.setIfInBounds_toArray, List.set_cons_zero, List.set_cons_succ]
  refine wpList_val (w' := w6) (.tuple #[.agg (stCells R.X R.pc), .int .i64 R.ev, fltV R.code R.fat]) rfl (by kernel_rfl) ?_
  simp only [Act.put, List.setIfInBounds_toArray, List.set_cons_zero, List.set_cons_succ]
  refine wpList_val (w' := w6) (.agg (stCells R.X R.pc)) rfl (by kernel_rfl) ?_
  simp only [Act.put, List.setIfInBounds_toArray, List.set_cons_zero, List.set_cons_succ]
  refine wpList_val (w' := w6) (.int .i64 R.ev) rfl (by kernel_rfl) ?_
  simp only [Act.put, List.setIfInBounds_toArray, List.set_cons_zero, List.set_cons_succ]
  refine wpList_val (w' := w6) (fltV R.code R.fat) rfl (by kernel_rfl) ?_
  simp only [Act.put, List.setIfInBounds_toArray, List.set_cons_zero, List.set_cons_succ]
  obtain ⟨W6, hW6, S11, S13, RB, h1, h2⟩ := two_new w6 36 31 zst #[.int .i64 0, .int .u64 0, .string ⟨#[]⟩] (stCells R.X R.pc) #[.int .i64 R.code, .int .u64 R.fat, .string ⟨#[]⟩]
  have S11 := hid S11
  have S13 := hid S13
  have K7 : Hid (Keep [] w W6) := hid (K6.out.trans (Keep.of_below RB))
  obtain ⟨WA, hWA⟩ : ∃ WA, w6.alloc (.cells zst 36) = WA := ⟨_, rfl⟩
  have hsA : WA.heap.size = w6.heap.size + 1 := by rw [← hWA]; simp
  refine wpList_val (w' := w6.alloc (.cells zst 36)) (.pointer (some ⟨w6.heap.size, 0, none⟩)) rfl (by kernel_rfl) ?_
  simp only [Act.put, List.setIfInBounds_toArray, List.set_cons_zero, List.set_cons_succ]
  rw [hWA]
  rw [hWA] at h1 h2 hW6
  refine wpList_val (w' := WA.alloc (.cells #[.int .i64 0, .int .u64 0, .string ⟨#[]⟩] 31)) (.pointer (some ⟨WA.heap.size, 0, none⟩)) rfl (by kernel_rfl) ?_
  simp only [Act.put, List.setIfInBounds_toArray, List.set_cons_zero, List.set_cons_succ]
  rw [hsA]
  refine wpList_store_row rfl 36 (.tmp 14) (.tmp 72) rfl w6.heap.size (stCells R.X R.pc) rfl rfl 36 zst h1 (infoState Hreg.out R.pc) (stCells_size Hreg.out _).symm (stCells_one _ _) ?_
  simp only [Act.put, List.setIfInBounds_toArray, List.set_cons_zero, List.set_cons_succ]
  refine wpList_val (w' := (WA.alloc (.cells #[.int .i64 0, .int .u64 0, .string ⟨#[]⟩] 31)).setRow w6.heap.size (stCells R.X R.pc)) (.int .i64 R.ev) rfl (by kernel_rfl) ?_
  simp only [Act.put, List.setIfInBounds_toArray, List.set_cons_zero, List.set_cons_succ]
  refine wpList_store_row rfl 31 (.tmp 16) (.tmp 74) rfl (w6.heap.size + 1) #[.int .i64 R.code, .int .u64 R.fat, .string ⟨#[]⟩] rfl rfl 31 #[.int .i64 0, .int .u64 0, .string ⟨#[]⟩] h2 infoFault rfl (faultRow_one ..) ?_
  simp only [Act.put, List.setIfInBounds_toArray, List.set_cons_zero, List.set_cons_succ]
  rw [hW6]
  clear hW6 h1 h2 RB hWA hsA K6
  generalize w6.heap.size = G at S11 S13 ⊢
  have Q11 : StIs W6 G R.X R.pc := S11.out
  have r7 := Q11.cell Hreg.out (show 7 < 32 by decide)
  have r32 := Q11.cellPc Hreg.out
  rw [Hpc.out] at r32
  have q0 : W6.cell? ⟨G + 1, 0, none⟩ = some (.int .i64 0) := by rw [cell_of_row W6 _ _ _ _ _ S13.out, Hcode.out]; rfl
  have q1 : W6.cell? ⟨G + 1, 1, none⟩ = some (.int .u64 R.fat) := by rw [cell_of_row W6 _ _ _ _ _ S13.out]; rfl
  have q2 : W6.cell? ⟨G + 1, 2, none⟩ = some (.string ⟨#[]⟩) := by rw [cell_of_row W6 _ _ _ _ _ S13.out]; rfl
  clear Q11
  rw [Hev.out]
  have S11' := S11
  clear S11' S13
  go_wp2_with fail
  rw [run_bools1, tk1]
  clear Hpc
  generalize takenN 5 a b = T at r32 ⊢
  cases T
  · have r32 : W6.cell? ⟨G, 32, none⟩ = some (.int .u64 (65604 : Nat)) := r32
    go_wp2_with fail
    refine (ok_zero _ _ _).mono ?_
    rintro e V ⟨rfl, hb⟩
    have s32 : V.cell? ⟨G, 32, none⟩ = some (.int .u64 (65604 : Nat)) := (World.cell?_of_block (hb.block _ (blk_lt' S11.out))).trans r32
    have K8 : Hid (Keep [] w V) := hid (K7.out.trans (Keep.of_below hb))
    clear hb q0 q1 q2 S11 r7 r32
    go_wp2_with fail
    go_ret
    exact ⟨rfl, K8.out.below (Nat.le_refl _) (by simp)⟩
  · have r32 : W6.cell? ⟨G, 32, none⟩ = some (.int .u64 (65616 : Nat)) := r32
    go_wp2_with fail
    refine (ok_zero _ _ _).mono ?_
    rintro e V ⟨rfl, hb⟩
    have s32 : V.cell? ⟨G, 32, none⟩ = some (.int .u64 (65616 : Nat)) := (World.cell?_of_block (hb.block _ (blk_lt' S11.out))).trans r32
    have K8 : Hid (Keep [] w V) := hid (K7.out.trans (Keep.of_below hb))
    clear hb q0 q1 q2 S11 r7 r32
    go_wp2_with fail
    go_ret
    exact ⟨rfl, K8.out.below (Nat.le_refl _) (by simp)⟩
end
end Go.Proofs.YtiemingpbommeaaGreatDoor

/- Row CpuJumps: the law's own function, walked: kind 2. -/
namespace Go.Proofs.YtiemingpbommeaaGreatDoor
open Go Go.RowKit
noncomputable section
set_option linter.unusedVariables false
set_option linter.unusedSimpArgs false

set_option maxHeartbeats 4000000 in
set_option maxRecDepth 100000 in
theorem jumps_walk2 (a b : Nat) (z : Int) (w : World) (ha : a < 18446744073709551616) (hb : b < 18446744073709551616) (hk : (wrap64 (z.tmod 8 + 8)).tmod 8 = 2) (hL : Low w []) :
    Calls Tryz.prog 4 #[.int .u64 a, .int .u64 b, .int .i64 z] w fun e w' => e = .returned (.bool true) ∧ Below w.heap.size w w' := by
  have HL := hid hL
  have Ha := hid ha
  have Hb := hid hb
  have Hk := hid hk
  clear hL ha hb hk
  go_enter Tryz.func4, Tryz.ntmps4
  go_wp2_with fail
  refine (speaks_any _ HL.out).mono ?_
  rintro e w0 ⟨rfl, hb0⟩
  have B0 := hid hb0
  clear hb0
  go_upto_region 4 with (fail)
  rw [Hk.out]
  go_wp2_with fail
  refine (encode_at 6 0 5 6 16 6473827 true jenc2 _).mono ?_
  rintro e w0b ⟨rfl, hb1⟩
  have B0b := hid (B0.out.trans (((((Below.refl _ _).alloc (Nat.le_refl _) _).alloc (by simp) _).trans (hb1.mono (by simp <;> omega))).mono B0.out.size))
  clear hb1 B0
  go_wp2_with fail
  refine (new_any 2 (by decide) _).mono ?_
  rintro e w1 ⟨sp, m, rfl, hS, hb1, hsp, hm⟩
  have HS := hid hS
  have B1 := hid (B0b.out.trans (hb1.mono B0b.out.size))
  have Hsp := hid (Nat.le_trans B0b.out.size hsp)
  have Hm := hid (Nat.le_trans B0b.out.size hm)
  clear hS hb1 hsp hm B0b
  go_wp2_with fail
  refine (map_first sp m 2 65536 1 65792 _ HS.out ⟨by decide, by decide, by decide, by decide, by decide⟩ rfl (by decide)).mono ?_
  rintro e w2 ⟨rfl, v, qs, hS2, hqs, hbl, _, hk2⟩
  have K2 := hid ((Keep.of_below (S := [sp, m]) B1.out).trans (hk2.mono (by intro k hk; simpa [ownB, Value.ownBlock] using hk)))
  have HS2 := hid hS2
  have Hbl := hid (fun b hb => Nat.le_trans B1.out.size (hbl b hb))
  have hps : pgs ([] ++ qs) = [zeroPg 1 65536] := by rw [List.nil_append, hqs]; rfl
  clear hS2 hqs hbl hk2
  obtain ⟨ps2, hp2⟩ : ∃ ps2, [] ++ qs = ps2 := ⟨_, rfl⟩
  rw [hp2] at HS2 hps
  have Hps := hid hps
  have Hbl2 : Hid (∀ b ∈ blks ps2, w.heap.size ≤ b) := hid (by rw [← hp2, List.nil_append]; exact Hbl.out)
  clear hp2 Hbl hps
  go_wp2_with fail
  refine (put_at' 6473827 4 _ (by first | rfl | decide) _ (by decide) (by decide) (by decide)).mono ?_
  rintro e w2b ⟨rfl, hb2⟩
  have HS2b := hid (HS2.out.below hb2)
  have K2b := hid (K2.out.trans (Keep.of_below hb2))
  clear hb2 K2 HS2
  go_wp2_with fail
  refine (poke_any sp m v 2 ps2 65600 (putL 6473827 4) _ (by decide) (by rw [putL_length]; decide) HS2b.out).mono ?_
  rintro e w3 ⟨rfl, ps3, hM3, hb3, hS3, hk3⟩
  rw [Hps.out] at hM3
  have HM3 : Hid (pgs ps3 = jM 6473827) := hid hM3
  have HS3 := hid hS3
  have Hbl3 : Hid (∀ b ∈ blks ps3, w.heap.size ≤ b) := hid (by rw [hb3]; exact Hbl2.out)
  have K3 : Hid (Keep [] w w3) := hid (((K2b.out.mono (T := sp :: m :: blks ps2) (by intro k hk; simp at hk; rcases hk with rfl | rfl <;> simp)).trans (hk3.mono (by intro k hk; simp [hk]))).old (by
    intro k hk hlt
    simp only [List.mem_cons] at hk
    have h1 := Hsp.out
    have h2 := Hm.out
    rcases hk with rfl | rfl | hk
    · omega
    · omega
    · have := Hbl2.out k hk; omega))
  clear hM3 hS3 hb3 hk3 K2b HS2b Hps
  go_upto_region 14 with (fail)
  apply wp_region_lit
  obtain ⟨w4, hw4, S7, RB4⟩ := new_row w3 (stCells spkX 65600) zst 36
  refine wpList_val (w' := w3) (.agg (stCells spkX 65600)) rfl (by kernel_rfl) ?_
  simp only [Act.put, List.setIfInBounds_toArray, List.set_cons_zero, List.set_cons_succ]
  refine wpList_val (w' := w3.alloc (.cells zst 36)) (.pointer (some ⟨w3.heap.size, 0, none⟩)) rfl (by kernel_rfl) ?_
  simp only [Act.put, List.setIfInBounds_toArray, List.set_cons_zero, List.set_cons_succ]
  refine wpList_store_row rfl 36 (.tmp 13) (.tmp 55) rfl w3.heap.size (stCells spkX 65600) rfl rfl 36 zst (heap_alloc_new _ _) (infoState spk_regs 65600) (stCells_size spk_regs 65600).symm (stCells_one _ _) ?_
  simp only [Act.put, List.setIfInBounds_toArray, List.set_cons_zero, List.set_cons_succ]
  rw [hw4]
  have S7' : StIs w4 w3.heap.size spkX 65600 := S7
  have HS4 := hid (HS3.out.below RB4)
  have K4 : Hid (Keep [] w w4) := hid (K3.out.trans (Keep.of_below RB4))
  have hg7 : w.heap.size ≤ w3.heap.size := K3.out.size
  clear hw4 RB4 HS3 K3 S7
  generalize w3.heap.size = g7 at S7' hg7 ⊢
  have c5 := S7'.cell spk_regs (show 5 < 32 by decide)
  have f5 := frozen_of_row w4 _ 5 _ _ S7'
  have hk5 : Keep [g7] w4 (w4.setCell ⟨g7, 5, none⟩ (.int .u64 a)) := (Keep.refl _ _).setCell _ _ (.inr (by simp))
  have S8 := S7'.set spk_regs (show 5 < 32 by decide) a
  have HS5 := HS4.out.keepSt S7' hk5
  have R5 := spk_regs.set 5 a Ha.out
  have c6 := S8.cell R5 (show 6 < 32 by decide)
  have f6 := frozen_of_row _ _ 6 _ _ S8
  have hk6 : Keep [g7] (w4.setCell ⟨g7, 5, none⟩ (.int .u64 a)) ((w4.setCell ⟨g7, 5, none⟩ (.int .u64 a)).setCell ⟨g7, 6, none⟩ (.int .u64 b)) := (Keep.refl _ _).setCell _ _ (.inr (by simp))
  have S9 := hid (S8.set R5 (show 6 < 32 by decide) b)
  have HS6 := hid (HS5.keepSt S8 hk6)
  have R6 := R5.set 6 b Hb.out
  have K5 : Hid (Keep [] w ((w4.setCell ⟨g7, 5, none⟩ (.int .u64 a)).setCell ⟨g7, 6, none⟩ (.int .u64 b))) := hid (((K4.out.mono (T := [g7]) (by simp)).trans (hk5.trans hk6)).old (by intro k hk hlt; simp at hk; omega))
  clear hk5 hk6 S7' S8 HS4 HS5 K4 R5
  have HR6 := hid R6
  clear R6
  go_upto_region 16 with (fail)
  clear c5 c6 f5 f6
  generalize (w4.setCell ⟨g7, 5, none⟩ (.int .u64 a)).setCell ⟨g7, 6, none⟩ (.int .u64 b) = w5 at S9 HS6 K5 ⊢
  have HL5 : Hid (Low w5 (blks ps3)) := hid (by
    have h := HL.out.keep K5.out
    exact ⟨h.names, h.max, h.sz, fun b hb => by have := Hbl3.out b hb; have := HL.out.sz; omega⟩)
  obtain ⟨X, hX⟩ : ∃ X, (spkX.set 5 a).set 6 b = X := ⟨_, rfl⟩
  have hX5 : getR (X.set 0 0) 5 = a := by rw [← hX, getR_zeroed (hX ▸ HR6.out) _ (by decide), getR_put_ne _ _ _ _ (by decide), getR_put spk_regs _ _ (by decide)]
  have hX6 : getR (X.set 0 0) 6 = b := by rw [← hX, getR_zeroed (hX ▸ HR6.out) _ (by decide), getR_put (spk_regs.set 5 a Ha.out) _ _ (by decide)]
  rw [hX] at S9 HR6
  have hstep := step_any sp m v 2 ps3 X 65600 w5 HS6.out HR6.out HL5.out
  rw [HM3.out] at hstep
  have hs := step_branch (jM 6473827) X 6473827 6 jget2 jdec2 (by decide) (by decide)
  have hrg := stepN_regs (jM 6473827) HR6.out 65600
  obtain ⟨R, hR⟩ : ∃ R, stepN (jM 6473827) X 65600 = R := ⟨_, rfl⟩
  rw [hR] at hstep hs hrg
  have Hcode : Hid (R.code = 0) := hid (by rw [hs])
  have Hev : Hid (R.ev = 0) := hid (by rw [hs])
  have Hpc : Hid (R.pc = if takenN 6 a b then 65616 else 65604) := hid (by rw [hs, hX5, hX6])
  clear hX5 hX6
  have Hreg := hid hrg
  clear hX hR hs hrg HM3
  unfold StepPost at hstep
  have Hstep := hid hstep
  clear hstep
  go_upto_region 18 with (fail)
  apply wp_region_lit
  refine wpList_val (w' := w5) (.pointer (some ⟨sp, 0, none⟩)) rfl (by kernel_rfl) ?_
  simp only [Act.put, List.setIfInBounds_toArray, List.set_cons_zero, List.set_cons_succ]
  refine wpList_load_row rfl 36 (.tmp 13) rfl g7 rfl 36 (stCells X 65600) (0, 0) _ S9.out Tryz.underlying36 rfl (infoState HR6.out 65600) ?_
  simp only [Act.put, List.setIfInBounds_toArray, List.set_cons_zero, List.set_cons_succ]
  refine wpList_call (.tuple #[.agg (stCells R.X R.pc), .int .i64 R.ev, fltV R.code R.fat]) _ (f := 13) (args := #[.pointer (some ⟨sp, 0, none⟩), .agg (stCells X 65600)]) rfl (by kernel_rfl) Hstep.out ?_
  rintro w6 ⟨ps6, _, _, _, hk6⟩
  have K6 : Hid (Keep [] w w6) := hid (((K5.out.mono (T := blks ps3) (by simp)).trans hk6).old (by intro k hk hlt; have := Hbl3.out k hk; omega))
  clear hk6 Hstep
  simp only [Act.put, List.setIfInBounds_toArray, List.set_cons_zero, List.set_cons_succ]
  refine wpList_val (w' := w6) (.tuple #[.agg (stCells R.X R.pc), .int .i64 R.ev, fltV R.code R.fat]) rfl (by kernel_rfl) ?_
  simp only [Act.put, List.setIfInBounds_toArray, List.set_cons_zero, List.set_cons_succ]
  refine wpList_val (w' := w6) (.agg (stCells R.X R.pc)) rfl (by kernel_rfl) ?_
  simp only [Act.put, List.setIfInBounds_toArray, List.set_cons_zero, List.set_cons_succ]
  refine wpList_val (w' := w6) (.int .i64 R.ev) rfl (by kernel_rfl) ?_
  simp only [Act.put, List.setIfInBounds_toArray, List.set_cons_zero, List.set_cons_succ]
  refine wpList_val (w' := w6) (fltV R.code R.fat) rfl (by kernel_rfl) ?_
  simp only [Act.put, List.setIfInBounds_toArray, List.set_cons_zero, List.set_cons_succ]
  obtain ⟨W6, hW6, S11, S13, RB, h1, h2⟩ := two_new w6 36 31 zst #[.int .i64 0, .int .u64 0, .string ⟨#[]⟩] (stCells R.X R.pc) #[.int .i64 R.code, .int .u64 R.fat, .string ⟨#[]⟩]
  have S11 := hid S11
  have S13 := hid S13
  have K7 : Hid (Keep [] w W6) := hid (K6.out.trans (Keep.of_below RB))
  obtain ⟨WA, hWA⟩ : ∃ WA, w6.alloc (.cells zst 36) = WA := ⟨_, rfl⟩
  have hsA : WA.heap.size = w6.heap.size + 1 := by rw [← hWA]; simp
  refine wpList_val (w' := w6.alloc (.cells zst 36)) (.pointer (some ⟨w6.heap.size, 0, none⟩)) rfl (by kernel_rfl) ?_
  simp only [Act.put, List.setIfInBounds_toArray, List.set_cons_zero, List.set_cons_succ]
  rw [hWA]
  rw [hWA] at h1 h2 hW6
  refine wpList_val (w' := WA.alloc (.cells #[.int .i64 0, .int .u64 0, .string ⟨#[]⟩] 31)) (.pointer (some ⟨WA.heap.size, 0, none⟩)) rfl (by kernel_rfl) ?_
  simp only [Act.put, List.setIfInBounds_toArray, List.set_cons_zero, List.set_cons_succ]
  rw [hsA]
  refine wpList_store_row rfl 36 (.tmp 14) (.tmp 72) rfl w6.heap.size (stCells R.X R.pc) rfl rfl 36 zst h1 (infoState Hreg.out R.pc) (stCells_size Hreg.out _).symm (stCells_one _ _) ?_
  simp only [Act.put, List.setIfInBounds_toArray, List.set_cons_zero, List.set_cons_succ]
  refine wpList_val (w' := (WA.alloc (.cells #[.int .i64 0, .int .u64 0, .string ⟨#[]⟩] 31)).setRow w6.heap.size (stCells R.X R.pc)) (.int .i64 R.ev) rfl (by kernel_rfl) ?_
  simp only [Act.put, List.setIfInBounds_toArray, List.set_cons_zero, List.set_cons_succ]
  refine wpList_store_row rfl 31 (.tmp 16) (.tmp 74) rfl (w6.heap.size + 1) #[.int .i64 R.code, .int .u64 R.fat, .string ⟨#[]⟩] rfl rfl 31 #[.int .i64 0, .int .u64 0, .string ⟨#[]⟩] h2 infoFault rfl (faultRow_one ..) ?_
  simp only [Act.put, List.setIfInBounds_toArray, List.set_cons_zero, List.set_cons_succ]
  rw [hW6]
  clear hW6 h1 h2 RB hWA hsA K6
  generalize w6.heap.size = G at S11 S13 ⊢
  have Q11 : StIs W6 G R.X R.pc := S11.out
  have r7 := Q11.cell Hreg.out (show 7 < 32 by decide)
  have r32 := Q11.cellPc Hreg.out
  rw [Hpc.out] at r32
  have q0 : W6.cell? ⟨G + 1, 0, none⟩ = some (.int .i64 0) := by rw [cell_of_row W6 _ _ _ _ _ S13.out, Hcode.out]; rfl
  have q1 : W6.cell? ⟨G + 1, 1, none⟩ = some (.int .u64 R.fat) := by rw [cell_of_row W6 _ _ _ _ _ S13.out]; rfl
  have q2 : W6.cell? ⟨G + 1, 2, none⟩ = some (.string ⟨#[]⟩) := by rw [cell_of_row W6 _ _ _ _ _ S13.out]; rfl
  clear Q11
  rw [Hev.out]
  have S11' := S11
  clear S11' S13
  go_wp2_with fail
  rw [run_bools2, tk2]
  clear Hpc
  generalize takenN 6 a b = T at r32 ⊢
  cases T
  · have r32 : W6.cell? ⟨G, 32, none⟩ = some (.int .u64 (65604 : Nat)) := r32
    go_wp2_with fail
    refine (ok_zero _ _ _).mono ?_
    rintro e V ⟨rfl, hb⟩
    have s32 : V.cell? ⟨G, 32, none⟩ = some (.int .u64 (65604 : Nat)) := (World.cell?_of_block (hb.block _ (blk_lt' S11.out))).trans r32
    have K8 : Hid (Keep [] w V) := hid (K7.out.trans (Keep.of_below hb))
    clear hb q0 q1 q2 S11 r7 r32
    go_wp2_with fail
    go_ret
    exact ⟨rfl, K8.out.below (Nat.le_refl _) (by simp)⟩
  · have r32 : W6.cell? ⟨G, 32, none⟩ = some (.int .u64 (65616 : Nat)) := r32
    go_wp2_with fail
    refine (ok_zero _ _ _).mono ?_
    rintro e V ⟨rfl, hb⟩
    have s32 : V.cell? ⟨G, 32, none⟩ = some (.int .u64 (65616 : Nat)) := (World.cell?_of_block (hb.block _ (blk_lt' S11.out))).trans r32
    have K8 : Hid (Keep [] w V) := hid (K7.out.trans (Keep.of_below hb))
    clear hb q0 q1 q2 S11 r7 r32
    go_wp2_with fail
    go_ret
    exact ⟨rfl, K8.out.below (Nat.le_refl _) (by simp)⟩
end
end Go.Proofs.YtiemingpbommeaaGreatDoor

/- Row CpuJumps: the law's own function, walked: kind 3. -/
namespace Go.Proofs.YtiemingpbommeaaGreatDoor
open Go Go.RowKit
noncomputable section
set_option linter.unusedVariables false
set_option linter.unusedSimpArgs false

set_option maxHeartbeats 4000000 in
set_option maxRecDepth 100000 in
theorem jumps_walk3 (a b : Nat) (z : Int) (w : World) (ha : a < 18446744073709551616) (hb : b < 18446744073709551616) (hk : (wrap64 (z.tmod 8 + 8)).tmod 8 = 3) (hL : Low w []) :
    Calls Tryz.prog 4 #[.int .u64 a, .int .u64 b, .int .i64 z] w fun e w' => e = .returned (.bool true) ∧ Below w.heap.size w w' := by
  have HL := hid hL
  have Ha := hid ha
  have Hb := hid hb
  have Hk := hid hk
  clear hL ha hb hk
  go_enter Tryz.func4, Tryz.ntmps4
  go_wp2_with fail
  refine (speaks_any _ HL.out).mono ?_
  rintro e w0 ⟨rfl, hb0⟩
  have B0 := hid hb0
  clear hb0
  go_upto_region 4 with (fail)
  rw [Hk.out]
  go_wp2_with fail
  refine (encode_at 7 0 5 6 16 6477923 true jenc3 _).mono ?_
  rintro e w0b ⟨rfl, hb1⟩
  have B0b := hid (B0.out.trans (((((Below.refl _ _).alloc (Nat.le_refl _) _).alloc (by simp) _).trans (hb1.mono (by simp <;> omega))).mono B0.out.size))
  clear hb1 B0
  go_wp2_with fail
  refine (new_any 2 (by decide) _).mono ?_
  rintro e w1 ⟨sp, m, rfl, hS, hb1, hsp, hm⟩
  have HS := hid hS
  have B1 := hid (B0b.out.trans (hb1.mono B0b.out.size))
  have Hsp := hid (Nat.le_trans B0b.out.size hsp)
  have Hm := hid (Nat.le_trans B0b.out.size hm)
  clear hS hb1 hsp hm B0b
  go_wp2_with fail
  refine (map_first sp m 2 65536 1 65792 _ HS.out ⟨by decide, by decide, by decide, by decide, by decide⟩ rfl (by decide)).mono ?_
  rintro e w2 ⟨rfl, v, qs, hS2, hqs, hbl, _, hk2⟩
  have K2 := hid ((Keep.of_below (S := [sp, m]) B1.out).trans (hk2.mono (by intro k hk; simpa [ownB, Value.ownBlock] using hk)))
  have HS2 := hid hS2
  have Hbl := hid (fun b hb => Nat.le_trans B1.out.size (hbl b hb))
  have hps : pgs ([] ++ qs) = [zeroPg 1 65536] := by rw [List.nil_append, hqs]; rfl
  clear hS2 hqs hbl hk2
  obtain ⟨ps2, hp2⟩ : ∃ ps2, [] ++ qs = ps2 := ⟨_, rfl⟩
  rw [hp2] at HS2 hps
  have Hps := hid hps
  have Hbl2 : Hid (∀ b ∈ blks ps2, w.heap.size ≤ b) := hid (by rw [← hp2, List.nil_append]; exact Hbl.out)
  clear hp2 Hbl hps
  go_wp2_with fail
  refine (put_at' 6477923 4 _ (by first | rfl | decide) _ (by decide) (by decide) (by decide)).mono ?_
  rintro e w2b ⟨rfl, hb2⟩
  have HS2b := hid (HS2.out.below hb2)
  have K2b := hid (K2.out.trans (Keep.of_below hb2))
  clear hb2 K2 HS2
  go_wp2_with fail
  refine (poke_any sp m v 2 ps2 65600 (putL 6477923 4) _ (by decide) (by rw [putL_length]; decide) HS2b.out).mono ?_
  rintro e w3 ⟨rfl, ps3, hM3, hb3, hS3, hk3⟩
  rw [Hps.out] at hM3
  have HM3 : Hid (pgs ps3 = jM 6477923) := hid hM3
  have HS3 := hid hS3
  have Hbl3 : Hid (∀ b ∈ blks ps3, w.heap.size ≤ b) := hid (by rw [hb3]; exact Hbl2.out)
  have K3 : Hid (Keep [] w w3) := hid (((K2b.out.mono (T := sp :: m :: blks ps2) (by intro k hk; simp at hk; rcases hk with rfl | rfl <;> simp)).trans (hk3.mono (by intro k hk; simp [hk]))).old (by
    intro k hk hlt
    simp only [List.mem_cons] at hk
    have h1 := Hsp.out
    have h2 := Hm.out
    rcases hk with rfl | rfl | hk
    · omega
    · omega
    · have := Hbl2.out k hk; omega))
  clear hM3 hS3 hb3 hk3 K2b HS2b Hps
  go_upto_region 14 with (fail)
  apply wp_region_lit
  obtain ⟨w4, hw4, S7, RB4⟩ := new_row w3 (stCells spkX 65600) zst 36
  refine wpList_val (w' := w3) (.agg (stCells spkX 65600)) rfl (by kernel_rfl) ?_
  simp only [Act.put, List.setIfInBounds_toArray, List.set_cons_zero, List.set_cons_succ]
  refine wpList_val (w' := w3.alloc (.cells zst 36)) (.pointer (some ⟨w3.heap.size, 0, none⟩)) rfl (by kernel_rfl) ?_
  simp only [Act.put, List.setIfInBounds_toArray, List.set_cons_zero, List.set_cons_succ]
  refine wpList_store_row rfl 36 (.tmp 13) (.tmp 55) rfl w3.heap.size (stCells spkX 65600) rfl rfl 36 zst (heap_alloc_new _ _) (infoState spk_regs 65600) (stCells_size spk_regs 65600).symm (stCells_one _ _) ?_
  simp only [Act.put, List.setIfInBounds_toArray, List.set_cons_zero, List.set_cons_succ]
  rw [hw4]
  have S7' : StIs w4 w3.heap.size spkX 65600 := S7
  have HS4 := hid (HS3.out.below RB4)
  have K4 : Hid (Keep [] w w4) := hid (K3.out.trans (Keep.of_below RB4))
  have hg7 : w.heap.size ≤ w3.heap.size := K3.out.size
  clear hw4 RB4 HS3 K3 S7
  generalize w3.heap.size = g7 at S7' hg7 ⊢
  have c5 := S7'.cell spk_regs (show 5 < 32 by decide)
  have f5 := frozen_of_row w4 _ 5 _ _ S7'
  have hk5 : Keep [g7] w4 (w4.setCell ⟨g7, 5, none⟩ (.int .u64 a)) := (Keep.refl _ _).setCell _ _ (.inr (by simp))
  have S8 := S7'.set spk_regs (show 5 < 32 by decide) a
  have HS5 := HS4.out.keepSt S7' hk5
  have R5 := spk_regs.set 5 a Ha.out
  have c6 := S8.cell R5 (show 6 < 32 by decide)
  have f6 := frozen_of_row _ _ 6 _ _ S8
  have hk6 : Keep [g7] (w4.setCell ⟨g7, 5, none⟩ (.int .u64 a)) ((w4.setCell ⟨g7, 5, none⟩ (.int .u64 a)).setCell ⟨g7, 6, none⟩ (.int .u64 b)) := (Keep.refl _ _).setCell _ _ (.inr (by simp))
  have S9 := hid (S8.set R5 (show 6 < 32 by decide) b)
  have HS6 := hid (HS5.keepSt S8 hk6)
  have R6 := R5.set 6 b Hb.out
  have K5 : Hid (Keep [] w ((w4.setCell ⟨g7, 5, none⟩ (.int .u64 a)).setCell ⟨g7, 6, none⟩ (.int .u64 b))) := hid (((K4.out.mono (T := [g7]) (by simp)).trans (hk5.trans hk6)).old (by intro k hk hlt; simp at hk; omega))
  clear hk5 hk6 S7' S8 HS4 HS5 K4 R5
  have HR6 := hid R6
  clear R6
  go_upto_region 16 with (fail)
  clear c5 c6 f5 f6
  generalize (w4.setCell ⟨g7, 5, none⟩ (.int .u64 a)).setCell ⟨g7, 6, none⟩ (.int .u64 b) = w5 at S9 HS6 K5 ⊢
  have HL5 : Hid (Low w5 (blks ps3)) := hid (by
    have h := HL.out.keep K5.out
    exact ⟨h.names, h.max, h.sz, fun b hb => by have := Hbl3.out b hb; have := HL.out.sz; omega⟩)
  obtain ⟨X, hX⟩ : ∃ X, (spkX.set 5 a).set 6 b = X := ⟨_, rfl⟩
  have hX5 : getR (X.set 0 0) 5 = a := by rw [← hX, getR_zeroed (hX ▸ HR6.out) _ (by decide), getR_put_ne _ _ _ _ (by decide), getR_put spk_regs _ _ (by decide)]
  have hX6 : getR (X.set 0 0) 6 = b := by rw [← hX, getR_zeroed (hX ▸ HR6.out) _ (by decide), getR_put (spk_regs.set 5 a Ha.out) _ _ (by decide)]
  rw [hX] at S9 HR6
  have hstep := step_any sp m v 2 ps3 X 65600 w5 HS6.out HR6.out HL5.out
  rw [HM3.out] at hstep
  have hs := step_branch (jM 6477923) X 6477923 7 jget3 jdec3 (by decide) (by decide)
  have hrg := stepN_regs (jM 6477923) HR6.out 65600
  obtain ⟨R, hR⟩ : ∃ R, stepN (jM 6477923) X 65600 = R := ⟨_, rfl⟩
  rw [hR] at hstep hs hrg
  have Hcode : Hid (R.code = 0) := hid (by rw [hs])
  have Hev : Hid (R.ev = 0) := hid (by rw [hs])
  have Hpc : Hid (R.pc = if takenN 7 a b then 65616 else 65604) := hid (by rw [hs, hX5, hX6])
  clear hX5 hX6
  have Hreg := hid hrg
  clear hX hR hs hrg HM3
  unfold StepPost at hstep
  have Hstep := hid hstep
  clear hstep
  go_upto_region 18 with (fail)
  apply wp_region_lit
  refine wpList_val (w' := w5) (.pointer (some ⟨sp, 0, none⟩)) rfl (by kernel_rfl) ?_
  simp only [Act.put, List.setIfInBounds_toArray, List.set_cons_zero, List.set_cons_succ]
  refine wpList_load_row rfl 36 (.tmp 13) rfl g7 rfl 36 (stCells X 65600) (0, 0) _ S9.out Tryz.underlying36 rfl (infoState HR6.out 65600) ?_
  simp only [Act.put, List.setIfInBounds_toArray, List.set_cons_zero, List.set_cons_succ]
  refine wpList_call (.tuple #[.agg (stCells R.X R.pc), .int .i64 R.ev, fltV R.code R.fat]) _ (f := 13) (args := #[.pointer (some ⟨sp, 0, none⟩), .agg (stCells X 65600)]) rfl (by kernel_rfl) Hstep.out ?_
  rintro w6 ⟨ps6, _, _, _, hk6⟩
  have K6 : Hid (Keep [] w w6) := hid (((K5.out.mono (T := blks ps3) (by simp)).trans hk6).old (by intro k hk hlt; have := Hbl3.out k hk; omega))
  clear hk6 Hstep
  simp only [Act.put, List.setIfInBounds_toArray, List.set_cons_zero, List.set_cons_succ]
  refine wpList_val (w' := w6) (.tuple #[.agg (stCells R.X R.pc), .int .i64 R.ev, fltV R.code R.fat]) rfl (by kernel_rfl) ?_
  simp only [Act.put, List.setIfInBounds_toArray, List.set_cons_zero, List.set_cons_succ]
  refine wpList_val (w' := w6) (.agg (stCells R.X R.pc)) rfl (by kernel_rfl) ?_
  simp only [Act.put, List.setIfInBounds_toArray, List.set_cons_zero, List.set_cons_succ]
  refine wpList_val (w' := w6) (.int .i64 R.ev) rfl (by kernel_rfl) ?_
  simp only [Act.put, List.setIfInBounds_toArray, List.set_cons_zero, List.set_cons_succ]
  refine wpList_val (w' := w6) (fltV R.code R.fat) rfl (by kernel_rfl) ?_
  simp only [Act.put, List.setIfInBounds_toArray, List.set_cons_zero, List.set_cons_succ]
  obtain ⟨W6, hW6, S11, S13, RB, h1, h2⟩ := two_new w6 36 31 zst #[.int .i64 0, .int .u64 0, .string ⟨#[]⟩] (stCells R.X R.pc) #[.int .i64 R.code, .int .u64 R.fat, .string ⟨#[]⟩]
  have S11 := hid S11
  have S13 := hid S13
  have K7 : Hid (Keep [] w W6) := hid (K6.out.trans (Keep.of_below RB))
  obtain ⟨WA, hWA⟩ : ∃ WA, w6.alloc (.cells zst 36) = WA := ⟨_, rfl⟩
  have hsA : WA.heap.size = w6.heap.size + 1 := by rw [← hWA]; simp
  refine wpList_val (w' := w6.alloc (.cells zst 36)) (.pointer (some ⟨w6.heap.size, 0, none⟩)) rfl (by kernel_rfl) ?_
  simp only [Act.put, List.setIfInBounds_toArray, List.set_cons_zero, List.set_cons_succ]
  rw [hWA]
  rw [hWA] at h1 h2 hW6
  refine wpList_val (w' := WA.alloc (.cells #[.int .i64 0, .int .u64 0, .string ⟨#[]⟩] 31)) (.pointer (some ⟨WA.heap.size, 0, none⟩)) rfl (by kernel_rfl) ?_
  simp only [Act.put, List.setIfInBounds_toArray, List.set_cons_zero, List.set_cons_succ]
  rw [hsA]
  refine wpList_store_row rfl 36 (.tmp 14) (.tmp 72) rfl w6.heap.size (stCells R.X R.pc) rfl rfl 36 zst h1 (infoState Hreg.out R.pc) (stCells_size Hreg.out _).symm (stCells_one _ _) ?_
  simp only [Act.put, List.setIfInBounds_toArray, List.set_cons_zero, List.set_cons_succ]
  refine wpList_val (w' := (WA.alloc (.cells #[.int .i64 0, .int .u64 0, .string ⟨#[]⟩] 31)).setRow w6.heap.size (stCells R.X R.pc)) (.int .i64 R.ev) rfl (by kernel_rfl) ?_
  simp only [Act.put, List.setIfInBounds_toArray, List.set_cons_zero, List.set_cons_succ]
  refine wpList_store_row rfl 31 (.tmp 16) (.tmp 74) rfl (w6.heap.size + 1) #[.int .i64 R.code, .int .u64 R.fat, .string ⟨#[]⟩] rfl rfl 31 #[.int .i64 0, .int .u64 0, .string ⟨#[]⟩] h2 infoFault rfl (faultRow_one ..) ?_
  simp only [Act.put, List.setIfInBounds_toArray, List.set_cons_zero, List.set_cons_succ]
  rw [hW6]
  clear hW6 h1 h2 RB hWA hsA K6
  generalize w6.heap.size = G at S11 S13 ⊢
  have Q11 : StIs W6 G R.X R.pc := S11.out
  have r7 := Q11.cell Hreg.out (show 7 < 32 by decide)
  have r32 := Q11.cellPc Hreg.out
  rw [Hpc.out] at r32
  have q0 : W6.cell? ⟨G + 1, 0, none⟩ = some (.int .i64 0) := by rw [cell_of_row W6 _ _ _ _ _ S13.out, Hcode.out]; rfl
  have q1 : W6.cell? ⟨G + 1, 1, none⟩ = some (.int .u64 R.fat) := by rw [cell_of_row W6 _ _ _ _ _ S13.out]; rfl
  have q2 : W6.cell? ⟨G + 1, 2, none⟩ = some (.string ⟨#[]⟩) := by rw [cell_of_row W6 _ _ _ _ _ S13.out]; rfl
  clear Q11
  rw [Hev.out]
  have S11' := S11
  clear S11' S13
  go_wp2_with fail
  rw [run_bools3, tk3]
  clear Hpc
  generalize takenN 7 a b = T at r32 ⊢
  cases T
  · have r32 : W6.cell? ⟨G, 32, none⟩ = some (.int .u64 (65604 : Nat)) := r32
    go_wp2_with fail
    refine (ok_zero _ _ _).mono ?_
    rintro e V ⟨rfl, hb⟩
    have s32 : V.cell? ⟨G, 32, none⟩ = some (.int .u64 (65604 : Nat)) := (World.cell?_of_block (hb.block _ (blk_lt' S11.out))).trans r32
    have K8 : Hid (Keep [] w V) := hid (K7.out.trans (Keep.of_below hb))
    clear hb q0 q1 q2 S11 r7 r32
    go_wp2_with fail
    go_ret
    exact ⟨rfl, K8.out.below (Nat.le_refl _) (by simp)⟩
  · have r32 : W6.cell? ⟨G, 32, none⟩ = some (.int .u64 (65616 : Nat)) := r32
    go_wp2_with fail
    refine (ok_zero _ _ _).mono ?_
    rintro e V ⟨rfl, hb⟩
    have s32 : V.cell? ⟨G, 32, none⟩ = some (.int .u64 (65616 : Nat)) := (World.cell?_of_block (hb.block _ (blk_lt' S11.out))).trans r32
    have K8 : Hid (Keep [] w V) := hid (K7.out.trans (Keep.of_below hb))
    clear hb q0 q1 q2 S11 r7 r32
    go_wp2_with fail
    go_ret
    exact ⟨rfl, K8.out.below (Nat.le_refl _) (by simp)⟩
end
end Go.Proofs.YtiemingpbommeaaGreatDoor
