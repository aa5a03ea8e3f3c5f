/- Row CpuZero: the law's own function, walked. -/
import Derived.Test.YtiemingpbommeaaGreatDoorGq
namespace Go.Proofs.YtiemingpbommeaaGreatDoor
open Go Go.RowKit
noncomputable section
set_option linter.unusedVariables false
set_option linter.unusedSimpArgs false

theorem put_at (n size : Nat) (ni : Int) (h : ni = n) (w : World) (hn : n < 18446744073709551616) (h1 : 1 ≤ size) (h8 : size ≤ 8) :
    Calls Tryz.prog 12 #[.int .u64 ni, .int .i64 size] w fun e w' => e = .returned (.string ⟨(putL n size).toArray⟩) ∧ Below w.heap.size w w' := by subst h; exact put_in n size w hn h1 h8
theorem getR_setR (X : List Nat) (d n : Nat) : getR (setR X d n) 0 = getR X 0 := by
  unfold setR getR
  split
  · rename_i h
    cases X with
    | nil => simp
    | cons x X => obtain ⟨k, rfl⟩ : ∃ k, d = k + 1 := ⟨d - 1, by omega⟩; simp
  · rfl
theorem goesN_zero (X : List Nat) (pc : Nat) (o : Int) (d a b : Nat) (n : Int) : getR (goesN X pc o d a b n).1.1 0 = getR X 0 := by
  have hj : ∀ X' t, getR X' 0 = getR X 0 → getR (jumpN X X' pc t).1 0 = getR X 0 := fun X' t h => by unfold jumpN; split <;> first | exact h | rfl
  unfold goesN
  split
  · exact hj _ _ (getR_setR _ _ _)
  · split
    · exact hj _ _ (getR_setR _ _ _)
    · split
      · exact hj _ _ rfl
      · rfl
theorem doR_zero (M : List Pg) (X : List Nat) (pc : Nat) (o : Int) (d a b : Nat) (n : Int) : getR (doR M X pc o d a b n).2.1 0 = getR X 0 := by
  unfold doR
  split
  · exact getR_setR _ _ _
  · split
    · exact getR_setR _ _ _
    · split
      · dsimp only
        split
        · exact getR_setR _ _ _
        · rfl
      · split
        · rfl
        · split
          · rfl
          · exact getR_setR _ _ _
theorem set_zero {X : List Nat} (hX : Regs X) : getR (X.set 0 0) 0 = 0 := by
  have h := hX.len
  unfold getR
  rw [getD_at _ _ _ (by rw [List.length_set]; omega)]
  simp
/-- register 0 is 0 behind a step -/
theorem stepN_zero (M : List Pg) {X : List Nat} (hX : Regs X) (pc : Nat) : getR (stepN M X pc).X 0 = 0 := by
  have h0 := set_zero hX
  unfold stepN
  split
  · exact h0
  · split
    · split
      · unfold execN
        split
        · split
          · exact (goesN_zero _ _ _ _ _ _ _).trans h0
          · exact h0
        · split
          · exact (doR_zero _ _ _ _ _ _ _ _).trans h0
          · exact h0
      · exact h0
    · exact h0
/-- a fault leaves it where it was -/
theorem stepN_fault (M : List Pg) (X : List Nat) (pc : Nat) : (stepN M X pc).code = 0 ∨ (stepN M X pc).pc = pc := by
  unfold stepN
  split
  · exact .inl rfl
  · split
    · split
      · unfold execN
        split
        · split
          · exact .inl rfl
          · exact .inr rfl
        · split
          · exact .inl rfl
          · exact .inr rfl
      · exact .inr rfl
    · exact .inr rfl

set_option maxHeartbeats 4000000 in
set_option maxRecDepth 100000 in
theorem cpuZero_any (x n : Nat) (w : World) (hx : x < 4294967296) (hn : n < 18446744073709551616) (hL : Low w []) :
    Calls Tryz.prog 3 #[.int .u32 x, .int .u64 n] w fun e w' => e = .returned (.bool true) ∧ Below w.heap.size w w' := by
  have HL := hid hL
  have Hn0 := hid hn
  obtain ⟨y, hy⟩ : ∃ y : Nat, y = x &&& 4294963327 := ⟨_, rfl⟩
  have hyl : y < 18446744073709551616 := by have : x &&& 4294963327 ≤ x := Nat.and_le_left; omega
  have hby : bits .andNot .u32 (x : Int) 3968 = (y : Int) := by
    have := u32_andNot (x : Int) 3968 (by omega) (by omega) (by omega) (by omega)
    rw [hy]; simpa using this
  have Hyl := hid hyl
  have Hby := hid hby
  clear hL hn hx hy hyl hby
  go_enter Tryz.func3, Tryz.ntmps3
  go_wp2_with fail
  refine (speaks_any _ HL.out).mono ?_
  rintro e w0 ⟨rfl, hb0⟩
  have B0 := hid hb0
  clear hb0
  go_wp2_with fail
  refine (new_any 2 (by decide) _).mono ?_
  rintro e w1 ⟨sp, m, rfl, hS, hb1, hsp, hm⟩
  have HS := hid hS
  have B1 := hid (B0.out.trans (hb1.mono B0.out.size))
  have Hsp := hid (Nat.le_trans B0.out.size hsp)
  have Hm := hid (Nat.le_trans B0.out.size hm)
  clear hS hb1 hsp hm B0
  go_wp2_with fail
  refine (map_first sp m 2 65536 7 65792 _ HS.out ⟨by decide, by decide, by decide, by decide, by decide⟩ rfl (by decide)).mono ?_
  rintro e w2 ⟨rfl, v, qs, hS2, hqs, hbl, _, hk2⟩
  have K2 := hid ((Keep.of_below (S := [sp, m]) B1.out).trans (hk2.mono (by intro k hk; simpa [ownB, Value.ownBlock] using hk)))
  have HS2 := hid hS2
  have Hbl := hid (fun b hb => Nat.le_trans B1.out.size (hbl b hb))
  clear hS2 hqs hbl hk2
  obtain ⟨ps2, hp2⟩ : ∃ ps2, [] ++ qs = ps2 := ⟨_, rfl⟩
  rw [hp2] at HS2
  have Hbl2 : Hid (∀ b ∈ blks ps2, w.heap.size ≤ b) := hid (by rw [← hp2, List.nil_append]; exact Hbl.out)
  clear hp2 Hbl
  go_wp2_with fail
  refine (put_at y 4 _ (by first | exact Hby.out | (rw [Hby.out, IntKind.wrap_u64]; have := Hyl.out; omega)) _ Hyl.out (by decide) (by decide)).mono ?_
  rintro e w2b ⟨rfl, hb2⟩
  have HS2b := hid (HS2.out.below hb2)
  have K2b := hid (K2.out.trans (Keep.of_below hb2))
  clear hb2 K2 HS2
  go_wp2_with fail
  refine (poke_any sp m v 2 ps2 65536 (putL y 4) _ (by decide) (by rw [putL_length]; decide) HS2b.out).mono ?_
  rintro e w3 ⟨rfl, ps3, hM3, hb3, hS3, hk3⟩
  have HS3 := hid hS3
  have Hbl3 : Hid (∀ b ∈ blks ps3, w.heap.size ≤ b) := hid (by rw [hb3]; exact Hbl2.out)
  have K3 : Hid (Keep [] w w3) := hid (((K2b.out.mono (T := sp :: m :: blks ps2) (by intro k hk; simp at hk; rcases hk with rfl | rfl <;> simp)).trans (hk3.mono (by intro k hk; simp [hk]))).old (by
    intro k hk hlt
    simp only [List.mem_cons] at hk
    have h1 := Hsp.out
    have h2 := Hm.out
    rcases hk with rfl | rfl | hk
    · omega
    · omega
    · have := Hbl2.out k hk; omega))
  clear hM3 hS3 hb3 hk3 K2b HS2b
  go_upto_region 6 with (fail)
  apply wp_region_lit
  obtain ⟨w4, hw4, S7, RB4⟩ := new_row w3 (stCells spkX 65536) zst 36
  refine wpList_val (w' := w3) (.agg (stCells spkX 65536)) rfl (by kernel_rfl) ?_
  simp only [Act.put, List.setIfInBounds_toArray, List.set_cons_zero, List.set_cons_succ]
  refine wpList_val (w' := w3.alloc (.cells zst 36)) (.pointer (some ⟨w3.heap.size, 0, none⟩)) rfl (by kernel_rfl) ?_
  simp only [Act.put, List.setIfInBounds_toArray, List.set_cons_zero, List.set_cons_succ]
  refine wpList_store_row rfl 36 (.tmp 7) (.tmp 25) rfl w3.heap.size (stCells spkX 65536) rfl rfl 36 zst (heap_alloc_new _ _) (infoState spk_regs 65536) (stCells_size spk_regs 65536).symm (stCells_one _ _) ?_
  simp only [Act.put, List.setIfInBounds_toArray, List.set_cons_zero, List.set_cons_succ]
  rw [hw4]
  have S7' : StIs w4 w3.heap.size spkX 65536 := S7
  have HS4 := hid (HS3.out.below RB4)
  have K4 : Hid (Keep [] w w4) := hid (K3.out.trans (Keep.of_below RB4))
  have hg7 : w.heap.size ≤ w3.heap.size := K3.out.size
  clear hw4 RB4 HS3 K3 S7
  generalize w3.heap.size = g7 at S7' hg7 ⊢
  have c0 := S7'.cell spk_regs (show 0 < 32 by decide)
  have fz := frozen_of_row w4 _ 0 _ _ S7'
  have hk5 : Keep [g7] w4 (w4.setCell ⟨g7, 0, none⟩ (.int .u64 n)) := (Keep.refl _ _).setCell _ _ (.inr (by simp))
  have S8 := hid (S7'.set spk_regs (show 0 < 32 by decide) n)
  have HS5 := hid (HS4.out.keepSt S7' hk5)
  have K5 : Hid (Keep [] w (w4.setCell ⟨g7, 0, none⟩ (.int .u64 n))) := hid (((K4.out.mono (T := [g7]) (by simp)).trans hk5).old (by intro k hk hlt; simp at hk; omega))
  clear hk5 S7' HS4 K4
  go_upto_region 8 with (fail)
  clear c0 fz
  generalize w4.setCell ⟨g7, 0, none⟩ (.int .u64 n) = w5 at S8 HS5 K5 ⊢
  have HL5 : Hid (Low w5 (blks ps3)) := hid (by
    have h := HL.out.keep K5.out
    exact ⟨h.names, h.max, h.sz, fun b hb => by have := Hbl3.out b hb; have := HL.out.sz; omega⟩)
  have hreg := spk_regs.set 0 n Hn0.out
  have hstep := step_any sp m v 2 ps3 (spkX.set 0 n) 65536 w5 HS5.out hreg HL5.out
  have hz := stepN_zero (pgs ps3) hreg 65536
  have hf := stepN_fault (pgs ps3) (spkX.set 0 n) 65536
  have hrg := stepN_regs (pgs ps3) hreg 65536
  obtain ⟨R, hR⟩ : ∃ R, stepN (pgs ps3) (spkX.set 0 n) 65536 = R := ⟨_, rfl⟩
  rw [hR] at hstep hz hf hrg
  clear hR
  unfold StepPost at hstep
  have Hz := hid hz
  have Hf := hid hf
  have Hreg := hid hrg
  have Hreg0 := hid hreg
  clear hz hf hrg hreg
  apply wp_region_lit
  refine wpList_val (w' := w5) (.pointer (some ⟨sp, 0, none⟩)) rfl (by kernel_rfl) ?_
  simp only [Act.put, List.setIfInBounds_toArray, List.set_cons_zero, List.set_cons_succ]
  refine wpList_load_row rfl 36 (.tmp 7) rfl g7 rfl 36 (stCells (spkX.set 0 n) 65536) (0, 0) _ S8.out Tryz.underlying36 rfl (infoState Hreg0.out 65536) ?_
  simp only [Act.put, List.setIfInBounds_toArray, List.set_cons_zero, List.set_cons_succ]
  refine wpList_call (.tuple #[.agg (stCells R.X R.pc), .int .i64 R.ev, fltV R.code R.fat]) _ (f := 13) (args := #[.pointer (some ⟨sp, 0, none⟩), .agg (stCells (spkX.set 0 n) 65536)]) rfl (by kernel_rfl) hstep ?_
  rintro w6 ⟨ps6, _, _, _, hk6⟩
  have K6 : Hid (Keep [] w w6) := hid (((K5.out.mono (T := blks ps3) (by simp)).trans hk6).old (by intro k hk hlt; have := Hbl3.out k hk; omega))
  clear hk6 hstep
  simp only [Act.put, List.setIfInBounds_toArray, List.set_cons_zero, List.set_cons_succ]
  refine wpList_val (w' := w6) (.tuple #[.agg (stCells R.X R.pc), .int .i64 R.ev, fltV R.code R.fat]) rfl (by kernel_rfl) ?_
  simp only [Act.put, List.setIfInBounds_toArray, List.set_cons_zero, List.set_cons_succ]
  refine wpList_val (w' := w6) (.agg (stCells R.X R.pc)) rfl (by kernel_rfl) ?_
  simp only [Act.put, List.setIfInBounds_toArray, List.set_cons_zero, List.set_cons_succ]
  refine wpList_val (w' := w6) (.int .i64 R.ev) rfl (by kernel_rfl) ?_
  simp only [Act.put, List.setIfInBounds_toArray, List.set_cons_zero, List.set_cons_succ]
  refine wpList_val (w' := w6) (fltV R.code R.fat) rfl (by kernel_rfl) ?_
  simp only [Act.put, List.setIfInBounds_toArray, List.set_cons_zero, List.set_cons_succ]
  obtain ⟨W6, hW6, S11, S13, RB, h1, h2⟩ := two_new w6 36 31 zst #[.int .i64 0, .int .u64 0, .string ⟨#[]⟩] (stCells R.X R.pc) #[.int .i64 R.code, .int .u64 R.fat, .string ⟨#[]⟩]
  have S11 := hid S11
  have S13 := hid S13
  have K7 : Hid (Keep [] w W6) := hid (K6.out.trans (Keep.of_below RB))
  obtain ⟨WA, hWA⟩ : ∃ WA, w6.alloc (.cells zst 36) = WA := ⟨_, rfl⟩
  have hsA : WA.heap.size = w6.heap.size + 1 := by rw [← hWA]; simp
  refine wpList_val (w' := w6.alloc (.cells zst 36)) (.pointer (some ⟨w6.heap.size, 0, none⟩)) rfl (by kernel_rfl) ?_
  simp only [Act.put, List.setIfInBounds_toArray, List.set_cons_zero, List.set_cons_succ]
  rw [hWA]
  rw [hWA] at h1 h2 hW6
  refine wpList_val (w' := WA.alloc (.cells #[.int .i64 0, .int .u64 0, .string ⟨#[]⟩] 31)) (.pointer (some ⟨WA.heap.size, 0, none⟩)) rfl (by kernel_rfl) ?_
  simp only [Act.put, List.setIfInBounds_toArray, List.set_cons_zero, List.set_cons_succ]
  rw [hsA]
  refine wpList_store_row rfl 36 (.tmp 8) (.tmp 33) rfl w6.heap.size (stCells R.X R.pc) rfl rfl 36 zst h1 (infoState Hreg.out R.pc) (stCells_size Hreg.out _).symm (stCells_one _ _) ?_
  simp only [Act.put, List.setIfInBounds_toArray, List.set_cons_zero, List.set_cons_succ]
  refine wpList_val (w' := (WA.alloc (.cells #[.int .i64 0, .int .u64 0, .string ⟨#[]⟩] 31)).setRow w6.heap.size (stCells R.X R.pc)) (.int .i64 R.ev) rfl (by kernel_rfl) ?_
  simp only [Act.put, List.setIfInBounds_toArray, List.set_cons_zero, List.set_cons_succ]
  refine wpList_store_row rfl 31 (.tmp 10) (.tmp 35) rfl (w6.heap.size + 1) #[.int .i64 R.code, .int .u64 R.fat, .string ⟨#[]⟩] rfl rfl 31 #[.int .i64 0, .int .u64 0, .string ⟨#[]⟩] h2 infoFault rfl (faultRow_one ..) ?_
  simp only [Act.put, List.setIfInBounds_toArray, List.set_cons_zero, List.set_cons_succ]
  rw [hW6]
  clear hW6 h1 h2 RB hWA hsA K6
  generalize w6.heap.size = G at S11 S13 ⊢
  have Q11 : StIs W6 G R.X R.pc := S11.out
  have r0 := Q11.cell Hreg.out (show 0 < 32 by decide)
  have r32 := Q11.cellPc Hreg.out
  rw [Hz.out] at r0
  have q0 : W6.cell? ⟨G + 1, 0, none⟩ = some (.int .i64 R.code) := by rw [cell_of_row W6 _ _ _ _ _ S13.out]; rfl
  have q1 : W6.cell? ⟨G + 1, 1, none⟩ = some (.int .u64 R.fat) := by rw [cell_of_row W6 _ _ _ _ _ S13.out]; rfl
  have q2 : W6.cell? ⟨G + 1, 2, none⟩ = some (.string ⟨#[]⟩) := by rw [cell_of_row W6 _ _ _ _ _ S13.out]; rfl
  clear Q11
  go_wp2_with fail
  refine (faultOK_any _ _ _ _).mono ?_
  rintro e V ⟨rfl, hb⟩
  have s32 : V.cell? ⟨G, 32, none⟩ = some (.int .u64 R.pc) := (World.cell?_of_block (hb.block _ (blk_lt' S11.out))).trans r32
  have K8 : Hid (Keep [] w V) := hid (K7.out.trans (Keep.of_below hb))
  clear hb q0 q1 q2 S11 S13 r0 r32
  rcases Hf.out with h | h
  · have hc1 : ((R.code : Int) == 0) = true := by rw [h]; rfl
    rw [hc1]
    clear hc1 h
    go_wp2_with fail
    go_ret
    exact ⟨rfl, K8.out.below (Nat.le_refl _) (by simp)⟩
  · rw [h] at s32
    clear h
    cases hc1 : ((R.code : Int) == 0) with
    | true =>
      clear hc1
      go_wp2_with fail
      go_ret
      exact ⟨rfl, K8.out.below (Nat.le_refl _) (by simp)⟩
    | false =>
      clear hc1
      go_wp2_with fail
      go_ret
      exact ⟨rfl, K8.out.below (Nat.le_refl _) (by simp)⟩
end
end Go.Proofs.YtiemingpbommeaaGreatDoor
