/- Row CpuJumps: the law's own function, walked: kind 4. -/
import Derived.Test.YtiemingpbommeaaGreatDoorGw
namespace Go.Proofs.YtiemingpbommeaaGreatDoor
open Go Go.RowKit
noncomputable section
set_option linter.unusedVariables false
set_option linter.unusedSimpArgs false

set_option maxHeartbeats 4000000 in
set_option maxRecDepth 100000 in
theorem jumps_walk4 (a b : Nat) (z : Int) (w : World) (ha : a < 18446744073709551616) (hb : b < 18446744073709551616) (hk : (wrap64 (z.tmod 8 + 8)).tmod 8 = 4) (hL : Low w []) :
    Calls Tryz.prog 4 #[.int .u64 a, .int .u64 b, .int .i64 z] w fun e w' => e = .returned (.bool true) ∧ Below w.heap.size w w' := by
  have HL := hid hL
  have Ha := hid ha
  have Hb := hid hb
  have Hk := hid hk
  clear hL ha hb hk
  go_enter Tryz.func4, Tryz.ntmps4
  go_wp2_with fail
  refine (speaks_any _ HL.out).mono ?_
  rintro e w0 ⟨rfl, hb0⟩
  have B0 := hid hb0
  clear hb0
  go_upto_region 4 with (fail)
  rw [Hk.out]
  go_wp2_with fail
  refine (encode_at 8 0 5 6 16 6482019 true jenc4 _).mono ?_
  rintro e w0b ⟨rfl, hb1⟩
  have B0b := hid (B0.out.trans (((((Below.refl _ _).alloc (Nat.le_refl _) _).alloc (by simp) _).trans (hb1.mono (by simp <;> omega))).mono B0.out.size))
  clear hb1 B0
  go_wp2_with fail
  refine (new_any 2 (by decide) _).mono ?_
  rintro e w1 ⟨sp, m, rfl, hS, hb1, hsp, hm⟩
  have HS := hid hS
  have B1 := hid (B0b.out.trans (hb1.mono B0b.out.size))
  have Hsp := hid (Nat.le_trans B0b.out.size hsp)
  have Hm := hid (Nat.le_trans B0b.out.size hm)
  clear hS hb1 hsp hm B0b
  go_wp2_with fail
  refine (map_first sp m 2 65536 1 65792 _ HS.out ⟨by decide, by decide, by decide, by decide, by decide⟩ rfl (by decide)).mono ?_
  rintro e w2 ⟨rfl, v, qs, hS2, hqs, hbl, _, hk2⟩
  have K2 := hid ((Keep.of_below (S := [sp, m]) B1.out).trans (hk2.mono (by intro k hk; simpa [ownB, Value.ownBlock] using hk)))
  have HS2 := hid hS2
  have Hbl := hid (fun b hb => Nat.le_trans B1.out.size (hbl b hb))
  have hps : pgs ([] ++ qs) = [zeroPg 1 65536] := by rw [List.nil_append, hqs]; rfl
  clear hS2 hqs hbl hk2
  obtain ⟨ps2, hp2⟩ : ∃ ps2, [] ++ qs = ps2 := ⟨_, rfl⟩
  rw [hp2] at HS2 hps
  have Hps := hid hps
  have Hbl2 : Hid (∀ b ∈ blks ps2, w.heap.size ≤ b) := hid (by rw [← hp2, List.nil_append]; exact Hbl.out)
  clear hp2 Hbl hps
  go_wp2_with fail
  refine (put_at' 6482019 4 _ (by first | rfl | decide) _ (by decide) (by decide) (by decide)).mono ?_
  rintro e w2b ⟨rfl, hb2⟩
  have HS2b := hid (HS2.out.below hb2)
  have K2b := hid (K2.out.trans (Keep.of_below hb2))
  clear hb2 K2 HS2
  go_wp2_with fail
  refine (poke_any sp m v 2 ps2 65600 (putL 6482019 4) _ (by decide) (by rw [putL_length]; decide) HS2b.out).mono ?_
  rintro e w3 ⟨rfl, ps3, hM3, hb3, hS3, hk3⟩
  rw [Hps.out] at hM3
  have HM3 : Hid (pgs ps3 = jM 6482019) := hid hM3
  have HS3 := hid hS3
  have Hbl3 : Hid (∀ b ∈ blks ps3, w.heap.size ≤ b) := hid (by rw [hb3]; exact Hbl2.out)
  have K3 : Hid (Keep [] w w3) := hid (((K2b.out.mono (T := sp :: m :: blks ps2) (by intro k hk; simp at hk; rcases hk with rfl | rfl <;> simp)).trans (hk3.mono (by intro k hk; simp [hk]))).old (by
    intro k hk hlt
    simp only [List.mem_cons] at hk
    have h1 := Hsp.out
    have h2 := Hm.out
    rcases hk with rfl | rfl | hk
    · omega
    · omega
    · have := Hbl2.out k hk; omega))
  clear hM3 hS3 hb3 hk3 K2b HS2b Hps
  go_upto_region 14 with (fail)
  apply wp_region_lit
  obtain ⟨w4, hw4, S7, RB4⟩ := new_row w3 (stCells spkX 65600) zst 36
  refine wpList_val (w' := w3) (.agg (stCells spkX 65600)) rfl (by kernel_rfl) ?_
  simp only [Act.put, List.setIfInBounds_toArray, List.set_cons_zero, List.set_cons_succ]
  refine wpList_val (w' := w3.alloc (.cells zst 36)) (.pointer (some ⟨w3.heap.size, 0, none⟩)) rfl (by kernel_rfl) ?_
  simp only [Act.put, List.setIfInBounds_toArray, List.set_cons_zero, List.set_cons_succ]
  refine wpList_store_row rfl 36 (.tmp 13) (.tmp 55) rfl w3.heap.size (stCells spkX 65600) rfl rfl 36 zst (heap_alloc_new _ _) (infoState spk_regs 65600) (stCells_size spk_regs 65600).symm (stCells_one _ _) ?_
  simp only [Act.put, List.setIfInBounds_toArray, List.set_cons_zero, List.set_cons_succ]
  rw [hw4]
  have S7' : StIs w4 w3.heap.size spkX 65600 := S7
  have HS4 := hid (HS3.out.below RB4)
  have K4 : Hid (Keep [] w w4) := hid (K3.out.trans (Keep.of_below RB4))
  have hg7 : w.heap.size ≤ w3.heap.size := K3.out.size
  clear hw4 RB4 HS3 K3 S7
  generalize w3.heap.size = g7 at S7' hg7 ⊢
  have c5 := S7'.cell spk_regs (show 5 < 32 by decide)
  have f5 := frozen_of_row w4 _ 5 _ _ S7'
  have hk5 : Keep [g7] w4 (w4.setCell ⟨g7, 5, none⟩ (.int .u64 a)) := (Keep.refl _ _).setCell _ _ (.inr (by simp))
  have S8 := S7'.set spk_regs (show 5 < 32 by decide) a
  have HS5 := HS4.out.keepSt S7' hk5
  have R5 := spk_regs.set 5 a Ha.out
  have c6 := S8.cell R5 (show 6 < 32 by decide)
  have f6 := frozen_of_row _ _ 6 _ _ S8
  have hk6 : Keep [g7] (w4.setCell ⟨g7, 5, none⟩ (.int .u64 a)) ((w4.setCell ⟨g7, 5, none⟩ (.int .u64 a)).setCell ⟨g7, 6, none⟩ (.int .u64 b)) := (Keep.refl _ _).setCell _ _ (.inr (by simp))
  have S9 := hid (S8.set R5 (show 6 < 32 by decide) b)
  have HS6 := hid (HS5.keepSt S8 hk6)
  have R6 := R5.set 6 b Hb.out
  have K5 : Hid (Keep [] w ((w4.setCell ⟨g7, 5, none⟩ (.int .u64 a)).setCell ⟨g7, 6, none⟩ (.int .u64 b))) := hid (((K4.out.mono (T := [g7]) (by simp)).trans (hk5.trans hk6)).old (by intro k hk hlt; simp at hk; omega))
  clear hk5 hk6 S7' S8 HS4 HS5 K4 R5
  have HR6 := hid R6
  clear R6
  go_upto_region 16 with (fail)
  clear c5 c6 f5 f6
  generalize (w4.setCell ⟨g7, 5, none⟩ (.int .u64 a)).setCell ⟨g7, 6, none⟩ (.int .u64 b) = w5 at S9 HS6 K5 ⊢
  have HL5 : Hid (Low w5 (blks ps3)) := hid (by
    have h := HL.out.keep K5.out
    exact ⟨h.names, h.max, h.sz, fun b hb => by have := Hbl3.out b hb; have := HL.out.sz; omega⟩)
  obtain ⟨X, hX⟩ : ∃ X, (spkX.set 5 a).set 6 b = X := ⟨_, rfl⟩
  have hX5 : getR (X.set 0 0) 5 = a := by rw [← hX, getR_zeroed (hX ▸ HR6.out) _ (by decide), getR_put_ne _ _ _ _ (by decide), getR_put spk_regs _ _ (by decide)]
  have hX6 : getR (X.set 0 0) 6 = b := by rw [← hX, getR_zeroed (hX ▸ HR6.out) _ (by decide), getR_put (spk_regs.set 5 a Ha.out) _ _ (by decide)]
  rw [hX] at S9 HR6
  have hstep := step_any sp m v 2 ps3 X 65600 w5 HS6.out HR6.out HL5.out
  rw [HM3.out] at hstep
  have hs := step_branch (jM 6482019) X 6482019 8 jget4 jdec4 (by decide) (by decide)
  have hrg := stepN_regs (jM 6482019) HR6.out 65600
  obtain ⟨R, hR⟩ : ∃ R, stepN (jM 6482019) X 65600 = R := ⟨_, rfl⟩
  rw [hR] at hstep hs hrg
  have Hcode : Hid (R.code = 0) := hid (by rw [hs])
  have Hev : Hid (R.ev = 0) := hid (by rw [hs])
  have Hpc : Hid (R.pc = if takenN 8 a b then 65616 else 65604) := hid (by rw [hs, hX5, hX6])
  clear hX5 hX6
  have Hreg := hid hrg
  clear hX hR hs hrg HM3
  unfold StepPost at hstep
  have Hstep := hid hstep
  clear hstep
  go_upto_region 18 with (fail)
  apply wp_region_lit
  refine wpList_val (w' := w5) (.pointer (some ⟨sp, 0, none⟩)) rfl (by kernel_rfl) ?_
  simp only [Act.put, List.setIfInBounds_toArray, List.set_cons_zero, List.set_cons_succ]
  refine wpList_load_row rfl 36 (.tmp 13) rfl g7 rfl 36 (stCells X 65600) (0, 0) _ S9.out Tryz.underlying36 rfl (infoState HR6.out 65600) ?_
  simp only [Act.put, List.setIfInBounds_toArray, List.set_cons_zero, List.set_cons_succ]
  refine wpList_call (.tuple #[.agg (stCells R.X R.pc), .int .i64 R.ev, fltV R.code R.fat]) _ (f := 13) (args := #[.pointer (some ⟨sp, 0, none⟩), .agg (stCells X 65600)]) rfl (by kernel_rfl) Hstep.out ?_
  rintro w6 ⟨ps6, _, _, _, hk6⟩
  have K6 : Hid (Keep [] w w6) := hid (((K5.out.mono (T := blks ps3) (by simp)).trans hk6).old (by intro k hk hlt; have := Hbl3.out k hk; omega))
  clear hk6 Hstep
  simp only [Act.put, List.setIfInBounds_toArray, List.set_cons_zero, List.set_cons_succ]
  refine wpList_val (w' := w6) (.tuple #[.agg (stCells R.X R.pc), .int .i64 R.ev, fltV R.code R.fat]) rfl (by kernel_rfl) ?_
  simp only [Act.put, List.setIfInBounds_toArray, List.set_cons_zero, List.set_cons_succ]
  refine wpList_val (w' := w6) (.agg (stCells R.X R.pc)) rfl (by kernel_rfl) ?_
  simp only [Act.put, List.setIfInBounds_toArray, List.set_cons_zero, List.set_cons_succ]
  refine wpList_val (w' := w6) (.int .i64 R.ev) rfl (by kernel_rfl) ?_
  simp only [Act.put, List.setIfInBounds_toArray, List.set_cons_zero, List.set_cons_succ]
  refine wpList_val (w' := w6) (fltV R.code R.fat) rfl (by kernel_rfl) ?_
  simp only [Act.put, List.setIfInBounds_toArray, List.set_cons_zero, List.set_cons_succ]
  obtain ⟨W6, hW6, S11, S13, RB, h1, h2⟩ := two_new w6 36 31 zst #[.int .i64 0, .int .u64 0, .string ⟨#[]⟩] (stCells R.X R.pc) #[.int .i64 R.code, .int .u64 R.fat, .string ⟨#[]⟩]
  have S11 := hid S11
  have S13 := hid S13
  have K7 : Hid (Keep [] w W6) := hid (K6.out.trans (Keep.of_below RB))
  obtain ⟨WA, hWA⟩ : ∃ WA, w6.alloc (.cells zst 36) = WA := ⟨_, rfl⟩
  have hsA : WA.heap.size = w6.heap.size + 1 := by rw [← hWA]; simp
  refine wpList_val (w' := w6.alloc (.cells zst 36)) (.pointer (some ⟨w6.heap.size, 0, none⟩)) rfl (by kernel_rfl) ?_
  simp only [Act.put, List.setIfInBounds_toArray, List.set_cons_zero, List.set_cons_succ]
  rw [hWA]
  rw [hWA] at h1 h2 hW6
  refine wpList_val (w' := WA.alloc (.cells #[.int .i64 0, .int .u64 0, .string ⟨#[]⟩] 31)) (.pointer (some ⟨WA.heap.size, 0, none⟩)) rfl (by kernel_rfl) ?_
  simp only [Act.put, List.setIfInBounds_toArray, List.set_cons_zero, List.set_cons_succ]
  rw [hsA]
  refine wpList_store_row rfl 36 (.tmp 14) (.tmp 72) rfl w6.heap.size (stCells R.X R.pc) rfl rfl 36 zst h1 (infoState Hreg.out R.pc) (stCells_size Hreg.out _).symm (stCells_one _ _) ?_
  simp only [Act.put, List.setIfInBounds_toArray, List.set_cons_zero, List.set_cons_succ]
  refine wpList_val (w' := (WA.alloc (.cells #[.int .i64 0, .int .u64 0, .string ⟨#[]⟩] 31)).setRow w6.heap.size (stCells R.X R.pc)) (.int .i64 R.ev) rfl (by kernel_rfl) ?_
  simp only [Act.put, List.setIfInBounds_toArray, List.set_cons_zero, List.set_cons_succ]
  refine wpList_store_row rfl 31 (.tmp 16) (.tmp 74) rfl (w6.heap.size + 1) #[.int .i64 R.code, .int .u64 R.fat, .string ⟨#[]⟩] rfl rfl 31 #[.int .i64 0, .int .u64 0, .string ⟨#[]⟩] h2 infoFault rfl (faultRow_one ..) ?_
  simp only [Act.put, List.setIfInBounds_toArray, List.set_cons_zero, List.set_cons_succ]
  rw [hW6]
  clear hW6 h1 h2 RB hWA hsA K6
  generalize w6.heap.size = G at S11 S13 ⊢
  have Q11 : StIs W6 G R.X R.pc := S11.out
  have r7 := Q11.cell Hreg.out (show 7 < 32 by decide)
  have r32 := Q11.cellPc Hreg.out
  rw [Hpc.out] at r32
  have q0 : W6.cell? ⟨G + 1, 0, none⟩ = some (.int .i64 0) := by rw [cell_of_row W6 _ _ _ _ _ S13.out, Hcode.out]; rfl
  have q1 : W6.cell? ⟨G + 1, 1, none⟩ = some (.int .u64 R.fat) := by rw [cell_of_row W6 _ _ _ _ _ S13.out]; rfl
  have q2 : W6.cell? ⟨G + 1, 2, none⟩ = some (.string ⟨#[]⟩) := by rw [cell_of_row W6 _ _ _ _ _ S13.out]; rfl
  clear Q11
  rw [Hev.out]
  have S11' := S11
  clear S11' S13
  go_wp2_with fail
  rw [run_bools4, tk4]
  clear Hpc
  generalize takenN 8 a b = T at r32 ⊢
  cases T
  · have r32 : W6.cell? ⟨G, 32, none⟩ = some (.int .u64 (65604 : Nat)) := r32
    go_wp2_with fail
    refine (ok_zero _ _ _).mono ?_
    rintro e V ⟨rfl, hb⟩
    have s32 : V.cell? ⟨G, 32, none⟩ = some (.int .u64 (65604 : Nat)) := (World.cell?_of_block (hb.block _ (blk_lt' S11.out))).trans r32
    have K8 : Hid (Keep [] w V) := hid (K7.out.trans (Keep.of_below hb))
    clear hb q0 q1 q2 S11 r7 r32
    go_wp2_with fail
    go_ret
    exact ⟨rfl, K8.out.below (Nat.le_refl _) (by simp)⟩
  · have r32 : W6.cell? ⟨G, 32, none⟩ = some (.int .u64 (65616 : Nat)) := r32
    go_wp2_with fail
    refine (ok_zero _ _ _).mono ?_
    rintro e V ⟨rfl, hb⟩
    have s32 : V.cell? ⟨G, 32, none⟩ = some (.int .u64 (65616 : Nat)) := (World.cell?_of_block (hb.block _ (blk_lt' S11.out))).trans r32
    have K8 : Hid (Keep [] w V) := hid (K7.out.trans (Keep.of_below hb))
    clear hb q0 q1 q2 S11 r7 r32
    go_wp2_with fail
    go_ret
    exact ⟨rfl, K8.out.below (Nat.le_refl _) (by simp)⟩
end
end Go.Proofs.YtiemingpbommeaaGreatDoor

/- Row CpuJumps: the law's own function, walked: kind 5. -/
namespace Go.Proofs.YtiemingpbommeaaGreatDoor
open Go Go.RowKit
noncomputable section
set_option linter.unusedVariables false
set_option linter.unusedSimpArgs false

set_option maxHeartbeats 4000000 in
set_option maxRecDepth 100000 in
theorem jumps_walk5 (a b : Nat) (z : Int) (w : World) (ha : a < 18446744073709551616) (hb : b < 18446744073709551616) (hk : (wrap64 (z.tmod 8 + 8)).tmod 8 = 5) (hL : Low w []) :
    Calls Tryz.prog 4 #[.int .u64 a, .int .u64 b, .int .i64 z] w fun e w' => e = .returned (.bool true) ∧ Below w.heap.size w w' := by
  have HL := hid hL
  have Ha := hid ha
  have Hb := hid hb
  have Hk := hid hk
  clear hL ha hb hk
  go_enter Tryz.func4, Tryz.ntmps4
  go_wp2_with fail
  refine (speaks_any _ HL.out).mono ?_
  rintro e w0 ⟨rfl, hb0⟩
  have B0 := hid hb0
  clear hb0
  go_upto_region 4 with (fail)
  rw [Hk.out]
  go_wp2_with fail
  refine (encode_at 9 0 5 6 16 6486115 true jenc5 _).mono ?_
  rintro e w0b ⟨rfl, hb1⟩
  have B0b := hid (B0.out.trans (((((Below.refl _ _).alloc (Nat.le_refl _) _).alloc (by simp) _).trans (hb1.mono (by simp <;> omega))).mono B0.out.size))
  clear hb1 B0
  go_wp2_with fail
  refine (new_any 2 (by decide) _).mono ?_
  rintro e w1 ⟨sp, m, rfl, hS, hb1, hsp, hm⟩
  have HS := hid hS
  have B1 := hid (B0b.out.trans (hb1.mono B0b.out.size))
  have Hsp := hid (Nat.le_trans B0b.out.size hsp)
  have Hm := hid (Nat.le_trans B0b.out.size hm)
  clear hS hb1 hsp hm B0b
  go_wp2_with fail
  refine (map_first sp m 2 65536 1 65792 _ HS.out ⟨by decide, by decide, by decide, by decide, by decide⟩ rfl (by decide)).mono ?_
  rintro e w2 ⟨rfl, v, qs, hS2, hqs, hbl, _, hk2⟩
  have K2 := hid ((Keep.of_below (S := [sp, m]) B1.out).trans (hk2.mono (by intro k hk; simpa [ownB, Value.ownBlock] using hk)))
  have HS2 := hid hS2
  have Hbl := hid (fun b hb => Nat.le_trans B1.out.size (hbl b hb))
  have hps : pgs ([] ++ qs) = [zeroPg 1 65536] := by rw [List.nil_append, hqs]; rfl
  clear hS2 hqs hbl hk2
  obtain ⟨ps2, hp2⟩ : ∃ ps2, [] ++ qs = ps2 := ⟨_, rfl⟩
  rw [hp2] at HS2 hps
  have Hps := hid hps
  have Hbl2 : Hid (∀ b ∈ blks ps2, w.heap.size ≤ b) := hid (by rw [← hp2, List.nil_append]; exact Hbl.out)
  clear hp2 Hbl hps
  go_wp2_with fail
  refine (put_at' 6486115 4 _ (by first | rfl | decide) _ (by decide) (by decide) (by decide)).mono ?_
  rintro e w2b ⟨rfl, hb2⟩
  have HS2b := hid (HS2.out.below hb2)
  have K2b := hid (K2.out.trans (Keep.of_below hb2))
  clear hb2 K2 HS2
  go_wp2_with fail
  refine (poke_any sp m v 2 ps2 65600 (putL 6486115 4) _ (by decide) (by rw [putL_length]; decide) HS2b.out).mono ?_
  rintro e w3 ⟨rfl, ps3, hM3, hb3, hS3, hk3⟩
  rw [Hps.out] at hM3
  have HM3 : Hid (pgs ps3 = jM 6486115) := hid hM3
  have HS3 := hid hS3
  have Hbl3 : Hid (∀ b ∈ blks ps3, w.heap.size ≤ b) := hid (by rw [hb3]; exact Hbl2.out)
  have K3 : Hid (Keep [] w w3) := hid (((K2b.out.mono (T := sp :: m :: blks ps2) (by intro k hk; simp at hk; rcases hk with rfl | rfl <;> simp)).trans (hk3.mono (by intro k hk; simp [hk]))).old (by
    intro k hk hlt
    simp only [List.mem_cons] at hk
    have h1 := Hsp.out
    have h2 := Hm.out
    rcases hk with rfl | rfl | hk
    · omega
    · omega
    · have := Hbl2.out k hk; omega))
  clear hM3 hS3 hb3 hk3 K2b HS2b Hps
  go_upto_region 14 with (fail)
  apply wp_region_lit
  obtain ⟨w4, hw4, S7, RB4⟩ := new_row w3 (stCells spkX 65600) zst 36
  refine wpList_val (w' := w3) (.agg (stCells spkX 65600)) rfl (by kernel_rfl) ?_
  simp only [Act.put, List.setIfInBounds_toArray, List.set_cons_zero, List.set_cons_succ]
  refine wpList_val (w' := w3.alloc (.cells zst 36)) (.pointer (some ⟨w3.heap.size, 0, none⟩)) rfl (by kernel_rfl) ?_
  simp only [Act.put, List.setIfInBounds_toArray, List.set_cons_zero, List.set_cons_succ]
  refine wpList_store_row rfl 36 (.tmp 13) (.tmp 55) rfl w3.heap.size (stCells spkX 65600) rfl rfl 36 zst (heap_alloc_new _ _) (infoState spk_regs 65600) (stCells_size spk_regs 65600).symm (stCells_one _ _) ?_
  simp only [Act.put, List.setIfInBounds_toArray, List.set_cons_zero, List.set_cons_succ]
  rw [hw4]
  have S7' : StIs w4 w3.heap.size spkX 65600 := S7
  have HS4 := hid (HS3.out.below RB4)
  have K4 : Hid (Keep [] w w4) := hid (K3.out.trans (Keep.of_below RB4))
  have hg7 : w.heap.size ≤ w3.heap.size := K3.out.size
  clear hw4 RB4 HS3 K3 S7
  generalize w3.heap.size = g7 at S7' hg7 ⊢
  have c5 := S7'.cell spk_regs (show 5 < 32 by decide)
  have f5 := frozen_of_row w4 _ 5 _ _ S7'
  have hk5 : Keep [g7] w4 (w4.setCell ⟨g7, 5, none⟩ (.int .u64 a)) := (Keep.refl _ _).setCell _ _ (.inr (by simp))
  have S8 := S7'.set spk_regs (show 5 < 32 by decide) a
  have HS5 := HS4.out.keepSt S7' hk5
  have R5 := spk_regs.set 5 a Ha.out
  have c6 := S8.cell R5 (show 6 < 32 by decide)
  have f6 := frozen_of_row _ _ 6 _ _ S8
  have hk6 : Keep [g7] (w4.setCell ⟨g7, 5, none⟩ (.int .u64 a)) ((w4.setCell ⟨g7, 5, none⟩ (.int .u64 a)).setCell ⟨g7, 6, none⟩ (.int .u64 b)) := (Keep.refl _ _).setCell _ _ (.inr (by simp))
  have S9 := hid (S8.set R5 (show 6 < 32 by decide) b)
  have HS6 := hid (HS5.keepSt S8 hk6)
  have R6 := R5.set 6 b Hb.out
  have K5 : Hid (Keep [] w ((w4.setCell ⟨g7, 5, none⟩ (.int .u64 a)).setCell ⟨g7, 6, none⟩ (.int .u64 b))) := hid (((K4.out.mono (T := [g7]) (by simp)).trans (hk5.trans hk6)).old (by intro k hk hlt; simp at hk; omega))
  clear hk5 hk6 S7' S8 HS4 HS5 K4 R5
  have HR6 := hid R6
  clear R6
  go_upto_region 16 with (fail)
  clear c5 c6 f5 f6
  generalize (w4.setCell ⟨g7, 5, none⟩ (.int .u64 a)).setCell ⟨g7, 6, none⟩ (.int .u64 b) = w5 at S9 HS6 K5 ⊢
  have HL5 : Hid (Low w5 (blks ps3)) := hid (by
    have h := HL.out.keep K5.out
    exact ⟨h.names, h.max, h.sz, fun b hb => by have := Hbl3.out b hb; have := HL.out.sz; omega⟩)
  obtain ⟨X, hX⟩ : ∃ X, (spkX.set 5 a).set 6 b = X := ⟨_, rfl⟩
  have hX5 : getR (X.set 0 0) 5 = a := by rw [← hX, getR_zeroed (hX ▸ HR6.out) _ (by decide), getR_put_ne _ _ _ _ (by decide), getR_put spk_regs _ _ (by decide)]
  have hX6 : getR (X.set 0 0) 6 = b := by rw [← hX, getR_zeroed (hX ▸ HR6.out) _ (by decide), getR_put (spk_regs.set 5 a Ha.out) _ _ (by decide)]
  rw [hX] at S9 HR6
  have hstep := step_any sp m v 2 ps3 X 65600 w5 HS6.out HR6.out HL5.out
  rw [HM3.out] at hstep
  have hs := step_branch (jM 6486115) X 6486115 9 jget5 jdec5 (by decide) (by decide)
  have hrg := stepN_regs (jM 6486115) HR6.out 65600
  obtain ⟨R, hR⟩ : ∃ R, stepN (jM 6486115) X 65600 = R := ⟨_, rfl⟩
  rw [hR] at hstep hs hrg
  have Hcode : Hid (R.code = 0) := hid (by rw [hs])
  have Hev : Hid (R.ev = 0) := hid (by rw [hs])
  have Hpc : Hid (R.pc = if takenN 9 a b then 65616 else 65604) := hid (by rw [hs, hX5, hX6])
  clear hX5 hX6
  have Hreg := hid hrg
  clear hX hR hs hrg HM3
  unfold StepPost at hstep
  have Hstep := hid hstep
  clear hstep
  go_upto_region 18 with (fail)
  apply wp_region_lit
  refine wpList_val (w' := w5) (.pointer (some ⟨sp, 0, none⟩)) rfl (by kernel_rfl) ?_
  simp only [Act.put, List.setIfInBounds_toArray, List.set_cons_zero, List.set_cons_succ]
  refine wpList_load_row rfl 36 (.tmp 13) rfl g7 rfl 36 (stCells X 65600) (0, 0) _ S9.out Tryz.underlying36 rfl (infoState HR6.out 65600) ?_
  simp only [Act.put, List.setIfInBounds_toArray, List.set_cons_zero, List.set_cons_succ]
  refine wpList_call (.tuple #[.agg (stCells R.X R.pc), .int .i64 R.ev, fltV R.code R.fat]) _ (f := 13) (args := #[.pointer (some ⟨sp, 0, none⟩), .agg (stCells X 65600)]) rfl (by kernel_rfl) Hstep.out ?_
  rintro w6 ⟨ps6, _, _, _, hk6⟩
  have K6 : Hid (Keep [] w w6) := hid (((K5.out.mono (T := blks ps3) (by simp)).trans hk6).old (by intro k hk hlt; have := Hbl3.out k hk; omega))
  clear hk6 Hstep
  simp only [Act.put, List.setIfInBounds_toArray, List.set_cons_zero, List.set_cons_succ]
  refine wpList_val (w' := w6) (.tuple #[.agg (stCells R.X R.pc), .int .i64 R.ev, fltV R.code R.fat]) rfl (by kernel_rfl) ?_
  simp only [Act.put, List.setIfInBounds_toArray, List.set_cons_zero, List.set_cons_succ]
  refine wpList_val (w' := w6) (.agg (stCells R.X R.pc)) rfl (by kernel_rfl) ?_
  simp only [Act.put, List.setIfInBounds_toArray, List.set_cons_zero, List.set_cons_succ]
  refine wpList_val (w' := w6) (.int .i64 R.ev) rfl (by kernel_rfl) ?_
  simp only [Act.put, List.setIfInBounds_toArray, List.set_cons_zero, List.set_cons_succ]
  refine wpList_val (w' := w6) (fltV R.code R.fat) rfl (by kernel_rfl) ?_
  simp only [Act.put, List.setIfInBounds_toArray, List.set_cons_zero, List.set_cons_succ]
  obtain ⟨W6, hW6, S11, S13, RB, h1, h2⟩ := two_new w6 36 31 zst #[.int .i64 0, .int .u64 0, .string ⟨#[]⟩] (stCells R.X R.pc) #[.int .i64 R.code, .int .u64 R.fat, .string ⟨#[]⟩]
  have S11 := hid S11
  have S13 := hid S13
  have K7 : Hid (Keep [] w W6) := hid (K6.out.trans (Keep.of_below RB))
  obtain ⟨WA, hWA⟩ : ∃ WA, w6.alloc (.cells zst 36) = WA := ⟨_, rfl⟩
  have hsA : WA.heap.size = w6.heap.size + 1 := by rw [← hWA]; simp
  refine wpList_val (w' := w6.alloc (.cells zst 36)) (.pointer (some ⟨w6.heap.size, 0, none⟩)) rfl (by kernel_rfl) ?_
  simp only [Act.put, List.setIfInBounds_toArray, List.set_cons_zero, List.set_cons_succ]
  rw [hWA]
  rw [hWA] at h1 h2 hW6
  refine wpList_val (w' := WA.alloc (.cells #[.int .i64 0, .int .u64 0, .string ⟨#[]⟩] 31)) (.pointer (some ⟨WA.heap.size, 0, none⟩)) rfl (by kernel_rfl) ?_
  simp only [Act.put, List.setIfInBounds_toArray, List.set_cons_zero, List.set_cons_succ]
  rw [hsA]
  refine wpList_store_row rfl 36 (.tmp 14) (.tmp 72) rfl w6.heap.size (stCells R.X R.pc) rfl rfl 36 zst h1 (infoState Hreg.out R.pc) (stCells_size Hreg.out _).symm (stCells_one _ _) ?_
  simp only [Act.put, List.setIfInBounds_toArray, List.set_cons_zero, List.set_cons_succ]
  refine wpList_val (w' := (WA.alloc (.cells #[.int .i64 0, .int .u64 0, .string ⟨#[]⟩] 31)).setRow w6.heap.size (stCells R.X R.pc)) (.int .i64 R.ev) rfl (by kernel_rfl) ?_
  simp only [Act.put, List.setIfInBounds_toArray, List.set_cons_zero, List.set_cons_succ]
  refine wpList_store_row rfl 31 (.tmp 16) (.tmp 74) rfl (w6.heap.size + 1) #[.int .i64 R.code, .int .u64 R.fat, .string ⟨#[]⟩] rfl rfl 31 #[.int .i64 0, .int .u64 0, .string ⟨#[]⟩] h2 infoFault rfl (faultRow_one ..) ?_
  simp only [Act.put, List.setIfInBounds_toArray, List.set_cons_zero, List.set_cons_succ]
  rw [hW6]
  clear hW6 h1 h2 RB hWA hsA K6
  generalize w6.heap.size = G at S11 S13 ⊢
  have Q11 : StIs W6 G R.X R.pc := S11.out
  have r7 := Q11.cell Hreg.out (show 7 < 32 by decide)
  have r32 := Q11.cellPc Hreg.out
  rw [Hpc.out] at r32
  have q0 : W6.cell? ⟨G + 1, 0, none⟩ = some (.int .i64 0) := by rw [cell_of_row W6 _ _ _ _ _ S13.out, Hcode.out]; rfl
  have q1 : W6.cell? ⟨G + 1, 1, none⟩ = some (.int .u64 R.fat) := by rw [cell_of_row W6 _ _ _ _ _ S13.out]; rfl
  have q2 : W6.cell? ⟨G + 1, 2, none⟩ = some (.string ⟨#[]⟩) := by rw [cell_of_row W6 _ _ _ _ _ S13.out]; rfl
  clear Q11
  rw [Hev.out]
  have S11' := S11
  clear S11' S13
  go_wp2_with fail
  rw [run_bools5, tk5]
  clear Hpc
  generalize takenN 9 a b = T at r32 ⊢
  cases T
  · have r32 : W6.cell? ⟨G, 32, none⟩ = some (.int .u64 (65604 : Nat)) := r32
    go_wp2_with fail
    refine (ok_zero _ _ _).mono ?_
    rintro e V ⟨rfl, hb⟩
    have s32 : V.cell? ⟨G, 32, none⟩ = some (.int .u64 (65604 : Nat)) := (World.cell?_of_block (hb.block _ (blk_lt' S11.out))).trans r32
    have K8 : Hid (Keep [] w V) := hid (K7.out.trans (Keep.of_below hb))
    clear hb q0 q1 q2 S11 r7 r32
    go_wp2_with fail
    go_ret
    exact ⟨rfl, K8.out.below (Nat.le_refl _) (by simp)⟩
  · have r32 : W6.cell? ⟨G, 32, none⟩ = some (.int .u64 (65616 : Nat)) := r32
    go_wp2_with fail
    refine (ok_zero _ _ _).mono ?_
    rintro e V ⟨rfl, hb⟩
    have s32 : V.cell? ⟨G, 32, none⟩ = some (.int .u64 (65616 : Nat)) := (World.cell?_of_block (hb.block _ (blk_lt' S11.out))).trans r32
    have K8 : Hid (Keep [] w V) := hid (K7.out.trans (Keep.of_below hb))
    clear hb q0 q1 q2 S11 r7 r32
    go_wp2_with fail
    go_ret
    exact ⟨rfl, K8.out.below (Nat.le_refl _) (by simp)⟩
end
end Go.Proofs.YtiemingpbommeaaGreatDoor

/- Row CpuJumps: the law's own function, walked: kind 6. -/
namespace Go.Proofs.YtiemingpbommeaaGreatDoor
open Go Go.RowKit
noncomputable section
set_option linter.unusedVariables false
set_option linter.unusedSimpArgs false

set_option maxHeartbeats 4000000 in
set_option maxRecDepth 100000 in
theorem jumps_walk6 (a b : Nat) (z : Int) (w : World) (ha : a < 18446744073709551616) (hb : b < 18446744073709551616) (hk : (wrap64 (z.tmod 8 + 8)).tmod 8 = 6) (hL : Low w []) :
    Calls Tryz.prog 4 #[.int .u64 a, .int .u64 b, .int .i64 z] w fun e w' => e = .returned (.bool true) ∧ Below w.heap.size w w' := by
  have HL := hid hL
  have Ha := hid ha
  have Hb := hid hb
  have Hk := hid hk
  clear hL ha hb hk
  go_enter Tryz.func4, Tryz.ntmps4
  go_wp2_with fail
  refine (speaks_any _ HL.out).mono ?_
  rintro e w0 ⟨rfl, hb0⟩
  have B0 := hid hb0
  clear hb0
  go_upto_region 4 with (fail)
  rw [Hk.out]
  go_wp2_with fail
  refine (encode_at 2 7 0 0 16 16778223 true jenc6 _).mono ?_
  rintro e w0b ⟨rfl, hb1⟩
  have B0b := hid (B0.out.trans (((((Below.refl _ _).alloc (Nat.le_refl _) _).alloc (by simp) _).trans (hb1.mono (by simp <;> omega))).mono B0.out.size))
  clear hb1 B0
  go_wp2_with fail
  refine (new_any 2 (by decide) _).mono ?_
  rintro e w1 ⟨sp, m, rfl, hS, hb1, hsp, hm⟩
  have HS := hid hS
  have B1 := hid (B0b.out.trans (hb1.mono B0b.out.size))
  have Hsp := hid (Nat.le_trans B0b.out.size hsp)
  have Hm := hid (Nat.le_trans B0b.out.size hm)
  clear hS hb1 hsp hm B0b
  go_wp2_with fail
  refine (map_first sp m 2 65536 1 65792 _ HS.out ⟨by decide, by decide, by decide, by decide, by decide⟩ rfl (by decide)).mono ?_
  rintro e w2 ⟨rfl, v, qs, hS2, hqs, hbl, _, hk2⟩
  have K2 := hid ((Keep.of_below (S := [sp, m]) B1.out).trans (hk2.mono (by intro k hk; simpa [ownB, Value.ownBlock] using hk)))
  have HS2 := hid hS2
  have Hbl := hid (fun b hb => Nat.le_trans B1.out.size (hbl b hb))
  have hps : pgs ([] ++ qs) = [zeroPg 1 65536] := by rw [List.nil_append, hqs]; rfl
  clear hS2 hqs hbl hk2
  obtain ⟨ps2, hp2⟩ : ∃ ps2, [] ++ qs = ps2 := ⟨_, rfl⟩
  rw [hp2] at HS2 hps
  have Hps := hid hps
  have Hbl2 : Hid (∀ b ∈ blks ps2, w.heap.size ≤ b) := hid (by rw [← hp2, List.nil_append]; exact Hbl.out)
  clear hp2 Hbl hps
  go_wp2_with fail
  refine (put_at' 16778223 4 _ (by first | rfl | decide) _ (by decide) (by decide) (by decide)).mono ?_
  rintro e w2b ⟨rfl, hb2⟩
  have HS2b := hid (HS2.out.below hb2)
  have K2b := hid (K2.out.trans (Keep.of_below hb2))
  clear hb2 K2 HS2
  go_wp2_with fail
  refine (poke_any sp m v 2 ps2 65600 (putL 16778223 4) _ (by decide) (by rw [putL_length]; decide) HS2b.out).mono ?_
  rintro e w3 ⟨rfl, ps3, hM3, hb3, hS3, hk3⟩
  rw [Hps.out] at hM3
  have HM3 : Hid (pgs ps3 = jM 16778223) := hid hM3
  have HS3 := hid hS3
  have Hbl3 : Hid (∀ b ∈ blks ps3, w.heap.size ≤ b) := hid (by rw [hb3]; exact Hbl2.out)
  have K3 : Hid (Keep [] w w3) := hid (((K2b.out.mono (T := sp :: m :: blks ps2) (by intro k hk; simp at hk; rcases hk with rfl | rfl <;> simp)).trans (hk3.mono (by intro k hk; simp [hk]))).old (by
    intro k hk hlt
    simp only [List.mem_cons] at hk
    have h1 := Hsp.out
    have h2 := Hm.out
    rcases hk with rfl | rfl | hk
    · omega
    · omega
    · have := Hbl2.out k hk; omega))
  clear hM3 hS3 hb3 hk3 K2b HS2b Hps
  go_upto_region 14 with (fail)
  apply wp_region_lit
  obtain ⟨w4, hw4, S7, RB4⟩ := new_row w3 (stCells spkX 65600) zst 36
  refine wpList_val (w' := w3) (.agg (stCells spkX 65600)) rfl (by kernel_rfl) ?_
  simp only [Act.put, List.setIfInBounds_toArray, List.set_cons_zero, List.set_cons_succ]
  refine wpList_val (w' := w3.alloc (.cells zst 36)) (.pointer (some ⟨w3.heap.size, 0, none⟩)) rfl (by kernel_rfl) ?_
  simp only [Act.put, List.setIfInBounds_toArray, List.set_cons_zero, List.set_cons_succ]
  refine wpList_store_row rfl 36 (.tmp 13) (.tmp 55) rfl w3.heap.size (stCells spkX 65600) rfl rfl 36 zst (heap_alloc_new _ _) (infoState spk_regs 65600) (stCells_size spk_regs 65600).symm (stCells_one _ _) ?_
  simp only [Act.put, List.setIfInBounds_toArray, List.set_cons_zero, List.set_cons_succ]
  rw [hw4]
  have S7' : StIs w4 w3.heap.size spkX 65600 := S7
  have HS4 := hid (HS3.out.below RB4)
  have K4 : Hid (Keep [] w w4) := hid (K3.out.trans (Keep.of_below RB4))
  have hg7 : w.heap.size ≤ w3.heap.size := K3.out.size
  clear hw4 RB4 HS3 K3 S7
  generalize w3.heap.size = g7 at S7' hg7 ⊢
  have c5 := S7'.cell spk_regs (show 5 < 32 by decide)
  have f5 := frozen_of_row w4 _ 5 _ _ S7'
  have hk5 : Keep [g7] w4 (w4.setCell ⟨g7, 5, none⟩ (.int .u64 a)) := (Keep.refl _ _).setCell _ _ (.inr (by simp))
  have S8 := S7'.set spk_regs (show 5 < 32 by decide) a
  have HS5 := HS4.out.keepSt S7' hk5
  have R5 := spk_regs.set 5 a Ha.out
  have c6 := S8.cell R5 (show 6 < 32 by decide)
  have f6 := frozen_of_row _ _ 6 _ _ S8
  have hk6 : Keep [g7] (w4.setCell ⟨g7, 5, none⟩ (.int .u64 a)) ((w4.setCell ⟨g7, 5, none⟩ (.int .u64 a)).setCell ⟨g7, 6, none⟩ (.int .u64 b)) := (Keep.refl _ _).setCell _ _ (.inr (by simp))
  have S9 := hid (S8.set R5 (show 6 < 32 by decide) b)
  have HS6 := hid (HS5.keepSt S8 hk6)
  have R6 := R5.set 6 b Hb.out
  have K5 : Hid (Keep [] w ((w4.setCell ⟨g7, 5, none⟩ (.int .u64 a)).setCell ⟨g7, 6, none⟩ (.int .u64 b))) := hid (((K4.out.mono (T := [g7]) (by simp)).trans (hk5.trans hk6)).old (by intro k hk hlt; simp at hk; omega))
  clear hk5 hk6 S7' S8 HS4 HS5 K4 R5
  have HR6 := hid R6
  clear R6
  go_upto_region 16 with (fail)
  clear c5 c6 f5 f6
  generalize (w4.setCell ⟨g7, 5, none⟩ (.int .u64 a)).setCell ⟨g7, 6, none⟩ (.int .u64 b) = w5 at S9 HS6 K5 ⊢
  have HL5 : Hid (Low w5 (blks ps3)) := hid (by
    have h := HL.out.keep K5.out
    exact ⟨h.names, h.max, h.sz, fun b hb => by have := Hbl3.out b hb; have := HL.out.sz; omega⟩)
  obtain ⟨X, hX⟩ : ∃ X, (spkX.set 5 a).set 6 b = X := ⟨_, rfl⟩
  have HX0 : Regs (X.set 0 0) := (hX ▸ HR6.out : Regs X).set 0 0 (by decide)
  rw [hX] at S9 HR6
  have hstep := step_any sp m v 2 ps3 X 65600 w5 HS6.out HR6.out HL5.out
  rw [HM3.out] at hstep
  have hs := step_jal (jM 16778223) X 16778223 jget6 jdec6
  have hrg := stepN_regs (jM 16778223) HR6.out 65600
  obtain ⟨R, hR⟩ : ∃ R, stepN (jM 16778223) X 65600 = R := ⟨_, rfl⟩
  rw [hR] at hstep hs hrg
  have Hcode : Hid (R.code = 0) := hid (by rw [hs])
  have Hev : Hid (R.ev = 0) := hid (by rw [hs])
  have Hpc : Hid (R.pc = 65616) := hid (by rw [hs])
  have H7 : Hid (getR R.X 7 = 65604) := hid (by rw [hs]; exact getR_setR_same HX0 7 _ (by decide) (by decide))
  clear HX0
  have Hreg := hid hrg
  clear hX hR hs hrg HM3
  unfold StepPost at hstep
  have Hstep := hid hstep
  clear hstep
  go_upto_region 18 with (fail)
  apply wp_region_lit
  refine wpList_val (w' := w5) (.pointer (some ⟨sp, 0, none⟩)) rfl (by kernel_rfl) ?_
  simp only [Act.put, List.setIfInBounds_toArray, List.set_cons_zero, List.set_cons_succ]
  refine wpList_load_row rfl 36 (.tmp 13) rfl g7 rfl 36 (stCells X 65600) (0, 0) _ S9.out Tryz.underlying36 rfl (infoState HR6.out 65600) ?_
  simp only [Act.put, List.setIfInBounds_toArray, List.set_cons_zero, List.set_cons_succ]
  refine wpList_call (.tuple #[.agg (stCells R.X R.pc), .int .i64 R.ev, fltV R.code R.fat]) _ (f := 13) (args := #[.pointer (some ⟨sp, 0, none⟩), .agg (stCells X 65600)]) rfl (by kernel_rfl) Hstep.out ?_
  rintro w6 ⟨ps6, _, _, _, hk6⟩
  have K6 : Hid (Keep [] w w6) := hid (((K5.out.mono (T := blks ps3) (by simp)).trans hk6).old (by intro k hk hlt; have := Hbl3.out k hk; omega))
  clear hk6 Hstep
  simp only [Act.put, List.setIfInBounds_toArray, List.set_cons_zero, List.set_cons_succ]
  refine wpList_val (w' := w6) (.tuple #[.agg (stCells R.X R.pc), .int .i64 R.ev, fltV R.code R.fat]) rfl (by kernel_rfl) ?_
  simp only [Act.put, List.setIfInBounds_toArray, List.set_cons_zero, List.set_cons_succ]
  refine wpList_val (w' := w6) (.agg (stCells R.X R.pc)) rfl (by kernel_rfl) ?_
  simp only [Act.put, List.setIfInBounds_toArray, List.set_cons_zero, List.set_cons_succ]
  refine wpList_val (w' := w6) (.int .i64 R.ev) rfl (by kernel_rfl) ?_
  simp only [Act.put, List.setIfInBounds_toArray, List.set_cons_zero, List.set_cons_succ]
  refine wpList_val (w' := w6) (fltV R.code R.fat) rfl (by kernel_rfl) ?_
  simp only [Act.put, List.setIfInBounds_toArray, List.set_cons_zero, List.set_cons_succ]
  obtain ⟨W6, hW6, S11, S13, RB, h1, h2⟩ := two_new w6 36 31 zst #[.int .i64 0, .int .u64 0, .string ⟨#[]⟩] (stCells R.X R.pc) #[.int .i64 R.code, .int .u64 R.fat, .string ⟨#[]⟩]
  have S11 := hid S11
  have S13 := hid S13
  have K7 : Hid (Keep [] w W6) := hid (K6.out.trans (Keep.of_below RB))
  obtain ⟨WA, hWA⟩ : ∃ WA, w6.alloc (.cells zst 36) = WA := ⟨_, rfl⟩
  have hsA : WA.heap.size = w6.heap.size + 1 := by rw [← hWA]; simp
  refine wpList_val (w' := w6.alloc (.cells zst 36)) (.pointer (some ⟨w6.heap.size, 0, none⟩)) rfl (by kernel_rfl) ?_
  simp only [Act.put, List.setIfInBounds_toArray, List.set_cons_zero, List.set_cons_succ]
  rw [hWA]
  rw [hWA] at h1 h2 hW6
  refine wpList_val (w' := WA.alloc (.cells #[.int .i64 0, .int .u64 0, .string ⟨#[]⟩] 31)) (.pointer (some ⟨WA.heap.size, 0, none⟩)) rfl (by kernel_rfl) ?_
  simp only [Act.put, List.setIfInBounds_toArray, List.set_cons_zero, List.set_cons_succ]
  rw [hsA]
  refine wpList_store_row rfl 36 (.tmp 14) (.tmp 72) rfl w6.heap.size (stCells R.X R.pc) rfl rfl 36 zst h1 (infoState Hreg.out R.pc) (stCells_size Hreg.out _).symm (stCells_one _ _) ?_
  simp only [Act.put, List.setIfInBounds_toArray, List.set_cons_zero, List.set_cons_succ]
  refine wpList_val (w' := (WA.alloc (.cells #[.int .i64 0, .int .u64 0, .string ⟨#[]⟩] 31)).setRow w6.heap.size (stCells R.X R.pc)) (.int .i64 R.ev) rfl (by kernel_rfl) ?_
  simp only [Act.put, List.setIfInBounds_toArray, List.set_cons_zero, List.set_cons_succ]
  refine wpList_store_row rfl 31 (.tmp 16) (.tmp 74) rfl (w6.heap.size + 1) #[.int .i64 R.code, .int .u64 R.fat, .string ⟨#[]⟩] rfl rfl 31 #[.int .i64 0, .int .u64 0, .string ⟨#[]⟩] h2 infoFault rfl (faultRow_one ..) ?_
  simp only [Act.put, List.setIfInBounds_toArray, List.set_cons_zero, List.set_cons_succ]
  rw [hW6]
  clear hW6 h1 h2 RB hWA hsA K6
  generalize w6.heap.size = G at S11 S13 ⊢
  have Q11 : StIs W6 G R.X R.pc := S11.out
  have r7 := Q11.cell Hreg.out (show 7 < 32 by decide)
  have r32 := Q11.cellPc Hreg.out
  rw [Hpc.out] at r32
  rw [H7.out] at r7
  have q0 : W6.cell? ⟨G + 1, 0, none⟩ = some (.int .i64 0) := by rw [cell_of_row W6 _ _ _ _ _ S13.out, Hcode.out]; rfl
  have q1 : W6.cell? ⟨G + 1, 1, none⟩ = some (.int .u64 R.fat) := by rw [cell_of_row W6 _ _ _ _ _ S13.out]; rfl
  have q2 : W6.cell? ⟨G + 1, 2, none⟩ = some (.string ⟨#[]⟩) := by rw [cell_of_row W6 _ _ _ _ _ S13.out]; rfl
  clear Q11
  rw [Hev.out]
  have S11' := S11
  clear S11' S13 Hpc H7
  go_wp2_with fail
  rw [run_bools6]
  go_wp2_with fail
  refine (ok_zero _ _ _).mono ?_
  rintro e V ⟨rfl, hb⟩
  have s32 : V.cell? ⟨G, 32, none⟩ = some (.int .u64 (65616 : Nat)) := (World.cell?_of_block (hb.block _ (blk_lt' S11.out))).trans r32
  have K8 : Hid (Keep [] w V) := hid (K7.out.trans (Keep.of_below hb))
  clear hb q0 q1 q2 S11 r7 r32
  go_wp2_with fail
  go_ret
  exact ⟨rfl, K8.out.below (Nat.le_refl _) (by simp)⟩
end
end Go.Proofs.YtiemingpbommeaaGreatDoor

/- Row CpuJumps: the law's own function, walked: kind 7. -/
namespace Go.Proofs.YtiemingpbommeaaGreatDoor
open Go Go.RowKit
noncomputable section
set_option linter.unusedVariables false
set_option linter.unusedSimpArgs false

set_option maxHeartbeats 4000000 in
set_option maxRecDepth 100000 in
theorem jumps_walk7 (a b : Nat) (z : Int) (w : World) (ha : a < 18446744073709551616) (hb : b < 18446744073709551616) (hk : (wrap64 (z.tmod 8 + 8)).tmod 8 = 7) (hL : Low w []) :
    Calls Tryz.prog 4 #[.int .u64 a, .int .u64 b, .int .i64 z] w fun e w' => e = .returned (.bool true) ∧ Below w.heap.size w w' := by
  have HL := hid hL
  have Ha := hid ha
  have Hb := hid hb
  have Hk := hid hk
  clear hL ha hb hk
  go_enter Tryz.func4, Tryz.ntmps4
  go_wp2_with fail
  refine (speaks_any _ HL.out).mono ?_
  rintro e w0 ⟨rfl, hb0⟩
  have B0 := hid hb0
  clear hb0
  go_upto_region 4 with (fail)
  rw [Hk.out]
  go_wp2_with fail
  refine (encode_at 3 7 5 0 16 16942055 true jenc7 _).mono ?_
  rintro e w0b ⟨rfl, hb1⟩
  have B0b := hid (B0.out.trans (((((Below.refl _ _).alloc (Nat.le_refl _) _).alloc (by simp) _).trans (hb1.mono (by simp <;> omega))).mono B0.out.size))
  clear hb1 B0
  go_wp2_with fail
  refine (new_any 2 (by decide) _).mono ?_
  rintro e w1 ⟨sp, m, rfl, hS, hb1, hsp, hm⟩
  have HS := hid hS
  have B1 := hid (B0b.out.trans (hb1.mono B0b.out.size))
  have Hsp := hid (Nat.le_trans B0b.out.size hsp)
  have Hm := hid (Nat.le_trans B0b.out.size hm)
  clear hS hb1 hsp hm B0b
  go_wp2_with fail
  refine (map_first sp m 2 65536 1 65792 _ HS.out ⟨by decide, by decide, by decide, by decide, by decide⟩ rfl (by decide)).mono ?_
  rintro e w2 ⟨rfl, v, qs, hS2, hqs, hbl, _, hk2⟩
  have K2 := hid ((Keep.of_below (S := [sp, m]) B1.out).trans (hk2.mono (by intro k hk; simpa [ownB, Value.ownBlock] using hk)))
  have HS2 := hid hS2
  have Hbl := hid (fun b hb => Nat.le_trans B1.out.size (hbl b hb))
  have hps : pgs ([] ++ qs) = [zeroPg 1 65536] := by rw [List.nil_append, hqs]; rfl
  clear hS2 hqs hbl hk2
  obtain ⟨ps2, hp2⟩ : ∃ ps2, [] ++ qs = ps2 := ⟨_, rfl⟩
  rw [hp2] at HS2 hps
  have Hps := hid hps
  have Hbl2 : Hid (∀ b ∈ blks ps2, w.heap.size ≤ b) := hid (by rw [← hp2, List.nil_append]; exact Hbl.out)
  clear hp2 Hbl hps
  go_wp2_with fail
  refine (put_at' 16942055 4 _ (by first | rfl | decide) _ (by decide) (by decide) (by decide)).mono ?_
  rintro e w2b ⟨rfl, hb2⟩
  have HS2b := hid (HS2.out.below hb2)
  have K2b := hid (K2.out.trans (Keep.of_below hb2))
  clear hb2 K2 HS2
  go_wp2_with fail
  refine (poke_any sp m v 2 ps2 65600 (putL 16942055 4) _ (by decide) (by rw [putL_length]; decide) HS2b.out).mono ?_
  rintro e w3 ⟨rfl, ps3, hM3, hb3, hS3, hk3⟩
  rw [Hps.out] at hM3
  have HM3 : Hid (pgs ps3 = jM 16942055) := hid hM3
  have HS3 := hid hS3
  have Hbl3 : Hid (∀ b ∈ blks ps3, w.heap.size ≤ b) := hid (by rw [hb3]; exact Hbl2.out)
  have K3 : Hid (Keep [] w w3) := hid (((K2b.out.mono (T := sp :: m :: blks ps2) (by intro k hk; simp at hk; rcases hk with rfl | rfl <;> simp)).trans (hk3.mono (by intro k hk; simp [hk]))).old (by
    intro k hk hlt
    simp only [List.mem_cons] at hk
    have h1 := Hsp.out
    have h2 := Hm.out
    rcases hk with rfl | rfl | hk
    · omega
    · omega
    · have := Hbl2.out k hk; omega))
  clear hM3 hS3 hb3 hk3 K2b HS2b Hps
  go_upto_region 14 with (fail)
  apply wp_region_lit
  obtain ⟨w4, hw4, S7, RB4⟩ := new_row w3 (stCells spkX 65600) zst 36
  refine wpList_val (w' := w3) (.agg (stCells spkX 65600)) rfl (by kernel_rfl) ?_
  simp only [Act.put, List.setIfInBounds_toArray, List.set_cons_zero, List.set_cons_succ]
  refine wpList_val (w' := w3.alloc (.cells zst 36)) (.pointer (some ⟨w3.heap.size, 0, none⟩)) rfl (by kernel_rfl) ?_
  simp only [Act.put, List.setIfInBounds_toArray, List.set_cons_zero, List.set_cons_succ]
  refine wpList_store_row rfl 36 (.tmp 13) (.tmp 55) rfl w3.heap.size (stCells spkX 65600) rfl rfl 36 zst (heap_alloc_new _ _) (infoState spk_regs 65600) (stCells_size spk_regs 65600).symm (stCells_one _ _) ?_
  simp only [Act.put, List.setIfInBounds_toArray, List.set_cons_zero, List.set_cons_succ]
  rw [hw4]
  have S7' : StIs w4 w3.heap.size spkX 65600 := S7
  have HS4 := hid (HS3.out.below RB4)
  have K4 : Hid (Keep [] w w4) := hid (K3.out.trans (Keep.of_below RB4))
  have hg7 : w.heap.size ≤ w3.heap.size := K3.out.size
  clear hw4 RB4 HS3 K3 S7
  generalize w3.heap.size = g7 at S7' hg7 ⊢
  have c5 := S7'.cell spk_regs (show 5 < 32 by decide)
  have f5 := frozen_of_row w4 _ 5 _ _ S7'
  have hk5 : Keep [g7] w4 (w4.setCell ⟨g7, 5, none⟩ (.int .u64 a)) := (Keep.refl _ _).setCell _ _ (.inr (by simp))
  have S8 := S7'.set spk_regs (show 5 < 32 by decide) a
  have HS5 := HS4.out.keepSt S7' hk5
  have R5 := spk_regs.set 5 a Ha.out
  have c6 := S8.cell R5 (show 6 < 32 by decide)
  have f6 := frozen_of_row _ _ 6 _ _ S8
  have hk6 : Keep [g7] (w4.setCell ⟨g7, 5, none⟩ (.int .u64 a)) ((w4.setCell ⟨g7, 5, none⟩ (.int .u64 a)).setCell ⟨g7, 6, none⟩ (.int .u64 b)) := (Keep.refl _ _).setCell _ _ (.inr (by simp))
  have S9 := hid (S8.set R5 (show 6 < 32 by decide) b)
  have HS6 := hid (HS5.keepSt S8 hk6)
  have R6 := R5.set 6 b Hb.out
  have K5 : Hid (Keep [] w ((w4.setCell ⟨g7, 5, none⟩ (.int .u64 a)).setCell ⟨g7, 6, none⟩ (.int .u64 b))) := hid (((K4.out.mono (T := [g7]) (by simp)).trans (hk5.trans hk6)).old (by intro k hk hlt; simp at hk; omega))
  clear hk5 hk6 S7' S8 HS4 HS5 K4 R5
  have HR6 := hid R6
  clear R6
  go_upto_region 16 with (fail)
  clear c5 c6 f5 f6
  generalize (w4.setCell ⟨g7, 5, none⟩ (.int .u64 a)).setCell ⟨g7, 6, none⟩ (.int .u64 b) = w5 at S9 HS6 K5 ⊢
  have HL5 : Hid (Low w5 (blks ps3)) := hid (by
    have h := HL.out.keep K5.out
    exact ⟨h.names, h.max, h.sz, fun b hb => by have := Hbl3.out b hb; have := HL.out.sz; omega⟩)
  obtain ⟨c, hc⟩ : ∃ c : Nat, c = a / 4 * 4 := ⟨_, rfl⟩
  have hca : bits .andNot .u64 (a : Int) 3 = (c : Int) := by rw [hc]; exact andNot3 a Ha.out
  have Hca := hid hca
  have hc4 : c % 4 = 0 := by omega
  have hcl : c < 18446744073709551616 := by have := Ha.out; omega
  clear hc hca
  have HR60 := HR6.out
  have c5 := S9.out.cell HR60 (show 5 < 32 by decide)
  have f5 := frozen_of_row _ _ 5 _ _ S9.out
  have hk7 : Keep [g7] w5 (w5.setCell ⟨g7, 5, none⟩ (.int .u64 c)) := (Keep.refl _ _).setCell _ _ (.inr (by simp))
  have S9' := hid (S9.out.set HR60 (show 5 < 32 by decide) c)
  have HS6' := hid (HS6.out.keepSt S9.out hk7)
  have HR6' := hid (HR60.set 5 c hcl)
  have K5' : Hid (Keep [] w (w5.setCell ⟨g7, 5, none⟩ (.int .u64 c))) := hid (((K5.out.mono (T := [g7]) (by simp)).trans hk7).old (by intro k hk hlt; simp at hk; omega))
  have HL5' : Hid (Low (w5.setCell ⟨g7, 5, none⟩ (.int .u64 c)) (blks ps3)) := hid (by
    have h := HL.out.keep K5'.out
    exact ⟨h.names, h.max, h.sz, fun b hb => by have := Hbl3.out b hb; have := HL.out.sz; omega⟩)
  clear hk7 S9 HS6 HR6 K5 HL5
  go_upto_region 18 with (fail)
  rw [Hca.out]
  clear c5 f5
  generalize w5.setCell ⟨g7, 5, none⟩ (.int .u64 c) = w5 at S9' HS6' K5' HL5' ⊢
  have S9 := S9'
  have HS6 := HS6'
  have K5 := K5'
  have HL5 := HL5'
  have HR6 := HR6'
  clear S9' HS6' K5' HL5' HR6'
  obtain ⟨X, hX⟩ : ∃ X, ((spkX.set 5 a).set 6 b).set 5 c = X := ⟨_, rfl⟩
  have hX5 : getR (X.set 0 0) 5 = c := by rw [← hX, getR_zeroed (hX ▸ HR6.out) _ (by decide), getR_put HR60 _ _ (by decide)]
  have HX0 : Regs (X.set 0 0) := (hX ▸ HR6.out : Regs X).set 0 0 (by decide)
  rw [hX] at S9 HR6
  have hstep := step_any sp m v 2 ps3 X 65600 w5 HS6.out HR6.out HL5.out
  rw [HM3.out] at hstep
  have hs := step_jalr (jM 16942055) X 16942055 c hX5 (by omega) jget7 jdec7
  have hrg := stepN_regs (jM 16942055) HR6.out 65600
  obtain ⟨R, hR⟩ : ∃ R, stepN (jM 16942055) X 65600 = R := ⟨_, rfl⟩
  rw [hR] at hstep hs hrg
  have Hcode : Hid (R.code = 0) := hid (by rw [hs])
  have Hev : Hid (R.ev = 0) := hid (by rw [hs])
  have Hpc : Hid (R.pc = (c + 16) % 18446744073709551616) := hid (by rw [hs])
  have H7 : Hid (getR R.X 7 = 65604) := hid (by rw [hs]; exact getR_setR_same HX0 7 _ (by decide) (by decide))
  clear HX0
  have Hreg := hid hrg
  clear hX hR hs hrg HM3
  unfold StepPost at hstep
  have Hstep := hid hstep
  clear hstep
  go_upto_region 18 with (fail)
  apply wp_region_lit
  refine wpList_val (w' := w5) (.pointer (some ⟨sp, 0, none⟩)) rfl (by kernel_rfl) ?_
  simp only [Act.put, List.setIfInBounds_toArray, List.set_cons_zero, List.set_cons_succ]
  refine wpList_load_row rfl 36 (.tmp 13) rfl g7 rfl 36 (stCells X 65600) (0, 0) _ S9.out Tryz.underlying36 rfl (infoState HR6.out 65600) ?_
  simp only [Act.put, List.setIfInBounds_toArray, List.set_cons_zero, List.set_cons_succ]
  refine wpList_call (.tuple #[.agg (stCells R.X R.pc), .int .i64 R.ev, fltV R.code R.fat]) _ (f := 13) (args := #[.pointer (some ⟨sp, 0, none⟩), .agg (stCells X 65600)]) rfl (by kernel_rfl) Hstep.out ?_
  rintro w6 ⟨ps6, _, _, _, hk6⟩
  have K6 : Hid (Keep [] w w6) := hid (((K5.out.mono (T := blks ps3) (by simp)).trans hk6).old (by intro k hk hlt; have := Hbl3.out k hk; omega))
  clear hk6 Hstep
  simp only [Act.put, List.setIfInBounds_toArray, List.set_cons_zero, List.set_cons_succ]
  refine wpList_val (w' := w6) (.tuple #[.agg (stCells R.X R.pc), .int .i64 R.ev, fltV R.code R.fat]) rfl (by kernel_rfl) ?_
  simp only [Act.put, List.setIfInBounds_toArray, List.set_cons_zero, List.set_cons_succ]
  refine wpList_val (w' := w6) (.agg (stCells R.X R.pc)) rfl (by kernel_rfl) ?_
  simp only [Act.put, List.setIfInBounds_toArray, List.set_cons_zero, List.set_cons_succ]
  refine wpList_val (w' := w6) (.int .i64 R.ev) rfl (by kernel_rfl) ?_
  simp only [Act.put, List.setIfInBounds_toArray, List.set_cons_zero, List.set_cons_succ]
  refine wpList_val (w' := w6) (fltV R.code R.fat) rfl (by kernel_rfl) ?_
  simp only [Act.put, List.setIfInBounds_toArray, List.set_cons_zero, List.set_cons_succ]
  obtain ⟨W6, hW6, S11, S13, RB, h1, h2⟩ := two_new w6 36 31 zst #[.int .i64 0, .int .u64 0, .string ⟨#[]⟩] (stCells R.X R.pc) #[.int .i64 R.code, .int .u64 R.fat, .string ⟨#[]⟩]
  have S11 := hid S11
  have S13 := hid S13
  have K7 : Hid (Keep [] w W6) := hid (K6.out.trans (Keep.of_below RB))
  obtain ⟨WA, hWA⟩ : ∃ WA, w6.alloc (.cells zst 36) = WA := ⟨_, rfl⟩
  have hsA : WA.heap.size = w6.heap.size + 1 := by rw [← hWA]; simp
  refine wpList_val (w' := w6.alloc (.cells zst 36)) (.pointer (some ⟨w6.heap.size, 0, none⟩)) rfl (by kernel_rfl) ?_
  simp only [Act.put, List.setIfInBounds_toArray, List.set_cons_zero, List.set_cons_succ]
  rw [hWA]
  rw [hWA] at h1 h2 hW6
  refine wpList_val (w' := WA.alloc (.cells #[.int .i64 0, .int .u64 0, .string ⟨#[]⟩] 31)) (.pointer (some ⟨WA.heap.size, 0, none⟩)) rfl (by kernel_rfl) ?_
  simp only [Act.put, List.setIfInBounds_toArray, List.set_cons_zero, List.set_cons_succ]
  rw [hsA]
  refine wpList_store_row rfl 36 (.tmp 14) (.tmp 72) rfl w6.heap.size (stCells R.X R.pc) rfl rfl 36 zst h1 (infoState Hreg.out R.pc) (stCells_size Hreg.out _).symm (stCells_one _ _) ?_
  simp only [Act.put, List.setIfInBounds_toArray, List.set_cons_zero, List.set_cons_succ]
  refine wpList_val (w' := (WA.alloc (.cells #[.int .i64 0, .int .u64 0, .string ⟨#[]⟩] 31)).setRow w6.heap.size (stCells R.X R.pc)) (.int .i64 R.ev) rfl (by kernel_rfl) ?_
  simp only [Act.put, List.setIfInBounds_toArray, List.set_cons_zero, List.set_cons_succ]
  refine wpList_store_row rfl 31 (.tmp 16) (.tmp 74) rfl (w6.heap.size + 1) #[.int .i64 R.code, .int .u64 R.fat, .string ⟨#[]⟩] rfl rfl 31 #[.int .i64 0, .int .u64 0, .string ⟨#[]⟩] h2 infoFault rfl (faultRow_one ..) ?_
  simp only [Act.put, List.setIfInBounds_toArray, List.set_cons_zero, List.set_cons_succ]
  rw [hW6]
  clear hW6 h1 h2 RB hWA hsA K6
  generalize w6.heap.size = G at S11 S13 ⊢
  have Q11 : StIs W6 G R.X R.pc := S11.out
  have r7 := Q11.cell Hreg.out (show 7 < 32 by decide)
  have r32 := Q11.cellPc Hreg.out
  rw [Hpc.out] at r32
  rw [H7.out] at r7
  have q0 : W6.cell? ⟨G + 1, 0, none⟩ = some (.int .i64 0) := by rw [cell_of_row W6 _ _ _ _ _ S13.out, Hcode.out]; rfl
  have q1 : W6.cell? ⟨G + 1, 1, none⟩ = some (.int .u64 R.fat) := by rw [cell_of_row W6 _ _ _ _ _ S13.out]; rfl
  have q2 : W6.cell? ⟨G + 1, 2, none⟩ = some (.string ⟨#[]⟩) := by rw [cell_of_row W6 _ _ _ _ _ S13.out]; rfl
  clear Q11
  rw [Hev.out]
  have S11' := S11
  clear S11' S13 Hpc H7
  go_wp2_with fail
  rw [run_bools7]
  go_wp2_with fail
  rw [Hca.out]
  refine (ok_zero _ _ _).mono ?_
  rintro e V ⟨rfl, hb⟩
  have s32 : V.cell? ⟨G, 32, none⟩ = some (.int .u64 ((c + 16) % 18446744073709551616 : Nat)) := (World.cell?_of_block (hb.block _ (blk_lt' S11.out))).trans r32
  have K8 : Hid (Keep [] w V) := hid (K7.out.trans (Keep.of_below hb))
  clear hb q0 q1 q2 S11 r7 r32
  go_wp2_with fail
  go_ret
  refine ⟨?_, K8.out.below (Nat.le_refl _) (by simp)⟩
  have hq : (((c : Int) + 16) % 18446744073709551616 == IntKind.u64.wrap ((c : Int) + 16)) = true := by rw [IntKind.wrap_u64]; exact beq_self_eq_true _
  show Ending.returned (.bool (((c : Int) + 16) % 18446744073709551616 == IntKind.u64.wrap ((c : Int) + 16))) = _
  rw [hq]
end
end Go.Proofs.YtiemingpbommeaaGreatDoor

/- Row CpuJumps: the law's own function, whatever the kind. -/
namespace Go.Proofs.YtiemingpbommeaaGreatDoor
open Go Go.RowKit

theorem cpuJumps_any (a b : Nat) (z : Int) (w : World) (ha : a < 18446744073709551616) (hb : b < 18446744073709551616) (hL : Low w []) :
    Calls Tryz.prog 4 #[.int .u64 a, .int .u64 b, .int .i64 z] w fun e w' => e = .returned (.bool true) ∧ Below w.heap.size w w' := by
  obtain ⟨k, hk, h⟩ := kind_of z
  match k, hk, h with
  | 0, _, h => exact jumps_walk0 a b z w ha hb h hL
  | 1, _, h => exact jumps_walk1 a b z w ha hb h hL
  | 2, _, h => exact jumps_walk2 a b z w ha hb h hL
  | 3, _, h => exact jumps_walk3 a b z w ha hb h hL
  | 4, _, h => exact jumps_walk4 a b z w ha hb h hL
  | 5, _, h => exact jumps_walk5 a b z w ha hb h hL
  | 6, _, h => exact jumps_walk6 a b z w ha hb h hL
  | 7, _, h => exact jumps_walk7 a b z w ha hb h hL
end Go.Proofs.YtiemingpbommeaaGreatDoor
