/- Row CpuSteps: the law's own function, walked. -/
import Derived.Test.YtiemingpbommeaaGreatDoorIg
import Derived.Deep.MidRow
namespace Go.Proofs.YtiemingpbommeaaGreatDoor
open Go Go.RowKit
noncomputable section
set_option linter.unusedVariables false
set_option linter.unusedSimpArgs false
set_option maxHeartbeats 4000000 in
set_option maxRecDepth 100000 in
theorem cpuSteps_any (v us : Value) (p0 p1 : Int) (w : World) (hv : Codes w v) (hu : U64s w us) (hL : Low w []) :
    Calls Tryz.prog 5 #[v, us, .agg #[.int .i64 p0, .int .i64 p1]] w fun e w' => e = .returned (.bool true) ∧ Below w.heap.size w w' := by
  have HL := hid hL
  have HV := hid hv
  have HU := hid hu
  clear hL hv hu
  go_enter Tryz.func5, Tryz.ntmps5
  go_upto_region 1 with (fail)
  obtain ⟨wb, hwb⟩ : ∃ wb, w.alloc (.cells #[.int .i64 p0, .int .i64 p1] 51) = wb := ⟨_, rfl⟩
  have Nb : Hid (wb.heap[w.heap.size]? = some (.cells #[.int .i64 p0, .int .i64 p1] 51 (0, 0))) := hid (by rw [← hwb]; exact heap_alloc_new _ _)
  have Kb : Hid (Keep [] w wb) := hid (Keep.of_below (by rw [← hwb]; exact (Below.refl _ _).alloc (Nat.le_refl _) _))
  rw [hwb]
  clear hwb
  go_wp2_with fail
  refine (speaks_any _ (HL.out.keep Kb.out)).mono ?_
  rintro e w0 ⟨rfl, hb0⟩
  have K0 := hid (Kb.out.trans (Keep.of_below hb0))
  have Nb0 := hid ((hb0.block _ (blk_lt' Nb.out)).trans Nb.out)
  have c0 : w0.cell? ⟨w.heap.size, 0, none⟩ = some (.int .i64 p0) := by rw [cell_of_row _ _ _ _ _ _ Nb0.out]; rfl
  have c1 : w0.cell? ⟨w.heap.size, 1, none⟩ = some (.int .i64 p1) := by rw [cell_of_row _ _ _ _ _ _ Nb0.out]; rfl
  have lb := blk_lt' Nb0.out
  clear hb0 Nb Kb
  go_wp2_with fail
  refine (begun_any v p0 p1 w0 (HV.out.keep K0.out)).mono ?_
  rintro e w1 ⟨sp, m, sl, rsl, ps, T, hT, rfl, hS, hM, hR, hbl, hsp, hm, hb1⟩
  have h3 : (layN (threeM (prmX p0) (prm p1)) 65536 T).length = 3 := by unfold layN; rw [layK_length]; rfl
  obtain ⟨M0, hM0⟩ : ∃ M0, layN (threeM (prmX p0) (prm p1)) 65536 T = M0 := ⟨_, rfl⟩
  rw [hM0] at hM hR h3
  have hone := hR.one
  have HS := hid hS
  have HR := hid (hR.base (Nat.zero_le _))
  have HM := hid hM
  have H3 := hid h3
  have K1 := hid (K0.out.trans (Keep.of_below hb1))
  have Hbl : Hid (∀ b ∈ blks ps, w.heap.size ≤ b) := hid (fun b hb => Nat.le_trans K0.out.size (hbl b hb))
  have Hspm : Hid (sp < w1.heap.size ∧ m < w1.heap.size ∧ ∀ b ∈ blks ps, b < w1.heap.size) := hid ⟨blk_lt' hS.row, blk_lt' hS.map, fun b hb => hS.lt_blk hb⟩
  have Hw1 : Hid (w.heap.size ≤ w1.heap.size) := hid K1.out.size
  obtain ⟨q1, c1', hr1, _, _⟩ := hR.parts
  generalize M0.length = n1 at hr1
  subst hr1
  clear hS hM hR hbl hsp hm hb1 K0 Nb0 c0 c1 lb hM0 h3 hT hone
  go_upto_region 6 with (fail)
  obtain ⟨w2, hw2⟩ : ∃ w2, w1.alloc (.cells #[.slice q1 n1 c1', .int .i64 4] 54) = w2 := ⟨_, rfl⟩
  have hb2 : Below w1.heap.size w1 w2 := by rw [← hw2]; exact (Below.refl _ _).alloc (Nat.le_refl _) _
  have R2 : Hid (w2.heap[w1.heap.size]? = some (.cells #[.slice q1 n1 c1', .int .i64 4] 54 (0, 0))) := hid (by rw [← hw2]; exact heap_alloc_new _ _)
  try rw [hw2]
  have HS2 := hid (HS.out.below hb2)
  have HR2 := hid (HR.out.below hb2)
  have K2 := hid (K1.out.trans (Keep.of_below hb2))
  clear hw2 hb2 HS HR K1
  generalize (Value.slice q1 n1 c1') = rsl at R2 HR2 ⊢
  apply wp_region_lit
  refine wpList_val (w' := w2) (us) rfl (by kernel_rfl) ?_
  simp only [Go.Proofs.YtiemingpbommeaaGreatDoor.ps]
  refine wpList_callE (fun v w'' => ∃ X, Regs X ∧ v = .agg (ucells X) ∧ Below w2.heap.size w2 w'') (f := 17) (args := #[us]) rfl (by kernel_rfl) ((registers_any us w2 (HU.out.keep K2.out)).mono (fun e w'' ⟨X, h1, h2, h3⟩ => ⟨_, h2, X, h1, rfl, h3⟩)) ?_
  rintro v4 w4 ⟨X, hX, rfl, hb4⟩
  simp only [Go.Proofs.YtiemingpbommeaaGreatDoor.ps]
  have HX := hid hX
  have HS4 := hid (HS2.out.below hb4)
  have HR4 := hid (HR2.out.below hb4)
  have R4 := hid ((hb4.block _ (blk_lt' R2.out)).trans R2.out)
  have K4 := hid (K2.out.trans (Keep.of_below hb4))
  have L4 : Hid (w1.heap.size < w4.heap.size) := hid (blk_lt' R4.out)
  clear hb4 hX HS2 HR2 R2 K2
  refine wpList_val (w' := w4) (.agg (stCells X 65536)) rfl (exec_build rfl (Eq.trans (by kernel_rfl) (built_state HX.out 65536))) ?_
  simp only [Go.Proofs.YtiemingpbommeaaGreatDoor.ps]
  obtain ⟨w5, hw5, hg5, hb5⟩ := new_row w4 (stCells X 65536) zst 36
  refine wpList_val (w' := w4.alloc (.cells zst 36)) (.pointer (some ⟨w4.heap.size, 0, none⟩)) rfl (by kernel_rfl) ?_
  simp only [Go.Proofs.YtiemingpbommeaaGreatDoor.ps]
  refine wpList_store_row rfl 36 (.tmp 10) (.tmp 34) rfl (w4.heap.size) (stCells X 65536) rfl rfl 36 _ (heap_alloc_new _ _) (infoState HX.out 65536) ((stCells_size HX.out 65536).symm) (stCells_one _ _) ?_
  simp only [Go.Proofs.YtiemingpbommeaaGreatDoor.ps]
  rw [hw5]
  have HS5 := hid (HS4.out.below hb5)
  have HR5 := hid (HR4.out.below hb5)
  have R5 := hid ((hb5.block _ (blk_lt' R4.out)).trans R4.out)
  have K5 := hid (K4.out.trans (Keep.of_below hb5))
  have S5 : Hid (StIs w5 w4.heap.size X 65536) := hid hg5
  have L5 : Hid (w4.heap.size < w5.heap.size) := hid (blk_lt' hg5)
  clear hw5 hg5 hb5 HS4 HR4 R4 K4
  have cpc := S5.out.cellPc HX.out
  have l5 := L5.out
  go_upto_region 7 with (fail)
  apply wp_region_lit
  refine wpList_val (w' := w5) (.pointer (some ⟨w4.heap.size, 0, none⟩)) rfl (by kernel_rfl) ?_
  simp only [Go.Proofs.YtiemingpbommeaaGreatDoor.ps]
  refine wpList_load_mid rfl 34 (.tmp 35) rfl w4.heap.size 0 rfl (List.map (fun n : Nat => Value.int .u64 (n : Int)) X) _ (range_state HX.out S5.out) Tryz.underlying34 rfl (by rw [info_regs, List.length_map, HX.out.len]) ?_
  simp only [Go.Proofs.YtiemingpbommeaaGreatDoor.ps]
  refine wpList_val (w' := w5) (.pointer (some ⟨w4.heap.size, 32, none⟩)) rfl (by kernel_rfl) ?_
  simp only [Go.Proofs.YtiemingpbommeaaGreatDoor.ps]
  refine wpList_val (w' := w5) (.int .u64 65536) rfl (by go_simp) ?_
  simp only [Go.Proofs.YtiemingpbommeaaGreatDoor.ps]
  refine wpList_val (w' := w5) (.agg (stCells X 65536)) rfl (exec_build rfl (Eq.trans (by kernel_rfl) (built_state7 HX.out 65536))) ?_
  simp only [Go.Proofs.YtiemingpbommeaaGreatDoor.ps]
  clear cpc l5
  obtain ⟨w6, hw6, hg6, hb6⟩ := new_row w5 (stCells X 65536) zst 58
  refine wpList_val (w' := w5.alloc (.cells zst 58)) (.pointer (some ⟨w5.heap.size, 0, none⟩)) rfl (by kernel_rfl) ?_
  simp only [Go.Proofs.YtiemingpbommeaaGreatDoor.ps]
  refine wpList_store_row rfl 58 (.tmp 11) (.tmp 39) rfl (w5.heap.size) (stCells X 65536) rfl rfl 58 _ (heap_alloc_new _ _) (infoState7 HX.out 65536) ((stCells_size HX.out 65536).symm) (stCells_one _ _) ?_
  simp only [Go.Proofs.YtiemingpbommeaaGreatDoor.ps]
  rw [hw6]
  have Ho : Hid (Spots w sp m (blks ps) w1.heap.size w4.heap.size w5.heap.size) := hid (by
    have h1 := Hspm.out; have h2 := L4.out; have h3 := L5.out; have h4 := Hw1.out
    exact ⟨Hbl.out, ⟨by omega, by omega, fun h => by have := h1.2.2 _ h; omega⟩, ⟨by omega, by omega, fun h => by have := h1.2.2 _ h; omega⟩, ⟨by omega, by omega, fun h => by have := h1.2.2 _ h; omega⟩, by omega, by omega, by omega, by omega, by omega, by omega⟩)
  have HW0 : Hid (StepsW w sp m sl (blks ps) w1.heap.size w4.heap.size w5.heap.size rsl M0 M0 X 65536 w6) := hid ⟨K5.out.trans (Keep.of_below hb6), ⟨ps, HM.out, rfl, HS5.out.below hb6⟩, (hb6.block _ (blk_lt' R5.out)).trans R5.out, HR5.out.below hb6, (hb6.block _ (blk_lt' S5.out)).trans S5.out, hg6⟩
  clear hw6 hg6 hb6 HS5 HR5 R5 K5 S5 L4 L5 Hspm Hw1 HM Hbl
  generalize w1.heap.size = g8 at Ho HW0 ⊢
  generalize w4.heap.size = g10 at Ho HW0 ⊢
  generalize w5.heap.size = g11 at Ho HW0 ⊢
  generalize blks ps = bp at Ho HW0
  go_wp2_with fail
  go_loopw [12] (fun i wr => ∃ (k : Nat) (rsl : Value) (M : List Pg) (X : List Nat) (pc : Nat), k ≤ 60 ∧ i = .int .i64 k ∧ Regs X ∧ Hid (M.length = 3) ∧ Hid (StepsW w sp m sl bp g8 g10 g11 rsl M M X pc wr)) (fun i _ => 60 - (RowKit.intOf i).toNat)
  case atStart => exact ⟨0, rsl, M0, X, 65536, by omega, rfl, HX.out, H3, HW0⟩
  case round =>
    clear HW0 HX H3
    obtain ⟨k, rsl, M, X, pc, hk, rfl, hX, H3, HW⟩ := hrel
    have HX := hid hX
    clear hX
    by_cases hlt : k < 60
    · obtain ⟨qs1, hq1, hq2, hq3⟩ := HW.out.a
      have HLc : Low wr (blks qs1) := by
        have h := HL.out.keep HW.out.keep
        exact ⟨h.names, h.max, h.sz, fun b hb => by rw [hq2] at hb; have := Ho.out.lo b hb; have := HL.out.sz; omega⟩
      have HG : Hid (Good M) := hid (by rw [← hq1]; exact hq3.good)
      have hstep := step_any sp m sl 4 qs1 X pc wr hq3 HX.out HLc
      have hreg := stepN_regs M HX.out pc
      have hlen : (stepN M X pc).M.length = 3 := by
        have h := congrArg List.length (stepN_map M X pc)
        rw [List.length_map, List.length_map] at h
        rw [h]; exact H3.out
      obtain ⟨s, hs⟩ : ∃ s, stepN M X pc = s := ⟨_, rfl⟩
      rw [hq1, hs] at hstep
      rw [hs] at hreg hlen
      have Hreg1 := hid hreg
      have Hlen1 := hid hlen
      have HSs := hid hs
      have HQ2 := hid hq2
      unfold StepPost at hstep
      clear hs hreg hlen HLc hq1 hq2 hq3
      go_upto_region 11 with (fail)
      apply wp_region_lit
      refine wpList_val (w' := wr) (.pointer (some ⟨sp, 0, none⟩)) rfl (by kernel_rfl) ?_
      simp only [Go.Proofs.YtiemingpbommeaaGreatDoor.ps]
      refine wpList_load_row rfl 36 (.tmp 10) rfl (g10) rfl 36 (stCells X pc) (0, 0) _ (HW.out.s) Tryz.underlying36 rfl (infoState HX.out pc) ?_
      simp only [Go.Proofs.YtiemingpbommeaaGreatDoor.ps]
      refine wpList_call (.tuple #[.agg (stCells s.X s.pc), .int .i64 s.ev, fltV s.code s.fat]) _ (f := 13) (args := #[.pointer (some ⟨sp, 0, none⟩), .agg (stCells X pc)]) rfl (by kernel_rfl) hstep ?_
      rintro W5 ⟨qs2, h1, h2, h3, h4⟩
      simp only [Go.Proofs.YtiemingpbommeaaGreatDoor.ps]
      have HW5 : Hid (StepsW w sp m sl bp g8 g10 g11 rsl s.M M X pc W5) := hid (StepsW.stepped Ho.out HW.out (by rw [← HQ2.out]; exact h4) ⟨qs2, h1, h2.trans HQ2.out, h3⟩)
      have K5 : Hid (Keep [] w W5) := hid HW5.out.keep
      clear hstep h1 h2 h3 h4 HW HQ2
      refine wpList_val (w' := W5) (.tuple #[.agg (stCells s.X s.pc), .int .i64 s.ev, fltV s.code s.fat]) rfl (by kernel_rfl) ?_
      simp only [Go.Proofs.YtiemingpbommeaaGreatDoor.ps]
      refine wpList_val (w' := W5) (.agg (stCells s.X s.pc)) rfl (by kernel_rfl) ?_
      simp only [Go.Proofs.YtiemingpbommeaaGreatDoor.ps]
      refine wpList_val (w' := W5) (.int .i64 s.ev) rfl (by kernel_rfl) ?_
      simp only [Go.Proofs.YtiemingpbommeaaGreatDoor.ps]
      refine wpList_val (w' := W5) (fltV s.code s.fat) rfl (by kernel_rfl) ?_
      simp only [Go.Proofs.YtiemingpbommeaaGreatDoor.ps]
      obtain ⟨W6, hW6, S11, S13, RB, h1, h2⟩ := two_new W5 36 31 zst #[.int .i64 0, .int .u64 0, .string ⟨#[]⟩] (stCells s.X s.pc) #[.int .i64 s.code, .int .u64 s.fat, .string ⟨#[]⟩]
      have T13 := hid S11
      have T15 := hid S13
      have K6 : Hid (Keep [] w W6) := hid (K5.out.trans (Keep.of_below RB))
      have RBk : Below W5.heap.size W5 W6 := RB
      obtain ⟨WA, hWA⟩ : ∃ WA, W5.alloc (.cells zst 36) = WA := ⟨_, rfl⟩
      have hsA : WA.heap.size = W5.heap.size + 1 := by rw [← hWA]; simp
      refine wpList_val (w' := W5.alloc (.cells zst 36)) (.pointer (some ⟨W5.heap.size, 0, none⟩)) rfl (by kernel_rfl) ?_
      simp only [Go.Proofs.YtiemingpbommeaaGreatDoor.ps]
      rw [hWA]
      rw [hWA] at h1 h2 hW6
      refine wpList_val (w' := WA.alloc (.cells #[.int .i64 0, .int .u64 0, .string ⟨#[]⟩] 31)) (.pointer (some ⟨WA.heap.size, 0, none⟩)) rfl (by kernel_rfl) ?_
      simp only [Go.Proofs.YtiemingpbommeaaGreatDoor.ps]
      rw [hsA]
      refine wpList_store_row rfl 36 (.tmp 13) (.tmp 48) rfl W5.heap.size (stCells s.X s.pc) rfl rfl 36 zst h1 (infoState Hreg1.out s.pc) (stCells_size Hreg1.out _).symm (stCells_one _ _) ?_
      simp only [Go.Proofs.YtiemingpbommeaaGreatDoor.ps]
      refine wpList_val (w' := (WA.alloc (.cells #[.int .i64 0, .int .u64 0, .string ⟨#[]⟩] 31)).setRow W5.heap.size (stCells s.X s.pc)) (.int .i64 s.ev) rfl (by kernel_rfl) ?_
      simp only [Go.Proofs.YtiemingpbommeaaGreatDoor.ps]
      refine wpList_store_row rfl 31 (.tmp 15) (.tmp 50) rfl (W5.heap.size + 1) #[.int .i64 s.code, .int .u64 s.fat, .string ⟨#[]⟩] rfl rfl 31 #[.int .i64 0, .int .u64 0, .string ⟨#[]⟩] h2 infoFault rfl (faultRow_one ..) ?_
      simp only [Go.Proofs.YtiemingpbommeaaGreatDoor.ps]
      rw [hW6]
      clear hW6 h1 h2 RB hWA hsA K5 S11 S13
      have HW6 := hid (HW5.out.below RBk)
      clear RBk HW5 K6
      generalize W5.heap.size = G at T13 T15 ⊢
      have hrs := refStep_any 0 rsl M 4 X pc W6 HW6.out.l HG.out (by have := H3.out; omega) HX.out
      rw [HSs.out] at hrs
      unfold RefPost at hrs
      go_upto_region 12 with (fail)
      apply wp_region_lit
      refine wpList_load_row rfl 54 (.tmp 8) rfl (g8) rfl 54 (#[rsl, .int .i64 4]) (0, 0) _ (HW6.out.r) Tryz.underlying54 rfl (infoSpc) ?_
      simp only [Go.Proofs.YtiemingpbommeaaGreatDoor.ps]
      refine wpList_load_row rfl 58 (.tmp 11) rfl (g11) rfl 58 (stCells X pc) (0, 0) _ (HW6.out.t) Tryz.underlying58 rfl (infoState7 HX.out pc) ?_
      simp only [Go.Proofs.YtiemingpbommeaaGreatDoor.ps]
      refine wpList_callE (fun v w'' => ∃ sl2, v = .tuple #[.agg #[sl2, .int .i64 4], .agg (stCells s.X s.pc), .int .i64 s.ev, .int .i64 s.code, .int .u64 s.fat] ∧ RL 0 w'' sl2 s.M ∧ Below W6.heap.size W6 w'') (f := 18) (args := #[.agg #[rsl, .int .i64 4], .agg (stCells X pc)]) rfl (by kernel_rfl) (hrs.mono (fun e w'' ⟨sl2, h1, h2, h3⟩ => ⟨_, h1, sl2, rfl, h2, h3⟩)) ?_
      rintro v7 W7 ⟨sl2, rfl, hrl, hb7⟩
      simp only [Go.Proofs.YtiemingpbommeaaGreatDoor.ps]
      have HW7 := hid (HW6.out.below hb7)
      have U13 := hid ((hb7.block _ (blk_lt' T13.out)).trans T13.out)
      have U15 := hid ((hb7.block _ (blk_lt' T15.out)).trans T15.out)
      have HRL := hid hrl
      have hone := hrl.one
      clear hb7 hrs HW6 T13 T15 hrl
      refine wpList_val (w' := W7) (.tuple #[.agg #[sl2, .int .i64 4], .agg (stCells s.X s.pc), .int .i64 s.ev, .int .i64 s.code, .int .u64 s.fat]) rfl (by kernel_rfl) ?_
      simp only [Go.Proofs.YtiemingpbommeaaGreatDoor.ps]
      refine wpList_val (w' := W7) (.agg #[sl2, .int .i64 4]) rfl (by kernel_rfl) ?_
      simp only [Go.Proofs.YtiemingpbommeaaGreatDoor.ps]
      refine wpList_val (w' := W7) (.agg (stCells s.X s.pc)) rfl (by kernel_rfl) ?_
      simp only [Go.Proofs.YtiemingpbommeaaGreatDoor.ps]
      refine wpList_val (w' := W7) (.int .i64 s.ev) rfl (by kernel_rfl) ?_
      simp only [Go.Proofs.YtiemingpbommeaaGreatDoor.ps]
      refine wpList_val (w' := W7) (.int .i64 s.code) rfl (by kernel_rfl) ?_
      simp only [Go.Proofs.YtiemingpbommeaaGreatDoor.ps]
      refine wpList_val (w' := W7) (.int .u64 s.fat) rfl (by kernel_rfl) ?_
      simp only [Go.Proofs.YtiemingpbommeaaGreatDoor.ps]
      obtain ⟨W8, hW8, S16, S17, RB, h1, h2⟩ := two_new W7 54 58 #[.slice none 0 0, .int .i64 0] zst #[sl2, .int .i64 4] (stCells s.X s.pc)
      have T16 := hid S16
      have T17 := hid S17
      have RBk : Below W7.heap.size W7 W8 := RB
      obtain ⟨WA, hWA⟩ : ∃ WA, W7.alloc (.cells #[.slice none 0 0, .int .i64 0] 54) = WA := ⟨_, rfl⟩
      have hsA : WA.heap.size = W7.heap.size + 1 := by rw [← hWA]; simp
      refine wpList_val (w' := W7.alloc (.cells #[.slice none 0 0, .int .i64 0] 54)) (.pointer (some ⟨W7.heap.size, 0, none⟩)) rfl (by kernel_rfl) ?_
      simp only [Go.Proofs.YtiemingpbommeaaGreatDoor.ps]
      rw [hWA]
      rw [hWA] at h1 h2 hW8
      refine wpList_val (w' := WA.alloc (.cells zst 58)) (.pointer (some ⟨WA.heap.size, 0, none⟩)) rfl (by kernel_rfl) ?_
      simp only [Go.Proofs.YtiemingpbommeaaGreatDoor.ps]
      rw [hsA]
      refine wpList_store_row rfl 54 (.tmp 16) (.tmp 55) rfl (W7.heap.size) (#[sl2, .int .i64 4]) rfl rfl 54 _ (h1) (infoSpc) (rfl) (spc_one _ _ hone) ?_
      simp only [Go.Proofs.YtiemingpbommeaaGreatDoor.ps]
      refine wpList_store_row rfl 58 (.tmp 17) (.tmp 56) rfl (W7.heap.size + 1) (stCells s.X s.pc) rfl rfl 58 _ (h2) (infoState7 Hreg1.out s.pc) ((stCells_size Hreg1.out _).symm) (stCells_one _ _) ?_
      simp only [Go.Proofs.YtiemingpbommeaaGreatDoor.ps]
      rw [hW8]
      refine wpList_val (w' := W8) (.int .i64 s.ev) rfl (by kernel_rfl) ?_
      simp only [Go.Proofs.YtiemingpbommeaaGreatDoor.ps]
      refine wpList_val (w' := W8) (.int .i64 s.code) rfl (by kernel_rfl) ?_
      simp only [Go.Proofs.YtiemingpbommeaaGreatDoor.ps]
      refine wpList_val (w' := W8) (.int .u64 s.fat) rfl (by kernel_rfl) ?_
      simp only [Go.Proofs.YtiemingpbommeaaGreatDoor.ps]
      have HW8 := hid (HW7.out.below RBk)
      have V13 : Hid (StIs W8 G s.X s.pc) := hid ((RBk.block _ (blk_lt' U13.out)).trans U13.out)
      have V15 := hid ((RBk.block _ (blk_lt' U15.out)).trans U15.out)
      have HR8 := hid (HRL.out.below RBk)
      clear hW8 h1 h2 RB hWA hsA S16 S17 RBk HW7 U13 U15 HRL
      generalize W7.heap.size = Z at T16 T17 ⊢
      have q0 : W8.cell? ⟨G + 1, 0, none⟩ = some (.int .i64 s.code) := by rw [cell_of_row _ _ _ _ _ _ V15.out]; rfl
      have q1 : W8.cell? ⟨G + 1, 1, none⟩ = some (.int .u64 s.fat) := by rw [cell_of_row _ _ _ _ _ _ V15.out]; rfl
      have q2 : W8.cell? ⟨G + 1, 2, none⟩ = some (.string ⟨#[]⟩) := by rw [cell_of_row _ _ _ _ _ _ V15.out]; rfl
      go_upto_region 13 with (fail)
      apply wp_region_lit
      refine wpList_load_row rfl 36 (.tmp 13) rfl (G) rfl 36 (stCells s.X s.pc) (0, 0) _ (V13.out) Tryz.underlying36 rfl (infoState Hreg1.out s.pc) ?_
      simp only [Go.Proofs.YtiemingpbommeaaGreatDoor.ps]
      refine wpList_load_row rfl 58 (.tmp 17) rfl (Z + 1) rfl 58 (stCells s.X s.pc) (0, 0) _ (T17.out) Tryz.underlying58 rfl (infoState7 Hreg1.out s.pc) ?_
      simp only [Go.Proofs.YtiemingpbommeaaGreatDoor.ps]
      refine wpList_val (w' := W8) (.bool false) rfl (exec_neq_same (ty := 58) rfl rfl rfl (by kernel_rfl) (fun w => state_eq7 Hreg1.out s.pc w)) ?_
      simp only [Go.Proofs.YtiemingpbommeaaGreatDoor.ps]
      go_upto_region 15 with (fail)
      apply wp_region_lit
      refine wpList_load_row rfl 54 (.tmp 16) rfl (Z) rfl 54 (#[sl2, .int .i64 4]) (0, 0) _ (T16.out) Tryz.underlying54 rfl (infoSpc) ?_
      simp only [Go.Proofs.YtiemingpbommeaaGreatDoor.ps]
      refine wpList_store_row rfl 54 (.tmp 8) (.tmp 85) rfl (g8) (#[sl2, .int .i64 4]) rfl rfl 54 _ (HW8.out.r) (infoSpc) (rfl) (spc_one _ _ hone) ?_
      simp only [Go.Proofs.YtiemingpbommeaaGreatDoor.ps]
      have HW9 := hid (HW8.out.set8 Ho.out HR8.out)
      have g13 : G ≠ g8 := fun e => by have h := V13.out; have h2 := HW8.out.r; rw [e] at h; rw [h] at h2; injection h2 with h3; injection h3 with _ h4 _; exact absurd h4 (by decide)
      have g17 : Z + 1 ≠ g8 := fun e => by have h := T17.out; have h2 := HW8.out.r; rw [e] at h; rw [h] at h2; injection h2 with h3; injection h3 with _ h4 _; exact absurd h4 (by decide)
      have X13 : Hid (StIs (W8.setRow g8 #[sl2, .int .i64 4]) G s.X s.pc) := hid ((setRow_other _ _ _ _ g13).trans V13.out)
      have X17 : Hid (St7 (W8.setRow g8 #[sl2, .int .i64 4]) (Z + 1) s.X s.pc) := hid ((setRow_other _ _ _ _ g17).trans T17.out)
      generalize W8.setRow g8 #[sl2, .int .i64 4] = W9 at HW9 X13 X17 ⊢
      clear HW8 V13 V15 T16 T17 HR8 q0 q1 q2 g13 g17 hone HG HSs
      obtain ⟨qs3, hq1, hq2, hq3⟩ := HW9.out.a
      have hsame := lawSame_any sp m sl 4 qs3 0 sl2 4 W9 hq3 (by rw [hq1]; exact HW9.out.l)
      clear hq1 hq2 hq3
      have b0 : W9.cell? ⟨g8, 0, none⟩ = some sl2 := by rw [cell_of_row _ _ _ _ _ _ HW9.out.r]; rfl
      have b1 : W9.cell? ⟨g8, 1, none⟩ = some (.int .i64 4) := by rw [cell_of_row _ _ _ _ _ _ HW9.out.r]; rfl
      have l8 := blk_lt' HW9.out.r
      have Hsame := hid hsame
      clear hsame
      go_wp2_with fail
      refine Hsame.out.mono ?_
      rintro e W10 ⟨rfl, hb10⟩
      have HW10 := hid (HW9.out.below hb10)
      have Y13 := hid ((hb10.block _ (blk_lt' X13.out)).trans X13.out)
      have Y17 := hid ((hb10.block _ (blk_lt' X17.out)).trans X17.out)
      clear hb10 HW9 X13 X17 b0 b1 l8
      by_cases hc : s.code = 0
      · have hci : ((s.code : Int) != 0) = false := by rw [bne_eq_false_iff_eq]; omega
        have hcj : ((s.code : Int) == 0) = true := by rw [beq_iff_eq]; omega
        by_cases he3 : s.ev = 3
        · go_wp2_with fail
          go_ret
          exact ⟨rfl, HW10.out.keep.below (Nat.le_refl _) (by simp)⟩
        · have hne3 : (s.ev == 3) = false := by simpa using he3
          go_upto_region 20 with (fail)
          clear hci hcj hne3
          refine wp_region_any (by kernel_rfl) ?_
          change wpAny _ _ _ _ _ _ _ (World.drew W10)
          have HWD := hid (HW10.out.below (W' := W10.drew) ((Below.refl _ _).drew))
          have Z13 : Hid (StIs W10.drew G s.X s.pc) := hid Y13.out
          have Z17 : Hid (St7 W10.drew (Z + 1) s.X s.pc) := hid Y17.out
          obtain ⟨D, hD⟩ : ∃ D, W10.drew = D := ⟨_, rfl⟩
          rw [hD] at HWD Z13 Z17 ⊢
          clear hD HW10 Y13 Y17
          have ds := HWD.out.s
          have dt := HWD.out.t
          have e17 : Z + 1 ≠ g10 := fun e => by have h := Z17.out; unfold St7 at h; unfold StIs at ds; rw [e] at h; rw [h] at ds; injection ds with h3; injection h3 with _ h4 _; exact absurd h4 (by decide)
          have HWE := hid (HWD.out.setST Ho.out (X' := s.X) (pc' := s.pc))
          obtain ⟨D1, hD1⟩ : ∃ D1, D.setRow g10 (stCells s.X s.pc) = D1 := ⟨_, rfl⟩
          have dt1 : Hid (St7 D1 g11 X pc) := hid (by rw [← hD1]; exact (setRow_other _ _ _ _ Ho.out.d3.symm).trans dt)
          have Q17 : Hid (St7 D1 (Z + 1) s.X s.pc) := hid (by rw [← hD1]; exact (setRow_other _ _ _ _ e17).trans Z17.out)
          rw [hD1] at HWE
          obtain ⟨D2, hD2⟩ : ∃ D2, D1.setRow g11 (stCells s.X s.pc) = D2 := ⟨_, rfl⟩
          rw [hD2] at HWE
          clear HWD e17
          refine any2 (i := 0) (j := 1) (by kernel_rfl) ?_ ?_
          · refine wpOp_val (w' := D) (v := .agg (stCells s.X s.pc)) rfl rfl (exec_load_row 36 (.tmp 13) rfl G rfl 36 _ (0, 0) _ Z13.out Tryz.underlying36 rfl (infoState Hreg1.out s.pc)) ?_
            simp only [Go.Proofs.YtiemingpbommeaaGreatDoor.ps]
            refine any2 (i := 1) (j := 2) (by kernel_rfl) ?_ ?_
            · refine wpOp_val (w' := D) (v := .agg (stCells s.X s.pc)) rfl rfl (exec_load_row 58 (.tmp 17) rfl (Z + 1) rfl 58 _ (0, 0) _ Z17.out Tryz.underlying58 rfl (infoState7 Hreg1.out s.pc)) ?_
              simp only [Go.Proofs.YtiemingpbommeaaGreatDoor.ps]
              refine any1 (i := 2) (by kernel_rfl) ?_
              refine wpOp_store_row rfl rfl 36 (.tmp 10) (.tmp 96) rfl g10 (stCells s.X s.pc) rfl rfl 36 _ ds (infoState Hreg1.out s.pc) ((stCells_size HX.out _).trans (stCells_size Hreg1.out _).symm) (stCells_one _ _) ?_
              simp only [Go.Proofs.YtiemingpbommeaaGreatDoor.ps]
              rw [hD1]
              refine any1 (i := 3) (by kernel_rfl) ?_
              refine wpOp_store_row rfl rfl 58 (.tmp 11) (.tmp 97) rfl g11 (stCells s.X s.pc) rfl rfl 58 _ dt1.out (infoState7 Hreg1.out s.pc) ((stCells_size HX.out _).trans (stCells_size Hreg1.out _).symm) (stCells_one _ _) ?_
              simp only [Go.Proofs.YtiemingpbommeaaGreatDoor.ps]
              rw [hD2]
              refine ⟨by kernel_rfl, ?_⟩
              go_wp2_with fail
              go_roundw
              case rel => exact ⟨k + 1, sl2, s.M, s.X, s.pc, by omega, by go_num, Hreg1.out, Hlen1, HWE⟩
              case measure => simp [RowKit.intOf]; omega
            · refine wpOp_store_row rfl rfl 36 (.tmp 10) (.tmp 96) rfl g10 (stCells s.X s.pc) rfl rfl 36 _ ds (infoState Hreg1.out s.pc) ((stCells_size HX.out _).trans (stCells_size Hreg1.out _).symm) (stCells_one _ _) ?_
              simp only [Go.Proofs.YtiemingpbommeaaGreatDoor.ps]
              rw [hD1]
              refine any1 (i := 1) (by kernel_rfl) ?_
              refine wpOp_val (w' := D1) (v := .agg (stCells s.X s.pc)) rfl rfl (exec_load_row 58 (.tmp 17) rfl (Z + 1) rfl 58 _ (0, 0) _ Q17.out Tryz.underlying58 rfl (infoState7 Hreg1.out s.pc)) ?_
              simp only [Go.Proofs.YtiemingpbommeaaGreatDoor.ps]
              refine any1 (i := 3) (by kernel_rfl) ?_
              refine wpOp_store_row rfl rfl 58 (.tmp 11) (.tmp 97) rfl g11 (stCells s.X s.pc) rfl rfl 58 _ dt1.out (infoState7 Hreg1.out s.pc) ((stCells_size HX.out _).trans (stCells_size Hreg1.out _).symm) (stCells_one _ _) ?_
              simp only [Go.Proofs.YtiemingpbommeaaGreatDoor.ps]
              rw [hD2]
              refine ⟨by kernel_rfl, ?_⟩
              go_wp2_with fail
              go_roundw
              case rel => exact ⟨k + 1, sl2, s.M, s.X, s.pc, by omega, by go_num, Hreg1.out, Hlen1, HWE⟩
              case measure => simp [RowKit.intOf]; omega
          · refine wpOp_val (w' := D) (v := .agg (stCells s.X s.pc)) rfl rfl (exec_load_row 58 (.tmp 17) rfl (Z + 1) rfl 58 _ (0, 0) _ Z17.out Tryz.underlying58 rfl (infoState7 Hreg1.out s.pc)) ?_
            simp only [Go.Proofs.YtiemingpbommeaaGreatDoor.ps]
            refine any1 (i := 0) (by kernel_rfl) ?_
            refine wpOp_val (w' := D) (v := .agg (stCells s.X s.pc)) rfl rfl (exec_load_row 36 (.tmp 13) rfl G rfl 36 _ (0, 0) _ Z13.out Tryz.underlying36 rfl (infoState Hreg1.out s.pc)) ?_
            simp only [Go.Proofs.YtiemingpbommeaaGreatDoor.ps]
            refine any1 (i := 2) (by kernel_rfl) ?_
            refine wpOp_store_row rfl rfl 36 (.tmp 10) (.tmp 96) rfl g10 (stCells s.X s.pc) rfl rfl 36 _ ds (infoState Hreg1.out s.pc) ((stCells_size HX.out _).trans (stCells_size Hreg1.out _).symm) (stCells_one _ _) ?_
            simp only [Go.Proofs.YtiemingpbommeaaGreatDoor.ps]
            rw [hD1]
            refine any1 (i := 3) (by kernel_rfl) ?_
            refine wpOp_store_row rfl rfl 58 (.tmp 11) (.tmp 97) rfl g11 (stCells s.X s.pc) rfl rfl 58 _ dt1.out (infoState7 Hreg1.out s.pc) ((stCells_size HX.out _).trans (stCells_size Hreg1.out _).symm) (stCells_one _ _) ?_
            simp only [Go.Proofs.YtiemingpbommeaaGreatDoor.ps]
            rw [hD2]
            refine ⟨by kernel_rfl, ?_⟩
            go_wp2_with fail
            go_roundw
            case rel => exact ⟨k + 1, sl2, s.M, s.X, s.pc, by omega, by go_num, Hreg1.out, Hlen1, HWE⟩
            case measure => simp [RowKit.intOf]; omega
      · have hci : ((s.code : Int) != 0) = true := by rw [bne_iff_ne]; omega
        have hcj : ((s.code : Int) == 0) = false := by rw [beq_eq_false_iff_ne]; omega
        go_wp2_with fail
        go_ret
        exact ⟨rfl, HW10.out.keep.below (Nat.le_refl _) (by simp)⟩
    · obtain rfl : k = 60 := by omega
      go_wp2_with fail
      go_ret
      exact ⟨rfl, HW.out.keep.below (Nat.le_refl _) (by simp)⟩
end
end Go.Proofs.YtiemingpbommeaaGreatDoor
