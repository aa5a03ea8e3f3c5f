/- The document's step: behind the switch. -/
import Derived.Test.YtiemingpbommeaaGreatDoorHx
namespace Go.Proofs.YtiemingpbommeaaGreatDoor
open Go Go.RowKit
noncomputable section
set_option linter.unusedVariables false
set_option linter.unusedSimpArgs false
theorem rl_setCell_far {B : Nat} {w : World} {sl : Value} {M : List Pg} {O k : Nat} {cs : Array Value} {t : TypeId} {fr : Nat × Nat} {v : Value} (h : RL B w sl M) (ho : w.heap[O]? = some (.cells cs t fr)) (ht : t ≠ 135) : RL B (w.setCell ⟨O, k, none⟩ v) sl M := by
  obtain ⟨h1, h2⟩ := h
  refine ⟨h1, ?_⟩
  rcases h2 with h2 | ⟨g, cap, cur, e, hB, hg, r⟩
  · exact .inl h2
  · refine .inr ⟨g, cap, cur, e, hB, (heap_setCell_far _ _ _ _ _ ?_).trans hg, r⟩
    intro e2
    subst e2
    rw [ho] at hg
    injection hg with hg
    injection hg with _ h5 _
    exact ht h5
theorem SpAt.cellO {u W : World} {sl : Value} {M : List Pg} {O k : Nat} {cs : Array Value} {t : TypeId} {fr : Nat × Nat} {v : Value} (h : SpAt u W sl M) (ho : W.heap[O]? = some (.cells cs t fr)) (ht : t ≠ 135) : SpAt u (W.setCell ⟨O, k, none⟩ v) sl M := by
  rcases h with h | h
  · exact .inl h
  · exact .inr (rl_setCell_far h ho ht)
/-- what is told behind the switch -/
def FinR (u : World) (q : Int) (X0 : List Nat) (pc : Nat) (s : Ans) (a : Act) (w : World) : Prop :=
  ∃ (sl : Value) (M : List Pg) (X1 : List Nat) (nx : Nat) (ev : Int) (O : Nat), Hid (StepI u sl q X0 pc w) ∧ Hid (St7 w O X1 pc) ∧ Hid (SpAt u w sl M) ∧ Hid (Regs X1) ∧ u.heap.size + 4 ≤ O ∧ nx < 18446744073709551616 ∧
    Hid (s = if nx % 4 = 0 then ⟨M, X1, nx, ev, 0, 0⟩ else ⟨M, X0, pc, 0, 13, nx⟩) ∧ FrameB (.pointer (some ⟨u.heap.size, 0, none⟩)) (.pointer (some ⟨u.heap.size + 1, 0, none⟩)) (.pointer (some ⟨u.heap.size + 2, 0, none⟩)) (.pointer (some ⟨u.heap.size + 3, 0, none⟩)) (.int .u64 nx) (.pointer (some ⟨O, 0, none⟩)) (.int .i64 ev) a
set_option maxHeartbeats 4000000 in
set_option maxRecDepth 100000 in
theorem refStep_fin {u w : World} {q : Int} {X0 : List Nat} {pc : Nat} {s : Ans} {act : Act} (HX0 : Hid (Regs X0)) (h : FinR u q X0 pc s act w) : (stepC 13).wp Tryz.prog (bodyPost Tryz.prog Tryz.f18 (RefPost q s u)) act w := by
  obtain ⟨sl, M, X1, nx, ev, O, I8, OF8, S8, HX1, hO, hnx, Hs, hF⟩ := h
  obtain ⟨_, _, _, _, _, hF⟩ := hF
  unfold FrameG at hF
  iterate 259 (obtain ⟨_, hF⟩ := hF)
  subst hF
  conv => arg 2; whnf
  have cO := OF8.out.cellPc HX1.out
  have fO := frozen_of_row w _ 32 _ _ OF8.out
  have lO := blk_lt' OF8.out
  by_cases h4 : (nx) % 4 = 0
  · have h4j : (nx : Int) % 4 = 0 := by omega
    go_upto_region 56 with (fail)
    have I9x := hid (I8.out.cellO (g := O) (k := 32) hO (.int .u64 (nx : Int)))
    have S8x := hid (S8.out.cellO (k := 32) (v := .int .u64 (nx : Int)) OF8.out (by decide))
    have OFx := hid (OF8.out.setPc HX1.out (nx))
    generalize w.setCell ⟨O, 32, none⟩ (.int .u64 (nx : Int)) = Wx at I9x OFx S8x ⊢
    clear I8 OF8 cO fO lO
    have Hs2 : Hid (s = ⟨M, X1, nx, ev, 0, 0⟩) := hid (by rw [Hs.out, if_pos h4])
    refine wp_region_any (by kernel_rfl) ?_
    change wpAny _ _ _ _ _ _ _ (World.drew Wx)
    have I9 := hid (I9x.out.below (W' := Wx.drew) ((Below.refl _ _).drew))
    have S9 := hid (SpAt.below (S8x.out) (W' := Wx.drew) ((Below.refl _ _).drew))
    have O9 : Hid (St7 Wx.drew (O) X1 nx) := hid OFx.out
    obtain ⟨D, hD⟩ : ∃ D, Wx.drew = D := ⟨_, rfl⟩
    rw [hD] at I9 S9 O9 ⊢
    clear hD
    have b4 := I9.out.b4
    have b5 := I9.out.b5
    obtain ⟨D4, hD4⟩ : ∃ D4, D.setRow (u.heap.size + 2) #[sl, .int .i64 q] = D4 := ⟨_, rfl⟩
    have J5 : Hid (D4.heap[u.heap.size + 3]? = some (.cells zst 58 (0, 0))) := hid (by rw [← hD4]; exact (setRow_other _ _ _ _ (by omega)).trans b5)
    obtain ⟨D5, hD5⟩ : ∃ D5, D4.setRow (u.heap.size + 3) (stCells X1 nx) = D5 := ⟨_, rfl⟩
    have P0 : Hid (D.heap[u.heap.size]? = some (.cells #[sl, .int .i64 q] 54 (0, 0))) := hid I9.out.b2
    have P1 : Hid (D4.heap[u.heap.size]? = some (.cells #[sl, .int .i64 q] 54 (0, 0))) := hid (by rw [← hD4]; exact (setRow_other _ _ _ _ (by omega)).trans P0.out)
    have Q0 : Hid (St7 D (O) X1 nx) := hid O9.out
    have Q1 : Hid (St7 D4 (O) X1 nx) := hid (by rw [← hD4]; exact (setRow_other _ _ _ _ (by omega)).trans Q0.out)
    have J4 : Hid (D5.heap[u.heap.size + 2]? = some (.cells #[sl, .int .i64 q] 54 (0, 0))) := hid (by rw [← hD5, ← hD4]; exact (setRow_other _ _ _ _ (by omega)).trans (setRow_heap _ _ _ _ _ _ b4))
    have J55 : Hid (D5.heap[u.heap.size + 3]? = some (.cells (stCells X1 nx) 58 (0, 0))) := hid (by rw [← hD5]; exact setRow_heap _ _ _ _ _ _ J5.out)
    have HD := hid (refstep_done (q := q) I9.out S9.out (cs := #[sl, .int .i64 q]) (cs' := stCells X1 nx) (s) (by rw [Hs2.out]))
    rw [hD4, hD5] at HD
    have hone := S9.out.one
    have P0' := P0
    refine wpAny_take (i := 2) (v := .int .i64 ev) rfl (by kernel_rfl) (by kernel_rfl) (by kernel_rfl) (fun _ _ _ h => h) (Or.inl ⟨by rfl, fun w => by first | kernel_rfl | go_simp⟩) ?_
    simp only [ps]
    refine any2 (i := 0) (j := 1) (by kernel_rfl) ?_ ?_
    · refine wpOp_val (w' := D) (v := .agg #[sl, .int .i64 q]) rfl rfl (exec_load_row 54 (.tmp 2) rfl u.heap.size rfl 54 _ (0, 0) _ P0.out Tryz.underlying54 rfl infoSpc) ?_
      simp only [ps]
      refine any2 (i := 1) (j := 3) (by kernel_rfl) ?_ ?_
      · refine wpOp_val (w' := D) (v := .agg (stCells X1 nx)) rfl rfl (exec_load_row 58 (.tmp 19) rfl (O) rfl 58 _ (0, 0) _ Q0.out Tryz.underlying58 rfl (infoState7 HX1.out nx)) ?_
        simp only [ps]
        refine any1 (i := 3) (by kernel_rfl) ?_
        refine wpOp_store_row rfl rfl 54 (.tmp 4) (.tmp 268) rfl (u.heap.size + 2) #[sl, .int .i64 q] rfl rfl 54 _ b4 infoSpc rfl (spc_one _ _ hone) ?_
        simp only [ps]
        rw [hD4]
        refine any1 (i := 4) (by kernel_rfl) ?_
        refine wpOp_store_row rfl rfl 58 (.tmp 5) (.tmp 269) rfl (u.heap.size + 3) (stCells X1 nx) rfl rfl 58 zst J5.out (infoState7 HX1.out nx) (stCells_size HX1.out _).symm (stCells_one _ _) ?_
        simp only [ps]
        rw [hD5]
        refine any1 (i := 5) (by kernel_rfl) ?_
        refine wpOp_val (w' := D5) (v := .int .i64 ev) rfl rfl (by kernel_rfl) ?_
        simp only [ps]
        refine any1 (i := 6) (by kernel_rfl) ?_
        refine wpOp_val (w' := D5) (v := .int .i64 0) rfl rfl (by kernel_rfl) ?_
        simp only [ps]
        refine any1 (i := 7) (by kernel_rfl) ?_
        refine wpOp_val (w' := D5) (v := .int .u64 0) rfl rfl (by kernel_rfl) ?_
        simp only [ps]
        refine ⟨by kernel_rfl, ?_⟩
        go_wp2_with fail
        refine bodyPost_ret (results_ccttt rfl _ _ (u.heap.size + 2) (u.heap.size + 3) 54 58 #[sl, .int .i64 q] (stCells X1 nx) (0, 0) (0, 0) _ _ rfl rfl J4.out J55.out Tryz.underlying54 rfl infoSpc Tryz.underlying58 rfl (infoState7 HX1.out nx)) rfl ?_
        refine ⟨sl, ?_, HD.out⟩
        (rw [Hs2.out]; rfl)
      · refine wpOp_store_row rfl rfl 54 (.tmp 4) (.tmp 268) rfl (u.heap.size + 2) #[sl, .int .i64 q] rfl rfl 54 _ b4 infoSpc rfl (spc_one _ _ hone) ?_
        simp only [ps]
        rw [hD4]
        refine any1 (i := 1) (by kernel_rfl) ?_
        refine wpOp_val (w' := D4) (v := .agg (stCells X1 nx)) rfl rfl (exec_load_row 58 (.tmp 19) rfl (O) rfl 58 _ (0, 0) _ Q1.out Tryz.underlying58 rfl (infoState7 HX1.out nx)) ?_
        simp only [ps]
        refine any1 (i := 4) (by kernel_rfl) ?_
        refine wpOp_store_row rfl rfl 58 (.tmp 5) (.tmp 269) rfl (u.heap.size + 3) (stCells X1 nx) rfl rfl 58 zst J5.out (infoState7 HX1.out nx) (stCells_size HX1.out _).symm (stCells_one _ _) ?_
        simp only [ps]
        rw [hD5]
        refine any1 (i := 5) (by kernel_rfl) ?_
        refine wpOp_val (w' := D5) (v := .int .i64 ev) rfl rfl (by kernel_rfl) ?_
        simp only [ps]
        refine any1 (i := 6) (by kernel_rfl) ?_
        refine wpOp_val (w' := D5) (v := .int .i64 0) rfl rfl (by kernel_rfl) ?_
        simp only [ps]
        refine any1 (i := 7) (by kernel_rfl) ?_
        refine wpOp_val (w' := D5) (v := .int .u64 0) rfl rfl (by kernel_rfl) ?_
        simp only [ps]
        refine ⟨by kernel_rfl, ?_⟩
        go_wp2_with fail
        refine bodyPost_ret (results_ccttt rfl _ _ (u.heap.size + 2) (u.heap.size + 3) 54 58 #[sl, .int .i64 q] (stCells X1 nx) (0, 0) (0, 0) _ _ rfl rfl J4.out J55.out Tryz.underlying54 rfl infoSpc Tryz.underlying58 rfl (infoState7 HX1.out nx)) rfl ?_
        refine ⟨sl, ?_, HD.out⟩
        (rw [Hs2.out]; rfl)
    · refine wpOp_val (w' := D) (v := .agg (stCells X1 nx)) rfl rfl (exec_load_row 58 (.tmp 19) rfl (O) rfl 58 _ (0, 0) _ Q0.out Tryz.underlying58 rfl (infoState7 HX1.out nx)) ?_
      simp only [ps]
      refine any1 (i := 0) (by kernel_rfl) ?_
      refine wpOp_val (w' := D) (v := .agg #[sl, .int .i64 q]) rfl rfl (exec_load_row 54 (.tmp 2) rfl u.heap.size rfl 54 _ (0, 0) _ P0.out Tryz.underlying54 rfl infoSpc) ?_
      simp only [ps]
      refine any1 (i := 3) (by kernel_rfl) ?_
      refine wpOp_store_row rfl rfl 54 (.tmp 4) (.tmp 268) rfl (u.heap.size + 2) #[sl, .int .i64 q] rfl rfl 54 _ b4 infoSpc rfl (spc_one _ _ hone) ?_
      simp only [ps]
      rw [hD4]
      refine any1 (i := 4) (by kernel_rfl) ?_
      refine wpOp_store_row rfl rfl 58 (.tmp 5) (.tmp 269) rfl (u.heap.size + 3) (stCells X1 nx) rfl rfl 58 zst J5.out (infoState7 HX1.out nx) (stCells_size HX1.out _).symm (stCells_one _ _) ?_
      simp only [ps]
      rw [hD5]
      refine any1 (i := 5) (by kernel_rfl) ?_
      refine wpOp_val (w' := D5) (v := .int .i64 ev) rfl rfl (by kernel_rfl) ?_
      simp only [ps]
      refine any1 (i := 6) (by kernel_rfl) ?_
      refine wpOp_val (w' := D5) (v := .int .i64 0) rfl rfl (by kernel_rfl) ?_
      simp only [ps]
      refine any1 (i := 7) (by kernel_rfl) ?_
      refine wpOp_val (w' := D5) (v := .int .u64 0) rfl rfl (by kernel_rfl) ?_
      simp only [ps]
      refine ⟨by kernel_rfl, ?_⟩
      go_wp2_with fail
      refine bodyPost_ret (results_ccttt rfl _ _ (u.heap.size + 2) (u.heap.size + 3) 54 58 #[sl, .int .i64 q] (stCells X1 nx) (0, 0) (0, 0) _ _ rfl rfl J4.out J55.out Tryz.underlying54 rfl infoSpc Tryz.underlying58 rfl (infoState7 HX1.out nx)) rfl ?_
      refine ⟨sl, ?_, HD.out⟩
      (rw [Hs2.out]; rfl)
  · have h4i : (((nx : Int) % 4) != 0) = true := by rw [bne_iff_ne]; omega
    have h4j : ¬ (nx : Int) % 4 = 0 := by omega
    clear cO fO lO
    go_upto_region 54 with (fail)
    have Hs2 : Hid (s = ⟨M, X0, pc, 0, 13, nx⟩) := hid (by rw [Hs.out, if_neg h4])
    refine wp_region_any (by kernel_rfl) ?_
    change wpAny _ _ _ _ _ _ _ (World.drew w)
    have I9 := hid (I8.out.below (W' := w.drew) ((Below.refl _ _).drew))
    have S9 := hid (SpAt.below (S8.out) (W' := w.drew) ((Below.refl _ _).drew))
    obtain ⟨D, hD⟩ : ∃ D, w.drew = D := ⟨_, rfl⟩
    rw [hD] at I9 S9 ⊢
    clear hD
    have b4 := I9.out.b4
    have b5 := I9.out.b5
    obtain ⟨D4, hD4⟩ : ∃ D4, D.setRow (u.heap.size + 2) #[sl, .int .i64 q] = D4 := ⟨_, rfl⟩
    have J5 : Hid (D4.heap[u.heap.size + 3]? = some (.cells zst 58 (0, 0))) := hid (by rw [← hD4]; exact (setRow_other _ _ _ _ (by omega)).trans b5)
    obtain ⟨D5, hD5⟩ : ∃ D5, D4.setRow (u.heap.size + 3) (stCells X0 pc) = D5 := ⟨_, rfl⟩
    have P0 : Hid (D.heap[u.heap.size]? = some (.cells #[sl, .int .i64 q] 54 (0, 0))) := hid I9.out.b2
    have P1 : Hid (D4.heap[u.heap.size]? = some (.cells #[sl, .int .i64 q] 54 (0, 0))) := hid (by rw [← hD4]; exact (setRow_other _ _ _ _ (by omega)).trans P0.out)
    have Q0 : Hid (St7 D (u.heap.size + 1) X0 pc) := hid I9.out.b3
    have Q1 : Hid (St7 D4 (u.heap.size + 1) X0 pc) := hid (by rw [← hD4]; exact (setRow_other _ _ _ _ (by omega)).trans Q0.out)
    have J4 : Hid (D5.heap[u.heap.size + 2]? = some (.cells #[sl, .int .i64 q] 54 (0, 0))) := hid (by rw [← hD5, ← hD4]; exact (setRow_other _ _ _ _ (by omega)).trans (setRow_heap _ _ _ _ _ _ b4))
    have J55 : Hid (D5.heap[u.heap.size + 3]? = some (.cells (stCells X0 pc) 58 (0, 0))) := hid (by rw [← hD5]; exact setRow_heap _ _ _ _ _ _ J5.out)
    have HD := hid (refstep_done (q := q) I9.out S9.out (cs := #[sl, .int .i64 q]) (cs' := stCells X0 pc) (s) (by rw [Hs2.out]))
    rw [hD4, hD5] at HD
    have hone := S9.out.one
    have P0' := P0
    refine wpAny_take (i := 2) (v := .int .u64 (nx : Int)) rfl (by kernel_rfl) (by kernel_rfl) (by kernel_rfl) (fun _ _ _ h => h) (Or.inl ⟨by rfl, fun w => by first | kernel_rfl | go_simp⟩) ?_
    simp only [ps]
    refine any2 (i := 0) (j := 1) (by kernel_rfl) ?_ ?_
    · refine wpOp_val (w' := D) (v := .agg #[sl, .int .i64 q]) rfl rfl (exec_load_row 54 (.tmp 2) rfl u.heap.size rfl 54 _ (0, 0) _ P0.out Tryz.underlying54 rfl infoSpc) ?_
      simp only [ps]
      refine any2 (i := 1) (j := 3) (by kernel_rfl) ?_ ?_
      · refine wpOp_val (w' := D) (v := .agg (stCells X0 pc)) rfl rfl (exec_load_row 58 (.tmp 3) rfl (u.heap.size + 1) rfl 58 _ (0, 0) _ Q0.out Tryz.underlying58 rfl (infoState7 HX0.out pc)) ?_
        simp only [ps]
        refine any1 (i := 3) (by kernel_rfl) ?_
        refine wpOp_store_row rfl rfl 54 (.tmp 4) (.tmp 263) rfl (u.heap.size + 2) #[sl, .int .i64 q] rfl rfl 54 _ b4 infoSpc rfl (spc_one _ _ hone) ?_
        simp only [ps]
        rw [hD4]
        refine any1 (i := 4) (by kernel_rfl) ?_
        refine wpOp_store_row rfl rfl 58 (.tmp 5) (.tmp 264) rfl (u.heap.size + 3) (stCells X0 pc) rfl rfl 58 zst J5.out (infoState7 HX0.out pc) (stCells_size HX0.out _).symm (stCells_one _ _) ?_
        simp only [ps]
        rw [hD5]
        refine any1 (i := 5) (by kernel_rfl) ?_
        refine wpOp_val (w' := D5) (v := .int .i64 0) rfl rfl (by kernel_rfl) ?_
        simp only [ps]
        refine any1 (i := 6) (by kernel_rfl) ?_
        refine wpOp_val (w' := D5) (v := .int .i64 13) rfl rfl (by kernel_rfl) ?_
        simp only [ps]
        refine any1 (i := 7) (by kernel_rfl) ?_
        refine wpOp_val (w' := D5) (v := .int .u64 (nx : Int)) rfl rfl (by kernel_rfl) ?_
        simp only [ps]
        refine ⟨by kernel_rfl, ?_⟩
        go_wp2_with fail
        refine bodyPost_ret (results_ccttt rfl _ _ (u.heap.size + 2) (u.heap.size + 3) 54 58 #[sl, .int .i64 q] (stCells X0 pc) (0, 0) (0, 0) _ _ rfl rfl J4.out J55.out Tryz.underlying54 rfl infoSpc Tryz.underlying58 rfl (infoState7 HX0.out pc)) rfl ?_
        refine ⟨sl, ?_, HD.out⟩
        (rw [Hs2.out]; rfl)
      · refine wpOp_store_row rfl rfl 54 (.tmp 4) (.tmp 263) rfl (u.heap.size + 2) #[sl, .int .i64 q] rfl rfl 54 _ b4 infoSpc rfl (spc_one _ _ hone) ?_
        simp only [ps]
        rw [hD4]
        refine any1 (i := 1) (by kernel_rfl) ?_
        refine wpOp_val (w' := D4) (v := .agg (stCells X0 pc)) rfl rfl (exec_load_row 58 (.tmp 3) rfl (u.heap.size + 1) rfl 58 _ (0, 0) _ Q1.out Tryz.underlying58 rfl (infoState7 HX0.out pc)) ?_
        simp only [ps]
        refine any1 (i := 4) (by kernel_rfl) ?_
        refine wpOp_store_row rfl rfl 58 (.tmp 5) (.tmp 264) rfl (u.heap.size + 3) (stCells X0 pc) rfl rfl 58 zst J5.out (infoState7 HX0.out pc) (stCells_size HX0.out _).symm (stCells_one _ _) ?_
        simp only [ps]
        rw [hD5]
        refine any1 (i := 5) (by kernel_rfl) ?_
        refine wpOp_val (w' := D5) (v := .int .i64 0) rfl rfl (by kernel_rfl) ?_
        simp only [ps]
        refine any1 (i := 6) (by kernel_rfl) ?_
        refine wpOp_val (w' := D5) (v := .int .i64 13) rfl rfl (by kernel_rfl) ?_
        simp only [ps]
        refine any1 (i := 7) (by kernel_rfl) ?_
        refine wpOp_val (w' := D5) (v := .int .u64 (nx : Int)) rfl rfl (by kernel_rfl) ?_
        simp only [ps]
        refine ⟨by kernel_rfl, ?_⟩
        go_wp2_with fail
        refine bodyPost_ret (results_ccttt rfl _ _ (u.heap.size + 2) (u.heap.size + 3) 54 58 #[sl, .int .i64 q] (stCells X0 pc) (0, 0) (0, 0) _ _ rfl rfl J4.out J55.out Tryz.underlying54 rfl infoSpc Tryz.underlying58 rfl (infoState7 HX0.out pc)) rfl ?_
        refine ⟨sl, ?_, HD.out⟩
        (rw [Hs2.out]; rfl)
    · refine wpOp_val (w' := D) (v := .agg (stCells X0 pc)) rfl rfl (exec_load_row 58 (.tmp 3) rfl (u.heap.size + 1) rfl 58 _ (0, 0) _ Q0.out Tryz.underlying58 rfl (infoState7 HX0.out pc)) ?_
      simp only [ps]
      refine any1 (i := 0) (by kernel_rfl) ?_
      refine wpOp_val (w' := D) (v := .agg #[sl, .int .i64 q]) rfl rfl (exec_load_row 54 (.tmp 2) rfl u.heap.size rfl 54 _ (0, 0) _ P0.out Tryz.underlying54 rfl infoSpc) ?_
      simp only [ps]
      refine any1 (i := 3) (by kernel_rfl) ?_
      refine wpOp_store_row rfl rfl 54 (.tmp 4) (.tmp 263) rfl (u.heap.size + 2) #[sl, .int .i64 q] rfl rfl 54 _ b4 infoSpc rfl (spc_one _ _ hone) ?_
      simp only [ps]
      rw [hD4]
      refine any1 (i := 4) (by kernel_rfl) ?_
      refine wpOp_store_row rfl rfl 58 (.tmp 5) (.tmp 264) rfl (u.heap.size + 3) (stCells X0 pc) rfl rfl 58 zst J5.out (infoState7 HX0.out pc) (stCells_size HX0.out _).symm (stCells_one _ _) ?_
      simp only [ps]
      rw [hD5]
      refine any1 (i := 5) (by kernel_rfl) ?_
      refine wpOp_val (w' := D5) (v := .int .i64 0) rfl rfl (by kernel_rfl) ?_
      simp only [ps]
      refine any1 (i := 6) (by kernel_rfl) ?_
      refine wpOp_val (w' := D5) (v := .int .i64 13) rfl rfl (by kernel_rfl) ?_
      simp only [ps]
      refine any1 (i := 7) (by kernel_rfl) ?_
      refine wpOp_val (w' := D5) (v := .int .u64 (nx : Int)) rfl rfl (by kernel_rfl) ?_
      simp only [ps]
      refine ⟨by kernel_rfl, ?_⟩
      go_wp2_with fail
      refine bodyPost_ret (results_ccttt rfl _ _ (u.heap.size + 2) (u.heap.size + 3) 54 58 #[sl, .int .i64 q] (stCells X0 pc) (0, 0) (0, 0) _ _ rfl rfl J4.out J55.out Tryz.underlying54 rfl infoSpc Tryz.underlying58 rfl (infoState7 HX0.out pc)) rfl ?_
      refine ⟨sl, ?_, HD.out⟩
      (rw [Hs2.out]; rfl)
end
end Go.Proofs.YtiemingpbommeaaGreatDoor
