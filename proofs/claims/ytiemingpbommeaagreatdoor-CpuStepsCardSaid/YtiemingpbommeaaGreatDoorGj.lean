/- The processor: one step, to the fetch and the decoding. -/
import Derived.Test.YtiemingpbommeaaGreatDoorGi
import Derived.Test.YtiemingpbommeaaGreatDoorGf
namespace Go.Proofs.YtiemingpbommeaaGreatDoor
open Go Go.RowKit
noncomputable section
set_option linter.unusedVariables false
set_option linter.unusedSimpArgs false
theorem Begun.below {sp m : Nat} {sl : Value} {q : Int} {ps : List (Pg × Nat)} {X : List Nat} {pc : Nat} {w W W' : World} (h : Begun sp m sl q ps X pc w W) (hb : Below W.heap.size W W') : Begun sp m sl q ps X pc w W' := by
  refine ⟨h.st.below hb, ?_, (hb.block _ (blk_lt' h.zf)).trans h.zf, h.sp.below hb, h.b.trans (hb.mono h.b.size)⟩
  obtain ⟨cs, h1, h2⟩ := h.zs
  exact ⟨cs, h1, (hb.block _ (blk_lt' h2)).trans h2⟩
theorem fetch_at (sp m : Nat) (sl : Value) (q : Int) (ps : List (Pg × Nat)) (x v c f : Nat) (hf : fetchN (pgs ps) x = (v, c, f)) (w : World) (hx : x < 18446744073709551616) (hS : SpaceIs w sp m sl q ps) :
    Calls Tryz.prog 31 #[.pointer (some ⟨sp, 0, none⟩), .int .u64 x] w fun e w' => e = .returned (.tuple #[.int .u32 v, fltV c f]) ∧ Below w.heap.size w w' := by
  have h := fetch_any sp m sl q ps x w hx hS
  unfold FetchPost at h
  rw [hf] at h
  exact h
set_option maxHeartbeats 4000000 in
set_option maxRecDepth 100000 in
theorem step_nofetch (sp m : Nat) (sl : Value) (q : Int) (ps : List (Pg × Nat)) (X : List Nat) (pc : Nat) (w : World) (hS : SpaceIs w sp m sl q ps) (hX : Regs X) (hpc : pc < 1099511627776)
    (v c f : Nat) (hf : fetchN (pgs ps) pc = (v, c, f)) (hc : c ≠ 0) :
    Calls Tryz.prog 13 #[.pointer (some ⟨sp, 0, none⟩), .agg (stCells X pc)] w (StepPost sp m sl q ps (pgs ps) (X.set 0 0) pc 0 c f w) := by
  have Hf := hid hf
  have Hc := hid hc
  clear hf hc
  have hpi : ¬ (1099511627776 : Int) ≤ pc := by omega
  have hp64 : Hid (pc < 18446744073709551616) := hid (by omega)
  clear hpc
  have HX := hid (hX.set 0 0 (by decide))
  have HX0 := hid hX
  have HS := hid hS
  clear hX hS
  obtain ⟨st, hst⟩ : ∃ st, stCells X pc = st := ⟨_, rfl⟩
  have Hst := hid hst
  rw [hst]
  clear hst
  go_enter Tryz.func13, Tryz.ntmps13
  go_upto_region 0 with (fail)
  go_cut [3, 4, 5, 6] (fun v3 v4 v5 v6 wc => v3 = .pointer (some ⟨w.heap.size, 0, none⟩) ∧ v4 = .pointer (some ⟨w.heap.size + 1, 0, none⟩) ∧ v5 = .int .i64 0 ∧ v6 = .pointer (some ⟨w.heap.size + 1 + 1, 0, none⟩) ∧ Begun sp m sl q ps X pc w wc)
  case first =>
    go_wp2_with fail
    go_meet
    case rel =>
      have hb := ((((Below.refl w.heap.size w).alloc (Nat.le_refl _) (.cells st 36)).alloc (by simp) (.cells #[.int .u64 0, .int .u64 0, .int .u64 0, .int .u64 0, .int .u64 0, .int .u64 0, .int .u64 0, .int .u64 0, .int .u64 0, .int .u64 0, .int .u64 0, .int .u64 0, .int .u64 0, .int .u64 0, .int .u64 0, .int .u64 0, .int .u64 0, .int .u64 0, .int .u64 0, .int .u64 0, .int .u64 0, .int .u64 0, .int .u64 0, .int .u64 0, .int .u64 0, .int .u64 0, .int .u64 0, .int .u64 0, .int .u64 0, .int .u64 0, .int .u64 0, .int .u64 0, .int .u64 0] 36)).alloc (by simp; omega) (.cells #[.int .i64 0, .int .u64 0, .string ⟨#[]⟩] 31))
      refine ⟨rfl, rfl, rfl, rfl, ⟨?_, ⟨#[.int .u64 0, .int .u64 0, .int .u64 0, .int .u64 0, .int .u64 0, .int .u64 0, .int .u64 0, .int .u64 0, .int .u64 0, .int .u64 0, .int .u64 0, .int .u64 0, .int .u64 0, .int .u64 0, .int .u64 0, .int .u64 0, .int .u64 0, .int .u64 0, .int .u64 0, .int .u64 0, .int .u64 0, .int .u64 0, .int .u64 0, .int .u64 0, .int .u64 0, .int .u64 0, .int .u64 0, .int .u64 0, .int .u64 0, .int .u64 0, .int .u64 0, .int .u64 0, .int .u64 0], rfl, ?_⟩, ?_, HS.out.below hb, hb⟩⟩
      · unfold StIs
        rw [Hst.out, Below.heap_alloc _ _ _ (by simp; omega), Below.heap_alloc _ _ _ (by simp)]
        exact heap_alloc_new _ _
      · rw [Below.heap_alloc _ _ _ (by simp)]
        have := heap_alloc_new (w.alloc (.cells st 36)) (.cells #[.int .u64 0, .int .u64 0, .int .u64 0, .int .u64 0, .int .u64 0, .int .u64 0, .int .u64 0, .int .u64 0, .int .u64 0, .int .u64 0, .int .u64 0, .int .u64 0, .int .u64 0, .int .u64 0, .int .u64 0, .int .u64 0, .int .u64 0, .int .u64 0, .int .u64 0, .int .u64 0, .int .u64 0, .int .u64 0, .int .u64 0, .int .u64 0, .int .u64 0, .int .u64 0, .int .u64 0, .int .u64 0, .int .u64 0, .int .u64 0, .int .u64 0, .int .u64 0, .int .u64 0] 36)
        simpa using this
      · have := heap_alloc_new ((w.alloc (.cells st 36)).alloc (.cells #[.int .u64 0, .int .u64 0, .int .u64 0, .int .u64 0, .int .u64 0, .int .u64 0, .int .u64 0, .int .u64 0, .int .u64 0, .int .u64 0, .int .u64 0, .int .u64 0, .int .u64 0, .int .u64 0, .int .u64 0, .int .u64 0, .int .u64 0, .int .u64 0, .int .u64 0, .int .u64 0, .int .u64 0, .int .u64 0, .int .u64 0, .int .u64 0, .int .u64 0, .int .u64 0, .int .u64 0, .int .u64 0, .int .u64 0, .int .u64 0, .int .u64 0, .int .u64 0, .int .u64 0] 36)) (.cells #[.int .i64 0, .int .u64 0, .string ⟨#[]⟩] 31)
        simpa using this
  obtain ⟨rfl, rfl, rfl, rfl, hbg⟩ := hcut
  have Hbg := hid hbg
  clear hbg
  have c0 := Hbg.out.st.cell HX0.out (show 0 < 32 by decide)
  have fz := frozen_of_row wc _ 0 _ _ Hbg.out.st
  go_upto_region 1 with (fail)
  go_cut [15, 16] (fun v15 v16 W => Begun sp m sl q ps (X.set 0 0) pc w W)
  case first =>
    go_wp2_with fail
    go_meet
    case rel => exact Hbg.out.set0 HX0.out
  have HB := hid hcut
  clear hcut
  have cp := HB.out.st.cellPc HX.out
  go_wp2_with fail
  refine (fetch_at sp m sl q ps pc v c f Hf.out _ hp64.out HB.out.sp).mono ?_
  rintro e w1 ⟨rfl, hb1⟩
  have HB1 := hid (HB.out.below hb1)
  clear cp c0 fz hb1 HB Hbg hpi
  go_wp2_with fail
  refine (faultOK_any _ _ _ _).mono ?_
  rintro e V ⟨rfl, hb8⟩
  have S8 : Hid (V.heap[w1.heap.size]? = some (.cells #[.int .i64 c, .int .u64 f, .string ⟨#[]⟩] 31 (0, 0))) := hid ((hb8.block _ (by simp)).trans (heap_alloc_new _ _))
  have HB := hid ((HB1.out.below (((Below.refl _ _).alloc (Nat.le_refl _) _) : Below w1.heap.size w1 (w1.alloc (.cells #[.int .i64 c, .int .u64 f, .string ⟨#[]⟩] 31)))).below hb8)
  have hG8 : w.heap.size + 1 + 1 < w1.heap.size := blk_lt' HB1.out.zf
  clear hb8 HB1
  generalize w1.heap.size = G8 at S8 hG8 ⊢
  obtain ⟨zc, hz1, hz2⟩ := HB.out.zs
  have Hz1 := hid hz1
  have Z29 := hz2
  have Z35 := HB.out.zf
  have ZP := HB.out.st
  have ZS := S8.out
  have HZ29 := hid Z29
  clear hz1 hz2 Z29 Z35 ZP ZS
  have hc0 : (!((c : Int) == 0)) = true := by have := Hc.out; simp; omega
  have hc1 : ((c : Int) == 0) = false := by simpa using hc0
  rw [hc1]
  clear hc0 hc1
  go_wp2_with fail
  have Z29 := HZ29.out
  have Z35 := HB.out.zf
  refine wp_region_any (by kernel_rfl) ?_
  change wpAny _ _ _ _ _ _ _ (World.drew V)
  have DP : Hid (V.drew.heap[w.heap.size]? = some (.cells (stCells (X.set 0 0) pc) 36 (0, 0))) := hid HB.out.st
  have DS : Hid (V.drew.heap[G8]? = some (.cells #[.int .i64 c, .int .u64 f, .string ⟨#[]⟩] 31 (0, 0))) := hid S8.out
  have DZ : Hid (V.drew.heap[w.heap.size + 1]? = some (.cells zc 36 (0, 0))) := hid Z29
  have DF : Hid (V.drew.heap[w.heap.size + 1 + 1]? = some (.cells #[.int .i64 0, .int .u64 0, .string ⟨#[]⟩] 31 (0, 0))) := hid Z35
  have DSP := hid (HB.out.sp).drew1
  have DK := hid ((Keep.of_below (S := blks ps) HB.out.b)).drew1
  obtain ⟨D, hD⟩ : ∃ D, V.drew = D := ⟨_, rfl⟩
  rw [hD] at DP DS DZ DF DSP DK ⊢
  clear hD
  have ES : Hid ((D.setRow (w.heap.size + 1) (stCells (X.set 0 0) pc)).heap[G8]? = _) := hid ((setRow_other _ _ _ _ (by omega)).trans DS.out)
  have E1 : Hid ((D.setRow (w.heap.size + 1) (stCells (X.set 0 0) pc)).heap[w.heap.size + 1]? = _) := hid (setRow_heap _ _ _ _ _ _ DZ.out)
  have EF : Hid ((D.setRow (w.heap.size + 1) (stCells (X.set 0 0) pc)).heap[w.heap.size + 1 + 1]? = _) := hid ((setRow_other _ _ _ _ (by omega)).trans DF.out)
  have G1 : Hid (((D.setRow (w.heap.size + 1) (stCells (X.set 0 0) pc)).setRow (w.heap.size + 1 + 1) #[.int .i64 c, .int .u64 f, .string ⟨#[]⟩]).heap[w.heap.size + 1]? = _) := hid ((setRow_other _ _ _ _ (by omega)).trans E1.out)
  refine any2 (i := 0) (j := 1) (by kernel_rfl) ?_ ?_
  · refine wpOp_val (w' := D) (v := .agg (stCells (X.set 0 0) pc)) rfl rfl (exec_load_row 36 (.tmp 3) rfl (w.heap.size) rfl 36 _ (0, 0) _ DP.out Tryz.underlying36 rfl (infoState HX.out pc)) ?_
    simp only [Act.put, List.getElem_toArray, List.getElem_cons_zero, List.getElem_cons_succ, List.setIfInBounds_toArray, List.set_cons_zero, List.set_cons_succ]
    refine any2 (i := 1) (j := 2) (by kernel_rfl) ?_ ?_
    · refine wpOp_val (w' := D) (v := .agg #[.int .i64 c, .int .u64 f, .string ⟨#[]⟩]) rfl rfl (exec_load_row 31 (.tmp 8) rfl (G8) rfl 31 _ (0, 0) _ DS.out Tryz.underlying31 rfl infoFault) ?_
      simp only [Act.put, List.getElem_toArray, List.getElem_cons_zero, List.getElem_cons_succ, List.setIfInBounds_toArray, List.set_cons_zero, List.set_cons_succ]
      refine any1 (i := 2) (by kernel_rfl) ?_
      refine wpOp_store_row rfl rfl 36 (.tmp 4) (.tmp 32) rfl (w.heap.size + 1) (stCells (X.set 0 0) pc) rfl rfl 36 zc DZ.out (infoState HX.out pc) (Hz1.out.trans (stCells_size HX.out _).symm) (stCells_one _ _) ?_
      simp only [Act.put, List.getElem_toArray, List.getElem_cons_zero, List.getElem_cons_succ, List.setIfInBounds_toArray, List.set_cons_zero, List.set_cons_succ]
      refine any1 (i := 3) (by kernel_rfl) ?_
      refine wpOp_val (w' := (D.setRow (w.heap.size + 1) (stCells (X.set 0 0) pc))) (v := .int .i64 0) rfl rfl (by kernel_rfl) ?_
      simp only [Act.put, List.getElem_toArray, List.getElem_cons_zero, List.getElem_cons_succ, List.setIfInBounds_toArray, List.set_cons_zero, List.set_cons_succ]
      refine any1 (i := 4) (by kernel_rfl) ?_
      refine wpOp_store_row rfl rfl 31 (.tmp 6) (.tmp 33) rfl (w.heap.size + 1 + 1) #[.int .i64 c, .int .u64 f, .string ⟨#[]⟩] rfl rfl 31 _ EF.out infoFault rfl (faultRow_one ..) ?_
      simp only [Act.put, List.getElem_toArray, List.getElem_cons_zero, List.getElem_cons_succ, List.setIfInBounds_toArray, List.set_cons_zero, List.set_cons_succ]
      refine ⟨by kernel_rfl, ?_⟩
      go_wp2_with fail
      refine bodyPost_ret (results_ctc rfl _ _ (w.heap.size + 1) (w.heap.size + 1 + 1) 36 31 (stCells (X.set 0 0) pc) #[.int .i64 c, .int .u64 f, .string ⟨#[]⟩] (0, 0) (0, 0) _ _ rfl rfl G1.out (setRow_heap _ _ _ _ _ _ EF.out) Tryz.underlying36 rfl (infoState HX.out pc) Tryz.underlying31 rfl infoFault) rfl ?_
      exact ⟨rfl, step_stored HS.out rfl rfl DSP.out DK.out _ _⟩
    · refine wpOp_store_row rfl rfl 36 (.tmp 4) (.tmp 32) rfl (w.heap.size + 1) (stCells (X.set 0 0) pc) rfl rfl 36 zc DZ.out (infoState HX.out pc) (Hz1.out.trans (stCells_size HX.out _).symm) (stCells_one _ _) ?_
      simp only [Act.put, List.getElem_toArray, List.getElem_cons_zero, List.getElem_cons_succ, List.setIfInBounds_toArray, List.set_cons_zero, List.set_cons_succ]
      refine any2 (i := 1) (j := 3) (by kernel_rfl) ?_ ?_
      · refine wpOp_val (w' := (D.setRow (w.heap.size + 1) (stCells (X.set 0 0) pc))) (v := .agg #[.int .i64 c, .int .u64 f, .string ⟨#[]⟩]) rfl rfl (exec_load_row 31 (.tmp 8) rfl (G8) rfl 31 _ (0, 0) _ ES.out Tryz.underlying31 rfl infoFault) ?_
        simp only [Act.put, List.getElem_toArray, List.getElem_cons_zero, List.getElem_cons_succ, List.setIfInBounds_toArray, List.set_cons_zero, List.set_cons_succ]
        refine any1 (i := 3) (by kernel_rfl) ?_
        refine wpOp_val (w' := (D.setRow (w.heap.size + 1) (stCells (X.set 0 0) pc))) (v := .int .i64 0) rfl rfl (by kernel_rfl) ?_
        simp only [Act.put, List.getElem_toArray, List.getElem_cons_zero, List.getElem_cons_succ, List.setIfInBounds_toArray, List.set_cons_zero, List.set_cons_succ]
        refine any1 (i := 4) (by kernel_rfl) ?_
        refine wpOp_store_row rfl rfl 31 (.tmp 6) (.tmp 33) rfl (w.heap.size + 1 + 1) #[.int .i64 c, .int .u64 f, .string ⟨#[]⟩] rfl rfl 31 _ EF.out infoFault rfl (faultRow_one ..) ?_
        simp only [Act.put, List.getElem_toArray, List.getElem_cons_zero, List.getElem_cons_succ, List.setIfInBounds_toArray, List.set_cons_zero, List.set_cons_succ]
        refine ⟨by kernel_rfl, ?_⟩
        go_wp2_with fail
        refine bodyPost_ret (results_ctc rfl _ _ (w.heap.size + 1) (w.heap.size + 1 + 1) 36 31 (stCells (X.set 0 0) pc) #[.int .i64 c, .int .u64 f, .string ⟨#[]⟩] (0, 0) (0, 0) _ _ rfl rfl G1.out (setRow_heap _ _ _ _ _ _ EF.out) Tryz.underlying36 rfl (infoState HX.out pc) Tryz.underlying31 rfl infoFault) rfl ?_
        exact ⟨rfl, step_stored HS.out rfl rfl DSP.out DK.out _ _⟩
      · refine wpOp_val (w' := (D.setRow (w.heap.size + 1) (stCells (X.set 0 0) pc))) (v := .int .i64 0) rfl rfl (by kernel_rfl) ?_
        simp only [Act.put, List.getElem_toArray, List.getElem_cons_zero, List.getElem_cons_succ, List.setIfInBounds_toArray, List.set_cons_zero, List.set_cons_succ]
        refine any1 (i := 1) (by kernel_rfl) ?_
        refine wpOp_val (w' := (D.setRow (w.heap.size + 1) (stCells (X.set 0 0) pc))) (v := .agg #[.int .i64 c, .int .u64 f, .string ⟨#[]⟩]) rfl rfl (exec_load_row 31 (.tmp 8) rfl (G8) rfl 31 _ (0, 0) _ ES.out Tryz.underlying31 rfl infoFault) ?_
        simp only [Act.put, List.getElem_toArray, List.getElem_cons_zero, List.getElem_cons_succ, List.setIfInBounds_toArray, List.set_cons_zero, List.set_cons_succ]
        refine any1 (i := 4) (by kernel_rfl) ?_
        refine wpOp_store_row rfl rfl 31 (.tmp 6) (.tmp 33) rfl (w.heap.size + 1 + 1) #[.int .i64 c, .int .u64 f, .string ⟨#[]⟩] rfl rfl 31 _ EF.out infoFault rfl (faultRow_one ..) ?_
        simp only [Act.put, List.getElem_toArray, List.getElem_cons_zero, List.getElem_cons_succ, List.setIfInBounds_toArray, List.set_cons_zero, List.set_cons_succ]
        refine ⟨by kernel_rfl, ?_⟩
        go_wp2_with fail
        refine bodyPost_ret (results_ctc rfl _ _ (w.heap.size + 1) (w.heap.size + 1 + 1) 36 31 (stCells (X.set 0 0) pc) #[.int .i64 c, .int .u64 f, .string ⟨#[]⟩] (0, 0) (0, 0) _ _ rfl rfl G1.out (setRow_heap _ _ _ _ _ _ EF.out) Tryz.underlying36 rfl (infoState HX.out pc) Tryz.underlying31 rfl infoFault) rfl ?_
        exact ⟨rfl, step_stored HS.out rfl rfl DSP.out DK.out _ _⟩
  · refine wpOp_val (w' := D) (v := .agg #[.int .i64 c, .int .u64 f, .string ⟨#[]⟩]) rfl rfl (exec_load_row 31 (.tmp 8) rfl (G8) rfl 31 _ (0, 0) _ DS.out Tryz.underlying31 rfl infoFault) ?_
    simp only [Act.put, List.getElem_toArray, List.getElem_cons_zero, List.getElem_cons_succ, List.setIfInBounds_toArray, List.set_cons_zero, List.set_cons_succ]
    refine any1 (i := 0) (by kernel_rfl) ?_
    refine wpOp_val (w' := D) (v := .agg (stCells (X.set 0 0) pc)) rfl rfl (exec_load_row 36 (.tmp 3) rfl (w.heap.size) rfl 36 _ (0, 0) _ DP.out Tryz.underlying36 rfl (infoState HX.out pc)) ?_
    simp only [Act.put, List.getElem_toArray, List.getElem_cons_zero, List.getElem_cons_succ, List.setIfInBounds_toArray, List.set_cons_zero, List.set_cons_succ]
    refine any1 (i := 2) (by kernel_rfl) ?_
    refine wpOp_store_row rfl rfl 36 (.tmp 4) (.tmp 32) rfl (w.heap.size + 1) (stCells (X.set 0 0) pc) rfl rfl 36 zc DZ.out (infoState HX.out pc) (Hz1.out.trans (stCells_size HX.out _).symm) (stCells_one _ _) ?_
    simp only [Act.put, List.getElem_toArray, List.getElem_cons_zero, List.getElem_cons_succ, List.setIfInBounds_toArray, List.set_cons_zero, List.set_cons_succ]
    refine any1 (i := 3) (by kernel_rfl) ?_
    refine wpOp_val (w' := (D.setRow (w.heap.size + 1) (stCells (X.set 0 0) pc))) (v := .int .i64 0) rfl rfl (by kernel_rfl) ?_
    simp only [Act.put, List.getElem_toArray, List.getElem_cons_zero, List.getElem_cons_succ, List.setIfInBounds_toArray, List.set_cons_zero, List.set_cons_succ]
    refine any1 (i := 4) (by kernel_rfl) ?_
    refine wpOp_store_row rfl rfl 31 (.tmp 6) (.tmp 33) rfl (w.heap.size + 1 + 1) #[.int .i64 c, .int .u64 f, .string ⟨#[]⟩] rfl rfl 31 _ EF.out infoFault rfl (faultRow_one ..) ?_
    simp only [Act.put, List.getElem_toArray, List.getElem_cons_zero, List.getElem_cons_succ, List.setIfInBounds_toArray, List.set_cons_zero, List.set_cons_succ]
    refine ⟨by kernel_rfl, ?_⟩
    go_wp2_with fail
    refine bodyPost_ret (results_ctc rfl _ _ (w.heap.size + 1) (w.heap.size + 1 + 1) 36 31 (stCells (X.set 0 0) pc) #[.int .i64 c, .int .u64 f, .string ⟨#[]⟩] (0, 0) (0, 0) _ _ rfl rfl G1.out (setRow_heap _ _ _ _ _ _ EF.out) Tryz.underlying36 rfl (infoState HX.out pc) Tryz.underlying31 rfl infoFault) rfl ?_
    exact ⟨rfl, step_stored HS.out rfl rfl DSP.out DK.out _ _⟩
end
end Go.Proofs.YtiemingpbommeaaGreatDoor

/- The processor: one step, where the word is no instruction. -/
namespace Go.Proofs.YtiemingpbommeaaGreatDoor
open Go Go.RowKit
noncomputable section
set_option linter.unusedVariables false
set_option linter.unusedSimpArgs false
theorem fetchN_lt (M : List Pg) (x : Nat) : (fetchN M x).1 < 4294967296 := by
  unfold fetchN
  split
  · split
    · exact getL_lt32 _ (by simp [bytesN])
    · exact Nat.zero_lt_succ _
  · exact Nat.zero_lt_succ _
theorem decode_of (v : Nat) (o d a b n : Int) (ok : Bool) (h : decN v = ((o, d, a, b, n), ok)) (w : World) (hv : v < 4294967296) :
    Calls Tryz.prog 32 #[.int .u32 v] w fun e w' => e = .returned (.tuple #[.agg #[.int .i64 o, .int .i64 d, .int .i64 a, .int .i64 b, .int .i64 n], .bool ok]) ∧ Below w.heap.size w w' := by
  have h1 := decode_any v w hv
  rw [h] at h1
  exact h1
set_option maxHeartbeats 4000000 in
set_option maxRecDepth 100000 in
theorem step_nocode (sp m : Nat) (sl : Value) (q : Int) (ps : List (Pg × Nat)) (X : List Nat) (pc : Nat) (w : World) (hS : SpaceIs w sp m sl q ps) (hX : Regs X) (hpc : pc < 1099511627776)
    (v f : Nat) (hf : fetchN (pgs ps) pc = (v, 0, f)) (o d a b n : Int) (ok : Bool) (hdec : decN v = ((o, d, a, b, n), ok)) (hok : ok = false) :
    Calls Tryz.prog 13 #[.pointer (some ⟨sp, 0, none⟩), .agg (stCells X pc)] w (StepPost sp m sl q ps (pgs ps) (X.set 0 0) pc 0 14 pc w) := by
  have Hok := hid hok
  clear hok
  have Hf := hid hf
  have Hd := hid hdec
  have Hv : Hid (v < 4294967296) := hid (by have := fetchN_lt (pgs ps) pc; rw [hf] at this; exact this)
  obtain ⟨c, hc⟩ : ∃ c : Nat, c = 0 := ⟨_, rfl⟩
  rw [← hc] at Hf
  have Hc := hid hc
  clear hf hdec hc
  have hpi : ¬ (1099511627776 : Int) ≤ pc := by omega
  have hp64 : Hid (pc < 18446744073709551616) := hid (by omega)
  clear hpc
  have HX := hid (hX.set 0 0 (by decide))
  have HX0 := hid hX
  have HS := hid hS
  clear hX hS
  obtain ⟨st, hst⟩ : ∃ st, stCells X pc = st := ⟨_, rfl⟩
  have Hst := hid hst
  rw [hst]
  clear hst
  go_enter Tryz.func13, Tryz.ntmps13
  go_upto_region 0 with (fail)
  go_cut [3, 4, 5, 6] (fun v3 v4 v5 v6 wc => v3 = .pointer (some ⟨w.heap.size, 0, none⟩) ∧ v4 = .pointer (some ⟨w.heap.size + 1, 0, none⟩) ∧ v5 = .int .i64 0 ∧ v6 = .pointer (some ⟨w.heap.size + 1 + 1, 0, none⟩) ∧ Begun sp m sl q ps X pc w wc)
  case first =>
    go_wp2_with fail
    go_meet
    case rel =>
      have hb := ((((Below.refl w.heap.size w).alloc (Nat.le_refl _) (.cells st 36)).alloc (by simp) (.cells #[.int .u64 0, .int .u64 0, .int .u64 0, .int .u64 0, .int .u64 0, .int .u64 0, .int .u64 0, .int .u64 0, .int .u64 0, .int .u64 0, .int .u64 0, .int .u64 0, .int .u64 0, .int .u64 0, .int .u64 0, .int .u64 0, .int .u64 0, .int .u64 0, .int .u64 0, .int .u64 0, .int .u64 0, .int .u64 0, .int .u64 0, .int .u64 0, .int .u64 0, .int .u64 0, .int .u64 0, .int .u64 0, .int .u64 0, .int .u64 0, .int .u64 0, .int .u64 0, .int .u64 0] 36)).alloc (by simp; omega) (.cells #[.int .i64 0, .int .u64 0, .string ⟨#[]⟩] 31))
      refine ⟨rfl, rfl, rfl, rfl, ⟨?_, ⟨#[.int .u64 0, .int .u64 0, .int .u64 0, .int .u64 0, .int .u64 0, .int .u64 0, .int .u64 0, .int .u64 0, .int .u64 0, .int .u64 0, .int .u64 0, .int .u64 0, .int .u64 0, .int .u64 0, .int .u64 0, .int .u64 0, .int .u64 0, .int .u64 0, .int .u64 0, .int .u64 0, .int .u64 0, .int .u64 0, .int .u64 0, .int .u64 0, .int .u64 0, .int .u64 0, .int .u64 0, .int .u64 0, .int .u64 0, .int .u64 0, .int .u64 0, .int .u64 0, .int .u64 0], rfl, ?_⟩, ?_, HS.out.below hb, hb⟩⟩
      · unfold StIs
        rw [Hst.out, Below.heap_alloc _ _ _ (by simp; omega), Below.heap_alloc _ _ _ (by simp)]
        exact heap_alloc_new _ _
      · rw [Below.heap_alloc _ _ _ (by simp)]
        have := heap_alloc_new (w.alloc (.cells st 36)) (.cells #[.int .u64 0, .int .u64 0, .int .u64 0, .int .u64 0, .int .u64 0, .int .u64 0, .int .u64 0, .int .u64 0, .int .u64 0, .int .u64 0, .int .u64 0, .int .u64 0, .int .u64 0, .int .u64 0, .int .u64 0, .int .u64 0, .int .u64 0, .int .u64 0, .int .u64 0, .int .u64 0, .int .u64 0, .int .u64 0, .int .u64 0, .int .u64 0, .int .u64 0, .int .u64 0, .int .u64 0, .int .u64 0, .int .u64 0, .int .u64 0, .int .u64 0, .int .u64 0, .int .u64 0] 36)
        simpa using this
      · have := heap_alloc_new ((w.alloc (.cells st 36)).alloc (.cells #[.int .u64 0, .int .u64 0, .int .u64 0, .int .u64 0, .int .u64 0, .int .u64 0, .int .u64 0, .int .u64 0, .int .u64 0, .int .u64 0, .int .u64 0, .int .u64 0, .int .u64 0, .int .u64 0, .int .u64 0, .int .u64 0, .int .u64 0, .int .u64 0, .int .u64 0, .int .u64 0, .int .u64 0, .int .u64 0, .int .u64 0, .int .u64 0, .int .u64 0, .int .u64 0, .int .u64 0, .int .u64 0, .int .u64 0, .int .u64 0, .int .u64 0, .int .u64 0, .int .u64 0] 36)) (.cells #[.int .i64 0, .int .u64 0, .string ⟨#[]⟩] 31)
        simpa using this
  obtain ⟨rfl, rfl, rfl, rfl, hbg⟩ := hcut
  have Hbg := hid hbg
  clear hbg
  have c0 := Hbg.out.st.cell HX0.out (show 0 < 32 by decide)
  have fz := frozen_of_row wc _ 0 _ _ Hbg.out.st
  go_upto_region 1 with (fail)
  go_cut [15, 16] (fun v15 v16 W => Begun sp m sl q ps (X.set 0 0) pc w W)
  case first =>
    go_wp2_with fail
    go_meet
    case rel => exact Hbg.out.set0 HX0.out
  have HB := hid hcut
  clear hcut
  have cp := HB.out.st.cellPc HX.out
  go_wp2_with fail
  refine (fetch_at sp m sl q ps pc v c f Hf.out _ hp64.out HB.out.sp).mono ?_
  rintro e w1 ⟨rfl, hb1⟩
  have HB1 := hid (HB.out.below hb1)
  clear cp c0 fz hb1 HB Hbg hpi
  go_wp2_with fail
  refine (faultOK_any _ _ _ _).mono ?_
  rintro e V ⟨rfl, hb8⟩
  have S8 : Hid (V.heap[w1.heap.size]? = some (.cells #[.int .i64 c, .int .u64 f, .string ⟨#[]⟩] 31 (0, 0))) := hid ((hb8.block _ (by simp)).trans (heap_alloc_new _ _))
  have HB := hid ((HB1.out.below (((Below.refl _ _).alloc (Nat.le_refl _) _) : Below w1.heap.size w1 (w1.alloc (.cells #[.int .i64 c, .int .u64 f, .string ⟨#[]⟩] 31)))).below hb8)
  have hG8 : w.heap.size + 1 + 1 < w1.heap.size := blk_lt' HB1.out.zf
  clear hb8 HB1
  generalize w1.heap.size = G8 at S8 hG8 ⊢
  obtain ⟨zc, hz1, hz2⟩ := HB.out.zs
  have Hz1 := hid hz1
  have Z29 := hz2
  have Z35 := HB.out.zf
  have ZP := HB.out.st
  have ZS := S8.out
  have HZ29 := hid Z29
  clear hz1 hz2 Z29 Z35 ZP ZS
  have hc1 : ((c : Int) == 0) = true := by rw [Hc.out]; rfl
  rw [hc1]
  clear hc1 S8 hG8
  go_wp2_with fail
  refine (decode_of v o d a b n ok Hd.out _ Hv.out).mono ?_
  rintro e w2 ⟨rfl, hb2⟩
  have HB2 := hid (HB.out.below hb2)
  clear HB Hz1 HZ29 hb2
  obtain ⟨V, hV⟩ : ∃ V, w2.alloc (.cells #[.int .i64 o, .int .i64 d, .int .i64 a, .int .i64 b, .int .i64 n] 44) = V := ⟨_, rfl⟩
  have S9 : Hid (V.heap[w2.heap.size]? = some (.cells #[.int .i64 o, .int .i64 d, .int .i64 a, .int .i64 b, .int .i64 n] 44 (0, 0))) := hid (by rw [← hV]; exact heap_alloc_new _ _)
  have HB := hid (HB2.out.below (W' := V) (by rw [← hV]; exact (Below.refl _ _).alloc (Nat.le_refl _) _))
  have hG9 : w.heap.size + 1 + 1 < w2.heap.size := blk_lt' HB2.out.zf
  have HV := hid hV
  clear hV HB2
  rw [Hok.out]
  go_wp2_with fail
  rw [HV.out]
  clear HV
  have hcp := HB.out.st.cellPc HX.out
  have lg := HB.out.st.lt
  refine wp_region_quiet_tail 4 (fun w' => ∃ u, w' = aft V u) (by kernel_rfl) (by kernel_rfl) (aft_drew _) ?_
  simp only [List.take_succ_cons, List.take_zero, List.drop_succ_cons, List.drop_zero]
  refine quiet_val (.agg (stCells (X.set 0 0) pc)) rfl (fun w' hC => ?_) ?_
  · obtain ⟨u, rfl⟩ := hC
    exact exec_load_row 36 (.tmp 3) rfl w.heap.size rfl 36 _ (0, 0) _ ((aft_heap lg).trans HB.out.st) Tryz.underlying36 rfl (infoState HX.out pc)
  simp only [Act.put, List.setIfInBounds_toArray, List.set_cons_zero, List.set_cons_succ]
  repeat (go_big_quiet_step ((go_at_call 33; exact aft_call (failAt_any 14 pc _))))
  refine wpQuiet_nil ?_
  rintro W3 ⟨u, rfl⟩
  obtain ⟨W3, hW3⟩ : ∃ W3, aft V u = W3 := ⟨_, rfl⟩
  have HB3 := hid (HB.out.below (W' := W3) (by rw [← hW3]; exact aft_below V u))
  rw [hW3]
  clear hW3 HB hcp lg
  obtain ⟨zc, hz1, hz2⟩ := HB3.out.zs
  have Hz1 := hid hz1
  have Hz2 := hid hz2
  clear hz1 hz2
  have Z1 := hid (setRow_heap _ _ _ (stCells (X.set 0 0) pc) _ _ Hz2.out)
  have Z2 := hid ((setRow_other W3 (w.heap.size + 1) (w.heap.size + 1 + 1) (stCells (X.set 0 0) pc) (by omega)).trans HB3.out.zf)
  refine wpList_store_row rfl 36 (.tmp 4) (.tmp 41) rfl (w.heap.size + 1) (stCells (X.set 0 0) pc) rfl rfl 36 zc Hz2.out (infoState HX.out pc) (Hz1.out.trans (stCells_size HX.out pc).symm) (stCells_one _ _) ?_
  go_wp2_with (refine wpList_store_row rfl 31 (.tmp 6) (.tmp 44) rfl (w.heap.size + 1 + 1) #[.int .i64 ((14 : Nat) : Int), .int .u64 pc, .string ⟨#[]⟩] rfl rfl 31 _ Z2.out infoFault rfl (faultRow_one ..) ?_)
  have W1 : ((W3.setRow (w.heap.size + 1) (stCells (X.set 0 0) pc)).setRow (w.heap.size + 1 + 1) #[.int .i64 ((14 : Nat) : Int), .int .u64 pc, .string ⟨#[]⟩]).heap[w.heap.size + 1]? = some (.cells (stCells (X.set 0 0) pc) 36 (0, 0)) := (setRow_other _ _ _ _ (by omega)).trans Z1.out
  refine bodyPost_ret (results_ctc rfl _ _ (w.heap.size + 1) (w.heap.size + 1 + 1) 36 31 (stCells (X.set 0 0) pc) #[.int .i64 ((14 : Nat) : Int), .int .u64 pc, .string ⟨#[]⟩] (0, 0) (0, 0) _ _ rfl rfl W1 (setRow_heap _ _ _ _ _ _ Z2.out) Tryz.underlying36 rfl (infoState HX.out pc) Tryz.underlying31 rfl infoFault) rfl ?_
  exact ⟨rfl, step_stored HS.out rfl rfl HB3.out.sp (Keep.of_below HB3.out.b) _ _⟩
end
end Go.Proofs.YtiemingpbommeaaGreatDoor
