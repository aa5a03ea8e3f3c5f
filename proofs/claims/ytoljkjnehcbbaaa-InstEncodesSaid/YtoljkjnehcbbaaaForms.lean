/- 'forms' and 'formsAll' of package inst: the table. -/
import Derived.Test.YtoljkjnehcbbaaaTable
namespace Go.Proofs.Ytoljkjnehcbbaaa
open Go.RowKit
noncomputable section

set_option maxHeartbeats 1000000 in
set_option maxRecDepth 100000 in
theorem forms_any (w : World) :
    Calls Try.prog 22 #[] w fun e w' => e = .returned (.agg formCells) ∧ Below w.heap.size w w' := by
  refine calls_of_wp Try.func22 rfl ?_
  refine wp_seq ?_
  refine wp_region_lit ?_
  refine wpList_take 1 { tmps := (Array.replicate 66 undef).setIfInBounds 0 (.pointer (some ⟨w.heap.size, 0, none⟩)), defers := [] } (w.alloc (.cells formZero 58)) (by kernel_rfl) ?_
  refine wpList_nil ?_
  refine wp_seq ?_
  refine wp_region_lit ?_
  refine wpList_take 65 { tmps := ((Value.pointer (some ⟨w.heap.size, 0, none⟩) :: table.map (fun x => Value.agg (rowCells x).toArray)) ++ [Value.agg formCells]).toArray, defers := [] } (w.alloc (.cells formZero 58)) (by kernel_rfl) ?_
  refine wpList_store_row rfl _ _ _ rfl w.heap.size formCells (by kernel_rfl) (by kernel_rfl) 58 formZero (heap_alloc_new _ _) info58 formZero_size formCells_one ?_
  refine wpList_nil ?_
  refine wp_ret ?_
  refine bodyPost_ret (results_cell_row rfl _ _ w.heap.size 58 formCells (0, 0) _ (by kernel_rfl) (setRow_heap _ _ _ _ _ _ (heap_alloc_new _ _)) Try.underlying58 rfl info58) rfl ?_
  exact ⟨rfl, below_setRow ((Below.refl _ _).alloc (Nat.le_refl _) _) (Nat.le_refl _) _⟩

set_option maxHeartbeats 1000000 in
set_option maxRecDepth 100000 in
theorem formsAll_any (w : World) :
    Calls Try.prog 19 #[] w fun e w' => ∃ g, e = .returned (.slice (some ⟨g, 0, none⟩) 64 64) ∧ w'.heap[g]? = some (.cells formCells 58 (0, 0)) ∧ w.heap.size ≤ g ∧ Below w.heap.size w w' := by
  have hz := formZero_run
  go_enter Try.func19, Try.ntmps19
  go_wp2_with (first
    | (go_at_call 22; refine (forms_any _).mono ?_; rintro e w1 ⟨rfl, hb⟩)
    | (refine wpList_store_row rfl 58 (.tmp 1) (.tmp 2) rfl w1.heap.size formCells rfl rfl 58 formZero (heap_alloc_new _ _) info58 formZero_size formCells_one ?_))
  go_ret
  have hs := hb.size
  exact ⟨_, rfl, setRow_heap _ _ _ _ _ _ (heap_alloc_new _ _), hs, below_setRow (hb.alloc hs _) hs _⟩
end
end Go.Proofs.Ytoljkjnehcbbaaa
