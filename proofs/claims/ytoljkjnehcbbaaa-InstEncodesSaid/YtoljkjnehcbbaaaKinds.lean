/- The document's table of kinds: what 'Kinds' of the reference returns. -/
import Derived.Test.YtoljkjnehcbbaaaSpeaks
namespace Go.Proofs.Ytoljkjnehcbbaaa
open Go.RowKit
noncomputable section
set_option linter.unusedVariables false
set_option linter.unusedSimpArgs false

/-- a letter as a byte -/
def letterB (l : Int) : UInt8 := UInt8.ofNat l.toNat
/-- the cells of one kind -/
def kindRow (x : List UInt8 × Int × Int × Int × Int) : List Value := [.string ⟨x.1.toArray⟩, .string ⟨#[letterB x.2.1]⟩, .int .u32 x.2.2.1, .int .u32 x.2.2.2.1, .int .u32 x.2.2.2.2]
def kindCells : Array Value := (table.flatMap kindRow).toArray

theorem kindCells_get (i j : Nat) (hi : i < 64) (hj : j < 5) : kindCells[5 * i + j]? = (kindRow (formAt i))[j]? := by
  unfold kindCells formAt
  rw [List.getElem?_toArray]
  exact flat_get kindRow 5 (fun _ => rfl) _ table i j (by rw [table_length]; exact hi) hj

set_option maxHeartbeats 1000000 in
set_option maxRecDepth 100000 in
theorem kinds_any (w : World) :
    Calls Try.prog 15 #[] w fun e w' => ∃ g, e = .returned (.slice (some ⟨g, 0, none⟩) 64 64) ∧ w'.heap[g]? = some (.cells kindCells 49 (0, 0)) ∧ w.heap.size ≤ g ∧ Below w.heap.size w w' := by
  refine calls_of_wp Try.func15 rfl ?_
  refine wp_seq ?_
  refine wp_region_lit ?_
  refine wpList_take 1 { tmps := (Array.replicate 66 undef).setIfInBounds 0 (.slice none 0 0), defers := [] } w (by kernel_rfl) ?_
  refine wpList_nil ?_
  refine wp_seq ?_
  refine wp_region_lit ?_
  refine wpList_take 66 { tmps := ((Value.slice (some ⟨w.heap.size, 0, none⟩) 64 64 :: table.map (fun x => Value.agg (kindRow x).toArray)) ++ [Value.slice (some ⟨w.heap.size, 0, none⟩) 64 64]).toArray, defers := [] } (w.alloc (.cells kindCells 49)) (by kernel_rfl) ?_
  refine wpList_nil ?_
  refine wp_ret ?_
  refine bodyPost_ret (results_tmp rfl _ _ _) rfl ?_
  exact ⟨w.heap.size, by rfl, heap_alloc_new _ _, Nat.le_refl _, (Below.refl _ _).alloc (Nat.le_refl _) _⟩
end
end Go.Proofs.Ytoljkjnehcbbaaa
