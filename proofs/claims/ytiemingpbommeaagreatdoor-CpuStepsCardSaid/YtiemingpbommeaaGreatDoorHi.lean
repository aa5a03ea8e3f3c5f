/- Three words in a slice, sorted by the library. -/
import Derived.Test.YtiemingpbommeaaGreatDoorHr
import Derived.Test.YtiemingpbommeaaGreatDoorHf
import Derived.Test.YtiemingpbommeaaGreatDoorGv
import Derived.BigRegion
namespace Go.Proofs.YtiemingpbommeaaGreatDoor
open Go Go.RowKit
noncomputable section
set_option linter.unusedVariables false
set_option linter.unusedSimpArgs false
@[local go_sem] theorem wrap_0 : IntKind.i64.wrap 0 = 0 := by decide
@[local go_sem] theorem wrap_1 : IntKind.i64.wrap 1 = 1 := by decide
/-- three words in a block, and what lies behind -/
def Row3 (w : World) (g : Nat) (x0 x1 x2 : Int) (r : List Value) : Prop := w.heap[g]? = some (.cells ((.int .u64 x0) :: (.int .u64 x1) :: (.int .u64 x2) :: r).toArray 23 (0, 0))
theorem Row3.cells {w : World} {g : Nat} {x0 x1 x2 : Int} {r : List Value} (h : Row3 w g x0 x1 x2 r) :
    w.cell? ⟨g, 0, none⟩ = some (.int .u64 x0) ∧ w.cell? ⟨g, 1, none⟩ = some (.int .u64 x1) ∧ w.cell? ⟨g, 2, none⟩ = some (.int .u64 x2) ∧
    w.frozen? ⟨g, 0, none⟩ = false ∧ w.frozen? ⟨g, 1, none⟩ = false ∧ w.frozen? ⟨g, 2, none⟩ = false := by
  unfold Row3 at h
  refine ⟨?_, ?_, ?_, frozen_of_row _ _ _ _ _ h, frozen_of_row _ _ _ _ _ h, frozen_of_row _ _ _ _ _ h⟩ <;> rw [cell_of_row _ _ _ _ _ _ h] <;> rfl
section
variable {P : Program} {c : Code} {Q : Exit → Act → World → Prop} {n : Nat} {a : Act} {w0 w : World} {g k : Nat} {x0 x1 x2 : Int} {r : List Value}
theorem Row3.drew (h : Row3 w g x0 x1 x2 r) : Row3 (w.drewN k) g x0 x1 x2 r := h
end
end
end Go.Proofs.YtiemingpbommeaaGreatDoor

/- A space of three pages: Pages, one by one, by rising addresses. -/
namespace Go.Proofs.YtiemingpbommeaaGreatDoor
open Go Go.RowKit Go.Shelf
noncomputable section
set_option linter.unusedVariables false
set_option linter.unusedSimpArgs false
attribute [local go_sem] Oper.semAt_some
/-- the three addresses -/
def a3 (j : Nat) : Int := [65536, 65792, 66048].getD j 0
end
end Go.Proofs.YtiemingpbommeaaGreatDoor
