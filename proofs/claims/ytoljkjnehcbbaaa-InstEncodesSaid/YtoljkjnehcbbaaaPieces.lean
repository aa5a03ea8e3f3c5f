/- The pieces of a form's number; the number of a word and the bits of a number in a word. -/
import Derived.Test.YtoljkjnehcbbaaaIndex
namespace Go.Proofs.Ytoljkjnehcbbaaa
open Go.RowKit
noncomputable section
set_option linter.unusedVariables false
set_option linter.unusedSimpArgs false

/-- the pieces of a form's number: from, n, to; and its highest bit -/
def piecesOf (l : Int) : List (Nat × Nat × Nat) × Nat :=
  if l = 85 then ([(12, 20, 12)], 32)
  else if l = 74 then ([(31, 1, 20), (12, 8, 12), (20, 1, 11), (21, 10, 1)], 21)
  else if l = 73 then ([(20, 12, 0)], 12)
  else if l = 66 then ([(31, 1, 12), (7, 1, 11), (25, 6, 5), (8, 4, 1)], 13)
  else if l = 83 then ([(25, 7, 5), (7, 5, 0)], 12)
  else if l = 72 then ([(20, 6, 0)], 0)
  else if l = 75 then ([(20, 5, 0)], 0)
  else ([], 0)

def pieceRow (p : Nat × Nat × Nat) : List Value := [.int .i64 p.1, .int .i64 p.2.1, .int .i64 p.2.2]
def pieceCells (ps : List (Nat × Nat × Nat)) : Array Value := (ps.flatMap pieceRow).toArray

/-- what pieces ends in -/
def PiecesPost (l : Int) (w : World) (e : Ending) (w' : World) : Prop :=
  Below w.heap.size w w' ∧ ∃ A : Option Addr, e = .returned (.tuple #[.slice A (piecesOf l).1.length (piecesOf l).1.length, .int .i64 (piecesOf l).2]) ∧
    (((piecesOf l).1.length = 0 ∧ A = none) ∨ ∃ g, A = some ⟨g, 0, none⟩ ∧ w'.heap[g]? = some (.cells (pieceCells (piecesOf l).1) 74 (0, 0)))

set_option maxHeartbeats 2000000 in
set_option maxRecDepth 100000 in
theorem pieces_any (l : Int) (w : World) :
    Calls Try.prog 34 #[.int .u8 l] w (PiecesPost l w) := by
  by_cases hl : l = 85 ∨ l = 74 ∨ l = 73 ∨ l = 66 ∨ l = 83 ∨ l = 72 ∨ l = 75
  · rcases hl with rfl | rfl | rfl | rfl | rfl | rfl | rfl
    all_goals
      go_enter Try.func34, Try.ntmps34
      go_wp2
      go_ret2
      exact ⟨(Below.refl _ _).alloc (Nat.le_refl _) _, _, rfl, .inr ⟨_, rfl, heap_alloc_new _ _⟩⟩
  · have hp : piecesOf l = ([], 0) := by unfold piecesOf; simp only [not_or] at hl; simp [hl]
    simp only [not_or] at hl
    obtain ⟨h1, h2, h3, h4, h5, h6, h7⟩ := hl
    have b1 : (l == 85) = false := beq_eq_false_iff_ne.mpr h1
    have b2 : (l == 74) = false := beq_eq_false_iff_ne.mpr h2
    have b3 : (l == 73) = false := beq_eq_false_iff_ne.mpr h3
    have b4 : (l == 66) = false := beq_eq_false_iff_ne.mpr h4
    have b5 : (l == 83) = false := beq_eq_false_iff_ne.mpr h5
    have b6 : (l == 72) = false := beq_eq_false_iff_ne.mpr h6
    have b7 : (l == 75) = false := beq_eq_false_iff_ne.mpr h7
    have Hp := hid hp
    clear hp h1 h2 h3 h4 h5 h6 h7
    go_enter Try.func34, Try.ntmps34
    go_wp2
    go_ret2
    unfold PiecesPost
    rw [Hp.out]
    exact ⟨Below.refl _ _, none, rfl, .inl ⟨rfl, rfl⟩⟩

end
end Go.Proofs.Ytoljkjnehcbbaaa
