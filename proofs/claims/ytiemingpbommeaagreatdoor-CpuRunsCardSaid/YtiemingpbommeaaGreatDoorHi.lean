/- Three words in a slice, sorted by the library. -/
import Derived.Test.YtiemingpbommeaaGreatDoorHr
import Derived.Test.YtiemingpbommeaaGreatDoorGv
import Derived.BigRegion
namespace Go.Proofs.YtiemingpbommeaaGreatDoor
open Go Go.RowKit
noncomputable section
set_option linter.unusedVariables false
set_option linter.unusedSimpArgs false

set_option maxHeartbeats 1000000 in
set_option maxRecDepth 100000 in
theorem less_any (a b : Int) (w : World) :
    Calls Tryz.prog 167 #[.int .u64 a, .int .u64 b] w fun e w' => e = .returned (.bool (decide (a < b))) ∧ w' = w := by
  go_enter Tryz.func167, Tryz.ntmps167
  go_wp2_with (go_at_call 128; refine (isNaN_any _ _).mono ?_; rintro e w1 ⟨rfl, rfl⟩)
  go_ret
  exact ⟨by simp, rfl⟩

@[local go_sem] theorem wrap_0 : IntKind.i64.wrap 0 = 0 := by decide
@[local go_sem] theorem wrap_1 : IntKind.i64.wrap 1 = 1 := by decide
/-- three words in a block, and what lies behind -/
def Row3 (w : World) (g : Nat) (x0 x1 x2 : Int) (r : List Value) : Prop := w.heap[g]? = some (.cells ((.int .u64 x0) :: (.int .u64 x1) :: (.int .u64 x2) :: r).toArray 23 (0, 0))
theorem Row3.cells {w : World} {g : Nat} {x0 x1 x2 : Int} {r : List Value} (h : Row3 w g x0 x1 x2 r) :
    w.cell? ⟨g, 0, none⟩ = some (.int .u64 x0) ∧ w.cell? ⟨g, 1, none⟩ = some (.int .u64 x1) ∧ w.cell? ⟨g, 2, none⟩ = some (.int .u64 x2) ∧
    w.frozen? ⟨g, 0, none⟩ = false ∧ w.frozen? ⟨g, 1, none⟩ = false ∧ w.frozen? ⟨g, 2, none⟩ = false := by
  unfold Row3 at h
  refine ⟨?_, ?_, ?_, frozen_of_row _ _ _ _ _ h, frozen_of_row _ _ _ _ _ h, frozen_of_row _ _ _ _ _ h⟩ <;> rw [cell_of_row _ _ _ _ _ _ h] <;> rfl
theorem Row3.swap10 {w : World} {g : Nat} {x0 x1 x2 : Int} {r : List Value} (h : Row3 w g x0 x1 x2 r) : Row3 ((w.setCell ⟨g, 1, none⟩ (.int .u64 x0)).setCell ⟨g, 0, none⟩ (.int .u64 x1)) g x1 x0 x2 r := by
  unfold Row3 at *
  rw [heap_setCell_same _ g 0 _ _ _ (heap_setCell_same w g 1 _ _ _ h)]
  simp
theorem Row3.swap21 {w : World} {g : Nat} {x0 x1 x2 : Int} {r : List Value} (h : Row3 w g x0 x1 x2 r) : Row3 ((w.setCell ⟨g, 2, none⟩ (.int .u64 x1)).setCell ⟨g, 1, none⟩ (.int .u64 x2)) g x0 x2 x1 r := by
  unfold Row3 at *
  rw [heap_setCell_same _ g 1 _ _ _ (heap_setCell_same w g 2 _ _ _ h)]
  simp
theorem keep_swap {w : World} {g i j : Nat} (v u : Value) : Keep [g] w ((w.setCell ⟨g, i, none⟩ v).setCell ⟨g, j, none⟩ u) :=
  ((Keep.refl [g] w).setCell _ _ (.inr (by simp))).setCell _ _ (.inr (by simp))
/-- sorted, the rest as it was -/
def Sorted3 (w : World) (g : Nat) (r : List Value) (e : Ending) (w' : World) : Prop := e = .returned (.tuple #[]) ∧ Row3 w' g 65536 65792 66048 r ∧ Keep [g] w w'

section
variable {P : Program} {c : Code} {Q : Exit → Act → World → Prop} {n : Nat} {a : Act} {w0 w : World} {g k : Nat} {x0 x1 x2 : Int} {r : List Value}
theorem Row3.drew (h : Row3 w g x0 x1 x2 r) : Row3 (w.drewN k) g x0 x1 x2 r := h
theorem rounds_same (h : Row3 w g x0 x1 x2 r) (hK : Keep [g] w0 w) (H : ∀ W, Row3 W g x0 x1 x2 r → Keep [g] w0 W → Code.rounds P c Q n a W) : Code.rounds P c Q n a (w.drewN k) := H _ h.drew (hK.drew _)
theorem rounds_10 (h : Row3 w g x0 x1 x2 r) (hK : Keep [g] w0 w) (H : ∀ W, Row3 W g x1 x0 x2 r → Keep [g] w0 W → Code.rounds P c Q n a W) :
    Code.rounds P c Q n a (((w.drewN k).setCell ⟨g, 1, none⟩ (.int .u64 x0)).setCell ⟨g, 0, none⟩ (.int .u64 x1)) := H _ (h.drew (k := k)).swap10 ((hK.drew _).trans (keep_swap _ _))
theorem rounds_21 (h : Row3 w g x0 x1 x2 r) (hK : Keep [g] w0 w) (H : ∀ W, Row3 W g x0 x2 x1 r → Keep [g] w0 W → Code.rounds P c Q n a W) :
    Code.rounds P c Q n a (((w.drewN k).setCell ⟨g, 2, none⟩ (.int .u64 x1)).setCell ⟨g, 1, none⟩ (.int .u64 x2)) := H _ (h.drew (k := k)).swap21 ((hK.drew _).trans (keep_swap _ _))
end

set_option maxHeartbeats 4000000 in
set_option maxRecDepth 100000 in
theorem insert_012 (g cap : Nat) (r : List Value) (w : World) (hg : Row3 w g 65536 65792 66048 r) (hcap : 3 ≤ cap) (hc2 : cap ≤ 9223372036854775807) :
    Calls Tryz.prog 161 #[.slice (some ⟨g, 0, none⟩) 3 cap, .int .i64 0, .int .i64 3] w (Sorted3 w g r) := by
  obtain ⟨c0, c1, c2, f0, f1, f2⟩ := hg.cells
  have G := hid hg
  have K := hid (Keep.refl [g] w)
  clear hg
  go_enter Tryz.func161, Tryz.ntmps161
  go_wp2
  refine wp_loop_rounds 3 ?_
  rw [rounds_succ]
  go_wp2
  refine wp_loop_rounds 4 ?_
  rw [rounds_succ]
  go_wp2
  go_quiet ((go_at_call 167; exact Calls.quiet_of_same (less_any _ _ _)))
  go_wp2
  refine rounds_same G.out K.out ?_
  intro W1 g1 k1
  clear G K c0 c1 c2 f0 f1 f2
  obtain ⟨c0, c1, c2, f0, f1, f2⟩ := g1.cells
  have G := hid g1
  have K := hid k1
  clear g1 k1
  rw [rounds_succ]
  go_wp2
  refine wp_loop_rounds 4 ?_
  rw [rounds_succ]
  go_wp2
  go_quiet ((go_at_call 167; exact Calls.quiet_of_same (less_any _ _ _)))
  go_wp2
  refine rounds_same G.out K.out ?_
  intro W2 g2 k2
  clear G K c0 c1 c2 f0 f1 f2
  obtain ⟨c0, c1, c2, f0, f1, f2⟩ := g2.cells
  have G := hid g2
  have K := hid k2
  clear g2 k2
  rw [rounds_succ]
  go_wp2
  refine bodyPost_ret (results_none rfl _ _ _) rfl ?_
  exact ⟨rfl, G.out, K.out⟩

set_option maxHeartbeats 4000000 in
set_option maxRecDepth 100000 in
theorem insert_021 (g cap : Nat) (r : List Value) (w : World) (hg : Row3 w g 65536 66048 65792 r) (hcap : 3 ≤ cap) (hc2 : cap ≤ 9223372036854775807) :
    Calls Tryz.prog 161 #[.slice (some ⟨g, 0, none⟩) 3 cap, .int .i64 0, .int .i64 3] w (Sorted3 w g r) := by
  obtain ⟨c0, c1, c2, f0, f1, f2⟩ := hg.cells
  have G := hid hg
  have K := hid (Keep.refl [g] w)
  clear hg
  go_enter Tryz.func161, Tryz.ntmps161
  go_wp2
  refine wp_loop_rounds 3 ?_
  rw [rounds_succ]
  go_wp2
  refine wp_loop_rounds 4 ?_
  rw [rounds_succ]
  go_wp2
  go_quiet ((go_at_call 167; exact Calls.quiet_of_same (less_any _ _ _)))
  go_wp2
  refine rounds_same G.out K.out ?_
  intro W1 g1 k1
  clear G K c0 c1 c2 f0 f1 f2
  obtain ⟨c0, c1, c2, f0, f1, f2⟩ := g1.cells
  have G := hid g1
  have K := hid k1
  clear g1 k1
  rw [rounds_succ]
  go_wp2
  refine wp_loop_rounds 4 ?_
  rw [rounds_succ]
  go_wp2
  go_quiet ((go_at_call 167; exact Calls.quiet_of_same (less_any _ _ _)))
  go_wp2
  go_region
  go_wp2
  refine rounds_21 G.out K.out ?_
  intro W2 g2 k2
  clear G K c0 c1 c2 f0 f1 f2
  obtain ⟨c0, c1, c2, f0, f1, f2⟩ := g2.cells
  have G := hid g2
  have K := hid k2
  clear g2 k2
  rw [rounds_succ]
  go_wp2
  go_quiet ((go_at_call 167; exact Calls.quiet_of_same (less_any _ _ _)))
  go_wp2
  refine rounds_same G.out K.out ?_
  intro W3 g3 k3
  clear G K c0 c1 c2 f0 f1 f2
  obtain ⟨c0, c1, c2, f0, f1, f2⟩ := g3.cells
  have G := hid g3
  have K := hid k3
  clear g3 k3
  rw [rounds_succ]
  go_wp2
  refine bodyPost_ret (results_none rfl _ _ _) rfl ?_
  exact ⟨rfl, G.out, K.out⟩

set_option maxHeartbeats 4000000 in
set_option maxRecDepth 100000 in
theorem insert_102 (g cap : Nat) (r : List Value) (w : World) (hg : Row3 w g 65792 65536 66048 r) (hcap : 3 ≤ cap) (hc2 : cap ≤ 9223372036854775807) :
    Calls Tryz.prog 161 #[.slice (some ⟨g, 0, none⟩) 3 cap, .int .i64 0, .int .i64 3] w (Sorted3 w g r) := by
  obtain ⟨c0, c1, c2, f0, f1, f2⟩ := hg.cells
  have G := hid hg
  have K := hid (Keep.refl [g] w)
  clear hg
  go_enter Tryz.func161, Tryz.ntmps161
  go_wp2
  refine wp_loop_rounds 3 ?_
  rw [rounds_succ]
  go_wp2
  refine wp_loop_rounds 4 ?_
  rw [rounds_succ]
  go_wp2
  go_quiet ((go_at_call 167; exact Calls.quiet_of_same (less_any _ _ _)))
  go_wp2
  go_region
  go_wp2
  refine rounds_10 G.out K.out ?_
  intro W1 g1 k1
  clear G K c0 c1 c2 f0 f1 f2
  obtain ⟨c0, c1, c2, f0, f1, f2⟩ := g1.cells
  have G := hid g1
  have K := hid k1
  clear g1 k1
  rw [rounds_succ]
  go_wp2
  go_quiet (fail)
  go_wp2
  refine rounds_same G.out K.out ?_
  intro W2 g2 k2
  clear G K c0 c1 c2 f0 f1 f2
  obtain ⟨c0, c1, c2, f0, f1, f2⟩ := g2.cells
  have G := hid g2
  have K := hid k2
  clear g2 k2
  rw [rounds_succ]
  go_wp2
  refine wp_loop_rounds 4 ?_
  rw [rounds_succ]
  go_wp2
  go_quiet ((go_at_call 167; exact Calls.quiet_of_same (less_any _ _ _)))
  go_wp2
  refine rounds_same G.out K.out ?_
  intro W3 g3 k3
  clear G K c0 c1 c2 f0 f1 f2
  obtain ⟨c0, c1, c2, f0, f1, f2⟩ := g3.cells
  have G := hid g3
  have K := hid k3
  clear g3 k3
  rw [rounds_succ]
  go_wp2
  refine bodyPost_ret (results_none rfl _ _ _) rfl ?_
  exact ⟨rfl, G.out, K.out⟩

set_option maxHeartbeats 4000000 in
set_option maxRecDepth 100000 in
theorem insert_120 (g cap : Nat) (r : List Value) (w : World) (hg : Row3 w g 65792 66048 65536 r) (hcap : 3 ≤ cap) (hc2 : cap ≤ 9223372036854775807) :
    Calls Tryz.prog 161 #[.slice (some ⟨g, 0, none⟩) 3 cap, .int .i64 0, .int .i64 3] w (Sorted3 w g r) := by
  obtain ⟨c0, c1, c2, f0, f1, f2⟩ := hg.cells
  have G := hid hg
  have K := hid (Keep.refl [g] w)
  clear hg
  go_enter Tryz.func161, Tryz.ntmps161
  go_wp2
  refine wp_loop_rounds 3 ?_
  rw [rounds_succ]
  go_wp2
  refine wp_loop_rounds 4 ?_
  rw [rounds_succ]
  go_wp2
  go_quiet ((go_at_call 167; exact Calls.quiet_of_same (less_any _ _ _)))
  go_wp2
  refine rounds_same G.out K.out ?_
  intro W1 g1 k1
  clear G K c0 c1 c2 f0 f1 f2
  obtain ⟨c0, c1, c2, f0, f1, f2⟩ := g1.cells
  have G := hid g1
  have K := hid k1
  clear g1 k1
  rw [rounds_succ]
  go_wp2
  refine wp_loop_rounds 4 ?_
  rw [rounds_succ]
  go_wp2
  go_quiet ((go_at_call 167; exact Calls.quiet_of_same (less_any _ _ _)))
  go_wp2
  go_region
  go_wp2
  refine rounds_21 G.out K.out ?_
  intro W2 g2 k2
  clear G K c0 c1 c2 f0 f1 f2
  obtain ⟨c0, c1, c2, f0, f1, f2⟩ := g2.cells
  have G := hid g2
  have K := hid k2
  clear g2 k2
  rw [rounds_succ]
  go_wp2
  go_quiet ((go_at_call 167; exact Calls.quiet_of_same (less_any _ _ _)))
  go_wp2
  go_region
  go_wp2
  refine rounds_10 G.out K.out ?_
  intro W3 g3 k3
  clear G K c0 c1 c2 f0 f1 f2
  obtain ⟨c0, c1, c2, f0, f1, f2⟩ := g3.cells
  have G := hid g3
  have K := hid k3
  clear g3 k3
  rw [rounds_succ]
  go_wp2
  go_quiet (fail)
  go_wp2
  refine rounds_same G.out K.out ?_
  intro W4 g4 k4
  clear G K c0 c1 c2 f0 f1 f2
  obtain ⟨c0, c1, c2, f0, f1, f2⟩ := g4.cells
  have G := hid g4
  have K := hid k4
  clear g4 k4
  rw [rounds_succ]
  go_wp2
  refine bodyPost_ret (results_none rfl _ _ _) rfl ?_
  exact ⟨rfl, G.out, K.out⟩

set_option maxHeartbeats 4000000 in
set_option maxRecDepth 100000 in
theorem insert_201 (g cap : Nat) (r : List Value) (w : World) (hg : Row3 w g 66048 65536 65792 r) (hcap : 3 ≤ cap) (hc2 : cap ≤ 9223372036854775807) :
    Calls Tryz.prog 161 #[.slice (some ⟨g, 0, none⟩) 3 cap, .int .i64 0, .int .i64 3] w (Sorted3 w g r) := by
  obtain ⟨c0, c1, c2, f0, f1, f2⟩ := hg.cells
  have G := hid hg
  have K := hid (Keep.refl [g] w)
  clear hg
  go_enter Tryz.func161, Tryz.ntmps161
  go_wp2
  refine wp_loop_rounds 3 ?_
  rw [rounds_succ]
  go_wp2
  refine wp_loop_rounds 4 ?_
  rw [rounds_succ]
  go_wp2
  go_quiet ((go_at_call 167; exact Calls.quiet_of_same (less_any _ _ _)))
  go_wp2
  go_region
  go_wp2
  refine rounds_10 G.out K.out ?_
  intro W1 g1 k1
  clear G K c0 c1 c2 f0 f1 f2
  obtain ⟨c0, c1, c2, f0, f1, f2⟩ := g1.cells
  have G := hid g1
  have K := hid k1
  clear g1 k1
  rw [rounds_succ]
  go_wp2
  go_quiet (fail)
  go_wp2
  refine rounds_same G.out K.out ?_
  intro W2 g2 k2
  clear G K c0 c1 c2 f0 f1 f2
  obtain ⟨c0, c1, c2, f0, f1, f2⟩ := g2.cells
  have G := hid g2
  have K := hid k2
  clear g2 k2
  rw [rounds_succ]
  go_wp2
  refine wp_loop_rounds 4 ?_
  rw [rounds_succ]
  go_wp2
  go_quiet ((go_at_call 167; exact Calls.quiet_of_same (less_any _ _ _)))
  go_wp2
  go_region
  go_wp2
  refine rounds_21 G.out K.out ?_
  intro W3 g3 k3
  clear G K c0 c1 c2 f0 f1 f2
  obtain ⟨c0, c1, c2, f0, f1, f2⟩ := g3.cells
  have G := hid g3
  have K := hid k3
  clear g3 k3
  rw [rounds_succ]
  go_wp2
  go_quiet ((go_at_call 167; exact Calls.quiet_of_same (less_any _ _ _)))
  go_wp2
  refine rounds_same G.out K.out ?_
  intro W4 g4 k4
  clear G K c0 c1 c2 f0 f1 f2
  obtain ⟨c0, c1, c2, f0, f1, f2⟩ := g4.cells
  have G := hid g4
  have K := hid k4
  clear g4 k4
  rw [rounds_succ]
  go_wp2
  refine bodyPost_ret (results_none rfl _ _ _) rfl ?_
  exact ⟨rfl, G.out, K.out⟩

set_option maxHeartbeats 4000000 in
set_option maxRecDepth 100000 in
theorem insert_210 (g cap : Nat) (r : List Value) (w : World) (hg : Row3 w g 66048 65792 65536 r) (hcap : 3 ≤ cap) (hc2 : cap ≤ 9223372036854775807) :
    Calls Tryz.prog 161 #[.slice (some ⟨g, 0, none⟩) 3 cap, .int .i64 0, .int .i64 3] w (Sorted3 w g r) := by
  obtain ⟨c0, c1, c2, f0, f1, f2⟩ := hg.cells
  have G := hid hg
  have K := hid (Keep.refl [g] w)
  clear hg
  go_enter Tryz.func161, Tryz.ntmps161
  go_wp2
  refine wp_loop_rounds 3 ?_
  rw [rounds_succ]
  go_wp2
  refine wp_loop_rounds 4 ?_
  rw [rounds_succ]
  go_wp2
  go_quiet ((go_at_call 167; exact Calls.quiet_of_same (less_any _ _ _)))
  go_wp2
  go_region
  go_wp2
  refine rounds_10 G.out K.out ?_
  intro W1 g1 k1
  clear G K c0 c1 c2 f0 f1 f2
  obtain ⟨c0, c1, c2, f0, f1, f2⟩ := g1.cells
  have G := hid g1
  have K := hid k1
  clear g1 k1
  rw [rounds_succ]
  go_wp2
  go_quiet (fail)
  go_wp2
  refine rounds_same G.out K.out ?_
  intro W2 g2 k2
  clear G K c0 c1 c2 f0 f1 f2
  obtain ⟨c0, c1, c2, f0, f1, f2⟩ := g2.cells
  have G := hid g2
  have K := hid k2
  clear g2 k2
  rw [rounds_succ]
  go_wp2
  refine wp_loop_rounds 4 ?_
  rw [rounds_succ]
  go_wp2
  go_quiet ((go_at_call 167; exact Calls.quiet_of_same (less_any _ _ _)))
  go_wp2
  go_region
  go_wp2
  refine rounds_21 G.out K.out ?_
  intro W3 g3 k3
  clear G K c0 c1 c2 f0 f1 f2
  obtain ⟨c0, c1, c2, f0, f1, f2⟩ := g3.cells
  have G := hid g3
  have K := hid k3
  clear g3 k3
  rw [rounds_succ]
  go_wp2
  go_quiet ((go_at_call 167; exact Calls.quiet_of_same (less_any _ _ _)))
  go_wp2
  go_region
  go_wp2
  refine rounds_10 G.out K.out ?_
  intro W4 g4 k4
  clear G K c0 c1 c2 f0 f1 f2
  obtain ⟨c0, c1, c2, f0, f1, f2⟩ := g4.cells
  have G := hid g4
  have K := hid k4
  clear g4 k4
  rw [rounds_succ]
  go_wp2
  go_quiet (fail)
  go_wp2
  refine rounds_same G.out K.out ?_
  intro W5 g5 k5
  clear G K c0 c1 c2 f0 f1 f2
  obtain ⟨c0, c1, c2, f0, f1, f2⟩ := g5.cells
  have G := hid g5
  have K := hid k5
  clear g5 k5
  rw [rounds_succ]
  go_wp2
  refine bodyPost_ret (results_none rfl _ _ _) rfl ?_
  exact ⟨rfl, G.out, K.out⟩
end
end Go.Proofs.YtiemingpbommeaaGreatDoor

/- slices.Sorted over the keys of a space of three pages. -/
namespace Go.Proofs.YtiemingpbommeaaGreatDoor
open Go Go.RowKit
noncomputable section
set_option linter.unusedVariables false
set_option linter.unusedSimpArgs false

theorem perm3 {x0 x1 x2 : Int} (h : [x0, x1, x2].Perm K3) :
    (x0 = 65536 ∧ x1 = 65792 ∧ x2 = 66048) ∨ (x0 = 65536 ∧ x1 = 66048 ∧ x2 = 65792) ∨ (x0 = 65792 ∧ x1 = 65536 ∧ x2 = 66048) ∨
    (x0 = 65792 ∧ x1 = 66048 ∧ x2 = 65536) ∨ (x0 = 66048 ∧ x1 = 65536 ∧ x2 = 65792) ∨ (x0 = 66048 ∧ x1 = 65792 ∧ x2 = 65536) := by
  have hn : [x0, x1, x2].Nodup := h.nodup_iff.2 (by decide)
  have h0 : x0 ∈ K3 := h.mem_iff.1 (by simp)
  have h1 : x1 ∈ K3 := h.mem_iff.1 (by simp)
  have h2 : x2 ∈ K3 := h.mem_iff.1 (by simp)
  simp only [K3, List.mem_cons, List.mem_nil_iff, or_false] at h0 h1 h2
  simp only [List.nodup_cons, List.mem_cons, List.mem_nil_iff, or_false, not_or] at hn
  obtain ⟨⟨a, b⟩, c, _⟩ := hn
  rcases h0 with rfl | rfl | rfl <;> rcases h1 with rfl | rfl | rfl <;> rcases h2 with rfl | rfl | rfl <;> first | (exact absurd rfl a) | (exact absurd rfl b) | (exact absurd rfl c) | decide
theorem insert_any (g cap : Nat) (x0 x1 x2 : Int) (r : List Value) (w : World) (hp : [x0, x1, x2].Perm K3) (hg : Row3 w g x0 x1 x2 r) (hcap : 3 ≤ cap) (hc2 : cap ≤ 9223372036854775807) :
    Calls Tryz.prog 161 #[.slice (some ⟨g, 0, none⟩) 3 cap, .int .i64 0, .int .i64 3] w (Sorted3 w g r) := by
  rcases perm3 hp with ⟨rfl, rfl, rfl⟩ | ⟨rfl, rfl, rfl⟩ | ⟨rfl, rfl, rfl⟩ | ⟨rfl, rfl, rfl⟩ | ⟨rfl, rfl, rfl⟩ | ⟨rfl, rfl, rfl⟩
  · exact insert_012 g cap r w hg hcap hc2
  · exact insert_021 g cap r w hg hcap hc2
  · exact insert_102 g cap r w hg hcap hc2
  · exact insert_120 g cap r w hg hcap hc2
  · exact insert_201 g cap r w hg hcap hc2
  · exact insert_210 g cap r w hg hcap hc2

set_option maxHeartbeats 4000000 in
set_option maxRecDepth 100000 in
theorem pdq3 (g cap : Nat) (x0 x1 x2 : Int) (r : List Value) (lim : Int) (w : World) (hp : [x0, x1, x2].Perm K3) (hg : Row3 w g x0 x1 x2 r) (hcap : 3 ≤ cap) (hc2 : cap ≤ 9223372036854775807) :
    Calls Tryz.prog 143 #[.slice (some ⟨g, 0, none⟩) 3 cap, .int .i64 0, .int .i64 3, .int .i64 lim] w (Sorted3 w g r) := by
  have Hg := hid hg
  have Hp := hid hp
  clear hg hp
  go_enter Tryz.func143, Tryz.ntmps143
  go_wp2_with fail
  refine wp_loop_once ?_
  go_wp2_with fail
  refine (insert_any g cap x0 x1 x2 r w Hp.out Hg.out hcap hc2).mono ?_
  rintro e w1 ⟨rfl, hR, hK⟩
  go_wp2
  refine bodyPost_ret (results_none rfl _ _ _) rfl ?_
  exact ⟨rfl, hR, hK⟩

set_option maxHeartbeats 4000000 in
set_option maxRecDepth 100000 in
theorem sort3 (g cap : Nat) (x0 x1 x2 : Int) (r : List Value) (w : World) (hp : [x0, x1, x2].Perm K3) (hg : Row3 w g x0 x1 x2 r) (hcap : 3 ≤ cap) (hc2 : cap ≤ 9223372036854775807) :
    Calls Tryz.prog 124 #[.slice (some ⟨g, 0, none⟩) 3 cap] w (Sorted3 w g r) := by
  have Hg := hid hg
  have Hp := hid hp
  clear hg hp
  go_enter Tryz.func124, Tryz.ntmps124
  go_wp2_with fail
  refine (len_small 3 (by omega) _).mono ?_
  rintro e w1 ⟨k, rfl, rfl⟩
  go_wp2_with fail
  refine (pdq3 g cap x0 x1 x2 r k _ Hp.out Hg.out hcap hc2).mono ?_
  rintro e w1 ⟨rfl, hR, hK⟩
  go_wp2
  go_end0
  exact ⟨rfl, hR, hK⟩

set_option maxHeartbeats 4000000 in
set_option maxRecDepth 100000 in
theorem collect3 (Bm b : Nat) (w : World) (hBm : Bm < w.heap.size) (hm : w.cell? ⟨Bm, 0, none⟩ = some (.map (some b))) (hown : w.ownsMap Tryz.prog 23 R3 b 3 D3) :
    Calls Tryz.prog 123 #[.func (.func 125) #[] #[.pointer (some ⟨Bm, 0, none⟩)]] w fun e w' =>
      ∃ v ss, e = .returned v ∧ ss.Perm K3 ∧ w'.ownsRow (w.heap.size + 1) 23 1 v ss.length (u64s ss) ∧ Below w.heap.size w w' := by
  have Hown := hid hown
  clear hown
  go_enter Tryz.func123, Tryz.ntmps123
  go_wp2_with fail
  refine (appendSeq_any Bm b w hBm hm Hown.out).mono ?_
  rintro e w1 ⟨v, ss, rfl, h1, h2, h3⟩
  go_wp2
  go_ret
  exact ⟨v, ss, rfl, h1, h2, h3⟩

set_option maxHeartbeats 4000000 in
set_option maxRecDepth 100000 in
/-- the keys, by rising addresses -/
theorem sorted3_any (Bm b : Nat) (w : World) (hBm : Bm < w.heap.size) (hm : w.cell? ⟨Bm, 0, none⟩ = some (.map (some b))) (hown : w.ownsMap Tryz.prog 23 R3 b 3 D3) :
    Calls Tryz.prog 98 #[.func (.func 125) #[] #[.pointer (some ⟨Bm, 0, none⟩)]] w fun e w' =>
      ∃ g cap r, e = .returned (.slice (some ⟨g, 0, none⟩) 3 cap) ∧ w.heap.size ≤ g ∧ Row3 w' g 65536 65792 66048 r ∧ Below w.heap.size w w' := by
  have Hown := hid hown
  clear hown
  go_enter Tryz.func98, Tryz.ntmps98
  go_wp2_with fail
  refine (collect3 Bm b w hBm hm Hown.out).mono ?_
  rintro e w1 ⟨v, ss, rfl, h1, h2, h3⟩
  have hl : ss.length = 3 := h1.length_eq
  obtain ⟨x0, x1, x2, rfl⟩ : ∃ x0 x1 x2, ss = [x0, x1, x2] := by
    rcases ss with _ | ⟨x0, _ | ⟨x1, _ | ⟨x2, _ | ⟨y, l⟩⟩⟩⟩ <;> simp at hl
    exact ⟨_, _, _, rfl⟩
  obtain ⟨g, cap, r, rfl, hg, hR, hcap, hc2⟩ : ∃ g cap r, v = .slice (some ⟨g, 0, none⟩) 3 cap ∧ w.heap.size + 1 ≤ g ∧ Row3 w1 g x0 x1 x2 r ∧ 3 ≤ cap ∧ cap ≤ 9223372036854775807 := by
    rcases h2.2 with ⟨_, h⟩ | ⟨g, cap, cur, e, hB, hgg, h4⟩
    · cases h
    · obtain ⟨c1, c2, c3, c4⟩ := h4
      have c4' : cur.toList.take 3 = [.int .u64 x0, .int .u64 x1, .int .u64 x2] := c4
      refine ⟨g, cap, cur.toList.drop 3, e, hB, ?_, c1, c2⟩
      unfold Row3
      rw [hgg]
      congr 2
      have := List.take_append_drop 3 cur.toList
      rw [c4'] at this
      exact congrArg List.toArray this.symm
  clear h2
  have HR := hid hR
  have H3 := hid h3
  clear hR h3
  go_wp2_with fail
  refine (sort3 g cap x0 x1 x2 r w1 h1 HR.out hcap hc2).mono ?_
  rintro e w2 ⟨rfl, hR2, hK2⟩
  go_wp2
  go_ret
  exact ⟨g, cap, r, rfl, by omega, hR2, ((Keep.of_below (S := [g]) H3.out).trans hK2).below (Nat.le_refl _) (by simp; omega)⟩
end
end Go.Proofs.YtiemingpbommeaaGreatDoor

/- A range over a function that hands back its elements one by one in a known order, and is never left early. -/
namespace Go.Proofs.YtiemingpbommeaaGreatDoor
open Go Go.RowKit
noncomputable section
set_option linter.unusedVariables false
set_option linter.unusedSimpArgs false
variable {F : Fence} {n : Nat} {P : Program}

/-- an iterator that hands back N known things in their order -/
def Gives (F : Fence) (n : Nat) (P : Program) (gf : Nat) (lb : Array Value) (enc : Nat → Array Value) (Kp : World → World → Prop) (N : Nat) (w : World) : Prop :=
  ∀ (l : Nat) (J : Nat → World → Prop) (W : World), Below w.heap.size w W → AbidesFrom W.heap.size J →
    (∀ j W1, j < N → J j W1 → YieldAt F (n - 1) P l (enc j) W1 fun e W' => e = .returned (.bool true) ∧ J (j + 1) W' ∧ Kp W1 W') → J 0 W →
    CallsIn F n P gf (#[.func (.yield l) #[] #[]] ++ lb) W fun e W' => (∃ v, e = .returned v) ∧ J N W'

/-- how a round is left -/
def goesOn (B : Nat) (Kp : World → World → Prop) (I : World → Prop) (W : World) : Exit → Act → World → Prop
  | .normal, _, W' => KeepsFrom B W W' ∧ Kp W W' ∧ I W'
  | _, _, _ => False

theorem range_in_order {g : Operand} {ps : Array Tmp} {assign body : Code} {Q : Exit → Act → World → Prop} {a : Act} {w : World} {gf : Nat} {lb : Array Value} {enc : Nat → Array Value} {Kp : World → World → Prop} {N : Nat} {w0 : World}
    (hro : F.round = none) (h1 : 1 ≤ n) (hg : a.eval g = .func (.func gf) #[] lb) (hFg : F.fn gf) (eg : ∀ args w, (callFunc gf args).run P w = .ok (.enter gf args) w) (hseq : Gives F (n - 1) P gf lb enc Kp N w0)
    (hKt : ∀ {A B C : World}, Kp A B → Kp B C → Kp A C) (hKb : ∀ (W : World) (l : Nat) (o o' : Obj), w.heap.size ≤ l → W.heap[l]? = some o → o.isCells = false → o.isWalk = false → Kp W (W.putObj l o')) (hb0 : Below w0.heap.size w0 w) (hps : ∀ j, (enc j).size = ps.size)
    (I : Nat → World → Prop) (hI : OwnFrom w.heap.size I) (h0 : I 0 w) (a₁ : Nat → Act)
    (hassign : ∀ (l j : Nat) (W : World) (K : Act → World → Prop), K (a₁ j) W → assign.wpIn (F.inRound l) (n - 1 - 1) P (Exit.then K (fun _ _ _ => False)) { tmps := (ps.zip (enc j)).foldl (fun t (p, v) => t.setIfInBounds p v) a.tmps, defers := [] } W)
    (hbody : ∀ (l j : Nat) (W : World), j < N → I j W → body.wpIn (F.inRound l) (n - 1 - 1) P (goesOn w.heap.size Kp (I (j + 1)) W) (a₁ j) W)
    (hdone : ∀ (D : Nat) (W : World), w.heap.size ≤ D → I N W → W.heap[D]? = some (.deferred (some [])) → Q .normal { a with defers := { target := .collected D, args := #[] } :: a.defers } W) :
    (Code.rangeFunc g ps assign body).wpIn F n P Q a w := by
  refine wpIn_rangeFunc fun fn hfn => ?_
  rw [hro]
  obtain ⟨mk, hmk⟩ : ∃ mk : LoopState → Loop, mk = fun st => { state := st, pending := none, fn, tmps := a.tmps, params := ps, assign, body, defers := w.heap.size } := ⟨_, rfl⟩
  obtain ⟨V, hV⟩ : ∃ V, (w.alloc (.deferred (some []))).alloc (.loop (mk .ready)) = V := ⟨_, rfl⟩
  have hVl : V.heap[w.heap.size + 1]? = some (.loop (mk .ready)) := by
    rw [← hV]
    have h := World.alloc_heap_new (w.alloc (.deferred (some []))) (.loop (mk .ready))
    rwa [World.size_alloc] at h
  have hVd : V.heap[w.heap.size]? = some (.deferred (some [])) := by
    rw [← hV]
    exact (Below.heap_alloc _ _ _ (by simp)).trans (World.alloc_heap_new w _)
  have hVs : V.heap.size = w.heap.size + 1 + 1 := by rw [← hV]; simp
  have hVb : Below w0.heap.size w0 V := by
    rw [← hV]
    exact hb0.trans ((((Below.refl _ w).alloc (Nat.le_refl _) _).alloc (by simp) _).mono hb0.size)
  have hVI : I 0 V := by rw [← hV]; exact hI.alloc _ (hI.alloc _ h0)
  refine ⟨w.heap.size + 1, [{ target := .collected w.heap.size, args := #[] }], V, { target := .fn (.func gf) lb, args := #[.func (.yield (w.heap.size + 1)) #[] #[]] }, V, gf,
    #[.func (.yield (w.heap.size + 1)) #[] #[]] ++ lb, V, ?_, ?_, ?_, ?_, fun _ => h1, ?_⟩
  · rw [← hV, hmk]; exact run_enterLoop_outer _ _ _ _ _
  · simp only [resolve, hg]
    simp [go_sem]
  · intro f' hf'
    simp [Target.leads] at hf'
    subst hf'
    exact hFg
  · simp [invoke, go_sem, eg]
  · refine (hseq (w.heap.size + 1) (fun j W => I j W ∧ W.heap[w.heap.size + 1]? = some (.loop (mk .ready)) ∧ W.heap[w.heap.size]? = some (.deferred (some []))) V hVb ?abides ?round ⟨hVI, hVl, hVd⟩).mono ?behind
    case abides =>
      rintro j A B row ⟨hi, hl, hd⟩ hgr hr
      refine ⟨hI j A B row hi hgr (fun r e => ?_), (grownBy_keeps hgr (fun r e => (hr r e).2) hl rfl).trans hl, (grownBy_keeps hgr (fun r e => (hr r e).2) hd rfl).trans hd⟩
      obtain ⟨hB, o, ho, hw⟩ := hr r e
      exact ⟨by omega, o, ho, Obj.not_cells_of_walk hw⟩
    case round =>
      rintro j W hj ⟨hi, hl, hd⟩
      have hlt : w.heap.size + 1 < W.heap.size := blk_lt' hl
      have hy := run_yield (P := P) (args := enc j) hl (by rw [hmk]; exact hps j)
      rw [hmk] at hy
      refine ⟨fn, _, assign, body, hy, roundIn_of_wpIn hfn (hassign _ j W _ ⟨_, run_beginRound hl (by rw [hmk]), ?_⟩)⟩
      obtain ⟨U, hU⟩ : ∃ U, W.putObj (w.heap.size + 1) (.loop { mk .ready with state := .busy }) = U := ⟨_, rfl⟩
      have hUl : U.heap[w.heap.size + 1]? = some (.loop { mk .ready with state := .busy }) := by rw [← hU]; exact World.putObj_heap_same hlt
      have hUd : U.heap[w.heap.size]? = some (.deferred (some [])) := by rw [← hU]; exact (World.putObj_heap_other (by omega)).trans hd
      have hUk : Kp W U := by rw [← hU]; exact hKb _ _ _ _ (by omega) hl rfl rfl
      have hUi : I j U := by rw [← hU]; exact hI.putObj _ hi (by omega) hl rfl
      rw [hU]
      refine wpIn_mono (hbody _ j U hj hUi) ?_
      rintro e a3 W3 hp
      cases e with
      | normal =>
        obtain ⟨hk3, hkp, hi3⟩ := hp
        have hl3 := hk3.same _ _ (by omega) hUl rfl
        have hr := run_endRound (P := P) none hl3
        rw [hmk] at hr
        refine ⟨_, _, hr, ⟨rfl, ⟨hI.putObj _ hi3 (by omega) hl3 rfl, ?_, (World.putObj_heap_other (by omega)).trans (hk3.same _ _ (Nat.le_refl _) hUd rfl)⟩, hKt (hKt hUk hkp) (hKb _ _ _ _ (by omega) hl3 rfl rfl)⟩⟩
        refine (World.putObj_heap_same (blk_lt' hl3)).trans ?_
        rw [hmk]
        rfl
      | _ => exact hp.elim
    case behind =>
      rintro e W2 ⟨⟨v, rfl⟩, hi, hl, hd⟩
      exact ⟨none, _, by have := run_endLoop (P := P) hl (by rw [hmk]; simp); rw [hmk] at this; exact this, hdone _ _ (Nat.le_refl _) (hI.putObj _ hi (by omega) hl rfl) ((World.putObj_heap_other (by omega)).trans hd)⟩
end
end Go.Proofs.YtiemingpbommeaaGreatDoor

/- A space of three pages: Pages, one by one, by rising addresses. -/
namespace Go.Proofs.YtiemingpbommeaaGreatDoor
open Go Go.RowKit Go.Shelf
noncomputable section
set_option linter.unusedVariables false
set_option linter.unusedSimpArgs false
attribute [local go_sem] Oper.semAt_some

/-- the look-up of a page, without a second value -/
theorem run_lookup_page1 (w : World) (m c : Nat) (ps : List (Pg × Nat)) (k : Nat) (hk : k < 18446744073709551616) (hm : w.heap[m]? = some (.map (ents 0 ps).toArray c)) :
    (Instr.lookup 69 (.map (some m)) (.int .u64 k) false).run Tryz.prog w =
      .ok (.pointer ((ps.find? fun q => q.1.a == k).map fun q => ⟨q.2, 0, none⟩)) w := by
  have K := Maps.int_keyed (P := Tryz.prog) Tryz.underlying23
  have hkey : keyOf Tryz.prog 23 (.int .u64 (k : Int)) = some (.int .u64 (k : Int)) := Maps.keyOf_int_mk Tryz.underlying23 (by simp [Lit.wf, IntKind.min, IntKind.max, IntKind.signed, IntKind.bits]; omega)
  obtain ⟨r, h1, h2⟩ := findNow_ents k ps 0 0
  have hz : (zeroValue 82).run Tryz.prog w = .ok (.pointer none) w := by kernel_rfl
  have hf : (Instr.findKey 23 (.int .u64 k) (ents 0 ps)).run Tryz.prog w = .ok r w := by
    unfold Instr.findKey
    simp [Sem.run_bind, run_underlying Tryz.underlying23, h1]
  cases r with
  | none =>
    have h3 : (ps.find? fun q => q.1.a == k) = none := by
      cases h4 : (ps.find? fun q => q.1.a == k) with
      | none => rfl
      | some x => rw [h4] at h2; cases h2
    rw [h3]
    simp [Instr.lookup, run_underlying Tryz.underlying69, MapKept.run_getObj_map hm, K.check w _ hkey, hf, hz, Result.andThen]
  | some y =>
    obtain ⟨x, h3⟩ : ∃ x, (ps.find? fun q => q.1.a == k) = some x := by
      cases h4 : (ps.find? fun q => q.1.a == k) with
      | none => rw [h4] at h2; cases h2
      | some x => exact ⟨x, rfl⟩
    rw [h3] at h2 ⊢
    obtain ⟨i, v⟩ := y
    obtain rfl : v = .pointer (some ⟨x.2, 0, none⟩) := by simpa using h2
    simp [Instr.lookup, run_underlying Tryz.underlying69, MapKept.run_getObj_map hm, K.check w _ hkey, hf, Result.andThen]

set_option maxHeartbeats 1000000 in
set_option maxRecDepth 100000 in
theorem keysOf_any (m : Nat) (w : World) :
    Calls Tryz.prog 99 #[.map (some m)] w fun e w' =>
      e = .returned (.func (.func 125) #[] #[.pointer (some ⟨w.heap.size, 0, none⟩)]) ∧ w.alloc (.cells #[.map (some m)] 69) = w' := by
  go_enter Tryz.func99, Tryz.ntmps99
  go_wp2
  go_ret
  exact ⟨rfl, rfl⟩
set_option maxHeartbeats 1000000 in
set_option maxRecDepth 100000 in
theorem pagesOf_any (sp : Nat) (w : World) :
    Calls Tryz.prog 57 #[.pointer (some ⟨sp, 0, none⟩)] w fun e w' =>
      e = .returned (.func (.func 97) #[] #[.pointer (some ⟨w.heap.size, 0, none⟩)]) ∧ w.alloc (.cells #[.pointer (some ⟨sp, 0, none⟩)] 25) = w' := by
  go_enter Tryz.func57, Tryz.ntmps57
  go_wp2
  go_ret
  exact ⟨rfl, rfl⟩

/-- what a round keeps: all but a block, a map and lists of spans -/
def KpC (B c m2 : Nat) (W W' : World) : Prop := W.heap.size ≤ W'.heap.size ∧ ∀ k o, W.heap[k]? = some o → k ≠ c → k ≠ m2 → (k < B ∨ o.isCells = true) → (∀ cs fr, o ≠ .cells cs 76 fr) → W'.heap[k]? = some o
theorem kpC_t {B c m2 : Nat} {X Y Z : World} (h : KpC B c m2 X Y) (k : KpC B c m2 Y Z) : KpC B c m2 X Z :=
  ⟨Nat.le_trans h.1 k.1, fun j o hj h1 h2 h3 h4 => k.2 j o (h.2 j o hj h1 h2 h3 h4) h1 h2 h3 h4⟩
theorem kpC_b {B c m2 : Nat} {w : World} (hb : B ≤ w.heap.size) (W : World) (l : Nat) (o o' : Obj) (hl : w.heap.size ≤ l) (h : W.heap[l]? = some o) (hc : o.isCells = false) (_ : o.isWalk = false) : KpC B c m2 W (W.putObj l o') :=
  ⟨by simp [World.putObj], fun k o2 hk h1 h2 h3 h4 => by
    have hne : k ≠ l := fun e => by
      subst e
      rw [hk] at h
      cases h
      rcases h3 with h3 | h3
      · omega
      · rw [hc] at h3; cases h3
    exact (World.putObj_heap_other hne).trans hk⟩
theorem kpC_row {B c m2 : Nat} {W W' : World} (h : KpC B c m2 W W') {k : Nat} {cs : Array Value} {t : TypeId} {fr : Nat × Nat} (hk : W.heap[k]? = some (.cells cs t fr)) (h1 : k ≠ c) (h2 : k ≠ m2) (ht : t ≠ 76) : W'.heap[k]? = some (.cells cs t fr) :=
  h.2 k _ hk h1 h2 (.inr rfl) (fun cs' fr' e => by cases e; exact ht rfl)
/-- a space of which the round may not touch anything -/
structure Apart (c m2 sp m : Nat) (ps : List (Pg × Nat)) : Prop where
  c1 : sp ≠ c
  c2 : m ≠ c
  c3 : c ∉ blks ps
  m1 : sp ≠ m2
  m3 : m ≠ m2
  m4 : m2 ∉ blks ps
theorem kpC_space {B c m2 sp m : Nat} {sl : Value} {q : Int} {ps : List (Pg × Nat)} {W W' : World} (h : KpC B c m2 W W') (hS : SpaceIs W sp m sl q ps) (ha : Apart c m2 sp m ps) (hm : m < B) : SpaceIs W' sp m sl q ps :=
  ⟨kpC_row h hS.row ha.c1 ha.m1 (by decide), h.2 m _ hS.map ha.c2 ha.m3 (.inl hm) (fun cs fr e => by cases e),
    fun x hx => kpC_row h (hS.page x hx) (fun e => ha.c3 (e ▸ List.mem_map.2 ⟨x, hx, rfl⟩)) (fun e => ha.m4 (e ▸ List.mem_map.2 ⟨x, hx, rfl⟩)) (by decide), hS.good, hS.nd⟩

/-- the three addresses -/
def a3 (j : Nat) : Int := [65536, 65792, 66048].getD j 0
def pg3 (ps : List (Pg × Nat)) (j : Nat) : Pg × Nat := ps.getD j (⟨0, 0, []⟩, 0)
def enc3 (ps : List (Pg × Nat)) (j : Nat) : Array Value := #[.int .u64 (a3 j), .int .i64 ((pg3 ps j).1.p : Int)]

theorem three_at {ps : List (Pg × Nat)} (h : Three ps) (j : Nat) (hj : j < 3) : ps.find? (fun q => q.1.a == (a3 j).toNat) = some (pg3 ps j) ∧ pg3 ps j ∈ ps := by
  obtain ⟨⟨a0, p0, l0⟩, b0, ⟨a1, p1, l1⟩, b1, ⟨a2, p2, l2⟩, b2, rfl, h0, h1, h2⟩ := h.form
  simp only at h0 h1 h2
  subst h0; subst h1; subst h2
  obtain rfl | rfl | rfl : j = 0 ∨ j = 1 ∨ j = 2 := by omega
  · exact ⟨rfl, by simp [pg3]⟩
  · exact ⟨rfl, by simp [pg3]⟩
  · exact ⟨rfl, by simp [pg3]⟩
theorem a3_small (j : Nat) (hj : j < 3) : 0 ≤ a3 j ∧ a3 j < 18446744073709551616 := by
  obtain rfl | rfl | rfl : j = 0 ∨ j = 1 ∨ j = 2 := by omega
  all_goals decide
theorem three_cell {w : World} {sp m : Nat} {sl : Value} {q : Int} {ps : List (Pg × Nat)} (hS : SpaceIs w sp m sl q ps) (h : Three ps) (j : Nat) (hj : j < 3) (k : Int) (hk : a3 j = k) :
    (Instr.lookup 69 (.map (some m)) (.int .u64 k) false).run Tryz.prog w = .ok (.pointer (some ⟨(pg3 ps j).2, 0, none⟩)) w ∧ w.cell? ⟨(pg3 ps j).2, 0, none⟩ = some (.int .i64 ((pg3 ps j).1.p : Int)) := by
  obtain ⟨h1, h2⟩ := three_at h j hj
  have hb := a3_small j hj
  refine ⟨?_, hS.cellPerm h2⟩
  obtain ⟨n, hn⟩ : ∃ n : Nat, a3 j = n := ⟨(a3 j).toNat, by omega⟩
  have hn2 : (a3 j).toNat = n := by omega
  rw [hn2] at h1
  rw [← hk, hn, run_lookup_page1 w m _ ps n (by omega) hS.map, h1]
  rfl

set_option maxHeartbeats 4000000 in
set_option maxRecDepth 100000 in
theorem pages_in (bx sp m c m2 l : Nat) (sl : Value) (q : Int) (ps : List (Pg × Nat)) (B : Nat) (J : Nat → World → Prop) (ha : Apart c m2 sp m ps) (h3 : Three ps) (hx1 : bx ≠ c) (hx2 : bx ≠ m2)
    (hY : ∀ j W, j < 3 → J j W → YieldAt Fence.wide 3 Tryz.prog l (enc3 ps j) W fun e W' => e = .returned (.bool true) ∧ J (j + 1) W' ∧ KpC B c m2 W W')
    (W : World) (hJ : AbidesFrom W.heap.size J) (hB : B ≤ W.heap.size) (hcB : c < B) (hmB : m2 < B) (hb : W.heap[bx]? = some (.cells #[.pointer (some ⟨sp, 0, none⟩)] 25 (0, 0))) (hS : SpaceIs W sp m sl q ps) (hm : m < B) (h0 : J 0 W) :
    CallsIn Fence.wide 4 Tryz.prog 97 #[.func (.yield l) #[] #[], .pointer (some ⟨bx, 0, none⟩)] W fun e W' => (∃ v, e = .returned v) ∧ J 3 W' := by
  have HS := hid hS
  have Hb := hid hb
  have c0 : W.cell? ⟨bx, 0, none⟩ = some (.pointer (some ⟨sp, 0, none⟩)) := by rw [cell_of_row W _ _ _ _ _ hb]; rfl
  have c1 := hS.cellMap
  clear hS hb
  refine callsIn_of_wp Tryz.func97 rfl trivial ?_ rfl
  simp only [Tryz.ntmps97, List.size_toArray, List.length_cons, List.length_nil, Nat.reduceAdd, Nat.reduceSub, Array.replicate_succ, Array.replicate_zero, List.push_toArray, List.append_toArray, List.nil_append, List.cons_append]
  gi_wp2_with fail
  refine ⟨trivial, (callsIn_wide.2 (keysOf_any m W)).mono ?_⟩
  rintro e W1 ⟨rfl, rfl⟩
  gi_wp2_with fail
  have hW1 : Below W.heap.size W (W.alloc (.cells #[.map (some m)] 69)) := (Below.refl _ _).alloc (Nat.le_refl _) _
  have hS1 := HS.out.below hW1
  have hml : m < W.heap.size := blk_lt' HS.out.map
  refine ⟨trivial, (callsIn_wide.2 (sorted3_any W.heap.size m _ (by simp) (by rw [cell_of_row _ _ _ _ _ _ (heap_alloc_new _ _)]; rfl) (owns3 hS1.map h3))).mono ?_⟩
  rintro e W2 ⟨g, cap, r, rfl, hg, hR, hb2⟩
  have HB2 : Hid (Below W.heap.size W W2) := hid (hW1.trans (hb2.mono (by simp)))
  have HR := hid hR
  have HJ2 : Hid (J 0 W2) := hid (hJ 0 W W2 none h0 ⟨HB2.out.os, HB2.out.tape, HB2.out.output, HB2.out.size, fun k hk _ => HB2.out.block k hk⟩ (fun r e => by cases e))
  have hgl : W.heap.size < g := by have := hg; simp at this; omega
  clear hW1 hS1 hb2 hR c0 c1 h0
  gi_wp2_with fail
  gi_loopw [14] (fun i wr => ∃ j : Nat, j ≤ 3 ∧ i = .int .i64 j ∧ J j wr ∧ Hid (KpC B c m2 W2 wr)) (fun i _ => (3 - (RowKit.intOf i).toNat))
  case atStart => exact ⟨0, by omega, rfl, HJ2.out, hid ⟨Nat.le_refl _, fun k o hk _ _ _ _ => hk⟩⟩
  case round =>
    obtain ⟨j, hj, rfl, hJj, hkp⟩ := hrel
    by_cases hlt : j < 3
    · obtain ⟨fn, tmps, assign, body, hy, hR2⟩ := hY j wr hlt hJj
      have hRw : Row3 wr g 65536 65792 66048 r := kpC_row hkp.out HR.out (by omega) (by omega) (by decide)
      obtain ⟨e0, e1, e2, f0, f1, f2⟩ := hRw.cells
      have hSw : SpaceIs wr sp m sl q ps := kpC_space hkp.out (HS.out.below HB2.out) ha hm
      have hbw : wr.heap[bx]? = some (.cells #[.pointer (some ⟨sp, 0, none⟩)] 25 (0, 0)) := kpC_row hkp.out ((HB2.out.block _ (blk_lt' Hb.out)).trans Hb.out) hx1 hx2 (by decide)
      have c0 : wr.cell? ⟨bx, 0, none⟩ = some (.pointer (some ⟨sp, 0, none⟩)) := by rw [cell_of_row _ _ _ _ _ _ hbw]; rfl
      have c1 := hSw.cellMap
      have Hkp := hid hkp.out
      have HSw := hid hSw
      have HRw := hid hRw
      clear hSw hbw hRw hkp
      obtain rfl | rfl | rfl : j = 0 ∨ j = 1 ∨ j = 2 := by omega
      · obtain ⟨hl, hp⟩ := three_cell HSw.out h3 0 hlt 65536 rfl
        unfold enc3 at hy
        rw [show a3 0 = 65536 from rfl] at hy
        generalize (pg3 ps 0).2 = pb at hl hp
        generalize ((pg3 ps 0).1.p : Int) = pp at hp hy
        clear e0 e1 e2 f0 f1 f2
        obtain ⟨e0, e1, e2, f0, f1, f2⟩ := HRw.out.cells
        gi_wp2_with fail
        refine hR2.mono ?_
        rintro e W3 ⟨rfl, hJ3, hk3⟩
        have Hk3 := hid (kpC_t Hkp.out hk3)
        clear hy hR2 hk3 Hkp HSw HRw hl hp e0 e1 e2 f0 f1 f2 c0 c1
        gi_wp2_with fail
        go_roundw
        case rel => exact ⟨0 + 1, by omega, by go_num, hJ3, Hk3⟩
        case measure => simp [RowKit.intOf]
      · obtain ⟨hl, hp⟩ := three_cell HSw.out h3 1 hlt 65792 rfl
        unfold enc3 at hy
        rw [show a3 1 = 65792 from rfl] at hy
        generalize (pg3 ps 1).2 = pb at hl hp
        generalize ((pg3 ps 1).1.p : Int) = pp at hp hy
        clear e0 e1 e2 f0 f1 f2
        obtain ⟨e0, e1, e2, f0, f1, f2⟩ := HRw.out.cells
        gi_wp2_with fail
        refine hR2.mono ?_
        rintro e W3 ⟨rfl, hJ3, hk3⟩
        have Hk3 := hid (kpC_t Hkp.out hk3)
        clear hy hR2 hk3 Hkp HSw HRw hl hp e0 e1 e2 f0 f1 f2 c0 c1
        gi_wp2_with fail
        go_roundw
        case rel => exact ⟨1 + 1, by omega, by go_num, hJ3, Hk3⟩
        case measure => simp [RowKit.intOf]
      · obtain ⟨hl, hp⟩ := three_cell HSw.out h3 2 hlt 66048 rfl
        unfold enc3 at hy
        rw [show a3 2 = 66048 from rfl] at hy
        generalize (pg3 ps 2).2 = pb at hl hp
        generalize ((pg3 ps 2).1.p : Int) = pp at hp hy
        clear e0 e1 e2 f0 f1 f2
        obtain ⟨e0, e1, e2, f0, f1, f2⟩ := HRw.out.cells
        gi_wp2_with fail
        refine hR2.mono ?_
        rintro e W3 ⟨rfl, hJ3, hk3⟩
        have Hk3 := hid (kpC_t Hkp.out hk3)
        clear hy hR2 hk3 Hkp HSw HRw hl hp e0 e1 e2 f0 f1 f2 c0 c1
        gi_wp2_with fail
        go_roundw
        case rel => exact ⟨2 + 1, by omega, by go_num, hJ3, Hk3⟩
        case measure => simp [RowKit.intOf]
    · obtain rfl : j = 3 := by omega
      gi_wp2_with fail
      go_end0
      exact ⟨⟨_, rfl⟩, hJj⟩

/-- Pages HANDS BACK the three pages -/
theorem pages_stops (bx sp m c m2 : Nat) (sl : Value) (q : Int) (ps : List (Pg × Nat)) (w : World) (ha : Apart c m2 sp m ps) (h3 : Three ps) (hx1 : bx ≠ c) (hx2 : bx ≠ m2) (hc : c < w.heap.size) (hm2 : m2 < w.heap.size)
    (hb : w.heap[bx]? = some (.cells #[.pointer (some ⟨sp, 0, none⟩)] 25 (0, 0))) (hS : SpaceIs w sp m sl q ps) :
    Gives Fence.wide 4 Tryz.prog 97 #[.pointer (some ⟨bx, 0, none⟩)] (enc3 ps) (KpC w.heap.size c m2) 3 w := fun l J W hW hJ hY h0 =>
  pages_in bx sp m c m2 l sl q ps w.heap.size J ha h3 hx1 hx2 (fun j W h1 h2 => hY j W h1 h2) W hJ hW.size hc hm2 ((hW.block bx (blk_lt' hb)).trans hb) (hS.below hW) (blk_lt' hS.map) h0
end
end Go.Proofs.YtiemingpbommeaaGreatDoor
