/- Package span: spans, and sets of these as far as this seat's laws go: a span behind all others is added. -/
import Derived.Test.YtiemingpbommeaaGreatDoorGd
import Derived.Deep.AppendLies
import Derived.Deep.RegionLaw
namespace Go.Proofs.YtiemingpbommeaaGreatDoor
open Go.RowKit
noncomputable section
set_option linter.unusedVariables false
set_option linter.unusedSimpArgs false
theorem ret_bool {a b : Bool} (h : a = b) : Ending.returned (.bool a) = .returned (.bool b) := by rw [h]
/-- a span's cells -/
abbrev spanRow (x : Nat × Nat) : List Value := [.int .u64 (x.1 : Int), .int .u64 (x.2 : Int)]
def spanCells (L : List (Nat × Nat)) : List Value := L.flatMap spanRow
def meetsN (x o : Nat × Nat) : Bool := decide (max x.1 o.1 < min x.2 o.2)
theorem spanCells_length (L : List (Nat × Nat)) : (spanCells L).length = L.length * 2 := by
  unfold spanCells
  induction L with
  | nil => rfl
  | cons x l ih => rw [List.flatMap_cons, List.length_append, ih]; simp; omega
theorem spanCells_get (L : List (Nat × Nat)) (i j : Nat) (hi : i < L.length) (hj : j < 2) : (spanCells L)[2 * i + j]? = (spanRow (L.getD i (0, 0)))[j]? :=
  flat_get spanRow 2 (fun _ => rfl) (0, 0) L i j hi hj
theorem spanCells_append (L L' : List (Nat × Nat)) : spanCells (L ++ L') = spanCells L ++ spanCells L' := by simp [spanCells]
set_option maxHeartbeats 1000000 in
set_option maxRecDepth 100000 in
theorem spanMeets_any (x o : Nat × Nat) (w : World) :
    Calls Tryz.prog 59 #[.agg #[.int .u64 x.1, .int .u64 x.2], .agg #[.int .u64 o.1, .int .u64 o.2]] w fun e w' => e = .returned (.bool (meetsN x o)) ∧ Below w.heap.size w w' := by
  obtain ⟨a, b⟩ := x
  obtain ⟨c, d⟩ := o
  have Hv : Hid (meetsN (a, b) (c, d) = decide (max (a : Int) c < min (b : Int) d)) := hid (by unfold meetsN; apply decide_eq_decide.2; simp only; omega)
  generalize meetsN (a, b) (c, d) = v at *
  dsimp only
  go_enter Tryz.func59, Tryz.ntmps59
  go_wp2
  all_goals
    go_ret
    refine ⟨ret_bool ?_, ((Below.refl _ _).alloc (Nat.le_refl _) _).alloc (by simp) _⟩
    rw [Hv.out]
    apply decide_eq_decide.2
    omega
set_option maxHeartbeats 1000000 in
set_option maxRecDepth 100000 in
theorem spanEmpty_any (a b : Nat) (w : World) :
    Calls Tryz.prog 60 #[.agg #[.int .u64 a, .int .u64 b]] w fun e w' => e = .returned (.bool (decide (b ≤ a))) ∧ Below w.heap.size w w' := by
  go_enter Tryz.func60, Tryz.ntmps60
  go_wp2
  go_ret
  exact ⟨rfl, (Below.refl _ _).alloc (Nat.le_refl _) _⟩
/-- the set's list: a row of the call's own -/
def SetIs (w : World) (sl : Value) (L : List (Nat × Nat)) : Prop := w.ownsRow 0 76 2 sl L.length (spanCells L)
theorem SetIs.below {w w' : World} {sl : Value} {L : List (Nat × Nat)} (h : SetIs w sl L) (hb : Below w.heap.size w w') : SetIs w' sl L :=
  World.ownsRow.kept (row := none) h ⟨hb.os, hb.tape, hb.output, hb.size, fun k hk _ => hb.block k hk⟩ (by cases h' : sl.ownBlock with | none => exact .inl rfl | some k => exact .inr (by simp))
theorem SetIs.cases {w : World} {sl : Value} {L : List (Nat × Nat)} (h : SetIs w sl L) : (sl = .slice none 0 0 ∧ L = []) ∨
    ∃ g cap cur, sl = .slice (some ⟨g, 0, none⟩) L.length cap ∧ L.length ≤ cap ∧ w.heap[g]? = some (.cells cur 76 (0, 0)) ∧ cap ≤ maxLen ∧ cur.size = cap * 2 ∧ cur.toList.take (L.length * 2) = spanCells L := by
  rcases h.2 with ⟨h1, h2⟩ | ⟨g, cap, cur, h1, _, h2, h3, h4, h5, h6⟩
  · exact .inl ⟨h1, List.length_eq_zero_iff.1 h2⟩
  · exact .inr ⟨g, cap, cur, h1, h3, h2, h4, h5, h6⟩
theorem span_cell {w : World} {g : Nat} {cur : Array Value} {L : List (Nat × Nat)} (hg : w.heap[g]? = some (.cells cur 76 (0, 0))) (ht : cur.toList.take (L.length * 2) = spanCells L) (i : Nat) (hi : i < L.length) :
    w.cell? ⟨g, i * 2, none⟩ = some (.int .u64 ((L.getD i (0, 0)).1 : Int)) ∧ w.cell? ⟨g, i * 2 + 1, none⟩ = some (.int .u64 ((L.getD i (0, 0)).2 : Int)) := by
  have h : ∀ j, j < 2 → w.cell? ⟨g, i * 2 + j, none⟩ = (spanRow (L.getD i (0, 0)))[j]? := fun j hj => by
    rw [cell_of_row w g _ _ _ _ hg, ← spanCells_get L i j hi hj, ← ht, List.getElem?_take, if_pos (by omega), Array.getElem?_toList, Nat.mul_comm]
  exact ⟨h 0 (by omega), h 1 (by omega)⟩
set_option maxHeartbeats 2000000 in
set_option maxRecDepth 100000 in
theorem spanIndex_none (x : Nat × Nat) (sl : Value) (L : List (Nat × Nat)) (w : World) (hS : SetIs w sl L) (hno : ∀ i, i < L.length → meetsN x (L.getD i (0, 0)) = false) (hl : L.length ≤ 1000) :
    Calls Tryz.prog 100 #[sl, .func (.func 59) #[.agg #[.int .u64 x.1, .int .u64 x.2]] #[]] w fun e w' => e = .returned (.int .i64 (-1)) ∧ Below w.heap.size w w' := by
  have Hno := hid hno
  clear hno
  rcases hS.cases with ⟨rfl, rfl⟩ | ⟨g, cap, cur, rfl, hcap, hg, _, _, ht⟩
  · go_enter Tryz.func100, Tryz.ntmps100
    go_wp2
    refine wp_loop_once ?_
    go_wp2
    go_ret
    exact ⟨rfl, Below.refl _ _⟩
  · have Hg := hid hg
    have Ht := hid ht
    have hgl : g < w.heap.size := blk_lt' hg
    have hF : ∀ (args : Array Value) (w' : World), (callFunc 59 args).run Tryz.prog w' = .ok (.enter 59 args) w' := fun args w' => by kernel_rfl
    clear hg ht hS
    go_enter Tryz.func100, Tryz.ntmps100
    go_wp2
    go_loopw [8] (fun i wr => ∃ k : Nat, k ≤ L.length ∧ i = .int .i64 k ∧ Below w.heap.size w wr) (fun i _ => L.length - (intOf i).toNat)
    case atStart => exact ⟨0, by omega, rfl, Below.refl _ _⟩
    case round =>
      obtain ⟨k, hk, rfl, hb⟩ := hrel
      by_cases hlt : k < L.length
      · have hgr := (hb.block g hgl).trans Hg.out
        obtain ⟨c0, c1⟩ := span_cell hgr Ht.out k hlt
        have Hk := hid (Hno.out k hlt)
        generalize L.getD k (0, 0) = o at *
        clear hgr
        go_wp2_with fail
        refine (spanMeets_any x o wr).mono ?_
        rw [Hk.out]
        rintro e w1 ⟨rfl, hb1⟩
        have hb2 : Below w.heap.size w w1 := hb.trans (hb1.mono hb.size)
        clear c0 c1 hb1 hF
        go_wp2
        go_roundw
        case rel => exact ⟨k + 1, by omega, by go_num, hb2⟩
        case measure => simp [intOf]; omega
      · obtain rfl : k = L.length := by omega
        clear hF
        go_wp2
        go_ret
        exact ⟨rfl, hb⟩
set_option maxHeartbeats 2000000 in
set_option maxRecDepth 100000 in
theorem spanContains_no (x : Nat × Nat) (sl : Value) (L : List (Nat × Nat)) (w : World) (hS : SetIs w sl L) (hno : ∀ i, i < L.length → meetsN x (L.getD i (0, 0)) = false) (hl : L.length ≤ 1000) :
    Calls Tryz.prog 58 #[sl, .func (.func 59) #[.agg #[.int .u64 x.1, .int .u64 x.2]] #[]] w fun e w' => e = .returned (.bool false) ∧ Below w.heap.size w w' := by
  have HS := hid hS
  have Hno := hid hno
  clear hno hS
  go_enter Tryz.func58, Tryz.ntmps58
  go_wp2_with fail
  refine (spanIndex_none x sl L w HS.out Hno.out hl).mono ?_
  rintro e w1 ⟨rfl, hb⟩
  go_wp2
  go_ret
  exact ⟨rfl, hb⟩
set_option maxHeartbeats 2000000 in
set_option maxRecDepth 100000 in
theorem setMeets_no (sb so : Nat) (x : Nat × Nat) (sl : Value) (L : List (Nat × Nat)) (w : World) (hc : w.cell? ⟨sb, so, none⟩ = some sl) (hS : SetIs w sl L) (hno : ∀ i, i < L.length → meetsN x (L.getD i (0, 0)) = false) (hl : L.length ≤ 1000) :
    Calls Tryz.prog 24 #[.pointer (some ⟨sb, so, none⟩), .agg #[.int .u64 x.1, .int .u64 x.2]] w fun e w' => e = .returned (.bool false) ∧ Below w.heap.size w w' := by
  have HS := hid hS
  have Hno := hid hno
  clear hno hS
  have hsl : sb < w.heap.size := World.block_lt_of_cell? w _ hc
  go_enter Tryz.func24, Tryz.ntmps24
  go_wp2
  have H0 := Below.alloc (Below.refl w.heap.size w) (Nat.le_refl _) (.cells #[.int .u64 x.1, .int .u64 x.2] 76)
  have N0 := heap_alloc_new w (.cells #[.int .u64 x.1, .int .u64 x.2] 76)
  have c0 := (H0.cell (p := ⟨sb, so, none⟩) hsl).trans hc
  have hs2 : sb < (w.alloc (.cells #[.int .u64 x.1, .int .u64 x.2] 76)).heap.size := by simp; omega
  generalize hw1 : w.alloc (.cells #[.int .u64 x.1, .int .u64 x.2] 76) = w1 at *
  have d0 : w1.cell? ⟨w.heap.size, 0, none⟩ = some (.int .u64 x.1) := by rw [cell_of_row w1 _ _ _ _ _ N0]; rfl
  have d1 : w1.cell? ⟨w.heap.size, 1, none⟩ = some (.int .u64 x.2) := by rw [cell_of_row w1 _ _ _ _ _ N0]; rfl
  have hl1 : w.heap.size < w1.heap.size := blk_lt' N0
  have H0' := hid H0
  clear H0 N0 hw1
  refine wp_region_quiet_in (fun w' => ∃ u, w' = aft w1 u) (by kernel_rfl) (by kernel_rfl) (aft_drew _) ?_
  have HS1 := hid (HS.out.below H0'.out)
  repeat (go_big_quiet_step ((go_at_call 58; exact aft_call (spanContains_no x sl L _ (HS1.out.below (aft_below w1 _)) Hno.out hl))))
  refine wpQuiet_nil ?_
  rintro w5 ⟨u, rfl⟩
  go_wp2
  go_ret
  exact ⟨rfl, H0'.out.trans ((aft_below w1 u).mono H0'.out.size)⟩
end
end Go.Proofs.YtiemingpbommeaaGreatDoor
