/- The law's own registers: a list of numbers as 32 registers. -/
import Derived.Test.YtiemingpbommeaaGreatDoorGq
import Derived.Test.YtiemingpbommeaaGreatDoorGc
namespace Go.Proofs.YtiemingpbommeaaGreatDoor
open Go Go.RowKit
noncomputable section
set_option linter.unusedVariables false
set_option linter.unusedSimpArgs false
/-- a slice of numbers of 64 bits, somewhere -/
def U64s (w : World) (v : Value) : Prop := ∃ (p : Option Addr) (n c : Nat), v = .slice p n c ∧ n ≤ 9223372036854775807 ∧
  (0 < n → ∃ b off : Nat, p = some ⟨b, off, none⟩ ∧ b < w.heap.size ∧ ∀ j, j < n → ∃ x : Nat, x < 18446744073709551616 ∧ w.cell? ⟨b, off + j, none⟩ = some (.int .u64 x))
theorem U64s.keep {w w' : World} {v : Value} (h : U64s w v) (hk : Keep [] w w') : U64s w' v := by
  obtain ⟨p, n, c, hv, hn, hc⟩ := h
  refine ⟨p, n, c, hv, hn, fun h0 => ?_⟩
  obtain ⟨b, off, hp, hb, hj⟩ := hc h0
  refine ⟨b, off, hp, Nat.lt_of_lt_of_le hb hk.size, fun j hj' => ?_⟩
  obtain ⟨x, hx, hxc⟩ := hj j hj'
  exact ⟨x, hx, (World.cell?_of_block (hk.block b hb (by simp))).trans hxc⟩
def ucells (X : List Nat) : Array Value := (X.map fun n : Nat => Value.int .u64 (n : Int)).toArray
theorem info_regs : (Tryz.prog.info? 34).map (fun x => x.size) = some 32 := by kernel_rfl
theorem ucells_size {X : List Nat} (h : Regs X) : (ucells X).size = 32 := by simp [ucells, h.len]
theorem ucells_get {X : List Nat} (h : Regs X) (r : Nat) (hr : r < 32) : (ucells X)[r]? = some (.int .u64 (getR X r)) := by
  have hl := h.len
  unfold ucells getR
  rw [List.getElem?_toArray, List.getElem?_map, List.getElem?_eq_getElem (by omega), getD_at _ _ _ (by omega)]
  rfl
theorem ucells_set (X : List Nat) (r n : Nat) : (ucells X).setIfInBounds r (.int .u64 n) = ucells (X.set r n) := by
  unfold ucells
  rw [List.setIfInBounds_toArray, List.map_set]
theorem getR_put' (X : List Nat) (k v : Nat) (h : X.length = 32) (hk : k < 32) : getR (X.set k v) k = v := by
  unfold getR
  rw [getD_at _ _ _ (by rw [List.length_set]; omega)]
  simp
theorem ucells_one (X : List Nat) : (ucells X).all (fun u => u.oneCell') = true := by
  simp [ucells, Value.oneCell']
theorem info34 {X : List Nat} (h : Regs X) : (Tryz.prog.info? 34).map (fun x => x.size) = some (ucells X).size := by rw [ucells_size h]; exact info_regs
set_option maxHeartbeats 4000000 in
set_option maxRecDepth 100000 in
theorem registers_any (v : Value) (w : World) (hv : U64s w v) :
    Calls Tryz.prog 17 #[v] w fun e w' => ∃ X, Regs X ∧ e = .returned (.agg (ucells X)) ∧ Below w.heap.size w w' := by
  have HV := hid hv
  obtain ⟨p, n, c, rfl, hn, hc⟩ := hv
  have Hc := hid hc
  have Hn := hid hn
  clear hc hn
  go_enter Tryz.func17, Tryz.ntmps17
  go_wp2_with fail
  go_loopw [4] (fun i wr => ∃ (k : Nat) (X : List Nat), k ≤ 32 ∧ i = .int .i64 k ∧ Regs X ∧ wr.heap[w.heap.size + 1]? = some (.cells (ucells X) 34 (0, 0)) ∧ (∃ cs, cs.size = 32 ∧ wr.heap[w.heap.size]? = some (.cells cs 34 (0, 0))) ∧ Below w.heap.size w wr) (fun i _ => 32 - (intOf i).toNat)
  case atStart =>
    exact ⟨0, List.replicate 32 0, by omega, rfl, ⟨by simp, by intro n hn; rw [List.eq_of_mem_replicate hn]; decide⟩, (by have := heap_alloc_new (w.alloc (.cells (ucells (List.replicate 32 0)) 34)) (.cells (ucells (List.replicate 32 0)) 34); rw [World.size_alloc] at this; exact this),
      ⟨ucells (List.replicate 32 0), by simp [ucells], heap_alloc2_old _ _ _⟩, ((Below.refl _ _).alloc (Nat.le_refl _) _).alloc (by simp) _⟩
  case round =>
    obtain ⟨k, X, hk, rfl, hX, hg, ⟨cs, hcs, hg0⟩, hb⟩ := hrel
    by_cases hlt : k < 32
    · have hcell : wr.cell? ⟨w.heap.size + 1, k, none⟩ = some (.int .u64 (getR X k)) := by rw [cell_of_row wr _ _ _ _ _ hg]; exact ucells_get hX k hlt
      have hfz := frozen_of_row wr _ k _ _ hg
      obtain ⟨W1, hW1⟩ : ∃ W1, wr.setCell ⟨w.heap.size + 1, k, none⟩ (.int .u64 (65792 + 8 * (k : Int))) = W1 := ⟨_, rfl⟩
      have hr1 := hid (show W1.heap[w.heap.size + 1]? = some (.cells (ucells (X.set k (65792 + 8 * k))) 34 (0, 0)) by
        rw [← hW1, heap_setCell_same _ _ _ _ _ _ hg, show (65792 + 8 * (k : Int)) = ((65792 + 8 * k : Nat) : Int) by omega, ucells_set])
      have hX1 := hid (hX.set k (65792 + 8 * k) (by omega))
      have h01 := hid (show W1.heap[w.heap.size]? = some (.cells cs 34 (0, 0)) by rw [← hW1]; exact (heap_setCell_other _ _ _ _ (by simp)).trans hg0)
      have hb1 := hid (show Below w.heap.size w W1 by rw [← hW1]; exact hb.setCell (by simp) _)
      have HW1 := hid hW1
      have HX := hid hX
      clear hW1 hX hg hg0 hb
      go_upto_region 6 with (fail)
      rw [HW1.out]
      clear hcell hfz HW1
      have hcell1 : W1.cell? ⟨w.heap.size + 1, k, none⟩ = some (.int .u64 ((65792 + 8 * k : Nat) : Int)) := by rw [cell_of_row W1 _ _ _ _ _ hr1.out, ucells_get hX1.out k hlt, getR_put' X k _ HX.out.len hlt]
      have hfz1 := frozen_of_row W1 _ k _ _ hr1.out
      by_cases hkn : k < n
      · obtain ⟨b, off, rfl, hbl, hj⟩ := Hc.out (by omega)
        obtain ⟨x, hx, hxc⟩ := hj k hkn
        have hc1 : W1.cell? ⟨b, off + k, none⟩ = some (.int .u64 x) := (hb1.out.cell (p := ⟨b, off + k, none⟩) hbl).trans hxc
        have Hr2 := hid (show (W1.setCell ⟨w.heap.size + 1, k, none⟩ (.int .u64 (x : Int))).heap[w.heap.size + 1]? = some (.cells (ucells ((X.set k (65792 + 8 * k)).set k x)) 34 (0, 0)) by
          rw [heap_setCell_same _ _ _ _ _ _ hr1.out, ucells_set])
        have HX2 := hid (hX1.out.set k x hx)
        have H02 := hid ((heap_setCell_other W1 ⟨w.heap.size + 1, k, none⟩ w.heap.size (.int .u64 (x : Int)) (by simp)).trans h01.out)
        have Hb2 := hid (show Below w.heap.size w (W1.setCell ⟨w.heap.size + 1, k, none⟩ (.int .u64 (x : Int))) from hb1.out.setCell (by simp) _)
        clear hj hxc hx
        go_wp2_with fail
        go_roundw
        case rel => exact ⟨k + 1, _, by omega, by go_num, HX2.out, Hr2.out, ⟨cs, hcs, H02.out⟩, Hb2.out⟩
        case measure => simp [intOf]; omega
      · go_wp2_with fail
        go_roundw
        case rel => exact ⟨k + 1, _, by omega, by go_num, hX1.out, hr1.out, ⟨cs, hcs, h01.out⟩, hb1.out⟩
        case measure => simp [intOf]; omega
    · obtain rfl : k = 32 := by omega
      have Hg := hid hg
      have Hg0 := hid hg0
      have HX := hid hX
      have Hcs := hid hcs
      clear hg hg0 hX hcs
      go_upto_region 8 with (fail)
      apply wp_region_lit
      refine wpList_load_row rfl 34 (.tmp 3) rfl (w.heap.size + 1) rfl 34 (ucells X) (0, 0) _ Hg.out Tryz.underlying34 rfl (info34 HX.out) ?_
      simp only [Act.put, List.setIfInBounds_toArray, List.set_cons_zero, List.set_cons_succ]
      refine wpList_store_row rfl 34 (.tmp 2) (.tmp 25) rfl w.heap.size (ucells X) rfl rfl 34 cs Hg0.out (info34 HX.out) (by rw [Hcs.out, ucells_size HX.out]) (ucells_one X) ?_
      simp only [Act.put, List.setIfInBounds_toArray, List.set_cons_zero, List.set_cons_succ]
      have N1 := setRow_heap wr w.heap.size cs (ucells X) _ _ Hg0.out
      go_wp2_with fail
      refine bodyPost_ret (results_cell_row rfl _ _ w.heap.size 34 (ucells X) (0, 0) _ rfl N1 Tryz.underlying34 rfl (info34 HX.out)) rfl ?_
      exact ⟨X, HX.out, rfl, below_setRow hb (Nat.le_refl _) _⟩
end
end Go.Proofs.YtiemingpbommeaaGreatDoor

/- The document's Put answers as the program's. -/
namespace Go.Proofs.YtiemingpbommeaaGreatDoor
open Go Go.RowKit
noncomputable section
set_option linter.unusedVariables false
set_option linter.unusedSimpArgs false
theorem putL_succ (n k : Nat) : putL n (k + 1) = putL n k ++ [UInt8.ofNat (n / 2 ^ (8 * k) % 256)] := by
  unfold putL; rw [List.range_succ, List.map_append]; rfl
theorem shift_step (n k : Nat) : n / 2 ^ (8 * k) / 256 = n / 2 ^ (8 * (k + 1)) := by
  rw [Nat.div_div_eq_div_mul, Nat.mul_add, Nat.pow_add]
theorem shift_zero (n : Nat) : n / 2 ^ (8 * 0) = n := by simp
set_option maxHeartbeats 4000000 in
set_option maxRecDepth 100000 in
theorem refPut_any (n size : Nat) (w : World) (hn : n < 18446744073709551616) (h8 : size ≤ 8) :
    Calls Tryz.prog 42 #[.int .u64 n, .int .i64 size] w fun e w' => e = .returned (.string ⟨(putL n size).toArray⟩) ∧ Below w.heap.size w w' := by
  go_enter Tryz.func42, Tryz.ntmps42
  go_wp2_with fail
  go_loopw [6, 5, 0] (fun i s v wr => ∃ k : Nat, k ≤ size ∧ i = .int .i64 k ∧ s = .string ⟨(putL n k).toArray⟩ ∧ v = .int .u64 ((n / 2 ^ (8 * k) : Nat) : Int) ∧ Below w.heap.size w wr) (fun i _ _ _ => size - (intOf i).toNat)
  case atStart => exact ⟨0, by omega, rfl, rfl, by rw [shift_zero], Below.refl _ _⟩
  case round =>
    obtain ⟨k, hk, rfl, rfl, rfl, hb⟩ := hrel
    have hq : n / 2 ^ (8 * k) < 18446744073709551616 := Nat.lt_of_le_of_lt (Nat.div_le_self _ _) hn
    have Hstep := hid (shift_step n k)
    have Hput := hid (putL_succ n k)
    generalize n / 2 ^ (8 * k) = q at *
    by_cases hlt : k < size
    · have hconv := run_convert_bytes_back (P := Tryz.prog) (wr.alloc (.cells #[.int .u8 ((q : Int) % 256)] 5)) 90 9 5 ⟨wr.heap.size, 0, none⟩ 1 [UInt8.ofNat (q % 256)] Tryz.underlying90 Tryz.underlying5 Tryz.underlying9 (fun j hj => by
        obtain rfl : j = 0 := by simpa using hj
        have e : (⟨wr.heap.size, 0, none⟩ : Addr).add 0 = ⟨wr.heap.size, 0, none⟩ := by unfold Addr.add; split <;> simp_all
        rw [e, cell_of_row _ _ _ _ _ _ (heap_alloc_new wr _)]
        simp)
      rw [show [UInt8.ofNat (q % 256)].length = 1 from rfl] at hconv
      have hl := putL_length n k
      go_wp2_with fail
      go_roundw
      case rel => exact ⟨k + 1, by omega, by go_num, by rw [Hput.out]; simp [ByteArray.ext_iff], by rw [← Hstep.out]; simp, hb.alloc hb.size _⟩
      case measure => simp [intOf]; omega
    · obtain rfl : k = size := by omega
      go_wp2_with fail
      go_ret
      exact ⟨rfl, hb⟩
end
end Go.Proofs.YtiemingpbommeaaGreatDoor
