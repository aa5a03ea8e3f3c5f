/- The processor: instructions after which it goes on elsewhere. -/
import Derived.Test.YtiemingpbommeaaGreatDoorGf
namespace Go.Proofs.YtiemingpbommeaaGreatDoor
open Go Go.RowKit
noncomputable section
set_option linter.unusedVariables false
set_option linter.unusedSimpArgs false
theorem new_row (W : World) (cs ds : Array Value) (t : TypeId) : ∃ W', (W.alloc (.cells ds t)).setRow W.heap.size cs = W' ∧ W'.heap[W.heap.size]? = some (.cells cs t (0, 0)) ∧ Below W.heap.size W W' :=
  ⟨_, rfl, setRow_heap _ _ _ _ _ _ (heap_alloc_new _ _), below_setRow ((Below.refl _ _).alloc (Nat.le_refl _) _) (Nat.le_refl _) _⟩
/-- a jump: to a place, where it is one: the registers, the place, the fault's number and address -/
def jumpN (X X' : List Nat) (pc t : Nat) : List Nat × Nat × Nat × Nat := if t % 4 = 0 then (X', t, 0, 0) else (X, pc, 13, t)
def goesN (X : List Nat) (pc : Nat) (o : Int) (d a b : Nat) (n : Int) : (List Nat × Nat × Nat × Nat) × Bool :=
  if o = 2 then (jumpN X (setR X d (adr pc 4)) pc (adr pc (u64N n)), true)
  else if o = 3 then (jumpN X (setR X d (adr pc 4)) pc (adr (getR X a) (u64N n) / 2 * 2), true)
  else if 4 ≤ o ∧ o ≤ 9 then (jumpN X X pc (if takenN o (getR X a) (getR X b) then adr pc (u64N n) else adr pc 4), true)
  else ((X, pc, 0, 0), false)
def GoesPost (g : Nat) (r : (List Nat × Nat × Nat × Nat) × Bool) (w : World) (e : Ending) (w' : World) : Prop :=
  e = .returned (.tuple #[fltV r.1.2.2.1 r.1.2.2.2, .bool r.2]) ∧ StIs w' g r.1.1 r.1.2.1 ∧ Keep [g] w w'
theorem adr_four (x : Nat) : IntKind.u64.wrap ((x : Int) + 4) = (adr x 4 : Int) := by rw [IntKind.wrap_u64]; unfold adr; omega
theorem jump_at (g : Nat) (X : List Nat) (pc t : Nat) (ti : Int) (h : ti = t) (w : World) (hS : StIs w g X pc) (hX : Regs X) (ht : t < 18446744073709551616) :
    Calls Tryz.prog 73 #[.pointer (some ⟨g, 0, none⟩), .int .u64 ti] w fun e w' => e = .returned (fltV (jumpN X X pc t).2.2.1 (jumpN X X pc t).2.2.2) ∧ StIs w' g X (jumpN X X pc t).2.1 ∧ Keep [g] w w' := by
  subst h
  unfold jumpN
  by_cases h4 : t % 4 = 0
  · rw [if_pos h4]; exact jump_yes g X pc t w hS hX ht h4
  · rw [if_neg h4]; exact jump_no g X pc t w hS hX ht h4
set_option maxHeartbeats 2000000 in
set_option maxRecDepth 100000 in
theorem goes_none (g : Nat) (X : List Nat) (pc : Nat) (o : Int) (d a b : Nat) (n : Int) (w : World) (hT : StIs w g X pc) (hX : Regs X) (hd : d < 32) (ha : a < 32) (hb : b < 32) (ho : o < 2 ∨ 9 < o) :
    Calls Tryz.prog 34 #[.pointer (some ⟨g, 0, none⟩), .agg (instCells o d a b n)] w (GoesPost g ((X, pc, 0, 0), false) w) := by
  have HX := hid hX
  have HT := hid hT
  have hgl := hT.lt
  have hcp := hT.cellPc hX
  clear hX hT
  unfold instCells
  go_enter Tryz.func34, Tryz.ntmps34
  go_wp2_with fail
  obtain ⟨W, hW⟩ : ∃ W, (w.alloc (.cells #[.int .i64 o, .int .i64 d, .int .i64 a, .int .i64 b, .int .i64 n] 44)).alloc (.cells #[.int .i64 0, .int .u64 0, .string ⟨#[]⟩] 31) = W := ⟨_, rfl⟩
  have B1 : Hid (Below w.heap.size w W) := hid (by rw [← hW]; exact ((Below.refl _ _).alloc (Nat.le_refl _) _).alloc (by simp) _)
  have M5 : Hid (W.heap[w.heap.size]? = some (.cells #[.int .i64 o, .int .i64 d, .int .i64 a, .int .i64 b, .int .i64 n] 44 (0, 0))) := hid (by rw [← hW]; exact heap_alloc2_old w _ _)
  have M6 : Hid (W.heap[w.heap.size + 1]? = some (.cells #[.int .i64 0, .int .u64 0, .string ⟨#[]⟩] 31 (0, 0))) := hid (by rw [← hW]; exact heap_alloc2_new w _ _)
  have x4 : W.cell? ⟨w.heap.size, 4, none⟩ = some (.int .i64 n) := by rw [cell_of_row W _ _ _ _ _ M5.out]; rfl
  have hcW : W.cell? ⟨g, 32, none⟩ = some (.int .u64 pc) := by rw [← hcp]; exact World.cell?_of_block (B1.out.block _ hgl)
  have l5 := blk_lt' M5.out
  have lg : g < W.heap.size := Nat.lt_of_lt_of_le hgl B1.out.size
  rw [hW]
  clear hW
  refine wp_region_quiet_in (fun w' => ∃ u, w' = aft W u) (by kernel_rfl) (by kernel_rfl) (aft_drew _) ?_
  repeat (go_big_quiet_step (fail))
  refine wpQuiet_nil ?_
  rintro W2 ⟨u, rfl⟩
  obtain ⟨W2, hW2⟩ : ∃ W2, aft W u = W2 := ⟨_, rfl⟩
  have bu : Hid (Below W.heap.size W W2) := hid (by rw [← hW2]; exact aft_below W u)
  rw [hW2]
  clear hW2
  have N5 := hid ((bu.out.block _ l5).trans M5.out)
  have N6 := hid ((bu.out.block _ (blk_lt' M6.out)).trans M6.out)
  have B2 := hid (B1.out.trans (bu.out.mono B1.out.size))
  clear x4 hcW l5 lg M5 M6 B1 bu
  have HT2 := hid (HT.out.below B2.out)
  have y0 : W2.cell? ⟨w.heap.size, 0, none⟩ = some (.int .i64 o) := by rw [cell_of_row W2 _ _ _ _ _ N5.out]; rfl
  have y1 : W2.cell? ⟨w.heap.size, 1, none⟩ = some (.int .i64 d) := by rw [cell_of_row W2 _ _ _ _ _ N5.out]; rfl
  simp only [adr_four, adr_wrap]
  go_wp2_with (refine wpList_store_row rfl 31 (.tmp 4) (.tmp 93) rfl (w.heap.size + 1) _ rfl rfl 31 _ N6.out infoFault rfl (faultRow_one ..) ?_)
  refine bodyPost_ret (results_cell_tmp rfl _ _ (w.heap.size + 1) 31 _ (0, 0) _ rfl (setRow_heap _ _ _ _ _ _ N6.out) Tryz.underlying31 rfl infoFault) rfl ?_
  exact ⟨rfl, (setRow_other _ _ _ _ (by omega)).trans HT2.out, (Keep.of_below B2.out).setRow _ _ (.inl (by omega))⟩
set_option maxHeartbeats 2000000 in
set_option maxRecDepth 100000 in
theorem goes_jal (g : Nat) (X : List Nat) (pc : Nat) (d a b : Nat) (n : Int) (w : World) (hT : StIs w g X pc) (hX : Regs X) (hd : d < 32) (ha : a < 32) (hb : b < 32) :
    Calls Tryz.prog 34 #[.pointer (some ⟨g, 0, none⟩), .agg (instCells 2 d a b n)] w (GoesPost g (jumpN X (setR X d (adr pc 4)) pc (adr pc (u64N n)), true) w) := by
  obtain ⟨o, ho⟩ : ∃ o : Int, o = 2 := ⟨_, rfl⟩
  rw [← ho]
  have Ho := hid ho
  clear ho
  have HX := hid hX
  have HT := hid hT
  have hgl := hT.lt
  have hcp := hT.cellPc hX
  clear hX hT
  unfold instCells
  go_enter Tryz.func34, Tryz.ntmps34
  go_wp2_with fail
  obtain ⟨W, hW⟩ : ∃ W, (w.alloc (.cells #[.int .i64 o, .int .i64 d, .int .i64 a, .int .i64 b, .int .i64 n] 44)).alloc (.cells #[.int .i64 0, .int .u64 0, .string ⟨#[]⟩] 31) = W := ⟨_, rfl⟩
  have B1 : Hid (Below w.heap.size w W) := hid (by rw [← hW]; exact ((Below.refl _ _).alloc (Nat.le_refl _) _).alloc (by simp) _)
  have M5 : Hid (W.heap[w.heap.size]? = some (.cells #[.int .i64 o, .int .i64 d, .int .i64 a, .int .i64 b, .int .i64 n] 44 (0, 0))) := hid (by rw [← hW]; exact heap_alloc2_old w _ _)
  have M6 : Hid (W.heap[w.heap.size + 1]? = some (.cells #[.int .i64 0, .int .u64 0, .string ⟨#[]⟩] 31 (0, 0))) := hid (by rw [← hW]; exact heap_alloc2_new w _ _)
  have x4 : W.cell? ⟨w.heap.size, 4, none⟩ = some (.int .i64 n) := by rw [cell_of_row W _ _ _ _ _ M5.out]; rfl
  have hcW : W.cell? ⟨g, 32, none⟩ = some (.int .u64 pc) := by rw [← hcp]; exact World.cell?_of_block (B1.out.block _ hgl)
  have l5 := blk_lt' M5.out
  have lg : g < W.heap.size := Nat.lt_of_lt_of_le hgl B1.out.size
  rw [hW]
  clear hW
  refine wp_region_quiet_in (fun w' => ∃ u, w' = aft W u) (by kernel_rfl) (by kernel_rfl) (aft_drew _) ?_
  repeat (go_big_quiet_step (fail))
  refine wpQuiet_nil ?_
  rintro W2 ⟨u, rfl⟩
  obtain ⟨W2, hW2⟩ : ∃ W2, aft W u = W2 := ⟨_, rfl⟩
  have bu : Hid (Below W.heap.size W W2) := hid (by rw [← hW2]; exact aft_below W u)
  rw [hW2]
  clear hW2
  have N5 := hid ((bu.out.block _ l5).trans M5.out)
  have N6 := hid ((bu.out.block _ (blk_lt' M6.out)).trans M6.out)
  have B2 := hid (B1.out.trans (bu.out.mono B1.out.size))
  clear x4 hcW l5 lg M5 M6 B1 bu
  have HT2 := hid (HT.out.below B2.out)
  have y0 : W2.cell? ⟨w.heap.size, 0, none⟩ = some (.int .i64 o) := by rw [cell_of_row W2 _ _ _ _ _ N5.out]; rfl
  have y1 : W2.cell? ⟨w.heap.size, 1, none⟩ = some (.int .i64 d) := by rw [cell_of_row W2 _ _ _ _ _ N5.out]; rfl
  simp only [adr_four, adr_wrap]
  have ho := Ho.out
  subst ho
  go_wp2_with fail
  refine (jump_at g X pc (adr pc (u64N n)) _ rfl _ HT2.out HX.out (adr_lt _ _)).mono ?_
  rintro e W3 ⟨rfl, hst, hkp⟩
  obtain ⟨t, hte⟩ : ∃ t, adr pc (u64N n) = t := ⟨_, rfl⟩
  have Hte := hid hte
  rw [hte] at hst ⊢
  clear hte
  have P5 := hid (hkp.row N5.out (by simp; omega))
  have P6 := hid (hkp.row N6.out (by simp; omega))
  have HT3 := hid hst
  have K3 := hid ((Keep.of_below B2.out).trans hkp)
  clear hst hkp HT2 N5 N6 B2 y0 y1
  have l6 := blk_lt' P6.out
  have hsz := K3.out.size
  by_cases h4 : t % 4 = 0
  · have hj : ∀ X', jumpN X X' pc t = (X', t, 0, 0) := fun X' => by unfold jumpN; rw [if_pos h4]
    rw [hj] at HT3 ⊢
    obtain ⟨W4, h4e⟩ : ∃ W4, W3.alloc (.cells #[.int .i64 ((0 : Nat) : Int), .int .u64 ((0 : Nat) : Int), .string ⟨#[]⟩] 31) = W4 := ⟨_, rfl⟩
    have R0 : W4.heap[W3.heap.size]? = some (.cells #[.int .i64 ((0 : Nat) : Int), .int .u64 ((0 : Nat) : Int), .string ⟨#[]⟩] 31 (0, 0)) := by rw [← h4e]; exact heap_alloc_new _ _
    have RB : Below W3.heap.size W3 W4 := by rw [← h4e]; exact (Below.refl _ _).alloc (Nat.le_refl _) _
    have R0 := hid R0
    have RB := hid RB
    have R5 := hid ((RB.out.block _ (blk_lt' P5.out)).trans P5.out)
    have R6 := hid ((RB.out.block _ (blk_lt' P6.out)).trans P6.out)
    have HT4 := hid (HT3.out.below RB.out)
    have K4 := hid (K3.out.trans (Keep.of_below RB.out))
    have q0 : W4.cell? ⟨W3.heap.size, 0, none⟩ = some (.int .i64 ((0 : Nat) : Int)) := by rw [cell_of_row W4 _ _ _ _ _ R0.out]; rfl
    have q1 : W4.cell? ⟨W3.heap.size, 1, none⟩ = some (.int .u64 ((0 : Nat) : Int)) := by rw [cell_of_row W4 _ _ _ _ _ R0.out]; rfl
    have q2 : W4.cell? ⟨W3.heap.size, 2, none⟩ = some (.string ⟨#[]⟩) := by rw [cell_of_row W4 _ _ _ _ _ R0.out]; rfl
    have z1 : W4.cell? ⟨w.heap.size, 1, none⟩ = some (.int .i64 d) := by rw [cell_of_row W4 _ _ _ _ _ R5.out]; rfl
    go_wp2_with fail
    refine (ok_zero _ _ _).mono ?_
    rintro e W5 ⟨rfl, hb5⟩
    replace hb5 : Below W4.heap.size W4 W5 := by rw [← h4e]; exact hb5
    clear h4e
    have S0 := hid ((hb5.block _ (blk_lt' R0.out)).trans R0.out)
    have S5 := hid ((hb5.block _ (blk_lt' R5.out)).trans R5.out)
    have S6 := hid ((hb5.block _ (blk_lt' R6.out)).trans R6.out)
    have HT5 := hid (HT4.out.below hb5)
    have K5 := hid (K4.out.trans (Keep.of_below hb5))
    clear hb5 q0 q1 q2 z1 R0 R5 R6 HT4 K4 RB HT3 K3 P5 P6
    have z1 : W5.cell? ⟨w.heap.size, 1, none⟩ = some (.int .i64 d) := by rw [cell_of_row W5 _ _ _ _ _ S5.out]; rfl
    go_wp2_with fail
    refine (set_any g X t d (adr pc 4) _ HT5.out HX.out hd).mono ?_
    rintro e W6 ⟨rfl, hst, hkp⟩
    have U0 := hid (hkp.row S0.out (by simp; omega))
    have U6 := hid (hkp.row S6.out (by simp; omega))
    have HT6 := hid hst
    have K6 := hid (K5.out.trans hkp)
    clear hst hkp z1
    have q0 : W6.cell? ⟨W3.heap.size, 0, none⟩ = some (.int .i64 ((0 : Nat) : Int)) := by rw [cell_of_row W6 _ _ _ _ _ U0.out]; rfl
    have q1 : W6.cell? ⟨W3.heap.size, 1, none⟩ = some (.int .u64 ((0 : Nat) : Int)) := by rw [cell_of_row W6 _ _ _ _ _ U0.out]; rfl
    have q2 : W6.cell? ⟨W3.heap.size, 2, none⟩ = some (.string ⟨#[]⟩) := by rw [cell_of_row W6 _ _ _ _ _ U0.out]; rfl
    go_wp2_with (refine wpList_store_row rfl 31 (.tmp 4) (.tmp 37) rfl (w.heap.size + 1) #[.int .i64 ((0 : Nat) : Int), .int .u64 ((0 : Nat) : Int), .string ⟨#[]⟩] rfl rfl 31 _ U6.out infoFault rfl (faultRow_one ..) ?_)
    refine bodyPost_ret (results_cell_tmp rfl _ _ (w.heap.size + 1) 31 #[.int .i64 ((0 : Nat) : Int), .int .u64 ((0 : Nat) : Int), .string ⟨#[]⟩] (0, 0) _ rfl (setRow_heap _ _ _ _ _ _ U6.out) Tryz.underlying31 rfl infoFault) rfl ?_
    unfold GoesPost
    rw [Hte.out, hj]
    exact ⟨rfl, (setRow_other _ _ _ _ (by omega)).trans HT6.out, K6.out.setRow _ _ (.inl (by omega))⟩
  · have hj : ∀ X', jumpN X X' pc t = (X, pc, 13, t) := fun X' => by unfold jumpN; rw [if_neg h4]
    rw [hj] at HT3 ⊢
    obtain ⟨W4, h4e⟩ : ∃ W4, W3.alloc (.cells #[.int .i64 ((13 : Nat) : Int), .int .u64 t, .string ⟨#[]⟩] 31) = W4 := ⟨_, rfl⟩
    have R0 : W4.heap[W3.heap.size]? = some (.cells #[.int .i64 ((13 : Nat) : Int), .int .u64 t, .string ⟨#[]⟩] 31 (0, 0)) := by rw [← h4e]; exact heap_alloc_new _ _
    have RB : Below W3.heap.size W3 W4 := by rw [← h4e]; exact (Below.refl _ _).alloc (Nat.le_refl _) _
    have R0 := hid R0
    have RB := hid RB
    have R5 := hid ((RB.out.block _ (blk_lt' P5.out)).trans P5.out)
    have R6 := hid ((RB.out.block _ (blk_lt' P6.out)).trans P6.out)
    have HT4 := hid (HT3.out.below RB.out)
    have K4 := hid (K3.out.trans (Keep.of_below RB.out))
    have q0 : W4.cell? ⟨W3.heap.size, 0, none⟩ = some (.int .i64 ((13 : Nat) : Int)) := by rw [cell_of_row W4 _ _ _ _ _ R0.out]; rfl
    have q1 : W4.cell? ⟨W3.heap.size, 1, none⟩ = some (.int .u64 t) := by rw [cell_of_row W4 _ _ _ _ _ R0.out]; rfl
    have q2 : W4.cell? ⟨W3.heap.size, 2, none⟩ = some (.string ⟨#[]⟩) := by rw [cell_of_row W4 _ _ _ _ _ R0.out]; rfl
    have z1 : W4.cell? ⟨w.heap.size, 1, none⟩ = some (.int .i64 d) := by rw [cell_of_row W4 _ _ _ _ _ R5.out]; rfl
    go_wp2_with fail
    refine (ok_not _ _ _ _ (by decide)).mono ?_
    rintro e W5 ⟨rfl, hb5⟩
    replace hb5 : Below W4.heap.size W4 W5 := by rw [← h4e]; exact hb5
    clear h4e
    have S0 := hid ((hb5.block _ (blk_lt' R0.out)).trans R0.out)
    have S5 := hid ((hb5.block _ (blk_lt' R5.out)).trans R5.out)
    have S6 := hid ((hb5.block _ (blk_lt' R6.out)).trans R6.out)
    have HT5 := hid (HT4.out.below hb5)
    have K5 := hid (K4.out.trans (Keep.of_below hb5))
    clear hb5 q0 q1 q2 z1 R0 R5 R6 HT4 K4 RB HT3 K3 P5 P6
    have q0 : W5.cell? ⟨W3.heap.size, 0, none⟩ = some (.int .i64 ((13 : Nat) : Int)) := by rw [cell_of_row W5 _ _ _ _ _ S0.out]; rfl
    have q1 : W5.cell? ⟨W3.heap.size, 1, none⟩ = some (.int .u64 t) := by rw [cell_of_row W5 _ _ _ _ _ S0.out]; rfl
    have q2 : W5.cell? ⟨W3.heap.size, 2, none⟩ = some (.string ⟨#[]⟩) := by rw [cell_of_row W5 _ _ _ _ _ S0.out]; rfl
    go_wp2_with (refine wpList_store_row rfl 31 (.tmp 4) (.tmp 37) rfl (w.heap.size + 1) #[.int .i64 ((13 : Nat) : Int), .int .u64 t, .string ⟨#[]⟩] rfl rfl 31 _ S6.out infoFault rfl (faultRow_one ..) ?_)
    refine bodyPost_ret (results_cell_tmp rfl _ _ (w.heap.size + 1) 31 #[.int .i64 ((13 : Nat) : Int), .int .u64 t, .string ⟨#[]⟩] (0, 0) _ rfl (setRow_heap _ _ _ _ _ _ S6.out) Tryz.underlying31 rfl infoFault) rfl ?_
    unfold GoesPost
    rw [Hte.out, hj]
    exact ⟨rfl, (setRow_other _ _ _ _ (by omega)).trans HT5.out, K5.out.setRow _ _ (.inl (by omega))⟩
theorem andNot1 (x : Nat) (hx : x < 18446744073709551616) : bits .andNot .u64 (x : Int) 1 = ((x / 2 * 2 : Nat) : Int) := by
  rw [u64_andNot (x : Int) 1 (by omega) (by omega) (by omega) (by omega), Int.toNat_natCast, show (1 : Int).toNat = 1 from rfl]
  congr 1
  have e2 : x / 2 * 2 = (x >>> 1) <<< 1 := by rw [Nat.shiftLeft_eq, Nat.shiftRight_eq_div_pow]
  rw [e2, show 18446744073709551615 - 1 = 9223372036854775807 <<< 1 by decide]
  apply Nat.eq_of_testBit_eq
  intro i
  rw [Nat.testBit_and, Nat.testBit_shiftLeft, Nat.testBit_shiftLeft, Nat.testBit_shiftRight, show (9223372036854775807 : Nat) = 2 ^ 63 - 1 by decide, Nat.testBit_two_pow_sub_one]
  by_cases h : 1 ≤ i
  · rw [show 1 + (i - 1) = i by omega]
    by_cases h3 : i - 1 < 63
    · simp [h, h3]
    · have : x.testBit i = false := Nat.testBit_lt_two_pow (Nat.lt_of_lt_of_le hx (Nat.pow_le_pow_right (n := 2) (i := 64) (by omega) (by omega)))
      simp [this]
  · simp [h]
set_option maxHeartbeats 2000000 in
set_option maxRecDepth 100000 in
theorem goes_jalr (g : Nat) (X : List Nat) (pc : Nat) (d a b : Nat) (n : Int) (w : World) (hT : StIs w g X pc) (hX : Regs X) (hd : d < 32) (ha : a < 32) (hb : b < 32) :
    Calls Tryz.prog 34 #[.pointer (some ⟨g, 0, none⟩), .agg (instCells 3 d a b n)] w (GoesPost g (jumpN X (setR X d (adr pc 4)) pc (adr (getR X a) (u64N n) / 2 * 2), true) w) := by
  obtain ⟨o, ho⟩ : ∃ o : Int, o = 3 := ⟨_, rfl⟩
  rw [← ho]
  have Ho := hid ho
  clear ho
  have HX := hid hX
  have HT := hid hT
  have hgl := hT.lt
  have hcp := hT.cellPc hX
  clear hX hT
  unfold instCells
  go_enter Tryz.func34, Tryz.ntmps34
  go_wp2_with fail
  obtain ⟨W, hW⟩ : ∃ W, (w.alloc (.cells #[.int .i64 o, .int .i64 d, .int .i64 a, .int .i64 b, .int .i64 n] 44)).alloc (.cells #[.int .i64 0, .int .u64 0, .string ⟨#[]⟩] 31) = W := ⟨_, rfl⟩
  have B1 : Hid (Below w.heap.size w W) := hid (by rw [← hW]; exact ((Below.refl _ _).alloc (Nat.le_refl _) _).alloc (by simp) _)
  have M5 : Hid (W.heap[w.heap.size]? = some (.cells #[.int .i64 o, .int .i64 d, .int .i64 a, .int .i64 b, .int .i64 n] 44 (0, 0))) := hid (by rw [← hW]; exact heap_alloc2_old w _ _)
  have M6 : Hid (W.heap[w.heap.size + 1]? = some (.cells #[.int .i64 0, .int .u64 0, .string ⟨#[]⟩] 31 (0, 0))) := hid (by rw [← hW]; exact heap_alloc2_new w _ _)
  have x4 : W.cell? ⟨w.heap.size, 4, none⟩ = some (.int .i64 n) := by rw [cell_of_row W _ _ _ _ _ M5.out]; rfl
  have hcW : W.cell? ⟨g, 32, none⟩ = some (.int .u64 pc) := by rw [← hcp]; exact World.cell?_of_block (B1.out.block _ hgl)
  have l5 := blk_lt' M5.out
  have lg : g < W.heap.size := Nat.lt_of_lt_of_le hgl B1.out.size
  rw [hW]
  clear hW
  refine wp_region_quiet_in (fun w' => ∃ u, w' = aft W u) (by kernel_rfl) (by kernel_rfl) (aft_drew _) ?_
  repeat (go_big_quiet_step (fail))
  refine wpQuiet_nil ?_
  rintro W2 ⟨u, rfl⟩
  obtain ⟨W2, hW2⟩ : ∃ W2, aft W u = W2 := ⟨_, rfl⟩
  have bu : Hid (Below W.heap.size W W2) := hid (by rw [← hW2]; exact aft_below W u)
  rw [hW2]
  clear hW2
  have N5 := hid ((bu.out.block _ l5).trans M5.out)
  have N6 := hid ((bu.out.block _ (blk_lt' M6.out)).trans M6.out)
  have B2 := hid (B1.out.trans (bu.out.mono B1.out.size))
  clear x4 hcW l5 lg M5 M6 B1 bu
  have HT2 := hid (HT.out.below B2.out)
  have y0 : W2.cell? ⟨w.heap.size, 0, none⟩ = some (.int .i64 o) := by rw [cell_of_row W2 _ _ _ _ _ N5.out]; rfl
  have y1 : W2.cell? ⟨w.heap.size, 1, none⟩ = some (.int .i64 d) := by rw [cell_of_row W2 _ _ _ _ _ N5.out]; rfl
  simp only [adr_four, adr_wrap]
  have ho := Ho.out
  subst ho
  have hA := HX.out.get a
  have y2 : W2.cell? ⟨w.heap.size, 2, none⟩ = some (.int .i64 a) := by rw [cell_of_row W2 _ _ _ _ _ N5.out]; rfl
  have y4 : W2.cell? ⟨w.heap.size, 4, none⟩ = some (.int .i64 n) := by rw [cell_of_row W2 _ _ _ _ _ N5.out]; rfl
  have yA := HT2.out.cell HX.out ha
  obtain ⟨A, hAe⟩ : ∃ A, getR X a = A := ⟨_, rfl⟩
  have HAe := hid hAe
  rw [hAe] at hA yA
  clear hAe
  go_wp2_with fail
  obtain ⟨D, hD⟩ : ∃ D, W2.drew = D := ⟨_, rfl⟩
  refine wp_region_allocT 14 13 9 (.cells #[.int .i64 0, .int .u64 0, .string ⟨#[]⟩] 31) (by kernel_rfl) (by kernel_rfl) (by decide) _ rfl rfl (fun a w => by kernel_rfl) ?_
  have z2 : D.cell? ⟨w.heap.size, 2, none⟩ = some (.int .i64 a) := by rw [← hD]; exact y2
  have z4 : D.cell? ⟨w.heap.size, 4, none⟩ = some (.int .i64 n) := by rw [← hD]; exact y4
  have zA : D.cell? ⟨g, a, none⟩ = some (.int .u64 A) := by rw [← hD]; exact yA
  have m5 : w.heap.size < D.heap.size := by rw [← hD]; exact blk_lt' N5.out
  have mg : g < D.heap.size := by rw [← hD]; exact HT2.out.lt
  rw [hD]
  clear hD
  simp only [List.take_succ_cons, List.take_zero]
  iterate 13 (refine mono_val _ rfl (fun u => by first | (go_simp; done) | (go_simp; rfl) | (go_simp; rw [if_pos (by omega)])) ?_; simp only [Act.put, List.setIfInBounds_toArray, List.set_cons_zero, List.set_cons_succ])
  refine mono_nil ?_
  --T
  simp only [adr_wrap, andNot1 _ (adr_lt _ _)]
  obtain ⟨t, hte⟩ : ∃ t, adr A (u64N n) / 2 * 2 = t := ⟨_, rfl⟩
  have hlt : t < 18446744073709551616 := by have := adr_lt A (u64N n); omega
  have Hte := hid hte
  rw [hte]
  clear hte z2 z4 zA y0 y1 y2 y4 yA
  have l6 := blk_lt' N6.out
  by_cases h4 : t % 4 = 0
  · have hj : ∀ X', jumpN X X' pc t = (X', t, 0, 0) := fun X' => by unfold jumpN; rw [if_pos h4]
    refine ⟨?_, ?_⟩
    · intro G w1 hB hG hrow
      simp only [Act.put, List.setIfInBounds_toArray, List.set_cons_zero, List.set_cons_succ]
      have HT3 := hid (HT2.out.below hB)
      have P5 := hid ((hB.block _ (blk_lt' N5.out)).trans N5.out)
      have P6 := hid ((hB.block _ (blk_lt' N6.out)).trans N6.out)
      have K3 : Hid (Keep [g] w w1) := hid ((Keep.of_below B2.out).trans (Keep.of_below hB))
      clear hB
      have hGn : w.heap.size + 1 < G := by omega
      refine any1 (i := 13) (f := 1) (by kernel_rfl) ?_
      refine wpOp_call (fltV 0 0) (fun w'' => StIs w'' g X t ∧ Keep [g] w1 w'') (f := 73) (args := #[.pointer (some ⟨g, 0, none⟩), .int .u64 (t : Int)]) rfl rfl (by kernel_rfl) (by simpa only [hj] using jump_at g X pc t _ rfl _ HT3.out HX.out hlt) ?_
      rintro w3 ⟨hst, hkp⟩
      simp only [Act.put, List.setIfInBounds_toArray, List.set_cons_zero, List.set_cons_succ]
      have Z5 := hid (hkp.row P5.out (by simp; omega))
      have Z6 := hid (hkp.row P6.out (by simp; omega))
      have ZK := hid (K3.out.trans hkp)
      have ZT := hid hst
      have Z0 := hkp.row hrow (by simp; omega)
      clear hkp hst
      refine any1 (i := 15) (by kernel_rfl) ?_
      refine wpOp_store_row rfl rfl 31 (.tmp 9) (.tmp 53) rfl G #[.int .i64 0, .int .u64 0, .string ⟨#[]⟩] rfl rfl 31 _ Z0 infoFault rfl (faultRow_one ..) ?_
      refine ⟨by kernel_rfl, ?_⟩
      have R0 : Hid ((w3.setRow G #[.int .i64 0, .int .u64 0, .string ⟨#[]⟩]).heap[G]? = some (.cells #[.int .i64 0, .int .u64 0, .string ⟨#[]⟩] 31 (0, 0))) := hid (setRow_heap _ _ _ _ _ _ Z0)
      have R5 : Hid ((w3.setRow G #[.int .i64 0, .int .u64 0, .string ⟨#[]⟩]).heap[w.heap.size]? = _) := hid ((setRow_other _ _ _ _ (by omega)).trans Z5.out)
      have R6 : Hid ((w3.setRow G #[.int .i64 0, .int .u64 0, .string ⟨#[]⟩]).heap[w.heap.size + 1]? = _) := hid ((setRow_other _ _ _ _ (by omega)).trans Z6.out)
      have HT4 : Hid (StIs (w3.setRow G #[.int .i64 0, .int .u64 0, .string ⟨#[]⟩]) g X _) := hid ((setRow_other _ _ _ _ (by omega)).trans ZT.out)
      have K4 : Hid (Keep [g] w (w3.setRow G #[.int .i64 0, .int .u64 0, .string ⟨#[]⟩])) := hid (ZK.out.setRow _ _ (.inl (by omega)))
      obtain ⟨W4, hW4⟩ : ∃ W4, w3.setRow G #[.int .i64 0, .int .u64 0, .string ⟨#[]⟩] = W4 := ⟨_, rfl⟩
      rw [hW4] at R0 R5 R6 HT4 K4 ⊢
      clear hW4 Z0 Z5 Z6 ZT ZK
      have q0 : W4.cell? ⟨G, 0, none⟩ = some (.int .i64 0) := by rw [cell_of_row W4 _ _ _ _ _ R0.out]; rfl
      have q1 : W4.cell? ⟨G, 1, none⟩ = some (.int .u64 0) := by rw [cell_of_row W4 _ _ _ _ _ R0.out]; rfl
      have q2 : W4.cell? ⟨G, 2, none⟩ = some (.string ⟨#[]⟩) := by rw [cell_of_row W4 _ _ _ _ _ R0.out]; rfl
      have z1 : W4.cell? ⟨w.heap.size, 1, none⟩ = some (.int .i64 d) := by rw [cell_of_row W4 _ _ _ _ _ R5.out]; rfl
      go_wp2_with fail
      refine (ok_zero _ _ _).mono ?_
      rintro e W5 ⟨rfl, hb5⟩
      have S0 := hid ((hb5.block _ (blk_lt' R0.out)).trans R0.out)
      have S5 := hid ((hb5.block _ (blk_lt' R5.out)).trans R5.out)
      have S6 := hid ((hb5.block _ (blk_lt' R6.out)).trans R6.out)
      have HT5 := hid (HT4.out.below hb5)
      have K5 := hid (K4.out.trans (Keep.of_below hb5))
      clear hb5 q0 q1 q2 z1 R0 R5 R6 HT4 K4
      have z1 : W5.cell? ⟨w.heap.size, 1, none⟩ = some (.int .i64 d) := by rw [cell_of_row W5 _ _ _ _ _ S5.out]; rfl
      go_wp2_with fail
      refine (set_any g X t d (adr pc 4) _ HT5.out HX.out hd).mono ?_
      rintro e W6 ⟨rfl, hst, hkp⟩
      have U0 := hid (hkp.row S0.out (by simp; omega))
      have U6 := hid (hkp.row S6.out (by simp; omega))
      have HT6 := hid hst
      have K6 := hid (K5.out.trans hkp)
      clear hst hkp z1
      have q0 : W6.cell? ⟨G, 0, none⟩ = some (.int .i64 0) := by rw [cell_of_row W6 _ _ _ _ _ U0.out]; rfl
      have q1 : W6.cell? ⟨G, 1, none⟩ = some (.int .u64 0) := by rw [cell_of_row W6 _ _ _ _ _ U0.out]; rfl
      have q2 : W6.cell? ⟨G, 2, none⟩ = some (.string ⟨#[]⟩) := by rw [cell_of_row W6 _ _ _ _ _ U0.out]; rfl
      go_wp2_with (refine wpList_store_row rfl 31 (.tmp 4) (.tmp 61) rfl (w.heap.size + 1) #[.int .i64 0, .int .u64 0, .string ⟨#[]⟩] rfl rfl 31 _ U6.out infoFault rfl (faultRow_one ..) ?_)
      refine bodyPost_ret (results_cell_tmp rfl _ _ (w.heap.size + 1) 31 #[.int .i64 0, .int .u64 0, .string ⟨#[]⟩] (0, 0) _ rfl (setRow_heap _ _ _ _ _ _ U6.out) Tryz.underlying31 rfl infoFault) rfl ?_
      unfold GoesPost
      rw [HAe.out, Hte.out, hj]
      exact ⟨rfl, (setRow_other _ _ _ _ (by omega)).trans HT6.out, K6.out.setRow _ _ (.inl (by omega))⟩
    · intro w1 hB
      have HT3 := hid (HT2.out.below hB)
      have P5 := hid ((hB.block _ (blk_lt' N5.out)).trans N5.out)
      have P6 := hid ((hB.block _ (blk_lt' N6.out)).trans N6.out)
      have K3 : Hid (Keep [g] w w1) := hid ((Keep.of_below B2.out).trans (Keep.of_below hB))
      have hsz1 := hB.size
      clear hB
      refine any2 (i := 13) (j := 14) (f := 2) (by kernel_rfl) ?_ ?_
      · refine wpOp_call (fltV 0 0) (fun w'' => StIs w'' g X t ∧ Keep [g] w1 w'') (f := 73) (args := #[.pointer (some ⟨g, 0, none⟩), .int .u64 (t : Int)]) rfl rfl (by kernel_rfl) (by simpa only [hj] using jump_at g X pc t _ rfl _ HT3.out HX.out hlt) ?_
        rintro w3 ⟨hst, hkp⟩
        simp only [Act.put, List.setIfInBounds_toArray, List.set_cons_zero, List.set_cons_succ]
        have Y5 := hid (hkp.row P5.out (by simp; omega))
        have Y6 := hid (hkp.row P6.out (by simp; omega))
        have YK := hid (K3.out.trans hkp)
        have hsz2 := hkp.size
        refine any1 (i := 14) (by kernel_rfl) ?_
        refine wpOp_val (w' := w3.alloc (.cells #[.int .i64 0, .int .u64 0, .string ⟨#[]⟩] 31)) (v := .pointer (some ⟨w3.heap.size, 0, none⟩)) rfl rfl (by kernel_rfl) ?_
        simp only [Act.put, List.setIfInBounds_toArray, List.set_cons_zero, List.set_cons_succ]
        have hB := (Below.refl w3.heap.size w3).alloc (Nat.le_refl _) (.cells #[.int .i64 0, .int .u64 0, .string ⟨#[]⟩] 31)
        have Z0 := heap_alloc_new w3 (.cells #[.int .i64 0, .int .u64 0, .string ⟨#[]⟩] 31)
        have Z5 := hid ((hB.block _ (blk_lt' Y5.out)).trans Y5.out)
        have Z6 := hid ((hB.block _ (blk_lt' Y6.out)).trans Y6.out)
        have ZK := hid (YK.out.trans (Keep.of_below hB))
        have ZT := hid (StIs.below hst hB)
        have hGn : w.heap.size + 1 < w3.heap.size := by omega
        clear hB hkp hst Y5 Y6 YK
        generalize w3.alloc (.cells #[.int .i64 0, .int .u64 0, .string ⟨#[]⟩] 31) = w3b at Z0 Z5 Z6 ZK ZT ⊢
        generalize w3.heap.size = G at Z0 hGn ⊢
        refine any1 (i := 15) (by kernel_rfl) ?_
        refine wpOp_store_row rfl rfl 31 (.tmp 9) (.tmp 53) rfl G #[.int .i64 0, .int .u64 0, .string ⟨#[]⟩] rfl rfl 31 _ Z0 infoFault rfl (faultRow_one ..) ?_
        refine ⟨by kernel_rfl, ?_⟩
        have R0 : Hid ((w3b.setRow G #[.int .i64 0, .int .u64 0, .string ⟨#[]⟩]).heap[G]? = some (.cells #[.int .i64 0, .int .u64 0, .string ⟨#[]⟩] 31 (0, 0))) := hid (setRow_heap _ _ _ _ _ _ Z0)
        have R5 : Hid ((w3b.setRow G #[.int .i64 0, .int .u64 0, .string ⟨#[]⟩]).heap[w.heap.size]? = _) := hid ((setRow_other _ _ _ _ (by omega)).trans Z5.out)
        have R6 : Hid ((w3b.setRow G #[.int .i64 0, .int .u64 0, .string ⟨#[]⟩]).heap[w.heap.size + 1]? = _) := hid ((setRow_other _ _ _ _ (by omega)).trans Z6.out)
        have HT4 : Hid (StIs (w3b.setRow G #[.int .i64 0, .int .u64 0, .string ⟨#[]⟩]) g X _) := hid ((setRow_other _ _ _ _ (by omega)).trans ZT.out)
        have K4 : Hid (Keep [g] w (w3b.setRow G #[.int .i64 0, .int .u64 0, .string ⟨#[]⟩])) := hid (ZK.out.setRow _ _ (.inl (by omega)))
        obtain ⟨W4, hW4⟩ : ∃ W4, w3b.setRow G #[.int .i64 0, .int .u64 0, .string ⟨#[]⟩] = W4 := ⟨_, rfl⟩
        rw [hW4] at R0 R5 R6 HT4 K4 ⊢
        clear hW4 Z0 Z5 Z6 ZT ZK
        have q0 : W4.cell? ⟨G, 0, none⟩ = some (.int .i64 0) := by rw [cell_of_row W4 _ _ _ _ _ R0.out]; rfl
        have q1 : W4.cell? ⟨G, 1, none⟩ = some (.int .u64 0) := by rw [cell_of_row W4 _ _ _ _ _ R0.out]; rfl
        have q2 : W4.cell? ⟨G, 2, none⟩ = some (.string ⟨#[]⟩) := by rw [cell_of_row W4 _ _ _ _ _ R0.out]; rfl
        have z1 : W4.cell? ⟨w.heap.size, 1, none⟩ = some (.int .i64 d) := by rw [cell_of_row W4 _ _ _ _ _ R5.out]; rfl
        go_wp2_with fail
        refine (ok_zero _ _ _).mono ?_
        rintro e W5 ⟨rfl, hb5⟩
        have S0 := hid ((hb5.block _ (blk_lt' R0.out)).trans R0.out)
        have S5 := hid ((hb5.block _ (blk_lt' R5.out)).trans R5.out)
        have S6 := hid ((hb5.block _ (blk_lt' R6.out)).trans R6.out)
        have HT5 := hid (HT4.out.below hb5)
        have K5 := hid (K4.out.trans (Keep.of_below hb5))
        clear hb5 q0 q1 q2 z1 R0 R5 R6 HT4 K4
        have z1 : W5.cell? ⟨w.heap.size, 1, none⟩ = some (.int .i64 d) := by rw [cell_of_row W5 _ _ _ _ _ S5.out]; rfl
        go_wp2_with fail
        refine (set_any g X t d (adr pc 4) _ HT5.out HX.out hd).mono ?_
        rintro e W6 ⟨rfl, hst, hkp⟩
        have U0 := hid (hkp.row S0.out (by simp; omega))
        have U6 := hid (hkp.row S6.out (by simp; omega))
        have HT6 := hid hst
        have K6 := hid (K5.out.trans hkp)
        clear hst hkp z1
        have q0 : W6.cell? ⟨G, 0, none⟩ = some (.int .i64 0) := by rw [cell_of_row W6 _ _ _ _ _ U0.out]; rfl
        have q1 : W6.cell? ⟨G, 1, none⟩ = some (.int .u64 0) := by rw [cell_of_row W6 _ _ _ _ _ U0.out]; rfl
        have q2 : W6.cell? ⟨G, 2, none⟩ = some (.string ⟨#[]⟩) := by rw [cell_of_row W6 _ _ _ _ _ U0.out]; rfl
        go_wp2_with (refine wpList_store_row rfl 31 (.tmp 4) (.tmp 61) rfl (w.heap.size + 1) #[.int .i64 0, .int .u64 0, .string ⟨#[]⟩] rfl rfl 31 _ U6.out infoFault rfl (faultRow_one ..) ?_)
        refine bodyPost_ret (results_cell_tmp rfl _ _ (w.heap.size + 1) 31 #[.int .i64 0, .int .u64 0, .string ⟨#[]⟩] (0, 0) _ rfl (setRow_heap _ _ _ _ _ _ U6.out) Tryz.underlying31 rfl infoFault) rfl ?_
        unfold GoesPost
        rw [HAe.out, Hte.out, hj]
        exact ⟨rfl, (setRow_other _ _ _ _ (by omega)).trans HT6.out, K6.out.setRow _ _ (.inl (by omega))⟩
      · refine wpOp_val (w' := w1.alloc (.cells #[.int .i64 0, .int .u64 0, .string ⟨#[]⟩] 31)) (v := .pointer (some ⟨w1.heap.size, 0, none⟩)) rfl rfl (by kernel_rfl) ?_
        simp only [Act.put, List.setIfInBounds_toArray, List.set_cons_zero, List.set_cons_succ]
        have hB := (Below.refl w1.heap.size w1).alloc (Nat.le_refl _) (.cells #[.int .i64 0, .int .u64 0, .string ⟨#[]⟩] 31)
        have hrow := heap_alloc_new w1 (.cells #[.int .i64 0, .int .u64 0, .string ⟨#[]⟩] 31)
        replace P5 := hid ((hB.block _ (blk_lt' P5.out)).trans P5.out)
        replace P6 := hid ((hB.block _ (blk_lt' P6.out)).trans P6.out)
        replace K3 := hid (K3.out.trans (Keep.of_below hB))
        replace HT3 := hid (HT3.out.below hB)
        have hGn : w.heap.size + 1 < w1.heap.size := by omega
        clear hB
        generalize w1.alloc (.cells #[.int .i64 0, .int .u64 0, .string ⟨#[]⟩] 31) = w1b at hrow P5 P6 K3 HT3 ⊢
        generalize w1.heap.size = G at hrow hGn ⊢
        refine any1 (i := 13) (f := 1) (by kernel_rfl) ?_
        refine wpOp_call (fltV 0 0) (fun w'' => StIs w'' g X t ∧ Keep [g] w1b w'') (f := 73) (args := #[.pointer (some ⟨g, 0, none⟩), .int .u64 (t : Int)]) rfl rfl (by kernel_rfl) (by simpa only [hj] using jump_at g X pc t _ rfl _ HT3.out HX.out hlt) ?_
        rintro w3 ⟨hst, hkp⟩
        simp only [Act.put, List.setIfInBounds_toArray, List.set_cons_zero, List.set_cons_succ]
        have Z5 := hid (hkp.row P5.out (by simp; omega))
        have Z6 := hid (hkp.row P6.out (by simp; omega))
        have ZK := hid (K3.out.trans hkp)
        have ZT := hid hst
        have Z0 := hkp.row hrow (by simp; omega)
        clear hkp hst
        refine any1 (i := 15) (by kernel_rfl) ?_
        refine wpOp_store_row rfl rfl 31 (.tmp 9) (.tmp 53) rfl G #[.int .i64 0, .int .u64 0, .string ⟨#[]⟩] rfl rfl 31 _ Z0 infoFault rfl (faultRow_one ..) ?_
        refine ⟨by kernel_rfl, ?_⟩
        have R0 : Hid ((w3.setRow G #[.int .i64 0, .int .u64 0, .string ⟨#[]⟩]).heap[G]? = some (.cells #[.int .i64 0, .int .u64 0, .string ⟨#[]⟩] 31 (0, 0))) := hid (setRow_heap _ _ _ _ _ _ Z0)
        have R5 : Hid ((w3.setRow G #[.int .i64 0, .int .u64 0, .string ⟨#[]⟩]).heap[w.heap.size]? = _) := hid ((setRow_other _ _ _ _ (by omega)).trans Z5.out)
        have R6 : Hid ((w3.setRow G #[.int .i64 0, .int .u64 0, .string ⟨#[]⟩]).heap[w.heap.size + 1]? = _) := hid ((setRow_other _ _ _ _ (by omega)).trans Z6.out)
        have HT4 : Hid (StIs (w3.setRow G #[.int .i64 0, .int .u64 0, .string ⟨#[]⟩]) g X _) := hid ((setRow_other _ _ _ _ (by omega)).trans ZT.out)
        have K4 : Hid (Keep [g] w (w3.setRow G #[.int .i64 0, .int .u64 0, .string ⟨#[]⟩])) := hid (ZK.out.setRow _ _ (.inl (by omega)))
        obtain ⟨W4, hW4⟩ : ∃ W4, w3.setRow G #[.int .i64 0, .int .u64 0, .string ⟨#[]⟩] = W4 := ⟨_, rfl⟩
        rw [hW4] at R0 R5 R6 HT4 K4 ⊢
        clear hW4 Z0 Z5 Z6 ZT ZK
        have q0 : W4.cell? ⟨G, 0, none⟩ = some (.int .i64 0) := by rw [cell_of_row W4 _ _ _ _ _ R0.out]; rfl
        have q1 : W4.cell? ⟨G, 1, none⟩ = some (.int .u64 0) := by rw [cell_of_row W4 _ _ _ _ _ R0.out]; rfl
        have q2 : W4.cell? ⟨G, 2, none⟩ = some (.string ⟨#[]⟩) := by rw [cell_of_row W4 _ _ _ _ _ R0.out]; rfl
        have z1 : W4.cell? ⟨w.heap.size, 1, none⟩ = some (.int .i64 d) := by rw [cell_of_row W4 _ _ _ _ _ R5.out]; rfl
        go_wp2_with fail
        refine (ok_zero _ _ _).mono ?_
        rintro e W5 ⟨rfl, hb5⟩
        have S0 := hid ((hb5.block _ (blk_lt' R0.out)).trans R0.out)
        have S5 := hid ((hb5.block _ (blk_lt' R5.out)).trans R5.out)
        have S6 := hid ((hb5.block _ (blk_lt' R6.out)).trans R6.out)
        have HT5 := hid (HT4.out.below hb5)
        have K5 := hid (K4.out.trans (Keep.of_below hb5))
        clear hb5 q0 q1 q2 z1 R0 R5 R6 HT4 K4
        have z1 : W5.cell? ⟨w.heap.size, 1, none⟩ = some (.int .i64 d) := by rw [cell_of_row W5 _ _ _ _ _ S5.out]; rfl
        go_wp2_with fail
        refine (set_any g X t d (adr pc 4) _ HT5.out HX.out hd).mono ?_
        rintro e W6 ⟨rfl, hst, hkp⟩
        have U0 := hid (hkp.row S0.out (by simp; omega))
        have U6 := hid (hkp.row S6.out (by simp; omega))
        have HT6 := hid hst
        have K6 := hid (K5.out.trans hkp)
        clear hst hkp z1
        have q0 : W6.cell? ⟨G, 0, none⟩ = some (.int .i64 0) := by rw [cell_of_row W6 _ _ _ _ _ U0.out]; rfl
        have q1 : W6.cell? ⟨G, 1, none⟩ = some (.int .u64 0) := by rw [cell_of_row W6 _ _ _ _ _ U0.out]; rfl
        have q2 : W6.cell? ⟨G, 2, none⟩ = some (.string ⟨#[]⟩) := by rw [cell_of_row W6 _ _ _ _ _ U0.out]; rfl
        go_wp2_with (refine wpList_store_row rfl 31 (.tmp 4) (.tmp 61) rfl (w.heap.size + 1) #[.int .i64 0, .int .u64 0, .string ⟨#[]⟩] rfl rfl 31 _ U6.out infoFault rfl (faultRow_one ..) ?_)
        refine bodyPost_ret (results_cell_tmp rfl _ _ (w.heap.size + 1) 31 #[.int .i64 0, .int .u64 0, .string ⟨#[]⟩] (0, 0) _ rfl (setRow_heap _ _ _ _ _ _ U6.out) Tryz.underlying31 rfl infoFault) rfl ?_
        unfold GoesPost
        rw [HAe.out, Hte.out, hj]
        exact ⟨rfl, (setRow_other _ _ _ _ (by omega)).trans HT6.out, K6.out.setRow _ _ (.inl (by omega))⟩
  · have hj : ∀ X', jumpN X X' pc t = (X, pc, 13, t) := fun X' => by unfold jumpN; rw [if_neg h4]
    refine ⟨?_, ?_⟩
    · intro G w1 hB hG hrow
      simp only [Act.put, List.setIfInBounds_toArray, List.set_cons_zero, List.set_cons_succ]
      have HT3 := hid (HT2.out.below hB)
      have P5 := hid ((hB.block _ (blk_lt' N5.out)).trans N5.out)
      have P6 := hid ((hB.block _ (blk_lt' N6.out)).trans N6.out)
      have K3 : Hid (Keep [g] w w1) := hid ((Keep.of_below B2.out).trans (Keep.of_below hB))
      clear hB
      have hGn : w.heap.size + 1 < G := by omega
      refine any1 (i := 13) (f := 1) (by kernel_rfl) ?_
      refine wpOp_call (fltV 13 t) (fun w'' => StIs w'' g X pc ∧ Keep [g] w1 w'') (f := 73) (args := #[.pointer (some ⟨g, 0, none⟩), .int .u64 (t : Int)]) rfl rfl (by kernel_rfl) (by simpa only [hj] using jump_at g X pc t _ rfl _ HT3.out HX.out hlt) ?_
      rintro w3 ⟨hst, hkp⟩
      simp only [Act.put, List.setIfInBounds_toArray, List.set_cons_zero, List.set_cons_succ]
      have Z5 := hid (hkp.row P5.out (by simp; omega))
      have Z6 := hid (hkp.row P6.out (by simp; omega))
      have ZK := hid (K3.out.trans hkp)
      have ZT := hid hst
      have Z0 := hkp.row hrow (by simp; omega)
      clear hkp hst
      refine any1 (i := 15) (by kernel_rfl) ?_
      refine wpOp_store_row rfl rfl 31 (.tmp 9) (.tmp 53) rfl G #[.int .i64 13, .int .u64 t, .string ⟨#[]⟩] rfl rfl 31 _ Z0 infoFault rfl (faultRow_one ..) ?_
      refine ⟨by kernel_rfl, ?_⟩
      have R0 : Hid ((w3.setRow G #[.int .i64 13, .int .u64 t, .string ⟨#[]⟩]).heap[G]? = some (.cells #[.int .i64 13, .int .u64 t, .string ⟨#[]⟩] 31 (0, 0))) := hid (setRow_heap _ _ _ _ _ _ Z0)
      have R5 : Hid ((w3.setRow G #[.int .i64 13, .int .u64 t, .string ⟨#[]⟩]).heap[w.heap.size]? = _) := hid ((setRow_other _ _ _ _ (by omega)).trans Z5.out)
      have R6 : Hid ((w3.setRow G #[.int .i64 13, .int .u64 t, .string ⟨#[]⟩]).heap[w.heap.size + 1]? = _) := hid ((setRow_other _ _ _ _ (by omega)).trans Z6.out)
      have HT4 : Hid (StIs (w3.setRow G #[.int .i64 13, .int .u64 t, .string ⟨#[]⟩]) g X _) := hid ((setRow_other _ _ _ _ (by omega)).trans ZT.out)
      have K4 : Hid (Keep [g] w (w3.setRow G #[.int .i64 13, .int .u64 t, .string ⟨#[]⟩])) := hid (ZK.out.setRow _ _ (.inl (by omega)))
      obtain ⟨W4, hW4⟩ : ∃ W4, w3.setRow G #[.int .i64 13, .int .u64 t, .string ⟨#[]⟩] = W4 := ⟨_, rfl⟩
      rw [hW4] at R0 R5 R6 HT4 K4 ⊢
      clear hW4 Z0 Z5 Z6 ZT ZK
      have q0 : W4.cell? ⟨G, 0, none⟩ = some (.int .i64 13) := by rw [cell_of_row W4 _ _ _ _ _ R0.out]; rfl
      have q1 : W4.cell? ⟨G, 1, none⟩ = some (.int .u64 t) := by rw [cell_of_row W4 _ _ _ _ _ R0.out]; rfl
      have q2 : W4.cell? ⟨G, 2, none⟩ = some (.string ⟨#[]⟩) := by rw [cell_of_row W4 _ _ _ _ _ R0.out]; rfl
      have z1 : W4.cell? ⟨w.heap.size, 1, none⟩ = some (.int .i64 d) := by rw [cell_of_row W4 _ _ _ _ _ R5.out]; rfl
      go_wp2_with fail
      refine (ok_not _ _ _ _ (by decide)).mono ?_
      rintro e W5 ⟨rfl, hb5⟩
      have S0 := hid ((hb5.block _ (blk_lt' R0.out)).trans R0.out)
      have S5 := hid ((hb5.block _ (blk_lt' R5.out)).trans R5.out)
      have S6 := hid ((hb5.block _ (blk_lt' R6.out)).trans R6.out)
      have HT5 := hid (HT4.out.below hb5)
      have K5 := hid (K4.out.trans (Keep.of_below hb5))
      clear hb5 q0 q1 q2 z1 R0 R5 R6 HT4 K4
      have q0 : W5.cell? ⟨G, 0, none⟩ = some (.int .i64 13) := by rw [cell_of_row W5 _ _ _ _ _ S0.out]; rfl
      have q1 : W5.cell? ⟨G, 1, none⟩ = some (.int .u64 t) := by rw [cell_of_row W5 _ _ _ _ _ S0.out]; rfl
      have q2 : W5.cell? ⟨G, 2, none⟩ = some (.string ⟨#[]⟩) := by rw [cell_of_row W5 _ _ _ _ _ S0.out]; rfl
      go_wp2_with (refine wpList_store_row rfl 31 (.tmp 4) (.tmp 61) rfl (w.heap.size + 1) #[.int .i64 13, .int .u64 t, .string ⟨#[]⟩] rfl rfl 31 _ S6.out infoFault rfl (faultRow_one ..) ?_)
      refine bodyPost_ret (results_cell_tmp rfl _ _ (w.heap.size + 1) 31 #[.int .i64 13, .int .u64 t, .string ⟨#[]⟩] (0, 0) _ rfl (setRow_heap _ _ _ _ _ _ S6.out) Tryz.underlying31 rfl infoFault) rfl ?_
      unfold GoesPost
      rw [HAe.out, Hte.out, hj]
      exact ⟨rfl, (setRow_other _ _ _ _ (by omega)).trans HT5.out, K5.out.setRow _ _ (.inl (by omega))⟩
    · intro w1 hB
      have HT3 := hid (HT2.out.below hB)
      have P5 := hid ((hB.block _ (blk_lt' N5.out)).trans N5.out)
      have P6 := hid ((hB.block _ (blk_lt' N6.out)).trans N6.out)
      have K3 : Hid (Keep [g] w w1) := hid ((Keep.of_below B2.out).trans (Keep.of_below hB))
      have hsz1 := hB.size
      clear hB
      refine any2 (i := 13) (j := 14) (f := 2) (by kernel_rfl) ?_ ?_
      · refine wpOp_call (fltV 13 t) (fun w'' => StIs w'' g X pc ∧ Keep [g] w1 w'') (f := 73) (args := #[.pointer (some ⟨g, 0, none⟩), .int .u64 (t : Int)]) rfl rfl (by kernel_rfl) (by simpa only [hj] using jump_at g X pc t _ rfl _ HT3.out HX.out hlt) ?_
        rintro w3 ⟨hst, hkp⟩
        simp only [Act.put, List.setIfInBounds_toArray, List.set_cons_zero, List.set_cons_succ]
        have Y5 := hid (hkp.row P5.out (by simp; omega))
        have Y6 := hid (hkp.row P6.out (by simp; omega))
        have YK := hid (K3.out.trans hkp)
        have hsz2 := hkp.size
        refine any1 (i := 14) (by kernel_rfl) ?_
        refine wpOp_val (w' := w3.alloc (.cells #[.int .i64 0, .int .u64 0, .string ⟨#[]⟩] 31)) (v := .pointer (some ⟨w3.heap.size, 0, none⟩)) rfl rfl (by kernel_rfl) ?_
        simp only [Act.put, List.setIfInBounds_toArray, List.set_cons_zero, List.set_cons_succ]
        have hB := (Below.refl w3.heap.size w3).alloc (Nat.le_refl _) (.cells #[.int .i64 0, .int .u64 0, .string ⟨#[]⟩] 31)
        have Z0 := heap_alloc_new w3 (.cells #[.int .i64 0, .int .u64 0, .string ⟨#[]⟩] 31)
        have Z5 := hid ((hB.block _ (blk_lt' Y5.out)).trans Y5.out)
        have Z6 := hid ((hB.block _ (blk_lt' Y6.out)).trans Y6.out)
        have ZK := hid (YK.out.trans (Keep.of_below hB))
        have ZT := hid (StIs.below hst hB)
        have hGn : w.heap.size + 1 < w3.heap.size := by omega
        clear hB hkp hst Y5 Y6 YK
        generalize w3.alloc (.cells #[.int .i64 0, .int .u64 0, .string ⟨#[]⟩] 31) = w3b at Z0 Z5 Z6 ZK ZT ⊢
        generalize w3.heap.size = G at Z0 hGn ⊢
        refine any1 (i := 15) (by kernel_rfl) ?_
        refine wpOp_store_row rfl rfl 31 (.tmp 9) (.tmp 53) rfl G #[.int .i64 13, .int .u64 t, .string ⟨#[]⟩] rfl rfl 31 _ Z0 infoFault rfl (faultRow_one ..) ?_
        refine ⟨by kernel_rfl, ?_⟩
        have R0 : Hid ((w3b.setRow G #[.int .i64 13, .int .u64 t, .string ⟨#[]⟩]).heap[G]? = some (.cells #[.int .i64 13, .int .u64 t, .string ⟨#[]⟩] 31 (0, 0))) := hid (setRow_heap _ _ _ _ _ _ Z0)
        have R5 : Hid ((w3b.setRow G #[.int .i64 13, .int .u64 t, .string ⟨#[]⟩]).heap[w.heap.size]? = _) := hid ((setRow_other _ _ _ _ (by omega)).trans Z5.out)
        have R6 : Hid ((w3b.setRow G #[.int .i64 13, .int .u64 t, .string ⟨#[]⟩]).heap[w.heap.size + 1]? = _) := hid ((setRow_other _ _ _ _ (by omega)).trans Z6.out)
        have HT4 : Hid (StIs (w3b.setRow G #[.int .i64 13, .int .u64 t, .string ⟨#[]⟩]) g X _) := hid ((setRow_other _ _ _ _ (by omega)).trans ZT.out)
        have K4 : Hid (Keep [g] w (w3b.setRow G #[.int .i64 13, .int .u64 t, .string ⟨#[]⟩])) := hid (ZK.out.setRow _ _ (.inl (by omega)))
        obtain ⟨W4, hW4⟩ : ∃ W4, w3b.setRow G #[.int .i64 13, .int .u64 t, .string ⟨#[]⟩] = W4 := ⟨_, rfl⟩
        rw [hW4] at R0 R5 R6 HT4 K4 ⊢
        clear hW4 Z0 Z5 Z6 ZT ZK
        have q0 : W4.cell? ⟨G, 0, none⟩ = some (.int .i64 13) := by rw [cell_of_row W4 _ _ _ _ _ R0.out]; rfl
        have q1 : W4.cell? ⟨G, 1, none⟩ = some (.int .u64 t) := by rw [cell_of_row W4 _ _ _ _ _ R0.out]; rfl
        have q2 : W4.cell? ⟨G, 2, none⟩ = some (.string ⟨#[]⟩) := by rw [cell_of_row W4 _ _ _ _ _ R0.out]; rfl
        have z1 : W4.cell? ⟨w.heap.size, 1, none⟩ = some (.int .i64 d) := by rw [cell_of_row W4 _ _ _ _ _ R5.out]; rfl
        go_wp2_with fail
        refine (ok_not _ _ _ _ (by decide)).mono ?_
        rintro e W5 ⟨rfl, hb5⟩
        have S0 := hid ((hb5.block _ (blk_lt' R0.out)).trans R0.out)
        have S5 := hid ((hb5.block _ (blk_lt' R5.out)).trans R5.out)
        have S6 := hid ((hb5.block _ (blk_lt' R6.out)).trans R6.out)
        have HT5 := hid (HT4.out.below hb5)
        have K5 := hid (K4.out.trans (Keep.of_below hb5))
        clear hb5 q0 q1 q2 z1 R0 R5 R6 HT4 K4
        have q0 : W5.cell? ⟨G, 0, none⟩ = some (.int .i64 13) := by rw [cell_of_row W5 _ _ _ _ _ S0.out]; rfl
        have q1 : W5.cell? ⟨G, 1, none⟩ = some (.int .u64 t) := by rw [cell_of_row W5 _ _ _ _ _ S0.out]; rfl
        have q2 : W5.cell? ⟨G, 2, none⟩ = some (.string ⟨#[]⟩) := by rw [cell_of_row W5 _ _ _ _ _ S0.out]; rfl
        go_wp2_with (refine wpList_store_row rfl 31 (.tmp 4) (.tmp 61) rfl (w.heap.size + 1) #[.int .i64 13, .int .u64 t, .string ⟨#[]⟩] rfl rfl 31 _ S6.out infoFault rfl (faultRow_one ..) ?_)
        refine bodyPost_ret (results_cell_tmp rfl _ _ (w.heap.size + 1) 31 #[.int .i64 13, .int .u64 t, .string ⟨#[]⟩] (0, 0) _ rfl (setRow_heap _ _ _ _ _ _ S6.out) Tryz.underlying31 rfl infoFault) rfl ?_
        unfold GoesPost
        rw [HAe.out, Hte.out, hj]
        exact ⟨rfl, (setRow_other _ _ _ _ (by omega)).trans HT5.out, K5.out.setRow _ _ (.inl (by omega))⟩
      · refine wpOp_val (w' := w1.alloc (.cells #[.int .i64 0, .int .u64 0, .string ⟨#[]⟩] 31)) (v := .pointer (some ⟨w1.heap.size, 0, none⟩)) rfl rfl (by kernel_rfl) ?_
        simp only [Act.put, List.setIfInBounds_toArray, List.set_cons_zero, List.set_cons_succ]
        have hB := (Below.refl w1.heap.size w1).alloc (Nat.le_refl _) (.cells #[.int .i64 0, .int .u64 0, .string ⟨#[]⟩] 31)
        have hrow := heap_alloc_new w1 (.cells #[.int .i64 0, .int .u64 0, .string ⟨#[]⟩] 31)
        replace P5 := hid ((hB.block _ (blk_lt' P5.out)).trans P5.out)
        replace P6 := hid ((hB.block _ (blk_lt' P6.out)).trans P6.out)
        replace K3 := hid (K3.out.trans (Keep.of_below hB))
        replace HT3 := hid (HT3.out.below hB)
        have hGn : w.heap.size + 1 < w1.heap.size := by omega
        clear hB
        generalize w1.alloc (.cells #[.int .i64 0, .int .u64 0, .string ⟨#[]⟩] 31) = w1b at hrow P5 P6 K3 HT3 ⊢
        generalize w1.heap.size = G at hrow hGn ⊢
        refine any1 (i := 13) (f := 1) (by kernel_rfl) ?_
        refine wpOp_call (fltV 13 t) (fun w'' => StIs w'' g X pc ∧ Keep [g] w1b w'') (f := 73) (args := #[.pointer (some ⟨g, 0, none⟩), .int .u64 (t : Int)]) rfl rfl (by kernel_rfl) (by simpa only [hj] using jump_at g X pc t _ rfl _ HT3.out HX.out hlt) ?_
        rintro w3 ⟨hst, hkp⟩
        simp only [Act.put, List.setIfInBounds_toArray, List.set_cons_zero, List.set_cons_succ]
        have Z5 := hid (hkp.row P5.out (by simp; omega))
        have Z6 := hid (hkp.row P6.out (by simp; omega))
        have ZK := hid (K3.out.trans hkp)
        have ZT := hid hst
        have Z0 := hkp.row hrow (by simp; omega)
        clear hkp hst
        refine any1 (i := 15) (by kernel_rfl) ?_
        refine wpOp_store_row rfl rfl 31 (.tmp 9) (.tmp 53) rfl G #[.int .i64 13, .int .u64 t, .string ⟨#[]⟩] rfl rfl 31 _ Z0 infoFault rfl (faultRow_one ..) ?_
        refine ⟨by kernel_rfl, ?_⟩
        have R0 : Hid ((w3.setRow G #[.int .i64 13, .int .u64 t, .string ⟨#[]⟩]).heap[G]? = some (.cells #[.int .i64 13, .int .u64 t, .string ⟨#[]⟩] 31 (0, 0))) := hid (setRow_heap _ _ _ _ _ _ Z0)
        have R5 : Hid ((w3.setRow G #[.int .i64 13, .int .u64 t, .string ⟨#[]⟩]).heap[w.heap.size]? = _) := hid ((setRow_other _ _ _ _ (by omega)).trans Z5.out)
        have R6 : Hid ((w3.setRow G #[.int .i64 13, .int .u64 t, .string ⟨#[]⟩]).heap[w.heap.size + 1]? = _) := hid ((setRow_other _ _ _ _ (by omega)).trans Z6.out)
        have HT4 : Hid (StIs (w3.setRow G #[.int .i64 13, .int .u64 t, .string ⟨#[]⟩]) g X _) := hid ((setRow_other _ _ _ _ (by omega)).trans ZT.out)
        have K4 : Hid (Keep [g] w (w3.setRow G #[.int .i64 13, .int .u64 t, .string ⟨#[]⟩])) := hid (ZK.out.setRow _ _ (.inl (by omega)))
        obtain ⟨W4, hW4⟩ : ∃ W4, w3.setRow G #[.int .i64 13, .int .u64 t, .string ⟨#[]⟩] = W4 := ⟨_, rfl⟩
        rw [hW4] at R0 R5 R6 HT4 K4 ⊢
        clear hW4 Z0 Z5 Z6 ZT ZK
        have q0 : W4.cell? ⟨G, 0, none⟩ = some (.int .i64 13) := by rw [cell_of_row W4 _ _ _ _ _ R0.out]; rfl
        have q1 : W4.cell? ⟨G, 1, none⟩ = some (.int .u64 t) := by rw [cell_of_row W4 _ _ _ _ _ R0.out]; rfl
        have q2 : W4.cell? ⟨G, 2, none⟩ = some (.string ⟨#[]⟩) := by rw [cell_of_row W4 _ _ _ _ _ R0.out]; rfl
        have z1 : W4.cell? ⟨w.heap.size, 1, none⟩ = some (.int .i64 d) := by rw [cell_of_row W4 _ _ _ _ _ R5.out]; rfl
        go_wp2_with fail
        refine (ok_not _ _ _ _ (by decide)).mono ?_
        rintro e W5 ⟨rfl, hb5⟩
        have S0 := hid ((hb5.block _ (blk_lt' R0.out)).trans R0.out)
        have S5 := hid ((hb5.block _ (blk_lt' R5.out)).trans R5.out)
        have S6 := hid ((hb5.block _ (blk_lt' R6.out)).trans R6.out)
        have HT5 := hid (HT4.out.below hb5)
        have K5 := hid (K4.out.trans (Keep.of_below hb5))
        clear hb5 q0 q1 q2 z1 R0 R5 R6 HT4 K4
        have q0 : W5.cell? ⟨G, 0, none⟩ = some (.int .i64 13) := by rw [cell_of_row W5 _ _ _ _ _ S0.out]; rfl
        have q1 : W5.cell? ⟨G, 1, none⟩ = some (.int .u64 t) := by rw [cell_of_row W5 _ _ _ _ _ S0.out]; rfl
        have q2 : W5.cell? ⟨G, 2, none⟩ = some (.string ⟨#[]⟩) := by rw [cell_of_row W5 _ _ _ _ _ S0.out]; rfl
        go_wp2_with (refine wpList_store_row rfl 31 (.tmp 4) (.tmp 61) rfl (w.heap.size + 1) #[.int .i64 13, .int .u64 t, .string ⟨#[]⟩] rfl rfl 31 _ S6.out infoFault rfl (faultRow_one ..) ?_)
        refine bodyPost_ret (results_cell_tmp rfl _ _ (w.heap.size + 1) 31 #[.int .i64 13, .int .u64 t, .string ⟨#[]⟩] (0, 0) _ rfl (setRow_heap _ _ _ _ _ _ S6.out) Tryz.underlying31 rfl infoFault) rfl ?_
        unfold GoesPost
        rw [HAe.out, Hte.out, hj]
        exact ⟨rfl, (setRow_other _ _ _ _ (by omega)).trans HT5.out, K5.out.setRow _ _ (.inl (by omega))⟩
set_option maxHeartbeats 4000000 in
set_option maxRecDepth 100000 in
theorem goes_branch (g : Nat) (X : List Nat) (pc : Nat) (o : Int) (d a b : Nat) (n : Int) (w : World) (hT : StIs w g X pc) (hX : Regs X) (hd : d < 32) (ha : a < 32) (hb : b < 32) (ho : 4 ≤ o ∧ o ≤ 9) :
    Calls Tryz.prog 34 #[.pointer (some ⟨g, 0, none⟩), .agg (instCells o d a b n)] w (GoesPost g (jumpN X X pc (if takenN o (getR X a) (getR X b) then adr pc (u64N n) else adr pc 4), true) w) := by
  have Ho := hid ho
  clear ho
  obtain ⟨tg, htg⟩ : ∃ tg, (if takenN o (getR X a) (getR X b) then adr pc (u64N n) else adr pc 4) = tg := ⟨_, rfl⟩
  rw [htg]
  have Htg := hid htg
  clear htg
  have HX := hid hX
  have HT := hid hT
  have hgl := hT.lt
  have hcp := hT.cellPc hX
  clear hX hT
  unfold instCells
  go_enter Tryz.func34, Tryz.ntmps34
  go_wp2_with fail
  obtain ⟨W, hW⟩ : ∃ W, (w.alloc (.cells #[.int .i64 o, .int .i64 d, .int .i64 a, .int .i64 b, .int .i64 n] 44)).alloc (.cells #[.int .i64 0, .int .u64 0, .string ⟨#[]⟩] 31) = W := ⟨_, rfl⟩
  have B1 : Hid (Below w.heap.size w W) := hid (by rw [← hW]; exact ((Below.refl _ _).alloc (Nat.le_refl _) _).alloc (by simp) _)
  have M5 : Hid (W.heap[w.heap.size]? = some (.cells #[.int .i64 o, .int .i64 d, .int .i64 a, .int .i64 b, .int .i64 n] 44 (0, 0))) := hid (by rw [← hW]; exact heap_alloc2_old w _ _)
  have M6 : Hid (W.heap[w.heap.size + 1]? = some (.cells #[.int .i64 0, .int .u64 0, .string ⟨#[]⟩] 31 (0, 0))) := hid (by rw [← hW]; exact heap_alloc2_new w _ _)
  have x4 : W.cell? ⟨w.heap.size, 4, none⟩ = some (.int .i64 n) := by rw [cell_of_row W _ _ _ _ _ M5.out]; rfl
  have hcW : W.cell? ⟨g, 32, none⟩ = some (.int .u64 pc) := by rw [← hcp]; exact World.cell?_of_block (B1.out.block _ hgl)
  have l5 := blk_lt' M5.out
  have lg : g < W.heap.size := Nat.lt_of_lt_of_le hgl B1.out.size
  rw [hW]
  clear hW
  refine wp_region_quiet_in (fun w' => ∃ u, w' = aft W u) (by kernel_rfl) (by kernel_rfl) (aft_drew _) ?_
  repeat (go_big_quiet_step (fail))
  refine wpQuiet_nil ?_
  rintro W2 ⟨u, rfl⟩
  obtain ⟨W2, hW2⟩ : ∃ W2, aft W u = W2 := ⟨_, rfl⟩
  have bu : Hid (Below W.heap.size W W2) := hid (by rw [← hW2]; exact aft_below W u)
  rw [hW2]
  clear hW2
  have N5 := hid ((bu.out.block _ l5).trans M5.out)
  have N6 := hid ((bu.out.block _ (blk_lt' M6.out)).trans M6.out)
  have B2 := hid (B1.out.trans (bu.out.mono B1.out.size))
  clear x4 hcW l5 lg M5 M6 B1 bu
  have HT2 := hid (HT.out.below B2.out)
  have y0 : W2.cell? ⟨w.heap.size, 0, none⟩ = some (.int .i64 o) := by rw [cell_of_row W2 _ _ _ _ _ N5.out]; rfl
  have y1 : W2.cell? ⟨w.heap.size, 1, none⟩ = some (.int .i64 d) := by rw [cell_of_row W2 _ _ _ _ _ N5.out]; rfl
  simp only [adr_four, adr_wrap]
  have y2 : W2.cell? ⟨w.heap.size, 2, none⟩ = some (.int .i64 a) := by rw [cell_of_row W2 _ _ _ _ _ N5.out]; rfl
  have y3 : W2.cell? ⟨w.heap.size, 3, none⟩ = some (.int .i64 b) := by rw [cell_of_row W2 _ _ _ _ _ N5.out]; rfl
  have yA := HT2.out.cell HX.out ha
  have yB := HT2.out.cell HX.out hb
  have hA := HX.out.get a
  have hB := HX.out.get b
  obtain ⟨A, hAe⟩ : ∃ A, getR X a = A := ⟨_, rfl⟩
  obtain ⟨B, hBe⟩ : ∃ B, getR X b = B := ⟨_, rfl⟩
  have HAe := hid hAe
  have HBe := hid hBe
  rw [hAe] at hA yA
  rw [hBe] at hB yB
  clear hAe hBe
  have l5 := blk_lt' N5.out
  have lg := HT2.out.lt
  obtain ⟨v, hv⟩ : ∃ v, takenN o A B = v := ⟨_, rfl⟩
  have Hv := hid hv
  clear hv
  have ho := Ho.out
  have h6 : o = 4 ∨ o = 5 ∨ o = 6 ∨ o = 7 ∨ o = 8 ∨ o = 9 := by omega
  clear ho Ho
  rcases h6 with rfl | rfl | rfl | rfl | rfl | rfl
  all_goals
    go_wp2_with fail
    refine wp_region_quiet_in (fun w' => ∃ u, w' = aft W2 u) (by kernel_rfl) (by kernel_rfl) (aft_drew _) ?_
    repeat (go_big_quiet_step ((go_at_call 75; exact aft_callq (taken_any _ A B _ hA hB))))
    refine wpQuiet_nil ?_
    rintro W3 ⟨u, rfl⟩
    obtain ⟨W3, hW3⟩ : ∃ W3, aft W2 u = W3 := ⟨_, rfl⟩
    have bu : Hid (Below W2.heap.size W2 W3) := hid (by rw [← hW3]; exact aft_below W2 u)
    rw [hW3]
    clear hW3
    have P6 := hid ((bu.out.block _ (blk_lt' N6.out)).trans N6.out)
    have K3 : Hid (Keep [g] w W3) := hid (Keep.of_below (B2.out.trans (bu.out.mono B2.out.size)))
    have HT3 := hid (HT2.out.below bu.out)
    have l6 := blk_lt' P6.out
    clear y0 y1 y2 y3 yA yB bu N5 N6 HT2
    rw [Hv.out]
    cases v with
    | false =>
      go_wp2_with fail
      refine (jump_at g X pc (adr pc 4) _ rfl _ HT3.out HX.out (adr_lt _ _)).mono ?_
      rintro e W4 ⟨rfl, hst, hkp⟩
      have U6 := hid (hkp.row P6.out (by simp; omega))
      have HT4 := hid hst
      have K4 := hid (K3.out.trans hkp)
      clear hst hkp
      obtain ⟨t, hte⟩ : ∃ t, adr pc 4 = t := ⟨_, rfl⟩
      by_cases h4 : t % 4 = 0
      · have hj : ∀ X', jumpN X X' pc (adr pc 4) = (X', t, 0, 0) := fun X' => by rw [hte]; unfold jumpN; rw [if_pos h4]
        rw [hj] at HT4 ⊢
        go_wp2_with (refine wpList_store_row rfl 31 (.tmp 4) (.tmp 89) rfl (w.heap.size + 1) #[.int .i64 0, .int .u64 0, .string ⟨#[]⟩] rfl rfl 31 _ U6.out infoFault rfl (faultRow_one ..) ?_)
        refine bodyPost_ret (results_cell_tmp rfl _ _ (w.heap.size + 1) 31 #[.int .i64 0, .int .u64 0, .string ⟨#[]⟩] (0, 0) _ rfl (setRow_heap _ _ _ _ _ _ U6.out) Tryz.underlying31 rfl infoFault) rfl ?_
        unfold GoesPost
        rw [← Htg.out, HAe.out, HBe.out, Hv.out, if_neg (by decide), hj]
        exact ⟨rfl, (setRow_other _ _ _ _ (by omega)).trans HT4.out, K4.out.setRow _ _ (.inl (by omega))⟩
      · have hj : ∀ X', jumpN X X' pc (adr pc 4) = (X, pc, 13, t) := fun X' => by rw [hte]; unfold jumpN; rw [if_neg h4]
        rw [hj] at HT4 ⊢
        go_wp2_with (refine wpList_store_row rfl 31 (.tmp 4) (.tmp 89) rfl (w.heap.size + 1) #[.int .i64 13, .int .u64 t, .string ⟨#[]⟩] rfl rfl 31 _ U6.out infoFault rfl (faultRow_one ..) ?_)
        refine bodyPost_ret (results_cell_tmp rfl _ _ (w.heap.size + 1) 31 #[.int .i64 13, .int .u64 t, .string ⟨#[]⟩] (0, 0) _ rfl (setRow_heap _ _ _ _ _ _ U6.out) Tryz.underlying31 rfl infoFault) rfl ?_
        unfold GoesPost
        rw [← Htg.out, HAe.out, HBe.out, Hv.out, if_neg (by decide), hj]
        exact ⟨rfl, (setRow_other _ _ _ _ (by omega)).trans HT4.out, K4.out.setRow _ _ (.inl (by omega))⟩
    | true =>
      go_wp2_with fail
      refine (jump_at g X pc (adr pc (u64N n)) _ rfl _ HT3.out HX.out (adr_lt _ _)).mono ?_
      rintro e W4 ⟨rfl, hst, hkp⟩
      have U6 := hid (hkp.row P6.out (by simp; omega))
      have HT4 := hid hst
      have K4 := hid (K3.out.trans hkp)
      clear hst hkp
      obtain ⟨t, hte⟩ : ∃ t, adr pc (u64N n) = t := ⟨_, rfl⟩
      by_cases h4 : t % 4 = 0
      · have hj : ∀ X', jumpN X X' pc (adr pc (u64N n)) = (X', t, 0, 0) := fun X' => by rw [hte]; unfold jumpN; rw [if_pos h4]
        rw [hj] at HT4 ⊢
        go_wp2_with (refine wpList_store_row rfl 31 (.tmp 4) (.tmp 92) rfl (w.heap.size + 1) #[.int .i64 0, .int .u64 0, .string ⟨#[]⟩] rfl rfl 31 _ U6.out infoFault rfl (faultRow_one ..) ?_)
        refine bodyPost_ret (results_cell_tmp rfl _ _ (w.heap.size + 1) 31 #[.int .i64 0, .int .u64 0, .string ⟨#[]⟩] (0, 0) _ rfl (setRow_heap _ _ _ _ _ _ U6.out) Tryz.underlying31 rfl infoFault) rfl ?_
        unfold GoesPost
        rw [← Htg.out, HAe.out, HBe.out, Hv.out, if_pos rfl, hj]
        exact ⟨rfl, (setRow_other _ _ _ _ (by omega)).trans HT4.out, K4.out.setRow _ _ (.inl (by omega))⟩
      · have hj : ∀ X', jumpN X X' pc (adr pc (u64N n)) = (X, pc, 13, t) := fun X' => by rw [hte]; unfold jumpN; rw [if_neg h4]
        rw [hj] at HT4 ⊢
        go_wp2_with (refine wpList_store_row rfl 31 (.tmp 4) (.tmp 92) rfl (w.heap.size + 1) #[.int .i64 13, .int .u64 t, .string ⟨#[]⟩] rfl rfl 31 _ U6.out infoFault rfl (faultRow_one ..) ?_)
        refine bodyPost_ret (results_cell_tmp rfl _ _ (w.heap.size + 1) 31 #[.int .i64 13, .int .u64 t, .string ⟨#[]⟩] (0, 0) _ rfl (setRow_heap _ _ _ _ _ _ U6.out) Tryz.underlying31 rfl infoFault) rfl ?_
        unfold GoesPost
        rw [← Htg.out, HAe.out, HBe.out, Hv.out, if_pos rfl, hj]
        exact ⟨rfl, (setRow_other _ _ _ _ (by omega)).trans HT4.out, K4.out.setRow _ _ (.inl (by omega))⟩
end
end Go.Proofs.YtiemingpbommeaaGreatDoor
