/- The operations' names: where a name stands, which operation an instruction is. -/
import Derived.Test.YtiemingpbommeaaGreatDoorGg
import Derived.Test.YtiemingpbommeaaGreatDoorShelf
namespace Go.Proofs.YtiemingpbommeaaGreatDoor
open Go Go.RowKit
noncomputable section
set_option linter.unusedVariables false
set_option linter.unusedSimpArgs false
/-- the operations' names -/
def wnames : List (List UInt8) := ["add", "sub", "sll", "slt", "sltu", "xor", "srl", "sra", "or", "and", "mul", "mulh", "mulhsu", "mulhu", "div", "divu", "rem", "remu", "addw", "subw", "sllw", "srlw", "sraw", "mulw", "divw", "divuw", "remw", "remuw"].map fun s => s.toUTF8.data.toList
def wname (i : Nat) : List UInt8 := wnames.getD i []
/-- they are laid -/
def NamesAt (w : World) : Prop := ∀ i, i < 28 → w.cell? ⟨0, i, none⟩ = some (.string ⟨(wname i).toArray⟩)
def MaxAt (w : World) : Prop := ∃ m, w.cell? ⟨1, 0, none⟩ = some (.int .i64 m)
/-- where a name stands -/
def nameIdx (l : List UInt8) : Int := match (List.range 28).find? (fun i => l == wname i) with | some i => i | none => -1
theorem nameIdx_some {l : List UInt8} {k : Nat} (hk : k < 28) (h : (l == wname k) = true) (hno : ∀ j, j < k → (l == wname j) = false) : nameIdx l = k := by
  unfold nameIdx
  have : (List.range 28).find? (fun i => l == wname i) = some k := by
    rw [List.find?_range_eq_some]
    exact ⟨h, List.mem_range.2 hk, fun j hj => by simp [hno j hj]⟩
  rw [this]
theorem nameIdx_none {l : List UInt8} (hno : ∀ j, j < 28 → (l == wname j) = false) : nameIdx l = -1 := by
  unfold nameIdx
  have : (List.range 28).find? (fun i => l == wname i) = none := List.find?_eq_none.2 fun i hi => by simp [hno i (List.mem_range.1 hi)]
  rw [this]
set_option maxHeartbeats 1000000 in
set_option maxRecDepth 100000 in
theorem nameIndex_any (l : List UInt8) (w : World) (hN : NamesAt w) :
    Calls Tryz.prog 140 #[.slice (some ⟨0, 0, none⟩) 28 28, .string ⟨l.toArray⟩] w fun e w' => e = .returned (.int .i64 (nameIdx l)) ∧ w' = w := by
  have HN := hid hN
  have Hs := hid (fun k => @nameIdx_some l k)
  have Hn := hid (@nameIdx_none l)
  obtain ⟨r, hr⟩ : ∃ r, nameIdx l = r := ⟨_, rfl⟩
  rw [hr] at Hs Hn ⊢
  clear hN hr
  go_enter Tryz.func140, Tryz.ntmps140
  go_wp2
  go_outline
  go_loopw [8] (fun i wr => ∃ k : Nat, k ≤ 28 ∧ i = .int .i64 k ∧ (∀ j, j < k → (l == wname j) = false) ∧ wr = w) (fun i _ => 28 - (intOf i).toNat)
  case atStart => exact ⟨0, by omega, rfl, fun j hj => absurd hj (by omega), rfl⟩
  case round =>
    obtain ⟨k, hk, rfl, hno, rfl⟩ := hrel
    have Hno := hid hno
    clear hno
    by_cases hlt : k < 28
    · have c0 := HN.out k hlt
      go_wp2_with fail
      · go_ret
        exact ⟨by rw [Hs.out k hlt (by assumption) Hno.out]; rfl, rfl⟩
      · refine ⟨⟨k + 1, by omega, by simp, fun j hj => ?_, trivial⟩, by simp only [intOf]; omega⟩
        by_cases e : j = k
        · subst e; assumption
        · exact Hno.out j (by omega)
    · have hk28 : k = 28 := by omega
      subst hk28
      go_wp2_with fail
      go_ret
      exact ⟨by rw [Hn.out Hno.out]; rfl, rfl⟩
set_option maxHeartbeats 1000000 in
set_option maxRecDepth 100000 in
theorem wordNamed_any (l : List UInt8) (w : World) (hN : NamesAt w) :
    Calls Tryz.prog 114 #[.string ⟨l.toArray⟩] w fun e w' => e = .returned (.tuple #[.int .i64 (max (nameIdx l) 0), .bool (decide (0 ≤ nameIdx l))]) ∧ ∃ m, w' = w.drewN m := by
  have HN := hid hN
  have Hx := hid (nameIndex_any l)
  obtain ⟨r, hr⟩ : ∃ r, nameIdx l = r := ⟨_, rfl⟩
  rw [hr] at Hx ⊢
  clear hN hr
  go_enter Tryz.func114, Tryz.ntmps114
  go_wp2_with fail
  refine (Hx.out _ HN.out).mono ?_
  rintro e w1 ⟨rfl, rfl⟩
  go_wp2_with fail
  go_ret2
  exact ⟨rfl, 0, rfl⟩
/-- an instruction's operation: its name without the i -/
def operN (o : Int) : Int := max (nameIdx (if letterI o = 82 then nameB o else Lib.replace (nameB o) [105] [] 1)) 0
theorem nameB_short (o : Int) : (nameB o).length < 100 := by
  unfold nameB
  split
  · rename_i h
    have ht : table.all (fun r => decide (r.1.length < 100)) = true := by decide
    have hm := formAt_mem o.toNat (by omega)
    simpa using List.all_eq_true.1 ht _ hm
  · decide
theorem NamesAt.below {w w' : World} (h : NamesAt w) (h0 : 2 < w.heap.size) (hb : Below w.heap.size w w') : NamesAt w' := fun i hi => (World.cell?_of_block (hb.block 0 (Nat.lt_of_le_of_lt (by decide) h0))).trans (h i hi)
set_option maxHeartbeats 1000000 in
set_option maxRecDepth 100000 in
theorem operation_any (o : Int) (w : World) (hN : NamesAt w) (hM : MaxAt w) (h2 : 2 < w.heap.size) :
    Calls Tryz.prog 81 #[.int .i64 o] w fun e w' => e = .returned (.int .i64 (operN o)) ∧ Below w.heap.size w w' := by
  have HN := hid hN
  have HM := hid hM
  obtain ⟨r, hr⟩ : ∃ r, operN o = r := ⟨_, rfl⟩
  have Hr := hid hr
  rw [hr]
  clear hN hM hr
  go_enter Tryz.func81, Tryz.ntmps81
  go_wp2_with fail
  refine (name_any o _).mono ?_
  rintro e w1 ⟨rfl, hb1⟩
  have B1 := hid hb1
  clear hb1
  go_wp2_with fail
  refine (form_any o _).mono ?_
  rintro e w2 ⟨rfl, hb2⟩
  have B2 := hid (B1.out.trans (hb2.mono B1.out.size))
  clear hb2
  have HN2 := hid (HN.out.below (by omega) B2.out)
  obtain ⟨m, hm⟩ := HM.out
  have hm2 : w2.cell? ⟨1, 0, none⟩ = some (.int .i64 m) := (World.cell?_of_block (B2.out.block 1 (Nat.lt_of_le_of_lt (by decide) h2))).trans hm
  by_cases hl : letterI o = 82
  · have Hr' : Hid (max (nameIdx (nameB o)) 0 = r) := hid (by rw [← Hr.out]; unfold operN; rw [if_pos hl])
    go_wp2_with fail
    refine (wordNamed_any (nameB o) _ HN2.out).mono ?_
    rintro e w3 ⟨rfl, m3, rfl⟩
    go_wp2_with fail
    go_ret
    exact ⟨by rw [← Hr'.out]; rfl, below_drewN B2.out _⟩
  · obtain ⟨l', hl'⟩ : ∃ l', Lib.replace (nameB o) [105] [] 1 = l' := ⟨_, rfl⟩
    have Hr' : Hid (max (nameIdx l') 0 = r) := hid (by rw [← Hr.out, ← hl']; unfold operN; rw [if_neg hl])
    have Hl' := hid hl'
    clear hl'
    go_wp2_with fail
    have hs := nameB_short o
    refine (Tryz.strings_Replace ⟨(nameB o).toArray⟩ ⟨[105].toArray⟩ ⟨[].toArray⟩ 1 m _ (by simp [ByteArray.size]; omega) hm2 (by decide) (by simp [ByteArray.size]; omega)).mono ?_
    rintro e w3 ⟨rfl, hb3⟩
    have HN3 := hid (HN2.out.below (by have := B2.out.size; omega) hb3)
    have B3 := hid (B2.out.trans (hb3.mono B2.out.size))
    clear hb3
    simp only [Hl'.out]
    go_wp2_with fail
    refine (wordNamed_any l' _ HN3.out).mono ?_
    rintro e w4 ⟨rfl, m3, rfl⟩
    go_wp2_with fail
    go_ret
    exact ⟨by rw [← Hr'.out]; rfl, below_drewN B3.out _⟩
end
end Go.Proofs.YtiemingpbommeaaGreatDoor

/- The processor: an instruction behind which the next one comes. -/
namespace Go.Proofs.YtiemingpbommeaaGreatDoor
open Go Go.RowKit
noncomputable section
set_option linter.unusedVariables false
set_option linter.unusedSimpArgs false
theorem SpaceIs.keepSt {w w' : World} {sp m : Nat} {sl : Value} {q : Int} {ps : List (Pg × Nat)} {g : Nat} {X : List Nat} {pc : Nat} (h : SpaceIs w sp m sl q ps) (hT : StIs w g X pc) (hk : Keep [g] w w') : SpaceIs w' sp m sl q ps := by
  refine h.kept hk ?_ ?_ ?_
  · intro e
    obtain rfl := List.mem_singleton.1 e
    have h1 := h.row
    rw [hT] at h1
    have := congrArg (fun o : Option Obj => match o with | some (.cells _ t _) => t | _ => 0) h1
    exact absurd (show (36 : Nat) = 74 from this) (by decide)
  · intro e
    obtain rfl := List.mem_singleton.1 e
    have h1 := h.map
    rw [hT] at h1
    cases h1
  · intro b hb e
    obtain rfl := List.mem_singleton.1 e
    obtain ⟨x, hx, rfl⟩ := List.mem_map.1 hb
    have h1 := h.page x hx
    rw [hT] at h1
    have := congrArg (fun o : Option Obj => match o with | some (.cells _ t _) => t | _ => 0) h1
    exact absurd (show (36 : Nat) = 85 from this) (by decide)
theorem StIs.not_blks {w : World} {sp m : Nat} {sl : Value} {q : Int} {ps : List (Pg × Nat)} {g : Nat} {X : List Nat} {pc : Nat} (hT : StIs w g X pc) (h : SpaceIs w sp m sl q ps) : g ∉ blks ps := by
  intro hb
  obtain ⟨x, hx, rfl⟩ := List.mem_map.1 hb
  have h1 := h.page x hx
  rw [hT] at h1
  have := congrArg (fun o : Option Obj => match o with | some (.cells _ t _) => t | _ => 0) h1
  exact absurd (show (36 : Nat) = 85 from this) (by decide)
/-- what an instruction leaves -/
def DoPost (sp m : Nat) (sl : Value) (q : Int) (ps : List (Pg × Nat)) (g : Nat) (r : List Pg × List Nat × Nat × Nat) (pc : Nat) (w : World) (e : Ending) (w' : World) : Prop :=
  e = .returned (fltV r.2.2.1 r.2.2.2) ∧ (∃ ps', pgs ps' = r.1 ∧ blks ps' = blks ps ∧ SpaceIs w' sp m sl q ps') ∧ StIs w' g r.2.1 pc ∧ Keep (g :: blks ps) w w'
theorem wrap_u64N (n : Int) : IntKind.u64.wrap n = (u64N n : Int) := by rw [IntKind.wrap_u64]; unfold u64N; omega
theorem set_at (g : Nat) (X : List Nat) (pc r n : Nat) (ni : Int) (h : ni = n) (w : World) (hS : StIs w g X pc) (hX : Regs X) (hr : r < 32) :
    Calls Tryz.prog 74 #[.pointer (some ⟨g, 0, none⟩), .int .i64 r, .int .u64 ni] w fun e w' => e = .returned (.tuple #[]) ∧ StIs w' g (setR X r n) pc ∧ Keep [g] w w' := by subst h; exact set_any g X pc r n w hS hX hr
theorem Keep.toG {S : List Nat} {g : Nat} {w w' : World} (h : Keep [g] w w') : Keep (g :: S) w w' := h.mono (by intro k hk; simp at hk; simp [hk])
theorem store_at (sp m : Nat) (sl : Value) (q : Int) (ps : List (Pg × Nat)) (x n : Nat) (xi : Int) (h : xi = x) (size : Int) (w : World) (hx : x < 18446744073709551616) (hn : n < 18446744073709551616) (hS : SpaceIs w sp m sl q ps) :
    Calls Tryz.prog 78 #[.pointer (some ⟨sp, 0, none⟩), .int .u64 xi, .int .u64 n, .int .i64 size] w (StorePost sp m sl q ps x n size w) := by subst h; exact store_any sp m sl q ps x n size w hx hn hS
set_option maxHeartbeats 4000000 in
set_option maxRecDepth 100000 in
theorem do_lui (sp m : Nat) (sl : Value) (q : Int) (ps : List (Pg × Nat)) (g : Nat) (X : List Nat) (pc : Nat) (d a b : Nat) (n : Int) (w : World) (hS : SpaceIs w sp m sl q ps) (hT : StIs w g X pc) (hX : Regs X) (hd : d < 32) (ha : a < 32) (hb : b < 32) :
    Calls Tryz.prog 35 #[.pointer (some ⟨g, 0, none⟩), .pointer (some ⟨sp, 0, none⟩), .agg (instCells 0 d a b n)] w (DoPost sp m sl q ps g (pgs ps, setR X d (u64N n), 0, 0) pc w) := by
  obtain ⟨o, ho⟩ : ∃ o : Int, o = 0 := ⟨_, rfl⟩
  rw [← ho]
  have Ho := hid ho
  clear ho
  have HX := hid hX
  have HT := hid hT
  have HS := hid hS
  have hgl := hT.lt
  have hA := hX.get a
  have hB := hX.get b
  have hca := hT.cell hX ha
  have hcb := hT.cell hX hb
  clear hX hT hS
  obtain ⟨A, hAe⟩ : ∃ A, getR X a = A := ⟨_, rfl⟩
  obtain ⟨B, hBe⟩ : ∃ B, getR X b = B := ⟨_, rfl⟩
  have HAe := hid hAe
  have HBe := hid hBe
  rw [hAe] at hA hca
  rw [hBe] at hB hcb
  clear hAe hBe
  unfold instCells
  go_enter Tryz.func35, Tryz.ntmps35
  go_wp2_with fail
  obtain ⟨W, hW⟩ : ∃ W, (w.alloc (.cells #[.int .i64 o, .int .i64 d, .int .i64 a, .int .i64 b, .int .i64 n] 44)).alloc (.cells #[.int .i64 0, .int .u64 0, .string ⟨#[]⟩] 31) = W := ⟨_, rfl⟩
  have B1 : Hid (Below w.heap.size w W) := hid (by rw [← hW]; exact ((Below.refl _ _).alloc (Nat.le_refl _) _).alloc (by simp) _)
  have M5 : Hid (W.heap[w.heap.size]? = some (.cells #[.int .i64 o, .int .i64 d, .int .i64 a, .int .i64 b, .int .i64 n] 44 (0, 0))) := hid (by rw [← hW]; exact heap_alloc2_old w _ _)
  have M6 : Hid (W.heap[w.heap.size + 1]? = some (.cells #[.int .i64 0, .int .u64 0, .string ⟨#[]⟩] 31 (0, 0))) := hid (by rw [← hW]; exact heap_alloc2_new w _ _)
  have x2 : W.cell? ⟨w.heap.size, 2, none⟩ = some (.int .i64 a) := by rw [cell_of_row W _ _ _ _ _ M5.out]; rfl
  have x3 : W.cell? ⟨w.heap.size, 3, none⟩ = some (.int .i64 b) := by rw [cell_of_row W _ _ _ _ _ M5.out]; rfl
  have hcA : W.cell? ⟨g, a, none⟩ = some (.int .u64 A) := by rw [← hca]; exact World.cell?_of_block (B1.out.block _ hgl)
  have hcB : W.cell? ⟨g, b, none⟩ = some (.int .u64 B) := by rw [← hcb]; exact World.cell?_of_block (B1.out.block _ hgl)
  have l5 := blk_lt' M5.out
  have lg : g < W.heap.size := Nat.lt_of_lt_of_le hgl B1.out.size
  rw [hW]
  clear hW hca hcb
  refine wp_region_quiet_in (fun w' => ∃ u, w' = aft W u) (by kernel_rfl) (by kernel_rfl) (aft_drew _) ?_
  repeat (go_big_quiet_step (fail))
  refine wpQuiet_nil ?_
  rintro W2 ⟨u, rfl⟩
  obtain ⟨W2, hW2⟩ : ∃ W2, aft W u = W2 := ⟨_, rfl⟩
  have bu : Hid (Below W.heap.size W W2) := hid (by rw [← hW2]; exact aft_below W u)
  rw [hW2]
  clear hW2
  have N5 := hid ((bu.out.block _ l5).trans M5.out)
  have N6 := hid ((bu.out.block _ (blk_lt' M6.out)).trans M6.out)
  have B2 := hid (B1.out.trans (bu.out.mono B1.out.size))
  clear x2 x3 hcA hcB l5 lg M5 M6 B1 bu
  have HT2 := hid (HT.out.below B2.out)
  have HS2 := hid (HS.out.below B2.out)
  have y0 : W2.cell? ⟨w.heap.size, 0, none⟩ = some (.int .i64 o) := by rw [cell_of_row W2 _ _ _ _ _ N5.out]; rfl
  have y1 : W2.cell? ⟨w.heap.size, 1, none⟩ = some (.int .i64 d) := by rw [cell_of_row W2 _ _ _ _ _ N5.out]; rfl
  have y4 : W2.cell? ⟨w.heap.size, 4, none⟩ = some (.int .i64 n) := by rw [cell_of_row W2 _ _ _ _ _ N5.out]; rfl
  have l5 := blk_lt' N5.out
  have lg := HT2.out.lt
  have ho := Ho.out
  subst ho
  go_wp2_with fail
  refine (set_at g X pc d (u64N n) _ (wrap_u64N n) _ HT2.out HX.out hd).mono ?_
  rintro e W3 ⟨rfl, hst, hkp⟩
  have P6 := hid (hkp.row N6.out (by simp; omega))
  have HT3 := hid hst
  have HS3 := hid (HS2.out.keepSt HT2.out hkp)
  have K3 := hid ((Keep.of_below B2.out).trans hkp)
  clear hst hkp
  go_wp2_with (refine wpList_store_row rfl 31 (.tmp 6) (.tmp 102) rfl (w.heap.size + 1) _ rfl rfl 31 _ P6.out infoFault rfl (faultRow_one ..) ?_)
  refine bodyPost_ret (results_cell_row rfl _ _ (w.heap.size + 1) 31 _ (0, 0) _ rfl (setRow_heap _ _ _ _ _ _ P6.out) Tryz.underlying31 rfl infoFault) rfl ?_
  refine ⟨rfl, ⟨ps, rfl, rfl, HS3.out.row_new ?_ ?_ ?_ _⟩, (setRow_other _ _ _ _ (by omega)).trans HT3.out, (K3.out.toG).setRow _ _ (.inl (by omega))⟩
  · have := blk_lt' HS.out.row; omega
  · have := blk_lt' HS.out.map; omega
  · intro h; have := HS.out.lt_blk h; omega
set_option maxHeartbeats 4000000 in
set_option maxRecDepth 100000 in
theorem do_auipc (sp m : Nat) (sl : Value) (q : Int) (ps : List (Pg × Nat)) (g : Nat) (X : List Nat) (pc : Nat) (d a b : Nat) (n : Int) (w : World) (hS : SpaceIs w sp m sl q ps) (hT : StIs w g X pc) (hX : Regs X) (hd : d < 32) (ha : a < 32) (hb : b < 32)  :
    Calls Tryz.prog 35 #[.pointer (some ⟨g, 0, none⟩), .pointer (some ⟨sp, 0, none⟩), .agg (instCells 1 d a b n)] w (DoPost sp m sl q ps g (pgs ps, setR X d (adr pc (u64N n)), 0, 0) pc w) := by
  obtain ⟨o, ho⟩ : ∃ o : Int, o = 1 := ⟨_, rfl⟩
  rw [← ho]
  have Ho := hid ho
  clear ho
  have HX := hid hX
  have HT := hid hT
  have HS := hid hS
  have hgl := hT.lt
  have hA := hX.get a
  have hB := hX.get b
  have hca := hT.cell hX ha
  have hcb := hT.cell hX hb
  clear hX hT hS
  obtain ⟨A, hAe⟩ : ∃ A, getR X a = A := ⟨_, rfl⟩
  obtain ⟨B, hBe⟩ : ∃ B, getR X b = B := ⟨_, rfl⟩
  have HAe := hid hAe
  have HBe := hid hBe
  rw [hAe] at hA hca
  rw [hBe] at hB hcb
  clear hAe hBe
  unfold instCells
  go_enter Tryz.func35, Tryz.ntmps35
  go_wp2_with fail
  obtain ⟨W, hW⟩ : ∃ W, (w.alloc (.cells #[.int .i64 o, .int .i64 d, .int .i64 a, .int .i64 b, .int .i64 n] 44)).alloc (.cells #[.int .i64 0, .int .u64 0, .string ⟨#[]⟩] 31) = W := ⟨_, rfl⟩
  have B1 : Hid (Below w.heap.size w W) := hid (by rw [← hW]; exact ((Below.refl _ _).alloc (Nat.le_refl _) _).alloc (by simp) _)
  have M5 : Hid (W.heap[w.heap.size]? = some (.cells #[.int .i64 o, .int .i64 d, .int .i64 a, .int .i64 b, .int .i64 n] 44 (0, 0))) := hid (by rw [← hW]; exact heap_alloc2_old w _ _)
  have M6 : Hid (W.heap[w.heap.size + 1]? = some (.cells #[.int .i64 0, .int .u64 0, .string ⟨#[]⟩] 31 (0, 0))) := hid (by rw [← hW]; exact heap_alloc2_new w _ _)
  have x2 : W.cell? ⟨w.heap.size, 2, none⟩ = some (.int .i64 a) := by rw [cell_of_row W _ _ _ _ _ M5.out]; rfl
  have x3 : W.cell? ⟨w.heap.size, 3, none⟩ = some (.int .i64 b) := by rw [cell_of_row W _ _ _ _ _ M5.out]; rfl
  have hcA : W.cell? ⟨g, a, none⟩ = some (.int .u64 A) := by rw [← hca]; exact World.cell?_of_block (B1.out.block _ hgl)
  have hcB : W.cell? ⟨g, b, none⟩ = some (.int .u64 B) := by rw [← hcb]; exact World.cell?_of_block (B1.out.block _ hgl)
  have l5 := blk_lt' M5.out
  have lg : g < W.heap.size := Nat.lt_of_lt_of_le hgl B1.out.size
  rw [hW]
  clear hW hca hcb
  refine wp_region_quiet_in (fun w' => ∃ u, w' = aft W u) (by kernel_rfl) (by kernel_rfl) (aft_drew _) ?_
  repeat (go_big_quiet_step (fail))
  refine wpQuiet_nil ?_
  rintro W2 ⟨u, rfl⟩
  obtain ⟨W2, hW2⟩ : ∃ W2, aft W u = W2 := ⟨_, rfl⟩
  have bu : Hid (Below W.heap.size W W2) := hid (by rw [← hW2]; exact aft_below W u)
  rw [hW2]
  clear hW2
  have N5 := hid ((bu.out.block _ l5).trans M5.out)
  have N6 := hid ((bu.out.block _ (blk_lt' M6.out)).trans M6.out)
  have B2 := hid (B1.out.trans (bu.out.mono B1.out.size))
  clear x2 x3 hcA hcB l5 lg M5 M6 B1 bu
  have HT2 := hid (HT.out.below B2.out)
  have HS2 := hid (HS.out.below B2.out)
  have y0 : W2.cell? ⟨w.heap.size, 0, none⟩ = some (.int .i64 o) := by rw [cell_of_row W2 _ _ _ _ _ N5.out]; rfl
  have y1 : W2.cell? ⟨w.heap.size, 1, none⟩ = some (.int .i64 d) := by rw [cell_of_row W2 _ _ _ _ _ N5.out]; rfl
  have y4 : W2.cell? ⟨w.heap.size, 4, none⟩ = some (.int .i64 n) := by rw [cell_of_row W2 _ _ _ _ _ N5.out]; rfl
  have l5 := blk_lt' N5.out
  have lg := HT2.out.lt
  have hcp := HT2.out.cellPc HX.out
  have ho := Ho.out
  subst ho
  go_wp2_with fail
  refine wp_region_quiet_tail 11 (fun w' => ∃ u, w' = aft W2 u) (by kernel_rfl) (by kernel_rfl) (aft_drew _) ?_
  simp only [List.take_succ_cons, List.take_zero, List.drop_succ_cons, List.drop_zero]
  repeat (go_big_quiet_step (fail))
  refine wpQuiet_nil ?_
  rintro W3 ⟨u, rfl⟩
  obtain ⟨W3, hW3⟩ : ∃ W3, aft W2 u = W3 := ⟨_, rfl⟩
  have bu : Hid (Below W2.heap.size W2 W3) := hid (by rw [← hW3]; exact aft_below W2 u)
  rw [hW3]
  clear hW3
  go_wp2_with fail
  refine (set_at g X pc d (adr pc (u64N n)) _ (adr_wrap pc n) _ (HT2.out.below bu.out) HX.out hd).mono ?_
  rintro e W4 ⟨rfl, hst, hkp⟩
  have P6 := hid (hkp.row ((bu.out.block _ (blk_lt' N6.out)).trans N6.out) (by simp; omega))
  have HT3 := hid hst
  have HS3 := hid ((HS2.out.below bu.out).keepSt (HT2.out.below bu.out) hkp)
  have K3 := hid (((Keep.of_below B2.out).trans (Keep.of_below bu.out)).trans hkp)
  clear hst hkp bu
  go_wp2_with (refine wpList_store_row rfl 31 (.tmp 6) (.tmp 102) rfl (w.heap.size + 1) _ rfl rfl 31 _ P6.out infoFault rfl (faultRow_one ..) ?_)
  refine bodyPost_ret (results_cell_row rfl _ _ (w.heap.size + 1) 31 _ (0, 0) _ rfl (setRow_heap _ _ _ _ _ _ P6.out) Tryz.underlying31 rfl infoFault) rfl ?_
  refine ⟨rfl, ⟨ps, rfl, rfl, HS3.out.row_new ?_ ?_ ?_ _⟩, (setRow_other _ _ _ _ (by omega)).trans HT3.out, (K3.out.toG).setRow _ _ (.inl (by omega))⟩
  · have := blk_lt' HS.out.row; omega
  · have := blk_lt' HS.out.map; omega
  · intro h; have := HS.out.lt_blk h; omega
set_option maxHeartbeats 4000000 in
set_option maxRecDepth 100000 in
theorem do_none (sp m : Nat) (sl : Value) (q : Int) (ps : List (Pg × Nat)) (g : Nat) (X : List Nat) (pc : Nat) (d a b : Nat) (n : Int) (w : World) (hS : SpaceIs w sp m sl q ps) (hT : StIs w g X pc) (hX : Regs X) (hd : d < 32) (ha : a < 32) (hb : b < 32)  (o : Int) (ho : o = 62 ∨ o = 63) :
    Calls Tryz.prog 35 #[.pointer (some ⟨g, 0, none⟩), .pointer (some ⟨sp, 0, none⟩), .agg (instCells o d a b n)] w (DoPost sp m sl q ps g (pgs ps, X, 0, 0) pc w) := by
  have Ho := hid ho
  clear ho
  have HX := hid hX
  have HT := hid hT
  have HS := hid hS
  have hgl := hT.lt
  have hA := hX.get a
  have hB := hX.get b
  have hca := hT.cell hX ha
  have hcb := hT.cell hX hb
  clear hX hT hS
  obtain ⟨A, hAe⟩ : ∃ A, getR X a = A := ⟨_, rfl⟩
  obtain ⟨B, hBe⟩ : ∃ B, getR X b = B := ⟨_, rfl⟩
  have HAe := hid hAe
  have HBe := hid hBe
  rw [hAe] at hA hca
  rw [hBe] at hB hcb
  clear hAe hBe
  unfold instCells
  go_enter Tryz.func35, Tryz.ntmps35
  go_wp2_with fail
  obtain ⟨W, hW⟩ : ∃ W, (w.alloc (.cells #[.int .i64 o, .int .i64 d, .int .i64 a, .int .i64 b, .int .i64 n] 44)).alloc (.cells #[.int .i64 0, .int .u64 0, .string ⟨#[]⟩] 31) = W := ⟨_, rfl⟩
  have B1 : Hid (Below w.heap.size w W) := hid (by rw [← hW]; exact ((Below.refl _ _).alloc (Nat.le_refl _) _).alloc (by simp) _)
  have M5 : Hid (W.heap[w.heap.size]? = some (.cells #[.int .i64 o, .int .i64 d, .int .i64 a, .int .i64 b, .int .i64 n] 44 (0, 0))) := hid (by rw [← hW]; exact heap_alloc2_old w _ _)
  have M6 : Hid (W.heap[w.heap.size + 1]? = some (.cells #[.int .i64 0, .int .u64 0, .string ⟨#[]⟩] 31 (0, 0))) := hid (by rw [← hW]; exact heap_alloc2_new w _ _)
  have x2 : W.cell? ⟨w.heap.size, 2, none⟩ = some (.int .i64 a) := by rw [cell_of_row W _ _ _ _ _ M5.out]; rfl
  have x3 : W.cell? ⟨w.heap.size, 3, none⟩ = some (.int .i64 b) := by rw [cell_of_row W _ _ _ _ _ M5.out]; rfl
  have hcA : W.cell? ⟨g, a, none⟩ = some (.int .u64 A) := by rw [← hca]; exact World.cell?_of_block (B1.out.block _ hgl)
  have hcB : W.cell? ⟨g, b, none⟩ = some (.int .u64 B) := by rw [← hcb]; exact World.cell?_of_block (B1.out.block _ hgl)
  have l5 := blk_lt' M5.out
  have lg : g < W.heap.size := Nat.lt_of_lt_of_le hgl B1.out.size
  rw [hW]
  clear hW hca hcb
  refine wp_region_quiet_in (fun w' => ∃ u, w' = aft W u) (by kernel_rfl) (by kernel_rfl) (aft_drew _) ?_
  repeat (go_big_quiet_step (fail))
  refine wpQuiet_nil ?_
  rintro W2 ⟨u, rfl⟩
  obtain ⟨W2, hW2⟩ : ∃ W2, aft W u = W2 := ⟨_, rfl⟩
  have bu : Hid (Below W.heap.size W W2) := hid (by rw [← hW2]; exact aft_below W u)
  rw [hW2]
  clear hW2
  have N5 := hid ((bu.out.block _ l5).trans M5.out)
  have N6 := hid ((bu.out.block _ (blk_lt' M6.out)).trans M6.out)
  have B2 := hid (B1.out.trans (bu.out.mono B1.out.size))
  clear x2 x3 hcA hcB l5 lg M5 M6 B1 bu
  have HT2 := hid (HT.out.below B2.out)
  have HS2 := hid (HS.out.below B2.out)
  have y0 : W2.cell? ⟨w.heap.size, 0, none⟩ = some (.int .i64 o) := by rw [cell_of_row W2 _ _ _ _ _ N5.out]; rfl
  have y1 : W2.cell? ⟨w.heap.size, 1, none⟩ = some (.int .i64 d) := by rw [cell_of_row W2 _ _ _ _ _ N5.out]; rfl
  have y4 : W2.cell? ⟨w.heap.size, 4, none⟩ = some (.int .i64 n) := by rw [cell_of_row W2 _ _ _ _ _ N5.out]; rfl
  have l5 := blk_lt' N5.out
  have lg := HT2.out.lt
  have P6 := N6
  have HT3 := HT2
  have HS3 := HS2
  have K3 : Hid (Keep [g] w W2) := hid (Keep.of_below B2.out)
  rcases Ho.out with rfl | rfl
  all_goals
    go_wp2_with (refine wpList_store_row rfl 31 (.tmp 6) (.tmp 102) rfl (w.heap.size + 1) _ rfl rfl 31 _ P6.out infoFault rfl (faultRow_one ..) ?_)
    refine bodyPost_ret (results_cell_row rfl _ _ (w.heap.size + 1) 31 _ (0, 0) _ rfl (setRow_heap _ _ _ _ _ _ P6.out) Tryz.underlying31 rfl infoFault) rfl ?_
    refine ⟨rfl, ⟨ps, rfl, rfl, HS3.out.row_new ?_ ?_ ?_ _⟩, (setRow_other _ _ _ _ (by omega)).trans HT3.out, (K3.out.toG).setRow _ _ (.inl (by omega))⟩
    · have := blk_lt' HS.out.row; omega
    · have := blk_lt' HS.out.map; omega
    · intro h; have := HS.out.lt_blk h; omega
set_option maxHeartbeats 4000000 in
set_option maxRecDepth 100000 in
theorem do_load (sp m : Nat) (sl : Value) (q : Int) (ps : List (Pg × Nat)) (g : Nat) (X : List Nat) (pc : Nat) (d a b : Nat) (n : Int) (w : World) (hS : SpaceIs w sp m sl q ps) (hT : StIs w g X pc) (hX : Regs X) (hd : d < 32) (ha : a < 32) (hb : b < 32)  (o : Int) (ho : 10 ≤ o ∧ o ≤ 16) :
    Calls Tryz.prog 35 #[.pointer (some ⟨g, 0, none⟩), .pointer (some ⟨sp, 0, none⟩), .agg (instCells o d a b n)] w (DoPost sp m sl q ps g (pgs ps, (if (loadN (pgs ps) (adr (getR X a) (u64N n)) (widthN o).1).2.1 = 0 then setR X d (if (widthN o).2 then extendN (loadN (pgs ps) (adr (getR X a) (u64N n)) (widthN o).1).1 (8 * (widthN o).1) else (loadN (pgs ps) (adr (getR X a) (u64N n)) (widthN o).1).1) else X), (loadN (pgs ps) (adr (getR X a) (u64N n)) (widthN o).1).2.1, (loadN (pgs ps) (adr (getR X a) (u64N n)) (widthN o).1).2.2) pc w) := by
  have Ho := hid ho
  clear ho
  have HC := hid (fun w hS hT => cpuLoad_any sp m sl q ps g X pc o d a b n w hS hT hX hd ha)
  unfold CpuLoadPost at HC
  obtain ⟨X', hX'⟩ : ∃ X', (if (loadN (pgs ps) (adr (getR X a) (u64N n)) (widthN o).1).2.1 = 0 then setR X d (if (widthN o).2 then extendN (loadN (pgs ps) (adr (getR X a) (u64N n)) (widthN o).1).1 (8 * (widthN o).1) else (loadN (pgs ps) (adr (getR X a) (u64N n)) (widthN o).1).1) else X) = X' := ⟨_, rfl⟩
  rw [hX'] at HC ⊢
  clear hX'
  obtain ⟨c, hc⟩ : ∃ c, (loadN (pgs ps) (adr (getR X a) (u64N n)) (widthN o).1).2.1 = c := ⟨_, rfl⟩
  rw [hc] at HC ⊢
  clear hc
  obtain ⟨f, hf⟩ : ∃ f, (loadN (pgs ps) (adr (getR X a) (u64N n)) (widthN o).1).2.2 = f := ⟨_, rfl⟩
  rw [hf] at HC ⊢
  clear hf
  have HX := hid hX
  have HT := hid hT
  have HS := hid hS
  have hgl := hT.lt
  have hA := hX.get a
  have hB := hX.get b
  have hca := hT.cell hX ha
  have hcb := hT.cell hX hb
  clear hX hT hS
  obtain ⟨A, hAe⟩ : ∃ A, getR X a = A := ⟨_, rfl⟩
  obtain ⟨B, hBe⟩ : ∃ B, getR X b = B := ⟨_, rfl⟩
  have HAe := hid hAe
  have HBe := hid hBe
  rw [hAe] at hA hca
  rw [hBe] at hB hcb
  clear hAe hBe
  unfold instCells
  go_enter Tryz.func35, Tryz.ntmps35
  go_wp2_with fail
  obtain ⟨W, hW⟩ : ∃ W, (w.alloc (.cells #[.int .i64 o, .int .i64 d, .int .i64 a, .int .i64 b, .int .i64 n] 44)).alloc (.cells #[.int .i64 0, .int .u64 0, .string ⟨#[]⟩] 31) = W := ⟨_, rfl⟩
  have B1 : Hid (Below w.heap.size w W) := hid (by rw [← hW]; exact ((Below.refl _ _).alloc (Nat.le_refl _) _).alloc (by simp) _)
  have M5 : Hid (W.heap[w.heap.size]? = some (.cells #[.int .i64 o, .int .i64 d, .int .i64 a, .int .i64 b, .int .i64 n] 44 (0, 0))) := hid (by rw [← hW]; exact heap_alloc2_old w _ _)
  have M6 : Hid (W.heap[w.heap.size + 1]? = some (.cells #[.int .i64 0, .int .u64 0, .string ⟨#[]⟩] 31 (0, 0))) := hid (by rw [← hW]; exact heap_alloc2_new w _ _)
  have x2 : W.cell? ⟨w.heap.size, 2, none⟩ = some (.int .i64 a) := by rw [cell_of_row W _ _ _ _ _ M5.out]; rfl
  have x3 : W.cell? ⟨w.heap.size, 3, none⟩ = some (.int .i64 b) := by rw [cell_of_row W _ _ _ _ _ M5.out]; rfl
  have hcA : W.cell? ⟨g, a, none⟩ = some (.int .u64 A) := by rw [← hca]; exact World.cell?_of_block (B1.out.block _ hgl)
  have hcB : W.cell? ⟨g, b, none⟩ = some (.int .u64 B) := by rw [← hcb]; exact World.cell?_of_block (B1.out.block _ hgl)
  have l5 := blk_lt' M5.out
  have lg : g < W.heap.size := Nat.lt_of_lt_of_le hgl B1.out.size
  rw [hW]
  clear hW hca hcb
  refine wp_region_quiet_in (fun w' => ∃ u, w' = aft W u) (by kernel_rfl) (by kernel_rfl) (aft_drew _) ?_
  repeat (go_big_quiet_step (fail))
  refine wpQuiet_nil ?_
  rintro W2 ⟨u, rfl⟩
  obtain ⟨W2, hW2⟩ : ∃ W2, aft W u = W2 := ⟨_, rfl⟩
  have bu : Hid (Below W.heap.size W W2) := hid (by rw [← hW2]; exact aft_below W u)
  rw [hW2]
  clear hW2
  have N5 := hid ((bu.out.block _ l5).trans M5.out)
  have N6 := hid ((bu.out.block _ (blk_lt' M6.out)).trans M6.out)
  have B2 := hid (B1.out.trans (bu.out.mono B1.out.size))
  clear x2 x3 hcA hcB l5 lg M5 M6 B1 bu
  have HT2 := hid (HT.out.below B2.out)
  have HS2 := hid (HS.out.below B2.out)
  have y0 : W2.cell? ⟨w.heap.size, 0, none⟩ = some (.int .i64 o) := by rw [cell_of_row W2 _ _ _ _ _ N5.out]; rfl
  have y1 : W2.cell? ⟨w.heap.size, 1, none⟩ = some (.int .i64 d) := by rw [cell_of_row W2 _ _ _ _ _ N5.out]; rfl
  have y4 : W2.cell? ⟨w.heap.size, 4, none⟩ = some (.int .i64 n) := by rw [cell_of_row W2 _ _ _ _ _ N5.out]; rfl
  have l5 := blk_lt' N5.out
  have lg := HT2.out.lt
  have y2 : W2.cell? ⟨w.heap.size, 2, none⟩ = some (.int .i64 a) := by rw [cell_of_row W2 _ _ _ _ _ N5.out]; rfl
  have y3 : W2.cell? ⟨w.heap.size, 3, none⟩ = some (.int .i64 b) := by rw [cell_of_row W2 _ _ _ _ _ N5.out]; rfl
  have h6 : o = 10 ∨ o = 11 ∨ o = 12 ∨ o = 13 ∨ o = 14 ∨ o = 15 ∨ o = 16 := by have := Ho.out; omega
  clear Ho
  rcases h6 with rfl | rfl | rfl | rfl | rfl | rfl | rfl
  all_goals
    go_wp2_with fail
    refine (HC.out _ HS2.out HT2.out).mono ?_
    rintro e W3 ⟨rfl, hkp, hst⟩
    have P6 := hid (hkp.row N6.out (by simp; omega))
    have HT3 := hid hst
    have HS3 := hid (HS2.out.keepSt HT2.out hkp)
    have K3 := hid ((Keep.of_below B2.out).trans hkp)
    clear hst hkp
    go_wp2_with (refine wpList_store_row rfl 31 (.tmp 6) (.tmp 78) rfl (w.heap.size + 1) #[.int .i64 c, .int .u64 f, .string ⟨#[]⟩] rfl rfl 31 _ P6.out infoFault rfl (faultRow_one ..) ?_)
    refine bodyPost_ret (results_cell_row rfl _ _ (w.heap.size + 1) 31 #[.int .i64 c, .int .u64 f, .string ⟨#[]⟩] (0, 0) _ rfl (setRow_heap _ _ _ _ _ _ P6.out) Tryz.underlying31 rfl infoFault) rfl ?_
    refine ⟨rfl, ⟨ps, rfl, rfl, HS3.out.row_new ?_ ?_ ?_ _⟩, (setRow_other _ _ _ _ (by omega)).trans HT3.out, (K3.out.toG).setRow _ _ (.inl (by omega))⟩
    · have := blk_lt' HS.out.row; omega
    · have := blk_lt' HS.out.map; omega
    · intro h; have := HS.out.lt_blk h; omega
set_option maxHeartbeats 4000000 in
set_option maxRecDepth 100000 in
theorem do_store (sp m : Nat) (sl : Value) (q : Int) (ps : List (Pg × Nat)) (g : Nat) (X : List Nat) (pc : Nat) (d a b : Nat) (n : Int) (w : World) (hS : SpaceIs w sp m sl q ps) (hT : StIs w g X pc) (hX : Regs X) (hd : d < 32) (ha : a < 32) (hb : b < 32)  (o : Int) (ho : 17 ≤ o ∧ o ≤ 20) :
    Calls Tryz.prog 35 #[.pointer (some ⟨g, 0, none⟩), .pointer (some ⟨sp, 0, none⟩), .agg (instCells o d a b n)] w (DoPost sp m sl q ps g ((storeN (pgs ps) (adr (getR X a) (u64N n)) (getR X b) (widthN o).1).1, X, (storeN (pgs ps) (adr (getR X a) (u64N n)) (getR X b) (widthN o).1).2.1, (storeN (pgs ps) (adr (getR X a) (u64N n)) (getR X b) (widthN o).1).2.2) pc w) := by
  have Ho := hid ho
  clear ho
  rcases hwd : widthN o with ⟨k, x⟩
  have Hwd := hid hwd
  clear hwd
  have HC := hid (fun (xi : Int) (h : xi = adr (getR X a) (u64N n)) (w : World) hS => store_at sp m sl q ps (adr (getR X a) (u64N n)) (getR X b) xi h k w (adr_lt _ _) (hX.get b) hS)
  unfold StorePost at HC
  rcases hst0 : storeN (pgs ps) (adr (getR X a) (u64N n)) (getR X b) k with ⟨M', c, f⟩
  rw [hst0] at HC
  simp only [hst0]
  clear hst0
  have HX := hid hX
  have HT := hid hT
  have HS := hid hS
  have hgl := hT.lt
  have hA := hX.get a
  have hB := hX.get b
  have hca := hT.cell hX ha
  have hcb := hT.cell hX hb
  clear hX hT hS
  obtain ⟨A, hAe⟩ : ∃ A, getR X a = A := ⟨_, rfl⟩
  obtain ⟨B, hBe⟩ : ∃ B, getR X b = B := ⟨_, rfl⟩
  have HAe := hid hAe
  have HBe := hid hBe
  rw [hAe] at hA hca
  rw [hBe] at hB hcb
  clear hAe hBe
  unfold instCells
  go_enter Tryz.func35, Tryz.ntmps35
  go_wp2_with fail
  obtain ⟨W, hW⟩ : ∃ W, (w.alloc (.cells #[.int .i64 o, .int .i64 d, .int .i64 a, .int .i64 b, .int .i64 n] 44)).alloc (.cells #[.int .i64 0, .int .u64 0, .string ⟨#[]⟩] 31) = W := ⟨_, rfl⟩
  have B1 : Hid (Below w.heap.size w W) := hid (by rw [← hW]; exact ((Below.refl _ _).alloc (Nat.le_refl _) _).alloc (by simp) _)
  have M5 : Hid (W.heap[w.heap.size]? = some (.cells #[.int .i64 o, .int .i64 d, .int .i64 a, .int .i64 b, .int .i64 n] 44 (0, 0))) := hid (by rw [← hW]; exact heap_alloc2_old w _ _)
  have M6 : Hid (W.heap[w.heap.size + 1]? = some (.cells #[.int .i64 0, .int .u64 0, .string ⟨#[]⟩] 31 (0, 0))) := hid (by rw [← hW]; exact heap_alloc2_new w _ _)
  have x2 : W.cell? ⟨w.heap.size, 2, none⟩ = some (.int .i64 a) := by rw [cell_of_row W _ _ _ _ _ M5.out]; rfl
  have x3 : W.cell? ⟨w.heap.size, 3, none⟩ = some (.int .i64 b) := by rw [cell_of_row W _ _ _ _ _ M5.out]; rfl
  have hcA : W.cell? ⟨g, a, none⟩ = some (.int .u64 A) := by rw [← hca]; exact World.cell?_of_block (B1.out.block _ hgl)
  have hcB : W.cell? ⟨g, b, none⟩ = some (.int .u64 B) := by rw [← hcb]; exact World.cell?_of_block (B1.out.block _ hgl)
  have l5 := blk_lt' M5.out
  have lg : g < W.heap.size := Nat.lt_of_lt_of_le hgl B1.out.size
  rw [hW]
  clear hW hca hcb
  refine wp_region_quiet_in (fun w' => ∃ u, w' = aft W u) (by kernel_rfl) (by kernel_rfl) (aft_drew _) ?_
  repeat (go_big_quiet_step (fail))
  refine wpQuiet_nil ?_
  rintro W2 ⟨u, rfl⟩
  obtain ⟨W2, hW2⟩ : ∃ W2, aft W u = W2 := ⟨_, rfl⟩
  have bu : Hid (Below W.heap.size W W2) := hid (by rw [← hW2]; exact aft_below W u)
  rw [hW2]
  clear hW2
  have N5 := hid ((bu.out.block _ l5).trans M5.out)
  have N6 := hid ((bu.out.block _ (blk_lt' M6.out)).trans M6.out)
  have B2 := hid (B1.out.trans (bu.out.mono B1.out.size))
  clear x2 x3 hcA hcB l5 lg M5 M6 B1 bu
  have HT2 := hid (HT.out.below B2.out)
  have HS2 := hid (HS.out.below B2.out)
  have y0 : W2.cell? ⟨w.heap.size, 0, none⟩ = some (.int .i64 o) := by rw [cell_of_row W2 _ _ _ _ _ N5.out]; rfl
  have y1 : W2.cell? ⟨w.heap.size, 1, none⟩ = some (.int .i64 d) := by rw [cell_of_row W2 _ _ _ _ _ N5.out]; rfl
  have y4 : W2.cell? ⟨w.heap.size, 4, none⟩ = some (.int .i64 n) := by rw [cell_of_row W2 _ _ _ _ _ N5.out]; rfl
  have l5 := blk_lt' N5.out
  have lg := HT2.out.lt
  rw [HAe.out, HBe.out] at HC
  have y2 : W2.cell? ⟨w.heap.size, 2, none⟩ = some (.int .i64 a) := by rw [cell_of_row W2 _ _ _ _ _ N5.out]; rfl
  have y3 : W2.cell? ⟨w.heap.size, 3, none⟩ = some (.int .i64 b) := by rw [cell_of_row W2 _ _ _ _ _ N5.out]; rfl
  have h6 : o = 17 ∨ o = 18 ∨ o = 19 ∨ o = 20 := by have := Ho.out; omega
  clear Ho
  rcases h6 with rfl | rfl | rfl | rfl
  all_goals
    go_wp2_with fail
    refine (width_any _ _).mono ?_
    rintro e w9 ⟨rfl, rfl⟩
    rw [Hwd.out]
    go_wp2_with fail
    refine (HC.out _ (adr_wrap A n) _ HS2.out).mono ?_
    rintro e W3 ⟨rfl, ps', hps', hbk, hS3, hkp⟩
    have hgb := HT2.out.not_blks HS2.out
    have P6 := hid (HS2.out.keepRow hkp N6.out (by decide))
    have HT3 := hid (HT2.out.kept hkp hgb)
    have HS3 := hid hS3
    have K3 : Hid (Keep (g :: blks ps) w W3) := hid (((Keep.of_below B2.out).trans hkp).mono (by intro k hk; exact List.mem_cons_of_mem _ hk))
    clear hS3 hkp
    go_wp2_with (refine wpList_store_row rfl 31 (.tmp 6) (.tmp 98) rfl (w.heap.size + 1) #[.int .i64 c, .int .u64 f, .string ⟨#[]⟩] rfl rfl 31 _ P6.out infoFault rfl (faultRow_one ..) ?_)
    refine bodyPost_ret (results_cell_row rfl _ _ (w.heap.size + 1) 31 #[.int .i64 c, .int .u64 f, .string ⟨#[]⟩] (0, 0) _ rfl (setRow_heap _ _ _ _ _ _ P6.out) Tryz.underlying31 rfl infoFault) rfl ?_
    refine ⟨rfl, ⟨ps', hps', hbk, HS3.out.row_new ?_ ?_ ?_ _⟩, (setRow_other _ _ _ _ (by omega)).trans HT3.out, K3.out.setRow _ _ (.inl (by omega))⟩
    · have := blk_lt' HS.out.row; omega
    · have := blk_lt' HS.out.map; omega
    · rw [hbk]; intro h; have := HS.out.lt_blk h; omega
end
end Go.Proofs.YtiemingpbommeaaGreatDoor
