/- Package le: Put, Get, Extend. -/
import Derived.Test.YtiemingpbommeaaGreatDoorGb
import Derived.Laws.IdiomStrings
import Derived.Laws.MakeOwn
import Derived.Maps.OwnSet
namespace Go.Proofs.YtiemingpbommeaaGreatDoor
open Go.RowKit
noncomputable section
set_option linter.unusedVariables false
set_option linter.unusedSimpArgs false
/-- a number's bytes, the lowest first -/
def putL (n size : Nat) : List UInt8 := (List.range size).map fun i => UInt8.ofNat (n / 2 ^ (8 * i) % 256)
/-- the number of bytes -/
def getL : List UInt8 → Nat
  | [] => 0
  | b :: l => b.toNat + 256 * getL l
theorem putL_length (n size : Nat) : (putL n size).length = size := by simp [putL]
/-- the cells while Put writes: k are written -/
def putCells (n size k : Nat) : Array Value := ((List.range size).map fun i => if i < k then Value.int .u8 ((n / 2 ^ (8 * i) % 256 : Nat) : Int) else .int .u8 0).toArray
theorem putCells_get (n size k i : Nat) (h : i < size) : (putCells n size k)[i]? = some (if i < k then .int .u8 ((n / 2 ^ (8 * i) % 256 : Nat) : Int) else .int .u8 0) := by
  unfold putCells
  rw [List.getElem?_toArray, List.getElem?_map, List.getElem?_range h]
  rfl
theorem putCells_step (n size k : Nat) (h : k < size) : (putCells n size k).setIfInBounds k (.int .u8 ((n / 2 ^ (8 * k) % 256 : Nat) : Int)) = putCells n size (k + 1) := by
  apply Array.ext'
  apply List.ext_getElem?
  intro j
  rw [Array.getElem?_toList, Array.getElem?_toList, Array.getElem?_setIfInBounds]
  by_cases hj : j < size
  · rw [putCells_get _ _ _ _ hj, putCells_get _ _ _ _ hj]
    by_cases e : k = j
    · subst e; simp [putCells, h]
    · rw [if_neg e]
      by_cases h2 : j < k
      · rw [if_pos h2, if_pos (by omega)]
      · rw [if_neg h2, if_neg (by omega)]
  · have h1 : (putCells n size k)[j]? = none := by rw [Array.getElem?_eq_none_iff]; simp [putCells]; omega
    have h2 : (putCells n size (k + 1))[j]? = none := by rw [Array.getElem?_eq_none_iff]; simp [putCells]; omega
    rw [h1, h2, if_neg (by omega)]
theorem sized_any (n : Int) (w : World) :
    Calls Tryz.prog 30 #[.int .i64 n] w fun e w' => e = .returned (.bool (decide (1 ≤ n ∧ n ≤ 8))) ∧ w' = w := by
  go_enter Tryz.func30, Tryz.ntmps30
  by_cases h1 : 1 ≤ n
  · go_wp2
    go_ret
    exact ⟨by simp [h1], rfl⟩
  · go_wp2
    go_ret
    exact ⟨by simp; omega, rfl⟩
theorem info_u8 : (Tryz.prog.info? 5).map (fun i => (i.zero, i.size, i.bytes)) = some (some (.int .u8 0), 1, 1) := by kernel_rfl
theorem run_make_bytes (n : Nat) (hn : n ≤ 16777216) (w : World) :
    (Instr.makeSlice 90 (.int .i64 n) (.int .i64 n)).run Tryz.prog w = .ok (.slice (some ⟨w.heap.size, 0, none⟩) n n) (w.alloc (.cells (List.replicate n (Value.int .u8 0)).toArray 5)) := by
  obtain ⟨i0, hi, hz0, hz1, hz2⟩ := info_parts info_u8
  have := run_make (P := Tryz.prog) w 90 5 i0 (.int .u8 0) Tryz.underlying90 hi hz0 .i64 .i64 n n (by omega) (Int.le_refl _) (by rw [hz2]; omega) (by omega)
  rw [hz1] at this
  rw [this]
  have hm : madeCells (Value.int .u8 0).cells n = (List.replicate n (Value.int .u8 0)).toArray := by
    apply Array.ext
    · simp [madeCells]
    · intro i h1 h2
      simp [madeCells, Value.cells, Nat.mod_one]
  simp only [Int.toNat_natCast, Nat.mul_one, hm]
theorem putCells_zero (n size : Nat) : (List.replicate size (Value.int .u8 0)).toArray = putCells n size 0 := by
  apply Array.ext
  · simp [putCells]
  · intro i h1 h2
    simp [putCells]
set_option maxHeartbeats 4000000 in
set_option maxRecDepth 100000 in
theorem put_in (n size : Nat) (w : World) (hn : n < 18446744073709551616) (h1 : 1 ≤ size) (h8 : size ≤ 8) :
    Calls Tryz.prog 12 #[.int .u64 n, .int .i64 size] w fun e w' => e = .returned (.string ⟨(putL n size).toArray⟩) ∧ Below w.heap.size w w' := by
  have hmk := run_make_bytes size (by omega)
  rw [putCells_zero n size] at hmk
  have hdec : decide (1 ≤ (size : Int) ∧ (size : Int) ≤ 8) = true := by simp; omega
  go_enter Tryz.func12, Tryz.ntmps12
  go_wp2_with (first
    | (go_at_call 30; refine (sized_any size _).mono ?_; rintro e w ⟨rfl, rfl⟩; rw [hdec]))
  go_loopw [14] (fun i wr => ∃ k : Nat, k ≤ size ∧ i = .int .i64 k ∧ wr.heap[w.heap.size]? = some (.cells (putCells n size k) 5 (0, 0)) ∧ Below w.heap.size w wr) (fun i _ => size - (intOf i).toNat)
  case atStart => exact ⟨0, by omega, rfl, heap_alloc_new _ _, (Below.refl _ _).alloc (Nat.le_refl _) _⟩
  case round =>
    obtain ⟨k, hk, rfl, hg, hb⟩ := hrel
    have hgl : w.heap.size < wr.heap.size := blk_lt' hg
    have hcell : ∀ j, j < size → wr.cell? ⟨w.heap.size, j, none⟩ = some (if j < k then .int .u8 ((n / 2 ^ (8 * j) % 256 : Nat) : Int) else .int .u8 0) := fun j hj => by
      rw [cell_of_row wr _ _ _ _ _ hg]; exact putCells_get n size k j hj
    by_cases hlt : k < size
    · have ck := hcell k hlt
      have Hg := hid hg
      have Hstep := hid (putCells_step n size k hlt)
      clear hg hcell
      have hfz := frozen_of_row wr _ k _ _ Hg.out
      go_wp2
      go_roundw
      case rel =>
        refine ⟨k + 1, by omega, by go_num, ?_, hb.setCell (Nat.le_refl _) _⟩
        rw [heap_setCell_same _ _ _ _ _ _ Hg.out, ← Hstep.out]
        simp
      case measure => simp [intOf]; omega
    · obtain rfl : k = size := by omega
      have hconv := run_convert_bytes_back (P := Tryz.prog) wr 90 9 5 ⟨w.heap.size, 0, none⟩ k (putL n k) Tryz.underlying90 Tryz.underlying5 Tryz.underlying9 (fun j hj => by
        have hj' : j < k := by simpa [putL] using hj
        have := hcell j hj'
        rw [if_pos hj'] at this
        have e : (⟨w.heap.size, 0, none⟩ : Addr).add j = ⟨w.heap.size, j, none⟩ := by unfold Addr.add; split <;> simp_all
        rw [e, this]
        simp [putL])
      rw [putL_length] at hconv
      clear hcell
      go_wp2
      go_ret
      exact ⟨rfl, hb⟩
end
end Go.Proofs.YtiemingpbommeaaGreatDoor

/- Package le: Get, Extend. -/
namespace Go.Proofs.YtiemingpbommeaaGreatDoor
open Go.RowKit
noncomputable section
set_option linter.unusedVariables false
set_option linter.unusedSimpArgs false
theorem getL_lt (l : List UInt8) : getL l < 256 ^ l.length := by
  induction l with
  | nil => simp [getL]
  | cons b l ih =>
    simp only [getL, List.length_cons, Nat.pow_succ]
    have : b.toNat < 256 := b.toNat_lt
    omega
theorem getL_lt64 (l : List UInt8) (h : l.length ≤ 8) : getL l < 18446744073709551616 := by
  have h1 := getL_lt l
  have h2 : (256 : Nat) ^ l.length ≤ 256 ^ 8 := Nat.pow_le_pow_right (by omega) h
  omega
theorem getL_lt56 (l : List UInt8) (h : l.length ≤ 7) : getL l < 72057594037927936 := by
  have h1 := getL_lt l
  have h2 : (256 : Nat) ^ l.length ≤ 256 ^ 7 := Nat.pow_le_pow_right (by omega) h
  omega
set_option maxHeartbeats 4000000 in
set_option maxRecDepth 100000 in
theorem get_in (l : List UInt8) (w : World) (h8 : l.length ≤ 8) :
    Calls Tryz.prog 64 #[.string ⟨l.toArray⟩] w fun e w' => e = .returned (.int .u64 (getL l)) ∧ ∃ m, w' = w.drewN m := by
  have hsz : (⟨l.toArray⟩ : ByteArray).size = l.length := by simp [ByteArray.size]
  go_enter Tryz.func64, Tryz.ntmps64
  go_wp2
  go_loopw [3, 4] (fun v i wr => ∃ (k : Nat) (n : Nat), k ≤ l.length ∧ i = .int .i64 ((k : Int) - 1) ∧ v = .int .u64 n ∧ Hid (n = getL (l.drop k)) ∧ n < 18446744073709551616 ∧ wr = w) (fun _ i _ => ((intOf i) + 1).toNat)
  case atStart => exact ⟨l.length, 0, by omega, rfl, rfl, hid (by simp [getL]), by omega, rfl⟩
  case round =>
    obtain ⟨k, n, hk, rfl, rfl, Hn, hlt, rfl⟩ := hrel
    by_cases h0 : 0 < k
    · have h56 : n < 72057594037927936 := by rw [Hn.out]; exact getL_lt56 _ (by simp; omega)
      have hk1 : k - 1 < l.length := by omega
      have Hstep := hid (show l[k - 1].toNat + 256 * n = getL (l.drop (k - 1)) from by
        rw [List.drop_eq_getElem_cons hk1, getL, Hn.out, show k - 1 + 1 = k by omega])
      have hby : (l[k - 1]).toNat < 256 := (l[k - 1]).toNat_lt
      have Hor := hid (show bits BinOp.or IntKind.u64 ((n : Int) * 256) (IntKind.u64.wrap ((l[k - 1]).toNat : Int)) = ((l[k - 1].toNat + 256 * n : Nat) : Int) from by
        have hw : ∀ n : Int, IntKind.u64.wrap n = n % 18446744073709551616 := fun n => by simp [IntKind.wrap, IntKind.bits, IntKind.signed]
        rw [hw, show ((n : Int) * 256) = ((n * 256 : Nat) : Int) by omega, show (((l[k - 1]).toNat : Int) % 18446744073709551616) = ((l[k - 1].toNat : Nat) : Int) by omega]
        rw [u64_or_nat _ _ (by omega) (by omega), Nat.or_comm, or_lo 8 _ _ (by omega) (by omega)]
        omega)
      go_wp2
      go_roundw
      case rel => exact ⟨k - 1, l[k - 1].toNat + 256 * n, by omega, by congr 1; omega, by rw [Value.int.injEq]; exact ⟨rfl, Hor.out⟩, Hstep, by omega, by trivial⟩
      case measure => simp [intOf]; omega
    · obtain rfl : k = 0 := by omega
      have Hv := hid (show (n : Int) = getL l from by rw [Hn.out]; simp)
      go_wp2
      go_ret
      exact ⟨ret_int Hv.out, 0, rfl⟩
/-- extended by its sign -/
def extendN (n : Nat) (bits : Int) : Nat := if 1 ≤ bits ∧ bits ≤ 63 then extN n bits.toNat else n
theorem extendN_lt (n : Nat) (bits : Int) (h : n < 18446744073709551616) : extendN n bits < 18446744073709551616 := by
  unfold extendN
  split
  · rename_i hb
    unfold extN
    have h1 : (2 : Nat) ^ bits.toNat ≤ 2 ^ 63 := Nat.pow_le_pow_right (by omega) (by omega)
    have h2 : n % 2 ^ bits.toNat < 2 ^ bits.toNat := Nat.mod_lt _ (Nat.two_pow_pos _)
    split <;> omega
  · exact h
set_option maxHeartbeats 4000000 in
set_option maxRecDepth 100000 in
theorem extend_any (n : Nat) (b : Int) (w : World) (hn : n < 18446744073709551616) :
    Calls Tryz.prog 105 #[.int .u64 n, .int .i64 b] w fun e w' => e = .returned (.int .u64 (extendN n b)) ∧ ∃ m, w' = w.drewN m := by
  by_cases h : 1 ≤ b ∧ b ≤ 63
  · obtain ⟨k, rfl⟩ := Int.eq_ofNat_of_zero_le (show 0 ≤ b by omega)
    unfold extendN
    rw [if_pos h]
    exact ext_any n k w hn (by omega) (by omega)
  · unfold extendN
    rw [if_neg h]
    by_cases h1 : 1 ≤ b
    · go_enter Tryz.func105, Tryz.ntmps105
      go_wp2
      go_ret
      exact ⟨rfl, 0, rfl⟩
    · go_enter Tryz.func105, Tryz.ntmps105
      go_wp2
      go_ret
      exact ⟨rfl, 0, rfl⟩
end
end Go.Proofs.YtiemingpbommeaaGreatDoor

/- The pure words on a space of addresses: pages, what may be done, bytes, what is laid. No program stands here. -/
namespace Go.Proofs.YtiemingpbommeaaGreatDoor
noncomputable section
set_option linter.unusedVariables false
/-- a page: its first address, what may be done with it, its bytes -/
structure Pg where
  a : Nat
  p : Nat
  b : List UInt8
/-- the page of an address -/
def pgOf (M : List Pg) (y : Nat) : Option Pg := M.find? fun g => g.a == y - y % 256
/-- the address of byte i -/
def adr (x i : Nat) : Nat := (x + i) % 18446744073709551616
/-- may it be done with the byte? -/
def okAt (M : List Pg) (perm y : Nat) : Bool := match pgOf M y with | some g => g.p &&& perm == perm | none => false
/-- the first fault among n bytes -/
def mayN (M : List Pg) (x n perm e : Nat) : Nat × Nat :=
  match (List.range n).find? (fun i => !okAt M perm (adr x i)) with
  | none => (0, 0)
  | some i => if (pgOf M (adr x i)).isSome then (e, adr x i) else (9, adr x i)
def byteN (M : List Pg) (y : Nat) : UInt8 := match pgOf M y with | some g => g.b.getD (y % 256) 0 | none => 0
def bytesN (M : List Pg) (x n : Nat) : List UInt8 := (List.range n).map fun i => byteN M (adr x i)
def setN (M : List Pg) (y : Nat) (c : UInt8) : List Pg := M.map fun g => if g.a == y - y % 256 then { g with b := g.b.set (y % 256) c } else g
/-- k of the bytes are laid -/
def layK (M : List Pg) (x : Nat) (bs : List UInt8) (k : Nat) : List Pg := (List.range k).foldl (fun M i => setN M (adr x i) (bs.getD i 0)) M
def layN (M : List Pg) (x : Nat) (bs : List UInt8) : List Pg := layK M x bs bs.length
theorem layK_succ (M : List Pg) (x : Nat) (bs : List UInt8) (k : Nat) : layK M x bs (k + 1) = setN (layK M x bs k) (adr x k) (bs.getD k 0) := by
  unfold layK; rw [List.range_succ, List.foldl_append]; rfl
/-- a space in order: whole pages, none twice -/
structure Good (M : List Pg) : Prop where
  len : ∀ g ∈ M, g.b.length = 256
  al : ∀ g ∈ M, g.a % 256 = 0
  top : ∀ g ∈ M, g.a < 18446744073709551616
  per : ∀ g ∈ M, g.p < 8
  nd : M.Pairwise fun g h => g.a ≠ h.a
theorem setN_map (M : List Pg) (y : Nat) (c : UInt8) : (setN M y c).map (fun g => (g.a, g.p)) = M.map fun g => (g.a, g.p) := by
  unfold setN; rw [List.map_map]; apply List.map_congr_left; intro g _; simp only [Function.comp]; split <;> rfl
theorem setN_length (M : List Pg) (y : Nat) (c : UInt8) : (setN M y c).length = M.length := by simp [setN]
theorem layK_length (M : List Pg) (x : Nat) (bs : List UInt8) (k : Nat) : (layK M x bs k).length = M.length := by
  induction k with
  | zero => rfl
  | succ k ih => rw [layK_succ, setN_length, ih]
theorem Good.setN {M : List Pg} (h : Good M) (y : Nat) (c : UInt8) : Good (setN M y c) := by
  have hm : ∀ g ∈ Go.Proofs.YtiemingpbommeaaGreatDoor.setN M y c, ∃ g0 ∈ M, g.a = g0.a ∧ g.p = g0.p ∧ g.b.length = g0.b.length := fun g hg => by
    unfold Go.Proofs.YtiemingpbommeaaGreatDoor.setN at hg
    obtain ⟨g0, h0, rfl⟩ := List.mem_map.1 hg
    refine ⟨g0, h0, ?_⟩
    split <;> simp
  refine ⟨fun g hg => ?_, fun g hg => ?_, fun g hg => ?_, fun g hg => ?_, ?_⟩
  · obtain ⟨g0, h0, _, _, e⟩ := hm g hg; rw [e]; exact h.len _ h0
  · obtain ⟨g0, h0, e, _⟩ := hm g hg; rw [e]; exact h.al _ h0
  · obtain ⟨g0, h0, e, _⟩ := hm g hg; rw [e]; exact h.top _ h0
  · obtain ⟨g0, h0, _, e, _⟩ := hm g hg; rw [e]; exact h.per _ h0
  · unfold Go.Proofs.YtiemingpbommeaaGreatDoor.setN
    rw [List.pairwise_map]
    refine h.nd.imp ?_
    intro g h hne
    split <;> split <;> simpa using hne
theorem Good.layK {M : List Pg} (h : Good M) (x : Nat) (bs : List UInt8) (k : Nat) : Good (layK M x bs k) := by
  induction k with
  | zero => exact h
  | succ k ih => rw [layK_succ]; exact ih.setN _ _
theorem Good.layN {M : List Pg} (h : Good M) (x : Nat) (bs : List UInt8) : Good (layN M x bs) := h.layK _ _ _
/-! ### what a page's find says behind a store -/
theorem pgOf_setN (M : List Pg) (y z : Nat) (c : UInt8) :
    pgOf (setN M y c) z = (pgOf M z).map fun g => if g.a == y - y % 256 then { g with b := g.b.set (y % 256) c } else g := by
  unfold pgOf setN
  rw [List.find?_map]
  congr 1
  congr 1
  funext g
  simp only [Function.comp]
  split <;> rfl
theorem some_setN (M : List Pg) (y z : Nat) (c : UInt8) : (pgOf (setN M y c) z).isSome = (pgOf M z).isSome := by
  rw [pgOf_setN]; cases pgOf M z <;> rfl
theorem some_layK (M : List Pg) (x : Nat) (bs : List UInt8) (k z : Nat) : (pgOf (layK M x bs k) z).isSome = (pgOf M z).isSome := by
  induction k with
  | zero => rfl
  | succ k ih => rw [layK_succ, some_setN, ih]
theorem pgOf_a {M : List Pg} {y : Nat} {g : Pg} (h : pgOf M y = some g) : g.a = y - y % 256 ∧ g ∈ M := by
  unfold pgOf at h
  have h1 := List.find?_some h
  exact ⟨by simpa using h1, List.mem_of_find?_eq_some h⟩
theorem mayN_none {M : List Pg} {x n perm e : Nat} (h : ∀ i, i < n → okAt M perm (adr x i) = true) : mayN M x n perm e = (0, 0) := by
  unfold mayN
  have : (List.range n).find? (fun i => !okAt M perm (adr x i)) = none := List.find?_eq_none.2 fun i hi => by simp [h i (List.mem_range.1 hi)]
  rw [this]
theorem mayN_some {M : List Pg} {x n perm e i : Nat} (hi : i < n) (h : ∀ j, j < i → okAt M perm (adr x j) = true) (hn : okAt M perm (adr x i) = false) :
    mayN M x n perm e = (if (pgOf M (adr x i)).isSome then (e, adr x i) else (9, adr x i)) := by
  unfold mayN
  have : (List.range n).find? (fun i => !okAt M perm (adr x i)) = some i := by
    rw [List.find?_range_eq_some]
    exact ⟨by simp [hn], List.mem_range.2 hi, fun j hj => by simp [h j hj]⟩
  rw [this]
theorem mayN_ok {M : List Pg} {x n perm e : Nat} (he : e ≠ 0) (h : (mayN M x n perm e).1 = 0) : ∀ i, i < n → okAt M perm (adr x i) = true := by
  unfold mayN at h
  cases hf : (List.range n).find? (fun i => !okAt M perm (adr x i)) with
  | none =>
    intro i hi
    have := List.find?_eq_none.1 hf i (List.mem_range.2 hi)
    simpa using this
  | some i =>
    rw [hf] at h
    simp only at h
    split at h <;> simp_all
theorem okAt_some {M : List Pg} {perm y : Nat} (h : okAt M perm y = true) : ∃ g, pgOf M y = some g := by
  unfold okAt at h
  cases hp : pgOf M y with
  | none => rw [hp] at h; cases h
  | some g => exact ⟨g, rfl⟩
/-! ### a load, a store, a fetch -/
def sizeOk (size : Int) : Bool := decide (size = 1 ∨ size = 2 ∨ size = 4 ∨ size = 8)
/-- the number; the fault's number and address -/
def loadN (M : List Pg) (x : Nat) (size : Int) : Nat × Nat × Nat :=
  if sizeOk size then
    if (mayN M x size.toNat 4 10).1 = 0 then (getL (bytesN M x size.toNat), 0, 0) else (0, mayN M x size.toNat 4 10)
  else (0, 1, 0)
def storeN (M : List Pg) (x n : Nat) (size : Int) : List Pg × Nat × Nat :=
  if sizeOk size then
    if (mayN M x size.toNat 2 11).1 = 0 then (layN M x (putL n size.toNat), 0, 0) else (M, mayN M x size.toNat 2 11)
  else (M, 1, 0)
def fetchN (M : List Pg) (x : Nat) : Nat × Nat × Nat :=
  if x % 4 = 0 then
    if (mayN M x 4 1 12).1 = 0 then (getL (bytesN M x 4), 0, 0) else (0, mayN M x 4 1 12)
  else (0, 13, x)
end
end Go.Proofs.YtiemingpbommeaaGreatDoor

/- Package fail: a fault by its number and its address. -/
namespace Go.Proofs.YtiemingpbommeaaGreatDoor
open Go.RowKit
noncomputable section
set_option linter.unusedVariables false
set_option linter.unusedSimpArgs false
/-- a fault's cells: no law of this seat's names one -/
def faultV (c at_ : Int) : Value := .agg #[.int .i64 c, .int .u64 at_, .string ⟨#[]⟩]
theorem infoFault : (Tryz.prog.info? 31).map (fun x => x.size) = some 3 := by kernel_rfl
set_option maxHeartbeats 4000000 in
set_option maxRecDepth 100000 in
theorem faultOK_any (c a : Int) (s : ByteArray) (w : World) :
    Calls Tryz.prog 14 #[.agg #[.int .i64 c, .int .u64 a, .string s]] w fun e w' => e = .returned (.bool (c == 0)) ∧ Below w.heap.size w w' := by
  go_enter Tryz.func14, Tryz.ntmps14
  go_wp2
  go_ret
  exact ⟨rfl, (Below.refl _ _).alloc (Nat.le_refl _) _⟩
set_option maxHeartbeats 4000000 in
set_option maxRecDepth 100000 in
theorem failOf_any (c : Int) (w : World) :
    Calls Tryz.prog 27 #[.int .i64 c] w fun e w' => e = .returned (faultV c 0) ∧ Below w.heap.size w w' := by
  go_enter Tryz.func27, Tryz.ntmps27
  go_wp2
  refine bodyPost_ret (results_cell_row rfl _ _ w.heap.size 31 #[.int .i64 c, .int .u64 0, .string ⟨#[]⟩] (0, 0) _ rfl (heap_alloc_new _ _) Tryz.underlying31 rfl infoFault) rfl ?_
  exact ⟨rfl, (Below.refl _ _).alloc (Nat.le_refl _) _⟩
set_option maxHeartbeats 4000000 in
set_option maxRecDepth 100000 in
theorem failAt_any (c a : Int) (w : World) :
    Calls Tryz.prog 33 #[.int .i64 c, .int .u64 a] w fun e w' => e = .returned (faultV c a) ∧ Below w.heap.size w w' := by
  go_enter Tryz.func33, Tryz.ntmps33
  go_wp2
  refine bodyPost_ret (results_cell_row rfl _ _ w.heap.size 31 #[.int .i64 c, .int .u64 a, .string ⟨#[]⟩] (0, 0) _ rfl (heap_alloc_new _ _) Tryz.underlying31 rfl infoFault) rfl ?_
  exact ⟨rfl, (Below.refl _ _).alloc (Nat.le_refl _) _⟩
end
end Go.Proofs.YtiemingpbommeaaGreatDoor

/- A space in memory: the map of pages, the pages' blocks; the functions page, may, bytes, lay. -/
namespace Go.Proofs.YtiemingpbommeaaGreatDoor
open Go.RowKit
noncomputable section
set_option linter.unusedVariables false
set_option linter.unusedSimpArgs false
/-- the map's entries -/
def ents : Nat → List (Pg × Nat) → List MapEntry
  | _, [] => []
  | i, q :: l => ⟨.int .u64 (q.1.a : Int), .pointer (some ⟨q.2, 0, none⟩), i⟩ :: ents (i + 1) l
/-- a page's cells -/
def pgCells (g : Pg) : Array Value := ((Value.int .i64 (g.p : Int)) :: g.b.map fun c => Value.int .u8 (c.toNat : Int)).toArray
/-- the page of an address, with its block -/
def pq (ps : List (Pg × Nat)) (y : Nat) : Option (Pg × Nat) := ps.find? fun q => q.1.a == y - y % 256
/-- the pages alone -/
def pgs (ps : List (Pg × Nat)) : List Pg := ps.map (·.1)
theorem pgOf_pgs (ps : List (Pg × Nat)) (y : Nat) : pgOf (pgs ps) y = (pq ps y).map (·.1) := by
  unfold pgOf pgs pq; rw [List.find?_map]; rfl
theorem pq_mem {ps : List (Pg × Nat)} {y : Nat} {x : Pg × Nat} (h : pq ps y = some x) : x ∈ ps := List.mem_of_find?_eq_some h
theorem findNow_ents (k : Nat) : ∀ (l : List (Pg × Nat)) (i n : Nat), ∃ r, Instr.findNow (.int .u64) (.int .u64 (k : Int)) (ents i l) n = some r ∧
    r.map (·.2) = (l.find? fun q => q.1.a == k).map fun q => Value.pointer (some ⟨q.2, 0, none⟩)
  | [], i, n => ⟨none, rfl, rfl⟩
  | q :: l, i, n => by
    obtain ⟨r, h1, h2⟩ := findNow_ents k l (i + 1) (n + 1)
    by_cases h : q.1.a = k
    · exact ⟨some (n, .pointer (some ⟨q.2, 0, none⟩)), by simp [ents, Instr.findNow, Instr.sameNow, h], by simp [h]⟩
    · refine ⟨r, ?_, ?_⟩
      · have h' : ((k : Int) == (q.1.a : Int)) = false := by rw [beq_eq_false_iff_ne]; omega
        simp only [ents, Instr.findNow, Instr.sameNow, if_true, h']
        exact h1
      · have h' : (q.1.a == k) = false := by rw [beq_eq_false_iff_ne]; exact h
        rw [List.find?_cons, h', h2]
theorem ents_get : ∀ (l : List (Pg × Nat)) (i : Nat), (ents i l).length = l.length
  | [], _ => rfl
  | q :: l, i => by simp [ents, ents_get l (i + 1)]
/-- the look-up of a page -/
theorem run_lookup_pages (w : World) (m c : Nat) (ps : List (Pg × Nat)) (k : Nat) (hk : k < 18446744073709551616) (hm : w.heap[m]? = some (.map (ents 0 ps).toArray c)) :
    (Instr.lookup 69 (.map (some m)) (.int .u64 k) true).run Tryz.prog w =
      .ok (.tuple #[.pointer ((ps.find? fun q => q.1.a == k).map fun q => ⟨q.2, 0, none⟩), .bool (ps.find? fun q => q.1.a == k).isSome]) w := by
  have K := Maps.int_keyed (P := Tryz.prog) Tryz.underlying23
  have hkey : keyOf Tryz.prog 23 (.int .u64 (k : Int)) = some (.int .u64 (k : Int)) := Maps.keyOf_int_mk Tryz.underlying23 (by simp [Lit.wf, IntKind.min, IntKind.max, IntKind.signed, IntKind.bits]; omega)
  obtain ⟨r, h1, h2⟩ := findNow_ents k ps 0 0
  have hz : (zeroValue 82).run Tryz.prog w = .ok (.pointer none) w := by kernel_rfl
  have hf : (Instr.findKey 23 (.int .u64 k) (ents 0 ps)).run Tryz.prog w = .ok r w := by
    unfold Instr.findKey
    simp [Sem.run_bind, run_underlying Tryz.underlying23, h1]
  cases r with
  | none =>
    have h3 : (ps.find? fun q => q.1.a == k) = none := by
      cases h4 : (ps.find? fun q => q.1.a == k) with
      | none => rfl
      | some x => rw [h4] at h2; cases h2
    rw [h3]
    simp [Instr.lookup, run_underlying Tryz.underlying69, MapKept.run_getObj_map hm, K.check w _ hkey, hf, hz, Result.andThen]
  | some y =>
    obtain ⟨x, h3⟩ : ∃ x, (ps.find? fun q => q.1.a == k) = some x := by
      cases h4 : (ps.find? fun q => q.1.a == k) with
      | none => rw [h4] at h2; cases h2
      | some x => exact ⟨x, rfl⟩
    rw [h3] at h2 ⊢
    obtain ⟨i, v⟩ := y
    obtain rfl : v = .pointer (some ⟨x.2, 0, none⟩) := by simpa using h2
    simp [Instr.lookup, run_underlying Tryz.underlying69, MapKept.run_getObj_map hm, K.check w _ hkey, hf, Result.andThen]
/-- a space in memory -/
structure SpaceIs (w : World) (sp m : Nat) (sl : Value) (q : Int) (ps : List (Pg × Nat)) : Prop where
  row : w.heap[sp]? = some (.cells #[.map (some m), sl, .int .i64 q] 74 (0, 0))
  map : w.heap[m]? = some (.map (ents 0 ps).toArray ps.length)
  page : ∀ x ∈ ps, w.heap[x.2]? = some (.cells (pgCells x.1) 85 (0, 0))
  good : Good (pgs ps)
  nd : ps.Pairwise fun x y => x.2 ≠ y.2
/-- all blocks but those of S are as they were -/
structure Keep (S : List Nat) (w w' : World) : Prop where
  os : w'.os = w.os
  tape : w'.tape = w.tape
  output : w'.output = w.output
  size : w.heap.size ≤ w'.heap.size
  block : ∀ k, k < w.heap.size → k ∉ S → w'.heap[k]? = w.heap[k]?
theorem Keep.refl (S : List Nat) (w : World) : Keep S w w := ⟨rfl, rfl, rfl, Nat.le_refl _, fun _ _ _ => rfl⟩
theorem Keep.of_below {S : List Nat} {w w' : World} (h : Below w.heap.size w w') : Keep S w w' := ⟨h.os, h.tape, h.output, h.size, fun k hk _ => h.block k hk⟩
theorem Keep.trans {S : List Nat} {w w' w'' : World} (h : Keep S w w') (h' : Keep S w' w'') : Keep S w w'' :=
  ⟨h'.os.trans h.os, h'.tape.trans h.tape, h'.output.trans h.output, Nat.le_trans h.size h'.size, fun k hk hx => (h'.block k (Nat.lt_of_lt_of_le hk h.size) hx).trans (h.block k hk hx)⟩
theorem Keep.mono {S T : List Nat} {w w' : World} (h : Keep S w w') (hs : ∀ k ∈ S, k ∈ T) : Keep T w w' :=
  ⟨h.os, h.tape, h.output, h.size, fun k hk hx => h.block k hk fun hk' => hx (hs k hk')⟩
/-- the blocks of S that are new don't count -/
theorem Keep.old {S T : List Nat} {w w' : World} (h : Keep S w w') (hs : ∀ k ∈ S, k < w.heap.size → k ∈ T) : Keep T w w' :=
  ⟨h.os, h.tape, h.output, h.size, fun k hk hx => h.block k hk fun hk' => hx (hs k hk' hk)⟩
theorem Keep.below {S : List Nat} {B : Nat} {w w' : World} (h : Keep S w w') (hB : B ≤ w.heap.size) (hs : ∀ k ∈ S, B ≤ k) : Below B w w' :=
  ⟨h.os, h.tape, h.output, h.size, fun k hk => h.block k (by omega) fun hk' => by have := hs k hk'; omega⟩
theorem Keep.setRow {S : List Nat} {w w' : World} (h : Keep S w w') (g : Nat) (cs : Array Value) (hg : w.heap.size ≤ g ∨ g ∈ S) : Keep S w (w'.setRow g cs) :=
  ⟨h.os, h.tape, h.output, by simpa using h.size, fun k hk hx => by
    rw [setRow_other _ _ _ _ (fun e => by subst e; rcases hg with hg | hg <;> first | omega | exact hx hg)]; exact h.block k hk hx⟩
theorem Keep.setCell {S : List Nat} {w w' : World} (h : Keep S w w') (p : Addr) (v : Value) (hg : w.heap.size ≤ p.block ∨ p.block ∈ S) : Keep S w (w'.setCell p v) :=
  ⟨h.os, h.tape, h.output, by simpa [World.setCell] using h.size, fun k hk hx => by
    rw [heap_setCell_other _ _ _ _ (fun e => by subst e; rcases hg with hg | hg <;> first | omega | exact hx hg)]; exact h.block k hk hx⟩
theorem Keep.alloc {S : List Nat} {w w' : World} (h : Keep S w w') (o : Obj) : Keep S w (w'.alloc o) :=
  ⟨h.os, h.tape, h.output, by simp; have := h.size; omega, fun k hk hx => by rw [Below.heap_alloc _ _ _ (Nat.lt_of_lt_of_le hk h.size)]; exact h.block k hk hx⟩
theorem Keep.drew {S : List Nat} {w w' : World} (h : Keep S w w') (n : Nat) : Keep S w (w'.drewN n) := ⟨h.os, h.tape, h.output, h.size, h.block⟩
theorem Keep.row {S : List Nat} {w w' : World} (h : Keep S w w') {b : Nat} {o : Obj} (hb : w.heap[b]? = some o) (hn : b ∉ S) : w'.heap[b]? = some o := (h.block b (blk_lt' hb) hn).trans hb
/-- the pages' blocks -/
def blks (ps : List (Pg × Nat)) : List Nat := ps.map (·.2)
theorem SpaceIs.not_blk {w : World} {sp m : Nat} {sl : Value} {q : Int} {ps : List (Pg × Nat)} (h : SpaceIs w sp m sl q ps) {b : Nat} {o : Obj} (hb : w.heap[b]? = some o)
    (hne : ∀ cs, o ≠ .cells cs 85 (0, 0)) : b ∉ blks ps := fun hm => by
  obtain ⟨x, hx, rfl⟩ := List.mem_map.1 hm
  rw [h.page x hx] at hb
  exact hne _ (Option.some.inj hb).symm
theorem SpaceIs.lt_blk {w : World} {sp m : Nat} {sl : Value} {q : Int} {ps : List (Pg × Nat)} (h : SpaceIs w sp m sl q ps) {b : Nat} (hm : b ∈ blks ps) : b < w.heap.size := by
  obtain ⟨x, hx, rfl⟩ := List.mem_map.1 hm
  exact blk_lt' (h.page x hx)
theorem SpaceIs.kept {w w' : World} {S : List Nat} {sp m : Nat} {sl : Value} {q : Int} {ps : List (Pg × Nat)} (h : SpaceIs w sp m sl q ps) (hk : Keep S w w') (h1 : sp ∉ S) (h2 : m ∉ S) (h3 : ∀ b ∈ blks ps, b ∉ S) : SpaceIs w' sp m sl q ps :=
  ⟨hk.row h.row h1, hk.row h.map h2, fun x hx => hk.row (h.page x hx) (h3 _ (List.mem_map.2 ⟨x, hx, rfl⟩)), h.good, h.nd⟩
theorem SpaceIs.below {w w' : World} {sp m : Nat} {sl : Value} {q : Int} {ps : List (Pg × Nat)} (h : SpaceIs w sp m sl q ps) (hb : Below w.heap.size w w') : SpaceIs w' sp m sl q ps :=
  h.kept (S := []) (Keep.of_below hb) (by simp) (by simp) (by simp)
theorem SpaceIs.drew {w : World} {sp m : Nat} {sl : Value} {q : Int} {ps : List (Pg × Nat)} (h : SpaceIs w sp m sl q ps) (n : Nat) : SpaceIs (w.drewN n) sp m sl q ps :=
  ⟨h.row, h.map, h.page, h.good, h.nd⟩
theorem SpaceIs.drew1 {w : World} {sp m : Nat} {sl : Value} {q : Int} {ps : List (Pg × Nat)} (h : SpaceIs w sp m sl q ps) : SpaceIs w.drew sp m sl q ps :=
  ⟨h.row, h.map, h.page, h.good, h.nd⟩
theorem Keep.drew1 {S : List Nat} {w w' : World} (h : Keep S w w') : Keep S w w'.drew := ⟨h.os, h.tape, h.output, h.size, h.block⟩
theorem SpaceIs.cellMap {w : World} {sp m : Nat} {sl : Value} {q : Int} {ps : List (Pg × Nat)} (h : SpaceIs w sp m sl q ps) : w.cell? ⟨sp, 0, none⟩ = some (.map (some m)) := by
  rw [cell_of_row w sp _ _ _ _ h.row]; rfl
theorem SpaceIs.cellPerm {w : World} {sp m : Nat} {sl : Value} {q : Int} {ps : List (Pg × Nat)} (h : SpaceIs w sp m sl q ps) {x : Pg × Nat} (hx : x ∈ ps) : w.cell? ⟨x.2, 0, none⟩ = some (.int .i64 (x.1.p : Int)) := by
  rw [cell_of_row w _ _ _ _ _ (h.page x hx)]; rfl
theorem SpaceIs.cellByte {w : World} {sp m : Nat} {sl : Value} {q : Int} {ps : List (Pg × Nat)} (h : SpaceIs w sp m sl q ps) {x : Pg × Nat} (hx : x ∈ ps) {i : Nat} (hi : i < 256) :
    w.cell? ⟨x.2, 1 + i, none⟩ = some (.int .u8 ((x.1.b.getD i 0).toNat : Int)) := by
  have hl : x.1.b.length = 256 := h.good.len _ (List.mem_map.2 ⟨x, hx, rfl⟩)
  rw [cell_of_row w _ _ _ _ _ (h.page x hx)]
  unfold pgCells
  rw [List.getElem?_toArray, Nat.add_comm, List.getElem?_cons_succ, List.getElem?_map, List.getElem?_eq_getElem (by omega), getD_at _ _ _ (by omega)]
  rfl
/-! ### page -/
theorem page_any (sp m : Nat) (sl : Value) (q : Int) (ps : List (Pg × Nat)) (y : Nat) (w : World) (hy : y < 18446744073709551616) (hS : SpaceIs w sp m sl q ps) :
    Calls Tryz.prog 63 #[.pointer (some ⟨sp, 0, none⟩), .int .u64 y] w fun e w' => e = .returned (.tuple #[.pointer ((pq ps y).map fun x => ⟨x.2, 0, none⟩), .bool (pq ps y).isSome]) ∧ w = w' := by
  have hc := hS.cellMap
  have hl := run_lookup_pages w m _ ps (y - y % 256) (by omega) hS.map
  rw [show ((y - y % 256 : Nat) : Int) = (y : Int) - (y : Int) % 256 by omega, show (ps.find? fun q => q.1.a == y - y % 256) = pq ps y from rfl] at hl
  generalize (pq ps y).isSome = b at *
  generalize ((pq ps y).map fun x => (⟨x.2, 0, none⟩ : Addr)) = p at *
  clear hS
  go_enter Tryz.func63, Tryz.ntmps63
  go_wp2
  go_ret2
  exact ⟨rfl, rfl⟩
theorem page_none (sp m : Nat) (sl : Value) (q : Int) (ps : List (Pg × Nat)) (y : Nat) (yi : Int) (w : World) (he : yi = y) (hy : y < 18446744073709551616) (hS : SpaceIs w sp m sl q ps) (h : pq ps y = none) :
    Calls Tryz.prog 63 #[.pointer (some ⟨sp, 0, none⟩), .int .u64 yi] w fun e w' => e = .returned (.tuple #[.pointer none, .bool false]) ∧ w = w' := by
  subst he
  have := page_any sp m sl q ps y w hy hS
  rw [h] at this
  exact this
theorem page_some (sp m : Nat) (sl : Value) (q : Int) (ps : List (Pg × Nat)) (y : Nat) (yi : Int) (x : Pg × Nat) (w : World) (he : yi = y) (hy : y < 18446744073709551616) (hS : SpaceIs w sp m sl q ps) (h : pq ps y = some x) :
    Calls Tryz.prog 63 #[.pointer (some ⟨sp, 0, none⟩), .int .u64 yi] w fun e w' => e = .returned (.tuple #[.pointer (some ⟨x.2, 0, none⟩), .bool true]) ∧ w = w' := by
  subst he
  have := page_any sp m sl q ps y w hy hS
  rw [h] at this
  exact this
theorem u64w' (n : Int) : IntKind.u64.wrap n = n % 18446744073709551616 := by simp [IntKind.wrap, IntKind.bits, IntKind.signed]
theorem u64wn (x i : Nat) : IntKind.u64.wrap ((x : Int) + (i : Int)) = (adr x i : Nat) := by unfold adr; rw [u64w']; omega
theorem adr_lt (x i : Nat) : adr x i < 18446744073709551616 := Nat.mod_lt _ (by decide)
end
end Go.Proofs.YtiemingpbommeaaGreatDoor

/- A space in memory: may, bytes. -/
namespace Go.Proofs.YtiemingpbommeaaGreatDoor
open Go.RowKit
noncomputable section
set_option linter.unusedVariables false
set_option linter.unusedSimpArgs false
theorem faultRow_one (c a : Int) (s : ByteArray) : ((#[.int .i64 c, .int .u64 a, .string s] : Array Value).all fun x => x.oneCell') = true := by simp [Value.oneCell']
theorem and_nat (a b : Nat) (ha : a < 8) (hb : b < 8) : bits BinOp.and IntKind.i64 (a : Int) (b : Int) = ((a &&& b : Nat) : Int) := by
  have h1 : ∀ a : Nat, a < 8 → ∀ b : Nat, b < 8 → bits BinOp.and IntKind.i64 (a : Int) (b : Int) = ((a &&& b : Nat) : Int) := by decide
  exact h1 a ha b hb
/-- the perm of the page where something may be done -/
theorem okAt_some' {ps : List (Pg × Nat)} {perm y : Nat} {x : Pg × Nat} (h : pq ps y = some x) : okAt (pgs ps) perm y = (x.1.p &&& perm == perm) := by
  unfold okAt; rw [pgOf_pgs, h]; rfl
theorem okAt_none' {ps : List (Pg × Nat)} {perm y : Nat} (h : pq ps y = none) : okAt (pgs ps) perm y = false := by
  unfold okAt; rw [pgOf_pgs, h]; rfl
/-- what may answers, as a fault -/
def mayV (M : List Pg) (x n perm e : Nat) : Value := .agg #[.int .i64 ((mayN M x n perm e).1 : Int), .int .u64 ((mayN M x n perm e).2 : Int), .string ⟨#[]⟩]
set_option maxHeartbeats 4000000 in
set_option maxRecDepth 100000 in
theorem may_any (sp m : Nat) (sl : Value) (q : Int) (ps : List (Pg × Nat)) (x n perm e : Nat) (w : World) (hx : x < 18446744073709551616) (hn : n ≤ 65536) (hp : perm < 8) (he : e < 100) (hS : SpaceIs w sp m sl q ps) :
    Calls Tryz.prog 28 #[.pointer (some ⟨sp, 0, none⟩), .int .u64 x, .int .i64 n, .int .i64 perm, .int .i64 e] w fun r w' => r = .returned (mayV (pgs ps) x n perm e) ∧ Below w.heap.size w w' := by
  have Hx := hid hx
  have HS := hid hS
  clear hS
  go_enter Tryz.func28, Tryz.ntmps28
  go_wp2
  go_loop [16] (fun i => ∃ k : Nat, k ≤ n ∧ i = .int .u64 k ∧ Hid (∀ j, j < k → okAt (pgs ps) perm (adr x j) = true)) (fun i => n - (intOf i).toNat)
  case atStart => exact ⟨0, by omega, rfl, hid (fun j hj => by omega)⟩
  case round =>
    obtain ⟨k, hk, rfl, Hok⟩ := hrel
    have HB := hid ((Below.refl w.heap.size w).alloc (Nat.le_refl _) (.cells #[.int .i64 0, .int .u64 0, .string ⟨#[]⟩] 31))
    have HN := hid (heap_alloc_new w (.cells #[.int .i64 0, .int .u64 0, .string ⟨#[]⟩] 31))
    have HS1 := hid (HS.out.below HB.out)
    clear HS
    by_cases hlt : k < n
    · have hxk := adr_lt x k
      have Hxk := hid (u64wn x k)
      rcases hq : pq ps (adr x k) with _ | g
      · have Hv := hid (mayN_some (e := e) hlt Hok.out (okAt_none' hq))
        have Hq := hid hq
        have Hs : Hid ((pgOf (pgs ps) (adr x k)).isSome = false) := hid (by rw [pgOf_pgs, hq]; rfl)
        clear hq hxk
        go_wp2_with fail
        refine (page_none sp m sl q ps (adr x k) _ _ Hxk.out (adr_lt x k) HS1.out Hq.out).mono ?_
        rintro e1 w1 ⟨rfl, rfl⟩
        go_wp2_with fail
        refine (failAt_any _ _ _).mono ?_
        rintro e1 w1 ⟨rfl, hb⟩
        have N1 := (hb.block w.heap.size (by simp)).trans HN.out
        have HB1 : Below w.heap.size w w1 := HB.out.trans (hb.mono (by simp))
        go_wp2_with (refine wpList_store_row rfl 31 (.tmp 10) (.tmp 33) rfl w.heap.size _ rfl rfl 31 _ N1 infoFault rfl (faultRow_one ..) ?_)
        refine bodyPost_ret (results_cell_row rfl _ _ w.heap.size 31 _ (0, 0) _ rfl (setRow_heap _ _ _ _ _ _ N1) Tryz.underlying31 rfl infoFault) rfl ?_
        exact ⟨by unfold mayV; rw [Hxk.out, Hv.out, Hs.out]; rfl, below_setRow HB1 (Nat.le_refl _) _⟩
      · have hc := HS1.out.cellPerm (pq_mem hq)
        have hgp : g.1.p < 8 := HS1.out.good.per _ (List.mem_map.2 ⟨g, pq_mem hq, rfl⟩)
        have hand := and_nat g.1.p perm hgp hp
        have hoka := okAt_some' (perm := perm) hq
        obtain ⟨z, hz⟩ : ∃ z : Nat, g.1.p &&& perm = z := ⟨_, rfl⟩
        rw [hz] at hand hoka
        have Hq := hid hq
        by_cases hzp : z = perm
        · have Hoka : Hid (okAt (pgs ps) perm (adr x k) = true) := hid (by rw [hoka, hzp]; simp)
          have hand' : bits BinOp.and IntKind.i64 (g.1.p : Int) (perm : Int) = (perm : Int) := by rw [hand, hzp]
          clear hq hxk hoka hz hand hzp
          generalize g.1.p = gp at *
          go_wp2_with fail
          refine (page_some sp m sl q ps (adr x k) _ g _ Hxk.out (adr_lt x k) HS1.out Hq.out).mono ?_
          rintro e1 w1 ⟨rfl, rfl⟩
          go_wp2_with fail
          go_round
          case rel => exact ⟨k + 1, by omega, by go_num, hid (fun j hj => by
            by_cases e : j = k
            · subst e; exact Hoka.out
            · exact Hok.out j (by omega))⟩
          case measure => simp [intOf]; omega
        · have Hv := hid (mayN_some (e := e) hlt Hok.out (by rw [hoka]; simpa using hzp))
          have Hs : Hid ((pgOf (pgs ps) (adr x k)).isSome = true) := hid (by rw [pgOf_pgs, hq]; rfl)
          have hne : ((z : Int) != (perm : Int)) = true := by rw [bne_iff_ne]; omega
          clear hq hxk hoka hz hzp
          generalize g.1.p = gp at *
          go_wp2_with fail
          refine (page_some sp m sl q ps (adr x k) _ g _ Hxk.out (adr_lt x k) HS1.out Hq.out).mono ?_
          rintro e1 w1 ⟨rfl, rfl⟩
          go_wp2_with fail
          refine (failAt_any _ _ _).mono ?_
          rintro e1 w1 ⟨rfl, hb⟩
          have N1 := (hb.block w.heap.size (by simp)).trans HN.out
          have HB1 : Below w.heap.size w w1 := HB.out.trans (hb.mono (by simp))
          go_wp2_with (refine wpList_store_row rfl 31 (.tmp 10) (.tmp 47) rfl w.heap.size _ rfl rfl 31 _ N1 infoFault rfl (faultRow_one ..) ?_)
          refine bodyPost_ret (results_cell_row rfl _ _ w.heap.size 31 _ (0, 0) _ rfl (setRow_heap _ _ _ _ _ _ N1) Tryz.underlying31 rfl infoFault) rfl ?_
          exact ⟨by unfold mayV; rw [Hxk.out, Hv.out, Hs.out]; rfl, below_setRow HB1 (Nat.le_refl _) _⟩
    · obtain rfl : k = n := by omega
      have Hv := hid (mayN_none (e := e) Hok.out)
      have N1 := HN.out
      go_wp2_with (refine wpList_store_row rfl 31 (.tmp 10) (.tmp 49) rfl w.heap.size _ rfl rfl 31 _ N1 infoFault rfl (faultRow_one ..) ?_)
      refine bodyPost_ret (results_cell_row rfl _ _ w.heap.size 31 _ (0, 0) _ rfl (setRow_heap _ _ _ _ _ _ N1) Tryz.underlying31 rfl infoFault) rfl ?_
      exact ⟨by unfold mayV; rw [Hv.out]; rfl, below_setRow HB.out (Nat.le_refl _) _⟩
end
end Go.Proofs.YtiemingpbommeaaGreatDoor

/- A space in memory: bytes. -/
namespace Go.Proofs.YtiemingpbommeaaGreatDoor
open Go.RowKit
noncomputable section
set_option linter.unusedVariables false
set_option linter.unusedSimpArgs false
/-- the cells of a slice of bytes while it is filled: k are written -/
def fillC (f : Nat → UInt8) (size k : Nat) : Array Value := ((List.range size).map fun i => if i < k then Value.int .u8 ((f i).toNat : Int) else .int .u8 0).toArray
theorem fillC_get (f : Nat → UInt8) (size k i : Nat) (h : i < size) : (fillC f size k)[i]? = some (if i < k then .int .u8 ((f i).toNat : Int) else .int .u8 0) := by
  unfold fillC
  rw [List.getElem?_toArray, List.getElem?_map, List.getElem?_range h]
  rfl
theorem fillC_step (f : Nat → UInt8) (size k : Nat) (h : k < size) : (fillC f size k).setIfInBounds k (.int .u8 ((f k).toNat : Int)) = fillC f size (k + 1) := by
  apply Array.ext'
  apply List.ext_getElem?
  intro j
  rw [Array.getElem?_toList, Array.getElem?_toList, Array.getElem?_setIfInBounds]
  by_cases hj : j < size
  · rw [fillC_get _ _ _ _ hj, fillC_get _ _ _ _ hj]
    by_cases e : k = j
    · subst e; simp [fillC, h]
    · rw [if_neg e]
      by_cases h2 : j < k
      · rw [if_pos h2, if_pos (by omega)]
      · rw [if_neg h2, if_neg (by omega)]
  · have h1 : (fillC f size k)[j]? = none := by rw [Array.getElem?_eq_none_iff]; simp [fillC]; omega
    have h2 : (fillC f size (k + 1))[j]? = none := by rw [Array.getElem?_eq_none_iff]; simp [fillC]; omega
    rw [h1, h2, if_neg (by omega)]
theorem fillC_zero (f : Nat → UInt8) (size : Nat) : (List.replicate size (Value.int .u8 0)).toArray = fillC f size 0 := by
  apply Array.ext
  · simp [fillC]
  · intro i h1 h2
    simp [fillC]
theorem pq_of_some {ps : List (Pg × Nat)} {y : Nat} (h : (pgOf (pgs ps) y).isSome = true) : ∃ g, pq ps y = some g := by
  rw [pgOf_pgs] at h
  cases hq : pq ps y with
  | none => rw [hq] at h; cases h
  | some g => exact ⟨g, rfl⟩
theorem byteN_of {ps : List (Pg × Nat)} {y : Nat} {g : Pg × Nat} (h : pq ps y = some g) : byteN (pgs ps) y = g.1.b.getD (y % 256) 0 := by
  unfold byteN; rw [pgOf_pgs, h]; rfl
set_option maxHeartbeats 4000000 in
set_option maxRecDepth 100000 in
theorem bytes_any (sp m : Nat) (sl : Value) (q : Int) (ps : List (Pg × Nat)) (x n : Nat) (w : World) (hx : x < 18446744073709551616) (hn : n ≤ 65536) (hS : SpaceIs w sp m sl q ps)
    (hall : ∀ i, i < n → (pgOf (pgs ps) (adr x i)).isSome = true) :
    Calls Tryz.prog 65 #[.pointer (some ⟨sp, 0, none⟩), .int .u64 x, .int .i64 n] w fun r w' => r = .returned (.string ⟨(bytesN (pgs ps) x n).toArray⟩) ∧ Below w.heap.size w w' := by
  have hmk := run_make_bytes n (by omega)
  have Hf : Hid (∀ i, (fun i => byteN (pgs ps) (adr x i)) i = byteN (pgs ps) (adr x i)) := hid fun i => rfl
  have Hstr : Hid (bytesN (pgs ps) x n = (List.range n).map fun i => byteN (pgs ps) (adr x i)) := hid rfl
  rw [fillC_zero (fun i => byteN (pgs ps) (adr x i)) n] at hmk
  have HS := hid hS
  have Hall := hid hall
  have Hx := hid hx
  clear hS hall
  generalize hF : (fun i => byteN (pgs ps) (adr x i)) = f at *
  have HF := hid hF
  clear hF Hf
  generalize bytesN (pgs ps) x n = bs at *
  go_enter Tryz.func65, Tryz.ntmps65
  go_wp2
  go_loopw [15] (fun i wr => ∃ k : Nat, k ≤ n ∧ i = .int .i64 k ∧ wr.heap[w.heap.size]? = some (.cells (fillC f n k) 5 (0, 0)) ∧ Below w.heap.size w wr) (fun i _ => n - (intOf i).toNat)
  case atStart => exact ⟨0, by omega, rfl, heap_alloc_new _ _, (Below.refl _ _).alloc (Nat.le_refl _) _⟩
  case round =>
    obtain ⟨k, hk, rfl, hg, hb⟩ := hrel
    by_cases hlt : k < n
    · obtain ⟨g, hq⟩ := pq_of_some (Hall.out k hlt)
      have hy := adr_lt x k
      have hxk := u64wn x k
      have Hbyte := hid (byteN_of hq)
      have Hfk : Hid (f k = byteN (pgs ps) (adr x k)) := hid (by rw [← HF.out])
      have HS1 := hid (HS.out.below hb)
      obtain ⟨y, hyy⟩ : ∃ y, adr x k = y := ⟨_, rfl⟩
      rw [hyy] at hq hy hxk Hbyte Hfk
      have hc := HS1.out.cellByte (pq_mem hq) (i := y % 256) (Nat.mod_lt _ (by decide))
      have hgl : w.heap.size < wr.heap.size := blk_lt' hg
      have Hq := hid hq
      have Hg := hid hg
      have hcw : wr.cell? ⟨w.heap.size, k, none⟩ = some (.int .u8 0) := by rw [cell_of_row wr _ _ _ _ _ hg, fillC_get _ _ _ _ hlt, if_neg (by omega)]
      have hfz := frozen_of_row wr _ k _ _ hg
      have Hstep := hid (fillC_step f n k hlt)
      obtain ⟨c, hcc⟩ : ∃ c, g.1.b.getD (y % 256) 0 = c := ⟨_, rfl⟩
      rw [hcc] at hc Hbyte
      clear hyy hq hg hcc
      go_wp2_with fail
      refine (page_some sp m sl q ps y _ g _ rfl hy HS1.out Hq.out).mono ?_
      rintro e1 w1 ⟨rfl, rfl⟩
      go_wp2_with fail
      go_roundw
      case rel =>
        refine ⟨k + 1, by omega, by go_num, ?_, hb.setCell (Nat.le_refl _) _⟩
        rw [heap_setCell_same _ _ _ _ _ _ Hg.out, ← Hstep.out, Hfk.out, Hbyte.out]
      case measure => simp [intOf]; omega
    · obtain rfl : k = n := by omega
      have hconv := run_convert_bytes_back (P := Tryz.prog) wr 90 9 5 ⟨w.heap.size, 0, none⟩ k bs Tryz.underlying90 Tryz.underlying5 Tryz.underlying9 (fun j hj => by
        have hj' : j < k := by rw [Hstr.out] at hj; simpa using hj
        have e : (⟨w.heap.size, 0, none⟩ : Addr).add j = ⟨w.heap.size, j, none⟩ := by unfold Addr.add; split <;> simp_all
        rw [e, cell_of_row wr _ _ _ _ _ hg, fillC_get _ _ _ _ hj', if_pos hj']
        simp only [Hstr.out, List.getElem_map, List.getElem_range])
      have hlen : bs.length = k := by rw [Hstr.out]; simp
      rw [hlen] at hconv
      clear hg hlen
      go_wp2
      go_ret
      exact ⟨rfl, hb⟩
end
end Go.Proofs.YtiemingpbommeaaGreatDoor

/- A space in memory: lay. -/
namespace Go.Proofs.YtiemingpbommeaaGreatDoor
open Go.RowKit
noncomputable section
set_option linter.unusedVariables false
set_option linter.unusedSimpArgs false
/-- a byte is laid in a page -/
def psSet (ps : List (Pg × Nat)) (y : Nat) (c : UInt8) : List (Pg × Nat) := ps.map fun q => (if q.1.a == y - y % 256 then { q.1 with b := q.1.b.set (y % 256) c } else q.1, q.2)
def psLay (ps : List (Pg × Nat)) (x : Nat) (bs : List UInt8) (k : Nat) : List (Pg × Nat) := (List.range k).foldl (fun M i => psSet M (adr x i) (bs.getD i 0)) ps
theorem psLay_succ (ps : List (Pg × Nat)) (x : Nat) (bs : List UInt8) (k : Nat) : psLay ps x bs (k + 1) = psSet (psLay ps x bs k) (adr x k) (bs.getD k 0) := by
  unfold psLay; rw [List.range_succ, List.foldl_append]; rfl
theorem pgs_psSet (ps : List (Pg × Nat)) (y : Nat) (c : UInt8) : pgs (psSet ps y c) = setN (pgs ps) y c := by
  unfold pgs psSet setN; rw [List.map_map, List.map_map]; rfl
theorem blks_psSet (ps : List (Pg × Nat)) (y : Nat) (c : UInt8) : blks (psSet ps y c) = blks ps := by
  unfold blks psSet; rw [List.map_map]; rfl
theorem pgs_psLay (ps : List (Pg × Nat)) (x : Nat) (bs : List UInt8) (k : Nat) : pgs (psLay ps x bs k) = layK (pgs ps) x bs k := by
  induction k with
  | zero => rfl
  | succ k ih => rw [psLay_succ, pgs_psSet, ih, layK_succ]
theorem blks_psLay (ps : List (Pg × Nat)) (x : Nat) (bs : List UInt8) (k : Nat) : blks (psLay ps x bs k) = blks ps := by
  induction k with
  | zero => rfl
  | succ k ih => rw [psLay_succ, blks_psSet, ih]
theorem ents_psSet (y : Nat) (c : UInt8) : ∀ (ps : List (Pg × Nat)) (i : Nat), ents i (psSet ps y c) = ents i ps
  | [], _ => rfl
  | q :: l, i => by
    have ih := ents_psSet y c l (i + 1)
    unfold psSet at ih ⊢
    rw [List.map_cons, ents, ents, ih]
    congr 2
    split <;> rfl
theorem psSet_length (ps : List (Pg × Nat)) (y : Nat) (c : UInt8) : (psSet ps y c).length = ps.length := by simp [psSet]
theorem pgCells_set (g : Pg) (i : Nat) (c : UInt8) (hi : i < g.b.length) : (pgCells g).setIfInBounds (1 + i) (.int .u8 (c.toNat : Int)) = pgCells { g with b := g.b.set i c } := by
  unfold pgCells
  rw [Nat.add_comm, List.setIfInBounds_toArray, List.set_cons_succ, List.map_set]
theorem pairwise_mem {α : Type} {R : α → α → Prop} : ∀ {l : List α}, l.Pairwise R → ∀ {x y : α}, x ∈ l → y ∈ l → x = y ∨ R x y ∨ R y x
  | [], _, _, _, hx, _ => by cases hx
  | a :: l, h, x, y, hx, hy => by
    obtain ⟨h1, h2⟩ := List.pairwise_cons.1 h
    rcases List.mem_cons.1 hx with rfl | hx' <;> rcases List.mem_cons.1 hy with rfl | hy'
    · exact .inl rfl
    · exact .inr (.inl (h1 _ hy'))
    · exact .inr (.inr (h1 _ hx'))
    · exact pairwise_mem h2 hx' hy'
/-- a byte of a page is stored -/
theorem SpaceIs.set {w : World} {sp m : Nat} {sl : Value} {q : Int} {ps : List (Pg × Nat)} (h : SpaceIs w sp m sl q ps) {y : Nat} {g : Pg × Nat} (hq : pq ps y = some g) (c : UInt8) :
    SpaceIs (w.setCell ⟨g.2, 1 + y % 256, none⟩ (.int .u8 (c.toNat : Int))) sp m sl q (psSet ps y c) := by
  have hg := pq_mem hq
  have hgl : g.1.b.length = 256 := h.good.len _ (List.mem_map.2 ⟨g, hg, rfl⟩)
  have hga : g.1.a = y - y % 256 := by
    have := List.find?_some hq
    simpa using this
  have hpg := h.page g hg
  have n1 : sp ≠ g.2 := fun e => by
    have h1 := h.row
    rw [e, hpg] at h1
    have := congrArg (fun o : Option Obj => match o with | some (.cells _ t _) => t | _ => 0) h1
    exact absurd (show (85 : Nat) = 74 from this) (by decide)
  have n2 : m ≠ g.2 := fun e => by have h1 := h.map; rw [e, hpg] at h1; cases h1
  refine ⟨?_, ?_, ?_, ?_, ?_⟩
  · rw [heap_setCell_other _ _ _ _ n1]; exact h.row
  · rw [heap_setCell_other _ _ _ _ n2, ents_psSet, psSet_length]; exact h.map
  · intro x hx
    obtain ⟨x0, h0, rfl⟩ := List.mem_map.1 hx
    by_cases e : x0.1.a = y - y % 256
    · have hxg : x0 = g := by
        rcases pairwise_mem h.nd h0 hg with e1 | hne | hne
        · exact e1
        · exfalso
          have hnd := h.good.nd
          unfold pgs at hnd
          rw [List.pairwise_map] at hnd
          rcases pairwise_mem hnd h0 hg with e1 | e1 | e1
          · exact hne (by rw [e1])
          · exact e1 (e.trans hga.symm)
          · exact e1 (hga.trans e.symm)
        · exfalso
          have hnd := h.good.nd
          unfold pgs at hnd
          rw [List.pairwise_map] at hnd
          rcases pairwise_mem hnd h0 hg with e1 | e1 | e1
          · exact hne (by rw [e1])
          · exact e1 (e.trans hga.symm)
          · exact e1 (hga.trans e.symm)
      subst hxg
      have e' : (x0.1.a == y - y % 256) = true := by simpa using e
      simp only [e', if_true]
      rw [heap_setCell_same _ _ _ _ _ _ hpg, pgCells_set _ _ _ (by rw [hgl]; exact Nat.mod_lt _ (by decide))]
    · have e' : (x0.1.a == y - y % 256) = false := by simpa using e
      simp only [e', Bool.false_eq_true, if_false]
      rw [heap_setCell_other _ _ _ _ ?_]
      · exact h.page x0 h0
      · intro e2
        rcases pairwise_mem h.nd h0 hg with e1 | e1 | e1
        · exact e (by rw [e1]; exact hga)
        · exact e1 e2
        · exact e1 e2.symm
  · rw [pgs_psSet]; exact h.good.setN _ _
  · unfold psSet; rw [List.pairwise_map]; exact h.nd
theorem pq_psLay {ps : List (Pg × Nat)} {x : Nat} {bs : List UInt8} {k y : Nat} (h : (pgOf (pgs ps) y).isSome = true) : ∃ g, pq (psLay ps x bs k) y = some g :=
  pq_of_some (by rw [pgs_psLay, some_layK]; exact h)
set_option maxHeartbeats 4000000 in
set_option maxRecDepth 100000 in
theorem lay_any (sp m : Nat) (sl : Value) (q : Int) (ps : List (Pg × Nat)) (x : Nat) (bs : List UInt8) (w : World) (hx : x < 18446744073709551616) (hn : bs.length ≤ 65536) (hS : SpaceIs w sp m sl q ps)
    (hall : ∀ i, i < bs.length → (pgOf (pgs ps) (adr x i)).isSome = true) :
    Calls Tryz.prog 29 #[.pointer (some ⟨sp, 0, none⟩), .int .u64 x, .string ⟨bs.toArray⟩] w fun r w' => r = .returned (.tuple #[]) ∧ SpaceIs w' sp m sl q (psLay ps x bs bs.length) ∧ Keep (blks ps) w w' := by
  have HS := hid hS
  have Hall := hid hall
  have Hx := hid hx
  have hsz : (⟨bs.toArray⟩ : ByteArray).size = bs.length := by simp [ByteArray.size]
  clear hS hall
  go_enter Tryz.func29, Tryz.ntmps29
  go_wp2
  go_loopw [11] (fun i wr => ∃ k : Nat, k ≤ bs.length ∧ i = .int .i64 k ∧ SpaceIs wr sp m sl q (psLay ps x bs k) ∧ Keep (blks ps) w wr) (fun i _ => bs.length - (intOf i).toNat)
  case atStart => exact ⟨0, by omega, rfl, HS.out, Keep.refl _ _⟩
  case round =>
    obtain ⟨k, hk, rfl, hS1, hkp⟩ := hrel
    have HS1 := hid hS1
    clear hS1
    by_cases hlt : k < bs.length
    · obtain ⟨g, hq⟩ := pq_psLay (bs := bs) (k := k) (Hall.out k hlt)
      have hy := adr_lt x k
      have hxk := u64wn x k
      have Hlay := hid (psLay_succ ps x bs k)
      have Hblk := hid (blks_psLay ps x bs k)
      obtain ⟨y, hyy⟩ : ∃ y, adr x k = y := ⟨_, rfl⟩
      rw [hyy] at hq hy hxk Hlay
      have hcg : bs.getD k 0 = bs[k] := getD_at bs k 0 hlt
      rw [hcg] at Hlay
      obtain ⟨ps', hps⟩ : ∃ ps', psLay ps x bs k = ps' := ⟨_, rfl⟩
      rw [hps] at hq HS1 Hlay Hblk
      have hc := HS1.out.cellByte (pq_mem hq) (i := y % 256) (Nat.mod_lt _ (by decide))
      have hfz := frozen_of_row wr _ (1 + y % 256) _ _ (HS1.out.page g (pq_mem hq))
      have Hq := hid hq
      have Hgm : Hid (g.2 ∈ blks ps) := hid (by rw [← Hblk.out]; exact List.mem_map.2 ⟨g, pq_mem hq, rfl⟩)
      clear hyy hq hps hcg
      go_wp2_with fail
      refine (page_some sp m sl q ps' y _ g _ rfl hy HS1.out Hq.out).mono ?_
      rintro e1 w1 ⟨rfl, rfl⟩
      go_wp2_with fail
      go_region
      go_wp2
      go_roundw
      case rel =>
        refine ⟨k + 1, by omega, by go_num, ?_, ?_⟩
        · rw [Hlay.out]; exact (HS1.out.set Hq.out _).drew1
        · exact (hkp.setCell _ _ (.inr Hgm.out)).drew1
      case measure => simp [intOf]; omega
    · obtain rfl : k = bs.length := by omega
      go_wp2
      go_end0
      exact ⟨rfl, HS1.out, hkp⟩
end
end Go.Proofs.YtiemingpbommeaaGreatDoor
