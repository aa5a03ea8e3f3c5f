/- The document's spaces: a list of pages in memory; the page of an address. -/
import Derived.Test.YtiemingpbommeaaGreatDoorGp
namespace Go.Proofs.YtiemingpbommeaaGreatDoor
open Go Go.RowKit
noncomputable section
set_option linter.unusedVariables false
set_option linter.unusedSimpArgs false
def pcells (g : Pg) : List Value := [.int .u64 (g.a : Int), .int .i64 (g.p : Int), .string ⟨g.b.toArray⟩]
def rcells (M : List Pg) : List Value := M.flatMap pcells
theorem rcells_length (M : List Pg) : (rcells M).length = M.length * 3 := by
  induction M with
  | nil => rfl
  | cons g M ih => unfold rcells at ih ⊢; rw [List.flatMap_cons, List.length_append, ih, List.length_cons]; simp [pcells]; omega
theorem rcells_append (M L : List Pg) : rcells (M ++ L) = rcells M ++ rcells L := by simp [rcells]
theorem rcells_get (M : List Pg) (j k : Nat) (hj : j < M.length) (hk : k < 3) : (rcells M)[j * 3 + k]? = (pcells (M.getD j ⟨0, 0, []⟩))[k]? := by
  have := flat_get pcells 3 (fun _ => rfl) ⟨0, 0, []⟩ M j k hj hk
  rw [Nat.mul_comm]
  exact this
/-- a list of pages, as the document's code keeps it -/
def RL (B : Nat) (w : World) (sl : Value) (M : List Pg) : Prop := w.ownsRow B 135 3 sl M.length (rcells M)
theorem RL.nil (B : Nat) (w : World) : RL B w (.slice none 0 0) [] := World.ownsRow_nil ..
theorem RL.below {B : Nat} {w w' : World} {sl : Value} {M : List Pg} (h : RL B w sl M) (hb : Below w.heap.size w w') : RL B w' sl M := by
  obtain ⟨h1, h2⟩ := h
  refine ⟨h1, ?_⟩
  rcases h2 with h2 | ⟨g, cap, cur, e, hB, hg, r⟩
  · exact .inl h2
  · exact .inr ⟨g, cap, cur, e, hB, (hb.block g (blk_lt' hg)).trans hg, r⟩
theorem RL.parts {B : Nat} {w : World} {sl : Value} {M : List Pg} (h : RL B w sl M) : ∃ (p : Option Addr) (c : Nat), sl = .slice p M.length c ∧ M.length ≤ 9223372036854775807 ∧
    (0 < M.length → ∃ g, p = some ⟨g, 0, none⟩ ∧ g < w.heap.size ∧ B ≤ g ∧ ∀ j, j < M.length → w.cell? ⟨g, j * 3, none⟩ = some (.int .u64 ((M.getD j ⟨0, 0, []⟩).a : Int)) ∧
      w.cell? ⟨g, j * 3 + 1, none⟩ = some (.int .i64 ((M.getD j ⟨0, 0, []⟩).p : Int)) ∧ w.cell? ⟨g, j * 3 + 2, none⟩ = some (.string ⟨(M.getD j ⟨0, 0, []⟩).b.toArray⟩)) := by
  obtain ⟨_, h⟩ := h
  rcases h with ⟨rfl, h0⟩ | ⟨g, cap, cur, rfl, hB, hg, hn, hc, hs, ht⟩
  · exact ⟨none, 0, by rw [h0], by omega, fun h => by omega⟩
  · refine ⟨_, cap, rfl, Nat.le_trans (Nat.le_trans hn hc) (by decide), fun _ => ⟨g, rfl, blk_lt' hg, hB, fun j hj => ?_⟩⟩
    have hc : ∀ k, k < 3 → w.cell? ⟨g, j * 3 + k, none⟩ = (pcells (M.getD j ⟨0, 0, []⟩))[k]? := fun k hk => by
      rw [cell_of_row w g _ _ _ _ hg, ← rcells_get M j k hj hk, ← ht, List.getElem?_take_of_lt (by omega), Array.getElem?_toList]
    exact ⟨hc 0 (by omega), hc 1 (by omega), hc 2 (by omega)⟩
/-- the number of an address's page -/
def findI (M : List Pg) (y : Nat) : Int := match M.findIdx? (fun g => g.a == y - y % 256) with | some i => i | none => -1
theorem findI_none {M : List Pg} {y : Nat} (h : ∀ j, j < M.length → ((M.getD j ⟨0, 0, []⟩).a == y - y % 256) = false) : findI M y = -1 := by
  unfold findI
  have : M.findIdx? (fun g => g.a == y - y % 256) = none := by
    rw [List.findIdx?_eq_none_iff]
    intro g hg
    obtain ⟨j, hj, rfl⟩ := List.getElem_of_mem hg
    have := h j hj
    rwa [List.getD_eq_getElem?_getD, List.getElem?_eq_getElem hj, Option.getD_some] at this
  rw [this]
theorem findI_some {M : List Pg} {y k : Nat} (hk : k < M.length) (h : ((M.getD k ⟨0, 0, []⟩).a == y - y % 256) = true) (hno : ∀ j, j < k → ((M.getD j ⟨0, 0, []⟩).a == y - y % 256) = false) : findI M y = k := by
  unfold findI
  have : M.findIdx? (fun g => g.a == y - y % 256) = some k := by
    rw [List.findIdx?_eq_some_iff_getElem]
    refine ⟨hk, ?_, fun j hj => ?_⟩
    · rwa [List.getD_eq_getElem?_getD, List.getElem?_eq_getElem hk, Option.getD_some] at h
    · have := hno j hj
      rw [List.getD_eq_getElem?_getD, List.getElem?_eq_getElem (by omega), Option.getD_some] at this
      simpa using this
  rw [this]
/-- what the document's Find asks of a page -/
theorem at_page {a y : Nat} (ha : a % 256 = 0) : (a == y - y % 256) = decide (a ≤ y ∧ y - a < 256) := by
  rw [Bool.eq_iff_iff]
  simp only [beq_iff_eq, decide_eq_true_eq]
  omega
set_option maxHeartbeats 4000000 in
set_option maxRecDepth 100000 in
theorem refFind_any (B : Nat) (sl : Value) (M : List Pg) (q : Int) (y : Nat) (w : World) (hR : RL B w sl M) (hG : Good M) (hy : y < 18446744073709551616) :
    Calls Tryz.prog 85 #[.agg #[sl, .int .i64 q], .int .u64 y] w fun e w' => e = .returned (.int .i64 (findI M y)) ∧ Below w.heap.size w w' := by
  have HN := hid (@findI_none M y)
  have HS := hid (fun k => @findI_some M y k)
  obtain ⟨r, hr⟩ : ∃ r, findI M y = r := ⟨_, rfl⟩
  rw [hr] at HN HS ⊢
  obtain ⟨p, c, rfl, hml, hc⟩ := hR.parts
  have Hc := hid hc
  have HG := hid hG
  clear hr hR hc hG
  go_enter Tryz.func85, Tryz.ntmps85
  go_wp2_with fail
  go_loopw [5] (fun i wr => ∃ k : Nat, k ≤ M.length ∧ i = .int .i64 k ∧ Hid (∀ j, j < k → ((M.getD j ⟨0, 0, []⟩).a == y - y % 256) = false) ∧ Hid (wr.heap[w.heap.size]? = some (.cells #[.slice p M.length c, .int .i64 q] 54 (0, 0))) ∧ Below w.heap.size w wr) (fun i _ => M.length - (intOf i).toNat)
  case atStart => exact ⟨0, by omega, rfl, hid (fun j hj => by omega), hid (heap_alloc_new _ _), (Below.refl _ _).alloc (Nat.le_refl _) _⟩
  case round =>
    obtain ⟨k, hk, rfl, Hno, Hbox, hb⟩ := hrel
    have b0 : wr.cell? ⟨w.heap.size, 0, none⟩ = some (.slice p M.length c) := by rw [cell_of_row wr _ _ _ _ _ Hbox.out]; rfl
    by_cases hlt : k < M.length
    · obtain ⟨g, rfl, hgl, _, hcs⟩ := Hc.out (by omega)
      obtain ⟨ca, _, _⟩ := hcs k hlt
      have c0 : wr.cell? ⟨g, k * 3, none⟩ = some (.int .u64 ((M.getD k ⟨0, 0, []⟩).a : Int)) := (hb.cell (p := ⟨g, k * 3, none⟩) hgl).trans ca
      have hmem : M.getD k ⟨0, 0, []⟩ ∈ M := by rw [List.getD_eq_getElem?_getD, List.getElem?_eq_getElem hlt, Option.getD_some]; exact List.getElem_mem hlt
      have hal := HG.out.al _ hmem
      have htop := HG.out.top _ hmem
      have hat : ((M.getD k ⟨0, 0, []⟩).a == y - y % 256) = decide ((M.getD k ⟨0, 0, []⟩).a ≤ y ∧ y - (M.getD k ⟨0, 0, []⟩).a < 256) := at_page hal
      have HS' := hid (fun h => HS.out k hlt h Hno.out)
      have Hnext : Hid (((M.getD k ⟨0, 0, []⟩).a == y - y % 256) = false → ∀ j, j < k + 1 → ((M.getD j ⟨0, 0, []⟩).a == y - y % 256) = false) := hid (fun h j hj => by
        rcases Nat.lt_or_ge j k with h1 | h1
        · exact Hno.out j h1
        · rw [show j = k by omega]; exact h)
      rw [hat] at HS' Hnext
      clear hcs ca hmem hal hat HS
      generalize (M.getD k ⟨0, 0, []⟩).a = a at *
      by_cases h1 : a ≤ y
      · by_cases h2 : y - a < 256
        · have hd := hid (HS'.out (by simp [h1, h2]))
          clear HS' Hnext HN
          go_wp2_with fail
          go_ret
          rw [hd.out]
          exact ⟨rfl, hb⟩
        · have Hn := hid (Hnext.out (by simp [h1, h2]))
          clear HS' Hnext HN
          go_wp2_with fail
          go_roundw
          case rel => exact ⟨k + 1, by omega, by go_num, Hn, Hbox, hb⟩
          case measure => simp [intOf]; omega
      · have Hn := hid (Hnext.out (by simp [h1]))
        clear HS' Hnext HN
        go_wp2_with fail
        go_roundw
        case rel => exact ⟨k + 1, by omega, by go_num, Hn, Hbox, hb⟩
        case measure => simp [intOf]; omega
    · obtain rfl : k = M.length := by omega
      have hd := hid (HN.out Hno.out)
      clear HN HS
      go_wp2_with fail
      go_ret
      rw [hd.out]
      exact ⟨rfl, hb⟩
end
end Go.Proofs.YtiemingpbommeaaGreatDoor

/- The document's spaces: what may not be asked; are pages there. -/
namespace Go.Proofs.YtiemingpbommeaaGreatDoor
open Go Go.RowKit
noncomputable section
set_option linter.unusedVariables false
set_option linter.unusedSimpArgs false
set_option maxHeartbeats 2000000 in
set_option maxRecDepth 100000 in
theorem refWrong_any (a n p : Nat) (h : Fine a n p) (w : World) :
    Calls Tryz.prog 83 #[.int .u64 a, .int .i64 n, .int .i64 p] w fun e w' => e = .returned (.int .i64 0) ∧ ∃ m, w' = w.drewN m := by
  obtain ⟨h1, h2, h3, h4, h5⟩ := h
  have e4 : (a : Int) % 256 = 0 := by omega
  go_enter Tryz.func83, Tryz.ntmps83
  go_wp2
  go_ret
  exact ⟨rfl, 0, rfl⟩
theorem refFind_at (B : Nat) (sl : Value) (M : List Pg) (q : Int) (y : Nat) (yi : Int) (w : World) (hR : RL B w sl M) (hG : Good M) (hy : y < 18446744073709551616) (h : yi = y) :
    Calls Tryz.prog 85 #[.agg #[sl, .int .i64 q], .int .u64 yi] w fun e w' => e = .returned (.int .i64 (findI M y)) ∧ Below w.heap.size w w' := by subst h; exact refFind_any B sl M q y w hR hG hy
set_option maxHeartbeats 4000000 in
set_option maxRecDepth 100000 in
theorem refThere_no (B : Nat) (sl : Value) (M : List Pg) (q : Int) (a n : Nat) (w : World) (hR : RL B w sl M) (hG : Good M) (hn : n ≤ 4096) (ha : a + n * 256 ≤ 9223372036854775808) (hno : ∀ i, i < n → findI M (a + i * 256) = -1) :
    Calls Tryz.prog 84 #[.agg #[sl, .int .i64 q], .int .u64 a, .int .i64 n, .bool false] w fun e w' => e = .returned (.bool true) ∧ Below w.heap.size w w' := by
  have HR := hid hR
  have HG := hid hG
  have Hno := hid hno
  clear hR hG hno
  go_enter Tryz.func84, Tryz.ntmps84
  go_wp2_with fail
  go_loopw [9] (fun i wr => ∃ k : Nat, k ≤ n ∧ i = .int .i64 k ∧ Hid (wr.heap[w.heap.size]? = some (.cells #[sl, .int .i64 q] 54 (0, 0))) ∧ Below w.heap.size w wr) (fun i _ => n - (intOf i).toNat)
  case atStart => exact ⟨0, by omega, rfl, hid (heap_alloc_new _ _), (Below.refl _ _).alloc (Nat.le_refl _) _⟩
  case round =>
    obtain ⟨k, hk, rfl, Hbox, hb⟩ := hrel
    have b0 : wr.cell? ⟨w.heap.size, 0, none⟩ = some sl := by rw [cell_of_row wr _ _ _ _ _ Hbox.out]; rfl
    have b1 : wr.cell? ⟨w.heap.size, 1, none⟩ = some (.int .i64 q) := by rw [cell_of_row wr _ _ _ _ _ Hbox.out]; rfl
    by_cases hlt : k < n
    · have hk256 : k * 256 + 256 ≤ n * 256 := by omega
      go_wp2_with fail
      refine (refFind_at B sl M q (a + k * 256) _ wr (HR.out.below hb) HG.out (by omega) (by first | rfl | (push_cast; omega) | omega)).mono ?_
      rw [Hno.out k hlt]
      rintro e w1 ⟨rfl, hb1⟩
      have Hbox1 := hid ((hb1.block _ (blk_lt' Hbox.out)).trans Hbox.out)
      have HB1 := hid (hb.trans (hb1.mono hb.size))
      clear b0 b1 hb1
      go_wp2_with fail
      go_roundw
      case rel => exact ⟨k + 1, by omega, by go_num, Hbox1, HB1.out⟩
      case measure => simp [intOf]; omega
    · obtain rfl : k = n := by omega
      go_wp2_with fail
      go_ret
      exact ⟨rfl, hb⟩
end
end Go.Proofs.YtiemingpbommeaaGreatDoor
