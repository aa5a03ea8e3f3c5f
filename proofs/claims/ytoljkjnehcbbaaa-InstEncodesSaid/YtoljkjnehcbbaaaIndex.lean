/- The first form that a test takes: 'IndexFunc' over the table. -/
import Derived.Test.YtoljkjnehcbbaaaFits
namespace Go.Proofs.Ytoljkjnehcbbaaa
open Go.RowKit
noncomputable section
set_option linter.unusedVariables false
set_option linter.unusedSimpArgs false

/-- form number i -/
def formAt (i : Nat) : List UInt8 × Int × Int × Int × Int := table.getD i ([], 0, 0, 0, 0)

theorem flat_get {α β : Type} (f : α → List β) (m : Nat) (hm : ∀ x, (f x).length = m) (d : α) : ∀ (l : List α) (i j : Nat), i < l.length → j < m → (l.flatMap f)[m * i + j]? = (f (l.getD i d))[j]? := by
  intro l
  induction l with
  | nil => intro i j h; simp at h
  | cons x l ih =>
    intro i j h hj
    cases i with
    | zero => simp only [List.flatMap_cons, Nat.mul_zero, Nat.zero_add, List.getD_cons_zero]; rw [List.getElem?_append_left (by rw [hm]; exact hj)]
    | succ i =>
      simp only [List.flatMap_cons, List.getD_cons_succ]
      rw [List.getElem?_append_right (by rw [hm, Nat.mul_succ]; omega), hm, show m * (i + 1) + j - m = m * i + j by rw [Nat.mul_succ]; omega]
      exact ih i j (by simpa using h) hj

theorem table_length : table.length = 64 := by kernel_rfl

theorem formCells_get (i j : Nat) (hi : i < 64) (hj : j < 5) : formCells[5 * i + j]? = (rowCells (formAt i))[j]? := by
  unfold formCells formAt
  rw [List.getElem?_toArray]
  exact flat_get rowCells 5 (fun _ => rfl) _ table i j (by rw [table_length]; exact hi) hj

/-- r is the first place where p holds, or -1 -/
def IsFirst (p : Nat → Bool) (r : Int) : Prop := (r = -1 ∧ ∀ i, i < 64 → p i = false) ∨ (∃ i : Nat, i < 64 ∧ r = i ∧ p i = true ∧ ∀ j, j < i → p j = false)

/-- what a call of IndexFunc ends in -/
def IndexPost (p : Nat → Bool) (w : World) (e : Ending) (w' : World) : Prop := ∃ r : Int, IsFirst p r ∧ e = .returned (.int .i64 r) ∧ Below w.heap.size w w'

set_option maxHeartbeats 1000000 in
set_option maxRecDepth 100000 in
theorem index_any (F : FuncId) (g b : Nat) (p : Nat → Bool) (w : World) (hg : w.heap[g]? = some (.cells formCells 58 (0, 0)))
    (hF : ∀ (args : Array Value) (w' : World), (callFunc F args).run Try.prog w' = .ok (.enter F args) w')
    (hcall : ∀ (i : Nat) (w' : World), i < 64 → Below w.heap.size w w' →
      Calls Try.prog F #[.agg (rowCells (formAt i)).toArray, .pointer (some ⟨b, 0, none⟩)] w' fun e w'' => e = .returned (.bool (p i)) ∧ Below w'.heap.size w' w'') :
    Calls Try.prog 18 #[.slice (some ⟨g, 0, none⟩) 64 64, .func (.func F) #[] #[.pointer (some ⟨b, 0, none⟩)]] w (IndexPost p w) := by
  have Hcall := hid hcall
  have Hg := hid hg
  have hgl : g < w.heap.size := blk_lt' hg
  clear hcall hg
  go_enter Try.func18, Try.ntmps18
  go_wp2
  go_outline
  go_loopw [8] (fun i wr => ∃ k : Nat, k ≤ 64 ∧ i = .int .i64 k ∧ (∀ j, j < k → p j = false) ∧ Below w.heap.size w wr) (fun i _ => 64 - (intOf i).toNat)
  case atStart => exact ⟨0, by omega, rfl, fun j hj => absurd hj (by omega), Below.refl _ _⟩
  case round =>
    obtain ⟨k, hk, rfl, hno, hb⟩ := hrel
    have Hno := hid hno
    clear hno
    by_cases hlt : k < 64
    · have hgr := (hb.block g hgl).trans Hg.out
      have hc : ∀ j, j < 5 → wr.cell? ⟨g, k * 5 + j, none⟩ = (rowCells (formAt k))[j]? := fun j hj => by
        rw [cell_of_row wr g _ _ _ _ hgr, Nat.mul_comm]; exact formCells_get k j hlt hj
      have c0 := hc 0 (by omega)
      have c1 := hc 1 (by omega)
      have c2 := hc 2 (by omega)
      have c3 := hc 3 (by omega)
      have c4 := hc 4 (by omega)
      clear hc hgr
      rw [Nat.add_zero] at c0
      simp only [rowCells, List.getElem?_cons_zero, List.getElem?_cons_succ] at c0 c1 c2 c3 c4
      go_wp2_with fail
      refine (Hcall.out k wr hlt hb).mono ?_
      rintro e w1 ⟨rfl, hb1⟩
      have hb2 : Below w.heap.size w w1 := hb.trans (hb1.mono hb.size)
      clear c0 c1 c2 c3 c4 hb1 hF
      cases hp : p k
      · have Hp := hid hp
        clear hp
        go_wp2
        go_roundw
        case rel => exact ⟨k + 1, by omega, by go_num, fun j hj => by
          by_cases h : j < k
          · exact Hno.out j h
          · rw [show j = k by omega]; exact Hp.out, hb2⟩
        case measure => simp [intOf]; omega
      · have Hp := hid hp
        clear hp
        go_wp2
        go_ret
        exact ⟨k, .inr ⟨k, hlt, rfl, Hp.out, Hno.out⟩, rfl, hb2⟩
    · have hge : 64 ≤ k := by omega
      clear hlt hF
      go_wp2
      go_ret
      exact ⟨-1, .inl ⟨rfl, fun i hi => Hno.out i (by omega)⟩, rfl, hb⟩
end
end Go.Proofs.Ytoljkjnehcbbaaa
