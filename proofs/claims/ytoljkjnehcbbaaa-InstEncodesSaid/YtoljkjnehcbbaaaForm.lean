/- A kind's name and form, and the kind of a name. -/
import Derived.Test.YtoljkjnehcbbaaaDecode
namespace Go.Proofs.Ytoljkjnehcbbaaa
open Go.RowKit
noncomputable section
set_option linter.unusedVariables false
set_option linter.unusedSimpArgs false

/-- the letter of a kind -/
def letterI (o : Int) : Int := if 0 ≤ o ∧ o < 64 then (formAt o.toNat).2.1 else 0
/-- the name of a kind -/
def nameB (o : Int) : List UInt8 := if 0 ≤ o ∧ o < 64 then (formAt o.toNat).1 else []

theorem field_name (s : ByteArray) (l o f3 f7 : Int) (w : World) : (Instr.field 55 (.agg #[.string s, .int .u8 l, .int .u32 o, .int .u32 f3, .int .u32 f7]) 0).run Try.prog w = .ok (.string s) w := by kernel_rfl

set_option maxHeartbeats 1000000 in
set_option maxRecDepth 100000 in
theorem form_any (o : Int) (w : World) :
    Calls Try.prog 14 #[.int .i64 o] w fun e w' => e = .returned (.int .u8 (letterI o)) ∧ Below w.heap.size w w' := by
  by_cases h : 0 ≤ o ∧ o < 64
  · have hv : letterI o = (formAt o.toNat).2.1 := by unfold letterI; rw [if_pos h]
    have hd : decide (0 ≤ o ∧ o < 64) = true := decide_eq_true h
    obtain ⟨i, rfl⟩ := Int.eq_ofNat_of_zero_le h.1
    have hi : i < 64 := by omega
    rw [Int.toNat_natCast] at hv
    have hix := run_index_forms i hi
    obtain ⟨s, p, f3, f7, hrow⟩ : ∃ (s : ByteArray) (p f3 f7 : Int), (rowCells (formAt i)).toArray = #[.string s, .int .u8 (formAt i).2.1, .int .u32 p, .int .u32 f3, .int .u32 f7] := ⟨_, _, _, _, rfl⟩
    generalize letterI i = v at *
    generalize (formAt i).2.1 = l at *
    subst hv
    rw [hrow] at hix
    have hfl := field_letter s v p f3 f7
    clear hrow
    go_enter Try.func14, Try.ntmps14
    go_wp2_with (first
      | (go_at_call 29; refine (there_any _ _).mono ?_; rintro e w3 ⟨rfl, rfl⟩)
      | (go_at_call 22; refine (forms_any _).mono ?_; rintro e w3 ⟨rfl, hb3⟩))
    go_ret
    exact ⟨rfl, hb3⟩
  · have hv : letterI o = 0 := by unfold letterI; rw [if_neg h]
    have hd : decide (0 ≤ o ∧ o < 64) = false := decide_eq_false h
    rw [hv]
    clear h hv
    go_enter Try.func14, Try.ntmps14
    go_wp2_with (first
      | (go_at_call 29; refine (there_any _ _).mono ?_; rintro e w3 ⟨rfl, rfl⟩; rw [hd]))
    go_ret
    exact ⟨rfl, Below.refl _ _⟩

set_option maxHeartbeats 1000000 in
set_option maxRecDepth 100000 in
theorem name_any (o : Int) (w : World) :
    Calls Try.prog 17 #[.int .i64 o] w fun e w' => e = .returned (.string ⟨(nameB o).toArray⟩) ∧ Below w.heap.size w w' := by
  by_cases h : 0 ≤ o ∧ o < 64
  · have hv : nameB o = (formAt o.toNat).1 := by unfold nameB; rw [if_pos h]
    have hd : decide (0 ≤ o ∧ o < 64) = true := decide_eq_true h
    obtain ⟨i, rfl⟩ := Int.eq_ofNat_of_zero_le h.1
    have hi : i < 64 := by omega
    rw [Int.toNat_natCast] at hv
    have hix := run_index_forms i hi
    obtain ⟨l, p, f3, f7, hrow⟩ : ∃ (l p f3 f7 : Int), (rowCells (formAt i)).toArray = #[.string ⟨(formAt i).1.toArray⟩, .int .u8 l, .int .u32 p, .int .u32 f3, .int .u32 f7] := ⟨_, _, _, _, rfl⟩
    generalize nameB i = v at *
    generalize (formAt i).1 = nm at *
    subst hv
    rw [hrow] at hix
    have hfl := field_name ⟨v.toArray⟩ l p f3 f7
    clear hrow
    go_enter Try.func17, Try.ntmps17
    go_wp2_with (first
      | (go_at_call 29; refine (there_any _ _).mono ?_; rintro e w3 ⟨rfl, rfl⟩)
      | (go_at_call 22; refine (forms_any _).mono ?_; rintro e w3 ⟨rfl, hb3⟩))
    go_ret
    exact ⟨rfl, hb3⟩
  · have hv : nameB o = [] := by unfold nameB; rw [if_neg h]
    have hd : decide (0 ≤ o ∧ o < 64) = false := decide_eq_false h
    rw [hv]
    clear h hv
    go_enter Try.func17, Try.ntmps17
    go_wp2_with (first
      | (go_at_call 29; refine (there_any _ _).mono ?_; rintro e w3 ⟨rfl, rfl⟩; rw [hd]))
    go_ret
    exact ⟨rfl, Below.refl _ _⟩

/-- is it form number i's name? -/
def nameIs (s : ByteArray) (i : Nat) : Bool := (formAt i).1 == s.toList

set_option maxHeartbeats 1000000 in
set_option maxRecDepth 100000 in
theorem nameClosure_any (s : ByteArray) (i b : Nat) (w : World) (hi : i < 64) (hc : w.cell? ⟨b, 0, none⟩ = some (.string s)) :
    Calls Try.prog 32 #[.agg (rowCells (formAt i)).toArray, .pointer (some ⟨b, 0, none⟩)] w fun e w' => e = .returned (.bool (nameIs s i)) ∧ Below w.heap.size w w' := by
  have hv : nameIs s i = ((formAt i).1 == s.toList) := rfl
  have hbl : b < w.heap.size := World.block_lt_of_cell? w _ hc
  have ea := World.new_ne w ⟨b, 0, none⟩ hc
  generalize nameIs s i = v at *
  generalize formAt i = r at *
  obtain ⟨n, l, o, f3, f7⟩ := r
  simp only [rowCells] at hv ⊢
  have Hv := hid hv
  clear hv
  go_enter Try.func32, Try.ntmps32
  go_wp2
  go_ret
  exact ⟨by rw [Hv.out]; rfl, ((Below.refl _ _).alloc (Nat.le_refl _) _)⟩

/-- the kind of a name, or -1 -/
def namedI (s : ByteArray) : Int := firstOf (nameIs s)

set_option maxHeartbeats 1000000 in
set_option maxRecDepth 100000 in
theorem named_any (s : ByteArray) (w : World) :
    Calls Try.prog 16 #[.string s] w fun e w' => e = .returned (.tuple #[.int .i64 (if namedI s < 0 then 0 else namedI s), .bool (decide (0 ≤ namedI s))]) ∧ Below w.heap.size w w' := by
  have hv : namedI s = firstOf (nameIs s) := rfl
  generalize namedI s = v at *
  have Hv := hid hv
  clear hv
  go_enter Try.func16, Try.ntmps16
  go_wp2_with fail
  refine (formsAll_any _).mono ?_
  rintro e w1 ⟨g, rfl, hg, hgs, hb⟩
  have Hg := hid hg
  have hs1 := hb.size
  simp at hgs hs1
  go_wp2_with fail
  have hF : ∀ (args : Array Value) (w' : World), (callFunc 32 args).run Try.prog w' = .ok (.enter 32 args) w' := fun args w' => by kernel_rfl
  refine (index_any 32 g w.heap.size (nameIs s) w1 Hg.out hF (fun i w' hi hb' => nameClosure_any s i _ w' hi ?_)).mono ?_
  · rw [hb'.cell (by show w.heap.size < _; omega), hb.cell (by simp)]
    simp
  rintro e w2 ⟨r, hr, rfl, hb2⟩
  have hr' := isFirst_eq _ _ hr
  have HB : Below w.heap.size w w2 := ((Below.refl _ _).alloc (Nat.le_refl _) _).trans ((hb.mono (by simp)).trans (hb2.mono (by omega)))
  clear hb hb2 hg Hg hF hs1 hgs
  obtain rfl : r = v := hr'.trans Hv.out.symm
  clear Hv hr'
  rcases hr with ⟨rfl, _⟩ | ⟨i, hi, rfl, _, _⟩
  · go_wp2
    go_ret2
    exact ⟨by simp, HB⟩
  · go_wp2
    go_ret2
    exact ⟨by simp, HB⟩
end
end Go.Proofs.Ytoljkjnehcbbaaa
