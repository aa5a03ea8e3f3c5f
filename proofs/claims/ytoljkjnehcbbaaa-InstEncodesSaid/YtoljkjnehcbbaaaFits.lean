/- Does a word fit a form: what 'fits' answers. -/
import Derived.Test.YtoljkjnehcbbaaaInstA
namespace Go.Proofs.Ytoljkjnehcbbaaa
open Go.RowKit
noncomputable section
set_option linter.unusedVariables false
set_option linter.unusedSimpArgs false

theorem quiet_add {P : Program} {f : FuncId} {args : Array Value} {w : World} {a n : Nat} {v : Value}
    (h : Calls P f args (w.drewN (a + n)) fun e w' => e = .returned v ∧ ∃ m, w' = (w.drewN (a + n)).drewN m) :
    Calls P f args (w.drewN (a + n)) fun e w'' => e = .returned v ∧ ∃ m, w'' = w.drewN (a + m) :=
  h.mono fun _ _ ⟨he, m, hm⟩ => ⟨he, n + m, by rw [hm, World.drewN_drewN, Nat.add_assoc]⟩
theorem below_drewN {B : Nat} {a w : World} (h : Below B a w) (n : Nat) : Below B a (w.drewN n) := ⟨h.os, h.tape, h.output, h.size, h.block⟩

/-- has a word a form's fixed numbers? -/
def fitsB (l o f3 f7 : Int) (x : Nat) : Bool :=
  if (fieldN x 0 7 : Int) ≠ o then false
  else if l = 85 ∨ l = 74 then true
  else if l = 78 then ((x : Int) == bits .or .u32 o (f7 * 1048576 % 4294967296))
  else if l = 82 ∨ l = 75 then ((fieldN x 12 3 : Int) == f3) && ((fieldN x 25 7 : Int) == f7)
  else if l = 72 then ((fieldN x 12 3 : Int) == f3) && ((fieldN x 26 6 : Int) == f7 / 2)
  else ((fieldN x 12 3 : Int) == f3)

set_option maxHeartbeats 1000000 in
set_option maxRecDepth 100000 in
theorem fits_any (s : ByteArray) (l o f3 f7 : Int) (x : Nat) (w : World) (hx : x < 4294967296) (h7 : 0 ≤ f7) (h7b : f7 < 4294967296) :
    Calls Try.prog 21 #[.agg #[.string s, .int .u8 l, .int .u32 o, .int .u32 f3, .int .u32 f7], .int .u32 x] w fun e w' => e = .returned (.bool (fitsB l o f3 f7 x)) ∧ Below w.heap.size w w' := by
  by_cases h0 : (fieldN x 0 7 : Int) = o
  case neg =>
    have b0 : ((fieldN x 0 7 : Int) != o) = true := bne_iff_ne.mpr h0
    have hv : fitsB l o f3 f7 x = false := by unfold fitsB; rw [if_pos h0]
    rw [hv]
    clear hv h0
    go_enter Try.func21, Try.ntmps21
    go_wp2
    go_quiet ((go_at_call 33; exact Calls.quiet_of (field_any x 0 7 _ hx (by omega) (by omega))))
    go_wp2
    go_ret
    exact ⟨rfl, below_drewN ((Below.refl _ _).alloc (Nat.le_refl _) _) _⟩
  case pos =>
    have b0 : ((fieldN x 0 7 : Int) != o) = false := bne_eq_false_iff_eq.mpr h0
    have H0 := hid h0
    by_cases h3 : (fieldN x 12 3 : Int) = f3
    case neg =>
      have b3 : ((fieldN x 12 3 : Int) == f3) = false := beq_eq_false_iff_ne.mpr h3
      have H3 := hid h3
      clear h0 h3
      go_enter Try.func21, Try.ntmps21
      go_wp2
      go_quiet ((go_at_call 33; exact Calls.quiet_of (field_any x 0 7 _ hx (by omega) (by omega))))
      go_wp2
      all_goals try go_quiet ((go_at_call 33; exact quiet_add (field_any x 12 3 _ hx (by omega) (by omega))))
      all_goals go_wp2
      all_goals
        go_ret
        refine ⟨?_, by repeat (first | exact (Below.refl _ _).alloc (Nat.le_refl _) _ | refine below_drewN ?_ _)⟩
        have h0 := H0.out
        have h3 := H3.out
        simp_all [fitsB]
    case pos =>
      have b3 : ((fieldN x 12 3 : Int) == f3) = true := beq_iff_eq.mpr h3
      have H3 := hid h3
      clear h0 h3
      go_enter Try.func21, Try.ntmps21
      go_wp2
      go_quiet ((go_at_call 33; exact Calls.quiet_of (field_any x 0 7 _ hx (by omega) (by omega))))
      go_wp2
      all_goals try go_quiet (first
        | (go_at_call_of 33 (Value.int IntKind.i64 12); exact quiet_add (field_any x 12 3 _ hx (by omega) (by omega)))
        | (go_at_call_of 33 (Value.int IntKind.i64 25); exact quiet_add (field_any x 25 7 _ hx (by omega) (by omega)))
        | (go_at_call_of 33 (Value.int IntKind.i64 26); exact quiet_add (field_any x 26 6 _ hx (by omega) (by omega))))
      all_goals go_wp2
      all_goals
        go_ret
        refine ⟨?_, by repeat (first | exact (Below.refl _ _).alloc (Nat.le_refl _) _ | refine below_drewN ?_ _)⟩
        have h0 := H0.out
        have h3 := H3.out
        simp_all [fitsB]
      all_goals trace_state
end
end Go.Proofs.Ytoljkjnehcbbaaa
