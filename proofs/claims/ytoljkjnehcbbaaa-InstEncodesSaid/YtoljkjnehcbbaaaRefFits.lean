/- The document's Fits, on the rows of the table. -/
import Derived.Test.YtoljkjnehcbbaaaRefBits
import Derived.Test.YtoljkjnehcbbaaaEncAll
namespace Go.Proofs.Ytoljkjnehcbbaaa
open Go.RowKit
noncomputable section
set_option linter.unusedVariables false
set_option linter.unusedSimpArgs false

/-- the table's letters -/
def isLetter (l : Int) : Prop := l = 85 ∨ l = 74 ∨ l = 73 ∨ l = 66 ∨ l = 83 ∨ l = 72 ∨ l = 75 ∨ l = 82 ∨ l = 78

theorem field_26 (x : Nat) : fieldN x 25 7 / 2 = fieldN x 26 6 := by
  unfold fieldN
  omega

set_option maxHeartbeats 8000000 in
set_option maxRecDepth 100000 in
theorem refFits_any (nm : List UInt8) (l : Int) (o f3 f7 x : Nat) (w : World) (hx : x < 4294967296) (ho : o < 128) (h3 : f3 < 8) (h7 : f7 < 128) (hl : isLetter l) :
    Calls Try.prog 26 #[.agg #[.string ⟨nm.toArray⟩, .string ⟨#[letterB l]⟩, .int .u32 o, .int .u32 f3, .int .u32 f7], .int .u32 x] w
      fun e w' => e = .returned (.bool (fitsB l o f3 f7 x)) ∧ Below w.heap.size w w' := by
  generalize (⟨nm.toArray⟩ : ByteArray) = s
  by_cases h0 : (fieldN x 0 7 : Int) = o
  case neg =>
    have b0 : ((fieldN x 0 7 : Int) != o) = true := bne_iff_ne.mpr h0
    have hv : fitsB l o f3 f7 x = false := by unfold fitsB; rw [if_pos h0]
    rw [hv]
    clear hv h0 hl
    go_enter Try.func26, Try.ntmps26
    go_wp2_with (first
      | (go_at_call_of 28 (Value.int IntKind.i64 12); refine (refBits_any x 12 3 _ hx (by omega) (by omega)).mono ?_; rintro e w1 ⟨rfl, m1, rfl⟩)
      | (go_at_call_of 28 (Value.int IntKind.i64 25); refine (refBits_any x 25 7 _ hx (by omega) (by omega)).mono ?_; rintro e w1 ⟨rfl, m2, rfl⟩))
    go_quiet ((go_at_call 28; exact quiet_add (refBits_any x 0 7 _ hx (by omega) (by omega))))
    go_wp2
    go_ret
    refine ⟨rfl, by repeat (first | exact (Below.refl _ _).alloc (Nat.le_refl _) _ | refine below_drewN ?_ _)⟩
  case pos =>
    have b0 : ((fieldN x 0 7 : Int) != o) = false := bne_eq_false_iff_eq.mpr h0
    have H0 := hid h0
    have H26 := hid (show ((fieldN x 25 7 : Nat) : Int) / 2 = (fieldN x 26 6 : Nat) from by rw [← field_26]; omega)
    have HN := hid (show bits .or .u32 (o : Int) ((f7 : Int) * 1048576 % 4294967296) = o + 1048576 * f7 from by
      rw [show ((f7 : Int) * 1048576 % 4294967296) = ((f7 * 1048576 : Nat) : Int) by omega, or32 _ _ (by omega) (by omega), or_lo 20 _ _ (by omega) (by omega)]; omega)
    have hfl3 : fieldN x 12 3 < 8 := by unfold fieldN; omega
    have hfl7 : fieldN x 25 7 < 128 := by unfold fieldN; omega
    by_cases hq : (fieldN x 12 3 : Int) = f3
    case neg =>
      have b3 : ((fieldN x 12 3 : Int) == f3) = false := beq_eq_false_iff_ne.mpr hq
      have H3 := hid hq
      clear h0 hq
      rcases hl with rfl | rfl | rfl | rfl | rfl | rfl | rfl | rfl | rfl
      all_goals
        simp only [letterB, show (Int.toNat 85) = 85 from rfl]
        go_enter Try.func26, Try.ntmps26
        go_wp2_with (first
          | (go_at_call_of 28 (Value.int IntKind.i64 12); refine (refBits_any x 12 3 _ hx (by omega) (by omega)).mono ?_; rintro e w1 ⟨rfl, m1, rfl⟩)
          | (go_at_call_of 28 (Value.int IntKind.i64 25); refine (refBits_any x 25 7 _ hx (by omega) (by omega)).mono ?_; rintro e w1 ⟨rfl, m2, rfl⟩))
        go_quiet ((go_at_call 28; exact quiet_add (refBits_any x 0 7 _ hx (by omega) (by omega))))
        go_wp2
        go_ret
        refine ⟨?_, by repeat (first | exact (Below.refl _ _).alloc (Nat.le_refl _) _ | refine below_drewN ?_ _)⟩
        have h0 := H0.out
        have h3 := H3.out
        have hN := HN.out
        have h26 := H26.out
        clear H0 H3 HN H26 hfl3 hfl7
        simp_all [fitsB]
    case pos =>
      have b3 : ((fieldN x 12 3 : Int) == f3) = true := beq_iff_eq.mpr hq
      have H3 := hid hq
      clear h0 hq
      rcases hl with rfl | rfl | rfl | rfl | rfl | rfl | rfl | rfl | rfl
      all_goals
        simp only [letterB, show (Int.toNat 85) = 85 from rfl]
        go_enter Try.func26, Try.ntmps26
        go_wp2_with (first
          | (go_at_call_of 28 (Value.int IntKind.i64 12); refine (refBits_any x 12 3 _ hx (by omega) (by omega)).mono ?_; rintro e w1 ⟨rfl, m1, rfl⟩)
          | (go_at_call_of 28 (Value.int IntKind.i64 25); refine (refBits_any x 25 7 _ hx (by omega) (by omega)).mono ?_; rintro e w1 ⟨rfl, m2, rfl⟩))
        go_quiet ((go_at_call 28; exact quiet_add (refBits_any x 0 7 _ hx (by omega) (by omega))))
        go_wp2
        go_ret
        refine ⟨?_, by repeat (first | exact (Below.refl _ _).alloc (Nat.le_refl _) _ | refine below_drewN ?_ _)⟩
        have h0 := H0.out
        have h3 := H3.out
        have hN := HN.out
        have h26 := H26.out
        clear H0 H3 HN H26 hfl3 hfl7
        simp_all [fitsB]
end
end Go.Proofs.Ytoljkjnehcbbaaa
