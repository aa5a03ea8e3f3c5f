/- 'speaks' of layer 6: the ordinary answer on addi. -/
import Derived.Test.YtoljkjnehcbbaaaEncode
namespace Go.Proofs.Ytoljkjnehcbbaaa
open Go.RowKit
noncomputable section
set_option linter.unusedVariables false
set_option linter.unusedSimpArgs false

theorem dec_addi : decN 5244179 = ((21, 10, 0, 0, 5), true) := by kernel_rfl
theorem enc_addi : encV 21 10 0 0 5 = (5244179, true) := by kernel_rfl

/-- Encode with the cells written out -/
theorem encode_at (o d a b n : Int) (x : Nat) (ok : Bool) (hE : encV o d a b n = (x, ok)) (w : World) :
    Calls Try.prog 12 #[.agg #[.int .i64 o, .int .i64 d, .int .i64 a, .int .i64 b, .int .i64 n]] w fun e w' => e = .returned (.tuple #[.int .u32 x, .bool ok]) ∧ Below w.heap.size w w' := by
  have := encode_any o d a b n w
  rw [hE] at this
  exact this

set_option maxHeartbeats 4000000 in
set_option maxRecDepth 100000 in
theorem speaks_any (w : World) :
    Calls Try.prog 8 #[] w fun e w' => e = .returned (.bool true) ∧ Below w.heap.size w w' := by
  go_enter Try.func8, Try.ntmps8
  go_wp2_with (first
    | (go_at_call 9; refine (decode_at 5244179 5244179 _ _ _ _ _ _ rfl (by omega) dec_addi _).mono ?_; rintro e w1 ⟨rfl, hb1⟩)
    | (go_at_call 12; refine (encode_at _ _ _ _ _ _ _ enc_addi _).mono ?_; rintro e w2 ⟨rfl, hb2⟩; obtain ⟨hc2, hf2⟩ := bcell hb2))
  go_ret
  exact ⟨rfl, (hb1.alloc hb1.size _).trans (hb2.mono (by have := hb1.size; simp; omega))⟩
end
end Go.Proofs.Ytoljkjnehcbbaaa
