/- The document's Bits and signed. -/
import Derived.Test.YtoljkjnehcbbaaaKinds
namespace Go.Proofs.Ytoljkjnehcbbaaa
open Go.RowKit
noncomputable section
set_option linter.unusedVariables false
set_option linter.unusedSimpArgs false

theorem pow_le30 (k n p : Nat) (h : p = 2 ^ k) (hk : k < n) (hn : n ≤ 31) : p ≤ 1073741824 := by
  rw [h]; exact Nat.pow_le_pow_right (n := 2) (j := 30) (by omega) (by omega)

set_option maxHeartbeats 4000000 in
set_option maxRecDepth 100000 in
theorem refBits_id (x f n : Nat) (w : World) (hx : x < 4294967296) (hf : f ≤ 31) (hn : n ≤ 31) :
    Calls Try.prog 28 #[.int .u32 x, .int .i64 f, .int .i64 n] w fun e w' => e = .returned (.int .u32 (fieldN x f n)) ∧ w' = w := by
  go_enter Try.func28, Try.ntmps28
  go_wp2
  go_loopw [7, 8] (fun v i wr => ∃ k p : Nat, k ≤ n ∧ Hid (p = 2 ^ k) ∧ v = .int .u32 p ∧ i = .int .i64 k ∧ wr = w) (fun v i _ => n - (intOf i).toNat)
  case atStart => exact ⟨0, 1, by omega, hid rfl, rfl, rfl, rfl⟩
  case round =>
    obtain ⟨k, p, hk, Hp, rfl, rfl, rfl⟩ := hrel
    by_cases hlt : k < n
    · have hp30 := pow_le30 k n p Hp.out hlt hn
      go_wp2
      go_roundw
      case rel => exact ⟨k + 1, p * 2, by omega, hid (by rw [Hp.out, Nat.pow_succ]), by first | rfl | (congr 1; omega), by go_num, trivial⟩
      case measure => simp [intOf]; omega
    · obtain rfl : k = n := by omega
      have hp0 : 0 < p := by rw [Hp.out]; exact Nat.two_pow_pos k
      have hp31 : p ≤ 2147483648 := by rw [Hp.out]; exact Nat.pow_le_pow_right (n := 2) (j := 31) (by omega) (by omega)
      go_wp2
      go_loopw [0, 9] (fun v i w2 => ∃ j q : Nat, j ≤ f ∧ q < 4294967296 ∧ Hid (q = x / 2 ^ j) ∧ v = .int .u32 q ∧ i = .int .i64 j ∧ w2 = wr) (fun v i _ => f - (intOf i).toNat)
      case atStart => exact ⟨0, x, by omega, hx, hid (by simp), rfl, rfl, rfl⟩
      case round =>
        obtain ⟨j, q, hj, hq, Hq, rfl, rfl, rfl⟩ := hrel
        by_cases hlt2 : j < f
        · go_wp2
          go_roundw
          case rel => exact ⟨j + 1, q / 2, by omega, by omega, hid (by rw [Hq.out, Nat.div_div_eq_div_mul, Nat.pow_succ]), by first | rfl | (congr 1; done) | (congr 1; omega) | (congr 1; rw [Int.tdiv_eq_ediv_of_nonneg (by omega)]; omega), by go_num, trivial⟩
          case measure => simp [intOf]; omega
        · obtain rfl : j = f := by omega
          have hpb : ((p : Int) == 0) = false := by rw [beq_eq_false_iff_ne]; omega
          have Hr := hid (show ((q : Int).tmod (p : Int)) = (fieldN x j k : Nat) from by
            unfold fieldN; rw [← Hq.out, ← Hp.out, Int.tmod_eq_emod_of_nonneg (by omega)]; exact (Int.natCast_emod _ _).symm)
          go_wp2
          go_ret
          exact ⟨ret_int Hr.out, rfl⟩

theorem refBits_any (x f n : Nat) (w : World) (hx : x < 4294967296) (hf : f ≤ 31) (hn : n ≤ 31) :
    Calls Try.prog 28 #[.int .u32 x, .int .i64 f, .int .i64 n] w fun e w' => e = .returned (.int .u32 (fieldN x f n)) ∧ ∃ m, w' = w.drewN m :=
  (refBits_id x f n w hx hf hn).mono fun _ _ h => ⟨h.1, 0, h.2⟩

/-- a number of so many bits, as a signed one -/
def signedI (n b : Nat) : Int := if 2 ^ b / 2 ≤ n then (n : Int) - (2 ^ b : Nat) else n

set_option maxHeartbeats 4000000 in
set_option maxRecDepth 100000 in
theorem refSigned_any (n b : Nat) (w : World) (hn : n < 4294967296) (hb : b ≤ 31) :
    Calls Try.prog 36 #[.int .u32 n, .int .i64 b] w fun e w' => e = .returned (.int .i64 (signedI n b)) ∧ ∃ m, w' = w.drewN m := by
  go_enter Try.func36, Try.ntmps36
  go_wp2
  go_loopw [5, 6] (fun v i wr => ∃ k p : Nat, k ≤ b ∧ Hid (p = 2 ^ k) ∧ v = .int .i64 p ∧ i = .int .i64 k ∧ wr = w) (fun v i _ => b - (intOf i).toNat)
  case atStart => exact ⟨0, 1, by omega, hid rfl, rfl, rfl, rfl⟩
  case round =>
    obtain ⟨k, p, hk, Hp, rfl, rfl, rfl⟩ := hrel
    by_cases hlt : k < b
    · have hp30 := pow_le30 k b p Hp.out hlt hb
      go_wp2
      go_roundw
      case rel => exact ⟨k + 1, p * 2, by omega, hid (by rw [Hp.out, Nat.pow_succ]), by first | rfl | (congr 1; omega) | (congr 1; unfold wrap64; omega), by go_num, trivial⟩
      case measure => simp [intOf]; omega
    · obtain rfl : k = b := by omega
      have hp31 : p ≤ 2147483648 := by rw [Hp.out]; exact Nat.pow_le_pow_right (n := 2) (j := 31) (by omega) (by omega)
      by_cases hs : p / 2 ≤ n
      · have Hv := hid (show ((n : Int) - p) = signedI n k by unfold signedI; rw [← Hp.out, if_pos hs])
        go_wp2
        go_ret
        exact ⟨ret_int Hv.out, 0, rfl⟩
      · have Hv := hid (show (n : Int) = signedI n k by unfold signedI; rw [← Hp.out, if_neg hs])
        go_wp2
        go_ret
        exact ⟨ret_int Hv.out, 0, rfl⟩
end
end Go.Proofs.Ytoljkjnehcbbaaa
