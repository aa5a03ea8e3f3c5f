/- Package inst's small functions: field, register, placed, has, there, and le.Extend. -/
import Derived.Test.YtoljkjnehcbbaaaForms
import Derived.Test.YtoljkjnehcbbaaaQtail
import Derived.Laws.BitsLemmas
namespace Go.Proofs.Ytoljkjnehcbbaaa
open Go.RowKit
noncomputable section
set_option linter.unusedVariables false
set_option linter.unusedSimpArgs false

theorem ret_int {k : IntKind} {a b : Int} (h : a = b) : Ending.returned (.int k a) = .returned (.int k b) := by rw [h]

theorem wraps_u32 (n : Int) (h₀ : 0 ≤ n) (h₁ : n < 2 ^ 32) : IntKind.u32.wrap n = n := by rw [IntKind.wrap_u32]; omega

theorem mask32 (x n : Nat) (hx : x < 4294967296) (hn : n < 32) : bits BinOp.and IntKind.u32 (x : Int) (((2 ^ n - 1 : Int)) % 4294967296) = ((x % 2 ^ n : Nat) : Int) := by
  have hp : (2 : Nat) ^ n < 4294967296 := Nat.lt_of_lt_of_le (Nat.pow_lt_pow_right (by omega) hn) (by decide)
  have hp0 : 0 < 2 ^ n := Nat.two_pow_pos n
  have hc : ((2 : Int) ^ n) = ((2 ^ n : Nat) : Int) := by simp
  have e : (((2 ^ n - 1 : Int)) % 4294967296) = 2 ^ n - 1 := by rw [hc]; omega
  rw [e, bits_mask .u32 32 (by decide) wraps_u32 n (by omega) x (by omega) (by omega)]
  simp

/-- a field of a word -/
def fieldN (x f n : Nat) : Nat := x / 2 ^ f % 2 ^ n
theorem fieldN_lt (x f n : Nat) (hn : n < 32) : fieldN x f n < 2147483649 := by
  have h1 : x / 2 ^ f % 2 ^ n < 2 ^ n := Nat.mod_lt _ (Nat.two_pow_pos n)
  have h2 : (2 : Nat) ^ n ≤ 2 ^ 31 := Nat.pow_le_pow_right (by omega) (by omega)
  unfold fieldN; omega

set_option maxHeartbeats 1000000 in
set_option maxRecDepth 100000 in
theorem field_any (x f n : Nat) (w : World) (hx : x < 4294967296) (hf : f < 32) (hn : n < 32) :
    Calls Try.prog 33 #[.int .u32 x, .int .i64 f, .int .i64 n] w fun e w' => e = .returned (.int .u32 (fieldN x f n)) ∧ ∃ m, w' = w.drewN m := by
  go_enter Try.func33, Try.ntmps33
  go_wp2
  go_quiet (fail)
  go_wp2
  go_ret
  refine ⟨ret_int ?_, _, rfl⟩
  have hd : x / 2 ^ f < 4294967296 := Nat.lt_of_le_of_lt (Nat.div_le_self _ _) hx
  have := mask32 (x / 2 ^ f) n hd hn
  simpa [fieldN] using this

/-- a number's sign from bit b-1 on, in 64 bits -/
def extN (x b : Nat) : Nat := if x % 2 ^ b < 2 ^ (b - 1) then x % 2 ^ b else x % 2 ^ b + (18446744073709551616 - 2 ^ b)

theorem ext_math (x b : Nat) (hb : 1 ≤ b) (hb2 : b ≤ 63) :
    IntKind.u64.wrap (wrap64 (IntKind.u64.wrap ((x : Int) * 2 ^ (64 - b))) / 2 ^ (64 - b)) = extN x b := by
  have hw : ∀ n : Int, IntKind.u64.wrap n = n % 18446744073709551616 := fun n => by simp [IntKind.wrap, IntKind.bits, IntKind.signed]
  have hc : (2 : Nat) ^ b * 2 ^ (64 - b) = 18446744073709551616 := by rw [← Nat.pow_add, show b + (64 - b) = 64 by omega]
  have hc1 : (2 : Nat) ^ (b - 1) * 2 = 2 ^ b := by
    obtain ⟨d, rfl⟩ : ∃ d, b = d + 1 := ⟨b - 1, by omega⟩
    simp [Nat.pow_succ]
  have hm : x % 2 ^ b < 2 ^ b := Nat.mod_lt _ (Nat.two_pow_pos b)
  have hmul : x * 2 ^ (64 - b) % 18446744073709551616 = x % 2 ^ b * 2 ^ (64 - b) := by
    rw [← hc, Nat.mul_mod_mul_right]
  have hcast : ((x : Int) * 2 ^ (64 - b)) = ((x * 2 ^ (64 - b) : Nat) : Int) := by simp
  have hcp : ((2 : Int) ^ (64 - b)) = ((2 ^ (64 - b) : Nat) : Int) := by simp
  rw [hw, hw, hcast, show ((x * 2 ^ (64 - b) : Nat) : Int) % 18446744073709551616 = ((x * 2 ^ (64 - b) % 18446744073709551616 : Nat) : Int) by simp, hmul, hcp]
  unfold extN wrap64
  have hcpos : 0 < 2 ^ (64 - b) := Nat.two_pow_pos _
  generalize hM : x % 2 ^ b = m at *
  generalize hC : 2 ^ (64 - b) = c at *
  generalize hB : 2 ^ b = B at *
  generalize hB1 : 2 ^ (b - 1) = B1 at *
  have hB1c : B1 * c * 2 = 18446744073709551616 := by rw [Nat.mul_right_comm, hc1, hc]
  by_cases h : m < B1
  · rw [if_pos h]
    have hlt : m * c < B1 * c := Nat.mul_lt_mul_of_pos_right h hcpos
    have e : (((m * c : Nat) : Int) + 9223372036854775808) % 18446744073709551616 - 9223372036854775808 = ((m * c : Nat) : Int) := by omega
    first | rw [e] | (simp only [e])
    have : ((m * c : Nat) : Int) / (c : Int) = (m : Int) := by
      rw [Int.natCast_mul]; exact Int.mul_ediv_cancel _ (by omega)
    rw [this]
    have hmle : m * 1 ≤ m * c := Nat.mul_le_mul_left _ hcpos
    omega
  · rw [if_neg h]
    have hle : B1 * c ≤ m * c := Nat.mul_le_mul_right c (Nat.le_of_not_lt h)
    have hlt : m * c < B * c := Nat.mul_lt_mul_of_pos_right hm hcpos
    have e : (((m * c : Nat) : Int) + 9223372036854775808) % 18446744073709551616 - 9223372036854775808 = ((m * c : Nat) : Int) - 18446744073709551616 := by omega
    first | rw [e] | (simp only [e])
    have : (((m * c : Nat) : Int) - 18446744073709551616) / (c : Int) = (m : Int) - B := by
      have e2 : (((m * c : Nat) : Int) - 18446744073709551616) = ((m : Int) - B) * c := by
        rw [Int.sub_mul, ← Int.natCast_mul, ← Int.natCast_mul, hc]; rfl
      rw [e2]; exact Int.mul_ediv_cancel _ (by omega)
    rw [this]
    have hble : B * 1 ≤ B * c := Nat.mul_le_mul_left _ hcpos
    omega

set_option maxHeartbeats 1000000 in
set_option maxRecDepth 100000 in
theorem ext_any (x b : Nat) (w : World) (hx : x < 18446744073709551616) (hb : 1 ≤ b) (hb2 : b ≤ 63) :
    Calls Try.prog 35 #[.int .u64 x, .int .i64 b] w fun e w' => e = .returned (.int .u64 (extN x b)) ∧ ∃ m, w' = w.drewN m := by
  go_enter Try.func35, Try.ntmps35
  go_wp2
  go_ret
  exact ⟨ret_int (ext_math x b hb hb2), 0, rfl⟩

set_option maxHeartbeats 1000000 in
set_option maxRecDepth 100000 in
theorem ext_zero (x : Nat) (w : World) (hx : x < 18446744073709551616) :
    Calls Try.prog 35 #[.int .u64 x, .int .i64 0] w fun e w' => e = .returned (.int .u64 x) ∧ ∃ m, w' = w.drewN m := by
  go_enter Try.func35, Try.ntmps35
  go_wp2
  go_ret
  exact ⟨rfl, 0, rfl⟩

theorem and31 (x : Int) : bits BinOp.and IntKind.i64 x 31 = x % 32 := by
  have h : (BitVec.ofInt 64 x &&& BitVec.ofInt 64 31).toNat = (x % 32).toNat := by
    rw [BitVec.toNat_and, show (BitVec.ofInt 64 31).toNat = 2 ^ 5 - 1 from by decide, Nat.and_two_pow_sub_one_eq_mod, BitVec.toNat_ofInt]
    omega
  show IntKind.i64.wrap ((BitVec.ofInt 64 x &&& BitVec.ofInt 64 31).toNat : Int) = x % 32
  rw [h, IntKind.wrap_i64]
  omega

/-- a register in a word -/
def placedN (x : Int) (f : Nat) : Nat := (x % 32).toNat * 2 ^ f

set_option maxHeartbeats 1000000 in
set_option maxRecDepth 100000 in
theorem placed_any (x : Int) (f : Nat) (w : World) (hf : f < 26) :
    Calls Try.prog 31 #[.int .i64 x, .int .i64 f] w fun e w' => e = .returned (.int .u32 (placedN x f)) ∧ ∃ m, w' = w.drewN m := by
  go_enter Try.func31, Try.ntmps31
  go_wp2
  go_ret
  refine ⟨ret_int ?_, 0, rfl⟩
  rw [and31]
  unfold placedN
  have hp : (2 : Nat) ^ f ≤ 2 ^ 25 := Nat.pow_le_pow_right (by omega) (by omega)
  obtain ⟨k, hk⟩ : ∃ k : Nat, x % 32 = k := ⟨(x % 32).toNat, by omega⟩
  rw [hk]
  have hk32 : k < 32 := by omega
  have hm : k * 2 ^ f ≤ 31 * 2 ^ 25 := Nat.mul_le_mul (by omega) hp
  rw [show ((k : Int) % 4294967296) = k by omega, show ((k : Int) * 2 ^ f) = ((k * 2 ^ f : Nat) : Int) by simp]
  simp only [Int.toNat_natCast]
  omega

/-- a register of a word, where the form has it -/
def registerN (x f : Nat) (is : Bool) : Nat := if is then fieldN x f 5 else 0

set_option maxHeartbeats 1000000 in
set_option maxRecDepth 100000 in
theorem register_any (x f : Nat) (is : Bool) (w : World) (hx : x < 4294967296) (hf : f < 32) :
    Calls Try.prog 24 #[.int .u32 x, .int .i64 f, .bool is] w fun e w' => e = .returned (.int .i64 (registerN x f is)) ∧ ∃ m, w' = w.drewN m := by
  have hl := fieldN_lt x f 5 (by omega)
  cases is
  · go_enter Try.func24, Try.ntmps24
    go_wp2
    go_ret
    exact ⟨rfl, 0, rfl⟩
  · go_enter Try.func24, Try.ntmps24
    go_wp2_with (first | (go_at_call 33; refine (field_any x f 5 _ hx hf (by omega)).mono ?_; rintro e w1 ⟨rfl, m, rfl⟩))
    go_ret
    exact ⟨rfl, m, rfl⟩

/-- which of rd, rs1, rs2 a form has -/
def hasB (c : Int) : Bool × Bool × Bool :=
  if c = 85 ∨ c = 74 then (true, false, false) else if c = 73 ∨ c = 72 ∨ c = 75 then (true, true, false)
  else if c = 66 ∨ c = 83 then (false, true, true) else if c = 82 then (true, true, true) else (false, false, false)

set_option maxHeartbeats 2000000 in
set_option maxRecDepth 100000 in
theorem has_any (c : Int) (w : World) :
    Calls Try.prog 23 #[.int .u8 c] w fun e w' => e = .returned (.tuple #[.bool (hasB c).1, .bool (hasB c).2.1, .bool (hasB c).2.2]) ∧ w' = w := by
  go_enter Try.func23, Try.ntmps23
  go_wp2
  all_goals (go_ret3; refine ⟨?_, rfl⟩; simp_all [hasB])

set_option maxHeartbeats 1000000 in
set_option maxRecDepth 100000 in
theorem there_any (a : Int) (w : World) :
    Calls Try.prog 29 #[.int .i64 a] w fun e w' => e = .returned (.bool (decide (0 ≤ a ∧ a < 64))) ∧ w' = w := by
  by_cases h0 : 0 ≤ a
  · go_enter Try.func29, Try.ntmps29
    go_wp2
    go_ret
    exact ⟨by simp [h0], rfl⟩
  · have h1 : a < 0 := by omega
    clear h0
    go_enter Try.func29, Try.ntmps29
    go_wp2
    go_ret
    exact ⟨by simp; omega, rfl⟩
end
end Go.Proofs.Ytoljkjnehcbbaaa
