/- The reference's way of the operations on two numbers is the program's: numbers as bits, products by halves, quotients by signs. No program stands here. -/
import Derived.Test.YtiemingpbommeaaGreatDoorGe
import Derived.Test.YtiemingpbommeaaGreatDoorGq
import Derived.BigQuiet
namespace Go.Proofs.YtiemingpbommeaaGreatDoor
open Go.RowKit
noncomputable section
set_option linter.unusedVariables false
set_option linter.unusedSimpArgs false
/-- the number of bits, the lowest first -/
def valL : List Nat → Nat
  | [] => 0
  | b :: l => b + 2 * valL l
theorem valL_append (l : List Nat) (b : Nat) : valL (l ++ [b]) = valL l + b * 2 ^ l.length := by
  induction l with
  | nil => simp [valL]
  | cons c l ih => simp only [List.cons_append, valL, ih, List.length_cons, Nat.pow_succ, Nat.mul_add]; rw [Nat.add_assoc]; congr 2; rw [Nat.mul_left_comm, Nat.mul_comm 2]
theorem valL_bits (m k : Nat) : valL ((List.range k).map fun i => m / 2 ^ i % 2) = m % 2 ^ k := by
  induction k with
  | zero => simp [valL, Nat.mod_one]
  | succ k ih =>
    rw [List.range_succ, List.map_append, List.map_singleton, valL_append, ih]
    simp only [List.length_map, List.length_range]
    rw [Nat.mod_pow_succ, Nat.mul_comm]
/-- a list of 64 bits that are those of m -/
theorem valL_of (m : Nat) (f : Nat → Nat) (hm : m < 2 ^ 64) (h : ∀ i, i < 64 → f i = (m.testBit i).toNat) : valL ((List.range 64).map f) = m := by
  have : (List.range 64).map f = (List.range 64).map fun i => m / 2 ^ i % 2 := by
    apply List.map_congr_left
    intro i hi
    rw [h i (List.mem_range.1 hi), Nat.toNat_testBit]
  rw [this, valL_bits, Nat.mod_eq_of_lt hm]
theorem bit_eq (a i : Nat) : a / 2 ^ i % 2 = (a.testBit i).toNat := (Nat.toNat_testBit a i).symm
theorem testBit_div (a s i : Nat) : (a / 2 ^ s).testBit i = a.testBit (i + s) := by
  rw [← Nat.shiftRight_eq_div_pow, Nat.testBit_shiftRight, Nat.add_comm]
theorem shl_bits (a s : Nat) (ha : a < 2 ^ 64) (hs : s < 64) :
    valL ((List.range 64).map fun i => if s ≤ i then a / 2 ^ (i - s) % 2 else 0) = a * 2 ^ s % 2 ^ 64 := by
  refine valL_of _ _ (Nat.mod_lt _ (by decide)) fun i hi => ?_
  rw [Nat.testBit_mod_two_pow, ← Nat.shiftLeft_eq, Nat.testBit_shiftLeft]
  by_cases h : s ≤ i
  · simp only [h, if_true, hi, decide_true, Bool.true_and]; exact bit_eq _ _
  · simp [h]
theorem shr_bits (a s : Nat) (ha : a < 2 ^ 64) (hs : s < 64) :
    valL ((List.range 64).map fun i => if i + s < 64 then a / 2 ^ (i + s) % 2 else 0) = a / 2 ^ s := by
  refine valL_of _ _ (Nat.lt_of_le_of_lt (Nat.div_le_self _ _) ha) fun i hi => ?_
  rw [testBit_div]
  by_cases h : i + s < 64
  · rw [if_pos h]; exact bit_eq _ _
  · rw [if_neg h, Nat.testBit_lt_two_pow (Nat.lt_of_lt_of_le ha (Nat.pow_le_pow_right (by decide) (by omega)))]; rfl
/-- down, with ones above -/
theorem sar_bits (a s : Nat) (ha : a < 2 ^ 64) (hs : s < 64) :
    valL ((List.range 64).map fun i => if i + s < 64 then a / 2 ^ (i + s) % 2 else 1) = a / 2 ^ s + (2 ^ 64 - 2 ^ (64 - s)) := by
  have hlt : a / 2 ^ s < 2 ^ (64 - s) := by
    rw [Nat.div_lt_iff_lt_mul (Nat.two_pow_pos s), ← Nat.pow_add, show 64 - s + s = 64 by omega]; exact ha
  have e : a / 2 ^ s + (2 ^ 64 - 2 ^ (64 - s)) = 2 ^ (64 - s) * (2 ^ s - 1) + a / 2 ^ s := by
    rw [Nat.mul_sub, ← Nat.pow_add, show 64 - s + s = 64 by omega, Nat.mul_one, Nat.add_comm]
  have hle : 2 ^ (64 - s) ≤ 2 ^ 64 := Nat.pow_le_pow_right (by decide) (by omega)
  refine valL_of _ _ (by omega) fun i hi => ?_
  rw [e, Nat.testBit_two_pow_mul_add _ hlt]
  by_cases h : i + s < 64
  · rw [if_pos h, if_pos (by omega), testBit_div]; exact bit_eq _ _
  · rw [if_neg h, if_neg (by omega), Nat.testBit_two_pow_sub_one]
    have : i - (64 - s) < s := by omega
    simp [this]
theorem both_bits (a b : Nat) (ha : a < 2 ^ 64) (hb : b < 2 ^ 64) :
    valL ((List.range 64).map fun i => if a / 2 ^ i % 2 + b / 2 ^ i % 2 = 1 then 1 else 0) = a ^^^ b ∧
    valL ((List.range 64).map fun i => if 0 < a / 2 ^ i % 2 + b / 2 ^ i % 2 then 1 else 0) = a ||| b ∧
    valL ((List.range 64).map fun i => if a / 2 ^ i % 2 + b / 2 ^ i % 2 = 2 then 1 else 0) = a &&& b := by
  refine ⟨valL_of _ _ (Nat.xor_lt_two_pow ha hb) fun i hi => ?_, valL_of _ _ (Nat.or_lt_two_pow ha hb) fun i hi => ?_, valL_of _ _ (Nat.lt_of_le_of_lt Nat.and_le_left ha) fun i hi => ?_⟩
  · rw [Nat.testBit_xor, bit_eq, bit_eq]; cases a.testBit i <;> cases b.testBit i <;> rfl
  · rw [Nat.testBit_or, bit_eq, bit_eq]; cases a.testBit i <;> cases b.testBit i <;> rfl
  · rw [Nat.testBit_and, bit_eq, bit_eq]; cases a.testBit i <;> cases b.testBit i <;> rfl
/-- is it below nought, signed? -/
def minusN (a : Nat) : Bool := decide (9223372036854775808 ≤ a)
def absN (a : Nat) : Nat := if minusN a then 18446744073709551616 - a else a
def negN (x : Nat) : Nat := (18446744073709551616 - x) % 18446744073709551616
theorem sgn_eq (a : Nat) (ha : a < 18446744073709551616) : sgn a = if minusN a then -(absN a : Int) else (absN a : Int) := by
  unfold sgn wrap64 absN minusN
  by_cases h : 9223372036854775808 ≤ a <;> simp only [h, decide_true, decide_false, if_true, if_false, Bool.false_eq_true] <;> omega
theorem absN_le (a : Nat) : absN a ≤ 18446744073709551616 ∧ (minusN a = true → absN a ≤ 9223372036854775808) ∧ (minusN a = false → absN a = a ∧ a < 9223372036854775808) := by
  unfold absN minusN
  by_cases h : 9223372036854775808 ≤ a <;> simp [h] <;> omega
theorem absN_zero (b : Nat) (hb : b < 18446744073709551616) (h : b ≠ 0) : absN b ≠ 0 := by
  unfold absN; split <;> omega
theorem u64N_nat (n : Nat) (h : n < 18446744073709551616) : u64N (n : Int) = n := by unfold u64N; omega
theorem u64N_neg (n : Nat) (h : n ≤ 18446744073709551616) : u64N (-(n : Int)) = negN n := by unfold u64N negN; omega
theorem quo_eq (a b : Nat) (ha : a < 18446744073709551616) (hb : b < 18446744073709551616) (h0 : b ≠ 0) :
    squoN a b = if minusN a != minusN b then negN (absN a / absN b) else absN a / absN b := by
  unfold squoN
  rw [if_neg h0, sgn_eq a ha, sgn_eq b hb]
  obtain ⟨la, ma, pa⟩ := absN_le a
  have hle := Nat.div_le_self (absN a) (absN b)
  have l1 : absN a / absN b ≤ 18446744073709551616 := by omega
  have l2 : absN a / absN b < 18446744073709551616 := by
    cases h : minusN a
    · have := pa h; omega
    · have := ma h; omega
  cases h1 : minusN a <;> cases h2 : minusN b <;> simp only [if_true, if_false, Bool.false_eq_true, bne_self_eq_false, Bool.true_bne, Bool.false_bne, Bool.not_false, Int.tdiv_neg, Int.neg_tdiv, Int.neg_neg, ← Int.ofNat_tdiv]
  · exact u64N_nat _ l2
  · exact u64N_neg _ l1
  · exact u64N_neg _ l1
  · exact u64N_nat _ l2
theorem rem_eq (a b : Nat) (ha : a < 18446744073709551616) (hb : b < 18446744073709551616) (h0 : b ≠ 0) :
    sremN a b = if minusN a then negN (absN a % absN b) else absN a % absN b := by
  unfold sremN
  rw [if_neg h0, sgn_eq a ha, sgn_eq b hb]
  obtain ⟨la, ma, pa⟩ := absN_le a
  have hle := Nat.mod_le (absN a) (absN b)
  have l1 : absN a % absN b ≤ 18446744073709551616 := by omega
  have l2 : absN a % absN b < 18446744073709551616 := by
    cases h : minusN a
    · have := pa h; omega
    · have := ma h; omega
  cases h1 : minusN a <;> cases h2 : minusN b <;> simp only [if_true, if_false, Bool.false_eq_true, Int.tmod_neg, Int.neg_tmod, ← Int.ofNat_tmod]
  · exact u64N_nat _ l2
  · exact u64N_nat _ l2
  · exact u64N_neg _ l1
  · exact u64N_neg _ l1
/-- the high half of a product by four small ones -/
def wideN (a b : Nat) : Nat :=
  let x := a % 4294967296 * (b % 4294967296); let y := a / 4294967296 * (b % 4294967296); let z := a % 4294967296 * (b / 4294967296); let w := a / 4294967296 * (b / 4294967296)
  w + y / 4294967296 + z / 4294967296 + (x / 4294967296 + y % 4294967296 + z % 4294967296) / 4294967296
theorem wideN_eq (a b : Nat) : wideN a b = a * b / 18446744073709551616 := by
  unfold wideN
  have e : a * b = a / 4294967296 * (b / 4294967296) * 18446744073709551616 + (a / 4294967296 * (b % 4294967296) + a % 4294967296 * (b / 4294967296)) * 4294967296 + a % 4294967296 * (b % 4294967296) := by
    have ea : a = a / 4294967296 * 4294967296 + a % 4294967296 := by omega
    have eb : b = b / 4294967296 * 4294967296 + b % 4294967296 := by omega
    generalize a / 4294967296 = ah at *
    generalize a % 4294967296 = al at *
    generalize b / 4294967296 = bh at *
    generalize b % 4294967296 = bl at *
    subst ea; subst eb
    simp only [Nat.add_mul, Nat.mul_add]
    have : ah * 4294967296 * (bh * 4294967296) = ah * bh * 18446744073709551616 := by
      rw [Nat.mul_mul_mul_comm]
    rw [this]
    have : ah * 4294967296 * bl = ah * bl * 4294967296 := Nat.mul_right_comm _ _ _
    rw [this]
    have : al * (bh * 4294967296) = al * bh * 4294967296 := (Nat.mul_assoc _ _ _).symm
    rw [this]
    omega
  rw [e]
  generalize a / 4294967296 * (b / 4294967296) = w
  generalize a / 4294967296 * (b % 4294967296) = y
  generalize a % 4294967296 * (b / 4294967296) = z
  generalize a % 4294967296 * (b % 4294967296) = x
  dsimp only
  omega
/-- the high half of a product of two numbers, the one signed or not, the other too -/
def highR (a b : Nat) (sa sb : Bool) : Nat :=
  let A := if sa then absN a else a; let B := if sb then absN b else b
  let neg := (sa && (minusN a != (sb && minusN b))) || (!sa && sb && minusN b)
  if neg then (if A * B % 18446744073709551616 = 0 then negN (A * B / 18446744073709551616) else 18446744073709551615 - A * B / 18446744073709551616) else A * B / 18446744073709551616
theorem sgn_neg (a : Nat) (ha : a < 18446744073709551616) : (sgn a < 0) = (minusN a = true) := by
  rw [sgn_eq a ha]
  unfold absN minusN
  by_cases h : 9223372036854775808 ≤ a
  · simp only [h, decide_true, if_true, eq_iff_iff, iff_true]; omega
  · simp only [h, decide_false, if_false, Bool.false_eq_true, eq_iff_iff, iff_false]; omega
theorem high_eq (a b : Nat) (sa sb : Bool) (ha : a < 18446744073709551616) (hb : b < 18446744073709551616) (h : sb = true → sa = true) : highR a b sa sb = highN a b sa sb := by
  unfold highR highN absN
  simp only [sgn_neg a ha, sgn_neg b hb]
  have m1 : minusN a = true → 9223372036854775808 ≤ a := by unfold minusN; simp
  have m2 : minusN b = true → 9223372036854775808 ≤ b := by unfold minusN; simp
  have p1 : (18446744073709551616 - a) * b = 18446744073709551616 * b - a * b := Nat.sub_mul _ _ _
  have p2 : a * (18446744073709551616 - b) = a * 18446744073709551616 - a * b := Nat.mul_sub _ _ _
  have p3 : (18446744073709551616 - a) * (18446744073709551616 - b) + 18446744073709551616 * b + 18446744073709551616 * a = 340282366920938463463374607431768211456 + a * b := by
    obtain ⟨x, hx⟩ : ∃ x, x + a = 18446744073709551616 := ⟨18446744073709551616 - a, by omega⟩
    obtain ⟨y, hy⟩ : ∃ y, y + b = 18446744073709551616 := ⟨18446744073709551616 - b, by omega⟩
    have h1 : 18446744073709551616 - a = x := by omega
    have h2 : 18446744073709551616 - b = y := by omega
    rw [h1, h2]
    have : (x + a) * (y + b) = 340282366920938463463374607431768211456 := by rw [hx, hy]
    have e1 : 18446744073709551616 * b = x * b + a * b := by rw [← hx, Nat.add_mul]
    have e2 : 18446744073709551616 * a = y * a + b * a := by rw [← hy, Nat.add_mul]
    rw [e1, e2, ← this]
    simp only [Nat.add_mul, Nat.mul_add]
    rw [Nat.mul_comm y a, Nat.mul_comm b a]
    omega
  have q1 : a * b ≤ 18446744073709551616 * b := Nat.mul_le_mul_right _ (by omega)
  have q2 : a * b ≤ a * 18446744073709551616 := Nat.mul_le_mul_left _ (by omega)
  have q3 : a * b / 18446744073709551616 < 18446744073709551616 := by rw [Nat.div_lt_iff_lt_mul (by decide)]; exact Nat.mul_lt_mul'' ha hb
  generalize minusN a = ma at *
  generalize minusN b = mb at *
  generalize hP : a * b = P at *
  generalize hQ : (18446744073709551616 - a) * (18446744073709551616 - b) = Q at *
  have tt : ∀ x : Int, (if true = true ∧ true = true then x else 0) = x := fun x => if_pos ⟨rfl, rfl⟩
  have tf : ∀ x : Int, (if true = true ∧ false = true then x else 0) = 0 := fun x => if_neg (by simp)
  have fa : ∀ (x : Int) (m : Bool), (if false = true ∧ m = true then x else 0) = 0 := fun x m => if_neg (by simp)
  have z : ∀ n : Nat, n < 18446744073709551616 → n = u64N ((n : Int) - 0 - 0) := fun n hn => by unfold u64N; omega
  cases sa <;> cases sb
  · show a * b / 18446744073709551616 = _
    rw [hP, fa, fa]; exact z _ q3
  · simp at h
  · cases ma
    · show a * b / 18446744073709551616 = _
      rw [hP, tf, fa]; exact z _ q3
    · have := m1 rfl
      show (if (18446744073709551616 - a) * b % 18446744073709551616 = 0 then negN ((18446744073709551616 - a) * b / 18446744073709551616) else 18446744073709551615 - (18446744073709551616 - a) * b / 18446744073709551616) = _
      rw [p1, tt, fa]
      unfold u64N negN
      split <;> omega
  · cases ma <;> cases mb
    · show a * b / 18446744073709551616 = _
      rw [hP, tf, tf]; exact z _ q3
    · have := m2 rfl
      show (if a * (18446744073709551616 - b) % 18446744073709551616 = 0 then negN (a * (18446744073709551616 - b) / 18446744073709551616) else 18446744073709551615 - a * (18446744073709551616 - b) / 18446744073709551616) = _
      rw [p2, tf, tt]
      unfold u64N negN
      split <;> omega
    · have := m1 rfl
      show (if (18446744073709551616 - a) * b % 18446744073709551616 = 0 then negN ((18446744073709551616 - a) * b / 18446744073709551616) else 18446744073709551615 - (18446744073709551616 - a) * b / 18446744073709551616) = _
      rw [p1, tt, tf]
      unfold u64N negN
      split <;> omega
    · have := m1 rfl
      have := m2 rfl
      show (18446744073709551616 - a) * (18446744073709551616 - b) / 18446744073709551616 = _
      rw [hQ, tt, tt]
      unfold u64N
      omega
theorem low_eq (a : Nat) : (if 2147483648 ≤ a % 4294967296 then a % 4294967296 + (18446744073709551616 - 4294967296) else a % 4294967296) = if a % 2 ^ 32 < 2 ^ (32 - 1) then a % 2 ^ 32 else a % 2 ^ 32 + (18446744073709551616 - 2 ^ 32) := by
  by_cases h : 2147483648 ≤ a % 4294967296
  · rw [if_pos h, if_neg (by omega)]
  · rw [if_neg h, if_pos (by omega)]
end
end Go.Proofs.YtiemingpbommeaaGreatDoor

/- The document's words: numbers as bits, shifts, bit by bit. -/
namespace Go.Proofs.YtiemingpbommeaaGreatDoor
open Go Go.RowKit
noncomputable section
set_option linter.unusedVariables false
set_option linter.unusedSimpArgs false
/-- what a frame shows behind a put: the rules of 'simp only [ps]' -/
theorem ps : (∀ (a : Act) (d : Tmp) (v : Value), a.put (some d) v = { a with tmps := a.tmps.setIfInBounds d v }) ∧ (∀ (a : Act) (v : Value), a.put none v = a) ∧ (∀ (α : Type) (l : List α) (i : Nat) (x : α), l.toArray.setIfInBounds i x = (l.set i x).toArray) ∧ (∀ (α : Type) (l : List α) (a x : α), (a :: l).set 0 x = x :: l) ∧ (∀ (α : Type) (l : List α) (a x : α) (i : Nat), (a :: l).set (i + 1) x = a :: l.set i x) ∧
    (∀ (α : Type) (l : List α) (i : Nat) (h : i < l.toArray.size), l.toArray[i] = l[i]'(by simpa using h)) ∧ (∀ (α : Type) (l : List α) (a : α) (h : 0 < (a :: l).length), (a :: l)[0] = a) ∧ (∀ (α : Type) (l : List α) (a : α) (i : Nat) (h : i + 1 < (a :: l).length), (a :: l)[i + 1] = l[i]'(by simpa using h)) :=
  ⟨fun _ _ _ => rfl, fun _ _ => rfl, fun _ _ _ _ => List.setIfInBounds_toArray .., fun _ _ _ _ => rfl, fun _ _ _ _ _ => rfl, fun _ _ _ _ => List.getElem_toArray .., fun _ _ _ _ => rfl, fun _ _ _ _ _ => rfl⟩
/-- the cells of 64 bits while they are filled: k are written -/
def bitV (f : Nat → Nat) (k : Nat) : Array Value := ((List.range 64).map fun i => if i < k then Value.int .i64 ((f i : Nat) : Int) else .int .i64 0).toArray
def z64 : Array Value := (List.replicate 64 (Value.int .i64 0)).toArray
theorem bitV_get (f : Nat → Nat) (k i : Nat) (h : i < 64) : (bitV f k)[i]? = some (if i < k then .int .i64 ((f i : Nat) : Int) else .int .i64 0) := by
  unfold bitV
  rw [List.getElem?_toArray, List.getElem?_map, List.getElem?_range h]
  rfl
theorem bitV_full (f : Nat → Nat) (i : Nat) (h : i < 64) : (bitV f 64)[i]? = some (.int .i64 ((f i : Nat) : Int)) := by rw [bitV_get f 64 i h, if_pos h]
theorem bitV_size (f : Nat → Nat) (k : Nat) : (bitV f k).size = 64 := by simp [bitV]
theorem bitV_step (f : Nat → Nat) (k : Nat) (h : k < 64) (z : Int) (hz : z = ((f k : Nat) : Int)) : (bitV f k).setIfInBounds k (.int .i64 z) = bitV f (k + 1) := by
  subst hz
  apply Array.ext'
  apply List.ext_getElem?
  intro j
  rw [Array.getElem?_toList, Array.getElem?_toList, Array.getElem?_setIfInBounds]
  by_cases hj : j < 64
  · rw [bitV_get _ _ _ hj, bitV_get _ _ _ hj]
    by_cases e : k = j
    · subst e; simp [bitV, h]
    · rw [if_neg e]
      by_cases h2 : j < k
      · rw [if_pos h2, if_pos (by omega)]
      · rw [if_neg h2, if_neg (by omega)]
  · have h1 : (bitV f k)[j]? = none := by rw [Array.getElem?_eq_none_iff, bitV_size]; omega
    have h2 : (bitV f (k + 1))[j]? = none := by rw [Array.getElem?_eq_none_iff, bitV_size]; omega
    rw [h1, h2, if_neg (by omega)]
theorem bitV_skip (f : Nat → Nat) (k : Nat) (hz : f k = 0) : bitV f k = bitV f (k + 1) := by
  unfold bitV
  congr 1
  apply List.map_congr_left
  intro i _
  by_cases h : i < k
  · rw [if_pos h, if_pos (by omega)]
  · rw [if_neg h]
    by_cases e : i = k
    · subst e; rw [if_pos (by omega), hz]; rfl
    · rw [if_neg (by omega)]
theorem z64_eq (f : Nat → Nat) : z64 = bitV f 0 := by
  unfold z64 bitV
  congr 1
theorem z64_size : z64.size = 64 := by simp [z64]
theorem bitV_one (f : Nat → Nat) (k : Nat) : (bitV f k).all (fun x => x.oneCell') = true := by
  rw [Array.all_eq_true]
  intro i hi
  have h := bitV_get f k i (by rw [bitV_size] at hi; exact hi)
  rw [Array.getElem?_eq_getElem hi] at h
  rw [Option.some.inj h]
  split <;> rfl
theorem info64 : (Tryz.prog.info? 203).map (fun x => x.size) = some 64 := by kernel_rfl
/-- the bits of a number -/
def bitF (a : Nat) (i : Nat) : Nat := a / 2 ^ i % 2
theorem half_step (n k : Nat) : n / 2 ^ k / 2 = n / 2 ^ (k + 1) := by rw [Nat.div_div_eq_div_mul, Nat.pow_succ]
set_option maxHeartbeats 4000000 in
set_option maxRecDepth 100000 in
theorem refBits5_any (n : Nat) (w : World) (hn : n < 18446744073709551616) :
    Calls Tryz.prog 121 #[.int .u64 n] w fun e w' => e = .returned (.agg (bitV (bitF n) 64)) ∧ Below w.heap.size w w' := by
  go_enter Tryz.func121, Tryz.ntmps121
  go_upto_region 0 with (fail)
  apply wp_region_lit
  refine wpList_val (w' := w.alloc (.cells z64 203)) (.pointer (some ⟨w.heap.size, 0, none⟩)) rfl (by kernel_rfl) ?_
  simp only [ps]
  obtain ⟨W1, hW1⟩ : ∃ W1, w.alloc (.cells z64 203) = W1 := ⟨_, rfl⟩
  have N1 : W1.heap[w.heap.size]? = some (.cells z64 203 (0, 0)) := by rw [← hW1]; exact heap_alloc_new _ _
  have B1 : Below w.heap.size w W1 := by rw [← hW1]; exact (Below.refl _ _).alloc (Nat.le_refl _) _
  have S1 : W1.heap.size = w.heap.size + 1 := by rw [← hW1]; simp
  rw [hW1]
  clear hW1
  go_upto_region 1 with (fail)
  apply wp_region_lit
  refine wpList_val (w' := W1.alloc (.cells z64 203)) (.pointer (some ⟨W1.heap.size, 0, none⟩)) rfl (by kernel_rfl) ?_
  simp only [ps]
  obtain ⟨W2, hW2⟩ : ∃ W2, W1.alloc (.cells z64 203) = W2 := ⟨_, rfl⟩
  have N2 : Hid (W2.heap[w.heap.size]? = some (.cells z64 203 (0, 0))) := hid (by rw [← hW2, Below.heap_alloc _ _ _ (by omega)]; exact N1)
  have N3 : Hid (W2.heap[w.heap.size + 1]? = some (.cells (bitV (bitF n) 0) 203 (0, 0))) := hid (by rw [← hW2, ← S1, ← z64_eq]; exact heap_alloc_new _ _)
  have B2 := hid (show Below w.heap.size w W2 from by rw [← hW2]; exact B1.alloc (by omega) _)
  rw [hW2, S1]
  clear hW2 N1 B1 S1
  go_wp2_with fail
  go_loopw [0, 4] (fun v i wr => ∃ (k : Nat), k ≤ 64 ∧ i = .int .i64 k ∧ v = .int .u64 ((n / 2 ^ k : Nat) : Int) ∧ Hid (wr.heap[w.heap.size]? = some (.cells z64 203 (0, 0))) ∧ Hid (wr.heap[w.heap.size + 1]? = some (.cells (bitV (bitF n) k) 203 (0, 0))) ∧ Hid (Below w.heap.size w wr)) (fun _ i _ => 64 - (intOf i).toNat)
  case atStart => exact ⟨0, by omega, rfl, by simp, N2, N3, B2⟩
  case round =>
    clear N2 N3 B2
    obtain ⟨k, hk, rfl, rfl, N2, N3, HB⟩ := hrel
    by_cases hlt : k < 64
    · have hq : n / 2 ^ k < 18446744073709551616 := Nat.lt_of_le_of_lt (Nat.div_le_self _ _) hn
      have Hstep := hid (half_step n k)
      have Hset := hid (fun z (hz : z = ((n / 2 ^ k % 2 : Nat) : Int)) => bitV_step (bitF n) k hlt z hz)
      generalize n / 2 ^ k = q at *
      have hl := blk_lt' N3.out
      have hcw : wr.cell? ⟨w.heap.size + 1, k, none⟩ = some (.int .i64 0) := by rw [cell_of_row wr _ _ _ _ _ N3.out, bitV_get _ _ _ hlt, if_neg (by omega)]
      have hfz := frozen_of_row wr _ k _ _ N3.out
      go_wp2_with fail
      go_roundw
      case rel =>
        refine ⟨k + 1, by omega, by go_num, by rw [← Hstep.out]; simp, hid ((heap_setCell_other _ _ _ _ (by simp)).trans N2.out), hid ?_, hid (HB.out.setCell (by simp) _)⟩
        rw [heap_setCell_same _ _ _ _ _ _ N3.out, Hset.out _ (by omega)]
      case measure => simp [intOf]; omega
    · obtain rfl : k = 64 := by omega
      go_upto_region 7 with (fail)
      apply wp_region_lit
      refine wpList_load_row rfl 203 (.tmp 3) rfl (w.heap.size + 1) rfl 203 (bitV (bitF n) 64) (0, 0) _ N3.out Tryz.underlying203 rfl (by rw [bitV_size]; exact info64) ?_
      simp only [ps]
      refine wpList_store_row rfl 203 (.tmp 2) (.tmp 16) rfl w.heap.size (bitV (bitF n) 64) rfl rfl 203 z64 N2.out (by rw [bitV_size]; exact info64) (by rw [bitV_size, z64_size]) (bitV_one _ _) ?_
      simp only [ps]
      go_wp2_with fail
      refine bodyPost_ret (results_cell_row rfl _ _ w.heap.size 203 _ (0, 0) _ rfl (setRow_heap _ _ _ _ _ _ N2.out) Tryz.underlying203 rfl (by rw [bitV_size]; exact info64)) rfl ?_
      exact ⟨rfl, below_setRow HB.out (Nat.le_refl _) _⟩
theorem valL_lt (l : List Nat) (h : ∀ b ∈ l, b ≤ 1) : valL l < 2 ^ l.length := by
  induction l with
  | nil => simp [valL]
  | cons b l ih =>
    have h1 := h b (by simp)
    have h2 := ih (fun c hc => h c (by simp [hc]))
    simp only [valL, List.length_cons, Nat.pow_succ]
    omega
theorem valL_drop (f : Nat → Nat) (k : Nat) (h0 : 0 < k) (hk : k ≤ 64) : valL (((List.range 64).map f).drop (k - 1)) = f (k - 1) + 2 * valL (((List.range 64).map f).drop k) := by
  rw [List.drop_eq_getElem_cons (by simp; omega), valL, show k - 1 + 1 = k by omega]
  simp
theorem valL_drop_lt (f : Nat → Nat) (hf : ∀ i, i < 64 → f i ≤ 1) (k : Nat) (hk : k ≤ 64) : valL (((List.range 64).map f).drop k) < 2 ^ (64 - k) := by
  have h := valL_lt (((List.range 64).map f).drop k) (fun b hb => by
    have hb := List.mem_of_mem_drop hb
    obtain ⟨i, hi, rfl⟩ := List.mem_map.1 hb
    exact hf i (List.mem_range.1 hi))
  simpa using h
set_option maxHeartbeats 4000000 in
set_option maxRecDepth 100000 in
theorem refValue_any (f : Nat → Nat) (hf : ∀ i, i < 64 → f i ≤ 1) (w : World) :
    Calls Tryz.prog 122 #[.agg (bitV f 64)] w fun e w' => e = .returned (.int .u64 (valL ((List.range 64).map f))) ∧ Below w.heap.size w w' := by
  have hsz := bitV_size f 64
  have hcs := bitV_full f
  have Hf := hid hf
  clear hf
  have Hsz := hid hsz
  have Hcs := hid hcs
  clear hsz hcs
  generalize bitV f 64 = cs at *
  go_enter Tryz.func122, Tryz.ntmps122
  go_wp2_with fail
  go_loopw [3, 4] (fun v i wr => ∃ (k N : Nat), k ≤ 64 ∧ i = .int .i64 ((k : Int) - 1) ∧ v = .int .u64 N ∧ Hid (N = valL (((List.range 64).map f).drop k)) ∧ Hid (wr.heap[w.heap.size]? = some (.cells cs 203 (0, 0))) ∧ Hid (Below w.heap.size w wr)) (fun _ i _ => ((intOf i) + 1).toNat)
  case atStart => exact ⟨64, 0, by omega, rfl, rfl, hid (by rw [List.drop_of_length_le (by simp)]; rfl), hid (heap_alloc_new _ _), hid ((Below.refl _ _).alloc (Nat.le_refl _) _)⟩
  case round =>
    obtain ⟨k, N, hk, rfl, rfl, HN, N3, HB⟩ := hrel
    by_cases h0 : 0 < k
    · have hNl : N < 9223372036854775808 := by
        have h1 := valL_drop_lt f Hf.out k hk
        have h2 : 2 ^ (64 - k) ≤ 2 ^ 63 := Nat.pow_le_pow_right (by decide) (by omega)
        rw [HN.out]; omega
      have hb1 : f (k - 1) ≤ 1 := Hf.out _ (by omega)
      have Hn2 := hid (valL_drop f k h0 hk)
      have hl := blk_lt' N3.out
      have hcw : wr.cell? ⟨w.heap.size, k - 1, none⟩ = some (.int .i64 (f (k - 1))) := by rw [cell_of_row wr _ _ _ _ _ N3.out]; exact Hcs.out _ (by omega)
      obtain ⟨j, rfl⟩ : ∃ j, k = j + 1 := ⟨k - 1, by omega⟩
      simp only [Nat.add_sub_cancel] at hb1 hcw
      have hji : ((j + 1 : Nat) : Int) - 1 = (j : Int) := by simp
      rw [hji]
      have HN2 : Hid (f j + 2 * N = valL (((List.range 64).map f).drop j)) := hid (by have h := Hn2.out; simp only [Nat.add_sub_cancel] at h; rw [h, HN.out])
      clear Hn2 HN
      generalize f j = b at *
      go_wp2_with fail
      go_roundw
      case rel => exact ⟨j, b + 2 * N, by omega, by first | rfl | go_num, by go_num, HN2, N3, HB⟩
      case measure => simp [intOf] <;> omega
    · obtain rfl : k = 0 := by omega
      have Hv := hid (show (N : Int) = valL ((List.range 64).map f) from by rw [HN.out]; simp)
      go_wp2_with fail
      go_ret
      exact ⟨ret_int Hv.out, HB.out⟩
end
end Go.Proofs.YtiemingpbommeaaGreatDoor

/- The document's words: shifts, bit by bit, as the numbers of their bits. -/
namespace Go.Proofs.YtiemingpbommeaaGreatDoor
open Go Go.RowKit
noncomputable section
set_option linter.unusedVariables false
set_option linter.unusedSimpArgs false
def shiftF (a s : Nat) (up : Bool) (above : Nat) (i : Nat) : Nat := if up then (if s ≤ i then bitF a (i - s) else 0) else if i + s < 64 then bitF a (i + s) else above
theorem bitF_le (a i : Nat) : bitF a i ≤ 1 := by unfold bitF; omega
theorem shiftF_le (a s : Nat) (up : Bool) (above : Nat) (h : above ≤ 1) (i : Nat) : shiftF a s up above i ≤ 1 := by
  unfold shiftF
  have h1 := bitF_le a (i - s)
  have h2 := bitF_le a (i + s)
  repeat' split
  all_goals omega
set_option maxHeartbeats 4000000 in
set_option maxRecDepth 100000 in
theorem refShift_any (a s : Nat) (up : Bool) (above : Nat) (w : World) (ha : a < 18446744073709551616) (hs : s < 64) (hab : above ≤ 1) :
    Calls Tryz.prog 94 #[.int .u64 a, .int .i64 s, .bool up, .int .i64 above] w fun e w' => e = .returned (.int .u64 (valL ((List.range 64).map (shiftF a s up above)))) ∧ Below w.heap.size w w' := by
  go_enter Tryz.func94, Tryz.ntmps94
  go_upto_region 1 with (fail)
  apply wp_region_lit
  refine wpList_val (w' := w) (.int .u64 a) rfl (by kernel_rfl) ?_
  simp only [ps]
  refine wpList_call (.agg (bitV (bitF a) 64)) (fun w'' => Below w.heap.size w w'') (f := 121) (args := #[.int .u64 a]) rfl (by kernel_rfl) (refBits5_any a w ha) ?_
  rintro w1 hb1
  simp only [ps]
  obtain ⟨W1, hW1, g1, b1⟩ := new_row w1 (bitV (bitF a) 64) z64 203
  refine wpList_val (w' := w1.alloc (.cells z64 203)) (.pointer (some ⟨w1.heap.size, 0, none⟩)) rfl (by kernel_rfl) ?_
  simp only [ps]
  refine wpList_store_row rfl 203 (.tmp 9) (.tmp 14) rfl w1.heap.size (bitV (bitF a) 64) rfl rfl 203 z64 (heap_alloc_new _ _) (by rw [bitV_size]; exact info64) (by rw [bitV_size, z64_size]) (bitV_one _ _) ?_
  simp only [ps]
  rw [hW1]
  have B1 : Below w.heap.size w W1 := hb1.trans (b1.mono hb1.size)
  have s1 := blk_lt' g1
  have hb1s := hb1.size
  clear hW1 hb1 b1
  go_upto_region 2 with (fail)
  apply wp_region_lit
  refine wpList_val (w' := W1.alloc (.cells z64 203)) (.pointer (some ⟨W1.heap.size, 0, none⟩)) rfl (by kernel_rfl) ?_
  simp only [ps]
  obtain ⟨W2, hW2⟩ : ∃ W2, W1.alloc (.cells z64 203) = W2 := ⟨_, rfl⟩
  have N9 : Hid (W2.heap[w1.heap.size]? = some (.cells (bitV (bitF a) 64) 203 (0, 0))) := hid (by rw [← hW2, Below.heap_alloc _ _ _ s1]; exact g1)
  have N10 : Hid (W2.heap[W1.heap.size]? = some (.cells (bitV (shiftF a s up above) 0) 203 (0, 0))) := hid (by rw [← hW2, ← z64_eq]; exact heap_alloc_new _ _)
  have B2 := hid (show Below w.heap.size w W2 from by rw [← hW2]; exact B1.alloc B1.size _)
  have hH : w.heap.size ≤ W1.heap.size := B1.size
  rw [hW2]
  clear hW2 g1 B1 hb1s
  generalize w1.heap.size = G at *
  generalize W1.heap.size = H at *
  go_upto_region 3 with (fail)
  go_wp2_with fail
  go_loopw [11] (fun i wr => ∃ (k : Nat), k ≤ 64 ∧ i = .int .i64 k ∧ Hid (wr.heap[G]? = some (.cells (bitV (bitF a) 64) 203 (0, 0))) ∧ Hid (wr.heap[H]? = some (.cells (bitV (shiftF a s up above) k) 203 (0, 0))) ∧ Hid (Below w.heap.size w wr)) (fun i _ => 64 - (intOf i).toNat)
  case atStart => exact ⟨0, by omega, rfl, N9, N10, B2⟩
  case round =>
    clear N9 N10 B2
    obtain ⟨k, hk, rfl, N9, N10, HB⟩ := hrel
    have lG := blk_lt' N9.out
    have lH := blk_lt' N10.out
    by_cases hlt : k < 64
    · have Hset := hid (fun z (hz : z = ((shiftF a s up above k : Nat) : Int)) => bitV_step (shiftF a s up above) k hlt z hz)
      have hcw : wr.cell? ⟨H, k, none⟩ = some (.int .i64 0) := by rw [cell_of_row wr _ _ _ _ _ N10.out, bitV_get _ _ _ hlt, if_neg (by omega)]
      have hfz := frozen_of_row wr _ k _ _ N10.out
      cases up with
      | true =>
        by_cases hks : s ≤ k
        · obtain ⟨d, rfl⟩ : ∃ d, k = d + s := ⟨k - s, by omega⟩
          have hcd : wr.cell? ⟨G, d, none⟩ = some (.int .i64 (bitF a d)) := by rw [cell_of_row wr _ _ _ _ _ N9.out]; exact bitV_full _ _ (by omega)
          have hval : Hid (shiftF a s true above (d + s) = bitF a d) := hid (by unfold shiftF; rw [if_pos rfl, if_pos (by omega), Nat.add_sub_cancel])
          have hle := bitF_le a d
          generalize bitF a d = b at *
          go_wp2_with fail
          go_roundw
          case rel =>
            refine ⟨d + s + 1, by omega, by go_num, hid ((heap_setCell_other _ _ _ _ (by simp only; omega)).trans N9.out), hid ?_, hid (HB.out.setCell (by simp only; omega) _)⟩
            rw [heap_setCell_same _ _ _ _ _ _ N10.out, Hset.out _ (by rw [hval.out])]
          case measure => simp [intOf]; omega
        · have hskip : Hid (bitV (shiftF a s true above) k = bitV (shiftF a s true above) (k + 1)) := hid (bitV_skip _ _ (by unfold shiftF; rw [if_pos rfl, if_neg hks]))
          have hneg : ¬ (0 ≤ (k : Int) - (s : Int)) := by omega
          clear Hset
          go_wp2_with fail
          go_roundw
          case rel => exact ⟨k + 1, by omega, by go_num, N9, by rw [← hskip.out]; exact N10, HB⟩
          case measure => simp [intOf]; omega
      | false =>
        by_cases hks : k + s < 64
        · have hcd : wr.cell? ⟨G, k + s, none⟩ = some (.int .i64 (bitF a (k + s))) := by rw [cell_of_row wr _ _ _ _ _ N9.out]; exact bitV_full _ _ (by omega)
          have hval : Hid (shiftF a s false above k = bitF a (k + s)) := hid (by unfold shiftF; rw [if_neg (by simp), if_pos hks])
          have hle := bitF_le a (k + s)
          generalize bitF a (k + s) = b at *
          go_wp2_with fail
          go_roundw
          case rel =>
            refine ⟨k + 1, by omega, by go_num, hid ((heap_setCell_other _ _ _ _ (by simp only; omega)).trans N9.out), hid ?_, hid (HB.out.setCell (by simp only; omega) _)⟩
            rw [heap_setCell_same _ _ _ _ _ _ N10.out, Hset.out _ (by rw [hval.out])]
          case measure => simp [intOf]; omega
        · have hval : Hid (shiftF a s false above k = above) := hid (by unfold shiftF; rw [if_neg (by simp), if_neg hks])
          go_wp2_with fail
          go_roundw
          case rel =>
            refine ⟨k + 1, by omega, by go_num, hid ((heap_setCell_other _ _ _ _ (by simp only; omega)).trans N9.out), hid ?_, hid (HB.out.setCell (by simp only; omega) _)⟩
            rw [heap_setCell_same _ _ _ _ _ _ N10.out, Hset.out _ (by rw [hval.out])]
          case measure => simp [intOf]; omega
    · obtain rfl : k = 64 := by omega
      go_upto_region 13 with (fail)
      apply wp_region_lit
      refine wpList_load_row rfl 203 (.tmp 10) rfl H rfl 203 (bitV (shiftF a s up above) 64) (0, 0) _ N10.out Tryz.underlying203 rfl (by rw [bitV_size]; exact info64) ?_
      simp only [ps]
      refine wpList_call (.int .u64 (valL ((List.range 64).map (shiftF a s up above)))) (fun w'' => Below wr.heap.size wr w'') (f := 122) (args := #[.agg (bitV (shiftF a s up above) 64)]) rfl (by kernel_rfl) (refValue_any _ (fun i _ => shiftF_le a s up above hab i) wr) ?_
      rintro w5 hb5
      simp only [ps]
      refine wpList_val (w' := w5) (.int .u64 (valL ((List.range 64).map (shiftF a s up above)))) rfl (by kernel_rfl) ?_
      simp only [ps]
      go_wp2_with fail
      go_ret
      exact ⟨rfl, HB.out.trans (hb5.mono HB.out.size)⟩
def bothF (a b : Nat) (how : Nat) (i : Nat) : Nat := if how = 0 then (if bitF a i + bitF b i = 1 then 1 else 0) else if how = 1 then (if 0 < bitF a i + bitF b i then 1 else 0) else (if bitF a i + bitF b i = 2 then 1 else 0)
theorem bothF_le (a b how i : Nat) : bothF a b how i ≤ 1 := by
  unfold bothF
  repeat' split
  all_goals omega
set_option maxHeartbeats 4000000 in
set_option maxRecDepth 100000 in
theorem refBoth_any (a b : Nat) (how : Nat) (w : World) (ha : a < 18446744073709551616) (hb : b < 18446744073709551616) (hh : how ≤ 2) :
    Calls Tryz.prog 118 #[.int .u64 a, .int .u64 b, .int .i64 how] w fun e w' => e = .returned (.int .u64 (valL ((List.range 64).map (bothF a b how)))) ∧ Below w.heap.size w w' := by
  go_enter Tryz.func118, Tryz.ntmps118
  go_upto_region 1 with (fail)
  apply wp_region_lit
  refine wpList_val (w' := w) (.int .u64 a) rfl (by kernel_rfl) ?_
  simp only [ps]
  refine wpList_call (.agg (bitV (bitF a) 64)) (fun w'' => Below w.heap.size w w'') (f := 121) (args := #[.int .u64 a]) rfl (by kernel_rfl) (refBits5_any a w ha) ?_
  rintro w1 hb1
  simp only [ps]
  refine wpList_val (w' := w1) (.int .u64 b) rfl (by kernel_rfl) ?_
  simp only [ps]
  refine wpList_call (.agg (bitV (bitF b) 64)) (fun w'' => Below w1.heap.size w1 w'') (f := 121) (args := #[.int .u64 b]) rfl (by kernel_rfl) (refBits5_any b w1 hb) ?_
  rintro w2 hb2
  simp only [ps]
  have B2 : Below w.heap.size w w2 := hb1.trans (hb2.mono hb1.size)
  obtain ⟨W3, hW3, g1, g2, RB, h1, h2⟩ := two_new w2 203 203 z64 z64 (bitV (bitF a) 64) (bitV (bitF b) 64)
  obtain ⟨WA, hWA⟩ : ∃ WA, w2.alloc (.cells z64 203) = WA := ⟨_, rfl⟩
  have hsA : WA.heap.size = w2.heap.size + 1 := by rw [← hWA]; simp
  refine wpList_val (w' := w2.alloc (.cells z64 203)) (.pointer (some ⟨w2.heap.size, 0, none⟩)) rfl (by kernel_rfl) ?_
  simp only [ps]
  rw [hWA]
  rw [hWA] at h1 h2 hW3
  refine wpList_val (w' := WA.alloc (.cells z64 203)) (.pointer (some ⟨WA.heap.size, 0, none⟩)) rfl (by kernel_rfl) ?_
  simp only [ps]
  rw [hsA]
  refine wpList_store_row rfl 203 (.tmp 7) (.tmp 13) rfl w2.heap.size (bitV (bitF a) 64) rfl rfl 203 z64 h1 (by rw [bitV_size]; exact info64) (by rw [bitV_size, z64_size]) (bitV_one _ _) ?_
  simp only [ps]
  refine wpList_store_row rfl 203 (.tmp 8) (.tmp 15) rfl (w2.heap.size + 1) (bitV (bitF b) 64) rfl rfl 203 z64 h2 (by rw [bitV_size]; exact info64) (by rw [bitV_size, z64_size]) (bitV_one _ _) ?_
  simp only [ps]
  rw [hW3]
  have B3 : Below w.heap.size w W3 := B2.trans (RB.mono B2.size)
  have l1 := blk_lt' g1
  have l2 := blk_lt' g2
  clear hW3 h1 h2 hWA hsA hb1 hb2 B2 RB
  go_upto_region 2 with (fail)
  apply wp_region_lit
  refine wpList_val (w' := W3.alloc (.cells z64 203)) (.pointer (some ⟨W3.heap.size, 0, none⟩)) rfl (by kernel_rfl) ?_
  simp only [ps]
  obtain ⟨W4, hW4⟩ : ∃ W4, W3.alloc (.cells z64 203) = W4 := ⟨_, rfl⟩
  have N7 : Hid (W4.heap[w2.heap.size]? = some (.cells (bitV (bitF a) 64) 203 (0, 0))) := hid (by rw [← hW4, Below.heap_alloc _ _ _ l1]; exact g1)
  have N8 : Hid (W4.heap[w2.heap.size + 1]? = some (.cells (bitV (bitF b) 64) 203 (0, 0))) := hid (by rw [← hW4, Below.heap_alloc _ _ _ l2]; exact g2)
  have N9 : Hid (W4.heap[W3.heap.size]? = some (.cells (bitV (bothF a b how) 0) 203 (0, 0))) := hid (by rw [← hW4, ← z64_eq]; exact heap_alloc_new _ _)
  have B4 := hid (show Below w.heap.size w W4 from by rw [← hW4]; exact B3.alloc B3.size _)
  have hH : w.heap.size ≤ W3.heap.size := B3.size
  rw [hW4]
  clear hW4 g1 g2 B3
  generalize w2.heap.size = G at *
  generalize W3.heap.size = H at *
  go_wp2_with fail
  go_loopw [10] (fun i wr => ∃ (k : Nat), k ≤ 64 ∧ i = .int .i64 k ∧ Hid (wr.heap[G]? = some (.cells (bitV (bitF a) 64) 203 (0, 0))) ∧ Hid (wr.heap[G + 1]? = some (.cells (bitV (bitF b) 64) 203 (0, 0))) ∧ Hid (wr.heap[H]? = some (.cells (bitV (bothF a b how) k) 203 (0, 0))) ∧ Hid (Below w.heap.size w wr)) (fun i _ => 64 - (intOf i).toNat)
  case atStart => exact ⟨0, by omega, rfl, N7, N8, N9, B4⟩
  case round =>
    clear N7 N8 N9 B4
    obtain ⟨k, hk, rfl, N7, N8, N9, HB⟩ := hrel
    have lG := blk_lt' N7.out
    have lG1 := blk_lt' N8.out
    have lH := blk_lt' N9.out
    by_cases hlt : k < 64
    · have Hset := hid (fun z (hz : z = ((bothF a b how k : Nat) : Int)) => bitV_step (bothF a b how) k hlt z hz)
      have Hskip := hid (bitV_skip (bothF a b how) k)
      have hcw : wr.cell? ⟨H, k, none⟩ = some (.int .i64 0) := by rw [cell_of_row wr _ _ _ _ _ N9.out, bitV_get _ _ _ hlt, if_neg (by omega)]
      have hfz := frozen_of_row wr _ k _ _ N9.out
      have hca : wr.cell? ⟨G, k, none⟩ = some (.int .i64 (bitF a k)) := by rw [cell_of_row wr _ _ _ _ _ N7.out]; exact bitV_full _ _ (by omega)
      have hcb : wr.cell? ⟨G + 1, k, none⟩ = some (.int .i64 (bitF b k)) := by rw [cell_of_row wr _ _ _ _ _ N8.out]; exact bitV_full _ _ (by omega)
      have hla := bitF_le a k
      have hlb := bitF_le b k
      have Hv : Hid (bothF a b how k = if how = 0 then (if bitF a k + bitF b k = 1 then 1 else 0) else if how = 1 then (if 0 < bitF a k + bitF b k then 1 else 0) else (if bitF a k + bitF b k = 2 then 1 else 0)) := hid rfl
      generalize bitF a k = x at *
      generalize bitF b k = y at *
      have hsum : (x : Int) + (y : Int) = 0 ∨ (x : Int) + (y : Int) = 1 ∨ (x : Int) + (y : Int) = 2 := by omega
      obtain rfl | rfl | rfl : how = 0 ∨ how = 1 ∨ how = 2 := by omega
      all_goals rcases hsum with hz | hz | hz
      all_goals
        go_wp2_with (first | (go_quiet (fail)))
        go_roundw
        case rel => first
          | exact ⟨k + 1, by omega, by go_num, N7, N8, by rw [← Hskip.out (by first | (rw [Hv.out, show x + y = 0 from by omega]; rfl) | (rw [Hv.out, show x + y = 1 from by omega]; rfl) | (rw [Hv.out, show x + y = 2 from by omega]; rfl))]; exact N9, hid (below_drewN HB.out _)⟩
          | exact ⟨k + 1, by omega, by go_num, hid ((heap_setCell_other (wr.drewN _) _ _ _ (by simp only; omega)).trans N7.out), hid ((heap_setCell_other (wr.drewN _) _ _ _ (by simp only; omega)).trans N8.out), hid ((heap_setCell_same (wr.drewN _) _ _ _ _ _ N9.out).trans (by rw [Hset.out _ (by first | (rw [Hv.out, show x + y = 0 from by omega]; rfl) | (rw [Hv.out, show x + y = 1 from by omega]; rfl) | (rw [Hv.out, show x + y = 2 from by omega]; rfl))])), hid ((below_drewN HB.out _).setCell (by simp only; omega) _)⟩
        case measure => simp [intOf]; omega
    · obtain rfl : k = 64 := by omega
      go_upto_region 9 with (fail)
      apply wp_region_lit
      refine wpList_load_row rfl 203 (.tmp 9) rfl H rfl 203 (bitV (bothF a b how) 64) (0, 0) _ N9.out Tryz.underlying203 rfl (by rw [bitV_size]; exact info64) ?_
      simp only [ps]
      refine wpList_call (.int .u64 (valL ((List.range 64).map (bothF a b how)))) (fun w'' => Below wr.heap.size wr w'') (f := 122) (args := #[.agg (bitV (bothF a b how) 64)]) rfl (by kernel_rfl) (refValue_any _ (fun i _ => bothF_le a b how i) wr) ?_
      rintro w5 hb5
      simp only [ps]
      refine wpList_val (w' := w5) (.int .u64 (valL ((List.range 64).map (bothF a b how)))) rfl (by kernel_rfl) ?_
      simp only [ps]
      go_wp2_with fail
      go_ret
      exact ⟨rfl, HB.out.trans (hb5.mono HB.out.size)⟩
end
end Go.Proofs.YtiemingpbommeaaGreatDoor

/- The document's words: signs, products by halves, quotients, the low half. -/
namespace Go.Proofs.YtiemingpbommeaaGreatDoor
open Go Go.RowKit
noncomputable section
set_option linter.unusedVariables false
set_option linter.unusedSimpArgs false
theorem refMinus_any (x : Nat) (w : World) :
    Calls Tryz.prog 95 #[.int .u64 x] w fun e w' => e = .returned (.bool (minusN x)) ∧ w' = w := by
  go_enter Tryz.func95, Tryz.ntmps95
  by_cases h : 9223372036854775808 ≤ x
  · go_wp2_with fail
    go_ret
    exact ⟨by unfold minusN; simp [h]; try omega, rfl⟩
  · go_wp2_with fail
    go_ret
    exact ⟨by unfold minusN; simp [h]; try omega, rfl⟩
theorem refMinus_at (x : Nat) (m : Bool) (h : minusN x = m) (w : World) :
    Calls Tryz.prog 95 #[.int .u64 x] w fun e w' => e = .returned (.bool m) ∧ w' = w := by subst h; exact refMinus_any x w
theorem refYes_any (b : Bool) (w : World) :
    Calls Tryz.prog 117 #[.bool b] w fun e w' => e = .returned (.int .u64 (if b then 1 else 0)) ∧ w' = w := by
  go_enter Tryz.func117, Tryz.ntmps117
  cases b
  · go_wp2_with fail
    go_ret
    exact ⟨rfl, rfl⟩
  · go_wp2_with fail
    go_ret
    exact ⟨rfl, rfl⟩
theorem refAbs_any (x : Nat) (w : World) (hx : x < 18446744073709551616) :
    Calls Tryz.prog 141 #[.int .u64 x] w fun e w' => e = .returned (.int .u64 (absN x)) ∧ w' = w := by
  have hv : absN x = if minusN x then 18446744073709551616 - x else x := rfl
  have hm : minusN x = true → 9223372036854775808 ≤ x := by unfold minusN; simp
  have Hm := hid (refMinus_at x)
  generalize minusN x = m at *
  go_enter Tryz.func141, Tryz.ntmps141
  cases m with
  | true =>
    have h1 := hm rfl
    have Hv : Hid (IntKind.u64.wrap (-(x : Int)) = ((absN x : Nat) : Int)) := hid (by
      have hw : ∀ n : Int, IntKind.u64.wrap n = n % 18446744073709551616 := fun n => by simp [IntKind.wrap, IntKind.bits, IntKind.signed]
      rw [hv, if_pos rfl, hw]; omega)
    clear hv hm
    go_wp2_with fail
    refine (Hm.out true rfl _).mono ?_
    rintro e w1 ⟨rfl, rfl⟩
    go_wp2_with fail
    go_ret
    exact ⟨ret_int Hv.out, rfl⟩
  | false =>
    have Hv : Hid (absN x = x) := hid (by rw [hv]; rfl)
    clear hv hm
    go_wp2_with fail
    refine (Hm.out false rfl _).mono ?_
    rintro e w1 ⟨rfl, rfl⟩
    go_wp2_with fail
    go_ret
    exact ⟨by rw [Hv.out]; rfl, rfl⟩
theorem absN_lt (x : Nat) (hx : x < 18446744073709551616) : absN x < 18446744073709551616 := by
  unfold absN minusN
  by_cases h : 9223372036854775808 ≤ x <;> simp [h] <;> omega
set_option maxHeartbeats 4000000 in
set_option maxRecDepth 100000 in
theorem refWide_any (a b : Nat) (w : World) (ha : a < 18446744073709551616) (hb : b < 18446744073709551616) :
    Calls Tryz.prog 119 #[.int .u64 a, .int .u64 b] w fun e w' => e = .returned (.tuple #[.int .u64 (a * b / 18446744073709551616 : Nat), .int .u64 (a * b % 18446744073709551616 : Nat)]) ∧ w' = w := by
  have hw : ∀ n : Int, IntKind.u64.wrap n = n % 18446744073709551616 := fun n => by simp [IntKind.wrap, IntKind.bits, IntKind.signed]
  have Hlow : Hid (IntKind.u64.wrap ((a : Int) * (b : Int)) = ((a * b % 18446744073709551616 : Nat) : Int)) := hid (by rw [hw, ← Int.natCast_mul]; exact (Int.natCast_emod _ _).symm)
  have hres : wideN a b = a * b / 18446744073709551616 := wideN_eq a b
  have hlt : a * b / 18446744073709551616 < 18446744073709551616 := by rw [Nat.div_lt_iff_lt_mul (by decide)]; exact Nat.mul_lt_mul'' ha hb
  rw [← hres] at hlt ⊢
  have hwd : wideN a b = a / 4294967296 * (b / 4294967296) + a / 4294967296 * (b % 4294967296) / 4294967296 + a % 4294967296 * (b / 4294967296) / 4294967296 + (a % 4294967296 * (b % 4294967296) / 4294967296 + a / 4294967296 * (b % 4294967296) % 4294967296 + a % 4294967296 * (b / 4294967296) % 4294967296) / 4294967296 := rfl
  have a1 : (a : Int) / 4294967296 = ((a / 4294967296 : Nat) : Int) := by omega
  have a2 : (a : Int) % 4294967296 = ((a % 4294967296 : Nat) : Int) := by omega
  have b1 : (b : Int) / 4294967296 = ((b / 4294967296 : Nat) : Int) := by omega
  have b2 : (b : Int) % 4294967296 = ((b % 4294967296 : Nat) : Int) := by omega
  have la1 : a / 4294967296 ≤ 4294967295 := by omega
  have la2 : a % 4294967296 ≤ 4294967295 := by omega
  have lb1 : b / 4294967296 ≤ 4294967295 := by omega
  have lb2 : b % 4294967296 ≤ 4294967295 := by omega
  generalize a / 4294967296 = ah at *
  generalize a % 4294967296 = al at *
  generalize b / 4294967296 = bh at *
  generalize b % 4294967296 = bl at *
  have m : ∀ x y : Nat, x ≤ 4294967295 → y ≤ 4294967295 → x * y ≤ 18446744065119617025 ∧ IntKind.u64.wrap ((x : Int) * (y : Int)) = ((x * y : Nat) : Int) := fun x y hx hy => by
    have h : x * y ≤ 4294967295 * 4294967295 := Nat.mul_le_mul hx hy
    refine ⟨h, ?_⟩
    rw [hw, ← Int.natCast_mul]
    omega
  obtain ⟨lx, px⟩ := m al bl la2 lb2
  obtain ⟨ly, py⟩ := m ah bl la1 lb2
  obtain ⟨lz, pz⟩ := m al bh la2 lb1
  obtain ⟨lw, pw⟩ := m ah bh la1 lb1
  generalize al * bl = x at *
  generalize ah * bl = y at *
  generalize al * bh = z at *
  generalize ah * bh = v at *
  have Hwd := hid hwd
  have Ha := hid ha
  have Hw := hid hw
  clear hwd hres ha hb hw m
  generalize wideN a b = r at *
  have hbig : v + y / 4294967296 + z / 4294967296 + (x / 4294967296 + y % 4294967296 + z % 4294967296) / 4294967296 < 18446744073709551616 := by rw [← Hwd.out]; exact hlt
  go_enter Tryz.func119, Tryz.ntmps119
  go_wp2_with fail
  go_ret2
  refine ⟨ret_ii ?_ Hlow.out, rfl⟩
  rw [Hwd.out]
  try simp only [Hw.out]
  omega
set_option maxHeartbeats 4000000 in
set_option maxRecDepth 100000 in
theorem refHigh_any (a b : Nat) (sa sb : Bool) (w : World) (ha : a < 18446744073709551616) (hb : b < 18446744073709551616) (hs : sb = true → sa = true) :
    Calls Tryz.prog 120 #[.int .u64 a, .int .u64 b, .bool sa, .bool sb] w fun e w' => e = .returned (.int .u64 (highN a b sa sb)) ∧ w' = w := by
  rw [← high_eq a b sa sb ha hb hs]
  have hA := absN_lt a ha
  have hB := absN_lt b hb
  have Ma := hid (refMinus_at a)
  have Mb := hid (refMinus_at b)
  have Aa := hid (fun w => refAbs_any a w ha)
  have Ab := hid (fun w => refAbs_any b w hb)
  have hw : ∀ n : Int, IntKind.u64.wrap n = n % 18446744073709551616 := fun n => by simp [IntKind.wrap, IntKind.bits, IntKind.signed]
  have hdef : highR a b sa sb = if (sa && (minusN a != (sb && minusN b))) || (!sa && sb && minusN b) then (if (if sa then absN a else a) * (if sb then absN b else b) % 18446744073709551616 = 0 then negN ((if sa then absN a else a) * (if sb then absN b else b) / 18446744073709551616) else 18446744073709551615 - (if sa then absN a else a) * (if sb then absN b else b) / 18446744073709551616) else (if sa then absN a else a) * (if sb then absN b else b) / 18446744073709551616 := rfl
  have hX : (if sa then absN a else a) < 18446744073709551616 := by split <;> assumption
  have hY : (if sb then absN b else b) < 18446744073709551616 := by split <;> assumption
  have hhl : (if sa then absN a else a) * (if sb then absN b else b) / 18446744073709551616 < 18446744073709551616 := by rw [Nat.div_lt_iff_lt_mul (by decide)]; exact Nat.mul_lt_mul'' hX hY
  have Wd := hid (fun w => refWide_any _ _ w hX hY)
  generalize highR a b sa sb = r at *
  generalize minusN a = ma at *
  generalize minusN b = mb at *
  generalize absN a = A at *
  generalize absN b = B at *
  have hll : (if sa then A else a) * (if sb then B else b) % 18446744073709551616 < 18446744073709551616 := Nat.mod_lt _ (by decide)
  generalize (if sa then A else a) * (if sb then B else b) / 18446744073709551616 = h at *
  generalize (if sa then A else a) * (if sb then B else b) % 18446744073709551616 = l at *
  have Hneg : Hid (IntKind.u64.wrap (-(h : Int)) = ((negN h : Nat) : Int)) := hid (by rw [hw]; unfold negN; omega)
  have Hsub : Hid (18446744073709551615 - (h : Int) = ((18446744073709551615 - h : Nat) : Int)) := hid (by omega)
  have Hdef := hid hdef
  clear hdef hw hX hY ha hb hA hB
  go_enter Tryz.func120, Tryz.ntmps120
  cases sa <;> cases sb <;> cases ma <;> cases mb
  all_goals first
    | (exfalso; have := hs rfl; cases this; done)
    | skip
  all_goals clear hs
  all_goals
    go_wp2_with (first
      | (go_at_call 95; first
          | (refine (Ma.out _ rfl _).mono ?_; rintro e w1 ⟨rfl, rfl⟩)
          | (refine (Mb.out _ rfl _).mono ?_; rintro e w2 ⟨rfl, rfl⟩))
      | (go_at_call 141; first
          | (refine (Aa.out _).mono ?_; rintro e w1 ⟨rfl, rfl⟩)
          | (refine (Ab.out _).mono ?_; rintro e w2 ⟨rfl, rfl⟩))
      | (go_at_call 119; refine (Wd.out _).mono ?_; rintro e w3 ⟨rfl, rfl⟩))
  all_goals go_ret
  all_goals refine ⟨ret_int ?_, rfl⟩
  all_goals first
    | (rw [Hdef.out]; rfl)
    | (rename_i hl
       have hl0 : l = 0 := by simpa using hl
       rw [Hdef.out, if_pos (by decide), if_pos hl0]
       exact Hneg.out)
    | (rename_i hl
       have hl0 : l ≠ 0 := by simpa using hl
       rw [Hdef.out, if_pos (by decide), if_neg hl0]
       exact Hsub.out)
set_option maxHeartbeats 4000000 in
set_option maxRecDepth 100000 in
theorem refLow_any (a : Nat) (w : World) (ha : a < 18446744073709551616) :
    Calls Tryz.prog 93 #[.int .u64 a] w fun e w' => e = .returned (.int .u64 (lowN a)) ∧ w' = w := by
  have hv : lowN a = if 2147483648 ≤ a % 4294967296 then a % 4294967296 + (18446744073709551616 - 4294967296) else a % 4294967296 := (low_eq a).symm
  have Hx := hid hv
  clear hv
  generalize lowN a = r at *
  go_enter Tryz.func93, Tryz.ntmps93
  by_cases h : (2147483648 : Int) ≤ (a : Int) % 4294967296
  · have Hv : Hid (IntKind.u64.wrap ((a : Int) % 4294967296 - 4294967296) = (r : Int)) := hid (by
      have hw : ∀ n : Int, IntKind.u64.wrap n = n % 18446744073709551616 := fun n => by simp [IntKind.wrap, IntKind.bits, IntKind.signed]
      rw [Hx.out, if_pos (by omega), hw]; omega)
    go_wp2_with fail
    go_ret
    exact ⟨ret_int Hv.out, rfl⟩
  · have Hv : Hid ((a : Int) % 4294967296 = (r : Int)) := hid (by rw [Hx.out, if_neg (by omega)]; omega)
    go_wp2_with fail
    go_ret
    exact ⟨ret_int Hv.out, rfl⟩
set_option maxHeartbeats 4000000 in
set_option maxRecDepth 100000 in
theorem refDivide_u (a b : Nat) (w : World) (ha : a < 18446744073709551616) (hb : b < 18446744073709551616) :
    Calls Tryz.prog 116 #[.int .u64 a, .int .u64 b, .bool false] w fun e w' => e = .returned (.tuple #[.int .u64 (udivN a b), .int .u64 (uremN a b)]) ∧ ∃ m, w' = w.drewN m := by
  by_cases h : b = 0
  · subst h
    go_enter Tryz.func116, Tryz.ntmps116
    go_wp2_with fail
    go_ret2
    exact ⟨rfl, 0, rfl⟩
  · have hb0 : ((b : Int) == 0) = false := by rw [beq_eq_false_iff_ne]; omega
    have q1 : (a : Int) / (b : Int) = ((a / b : Nat) : Int) := (Int.natCast_ediv _ _).symm
    have q2 : (a : Int) % (b : Int) = ((a % b : Nat) : Int) := (Int.natCast_emod _ _).symm
    have l1 : a / b < 18446744073709551616 := Nat.lt_of_le_of_lt (Nat.div_le_self _ _) ha
    have l2 : a % b < 18446744073709551616 := Nat.lt_of_le_of_lt (Nat.mod_le _ _) ha
    have Hu : Hid (udivN a b = a / b) := hid (by unfold udivN; rw [if_neg h])
    have Hr : Hid (uremN a b = a % b) := hid (by unfold uremN; rw [if_neg h])
    generalize udivN a b = U at *
    generalize uremN a b = V at *
    generalize a / b = q at *
    generalize a % b = r at *
    go_enter Tryz.func116, Tryz.ntmps116
    go_wp2_with fail
    go_quiet (fail)
    go_wp2_with fail
    go_ret2
    refine ⟨ret_ii (by first | (rw [Hu.out]; done) | (rw [Hu.out]; exact q1)) (by first | (rw [Hr.out]; done) | (rw [Hr.out]; exact q2)), _, rfl⟩
set_option maxHeartbeats 4000000 in
set_option maxRecDepth 100000 in
theorem refDivide_s (a b : Nat) (w : World) (ha : a < 18446744073709551616) (hb : b < 18446744073709551616) :
    Calls Tryz.prog 116 #[.int .u64 a, .int .u64 b, .bool true] w fun e w' => e = .returned (.tuple #[.int .u64 (squoN a b), .int .u64 (sremN a b)]) ∧ ∃ m, w' = w.drewN m := by
  by_cases h : b = 0
  · subst h
    go_enter Tryz.func116, Tryz.ntmps116
    go_wp2_with fail
    go_ret2
    exact ⟨rfl, 0, rfl⟩
  · have hb0 : ((b : Int) == 0) = false := by rw [beq_eq_false_iff_ne]; omega
    have hq := quo_eq a b ha hb h
    have hr := rem_eq a b ha hb h
    have hA := absN_lt a ha
    have hB := absN_lt b hb
    have hB0 := absN_zero b hb h
    have Ma := hid (refMinus_at a)
    have Mb := hid (refMinus_at b)
    have Aa := hid (fun w => refAbs_any a w ha)
    have Ab := hid (fun w => refAbs_any b w hb)
    generalize absN a = A at *
    generalize absN b = B at *
    have q1 : (A : Int) / (B : Int) = ((A / B : Nat) : Int) := (Int.natCast_ediv _ _).symm
    have q2 : (A : Int) % (B : Int) = ((A % B : Nat) : Int) := (Int.natCast_emod _ _).symm
    have l1 : A / B < 18446744073709551616 := Nat.lt_of_le_of_lt (Nat.div_le_self _ _) hA
    have l2 : A % B < 18446744073709551616 := Nat.lt_of_le_of_lt (Nat.mod_le _ _) hA
    have hb1 : ((B : Int) == 0) = false := by rw [beq_eq_false_iff_ne]; omega
    have hw : ∀ n : Int, IntKind.u64.wrap n = n % 18446744073709551616 := fun n => by simp [IntKind.wrap, IntKind.bits, IntKind.signed]
    have hneg : ∀ n : Nat, IntKind.u64.wrap (-(n : Int)) = ((negN n : Nat) : Int) ∨ 18446744073709551616 ≤ n := fun n => by
      by_cases hn : n < 18446744073709551616
      · left; rw [hw]; unfold negN; omega
      · right; omega
    have Hq := hid hq
    have Hr := hid hr
    have Hnq : Hid (IntKind.u64.wrap (-((A / B : Nat) : Int)) = ((negN (A / B) : Nat) : Int)) := hid ((hneg (A / B)).resolve_right (by omega))
    have Hnr : Hid (IntKind.u64.wrap (-((A % B : Nat) : Int)) = ((negN (A % B) : Nat) : Int)) := hid ((hneg (A % B)).resolve_right (by omega))
    clear hq hr hw hneg
    generalize squoN a b = U at *
    generalize sremN a b = V at *
    generalize A / B = q at *
    generalize A % B = r at *
    generalize minusN a = ma at *
    generalize minusN b = mb at *
    go_enter Tryz.func116, Tryz.ntmps116
    go_wp2_with (fail)
    go_quiet ((go_at_call 141; first | exact Calls.quiet_of_same (Aa.out _) | exact Calls.quiet_of_same (Ab.out _)))
    clear Aa Ab
    cases ma <;> cases mb
    all_goals
      go_wp2_with (first
        | (go_at_call_of 95 (Value.int IntKind.u64 a); refine (Ma.out _ rfl _).mono ?_; rintro e w1 ⟨rfl, rfl⟩)
        | (go_at_call_of 95 (Value.int IntKind.u64 b); refine (Mb.out _ rfl _).mono ?_; rintro e w2 ⟨rfl, rfl⟩))
    all_goals go_ret2
    all_goals refine ⟨ret_ii ?_ ?_, _, rfl⟩
    all_goals first
      | (rw [Hq.out]; exact Hnq.out)
      | (rw [Hr.out]; exact Hnr.out)
      | (rw [Hq.out]; rfl)
      | (rw [Hr.out]; rfl)
      | (rw [Hq.out]; exact q1)
      | (rw [Hr.out]; exact q2)
end
end Go.Proofs.YtiemingpbommeaaGreatDoor
