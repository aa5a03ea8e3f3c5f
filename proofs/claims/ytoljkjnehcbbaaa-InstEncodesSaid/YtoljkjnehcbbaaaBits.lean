/- Plain law: a word that decodes is encoded again to itself. No program in sight but the functions decN and encN. -/
import Derived.Test.YtoljkjnehcbbaaaSpeaks
namespace Go.Proofs.Ytoljkjnehcbbaaa
open Go.RowKit
noncomputable section
set_option linter.unusedVariables false
set_option linter.unusedSimpArgs false

theorem or_lo (k a b : Nat) (h : a < 2 ^ k) (hb : b % 2 ^ k = 0) : a ||| b = a + b := by
  obtain ⟨q, rfl⟩ : ∃ q, b = 2 ^ k * q := ⟨b / 2 ^ k, by have := Nat.div_add_mod b (2 ^ k); omega⟩
  rw [Nat.or_comm, ← Nat.two_pow_add_eq_or_of_lt h, Nat.add_comm]

/-- the fields of a word of the forms with registers -/
theorem fields6 (x : Nat) (h : x < 4294967296) : x % 128 + (x / 128 % 32) * 128 + (x / 4096 % 8) * 4096 + (x / 32768 % 32) * 32768 + (x / 1048576 % 32) * 1048576 + (x / 33554432 % 128) * 33554432 = x := by omega

theorem or_R (p d c a b f : Nat) (hp : p < 128) (hd : d < 32) (hc : c < 8) (ha : a < 32) (hb : b < 32) :
    ((((((p ||| 0) ||| d * 128) ||| a * 32768) ||| b * 1048576) ||| f * 33554432) ||| c * 4096) = p + d * 128 + c * 4096 + a * 32768 + b * 1048576 + f * 33554432 := by
  have e : ((((((p ||| 0) ||| d * 128) ||| a * 32768) ||| b * 1048576) ||| f * 33554432) ||| c * 4096) = (((((p ||| d * 128) ||| c * 4096) ||| a * 32768) ||| b * 1048576) ||| f * 33554432) := by
    simp only [Nat.or_zero, Nat.zero_or]
    ac_rfl
  rw [e, or_lo 7 (p) (d * 128) (by omega) (by omega), or_lo 12 (p + d * 128) (c * 4096) (by omega) (by omega), or_lo 15 (p + d * 128 + c * 4096) (a * 32768) (by omega) (by omega), or_lo 20 (p + d * 128 + c * 4096 + a * 32768) (b * 1048576) (by omega) (by omega), or_lo 25 (p + d * 128 + c * 4096 + a * 32768 + b * 1048576) (f * 33554432) (by omega) (by omega)]

theorem or_H (p d c a i f : Nat) (hp : p < 128) (hd : d < 32) (hc : c < 8) (ha : a < 32) (hi : i < 64) :
    ((((((p ||| (0 ||| i * 1048576)) ||| d * 128) ||| a * 32768) ||| 0) ||| f * 67108864) ||| c * 4096) = p + d * 128 + c * 4096 + a * 32768 + i * 1048576 + f * 67108864 := by
  have e : ((((((p ||| (0 ||| i * 1048576)) ||| d * 128) ||| a * 32768) ||| 0) ||| f * 67108864) ||| c * 4096) = (((((p ||| d * 128) ||| c * 4096) ||| a * 32768) ||| i * 1048576) ||| f * 67108864) := by
    simp only [Nat.or_zero, Nat.zero_or]
    ac_rfl
  rw [e, or_lo 7 (p) (d * 128) (by omega) (by omega), or_lo 12 (p + d * 128) (c * 4096) (by omega) (by omega), or_lo 15 (p + d * 128 + c * 4096) (a * 32768) (by omega) (by omega), or_lo 20 (p + d * 128 + c * 4096 + a * 32768) (i * 1048576) (by omega) (by omega), or_lo 26 (p + d * 128 + c * 4096 + a * 32768 + i * 1048576) (f * 67108864) (by omega) (by omega)]

theorem or_K (p d c a i f : Nat) (hp : p < 128) (hd : d < 32) (hc : c < 8) (ha : a < 32) (hi : i < 32) :
    ((((((p ||| (0 ||| i * 1048576)) ||| d * 128) ||| a * 32768) ||| 0) ||| f * 33554432) ||| c * 4096) = p + d * 128 + c * 4096 + a * 32768 + i * 1048576 + f * 33554432 := by
  have e : ((((((p ||| (0 ||| i * 1048576)) ||| d * 128) ||| a * 32768) ||| 0) ||| f * 33554432) ||| c * 4096) = (((((p ||| d * 128) ||| c * 4096) ||| a * 32768) ||| i * 1048576) ||| f * 33554432) := by
    simp only [Nat.or_zero, Nat.zero_or]
    ac_rfl
  rw [e, or_lo 7 (p) (d * 128) (by omega) (by omega), or_lo 12 (p + d * 128) (c * 4096) (by omega) (by omega), or_lo 15 (p + d * 128 + c * 4096) (a * 32768) (by omega) (by omega), or_lo 20 (p + d * 128 + c * 4096 + a * 32768) (i * 1048576) (by omega) (by omega), or_lo 25 (p + d * 128 + c * 4096 + a * 32768 + i * 1048576) (f * 33554432) (by omega) (by omega)]

theorem or_I (p d c a i : Nat) (hp : p < 128) (hd : d < 32) (hc : c < 8) (ha : a < 32) :
    (((((p ||| (0 ||| i * 1048576)) ||| d * 128) ||| a * 32768) ||| 0) ||| c * 4096) = p + d * 128 + c * 4096 + a * 32768 + i * 1048576 := by
  have e : (((((p ||| (0 ||| i * 1048576)) ||| d * 128) ||| a * 32768) ||| 0) ||| c * 4096) = ((((p ||| d * 128) ||| c * 4096) ||| a * 32768) ||| i * 1048576) := by
    simp only [Nat.or_zero, Nat.zero_or]
    ac_rfl
  rw [e, or_lo 7 (p) (d * 128) (by omega) (by omega), or_lo 12 (p + d * 128) (c * 4096) (by omega) (by omega), or_lo 15 (p + d * 128 + c * 4096) (a * 32768) (by omega) (by omega), or_lo 20 (p + d * 128 + c * 4096 + a * 32768) (i * 1048576) (by omega) (by omega)]

theorem or_S (p l c a b h : Nat) (hp : p < 128) (hl : l < 32) (hc : c < 8) (ha : a < 32) (hb : b < 32) :
    (((((p ||| ((0 ||| h * 33554432) ||| l * 128)) ||| 0) ||| a * 32768) ||| b * 1048576) ||| c * 4096) = p + l * 128 + c * 4096 + a * 32768 + b * 1048576 + h * 33554432 := by
  have e : (((((p ||| ((0 ||| h * 33554432) ||| l * 128)) ||| 0) ||| a * 32768) ||| b * 1048576) ||| c * 4096) = (((((p ||| l * 128) ||| c * 4096) ||| a * 32768) ||| b * 1048576) ||| h * 33554432) := by
    simp only [Nat.or_zero, Nat.zero_or]
    ac_rfl
  rw [e, or_lo 7 (p) (l * 128) (by omega) (by omega), or_lo 12 (p + l * 128) (c * 4096) (by omega) (by omega), or_lo 15 (p + l * 128 + c * 4096) (a * 32768) (by omega) (by omega), or_lo 20 (p + l * 128 + c * 4096 + a * 32768) (b * 1048576) (by omega) (by omega), or_lo 25 (p + l * 128 + c * 4096 + a * 32768 + b * 1048576) (h * 33554432) (by omega) (by omega)]

theorem or_B (p s l c a b h t : Nat) (hp : p < 128) (hs : s < 2) (hl : l < 16) (hc : c < 8) (ha : a < 32) (hb : b < 32) (hh : h < 64) :
    (((((p ||| ((((0 ||| t * 2147483648) ||| s * 128) ||| h * 33554432) ||| l * 256)) ||| 0) ||| a * 32768) ||| b * 1048576) ||| c * 4096) = p + s * 128 + l * 256 + c * 4096 + a * 32768 + b * 1048576 + h * 33554432 + t * 2147483648 := by
  have e : (((((p ||| ((((0 ||| t * 2147483648) ||| s * 128) ||| h * 33554432) ||| l * 256)) ||| 0) ||| a * 32768) ||| b * 1048576) ||| c * 4096) = (((((((p ||| s * 128) ||| l * 256) ||| c * 4096) ||| a * 32768) ||| b * 1048576) ||| h * 33554432) ||| t * 2147483648) := by
    simp only [Nat.or_zero, Nat.zero_or]
    ac_rfl
  rw [e, or_lo 7 (p) (s * 128) (by omega) (by omega), or_lo 8 (p + s * 128) (l * 256) (by omega) (by omega), or_lo 12 (p + s * 128 + l * 256) (c * 4096) (by omega) (by omega), or_lo 15 (p + s * 128 + l * 256 + c * 4096) (a * 32768) (by omega) (by omega), or_lo 20 (p + s * 128 + l * 256 + c * 4096 + a * 32768) (b * 1048576) (by omega) (by omega), or_lo 25 (p + s * 128 + l * 256 + c * 4096 + a * 32768 + b * 1048576) (h * 33554432) (by omega) (by omega), or_lo 31 (p + s * 128 + l * 256 + c * 4096 + a * 32768 + b * 1048576 + h * 33554432) (t * 2147483648) (by omega) (by omega)]

theorem or_U (p d i : Nat) (hp : p < 128) (hd : d < 32) :
    ((((p ||| (0 ||| i * 4096)) ||| d * 128) ||| 0) ||| 0) = p + d * 128 + i * 4096 := by
  have e : ((((p ||| (0 ||| i * 4096)) ||| d * 128) ||| 0) ||| 0) = ((p ||| d * 128) ||| i * 4096) := by
    simp only [Nat.or_zero, Nat.zero_or]
    ac_rfl
  rw [e, or_lo 7 (p) (d * 128) (by omega) (by omega), or_lo 12 (p + d * 128) (i * 4096) (by omega) (by omega)]

theorem or_J (p d l s h t : Nat) (hp : p < 128) (hd : d < 32) (hl : l < 256) (hs : s < 2) (hh : h < 1024) :
    ((((p ||| ((((0 ||| t * 2147483648) ||| l * 4096) ||| s * 1048576) ||| h * 2097152)) ||| d * 128) ||| 0) ||| 0) = p + d * 128 + l * 4096 + s * 1048576 + h * 2097152 + t * 2147483648 := by
  have e : ((((p ||| ((((0 ||| t * 2147483648) ||| l * 4096) ||| s * 1048576) ||| h * 2097152)) ||| d * 128) ||| 0) ||| 0) = (((((p ||| d * 128) ||| l * 4096) ||| s * 1048576) ||| h * 2097152) ||| t * 2147483648) := by
    simp only [Nat.or_zero, Nat.zero_or]
    ac_rfl
  rw [e, or_lo 7 (p) (d * 128) (by omega) (by omega), or_lo 12 (p + d * 128) (l * 4096) (by omega) (by omega), or_lo 20 (p + d * 128 + l * 4096) (s * 1048576) (by omega) (by omega), or_lo 21 (p + d * 128 + l * 4096 + s * 1048576) (h * 2097152) (by omega) (by omega), or_lo 31 (p + d * 128 + l * 4096 + s * 1048576 + h * 2097152) (t * 2147483648) (by omega) (by omega)]

theorem or_N (p f : Nat) (hp : p < 128) :
    (((((p ||| 0) ||| 0) ||| 0) ||| 0) ||| f * 1048576) = p + f * 1048576 := by
  have e : (((((p ||| 0) ||| 0) ||| 0) ||| 0) ||| f * 1048576) = (p ||| f * 1048576) := by
    simp only [Nat.or_zero, Nat.zero_or]
  rw [e, or_lo 20 (p) (f * 1048576) (by omega) (by omega)]

theorem acc_J (h s l t : Nat) (hh : h < 1024) (hs : s < 2) (hl : l < 256) :
    ((((0 ||| t * 1048576) ||| l * 4096) ||| s * 2048) ||| h * 2) = h * 2 + s * 2048 + l * 4096 + t * 1048576 := by
  have e : ((((0 ||| t * 1048576) ||| l * 4096) ||| s * 2048) ||| h * 2) = (((h * 2 ||| s * 2048) ||| l * 4096) ||| t * 1048576) := by
    simp only [Nat.zero_or]
    ac_rfl
  rw [e, or_lo 11 (h * 2) (s * 2048) (by omega) (by omega), or_lo 12 (h * 2 + s * 2048) (l * 4096) (by omega) (by omega), or_lo 20 (h * 2 + s * 2048 + l * 4096) (t * 1048576) (by omega) (by omega)]

theorem acc_B (l h s t : Nat) (hl : l < 16) (hh : h < 64) (hs : s < 2) :
    ((((0 ||| t * 4096) ||| s * 2048) ||| h * 32) ||| l * 2) = l * 2 + h * 32 + s * 2048 + t * 4096 := by
  have e : ((((0 ||| t * 4096) ||| s * 2048) ||| h * 32) ||| l * 2) = (((l * 2 ||| h * 32) ||| s * 2048) ||| t * 4096) := by
    simp only [Nat.zero_or]
    ac_rfl
  rw [e, or_lo 5 (l * 2) (h * 32) (by omega) (by omega), or_lo 11 (l * 2 + h * 32) (s * 2048) (by omega) (by omega), or_lo 12 (l * 2 + h * 32 + s * 2048) (t * 4096) (by omega) (by omega)]

theorem acc_S (l h : Nat) (hl : l < 32) :
    ((0 ||| h * 32) ||| l * 1) = l * 1 + h * 32 := by
  have e : ((0 ||| h * 32) ||| l * 1) = (l * 1 ||| h * 32) := by
    simp only [Nat.zero_or]
    ac_rfl
  rw [e, or_lo 5 (l * 1) (h * 32) (by omega) (by omega)]

/-- the word as a natural number -/
def encNat (l : Int) (o f3 f7 la pd pa pb : Nat) : Nat :=
  if l = 82 ∨ l = 72 ∨ l = 75 then (((((o ||| la) ||| pd) ||| pa) ||| pb) ||| f7 * 33554432) ||| f3 * 4096
  else if l = 73 ∨ l = 66 ∨ l = 83 then ((((o ||| la) ||| pd) ||| pa) ||| pb) ||| f3 * 4096
  else if l = 78 then ((((o ||| la) ||| pd) ||| pa) ||| pb) ||| f7 * 1048576
  else (((o ||| la) ||| pd) ||| pa) ||| pb

theorem placedN_lt (x : Int) (f : Nat) (hf : f ≤ 25) : placedN x f < 2 ^ 32 := by
  have hp : (2 : Nat) ^ f ≤ 2 ^ 25 := Nat.pow_le_pow_right (by omega) hf
  have h1 : (x % 32).toNat ≤ 31 := by omega
  have := Nat.mul_le_mul h1 hp
  unfold placedN; omega

theorem encI_nat (nm : List UInt8) (l : Int) (o f3 f7 : Nat) (d a b n : Int) (ho : o < 128) (h3 : f3 < 8) (h7 : f7 < 128) :
    encI (nm, l, o, f3, f7) d a b n = (encNat l o f3 f7 (laidN l n) (placedN d 7) (placedN a 15) (placedN b 20) : Nat) := by
  have hla := laidN_lt l n
  have hd := placedN_lt d 7 (by omega)
  have ha := placedN_lt a 15 (by omega)
  have hb := placedN_lt b 20 (by omega)
  have e3 : ((f3 : Int) * 4096 % 4294967296) = ((f3 * 4096 : Nat) : Int) := by omega
  have e7 : ((f7 : Int) * 33554432 % 4294967296) = ((f7 * 33554432 : Nat) : Int) := by omega
  have e7' : ((f7 : Int) * 1048576 % 4294967296) = ((f7 * 1048576 : Nat) : Int) := by omega
  have w1 : (o ||| laidN l n) < 2 ^ 32 := Nat.or_lt_two_pow (by omega) (by omega)
  have w2 : ((o ||| laidN l n) ||| placedN d 7) < 2 ^ 32 := Nat.or_lt_two_pow w1 hd
  have w3 : (((o ||| laidN l n) ||| placedN d 7) ||| placedN a 15) < 2 ^ 32 := Nat.or_lt_two_pow w2 ha
  have w4 : ((((o ||| laidN l n) ||| placedN d 7) ||| placedN a 15) ||| placedN b 20) < 2 ^ 32 := Nat.or_lt_two_pow w3 hb
  have w5 : (((((o ||| laidN l n) ||| placedN d 7) ||| placedN a 15) ||| placedN b 20) ||| f7 * 33554432) < 2 ^ 32 := Nat.or_lt_two_pow w4 (by omega)
  unfold encI encNat
  simp only [e3, e7, e7']
  rw [or32 _ _ (by omega) (by omega), or32 _ _ w1 hd, or32 _ _ w2 ha, or32 _ _ w3 hb]
  split
  · rw [or32 _ _ w4 (by omega), or32 _ _ w5 (by omega)]
  · split
    · rw [or32 _ _ w4 (by omega)]
    · split
      · rw [or32 _ _ w4 (by omega)]
      · rfl

/-- the table's rows are in their bounds -/
def rowOk (r : List UInt8 × Int × Int × Int × Int) : Bool :=
  decide (0 ≤ r.2.2.1) && decide (r.2.2.1 < 128) && decide (0 ≤ r.2.2.2.1) && decide (r.2.2.2.1 < 8) && decide (0 ≤ r.2.2.2.2) && decide (r.2.2.2.2 < 128) &&
  (r.2.1 == 85 || r.2.1 == 74 || r.2.1 == 73 || r.2.1 == 66 || r.2.1 == 83 || (r.2.1 == 72 && r.2.2.2.2 % 2 == 0) || r.2.1 == 75 || r.2.1 == 82 || (r.2.1 == 78 && decide (r.2.2.2.2 < 2)))
theorem table_rows : table.all rowOk = true := by decide +kernel

theorem row_nat (i : Nat) (hi : i < 64) : ∃ (nm : List UInt8) (l : Int) (o f3 f7 : Nat), formAt i = (nm, l, (o : Int), (f3 : Int), (f7 : Int)) ∧ o < 128 ∧ f3 < 8 ∧ f7 < 128 ∧
    (l = 85 ∨ l = 74 ∨ l = 73 ∨ l = 66 ∨ l = 83 ∨ (l = 72 ∧ f7 % 2 = 0) ∨ l = 75 ∨ l = 82 ∨ (l = 78 ∧ f7 < 2)) := by
  have h := List.all_eq_true.1 table_rows _ (formAt_mem i hi)
  generalize formAt i = r at *
  obtain ⟨nm, l, o, f3, f7⟩ := r
  simp only [rowOk, Bool.and_eq_true, Bool.or_eq_true, decide_eq_true_eq, beq_iff_eq] at h
  obtain ⟨⟨⟨⟨⟨⟨h1, h2⟩, h3⟩, h4⟩, h5⟩, h6⟩, h7⟩ := h
  refine ⟨nm, l, o.toNat, f3.toNat, f7.toNat, ?_, by omega, by omega, by omega, by omega⟩
  rw [Int.toNat_of_nonneg h1, Int.toNat_of_nonneg h3, Int.toNat_of_nonneg h5]

theorem u_low (acc b : Nat) (hb : 1 ≤ b) (hb2 : b ≤ 63) : u64N (wrap64 (extN acc b : Nat)) = extN acc b := by
  have h1 : acc % 2 ^ b < 2 ^ b := Nat.mod_lt _ (Nat.two_pow_pos b)
  have h2 : (2 : Nat) ^ b ≤ 2 ^ 63 := Nat.pow_le_pow_right (by omega) hb2
  have h3 : extN acc b < 18446744073709551616 := by unfold extN; split <;> omega
  unfold u64N wrap64
  omega

theorem u_zero (acc : Nat) (h : acc < 18446744073709551616) : u64N (wrap64 (acc : Nat)) = acc := by
  unfold u64N wrap64
  omega

theorem fits_op (l o f3 f7 : Int) (x : Nat) (h : fitsB l o f3 f7 x = true) : ((x % 128 : Nat) : Int) = o := by
  unfold fitsB at h
  split at h
  · cases h
  · rename_i hc
    have := Decidable.not_not.1 hc
    simpa [fieldN] using this

theorem fits_f3 (l o f3 f7 : Int) (x : Nat) (h : fitsB l o f3 f7 x = true) (h1 : l ≠ 85) (h2 : l ≠ 74) (h3 : l ≠ 78) : ((x / 4096 % 8 : Nat) : Int) = f3 := by
  unfold fitsB at h
  split at h
  · cases h
  · simp only [h1, h2, h3, or_self, if_false] at h
    split at h
    · simp only [Bool.and_eq_true, beq_iff_eq] at h
      simpa [fieldN] using h.1
    · split at h
      · simp only [Bool.and_eq_true, beq_iff_eq] at h
        simpa [fieldN] using h.1
      · rw [beq_iff_eq] at h
        simpa [fieldN] using h

theorem fits_f7 (l o f3 f7 : Int) (x : Nat) (h : fitsB l o f3 f7 x = true) (hl : l = 82 ∨ l = 75) : ((x / 33554432 % 128 : Nat) : Int) = f7 := by
  unfold fitsB at h
  split at h
  · cases h
  · rcases hl with rfl | rfl
    all_goals
      simp at h
      simpa [fieldN] using h.2

theorem fits_f6 (o f3 f7 : Int) (x : Nat) (h : fitsB 72 o f3 f7 x = true) : ((x / 67108864 % 64 : Nat) : Int) = f7 / 2 := by
  unfold fitsB at h
  split at h
  · cases h
  · simp at h
    simpa [fieldN] using h.2

theorem fits_n (o f7 : Nat) (f3 : Int) (x : Nat) (h : fitsB 78 o f3 f7 x = true) (ho : o < 128) (h7 : f7 < 128) : x = o + f7 * 1048576 := by
  unfold fitsB at h
  split at h
  · cases h
  · simp at h
    rw [show ((f7 : Int) * 1048576 % 4294967296) = ((f7 * 1048576 : Nat) : Int) by omega, or32 _ _ (by omega) (by omega), or_lo 20 _ _ (by omega) (by omega)] at h
    omega

end
end Go.Proofs.Ytoljkjnehcbbaaa
