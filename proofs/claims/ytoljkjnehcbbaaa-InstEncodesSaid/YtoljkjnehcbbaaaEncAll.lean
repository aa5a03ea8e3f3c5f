/- Plain law: what Decode answers, Encode takes back. -/
import Derived.Test.YtoljkjnehcbbaaaEncDec
namespace Go.Proofs.Ytoljkjnehcbbaaa
open Go.RowKit
noncomputable section
set_option linter.unusedVariables false
set_option linter.unusedSimpArgs false

theorem reg_t (x f : Nat) : registerN x f true = fieldN x f 5 := rfl
theorem reg_f (x f : Nat) : registerN x f false = 0 := rfl

theorem enc_dec_at (x i : Nat) (hi : i < 64) (hx : x < 4294967296) (hf : fitsAt x i = true) :
    encI (formAt i) (registerN x 7 (hasB (formAt i).2.1).1) (registerN x 15 (hasB (formAt i).2.1).2.1) (registerN x 20 (hasB (formAt i).2.1).2.2) (numI (formAt i).2.1 x) = x := by
  obtain ⟨nm, l, o, f3, f7, e, ho, h3, h7, hl⟩ := row_nat i hi
  unfold fitsAt at hf
  rw [e] at hf ⊢
  simp only at hf ⊢
  have hop : x % 128 = o := by have := fits_op _ _ _ _ _ hf; omega
  rcases hl with rfl | rfl | rfl | rfl | rfl | ⟨rfl, hev⟩ | rfl | rfl | ⟨rfl, hlt⟩
  · rw [show hasB 85 = (true, false, false) by decide]
    exact enc_U x o f3 f7 nm hx ho h3 h7 hop
  · rw [show hasB 74 = (true, false, false) by decide]
    exact enc_J x o f3 f7 nm hx ho h3 h7 hop
  · rw [show hasB 73 = (true, true, false) by decide]
    have hf3 : x / 4096 % 8 = f3 := by have := fits_f3 _ _ _ _ _ hf (by decide) (by decide) (by decide); omega
    exact enc_I x o f3 f7 nm hx ho h3 h7 hop hf3
  · rw [show hasB 66 = (false, true, true) by decide]
    have hf3 : x / 4096 % 8 = f3 := by have := fits_f3 _ _ _ _ _ hf (by decide) (by decide) (by decide); omega
    exact enc_B x o f3 f7 nm hx ho h3 h7 hop hf3
  · rw [show hasB 83 = (false, true, true) by decide]
    have hf3 : x / 4096 % 8 = f3 := by have := fits_f3 _ _ _ _ _ hf (by decide) (by decide) (by decide); omega
    exact enc_S x o f3 f7 nm hx ho h3 h7 hop hf3
  · rw [show hasB 72 = (true, true, false) by decide]
    have hf3 : x / 4096 % 8 = f3 := by have := fits_f3 _ _ _ _ _ hf (by decide) (by decide) (by decide); omega
    have hf6 : x / 67108864 % 64 = f7 / 2 := by have := fits_f6 _ _ _ _ hf; omega
    exact enc_H x o f3 f7 nm hx ho h3 h7 hop hf3 hev hf6
  · rw [show hasB 75 = (true, true, false) by decide]
    have hf3 : x / 4096 % 8 = f3 := by have := fits_f3 _ _ _ _ _ hf (by decide) (by decide) (by decide); omega
    have hf7 : x / 33554432 % 128 = f7 := by have := fits_f7 _ _ _ _ _ hf (.inr rfl); omega
    exact enc_K x o f3 f7 nm hx ho h3 h7 hop hf3 hf7
  · rw [show hasB 82 = (true, true, true) by decide]
    have hf3 : x / 4096 % 8 = f3 := by have := fits_f3 _ _ _ _ _ hf (by decide) (by decide) (by decide); omega
    have hf7 : x / 33554432 % 128 = f7 := by have := fits_f7 _ _ _ _ _ hf (.inl rfl); omega
    exact enc_R x o f3 f7 nm hx ho h3 h7 hop hf3 hf7
  · rw [show hasB 78 = (false, false, false) by decide]
    exact enc_N x o f3 f7 nm hx ho h3 h7 hop (fits_n _ _ _ _ hf ho h7)

theorem firstOf_cases (p : Nat → Bool) : (firstOf p = -1 ∧ ∀ i, i < 64 → p i = false) ∨ ∃ i : Nat, i < 64 ∧ firstOf p = (i : Int) ∧ p i = true ∧ ∀ j, j < i → p j = false := by
  unfold firstOf
  cases h : (List.range 64).find? p with
  | none =>
    refine .inl ⟨rfl, fun i hi => ?_⟩
    have := List.find?_eq_none.1 h i (List.mem_range.2 hi)
    simpa using this
  | some i =>
    rw [List.find?_range_eq_some] at h
    obtain ⟨hp, hi, hno⟩ := h
    exact .inr ⟨i, List.mem_range.1 hi, rfl, hp, fun j hj => by simpa using hno j hj⟩

theorem firstOf_at (p : Nat → Bool) (i : Nat) (hi : i < 64) (hp : p i = true) (hno : ∀ j, j < i → p j = false) : firstOf p = i := by
  rcases firstOf_cases p with ⟨_, h⟩ | ⟨k, hk, e, hpk, hnk⟩
  · rw [h i hi] at hp; cases hp
  · rw [e]
    rcases Nat.lt_trichotomy i k with h | h | h
    · rw [hnk i h] at hp; cases hp
    · rw [h]
    · rw [hno k h] at hpk; cases hpk

/-- a form's answer for a word -/
def decAt (x i : Nat) : Int × Int × Int × Int × Int :=
  ((i : Int), registerN x 7 (hasB (formAt i).2.1).1, registerN x 15 (hasB (formAt i).2.1).2.1, registerN x 20 (hasB (formAt i).2.1).2.2, numI (formAt i).2.1 x)

theorem decN_at (x i : Nat) (hi : i < 64) (hp : fitsAt x i = true) (hno : ∀ j, j < i → fitsAt x j = false) : decN x = (decAt x i, true) := by
  unfold decN
  rw [firstOf_at _ i hi hp hno, if_neg (by omega)]
  rfl

theorem decN_cases (x : Nat) : (decN x = ((0, 0, 0, 0, 0), false) ∧ ∀ i, i < 64 → fitsAt x i = false) ∨ ∃ i : Nat, i < 64 ∧ fitsAt x i = true ∧ (∀ j, j < i → fitsAt x j = false) ∧ decN x = (decAt x i, true) := by
  rcases firstOf_cases (fitsAt x) with ⟨e, h⟩ | ⟨i, hi, e, hp, hno⟩
  · refine .inl ⟨?_, h⟩
    unfold decN
    rw [e, if_pos (by decide)]
  · exact .inr ⟨i, hi, hp, hno, decN_at x i hi hp hno⟩

theorem dec_enc (x : Nat) (o d a b n : Int) (hx : x < 4294967296) (h : decN x = ((o, d, a, b, n), true)) : encV o d a b n = (x, true) := by
  rcases decN_cases x with ⟨e, _⟩ | ⟨i, hi, hp, hno, e⟩
  · rw [e] at h; simp at h
  · have h' := e.symm.trans h
    unfold decAt at h'
    simp only [Prod.mk.injEq, and_true] at h'
    obtain ⟨rfl, rfl, rfl, rfl, rfl⟩ := h'
    have hx' := enc_dec_at x i hi hx hp
    have he : encN i (registerN x 7 (hasB (formAt i).2.1).1) (registerN x 15 (hasB (formAt i).2.1).2.1) (registerN x 20 (hasB (formAt i).2.1).2.2) (numI (formAt i).2.1 x) = x := by
      unfold encN
      rw [Int.toNat_natCast, hx', Int.toNat_natCast]
    unfold encV
    rw [he, if_pos ⟨by omega, by omega, h⟩]
end
end Go.Proofs.Ytoljkjnehcbbaaa
