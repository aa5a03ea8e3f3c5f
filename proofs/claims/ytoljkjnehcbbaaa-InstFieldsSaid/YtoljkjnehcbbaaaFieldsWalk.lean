/- InstFields: the plain law of one field, and the walk. -/
import Derived.Test.YtoljkjnehcbbaaaEncAll
import Derived.Test.YtoljkjnehcbbaaaApartWalk
import Derived.Test.YtoljkjnehcbbaaaForm
namespace Go.Proofs.Ytoljkjnehcbbaaa
open Go.RowKit
noncomputable section
set_option linter.unusedVariables false
set_option linter.unusedSimpArgs false

/-- a word with another number in its field of five bits from 7 on -/
def put7 (x d : Nat) : Nat := x % 128 + d * 128 + x / 4096 * 4096

theorem put7_lt (x d : Nat) (hx : x < 4294967296) (hd : d < 32) : put7 x d < 4294967296 := by unfold put7; omega
theorem put7_lo (x d : Nat) (hd : d < 32) : put7 x d % 128 = x % 128 := by unfold put7; omega
theorem put7_hi (x d : Nat) (hd : d < 32) : put7 x d / 4096 = x / 4096 := by unfold put7; omega
theorem put7_mid (x d : Nat) (hd : d < 32) : put7 x d / 128 % 32 = d := by unfold put7; omega

theorem fieldN_put (x y f n : Nat) (h2 : y / 4096 = x / 4096) (hf : 12 ≤ f) : fieldN y f n = fieldN x f n := by
  unfold fieldN
  have e : (2 : Nat) ^ f = 4096 * 2 ^ (f - 12) := by
    rw [show (4096 : Nat) = 2 ^ 12 by decide, ← Nat.pow_add, show 12 + (f - 12) = f by omega]
  rw [e, ← Nat.div_div_eq_div_mul, ← Nat.div_div_eq_div_mul, h2]

theorem fitsB_put (l o f3 f7 : Int) (x y : Nat) (h78 : l ≠ 78) (h1 : y % 128 = x % 128) (h2 : y / 4096 = x / 4096) : fitsB l o f3 f7 y = fitsB l o f3 f7 x := by
  have e0 : fieldN y 0 7 = fieldN x 0 7 := by simpa [fieldN] using h1
  have e1 : fieldN y 12 3 = fieldN x 12 3 := fieldN_put x y 12 3 h2 (by omega)
  have e2 : fieldN y 25 7 = fieldN x 25 7 := fieldN_put x y 25 7 h2 (by omega)
  have e3 : fieldN y 26 6 = fieldN x 26 6 := fieldN_put x y 26 6 h2 (by omega)
  unfold fitsB
  rw [e0, e1, e2, e3]
  simp only [h78, if_false]

theorem letter_78 : (table.take 62).all (fun r => r.2.1 != 78) = true ∧ (table.drop 62).all (fun r => r.2.1 == 78) = true := by decide +kernel

theorem formAt_small (i : Nat) (hi : i < 62) : (formAt i).2.1 ≠ 78 := by
  have h := letter_78.1
  rw [List.all_eq_true] at h
  have hl : table.length = 64 := by decide
  have : formAt i ∈ table.take 62 := by
    unfold formAt
    rw [List.mem_take_iff_getElem]
    refine ⟨i, by omega, ?_⟩
    rw [getD_at _ _ _ (by omega)]
  simpa using h _ this

theorem formAt_big (i : Nat) (hi : i < 64) (h62 : 62 ≤ i) : (formAt i).2.1 = 78 := by
  have h := letter_78.2
  rw [List.all_eq_true] at h
  have hl : table.length = 64 := by decide
  have : formAt i ∈ table.drop 62 := by
    unfold formAt
    rw [List.mem_drop_iff_getElem]
    refine ⟨i - 62, by omega, ?_⟩
    rw [getD_at _ _ _ (by omega)]
    congr 1
    omega
  simpa using h _ this

theorem numI_put (l : Int) (x y : Nat) (hb : l ≠ 66) (hs : l ≠ 83) (h2 : y / 4096 = x / 4096) : numI l y = numI l x := by
  have g : ∀ f n, 12 ≤ f → fieldN y f n = fieldN x f n := fun f n => fieldN_put x y f n h2
  have k : ∀ ps : List (Nat × Nat × Nat), (∀ p ∈ ps, 12 ≤ p.1) → numAcc y ps = numAcc x ps := by
    intro ps hp
    unfold numAcc
    generalize 0 = n0
    induction ps generalizing n0 with
    | nil => rfl
    | cons p ps ih =>
      simp only [List.foldl_cons]
      rw [g p.1 p.2.1 (hp p (by simp))]
      exact ih (fun q hq => hp q (List.mem_cons_of_mem _ hq)) _
  have hm : ∀ p ∈ (piecesOf l).1, 12 ≤ p.1 := by
    unfold piecesOf
    repeat' split
    all_goals first | contradiction | (intro p hp; simp at hp; rcases hp with rfl | rfl | rfl | rfl <;> omega) | (intro p hp; simp at hp; subst hp; omega) | (intro p hp; simp at hp)
  unfold numI
  rw [k _ hm]

theorem dec_put (x d0 : Nat) (o d a b n : Int) (hx : x < 4294967296) (hd : d0 < 32) (h : decN x = ((o, d, a, b, n), true)) (h1 : letterI o ≠ 66) (h2 : letterI o ≠ 83) (h3 : letterI o ≠ 78) :
    d = (x / 128 % 32 : Nat) ∧ decN (put7 x d0) = ((o, (d0 : Int), a, b, n), true) := by
  rcases decN_cases x with ⟨e, _⟩ | ⟨i, hi, hp, hno, e⟩
  · rw [e] at h; simp at h
  · have h' := e.symm.trans h
    unfold decAt at h'
    simp only [Prod.mk.injEq, and_true] at h'
    obtain ⟨rfl, rfl, rfl, rfl, rfl⟩ := h'
    have el : letterI i = (formAt i).2.1 := by unfold letterI; rw [if_pos ⟨by omega, by omega⟩, Int.toNat_natCast]
    rw [el] at h1 h2 h3
    have h62 : i < 62 := by
      rcases Nat.lt_or_ge i 62 with h | h
      · exact h
      · exact absurd (formAt_big i hi h) h3
    have hl := put7_lo x d0 hd
    have hh := put7_hi x d0 hd
    have hfit : ∀ j, j < 62 → fitsAt (put7 x d0) j = fitsAt x j := fun j hj => fitsB_put _ _ _ _ x (put7 x d0) (formAt_small j hj) hl hh
    have hD := decN_at (put7 x d0) i hi (by rw [hfit i h62]; exact hp) (fun j hj => by rw [hfit j (by omega)]; exact hno j hj)
    have hhas : (hasB (formAt i).2.1).1 = true := by
      obtain ⟨nm, l, p, f3, f7, e, _, _, _, hl⟩ := row_nat i hi
      rw [e] at h1 h2 h3 ⊢
      simp only at h1 h2 h3 ⊢
      rcases hl with rfl | rfl | rfl | rfl | rfl | ⟨rfl, _⟩ | rfl | rfl | ⟨rfl, _⟩
      all_goals first | contradiction | decide
    constructor
    · rw [hhas, reg_t]; simp [fieldN]
    · rw [hD]
      unfold decAt
      have r7 : registerN (put7 x d0) 7 (hasB (formAt i).2.1).1 = d0 := by
        rw [hhas, reg_t]; simp only [fieldN]; exact put7_mid x d0 hd
      have r15 : ∀ c, registerN (put7 x d0) 15 c = registerN x 15 c := by
        intro c; unfold registerN; rw [fieldN_put x (put7 x d0) 15 5 hh (by omega)]
      have r20 : ∀ c, registerN (put7 x d0) 20 c = registerN x 20 c := by
        intro c; unfold registerN; rw [fieldN_put x (put7 x d0) 20 5 hh (by omega)]
      rw [r7, r15, r20, numI_put _ x (put7 x d0) h1 h2 hh]

theorem and_lo_hi (x : Nat) (hx : x < 4294967296) : x &&& 4294963327 = x % 128 + x / 4096 * 4096 := by
  have e : (4294963327 : Nat) = 127 ||| (1048575 <<< 12) := by decide
  rw [e, Nat.and_or_distrib_left]
  have h1 : x &&& 127 = x % 128 := Nat.and_two_pow_sub_one_eq_mod x 7
  have h2 : x &&& (1048575 <<< 12) = x / 4096 * 4096 := by
    have e2 : x / 4096 * 4096 = (x >>> 12) <<< 12 := by rw [Nat.shiftLeft_eq, Nat.shiftRight_eq_div_pow]
    rw [e2]
    apply Nat.eq_of_testBit_eq
    intro i
    rw [Nat.testBit_and, Nat.testBit_shiftLeft, Nat.testBit_shiftLeft, Nat.testBit_shiftRight, show (1048575 : Nat) = 2 ^ 20 - 1 by decide, Nat.testBit_two_pow_sub_one]
    by_cases h : 12 ≤ i
    · rw [show 12 + (i - 12) = i by omega]
      by_cases h3 : i - 12 < 20
      · simp [h, h3]
      · have : x.testBit i = false := Nat.testBit_lt_two_pow (Nat.lt_of_lt_of_le hx (Nat.pow_le_pow_right (n := 2) (i := 32) (by omega) (by omega)))
        simp [this]
    · simp [h]
  rw [h1, h2]
  exact or_lo 12 _ _ (by omega) (by omega)

/-- the word that the law builds -/
theorem put7_bits (x d : Nat) (hx : x < 4294967296) (hd : d < 32) : bits .or .u32 (bits .andNot .u32 (x : Int) 3968) ((d : Int) * 128) = (put7 x d : Nat) := by
  rw [show bits .andNot .u32 (x : Int) 3968 = ((x &&& 4294963327 : Nat) : Int) by
    have := u32_andNot (x : Int) 3968 (by omega) (by omega) (by omega) (by omega)
    simpa using this]
  rw [show ((d : Int) * 128) = ((d * 128 : Nat) : Int) by omega, or32 _ _ (Nat.lt_of_le_of_lt Nat.and_le_left hx) (by omega), and_lo_hi x hx]
  congr 1
  unfold put7
  rw [or_lo 12 (x % 128) (x / 4096 * 4096) (by omega) (by omega) |>.symm, Nat.or_comm (x % 128), Nat.or_assoc, or_lo 7 (x % 128) (d * 128) (by omega) (by omega), Nat.or_comm, or_lo 12 _ _ (by omega) (by omega)]
end
end Go.Proofs.Ytoljkjnehcbbaaa
