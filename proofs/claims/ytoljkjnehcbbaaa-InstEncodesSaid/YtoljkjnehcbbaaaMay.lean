/- Plain law: an instruction goes into a word just where it may. -/
import Derived.Test.YtoljkjnehcbbaaaRefImm
import Derived.Test.YtoljkjnehcbbaaaApartWalk
namespace Go.Proofs.Ytoljkjnehcbbaaa
open Go.RowKit
noncomputable section
set_option linter.unusedVariables false
set_option linter.unusedSimpArgs false
set_option maxHeartbeats 4000000

/-- two rows that no word fits together -/
def clash (r s : List UInt8 × Int × Int × Int × Int) : Bool :=
  (r.2.2.1 != s.2.2.1) ||
  (r.2.1 != 85 && r.2.1 != 74 && r.2.1 != 78 && s.2.1 != 85 && s.2.1 != 74 && s.2.1 != 78 && (r.2.2.2.1 != s.2.2.2.1)) ||
  ((r.2.1 == 82 || r.2.1 == 75) && (s.2.1 == 82 || s.2.1 == 75) && (r.2.2.2.2 != s.2.2.2.2)) ||
  (r.2.1 == 72 && s.2.1 == 72 && (r.2.2.2.2 / 2 != s.2.2.2.2 / 2)) ||
  (r.2.1 == 78 && s.2.1 == 78 && (r.2.2.2.2 != s.2.2.2.2))
theorem table_clash : (List.range 64).all (fun i => (List.range 64).all fun j => i == j || clash (formAt i) (formAt j)) = true := by decide +kernel

theorem fits_n' (o f3 f7 : Int) (x : Nat) (h : fitsB 78 o f3 f7 x = true) : (x : Int) = bits .or .u32 o (f7 * 1048576 % 4294967296) := by
  unfold fitsB at h
  split at h
  · cases h
  · simpa using h

theorem fits_one (x i j : Nat) (hi : i < 64) (hj : j < 64) (h1 : fitsAt x i = true) (h2 : fitsAt x j = true) : i = j := by
  have := List.all_eq_true.1 (List.all_eq_true.1 table_clash i (List.mem_range.2 hi)) j (List.mem_range.2 hj)
  rw [Bool.or_eq_true, beq_iff_eq] at this
  rcases this with h | h
  · exact h
  · exfalso
    obtain ⟨nm, l, o, f3, f7, e, ho, h3, h7, hl⟩ := row_nat i hi
    obtain ⟨nm', l', o', f3', f7', e', ho', h3', h7', hl'⟩ := row_nat j hj
    unfold fitsAt at h1 h2
    rw [e] at h1 h
    rw [e'] at h2 h
    simp only [clash, Bool.or_eq_true, Bool.and_eq_true, bne_iff_ne, beq_iff_eq] at h
    simp only at h1 h2
    have a1 := fits_op _ _ _ _ _ h1
    have a2 := fits_op _ _ _ _ _ h2
    rcases h with (((h | h) | h) | h) | h
    · omega
    · obtain ⟨⟨⟨⟨⟨⟨q1, q2⟩, q3⟩, q4⟩, q5⟩, q6⟩, q7⟩ := h
      have b1 := fits_f3 _ _ _ _ _ h1 q1 q2 q3
      have b2 := fits_f3 _ _ _ _ _ h2 q4 q5 q6
      omega
    · have b1 := fits_f7 _ _ _ _ _ h1 h.1.1
      have b2 := fits_f7 _ _ _ _ _ h2 h.1.2
      omega
    · obtain ⟨⟨rfl, rfl⟩, q⟩ := h
      have b1 := fits_f6 _ _ _ _ h1
      have b2 := fits_f6 _ _ _ _ h2
      omega
    · obtain ⟨⟨rfl, rfl⟩, q⟩ := h
      have b1 := fits_n o f7 f3 x h1 ho h7
      have b2 := fits_n o' f7' f3' x h2 ho' h7'
      omega

theorem decN_fit (x i : Nat) (hi : i < 64) (hp : fitsAt x i = true) : decN x = (decAt x i, true) :=
  decN_at x i hi hp fun j hj => by
    cases h : fitsAt x j
    · rfl
    · have := fits_one x j i (by omega) hi h hp; omega

/-- what a kind's fields may be -/
def mayP (l d a b n : Int) : Prop :=
  0 ≤ d ∧ d ≤ 31 ∧ 0 ≤ a ∧ a ≤ 31 ∧ 0 ≤ b ∧ b ≤ 31 ∧
  ((l = 85 ∧ a = 0 ∧ b = 0 ∧ -2147483648 ≤ n ∧ n < 2147483648 ∧ n % 4096 = 0) ∨
   (l = 74 ∧ a = 0 ∧ b = 0 ∧ -1048576 ≤ n ∧ n < 1048576 ∧ n % 2 = 0) ∨
   (l = 73 ∧ b = 0 ∧ -2048 ≤ n ∧ n < 2048) ∨
   (l = 66 ∧ d = 0 ∧ -4096 ≤ n ∧ n < 4096 ∧ n % 2 = 0) ∨
   (l = 83 ∧ d = 0 ∧ -2048 ≤ n ∧ n < 2048) ∨
   (l = 72 ∧ b = 0 ∧ 0 ≤ n ∧ n < 64) ∨
   (l = 75 ∧ b = 0 ∧ 0 ≤ n ∧ n < 32) ∨
   (l = 82 ∧ n = 0) ∨
   (l = 78 ∧ d = 0 ∧ a = 0 ∧ b = 0 ∧ n = 0))

theorem fieldN_lt2 (x f n : Nat) : fieldN x f n < 2 ^ n := Nat.mod_lt _ (Nat.two_pow_pos n)

theorem signedI_bounds (u b : Nat) (p : Int) (hp : (2 : Nat) ^ b = 2 * p) (h : (u : Int) < 2 * p) : -p ≤ signedI u b ∧ signedI u b < p := by
  unfold signedI
  have : ((2 ^ b : Nat) : Int) = 2 * p := hp
  generalize (2 : Nat) ^ b = q at *
  split <;> omega
theorem signedI_even (u b : Nat) (hb : 1 ≤ b) (h : u % 2 = 0) : signedI u b % 2 = 0 := by
  unfold signedI
  obtain ⟨c, rfl⟩ : ∃ c, b = c + 1 := ⟨b - 1, by omega⟩
  rw [Nat.pow_succ]
  split <;> omega

/-- what a word decodes to is what may be -/
theorem may_of_dec (x i : Nat) (hi : i < 64) (hx : x < 4294967296) :
    mayP (formAt i).2.1 (decAt x i).2.1 (decAt x i).2.2.1 (decAt x i).2.2.2.1 (decAt x i).2.2.2.2 := by
  obtain ⟨nm, l, o, f3, f7, e, ho, h3, h7, hl⟩ := row_nat i hi
  unfold decAt
  rw [e]
  simp only
  have g7 := fieldN_lt2 x 7 5
  have g15 := fieldN_lt2 x 15 5
  have g20 := fieldN_lt2 x 20 5
  unfold mayP
  rcases hl with rfl | rfl | rfl | rfl | rfl | ⟨rfl, hev⟩ | rfl | rfl | ⟨rfl, hlt⟩
  · rw [show hasB 85 = (true, false, false) by decide, ← refNum_U x hx]
    simp only [reg_t, reg_f]
    have := signedI_lt (fieldN x 12 20) (fieldN_lt2 x 12 20)
    exact ⟨by omega, by omega, by omega, by omega, by omega, by omega, .inl ⟨by simp, by omega, by omega, by omega, by omega, by omega⟩⟩
  · rw [show hasB 74 = (true, false, false) by decide, ← refNum_J x hx]
    simp only [reg_t, reg_f]
    have k1 := fieldN_lt2 x 21 10
    have k2 := fieldN_lt2 x 20 1
    have k3 := fieldN_lt2 x 12 8
    have k4 := fieldN_lt2 x 31 1
    have := signedI_bounds (fieldN x 21 10 * 2 + fieldN x 20 1 * 2048 + fieldN x 12 8 * 4096 + fieldN x 31 1 * 1048576) 21 1048576 (by decide) (by omega)
    have := signedI_even (fieldN x 21 10 * 2 + fieldN x 20 1 * 2048 + fieldN x 12 8 * 4096 + fieldN x 31 1 * 1048576) 21 (by omega) (by omega)
    exact ⟨by omega, by omega, by omega, by omega, by omega, by omega, .inr (.inl ⟨by simp, by omega, by omega, by omega, by omega, by omega⟩)⟩
  · rw [show hasB 73 = (true, true, false) by decide, ← refNum_I x hx]
    simp only [reg_t, reg_f]
    have k1 := fieldN_lt2 x 20 12
    have := signedI_bounds (fieldN x 20 12) 12 2048 (by decide) (by omega)
    exact ⟨by omega, by omega, by omega, by omega, by omega, by omega, .inr (.inr (.inl ⟨by simp, by omega, by omega, by omega⟩))⟩
  · rw [show hasB 66 = (false, true, true) by decide, ← refNum_B x hx]
    simp only [reg_t, reg_f]
    have k1 := fieldN_lt2 x 8 4
    have k2 := fieldN_lt2 x 25 6
    have k3 := fieldN_lt2 x 7 1
    have k4 := fieldN_lt2 x 31 1
    have := signedI_bounds (fieldN x 8 4 * 2 + fieldN x 25 6 * 32 + fieldN x 7 1 * 2048 + fieldN x 31 1 * 4096) 13 4096 (by decide) (by omega)
    have := signedI_even (fieldN x 8 4 * 2 + fieldN x 25 6 * 32 + fieldN x 7 1 * 2048 + fieldN x 31 1 * 4096) 13 (by omega) (by omega)
    exact ⟨by omega, by omega, by omega, by omega, by omega, by omega, .inr (.inr (.inr (.inl ⟨by simp, by omega, by omega, by omega, by omega⟩)))⟩
  · rw [show hasB 83 = (false, true, true) by decide, ← refNum_S x hx]
    simp only [reg_t, reg_f]
    have k1 := fieldN_lt2 x 7 5
    have k2 := fieldN_lt2 x 25 7
    have := signedI_bounds (fieldN x 7 5 + fieldN x 25 7 * 32) 12 2048 (by decide) (by omega)
    exact ⟨by omega, by omega, by omega, by omega, by omega, by omega, .inr (.inr (.inr (.inr (.inl ⟨by simp, by omega, by omega, by omega⟩))))⟩
  · rw [show hasB 72 = (true, true, false) by decide, ← refNum_H x hx]
    simp only [reg_t, reg_f]
    have k1 := fieldN_lt2 x 20 6
    exact ⟨by omega, by omega, by omega, by omega, by omega, by omega, .inr (.inr (.inr (.inr (.inr (.inl ⟨by simp, by omega, by omega, by omega⟩)))))⟩
  · rw [show hasB 75 = (true, true, false) by decide, ← refNum_K x hx]
    simp only [reg_t, reg_f]
    have k1 := fieldN_lt2 x 20 5
    exact ⟨by omega, by omega, by omega, by omega, by omega, by omega, .inr (.inr (.inr (.inr (.inr (.inr (.inl ⟨by simp, by omega, by omega, by omega⟩))))))⟩
  · rw [show hasB 82 = (true, true, true) by decide, refNum_R x]
    simp only [reg_t, reg_f]
    exact ⟨(by first | omega | simp), (by first | omega | simp), (by first | omega | simp), (by first | omega | simp), (by first | omega | simp), (by first | omega | simp), .inr (.inr (.inr (.inr (.inr (.inr (.inr (.inl ⟨by simp, (by first | omega | simp)⟩)))))))⟩
  · rw [show hasB 78 = (false, false, false) by decide, refNum_N x]
    simp only [reg_t, reg_f]
    exact ⟨(by first | omega | simp), (by first | omega | simp), (by first | omega | simp), (by first | omega | simp), (by first | omega | simp), (by first | omega | simp), .inr (.inr (.inr (.inr (.inr (.inr (.inr (.inr (⟨by simp, (by first | omega | simp), (by first | omega | simp), (by first | omega | simp), (by first | omega | simp)⟩))))))))⟩

/-- the word of an instruction -/
def Word (i : Nat) (d a b n : Int) : Prop := ∃ y, y < 4294967296 ∧ fitsAt y i = true ∧ decAt y i = ((i : Int), d, a, b, n)

theorem fitsB_mk (l : Int) (o f3 f7 y : Nat) (h0 : y % 128 = o) (h3 : (l = 85 ∨ l = 74 ∨ l = 78) ∨ y / 4096 % 8 = f3) (h7 : (l = 82 ∨ l = 75) → y / 33554432 % 128 = f7) (h6 : l = 72 → y / 67108864 % 64 = f7 / 2) (hn : l = 78 → y = o + f7 * 1048576) (ho : o < 128) (h7l : f7 < 128) : fitsB l o f3 f7 y = true := by
  have e0 : (fieldN y 0 7 : Int) = o := by simp [fieldN]; omega
  unfold fitsB
  rw [if_neg (by simpa using e0)]
  by_cases c1 : l = 85 ∨ l = 74
  · rw [if_pos c1]
  rw [if_neg c1]
  by_cases c2 : l = 78
  · rw [if_pos c2, beq_iff_eq, show ((f7 : Int) * 1048576 % 4294967296) = ((f7 * 1048576 : Nat) : Int) by omega, or32 _ _ (by omega) (by omega), or_lo 20 _ _ (by omega) (by omega)]
    have := hn c2
    omega
  rw [if_neg c2]
  have e3 : (fieldN y 12 3 : Int) = f3 := by
    have : y / 4096 % 8 = f3 := by rcases h3 with h | h; · omega
                                   · exact h
    simp [fieldN]; omega
  by_cases c3 : l = 82 ∨ l = 75
  · rw [if_pos c3]
    have e7 : (fieldN y 25 7 : Int) = f7 := by have := h7 c3; simp [fieldN]; omega
    simp [e3, e7]
  rw [if_neg c3]
  by_cases c4 : l = 72
  · rw [if_pos c4]
    have e6 : (fieldN y 26 6 : Int) = f7 / 2 := by have := h6 c4; simp [fieldN]; omega
    simp [e3, e6]
  rw [if_neg c4]
  simp [e3]

theorem digit0 (y r q w : Nat) (h : y = r + w * q) (hr : r < w) : y % w = r ∧ y / w = q := by
  have hw : 0 < w := by omega
  subst h
  exact ⟨by rw [Nat.add_mul_mod_self_left, Nat.mod_eq_of_lt hr], by rw [Nat.add_mul_div_left _ _ hw, Nat.div_eq_of_lt hr, Nat.zero_add]⟩
theorem digitS (y m m' w r q Q : Nat) (hm : m * w = m') (hq : y / m = Q) (h : Q = r + w * q) (hr : r < w) : y / m % w = r ∧ y / m' = q := by
  subst hm
  rw [← Nat.div_div_eq_div_mul, hq]
  exact digit0 Q r q w h hr
theorem digitE (y m w r : Nat) (hq : y / m = r) (hr : r < w) : y / m % w = r := by rw [hq, Nat.mod_eq_of_lt hr]
theorem pieces_J (u : Nat) (h : u % 2 = 0) : u / 2 % 1024 * 2 + u / 2048 % 2 * 2048 + u / 4096 % 256 * 4096 + u / 1048576 * 1048576 = u := by
  have d0 : u = 2 * (u / 2) + u % 2 := (Nat.div_add_mod _ _).symm
  have d1 : u / 2 = 1024 * (u / 2048) + u / 2 % 1024 := by rw [show u / 2048 = u / 2 / 1024 by rw [Nat.div_div_eq_div_mul]]; exact (Nat.div_add_mod _ _).symm
  have d2 : u / 2048 = 2 * (u / 4096) + u / 2048 % 2 := by rw [show u / 4096 = u / 2048 / 2 by rw [Nat.div_div_eq_div_mul]]; exact (Nat.div_add_mod _ _).symm
  have d3 : u / 4096 = 256 * (u / 1048576) + u / 4096 % 256 := by rw [show u / 1048576 = u / 4096 / 256 by rw [Nat.div_div_eq_div_mul]]; exact (Nat.div_add_mod _ _).symm
  generalize u / 2 % 1024 = a1 at *
  generalize u / 2048 % 2 = a2 at *
  generalize u / 4096 % 256 = a3 at *
  generalize u / 1048576 = a4 at *
  generalize u / 4096 = a5 at *
  generalize u / 2048 = a6 at *
  generalize u / 2 = a7 at *
  omega
theorem pieces_B (u : Nat) (h : u % 2 = 0) : u / 2 % 16 * 2 + u / 32 % 64 * 32 + u / 2048 % 2 * 2048 + u / 4096 * 4096 = u := by
  have d0 : u = 2 * (u / 2) + u % 2 := (Nat.div_add_mod _ _).symm
  have d1 : u / 2 = 16 * (u / 32) + u / 2 % 16 := by rw [show u / 32 = u / 2 / 16 by rw [Nat.div_div_eq_div_mul]]; exact (Nat.div_add_mod _ _).symm
  have d2 : u / 32 = 64 * (u / 2048) + u / 32 % 64 := by rw [show u / 2048 = u / 32 / 64 by rw [Nat.div_div_eq_div_mul]]; exact (Nat.div_add_mod _ _).symm
  have d3 : u / 2048 = 2 * (u / 4096) + u / 2048 % 2 := by rw [show u / 4096 = u / 2048 / 2 by rw [Nat.div_div_eq_div_mul]]; exact (Nat.div_add_mod _ _).symm
  generalize u / 2 % 16 = a1 at *
  generalize u / 32 % 64 = a2 at *
  generalize u / 2048 % 2 = a3 at *
  generalize u / 4096 = a4 at *
  generalize u / 2048 = a5 at *
  generalize u / 32 = a6 at *
  generalize u / 2 = a7 at *
  omega
theorem sign_back (n : Int) (u b p : Nat) (hb : 2 ^ b = 2 * p) (hu : (u : Int) = n % ((2 * p : Nat) : Int)) (h1 : -(p : Int) ≤ n) (h2 : n < p) : signedI u b = n := by
  unfold signedI
  rw [hb]
  have e : n % ((2 * p : Nat) : Int) = if n < 0 then n + (2 * p : Nat) else n := by
    split
    · rw [← Int.add_emod_right]; exact Int.emod_eq_of_lt (by omega) (by omega)
    · exact Int.emod_eq_of_lt (by omega) (by omega)
  rw [e] at hu
  split at hu <;> split <;> omega
theorem pieces_S (u : Nat) : u % 32 + u / 32 * 32 = u := by omega

set_option maxHeartbeats 4000000 in
theorem word_U (i : Nat) (nm : List UInt8) (o f3 f7 : Nat) (he : formAt i = (nm, 85, (o : Int), (f3 : Int), (f7 : Int))) (ho : o < 128) (h3 : f3 < 8) (h7 : f7 < 128) (d a b : Nat) (hd : d < 32) (ha : a < 32) (hb : b < 32) (n : Int) (hn : -2147483648 ≤ n ∧ n < 2147483648 ∧ n % 4096 = 0) :
    Word i (d : Int) 0 0 n := by
  obtain ⟨u, hu⟩ : ∃ u : Nat, (u : Int) = n % 4294967296 := ⟨(n % 4294967296).toNat, by omega⟩
  have hul : u < 4294967296 := by omega
  obtain ⟨v1, hv1⟩ : ∃ v, v = u / 4096 := ⟨_, rfl⟩
  have bv1 : v1 < 1048576 := by omega
  have hsum : v1 * 4096 = u := by omega
  obtain ⟨y, hy⟩ : ∃ y : Nat, y = (o + 128 * (d + 32 * v1)) := ⟨_, rfl⟩
  have hylt : y < 4294967296 := by clear hv1; omega
  obtain ⟨m0, e0⟩ := digit0 y o _ 128 hy (by omega)
  obtain ⟨m1, e1⟩ := digitS y 128 4096 32 d _ _ (by decide) e0 rfl (by omega)
  have m2 := digitE y 4096 1048576 v1 e1 (by omega)
  have qd : fieldN y 7 5 = d := by simp only [fieldN]; exact m1
  have p12 : fieldN y 12 20 = v1 := by simp only [fieldN]; exact m2
  have hnum : numI 85 y = n := by
    rw [← refNum_U y hylt, p12]; clear hv1; unfold signedI; rw [show (2 : Nat) ^ 20 = 1048576 by decide]; split <;> omega
  refine ⟨y, hylt, ?_, ?_⟩
  · unfold fitsAt; rw [he]; exact fitsB_mk 85 o f3 f7 y m0 (.inl (.inl rfl)) (fun h => by simp at h) (fun h => by simp at h) (fun h => by simp at h) ho h7
  · unfold decAt; rw [he]; simp only; rw [show hasB 85 = (true, false, false) by decide, hnum]; simp only [reg_t, reg_f, qd]; try rfl

set_option maxHeartbeats 4000000 in
theorem word_J (i : Nat) (nm : List UInt8) (o f3 f7 : Nat) (he : formAt i = (nm, 74, (o : Int), (f3 : Int), (f7 : Int))) (ho : o < 128) (h3 : f3 < 8) (h7 : f7 < 128) (d a b : Nat) (hd : d < 32) (ha : a < 32) (hb : b < 32) (n : Int) (hn : -1048576 ≤ n ∧ n < 1048576 ∧ n % 2 = 0) :
    Word i (d : Int) 0 0 n := by
  obtain ⟨u, hu⟩ : ∃ u : Nat, (u : Int) = n % 2097152 := ⟨(n % 2097152).toNat, by omega⟩
  have hul : u < 2097152 := by omega
  obtain ⟨v1, hv1⟩ : ∃ v, v = u / 2 % 1024 := ⟨_, rfl⟩
  have bv1 : v1 < 1024 := by omega
  obtain ⟨v2, hv2⟩ : ∃ v, v = u / 2048 % 2 := ⟨_, rfl⟩
  have bv2 : v2 < 2 := by omega
  obtain ⟨v3, hv3⟩ : ∃ v, v = u / 4096 % 256 := ⟨_, rfl⟩
  have bv3 : v3 < 256 := by omega
  obtain ⟨v4, hv4⟩ : ∃ v, v = u / 1048576 := ⟨_, rfl⟩
  have bv4 : v4 < 2 := by omega
  have hsum : v1 * 2 + v2 * 2048 + v3 * 4096 + v4 * 1048576 = u := by subst hv1; subst hv2; subst hv3; subst hv4; exact pieces_J u (by omega)
  obtain ⟨y, hy⟩ : ∃ y : Nat, y = (o + 128 * (d + 32 * (v3 + 256 * (v2 + 2 * (v1 + 1024 * v4))))) := ⟨_, rfl⟩
  have hylt : y < 4294967296 := by clear hv4; clear hv3; clear hv2; clear hv1; omega
  obtain ⟨m0, e0⟩ := digit0 y o _ 128 hy (by omega)
  obtain ⟨m1, e1⟩ := digitS y 128 4096 32 d _ _ (by decide) e0 rfl (by omega)
  obtain ⟨m2, e2⟩ := digitS y 4096 1048576 256 v3 _ _ (by decide) e1 rfl (by omega)
  obtain ⟨m3, e3⟩ := digitS y 1048576 2097152 2 v2 _ _ (by decide) e2 rfl (by omega)
  obtain ⟨m4, e4⟩ := digitS y 2097152 2147483648 1024 v1 _ _ (by decide) e3 rfl (by omega)
  have m5 := digitE y 2147483648 2 v4 e4 (by omega)
  have qd : fieldN y 7 5 = d := by simp only [fieldN]; exact m1
  have p21 : fieldN y 21 10 = v1 := by simp only [fieldN]; exact m4
  have p20 : fieldN y 20 1 = v2 := by simp only [fieldN]; exact m3
  have p12 : fieldN y 12 8 = v3 := by simp only [fieldN]; exact m2
  have p31 : fieldN y 31 1 = v4 := by simp only [fieldN]; exact m5
  have hnum : numI 74 y = n := by
    rw [← refNum_J y hylt, p21, p20, p12, p31, hsum]; exact sign_back n u 21 1048576 (by decide) (hu.trans rfl) hn.1 hn.2.1
  refine ⟨y, hylt, ?_, ?_⟩
  · unfold fitsAt; rw [he]; exact fitsB_mk 74 o f3 f7 y m0 (.inl (.inr (.inl rfl))) (fun h => by simp at h) (fun h => by simp at h) (fun h => by simp at h) ho h7
  · unfold decAt; rw [he]; simp only; rw [show hasB 74 = (true, false, false) by decide, hnum]; simp only [reg_t, reg_f, qd]; try rfl

set_option maxHeartbeats 4000000 in
theorem word_I (i : Nat) (nm : List UInt8) (o f3 f7 : Nat) (he : formAt i = (nm, 73, (o : Int), (f3 : Int), (f7 : Int))) (ho : o < 128) (h3 : f3 < 8) (h7 : f7 < 128) (d a b : Nat) (hd : d < 32) (ha : a < 32) (hb : b < 32) (n : Int) (hn : -2048 ≤ n ∧ n < 2048) :
    Word i (d : Int) (a : Int) 0 n := by
  obtain ⟨u, hu⟩ : ∃ u : Nat, (u : Int) = n % 4096 := ⟨(n % 4096).toNat, by omega⟩
  have hul : u < 4096 := by omega
  obtain ⟨y, hy⟩ : ∃ y : Nat, y = (o + 128 * (d + 32 * (f3 + 8 * (a + 32 * u)))) := ⟨_, rfl⟩
  have hylt : y < 4294967296 := by skip; omega
  obtain ⟨m0, e0⟩ := digit0 y o _ 128 hy (by omega)
  obtain ⟨m1, e1⟩ := digitS y 128 4096 32 d _ _ (by decide) e0 rfl (by omega)
  obtain ⟨m2, e2⟩ := digitS y 4096 32768 8 f3 _ _ (by decide) e1 rfl (by omega)
  obtain ⟨m3, e3⟩ := digitS y 32768 1048576 32 a _ _ (by decide) e2 rfl (by omega)
  have m4 := digitE y 1048576 4096 u e3 (by omega)
  have qd : fieldN y 7 5 = d := by simp only [fieldN]; exact m1
  have qa : fieldN y 15 5 = a := by simp only [fieldN]; exact m3
  have p20 : fieldN y 20 12 = u := by simp only [fieldN]; exact m4
  have hnum : numI 73 y = n := by
    rw [← refNum_I y hylt, p20]; exact sign_back n u 12 2048 (by decide) (hu.trans rfl) hn.1 hn.2
  refine ⟨y, hylt, ?_, ?_⟩
  · unfold fitsAt; rw [he]; exact fitsB_mk 73 o f3 f7 y m0 (.inr m2) (fun h => by simp at h) (fun h => by simp at h) (fun h => by simp at h) ho h7
  · unfold decAt; rw [he]; simp only; rw [show hasB 73 = (true, true, false) by decide, hnum]; simp only [reg_t, reg_f, qd, qa]; try rfl

set_option maxHeartbeats 4000000 in
theorem word_B (i : Nat) (nm : List UInt8) (o f3 f7 : Nat) (he : formAt i = (nm, 66, (o : Int), (f3 : Int), (f7 : Int))) (ho : o < 128) (h3 : f3 < 8) (h7 : f7 < 128) (d a b : Nat) (hd : d < 32) (ha : a < 32) (hb : b < 32) (n : Int) (hn : -4096 ≤ n ∧ n < 4096 ∧ n % 2 = 0) :
    Word i 0 (a : Int) (b : Int) n := by
  obtain ⟨u, hu⟩ : ∃ u : Nat, (u : Int) = n % 8192 := ⟨(n % 8192).toNat, by omega⟩
  have hul : u < 8192 := by omega
  obtain ⟨v1, hv1⟩ : ∃ v, v = u / 2 % 16 := ⟨_, rfl⟩
  have bv1 : v1 < 16 := by omega
  obtain ⟨v2, hv2⟩ : ∃ v, v = u / 32 % 64 := ⟨_, rfl⟩
  have bv2 : v2 < 64 := by omega
  obtain ⟨v3, hv3⟩ : ∃ v, v = u / 2048 % 2 := ⟨_, rfl⟩
  have bv3 : v3 < 2 := by omega
  obtain ⟨v4, hv4⟩ : ∃ v, v = u / 4096 := ⟨_, rfl⟩
  have bv4 : v4 < 2 := by omega
  have hsum : v1 * 2 + v2 * 32 + v3 * 2048 + v4 * 4096 = u := by subst hv1; subst hv2; subst hv3; subst hv4; exact pieces_B u (by omega)
  obtain ⟨y, hy⟩ : ∃ y : Nat, y = (o + 128 * (v3 + 2 * (v1 + 16 * (f3 + 8 * (a + 32 * (b + 32 * (v2 + 64 * v4))))))) := ⟨_, rfl⟩
  have hylt : y < 4294967296 := by clear hv4; clear hv3; clear hv2; clear hv1; omega
  obtain ⟨m0, e0⟩ := digit0 y o _ 128 hy (by omega)
  obtain ⟨m1, e1⟩ := digitS y 128 256 2 v3 _ _ (by decide) e0 rfl (by omega)
  obtain ⟨m2, e2⟩ := digitS y 256 4096 16 v1 _ _ (by decide) e1 rfl (by omega)
  obtain ⟨m3, e3⟩ := digitS y 4096 32768 8 f3 _ _ (by decide) e2 rfl (by omega)
  obtain ⟨m4, e4⟩ := digitS y 32768 1048576 32 a _ _ (by decide) e3 rfl (by omega)
  obtain ⟨m5, e5⟩ := digitS y 1048576 33554432 32 b _ _ (by decide) e4 rfl (by omega)
  obtain ⟨m6, e6⟩ := digitS y 33554432 2147483648 64 v2 _ _ (by decide) e5 rfl (by omega)
  have m7 := digitE y 2147483648 2 v4 e6 (by omega)
  have qa : fieldN y 15 5 = a := by simp only [fieldN]; exact m4
  have qb : fieldN y 20 5 = b := by simp only [fieldN]; exact m5
  have p8 : fieldN y 8 4 = v1 := by simp only [fieldN]; exact m2
  have p25 : fieldN y 25 6 = v2 := by simp only [fieldN]; exact m6
  have p7 : fieldN y 7 1 = v3 := by simp only [fieldN]; exact m1
  have p31 : fieldN y 31 1 = v4 := by simp only [fieldN]; exact m7
  have hnum : numI 66 y = n := by
    rw [← refNum_B y hylt, p8, p25, p7, p31, hsum]; exact sign_back n u 13 4096 (by decide) (hu.trans rfl) hn.1 hn.2.1
  refine ⟨y, hylt, ?_, ?_⟩
  · unfold fitsAt; rw [he]; exact fitsB_mk 66 o f3 f7 y m0 (.inr m3) (fun h => by simp at h) (fun h => by simp at h) (fun h => by simp at h) ho h7
  · unfold decAt; rw [he]; simp only; rw [show hasB 66 = (false, true, true) by decide, hnum]; simp only [reg_t, reg_f, qa, qb]; try rfl

set_option maxHeartbeats 4000000 in
theorem word_S (i : Nat) (nm : List UInt8) (o f3 f7 : Nat) (he : formAt i = (nm, 83, (o : Int), (f3 : Int), (f7 : Int))) (ho : o < 128) (h3 : f3 < 8) (h7 : f7 < 128) (d a b : Nat) (hd : d < 32) (ha : a < 32) (hb : b < 32) (n : Int) (hn : -2048 ≤ n ∧ n < 2048) :
    Word i 0 (a : Int) (b : Int) n := by
  obtain ⟨u, hu⟩ : ∃ u : Nat, (u : Int) = n % 4096 := ⟨(n % 4096).toNat, by omega⟩
  have hul : u < 4096 := by omega
  obtain ⟨v1, hv1⟩ : ∃ v, v = u % 32 := ⟨_, rfl⟩
  have bv1 : v1 < 32 := by omega
  obtain ⟨v2, hv2⟩ : ∃ v, v = u / 32 := ⟨_, rfl⟩
  have bv2 : v2 < 128 := by omega
  have hsum : v1 + v2 * 32 = u := by subst hv1; subst hv2; exact pieces_S u
  obtain ⟨y, hy⟩ : ∃ y : Nat, y = (o + 128 * (v1 + 32 * (f3 + 8 * (a + 32 * (b + 32 * v2))))) := ⟨_, rfl⟩
  have hylt : y < 4294967296 := by clear hv2; clear hv1; omega
  obtain ⟨m0, e0⟩ := digit0 y o _ 128 hy (by omega)
  obtain ⟨m1, e1⟩ := digitS y 128 4096 32 v1 _ _ (by decide) e0 rfl (by omega)
  obtain ⟨m2, e2⟩ := digitS y 4096 32768 8 f3 _ _ (by decide) e1 rfl (by omega)
  obtain ⟨m3, e3⟩ := digitS y 32768 1048576 32 a _ _ (by decide) e2 rfl (by omega)
  obtain ⟨m4, e4⟩ := digitS y 1048576 33554432 32 b _ _ (by decide) e3 rfl (by omega)
  have m5 := digitE y 33554432 128 v2 e4 (by omega)
  have qa : fieldN y 15 5 = a := by simp only [fieldN]; exact m3
  have qb : fieldN y 20 5 = b := by simp only [fieldN]; exact m4
  have p7 : fieldN y 7 5 = v1 := by simp only [fieldN]; exact m1
  have p25 : fieldN y 25 7 = v2 := by simp only [fieldN]; exact m5
  have hnum : numI 83 y = n := by
    rw [← refNum_S y hylt, p7, p25, hsum]; exact sign_back n u 12 2048 (by decide) (hu.trans rfl) hn.1 hn.2
  refine ⟨y, hylt, ?_, ?_⟩
  · unfold fitsAt; rw [he]; exact fitsB_mk 83 o f3 f7 y m0 (.inr m2) (fun h => by simp at h) (fun h => by simp at h) (fun h => by simp at h) ho h7
  · unfold decAt; rw [he]; simp only; rw [show hasB 83 = (false, true, true) by decide, hnum]; simp only [reg_t, reg_f, qa, qb]; try rfl

set_option maxHeartbeats 4000000 in
theorem word_H (i : Nat) (nm : List UInt8) (o f3 f7 : Nat) (he : formAt i = (nm, 72, (o : Int), (f3 : Int), (f7 : Int))) (ho : o < 128) (h3 : f3 < 8) (h7 : f7 < 128) (hev : f7 % 2 = 0) (d a b : Nat) (hd : d < 32) (ha : a < 32) (hb : b < 32) (n : Int) (hn : 0 ≤ n ∧ n < 64) :
    Word i (d : Int) (a : Int) 0 n := by
  obtain ⟨u, hu⟩ : ∃ u : Nat, (u : Int) = n % 64 := ⟨(n % 64).toNat, by omega⟩
  have hul : u < 64 := by omega
  obtain ⟨v1, hv1⟩ : ∃ v, v = f7 / 2 := ⟨_, rfl⟩
  have bv1 : v1 < 64 := by omega
  obtain ⟨y, hy⟩ : ∃ y : Nat, y = (o + 128 * (d + 32 * (f3 + 8 * (a + 32 * (u + 64 * v1))))) := ⟨_, rfl⟩
  have hylt : y < 4294967296 := by clear hv1; omega
  obtain ⟨m0, e0⟩ := digit0 y o _ 128 hy (by omega)
  obtain ⟨m1, e1⟩ := digitS y 128 4096 32 d _ _ (by decide) e0 rfl (by omega)
  obtain ⟨m2, e2⟩ := digitS y 4096 32768 8 f3 _ _ (by decide) e1 rfl (by omega)
  obtain ⟨m3, e3⟩ := digitS y 32768 1048576 32 a _ _ (by decide) e2 rfl (by omega)
  obtain ⟨m4, e4⟩ := digitS y 1048576 67108864 64 u _ _ (by decide) e3 rfl (by omega)
  have m5 := digitE y 67108864 64 v1 e4 (by omega)
  have q6 : y / 67108864 % 64 = f7 / 2 := by rw [m5, hv1]
  have qd : fieldN y 7 5 = d := by simp only [fieldN]; exact m1
  have qa : fieldN y 15 5 = a := by simp only [fieldN]; exact m3
  have p20 : fieldN y 20 6 = u := by simp only [fieldN]; exact m4
  have hnum : numI 72 y = n := by
    rw [← refNum_H y hylt, p20]; omega
  refine ⟨y, hylt, ?_, ?_⟩
  · unfold fitsAt; rw [he]; exact fitsB_mk 72 o f3 f7 y m0 (.inr m2) (fun h => by simp at h) (fun _ => q6) (fun h => by simp at h) ho h7
  · unfold decAt; rw [he]; simp only; rw [show hasB 72 = (true, true, false) by decide, hnum]; simp only [reg_t, reg_f, qd, qa]; try rfl

set_option maxHeartbeats 4000000 in
theorem word_K (i : Nat) (nm : List UInt8) (o f3 f7 : Nat) (he : formAt i = (nm, 75, (o : Int), (f3 : Int), (f7 : Int))) (ho : o < 128) (h3 : f3 < 8) (h7 : f7 < 128) (d a b : Nat) (hd : d < 32) (ha : a < 32) (hb : b < 32) (n : Int) (hn : 0 ≤ n ∧ n < 32) :
    Word i (d : Int) (a : Int) 0 n := by
  obtain ⟨u, hu⟩ : ∃ u : Nat, (u : Int) = n % 32 := ⟨(n % 32).toNat, by omega⟩
  have hul : u < 32 := by omega
  obtain ⟨y, hy⟩ : ∃ y : Nat, y = (o + 128 * (d + 32 * (f3 + 8 * (a + 32 * (u + 32 * f7))))) := ⟨_, rfl⟩
  have hylt : y < 4294967296 := by skip; omega
  obtain ⟨m0, e0⟩ := digit0 y o _ 128 hy (by omega)
  obtain ⟨m1, e1⟩ := digitS y 128 4096 32 d _ _ (by decide) e0 rfl (by omega)
  obtain ⟨m2, e2⟩ := digitS y 4096 32768 8 f3 _ _ (by decide) e1 rfl (by omega)
  obtain ⟨m3, e3⟩ := digitS y 32768 1048576 32 a _ _ (by decide) e2 rfl (by omega)
  obtain ⟨m4, e4⟩ := digitS y 1048576 33554432 32 u _ _ (by decide) e3 rfl (by omega)
  have m5 := digitE y 33554432 128 f7 e4 (by omega)
  have qd : fieldN y 7 5 = d := by simp only [fieldN]; exact m1
  have qa : fieldN y 15 5 = a := by simp only [fieldN]; exact m3
  have p20 : fieldN y 20 5 = u := by simp only [fieldN]; exact m4
  have hnum : numI 75 y = n := by
    rw [← refNum_K y hylt, p20]; omega
  refine ⟨y, hylt, ?_, ?_⟩
  · unfold fitsAt; rw [he]; exact fitsB_mk 75 o f3 f7 y m0 (.inr m2) (fun _ => m5) (fun h => by simp at h) (fun h => by simp at h) ho h7
  · unfold decAt; rw [he]; simp only; rw [show hasB 75 = (true, true, false) by decide, hnum]; simp only [reg_t, reg_f, qd, qa]; try rfl

set_option maxHeartbeats 4000000 in
theorem word_R (i : Nat) (nm : List UInt8) (o f3 f7 : Nat) (he : formAt i = (nm, 82, (o : Int), (f3 : Int), (f7 : Int))) (ho : o < 128) (h3 : f3 < 8) (h7 : f7 < 128) (d a b : Nat) (hd : d < 32) (ha : a < 32) (hb : b < 32) (n : Int) (hn : n = 0) :
    Word i (d : Int) (a : Int) (b : Int) n := by
  obtain ⟨y, hy⟩ : ∃ y : Nat, y = (o + 128 * (d + 32 * (f3 + 8 * (a + 32 * (b + 32 * f7))))) := ⟨_, rfl⟩
  have hylt : y < 4294967296 := by skip; omega
  obtain ⟨m0, e0⟩ := digit0 y o _ 128 hy (by omega)
  obtain ⟨m1, e1⟩ := digitS y 128 4096 32 d _ _ (by decide) e0 rfl (by omega)
  obtain ⟨m2, e2⟩ := digitS y 4096 32768 8 f3 _ _ (by decide) e1 rfl (by omega)
  obtain ⟨m3, e3⟩ := digitS y 32768 1048576 32 a _ _ (by decide) e2 rfl (by omega)
  obtain ⟨m4, e4⟩ := digitS y 1048576 33554432 32 b _ _ (by decide) e3 rfl (by omega)
  have m5 := digitE y 33554432 128 f7 e4 (by omega)
  have qd : fieldN y 7 5 = d := by simp only [fieldN]; exact m1
  have qa : fieldN y 15 5 = a := by simp only [fieldN]; exact m3
  have qb : fieldN y 20 5 = b := by simp only [fieldN]; exact m4
  have hnum : numI 82 y = n := by rw [refNum_R, hn]
  refine ⟨y, hylt, ?_, ?_⟩
  · unfold fitsAt; rw [he]; exact fitsB_mk 82 o f3 f7 y m0 (.inr m2) (fun _ => m5) (fun h => by simp at h) (fun h => by simp at h) ho h7
  · unfold decAt; rw [he]; simp only; rw [show hasB 82 = (true, true, true) by decide, hnum]; simp only [reg_t, reg_f, qd, qa, qb]; try rfl

set_option maxHeartbeats 4000000 in
theorem word_N (i : Nat) (nm : List UInt8) (o f3 f7 : Nat) (he : formAt i = (nm, 78, (o : Int), (f3 : Int), (f7 : Int))) (ho : o < 128) (h3 : f3 < 8) (h7 : f7 < 128) (hlt : f7 < 2) (d a b : Nat) (hd : d < 32) (ha : a < 32) (hb : b < 32) (n : Int) (hn : n = 0) :
    Word i 0 0 0 n := by
  obtain ⟨y, hy⟩ : ∃ y : Nat, y = o + f7 * 1048576 := ⟨_, rfl⟩
  have hylt : y < 4294967296 := by omega
  have m0 : y % 128 = o := by omega
  have hnum : numI 78 y = n := by rw [refNum_N, hn]
  refine ⟨y, hylt, ?_, ?_⟩
  · unfold fitsAt; rw [he]; exact fitsB_mk 78 o f3 f7 y m0 (.inl (.inr (.inr rfl))) (fun h => by simp at h) (fun h => by simp at h) (fun _ => hy) ho h7
  · unfold decAt; rw [he]; simp only; rw [show hasB 78 = (false, false, false) by decide, hnum]; simp only [reg_t, reg_f]; try rfl

theorem word_of_may (i : Nat) (hi : i < 64) (d a b n : Int) (h : mayP (formAt i).2.1 d a b n) : Word i d a b n := by
  obtain ⟨nm, l, o, f3, f7, e, ho, h3, h7, hl⟩ := row_nat i hi
  rw [e] at h
  unfold mayP at h
  simp only at h
  obtain ⟨hd0, hd, ha0, ha, hb0, hb, h⟩ := h
  obtain ⟨d, rfl⟩ := Int.eq_ofNat_of_zero_le hd0
  obtain ⟨a, rfl⟩ := Int.eq_ofNat_of_zero_le ha0
  obtain ⟨b, rfl⟩ := Int.eq_ofNat_of_zero_le hb0
  have hdl : d < 32 := by omega
  have hal : a < 32 := by omega
  have hbl : b < 32 := by omega
  rcases hl with rfl | rfl | rfl | rfl | rfl | ⟨rfl, hev⟩ | rfl | rfl | ⟨rfl, hlt⟩
  · have h' : a = 0 ∧ b = 0 ∧ -2147483648 ≤ n ∧ n < 2147483648 ∧ n % 4096 = 0 := by omega
    obtain ⟨rfl, rfl, hn⟩ := h'
    exact word_U i nm o f3 f7 e ho h3 h7 d 0 0 (by omega) (by omega) (by omega) n hn
  · have h' : a = 0 ∧ b = 0 ∧ -1048576 ≤ n ∧ n < 1048576 ∧ n % 2 = 0 := by omega
    obtain ⟨rfl, rfl, hn⟩ := h'
    exact word_J i nm o f3 f7 e ho h3 h7 d 0 0 (by omega) (by omega) (by omega) n hn
  · have h' : b = 0 ∧ -2048 ≤ n ∧ n < 2048 := by omega
    obtain ⟨rfl, hn⟩ := h'
    exact word_I i nm o f3 f7 e ho h3 h7 d a 0 (by omega) (by omega) (by omega) n hn
  · have h' : d = 0 ∧ -4096 ≤ n ∧ n < 4096 ∧ n % 2 = 0 := by omega
    obtain ⟨rfl, hn⟩ := h'
    exact word_B i nm o f3 f7 e ho h3 h7 0 a b (by omega) (by omega) (by omega) n hn
  · have h' : d = 0 ∧ -2048 ≤ n ∧ n < 2048 := by omega
    obtain ⟨rfl, hn⟩ := h'
    exact word_S i nm o f3 f7 e ho h3 h7 0 a b (by omega) (by omega) (by omega) n hn
  · have h' : b = 0 ∧ 0 ≤ n ∧ n < 64 := by omega
    obtain ⟨rfl, hn⟩ := h'
    exact word_H i nm o f3 f7 e ho h3 h7 hev d a 0 (by omega) (by omega) (by omega) n hn
  · have h' : b = 0 ∧ 0 ≤ n ∧ n < 32 := by omega
    obtain ⟨rfl, hn⟩ := h'
    exact word_K i nm o f3 f7 e ho h3 h7 d a 0 (by omega) (by omega) (by omega) n hn
  · have h' : n = 0 := by omega
    have hn := h'
    exact word_R i nm o f3 f7 e ho h3 h7 d a b (by omega) (by omega) (by omega) n hn
  · have h' : d = 0 ∧ a = 0 ∧ b = 0 ∧ n = 0 := by omega
    obtain ⟨rfl, rfl, rfl, hn⟩ := h'
    exact word_N i nm o f3 f7 e ho h3 h7 hlt 0 0 0 (by omega) (by omega) (by omega) n hn

/-- an instruction goes into a word just where it may -/
theorem enc_may (o d a b n : Int) : (encV o d a b n).2 = true ↔ (0 ≤ o ∧ o < 64 ∧ mayP (letterI o) d a b n) := by
  constructor
  · intro h
    have hD := encV_ok o d a b n h
    have hlt : (encV o d a b n).1 < 4294967296 := by
      unfold encV
      split
      · exact encN_lt o d a b n
      · decide
    generalize (encV o d a b n).1 = x at *
    rcases decN_cases x with ⟨e, _⟩ | ⟨i, hi, hp, hno, e⟩
    · rw [e] at hD; simp at hD
    · have hh := e.symm.trans hD
      have hm := may_of_dec x i hi hlt
      have e1 : decAt x i = (o, d, a, b, n) := (Prod.mk.inj hh).1
      rw [e1] at hm
      have ei : (i : Int) = o := by have := congrArg Prod.fst e1; exact this
      subst ei
      refine ⟨by omega, by omega, ?_⟩
      have el : letterI i = (formAt i).2.1 := by unfold letterI; rw [if_pos ⟨by omega, by omega⟩, Int.toNat_natCast]
      rw [el]
      exact hm
  · rintro ⟨h0, h64, hm⟩
    obtain ⟨i, rfl⟩ := Int.eq_ofNat_of_zero_le h0
    have hi : i < 64 := by omega
    have el : letterI i = (formAt i).2.1 := by unfold letterI; rw [if_pos ⟨by omega, by omega⟩, Int.toNat_natCast]
    rw [el] at hm
    obtain ⟨y, hy, hf, hd⟩ := word_of_may i hi d a b n hm
    have := decN_fit y i hi hf
    rw [hd] at this
    rw [dec_enc y _ _ _ _ _ hy this]
end
end Go.Proofs.Ytoljkjnehcbbaaa
