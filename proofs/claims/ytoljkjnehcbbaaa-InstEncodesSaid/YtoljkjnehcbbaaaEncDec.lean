/- Plain law: what a fitting form lays out of the word's own fields is the word. -/
import Derived.Test.YtoljkjnehcbbaaaBits
namespace Go.Proofs.Ytoljkjnehcbbaaa
open Go.RowKit
noncomputable section
set_option linter.unusedVariables false
set_option linter.unusedSimpArgs false

theorem extN_mod (acc b : Nat) (hb2 : b ≤ 63) : extN acc b % 2 ^ b = acc % 2 ^ b := by
  unfold extN
  split
  · exact Nat.mod_mod _ _
  · have e : 18446744073709551616 - 2 ^ b = 2 ^ b * (2 ^ (64 - b) - 1) := by
      rw [Nat.mul_sub, ← Nat.pow_add, show b + (64 - b) = 64 by omega]; simp
    rw [e, Nat.add_mul_mod_self_left, Nat.mod_mod]

theorem placed_reg (k f : Nat) (hk : k < 32) : placedN (k : Int) f = k * 2 ^ f := by
  unfold placedN
  rw [show ((k : Int) % 32).toNat = k by omega]

theorem placed_zero (f : Nat) : placedN 0 f = 0 := by simp [placedN]

theorem laidAcc_g (u : Nat) (ps : List (Nat × Nat × Nat)) : ∃ g : Nat → Nat × Nat × Nat → Nat, (∀ n f m t, g n (f, m, t) = n ||| fieldN u t m * 2 ^ f) ∧ laidAcc u ps = ps.foldl g 0 := ⟨_, fun _ _ _ _ => rfl, rfl⟩
theorem numAcc_g (u : Nat) (ps : List (Nat × Nat × Nat)) : ∃ g : Nat → Nat × Nat × Nat → Nat, (∀ n f m t, g n (f, m, t) = n ||| fieldN u f m * 2 ^ t) ∧ numAcc u ps = ps.foldl g 0 := ⟨_, fun _ _ _ _ => rfl, rfl⟩
theorem numI_eq (l : Int) (x : Nat) (ps : List (Nat × Nat × Nat)) (b : Nat) (h : piecesOf l = (ps, b)) : numI l x = wrap64 (if b = 0 then numAcc x ps else extN (numAcc x ps) b) := by
  unfold numI
  rw [h]

theorem num_J (x : Nat) : numI 74 x = wrap64 (extN ((((0 ||| (x / 2147483648 % 2) * 1048576) ||| (x / 4096 % 256) * 4096) ||| (x / 1048576 % 2) * 2048) ||| (x / 2097152 % 1024) * 2) 21 : Nat) := by
  rw [numI_eq 74 x [(31, 1, 20), (12, 8, 12), (20, 1, 11), (21, 10, 1)] 21 (by simp [piecesOf]), if_neg (by decide)]
  have h31 : fieldN x 31 1 = x / 2147483648 % 2 := by simp [fieldN]
  have h12 : fieldN x 12 8 = x / 4096 % 256 := by simp [fieldN]
  have h20 : fieldN x 20 1 = x / 1048576 % 2 := by simp [fieldN]
  have h21 : fieldN x 21 10 = x / 2097152 % 1024 := by simp [fieldN]
  have p20 : (2 : Nat) ^ 20 = 1048576 := by decide
  have p12 : (2 : Nat) ^ 12 = 4096 := by decide
  have p11 : (2 : Nat) ^ 11 = 2048 := by decide
  have p1 : (2 : Nat) ^ 1 = 2 := by decide
  obtain ⟨g, hg, e⟩ := numAcc_g x [(31, 1, 20), (12, 8, 12), (20, 1, 11), (21, 10, 1)]
  rw [e]
  simp only [List.foldl_cons, List.foldl_nil]
  rw [hg, hg, hg, hg, h31, h12, h20, h21, p20, p12, p11, p1]

theorem laid_J (n : Int) : laidN 74 n = ((((0 ||| (u64N n / 1048576 % 2) * 2147483648) ||| (u64N n / 4096 % 256) * 4096) ||| (u64N n / 2048 % 2) * 1048576) ||| (u64N n / 2 % 1024) * 2097152) := by
  unfold laidN
  rw [show (piecesOf 74).1 = [(31, 1, 20), (12, 8, 12), (20, 1, 11), (21, 10, 1)] by simp [piecesOf]]
  generalize u64N n = u
  have h20 : fieldN u 20 1 = u / 1048576 % 2 := by simp [fieldN]
  have h12 : fieldN u 12 8 = u / 4096 % 256 := by simp [fieldN]
  have h11 : fieldN u 11 1 = u / 2048 % 2 := by simp [fieldN]
  have h1 : fieldN u 1 10 = u / 2 % 1024 := by simp [fieldN]
  have p31 : (2 : Nat) ^ 31 = 2147483648 := by decide
  have p12 : (2 : Nat) ^ 12 = 4096 := by decide
  have p20 : (2 : Nat) ^ 20 = 1048576 := by decide
  have p21 : (2 : Nat) ^ 21 = 2097152 := by decide
  obtain ⟨g, hg, e⟩ := laidAcc_g u [(31, 1, 20), (12, 8, 12), (20, 1, 11), (21, 10, 1)]
  rw [e]
  simp only [List.foldl_cons, List.foldl_nil]
  rw [hg, hg, hg, hg, h20, h12, h11, h1, p31, p12, p20, p21]

theorem num_I (x : Nat) : numI 73 x = wrap64 (extN (0 ||| (x / 1048576 % 4096)) 12 : Nat) := by
  rw [numI_eq 73 x [(20, 12, 0)] 12 (by simp [piecesOf]), if_neg (by decide)]
  have h20 : fieldN x 20 12 = x / 1048576 % 4096 := by simp [fieldN]
  have p0 : (2 : Nat) ^ 0 = 1 := by decide
  obtain ⟨g, hg, e⟩ := numAcc_g x [(20, 12, 0)]
  rw [e]
  simp only [List.foldl_cons, List.foldl_nil]
  rw [hg, h20, p0, Nat.mul_one]

theorem laid_I (n : Int) : laidN 73 n = (0 ||| (u64N n % 4096) * 1048576) := by
  unfold laidN
  rw [show (piecesOf 73).1 = [(20, 12, 0)] by simp [piecesOf]]
  generalize u64N n = u
  have h0 : fieldN u 0 12 = u % 4096 := by simp [fieldN]
  have p20 : (2 : Nat) ^ 20 = 1048576 := by decide
  obtain ⟨g, hg, e⟩ := laidAcc_g u [(20, 12, 0)]
  rw [e]
  simp only [List.foldl_cons, List.foldl_nil]
  rw [hg, h0, p20]

theorem num_B (x : Nat) : numI 66 x = wrap64 (extN ((((0 ||| (x / 2147483648 % 2) * 4096) ||| (x / 128 % 2) * 2048) ||| (x / 33554432 % 64) * 32) ||| (x / 256 % 16) * 2) 13 : Nat) := by
  rw [numI_eq 66 x [(31, 1, 12), (7, 1, 11), (25, 6, 5), (8, 4, 1)] 13 (by simp [piecesOf]), if_neg (by decide)]
  have h31 : fieldN x 31 1 = x / 2147483648 % 2 := by simp [fieldN]
  have h7 : fieldN x 7 1 = x / 128 % 2 := by simp [fieldN]
  have h25 : fieldN x 25 6 = x / 33554432 % 64 := by simp [fieldN]
  have h8 : fieldN x 8 4 = x / 256 % 16 := by simp [fieldN]
  have p12 : (2 : Nat) ^ 12 = 4096 := by decide
  have p11 : (2 : Nat) ^ 11 = 2048 := by decide
  have p5 : (2 : Nat) ^ 5 = 32 := by decide
  have p1 : (2 : Nat) ^ 1 = 2 := by decide
  obtain ⟨g, hg, e⟩ := numAcc_g x [(31, 1, 12), (7, 1, 11), (25, 6, 5), (8, 4, 1)]
  rw [e]
  simp only [List.foldl_cons, List.foldl_nil]
  rw [hg, hg, hg, hg, h31, h7, h25, h8, p12, p11, p5, p1]

theorem laid_B (n : Int) : laidN 66 n = ((((0 ||| (u64N n / 4096 % 2) * 2147483648) ||| (u64N n / 2048 % 2) * 128) ||| (u64N n / 32 % 64) * 33554432) ||| (u64N n / 2 % 16) * 256) := by
  unfold laidN
  rw [show (piecesOf 66).1 = [(31, 1, 12), (7, 1, 11), (25, 6, 5), (8, 4, 1)] by simp [piecesOf]]
  generalize u64N n = u
  have h12 : fieldN u 12 1 = u / 4096 % 2 := by simp [fieldN]
  have h11 : fieldN u 11 1 = u / 2048 % 2 := by simp [fieldN]
  have h5 : fieldN u 5 6 = u / 32 % 64 := by simp [fieldN]
  have h1 : fieldN u 1 4 = u / 2 % 16 := by simp [fieldN]
  have p31 : (2 : Nat) ^ 31 = 2147483648 := by decide
  have p7 : (2 : Nat) ^ 7 = 128 := by decide
  have p25 : (2 : Nat) ^ 25 = 33554432 := by decide
  have p8 : (2 : Nat) ^ 8 = 256 := by decide
  obtain ⟨g, hg, e⟩ := laidAcc_g u [(31, 1, 12), (7, 1, 11), (25, 6, 5), (8, 4, 1)]
  rw [e]
  simp only [List.foldl_cons, List.foldl_nil]
  rw [hg, hg, hg, hg, h12, h11, h5, h1, p31, p7, p25, p8]

theorem num_S (x : Nat) : numI 83 x = wrap64 (extN ((0 ||| (x / 33554432 % 128) * 32) ||| (x / 128 % 32)) 12 : Nat) := by
  rw [numI_eq 83 x [(25, 7, 5), (7, 5, 0)] 12 (by simp [piecesOf]), if_neg (by decide)]
  have h25 : fieldN x 25 7 = x / 33554432 % 128 := by simp [fieldN]
  have h7 : fieldN x 7 5 = x / 128 % 32 := by simp [fieldN]
  have p5 : (2 : Nat) ^ 5 = 32 := by decide
  have p0 : (2 : Nat) ^ 0 = 1 := by decide
  obtain ⟨g, hg, e⟩ := numAcc_g x [(25, 7, 5), (7, 5, 0)]
  rw [e]
  simp only [List.foldl_cons, List.foldl_nil]
  rw [hg, hg, h25, h7, p5, p0, Nat.mul_one]

theorem laid_S (n : Int) : laidN 83 n = ((0 ||| (u64N n / 32 % 128) * 33554432) ||| (u64N n % 32) * 128) := by
  unfold laidN
  rw [show (piecesOf 83).1 = [(25, 7, 5), (7, 5, 0)] by simp [piecesOf]]
  generalize u64N n = u
  have h5 : fieldN u 5 7 = u / 32 % 128 := by simp [fieldN]
  have h0 : fieldN u 0 5 = u % 32 := by simp [fieldN]
  have p25 : (2 : Nat) ^ 25 = 33554432 := by decide
  have p7 : (2 : Nat) ^ 7 = 128 := by decide
  obtain ⟨g, hg, e⟩ := laidAcc_g u [(25, 7, 5), (7, 5, 0)]
  rw [e]
  simp only [List.foldl_cons, List.foldl_nil]
  rw [hg, hg, h5, h0, p25, p7]

theorem num_H (x : Nat) : numI 72 x = wrap64 ((0 ||| (x / 1048576 % 64)) : Nat) := by
  rw [numI_eq 72 x [(20, 6, 0)] 0 (by simp [piecesOf]), if_pos rfl]
  have h20 : fieldN x 20 6 = x / 1048576 % 64 := by simp [fieldN]
  have p0 : (2 : Nat) ^ 0 = 1 := by decide
  obtain ⟨g, hg, e⟩ := numAcc_g x [(20, 6, 0)]
  rw [e]
  simp only [List.foldl_cons, List.foldl_nil]
  rw [hg, h20, p0, Nat.mul_one]

theorem laid_H (n : Int) : laidN 72 n = (0 ||| (u64N n % 64) * 1048576) := by
  unfold laidN
  rw [show (piecesOf 72).1 = [(20, 6, 0)] by simp [piecesOf]]
  generalize u64N n = u
  have h0 : fieldN u 0 6 = u % 64 := by simp [fieldN]
  have p20 : (2 : Nat) ^ 20 = 1048576 := by decide
  obtain ⟨g, hg, e⟩ := laidAcc_g u [(20, 6, 0)]
  rw [e]
  simp only [List.foldl_cons, List.foldl_nil]
  rw [hg, h0, p20]

theorem num_K (x : Nat) : numI 75 x = wrap64 ((0 ||| (x / 1048576 % 32)) : Nat) := by
  rw [numI_eq 75 x [(20, 5, 0)] 0 (by simp [piecesOf]), if_pos rfl]
  have h20 : fieldN x 20 5 = x / 1048576 % 32 := by simp [fieldN]
  have p0 : (2 : Nat) ^ 0 = 1 := by decide
  obtain ⟨g, hg, e⟩ := numAcc_g x [(20, 5, 0)]
  rw [e]
  simp only [List.foldl_cons, List.foldl_nil]
  rw [hg, h20, p0, Nat.mul_one]

theorem laid_K (n : Int) : laidN 75 n = (0 ||| (u64N n % 32) * 1048576) := by
  unfold laidN
  rw [show (piecesOf 75).1 = [(20, 5, 0)] by simp [piecesOf]]
  generalize u64N n = u
  have h0 : fieldN u 0 5 = u % 32 := by simp [fieldN]
  have p20 : (2 : Nat) ^ 20 = 1048576 := by decide
  obtain ⟨g, hg, e⟩ := laidAcc_g u [(20, 5, 0)]
  rw [e]
  simp only [List.foldl_cons, List.foldl_nil]
  rw [hg, h0, p20]

theorem num_R (x : Nat) : numI 82 x = wrap64 (0 : Nat) := by
  rw [numI_eq 82 x [] 0 (by simp [piecesOf]), if_pos rfl]
  obtain ⟨g, hg, e⟩ := numAcc_g x []
  rw [e]
  simp only [List.foldl_cons, List.foldl_nil]

theorem laid_R (n : Int) : laidN 82 n = 0 := by
  unfold laidN
  rw [show (piecesOf 82).1 = [] by simp [piecesOf]]
  generalize u64N n = u
  obtain ⟨g, hg, e⟩ := laidAcc_g u []
  rw [e]
  simp only [List.foldl_cons, List.foldl_nil]

theorem num_N (x : Nat) : numI 78 x = wrap64 (0 : Nat) := by
  rw [numI_eq 78 x [] 0 (by simp [piecesOf]), if_pos rfl]
  obtain ⟨g, hg, e⟩ := numAcc_g x []
  rw [e]
  simp only [List.foldl_cons, List.foldl_nil]

theorem laid_N (n : Int) : laidN 78 n = 0 := by
  unfold laidN
  rw [show (piecesOf 78).1 = [] by simp [piecesOf]]
  generalize u64N n = u
  obtain ⟨g, hg, e⟩ := laidAcc_g u []
  rw [e]
  simp only [List.foldl_cons, List.foldl_nil]

theorem num_U (x : Nat) : numI 85 x = wrap64 (extN (0 ||| (x / 4096 % 1048576) * 4096) 32 : Nat) := by
  rw [numI_eq 85 x [(12, 20, 12)] 32 (by simp [piecesOf]), if_neg (by decide)]
  have h12 : fieldN x 12 20 = x / 4096 % 1048576 := by simp [fieldN]
  have p12 : (2 : Nat) ^ 12 = 4096 := by decide
  obtain ⟨g, hg, e⟩ := numAcc_g x [(12, 20, 12)]
  rw [e]
  simp only [List.foldl_cons, List.foldl_nil]
  rw [hg, h12, p12]

theorem laid_U (n : Int) : laidN 85 n = (0 ||| (u64N n / 4096 % 1048576) * 4096) := by
  unfold laidN
  rw [show (piecesOf 85).1 = [(12, 20, 12)] by simp [piecesOf]]
  generalize u64N n = u
  have h12 : fieldN u 12 20 = u / 4096 % 1048576 := by simp [fieldN]
  have p12 : (2 : Nat) ^ 12 = 4096 := by decide
  obtain ⟨g, hg, e⟩ := laidAcc_g u [(12, 20, 12)]
  rw [e]
  simp only [List.foldl_cons, List.foldl_nil]
  rw [hg, h12, p12]

theorem enc_U (x o f3 f7 : Nat) (nm : List UInt8) (hx : x < 4294967296) (ho : o < 128) (h3 : f3 < 8) (h7 : f7 < 128) (hop : x % 128 = o) :
    encI (nm, 85, (o : Int), (f3 : Int), (f7 : Int)) (fieldN x 7 5 : Nat) 0 0 (numI 85 x) = x := by
  rw [encI_nat _ _ _ _ _ _ _ _ _ ho h3 h7]
  have hpd : placedN (fieldN x 7 5 : Nat) 7 = x / 128 % 32 * 128 := by rw [placed_reg _ _ (by unfold fieldN; omega)]; unfold fieldN; omega
  have hu := extN_mod (0 ||| (x / 4096 % 1048576) * 4096) 32 (by omega)
  rw [laid_U, num_U, u_low _ _ (by omega) (by omega), hpd, placed_zero, placed_zero]
  rw [Nat.zero_or] at hu
  rw [Nat.zero_or ((x / 4096 % 1048576) * 4096)]
  generalize extN ((x / 4096 % 1048576) * 4096) 32 = u at *
  have e : encNat 85 o f3 f7 (0 ||| (u / 4096 % 1048576) * 4096) (x / 128 % 32 * 128) 0 0 = ((((o ||| (0 ||| (u / 4096 % 1048576) * 4096)) ||| x / 128 % 32 * 128) ||| 0) ||| 0) := by simp [encNat]
  rw [e, or_U _ _ _ ho (by omega)]
  omega

theorem sum_J (x : Nat) {q1 q2 q3 q4 q5 r0 r1 r2 r3 r4 : Nat} (d0 : x = 128 * q1 + r0) (d1 : q1 = 32 * q2 + r1) (d2 : q2 = 256 * q3 + r2) (d3 : q3 = 2 * q4 + r3) (d4 : q4 = 1024 * q5 + r4) : r0 + r1 * 128 + r2 * 4096 + r3 * 1048576 + r4 * 2097152 + q5 * 2147483648 = x := by omega

theorem enc_J (x o f3 f7 : Nat) (nm : List UInt8) (hx : x < 4294967296) (ho : o < 128) (h3 : f3 < 8) (h7 : f7 < 128) (hop : x % 128 = o) :
    encI (nm, 74, (o : Int), (f3 : Int), (f7 : Int)) (fieldN x 7 5 : Nat) 0 0 (numI 74 x) = x := by
  rw [encI_nat _ _ _ _ _ _ _ _ _ ho h3 h7]
  have hpd : placedN (fieldN x 7 5 : Nat) 7 = x / 128 % 32 * 128 := by rw [placed_reg _ _ (by unfold fieldN; omega)]; unfold fieldN; omega
  have hu := extN_mod (((((0 ||| (x / 2147483648 % 2) * 1048576) ||| (x / 4096 % 256) * 4096) ||| (x / 1048576 % 2) * 2048) ||| (x / 2097152 % 1024) * 2)) 21 (by omega)
  have hacc := acc_J (x / 2097152 % 1024) (x / 1048576 % 2) (x / 4096 % 256) (x / 2147483648 % 2) (by omega) (by omega) (by omega)
  rw [hacc] at hu
  rw [laid_J, num_J, u_low _ _ (by omega) (by omega), hacc]
  generalize extN ((x / 2097152 % 1024) * 2 + (x / 1048576 % 2) * 2048 + (x / 4096 % 256) * 4096 + (x / 2147483648 % 2) * 1048576) 21 = u at *
  rw [hpd, placed_zero, placed_zero]
  have e : encNat 74 o f3 f7 ((((0 ||| (u / 1048576 % 2) * 2147483648) ||| (u / 4096 % 256) * 4096) ||| (u / 2048 % 2) * 1048576) ||| (u / 2 % 1024) * 2097152) (x / 128 % 32 * 128) (0) (0) = ((((o ||| ((((0 ||| (u / 1048576 % 2) * 2147483648) ||| (u / 4096 % 256) * 4096) ||| (u / 2048 % 2) * 1048576) ||| (u / 2 % 1024) * 2097152)) ||| x / 128 % 32 * 128) ||| 0) ||| 0) := by simp [encNat]
  have k0 : u / 1048576 % 2 = x / 2147483648 % 2 := by
    clear e h3 h7 hop ho hpd
    have b0 : x / 2147483648 % 2 < 2 := Nat.mod_lt _ (by decide)
    have b1 : x / 4096 % 256 < 256 := Nat.mod_lt _ (by decide)
    have b2 : x / 1048576 % 2 < 2 := Nat.mod_lt _ (by decide)
    have b3 : x / 2097152 % 1024 < 1024 := Nat.mod_lt _ (by decide)
    generalize x / 2147483648 % 2 = v0 at *
    generalize x / 4096 % 256 = v1 at *
    generalize x / 1048576 % 2 = v2 at *
    generalize x / 2097152 % 1024 = v3 at *
    omega
  have k1 : u / 4096 % 256 = x / 4096 % 256 := by
    clear e h3 h7 hop ho hpd
    have b0 : x / 2147483648 % 2 < 2 := Nat.mod_lt _ (by decide)
    have b1 : x / 4096 % 256 < 256 := Nat.mod_lt _ (by decide)
    have b2 : x / 1048576 % 2 < 2 := Nat.mod_lt _ (by decide)
    have b3 : x / 2097152 % 1024 < 1024 := Nat.mod_lt _ (by decide)
    generalize x / 2147483648 % 2 = v0 at *
    generalize x / 4096 % 256 = v1 at *
    generalize x / 1048576 % 2 = v2 at *
    generalize x / 2097152 % 1024 = v3 at *
    omega
  have k2 : u / 2048 % 2 = x / 1048576 % 2 := by
    clear e h3 h7 hop ho hpd
    have b0 : x / 2147483648 % 2 < 2 := Nat.mod_lt _ (by decide)
    have b1 : x / 4096 % 256 < 256 := Nat.mod_lt _ (by decide)
    have b2 : x / 1048576 % 2 < 2 := Nat.mod_lt _ (by decide)
    have b3 : x / 2097152 % 1024 < 1024 := Nat.mod_lt _ (by decide)
    generalize x / 2147483648 % 2 = v0 at *
    generalize x / 4096 % 256 = v1 at *
    generalize x / 1048576 % 2 = v2 at *
    generalize x / 2097152 % 1024 = v3 at *
    omega
  have k3 : u / 2 % 1024 = x / 2097152 % 1024 := by
    clear e h3 h7 hop ho hpd
    have b0 : x / 2147483648 % 2 < 2 := Nat.mod_lt _ (by decide)
    have b1 : x / 4096 % 256 < 256 := Nat.mod_lt _ (by decide)
    have b2 : x / 1048576 % 2 < 2 := Nat.mod_lt _ (by decide)
    have b3 : x / 2097152 % 1024 < 1024 := Nat.mod_lt _ (by decide)
    generalize x / 2147483648 % 2 = v0 at *
    generalize x / 4096 % 256 = v1 at *
    generalize x / 1048576 % 2 = v2 at *
    generalize x / 2097152 % 1024 = v3 at *
    omega
  clear hu
  rw [e, k0, k1, k2, k3]
  clear e k0 k1 k2 k3
  rw [or_J _ _ _ _ _ _ ho (Nat.mod_lt _ (by decide)) (Nat.mod_lt _ (by decide)) (Nat.mod_lt _ (by decide)) (Nat.mod_lt _ (by decide))]
  rw [← hop]
  have d0 : x = 128 * (x / 128) + x % 128 := (Nat.div_add_mod _ _).symm
  have d1 : x / 128 = 32 * (x / 4096) + x / 128 % 32 := by rw [show x / 4096 = x / 128 / 32 by rw [Nat.div_div_eq_div_mul]]; exact (Nat.div_add_mod _ _).symm
  have d2 : x / 4096 = 256 * (x / 1048576) + x / 4096 % 256 := by rw [show x / 1048576 = x / 4096 / 256 by rw [Nat.div_div_eq_div_mul]]; exact (Nat.div_add_mod _ _).symm
  have d3 : x / 1048576 = 2 * (x / 2097152) + x / 1048576 % 2 := by rw [show x / 2097152 = x / 1048576 / 2 by rw [Nat.div_div_eq_div_mul]]; exact (Nat.div_add_mod _ _).symm
  have d4 : x / 2097152 = 1024 * (x / 2147483648) + x / 2097152 % 1024 := by rw [show x / 2147483648 = x / 2097152 / 1024 by rw [Nat.div_div_eq_div_mul]]; exact (Nat.div_add_mod _ _).symm
  have dz : x / 2147483648 % 2 = x / 2147483648 := Nat.mod_eq_of_lt (Nat.div_lt_of_lt_mul hx)
  rw [dz]
  exact congrArg Int.ofNat (sum_J _ d0 d1 d2 d3 d4)

theorem sum_I (x : Nat) {q1 q2 q3 q4 r0 r1 r2 r3 : Nat} (d0 : x = 128 * q1 + r0) (d1 : q1 = 32 * q2 + r1) (d2 : q2 = 8 * q3 + r2) (d3 : q3 = 32 * q4 + r3) : r0 + r1 * 128 + r2 * 4096 + r3 * 32768 + q4 * 1048576 = x := by omega

theorem enc_I (x o f3 f7 : Nat) (nm : List UInt8) (hx : x < 4294967296) (ho : o < 128) (h3 : f3 < 8) (h7 : f7 < 128) (hop : x % 128 = o) (hf3 : x / 4096 % 8 = f3) :
    encI (nm, 73, (o : Int), (f3 : Int), (f7 : Int)) (fieldN x 7 5 : Nat) (fieldN x 15 5 : Nat) 0 (numI 73 x) = x := by
  rw [encI_nat _ _ _ _ _ _ _ _ _ ho h3 h7]
  have hpd : placedN (fieldN x 7 5 : Nat) 7 = x / 128 % 32 * 128 := by rw [placed_reg _ _ (by unfold fieldN; omega)]; unfold fieldN; omega
  have hpa : placedN (fieldN x 15 5 : Nat) 15 = x / 32768 % 32 * 32768 := by rw [placed_reg _ _ (by unfold fieldN; omega)]; unfold fieldN; omega
  have hu := extN_mod ((0 ||| (x / 1048576 % 4096))) 12 (by omega)
  rw [Nat.zero_or] at hu
  rw [laid_I, num_I, u_low _ _ (by omega) (by omega)]
  rw [Nat.zero_or ((x / 1048576 % 4096))]
  generalize extN ((x / 1048576 % 4096)) 12 = u at *
  rw [hpd, hpa, placed_zero]
  have e : encNat 73 o f3 f7 (0 ||| (u % 4096) * 1048576) (x / 128 % 32 * 128) (x / 32768 % 32 * 32768) (0) = ((((o ||| (0 ||| (u % 4096) * 1048576)) ||| x / 128 % 32 * 128) ||| x / 32768 % 32 * 32768) ||| 0) ||| f3 * 4096 := by simp [encNat]
  have k0 : u % 4096 = x / 1048576 % 4096 := by
    clear e h3 h7 hop ho hpd hpa
    have b0 : x / 1048576 % 4096 < 4096 := Nat.mod_lt _ (by decide)
    generalize x / 1048576 % 4096 = v0 at *
    omega
  clear hu
  rw [e, k0]
  clear e k0
  rw [or_I _ _ _ _ _ ho (Nat.mod_lt _ (by decide)) h3 (Nat.mod_lt _ (by decide))]
  rw [← hop, ← hf3]
  have d0 : x = 128 * (x / 128) + x % 128 := (Nat.div_add_mod _ _).symm
  have d1 : x / 128 = 32 * (x / 4096) + x / 128 % 32 := by rw [show x / 4096 = x / 128 / 32 by rw [Nat.div_div_eq_div_mul]]; exact (Nat.div_add_mod _ _).symm
  have d2 : x / 4096 = 8 * (x / 32768) + x / 4096 % 8 := by rw [show x / 32768 = x / 4096 / 8 by rw [Nat.div_div_eq_div_mul]]; exact (Nat.div_add_mod _ _).symm
  have d3 : x / 32768 = 32 * (x / 1048576) + x / 32768 % 32 := by rw [show x / 1048576 = x / 32768 / 32 by rw [Nat.div_div_eq_div_mul]]; exact (Nat.div_add_mod _ _).symm
  have dz : x / 1048576 % 4096 = x / 1048576 := Nat.mod_eq_of_lt (Nat.div_lt_of_lt_mul hx)
  rw [dz]
  exact congrArg Int.ofNat (sum_I _ d0 d1 d2 d3)

theorem sum_B (x : Nat) {q1 q2 q3 q4 q5 q6 q7 r0 r1 r2 r3 r4 r5 r6 : Nat} (d0 : x = 128 * q1 + r0) (d1 : q1 = 2 * q2 + r1) (d2 : q2 = 16 * q3 + r2) (d3 : q3 = 8 * q4 + r3) (d4 : q4 = 32 * q5 + r4) (d5 : q5 = 32 * q6 + r5) (d6 : q6 = 64 * q7 + r6) : r0 + r1 * 128 + r2 * 256 + r3 * 4096 + r4 * 32768 + r5 * 1048576 + r6 * 33554432 + q7 * 2147483648 = x := by omega

theorem enc_B (x o f3 f7 : Nat) (nm : List UInt8) (hx : x < 4294967296) (ho : o < 128) (h3 : f3 < 8) (h7 : f7 < 128) (hop : x % 128 = o) (hf3 : x / 4096 % 8 = f3) :
    encI (nm, 66, (o : Int), (f3 : Int), (f7 : Int)) 0 (fieldN x 15 5 : Nat) (fieldN x 20 5 : Nat) (numI 66 x) = x := by
  rw [encI_nat _ _ _ _ _ _ _ _ _ ho h3 h7]
  have hpa : placedN (fieldN x 15 5 : Nat) 15 = x / 32768 % 32 * 32768 := by rw [placed_reg _ _ (by unfold fieldN; omega)]; unfold fieldN; omega
  have hpb : placedN (fieldN x 20 5 : Nat) 20 = x / 1048576 % 32 * 1048576 := by rw [placed_reg _ _ (by unfold fieldN; omega)]; unfold fieldN; omega
  have hu := extN_mod (((((0 ||| (x / 2147483648 % 2) * 4096) ||| (x / 128 % 2) * 2048) ||| (x / 33554432 % 64) * 32) ||| (x / 256 % 16) * 2)) 13 (by omega)
  have hacc := acc_B (x / 256 % 16) (x / 33554432 % 64) (x / 128 % 2) (x / 2147483648 % 2) (by omega) (by omega) (by omega)
  rw [hacc] at hu
  rw [laid_B, num_B, u_low _ _ (by omega) (by omega), hacc]
  generalize extN ((x / 256 % 16) * 2 + (x / 33554432 % 64) * 32 + (x / 128 % 2) * 2048 + (x / 2147483648 % 2) * 4096) 13 = u at *
  rw [placed_zero, hpa, hpb]
  have e : encNat 66 o f3 f7 ((((0 ||| (u / 4096 % 2) * 2147483648) ||| (u / 2048 % 2) * 128) ||| (u / 32 % 64) * 33554432) ||| (u / 2 % 16) * 256) (0) (x / 32768 % 32 * 32768) (x / 1048576 % 32 * 1048576) = ((((o ||| ((((0 ||| (u / 4096 % 2) * 2147483648) ||| (u / 2048 % 2) * 128) ||| (u / 32 % 64) * 33554432) ||| (u / 2 % 16) * 256)) ||| 0) ||| x / 32768 % 32 * 32768) ||| x / 1048576 % 32 * 1048576) ||| f3 * 4096 := by simp [encNat]
  have k0 : u / 4096 % 2 = x / 2147483648 % 2 := by
    clear e h3 h7 hop ho hpa hpb
    have b0 : x / 2147483648 % 2 < 2 := Nat.mod_lt _ (by decide)
    have b1 : x / 128 % 2 < 2 := Nat.mod_lt _ (by decide)
    have b2 : x / 33554432 % 64 < 64 := Nat.mod_lt _ (by decide)
    have b3 : x / 256 % 16 < 16 := Nat.mod_lt _ (by decide)
    generalize x / 2147483648 % 2 = v0 at *
    generalize x / 128 % 2 = v1 at *
    generalize x / 33554432 % 64 = v2 at *
    generalize x / 256 % 16 = v3 at *
    omega
  have k1 : u / 2048 % 2 = x / 128 % 2 := by
    clear e h3 h7 hop ho hpa hpb
    have b0 : x / 2147483648 % 2 < 2 := Nat.mod_lt _ (by decide)
    have b1 : x / 128 % 2 < 2 := Nat.mod_lt _ (by decide)
    have b2 : x / 33554432 % 64 < 64 := Nat.mod_lt _ (by decide)
    have b3 : x / 256 % 16 < 16 := Nat.mod_lt _ (by decide)
    generalize x / 2147483648 % 2 = v0 at *
    generalize x / 128 % 2 = v1 at *
    generalize x / 33554432 % 64 = v2 at *
    generalize x / 256 % 16 = v3 at *
    omega
  have k2 : u / 32 % 64 = x / 33554432 % 64 := by
    clear e h3 h7 hop ho hpa hpb
    have b0 : x / 2147483648 % 2 < 2 := Nat.mod_lt _ (by decide)
    have b1 : x / 128 % 2 < 2 := Nat.mod_lt _ (by decide)
    have b2 : x / 33554432 % 64 < 64 := Nat.mod_lt _ (by decide)
    have b3 : x / 256 % 16 < 16 := Nat.mod_lt _ (by decide)
    generalize x / 2147483648 % 2 = v0 at *
    generalize x / 128 % 2 = v1 at *
    generalize x / 33554432 % 64 = v2 at *
    generalize x / 256 % 16 = v3 at *
    omega
  have k3 : u / 2 % 16 = x / 256 % 16 := by
    clear e h3 h7 hop ho hpa hpb
    have b0 : x / 2147483648 % 2 < 2 := Nat.mod_lt _ (by decide)
    have b1 : x / 128 % 2 < 2 := Nat.mod_lt _ (by decide)
    have b2 : x / 33554432 % 64 < 64 := Nat.mod_lt _ (by decide)
    have b3 : x / 256 % 16 < 16 := Nat.mod_lt _ (by decide)
    generalize x / 2147483648 % 2 = v0 at *
    generalize x / 128 % 2 = v1 at *
    generalize x / 33554432 % 64 = v2 at *
    generalize x / 256 % 16 = v3 at *
    omega
  clear hu
  rw [e, k0, k1, k2, k3]
  clear e k0 k1 k2 k3
  rw [or_B _ _ _ _ _ _ _ _ ho (Nat.mod_lt _ (by decide)) (Nat.mod_lt _ (by decide)) h3 (Nat.mod_lt _ (by decide)) (Nat.mod_lt _ (by decide)) (Nat.mod_lt _ (by decide))]
  rw [← hop, ← hf3]
  have d0 : x = 128 * (x / 128) + x % 128 := (Nat.div_add_mod _ _).symm
  have d1 : x / 128 = 2 * (x / 256) + x / 128 % 2 := by rw [show x / 256 = x / 128 / 2 by rw [Nat.div_div_eq_div_mul]]; exact (Nat.div_add_mod _ _).symm
  have d2 : x / 256 = 16 * (x / 4096) + x / 256 % 16 := by rw [show x / 4096 = x / 256 / 16 by rw [Nat.div_div_eq_div_mul]]; exact (Nat.div_add_mod _ _).symm
  have d3 : x / 4096 = 8 * (x / 32768) + x / 4096 % 8 := by rw [show x / 32768 = x / 4096 / 8 by rw [Nat.div_div_eq_div_mul]]; exact (Nat.div_add_mod _ _).symm
  have d4 : x / 32768 = 32 * (x / 1048576) + x / 32768 % 32 := by rw [show x / 1048576 = x / 32768 / 32 by rw [Nat.div_div_eq_div_mul]]; exact (Nat.div_add_mod _ _).symm
  have d5 : x / 1048576 = 32 * (x / 33554432) + x / 1048576 % 32 := by rw [show x / 33554432 = x / 1048576 / 32 by rw [Nat.div_div_eq_div_mul]]; exact (Nat.div_add_mod _ _).symm
  have d6 : x / 33554432 = 64 * (x / 2147483648) + x / 33554432 % 64 := by rw [show x / 2147483648 = x / 33554432 / 64 by rw [Nat.div_div_eq_div_mul]]; exact (Nat.div_add_mod _ _).symm
  have dz : x / 2147483648 % 2 = x / 2147483648 := Nat.mod_eq_of_lt (Nat.div_lt_of_lt_mul hx)
  rw [dz]
  exact congrArg Int.ofNat (sum_B _ d0 d1 d2 d3 d4 d5 d6)

theorem sum_S (x : Nat) {q1 q2 q3 q4 q5 r0 r1 r2 r3 r4 : Nat} (d0 : x = 128 * q1 + r0) (d1 : q1 = 32 * q2 + r1) (d2 : q2 = 8 * q3 + r2) (d3 : q3 = 32 * q4 + r3) (d4 : q4 = 32 * q5 + r4) : r0 + r1 * 128 + r2 * 4096 + r3 * 32768 + r4 * 1048576 + q5 * 33554432 = x := by omega

theorem enc_S (x o f3 f7 : Nat) (nm : List UInt8) (hx : x < 4294967296) (ho : o < 128) (h3 : f3 < 8) (h7 : f7 < 128) (hop : x % 128 = o) (hf3 : x / 4096 % 8 = f3) :
    encI (nm, 83, (o : Int), (f3 : Int), (f7 : Int)) 0 (fieldN x 15 5 : Nat) (fieldN x 20 5 : Nat) (numI 83 x) = x := by
  rw [encI_nat _ _ _ _ _ _ _ _ _ ho h3 h7]
  have hpa : placedN (fieldN x 15 5 : Nat) 15 = x / 32768 % 32 * 32768 := by rw [placed_reg _ _ (by unfold fieldN; omega)]; unfold fieldN; omega
  have hpb : placedN (fieldN x 20 5 : Nat) 20 = x / 1048576 % 32 * 1048576 := by rw [placed_reg _ _ (by unfold fieldN; omega)]; unfold fieldN; omega
  have hu := extN_mod (((0 ||| (x / 33554432 % 128) * 32) ||| (x / 128 % 32))) 12 (by omega)
  have hacc := acc_S (x / 128 % 32) (x / 33554432 % 128) (by omega)
  rw [Nat.mul_one] at hacc
  rw [hacc] at hu
  rw [laid_S, num_S, u_low _ _ (by omega) (by omega), hacc]
  generalize extN ((x / 128 % 32) + (x / 33554432 % 128) * 32) 12 = u at *
  rw [placed_zero, hpa, hpb]
  have e : encNat 83 o f3 f7 ((0 ||| (u / 32 % 128) * 33554432) ||| (u % 32) * 128) (0) (x / 32768 % 32 * 32768) (x / 1048576 % 32 * 1048576) = ((((o ||| ((0 ||| (u / 32 % 128) * 33554432) ||| (u % 32) * 128)) ||| 0) ||| x / 32768 % 32 * 32768) ||| x / 1048576 % 32 * 1048576) ||| f3 * 4096 := by simp [encNat]
  have k0 : u / 32 % 128 = x / 33554432 % 128 := by
    clear e h3 h7 hop ho hpa hpb
    have b0 : x / 33554432 % 128 < 128 := Nat.mod_lt _ (by decide)
    have b1 : x / 128 % 32 < 32 := Nat.mod_lt _ (by decide)
    generalize x / 33554432 % 128 = v0 at *
    generalize x / 128 % 32 = v1 at *
    omega
  have k1 : u % 32 = x / 128 % 32 := by
    clear e h3 h7 hop ho hpa hpb
    have b0 : x / 33554432 % 128 < 128 := Nat.mod_lt _ (by decide)
    have b1 : x / 128 % 32 < 32 := Nat.mod_lt _ (by decide)
    generalize x / 33554432 % 128 = v0 at *
    generalize x / 128 % 32 = v1 at *
    omega
  clear hu
  rw [e, k0, k1]
  clear e k0 k1
  rw [or_S _ _ _ _ _ _ ho (Nat.mod_lt _ (by decide)) h3 (Nat.mod_lt _ (by decide)) (Nat.mod_lt _ (by decide))]
  rw [← hop, ← hf3]
  have d0 : x = 128 * (x / 128) + x % 128 := (Nat.div_add_mod _ _).symm
  have d1 : x / 128 = 32 * (x / 4096) + x / 128 % 32 := by rw [show x / 4096 = x / 128 / 32 by rw [Nat.div_div_eq_div_mul]]; exact (Nat.div_add_mod _ _).symm
  have d2 : x / 4096 = 8 * (x / 32768) + x / 4096 % 8 := by rw [show x / 32768 = x / 4096 / 8 by rw [Nat.div_div_eq_div_mul]]; exact (Nat.div_add_mod _ _).symm
  have d3 : x / 32768 = 32 * (x / 1048576) + x / 32768 % 32 := by rw [show x / 1048576 = x / 32768 / 32 by rw [Nat.div_div_eq_div_mul]]; exact (Nat.div_add_mod _ _).symm
  have d4 : x / 1048576 = 32 * (x / 33554432) + x / 1048576 % 32 := by rw [show x / 33554432 = x / 1048576 / 32 by rw [Nat.div_div_eq_div_mul]]; exact (Nat.div_add_mod _ _).symm
  have dz : x / 33554432 % 128 = x / 33554432 := Nat.mod_eq_of_lt (Nat.div_lt_of_lt_mul hx)
  rw [dz]
  exact congrArg Int.ofNat (sum_S _ d0 d1 d2 d3 d4)

theorem sum_H (x : Nat) {q1 q2 q3 q4 q5 r0 r1 r2 r3 r4 : Nat} (d0 : x = 128 * q1 + r0) (d1 : q1 = 32 * q2 + r1) (d2 : q2 = 8 * q3 + r2) (d3 : q3 = 32 * q4 + r3) (d4 : q4 = 64 * q5 + r4) : r0 + r1 * 128 + r2 * 4096 + r3 * 32768 + r4 * 1048576 + q5 * 67108864 = x := by omega

theorem enc_H (x o f3 f7 : Nat) (nm : List UInt8) (hx : x < 4294967296) (ho : o < 128) (h3 : f3 < 8) (h7 : f7 < 128) (hop : x % 128 = o) (hf3 : x / 4096 % 8 = f3) (hev : f7 % 2 = 0) (hf7 : x / 67108864 % 64 = f7 / 2) :
    encI (nm, 72, (o : Int), (f3 : Int), (f7 : Int)) (fieldN x 7 5 : Nat) (fieldN x 15 5 : Nat) 0 (numI 72 x) = x := by
  rw [encI_nat _ _ _ _ _ _ _ _ _ ho h3 h7]
  have hpd : placedN (fieldN x 7 5 : Nat) 7 = x / 128 % 32 * 128 := by rw [placed_reg _ _ (by unfold fieldN; omega)]; unfold fieldN; omega
  have hpa : placedN (fieldN x 15 5 : Nat) 15 = x / 32768 % 32 * 32768 := by rw [placed_reg _ _ (by unfold fieldN; omega)]; unfold fieldN; omega
  rw [laid_H, num_H, u_zero _ (by rw [Nat.zero_or]; omega)]
  rw [Nat.zero_or ((x / 1048576 % 64))]
  generalize hu : (x / 1048576 % 64) = u at *
  rw [hpd, hpa, placed_zero]
  have e7 : f7 * 33554432 = (f7 / 2) * 67108864 := by omega
  have e : encNat 72 o f3 f7 (0 ||| (u % 64) * 1048576) (x / 128 % 32 * 128) (x / 32768 % 32 * 32768) (0) = (((((o ||| (0 ||| (u % 64) * 1048576)) ||| x / 128 % 32 * 128) ||| x / 32768 % 32 * 32768) ||| 0) ||| (f7 / 2) * 67108864) ||| f3 * 4096 := by simp [encNat, e7]
  rw [e]
  clear e
  subst hu
  rw [show (x / 1048576 % 64) % 64 = x / 1048576 % 64 by rw [Nat.mod_mod]]
  rw [or_H _ _ _ _ _ _ ho (Nat.mod_lt _ (by decide)) h3 (Nat.mod_lt _ (by decide)) (Nat.mod_lt _ (by decide))]
  rw [← hop, ← hf3, ← hf7]
  have d0 : x = 128 * (x / 128) + x % 128 := (Nat.div_add_mod _ _).symm
  have d1 : x / 128 = 32 * (x / 4096) + x / 128 % 32 := by rw [show x / 4096 = x / 128 / 32 by rw [Nat.div_div_eq_div_mul]]; exact (Nat.div_add_mod _ _).symm
  have d2 : x / 4096 = 8 * (x / 32768) + x / 4096 % 8 := by rw [show x / 32768 = x / 4096 / 8 by rw [Nat.div_div_eq_div_mul]]; exact (Nat.div_add_mod _ _).symm
  have d3 : x / 32768 = 32 * (x / 1048576) + x / 32768 % 32 := by rw [show x / 1048576 = x / 32768 / 32 by rw [Nat.div_div_eq_div_mul]]; exact (Nat.div_add_mod _ _).symm
  have d4 : x / 1048576 = 64 * (x / 67108864) + x / 1048576 % 64 := by rw [show x / 67108864 = x / 1048576 / 64 by rw [Nat.div_div_eq_div_mul]]; exact (Nat.div_add_mod _ _).symm
  have dz : x / 67108864 % 64 = x / 67108864 := Nat.mod_eq_of_lt (Nat.div_lt_of_lt_mul hx)
  rw [dz]
  exact congrArg Int.ofNat (sum_H _ d0 d1 d2 d3 d4)

theorem sum_K (x : Nat) {q1 q2 q3 q4 q5 r0 r1 r2 r3 r4 : Nat} (d0 : x = 128 * q1 + r0) (d1 : q1 = 32 * q2 + r1) (d2 : q2 = 8 * q3 + r2) (d3 : q3 = 32 * q4 + r3) (d4 : q4 = 32 * q5 + r4) : r0 + r1 * 128 + r2 * 4096 + r3 * 32768 + r4 * 1048576 + q5 * 33554432 = x := by omega

theorem enc_K (x o f3 f7 : Nat) (nm : List UInt8) (hx : x < 4294967296) (ho : o < 128) (h3 : f3 < 8) (h7 : f7 < 128) (hop : x % 128 = o) (hf3 : x / 4096 % 8 = f3) (hf7 : x / 33554432 % 128 = f7) :
    encI (nm, 75, (o : Int), (f3 : Int), (f7 : Int)) (fieldN x 7 5 : Nat) (fieldN x 15 5 : Nat) 0 (numI 75 x) = x := by
  rw [encI_nat _ _ _ _ _ _ _ _ _ ho h3 h7]
  have hpd : placedN (fieldN x 7 5 : Nat) 7 = x / 128 % 32 * 128 := by rw [placed_reg _ _ (by unfold fieldN; omega)]; unfold fieldN; omega
  have hpa : placedN (fieldN x 15 5 : Nat) 15 = x / 32768 % 32 * 32768 := by rw [placed_reg _ _ (by unfold fieldN; omega)]; unfold fieldN; omega
  rw [laid_K, num_K, u_zero _ (by rw [Nat.zero_or]; omega)]
  rw [Nat.zero_or ((x / 1048576 % 32))]
  generalize hu : (x / 1048576 % 32) = u at *
  rw [hpd, hpa, placed_zero]
  have e : encNat 75 o f3 f7 (0 ||| (u % 32) * 1048576) (x / 128 % 32 * 128) (x / 32768 % 32 * 32768) (0) = (((((o ||| (0 ||| (u % 32) * 1048576)) ||| x / 128 % 32 * 128) ||| x / 32768 % 32 * 32768) ||| 0) ||| f7 * 33554432) ||| f3 * 4096 := by simp [encNat]
  rw [e]
  clear e
  subst hu
  rw [show (x / 1048576 % 32) % 32 = x / 1048576 % 32 by rw [Nat.mod_mod]]
  rw [or_K _ _ _ _ _ _ ho (Nat.mod_lt _ (by decide)) h3 (Nat.mod_lt _ (by decide)) (Nat.mod_lt _ (by decide))]
  rw [← hop, ← hf3, ← hf7]
  have d0 : x = 128 * (x / 128) + x % 128 := (Nat.div_add_mod _ _).symm
  have d1 : x / 128 = 32 * (x / 4096) + x / 128 % 32 := by rw [show x / 4096 = x / 128 / 32 by rw [Nat.div_div_eq_div_mul]]; exact (Nat.div_add_mod _ _).symm
  have d2 : x / 4096 = 8 * (x / 32768) + x / 4096 % 8 := by rw [show x / 32768 = x / 4096 / 8 by rw [Nat.div_div_eq_div_mul]]; exact (Nat.div_add_mod _ _).symm
  have d3 : x / 32768 = 32 * (x / 1048576) + x / 32768 % 32 := by rw [show x / 1048576 = x / 32768 / 32 by rw [Nat.div_div_eq_div_mul]]; exact (Nat.div_add_mod _ _).symm
  have d4 : x / 1048576 = 32 * (x / 33554432) + x / 1048576 % 32 := by rw [show x / 33554432 = x / 1048576 / 32 by rw [Nat.div_div_eq_div_mul]]; exact (Nat.div_add_mod _ _).symm
  have dz : x / 33554432 % 128 = x / 33554432 := Nat.mod_eq_of_lt (Nat.div_lt_of_lt_mul hx)
  rw [dz]
  exact congrArg Int.ofNat (sum_K _ d0 d1 d2 d3 d4)

theorem sum_R (x : Nat) {q1 q2 q3 q4 q5 r0 r1 r2 r3 r4 : Nat} (d0 : x = 128 * q1 + r0) (d1 : q1 = 32 * q2 + r1) (d2 : q2 = 8 * q3 + r2) (d3 : q3 = 32 * q4 + r3) (d4 : q4 = 32 * q5 + r4) : r0 + r1 * 128 + r2 * 4096 + r3 * 32768 + r4 * 1048576 + q5 * 33554432 = x := by omega

theorem enc_R (x o f3 f7 : Nat) (nm : List UInt8) (hx : x < 4294967296) (ho : o < 128) (h3 : f3 < 8) (h7 : f7 < 128) (hop : x % 128 = o) (hf3 : x / 4096 % 8 = f3) (hf7 : x / 33554432 % 128 = f7) :
    encI (nm, 82, (o : Int), (f3 : Int), (f7 : Int)) (fieldN x 7 5 : Nat) (fieldN x 15 5 : Nat) (fieldN x 20 5 : Nat) (numI 82 x) = x := by
  rw [encI_nat _ _ _ _ _ _ _ _ _ ho h3 h7]
  have hpd : placedN (fieldN x 7 5 : Nat) 7 = x / 128 % 32 * 128 := by rw [placed_reg _ _ (by unfold fieldN; omega)]; unfold fieldN; omega
  have hpa : placedN (fieldN x 15 5 : Nat) 15 = x / 32768 % 32 * 32768 := by rw [placed_reg _ _ (by unfold fieldN; omega)]; unfold fieldN; omega
  have hpb : placedN (fieldN x 20 5 : Nat) 20 = x / 1048576 % 32 * 1048576 := by rw [placed_reg _ _ (by unfold fieldN; omega)]; unfold fieldN; omega
  rw [laid_R]
  rw [hpd, hpa, hpb]
  have e : encNat 82 o f3 f7 0 (x / 128 % 32 * 128) (x / 32768 % 32 * 32768) (x / 1048576 % 32 * 1048576) = (((((o ||| 0) ||| x / 128 % 32 * 128) ||| x / 32768 % 32 * 32768) ||| x / 1048576 % 32 * 1048576) ||| f7 * 33554432) ||| f3 * 4096 := by simp [encNat]
  rw [e]
  clear e
  rw [or_R _ _ _ _ _ _ ho (Nat.mod_lt _ (by decide)) h3 (Nat.mod_lt _ (by decide)) (Nat.mod_lt _ (by decide))]
  rw [← hop, ← hf3, ← hf7]
  have d0 : x = 128 * (x / 128) + x % 128 := (Nat.div_add_mod _ _).symm
  have d1 : x / 128 = 32 * (x / 4096) + x / 128 % 32 := by rw [show x / 4096 = x / 128 / 32 by rw [Nat.div_div_eq_div_mul]]; exact (Nat.div_add_mod _ _).symm
  have d2 : x / 4096 = 8 * (x / 32768) + x / 4096 % 8 := by rw [show x / 32768 = x / 4096 / 8 by rw [Nat.div_div_eq_div_mul]]; exact (Nat.div_add_mod _ _).symm
  have d3 : x / 32768 = 32 * (x / 1048576) + x / 32768 % 32 := by rw [show x / 1048576 = x / 32768 / 32 by rw [Nat.div_div_eq_div_mul]]; exact (Nat.div_add_mod _ _).symm
  have d4 : x / 1048576 = 32 * (x / 33554432) + x / 1048576 % 32 := by rw [show x / 33554432 = x / 1048576 / 32 by rw [Nat.div_div_eq_div_mul]]; exact (Nat.div_add_mod _ _).symm
  have dz : x / 33554432 % 128 = x / 33554432 := Nat.mod_eq_of_lt (Nat.div_lt_of_lt_mul hx)
  rw [dz]
  exact congrArg Int.ofNat (sum_R _ d0 d1 d2 d3 d4)

theorem enc_N (x o f3 f7 : Nat) (nm : List UInt8) (hx : x < 4294967296) (ho : o < 128) (h3 : f3 < 8) (h7 : f7 < 128) (hop : x % 128 = o) (hn : x = o + f7 * 1048576) :
    encI (nm, 78, (o : Int), (f3 : Int), (f7 : Int)) 0 0 0 (numI 78 x) = x := by
  rw [encI_nat _ _ _ _ _ _ _ _ _ ho h3 h7]
  rw [laid_N]
  rw [placed_zero, placed_zero, placed_zero]
  have e : encNat 78 o f3 f7 0 (0) (0) (0) = ((((o ||| 0) ||| 0) ||| 0) ||| 0) ||| f7 * 1048576 := by simp [encNat]
  rw [e]
  clear e
  rw [or_N _ _ ho]
  exact congrArg Int.ofNat hn.symm

end
end Go.Proofs.Ytoljkjnehcbbaaa
