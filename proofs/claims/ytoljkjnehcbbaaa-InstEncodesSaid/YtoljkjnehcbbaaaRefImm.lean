/- The document's Imm: what it answers for every letter is the number that Decode reads. -/
import Derived.Test.YtoljkjnehcbbaaaRefFits
namespace Go.Proofs.Ytoljkjnehcbbaaa
open Go.RowKit
noncomputable section
set_option linter.unusedVariables false
set_option linter.unusedSimpArgs false

theorem refSigned_at (ni : Int) (n b : Nat) (bi : Int) (w : World) (h : ni = n) (hbi : bi = b) (hn : n < 4294967296) (hb : b ≤ 31) :
    Calls Try.prog 36 #[.int .u32 ni, .int .i64 bi] w fun e w' => e = .returned (.int .i64 (signedI n b)) ∧ ∃ m, w' = w.drewN m := by
  subst h; subst hbi
  exact refSigned_any n b w hn hb

theorem ext_signed (acc b : Nat) (hb : 1 ≤ b) (hb2 : b ≤ 31) (h : acc < 2 ^ b) : wrap64 (extN acc b : Nat) = signedI acc b := by
  have hp : 2 ^ b ≤ 2 ^ 31 := Nat.pow_le_pow_right (by omega) hb2
  have e : 2 ^ b = 2 * 2 ^ (b - 1) := by
    obtain ⟨d, rfl⟩ : ∃ d, b = d + 1 := ⟨b - 1, by omega⟩
    rw [Nat.pow_succ, Nat.add_sub_cancel]; omega
  unfold extN signedI
  rw [Nat.mod_eq_of_lt h]
  generalize 2 ^ (b - 1) = q at *
  rw [e] at h hp ⊢
  unfold wrap64
  by_cases hq : acc < q
  · rw [if_pos hq, if_neg (by omega)]; omega
  · rw [if_neg hq, if_pos (by omega)]; omega

theorem ext_signed32 (u : Nat) (h : u < 1048576) : wrap64 (extN (u * 4096) 32 : Nat) = signedI u 20 * 4096 := by
  unfold extN signedI
  rw [show (2 : Nat) ^ 32 = 4294967296 by decide, show (2 : Nat) ^ (32 - 1) = 2147483648 by decide, show (2 : Nat) ^ 20 = 1048576 by decide, Nat.mod_eq_of_lt (by omega)]
  unfold wrap64
  by_cases hq : u * 4096 < 2147483648
  · rw [if_pos hq, if_neg (by omega)]; omega
  · rw [if_neg hq, if_pos (by omega)]; omega

theorem signedI_lt (u : Nat) (h : u < 1048576) : -524288 ≤ signedI u 20 ∧ signedI u 20 < 524288 := by
  unfold signedI
  rw [show (2 : Nat) ^ 20 = 1048576 by decide]
  split <;> omega

theorem refNum_R (x : Nat) : numI 82 x = 0 := by
  rw [numI_eq 82 x [] 0 (by simp [piecesOf]), if_pos rfl]
  simp [numAcc, wrap64]
theorem refNum_N (x : Nat) : numI 78 x = 0 := by
  rw [numI_eq 78 x [] 0 (by simp [piecesOf]), if_pos rfl]
  simp [numAcc, wrap64]

theorem refNum_U (x : Nat) (hx : x < 4294967296) : signedI (fieldN x 12 20) 20 * 4096 = numI 85 x := by
  symm
  have h12 : fieldN x 12 20 = x / 4096 % 1048576 := by simp [fieldN]
  rw [num_U, h12]
  rw [Nat.zero_or]
  exact ext_signed32 _ (by omega)

set_option maxHeartbeats 4000000 in
set_option maxRecDepth 100000 in
theorem refImm_U (x : Nat) (w : World) (hx : x < 4294967296) :
    Calls Try.prog 27 #[.string ⟨#[85]⟩, .int .u32 x] w fun e w' => e = .returned (.int .i64 (numI 85 x)) ∧ ∃ m, w' = w.drewN m := by
  have Hv := hid (refNum_U x hx)
  have hb12 : fieldN x 12 20 < 1048576 := Nat.mod_lt _ (by decide)
  have hsg := signedI_lt (fieldN x 12 20) hb12
  go_enter Try.func27, Try.ntmps27
  go_wp2_with (first
    | (go_at_call_of 28 (Value.int IntKind.i64 12); refine (refBits_any x 12 20 _ hx (by omega) (by omega)).mono ?_; rintro e w1 ⟨rfl, m12, rfl⟩)
    | (go_at_call 36; refine (refSigned_at _ (fieldN x 12 20) 20 _ _ (by omega) rfl (by omega) (by omega)).mono ?_; rintro e w1 ⟨rfl, ms, rfl⟩))
  go_ret
  exact ⟨ret_int (by first | exact Hv.out | exact Hv.out.symm), by first | exact ⟨_, rfl⟩ | (simp only [World.drewN_drewN]; exact ⟨_, rfl⟩)⟩

theorem refNum_J (x : Nat) (hx : x < 4294967296) : signedI (fieldN x 21 10 * 2 + fieldN x 20 1 * 2048 + fieldN x 12 8 * 4096 + fieldN x 31 1 * 1048576) 21 = numI 74 x := by
  symm
  have h31 : fieldN x 31 1 = x / 2147483648 % 2 := by simp [fieldN]
  have h12 : fieldN x 12 8 = x / 4096 % 256 := by simp [fieldN]
  have h20 : fieldN x 20 1 = x / 1048576 % 2 := by simp [fieldN]
  have h21 : fieldN x 21 10 = x / 2097152 % 1024 := by simp [fieldN]
  have hacc := acc_J (x / 2097152 % 1024) (x / 1048576 % 2) (x / 4096 % 256) (x / 2147483648 % 2) (by omega) (by omega) (by omega)
  rw [num_J, hacc, h31, h12, h20, h21]
  exact ext_signed _ _ (by omega) (by omega) (by omega)

set_option maxHeartbeats 4000000 in
set_option maxRecDepth 100000 in
theorem refImm_J (x : Nat) (w : World) (hx : x < 4294967296) :
    Calls Try.prog 27 #[.string ⟨#[74]⟩, .int .u32 x] w fun e w' => e = .returned (.int .i64 (numI 74 x)) ∧ ∃ m, w' = w.drewN m := by
  have Hv := hid (refNum_J x hx)
  have hb31 : fieldN x 31 1 < 2 := Nat.mod_lt _ (by decide)
  have hb12 : fieldN x 12 8 < 256 := Nat.mod_lt _ (by decide)
  have hb20 : fieldN x 20 1 < 2 := Nat.mod_lt _ (by decide)
  have hb21 : fieldN x 21 10 < 1024 := Nat.mod_lt _ (by decide)
  go_enter Try.func27, Try.ntmps27
  go_wp2_with (first
    | (go_at_call_of 28 (Value.int IntKind.i64 31); refine (refBits_any x 31 1 _ hx (by omega) (by omega)).mono ?_; rintro e w1 ⟨rfl, m31, rfl⟩)
    | (go_at_call_of 28 (Value.int IntKind.i64 12); refine (refBits_any x 12 8 _ hx (by omega) (by omega)).mono ?_; rintro e w1 ⟨rfl, m12, rfl⟩)
    | (go_at_call_of 28 (Value.int IntKind.i64 20); refine (refBits_any x 20 1 _ hx (by omega) (by omega)).mono ?_; rintro e w1 ⟨rfl, m20, rfl⟩)
    | (go_at_call_of 28 (Value.int IntKind.i64 21); refine (refBits_any x 21 10 _ hx (by omega) (by omega)).mono ?_; rintro e w1 ⟨rfl, m21, rfl⟩)
    | (go_at_call 36; refine (refSigned_at _ (fieldN x 21 10 * 2 + fieldN x 20 1 * 2048 + fieldN x 12 8 * 4096 + fieldN x 31 1 * 1048576) 21 _ _ (by omega) rfl (by omega) (by omega)).mono ?_; rintro e w1 ⟨rfl, ms, rfl⟩))
  go_ret
  exact ⟨ret_int (by first | exact Hv.out | exact Hv.out.symm), by first | exact ⟨_, rfl⟩ | (simp only [World.drewN_drewN]; exact ⟨_, rfl⟩)⟩

theorem refNum_I (x : Nat) (hx : x < 4294967296) : signedI (fieldN x 20 12) 12 = numI 73 x := by
  symm
  have h20 : fieldN x 20 12 = x / 1048576 % 4096 := by simp [fieldN]
  rw [num_I, h20, Nat.zero_or]
  exact ext_signed _ _ (by omega) (by omega) (by omega)

set_option maxHeartbeats 4000000 in
set_option maxRecDepth 100000 in
theorem refImm_I (x : Nat) (w : World) (hx : x < 4294967296) :
    Calls Try.prog 27 #[.string ⟨#[73]⟩, .int .u32 x] w fun e w' => e = .returned (.int .i64 (numI 73 x)) ∧ ∃ m, w' = w.drewN m := by
  have Hv := hid (refNum_I x hx)
  have hb20 : fieldN x 20 12 < 4096 := Nat.mod_lt _ (by decide)
  go_enter Try.func27, Try.ntmps27
  go_wp2_with (first
    | (go_at_call_of 28 (Value.int IntKind.i64 20); refine (refBits_any x 20 12 _ hx (by omega) (by omega)).mono ?_; rintro e w1 ⟨rfl, m20, rfl⟩)
    | (go_at_call 36; refine (refSigned_at _ (fieldN x 20 12) 12 _ _ (by omega) rfl (by omega) (by omega)).mono ?_; rintro e w1 ⟨rfl, ms, rfl⟩))
  go_ret
  exact ⟨ret_int (by first | exact Hv.out | exact Hv.out.symm), by first | exact ⟨_, rfl⟩ | (simp only [World.drewN_drewN]; exact ⟨_, rfl⟩)⟩

theorem refNum_B (x : Nat) (hx : x < 4294967296) : signedI (fieldN x 8 4 * 2 + fieldN x 25 6 * 32 + fieldN x 7 1 * 2048 + fieldN x 31 1 * 4096) 13 = numI 66 x := by
  symm
  have h31 : fieldN x 31 1 = x / 2147483648 % 2 := by simp [fieldN]
  have h7 : fieldN x 7 1 = x / 128 % 2 := by simp [fieldN]
  have h25 : fieldN x 25 6 = x / 33554432 % 64 := by simp [fieldN]
  have h8 : fieldN x 8 4 = x / 256 % 16 := by simp [fieldN]
  have hacc := acc_B (x / 256 % 16) (x / 33554432 % 64) (x / 128 % 2) (x / 2147483648 % 2) (by omega) (by omega) (by omega)
  rw [num_B, hacc, h31, h7, h25, h8]
  exact ext_signed _ _ (by omega) (by omega) (by omega)

set_option maxHeartbeats 4000000 in
set_option maxRecDepth 100000 in
theorem refImm_B (x : Nat) (w : World) (hx : x < 4294967296) :
    Calls Try.prog 27 #[.string ⟨#[66]⟩, .int .u32 x] w fun e w' => e = .returned (.int .i64 (numI 66 x)) ∧ ∃ m, w' = w.drewN m := by
  have Hv := hid (refNum_B x hx)
  have hb31 : fieldN x 31 1 < 2 := Nat.mod_lt _ (by decide)
  have hb7 : fieldN x 7 1 < 2 := Nat.mod_lt _ (by decide)
  have hb25 : fieldN x 25 6 < 64 := Nat.mod_lt _ (by decide)
  have hb8 : fieldN x 8 4 < 16 := Nat.mod_lt _ (by decide)
  go_enter Try.func27, Try.ntmps27
  go_wp2_with (first
    | (go_at_call_of 28 (Value.int IntKind.i64 31); refine (refBits_any x 31 1 _ hx (by omega) (by omega)).mono ?_; rintro e w1 ⟨rfl, m31, rfl⟩)
    | (go_at_call_of 28 (Value.int IntKind.i64 7); refine (refBits_any x 7 1 _ hx (by omega) (by omega)).mono ?_; rintro e w1 ⟨rfl, m7, rfl⟩)
    | (go_at_call_of 28 (Value.int IntKind.i64 25); refine (refBits_any x 25 6 _ hx (by omega) (by omega)).mono ?_; rintro e w1 ⟨rfl, m25, rfl⟩)
    | (go_at_call_of 28 (Value.int IntKind.i64 8); refine (refBits_any x 8 4 _ hx (by omega) (by omega)).mono ?_; rintro e w1 ⟨rfl, m8, rfl⟩)
    | (go_at_call 36; refine (refSigned_at _ (fieldN x 8 4 * 2 + fieldN x 25 6 * 32 + fieldN x 7 1 * 2048 + fieldN x 31 1 * 4096) 13 _ _ (by omega) rfl (by omega) (by omega)).mono ?_; rintro e w1 ⟨rfl, ms, rfl⟩))
  go_ret
  exact ⟨ret_int (by first | exact Hv.out | exact Hv.out.symm), by first | exact ⟨_, rfl⟩ | (simp only [World.drewN_drewN]; exact ⟨_, rfl⟩)⟩

theorem refNum_S (x : Nat) (hx : x < 4294967296) : signedI (fieldN x 7 5 + fieldN x 25 7 * 32) 12 = numI 83 x := by
  symm
  have h25 : fieldN x 25 7 = x / 33554432 % 128 := by simp [fieldN]
  have h7 : fieldN x 7 5 = x / 128 % 32 := by simp [fieldN]
  have hacc := acc_S (x / 128 % 32) (x / 33554432 % 128) (by omega)
  rw [Nat.mul_one] at hacc
  rw [num_S, hacc, h25, h7]
  exact ext_signed _ _ (by omega) (by omega) (by omega)

set_option maxHeartbeats 4000000 in
set_option maxRecDepth 100000 in
theorem refImm_S (x : Nat) (w : World) (hx : x < 4294967296) :
    Calls Try.prog 27 #[.string ⟨#[83]⟩, .int .u32 x] w fun e w' => e = .returned (.int .i64 (numI 83 x)) ∧ ∃ m, w' = w.drewN m := by
  have Hv := hid (refNum_S x hx)
  have hb25 : fieldN x 25 7 < 128 := Nat.mod_lt _ (by decide)
  have hb7 : fieldN x 7 5 < 32 := Nat.mod_lt _ (by decide)
  go_enter Try.func27, Try.ntmps27
  go_wp2_with (first
    | (go_at_call_of 28 (Value.int IntKind.i64 25); refine (refBits_any x 25 7 _ hx (by omega) (by omega)).mono ?_; rintro e w1 ⟨rfl, m25, rfl⟩)
    | (go_at_call_of 28 (Value.int IntKind.i64 7); refine (refBits_any x 7 5 _ hx (by omega) (by omega)).mono ?_; rintro e w1 ⟨rfl, m7, rfl⟩)
    | (go_at_call 36; refine (refSigned_at _ (fieldN x 7 5 + fieldN x 25 7 * 32) 12 _ _ (by omega) rfl (by omega) (by omega)).mono ?_; rintro e w1 ⟨rfl, ms, rfl⟩))
  go_ret
  exact ⟨ret_int (by first | exact Hv.out | exact Hv.out.symm), by first | exact ⟨_, rfl⟩ | (simp only [World.drewN_drewN]; exact ⟨_, rfl⟩)⟩

theorem refNum_H (x : Nat) (hx : x < 4294967296) : ((fieldN x 20 6 : Nat) : Int) = numI 72 x := by
  symm
  have h20 : fieldN x 20 6 = x / 1048576 % 64 := by simp [fieldN]
  rw [num_H, h20, Nat.zero_or]
  unfold wrap64
  omega

set_option maxHeartbeats 4000000 in
set_option maxRecDepth 100000 in
theorem refImm_H (x : Nat) (w : World) (hx : x < 4294967296) :
    Calls Try.prog 27 #[.string ⟨#[72]⟩, .int .u32 x] w fun e w' => e = .returned (.int .i64 (numI 72 x)) ∧ ∃ m, w' = w.drewN m := by
  have Hv := hid (refNum_H x hx)
  have hb20 : fieldN x 20 6 < 64 := Nat.mod_lt _ (by decide)
  go_enter Try.func27, Try.ntmps27
  go_wp2_with (first
    | (go_at_call_of 28 (Value.int IntKind.i64 20); refine (refBits_any x 20 6 _ hx (by omega) (by omega)).mono ?_; rintro e w1 ⟨rfl, m20, rfl⟩))
  go_ret
  exact ⟨ret_int (by first | exact Hv.out | exact Hv.out.symm), by first | exact ⟨_, rfl⟩ | (simp only [World.drewN_drewN]; exact ⟨_, rfl⟩)⟩

theorem refNum_K (x : Nat) (hx : x < 4294967296) : ((fieldN x 20 5 : Nat) : Int) = numI 75 x := by
  symm
  have h20 : fieldN x 20 5 = x / 1048576 % 32 := by simp [fieldN]
  rw [num_K, h20, Nat.zero_or]
  unfold wrap64
  omega

set_option maxHeartbeats 4000000 in
set_option maxRecDepth 100000 in
theorem refImm_K (x : Nat) (w : World) (hx : x < 4294967296) :
    Calls Try.prog 27 #[.string ⟨#[75]⟩, .int .u32 x] w fun e w' => e = .returned (.int .i64 (numI 75 x)) ∧ ∃ m, w' = w.drewN m := by
  have Hv := hid (refNum_K x hx)
  have hb20 : fieldN x 20 5 < 32 := Nat.mod_lt _ (by decide)
  go_enter Try.func27, Try.ntmps27
  go_wp2_with (first
    | (go_at_call_of 28 (Value.int IntKind.i64 20); refine (refBits_any x 20 5 _ hx (by omega) (by omega)).mono ?_; rintro e w1 ⟨rfl, m20, rfl⟩))
  go_ret
  exact ⟨ret_int (by first | exact Hv.out | exact Hv.out.symm), by first | exact ⟨_, rfl⟩ | (simp only [World.drewN_drewN]; exact ⟨_, rfl⟩)⟩

set_option maxHeartbeats 4000000 in
set_option maxRecDepth 100000 in
theorem refImm_R (x : Nat) (w : World) (hx : x < 4294967296) :
    Calls Try.prog 27 #[.string ⟨#[82]⟩, .int .u32 x] w fun e w' => e = .returned (.int .i64 (numI 82 x)) ∧ ∃ m, w' = w.drewN m := by
  have Hv := hid (refNum_R x)
  go_enter Try.func27, Try.ntmps27
  go_wp2
  go_ret
  exact ⟨ret_int Hv.out.symm, 0, rfl⟩

set_option maxHeartbeats 4000000 in
set_option maxRecDepth 100000 in
theorem refImm_N (x : Nat) (w : World) (hx : x < 4294967296) :
    Calls Try.prog 27 #[.string ⟨#[78]⟩, .int .u32 x] w fun e w' => e = .returned (.int .i64 (numI 78 x)) ∧ ∃ m, w' = w.drewN m := by
  have Hv := hid (refNum_N x)
  go_enter Try.func27, Try.ntmps27
  go_wp2
  go_ret
  exact ⟨ret_int Hv.out.symm, 0, rfl⟩

theorem refImm_any (l : Int) (x : Nat) (w : World) (hl : isLetter l) (hx : x < 4294967296) :
    Calls Try.prog 27 #[.string ⟨#[letterB l]⟩, .int .u32 x] w fun e w' => e = .returned (.int .i64 (numI l x)) ∧ ∃ m, w' = w.drewN m := by
  rcases hl with rfl | rfl | rfl | rfl | rfl | rfl | rfl | rfl | rfl
  · exact refImm_U x w hx
  · exact refImm_J x w hx
  · exact refImm_I x w hx
  · exact refImm_B x w hx
  · exact refImm_S x w hx
  · exact refImm_H x w hx
  · exact refImm_K x w hx
  · exact refImm_R x w hx
  · exact refImm_N x w hx
end
end Go.Proofs.Ytoljkjnehcbbaaa
