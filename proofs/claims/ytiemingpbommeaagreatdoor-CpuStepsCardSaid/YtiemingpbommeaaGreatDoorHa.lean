/- The document's table of kinds: what 'Kinds' of the reference returns. -/
import Derived.Test.YtiemingpbommeaaGreatDoorGb
import Derived.Test.YtiemingpbommeaaGreatDoorGa
namespace Go.Proofs.YtiemingpbommeaaGreatDoor
open Go.RowKit
noncomputable section
set_option linter.unusedVariables false
set_option linter.unusedSimpArgs false
/-- a letter as a byte -/
def letterB (l : Int) : UInt8 := UInt8.ofNat l.toNat
/-- the cells of one kind -/
def kindRow (x : List UInt8 × Int × Int × Int × Int) : List Value := [.string ⟨x.1.toArray⟩, .string ⟨#[letterB x.2.1]⟩, .int .u32 x.2.2.1, .int .u32 x.2.2.2.1, .int .u32 x.2.2.2.2]
def kindCells : Array Value := (table.flatMap kindRow).toArray
theorem kindCells_get (i j : Nat) (hi : i < 64) (hj : j < 5) : kindCells[5 * i + j]? = (kindRow (formAt i))[j]? := by
  unfold kindCells formAt
  rw [List.getElem?_toArray]
  exact flat_get kindRow 5 (fun _ => rfl) _ table i j (by rw [table_length]; exact hi) hj
set_option maxHeartbeats 1000000 in
set_option maxRecDepth 100000 in
theorem kinds_any (w : World) :
    Calls Tryz.prog 47 #[] w fun e w' => ∃ g, e = .returned (.slice (some ⟨g, 0, none⟩) 64 64) ∧ w'.heap[g]? = some (.cells kindCells 120 (0, 0)) ∧ w.heap.size ≤ g ∧ Below w.heap.size w w' := by
  refine calls_of_wp Tryz.func47 rfl ?_
  refine wp_seq ?_
  refine wp_region_lit ?_
  refine wpList_take 1 { tmps := (Array.replicate 66 undef).setIfInBounds 0 (.slice none 0 0), defers := [] } w (by kernel_rfl) ?_
  refine wpList_nil ?_
  refine wp_seq ?_
  refine wp_region_lit ?_
  refine wpList_take 66 { tmps := ((Value.slice (some ⟨w.heap.size, 0, none⟩) 64 64 :: table.map (fun x => Value.agg (kindRow x).toArray)) ++ [Value.slice (some ⟨w.heap.size, 0, none⟩) 64 64]).toArray, defers := [] } (w.alloc (.cells kindCells 120)) (by kernel_rfl) ?_
  refine wpList_nil ?_
  refine wp_ret ?_
  refine bodyPost_ret (results_tmp rfl _ _ _) rfl ?_
  exact ⟨w.heap.size, by rfl, heap_alloc_new _ _, Nat.le_refl _, (Below.refl _ _).alloc (Nat.le_refl _) _⟩
end
end Go.Proofs.YtiemingpbommeaaGreatDoor

/- The document's Bits and signed. -/
namespace Go.Proofs.YtiemingpbommeaaGreatDoor
open Go.RowKit
noncomputable section
set_option linter.unusedVariables false
set_option linter.unusedSimpArgs false
theorem pow_le30 (k n p : Nat) (h : p = 2 ^ k) (hk : k < n) (hn : n ≤ 31) : p ≤ 1073741824 := by
  rw [h]; exact Nat.pow_le_pow_right (n := 2) (j := 30) (by omega) (by omega)
set_option maxHeartbeats 4000000 in
set_option maxRecDepth 100000 in
theorem refBits_id (x f n : Nat) (w : World) (hx : x < 4294967296) (hf : f ≤ 31) (hn : n ≤ 31) :
    Calls Tryz.prog 91 #[.int .u32 x, .int .i64 f, .int .i64 n] w fun e w' => e = .returned (.int .u32 (fieldN x f n)) ∧ w' = w := by
  go_enter Tryz.func91, Tryz.ntmps91
  go_wp2
  go_loopw [7, 8] (fun v i wr => ∃ k p : Nat, k ≤ n ∧ Hid (p = 2 ^ k) ∧ v = .int .u32 p ∧ i = .int .i64 k ∧ wr = w) (fun v i _ => n - (intOf i).toNat)
  case atStart => exact ⟨0, 1, by omega, hid rfl, rfl, rfl, rfl⟩
  case round =>
    obtain ⟨k, p, hk, Hp, rfl, rfl, rfl⟩ := hrel
    by_cases hlt : k < n
    · have hp30 := pow_le30 k n p Hp.out hlt hn
      go_wp2
      go_roundw
      case rel => exact ⟨k + 1, p * 2, by omega, hid (by rw [Hp.out, Nat.pow_succ]), by first | rfl | (congr 1; omega), by go_num, trivial⟩
      case measure => simp [intOf]; omega
    · obtain rfl : k = n := by omega
      have hp0 : 0 < p := by rw [Hp.out]; exact Nat.two_pow_pos k
      have hp31 : p ≤ 2147483648 := by rw [Hp.out]; exact Nat.pow_le_pow_right (n := 2) (j := 31) (by omega) (by omega)
      go_wp2
      go_loopw [0, 9] (fun v i w2 => ∃ j q : Nat, j ≤ f ∧ q < 4294967296 ∧ Hid (q = x / 2 ^ j) ∧ v = .int .u32 q ∧ i = .int .i64 j ∧ w2 = wr) (fun v i _ => f - (intOf i).toNat)
      case atStart => exact ⟨0, x, by omega, hx, hid (by simp), rfl, rfl, rfl⟩
      case round =>
        obtain ⟨j, q, hj, hq, Hq, rfl, rfl, rfl⟩ := hrel
        by_cases hlt2 : j < f
        · go_wp2
          go_roundw
          case rel => exact ⟨j + 1, q / 2, by omega, by omega, hid (by rw [Hq.out, Nat.div_div_eq_div_mul, Nat.pow_succ]), by first | rfl | (congr 1; done) | (congr 1; omega) | (congr 1; rw [Int.tdiv_eq_ediv_of_nonneg (by omega)]; omega), by go_num, trivial⟩
          case measure => simp [intOf]; omega
        · obtain rfl : j = f := by omega
          have hpb : ((p : Int) == 0) = false := by rw [beq_eq_false_iff_ne]; omega
          have Hr := hid (show ((q : Int).tmod (p : Int)) = (fieldN x j k : Nat) from by
            unfold fieldN; rw [← Hq.out, ← Hp.out, Int.tmod_eq_emod_of_nonneg (by omega)]; exact (Int.natCast_emod _ _).symm)
          go_wp2
          go_ret
          exact ⟨ret_int Hr.out, rfl⟩
theorem refBits_any (x f n : Nat) (w : World) (hx : x < 4294967296) (hf : f ≤ 31) (hn : n ≤ 31) :
    Calls Tryz.prog 91 #[.int .u32 x, .int .i64 f, .int .i64 n] w fun e w' => e = .returned (.int .u32 (fieldN x f n)) ∧ ∃ m, w' = w.drewN m :=
  (refBits_id x f n w hx hf hn).mono fun _ _ h => ⟨h.1, 0, h.2⟩
/-- a number of so many bits, as a signed one -/
def signedI (n b : Nat) : Int := if 2 ^ b / 2 ≤ n then (n : Int) - (2 ^ b : Nat) else n
set_option maxHeartbeats 4000000 in
set_option maxRecDepth 100000 in
theorem refSigned_any (n b : Nat) (w : World) (hn : n < 4294967296) (hb : b ≤ 31) :
    Calls Tryz.prog 115 #[.int .u32 n, .int .i64 b] w fun e w' => e = .returned (.int .i64 (signedI n b)) ∧ ∃ m, w' = w.drewN m := by
  go_enter Tryz.func115, Tryz.ntmps115
  go_wp2
  go_loopw [5, 6] (fun v i wr => ∃ k p : Nat, k ≤ b ∧ Hid (p = 2 ^ k) ∧ v = .int .i64 p ∧ i = .int .i64 k ∧ wr = w) (fun v i _ => b - (intOf i).toNat)
  case atStart => exact ⟨0, 1, by omega, hid rfl, rfl, rfl, rfl⟩
  case round =>
    obtain ⟨k, p, hk, Hp, rfl, rfl, rfl⟩ := hrel
    by_cases hlt : k < b
    · have hp30 := pow_le30 k b p Hp.out hlt hb
      go_wp2
      go_roundw
      case rel => exact ⟨k + 1, p * 2, by omega, hid (by rw [Hp.out, Nat.pow_succ]), by first | rfl | (congr 1; omega) | (congr 1; unfold wrap64; omega), by go_num, trivial⟩
      case measure => simp [intOf]; omega
    · obtain rfl : k = b := by omega
      have hp31 : p ≤ 2147483648 := by rw [Hp.out]; exact Nat.pow_le_pow_right (n := 2) (j := 31) (by omega) (by omega)
      by_cases hs : p / 2 ≤ n
      · have Hv := hid (show ((n : Int) - p) = signedI n k by unfold signedI; rw [← Hp.out, if_pos hs])
        go_wp2
        go_ret
        exact ⟨ret_int Hv.out, 0, rfl⟩
      · have Hv := hid (show (n : Int) = signedI n k by unfold signedI; rw [← Hp.out, if_neg hs])
        go_wp2
        go_ret
        exact ⟨ret_int Hv.out, 0, rfl⟩
end
end Go.Proofs.YtiemingpbommeaaGreatDoor

/- The document's Fits, on the rows of the table. -/
namespace Go.Proofs.YtiemingpbommeaaGreatDoor
open Go.RowKit
noncomputable section
set_option linter.unusedVariables false
set_option linter.unusedSimpArgs false
/-- the table's letters -/
def isLetter (l : Int) : Prop := l = 85 ∨ l = 74 ∨ l = 73 ∨ l = 66 ∨ l = 83 ∨ l = 72 ∨ l = 75 ∨ l = 82 ∨ l = 78
theorem field_26 (x : Nat) : fieldN x 25 7 / 2 = fieldN x 26 6 := by
  unfold fieldN
  omega
set_option maxHeartbeats 8000000 in
set_option maxRecDepth 100000 in
theorem refFits_any (nm : List UInt8) (l : Int) (o f3 f7 x : Nat) (w : World) (hx : x < 4294967296) (ho : o < 128) (h3 : f3 < 8) (h7 : f7 < 128) (hl : isLetter l) :
    Calls Tryz.prog 89 #[.agg #[.string ⟨nm.toArray⟩, .string ⟨#[letterB l]⟩, .int .u32 o, .int .u32 f3, .int .u32 f7], .int .u32 x] w
      fun e w' => e = .returned (.bool (fitsB l o f3 f7 x)) ∧ Below w.heap.size w w' := by
  generalize (⟨nm.toArray⟩ : ByteArray) = s
  by_cases h0 : (fieldN x 0 7 : Int) = o
  case neg =>
    have b0 : ((fieldN x 0 7 : Int) != o) = true := bne_iff_ne.mpr h0
    have hv : fitsB l o f3 f7 x = false := by unfold fitsB; rw [if_pos h0]
    rw [hv]
    clear hv h0 hl
    go_enter Tryz.func89, Tryz.ntmps89
    go_wp2_with (first
      | (go_at_call_of 91 (Value.int IntKind.i64 12); refine (refBits_any x 12 3 _ hx (by omega) (by omega)).mono ?_; rintro e w1 ⟨rfl, m1, rfl⟩)
      | (go_at_call_of 91 (Value.int IntKind.i64 25); refine (refBits_any x 25 7 _ hx (by omega) (by omega)).mono ?_; rintro e w1 ⟨rfl, m2, rfl⟩))
    go_quiet ((go_at_call 91; exact quiet_add (refBits_any x 0 7 _ hx (by omega) (by omega))))
    go_wp2
    go_ret
    refine ⟨rfl, by repeat (first | exact (Below.refl _ _).alloc (Nat.le_refl _) _ | refine below_drewN ?_ _)⟩
  case pos =>
    have b0 : ((fieldN x 0 7 : Int) != o) = false := bne_eq_false_iff_eq.mpr h0
    have H0 := hid h0
    have H26 := hid (show ((fieldN x 25 7 : Nat) : Int) / 2 = (fieldN x 26 6 : Nat) from by rw [← field_26]; omega)
    have HN := hid (show bits .or .u32 (o : Int) ((f7 : Int) * 1048576 % 4294967296) = o + 1048576 * f7 from by
      rw [show ((f7 : Int) * 1048576 % 4294967296) = ((f7 * 1048576 : Nat) : Int) by omega, or32 _ _ (by omega) (by omega), or_lo 20 _ _ (by omega) (by omega)]; omega)
    have hfl3 : fieldN x 12 3 < 8 := by unfold fieldN; omega
    have hfl7 : fieldN x 25 7 < 128 := by unfold fieldN; omega
    by_cases hq : (fieldN x 12 3 : Int) = f3
    case neg =>
      have b3 : ((fieldN x 12 3 : Int) == f3) = false := beq_eq_false_iff_ne.mpr hq
      have H3 := hid hq
      clear h0 hq
      rcases hl with rfl | rfl | rfl | rfl | rfl | rfl | rfl | rfl | rfl
      all_goals
        simp only [letterB, show (Int.toNat 85) = 85 from rfl]
        go_enter Tryz.func89, Tryz.ntmps89
        go_wp2_with (first
          | (go_at_call_of 91 (Value.int IntKind.i64 12); refine (refBits_any x 12 3 _ hx (by omega) (by omega)).mono ?_; rintro e w1 ⟨rfl, m1, rfl⟩)
          | (go_at_call_of 91 (Value.int IntKind.i64 25); refine (refBits_any x 25 7 _ hx (by omega) (by omega)).mono ?_; rintro e w1 ⟨rfl, m2, rfl⟩))
        go_quiet ((go_at_call 91; exact quiet_add (refBits_any x 0 7 _ hx (by omega) (by omega))))
        go_wp2
        go_ret
        refine ⟨?_, by repeat (first | exact (Below.refl _ _).alloc (Nat.le_refl _) _ | refine below_drewN ?_ _)⟩
        have h0 := H0.out
        have h3 := H3.out
        have hN := HN.out
        have h26 := H26.out
        clear H0 H3 HN H26 hfl3 hfl7
        simp_all [fitsB]
    case pos =>
      have b3 : ((fieldN x 12 3 : Int) == f3) = true := beq_iff_eq.mpr hq
      have H3 := hid hq
      clear h0 hq
      rcases hl with rfl | rfl | rfl | rfl | rfl | rfl | rfl | rfl | rfl
      all_goals
        simp only [letterB, show (Int.toNat 85) = 85 from rfl]
        go_enter Tryz.func89, Tryz.ntmps89
        go_wp2_with (first
          | (go_at_call_of 91 (Value.int IntKind.i64 12); refine (refBits_any x 12 3 _ hx (by omega) (by omega)).mono ?_; rintro e w1 ⟨rfl, m1, rfl⟩)
          | (go_at_call_of 91 (Value.int IntKind.i64 25); refine (refBits_any x 25 7 _ hx (by omega) (by omega)).mono ?_; rintro e w1 ⟨rfl, m2, rfl⟩))
        go_quiet ((go_at_call 91; exact quiet_add (refBits_any x 0 7 _ hx (by omega) (by omega))))
        go_wp2
        go_ret
        refine ⟨?_, by repeat (first | exact (Below.refl _ _).alloc (Nat.le_refl _) _ | refine below_drewN ?_ _)⟩
        have h0 := H0.out
        have h3 := H3.out
        have hN := HN.out
        have h26 := H26.out
        clear H0 H3 HN H26 hfl3 hfl7
        simp_all [fitsB]
end
end Go.Proofs.YtiemingpbommeaaGreatDoor

/- The document's Imm: what it answers for every letter is the number that Decode reads. -/
namespace Go.Proofs.YtiemingpbommeaaGreatDoor
open Go.RowKit
noncomputable section
set_option linter.unusedVariables false
set_option linter.unusedSimpArgs false
theorem refSigned_at (ni : Int) (n b : Nat) (bi : Int) (w : World) (h : ni = n) (hbi : bi = b) (hn : n < 4294967296) (hb : b ≤ 31) :
    Calls Tryz.prog 115 #[.int .u32 ni, .int .i64 bi] w fun e w' => e = .returned (.int .i64 (signedI n b)) ∧ ∃ m, w' = w.drewN m := by
  subst h; subst hbi
  exact refSigned_any n b w hn hb
theorem ext_signed (acc b : Nat) (hb : 1 ≤ b) (hb2 : b ≤ 31) (h : acc < 2 ^ b) : wrap64 (extN acc b : Nat) = signedI acc b := by
  have hp : 2 ^ b ≤ 2 ^ 31 := Nat.pow_le_pow_right (by omega) hb2
  have e : 2 ^ b = 2 * 2 ^ (b - 1) := by
    obtain ⟨d, rfl⟩ : ∃ d, b = d + 1 := ⟨b - 1, by omega⟩
    rw [Nat.pow_succ, Nat.add_sub_cancel]; omega
  unfold extN signedI
  rw [Nat.mod_eq_of_lt h]
  generalize 2 ^ (b - 1) = q at *
  rw [e] at h hp ⊢
  unfold wrap64
  by_cases hq : acc < q
  · rw [if_pos hq, if_neg (by omega)]; omega
  · rw [if_neg hq, if_pos (by omega)]; omega
theorem ext_signed32 (u : Nat) (h : u < 1048576) : wrap64 (extN (u * 4096) 32 : Nat) = signedI u 20 * 4096 := by
  unfold extN signedI
  rw [show (2 : Nat) ^ 32 = 4294967296 by decide, show (2 : Nat) ^ (32 - 1) = 2147483648 by decide, show (2 : Nat) ^ 20 = 1048576 by decide, Nat.mod_eq_of_lt (by omega)]
  unfold wrap64
  by_cases hq : u * 4096 < 2147483648
  · rw [if_pos hq, if_neg (by omega)]; omega
  · rw [if_neg hq, if_pos (by omega)]; omega
theorem signedI_lt (u : Nat) (h : u < 1048576) : -524288 ≤ signedI u 20 ∧ signedI u 20 < 524288 := by
  unfold signedI
  rw [show (2 : Nat) ^ 20 = 1048576 by decide]
  split <;> omega
theorem refNum_R (x : Nat) : numI 82 x = 0 := by
  rw [numI_eq 82 x [] 0 (by simp [piecesOf]), if_pos rfl]
  simp [numAcc, wrap64]
theorem refNum_N (x : Nat) : numI 78 x = 0 := by
  rw [numI_eq 78 x [] 0 (by simp [piecesOf]), if_pos rfl]
  simp [numAcc, wrap64]
theorem refNum_U (x : Nat) (hx : x < 4294967296) : signedI (fieldN x 12 20) 20 * 4096 = numI 85 x := by
  symm
  have h12 : fieldN x 12 20 = x / 4096 % 1048576 := by simp [fieldN]
  rw [num_U, h12]
  rw [Nat.zero_or]
  exact ext_signed32 _ (by omega)
set_option maxHeartbeats 4000000 in
set_option maxRecDepth 100000 in
theorem refImm_U (x : Nat) (w : World) (hx : x < 4294967296) :
    Calls Tryz.prog 90 #[.string ⟨#[85]⟩, .int .u32 x] w fun e w' => e = .returned (.int .i64 (numI 85 x)) ∧ ∃ m, w' = w.drewN m := by
  have Hv := hid (refNum_U x hx)
  have hb12 : fieldN x 12 20 < 1048576 := Nat.mod_lt _ (by decide)
  have hsg := signedI_lt (fieldN x 12 20) hb12
  go_enter Tryz.func90, Tryz.ntmps90
  go_wp2_with (first
    | (go_at_call_of 91 (Value.int IntKind.i64 12); refine (refBits_any x 12 20 _ hx (by omega) (by omega)).mono ?_; rintro e w1 ⟨rfl, m12, rfl⟩)
    | (go_at_call 115; refine (refSigned_at _ (fieldN x 12 20) 20 _ _ (by omega) rfl (by omega) (by omega)).mono ?_; rintro e w1 ⟨rfl, ms, rfl⟩))
  go_ret
  exact ⟨ret_int (by first | exact Hv.out | exact Hv.out.symm), by first | exact ⟨_, rfl⟩ | (simp only [World.drewN_drewN]; exact ⟨_, rfl⟩)⟩
theorem refNum_J (x : Nat) (hx : x < 4294967296) : signedI (fieldN x 21 10 * 2 + fieldN x 20 1 * 2048 + fieldN x 12 8 * 4096 + fieldN x 31 1 * 1048576) 21 = numI 74 x := by
  symm
  have h31 : fieldN x 31 1 = x / 2147483648 % 2 := by simp [fieldN]
  have h12 : fieldN x 12 8 = x / 4096 % 256 := by simp [fieldN]
  have h20 : fieldN x 20 1 = x / 1048576 % 2 := by simp [fieldN]
  have h21 : fieldN x 21 10 = x / 2097152 % 1024 := by simp [fieldN]
  have hacc := acc_J (x / 2097152 % 1024) (x / 1048576 % 2) (x / 4096 % 256) (x / 2147483648 % 2) (by omega) (by omega) (by omega)
  rw [num_J, hacc, h31, h12, h20, h21]
  exact ext_signed _ _ (by omega) (by omega) (by omega)
set_option maxHeartbeats 4000000 in
set_option maxRecDepth 100000 in
theorem refImm_J (x : Nat) (w : World) (hx : x < 4294967296) :
    Calls Tryz.prog 90 #[.string ⟨#[74]⟩, .int .u32 x] w fun e w' => e = .returned (.int .i64 (numI 74 x)) ∧ ∃ m, w' = w.drewN m := by
  have Hv := hid (refNum_J x hx)
  have hb31 : fieldN x 31 1 < 2 := Nat.mod_lt _ (by decide)
  have hb12 : fieldN x 12 8 < 256 := Nat.mod_lt _ (by decide)
  have hb20 : fieldN x 20 1 < 2 := Nat.mod_lt _ (by decide)
  have hb21 : fieldN x 21 10 < 1024 := Nat.mod_lt _ (by decide)
  go_enter Tryz.func90, Tryz.ntmps90
  go_wp2_with (first
    | (go_at_call_of 91 (Value.int IntKind.i64 31); refine (refBits_any x 31 1 _ hx (by omega) (by omega)).mono ?_; rintro e w1 ⟨rfl, m31, rfl⟩)
    | (go_at_call_of 91 (Value.int IntKind.i64 12); refine (refBits_any x 12 8 _ hx (by omega) (by omega)).mono ?_; rintro e w1 ⟨rfl, m12, rfl⟩)
    | (go_at_call_of 91 (Value.int IntKind.i64 20); refine (refBits_any x 20 1 _ hx (by omega) (by omega)).mono ?_; rintro e w1 ⟨rfl, m20, rfl⟩)
    | (go_at_call_of 91 (Value.int IntKind.i64 21); refine (refBits_any x 21 10 _ hx (by omega) (by omega)).mono ?_; rintro e w1 ⟨rfl, m21, rfl⟩)
    | (go_at_call 115; refine (refSigned_at _ (fieldN x 21 10 * 2 + fieldN x 20 1 * 2048 + fieldN x 12 8 * 4096 + fieldN x 31 1 * 1048576) 21 _ _ (by omega) rfl (by omega) (by omega)).mono ?_; rintro e w1 ⟨rfl, ms, rfl⟩))
  go_ret
  exact ⟨ret_int (by first | exact Hv.out | exact Hv.out.symm), by first | exact ⟨_, rfl⟩ | (simp only [World.drewN_drewN]; exact ⟨_, rfl⟩)⟩
theorem refNum_I (x : Nat) (hx : x < 4294967296) : signedI (fieldN x 20 12) 12 = numI 73 x := by
  symm
  have h20 : fieldN x 20 12 = x / 1048576 % 4096 := by simp [fieldN]
  rw [num_I, h20, Nat.zero_or]
  exact ext_signed _ _ (by omega) (by omega) (by omega)
set_option maxHeartbeats 4000000 in
set_option maxRecDepth 100000 in
theorem refImm_I (x : Nat) (w : World) (hx : x < 4294967296) :
    Calls Tryz.prog 90 #[.string ⟨#[73]⟩, .int .u32 x] w fun e w' => e = .returned (.int .i64 (numI 73 x)) ∧ ∃ m, w' = w.drewN m := by
  have Hv := hid (refNum_I x hx)
  have hb20 : fieldN x 20 12 < 4096 := Nat.mod_lt _ (by decide)
  go_enter Tryz.func90, Tryz.ntmps90
  go_wp2_with (first
    | (go_at_call_of 91 (Value.int IntKind.i64 20); refine (refBits_any x 20 12 _ hx (by omega) (by omega)).mono ?_; rintro e w1 ⟨rfl, m20, rfl⟩)
    | (go_at_call 115; refine (refSigned_at _ (fieldN x 20 12) 12 _ _ (by omega) rfl (by omega) (by omega)).mono ?_; rintro e w1 ⟨rfl, ms, rfl⟩))
  go_ret
  exact ⟨ret_int (by first | exact Hv.out | exact Hv.out.symm), by first | exact ⟨_, rfl⟩ | (simp only [World.drewN_drewN]; exact ⟨_, rfl⟩)⟩
theorem refNum_B (x : Nat) (hx : x < 4294967296) : signedI (fieldN x 8 4 * 2 + fieldN x 25 6 * 32 + fieldN x 7 1 * 2048 + fieldN x 31 1 * 4096) 13 = numI 66 x := by
  symm
  have h31 : fieldN x 31 1 = x / 2147483648 % 2 := by simp [fieldN]
  have h7 : fieldN x 7 1 = x / 128 % 2 := by simp [fieldN]
  have h25 : fieldN x 25 6 = x / 33554432 % 64 := by simp [fieldN]
  have h8 : fieldN x 8 4 = x / 256 % 16 := by simp [fieldN]
  have hacc := acc_B (x / 256 % 16) (x / 33554432 % 64) (x / 128 % 2) (x / 2147483648 % 2) (by omega) (by omega) (by omega)
  rw [num_B, hacc, h31, h7, h25, h8]
  exact ext_signed _ _ (by omega) (by omega) (by omega)
set_option maxHeartbeats 4000000 in
set_option maxRecDepth 100000 in
theorem refImm_B (x : Nat) (w : World) (hx : x < 4294967296) :
    Calls Tryz.prog 90 #[.string ⟨#[66]⟩, .int .u32 x] w fun e w' => e = .returned (.int .i64 (numI 66 x)) ∧ ∃ m, w' = w.drewN m := by
  have Hv := hid (refNum_B x hx)
  have hb31 : fieldN x 31 1 < 2 := Nat.mod_lt _ (by decide)
  have hb7 : fieldN x 7 1 < 2 := Nat.mod_lt _ (by decide)
  have hb25 : fieldN x 25 6 < 64 := Nat.mod_lt _ (by decide)
  have hb8 : fieldN x 8 4 < 16 := Nat.mod_lt _ (by decide)
  go_enter Tryz.func90, Tryz.ntmps90
  go_wp2_with (first
    | (go_at_call_of 91 (Value.int IntKind.i64 31); refine (refBits_any x 31 1 _ hx (by omega) (by omega)).mono ?_; rintro e w1 ⟨rfl, m31, rfl⟩)
    | (go_at_call_of 91 (Value.int IntKind.i64 7); refine (refBits_any x 7 1 _ hx (by omega) (by omega)).mono ?_; rintro e w1 ⟨rfl, m7, rfl⟩)
    | (go_at_call_of 91 (Value.int IntKind.i64 25); refine (refBits_any x 25 6 _ hx (by omega) (by omega)).mono ?_; rintro e w1 ⟨rfl, m25, rfl⟩)
    | (go_at_call_of 91 (Value.int IntKind.i64 8); refine (refBits_any x 8 4 _ hx (by omega) (by omega)).mono ?_; rintro e w1 ⟨rfl, m8, rfl⟩)
    | (go_at_call 115; refine (refSigned_at _ (fieldN x 8 4 * 2 + fieldN x 25 6 * 32 + fieldN x 7 1 * 2048 + fieldN x 31 1 * 4096) 13 _ _ (by omega) rfl (by omega) (by omega)).mono ?_; rintro e w1 ⟨rfl, ms, rfl⟩))
  go_ret
  exact ⟨ret_int (by first | exact Hv.out | exact Hv.out.symm), by first | exact ⟨_, rfl⟩ | (simp only [World.drewN_drewN]; exact ⟨_, rfl⟩)⟩
theorem refNum_S (x : Nat) (hx : x < 4294967296) : signedI (fieldN x 7 5 + fieldN x 25 7 * 32) 12 = numI 83 x := by
  symm
  have h25 : fieldN x 25 7 = x / 33554432 % 128 := by simp [fieldN]
  have h7 : fieldN x 7 5 = x / 128 % 32 := by simp [fieldN]
  have hacc := acc_S (x / 128 % 32) (x / 33554432 % 128) (by omega)
  rw [Nat.mul_one] at hacc
  rw [num_S, hacc, h25, h7]
  exact ext_signed _ _ (by omega) (by omega) (by omega)
set_option maxHeartbeats 4000000 in
set_option maxRecDepth 100000 in
theorem refImm_S (x : Nat) (w : World) (hx : x < 4294967296) :
    Calls Tryz.prog 90 #[.string ⟨#[83]⟩, .int .u32 x] w fun e w' => e = .returned (.int .i64 (numI 83 x)) ∧ ∃ m, w' = w.drewN m := by
  have Hv := hid (refNum_S x hx)
  have hb25 : fieldN x 25 7 < 128 := Nat.mod_lt _ (by decide)
  have hb7 : fieldN x 7 5 < 32 := Nat.mod_lt _ (by decide)
  go_enter Tryz.func90, Tryz.ntmps90
  go_wp2_with (first
    | (go_at_call_of 91 (Value.int IntKind.i64 25); refine (refBits_any x 25 7 _ hx (by omega) (by omega)).mono ?_; rintro e w1 ⟨rfl, m25, rfl⟩)
    | (go_at_call_of 91 (Value.int IntKind.i64 7); refine (refBits_any x 7 5 _ hx (by omega) (by omega)).mono ?_; rintro e w1 ⟨rfl, m7, rfl⟩)
    | (go_at_call 115; refine (refSigned_at _ (fieldN x 7 5 + fieldN x 25 7 * 32) 12 _ _ (by omega) rfl (by omega) (by omega)).mono ?_; rintro e w1 ⟨rfl, ms, rfl⟩))
  go_ret
  exact ⟨ret_int (by first | exact Hv.out | exact Hv.out.symm), by first | exact ⟨_, rfl⟩ | (simp only [World.drewN_drewN]; exact ⟨_, rfl⟩)⟩
theorem refNum_H (x : Nat) (hx : x < 4294967296) : ((fieldN x 20 6 : Nat) : Int) = numI 72 x := by
  symm
  have h20 : fieldN x 20 6 = x / 1048576 % 64 := by simp [fieldN]
  rw [num_H, h20, Nat.zero_or]
  unfold wrap64
  omega
set_option maxHeartbeats 4000000 in
set_option maxRecDepth 100000 in
theorem refImm_H (x : Nat) (w : World) (hx : x < 4294967296) :
    Calls Tryz.prog 90 #[.string ⟨#[72]⟩, .int .u32 x] w fun e w' => e = .returned (.int .i64 (numI 72 x)) ∧ ∃ m, w' = w.drewN m := by
  have Hv := hid (refNum_H x hx)
  have hb20 : fieldN x 20 6 < 64 := Nat.mod_lt _ (by decide)
  go_enter Tryz.func90, Tryz.ntmps90
  go_wp2_with (first
    | (go_at_call_of 91 (Value.int IntKind.i64 20); refine (refBits_any x 20 6 _ hx (by omega) (by omega)).mono ?_; rintro e w1 ⟨rfl, m20, rfl⟩))
  go_ret
  exact ⟨ret_int (by first | exact Hv.out | exact Hv.out.symm), by first | exact ⟨_, rfl⟩ | (simp only [World.drewN_drewN]; exact ⟨_, rfl⟩)⟩
theorem refNum_K (x : Nat) (hx : x < 4294967296) : ((fieldN x 20 5 : Nat) : Int) = numI 75 x := by
  symm
  have h20 : fieldN x 20 5 = x / 1048576 % 32 := by simp [fieldN]
  rw [num_K, h20, Nat.zero_or]
  unfold wrap64
  omega
set_option maxHeartbeats 4000000 in
set_option maxRecDepth 100000 in
theorem refImm_K (x : Nat) (w : World) (hx : x < 4294967296) :
    Calls Tryz.prog 90 #[.string ⟨#[75]⟩, .int .u32 x] w fun e w' => e = .returned (.int .i64 (numI 75 x)) ∧ ∃ m, w' = w.drewN m := by
  have Hv := hid (refNum_K x hx)
  have hb20 : fieldN x 20 5 < 32 := Nat.mod_lt _ (by decide)
  go_enter Tryz.func90, Tryz.ntmps90
  go_wp2_with (first
    | (go_at_call_of 91 (Value.int IntKind.i64 20); refine (refBits_any x 20 5 _ hx (by omega) (by omega)).mono ?_; rintro e w1 ⟨rfl, m20, rfl⟩))
  go_ret
  exact ⟨ret_int (by first | exact Hv.out | exact Hv.out.symm), by first | exact ⟨_, rfl⟩ | (simp only [World.drewN_drewN]; exact ⟨_, rfl⟩)⟩
set_option maxHeartbeats 4000000 in
set_option maxRecDepth 100000 in
theorem refImm_R (x : Nat) (w : World) (hx : x < 4294967296) :
    Calls Tryz.prog 90 #[.string ⟨#[82]⟩, .int .u32 x] w fun e w' => e = .returned (.int .i64 (numI 82 x)) ∧ ∃ m, w' = w.drewN m := by
  have Hv := hid (refNum_R x)
  go_enter Tryz.func90, Tryz.ntmps90
  go_wp2
  go_ret
  exact ⟨ret_int Hv.out.symm, 0, rfl⟩
set_option maxHeartbeats 4000000 in
set_option maxRecDepth 100000 in
theorem refImm_N (x : Nat) (w : World) (hx : x < 4294967296) :
    Calls Tryz.prog 90 #[.string ⟨#[78]⟩, .int .u32 x] w fun e w' => e = .returned (.int .i64 (numI 78 x)) ∧ ∃ m, w' = w.drewN m := by
  have Hv := hid (refNum_N x)
  go_enter Tryz.func90, Tryz.ntmps90
  go_wp2
  go_ret
  exact ⟨ret_int Hv.out.symm, 0, rfl⟩
theorem refImm_any (l : Int) (x : Nat) (w : World) (hl : isLetter l) (hx : x < 4294967296) :
    Calls Tryz.prog 90 #[.string ⟨#[letterB l]⟩, .int .u32 x] w fun e w' => e = .returned (.int .i64 (numI l x)) ∧ ∃ m, w' = w.drewN m := by
  rcases hl with rfl | rfl | rfl | rfl | rfl | rfl | rfl | rfl | rfl
  · exact refImm_U x w hx
  · exact refImm_J x w hx
  · exact refImm_I x w hx
  · exact refImm_B x w hx
  · exact refImm_S x w hx
  · exact refImm_H x w hx
  · exact refImm_K x w hx
  · exact refImm_R x w hx
  · exact refImm_N x w hx
end
end Go.Proofs.YtiemingpbommeaaGreatDoor
