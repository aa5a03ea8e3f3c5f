/- The document's words: an operation of 64 bits: bit by bit. -/
import Derived.Test.YtiemingpbommeaaGreatDoorHu
namespace Go.Proofs.YtiemingpbommeaaGreatDoor
open Go Go.RowKit
noncomputable section
set_option linter.unusedVariables false
set_option linter.unusedSimpArgs false
set_option maxHeartbeats 4000000 in
set_option maxRecDepth 100000 in
theorem refFull_both (o : Int) (a b : Nat) (w : World) (hcs : o = 5 ∨ o = 8 ∨ o = 9) (ha : a < 18446744073709551616) (hb : b < 18446744073709551616) :
    Calls Tryz.prog 92 #[.int .i64 o, .int .u64 a, .int .u64 b] w fun e w' => e = .returned (.int .u64 (fullN o a b)) ∧ Below w.heap.size w w' := by
  have hbs : (b : Int) % 64 = ((b % 64 : Nat) : Int) := by omega
  have hs : b % 64 < 64 := Nat.mod_lt _ (by decide)
  obtain ⟨r, hr⟩ : ∃ r, fullN o a b = r := ⟨_, rfl⟩
  rw [hr]
  have Hr := hid hr
  have Hcs := hid hcs
  clear hr hcs
  have Ma := hid (refMinus_at a)
  have Ds := hid (fun w => refDivide_s a b w ha hb)
  have Du := hid (fun w => refDivide_u a b w ha hb)
  obtain ⟨ab, hae⟩ : ∃ ab : Nat, (if minusN a then 1 else 0) = ab := ⟨_, rfl⟩
  have hab : ab ≤ 1 := by rw [← hae]; split <;> omega
  have Hae := hid hae
  clear hae
  obtain ⟨bt0, bt1, bt2⟩ := both_is a b ha hb
  have B0 : Hid (∀ w, Calls Tryz.prog 118 #[.int .u64 a, .int .u64 b, .int .i64 0] w fun e w' => e = .returned (.int .u64 ((a ^^^ b : Nat) : Int)) ∧ Below w.heap.size w w') := hid (fun w => by
    have h := refBoth_any a b 0 w ha hb (by omega); rw [bt0] at h; exact h)
  have B1 : Hid (∀ w, Calls Tryz.prog 118 #[.int .u64 a, .int .u64 b, .int .i64 1] w fun e w' => e = .returned (.int .u64 ((a ||| b : Nat) : Int)) ∧ Below w.heap.size w w') := hid (fun w => by
    have h := refBoth_any a b 1 w ha hb (by omega); rw [bt1] at h; exact h)
  have B2 : Hid (∀ w, Calls Tryz.prog 118 #[.int .u64 a, .int .u64 b, .int .i64 2] w fun e w' => e = .returned (.int .u64 ((a &&& b : Nat) : Int)) ∧ Below w.heap.size w w') := hid (fun w => by
    have h := refBoth_any a b 2 w ha hb (by omega); rw [bt2] at h; exact h)
  clear bt0 bt1 bt2
  go_enter Tryz.func92, Tryz.ntmps92
  go_upto_region 1 with (fail)
  go_cut [7] (fun v7 wc => v7 = .int .i64 0 ∧ wc = w)
  case first =>
    clear B0 B1 B2 Ds Du Hcs
    clear Ma
    go_wp2_with fail
    go_meet
    case rel => exact ⟨rfl, rfl⟩
  obtain ⟨rfl, rfl⟩ := hcut
  refine (‹∀ (a : Act) (w : World), Code.wp _ _ _ a w → _› _ _ ?_)
  apply wp_seq_k
  intro _ _
  go_cut [7, 14, 15] (fun v7 v14 v15 wd => v7 = .int .i64 ab ∧ wd = wc)
  case first =>
    clear B0 B1 B2 Ds Du Hcs
    obtain ⟨ma, hma⟩ : ∃ ma, minusN a = ma := ⟨_, rfl⟩
    cases ma with
    | true =>
      have Hab : Hid (ab = 1) := hid (by rw [← Hae.out, hma]; rfl)
      have Hma := hid hma
      clear hma
      go_wp2_with (refine (Ma.out true Hma.out _).mono ?_; rintro e w1 ⟨rfl, rfl⟩)
      go_meet
      case rel => exact ⟨by rw [Hab.out]; rfl, rfl⟩
    | false =>
      have Hab : Hid (ab = 0) := hid (by rw [← Hae.out, hma]; rfl)
      have Hma := hid hma
      clear hma
      go_wp2_with (refine (Ma.out false Hma.out _).mono ?_; rintro e w1 ⟨rfl, rfl⟩)
      go_meet
      case rel => exact ⟨by rw [Hab.out]; rfl, rfl⟩
  obtain ⟨rfl, rfl⟩ := hcut
  go_upto_region 6 with (first
    | (go_at_call_of 116 (Value.bool true); refine (Ds.out _).mono ?_; rintro e w1 ⟨rfl, m1, rfl⟩)
    | (go_at_call_of 116 (Value.bool false); refine (Du.out _).mono ?_; rintro e w2 ⟨rfl, m2, rfl⟩))
  have HB := hid (below_drewN (Below.refl wc.heap.size wc) (m1 + m2))
  generalize wc.drewN (m1 + m2) = W at HB ⊢
  clear Ds Du Hae
  clear Ma
  rcases Hcs.out with rfl | rfl | rfl
  all_goals
    clear Hcs
    go_wp2_with (first
      | (go_at_call_of 118 (Value.int IntKind.i64 0); refine (B0.out _).mono ?_; rintro e w5 ⟨rfl, hb5⟩)
      | (go_at_call_of 118 (Value.int IntKind.i64 1); refine (B1.out _).mono ?_; rintro e w5 ⟨rfl, hb5⟩)
      | (go_at_call_of 118 (Value.int IntKind.i64 2); refine (B2.out _).mono ?_; rintro e w5 ⟨rfl, hb5⟩))
    go_ret
  all_goals refine ⟨ret_int ?_, by first | exact HB.out | exact HB.out.trans (hb5.mono HB.out.size)⟩
  all_goals rw [← Hr.out]
  all_goals simp only [fullN, simpleN, productN, Int.reduceLE, Int.reduceEq, ↓reduceIte]
end
end Go.Proofs.YtiemingpbommeaaGreatDoor

/- The document's words: an operation of 64 bits: products. -/
namespace Go.Proofs.YtiemingpbommeaaGreatDoor
open Go Go.RowKit
noncomputable section
set_option linter.unusedVariables false
set_option linter.unusedSimpArgs false
set_option maxHeartbeats 4000000 in
set_option maxRecDepth 100000 in
theorem refFull_mul (o : Int) (a b : Nat) (w : World) (hcs : o = 10 ∨ o = 11 ∨ o = 12 ∨ o = 13) (ha : a < 18446744073709551616) (hb : b < 18446744073709551616) :
    Calls Tryz.prog 92 #[.int .i64 o, .int .u64 a, .int .u64 b] w fun e w' => e = .returned (.int .u64 (fullN o a b)) ∧ Below w.heap.size w w' := by
  have hbs : (b : Int) % 64 = ((b % 64 : Nat) : Int) := by omega
  have hs : b % 64 < 64 := Nat.mod_lt _ (by decide)
  obtain ⟨r, hr⟩ : ∃ r, fullN o a b = r := ⟨_, rfl⟩
  rw [hr]
  have Hr := hid hr
  have Hcs := hid hcs
  clear hr hcs
  have Ma := hid (refMinus_at a)
  have Ds := hid (fun w => refDivide_s a b w ha hb)
  have Du := hid (fun w => refDivide_u a b w ha hb)
  obtain ⟨ab, hae⟩ : ∃ ab : Nat, (if minusN a then 1 else 0) = ab := ⟨_, rfl⟩
  have hab : ab ≤ 1 := by rw [← hae]; split <;> omega
  have Hae := hid hae
  clear hae
  have Wd := hid (fun w => refWide_any a b w ha hb)
  have Hh1 := hid (fun w => refHigh_any a b true false w ha hb (by decide))
  have Hh2 := hid (fun w => refHigh_any a b true true w ha hb (by decide))
  have Hh3 := hid (fun w => refHigh_any a b false false w ha hb (by decide))
  go_enter Tryz.func92, Tryz.ntmps92
  go_upto_region 1 with (fail)
  go_cut [7] (fun v7 wc => v7 = .int .i64 0 ∧ wc = w)
  case first =>
    clear Wd Hh1 Hh2 Hh3 Ds Du Hcs
    clear Ma
    go_wp2_with fail
    go_meet
    case rel => exact ⟨rfl, rfl⟩
  obtain ⟨rfl, rfl⟩ := hcut
  refine (‹∀ (a : Act) (w : World), Code.wp _ _ _ a w → _› _ _ ?_)
  apply wp_seq_k
  intro _ _
  go_cut [7, 14, 15] (fun v7 v14 v15 wd => v7 = .int .i64 ab ∧ wd = wc)
  case first =>
    clear Wd Hh1 Hh2 Hh3 Ds Du Hcs
    obtain ⟨ma, hma⟩ : ∃ ma, minusN a = ma := ⟨_, rfl⟩
    cases ma with
    | true =>
      have Hab : Hid (ab = 1) := hid (by rw [← Hae.out, hma]; rfl)
      have Hma := hid hma
      clear hma
      go_wp2_with (refine (Ma.out true Hma.out _).mono ?_; rintro e w1 ⟨rfl, rfl⟩)
      go_meet
      case rel => exact ⟨by rw [Hab.out]; rfl, rfl⟩
    | false =>
      have Hab : Hid (ab = 0) := hid (by rw [← Hae.out, hma]; rfl)
      have Hma := hid hma
      clear hma
      go_wp2_with (refine (Ma.out false Hma.out _).mono ?_; rintro e w1 ⟨rfl, rfl⟩)
      go_meet
      case rel => exact ⟨by rw [Hab.out]; rfl, rfl⟩
  obtain ⟨rfl, rfl⟩ := hcut
  go_upto_region 6 with (first
    | (go_at_call_of 116 (Value.bool true); refine (Ds.out _).mono ?_; rintro e w1 ⟨rfl, m1, rfl⟩)
    | (go_at_call_of 116 (Value.bool false); refine (Du.out _).mono ?_; rintro e w2 ⟨rfl, m2, rfl⟩))
  have HB := hid (below_drewN (Below.refl wc.heap.size wc) (m1 + m2))
  generalize wc.drewN (m1 + m2) = W at HB ⊢
  clear Ds Du Hae
  clear Ma
  rcases Hcs.out with rfl | rfl | rfl | rfl
  all_goals
    clear Hcs
    go_wp2_with (first
      | (go_at_call 119; refine (Wd.out _).mono ?_; rintro e w5 ⟨rfl, rfl⟩)
      | (go_at_call_of 120 (Value.bool true); go_at_call_of 120 (Value.bool false); refine (Hh1.out _).mono ?_; rintro e w5 ⟨rfl, rfl⟩)
      | (go_at_call_of 120 (Value.bool true); refine (Hh2.out _).mono ?_; rintro e w5 ⟨rfl, rfl⟩)
      | (go_at_call 120; refine (Hh3.out _).mono ?_; rintro e w5 ⟨rfl, rfl⟩))
    go_ret
  all_goals refine ⟨ret_int ?_, by first | exact HB.out | exact HB.out.trans (hb5.mono HB.out.size)⟩
  all_goals rw [← Hr.out]
  all_goals simp only [fullN, simpleN, productN, Int.reduceLE, Int.reduceEq, ↓reduceIte]
  · rw [← Int.natCast_mul]; exact (Int.natCast_emod _ _).symm
end
end Go.Proofs.YtiemingpbommeaaGreatDoor

/- The document's words: an operation of 64 bits: any. -/
namespace Go.Proofs.YtiemingpbommeaaGreatDoor
open Go Go.RowKit
noncomputable section
set_option linter.unusedVariables false
set_option linter.unusedSimpArgs false
theorem refFull_any (o : Int) (a b : Nat) (w : World) (h0 : 0 ≤ o) (h17 : o ≤ 17) (ha : a < 18446744073709551616) (hb : b < 18446744073709551616) :
    Calls Tryz.prog 92 #[.int .i64 o, .int .u64 a, .int .u64 b] w fun e w' => e = .returned (.int .u64 (fullN o a b)) ∧ Below w.heap.size w w' := by
  by_cases h1 : o = 0 ∨ o = 1 ∨ o = 14 ∨ o = 15 ∨ o = 16 ∨ o = 17
  · exact refFull_plain o a b w h1 ha hb
  · by_cases h2 : o = 3
    · exact refFull_slt o a b w h2 ha hb
    · by_cases h5 : o = 4
      · exact refFull_ltu o a b w h5 ha hb
      · by_cases h3 : o = 2 ∨ o = 6 ∨ o = 7
        · exact refFull_shift o a b w h3 ha hb
        · by_cases h4 : o = 5 ∨ o = 8 ∨ o = 9
          · exact refFull_both o a b w h4 ha hb
          · exact refFull_mul o a b w (by omega) ha hb
end
end Go.Proofs.YtiemingpbommeaaGreatDoor

/- The document's words: any operation: as the program's. -/
namespace Go.Proofs.YtiemingpbommeaaGreatDoor
open Go Go.RowKit
noncomputable section
set_option linter.unusedVariables false
set_option linter.unusedSimpArgs false
theorem refLow_at (ni : Int) (n r : Nat) (h : ni = n) (hn : n < 18446744073709551616) (hr : lowN n = r) (w : World) :
    Calls Tryz.prog 93 #[.int .u64 ni] w fun e w' => e = .returned (.int .u64 r) ∧ w' = w := by
  subst h; subst hr; exact refLow_any n w hn
theorem lowN_mod (n m : Nat) (h : n % 4294967296 = m % 4294967296) : lowN n = lowN m := by
  have e : ∀ k, lowN k = if 2147483648 ≤ k % 4294967296 then k % 4294967296 + (18446744073709551616 - 4294967296) else k % 4294967296 := fun k => (low_eq k).symm
  rw [e n, e m, h]
theorem lowN_ext (a : Nat) : lowN a % 4294967296 = a % 4294967296 := by
  unfold lowN extN
  have h1 : a % 2 ^ 32 < 2 ^ 32 := Nat.mod_lt _ (by decide)
  split <;> omega
theorem shl_low (a s : Nat) (hs : s < 32) : lowN (a % 4294967296 * 2 ^ s % 18446744073709551616) = lowN (lowN a * 2 ^ s % 18446744073709551616) := by
  apply lowN_mod
  have h : ∀ n : Nat, n % 18446744073709551616 % 4294967296 = n % 4294967296 := fun n => by omega
  rw [h, h, Nat.mul_mod, Nat.mod_mod, Nat.mul_mod (lowN a), lowN_ext]
theorem doN_full (o : Int) (a b : Nat) (h0 : 0 ≤ o) (h17 : o ≤ 17) : doN o a b = fullN o a b := by
  unfold doN fullN
  rw [if_neg (by omega), if_neg (by omega)]
theorem doN_half (o : Int) (a b : Nat) (h0 : 18 ≤ o) (h17 : o ≤ 27) : doN o a b = halvesN o a b := by
  unfold doN
  rw [if_neg (by omega), if_pos (by omega)]
set_option maxHeartbeats 4000000 in
set_option maxRecDepth 100000 in
theorem refDo_out (o : Int) (a b : Nat) (w : World) (h : o < 0 ∨ 27 < o) (ha : a < 18446744073709551616) (hb : b < 18446744073709551616) :
    Calls Tryz.prog 54 #[.int .i64 o, .int .u64 a, .int .u64 b] w fun e w' => e = .returned (.int .u64 (doN o a b)) ∧ Below w.heap.size w w' := by
  have hv : doN o a b = 0 := by unfold doN; rw [if_pos (by omega)]
  rw [hv]
  rcases h with h | h
  · go_enter Tryz.func54, Tryz.ntmps54
    go_wp2_with fail
    go_ret
    exact ⟨rfl, Below.refl _ _⟩
  · have h2 : ¬ o < 0 := by omega
    go_enter Tryz.func54, Tryz.ntmps54
    go_wp2_with fail
    go_ret
    exact ⟨rfl, Below.refl _ _⟩
set_option maxHeartbeats 4000000 in
set_option maxRecDepth 100000 in
theorem refDo_full (o : Int) (a b : Nat) (w : World) (h0 : 0 ≤ o) (h17 : o ≤ 17) (ha : a < 18446744073709551616) (hb : b < 18446744073709551616) :
    Calls Tryz.prog 54 #[.int .i64 o, .int .u64 a, .int .u64 b] w fun e w' => e = .returned (.int .u64 (doN o a b)) ∧ Below w.heap.size w w' := by
  have HF := hid (refFull_any o a b w h0 h17 ha hb)
  rw [doN_full o a b h0 h17]
  generalize fullN o a b = r at *
  have h2 : ¬ o < 0 := by omega
  have h3 : ¬ 27 < o := by omega
  have h4 : o < 18 := by omega
  go_enter Tryz.func54, Tryz.ntmps54
  go_wp2_with (go_at_call 92; refine HF.out.mono ?_; rintro e w5 ⟨rfl, hb5⟩)
  go_ret
  exact ⟨rfl, hb5⟩
set_option maxHeartbeats 4000000 in
set_option maxRecDepth 100000 in
theorem refDo_18 (a b : Nat) (w : World) (ha : a < 18446744073709551616) (hb : b < 18446744073709551616) :
    Calls Tryz.prog 54 #[.int .i64 18, .int .u64 a, .int .u64 b] w fun e w' => e = .returned (.int .u64 (doN 18 a b)) ∧ Below w.heap.size w w' := by
  have hr := doN_half 18 a b (by decide) (by decide)
  simp only [halvesN, Int.reduceEq, ↓reduceIte] at hr
  have hx := lowN_lt a
  have hy := lowN_lt b
  have La := hid (fun w => refLow_any a w ha)
  have Lb := hid (fun w => refLow_any b w hb)
  have hu : (a : Int) % 4294967296 = ((a % 4294967296 : Nat) : Int) := by omega
  have hv : (b : Int) % 4294967296 = ((b % 4294967296 : Nat) : Int) := by omega
  have hul : a % 4294967296 < 18446744073709551616 := by omega
  have hvl : b % 4294967296 < 18446744073709551616 := by omega
  have HL := hid (refLow_at (IntKind.u64.wrap ((lowN a : Int) + (lowN b : Int))) ((lowN a + lowN b) % 18446744073709551616) _ (by rw [u64w]; omega) (Nat.mod_lt _ (by decide)) hr.symm)
  clear hr
  generalize doN 18 a b = r at *
  generalize lowN a = x at *
  generalize lowN b = y at *
  generalize a % 4294967296 = u at *
  generalize b % 4294967296 = v at *
  go_enter Tryz.func54, Tryz.ntmps54
  go_wp2_with (first
    | (go_at_call_of 93 (Value.int IntKind.u64 (a : Int)); refine (La.out _).mono ?_; rintro e w1 ⟨rfl, rfl⟩)
    | (go_at_call_of 93 (Value.int IntKind.u64 (b : Int)); refine (Lb.out _).mono ?_; rintro e w2 ⟨rfl, rfl⟩)
    | (go_at_call 93; refine (HL.out _).mono ?_; rintro e w3 ⟨rfl, rfl⟩))
  go_ret
  exact ⟨rfl, Below.refl _ _⟩
set_option maxHeartbeats 4000000 in
set_option maxRecDepth 100000 in
theorem refDo_19 (a b : Nat) (w : World) (ha : a < 18446744073709551616) (hb : b < 18446744073709551616) :
    Calls Tryz.prog 54 #[.int .i64 19, .int .u64 a, .int .u64 b] w fun e w' => e = .returned (.int .u64 (doN 19 a b)) ∧ Below w.heap.size w w' := by
  have hr := doN_half 19 a b (by decide) (by decide)
  simp only [halvesN, Int.reduceEq, ↓reduceIte] at hr
  have hx := lowN_lt a
  have hy := lowN_lt b
  have La := hid (fun w => refLow_any a w ha)
  have Lb := hid (fun w => refLow_any b w hb)
  have hu : (a : Int) % 4294967296 = ((a % 4294967296 : Nat) : Int) := by omega
  have hv : (b : Int) % 4294967296 = ((b % 4294967296 : Nat) : Int) := by omega
  have hul : a % 4294967296 < 18446744073709551616 := by omega
  have hvl : b % 4294967296 < 18446744073709551616 := by omega
  have HL := hid (refLow_at (IntKind.u64.wrap ((lowN a : Int) - (lowN b : Int))) (u64N ((lowN a : Int) - lowN b)) _ (by rw [u64w]; unfold u64N; omega) (u64N_lt _) hr.symm)
  clear hr
  generalize doN 19 a b = r at *
  generalize lowN a = x at *
  generalize lowN b = y at *
  generalize a % 4294967296 = u at *
  generalize b % 4294967296 = v at *
  go_enter Tryz.func54, Tryz.ntmps54
  go_wp2_with (first
    | (go_at_call_of 93 (Value.int IntKind.u64 (a : Int)); refine (La.out _).mono ?_; rintro e w1 ⟨rfl, rfl⟩)
    | (go_at_call_of 93 (Value.int IntKind.u64 (b : Int)); refine (Lb.out _).mono ?_; rintro e w2 ⟨rfl, rfl⟩)
    | (go_at_call 93; refine (HL.out _).mono ?_; rintro e w3 ⟨rfl, rfl⟩))
  go_ret
  exact ⟨rfl, Below.refl _ _⟩
set_option maxHeartbeats 4000000 in
set_option maxRecDepth 100000 in
theorem refDo_20 (a b : Nat) (w : World) (ha : a < 18446744073709551616) (hb : b < 18446744073709551616) :
    Calls Tryz.prog 54 #[.int .i64 20, .int .u64 a, .int .u64 b] w fun e w' => e = .returned (.int .u64 (doN 20 a b)) ∧ Below w.heap.size w w' := by
  have hr := doN_half 20 a b (by decide) (by decide)
  simp only [halvesN, Int.reduceEq, ↓reduceIte] at hr
  have hx := lowN_lt a
  have hy := lowN_lt b
  have La := hid (fun w => refLow_any a w ha)
  have Lb := hid (fun w => refLow_any b w hb)
  have hu : (a : Int) % 4294967296 = ((a % 4294967296 : Nat) : Int) := by omega
  have hv : (b : Int) % 4294967296 = ((b % 4294967296 : Nat) : Int) := by omega
  have hul : a % 4294967296 < 18446744073709551616 := by omega
  have hvl : b % 4294967296 < 18446744073709551616 := by omega
  have hs : (b : Int) % 32 = ((b % 32 : Nat) : Int) := by omega
  have hsl : b % 32 < 32 := Nat.mod_lt _ (by decide)
  have hS := fun w => refShift_any (a % 4294967296) (b % 32) true 0 w hul (by omega) (by omega)
  rw [← shl_low a (b % 32) hsl] at hr
  have e0 := shl_is (a % 4294967296) (b % 32) 0 hul (by omega)
  rw [← e0] at hr
  obtain ⟨z, hz⟩ : ∃ z, valL ((List.range 64).map (shiftF (a % 4294967296) (b % 32) true 0)) = z := ⟨_, rfl⟩
  have hzl : z < 18446744073709551616 := by rw [← hz, e0]; exact Nat.mod_lt _ (by decide)
  rw [hz] at hr
  have HS : Hid (∀ w, Calls Tryz.prog 94 #[.int .u64 ((a % 4294967296 : Nat) : Int), .int .i64 ((b % 32 : Nat) : Int), .bool true, .int .i64 0] w fun e w' => e = .returned (.int .u64 (z : Int)) ∧ Below w.heap.size w w') := hid (fun w => by have h := hS w; rw [hz] at h; exact h)
  have HL := hid (refLow_at (z : Int) z _ rfl hzl hr.symm)
  clear hr hS hz e0
  generalize b % 32 = s at *
  generalize doN 20 a b = r at *
  generalize lowN a = x at *
  generalize lowN b = y at *
  generalize a % 4294967296 = u at *
  generalize b % 4294967296 = v at *
  go_enter Tryz.func54, Tryz.ntmps54
  go_wp2_with (first
    | (go_at_call_of 93 (Value.int IntKind.u64 (a : Int)); refine (La.out _).mono ?_; rintro e w1 ⟨rfl, rfl⟩)
    | (go_at_call_of 93 (Value.int IntKind.u64 (b : Int)); refine (Lb.out _).mono ?_; rintro e w2 ⟨rfl, rfl⟩)
    | (go_at_call 93; refine (HL.out _).mono ?_; rintro e w3 ⟨rfl, rfl⟩)
    | (go_at_call 94; refine (HS.out _).mono ?_; rintro e w4 ⟨rfl, hb4⟩))
  go_ret
  exact ⟨rfl, hb4⟩
set_option maxHeartbeats 4000000 in
set_option maxRecDepth 100000 in
theorem refDo_21 (a b : Nat) (w : World) (ha : a < 18446744073709551616) (hb : b < 18446744073709551616) :
    Calls Tryz.prog 54 #[.int .i64 21, .int .u64 a, .int .u64 b] w fun e w' => e = .returned (.int .u64 (doN 21 a b)) ∧ Below w.heap.size w w' := by
  have hr := doN_half 21 a b (by decide) (by decide)
  simp only [halvesN, Int.reduceEq, ↓reduceIte] at hr
  have hx := lowN_lt a
  have hy := lowN_lt b
  have La := hid (fun w => refLow_any a w ha)
  have Lb := hid (fun w => refLow_any b w hb)
  have hu : (a : Int) % 4294967296 = ((a % 4294967296 : Nat) : Int) := by omega
  have hv : (b : Int) % 4294967296 = ((b % 4294967296 : Nat) : Int) := by omega
  have hul : a % 4294967296 < 18446744073709551616 := by omega
  have hvl : b % 4294967296 < 18446744073709551616 := by omega
  have hs : (b : Int) % 32 = ((b % 32 : Nat) : Int) := by omega
  have hsl : b % 32 < 32 := Nat.mod_lt _ (by decide)
  have hS := fun w => refShift_any (a % 4294967296) (b % 32) false 0 w hul (by omega) (by omega)
  have e0 := shr_is (a % 4294967296) (b % 32) hul (by omega)
  rw [← e0] at hr
  obtain ⟨z, hz⟩ : ∃ z, valL ((List.range 64).map (shiftF (a % 4294967296) (b % 32) false 0)) = z := ⟨_, rfl⟩
  have hzl : z < 18446744073709551616 := by rw [← hz, e0]; exact Nat.lt_of_le_of_lt (Nat.div_le_self _ _) hul
  rw [hz] at hr
  have HS : Hid (∀ w, Calls Tryz.prog 94 #[.int .u64 ((a % 4294967296 : Nat) : Int), .int .i64 ((b % 32 : Nat) : Int), .bool false, .int .i64 0] w fun e w' => e = .returned (.int .u64 (z : Int)) ∧ Below w.heap.size w w') := hid (fun w => by have h := hS w; rw [hz] at h; exact h)
  have HL := hid (refLow_at (z : Int) z _ rfl hzl hr.symm)
  clear hr hS hz e0
  generalize b % 32 = s at *
  generalize doN 21 a b = r at *
  generalize lowN a = x at *
  generalize lowN b = y at *
  generalize a % 4294967296 = u at *
  generalize b % 4294967296 = v at *
  go_enter Tryz.func54, Tryz.ntmps54
  go_wp2_with (first
    | (go_at_call_of 93 (Value.int IntKind.u64 (a : Int)); refine (La.out _).mono ?_; rintro e w1 ⟨rfl, rfl⟩)
    | (go_at_call_of 93 (Value.int IntKind.u64 (b : Int)); refine (Lb.out _).mono ?_; rintro e w2 ⟨rfl, rfl⟩)
    | (go_at_call 93; refine (HL.out _).mono ?_; rintro e w3 ⟨rfl, rfl⟩)
    | (go_at_call 94; refine (HS.out _).mono ?_; rintro e w4 ⟨rfl, hb4⟩))
  go_ret
  exact ⟨rfl, hb4⟩
set_option maxHeartbeats 4000000 in
set_option maxRecDepth 100000 in
theorem refDo_22 (a b : Nat) (w : World) (ha : a < 18446744073709551616) (hb : b < 18446744073709551616) :
    Calls Tryz.prog 54 #[.int .i64 22, .int .u64 a, .int .u64 b] w fun e w' => e = .returned (.int .u64 (doN 22 a b)) ∧ Below w.heap.size w w' := by
  have hr := doN_half 22 a b (by decide) (by decide)
  simp only [halvesN, Int.reduceEq, ↓reduceIte] at hr
  have hx := lowN_lt a
  have hy := lowN_lt b
  have La := hid (fun w => refLow_any a w ha)
  have Lb := hid (fun w => refLow_any b w hb)
  have hu : (a : Int) % 4294967296 = ((a % 4294967296 : Nat) : Int) := by omega
  have hv : (b : Int) % 4294967296 = ((b % 4294967296 : Nat) : Int) := by omega
  have hul : a % 4294967296 < 18446744073709551616 := by omega
  have hvl : b % 4294967296 < 18446744073709551616 := by omega
  have hs : (b : Int) % 32 = ((b % 32 : Nat) : Int) := by omega
  have hsl : b % 32 < 32 := Nat.mod_lt _ (by decide)
  obtain ⟨ab, hae⟩ : ∃ ab : Nat, (if minusN (lowN a) then 1 else 0) = ab := ⟨_, rfl⟩
  have hab : ab ≤ 1 := by rw [← hae]; split <;> omega
  have hS := fun w => refShift_any (lowN a) (b % 32) false ab w hx (by omega) hab
  have e0 := sar_is (lowN a) (b % 32) hx (by omega)
  rw [hae] at e0
  simp only [simpleN, Int.reduceEq, ↓reduceIte, show b % 32 % 64 = b % 32 from by omega] at hr
  rw [← e0] at hr
  have Ml := hid (refMinus_at (lowN a))
  have Hae := hid hae
  have e1 := e0
  clear hae e0
  obtain ⟨z, hz⟩ : ∃ z, valL ((List.range 64).map (shiftF (lowN a) (b % 32) false ab)) = z := ⟨_, rfl⟩
  have hzl : z < 18446744073709551616 := by rw [← hz, e1]; exact u64N_lt _
  rw [hz] at hr
  have HS : Hid (∀ w, Calls Tryz.prog 94 #[.int .u64 (lowN a : Int), .int .i64 ((b % 32 : Nat) : Int), .bool false, .int .i64 ab] w fun e w' => e = .returned (.int .u64 (z : Int)) ∧ Below w.heap.size w w') := hid (fun w => by have h := hS w; rw [hz] at h; exact h)
  have HL := hid (refLow_at (z : Int) z _ rfl hzl hr.symm)
  clear hr hS hz e1
  generalize b % 32 = s at *
  generalize doN 22 a b = r at *
  generalize lowN a = x at *
  generalize lowN b = y at *
  generalize a % 4294967296 = u at *
  generalize b % 4294967296 = v at *
  go_enter Tryz.func54, Tryz.ntmps54
  obtain ⟨m, hm⟩ : ∃ m, minusN x = m := ⟨_, rfl⟩
  have Hm := hid (Ml.out m hm)
  have Hab : Hid ((if m then 1 else 0) = ab) := hid (by rw [← hm]; exact Hae.out)
  clear Ml Hae hm
  cases m
  all_goals
    have hab2 := Hab.out
    simp only [if_true, if_false, Bool.false_eq_true] at hab2
    subst hab2
    clear Hab
    go_wp2_with (first
    | (go_at_call_of 93 (Value.int IntKind.u64 (a : Int)); refine (La.out _).mono ?_; rintro e w1 ⟨rfl, rfl⟩)
    | (go_at_call_of 93 (Value.int IntKind.u64 (b : Int)); refine (Lb.out _).mono ?_; rintro e w2 ⟨rfl, rfl⟩)
    | (go_at_call 95; refine (Hm.out _).mono ?_; rintro e w5 ⟨rfl, rfl⟩)
    | (go_at_call 93; refine (HL.out _).mono ?_; rintro e w3 ⟨rfl, rfl⟩)
    | (go_at_call 94; refine (HS.out _).mono ?_; rintro e w4 ⟨rfl, hb4⟩))
    go_ret
    exact ⟨rfl, hb4⟩
set_option maxHeartbeats 4000000 in
set_option maxRecDepth 100000 in
theorem refDo_23 (a b : Nat) (w : World) (ha : a < 18446744073709551616) (hb : b < 18446744073709551616) :
    Calls Tryz.prog 54 #[.int .i64 23, .int .u64 a, .int .u64 b] w fun e w' => e = .returned (.int .u64 (doN 23 a b)) ∧ Below w.heap.size w w' := by
  have hr := doN_half 23 a b (by decide) (by decide)
  simp only [halvesN, Int.reduceEq, ↓reduceIte] at hr
  have hx := lowN_lt a
  have hy := lowN_lt b
  have La := hid (fun w => refLow_any a w ha)
  have Lb := hid (fun w => refLow_any b w hb)
  have hu : (a : Int) % 4294967296 = ((a % 4294967296 : Nat) : Int) := by omega
  have hv : (b : Int) % 4294967296 = ((b % 4294967296 : Nat) : Int) := by omega
  have hul : a % 4294967296 < 18446744073709551616 := by omega
  have hvl : b % 4294967296 < 18446744073709551616 := by omega
  have HL := hid (refLow_at (IntKind.u64.wrap ((lowN a : Int) * (lowN b : Int))) (lowN a * lowN b % 18446744073709551616) _ (by rw [u64w, ← Int.natCast_mul]; exact (Int.natCast_emod _ _).symm) (Nat.mod_lt _ (by decide)) hr.symm)
  clear hr
  generalize doN 23 a b = r at *
  generalize lowN a = x at *
  generalize lowN b = y at *
  generalize a % 4294967296 = u at *
  generalize b % 4294967296 = v at *
  go_enter Tryz.func54, Tryz.ntmps54
  go_wp2_with (first
    | (go_at_call_of 93 (Value.int IntKind.u64 (a : Int)); refine (La.out _).mono ?_; rintro e w1 ⟨rfl, rfl⟩)
    | (go_at_call_of 93 (Value.int IntKind.u64 (b : Int)); refine (Lb.out _).mono ?_; rintro e w2 ⟨rfl, rfl⟩)
    | (go_at_call 93; refine (HL.out _).mono ?_; rintro e w3 ⟨rfl, rfl⟩))
  go_ret
  exact ⟨rfl, Below.refl _ _⟩
set_option maxHeartbeats 4000000 in
set_option maxRecDepth 100000 in
theorem refDo_24 (a b : Nat) (w : World) (ha : a < 18446744073709551616) (hb : b < 18446744073709551616) :
    Calls Tryz.prog 54 #[.int .i64 24, .int .u64 a, .int .u64 b] w fun e w' => e = .returned (.int .u64 (doN 24 a b)) ∧ Below w.heap.size w w' := by
  have hr := doN_half 24 a b (by decide) (by decide)
  simp only [halvesN, Int.reduceEq, ↓reduceIte] at hr
  have hx := lowN_lt a
  have hy := lowN_lt b
  have La := hid (fun w => refLow_any a w ha)
  have Lb := hid (fun w => refLow_any b w hb)
  have hu : (a : Int) % 4294967296 = ((a % 4294967296 : Nat) : Int) := by omega
  have hv : (b : Int) % 4294967296 = ((b % 4294967296 : Nat) : Int) := by omega
  have hul : a % 4294967296 < 18446744073709551616 := by omega
  have hvl : b % 4294967296 < 18446744073709551616 := by omega
  have hS := fun w => refFull_any 14 (lowN a) (lowN b) w (by decide) (by decide) hx hy
  have e0 : fullN 14 (lowN a) (lowN b) = productN 14 (lowN a) (lowN b) := by unfold fullN; rw [if_pos (by decide)]
  rw [← e0] at hr
  obtain ⟨z, hz⟩ : ∃ z, fullN 14 (lowN a) (lowN b) = z := ⟨_, rfl⟩
  have hzl : z < 18446744073709551616 := by rw [← hz, e0]; exact productN_lt _ _ _ hx hy
  rw [hz] at hr
  have HS : Hid (∀ w, Calls Tryz.prog 92 #[.int .i64 14, .int .u64 (lowN a : Int), .int .u64 (lowN b : Int)] w fun e w' => e = .returned (.int .u64 (z : Int)) ∧ Below w.heap.size w w') := hid (fun w => by have h := hS w; rw [hz] at h; exact h)
  have HL := hid (refLow_at (z : Int) z _ rfl hzl hr.symm)
  clear hr hS hz e0
  generalize doN 24 a b = r at *
  generalize lowN a = x at *
  generalize lowN b = y at *
  generalize a % 4294967296 = u at *
  generalize b % 4294967296 = v at *
  go_enter Tryz.func54, Tryz.ntmps54
  go_wp2_with (first
    | (go_at_call_of 93 (Value.int IntKind.u64 (a : Int)); refine (La.out _).mono ?_; rintro e w1 ⟨rfl, rfl⟩)
    | (go_at_call_of 93 (Value.int IntKind.u64 (b : Int)); refine (Lb.out _).mono ?_; rintro e w2 ⟨rfl, rfl⟩)
    | (go_at_call 93; refine (HL.out _).mono ?_; rintro e w3 ⟨rfl, rfl⟩)
    | (go_at_call 92; refine (HS.out _).mono ?_; rintro e w4 ⟨rfl, hb4⟩))
  go_ret
  exact ⟨rfl, hb4⟩
set_option maxHeartbeats 4000000 in
set_option maxRecDepth 100000 in
theorem refDo_25 (a b : Nat) (w : World) (ha : a < 18446744073709551616) (hb : b < 18446744073709551616) :
    Calls Tryz.prog 54 #[.int .i64 25, .int .u64 a, .int .u64 b] w fun e w' => e = .returned (.int .u64 (doN 25 a b)) ∧ Below w.heap.size w w' := by
  have hr := doN_half 25 a b (by decide) (by decide)
  simp only [halvesN, Int.reduceEq, ↓reduceIte] at hr
  have hx := lowN_lt a
  have hy := lowN_lt b
  have La := hid (fun w => refLow_any a w ha)
  have Lb := hid (fun w => refLow_any b w hb)
  have hu : (a : Int) % 4294967296 = ((a % 4294967296 : Nat) : Int) := by omega
  have hv : (b : Int) % 4294967296 = ((b % 4294967296 : Nat) : Int) := by omega
  have hul : a % 4294967296 < 18446744073709551616 := by omega
  have hvl : b % 4294967296 < 18446744073709551616 := by omega
  have hS := fun w => refFull_any 15 (a % 4294967296) (b % 4294967296) w (by decide) (by decide) hul hvl
  have e0 : fullN 15 (a % 4294967296) (b % 4294967296) = productN 15 (a % 4294967296) (b % 4294967296) := by unfold fullN; rw [if_pos (by decide)]
  rw [← e0] at hr
  obtain ⟨z, hz⟩ : ∃ z, fullN 15 (a % 4294967296) (b % 4294967296) = z := ⟨_, rfl⟩
  have hzl : z < 18446744073709551616 := by rw [← hz, e0]; exact productN_lt _ _ _ hul hvl
  rw [hz] at hr
  have HS : Hid (∀ w, Calls Tryz.prog 92 #[.int .i64 15, .int .u64 ((a % 4294967296 : Nat) : Int), .int .u64 ((b % 4294967296 : Nat) : Int)] w fun e w' => e = .returned (.int .u64 (z : Int)) ∧ Below w.heap.size w w') := hid (fun w => by have h := hS w; rw [hz] at h; exact h)
  have HL := hid (refLow_at (z : Int) z _ rfl hzl hr.symm)
  clear hr hS hz e0
  generalize doN 25 a b = r at *
  generalize lowN a = x at *
  generalize lowN b = y at *
  generalize a % 4294967296 = u at *
  generalize b % 4294967296 = v at *
  go_enter Tryz.func54, Tryz.ntmps54
  go_wp2_with (first
    | (go_at_call_of 93 (Value.int IntKind.u64 (a : Int)); refine (La.out _).mono ?_; rintro e w1 ⟨rfl, rfl⟩)
    | (go_at_call_of 93 (Value.int IntKind.u64 (b : Int)); refine (Lb.out _).mono ?_; rintro e w2 ⟨rfl, rfl⟩)
    | (go_at_call 93; refine (HL.out _).mono ?_; rintro e w3 ⟨rfl, rfl⟩)
    | (go_at_call 92; refine (HS.out _).mono ?_; rintro e w4 ⟨rfl, hb4⟩))
  go_ret
  exact ⟨rfl, hb4⟩
set_option maxHeartbeats 4000000 in
set_option maxRecDepth 100000 in
theorem refDo_26 (a b : Nat) (w : World) (ha : a < 18446744073709551616) (hb : b < 18446744073709551616) :
    Calls Tryz.prog 54 #[.int .i64 26, .int .u64 a, .int .u64 b] w fun e w' => e = .returned (.int .u64 (doN 26 a b)) ∧ Below w.heap.size w w' := by
  have hr := doN_half 26 a b (by decide) (by decide)
  simp only [halvesN, Int.reduceEq, ↓reduceIte] at hr
  have hx := lowN_lt a
  have hy := lowN_lt b
  have La := hid (fun w => refLow_any a w ha)
  have Lb := hid (fun w => refLow_any b w hb)
  have hu : (a : Int) % 4294967296 = ((a % 4294967296 : Nat) : Int) := by omega
  have hv : (b : Int) % 4294967296 = ((b % 4294967296 : Nat) : Int) := by omega
  have hul : a % 4294967296 < 18446744073709551616 := by omega
  have hvl : b % 4294967296 < 18446744073709551616 := by omega
  have hS := fun w => refFull_any 16 (lowN a) (lowN b) w (by decide) (by decide) hx hy
  have e0 : fullN 16 (lowN a) (lowN b) = productN 16 (lowN a) (lowN b) := by unfold fullN; rw [if_pos (by decide)]
  rw [← e0] at hr
  obtain ⟨z, hz⟩ : ∃ z, fullN 16 (lowN a) (lowN b) = z := ⟨_, rfl⟩
  have hzl : z < 18446744073709551616 := by rw [← hz, e0]; exact productN_lt _ _ _ hx hy
  rw [hz] at hr
  have HS : Hid (∀ w, Calls Tryz.prog 92 #[.int .i64 16, .int .u64 (lowN a : Int), .int .u64 (lowN b : Int)] w fun e w' => e = .returned (.int .u64 (z : Int)) ∧ Below w.heap.size w w') := hid (fun w => by have h := hS w; rw [hz] at h; exact h)
  have HL := hid (refLow_at (z : Int) z _ rfl hzl hr.symm)
  clear hr hS hz e0
  generalize doN 26 a b = r at *
  generalize lowN a = x at *
  generalize lowN b = y at *
  generalize a % 4294967296 = u at *
  generalize b % 4294967296 = v at *
  go_enter Tryz.func54, Tryz.ntmps54
  go_wp2_with (first
    | (go_at_call_of 93 (Value.int IntKind.u64 (a : Int)); refine (La.out _).mono ?_; rintro e w1 ⟨rfl, rfl⟩)
    | (go_at_call_of 93 (Value.int IntKind.u64 (b : Int)); refine (Lb.out _).mono ?_; rintro e w2 ⟨rfl, rfl⟩)
    | (go_at_call 93; refine (HL.out _).mono ?_; rintro e w3 ⟨rfl, rfl⟩)
    | (go_at_call 92; refine (HS.out _).mono ?_; rintro e w4 ⟨rfl, hb4⟩))
  go_ret
  exact ⟨rfl, hb4⟩
set_option maxHeartbeats 4000000 in
set_option maxRecDepth 100000 in
theorem refDo_27 (a b : Nat) (w : World) (ha : a < 18446744073709551616) (hb : b < 18446744073709551616) :
    Calls Tryz.prog 54 #[.int .i64 27, .int .u64 a, .int .u64 b] w fun e w' => e = .returned (.int .u64 (doN 27 a b)) ∧ Below w.heap.size w w' := by
  have hr := doN_half 27 a b (by decide) (by decide)
  simp only [halvesN, Int.reduceEq, ↓reduceIte] at hr
  have hx := lowN_lt a
  have hy := lowN_lt b
  have La := hid (fun w => refLow_any a w ha)
  have Lb := hid (fun w => refLow_any b w hb)
  have hu : (a : Int) % 4294967296 = ((a % 4294967296 : Nat) : Int) := by omega
  have hv : (b : Int) % 4294967296 = ((b % 4294967296 : Nat) : Int) := by omega
  have hul : a % 4294967296 < 18446744073709551616 := by omega
  have hvl : b % 4294967296 < 18446744073709551616 := by omega
  have hS := fun w => refFull_any 17 (a % 4294967296) (b % 4294967296) w (by decide) (by decide) hul hvl
  have e0 : fullN 17 (a % 4294967296) (b % 4294967296) = productN 17 (a % 4294967296) (b % 4294967296) := by unfold fullN; rw [if_pos (by decide)]
  rw [← e0] at hr
  obtain ⟨z, hz⟩ : ∃ z, fullN 17 (a % 4294967296) (b % 4294967296) = z := ⟨_, rfl⟩
  have hzl : z < 18446744073709551616 := by rw [← hz, e0]; exact productN_lt _ _ _ hul hvl
  rw [hz] at hr
  have HS : Hid (∀ w, Calls Tryz.prog 92 #[.int .i64 17, .int .u64 ((a % 4294967296 : Nat) : Int), .int .u64 ((b % 4294967296 : Nat) : Int)] w fun e w' => e = .returned (.int .u64 (z : Int)) ∧ Below w.heap.size w w') := hid (fun w => by have h := hS w; rw [hz] at h; exact h)
  have HL := hid (refLow_at (z : Int) z _ rfl hzl hr.symm)
  clear hr hS hz e0
  generalize doN 27 a b = r at *
  generalize lowN a = x at *
  generalize lowN b = y at *
  generalize a % 4294967296 = u at *
  generalize b % 4294967296 = v at *
  go_enter Tryz.func54, Tryz.ntmps54
  go_wp2_with (first
    | (go_at_call_of 93 (Value.int IntKind.u64 (a : Int)); refine (La.out _).mono ?_; rintro e w1 ⟨rfl, rfl⟩)
    | (go_at_call_of 93 (Value.int IntKind.u64 (b : Int)); refine (Lb.out _).mono ?_; rintro e w2 ⟨rfl, rfl⟩)
    | (go_at_call 93; refine (HL.out _).mono ?_; rintro e w3 ⟨rfl, rfl⟩)
    | (go_at_call 92; refine (HS.out _).mono ?_; rintro e w4 ⟨rfl, hb4⟩))
  go_ret
  exact ⟨rfl, hb4⟩
theorem refDo_any (o : Int) (a b : Nat) (w : World) (ha : a < 18446744073709551616) (hb : b < 18446744073709551616) :
    Calls Tryz.prog 54 #[.int .i64 o, .int .u64 a, .int .u64 b] w fun e w' => e = .returned (.int .u64 (doN o a b)) ∧ Below w.heap.size w w' := by
  by_cases h : o < 0 ∨ 27 < o
  · exact refDo_out o a b w h ha hb
  · by_cases h2 : o ≤ 17
    · exact refDo_full o a b w (by omega) h2 ha hb
    · have hcs : o = 18 ∨ o = 19 ∨ o = 20 ∨ o = 21 ∨ o = 22 ∨ o = 23 ∨ o = 24 ∨ o = 25 ∨ o = 26 ∨ o = 27 := by omega
      rcases hcs with rfl | rfl | rfl | rfl | rfl | rfl | rfl | rfl | rfl | rfl
      · exact refDo_18 a b w ha hb
      · exact refDo_19 a b w ha hb
      · exact refDo_20 a b w ha hb
      · exact refDo_21 a b w ha hb
      · exact refDo_22 a b w ha hb
      · exact refDo_23 a b w ha hb
      · exact refDo_24 a b w ha hb
      · exact refDo_25 a b w ha hb
      · exact refDo_26 a b w ha hb
      · exact refDo_27 a b w ha hb
end
end Go.Proofs.YtiemingpbommeaaGreatDoor
