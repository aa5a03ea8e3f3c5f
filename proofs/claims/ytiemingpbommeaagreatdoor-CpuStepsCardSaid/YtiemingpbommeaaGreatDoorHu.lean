/- The document's words: an operation of 64 bits. -/
import Derived.Test.YtiemingpbommeaaGreatDoorHt
namespace Go.Proofs.YtiemingpbommeaaGreatDoor
open Go Go.RowKit
noncomputable section
set_option linter.unusedVariables false
set_option linter.unusedSimpArgs false
theorem shl_is (a s ab : Nat) (ha : a < 18446744073709551616) (hs : s < 64) : valL ((List.range 64).map (shiftF a s true ab)) = a * 2 ^ s % 18446744073709551616 := by
  rw [show shiftF a s true ab = fun i => if s ≤ i then a / 2 ^ (i - s) % 2 else 0 from funext fun i => by simp [shiftF, bitF]]
  exact shl_bits a s ha hs
theorem shr_is (a s : Nat) (ha : a < 18446744073709551616) (hs : s < 64) : valL ((List.range 64).map (shiftF a s false 0)) = a / 2 ^ s := by
  rw [show shiftF a s false 0 = fun i => if i + s < 64 then a / 2 ^ (i + s) % 2 else 0 from funext fun i => by simp [shiftF, bitF]]
  exact shr_bits a s ha hs
theorem sar_is (a s : Nat) (ha : a < 18446744073709551616) (hs : s < 64) : valL ((List.range 64).map (shiftF a s false (if minusN a then 1 else 0))) = u64N (sgn a / 2 ^ s) := by
  have hp : (2 : Int) ^ s = ((2 ^ s : Nat) : Int) := by simp
  cases hm : minusN a with
  | false =>
    have hl : a < 9223372036854775808 := by unfold minusN at hm; simpa using hm
    rw [if_neg (by simp), shr_is a s ha hs, show sgn a = (a : Int) from by unfold sgn wrap64; omega, hp, ← Int.natCast_ediv]
    have := Nat.div_le_self a (2 ^ s)
    exact (u64N_nat _ (by omega)).symm
  | true =>
    have hl : 9223372036854775808 ≤ a := by unfold minusN at hm; simpa using hm
    rw [if_pos rfl, show shiftF a s false 1 = fun i => if i + s < 64 then a / 2 ^ (i + s) % 2 else 1 from funext fun i => by simp [shiftF, bitF], sar_bits a s ha hs]
    have hc : (2 : Nat) ^ (64 - s) * 2 ^ s = 18446744073709551616 := by rw [← Nat.pow_add, show 64 - s + s = 64 by omega]
    have hlt : a / 2 ^ s < 2 ^ (64 - s) := by
      rw [Nat.div_lt_iff_lt_mul (Nat.two_pow_pos s), hc]; exact ha
    have hle : 2 ^ (64 - s) ≤ 2 ^ 64 := Nat.pow_le_pow_right (by decide) (by omega)
    have hd : sgn a / 2 ^ s = ((a / 2 ^ s : Nat) : Int) - ((2 ^ (64 - s) : Nat) : Int) := by
      rw [show sgn a = (a : Int) + (-((2 ^ (64 - s) : Nat) : Int)) * (2 : Int) ^ s from by
        unfold sgn wrap64
        rw [hp, Int.neg_mul, ← Int.natCast_mul, hc]
        omega]
      have h0 : (2 : Int) ^ s ≠ 0 := by rw [hp]; have := Nat.two_pow_pos s; omega
      rw [Int.add_mul_ediv_right _ _ h0, hp, ← Int.natCast_ediv]
      omega
    rw [hd]
    unfold u64N
    have h64 : (2 : Nat) ^ 64 = 18446744073709551616 := by decide
    rw [h64] at hle ⊢
    generalize 2 ^ (64 - s) = t at *
    generalize a / 2 ^ s = z at *
    omega
theorem both_is (a b : Nat) (ha : a < 18446744073709551616) (hb : b < 18446744073709551616) :
    valL ((List.range 64).map (bothF a b 0)) = a ^^^ b ∧ valL ((List.range 64).map (bothF a b 1)) = a ||| b ∧ valL ((List.range 64).map (bothF a b 2)) = a &&& b := by
  have h := both_bits a b ha hb
  refine ⟨?_, ?_, ?_⟩
  · rw [show bothF a b 0 = fun i => if a / 2 ^ i % 2 + b / 2 ^ i % 2 = 1 then 1 else 0 from funext fun i => by unfold bothF bitF; rw [if_pos rfl]]
    exact h.1
  · rw [show bothF a b 1 = fun i => if 0 < a / 2 ^ i % 2 + b / 2 ^ i % 2 then 1 else 0 from funext fun i => by unfold bothF bitF; rw [if_neg (by decide), if_pos rfl]]
    exact h.2.1
  · rw [show bothF a b 2 = fun i => if a / 2 ^ i % 2 + b / 2 ^ i % 2 = 2 then 1 else 0 from funext fun i => by unfold bothF bitF; rw [if_neg (by decide), if_neg (by decide)]]
    exact h.2.2
theorem slt_is (a b : Nat) (ha : a < 18446744073709551616) (hb : b < 18446744073709551616) : (if sgn a < sgn b then 1 else 0 : Nat) = if (minusN a && !minusN b || (minusN a == minusN b && decide (a < b))) then 1 else 0 := by
  have hs : ∀ x : Nat, x < 18446744073709551616 → sgn x = if minusN x then (x : Int) - 18446744073709551616 else x := fun x hx => by
    unfold sgn wrap64 minusN
    by_cases h : 9223372036854775808 ≤ x <;> simp only [h, decide_true, decide_false, if_true, if_false, Bool.false_eq_true] <;> omega
  rw [hs a ha, hs b hb]
  have m1 : minusN a = decide (9223372036854775808 ≤ a) := rfl
  have m2 : minusN b = decide (9223372036854775808 ≤ b) := rfl
  rw [m1, m2]
  by_cases h1 : 9223372036854775808 ≤ a <;> by_cases h2 : 9223372036854775808 ≤ b <;> simp only [h1, h2, decide_true, decide_false, if_true, if_false, Bool.false_eq_true, Bool.true_and, Bool.false_and, Bool.not_true, Bool.not_false, Bool.or_false, Bool.false_or, Bool.and_false, Bool.true_or, beq_self_eq_true]
  · by_cases h : a < b
    · rw [if_pos (by omega), if_pos (by simpa using h)]
    · rw [if_neg (by omega), if_neg (by simpa using h)]
  · rw [if_pos (by omega)]
  · rw [if_neg (by omega), if_neg (by simp)]
  · by_cases h : a < b
    · rw [if_pos (by omega), if_pos (by simpa using h)]
    · rw [if_neg (by omega), if_neg (by simpa using h)]
def fullN (o : Int) (a b : Nat) : Nat := if 10 ≤ o then productN o a b else simpleN o a b
set_option maxHeartbeats 4000000 in
set_option maxRecDepth 100000 in
theorem refFull_plain (o : Int) (a b : Nat) (w : World) (hcs : o = 0 ∨ o = 1 ∨ o = 14 ∨ o = 15 ∨ o = 16 ∨ o = 17) (ha : a < 18446744073709551616) (hb : b < 18446744073709551616) :
    Calls Tryz.prog 92 #[.int .i64 o, .int .u64 a, .int .u64 b] w fun e w' => e = .returned (.int .u64 (fullN o a b)) ∧ Below w.heap.size w w' := by
  have hbs : (b : Int) % 64 = ((b % 64 : Nat) : Int) := by omega
  have hs : b % 64 < 64 := Nat.mod_lt _ (by decide)
  obtain ⟨r, hr⟩ : ∃ r, fullN o a b = r := ⟨_, rfl⟩
  rw [hr]
  have Hr := hid hr
  have Hcs := hid hcs
  clear hr hcs
  have Ma := hid (refMinus_at a)
  have Ds := hid (fun w => refDivide_s a b w ha hb)
  have Du := hid (fun w => refDivide_u a b w ha hb)
  obtain ⟨ab, hae⟩ : ∃ ab : Nat, (if minusN a then 1 else 0) = ab := ⟨_, rfl⟩
  have hab : ab ≤ 1 := by rw [← hae]; split <;> omega
  have Hae := hid hae
  clear hae
  go_enter Tryz.func92, Tryz.ntmps92
  go_upto_region 1 with (fail)
  go_cut [7] (fun v7 wc => v7 = .int .i64 0 ∧ wc = w)
  case first =>
    clear  Ds Du Hcs
    clear Ma
    go_wp2_with fail
    go_meet
    case rel => exact ⟨rfl, rfl⟩
  obtain ⟨rfl, rfl⟩ := hcut
  refine (‹∀ (a : Act) (w : World), Code.wp _ _ _ a w → _› _ _ ?_)
  apply wp_seq_k
  intro _ _
  go_cut [7, 14, 15] (fun v7 v14 v15 wd => v7 = .int .i64 ab ∧ wd = wc)
  case first =>
    clear  Ds Du Hcs
    obtain ⟨ma, hma⟩ : ∃ ma, minusN a = ma := ⟨_, rfl⟩
    cases ma with
    | true =>
      have Hab : Hid (ab = 1) := hid (by rw [← Hae.out, hma]; rfl)
      have Hma := hid hma
      clear hma
      go_wp2_with (refine (Ma.out true Hma.out _).mono ?_; rintro e w1 ⟨rfl, rfl⟩)
      go_meet
      case rel => exact ⟨by rw [Hab.out]; rfl, rfl⟩
    | false =>
      have Hab : Hid (ab = 0) := hid (by rw [← Hae.out, hma]; rfl)
      have Hma := hid hma
      clear hma
      go_wp2_with (refine (Ma.out false Hma.out _).mono ?_; rintro e w1 ⟨rfl, rfl⟩)
      go_meet
      case rel => exact ⟨by rw [Hab.out]; rfl, rfl⟩
  obtain ⟨rfl, rfl⟩ := hcut
  go_upto_region 6 with (first
    | (go_at_call_of 116 (Value.bool true); refine (Ds.out _).mono ?_; rintro e w1 ⟨rfl, m1, rfl⟩)
    | (go_at_call_of 116 (Value.bool false); refine (Du.out _).mono ?_; rintro e w2 ⟨rfl, m2, rfl⟩))
  have HB := hid (below_drewN (Below.refl wc.heap.size wc) (m1 + m2))
  generalize wc.drewN (m1 + m2) = W at HB ⊢
  clear Ds Du Hae
  clear Ma
  rcases Hcs.out with rfl | rfl | rfl | rfl | rfl | rfl
  all_goals
    clear Hcs
    go_wp2_with (first
      | (go_at_call 117; refine (refYes_any _ _).mono ?_; rintro e w5 ⟨rfl, rfl⟩))
    go_ret
  all_goals refine ⟨ret_int ?_, by first | exact HB.out | exact HB.out.trans (hb5.mono HB.out.size)⟩
  all_goals rw [← Hr.out]
  all_goals simp only [fullN, simpleN, productN, Int.reduceLE, Int.reduceEq, ↓reduceIte]
  · rw [u64w]; omega
  · rw [u64w]; unfold u64N; omega
end
end Go.Proofs.YtiemingpbommeaaGreatDoor

/- The document's words: an operation of 64 bits: comparisons. -/
namespace Go.Proofs.YtiemingpbommeaaGreatDoor
open Go Go.RowKit
noncomputable section
set_option linter.unusedVariables false
set_option linter.unusedSimpArgs false
set_option maxHeartbeats 4000000 in
set_option maxRecDepth 100000 in
theorem refFull_ltu (o : Int) (a b : Nat) (w : World) (hcs : o = 4) (ha : a < 18446744073709551616) (hb : b < 18446744073709551616) :
    Calls Tryz.prog 92 #[.int .i64 o, .int .u64 a, .int .u64 b] w fun e w' => e = .returned (.int .u64 (fullN o a b)) ∧ Below w.heap.size w w' := by
  have hbs : (b : Int) % 64 = ((b % 64 : Nat) : Int) := by omega
  have hs : b % 64 < 64 := Nat.mod_lt _ (by decide)
  obtain ⟨r, hr⟩ : ∃ r, fullN o a b = r := ⟨_, rfl⟩
  rw [hr]
  have Hr := hid hr
  have Hcs := hid hcs
  clear hr hcs
  have Ma := hid (refMinus_at a)
  have Ds := hid (fun w => refDivide_s a b w ha hb)
  have Du := hid (fun w => refDivide_u a b w ha hb)
  obtain ⟨ab, hae⟩ : ∃ ab : Nat, (if minusN a then 1 else 0) = ab := ⟨_, rfl⟩
  have hab : ab ≤ 1 := by rw [← hae]; split <;> omega
  have Hae := hid hae
  clear hae
  go_enter Tryz.func92, Tryz.ntmps92
  go_upto_region 1 with (fail)
  go_cut [7] (fun v7 wc => v7 = .int .i64 0 ∧ wc = w)
  case first =>
    clear  Ds Du Hcs
    clear Ma
    go_wp2_with fail
    go_meet
    case rel => exact ⟨rfl, rfl⟩
  obtain ⟨rfl, rfl⟩ := hcut
  refine (‹∀ (a : Act) (w : World), Code.wp _ _ _ a w → _› _ _ ?_)
  apply wp_seq_k
  intro _ _
  go_cut [7, 14, 15] (fun v7 v14 v15 wd => v7 = .int .i64 ab ∧ wd = wc)
  case first =>
    clear  Ds Du Hcs
    obtain ⟨ma, hma⟩ : ∃ ma, minusN a = ma := ⟨_, rfl⟩
    cases ma with
    | true =>
      have Hab : Hid (ab = 1) := hid (by rw [← Hae.out, hma]; rfl)
      have Hma := hid hma
      clear hma
      go_wp2_with (refine (Ma.out true Hma.out _).mono ?_; rintro e w1 ⟨rfl, rfl⟩)
      go_meet
      case rel => exact ⟨by rw [Hab.out]; rfl, rfl⟩
    | false =>
      have Hab : Hid (ab = 0) := hid (by rw [← Hae.out, hma]; rfl)
      have Hma := hid hma
      clear hma
      go_wp2_with (refine (Ma.out false Hma.out _).mono ?_; rintro e w1 ⟨rfl, rfl⟩)
      go_meet
      case rel => exact ⟨by rw [Hab.out]; rfl, rfl⟩
  obtain ⟨rfl, rfl⟩ := hcut
  go_upto_region 6 with (first
    | (go_at_call_of 116 (Value.bool true); refine (Ds.out _).mono ?_; rintro e w1 ⟨rfl, m1, rfl⟩)
    | (go_at_call_of 116 (Value.bool false); refine (Du.out _).mono ?_; rintro e w2 ⟨rfl, m2, rfl⟩))
  have HB := hid (below_drewN (Below.refl wc.heap.size wc) (m1 + m2))
  generalize wc.drewN (m1 + m2) = W at HB ⊢
  clear Ds Du Hae
  clear Ma
  obtain rfl := Hcs.out
  clear Hcs
  have hab : a < b ∨ ¬ a < b := by omega
  rcases hab with hl | hl
  all_goals
    go_wp2_with (go_at_call 117; refine (refYes_any _ _).mono ?_; rintro e w5 ⟨rfl, rfl⟩)
    go_ret
  all_goals refine ⟨ret_int ?_, HB.out⟩
  all_goals rw [← Hr.out]
  all_goals simp only [fullN, simpleN, Int.reduceLE, Int.reduceEq, ↓reduceIte]
  all_goals simp [hl]
set_option maxHeartbeats 4000000 in
set_option maxRecDepth 100000 in
theorem refFull_slt (o : Int) (a b : Nat) (w : World) (hcs : o = 3) (ha : a < 18446744073709551616) (hb : b < 18446744073709551616) :
    Calls Tryz.prog 92 #[.int .i64 o, .int .u64 a, .int .u64 b] w fun e w' => e = .returned (.int .u64 (fullN o a b)) ∧ Below w.heap.size w w' := by
  have hbs : (b : Int) % 64 = ((b % 64 : Nat) : Int) := by omega
  have hs : b % 64 < 64 := Nat.mod_lt _ (by decide)
  obtain ⟨r, hr⟩ : ∃ r, fullN o a b = r := ⟨_, rfl⟩
  rw [hr]
  have Hr := hid hr
  have Hcs := hid hcs
  clear hr hcs
  have Ma := hid (refMinus_at a)
  have Ds := hid (fun w => refDivide_s a b w ha hb)
  have Du := hid (fun w => refDivide_u a b w ha hb)
  have Mb := hid (refMinus_at b)
  have hslt := hid (slt_is a b ha hb)
  obtain ⟨ab, hae⟩ : ∃ ab : Nat, (if minusN a then 1 else 0) = ab := ⟨_, rfl⟩
  have hab : ab ≤ 1 := by rw [← hae]; split <;> omega
  have Hae := hid hae
  clear hae
  go_enter Tryz.func92, Tryz.ntmps92
  go_upto_region 1 with (fail)
  go_cut [7] (fun v7 wc => v7 = .int .i64 0 ∧ wc = w)
  case first =>
    clear hslt Mb Ds Du Hcs
    clear Ma
    go_wp2_with fail
    go_meet
    case rel => exact ⟨rfl, rfl⟩
  obtain ⟨rfl, rfl⟩ := hcut
  refine (‹∀ (a : Act) (w : World), Code.wp _ _ _ a w → _› _ _ ?_)
  apply wp_seq_k
  intro _ _
  go_cut [7, 14, 15] (fun v7 v14 v15 wd => v7 = .int .i64 ab ∧ wd = wc)
  case first =>
    clear hslt Mb Ds Du Hcs
    obtain ⟨ma, hma⟩ : ∃ ma, minusN a = ma := ⟨_, rfl⟩
    cases ma with
    | true =>
      have Hab : Hid (ab = 1) := hid (by rw [← Hae.out, hma]; rfl)
      have Hma := hid hma
      clear hma
      go_wp2_with (refine (Ma.out true Hma.out _).mono ?_; rintro e w1 ⟨rfl, rfl⟩)
      go_meet
      case rel => exact ⟨by rw [Hab.out]; rfl, rfl⟩
    | false =>
      have Hab : Hid (ab = 0) := hid (by rw [← Hae.out, hma]; rfl)
      have Hma := hid hma
      clear hma
      go_wp2_with (refine (Ma.out false Hma.out _).mono ?_; rintro e w1 ⟨rfl, rfl⟩)
      go_meet
      case rel => exact ⟨by rw [Hab.out]; rfl, rfl⟩
  obtain ⟨rfl, rfl⟩ := hcut
  go_upto_region 6 with (first
    | (go_at_call_of 116 (Value.bool true); refine (Ds.out _).mono ?_; rintro e w1 ⟨rfl, m1, rfl⟩)
    | (go_at_call_of 116 (Value.bool false); refine (Du.out _).mono ?_; rintro e w2 ⟨rfl, m2, rfl⟩))
  have HB := hid (below_drewN (Below.refl wc.heap.size wc) (m1 + m2))
  generalize wc.drewN (m1 + m2) = W at HB ⊢
  clear Ds Du Hae
  obtain rfl := Hcs.out
  have Hv : Hid (r = if (minusN a && !minusN b || (minusN a == minusN b && decide (a < b))) then 1 else 0) := hid (by
    rw [← Hr.out, ← hslt.out]; simp only [fullN, simpleN, Int.reduceLE, Int.reduceEq, ↓reduceIte])
  obtain ⟨ma, hma⟩ : ∃ ma, minusN a = ma := ⟨_, rfl⟩
  obtain ⟨mb, hmb⟩ : ∃ mb, minusN b = mb := ⟨_, rfl⟩
  have Hma := hid (Ma.out ma hma)
  have Hmb := hid (Mb.out mb hmb)
  rw [hma, hmb] at Hv
  clear hma hmb Ma Mb hslt Hr Hcs
  have hab : a < b ∨ ¬ a < b := by omega
  cases ma <;> cases mb <;> rcases hab with hl | hl
  all_goals
    go_wp2_with (first
      | (go_at_call_of 95 (Value.int IntKind.u64 (a : Int)); refine (Hma.out _).mono ?_; rintro e w5 ⟨rfl, rfl⟩)
      | (go_at_call_of 95 (Value.int IntKind.u64 (b : Int)); refine (Hmb.out _).mono ?_; rintro e w5 ⟨rfl, rfl⟩)
      | (go_at_call 117; refine (refYes_any _ _).mono ?_; rintro e w5 ⟨rfl, rfl⟩))
    go_ret
  all_goals refine ⟨ret_int ?_, HB.out⟩
  all_goals rw [Hv.out]
  all_goals simp [hl]
end
end Go.Proofs.YtiemingpbommeaaGreatDoor

/- The document's words: an operation of 64 bits: shifts. -/
namespace Go.Proofs.YtiemingpbommeaaGreatDoor
open Go Go.RowKit
noncomputable section
set_option linter.unusedVariables false
set_option linter.unusedSimpArgs false
set_option maxHeartbeats 4000000 in
set_option maxRecDepth 100000 in
theorem refFull_shift (o : Int) (a b : Nat) (w : World) (hcs : o = 2 ∨ o = 6 ∨ o = 7) (ha : a < 18446744073709551616) (hb : b < 18446744073709551616) :
    Calls Tryz.prog 92 #[.int .i64 o, .int .u64 a, .int .u64 b] w fun e w' => e = .returned (.int .u64 (fullN o a b)) ∧ Below w.heap.size w w' := by
  have hbs : (b : Int) % 64 = ((b % 64 : Nat) : Int) := by omega
  have hs : b % 64 < 64 := Nat.mod_lt _ (by decide)
  obtain ⟨r, hr⟩ : ∃ r, fullN o a b = r := ⟨_, rfl⟩
  rw [hr]
  have Hr := hid hr
  have Hcs := hid hcs
  clear hr hcs
  have Ma := hid (refMinus_at a)
  have Ds := hid (fun w => refDivide_s a b w ha hb)
  have Du := hid (fun w => refDivide_u a b w ha hb)
  obtain ⟨ab, hae⟩ : ∃ ab : Nat, (if minusN a then 1 else 0) = ab := ⟨_, rfl⟩
  have hab : ab ≤ 1 := by rw [← hae]; split <;> omega
  have hsar := sar_is a (b % 64) ha hs
  rw [hae] at hsar
  have Hae := hid hae
  clear hae
  obtain ⟨v1, e1⟩ : ∃ v, a * 2 ^ (b % 64) % 18446744073709551616 = v := ⟨_, rfl⟩
  obtain ⟨v2, e2⟩ : ∃ v, a / 2 ^ (b % 64) = v := ⟨_, rfl⟩
  obtain ⟨v3, e3⟩ : ∃ v, u64N (sgn a / 2 ^ (b % 64)) = v := ⟨_, rfl⟩
  have S1 : Hid (∀ w, Calls Tryz.prog 94 #[.int .u64 a, .int .i64 ((b % 64 : Nat) : Int), .bool true, .int .i64 0] w fun e w' => e = .returned (.int .u64 (v1 : Int)) ∧ Below w.heap.size w w') := hid (fun w => by
    have h := refShift_any a (b % 64) true 0 w ha hs (by omega); rw [shl_is a (b % 64) 0 ha hs, e1] at h; exact h)
  have S2 : Hid (∀ w, Calls Tryz.prog 94 #[.int .u64 a, .int .i64 ((b % 64 : Nat) : Int), .bool false, .int .i64 0] w fun e w' => e = .returned (.int .u64 (v2 : Int)) ∧ Below w.heap.size w w') := hid (fun w => by
    have h := refShift_any a (b % 64) false 0 w ha hs (by omega); rw [shr_is a (b % 64) ha hs, e2] at h; exact h)
  have S3 : Hid (∀ w, Calls Tryz.prog 94 #[.int .u64 a, .int .i64 ((b % 64 : Nat) : Int), .bool false, .int .i64 ab] w fun e w' => e = .returned (.int .u64 (v3 : Int)) ∧ Below w.heap.size w w') := hid (fun w => by
    have h := refShift_any a (b % 64) false ab w ha hs hab; rw [hsar, e3] at h; exact h)
  have Hr2 : Hid (fullN 2 a b = v1 ∧ fullN 6 a b = v2 ∧ fullN 7 a b = v3) := hid (by
    simp only [fullN, simpleN, Int.reduceLE, Int.reduceEq, ↓reduceIte]
    exact ⟨e1, e2, e3⟩)
  clear hsar e1 e2 e3
  obtain ⟨sh, hsh⟩ : ∃ s, b % 64 = s := ⟨_, rfl⟩
  rw [hsh] at hbs hs S1 S2 S3
  clear hsh
  go_enter Tryz.func92, Tryz.ntmps92
  go_upto_region 1 with (fail)
  go_cut [7] (fun v7 wc => v7 = .int .i64 0 ∧ wc = w)
  case first =>
    clear S1 S2 S3 Ds Du Hcs
    clear Ma
    go_wp2_with fail
    go_meet
    case rel => exact ⟨rfl, rfl⟩
  obtain ⟨rfl, rfl⟩ := hcut
  refine (‹∀ (a : Act) (w : World), Code.wp _ _ _ a w → _› _ _ ?_)
  apply wp_seq_k
  intro _ _
  go_cut [7, 14, 15] (fun v7 v14 v15 wd => v7 = .int .i64 ab ∧ wd = wc)
  case first =>
    clear S1 S2 S3 Ds Du Hcs
    obtain ⟨ma, hma⟩ : ∃ ma, minusN a = ma := ⟨_, rfl⟩
    cases ma with
    | true =>
      have Hab : Hid (ab = 1) := hid (by rw [← Hae.out, hma]; rfl)
      have Hma := hid hma
      clear hma
      go_wp2_with (refine (Ma.out true Hma.out _).mono ?_; rintro e w1 ⟨rfl, rfl⟩)
      go_meet
      case rel => exact ⟨by rw [Hab.out]; rfl, rfl⟩
    | false =>
      have Hab : Hid (ab = 0) := hid (by rw [← Hae.out, hma]; rfl)
      have Hma := hid hma
      clear hma
      go_wp2_with (refine (Ma.out false Hma.out _).mono ?_; rintro e w1 ⟨rfl, rfl⟩)
      go_meet
      case rel => exact ⟨by rw [Hab.out]; rfl, rfl⟩
  obtain ⟨rfl, rfl⟩ := hcut
  go_upto_region 6 with (first
    | (go_at_call_of 116 (Value.bool true); refine (Ds.out _).mono ?_; rintro e w1 ⟨rfl, m1, rfl⟩)
    | (go_at_call_of 116 (Value.bool false); refine (Du.out _).mono ?_; rintro e w2 ⟨rfl, m2, rfl⟩))
  have HB := hid (below_drewN (Below.refl wc.heap.size wc) (m1 + m2))
  generalize wc.drewN (m1 + m2) = W at HB ⊢
  clear Ds Du Hae
  clear Ma
  rcases Hcs.out with rfl | rfl | rfl
  all_goals
    clear Hcs
    go_wp2_with (first
      | (go_at_call_of 94 (Value.bool true); refine (S1.out _).mono ?_; rintro e w5 ⟨rfl, hb5⟩)
      | (go_at_call_of 94 (Value.int IntKind.i64 (ab : Int)); refine (S3.out _).mono ?_; rintro e w5 ⟨rfl, hb5⟩)
      | (go_at_call 94; refine (S2.out _).mono ?_; rintro e w5 ⟨rfl, hb5⟩))
    go_ret
  all_goals refine ⟨ret_int ?_, by first | exact HB.out | exact HB.out.trans (hb5.mono HB.out.size)⟩
  · rw [← Hr.out, Hr2.out.1]
  · rw [← Hr.out, Hr2.out.2.1]
  · rw [← Hr.out, Hr2.out.2.2]
end
end Go.Proofs.YtiemingpbommeaaGreatDoor
