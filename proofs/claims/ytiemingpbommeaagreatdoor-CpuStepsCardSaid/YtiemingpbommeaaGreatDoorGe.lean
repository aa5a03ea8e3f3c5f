/- Package word: the parts. -/
import Derived.Test.YtiemingpbommeaaGreatDoorGc
import Derived.Lib.Mul64
import Derived.Test.YtiemingpbommeaaGreatDoorGd
import Derived.Test.YtiemingpbommeaaGreatDoorGa
namespace Go.Proofs.YtiemingpbommeaaGreatDoor
open Go.RowKit
noncomputable section
set_option linter.unusedVariables false
set_option linter.unusedSimpArgs false
theorem truth_any (b : Bool) (w : World) :
    Calls Tryz.prog 133 #[.bool b] w fun e w' => e = .returned (.int .u64 (if b then 1 else 0)) ∧ ∃ m, w' = w.drewN m := by
  cases b
  · go_enter Tryz.func133, Tryz.ntmps133
    go_wp2
    go_ret
    exact ⟨rfl, 0, rfl⟩
  · go_enter Tryz.func133, Tryz.ntmps133
    go_wp2
    go_ret
    exact ⟨rfl, 0, rfl⟩
/-- the low half, by its sign -/
def lowN (n : Nat) : Nat := extN n 32
theorem lowN_lt (n : Nat) : lowN n < 18446744073709551616 := by
  unfold lowN extN
  have : n % 2 ^ 32 < 2 ^ 32 := Nat.mod_lt _ (by decide)
  split <;> omega
theorem low_any (n : Nat) (w : World) (hn : n < 18446744073709551616) :
    Calls Tryz.prog 129 #[.int .u64 n] w fun e w' => e = .returned (.int .u64 (lowN n)) ∧ ∃ m, w' = w.drewN m := by
  go_enter Tryz.func129, Tryz.ntmps129
  go_wp2_with (first
    | (go_at_call 105; refine (ext_any n 32 _ hn (by omega) (by omega)).mono ?_; rintro e w1 ⟨rfl, m, rfl⟩))
  go_ret
  exact ⟨rfl, m, rfl⟩
set_option maxHeartbeats 4000000 in
set_option maxRecDepth 100000 in
theorem mul64_any (x y : Nat) (w : World) (hx : x < 18446744073709551616) (hy : y < 18446744073709551616) :
    Calls Tryz.prog 154 #[.int .u64 x, .int .u64 y] w fun e w' => e = .returned (.tuple #[.int .u64 (x * y / 18446744073709551616 : Nat), .int .u64 (x * y % 18446744073709551616 : Nat)]) ∧ ∃ m, w' = w.drewN m := by
  obtain ⟨bd, bt, bw, hhi⟩ := Lib.mul64_hi x y hx hy
  have ba := Lib.half_mul_le (a := x / 4294967296) (b := y / 4294967296) (by omega) (by omega)
  have bb := Lib.half_mul_le (a := x / 4294967296) (b := y % 4294967296) (by omega) (by omega)
  have bc := Lib.half_mul_le (a := x % 4294967296) (b := y / 4294967296) (by omega) (by omega)
  have q1 : x / 4294967296 * (y / 4294967296) < 18446744073709551616 := by omega
  have q2 : x / 4294967296 * (y % 4294967296) < 18446744073709551616 := by omega
  have q3 : x % 4294967296 * (y / 4294967296) < 18446744073709551616 := by omega
  have hhiB : x * y / 18446744073709551616 < 18446744073709551616 := by
    rw [Nat.div_lt_iff_lt_mul (by decide)]
    exact Nat.mul_lt_mul'' hx hy
  have Hhi := hid hhi
  have Bt := hid bt
  have Bw := hid bw
  have Bd := hid bd
  have HB := hid hhiB
  clear hhi bt bw bd hhiB ba bb bc
  go_enter Tryz.func154, Tryz.ntmps154
  go_wp2
  have hw : ∀ n : Int, IntKind.u64.wrap n = n % 18446744073709551616 := fun n => by simp [IntKind.wrap, IntKind.bits, IntKind.signed]
  have hm : ∀ a : Nat, a < 18446744073709551616 → bits .and .u64 (a : Int) 4294967295 = ((a % 4294967296 : Nat) : Int) := fun a ha => by
    have := u64_and_nat a 4294967295 ha (by omega)
    rw [show a &&& 4294967295 = a % 4294967296 from Nat.and_two_pow_sub_one_eq_mod a 32] at this
    exact this
  have hdv : ∀ a : Nat, (a : Int) / 4294967296 = ((a / 4294967296 : Nat) : Int) := fun a => by omega
  have hmu : ∀ a b : Nat, (a : Int) * (b : Int) = ((a * b : Nat) : Int) := fun a b => (Int.natCast_mul a b).symm
  have had : ∀ a b : Nat, (a : Int) + (b : Int) = ((a + b : Nat) : Int) := fun a b => (Int.natCast_add a b).symm
  have hwn : ∀ a : Nat, a < 18446744073709551616 → IntKind.u64.wrap (a : Int) = (a : Int) := fun a ha => by rw [hw]; omega
  have hwm : ∀ a : Nat, IntKind.u64.wrap (a : Int) = ((a % 18446744073709551616 : Nat) : Int) := fun a => by rw [hw]; omega
  have bt := Bt.out
  have bw := Bw.out
  have bd := Bd.out
  have hhi := Hhi.out
  have hB := HB.out
  have bh1 : x / 4294967296 * (y / 4294967296) + (x / 4294967296 * (y % 4294967296) + x % 4294967296 * (y % 4294967296) / 4294967296) / 4294967296 < 18446744073709551616 := by omega
  have bh : x / 4294967296 * (y / 4294967296) + (x / 4294967296 * (y % 4294967296) + x % 4294967296 * (y % 4294967296) / 4294967296) / 4294967296 + ((x / 4294967296 * (y % 4294967296) + x % 4294967296 * (y % 4294967296) / 4294967296) % 4294967296 + x % 4294967296 * (y / 4294967296)) / 4294967296 < 18446744073709551616 := by omega
  simp only [hm x hx, hm y hy, hdv, hmu, had, hwn _ bd, hwn _ q2, hwn _ bt, hm _ bt, hwn _ q3, hwn _ bw, hwn _ q1, hwn _ bh1, hwn _ bh, hwm (x * y)]
  rw [hhi]
  go_ret2
  exact ⟨rfl, 0, rfl⟩
end
end Go.Proofs.YtiemingpbommeaaGreatDoor

/- Package word: products and quotients. -/
namespace Go.Proofs.YtiemingpbommeaaGreatDoor
open Go.RowKit
noncomputable section
set_option linter.unusedVariables false
set_option linter.unusedSimpArgs false
theorem u64w (n : Int) : IntKind.u64.wrap n = n % 18446744073709551616 := by simp [IntKind.wrap, IntKind.bits, IntKind.signed]
theorem ret_ii {k l : IntKind} {a b c d : Int} (h : a = b) (h' : c = d) : Ending.returned (.tuple #[.int k a, .int l c]) = .returned (.tuple #[.int k b, .int l d]) := by rw [h, h']
/-- unsigned quotient and rest -/
def udivN (a b : Nat) : Nat := if b = 0 then 18446744073709551615 else a / b
def uremN (a b : Nat) : Nat := if b = 0 then a else a % b
set_option maxHeartbeats 4000000 in
set_option maxRecDepth 100000 in
theorem unsigned_any (a b : Nat) (w : World) (ha : a < 18446744073709551616) (hb : b < 18446744073709551616) :
    Calls Tryz.prog 131 #[.int .u64 a, .int .u64 b] w fun e w' => e = .returned (.tuple #[.int .u64 (udivN a b), .int .u64 (uremN a b)]) ∧ ∃ m, w' = w.drewN m := by
  by_cases h : b = 0
  · subst h
    go_enter Tryz.func131, Tryz.ntmps131
    go_wp2
    go_ret2
    exact ⟨rfl, 0, rfl⟩
  · have hb0 : ((b : Int) == 0) = false := by rw [beq_eq_false_iff_ne]; omega
    have Hq := hid (show IntKind.u64.wrap ((a : Int) / b) = (udivN a b : Nat) from by
      unfold udivN; rw [if_neg h, u64w, ← Int.natCast_ediv]
      have : a / b ≤ a := Nat.div_le_self _ _
      generalize a / b = q at *
      omega)
    have Hr := hid (show (a : Int) % b = (uremN a b : Nat) from by unfold uremN; rw [if_neg h]; exact (Int.natCast_emod _ _).symm)
    go_enter Tryz.func131, Tryz.ntmps131
    go_wp2
    go_region
    go_wp2
    go_ret2
    exact ⟨ret_ii Hq.out Hr.out, _, rfl⟩
/-- a number of 64 bits with its sign -/
def sgn (a : Nat) : Int := wrap64 a
/-- signed quotient and rest -/
def squoN (a b : Nat) : Nat := if b = 0 then 18446744073709551615 else u64N ((sgn a).tdiv (sgn b))
def sremN (a b : Nat) : Nat := if b = 0 then a else u64N ((sgn a).tmod (sgn b))
set_option maxHeartbeats 4000000 in
set_option maxRecDepth 100000 in
theorem quotient_any (a b : Nat) (w : World) (ha : a < 18446744073709551616) (hb : b < 18446744073709551616) :
    Calls Tryz.prog 130 #[.int .u64 a, .int .u64 b] w fun e w' => e = .returned (.tuple #[.int .u64 (squoN a b), .int .u64 (sremN a b)]) ∧ ∃ m, w' = w.drewN m := by
  by_cases h : b = 0
  · subst h
    go_enter Tryz.func130, Tryz.ntmps130
    go_wp2
    go_ret2
    exact ⟨rfl, 0, rfl⟩
  · have hb0 : ((b : Int) == 0) = false := by rw [beq_eq_false_iff_ne]; omega
    by_cases hm : b = 18446744073709551615
    · subst hm
      go_enter Tryz.func130, Tryz.ntmps130
      go_wp2
      go_ret2
      have es : sgn 18446744073709551615 = -1 := by unfold sgn wrap64; omega
      refine ⟨ret_ii ?_ ?_, 0, rfl⟩
      · unfold squoN; rw [if_neg (by omega), es, u64w]
        rw [show (sgn a).tdiv (-1) = -(sgn a) by rw [Int.tdiv_neg, Int.tdiv_one]]
        unfold u64N sgn wrap64; omega
      · unfold sremN; rw [if_neg (by omega), es, show (sgn a).tmod (-1) = 0 by rw [Int.tmod_neg, Int.tmod_one]]; rfl
    · have hb1 : ((b : Int) == 18446744073709551615) = false := by rw [beq_eq_false_iff_ne]; omega
      have hs0 : wrap64 (b : Int) ≠ 0 := by unfold wrap64; omega
      go_enter Tryz.func130, Tryz.ntmps130
      go_wp2
      go_region
      go_wp2
      go_ret2
      refine ⟨ret_ii ?_ ?_, _, rfl⟩
      · unfold squoN; rw [if_neg h, u64w]
        show wrap64 ((sgn a).tdiv (sgn b)) % _ = _
        generalize (sgn a).tdiv (sgn b) = q
        unfold u64N wrap64; omega
      · unfold sremN; rw [if_neg h, u64w]
        show ((sgn a).tmod (sgn b)) % _ = _
        generalize (sgn a).tmod (sgn b) = q
        unfold u64N; omega
end
end Go.Proofs.YtiemingpbommeaaGreatDoor

/- Package word: what each operation answers. -/
namespace Go.Proofs.YtiemingpbommeaaGreatDoor
open Go.RowKit
noncomputable section
set_option linter.unusedVariables false
set_option linter.unusedSimpArgs false
/-- high bits of a product of signed numbers -/
def highN (a b : Nat) (s t : Bool) : Nat := u64N (((a * b / 18446744073709551616 : Nat) : Int) - (if s = true ∧ sgn a < 0 then (b : Int) else 0) - (if t = true ∧ sgn b < 0 then (a : Int) else 0))
/-- the simple operations -/
def simpleN (o : Int) (a b : Nat) : Nat :=
  if o = 0 then (a + b) % 18446744073709551616 else if o = 1 then u64N ((a : Int) - b) else if o = 2 then a * 2 ^ (b % 64) % 18446744073709551616
  else if o = 3 then (if sgn a < sgn b then 1 else 0) else if o = 4 then (if a < b then 1 else 0) else if o = 5 then a ^^^ b else if o = 6 then a / 2 ^ (b % 64)
  else if o = 7 then u64N (sgn a / 2 ^ (b % 64)) else if o = 8 then a ||| b else a &&& b
theorem pow_cast (k : Nat) : ((2 ^ k : Nat) : Int) = (2 : Int) ^ k := by simp
set_option maxHeartbeats 4000000 in
set_option maxRecDepth 100000 in
theorem simple_any (o : Int) (a b : Nat) (w : World) (ha : a < 18446744073709551616) (hb : b < 18446744073709551616) :
    Calls Tryz.prog 111 #[.int .i64 o, .int .u64 a, .int .u64 b] w fun e w' => e = .returned (.int .u64 (simpleN o a b)) ∧ ∃ m, w' = w.drewN m := by
  have hsh : b % 64 < 64 := Nat.mod_lt _ (by decide)
  have hcs : o = 0 ∨ o = 1 ∨ o = 2 ∨ o = 3 ∨ o = 4 ∨ o = 5 ∨ o = 6 ∨ o = 7 ∨ o = 8 ∨ (o ≠ 0 ∧ o ≠ 1 ∧ o ≠ 2 ∧ o ≠ 3 ∧ o ≠ 4 ∧ o ≠ 5 ∧ o ≠ 6 ∧ o ≠ 7 ∧ o ≠ 8) := by omega
  rcases hcs with rfl | rfl | rfl | rfl | rfl | rfl | rfl | rfl | rfl | ⟨h0, h1, h2, h3, h4, h5, h6, h7, h8⟩
  all_goals
    go_enter Tryz.func111, Tryz.ntmps111
    go_wp2_with (first
      | (go_at_call 133; refine (truth_any _ _).mono ?_; rintro e w1 ⟨rfl, m, rfl⟩))
  all_goals go_ret
  all_goals refine ⟨ret_int ?_, by first | exact ⟨0, rfl⟩ | exact ⟨_, rfl⟩⟩
  all_goals unfold simpleN
  all_goals try simp only [*, Int.reduceEq, ↓reduceIte, if_true, if_false]
  · rw [u64w]; omega
  · rw [u64w]; unfold u64N; omega
  · rw [u64w, ← pow_cast, ← Int.natCast_mul]; exact (Int.natCast_emod _ _).symm
  · rw [if_pos (show sgn a < sgn b by unfold sgn; assumption)]; rfl
  · rw [if_neg (show ¬sgn a < sgn b by unfold sgn; omega)]; rfl
  · rfl
  · rfl
  · exact u64_xor_nat a b ha hb
  · rw [← pow_cast]; exact (Int.natCast_ediv _ _).symm
  · rw [u64w]; unfold sgn; generalize wrap64 (a : Int) / 2 ^ (b % 64) = q; unfold u64N; omega
  · exact u64_or_nat a b ha hb
  · exact u64_and_nat a b ha hb
end
end Go.Proofs.YtiemingpbommeaaGreatDoor

/- Package word: high, product, halves, Do. -/
namespace Go.Proofs.YtiemingpbommeaaGreatDoor
open Go.RowKit
noncomputable section
set_option linter.unusedVariables false
set_option linter.unusedSimpArgs false
set_option maxHeartbeats 4000000 in
set_option maxRecDepth 100000 in
theorem high_any (a b : Nat) (s t : Bool) (w : World) (ha : a < 18446744073709551616) (hb : b < 18446744073709551616) :
    Calls Tryz.prog 132 #[.int .u64 a, .int .u64 b, .bool s, .bool t] w fun e w' => e = .returned (.int .u64 (highN a b s t)) ∧ ∃ m, w' = w.drewN m := by
  cases s <;> cases t
  all_goals
    go_enter Tryz.func132, Tryz.ntmps132
    go_wp2_with (first
      | (go_at_call 154; refine (mul64_any a b _ ha hb).mono ?_; rintro e w1 ⟨rfl, m, rfl⟩))
  all_goals go_ret
  all_goals refine ⟨ret_int ?_, ⟨_, rfl⟩⟩
  all_goals
    have hB : a * b / 18446744073709551616 < 18446744073709551616 := by
      rw [Nat.div_lt_iff_lt_mul (by decide)]
      exact Nat.mul_lt_mul'' ha hb
    have hc : ((a : Int) * b / 18446744073709551616) = ((a * b / 18446744073709551616 : Nat) : Int) := by
      rw [← Int.natCast_mul]; exact (Int.natCast_ediv _ _).symm
    unfold highN
    try rw [hc]
    generalize a * b / 18446744073709551616 = q at *
    simp only [sgn, true_and, false_and, if_false, u64w, u64N, Bool.false_eq_true]
    repeat' split
    all_goals omega
/-- products and quotients -/
def productN (o : Int) (a b : Nat) : Nat :=
  if o = 10 then a * b % 18446744073709551616 else if o = 11 then highN a b true true else if o = 12 then highN a b true false else if o = 13 then highN a b false false
  else if o = 14 then squoN a b else if o = 15 then udivN a b else if o = 16 then sremN a b else uremN a b
set_option maxHeartbeats 4000000 in
set_option maxRecDepth 100000 in
theorem product_any (o : Int) (a b : Nat) (w : World) (ha : a < 18446744073709551616) (hb : b < 18446744073709551616) :
    Calls Tryz.prog 110 #[.int .i64 o, .int .u64 a, .int .u64 b] w fun e w' => e = .returned (.int .u64 (productN o a b)) ∧ ∃ m, w' = w.drewN m := by
  have hcs : o = 10 ∨ o = 11 ∨ o = 12 ∨ o = 13 ∨ o = 14 ∨ o = 15 ∨ o = 16 ∨ (o ≠ 10 ∧ o ≠ 11 ∧ o ≠ 12 ∧ o ≠ 13 ∧ o ≠ 14 ∧ o ≠ 15 ∧ o ≠ 16) := by omega
  have hq := fun W => quotient_any a b W ha hb
  have hu := fun W => unsigned_any a b W ha hb
  generalize hQ : squoN a b = sq at *
  generalize hR : sremN a b = sr at *
  generalize hU : udivN a b = uq at *
  generalize hV : uremN a b = ur at *
  rcases hcs with rfl | rfl | rfl | rfl | rfl | rfl | rfl | ⟨h0, h1, h2, h3, h4, h5, h6⟩
  all_goals
    go_enter Tryz.func110, Tryz.ntmps110
    go_wp2_with (first
      | (go_at_call 130; refine (hq _).mono ?_; rintro e w1 ⟨rfl, m1, rfl⟩)
      | (go_at_call 131; refine (hu _).mono ?_; rintro e w2 ⟨rfl, m2, rfl⟩)
      | (go_at_call 132; refine (high_any a b _ _ _ ha hb).mono ?_; rintro e w3 ⟨rfl, m3, rfl⟩))
  all_goals go_ret
  all_goals refine ⟨ret_int ?_, by first | exact ⟨_, rfl⟩ | (simp only [World.drewN_drewN]; exact ⟨_, rfl⟩)⟩
  all_goals unfold productN
  all_goals try simp only [hQ, hR, hU, hV, *, Int.reduceEq, ↓reduceIte, if_true, if_false]
  rw [u64w, ← Int.natCast_mul]; exact (Int.natCast_emod _ _).symm
end
end Go.Proofs.YtiemingpbommeaaGreatDoor

/- Package word: halves, Do. -/
namespace Go.Proofs.YtiemingpbommeaaGreatDoor
open Go.RowKit
noncomputable section
set_option linter.unusedVariables false
set_option linter.unusedSimpArgs false
/-- operations of 32 bits -/
def halvesN (o : Int) (a b : Nat) : Nat :=
  let x := lowN a; let y := lowN b; let u := a % 4294967296; let v := b % 4294967296
  if o = 18 then lowN ((x + y) % 18446744073709551616) else if o = 19 then lowN (u64N ((x : Int) - y)) else if o = 20 then lowN (x * 2 ^ (b % 32) % 18446744073709551616)
  else if o = 21 then lowN (u / 2 ^ (b % 32)) else if o = 22 then lowN (simpleN 7 x (b % 32)) else if o = 23 then lowN (x * y % 18446744073709551616)
  else if o = 24 then lowN (productN 14 x y) else if o = 25 then lowN (productN 15 u v) else if o = 26 then lowN (productN 16 x y) else lowN (productN 17 u v)
/-- what Do answers -/
def doN (o : Int) (a b : Nat) : Nat :=
  if o < 0 ∨ 28 ≤ o then 0 else if 18 ≤ o then halvesN o a b else if 10 ≤ o then productN o a b else simpleN o a b
theorem half_any (o : Int) (w : World) :
    Calls Tryz.prog 108 #[.int .i64 o] w fun e w' => e = .returned (.bool (decide (18 ≤ o ∧ o < 28))) ∧ ∃ m, w' = w.drewN m := by
  go_enter Tryz.func108, Tryz.ntmps108
  by_cases h1 : 18 ≤ o
  · go_wp2
    go_ret
    exact ⟨by simp [h1], 0, rfl⟩
  · go_wp2
    go_ret
    exact ⟨by simp; omega, 0, rfl⟩
theorem u64N_lt (i : Int) : u64N i < 18446744073709551616 := by unfold u64N; omega
theorem simpleN_lt (o : Int) (a b : Nat) (ha : a < 18446744073709551616) (hb : b < 18446744073709551616) : simpleN o a b < 18446744073709551616 := by
  unfold simpleN
  have h1 := Nat.div_le_self a (2 ^ (b % 64))
  have h2 : a ^^^ b < 2 ^ 64 := Nat.xor_lt_two_pow ha hb
  have h3 : a ||| b < 2 ^ 64 := Nat.or_lt_two_pow ha hb
  have h4 : a &&& b ≤ a := Nat.and_le_left
  have h5 := u64N_lt ((a : Int) - b)
  have h6 := u64N_lt (sgn a / 2 ^ (b % 64))
  have h7 : a * 2 ^ (b % 64) % 18446744073709551616 < 18446744073709551616 := Nat.mod_lt _ (by decide)
  generalize a * 2 ^ (b % 64) % 18446744073709551616 = q7 at *
  generalize a / 2 ^ (b % 64) = q1 at *
  repeat' split
  all_goals omega
theorem productN_lt (o : Int) (a b : Nat) (ha : a < 18446744073709551616) (hb : b < 18446744073709551616) : productN o a b < 18446744073709551616 := by
  unfold productN highN squoN udivN sremN uremN
  have h1 := Nat.div_le_self a b
  have h2 : a % b ≤ a := Nat.mod_le _ _
  have h3 : a * b % 18446744073709551616 < 18446744073709551616 := Nat.mod_lt _ (by decide)
  generalize a * b % 18446744073709551616 = q3 at *
  generalize a / b = q1 at *
  generalize a % b = q2 at *
  repeat' split
  all_goals first | omega | exact u64N_lt _
theorem simple_at (o bi : Int) (a b : Nat) (w : World) (h : bi = b) (ha : a < 18446744073709551616) (hb : b < 18446744073709551616) :
    Calls Tryz.prog 111 #[.int .i64 o, .int .u64 a, .int .u64 bi] w fun e w' => e = .returned (.int .u64 (simpleN o a b)) ∧ ∃ m, w' = w.drewN m := by
  subst h; exact simple_any o a b w ha hb
theorem product_at (o ai bi : Int) (a b : Nat) (w : World) (h' : ai = a) (h : bi = b) (ha : a < 18446744073709551616) (hb : b < 18446744073709551616) :
    Calls Tryz.prog 110 #[.int .i64 o, .int .u64 ai, .int .u64 bi] w fun e w' => e = .returned (.int .u64 (productN o a b)) ∧ ∃ m, w' = w.drewN m := by
  subst h; subst h'; exact product_any o a b w ha hb
theorem low_at (x : Int) (n : Nat) (w : World) (h : x = n) (hn : n < 18446744073709551616) :
    Calls Tryz.prog 129 #[.int .u64 x] w fun e w' => e = .returned (.int .u64 (lowN n)) ∧ ∃ m, w' = w.drewN m := by
  subst h; exact low_any n w hn
set_option maxHeartbeats 4000000 in
set_option maxRecDepth 100000 in
theorem halves_any (o : Int) (a b : Nat) (w : World) (ha : a < 18446744073709551616) (hb : b < 18446744073709551616) :
    Calls Tryz.prog 109 #[.int .i64 o, .int .u64 a, .int .u64 b] w fun e w' => e = .returned (.int .u64 (halvesN o a b)) ∧ ∃ m, w' = w.drewN m := by
  have hcs : o = 18 ∨ o = 19 ∨ o = 20 ∨ o = 21 ∨ o = 22 ∨ o = 23 ∨ o = 24 ∨ o = 25 ∨ o = 26 ∨ (o ≠ 18 ∧ o ≠ 19 ∧ o ≠ 20 ∧ o ≠ 21 ∧ o ≠ 22 ∧ o ≠ 23 ∧ o ≠ 24 ∧ o ≠ 25 ∧ o ≠ 26) := by omega
  have hx := lowN_lt a
  have hy := lowN_lt b
  have hla := fun W => low_any a W ha
  have hlb := fun W => low_any b W hb
  have hsh : b % 32 < 32 := Nat.mod_lt _ (by decide)
  unfold halvesN
  generalize lowN a = x at *
  generalize lowN b = y at *
  rcases hcs with rfl | rfl | rfl | rfl | rfl | rfl | rfl | rfl | rfl | ⟨h0, h1, h2, h3, h4, h5, h6, h7, h8⟩
  all_goals simp only [*, Int.reduceEq, ↓reduceIte, if_true, if_false]
  all_goals
    go_enter Tryz.func109, Tryz.ntmps109
    go_wp2_with fail
    refine (hla _).mono ?_
    rintro e w1 ⟨rfl, m1, rfl⟩
    go_wp2_with fail
    refine (hlb _).mono ?_
    rintro e w2 ⟨rfl, m2, rfl⟩
    go_wp2_with fail
  · refine (low_at _ ((x + y) % 18446744073709551616) _ (by rw [u64w]; omega) (Nat.mod_lt _ (by decide))).mono ?_
    rintro e w3 ⟨rfl, m3, rfl⟩
    go_wp2
    go_ret
    exact ⟨rfl, _, rfl⟩
  · refine (low_at _ (u64N ((x : Int) - y)) _ (by rw [u64w]; unfold u64N; omega) (u64N_lt _)).mono ?_
    rintro e w3 ⟨rfl, m3, rfl⟩
    go_wp2
    go_ret
    exact ⟨rfl, _, rfl⟩
  · refine (low_at _ (x * 2 ^ (b % 32) % 18446744073709551616) _ (by rw [u64w, ← pow_cast, ← Int.natCast_mul]; exact (Int.natCast_emod _ _).symm) (Nat.mod_lt _ (by decide))).mono ?_
    rintro e w3 ⟨rfl, m3, rfl⟩
    go_wp2
    go_ret
    exact ⟨rfl, _, rfl⟩
  · refine (low_at _ (a % 4294967296 / 2 ^ (b % 32)) _ (by rw [← pow_cast, show ((a : Int) % 4294967296) = ((a % 4294967296 : Nat) : Int) by omega]; exact (Int.natCast_ediv _ _).symm) (Nat.lt_of_le_of_lt (Nat.div_le_self _ _) (by omega))).mono ?_
    rintro e w3 ⟨rfl, m3, rfl⟩
    go_wp2
    go_ret
    exact ⟨rfl, _, rfl⟩
  · refine (simple_at 7 _ x (b % 32) _ (by omega) hx (by omega)).mono ?_
    rintro e w3 ⟨rfl, m3, rfl⟩
    go_wp2_with fail
    refine (low_at _ (simpleN 7 x (b % 32)) _ rfl (simpleN_lt _ _ _ hx (by omega))).mono ?_
    rintro e w4 ⟨rfl, m4, rfl⟩
    go_wp2
    go_ret
    exact ⟨rfl, _, rfl⟩
  · refine (low_at _ (x * y % 18446744073709551616) _ (by rw [u64w, ← Int.natCast_mul]; exact (Int.natCast_emod _ _).symm) (Nat.mod_lt _ (by decide))).mono ?_
    rintro e w3 ⟨rfl, m3, rfl⟩
    go_wp2
    go_ret
    exact ⟨rfl, _, rfl⟩
  · refine (product_at 14 _ _ x y _ rfl rfl hx hy).mono ?_
    rintro e w3 ⟨rfl, m3, rfl⟩
    go_wp2_with fail
    refine (low_at _ (productN 14 x y) _ rfl (productN_lt _ _ _ hx hy)).mono ?_
    rintro e w4 ⟨rfl, m4, rfl⟩
    go_wp2
    go_ret
    exact ⟨rfl, _, rfl⟩
  · refine (product_at 15 _ _ (a % 4294967296) (b % 4294967296) _ (by omega) (by omega) (by omega) (by omega)).mono ?_
    rintro e w3 ⟨rfl, m3, rfl⟩
    go_wp2_with fail
    refine (low_at _ (productN 15 (a % 4294967296) (b % 4294967296)) _ rfl (productN_lt _ _ _ (by omega) (by omega))).mono ?_
    rintro e w4 ⟨rfl, m4, rfl⟩
    go_wp2
    go_ret
    exact ⟨rfl, _, rfl⟩
  · refine (product_at 16 _ _ x y _ rfl rfl hx hy).mono ?_
    rintro e w3 ⟨rfl, m3, rfl⟩
    go_wp2_with fail
    refine (low_at _ (productN 16 x y) _ rfl (productN_lt _ _ _ hx hy)).mono ?_
    rintro e w4 ⟨rfl, m4, rfl⟩
    go_wp2
    go_ret
    exact ⟨rfl, _, rfl⟩
  · refine (product_at 17 _ _ (a % 4294967296) (b % 4294967296) _ (by omega) (by omega) (by omega) (by omega)).mono ?_
    rintro e w3 ⟨rfl, m3, rfl⟩
    go_wp2_with fail
    refine (low_at _ (productN 17 (a % 4294967296) (b % 4294967296)) _ rfl (productN_lt _ _ _ (by omega) (by omega))).mono ?_
    rintro e w4 ⟨rfl, m4, rfl⟩
    go_wp2
    go_ret
    exact ⟨rfl, _, rfl⟩
theorem halvesN_lt (o : Int) (a b : Nat) : halvesN o a b < 18446744073709551616 := by
  unfold halvesN
  dsimp only
  repeat' split
  all_goals exact lowN_lt _
theorem doN_lt (o : Int) (a b : Nat) (ha : a < 18446744073709551616) (hb : b < 18446744073709551616) : doN o a b < 18446744073709551616 := by
  unfold doN
  repeat' split
  · omega
  · exact halvesN_lt _ _ _
  · exact productN_lt _ _ _ ha hb
  · exact simpleN_lt _ _ _ ha hb
theorem half_at (o : Int) (v : Bool) (h : decide (18 ≤ o ∧ o < 28) = v) (w : World) :
    Calls Tryz.prog 108 #[.int .i64 o] w fun e w' => e = .returned (.bool v) ∧ ∃ m, w' = w.drewN m := by
  subst h; exact half_any o w
set_option maxHeartbeats 4000000 in
set_option maxRecDepth 100000 in
theorem do_any (o : Int) (a b : Nat) (w : World) (ha : a < 18446744073709551616) (hb : b < 18446744073709551616) :
    Calls Tryz.prog 80 #[.int .i64 o, .int .u64 a, .int .u64 b] w fun e w' => e = .returned (.int .u64 (doN o a b)) ∧ ∃ m, w' = w.drewN m := by
  by_cases h0 : o < 0
  · have hv : doN o a b = 0 := by unfold doN; rw [if_pos (Or.inl h0)]
    rw [hv]
    go_enter Tryz.func80, Tryz.ntmps80
    go_wp2_with fail
    go_ret
    exact ⟨rfl, 0, rfl⟩
  · by_cases h28 : 28 ≤ o
    · have hv : doN o a b = 0 := by unfold doN; rw [if_pos (Or.inr h28)]
      rw [hv]
      have h0' : 0 ≤ o := by omega
      clear h0
      go_enter Tryz.func80, Tryz.ntmps80
      go_wp2_with fail
      go_ret
      exact ⟨rfl, 0, rfl⟩
    · have h0' : 0 ≤ o := by omega
      have h28' : o < 28 := by omega
      by_cases h18 : 18 ≤ o
      · have hv : doN o a b = halvesN o a b := by unfold doN; rw [if_neg (by omega), if_pos h18]
        rw [hv]
        clear h0 h28
        go_enter Tryz.func80, Tryz.ntmps80
        go_wp2_with fail
        refine (half_at o true (by simp; omega) _).mono ?_
        rintro e w1 ⟨rfl, m1, rfl⟩
        go_wp2_with fail
        refine (halves_any o a b _ ha hb).mono ?_
        rintro e w2 ⟨rfl, m2, rfl⟩
        go_wp2
        go_ret
        exact ⟨rfl, _, rfl⟩
      · have h18' : o < 18 := by omega
        by_cases h10 : 10 ≤ o
        · have hv : doN o a b = productN o a b := by unfold doN; rw [if_neg (by omega), if_neg h18, if_pos h10]
          rw [hv]
          clear h0 h28 h18
          go_enter Tryz.func80, Tryz.ntmps80
          go_wp2_with fail
          refine (half_at o false (by simp; omega) _).mono ?_
          rintro e w1 ⟨rfl, m1, rfl⟩
          go_wp2_with fail
          refine (product_any o a b _ ha hb).mono ?_
          rintro e w2 ⟨rfl, m2, rfl⟩
          go_wp2
          go_ret
          exact ⟨rfl, _, rfl⟩
        · have hv : doN o a b = simpleN o a b := by unfold doN; rw [if_neg (by omega), if_neg h18, if_neg h10]
          have h10' : o < 10 := by omega
          rw [hv]
          clear h0 h28 h18 h10
          go_enter Tryz.func80, Tryz.ntmps80
          go_wp2_with fail
          refine (half_at o false (by simp; omega) _).mono ?_
          rintro e w1 ⟨rfl, m1, rfl⟩
          go_wp2_with fail
          refine (simple_any o a b _ ha hb).mono ?_
          rintro e w2 ⟨rfl, m2, rfl⟩
          go_wp2
          go_ret
          exact ⟨rfl, _, rfl⟩
end
end Go.Proofs.YtiemingpbommeaaGreatDoor

/- The processor's small functions. -/
namespace Go.Proofs.YtiemingpbommeaaGreatDoor
open Go Go.RowKit
noncomputable section
set_option linter.unusedVariables false
set_option linter.unusedSimpArgs false
theorem getD_out {α : Type} (l : List α) (i : Nat) (d : α) (h : l.length ≤ i) : l.getD i d = d := by simp [List.getD, List.getElem?_eq_none h]
/-- a state's cells -/
def stCells (X : List Nat) (pc : Nat) : Array Value := (List.map (fun n : Nat => Value.int .u64 (n : Int)) X ++ [Value.int .u64 (pc : Int)] : List Value).toArray
/-- a state in memory -/
def StIs (w : World) (g : Nat) (X : List Nat) (pc : Nat) : Prop := w.heap[g]? = some (.cells (stCells X pc) 36 (0, 0))
/-- registers are 32, of 64 bits -/
structure Regs (X : List Nat) : Prop where
  len : X.length = 32
  lt : ∀ n ∈ X, n < 18446744073709551616
def setR (X : List Nat) (r : Nat) (n : Nat) : List Nat := if 0 < r then X.set r n else X
def getR (X : List Nat) (r : Nat) : Nat := X.getD r 0
theorem Regs.set {X : List Nat} (h : Regs X) (r n : Nat) (hn : n < 18446744073709551616) : Regs (X.set r n) :=
  ⟨by rw [List.length_set]; exact h.len, fun k hk => by
    rcases List.mem_or_eq_of_mem_set hk with hk | rfl
    · exact h.lt k hk
    · exact hn⟩
theorem Regs.setR {X : List Nat} (h : Regs X) (r n : Nat) (hn : n < 18446744073709551616) : Regs (setR X r n) := by
  unfold Go.Proofs.YtiemingpbommeaaGreatDoor.setR; split
  · exact h.set r n hn
  · exact h
theorem Regs.get {X : List Nat} (h : Regs X) (r : Nat) : getR X r < 18446744073709551616 := by
  unfold getR
  by_cases hr : r < X.length
  · rw [getD_at _ _ _ hr]; exact h.lt _ (List.getElem_mem hr)
  · rw [getD_out _ _ _ (by omega)]; decide
theorem stCells_get {X : List Nat} (h : Regs X) (pc r : Nat) (hr : r < 32) : (stCells X pc)[r]? = some (.int .u64 (getR X r)) := by
  have hl := h.len
  unfold stCells getR
  rw [List.getElem?_toArray, List.getElem?_append_left (by simp; omega), List.getElem?_map, List.getElem?_eq_getElem (by omega), getD_at _ _ _ (by omega)]
  rfl
theorem stCells_pc {X : List Nat} (h : Regs X) (pc : Nat) : (stCells X pc)[32]? = some (.int .u64 pc) := by
  have hl := h.len
  unfold stCells
  rw [List.getElem?_toArray, List.getElem?_append_right (by simp; omega)]
  simp [hl]
theorem stCells_set {X : List Nat} (h : Regs X) (pc r n : Nat) (hr : r < 32) : (stCells X pc).setIfInBounds r (.int .u64 n) = stCells (X.set r n) pc := by
  have hl := h.len
  unfold stCells
  rw [List.setIfInBounds_toArray, List.set_append_left _ _ (by simp; omega), List.map_set]
theorem stCells_setpc {X : List Nat} (h : Regs X) (pc n : Nat) : (stCells X pc).setIfInBounds 32 (.int .u64 n) = stCells X n := by
  have hl := h.len
  unfold stCells
  rw [List.setIfInBounds_toArray, List.set_append_right _ _ (by simp; omega)]
  simp [hl]
theorem StIs.cell {w : World} {g : Nat} {X : List Nat} {pc : Nat} (h : StIs w g X pc) (hX : Regs X) {r : Nat} (hr : r < 32) : w.cell? ⟨g, r, none⟩ = some (.int .u64 (getR X r)) := by
  rw [cell_of_row w g r _ _ _ h]; exact stCells_get hX pc r hr
theorem StIs.cellPc {w : World} {g : Nat} {X : List Nat} {pc : Nat} (h : StIs w g X pc) (hX : Regs X) : w.cell? ⟨g, 32, none⟩ = some (.int .u64 pc) := by
  rw [cell_of_row w g 32 _ _ _ h]; exact stCells_pc hX pc
theorem StIs.set {w : World} {g : Nat} {X : List Nat} {pc : Nat} (h : StIs w g X pc) (hX : Regs X) {r : Nat} (hr : r < 32) (n : Nat) : StIs (w.setCell ⟨g, r, none⟩ (.int .u64 n)) g (X.set r n) pc := by
  unfold StIs
  rw [heap_setCell_same _ _ _ _ _ _ h, stCells_set hX pc r n hr]
theorem StIs.setPc {w : World} {g : Nat} {X : List Nat} {pc : Nat} (h : StIs w g X pc) (hX : Regs X) (n : Nat) : StIs (w.setCell ⟨g, 32, none⟩ (.int .u64 n)) g X n := by
  unfold StIs
  rw [heap_setCell_same _ _ _ _ _ _ h, stCells_setpc hX pc n]
set_option maxHeartbeats 1000000 in
set_option maxRecDepth 100000 in
theorem set_any (g : Nat) (X : List Nat) (pc r n : Nat) (w : World) (hS : StIs w g X pc) (hX : Regs X) (hr : r < 32) :
    Calls Tryz.prog 74 #[.pointer (some ⟨g, 0, none⟩), .int .i64 r, .int .u64 n] w fun e w' => e = .returned (.tuple #[]) ∧ StIs w' g (setR X r n) pc ∧ Keep [g] w w' := by
  have HX := hid hX
  have HS := hid hS
  have hc := hS.cell hX hr
  have hfz := frozen_of_row w _ r _ _ hS
  clear hX hS
  go_enter Tryz.func74, Tryz.ntmps74
  go_wp2
  · go_end0
    refine ⟨rfl, ?_, (Keep.refl _ _).setCell _ _ (.inr (by simp))⟩
    unfold setR; rw [if_pos (by assumption)]; exact HS.out.set HX.out hr n
  · go_end0
    refine ⟨rfl, ?_, Keep.refl _ _⟩
    unfold setR; rw [if_neg (by assumption)]; exact HS.out
set_option maxHeartbeats 1000000 in
set_option maxRecDepth 100000 in
theorem event_any (o : Int) (w : World) :
    Calls Tryz.prog 36 #[.int .i64 o] w fun e w' => e = .returned (.int .i64 (if o = 62 then 1 else if o = 63 then 2 else 0)) ∧ w' = w := by
  go_enter Tryz.func36, Tryz.ntmps36
  go_wp2
  all_goals go_ret
  all_goals exact ⟨by simp_all, rfl⟩
/-- a load's or a store's width, and whether a load is extended -/
def widthN (o : Int) : Nat × Bool :=
  if o = 10 ∨ o = 17 then (1, true) else if o = 11 ∨ o = 18 then (2, true) else if o = 12 ∨ o = 19 then (4, true) else if o = 14 then (1, false) else if o = 15 then (2, false) else if o = 16 then (4, false) else (8, false)
set_option maxHeartbeats 1000000 in
set_option maxRecDepth 100000 in
theorem width_any (o : Int) (w : World) :
    Calls Tryz.prog 77 #[.int .i64 o] w fun e w' => e = .returned (.tuple #[.int .i64 (widthN o).1, .bool (widthN o).2]) ∧ w' = w := by
  go_enter Tryz.func77, Tryz.ntmps77
  go_wp2
  all_goals go_ret2
  all_goals exact ⟨by simp_all [widthN], rfl⟩
end
end Go.Proofs.YtiemingpbommeaaGreatDoor

/- The processor: a jump, a branch. -/
namespace Go.Proofs.YtiemingpbommeaaGreatDoor
open Go Go.RowKit
noncomputable section
set_option linter.unusedVariables false
set_option linter.unusedSimpArgs false
theorem StIs.kept {w w' : World} {S : List Nat} {g : Nat} {X : List Nat} {pc : Nat} (h : StIs w g X pc) (hk : Keep S w w') (hg : g ∉ S) : StIs w' g X pc := hk.row h hg
theorem StIs.below {w w' : World} {g : Nat} {X : List Nat} {pc : Nat} (h : StIs w g X pc) (hk : Below w.heap.size w w') : StIs w' g X pc := h.kept (S := []) (Keep.of_below hk) (by simp)
theorem StIs.lt {w : World} {g : Nat} {X : List Nat} {pc : Nat} (h : StIs w g X pc) : g < w.heap.size := blk_lt' h
set_option maxHeartbeats 1000000 in
set_option maxRecDepth 100000 in
theorem jump_no (g : Nat) (X : List Nat) (pc t : Nat) (w : World) (hS : StIs w g X pc) (hX : Regs X) (ht : t < 18446744073709551616) (h4 : t % 4 ≠ 0) :
    Calls Tryz.prog 73 #[.pointer (some ⟨g, 0, none⟩), .int .u64 t] w fun e w' => e = .returned (fltV 13 t) ∧ StIs w' g X pc ∧ Keep [g] w w' := by
  have HX := hid hX
  have HS := hid hS
  have hm : ¬ ((t : Int) % 4 = 0) := by omega
  clear hX hS
  go_enter Tryz.func73, Tryz.ntmps73
  go_wp2_with fail
  refine (failAt_any _ _ _).mono ?_
  rintro e w1 ⟨rfl, hb⟩
  have N1 := (hb.block w.heap.size (by simp)).trans (heap_alloc_new w (.cells #[.int .i64 0, .int .u64 0, .string ⟨#[]⟩] 31))
  have HB1 : Below w.heap.size w w1 := ((Below.refl w.heap.size w).alloc (Nat.le_refl _) _).trans (hb.mono (by simp))
  go_wp2_with (refine wpList_store_row rfl 31 (.tmp 4) (.tmp 9) rfl w.heap.size _ rfl rfl 31 _ N1 infoFault rfl (faultRow_one ..) ?_)
  refine bodyPost_ret (results_cell_row rfl _ _ w.heap.size 31 _ (0, 0) _ rfl (setRow_heap _ _ _ _ _ _ N1) Tryz.underlying31 rfl infoFault) rfl ?_
  have hB := below_setRow HB1 (Nat.le_refl _) #[.int .i64 13, .int .u64 t, .string ⟨#[]⟩]
  exact ⟨rfl, HS.out.below hB, Keep.of_below hB⟩
set_option maxHeartbeats 1000000 in
set_option maxRecDepth 100000 in
theorem jump_yes (g : Nat) (X : List Nat) (pc t : Nat) (w : World) (hS : StIs w g X pc) (hX : Regs X) (ht : t < 18446744073709551616) (h4 : t % 4 = 0) :
    Calls Tryz.prog 73 #[.pointer (some ⟨g, 0, none⟩), .int .u64 t] w fun e w' => e = .returned (fltV 0 0) ∧ StIs w' g X t ∧ Keep [g] w w' := by
  have HX := hid hX
  have HS := hid hS
  have hm : (t : Int) % 4 = 0 := by omega
  have hgl := hS.lt
  have hgn : g ≠ w.heap.size := by omega
  have hc := hS.cellPc hX
  have hfz := frozen_of_row w _ 32 _ _ hS
  clear hX hS
  go_enter Tryz.func73, Tryz.ntmps73
  go_wp2_with fail
  have hh := heap_alloc_new (w.setCell ⟨g, 32, none⟩ (.int .u64 t)) (.cells #[.int .i64 0, .int .u64 0, .string ⟨#[]⟩] 31)
  rw [show (w.setCell ⟨g, 32, none⟩ (.int .u64 t)).heap.size = w.heap.size by simp [World.setCell]] at hh
  refine bodyPost_ret (results_cell_row rfl _ _ w.heap.size 31 _ (0, 0) _ rfl hh Tryz.underlying31 rfl infoFault) rfl ?_
  exact ⟨rfl, (HS.out.setPc HX.out t).below ((Below.refl _ _).alloc (Nat.le_refl _) _), ((Keep.refl _ _).setCell _ _ (.inr (by simp))).alloc _⟩
theorem natEq (a b : Nat) : ((a : Int) == (b : Int)) = (a == b) := by
  rw [Bool.eq_iff_iff, beq_iff_eq, beq_iff_eq]
  omega
theorem natNe (a b : Nat) : ((a : Int) != (b : Int)) = (a != b) := by simp only [bne, natEq]
/-- is a branch taken? -/
def takenN (o : Int) (a b : Nat) : Bool :=
  if o = 4 then a == b else if o = 5 then a != b else if o = 6 then doN 3 a b == 1 else if o = 7 then doN 3 a b == 0 else if o = 8 then decide (a < b) else decide (b ≤ a)
set_option maxHeartbeats 2000000 in
set_option maxRecDepth 100000 in
theorem taken_any (o : Int) (a b : Nat) (w : World) (ha : a < 18446744073709551616) (hb : b < 18446744073709551616) :
    Calls Tryz.prog 75 #[.int .i64 o, .int .u64 a, .int .u64 b] w fun e w' => e = .returned (.bool (takenN o a b)) ∧ ∃ m, w' = w.drewN m := by
  have hlt := doN_lt 3 a b ha hb
  obtain ⟨d, hd⟩ : ∃ d, doN 3 a b = d := ⟨_, rfl⟩
  have Hd := hid (do_any 3 a b)
  rw [hd] at Hd hlt
  have t6 : takenN 6 a b = ((d : Int) == 1) := by simp only [takenN, hd]; exact (natEq d 1).symm
  have t7 : takenN 7 a b = ((d : Int) == 0) := by simp only [takenN, hd]; exact (natEq d 0).symm
  go_enter Tryz.func75, Tryz.ntmps75
  by_cases h6 : o = 6
  · subst h6
    go_wp2_with fail
    refine (Hd.out _ ha hb).mono ?_
    rintro e w1 ⟨rfl, m, rfl⟩
    go_wp2_with fail
    go_ret
    exact ⟨by rw [t6]; rfl, m, rfl⟩
  · by_cases h7 : o = 7
    · subst h7
      go_wp2_with fail
      refine (Hd.out _ ha hb).mono ?_
      rintro e w1 ⟨rfl, m, rfl⟩
      go_wp2_with fail
      go_ret
      exact ⟨by rw [t7]; rfl, m, rfl⟩
    · go_wp2_with fail
      all_goals go_ret
      all_goals refine ⟨?_, 0, rfl⟩
      all_goals simp_all [takenN, natEq, natNe]
end
end Go.Proofs.YtiemingpbommeaaGreatDoor
