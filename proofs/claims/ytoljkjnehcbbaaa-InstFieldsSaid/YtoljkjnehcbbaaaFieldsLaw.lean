/- InstFields: the walk. -/
import Derived.Test.YtoljkjnehcbbaaaFieldsWalk
namespace Go.Proofs.Ytoljkjnehcbbaaa
open Go.RowKit
noncomputable section
set_option linter.unusedVariables false
set_option linter.unusedSimpArgs false

theorem table_letters : table.all (fun r => decide (0 ≤ r.2.1) && decide (r.2.1 < 256)) = true := by decide +kernel
theorem letterI_byte (o : Int) : 0 ≤ letterI o ∧ letterI o < 256 := by
  unfold letterI
  split
  · rename_i h
    have := List.all_eq_true.1 table_letters _ (formAt_mem o.toNat (by omega))
    simpa using this
  · omega

theorem i64_and31 (n : Int) : bits .and .i64 n 31 = n % 32 := by
  have key : (BitVec.ofInt 64 n &&& BitVec.ofInt 64 31).toNat = (n % 32).toNat := by
    have h31 : (BitVec.ofInt 64 31).toNat = 2 ^ 5 - 1 := by decide
    rw [BitVec.toNat_and, BitVec.toNat_ofInt, h31, Nat.and_two_pow_sub_one_eq_mod]
    omega
  show IntKind.i64.wrap ((BitVec.ofInt 64 n &&& BitVec.ofInt 64 31).toNat : Int) = n % 32
  rw [key]
  rw [IntKind.wrap_i64]
  omega
theorem u32_and31 (x : Nat) (hx : x < 4294967296) : bits .and .u32 ((x : Int) / 128) 31 = ((x / 128 % 32 : Nat) : Int) := by
  rw [show (x : Int) / 128 = ((x / 128 : Nat) : Int) by omega]
  have := u32_and_nat (x / 128) 31 (by omega) (by omega)
  rw [nat_mask5] at this
  exact this

set_option maxHeartbeats 4000000 in
set_option maxRecDepth 100000 in
theorem fields_any (o d a b n rd : Int) (w : World) :
    Calls Try.prog 6 #[.agg #[.int .i64 o, .int .i64 d, .int .i64 a, .int .i64 b, .int .i64 n], .int .i64 rd] w
      fun e w' => e = .returned (.bool true) ∧ Below w.heap.size w w' := by
  rcases hE : encV o d a b n with ⟨x, ok⟩
  have HE := hid hE
  go_enter Try.func6, Try.ntmps6
  go_wp2_with fail
  refine (speaks_any _).mono ?_
  rintro e w1 ⟨rfl, hb1⟩
  obtain ⟨hc1, hf1⟩ := bcell hb1
  go_wp2_with fail
  refine (encode_at _ _ _ _ _ _ _ HE.out _).mono ?_
  rintro e w2 ⟨rfl, hb2⟩
  obtain ⟨hc2, hf2⟩ := bcell hb2
  have hs1 : w.heap.size < w1.heap.size := by have := hb1.size; simp at this; omega
  go_wp2_with fail
  refine (form_any _ _).mono ?_
  rintro e w3 ⟨rfl, hb3⟩
  obtain ⟨hc3, hf3⟩ := bcell hb3
  have hs2 : w.heap.size < w2.heap.size := by have := hb2.size; simp at this; omega
  have hs2' : w1.heap.size < w2.heap.size := by have := hb2.size; simp at this; omega
  have HB : Below w.heap.size w w3 := ((Below.refl _ _).alloc (Nat.le_refl _) _).trans ((hb1.mono (by simp)).trans ((((Below.refl _ _).alloc (Nat.le_refl _) _).mono (by omega)).trans ((hb2.mono (by simp; omega)).trans (hb3.mono (by omega)))))
  have hs3 : w2.heap.size ≤ w3.heap.size := hb3.size
  have hd : ok = true → decN x = ((o, d, a, b, n), true) := fun h => by have := encV_ok o d a b n (by rw [hE]; exact h); rwa [hE] at this
  have hlt : x < 4294967296 := by have := congrArg Prod.fst hE; unfold encV at this; split at this; · have := encN_lt o d a b n; omega
                                  · omega
  have Hd := hid hd
  clear hE hd hb1 hb2 hb3
  have hbyte : 0 ≤ letterI o ∧ letterI o < 256 := letterI_byte o
  cases ok
  · go_wp2
    go_ret
    exact ⟨rfl, HB⟩
  · by_cases h66 : letterI o = 66
    · have e66 := h66
      go_wp2
      go_ret
      exact ⟨rfl, HB⟩
    · by_cases h83 : letterI o = 83
      · go_wp2
        go_ret
        exact ⟨rfl, HB⟩
      · by_cases h78 : letterI o = 78
        · go_wp2
          go_ret
          exact ⟨rfl, HB⟩
        · have h66b : (letterI o == 66) = false := by rw [beq_eq_false_iff_ne]; exact h66
          have h83b : (letterI o == 83) = false := by rw [beq_eq_false_iff_ne]; exact h83
          have h78b : (letterI o == 78) = false := by rw [beq_eq_false_iff_ne]; exact h78
          have hD := Hd.out rfl
          have hd0 : (rd % 32).toNat < 32 := by omega
          obtain ⟨hfd, hput⟩ := dec_put x (rd % 32).toNat o d a b n hlt hd0 hD h66 h83 h78
          have hE2 : encV o (rd % 32) a b n = (put7 x (rd % 32).toNat, true) := dec_enc _ _ _ _ _ _ (put7_lt x _ hlt hd0) (by rw [hput, show (((rd % 32).toNat : Nat) : Int) = rd % 32 by omega])
          have HE2 := hid hE2
          have hne : (wrap64 (bits BinOp.and IntKind.u32 (↑x / 128) 31) != d) = false := by
            rw [u32_and31 x hlt, hfd]
            rw [show wrap64 ((x / 128 % 32 : Nat) : Int) = ((x / 128 % 32 : Nat) : Int) by unfold wrap64; omega]
            simp
          have HD := hid hD
          clear hD hfd hput hE2
          go_wp2_with fail
          refine (encode_at _ _ _ _ _ (put7 x (rd % 32).toNat) true (by rw [i64_and31]; exact HE2.out) _).mono ?_
          rintro e w4 ⟨rfl, hb4⟩
          obtain ⟨hc4, hf4⟩ := bcell hb4
          have hs4 := hb4.size
          have HB4 : Below w.heap.size w w4 := HB.trans ((((Below.refl _ _).alloc (Nat.le_refl _) _).mono (by omega)).trans (hb4.mono (by simp; omega)))
          clear hb4
          have hfin : bits BinOp.or IntKind.u32 (bits BinOp.andNot IntKind.u32 (↑x) 3968) (bits BinOp.and IntKind.i64 rd 31 % 4294967296 * 128 % 4294967296) = (put7 x (rd % 32).toNat : Nat) := by
            rw [i64_and31, ← put7_bits x (rd % 32).toNat hlt hd0]
            congr 1
            omega
          have HF := hid hfin
          clear hfin
          go_wp2_with fail
          go_ret
          rw [HF.out]
          exact ⟨by simp, HB4⟩
end
end Go.Proofs.Ytoljkjnehcbbaaa
