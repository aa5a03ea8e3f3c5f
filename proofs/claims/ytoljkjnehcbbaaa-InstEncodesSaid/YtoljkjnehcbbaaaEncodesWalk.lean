/- InstEncodes: the walk. -/
import Derived.Test.YtoljkjnehcbbaaaRefMay
import Derived.Test.YtoljkjnehcbbaaaDecodesWalk
namespace Go.Proofs.Ytoljkjnehcbbaaa
open Go.RowKit
noncomputable section
set_option linter.unusedVariables false
set_option linter.unusedSimpArgs false

set_option maxHeartbeats 4000000 in
set_option maxRecDepth 100000 in
theorem encodes_any (o d a b n : Int) (w : World) :
    Calls Try.prog 4 #[.agg #[.int .i64 o, .int .i64 d, .int .i64 a, .int .i64 b, .int .i64 n]] w
      fun e w' => e = .returned (.bool true) ∧ Below w.heap.size w w' := by
  have hmay := enc_may o d a b n
  have hzero : (encV o d a b n).2 = false → (encV o d a b n).1 = 0 := by
    unfold encV; split
    · intro h; cases h
    · intro _; rfl
  have hdec : (encV o d a b n).2 = true → decN (encV o d a b n).1 = ((o, d, a, b, n), true) := encV_ok o d a b n
  have hlt : (encV o d a b n).1 < 4294967296 := by
    unfold encV
    split
    · exact encN_lt o d a b n
    · decide
  rcases hE : encV o d a b n with ⟨x, ok⟩
  rw [hE] at hmay hzero hdec hlt
  simp only at hmay hzero hdec hlt
  have HE := hid hE
  have Hmay := hid hmay
  have Hzero := hid hzero
  have Hdec := hid hdec
  clear hE hmay hzero hdec
  go_enter Try.func4, Try.ntmps4
  go_wp2_with fail
  refine (speaks_any _).mono ?_
  rintro e w1 ⟨rfl, hb1⟩
  obtain ⟨hc1, hf1⟩ := bcell hb1
  go_wp2_with fail
  refine (encode_at _ _ _ _ _ _ _ HE.out _).mono ?_
  rintro e w2 ⟨rfl, hb2⟩
  obtain ⟨hc2, hf2⟩ := bcell hb2
  have hs1 : w.heap.size < w1.heap.size := by have := hb1.size; simp at this; omega
  go_wp2_with fail
  refine (refMay_any o d a b n ok Hmay.out _).mono ?_
  rintro e w3 ⟨rfl, hb3⟩
  obtain ⟨hc3, hf3⟩ := bcell hb3
  have hs2 : w.heap.size < w2.heap.size := by have := hb2.size; simp at this; omega
  have HB : Below w.heap.size w w3 := ((Below.refl _ _).alloc (Nat.le_refl _) _).trans ((hb1.mono (by simp)).trans ((((Below.refl _ _).alloc (Nat.le_refl _) _).mono (by omega)).trans ((hb2.mono (by simp; omega)).trans (hb3.mono (by omega)))))
  have hs3 : w.heap.size < w3.heap.size := by have := hb3.size; omega
  clear hb1 hb2 hb3
  cases ok
  · obtain rfl := Hzero.out rfl
    go_wp2
    go_ret
    exact ⟨rfl, HB⟩
  · have HD := hid (Hdec.out rfl)
    go_wp2_with fail
    refine (refDecode_at x _ _ _ _ _ _ hlt HD.out _).mono ?_
    rintro e w4 ⟨rfl, hb4⟩
    obtain ⟨hc4, hf4⟩ := bcell hb4
    have hs4 : w.heap.size < w4.heap.size := by have := hb4.size; omega
    have HB4 : Below w.heap.size w w4 := HB.trans (hb4.mono (by omega))
    clear hb4
    go_wp2
    go_ret
    exact ⟨by simp, HB4.alloc (by omega) _⟩
end
end Go.Proofs.Ytoljkjnehcbbaaa
