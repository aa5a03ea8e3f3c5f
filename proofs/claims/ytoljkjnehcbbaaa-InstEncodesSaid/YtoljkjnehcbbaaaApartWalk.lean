/- InstApart: the walk. -/
import Derived.Test.YtoljkjnehcbbaaaSpeaks
namespace Go.Proofs.Ytoljkjnehcbbaaa
open Go.RowKit
noncomputable section
set_option linter.unusedVariables false
set_option linter.unusedSimpArgs false

theorem encV_ok (o d a b n : Int) (h : (encV o d a b n).2 = true) : decN (encV o d a b n).1 = ((o, d, a, b, n), true) := by
  unfold encV at *
  split at h
  · rename_i hc; rw [if_pos hc]; exact hc.2.2
  · cases h

set_option maxHeartbeats 4000000 in
set_option maxRecDepth 100000 in
theorem apart_any (o d a b n o' d' a' b' n' : Int) (w : World) :
    Calls Try.prog 5 #[.agg #[.int .i64 o, .int .i64 d, .int .i64 a, .int .i64 b, .int .i64 n], .agg #[.int .i64 o', .int .i64 d', .int .i64 a', .int .i64 b', .int .i64 n']] w
      fun e w' => e = .returned (.bool true) ∧ Below w.heap.size w w' := by
  rcases hE : encV o d a b n with ⟨x, ok⟩
  rcases hE' : encV o' d' a' b' n' with ⟨x', ok'⟩
  have HE := hid hE
  have HE' := hid hE'
  have hd : ok = true → decN x = ((o, d, a, b, n), true) := fun h => by have := encV_ok o d a b n (by rw [hE]; exact h); rwa [hE] at this
  have hd' : ok' = true → decN x' = ((o', d', a', b', n'), true) := fun h => by have := encV_ok o' d' a' b' n' (by rw [hE']; exact h); rwa [hE'] at this
  have hxx : o = o' ∧ d = d' ∧ a = a' ∧ b = b' ∧ n = n' → x = x' := fun ⟨h1, h2, h3, h4, h5⟩ => by
    subst h1; subst h2; subst h3; subst h4; subst h5
    exact (Prod.mk.inj (hE.symm.trans hE')).1
  have hinj : ok = true → ok' = true → x = x' → o = o' ∧ d = d' ∧ a = a' ∧ b = b' ∧ n = n' := fun h h' e => by
    have := (hd h).symm.trans (e ▸ hd' h')
    simpa using this
  have Hinj := hid hinj
  have Hxx := hid hxx
  clear hE hE' hd hd' hinj hxx
  go_enter Try.func5, Try.ntmps5
  go_wp2_with fail
  refine (speaks_any _).mono ?_
  rintro e w1 ⟨rfl, hb1⟩
  obtain ⟨hc1, hf1⟩ := bcell hb1
  go_wp2_with fail
  refine (encode_at _ _ _ _ _ _ _ HE.out _).mono ?_
  rintro e w2 ⟨rfl, hb2⟩
  obtain ⟨hc2, hf2⟩ := bcell hb2
  have hs1 : w.heap.size + 1 < w1.heap.size := by have := hb1.size; simp at this; omega
  have hs1' : w.heap.size < w1.heap.size := by omega
  go_wp2_with fail
  refine (encode_at _ _ _ _ _ _ _ HE'.out _).mono ?_
  rintro e w3 ⟨rfl, hb3⟩
  obtain ⟨hc3, hf3⟩ := bcell hb3
  have hs2 : w.heap.size + 1 < w2.heap.size := by have := hb2.size; omega
  have hs2' : w.heap.size < w2.heap.size := by omega
  have HB : Below w.heap.size w w3 := (((Below.refl _ _).alloc (Nat.le_refl _) _).alloc (by simp) _).trans ((hb1.mono (by simp; omega)).trans ((hb2.mono (by omega)).trans (hb3.mono (by omega))))
  clear hb1 hb2 hb3
  cases ok
  · go_wp2
    go_ret
    exact ⟨rfl, HB⟩
  · cases ok'
    · go_wp2
      go_ret
      exact ⟨rfl, HB⟩
    · by_cases hq : o = o' ∧ d = d' ∧ a = a' ∧ b = b' ∧ n = n'
      · have hx := Hxx.out hq
        obtain ⟨rfl, rfl, rfl, rfl, rfl⟩ := hq
        subst hx
        go_wp2
        go_ret
        exact ⟨rfl, HB⟩
      · have hx : x ≠ x' := fun e => hq (Hinj.out rfl rfl e)
        have bx : ((x : Int) == (x' : Int)) = false := by rw [beq_eq_false_iff_ne]; omega
        have Hq := hid hq
        clear hq hx
        go_wp2
        all_goals first
          | exact absurd ⟨‹o = o'›, ‹d = d'›, ‹a = a'›, ‹b = b'›, ‹n = n'›⟩ Hq.out
          | (go_ret; exact ⟨rfl, HB⟩)
end
end Go.Proofs.Ytoljkjnehcbbaaa
