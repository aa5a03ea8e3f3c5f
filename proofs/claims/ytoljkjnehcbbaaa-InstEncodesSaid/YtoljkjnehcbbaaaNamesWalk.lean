/- InstNames: the walk. -/
import Derived.Test.YtoljkjnehcbbaaaKinds
namespace Go.Proofs.Ytoljkjnehcbbaaa
open Go.RowKit
noncomputable section
set_option linter.unusedVariables false
set_option linter.unusedSimpArgs false

theorem names_apart : (List.range 64).all (fun i => (List.range 64).all fun j => i == j || !((formAt i).1 == (formAt j).1)) = true := by decide +kernel
theorem names_inj (i j : Nat) (hi : i < 64) (hj : j < 64) (h : (formAt i).1 = (formAt j).1) : i = j := by
  have := List.all_eq_true.1 (List.all_eq_true.1 names_apart i (List.mem_range.2 hi)) j (List.mem_range.2 hj)
  simp only [Bool.or_eq_true, beq_iff_eq, Bool.not_eq_true', h] at this
  rcases this with h | h
  · exact h
  · simp at h

theorem firstOf_is (p : Nat → Bool) : IsFirst p (firstOf p) := by
  unfold firstOf IsFirst
  cases h : (List.range 64).find? p with
  | none => exact .inl ⟨rfl, fun i hi => by have := List.find?_eq_none.1 h i (List.mem_range.2 hi); simpa using this⟩
  | some i =>
    rw [List.find?_range_eq_some] at h
    exact .inr ⟨i, List.mem_range.1 h.2.1, rfl, h.1, fun j hj => by have := h.2.2 j hj; simpa using this⟩

/-- a place bears the name just where it is the named one -/
theorem nameIs_iff (s : ByteArray) (k : Nat) (hk : k < 64) : nameIs s k = true ↔ namedI s = k := by
  have h := firstOf_is (nameIs s)
  unfold namedI
  constructor
  · intro hn
    rcases h with ⟨_, h⟩ | ⟨i, hi, he, hp, _⟩
    · rw [h k hk] at hn; cases hn
    · rw [he]
      unfold nameIs at hn hp
      rw [beq_iff_eq] at hn hp
      rw [names_inj i k hi hk (hp.trans hn.symm)]
  · intro hn
    rcases h with ⟨h1, _⟩ | ⟨i, hi, he, hp, _⟩
    · omega
    · have : i = k := by omega
      rw [← this]; exact hp
theorem named_lt (s : ByteArray) : -1 ≤ namedI s ∧ namedI s < 64 := by
  have h := firstOf_is (nameIs s)
  unfold namedI
  rcases h with ⟨h, _⟩ | ⟨i, hi, he, _⟩ <;> omega

theorem ret_bool {a b : Bool} (h : a = b) : Ending.returned (.bool a) = .returned (.bool b) := by rw [h]
theorem letters_ok : table.all (fun x => x.2.1 == ((letterB x.2.1).toNat : Int)) = true := by decide +kernel

set_option maxHeartbeats 4000000 in
set_option maxRecDepth 100000 in
theorem names_any (o : Int) (s : ByteArray) (w : World) :
    Calls Try.prog 7 #[.int .i64 o, .string s] w fun e w' => e = .returned (.bool true) ∧ Below w.heap.size w w' := by
  obtain ⟨hv1, hv2⟩ := named_lt s
  have hiff := nameIs_iff s
  have hnm := named_any s
  generalize namedI s = v at *
  obtain ⟨r6, h6⟩ : ∃ r : Int, r = (if v < 0 then 0 else v) := ⟨_, rfl⟩
  obtain ⟨r7, h7⟩ : ∃ r : Bool, r = decide (0 ≤ v) := ⟨_, rfl⟩
  rw [← h6, ← h7] at hnm
  have Hiff := hid hiff
  have Hnm := hid hnm
  have H6 := hid h6
  have H7 := hid h7
  clear hiff hnm h6 h7
  go_enter Try.func7, Try.ntmps7
  go_wp2_with (first
    | (go_at_call 8; refine (speaks_any _).mono ?_; rintro e w1 ⟨rfl, hb1⟩)
    | (go_at_call 15; refine (kinds_any _).mono ?_; rintro e w2 ⟨g, rfl, hg, hgs, hb2⟩)
    | (go_at_call 16; refine (Hnm.out _).mono ?_; rintro e w3 ⟨rfl, hb3⟩))
  have hgl : g < w3.heap.size := Nat.lt_of_lt_of_le (blk_lt' hg) hb3.size
  have Hg := hid ((hb3.block _ (blk_lt' hg)).trans hg)
  have HB : Below w.heap.size w w3 := hb1.trans ((hb2.mono hb1.size).trans (hb3.mono (Nat.le_trans hb1.size hb2.size)))
  clear hb1 hb2 hb3 hg hgs
  go_loopw [8, 9] (fun at_ i wr => wr = w3 ∧ ∃ k : Nat, k ≤ 64 ∧ i = .int .i64 k ∧ at_ = .int .i64 (if 0 ≤ v ∧ v < k then v else -1)) (fun _ i _ => 64 - (intOf i).toNat)
  case atStart => exact ⟨rfl, 0, by omega, rfl, by rw [if_neg (by omega)]⟩
  case round =>
    obtain ⟨rfl, k, hk, rfl, rfl⟩ := hrel
    by_cases hlt : k < 64
    · have c0 : wr.cell? ⟨g, k * 5, none⟩ = some (.string ⟨(formAt k).1.toArray⟩) := by
        rw [cell_of_row wr g _ _ _ _ Hg.out, Nat.mul_comm]; exact kindCells_get k 0 hlt (by omega)
      have hk2 := Hiff.out k hlt
      have hbt : nameIs s k = ((formAt k).1 == s.toList) := rfl
      by_cases hvk : v = k
      · have b1 : ((formAt k).1 == s.toList) = true := hbt ▸ hk2.2 hvk
        have Hvk := hid hvk
        generalize (formAt k).1 = nm at *
        clear hk2 hbt hvk
        go_wp2
        go_roundw
        case rel => exact ⟨by trivial, k + 1, by omega, by go_num, by rw [Hvk.out, if_pos (by omega)]⟩
        case measure => simp [intOf]; omega
      · have b1 : ((formAt k).1 == s.toList) = false := by
          rw [← hbt]
          cases h : nameIs s k
          · rfl
          · exact absurd (hk2.1 h) hvk
        have Hvk := hid hvk
        generalize (formAt k).1 = nm at *
        clear hk2 hbt hvk
        go_wp2
        go_roundw
        case rel => exact ⟨by trivial, k + 1, by omega, by go_num, by
          have := Hvk.out
          by_cases h : 0 ≤ v ∧ v < k
          · rw [if_pos h, if_pos (by omega)]
          · rw [if_neg h, if_neg (by omega)]⟩
        case measure => simp [intOf]; omega
    · have hk64 : k = 64 := by omega
      subst hk64
      have hat : (if 0 ≤ v ∧ v < ((64 : Nat) : Int) then v else -1) = v := by
        by_cases h : 0 ≤ v
        · rw [if_pos ⟨h, by omega⟩]
        · rw [if_neg (fun q => h q.1)]; omega
      rw [hat]
      clear hat hlt hk
      by_cases h0 : 0 ≤ v
      · have e6 := H6.out
        have e7 := H7.out
        rw [if_neg (by omega)] at e6
        rw [decide_eq_true h0] at e7
        subst e6 e7
        clear H6 H7 Hnm
        by_cases ho : 0 ≤ o
        · have ob0 : decide (o < 0) = false := decide_eq_false (by omega)
          by_cases ho2 : o < 64
          · obtain ⟨i, rfl⟩ := Int.eq_ofNat_of_zero_le ho
            have hi : i < 64 := by omega
            have ob : decide ((i : Int) < 64) = true := decide_eq_true ho2
            have hname : nameB i = (formAt i).1 := by unfold nameB; rw [if_pos ⟨ho, ho2⟩, Int.toNat_natCast]
            have hlet : letterI i = (formAt i).2.1 := by unfold letterI; rw [if_pos ⟨ho, ho2⟩, Int.toNat_natCast]
            have hl := List.all_eq_true.1 letters_ok _ (formAt_mem i hi)
            have c0 : wr.cell? ⟨g, i * 5, none⟩ = some (.string ⟨(formAt i).1.toArray⟩) := by
              rw [cell_of_row wr g _ _ _ _ Hg.out, Nat.mul_comm]; exact kindCells_get i 0 hi (by omega)
            have c1 : wr.cell? ⟨g, i * 5 + 1, none⟩ = some (.string ⟨#[letterB (formAt i).2.1]⟩) := by
              rw [cell_of_row wr g _ _ _ _ Hg.out, Nat.mul_comm]; exact kindCells_get i 1 hi (by omega)
            have hna := name_any i
            have hfo := form_any i
            rw [hname] at hna
            rw [hlet] at hfo
            generalize (formAt i).1 = nm at *
            generalize (formAt i).2.1 = l at *
            have Hna := hid hna
            have Hfo := hid hfo
            generalize letterB l = q at *
            have i0 : (0 : Int) ≤ i := by omega
            clear hna hfo hname hlet ho ho2
            go_wp2_with fail
            refine wp_region_quiet_in (fun w' => ∃ u, w' = aft wr u) (by kernel_rfl) (by kernel_rfl) (aft_drew _) ?_
            repeat (go_big_quiet_step (first
              | (go_at_call 17; exact aft_call (Hna.out _))
              | (go_at_call 14; exact aft_call (Hfo.out _))))
            refine wpQuiet_nil ?_
            rintro w5 ⟨u, rfl⟩
            go_wp2
            go_ret
            exact ⟨ret_bool hl, HB.trans ((aft_below wr u).mono HB.size)⟩
          · have ob : decide (o < 64) = false := decide_eq_false ho2
            have ho3 : 64 ≤ o := by omega
            have hn : nameB o = [] := by unfold nameB; rw [if_neg (fun q => ho2 q.2)]
            have hl : letterI o = 0 := by unfold letterI; rw [if_neg (fun q => ho2 q.2)]
            have hna := name_any o
            have hfo := form_any o
            rw [hn] at hna
            rw [hl] at hfo
            have Hna := hid hna
            have Hfo := hid hfo
            clear hna hfo hn hl ho ho2
            go_wp2_with (first
              | (go_at_call 17; refine (Hna.out _).mono ?_; rintro e w4 ⟨rfl, hb4⟩)
              | (go_at_call 14; refine (Hfo.out _).mono ?_; rintro e w5 ⟨rfl, hb5⟩))
            go_ret
            exact ⟨rfl, HB.trans ((hb4.mono HB.size).trans (hb5.mono (Nat.le_trans HB.size hb4.size)))⟩
        · have ob0 : decide (o < 0) = true := decide_eq_true (by omega)
          have hn : nameB o = [] := by unfold nameB; rw [if_neg (fun q => ho q.1)]
          have hl : letterI o = 0 := by unfold letterI; rw [if_neg (fun q => ho q.1)]
          have hna := name_any o
          have hfo := form_any o
          rw [hn] at hna
          rw [hl] at hfo
          have Hna := hid hna
          have Hfo := hid hfo
          clear hna hfo hn hl ho
          go_wp2_with (first
            | (go_at_call 17; refine (Hna.out _).mono ?_; rintro e w4 ⟨rfl, hb4⟩)
            | (go_at_call 14; refine (Hfo.out _).mono ?_; rintro e w5 ⟨rfl, hb5⟩))
          go_ret
          exact ⟨rfl, HB.trans ((hb4.mono HB.size).trans (hb5.mono (Nat.le_trans HB.size hb4.size)))⟩
      · have e6 := H6.out
        have e7 := H7.out
        rw [if_pos (by omega)] at e6
        rw [decide_eq_false h0] at e7
        subst e6 e7
        obtain rfl : v = -1 := by omega
        clear H6 H7 Hnm h0
        by_cases ho : 0 ≤ o
        · have ob0 : decide (o < 0) = false := decide_eq_false (by omega)
          by_cases ho2 : o < 64
          · obtain ⟨i, rfl⟩ := Int.eq_ofNat_of_zero_le ho
            have hi : i < 64 := by omega
            have ob : decide ((i : Int) < 64) = true := decide_eq_true ho2
            have hname : nameB i = (formAt i).1 := by unfold nameB; rw [if_pos ⟨ho, ho2⟩, Int.toNat_natCast]
            have hlet : letterI i = (formAt i).2.1 := by unfold letterI; rw [if_pos ⟨ho, ho2⟩, Int.toNat_natCast]
            have hl := List.all_eq_true.1 letters_ok _ (formAt_mem i hi)
            have c0 : wr.cell? ⟨g, i * 5, none⟩ = some (.string ⟨(formAt i).1.toArray⟩) := by
              rw [cell_of_row wr g _ _ _ _ Hg.out, Nat.mul_comm]; exact kindCells_get i 0 hi (by omega)
            have c1 : wr.cell? ⟨g, i * 5 + 1, none⟩ = some (.string ⟨#[letterB (formAt i).2.1]⟩) := by
              rw [cell_of_row wr g _ _ _ _ Hg.out, Nat.mul_comm]; exact kindCells_get i 1 hi (by omega)
            have hna := name_any i
            have hfo := form_any i
            rw [hname] at hna
            rw [hlet] at hfo
            generalize (formAt i).1 = nm at *
            generalize (formAt i).2.1 = l at *
            have Hna := hid hna
            have Hfo := hid hfo
            generalize letterB l = q at *
            have i0 : (0 : Int) ≤ i := by omega
            clear hna hfo hname hlet ho ho2
            go_wp2_with fail
            refine wp_region_quiet_in (fun w' => ∃ u, w' = aft wr u) (by kernel_rfl) (by kernel_rfl) (aft_drew _) ?_
            repeat (go_big_quiet_step (first
              | (go_at_call 17; exact aft_call (Hna.out _))
              | (go_at_call 14; exact aft_call (Hfo.out _))))
            refine wpQuiet_nil ?_
            rintro w5 ⟨u, rfl⟩
            go_wp2
            go_ret
            exact ⟨ret_bool hl, HB.trans ((aft_below wr u).mono HB.size)⟩
          · have ob : decide (o < 64) = false := decide_eq_false ho2
            have ho3 : 64 ≤ o := by omega
            have hn : nameB o = [] := by unfold nameB; rw [if_neg (fun q => ho2 q.2)]
            have hl : letterI o = 0 := by unfold letterI; rw [if_neg (fun q => ho2 q.2)]
            have hna := name_any o
            have hfo := form_any o
            rw [hn] at hna
            rw [hl] at hfo
            have Hna := hid hna
            have Hfo := hid hfo
            clear hna hfo hn hl ho ho2
            go_wp2_with (first
              | (go_at_call 17; refine (Hna.out _).mono ?_; rintro e w4 ⟨rfl, hb4⟩)
              | (go_at_call 14; refine (Hfo.out _).mono ?_; rintro e w5 ⟨rfl, hb5⟩))
            go_ret
            exact ⟨rfl, HB.trans ((hb4.mono HB.size).trans (hb5.mono (Nat.le_trans HB.size hb4.size)))⟩
        · have ob0 : decide (o < 0) = true := decide_eq_true (by omega)
          have hn : nameB o = [] := by unfold nameB; rw [if_neg (fun q => ho q.1)]
          have hl : letterI o = 0 := by unfold letterI; rw [if_neg (fun q => ho q.1)]
          have hna := name_any o
          have hfo := form_any o
          rw [hn] at hna
          rw [hl] at hfo
          have Hna := hid hna
          have Hfo := hid hfo
          clear hna hfo hn hl ho
          go_wp2_with (first
            | (go_at_call 17; refine (Hna.out _).mono ?_; rintro e w4 ⟨rfl, hb4⟩)
            | (go_at_call 14; refine (Hfo.out _).mono ?_; rintro e w5 ⟨rfl, hb5⟩))
          go_ret
          exact ⟨rfl, HB.trans ((hb4.mono HB.size).trans (hb5.mono (Nat.le_trans HB.size hb4.size)))⟩
end
end Go.Proofs.Ytoljkjnehcbbaaa
