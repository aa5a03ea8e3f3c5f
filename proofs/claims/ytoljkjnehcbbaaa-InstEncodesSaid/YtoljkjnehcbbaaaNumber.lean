/- The number of a word, by its form. -/
import Derived.Test.YtoljkjnehcbbaaaPieces
namespace Go.Proofs.Ytoljkjnehcbbaaa
open Go.RowKit
noncomputable section
set_option linter.unusedVariables false
set_option linter.unusedSimpArgs false

theorem getD_at {α : Type} (l : List α) (i : Nat) (d : α) (h : i < l.length) : l.getD i d = l[i] := by simp [List.getD, List.getElem?_eq_getElem h]

theorem pieceCells_get (ps : List (Nat × Nat × Nat)) (i j : Nat) (hi : i < ps.length) (hj : j < 3) : (pieceCells ps)[3 * i + j]? = (pieceRow (ps.getD i (0, 0, 0)))[j]? := by
  unfold pieceCells
  rw [List.getElem?_toArray]
  exact flat_get pieceRow 3 (fun _ => rfl) _ ps i j hi hj

theorem piecesOf_ok (l : Int) : (piecesOf l).1.all (fun p => p.1 < 32 && p.2.1 < 32 && p.2.2 < 32 && (p.2.1 + p.2.2 < 64) && (p.2.1 + p.1 ≤ 32)) = true ∧ (piecesOf l).2 ≤ 63 ∧ (piecesOf l).1.length ≤ 4 := by
  unfold piecesOf
  repeat' split
  all_goals decide

/-- the number's bits, before its sign is extended -/
def numAcc (x : Nat) (ps : List (Nat × Nat × Nat)) : Nat := ps.foldl (fun n p => n ||| (fieldN x p.1 p.2.1 * 2 ^ p.2.2)) 0

/-- the number of a word, by its form -/
def numI (l : Int) (x : Nat) : Int := wrap64 (if (piecesOf l).2 = 0 then numAcc x (piecesOf l).1 else extN (numAcc x (piecesOf l).1) (piecesOf l).2)

theorem numAcc_lt (x : Nat) (ps : List (Nat × Nat × Nat)) (hok : ∀ p ∈ ps, p.1 < 32 ∧ p.2.1 < 32 ∧ p.2.2 < 32 ∧ p.2.1 + p.2.2 < 64 ∧ p.2.1 + p.1 ≤ 32) : numAcc x ps < 2 ^ 64 := by
  unfold numAcc
  suffices h : ∀ a, a < 2 ^ 64 → ps.foldl (fun n p => n ||| (fieldN x p.1 p.2.1 * 2 ^ p.2.2)) a < 2 ^ 64 from h 0 (by decide)
  induction ps with
  | nil => exact fun a h => h
  | cons p ps ih =>
    intro a ha
    simp only [List.foldl_cons]
    refine ih (fun q hq => hok q (List.mem_cons_of_mem _ hq)) _ (Nat.or_lt_two_pow ha ?_)
    obtain ⟨_, _, _, h, _⟩ := hok p (List.mem_cons_self ..)
    have h1 : fieldN x p.1 p.2.1 < 2 ^ p.2.1 := Nat.mod_lt _ (Nat.two_pow_pos _)
    have h2 : fieldN x p.1 p.2.1 * 2 ^ p.2.2 < 2 ^ p.2.1 * 2 ^ p.2.2 := Nat.mul_lt_mul_of_pos_right h1 (Nat.two_pow_pos _)
    rw [← Nat.pow_add] at h2
    exact Nat.lt_of_lt_of_le h2 (Nat.pow_le_pow_right (by decide) (by omega))

theorem fieldN_mul_lt (x f n t : Nat) (h : n + t < 64) : fieldN x f n * 2 ^ t < 2 ^ 64 := by
  have h1 : fieldN x f n < 2 ^ n := Nat.mod_lt _ (Nat.two_pow_pos _)
  have h2 : fieldN x f n * 2 ^ t < 2 ^ n * 2 ^ t := Nat.mul_lt_mul_of_pos_right h1 (Nat.two_pow_pos _)
  rw [← Nat.pow_add] at h2
  exact Nat.lt_of_lt_of_le h2 (Nat.pow_le_pow_right (by decide) (by omega))

theorem acc_or (a m t : Nat) (h : a < 2 ^ 64) (hm : m * 2 ^ t < 2 ^ 64) :
    Value.int IntKind.u64 (bits BinOp.or IntKind.u64 a (IntKind.u64.wrap (IntKind.u64.wrap m * 2 ^ t))) = Value.int IntKind.u64 ((a ||| m * 2 ^ t : Nat) : Int) := by
  have hp : 1 ≤ 2 ^ t := Nat.two_pow_pos t
  have h1 : m * 1 ≤ m * 2 ^ t := Nat.mul_le_mul_left m hp
  have hw : ∀ n : Nat, n < 2 ^ 64 → IntKind.u64.wrap (n : Int) = n := fun n hn => by
    simp [IntKind.wrap, IntKind.bits, IntKind.signed]; omega
  rw [hw m (by omega), show ((m : Int) * 2 ^ t) = ((m * 2 ^ t : Nat) : Int) by simp, hw _ hm, bits_or_u64_nat a _ (by omega) (by omega)]

theorem numAcc_snoc (x : Nat) (ps : List (Nat × Nat × Nat)) (k : Nat) (hk : k < ps.length) :
    numAcc x (ps.take (k + 1)) = numAcc x (ps.take k) ||| (fieldN x (ps.getD k (0, 0, 0)).1 (ps.getD k (0, 0, 0)).2.1 * 2 ^ (ps.getD k (0, 0, 0)).2.2) := by
  unfold numAcc
  rw [List.take_succ_eq_append_getElem hk, List.foldl_append, getD_at ps k _ hk]
  rfl

set_option maxHeartbeats 2000000 in
set_option maxRecDepth 100000 in
theorem number_any (l : Int) (x : Nat) (w : World) (hx : x < 4294967296) :
    Calls Try.prog 25 #[.int .u8 l, .int .u32 x] w fun e w' => e = .returned (.int .i64 (numI l x)) ∧ Below w.heap.size w w' := by
  obtain ⟨hok, hb63, hlen⟩ := piecesOf_ok l
  have hv : numI l x = wrap64 (if (piecesOf l).2 = 0 then numAcc x (piecesOf l).1 else extN (numAcc x (piecesOf l).1) (piecesOf l).2) := rfl
  have Hv := hid hv
  have hp := pieces_any l
  unfold PiecesPost at hp
  generalize numI l x = v at *
  generalize (piecesOf l).1 = ps at *
  generalize (piecesOf l).2 = b at *
  have hok' : ∀ p ∈ ps, p.1 < 32 ∧ p.2.1 < 32 ∧ p.2.2 < 32 ∧ p.2.1 + p.2.2 < 64 ∧ p.2.1 + p.1 ≤ 32 := fun p hq => by
    have := List.all_eq_true.1 hok p hq
    simpa [and_assoc] using this
  have Hok := hid hok'
  have Hp := hid hp
  clear hv hp hok hok'
  go_enter Try.func25, Try.ntmps25
  go_wp2_with fail
  refine (Hp.out w).mono ?_
  rintro e w1 ⟨hb1, A, rfl, hA⟩
  have hacc : numAcc x ps < 2 ^ 64 := numAcc_lt x ps Hok.out
  rcases hA with ⟨h0, rfl⟩ | ⟨g, rfl, hg⟩
  · have Hnil := hid (List.length_eq_zero_iff.1 h0)
    rw [h0]
    clear h0
    go_wp2
    refine wp_loop_once ?_
    rcases Nat.eq_zero_or_pos b with hb0 | hb0
    · subst hb0
      go_wp2_with (first | (go_at_call 35; refine (ext_zero 0 _ (by omega)).mono ?_; rintro e w2 ⟨rfl, m, rfl⟩))
      go_ret
      exact ⟨ret_int (by rw [Hv.out, Hnil.out]; simp [numAcc, wrap64]), below_drewN hb1 _⟩
    · have Hb0 : Hid (b ≠ 0) := hid (by omega)
      go_wp2_with (first | (go_at_call 35; refine (ext_any 0 b _ (by omega) hb0 hb63).mono ?_; rintro e w2 ⟨rfl, m, rfl⟩))
      go_ret
      exact ⟨ret_int (by rw [Hv.out, Hnil.out, if_neg Hb0.out]; rfl), below_drewN hb1 _⟩
  · have Hg := hid hg
    have hgl : g < w1.heap.size := blk_lt' hg
    clear hg
    go_wp2
    go_loopw [17, 7] (fun i n wr => ∃ k : Nat, k ≤ ps.length ∧ i = .int .i64 k ∧ n = .int .u64 (numAcc x (ps.take k)) ∧ Below w1.heap.size w1 wr) (fun i _ _ => ps.length - (intOf i).toNat)
    case atStart => exact ⟨0, by omega, rfl, rfl, Below.refl _ _⟩
    case round =>
      obtain ⟨k, hk, rfl, rfl, hb⟩ := hrel
      by_cases hlt : k < ps.length
      · have hgr := (hb.block g hgl).trans Hg.out
        have hc : ∀ j, j < 3 → wr.cell? ⟨g, k * 3 + j, none⟩ = (pieceRow (ps.getD k (0, 0, 0)))[j]? := fun j hj => by
          rw [cell_of_row wr g _ _ _ _ hgr, Nat.mul_comm]; exact pieceCells_get ps k j hlt hj
        have c0 := hc 0 (by omega)
        have c1 := hc 1 (by omega)
        have c2 := hc 2 (by omega)
        have Hs := hid (numAcc_snoc x ps k hlt)
        have hmem : ps.getD k (0, 0, 0) ∈ ps := by rw [getD_at ps k _ hlt]; exact List.getElem_mem hlt
        obtain ⟨h1, h2, h3, h4, h5⟩ := Hok.out _ hmem
        generalize ps.getD k (0, 0, 0) = p at *
        obtain ⟨f, n, t⟩ := p
        clear hc hgr hmem
        rw [Nat.add_zero] at c0
        simp only [pieceRow, List.getElem?_cons_zero, List.getElem?_cons_succ] at c0 c1 c2 h1 h2 h3 h4 h5
        have Hlt1 := hid (numAcc_lt x (ps.take k) (fun p hp => Hok.out p (List.mem_of_mem_take hp)))
        have Hm := hid (fieldN_mul_lt x f n t h4)
        go_wp2
        go_quiet ((go_at_call 33; exact Calls.quiet_of (field_any x f n _ hx h1 h2)))
        go_wp2
        go_roundw
        case rel => exact ⟨k + 1, by omega, by go_num, by rw [Hs.out, acc_or _ _ _ Hlt1.out Hm.out], below_drewN (hb.alloc hb.size _) _⟩
        case measure => simp [intOf]; omega
      · have hk' : k = ps.length := by omega
        subst hk'
        clear hlt
        rw [List.take_length]
        rcases Nat.eq_zero_or_pos b with hb0 | hb0
        · subst hb0
          go_wp2_with (first | (go_at_call 35; refine (ext_zero (numAcc x ps) _ hacc).mono ?_; rintro e w2 ⟨rfl, m, rfl⟩))
          go_ret
          exact ⟨ret_int (by rw [Hv.out]; rfl), hb1.trans (below_drewN (hb.mono hb1.size) _)⟩
        · have Hb0 : Hid (b ≠ 0) := hid (by omega)
          go_wp2_with (first | (go_at_call 35; refine (ext_any (numAcc x ps) b _ hacc hb0 hb63).mono ?_; rintro e w2 ⟨rfl, m, rfl⟩))
          go_ret
          exact ⟨ret_int (by rw [Hv.out, if_neg Hb0.out]), hb1.trans (below_drewN (hb.mono hb1.size) _)⟩
end
end Go.Proofs.Ytoljkjnehcbbaaa
