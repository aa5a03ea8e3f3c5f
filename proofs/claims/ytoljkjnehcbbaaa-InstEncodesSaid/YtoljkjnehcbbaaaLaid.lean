/- The bits of a number in a word, by its form. -/
import Derived.Test.YtoljkjnehcbbaaaNumber
namespace Go.Proofs.Ytoljkjnehcbbaaa
open Go.RowKit
noncomputable section
set_option linter.unusedVariables false
set_option linter.unusedSimpArgs false

/-- a number of 64 bits as they lie -/
def u64N (i : Int) : Nat := (i % 18446744073709551616).toNat

/-- the number's bits in a word -/
def laidAcc (u : Nat) (ps : List (Nat × Nat × Nat)) : Nat := ps.foldl (fun n p => n ||| (fieldN u p.2.2 p.2.1 * 2 ^ p.1)) 0
def laidN (l : Int) (imm : Int) : Nat := laidAcc (u64N imm) (piecesOf l).1

theorem laidAcc_lt (x : Nat) (ps : List (Nat × Nat × Nat)) (hok : ∀ p ∈ ps, p.1 < 32 ∧ p.2.1 < 32 ∧ p.2.2 < 32 ∧ p.2.1 + p.2.2 < 64 ∧ p.2.1 + p.1 ≤ 32) : laidAcc x ps < 2 ^ 32 := by
  unfold laidAcc
  suffices h : ∀ a, a < 2 ^ 32 → ps.foldl (fun n p => n ||| (fieldN x p.2.2 p.2.1 * 2 ^ p.1)) a < 2 ^ 32 from h 0 (by decide)
  induction ps with
  | nil => exact fun a h => h
  | cons p ps ih =>
    intro a ha
    simp only [List.foldl_cons]
    refine ih (fun q hq => hok q (List.mem_cons_of_mem _ hq)) _ (Nat.or_lt_two_pow ha ?_)
    obtain ⟨_, _, _, _, h⟩ := hok p (List.mem_cons_self ..)
    have h1 : fieldN x p.2.2 p.2.1 < 2 ^ p.2.1 := Nat.mod_lt _ (Nat.two_pow_pos _)
    have h2 : fieldN x p.2.2 p.2.1 * 2 ^ p.1 < 2 ^ p.2.1 * 2 ^ p.1 := Nat.mul_lt_mul_of_pos_right h1 (Nat.two_pow_pos _)
    rw [← Nat.pow_add] at h2
    exact Nat.lt_of_lt_of_le h2 (Nat.pow_le_pow_right (by decide) h)

theorem fieldN_mul_lt32 (x t n f : Nat) (h : n + f ≤ 32) : fieldN x t n * 2 ^ f < 2 ^ 32 := by
  have h1 : fieldN x t n < 2 ^ n := Nat.mod_lt _ (Nat.two_pow_pos _)
  have h2 : fieldN x t n * 2 ^ f < 2 ^ n * 2 ^ f := Nat.mul_lt_mul_of_pos_right h1 (Nat.two_pow_pos _)
  rw [← Nat.pow_add] at h2
  exact Nat.lt_of_lt_of_le h2 (Nat.pow_le_pow_right (by decide) h)

theorem laidAcc_snoc (x : Nat) (ps : List (Nat × Nat × Nat)) (k : Nat) (hk : k < ps.length) :
    laidAcc x (ps.take (k + 1)) = laidAcc x (ps.take k) ||| (fieldN x (ps.getD k (0, 0, 0)).2.2 (ps.getD k (0, 0, 0)).2.1 * 2 ^ (ps.getD k (0, 0, 0)).1) := by
  unfold laidAcc
  rw [List.take_succ_eq_append_getElem hk, List.foldl_append, getD_at ps k _ hk]
  rfl

theorem laidN_lt (l imm : Int) : laidN l imm < 4294967296 := by
  obtain ⟨hok, _⟩ := piecesOf_ok l
  have := laidAcc_lt (u64N imm) (piecesOf l).1 (fun p hq => by
    have := List.all_eq_true.1 hok p hq
    simpa [and_assoc] using this)
  unfold laidN
  omega

theorem or32 (a b : Nat) (ha : a < 2 ^ 32) (hb : b < 2 ^ 32) : bits BinOp.or IntKind.u32 (a : Int) (b : Int) = ((a ||| b : Nat) : Int) :=
  (bits_nat .u32 32 (by decide) wraps_u32 a b ha hb).2

theorem u64_wrap (i : Int) : IntKind.u64.wrap i = (u64N i : Int) := by
  unfold u64N
  simp [IntKind.wrap, IntKind.bits, IntKind.signed]
  omega

theorem laid_or (a t n f : Nat) (imm : Int) (hn : n < 32) (h : a < 2 ^ 32) (hm : fieldN (u64N imm) t n * 2 ^ f < 2 ^ 32) :
    Value.int IntKind.u32 (bits BinOp.or IntKind.u32 a (bits BinOp.and IntKind.u32 (IntKind.u64.wrap imm / 2 ^ t % 4294967296) ((2 ^ n - 1) % 4294967296) * 2 ^ f % 4294967296)) =
      Value.int IntKind.u32 ((a ||| fieldN (u64N imm) t n * 2 ^ f : Nat) : Int) := by
  have e1 : IntKind.u64.wrap imm / 2 ^ t % 4294967296 = ((u64N imm / 2 ^ t % 4294967296 : Nat) : Int) := by rw [u64_wrap]; simp
  have e2 : u64N imm / 2 ^ t % 4294967296 % 2 ^ n = fieldN (u64N imm) t n :=
    Nat.mod_mod_of_dvd _ (by rw [show 4294967296 = 2 ^ 32 by decide]; exact Nat.pow_dvd_pow 2 (by omega))
  rw [e1, mask32 _ n (Nat.mod_lt _ (by decide)) hn, e2, show ((fieldN (u64N imm) t n : Int) * 2 ^ f) = ((fieldN (u64N imm) t n * 2 ^ f : Nat) : Int) by simp]
  rw [show (((fieldN (u64N imm) t n * 2 ^ f : Nat) : Int) % 4294967296) = ((fieldN (u64N imm) t n * 2 ^ f : Nat) : Int) by omega, or32 _ _ h hm]

set_option maxHeartbeats 2000000 in
set_option maxRecDepth 100000 in
theorem laid_any (l imm : Int) (w : World) :
    Calls Try.prog 30 #[.int .u8 l, .int .i64 imm] w fun e w' => e = .returned (.int .u32 (laidN l imm)) ∧ Below w.heap.size w w' := by
  obtain ⟨hok, hb63, hlen⟩ := piecesOf_ok l
  have hv : laidN l imm = laidAcc (u64N imm) (piecesOf l).1 := rfl
  have Hv := hid hv
  have hp := pieces_any l
  unfold PiecesPost at hp
  generalize laidN l imm = v at *
  generalize (piecesOf l).1 = ps at *
  generalize (piecesOf l).2 = b at *
  have hok' : ∀ p ∈ ps, p.1 < 32 ∧ p.2.1 < 32 ∧ p.2.2 < 32 ∧ p.2.1 + p.2.2 < 64 ∧ p.2.1 + p.1 ≤ 32 := fun p hq => by
    have := List.all_eq_true.1 hok p hq
    simpa [and_assoc] using this
  have Hok := hid hok'
  have Hp := hid hp
  clear hv hp hok hok'
  go_enter Try.func30, Try.ntmps30
  go_wp2_with fail
  refine (Hp.out w).mono ?_
  rintro e w1 ⟨hb1, A, rfl, hA⟩
  rcases hA with ⟨h0, rfl⟩ | ⟨g, rfl, hg⟩
  · have Hnil := hid (List.length_eq_zero_iff.1 h0)
    rw [h0]
    clear h0
    go_wp2
    refine wp_loop_once ?_
    go_wp2
    go_ret
    exact ⟨ret_int (by rw [Hv.out, Hnil.out]; rfl), hb1⟩
  · have Hg := hid hg
    have hgl : g < w1.heap.size := blk_lt' hg
    clear hg
    go_wp2
    go_loopw [17, 5] (fun i n wr => ∃ k : Nat, k ≤ ps.length ∧ i = .int .i64 k ∧ n = .int .u32 (laidAcc (u64N imm) (ps.take k)) ∧ Below w1.heap.size w1 wr) (fun i _ _ => ps.length - (intOf i).toNat)
    case atStart => exact ⟨0, by omega, rfl, rfl, Below.refl _ _⟩
    case round =>
      obtain ⟨k, hk, rfl, rfl, hb⟩ := hrel
      by_cases hlt : k < ps.length
      · have hgr := (hb.block g hgl).trans Hg.out
        have hc : ∀ j, j < 3 → wr.cell? ⟨g, k * 3 + j, none⟩ = (pieceRow (ps.getD k (0, 0, 0)))[j]? := fun j hj => by
          rw [cell_of_row wr g _ _ _ _ hgr, Nat.mul_comm]; exact pieceCells_get ps k j hlt hj
        have c0 := hc 0 (by omega)
        have c1 := hc 1 (by omega)
        have c2 := hc 2 (by omega)
        have Hs := hid (laidAcc_snoc (u64N imm) ps k hlt)
        have hmem : ps.getD k (0, 0, 0) ∈ ps := by rw [getD_at ps k _ hlt]; exact List.getElem_mem hlt
        obtain ⟨h1, h2, h3, h4, h5⟩ := Hok.out _ hmem
        generalize ps.getD k (0, 0, 0) = p at *
        obtain ⟨f, n, t⟩ := p
        clear hc hgr hmem
        rw [Nat.add_zero] at c0
        simp only [pieceRow, List.getElem?_cons_zero, List.getElem?_cons_succ] at c0 c1 c2 h1 h2 h3 h4 h5
        have Hlt1 := hid (laidAcc_lt (u64N imm) (ps.take k) (fun p hp => Hok.out p (List.mem_of_mem_take hp)))
        have Hm := hid (fieldN_mul_lt32 (u64N imm) t n f h5)
        go_wp2
        go_quiet (fail)
        go_wp2
        go_roundw
        case rel => exact ⟨k + 1, by omega, by go_num, by rw [Hs.out, laid_or _ _ _ _ _ h2 Hlt1.out Hm.out], below_drewN (hb.alloc hb.size _) _⟩
        case measure => simp [intOf]; omega
      · have hk' : k = ps.length := by omega
        subst hk'
        clear hlt
        rw [List.take_length]
        go_wp2
        go_ret
        exact ⟨ret_int (by rw [Hv.out]), hb1.trans (hb.mono hb1.size)⟩
end
end Go.Proofs.Ytoljkjnehcbbaaa
