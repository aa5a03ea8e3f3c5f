/- Encode: what it answers. -/
import Derived.Test.YtoljkjnehcbbaaaForm
import Derived.Deep.DeepCutAuto
import Derived.Deep.CutBlock
import Derived.Test.YtoljkjnehcbbaaaMono
namespace Go.Proofs.Ytoljkjnehcbbaaa
open Go.RowKit
noncomputable section
set_option linter.unusedVariables false
set_option linter.unusedSimpArgs false

/-- the word that a form lays for an instruction's fields -/
def encI (r : List UInt8 × Int × Int × Int × Int) (d a b n : Int) : Int :=
  let l := r.2.1
  let w := bits .or .u32 (bits .or .u32 (bits .or .u32 (bits .or .u32 r.2.2.1 (laidN l n)) (placedN d 7)) (placedN a 15)) (placedN b 20)
  if l = 82 ∨ l = 72 ∨ l = 75 then bits .or .u32 (bits .or .u32 w (r.2.2.2.2 * 33554432 % 4294967296)) (r.2.2.2.1 * 4096 % 4294967296)
  else if l = 73 ∨ l = 66 ∨ l = 83 then bits .or .u32 w (r.2.2.2.1 * 4096 % 4294967296)
  else if l = 78 then bits .or .u32 w (r.2.2.2.2 * 1048576 % 4294967296)
  else w

/-- as a number of 32 bits -/
def encN (o d a b n : Int) : Nat := (encI (formAt o.toNat) d a b n).toNat

/-- what Encode answers -/
def encV (o d a b n : Int) : Nat × Bool :=
  if 0 ≤ o ∧ o < 64 ∧ decN (encN o d a b n) = ((o, d, a, b, n), true) then (encN o d a b n, true) else (0, false)

theorem encI_range (r : List UInt8 × Int × Int × Int × Int) (d a b n : Int) : 0 ≤ encI r d a b n ∧ encI r d a b n < 4294967296 := by
  unfold encI
  simp only
  have h := fun x y => And.intro (bits_lo_u32 .or x y) (bits_hi_u32 .or x y)
  repeat' split
  all_goals exact ⟨(h _ _).1, Int.lt_of_le_of_lt (h _ _).2 (by decide)⟩

theorem encN_lt (o d a b n : Int) : encN o d a b n < 4294967296 := by
  have := encI_range (formAt o.toNat) d a b n
  unfold encN; omega

theorem decode_at (x : Int) (X : Nat) (o d a b n : Int) (ok : Bool) (hx : x = X) (hlt : X < 4294967296) (hD : decN X = ((o, d, a, b, n), ok)) (w : World) :
    Calls Try.prog 9 #[.int .u32 x] w fun e w' => e = .returned (.tuple #[.agg #[.int .i64 o, .int .i64 d, .int .i64 a, .int .i64 b, .int .i64 n], .bool ok]) ∧ Below w.heap.size w w' := by
  subst hx
  have := decode_any X w hlt
  rw [hD] at this
  exact this

theorem info55 : (Try.prog.info? 55).map (fun x => x.size) = some 5 := by kernel_rfl
theorem formRow_one (s : ByteArray) (l p f3 f7 : Int) : ((#[.string s, .int .u8 l, .int .u32 p, .int .u32 f3, .int .u32 f7] : Array Value).all fun x => x.oneCell') = true := by simp [Value.oneCell']

set_option maxHeartbeats 4000000 in
set_option maxRecDepth 100000 in
theorem encode_any (o d a b n : Int) (w : World) :
    Calls Try.prog 12 #[.agg (instCells o d a b n)] w fun e w' => e = .returned (.tuple #[.int .u32 (encV o d a b n).1, .bool (encV o d a b n).2]) ∧ Below w.heap.size w w' := by
  by_cases h : 0 ≤ o ∧ o < 64
  · have hd : decide (0 ≤ o ∧ o < 64) = true := decide_eq_true h
    have hv : encV o d a b n = if decN (encN o d a b n) = ((o, d, a, b, n), true) then (encN o d a b n, true) else (0, false) := by unfold encV; simp [h.1, h.2]
    unfold instCells
    go_enter Try.func12, Try.ntmps12
    go_wp2_with (first
      | (go_at_call 29; refine (there_any _ _).mono ?_; rintro e w3 ⟨rfl, rfl⟩))
    obtain ⟨i, rfl⟩ := Int.eq_ofNat_of_zero_le h.1
    have hi : i < 64 := by omega
    have hix := run_index_forms i hi
    obtain ⟨s, l, p, f3, f7, hrow⟩ : ∃ (s : ByteArray) (l p f3 f7 : Int), (rowCells (formAt i)).toArray = #[.string s, .int .u8 l, .int .u32 p, .int .u32 f3, .int .u32 f7] := ⟨_, _, _, _, _, rfl⟩
    rw [hrow] at hix
    go_upto_region 3 with (fail)
    go_cut [4] (fun v4 wc => ∃ g, v4 = .pointer (some ⟨g, 0, none⟩) ∧ wc.heap[g]? = some (.cells #[.string s, .int .u8 l, .int .u32 p, .int .u32 f3, .int .u32 f7] 55 (0, 0)) ∧ w.heap.size < g ∧
      wc.heap[w.heap.size]? = some (.cells (instCells i d a b n) 26 (0, 0)) ∧ Below w.heap.size w wc)
    case first =>
      have hN : w.heap.size < (w.alloc (.cells #[.int .i64 i, .int .i64 d, .int .i64 a, .int .i64 b, .int .i64 n] 26)).heap.size := by simp
      refine wp_region_alloc 4 4 (.cells #[.string ⟨#[]⟩, .int .u8 0, .int .u32 0, .int .u32 0, .int .u32 0] 55) (by kernel_rfl) (by kernel_rfl) _ rfl rfl (fun a w => by kernel_rfl) ?_
      simp only [List.take_succ_cons, List.take_zero, List.drop_succ_cons, List.drop_zero]
      refine mono_call (.agg formCells) 22 #[] rfl (fun u => by kernel_rfl) (fun u => forms_any _) ?_
      simp only [Act.put, List.setIfInBounds_toArray, List.set_cons_zero, List.set_cons_succ]
      refine mono_val ?v1 rfl (fun u => ?h1) ?_
      case h1 => go_simp; rfl
      simp only [Act.put, List.setIfInBounds_toArray, List.set_cons_zero, List.set_cons_succ]
      refine mono_val ?v2 rfl (fun u => ?h2) ?_
      case h2 => go_simp; rfl
      simp only [Act.put, List.setIfInBounds_toArray, List.set_cons_zero, List.set_cons_succ]
      refine mono_val ?v3 rfl (fun u => ?h3) ?_
      case h3 => go_simp; rfl
      simp only [Act.put, List.setIfInBounds_toArray, List.set_cons_zero, List.set_cons_succ]
      refine mono_nil ?_
      intro g wc hB hg hb
      simp only [Act.put, List.setIfInBounds_toArray, List.set_cons_zero, List.set_cons_succ]
      have N1 := (hB.block _ hN).trans (heap_alloc_new _ _)
      have HB : Below w.heap.size w wc := ((Below.refl _ _).alloc (Nat.le_refl _) _).trans (hB.mono (by simp))
      simp only [World.size_alloc] at hg
      clear hB
      have N1' := hid N1
      clear N1 hN
      go_wp2_with (first
        | (refine wpList_store_row rfl 55 (.tmp 4) (.tmp 15) rfl g #[.string s, .int .u8 l, .int .u32 p, .int .u32 f3, .int .u32 f7] rfl rfl 55 _ hb info55 rfl (formRow_one ..) ?_))
      go_meet
      case rel => exact ⟨g, rfl, setRow_heap _ _ _ _ _ _ hb, by omega, by rw [setRow_other _ _ _ _ (by omega)]; exact N1'.out, below_setRow HB (by omega) _⟩
    case rest =>
      obtain ⟨g, rfl, hg, hgs, hN, HB⟩ := hcut
      have L1 : w.heap.size < wc.heap.size := blk_lt' hN
      have L2 : g < wc.heap.size := blk_lt' hg
      have a0 : wc.cell? ⟨w.heap.size, 0, none⟩ = some (.int .i64 i) := by rw [cell_of_row wc _ _ _ _ _ hN]; rfl
      have a1 : wc.cell? ⟨w.heap.size, 1, none⟩ = some (.int .i64 d) := by rw [cell_of_row wc _ _ _ _ _ hN]; rfl
      have a2 : wc.cell? ⟨w.heap.size, 2, none⟩ = some (.int .i64 a) := by rw [cell_of_row wc _ _ _ _ _ hN]; rfl
      have a3 : wc.cell? ⟨w.heap.size, 3, none⟩ = some (.int .i64 b) := by rw [cell_of_row wc _ _ _ _ _ hN]; rfl
      have a4 : wc.cell? ⟨w.heap.size, 4, none⟩ = some (.int .i64 n) := by rw [cell_of_row wc _ _ _ _ _ hN]; rfl
      have b1 : wc.cell? ⟨g, 1, none⟩ = some (.int .u8 l) := by rw [cell_of_row wc _ _ _ _ _ hg]; rfl
      have b2 : wc.cell? ⟨g, 2, none⟩ = some (.int .u32 p) := by rw [cell_of_row wc _ _ _ _ _ hg]; rfl
      have b3 : wc.cell? ⟨g, 3, none⟩ = some (.int .u32 f3) := by rw [cell_of_row wc _ _ _ _ _ hg]; rfl
      have b4 : wc.cell? ⟨g, 4, none⟩ = some (.int .u32 f7) := by rw [cell_of_row wc _ _ _ _ _ hg]; rfl
      have hrow' : ∃ s', formAt i = (s', l, p, f3, f7) := by
        simp only [rowCells, Array.mk.injEq, List.cons.injEq, Value.int.injEq, true_and, and_true] at hrow
        obtain ⟨_, e1, e2, e3, e4⟩ := hrow
        exact ⟨(formAt i).1, by rw [← e1, ← e2, ← e3, ← e4]⟩
      obtain ⟨s', hrow'⟩ := hrow'
      have Hrow := hid hrow'
      have Hv := hid hv
      rcases hD : decN (encN i d a b n) with ⟨⟨o', d', a', b', n'⟩, ok⟩
      have HD := hid hD
      have hXlt := encN_lt i d a b n
      clear hg hN hix hrow hd hrow' hv hD
      go_wp2_with fail
      refine wp_region_quiet_in (fun w' => ∃ u, w' = aft wc u) (by kernel_rfl) (by kernel_rfl) (aft_drew _) ?_
      repeat (go_big_quiet_step (first
        | (go_at_call 30; exact aft_call (laid_any l n _))
        | (go_at_call_of 31 (Value.int IntKind.i64 7); exact aft_callq (placed_any d 7 _ (by omega)))
        | (go_at_call_of 31 (Value.int IntKind.i64 15); exact aft_callq (placed_any a 15 _ (by omega)))
        | (go_at_call_of 31 (Value.int IntKind.i64 20); exact aft_callq (placed_any b 20 _ (by omega)))))
      refine wpQuiet_nil ?_
      rintro w5 ⟨u, rfl⟩
      go_upto_block 0 with (fail)
      go_cut [5] (fun v5 wd => v5 = .int .u32 (encN i d a b n) ∧ ∃ u, wd = aft wc u)
      case first =>
        clear HD
        go_wp2
        all_goals
          go_meet
          case rel =>
            refine ⟨?_, u, rfl⟩
            rw [Value.int.injEq]
            refine ⟨rfl, ?_⟩
            unfold encN
            rw [Int.toNat_of_nonneg (encI_range _ _ _ _ _).1, Int.toNat_natCast, Hrow.out]
            unfold encI
            simp_all
      case rest =>
        obtain ⟨rfl, u, rfl⟩ := hcut
        clear b1 b2 b3 b4 Hrow
        go_wp2_with fail
        refine (decode_at _ (encN i d a b n) _ _ _ _ _ _ rfl hXlt HD.out _).mono ?_
        rintro e w6 ⟨rfl, hb6⟩
        obtain ⟨u6, rfl⟩ := aft_of ((aft_below wc u).trans (hb6.mono (aft_size wc u)))
        have L3 : w.heap.size < (aft wc u6).heap.size := Nat.lt_of_lt_of_le L1 (aft_size wc u6)
        have L4 : (aft wc u6).heap.size ≠ w.heap.size := by omega
        have HB6 : Below w.heap.size w (aft wc u6) := HB.trans ((aft_below wc u6).mono (by omega))
        clear hb6 HB L2 hgs
        cases ok
        · go_wp2
          go_ret2
          exact ⟨by rw [Hv.out, HD.out, if_neg (by simp)]; rfl, HB6.alloc HB6.size _⟩
        · by_cases hq : o' = i ∧ d' = d ∧ a' = a ∧ b' = b ∧ n' = n
          · obtain ⟨rfl, rfl, rfl, rfl, rfl⟩ := hq
            go_wp2
            go_ret2
            exact ⟨by rw [Hv.out, HD.out, if_pos rfl]; rfl, HB6.alloc HB6.size _⟩
          · have hq2 : ¬(((o', d', a', b', n'), true) = (((i : Int), d, a, b, n), true)) := fun e => by
              simp only [Prod.mk.injEq, and_true] at e
              exact hq e
            have Hq2 := hid hq2
            have Hq := hid hq
            clear hq hq2
            go_wp2
            all_goals first
              | exact absurd ⟨‹o' = (i : Int)›, ‹d' = d›, ‹a' = a›, ‹b' = b›, ‹n' = n›⟩ Hq.out
              | (go_ret2; exact ⟨by rw [Hv.out, HD.out, if_neg Hq2.out]; rfl, HB6.alloc HB6.size _⟩)
  · have hd : decide (0 ≤ o ∧ o < 64) = false := decide_eq_false h
    have hv : encV o d a b n = (0, false) := by unfold encV; rw [if_neg (fun q => h ⟨q.1, q.2.1⟩)]
    rw [hv]
    clear hv h
    unfold instCells
    go_enter Try.func12, Try.ntmps12
    go_wp2_with (first
      | (go_at_call 29; refine (there_any _ _).mono ?_; rintro e w3 ⟨rfl, rfl⟩; rw [hd]))
    go_ret2
    exact ⟨rfl, (Below.refl _ _).alloc (Nat.le_refl _) _⟩
end
end Go.Proofs.Ytoljkjnehcbbaaa
