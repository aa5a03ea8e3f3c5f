/- The law's own word first: speaks. -/
import Derived.Test.YtiemingpbommeaaGreatDoorGn
import Derived.Test.YtiemingpbommeaaGreatDoorGp
namespace Go.Proofs.YtiemingpbommeaaGreatDoor
open Go Go.RowKit
noncomputable section
set_option linter.unusedVariables false
set_option linter.unusedSimpArgs false
theorem SetIs.nil (w : World) : SetIs w (.slice none 0 0) [] := World.ownsRow_nil ..
/-- a space of one page, that was mapped first -/
theorem map_first (sp m : Nat) (q : Int) (a p hi : Nat) (w : World) (hS : SpaceIs w sp m (.slice none 0 0) q []) (hf : Fine a 1 p) (hhi : a + 1 * 256 = hi) (hq : 1 ≤ q) :
    Calls Tryz.prog 10 #[.pointer (some ⟨sp, 0, none⟩), .int .u64 a, .int .i64 (1 : Nat), .int .i64 p] w (MapPost sp m (.slice none 0 0) q [] [] a 1 p hi w) :=
  map_any sp m (.slice none 0 0) q [] [] a 1 p hi w hS (SetIs.nil w) hf hhi (fun i hi => by simp at hi) (fun i hi => by simp at hi) (by simp) (by simpa using hq) (by simp) (by simp)
def spkBytes : List UInt8 := [19, 5, 80, 0, 115, 0, 0, 0]
def spkM : List Pg := (pokeN [zeroPg 1 65536] 65536 spkBytes).1
def spkX : List Nat := List.replicate 32 0
theorem spk_poke : (pokeN [zeroPg 1 65536] 65536 spkBytes).2 = (0, 0) := by kernel_rfl
theorem spk_n : (runN 9 0 spkM spkX 65536).n = 2 := by kernel_rfl
theorem spk_ev : (runN 9 0 spkM spkX 65536).ev = 1 := by kernel_rfl
theorem spk_code : (runN 9 0 spkM spkX 65536).code = 0 := by kernel_rfl
theorem spk_pc : (runN 9 0 spkM spkX 65536).pc = 65544 := by kernel_rfl
theorem spk_x : getR (runN 9 0 spkM spkX 65536).X 10 = 5 := by kernel_rfl
theorem spk_regs : Regs spkX := ⟨rfl, by intro n hn; rw [List.eq_of_mem_replicate hn]; decide⟩
theorem runN_regs : ∀ (r k : Nat) (M : List Pg) {X : List Nat} (hX : Regs X) (pc : Nat), Regs (runN r k M X pc).X
  | 0, k, M, X, hX, pc => by
    unfold runN
    split <;> exact hX.set 0 0 (by decide)
  | r + 1, k, M, X, hX, pc => by
    have h0 := hX.set 0 0 (by decide)
    have h1 := stepN_regs M h0 pc
    unfold runN
    simp only
    split
    · split
      · exact h0
      · split
        · exact runN_regs r (k + 1) _ h1 _
        · exact h1
    · exact h0
set_option maxHeartbeats 4000000 in
set_option maxRecDepth 100000 in
theorem speaks_any (w : World) (hL : Low w []) :
    Calls Tryz.prog 8 #[] w fun e w' => e = .returned (.bool true) ∧ Below w.heap.size w w' := by
  have HL := hid hL
  clear hL
  go_enter Tryz.func8, Tryz.ntmps8
  go_wp2_with fail
  refine (new_any 2 (by decide) _).mono ?_
  rintro e w1 ⟨sp, m, rfl, hS, hb1, hsp, hm⟩
  have HS := hid hS
  have B1 := hid hb1
  have Hsp := hid hsp
  have Hm := hid hm
  clear hS hb1 hsp hm
  go_wp2_with fail
  refine (map_first sp m 2 65536 1 65792 _ HS.out ⟨by decide, by decide, by decide, by decide, by decide⟩ rfl (by decide)).mono ?_
  rintro e w2 ⟨rfl, v, qs, hS2, hqs, hbl, _, hk2, _⟩
  have K2 := hid ((Keep.of_below (S := [sp, m]) B1.out).trans (hk2.mono (by intro k hk; simpa [ownB, Value.ownBlock] using hk)))
  have HS2 := hid hS2
  have Hqs := hid hqs
  have Hbl := hid (fun b hb => Nat.le_trans B1.out.size (hbl b hb))
  clear hS2 hqs hbl hk2
  have hps : pgs ([] ++ qs) = [zeroPg 1 65536] := by rw [List.nil_append, Hqs.out]; rfl
  obtain ⟨ps2, hp2⟩ : ∃ ps2, [] ++ qs = ps2 := ⟨_, rfl⟩
  rw [hp2] at HS2 hps
  have Hps := hid hps
  have Hbl2 : Hid (∀ b ∈ blks ps2, w.heap.size ≤ b) := hid (by rw [← hp2, List.nil_append]; exact Hbl.out)
  clear hps hp2 Hbl Hqs
  go_wp2_with fail
  refine (poke_any sp m v 2 ps2 65536 spkBytes _ (by decide) (by decide) HS2.out).mono ?_
  rintro e w3 ⟨rfl, ps3, hM3, hb3, hS3, hk3⟩
  rw [Hps.out] at hM3 ⊢
  rw [spk_poke]
  have HM3 : Hid (pgs ps3 = spkM) := hid hM3
  have HS3 := hid hS3
  have Hb3 := hid hb3
  have Hbl3 : Hid (∀ b ∈ blks ps3, w.heap.size ≤ b) := hid (by rw [hb3]; exact Hbl2.out)
  have K3 : Hid (Keep [] w w3) := hid (((K2.out.mono (T := sp :: m :: blks ps2) (by intro k hk; simp at hk; rcases hk with rfl | rfl <;> simp)).trans (hk3.mono (by intro k hk; simp [hk]))).old (by
    intro k hk hlt
    simp only [List.mem_cons] at hk
    have h1 := Hsp.out
    have h2 := Hm.out
    rcases hk with rfl | rfl | hk
    · omega
    · omega
    · have := Hbl2.out k hk; omega))
  clear hM3 hS3 hb3 hk3 K2 HS2 Hps
  go_wp2_with fail
  refine (ok_zero _ _ _).mono ?_
  rintro e w4 ⟨rfl, hb4⟩
  have HS4 := hid (HS3.out.below hb4)
  have K4 : Hid (Keep [] w w4) := hid (K3.out.trans (Keep.of_below hb4))
  have HL4 : Hid (Low w4 (blks ps3)) := hid (by
    have h := HL.out.keep K4.out
    exact ⟨h.names, h.max, h.sz, fun b hb => by have := Hbl3.out b hb; have := HL.out.sz; omega⟩)
  clear hb4 K3 HS3
  have hrun := run_any sp m v 2 ps3 spkX 65536 9 w4 HS4.out spk_regs HL4.out (by decide)
  rw [HM3.out] at hrun
  have hn := spk_n
  have hev := spk_ev
  have hcode := spk_code
  have hpc := spk_pc
  have hx := spk_x
  have hreg := runN_regs 9 0 spkM spk_regs 65536
  rw [show (9 : Int).toNat = 9 from rfl] at hrun
  obtain ⟨R, hR⟩ : ∃ R, runN 9 0 spkM spkX 65536 = R := ⟨_, rfl⟩
  rw [hR] at hrun hn hev hcode hpc hx hreg
  have Hn := hid hn
  have Hev := hid hev
  have Hcode := hid hcode
  have Hpc := hid hpc
  have Hx := hid hx
  have Hreg := hid hreg
  clear hn hev hcode hpc hx hreg hR
  unfold RunPost at hrun
  have Hrun := hid hrun
  clear hrun
  go_upto_region 4 with (fail)
  apply wp_region_lit
  refine wpList_val (w' := w4) (.pointer (some ⟨sp, 0, none⟩)) rfl (by kernel_rfl) ?_
  simp only [Act.put, List.setIfInBounds_toArray, List.set_cons_zero, List.set_cons_succ]
  refine wpList_val (w' := w4) (.agg (stCells spkX 65536)) rfl (by kernel_rfl) ?_
  simp only [Act.put, List.setIfInBounds_toArray, List.set_cons_zero, List.set_cons_succ]
  refine wpList_call (.tuple #[.agg (stCells R.X R.pc), .int .i64 R.n, .int .i64 R.ev, fltV R.code R.fat]) _ (f := 21) (args := #[.pointer (some ⟨sp, 0, none⟩), .agg (stCells spkX 65536), .int .i64 9]) rfl (by kernel_rfl) Hrun.out ?_
  rintro w5 ⟨ps5, _, _, _, hk5⟩
  have K5 : Hid (Keep [] w w5) := hid (((K4.out.mono (T := blks ps3) (by simp)).trans hk5).old (by intro k hk hlt; have := Hbl3.out k hk; omega))
  clear hk5
  simp only [Act.put, List.setIfInBounds_toArray, List.set_cons_zero, List.set_cons_succ]
  refine wpList_val (w' := w5) (.tuple #[.agg (stCells R.X R.pc), .int .i64 R.n, .int .i64 R.ev, fltV R.code R.fat]) rfl (by kernel_rfl) ?_
  simp only [Act.put, List.setIfInBounds_toArray, List.set_cons_zero, List.set_cons_succ]
  refine wpList_val (w' := w5) (.agg (stCells R.X R.pc)) rfl (by kernel_rfl) ?_
  simp only [Act.put, List.setIfInBounds_toArray, List.set_cons_zero, List.set_cons_succ]
  refine wpList_val (w' := w5) (.int .i64 R.n) rfl (by kernel_rfl) ?_
  simp only [Act.put, List.setIfInBounds_toArray, List.set_cons_zero, List.set_cons_succ]
  refine wpList_val (w' := w5) (.int .i64 R.ev) rfl (by kernel_rfl) ?_
  simp only [Act.put, List.setIfInBounds_toArray, List.set_cons_zero, List.set_cons_succ]
  refine wpList_val (w' := w5) (fltV R.code R.fat) rfl (by kernel_rfl) ?_
  simp only [Act.put, List.setIfInBounds_toArray, List.set_cons_zero, List.set_cons_succ]
  obtain ⟨W6, hW6, S11, S13, RB, h1, h2⟩ := two_new w5 36 31 zst #[.int .i64 0, .int .u64 0, .string ⟨#[]⟩] (stCells R.X R.pc) #[.int .i64 R.code, .int .u64 R.fat, .string ⟨#[]⟩]
  have S11 := hid S11
  have S13 := hid S13
  have K6 : Hid (Keep [] w W6) := hid (K5.out.trans (Keep.of_below RB))
  obtain ⟨WA, hWA⟩ : ∃ WA, w5.alloc (.cells zst 36) = WA := ⟨_, rfl⟩
  have hsA : WA.heap.size = w5.heap.size + 1 := by rw [← hWA]; simp
  refine wpList_val (w' := w5.alloc (.cells zst 36)) (.pointer (some ⟨w5.heap.size, 0, none⟩)) rfl (by kernel_rfl) ?_
  simp only [Act.put, List.setIfInBounds_toArray, List.set_cons_zero, List.set_cons_succ]
  rw [hWA]
  rw [hWA] at h1 h2 hW6
  refine wpList_val (w' := WA.alloc (.cells #[.int .i64 0, .int .u64 0, .string ⟨#[]⟩] 31)) (.pointer (some ⟨WA.heap.size, 0, none⟩)) rfl (by kernel_rfl) ?_
  simp only [Act.put, List.setIfInBounds_toArray, List.set_cons_zero, List.set_cons_succ]
  rw [hsA]
  refine wpList_store_row rfl 36 (.tmp 3) (.tmp 28) rfl w5.heap.size (stCells R.X R.pc) rfl rfl 36 zst h1 (infoState Hreg.out R.pc) (stCells_size Hreg.out _).symm (stCells_one _ _) ?_
  simp only [Act.put, List.setIfInBounds_toArray, List.set_cons_zero, List.set_cons_succ]
  refine wpList_val (w' := (WA.alloc (.cells #[.int .i64 0, .int .u64 0, .string ⟨#[]⟩] 31)).setRow w5.heap.size (stCells R.X R.pc)) (.int .i64 R.n) rfl (by kernel_rfl) ?_
  simp only [Act.put, List.setIfInBounds_toArray, List.set_cons_zero, List.set_cons_succ]
  refine wpList_val (w' := (WA.alloc (.cells #[.int .i64 0, .int .u64 0, .string ⟨#[]⟩] 31)).setRow w5.heap.size (stCells R.X R.pc)) (.int .i64 R.ev) rfl (by kernel_rfl) ?_
  simp only [Act.put, List.setIfInBounds_toArray, List.set_cons_zero, List.set_cons_succ]
  refine wpList_store_row rfl 31 (.tmp 6) (.tmp 31) rfl (w5.heap.size + 1) #[.int .i64 R.code, .int .u64 R.fat, .string ⟨#[]⟩] rfl rfl 31 #[.int .i64 0, .int .u64 0, .string ⟨#[]⟩] h2 infoFault rfl (faultRow_one ..) ?_
  simp only [Act.put, List.setIfInBounds_toArray, List.set_cons_zero, List.set_cons_succ]
  rw [hW6]
  clear hW6 h1 h2 RB hWA hsA K5
  generalize w5.heap.size = G at S11 S13 ⊢
  have q0 : W6.cell? ⟨G + 1, 0, none⟩ = some (.int .i64 0) := by rw [cell_of_row W6 _ _ _ _ _ S13.out, Hcode.out]; rfl
  have q1 : W6.cell? ⟨G + 1, 1, none⟩ = some (.int .u64 R.fat) := by rw [cell_of_row W6 _ _ _ _ _ S13.out]; rfl
  have q2 : W6.cell? ⟨G + 1, 2, none⟩ = some (.string ⟨#[]⟩) := by rw [cell_of_row W6 _ _ _ _ _ S13.out]; rfl
  go_wp2_with fail
  refine (ok_zero _ _ _).mono ?_
  rintro e V ⟨rfl, hb⟩
  have Q11 : StIs V G R.X R.pc := (hb.block _ (blk_lt' S11.out)).trans S11.out
  have K7 : Hid (Keep [] w V) := hid (K6.out.trans (Keep.of_below hb))
  have r10 := Q11.cell Hreg.out (show 10 < 32 by decide)
  have r32 := Q11.cellPc Hreg.out
  rw [Hx.out] at r10
  rw [Hpc.out] at r32
  clear hb q0 q1 q2 S11 S13 Q11
  rw [Hn.out, Hev.out]
  go_wp2_with fail
  go_ret
  exact ⟨rfl, K7.out.below (Nat.le_refl _) (by simp)⟩
end
end Go.Proofs.YtiemingpbommeaaGreatDoor
