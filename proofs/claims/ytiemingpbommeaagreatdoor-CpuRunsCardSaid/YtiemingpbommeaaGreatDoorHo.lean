/- Row CpuRuns: the law's own function, walked. -/
import Derived.Test.YtiemingpbommeaaGreatDoorHn
import Derived.Deep.MidRow
namespace Go.Proofs.YtiemingpbommeaaGreatDoor
open Go Go.RowKit
noncomputable section
set_option linter.unusedVariables false
set_option linter.unusedSimpArgs false

set_option maxHeartbeats 4000000 in
set_option maxRecDepth 100000 in
theorem cpuRuns_any (v u : Value) (fu : Int) (w : World) (hv : Codes w v) (hu : U64s w u) (hfu : fu < 9223372036854775808) (hL : Low w []) :
    Calls Tryz.prog 6 #[v, u, .int .i64 fu] w fun e w' => e = .returned (.bool true) ∧ Below w.heap.size w w' := by
  have HL := hid hL
  have HV := hid hv
  have HU := hid hu
  clear hL hv hu
  go_enter Tryz.func6, Tryz.ntmps6
  go_wp2_with fail
  refine (speaks_any _ HL.out).mono ?_
  rintro e w0 ⟨rfl, hb0⟩
  have K0 := hid (Keep.of_below (S := []) hb0)
  clear hb0
  go_wp2_with fail
  refine (begun_any v 1 6 w0 (HV.out.keep K0.out)).mono ?_
  rintro e w1 ⟨sp, m, sl, rsl, ps, T, hT, rfl, hS, hM, hR, hbl, hsp, hm, hb1⟩
  rw [show prmX 1 = 1 from rfl, show prm 6 = 6 from rfl] at hM hR
  obtain ⟨q1, c1, hr1, _, _⟩ := hR.parts
  generalize (layN (threeM 1 6) 65536 T).length = n1 at hr1
  subst hr1
  have HS := hid hS
  have HM := hid hM
  have K1 := hid (K0.out.trans (Keep.of_below hb1))
  have Hbl : Hid (∀ b ∈ blks ps, w.heap.size ≤ b) := hid (fun b hb => Nat.le_trans K0.out.size (hbl b hb))
  clear hS hM hR hbl hsp hm hb1 K0
  go_wp2_with fail
  obtain ⟨w2, hw2⟩ : ∃ w2, w1.alloc (.cells #[.slice q1 n1 c1, .int .i64 4] 54) = w2 := ⟨_, rfl⟩
  have hb2 : Below w1.heap.size w1 w2 := by rw [← hw2]; exact (Below.refl _ _).alloc (Nat.le_refl _) _
  rw [hw2]
  have hS2 := HS.out.below hb2
  have K2 := hid (K1.out.trans (Keep.of_below hb2))
  refine (copy_any sp m sl 4 ps w2 hS2 (three_of_laid HM.out)).mono ?_
  rintro e w3 ⟨c, m2, slc, qs, rfl, hSc, heq, hbq, hc, hm2, hb3⟩
  have HS3 := hid (hS2.below hb3)
  have HSc := hid hSc
  have Heq := hid heq
  have K3 := hid (K2.out.trans (Keep.of_below hb3))
  have Hbq : Hid (∀ b ∈ blks qs, w2.heap.size ≤ b) := hid hbq
  have Hcm : Hid (w2.heap.size ≤ c ∧ w2.heap.size ≤ m2) := hid ⟨hc, hm2⟩
  have Hlt : Hid (∀ b ∈ blks ps, b < w2.heap.size) := hid (fun b hb => hS2.lt_blk hb)
  have Hspm : Hid (sp < w2.heap.size ∧ m < w2.heap.size) := hid ⟨blk_lt' hS2.row, blk_lt' hS2.map⟩
  have Hw2 : Hid (w.heap.size ≤ w2.heap.size) := hid K2.out.size
  clear hw2 hb2 hS2 hSc heq hbq hc hm2 hb3 HS K1 K2
  obtain ⟨F, hF⟩ : ∃ F : Int, min fu 200 = F := ⟨_, rfl⟩
  have HF : Hid (F < 9223372036854775808 ∧ F ≤ 200) := hid (by omega)
  have Hc3 : Hid (c < w3.heap.size ∧ m2 < w3.heap.size ∧ ∀ b ∈ blks qs, b < w3.heap.size) := hid ⟨blk_lt' HSc.out.row, blk_lt' HSc.out.map, fun b hb => HSc.out.lt_blk hb⟩
  have Hw3 : Hid (w2.heap.size ≤ w3.heap.size) := hid (by have h1 := Hcm.out.1; have h2 := Hc3.out.1; omega)
  go_upto_region 8 with (fail)
  clear hF
  apply wp_region_lit
  refine wpList_val (w' := w3) (u) rfl (by kernel_rfl) ?_
  simp only [Act.put, List.setIfInBounds_toArray, List.set_cons_zero, List.set_cons_succ]
  refine wpList_callE (fun v w'' => ∃ X, Regs X ∧ v = .agg (ucells X) ∧ Below w3.heap.size w3 w'') (f := 17) (args := #[u]) rfl (by kernel_rfl) ((registers_any u w3 (HU.out.keep K3.out)).mono (fun e w'' ⟨X, h1, h2, h3⟩ => ⟨_, h2, X, h1, rfl, h3⟩)) ?_
  rintro v4 w4 ⟨X, hX, rfl, hb4⟩
  simp only [Act.put, List.setIfInBounds_toArray, List.set_cons_zero, List.set_cons_succ]
  have HX := hid hX
  have HS4 := hid (HS3.out.below hb4)
  have HSc4 := hid (HSc.out.below hb4)
  have K4 := hid (K3.out.trans (Keep.of_below hb4))
  have Hs34 : Hid (w3.heap.size ≤ w4.heap.size) := hid hb4.size
  clear hb4 hX HS3 HSc K3
  refine wpList_val (w' := w4) (.agg (stCells X 65536)) rfl (exec_build rfl (Eq.trans (by kernel_rfl) (built_state HX.out 65536))) ?_
  simp only [Act.put, List.setIfInBounds_toArray, List.set_cons_zero, List.set_cons_succ]
  obtain ⟨w5, hw5, hg5, hb5⟩ := new_row w4 (stCells X 65536) zst 36
  refine wpList_val (w' := w4.alloc (.cells zst 36)) (.pointer (some ⟨w4.heap.size, 0, none⟩)) rfl (by kernel_rfl) ?_
  simp only [Act.put, List.setIfInBounds_toArray, List.set_cons_zero, List.set_cons_succ]
  refine wpList_store_row rfl 36 (.tmp 11) (.tmp 37) rfl w4.heap.size (stCells X 65536) rfl rfl 36 zst (heap_alloc_new _ _) (infoState HX.out 65536) (stCells_size HX.out 65536).symm (stCells_one _ _) ?_
  simp only [Act.put, List.setIfInBounds_toArray, List.set_cons_zero, List.set_cons_succ]
  rw [hw5]
  have HS5 := hid (HS4.out.below hb5)
  have HSc5 := hid (HSc4.out.below hb5)
  have K5 := hid (K4.out.trans (Keep.of_below hb5))
  have S5 := hid hg5
  have Hs45 : Hid (w4.heap.size < w5.heap.size) := hid (blk_lt' hg5)
  clear hw5 hg5 hb5 HS4 HSc4 K4
  go_upto_region 9 with (fail)
  apply wp_region_lit
  refine wpList_val (w' := w5) (.pointer (some ⟨sp, 0, none⟩)) rfl (by kernel_rfl) ?_
  simp only [Act.put, List.setIfInBounds_toArray, List.set_cons_zero, List.set_cons_succ]
  refine wpList_load_row rfl 36 (.tmp 11) rfl w4.heap.size rfl 36 (stCells X 65536) (0, 0) _ S5.out Tryz.underlying36 rfl (infoState HX.out 65536) ?_
  simp only [Act.put, List.setIfInBounds_toArray, List.set_cons_zero, List.set_cons_succ]
  refine wpList_val (w' := w5) (.int .i64 F) rfl (by kernel_rfl) ?_
  simp only [Act.put, List.setIfInBounds_toArray, List.set_cons_zero, List.set_cons_succ]
  have HL5 : Hid (Low w5 (blks ps)) := hid (by
    have h := HL.out.keep K5.out
    exact ⟨h.names, h.max, h.sz, fun b hb => by have := Hbl.out b hb; have := HL.out.sz; omega⟩)
  have hrun := run_any sp m sl 4 ps X 65536 F w5 HS5.out HX.out HL5.out HF.out.1
  have hreg := runN_regs F.toNat 0 (pgs ps) HX.out 65536
  have hmap := runN_map F.toNat 0 (pgs ps) X 65536
  obtain ⟨R, hR⟩ : ∃ R, runN F.toNat 0 (pgs ps) X 65536 = R := ⟨_, rfl⟩
  rw [hR] at hrun hreg hmap
  have Hreg := hid hreg
  have Hmap := hid hmap
  have HR := hid hR
  clear hR hreg hmap
  unfold RunPost at hrun
  refine wpList_call (.tuple #[.agg (stCells R.X R.pc), .int .i64 R.n, .int .i64 R.ev, fltV R.code R.fat]) _ (f := 21) (args := #[.pointer (some ⟨sp, 0, none⟩), .agg (stCells X 65536), .int .i64 F]) rfl (by kernel_rfl) hrun ?_
  rintro w6 ⟨ps6, hM6, hb6, hS6, hk6⟩
  simp only [Act.put, List.setIfInBounds_toArray, List.set_cons_zero, List.set_cons_succ]
  have HM6 := hid hM6
  have HS6 := hid hS6
  have Hb6 := hid hb6
  have HSc6 := hid (HSc5.out.kept hk6 (fun h => by have := Hlt.out _ h; have := Hcm.out.1; omega) (fun h => by have := Hlt.out _ h; have := Hcm.out.2; omega) (fun b hb h => by have := Hlt.out _ h; have := Hbq.out _ hb; omega))
  have K6 : Hid (Keep [] w w6) := hid (((K5.out.mono (T := blks ps) (by simp)).trans hk6).old (by intro k hk hlt; have := Hbl.out k hk; omega))
  have S6 : Hid (StIs w6 w4.heap.size X 65536) := hid (hk6.row S5.out (fun h => by have := Hlt.out _ h; have := Hw3.out; have := Hs34.out; omega))
  have Hs56 : Hid (w5.heap.size ≤ w6.heap.size) := hid hk6.size
  clear hrun hM6 hb6 hS6 hk6 HS5 HSc5 K5 HL5 S5
  refine wpList_val (w' := w6) (.tuple #[.agg (stCells R.X R.pc), .int .i64 R.n, .int .i64 R.ev, fltV R.code R.fat]) rfl (by kernel_rfl) ?_
  simp only [Act.put, List.setIfInBounds_toArray, List.set_cons_zero, List.set_cons_succ]
  refine wpList_val (w' := w6) (.agg (stCells R.X R.pc)) rfl (by kernel_rfl) ?_
  simp only [Act.put, List.setIfInBounds_toArray, List.set_cons_zero, List.set_cons_succ]
  refine wpList_val (w' := w6) (.int .i64 R.n) rfl (by kernel_rfl) ?_
  simp only [Act.put, List.setIfInBounds_toArray, List.set_cons_zero, List.set_cons_succ]
  refine wpList_val (w' := w6) (.int .i64 R.ev) rfl (by kernel_rfl) ?_
  simp only [Act.put, List.setIfInBounds_toArray, List.set_cons_zero, List.set_cons_succ]
  refine wpList_val (w' := w6) (fltV R.code R.fat) rfl (by kernel_rfl) ?_
  simp only [Act.put, List.setIfInBounds_toArray, List.set_cons_zero, List.set_cons_succ]
  obtain ⟨W7, hW6, S11, S13, RB, h1, h2⟩ := two_new w6 36 31 zst #[.int .i64 0, .int .u64 0, .string ⟨#[]⟩] (stCells R.X R.pc) #[.int .i64 R.code, .int .u64 R.fat, .string ⟨#[]⟩]
  have T12 := hid S11
  have T15 := hid S13
  have K7 : Hid (Keep [] w W7) := hid (K6.out.trans (Keep.of_below RB))
  have RBk : Below w6.heap.size w6 W7 := RB
  obtain ⟨WA, hWA⟩ : ∃ WA, w6.alloc (.cells zst 36) = WA := ⟨_, rfl⟩
  have hsA : WA.heap.size = w6.heap.size + 1 := by rw [← hWA]; simp
  refine wpList_val (w' := w6.alloc (.cells zst 36)) (.pointer (some ⟨w6.heap.size, 0, none⟩)) rfl (by kernel_rfl) ?_
  simp only [Act.put, List.setIfInBounds_toArray, List.set_cons_zero, List.set_cons_succ]
  rw [hWA]
  rw [hWA] at h1 h2 hW6
  refine wpList_val (w' := WA.alloc (.cells #[.int .i64 0, .int .u64 0, .string ⟨#[]⟩] 31)) (.pointer (some ⟨WA.heap.size, 0, none⟩)) rfl (by kernel_rfl) ?_
  simp only [Act.put, List.setIfInBounds_toArray, List.set_cons_zero, List.set_cons_succ]
  rw [hsA]
  refine wpList_store_row rfl 36 (.tmp 12) (.tmp 43) rfl w6.heap.size (stCells R.X R.pc) rfl rfl 36 zst h1 (infoState Hreg.out R.pc) (stCells_size Hreg.out _).symm (stCells_one _ _) ?_
  simp only [Act.put, List.setIfInBounds_toArray, List.set_cons_zero, List.set_cons_succ]
  refine wpList_val (w' := (WA.alloc (.cells #[.int .i64 0, .int .u64 0, .string ⟨#[]⟩] 31)).setRow w6.heap.size (stCells R.X R.pc)) (.int .i64 R.n) rfl (by kernel_rfl) ?_
  simp only [Act.put, List.setIfInBounds_toArray, List.set_cons_zero, List.set_cons_succ]
  refine wpList_val (w' := (WA.alloc (.cells #[.int .i64 0, .int .u64 0, .string ⟨#[]⟩] 31)).setRow w6.heap.size (stCells R.X R.pc)) (.int .i64 R.ev) rfl (by kernel_rfl) ?_
  simp only [Act.put, List.setIfInBounds_toArray, List.set_cons_zero, List.set_cons_succ]
  refine wpList_store_row rfl 31 (.tmp 15) (.tmp 46) rfl (w6.heap.size + 1) #[.int .i64 R.code, .int .u64 R.fat, .string ⟨#[]⟩] rfl rfl 31 #[.int .i64 0, .int .u64 0, .string ⟨#[]⟩] h2 infoFault rfl (faultRow_one ..) ?_
  simp only [Act.put, List.setIfInBounds_toArray, List.set_cons_zero, List.set_cons_succ]
  rw [hW6]
  clear hW6 h1 h2 RB hWA hsA K6 S11 S13
  have hp : ∃ p : Place, p = ⟨sp, m, sl, c, m2, slc, blks ps, blks qs, w4.heap.size, w6.heap.size⟩ := ⟨_, rfl⟩
  obtain ⟨p, hp⟩ := hp
  have Hok : Hid (p.Ok w) := hid (by
    have h1 := Hspm.out; have h2 := Hcm.out; have h3 := Hc3.out; have h4 := Hw2.out; have h5 := Hw3.out; have h6 := Hs34.out; have h7 := Hs45.out; have h8 := Hs56.out
    subst hp
    exact ⟨fun h => by have := Hbq.out _ h; simp only at *; omega, fun h => by have := Hbq.out _ h; simp only at *; omega, fun b hb h => by have := Hbq.out _ h; have := Hlt.out _ hb; omega, fun h => by have := h3.2.2 _ h; simp only at *; omega, fun h => by have := h3.2.2 _ h; simp only at *; omega,
      fun h => by have := h3.2.2 _ h; simp only at *; omega, by simp only; omega, by simp only; omega, by simp only; omega, fun h => by have := Hlt.out _ h; simp only at *; omega, by simp only; omega, by simp only; omega, fun b hb => by have := Hbq.out _ hb; omega, by simp only; omega⟩)
  have HW7 : Hid (RunsW p w R (pgs ps) X 65536 W7) := hid (by
    subst hp
    exact ⟨K7.out, (RBk.block _ (blk_lt' S6.out)).trans S6.out, T12.out, T15.out, ⟨ps6, HM6.out, Hb6.out, HS6.out.below RBk⟩, ⟨qs, Heq.out, rfl, HSc6.out.below RBk⟩⟩)
  have ep1 : sp = p.sp := by rw [hp]
  have ep2 : c = p.c := by rw [hp]
  have ep3 : w4.heap.size = p.g := by rw [hp]
  have ep4 : w6.heap.size = p.t := by rw [hp]
  have HT : Hid (Three ps) := hid (three_of_laid HM.out)
  rw [ep1, ep2, ep3, ep4]
  clear hp ep1 ep2 ep3 ep4 RBk HS6 HSc6 K7 S6 T12 T15 HM6 Hb6 Hs56 Hs45 Hs34 Hw2 Hw3 Hc3 Hlt Hspm Hcm Hbq Hbl Heq
  go_wp2_with fail
  go_loopw [16] (fun i wr => ∃ (k : Nat) (M : List Pg) (X : List Nat) (pc : Nat), i = .int .i64 k ∧ k ≤ F.toNat ∧ Regs X ∧ Hid (M.map (fun (g : Pg) => (g.a, g.p)) = (pgs ps).map (fun (g : Pg) => (g.a, g.p))) ∧ Hid (RunsW p w R M X pc wr) ∧ Hid (runN (F.toNat - k) k M X pc = R)) (fun i _ => F.toNat + 1 - (Go.RowKit.intOf i).toNat)
  case atStart => exact ⟨0, _, _, _, rfl, by omega, HX.out, hid rfl, HW7, HR⟩
  case round =>
    obtain ⟨k, M, X1, pc1, rfl, hk, hX1, HMM, HW, HRN⟩ := hrel
    have hF := HF.out.1
    have hF2 := HF.out.2
    have HX1 := hid hX1
    clear hX1
    have cg := HW.out.s.cellPc HX1.out
    by_cases hgo : (F ≤ k ∧ pc1 < 1099511627776)
    · have hg1 : F ≤ (k : Int) := hgo.1
      have hg2 : ((pc1 : Int) < 1099511627776) := by omega
      obtain ⟨e1, e2, e3, e4, e5, e6⟩ := run_out (k := k) (M := M) (X := X1) (pc := pc1) (R := R) (by have h := HRN.out; rwa [show F.toNat - k = 0 by omega] at h) hgo.2
      have ct : wr.cell? ⟨p.t, 32, none⟩ = some (.int .u64 pc1) := by have h := HW.out.t.cellPc Hreg.out; rwa [e2] at h
      have f0 : wr.cell? ⟨p.t + 1, 0, none⟩ = some (.int .i64 16) := by rw [cell_of_row _ _ _ _ _ _ HW.out.f, e5]; rfl
      have f1 : wr.cell? ⟨p.t + 1, 1, none⟩ = some (.int .u64 pc1) := by rw [cell_of_row _ _ _ _ _ _ HW.out.f, e6]; rfl
      have Hsame := hid (runs_same HW.out e1 Hmap.out HT.out)
      have KW := hid HW.out.keep
      rw [e3, e4]
      clear hgo e1 e2 e3 e4 e5 e6 HRN HW HMM
      go_wp2_with fail
      refine Hsame.out.mono ?_
      rintro e w9 ⟨rfl, hb9⟩
      go_wp2_with fail
      go_ret
      exact ⟨rfl, (KW.out.trans (Keep.of_below hb9)).below (Nat.le_refl _) (by simp)⟩
    · have hcond : ¬ F ≤ (k : Int) ∨ (F ≤ (k : Int) ∧ ¬ ((pc1 : Int) < 1099511627776)) := by omega
      have hno : ¬ (F.toNat - k = 0 ∧ pc1 < 1099511627776) := by omega
      obtain ⟨s, hs⟩ : ∃ s, stepN M X1 pc1 = s := ⟨_, rfl⟩
      clear hgo
      go_upto_region 11 with (fail)
      go_cut [47, 48, 49, 50, 51, 52, 53, 54] (fun v47 v48 v49 v50 v51 v52 v53 v54 wd => v54 = .bool false ∧ wd = wr)
      case first =>
        clear hs
        rcases hcond with h | ⟨h, h2⟩
        · go_wp2_with fail
          go_meet
          case rel => exact ⟨rfl, rfl⟩
        · go_wp2_with fail
          go_meet
          case rel => exact ⟨rfl, rfl⟩
      obtain ⟨rfl, rfl⟩ := hcut
      obtain ⟨qs1, hq1, hq2, hq3⟩ := HW.out.b
      have HLc : Low wc (blks qs1) := by
        have h := HL.out.keep HW.out.keep
        exact ⟨h.names, h.max, h.sz, fun b hb => by rw [hq2] at hb; have := Hok.out.lo b hb; have := HL.out.sz; omega⟩
      have hstep := step_any p.c p.m2 p.slc 4 qs1 X1 pc1 wc hq3 HX1.out HLc
      rw [hq1, hs] at hstep
      unfold StepPost at hstep
      have Hreg1 : Hid (Regs s.X) := hid (by rw [← hs]; exact stepN_regs M HX1.out pc1)
      have HMM1 : Hid (s.M.map (fun (g : Pg) => (g.a, g.p)) = (pgs ps).map (fun (g : Pg) => (g.a, g.p))) := hid (by rw [← hs, stepN_map]; exact HMM.out)
      have HNO := hid hno
      have HS := hid hs
      clear hs hno hcond HLc hq1 hq3 HMM
      have HQ2 := hid hq2
      clear hq2
      go_upto_region 13 with (fail)
      apply wp_region_lit
      refine wpList_val (w' := wc) (.pointer (some ⟨p.c, 0, none⟩)) rfl (by kernel_rfl) ?_
      simp only [Act.put, List.setIfInBounds_toArray, List.set_cons_zero, List.set_cons_succ]
      refine wpList_load_row rfl 36 (.tmp 11) rfl p.g rfl 36 (stCells X1 pc1) (0, 0) _ HW.out.s Tryz.underlying36 rfl (infoState HX1.out pc1) ?_
      simp only [Act.put, List.setIfInBounds_toArray, List.set_cons_zero, List.set_cons_succ]
      refine wpList_call (.tuple #[.agg (stCells s.X s.pc), .int .i64 s.ev, fltV s.code s.fat]) _ (f := 13) (args := #[.pointer (some ⟨p.c, 0, none⟩), .agg (stCells X1 pc1)]) rfl (by kernel_rfl) hstep ?_
      rintro W5 ⟨qs2, h1, h2, h3, h4⟩
      simp only [Act.put, List.setIfInBounds_toArray, List.set_cons_zero, List.set_cons_succ]
      have HW5 : Hid (RunsW p w R s.M X1 pc1 W5) := hid (RunsW.stepped Hok.out HW.out (by rw [← HQ2.out]; exact h4) ⟨qs2, h1, h2.trans HQ2.out, h3⟩)
      have K5 : Hid (Keep [] w W5) := hid HW5.out.keep
      clear hstep h1 h2 h3 h4 HW HQ2 cg
      refine wpList_val (w' := W5) (.tuple #[.agg (stCells s.X s.pc), .int .i64 s.ev, fltV s.code s.fat]) rfl (by kernel_rfl) ?_
      simp only [Act.put, List.setIfInBounds_toArray, List.set_cons_zero, List.set_cons_succ]
      refine wpList_val (w' := W5) (.agg (stCells s.X s.pc)) rfl (by kernel_rfl) ?_
      simp only [Act.put, List.setIfInBounds_toArray, List.set_cons_zero, List.set_cons_succ]
      refine wpList_val (w' := W5) (.int .i64 s.ev) rfl (by kernel_rfl) ?_
      simp only [Act.put, List.setIfInBounds_toArray, List.set_cons_zero, List.set_cons_succ]
      refine wpList_val (w' := W5) (fltV s.code s.fat) rfl (by kernel_rfl) ?_
      simp only [Act.put, List.setIfInBounds_toArray, List.set_cons_zero, List.set_cons_succ]
      obtain ⟨W6, hW6, S11, S13, RB, h1, h2⟩ := two_new W5 36 31 zst #[.int .i64 0, .int .u64 0, .string ⟨#[]⟩] (stCells s.X s.pc) #[.int .i64 s.code, .int .u64 s.fat, .string ⟨#[]⟩]
      have T17 := hid S11
      have T19 := hid S13
      have K6 : Hid (Keep [] w W6) := hid (K5.out.trans (Keep.of_below RB))
      have RBk : Below W5.heap.size W5 W6 := RB
      obtain ⟨WA, hWA⟩ : ∃ WA, W5.alloc (.cells zst 36) = WA := ⟨_, rfl⟩
      have hsA : WA.heap.size = W5.heap.size + 1 := by rw [← hWA]; simp
      refine wpList_val (w' := W5.alloc (.cells zst 36)) (.pointer (some ⟨W5.heap.size, 0, none⟩)) rfl (by kernel_rfl) ?_
      simp only [Act.put, List.setIfInBounds_toArray, List.set_cons_zero, List.set_cons_succ]
      rw [hWA]
      rw [hWA] at h1 h2 hW6
      refine wpList_val (w' := WA.alloc (.cells #[.int .i64 0, .int .u64 0, .string ⟨#[]⟩] 31)) (.pointer (some ⟨WA.heap.size, 0, none⟩)) rfl (by kernel_rfl) ?_
      simp only [Act.put, List.setIfInBounds_toArray, List.set_cons_zero, List.set_cons_succ]
      rw [hsA]
      refine wpList_store_row rfl 36 (.tmp 17) (.tmp 90) rfl W5.heap.size (stCells s.X s.pc) rfl rfl 36 zst h1 (infoState Hreg1.out s.pc) (stCells_size Hreg1.out _).symm (stCells_one _ _) ?_
      simp only [Act.put, List.setIfInBounds_toArray, List.set_cons_zero, List.set_cons_succ]
      refine wpList_val (w' := (WA.alloc (.cells #[.int .i64 0, .int .u64 0, .string ⟨#[]⟩] 31)).setRow W5.heap.size (stCells s.X s.pc)) (.int .i64 s.ev) rfl (by kernel_rfl) ?_
      simp only [Act.put, List.setIfInBounds_toArray, List.set_cons_zero, List.set_cons_succ]
      refine wpList_store_row rfl 31 (.tmp 19) (.tmp 92) rfl (W5.heap.size + 1) #[.int .i64 s.code, .int .u64 s.fat, .string ⟨#[]⟩] rfl rfl 31 #[.int .i64 0, .int .u64 0, .string ⟨#[]⟩] h2 infoFault rfl (faultRow_one ..) ?_
      simp only [Act.put, List.setIfInBounds_toArray, List.set_cons_zero, List.set_cons_succ]
      rw [hW6]
      clear hW6 h1 h2 RB hWA hsA K5 S11 S13
      have HW6 := hid (HW5.out.below RBk)
      clear RBk HW5 K6
      generalize W5.heap.size = G at T17 T19 ⊢
      have q0 : W6.cell? ⟨G + 1, 0, none⟩ = some (.int .i64 s.code) := by rw [cell_of_row _ _ _ _ _ _ T19.out]; rfl
      have q1 : W6.cell? ⟨G + 1, 1, none⟩ = some (.int .u64 s.fat) := by rw [cell_of_row _ _ _ _ _ _ T19.out]; rfl
      have q2 : W6.cell? ⟨G + 1, 2, none⟩ = some (.string ⟨#[]⟩) := by rw [cell_of_row _ _ _ _ _ _ T19.out]; rfl
      go_wp2_with fail
      refine (faultOK_any _ _ _ _).mono ?_
      rintro e w10 ⟨rfl, hb10⟩
      have HW10 := hid (HW6.out.below hb10)
      have U17 : Hid (StIs w10 G s.X s.pc) := hid ((hb10.block _ (blk_lt' T17.out)).trans T17.out)
      have U19 := hid ((hb10.block _ (blk_lt' T19.out)).trans T19.out)
      clear hb10 HW6 T17 T19 q0 q1 q2
      cases hc1 : ((s.code : Int) == 0) with
      | false =>
        have hc : s.code ≠ 0 := by simpa using hc1
        obtain ⟨e1, e2, e3, e4, e5, e6⟩ := run_fault HRN.out HNO.out HS.out hc
        have cg := HW10.out.s.cellPc HX1.out
        have ct : w10.cell? ⟨p.t, 32, none⟩ = some (.int .u64 pc1) := by have h := HW10.out.t.cellPc Hreg.out; rwa [e2] at h
        have f0 : w10.cell? ⟨p.t + 1, 0, none⟩ = some (.int .i64 s.code) := by rw [cell_of_row _ _ _ _ _ _ HW10.out.f, e5]; rfl
        have f1 : w10.cell? ⟨p.t + 1, 1, none⟩ = some (.int .u64 s.fat) := by rw [cell_of_row _ _ _ _ _ _ HW10.out.f, e6]; rfl
        have f2 : w10.cell? ⟨p.t + 1, 2, none⟩ = some (.string ⟨#[]⟩) := by rw [cell_of_row _ _ _ _ _ _ HW10.out.f]; rfl
        have q0 : w10.cell? ⟨G + 1, 0, none⟩ = some (.int .i64 s.code) := by rw [cell_of_row _ _ _ _ _ _ U19.out]; rfl
        have q1 : w10.cell? ⟨G + 1, 1, none⟩ = some (.int .u64 s.fat) := by rw [cell_of_row _ _ _ _ _ _ U19.out]; rfl
        have q2 : w10.cell? ⟨G + 1, 2, none⟩ = some (.string ⟨#[]⟩) := by rw [cell_of_row _ _ _ _ _ _ U19.out]; rfl
        have Hsame := hid (runs_same HW10.out e1 Hmap.out HT.out)
        have KW := hid HW10.out.keep
        rw [e3, e4]
        clear hc1 hc e1 e2 e3 e4 e5 e6 HRN HW10 HMM1 U17 U19
        go_wp2_with (refine wpList_valW (.bool true) (by kernel_rfl) (exec_eql_same (ty := 31) rfl rfl rfl (by kernel_rfl) (fun w => fault_eq s.code s.fat w)) ?_)
        refine Hsame.out.mono ?_
        rintro e w12 ⟨rfl, hb12⟩
        go_wp2_with fail
        go_ret
        exact ⟨rfl, (KW.out.trans (Keep.of_below hb12)).below (Nat.le_refl _) (by simp)⟩
      | true =>
        have hc : s.code = 0 := by simpa using hc1
        clear hc1 U19
        by_cases he3 : s.ev = 3
        · obtain ⟨e2, e3, e4, e5⟩ := run_trap HRN.out HNO.out HS.out hc he3
          have cg := HW10.out.s.cellPc HX1.out
          have ct : w10.cell? ⟨p.t, 32, none⟩ = some (.int .u64 pc1) := by have h := HW10.out.t.cellPc Hreg.out; rwa [e2] at h
          have f0 : w10.cell? ⟨p.t + 1, 0, none⟩ = some (.int .i64 0) := by rw [cell_of_row _ _ _ _ _ _ HW10.out.f, e5]; rfl
          have f1 : w10.cell? ⟨p.t + 1, 1, none⟩ = some (.int .u64 R.fat) := by rw [cell_of_row _ _ _ _ _ _ HW10.out.f]; rfl
          have f2 : w10.cell? ⟨p.t + 1, 2, none⟩ = some (.string ⟨#[]⟩) := by rw [cell_of_row _ _ _ _ _ _ HW10.out.f]; rfl
          rw [e3, e4, he3]
          clear e2 e3 e4 e5 HRN HMM1 U17
          have l1 := blk_lt' HW10.out.s
          have l2 := blk_lt' HW10.out.t
          go_wp2_with fail
          refine (faultOK_any _ _ _ _).mono ?_
          rintro e w12 ⟨rfl, hb12⟩
          have KW := hid (HW10.out.keep.trans (Keep.of_below hb12))
          have cg : w12.cell? ⟨p.g, 32, none⟩ = some (.int .u64 pc1) := (hb12.cell (p := ⟨p.g, 32, none⟩) l1).trans cg
          have ct : w12.cell? ⟨p.t, 32, none⟩ = some (.int .u64 pc1) := (hb12.cell (p := ⟨p.t, 32, none⟩) l2).trans ct
          clear hb12 HW10 f0 f1 f2 l1 l2
          go_wp2_with fail
          go_ret
          exact ⟨rfl, KW.out.below (Nat.le_refl _) (by simp)⟩
        · have hne3 : (s.ev == 3) = false := by simpa using he3
          have hk1 : k ≤ 200 := by omega
          go_upto_region 19 with (fail)
          apply wp_region_lit
          refine wpList_load_row rfl 36 (.tmp 17) rfl G rfl 36 (stCells s.X s.pc) (0, 0) _ U17.out Tryz.underlying36 rfl (infoState Hreg1.out s.pc) ?_
          simp only [Act.put, List.setIfInBounds_toArray, List.set_cons_zero, List.set_cons_succ]
          refine wpList_store_row rfl 36 (.tmp 11) (.tmp 143) rfl p.g (stCells s.X s.pc) rfl rfl 36 _ HW10.out.s (infoState Hreg1.out s.pc) ((stCells_size HX1.out _).trans (stCells_size Hreg1.out _).symm) (stCells_one _ _) ?_
          simp only [Act.put, List.setIfInBounds_toArray, List.set_cons_zero, List.set_cons_succ]
          have HW11 := hid (RunsW.setS Hok.out HW10.out s.X s.pc)
          generalize w10.setRow p.g (stCells s.X s.pc) = W11 at HW11 ⊢
          clear HW10 U17 hne3
          by_cases he0 : s.ev = 0
          · obtain ⟨h0, hrn⟩ := run_on HRN.out HNO.out HS.out hc he0
            rw [he0]
            clear HRN
            go_wp2_with fail
            go_roundw
            case rel => exact ⟨k + 1, s.M, s.X, s.pc, by go_num, by omega, Hreg1.out, HMM1, HW11, hid (by rw [show F.toNat - (k + 1) = F.toNat - k - 1 by omega]; exact hrn)⟩
            case measure => simp [RowKit.intOf]; omega
          · obtain ⟨e1, e2, e3, e4, e5, e6⟩ := run_event HRN.out HNO.out HS.out hc he3 he0
            have e4' : (R.n : Int) = (k : Int) + 1 := by rw [e4]; simp
            have ht := HW11.out.t
            have hg := HW11.out.s
            rw [e2, e3] at ht
            have f0 : W11.cell? ⟨p.t + 1, 0, none⟩ = some (.int .i64 0) := by rw [cell_of_row _ _ _ _ _ _ HW11.out.f, e6]; rfl
            have f1 : W11.cell? ⟨p.t + 1, 1, none⟩ = some (.int .u64 R.fat) := by rw [cell_of_row _ _ _ _ _ _ HW11.out.f]; rfl
            have f2 : W11.cell? ⟨p.t + 1, 2, none⟩ = some (.string ⟨#[]⟩) := by rw [cell_of_row _ _ _ _ _ _ HW11.out.f]; rfl
            have hne0 : (s.ev == 0) = false := by simpa using he0
            have Hht := hid ht
            have Hhg := hid hg
            rw [e4', e5]
            clear e2 e3 e4 e4' e5 e6 HRN HMM1 ht hg
            go_wp2_with fail
            refine (faultOK_any _ _ _ _).mono ?_
            rintro e w12 ⟨rfl, hb12⟩
            have HW12 := hid (HW11.out.below hb12)
            have Hsame := hid (runs_same HW12.out e1 Hmap.out HT.out)
            have KW := hid HW12.out.keep
            have Hht2 := hid ((hb12.block _ (blk_lt' Hht.out)).trans Hht.out)
            have Hhg2 := hid ((hb12.block _ (blk_lt' Hhg.out)).trans Hhg.out)
            clear hb12 HW11 HW12 f0 f1 f2 e1 Hht Hhg
            go_wp2_with (first
              | (refine wpList_valW (.agg (stCells s.X s.pc)) (by kernel_rfl) (exec_load_row 36 (.tmp 12) rfl p.t rfl 36 _ (0, 0) _ Hht2.out Tryz.underlying36 rfl (infoState Hreg1.out s.pc)) ?_)
              | (refine wpList_valW (.agg (stCells s.X s.pc)) (by kernel_rfl) (exec_load_row 36 (.tmp 11) rfl p.g rfl 36 _ (0, 0) _ Hhg2.out Tryz.underlying36 rfl (infoState Hreg1.out s.pc)) ?_)
              | (refine wpList_valW (.bool true) (by kernel_rfl) (exec_eql_same (ty := 36) rfl rfl rfl (by kernel_rfl) (fun w => state_eq Hreg1.out s.pc w)) ?_))
            refine Hsame.out.mono ?_
            rintro e w13 ⟨rfl, hb13⟩
            go_wp2_with fail
            go_ret
            exact ⟨rfl, (KW.out.trans (Keep.of_below hb13)).below (Nat.le_refl _) (by simp)⟩
end
end Go.Proofs.YtiemingpbommeaaGreatDoor
