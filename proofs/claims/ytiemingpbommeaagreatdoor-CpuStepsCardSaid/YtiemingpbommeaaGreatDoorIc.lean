/- The document's step: jumps, branches, lui, auipc, ecall, ebreak. -/
import Derived.Test.YtiemingpbommeaaGreatDoorIb
import Derived.Test.YtiemingpbommeaaGreatDoorIa
namespace Go.Proofs.YtiemingpbommeaaGreatDoor
open Go Go.RowKit
noncomputable section
set_option linter.unusedVariables false
set_option linter.unusedSimpArgs false
theorem exec_jump {M : List Pg} {X X' : List Nat} {pc t : Nat} {o : Int} {d a b : Nat} {n : Int} (hg : goesN X pc o d a b n = (jumpN X X' pc t, true)) :
    execN M X pc o d a b n = if t % 4 = 0 then ⟨M, X', t, 0, 0, 0⟩ else ⟨M, X, pc, 0, 13, t⟩ := by
  unfold execN
  rw [hg]
  unfold jumpN
  by_cases h : t % 4 = 0 <;> simp [h]
theorem exec_do {M : List Pg} {X : List Nat} {pc : Nat} {o : Int} {d a b : Nat} {n : Int} (h : o < 2 ∨ 9 < o) :
    execN M X pc o d a b n = if (doR M X pc o d a b n).2.2.1 = 0 then ⟨(doR M X pc o d a b n).1, (doR M X pc o d a b n).2.1, adr pc 4, evN o, 0, 0⟩ else ⟨(doR M X pc o d a b n).1, X, pc, 0, (doR M X pc o d a b n).2.2.1, (doR M X pc o d a b n).2.2.2⟩ := by
  have hg : goesN X pc o d a b n = ((X, pc, 0, 0), false) := by unfold goesN; rw [if_neg (by omega), if_neg (by omega), if_neg (by omega)]
  unfold execN
  rw [hg]
  rfl
theorem names4 : ∀ i, i < 64 → 4 ≤ i → ((formAt i).1 == [108, 117, 105]) = false ∧ ((formAt i).1 == [97, 117, 105, 112, 99]) = false ∧ ((formAt i).1 == [106, 97, 108]) = false ∧ ((formAt i).1 == [106, 97, 108, 114]) = false := by decide
theorem letB : ∀ i, i < 64 → 4 ≤ i → i ≤ 9 → (formAt i).2.1 = 66 := by decide
theorem letS : ∀ i, i < 64 → 17 ≤ i → i ≤ 20 → (formAt i).2.1 = 83 := by decide
theorem letL : ∀ i, i < 64 → 10 ≤ i → i ≤ 16 → (formAt i).2.1 = 73 ∧ (formAt i).2.2.1 = 3 ∧ (((formAt i).1.length == 2) = decide (i ≤ 13)) ∧ 2 ≤ (formAt i).1.length ∧ (formAt i).1.length ≤ 3 := by decide
theorem letR : ∀ i, i < 64 → 34 ≤ i → i ≤ 61 → (formAt i).2.1 = 82 ∧ (formAt i).2.2.1 ≠ 3 ∧ ((formAt i).1 == [101, 99, 97, 108, 108]) = false ∧ ((formAt i).1 == [101, 98, 114, 101, 97, 107]) = false := by decide
theorem letM : ∀ i, i < 64 → 21 ≤ i → i ≤ 33 → ((formAt i).2.1 = 73 ∨ (formAt i).2.1 = 72 ∨ (formAt i).2.1 = 75) ∧ (formAt i).2.2.1 ≠ 3 ∧ ((formAt i).1 == [101, 99, 97, 108, 108]) = false ∧ ((formAt i).1 == [101, 98, 114, 101, 97, 107]) = false := by decide
set_option maxHeartbeats 4000000 in
set_option maxRecDepth 100000 in
theorem refSw_lui {u : World} {sl : Value} {M : List Pg} {q : Int} {X : List Nat} {pc i d a b : Nat} {n : Int} {nm : List UInt8} {l : Int} {o f3 f7 A Bv im p4 G z O : Nat} {W6 : World} {act : Act} (h : Mid u sl M q X pc i d a b n nm l o f3 f7 A Bv im p4 G z O W6) (hF : FrameOf (.pointer (some ⟨u.heap.size, 0, none⟩)) (.pointer (some ⟨u.heap.size + 1, 0, none⟩)) (.pointer (some ⟨u.heap.size + 2, 0, none⟩)) (.pointer (some ⟨u.heap.size + 3, 0, none⟩)) (.pointer (some ⟨G, 0, none⟩)) (.pointer (some ⟨z, 0, none⟩)) (.int .u64 A) (.int .u64 Bv) (.int .u64 im) (.int .u64 p4) (.pointer (some ⟨O, 0, none⟩)) (.int .i64 0) act) (hcl : i = 0) :
    (stepC 12).wp Tryz.prog (bodyPost Tryz.prog Tryz.f18 (RefPost q (stepN M X pc) u)) act W6 := by
  obtain ⟨hM2, hp, h4p, hi, hd, ha, hb, Hs, Hrow, HX0, HG, HS, hA, hBv, HAe, HBe, Him, himl, hp4i, hp4l, hp4m, Hp4, I6, HK6, HT6, OF, hO, hGO, hzO, lG, lz, lS, lO, cpc, jd, kn, kl, ko⟩ := h
  have Hcl := hid hcl
  have hp64 : pc < 18446744073709551616 := by omega
  have hpi : ¬ (1099511627776 : Int) ≤ (pc : Int) := by omega
  clear hcl
  rw [show stepC 12 = .seq (headC (stepC 12)) (stepC 13) from rfl]
  refine wp_seq (wp_cut (FinR u q (X.set 0 0) pc (stepN M X pc)) (fun _ _ hh => refStep_fin HX0 hh) ?_)
  intro _ _ _ _
  unfold FrameOf at hF
  iterate 71 (obtain ⟨_, hF⟩ := hF)
  subst hF
  conv => arg 2; whnf
  obtain rfl := Hcl.out
  have hnm : nm = [108, 117, 105] := (congrArg (fun r => r.1) Hrow.out).symm
  subst hnm
  have e0 : execN M (X.set 0 0) pc ((0 : Nat) : Int) d a b n = ⟨M, setR (X.set 0 0) d im, p4, 0, 0, 0⟩ := by
    rw [← Him.out, ← Hp4.out]; rfl
  have E0 := hid e0
  clear e0 Hrow
  go_upto_region 23 with (fail)
  apply wp_region_lit
  refine wpList_load_row rfl 58 (.tmp 3) rfl (u.heap.size + 1) rfl 58 (stCells (X.set 0 0) pc) (0, 0) _ I6.out.b3 Tryz.underlying58 rfl (infoState7 HX0.out pc) ?_
  simp only [ps]
  refine wpList_val (w' := W6) (.pointer (some ⟨G, 1, none⟩)) rfl (by kernel_rfl) ?_
  simp only [ps]
  refine wpList_val (w' := W6) (.int .i64 d) rfl (by go_simp) ?_
  simp only [ps]
  refine wpList_val (w' := W6) (.int .u64 im) rfl (by kernel_rfl) ?_
  simp only [ps]
  refine wpList_call (.agg (stCells (setR (X.set 0 0) d (im)) pc)) (fun w'' => Below W6.heap.size W6 w'') (f := 48) (args := #[.agg (stCells (X.set 0 0) pc), .int .i64 d, .int .u64 (im : Int)]) rfl (by kernel_rfl) (refSet_any (X.set 0 0) pc d (im) W6 HX0.out hd (by first | omega | exact adr_lt _ _)) ?_
  rintro W7 hb7
  simp only [ps]
  have I7 := hid (I6.out.below hb7)
  have OF7 := hid ((hb7.block _ (blk_lt' OF.out)).trans OF.out)
  have HXn : Hid (Regs (setR (X.set 0 0) d (im))) := hid (HX0.out.setR d _ (by first | omega | exact adr_lt _ _))
  clear hb7 I6 OF lG lz lS lO cpc jd kn kl ko HK6 HT6
  refine wpList_store_row rfl 58 (.tmp 19) (.tmp 120) rfl O (stCells (setR (X.set 0 0) d (im)) pc) rfl rfl 58 _ OF7.out (infoState7 HXn.out pc) ((stCells_size HX0.out _).trans (stCells_size HXn.out _).symm) (stCells_one _ _) ?_
  simp only [ps]
  have I8 := hid (I7.out.rowO (g := O) hO (stCells (setR (X.set 0 0) d (im)) pc))
  have OF8 : Hid (St7 (W7.setRow O (stCells (setR (X.set 0 0) d (im)) pc)) O (setR (X.set 0 0) d (im)) pc) := hid (setRow_heap _ _ _ _ _ _ OF7.out)
  generalize W7.setRow O (stCells (setR (X.set 0 0) d (im)) pc) = W8 at I8 OF8 ⊢
  clear I7 OF7
  go_wp2_with fail
  refine Met.intro ?_
  go_step
  refine ⟨sl, M, (setR (X.set 0 0) d im), p4, 0, O, I8, OF8, hid (HS.out _), HXn, hO, hp4l, hid (by rw [Hs.out, E0.out, if_pos (by omega)]), ?_⟩
  unfold FrameB FrameG
  (repeat apply Exists.intro); rfl
set_option maxHeartbeats 4000000 in
set_option maxRecDepth 100000 in
theorem refSw_auipc {u : World} {sl : Value} {M : List Pg} {q : Int} {X : List Nat} {pc i d a b : Nat} {n : Int} {nm : List UInt8} {l : Int} {o f3 f7 A Bv im p4 G z O : Nat} {W6 : World} {act : Act} (h : Mid u sl M q X pc i d a b n nm l o f3 f7 A Bv im p4 G z O W6) (hF : FrameOf (.pointer (some ⟨u.heap.size, 0, none⟩)) (.pointer (some ⟨u.heap.size + 1, 0, none⟩)) (.pointer (some ⟨u.heap.size + 2, 0, none⟩)) (.pointer (some ⟨u.heap.size + 3, 0, none⟩)) (.pointer (some ⟨G, 0, none⟩)) (.pointer (some ⟨z, 0, none⟩)) (.int .u64 A) (.int .u64 Bv) (.int .u64 im) (.int .u64 p4) (.pointer (some ⟨O, 0, none⟩)) (.int .i64 0) act) (hcl : i = 1) :
    (stepC 12).wp Tryz.prog (bodyPost Tryz.prog Tryz.f18 (RefPost q (stepN M X pc) u)) act W6 := by
  obtain ⟨hM2, hp, h4p, hi, hd, ha, hb, Hs, Hrow, HX0, HG, HS, hA, hBv, HAe, HBe, Him, himl, hp4i, hp4l, hp4m, Hp4, I6, HK6, HT6, OF, hO, hGO, hzO, lG, lz, lS, lO, cpc, jd, kn, kl, ko⟩ := h
  have Hcl := hid hcl
  have hp64 : pc < 18446744073709551616 := by omega
  have hpi : ¬ (1099511627776 : Int) ≤ (pc : Int) := by omega
  clear hcl
  rw [show stepC 12 = .seq (headC (stepC 12)) (stepC 13) from rfl]
  refine wp_seq (wp_cut (FinR u q (X.set 0 0) pc (stepN M X pc)) (fun _ _ hh => refStep_fin HX0 hh) ?_)
  intro _ _ _ _
  unfold FrameOf at hF
  iterate 71 (obtain ⟨_, hF⟩ := hF)
  subst hF
  conv => arg 2; whnf
  obtain rfl := Hcl.out
  have hnm : nm = [97, 117, 105, 112, 99] := (congrArg (fun r => r.1) Hrow.out).symm
  subst hnm
  have e0 : execN M (X.set 0 0) pc ((1 : Nat) : Int) d a b n = ⟨M, setR (X.set 0 0) d (adr pc im), p4, 0, 0, 0⟩ := by
    rw [← Him.out, ← Hp4.out]; rfl
  have E0 := hid e0
  clear e0 Hrow
  go_upto_region 25 with (fail)
  apply wp_region_lit
  refine wpList_load_row rfl 58 (.tmp 3) rfl (u.heap.size + 1) rfl 58 (stCells (X.set 0 0) pc) (0, 0) _ I6.out.b3 Tryz.underlying58 rfl (infoState7 HX0.out pc) ?_
  simp only [ps]
  refine wpList_val (w' := W6) (.pointer (some ⟨G, 1, none⟩)) rfl (by kernel_rfl) ?_
  simp only [ps]
  refine wpList_val (w' := W6) (.int .i64 d) rfl (by go_simp) ?_
  simp only [ps]
  refine wpList_val (w' := W6) (.pointer (some ⟨u.heap.size + 1, 32, none⟩)) rfl (by kernel_rfl) ?_
  simp only [ps]
  refine wpList_val (w' := W6) (.int .u64 pc) rfl (by go_simp) ?_
  simp only [ps]
  refine wpList_val (w' := W6) (.int .u64 im) rfl (by kernel_rfl) ?_
  simp only [ps]
  refine wpList_val (w' := W6) (.int .u64 (adr pc im)) rfl (by rw [← u64wn pc im]; kernel_rfl) ?_
  simp only [ps]
  refine wpList_call (.agg (stCells (setR (X.set 0 0) d (adr pc im)) pc)) (fun w'' => Below W6.heap.size W6 w'') (f := 48) (args := #[.agg (stCells (X.set 0 0) pc), .int .i64 d, .int .u64 (adr pc im : Int)]) rfl (by kernel_rfl) (refSet_any (X.set 0 0) pc d (adr pc im) W6 HX0.out hd (by first | omega | exact adr_lt _ _)) ?_
  rintro W7 hb7
  simp only [ps]
  have I7 := hid (I6.out.below hb7)
  have OF7 := hid ((hb7.block _ (blk_lt' OF.out)).trans OF.out)
  have HXn : Hid (Regs (setR (X.set 0 0) d (adr pc im))) := hid (HX0.out.setR d _ (by first | omega | exact adr_lt _ _))
  clear hb7 I6 OF lG lz lS lO cpc jd kn kl ko HK6 HT6
  refine wpList_store_row rfl 58 (.tmp 19) (.tmp 132) rfl O (stCells (setR (X.set 0 0) d (adr pc im)) pc) rfl rfl 58 _ OF7.out (infoState7 HXn.out pc) ((stCells_size HX0.out _).trans (stCells_size HXn.out _).symm) (stCells_one _ _) ?_
  simp only [ps]
  have I8 := hid (I7.out.rowO (g := O) hO (stCells (setR (X.set 0 0) d (adr pc im)) pc))
  have OF8 : Hid (St7 (W7.setRow O (stCells (setR (X.set 0 0) d (adr pc im)) pc)) O (setR (X.set 0 0) d (adr pc im)) pc) := hid (setRow_heap _ _ _ _ _ _ OF7.out)
  generalize W7.setRow O (stCells (setR (X.set 0 0) d (adr pc im)) pc) = W8 at I8 OF8 ⊢
  clear I7 OF7
  go_wp2_with fail
  refine Met.intro ?_
  go_step
  refine ⟨sl, M, (setR (X.set 0 0) d (adr pc im)), p4, 0, O, I8, OF8, hid (HS.out _), HXn, hO, hp4l, hid (by rw [Hs.out, E0.out, if_pos (by omega)]), ?_⟩
  unfold FrameB FrameG
  (repeat apply Exists.intro); rfl
set_option maxHeartbeats 4000000 in
set_option maxRecDepth 100000 in
theorem refSw_jal {u : World} {sl : Value} {M : List Pg} {q : Int} {X : List Nat} {pc i d a b : Nat} {n : Int} {nm : List UInt8} {l : Int} {o f3 f7 A Bv im p4 G z O : Nat} {W6 : World} {act : Act} (h : Mid u sl M q X pc i d a b n nm l o f3 f7 A Bv im p4 G z O W6) (hF : FrameOf (.pointer (some ⟨u.heap.size, 0, none⟩)) (.pointer (some ⟨u.heap.size + 1, 0, none⟩)) (.pointer (some ⟨u.heap.size + 2, 0, none⟩)) (.pointer (some ⟨u.heap.size + 3, 0, none⟩)) (.pointer (some ⟨G, 0, none⟩)) (.pointer (some ⟨z, 0, none⟩)) (.int .u64 A) (.int .u64 Bv) (.int .u64 im) (.int .u64 p4) (.pointer (some ⟨O, 0, none⟩)) (.int .i64 0) act) (hcl : i = 2) :
    (stepC 12).wp Tryz.prog (bodyPost Tryz.prog Tryz.f18 (RefPost q (stepN M X pc) u)) act W6 := by
  obtain ⟨hM2, hp, h4p, hi, hd, ha, hb, Hs, Hrow, HX0, HG, HS, hA, hBv, HAe, HBe, Him, himl, hp4i, hp4l, hp4m, Hp4, I6, HK6, HT6, OF, hO, hGO, hzO, lG, lz, lS, lO, cpc, jd, kn, kl, ko⟩ := h
  have Hcl := hid hcl
  have hp64 : pc < 18446744073709551616 := by omega
  have hpi : ¬ (1099511627776 : Int) ≤ (pc : Int) := by omega
  clear hcl
  rw [show stepC 12 = .seq (headC (stepC 12)) (stepC 13) from rfl]
  refine wp_seq (wp_cut (FinR u q (X.set 0 0) pc (stepN M X pc)) (fun _ _ hh => refStep_fin HX0 hh) ?_)
  intro _ _ _ _
  unfold FrameOf at hF
  iterate 71 (obtain ⟨_, hF⟩ := hF)
  subst hF
  conv => arg 2; whnf
  obtain rfl := Hcl.out
  have hnm : nm = [106, 97, 108] := (congrArg (fun r => r.1) Hrow.out).symm
  subst hnm
  obtain ⟨nx, hnx⟩ : ∃ nx, adr pc im = nx := ⟨_, rfl⟩
  have Hnx := hid hnx
  have hnxl : nx < 18446744073709551616 := by rw [← hnx]; exact adr_lt _ _
  have hnxi : IntKind.u64.wrap ((pc : Int) + (im : Int)) = (nx : Int) := by rw [u64wn, hnx]
  have e0 : execN M (X.set 0 0) pc ((2 : Nat) : Int) d a b n = if nx % 4 = 0 then ⟨M, setR (X.set 0 0) d p4, nx, 0, 0, 0⟩ else ⟨M, X.set 0 0, pc, 0, 13, nx⟩ := by
    rw [← hnx, ← Him.out, ← Hp4.out]
    exact exec_jump (X' := setR (X.set 0 0) d (adr pc 4)) (t := adr pc (u64N n)) (by unfold goesN; rw [if_pos (by decide)])
  have E0 := hid e0
  clear e0 Hrow hnx
  go_upto_region 28 with (fail)
  apply wp_region_lit
  refine wpList_load_row rfl 58 (.tmp 3) rfl (u.heap.size + 1) rfl 58 (stCells (X.set 0 0) pc) (0, 0) _ I6.out.b3 Tryz.underlying58 rfl (infoState7 HX0.out pc) ?_
  simp only [ps]
  refine wpList_val (w' := W6) (.pointer (some ⟨G, 1, none⟩)) rfl (by kernel_rfl) ?_
  simp only [ps]
  refine wpList_val (w' := W6) (.int .i64 d) rfl (by go_simp) ?_
  simp only [ps]
  refine wpList_val (w' := W6) (.pointer (some ⟨u.heap.size + 1, 32, none⟩)) rfl (by kernel_rfl) ?_
  simp only [ps]
  refine wpList_val (w' := W6) (.int .u64 pc) rfl (by go_simp) ?_
  simp only [ps]
  refine wpList_val (w' := W6) (.int .u64 p4) rfl (by go_simp; rw [u64w]; omega) ?_
  simp only [ps]
  refine wpList_call (.agg (stCells (setR (X.set 0 0) d (p4)) pc)) (fun w'' => Below W6.heap.size W6 w'') (f := 48) (args := #[.agg (stCells (X.set 0 0) pc), .int .i64 d, .int .u64 (p4 : Int)]) rfl (by kernel_rfl) (refSet_any (X.set 0 0) pc d (p4) W6 HX0.out hd (by first | omega | exact adr_lt _ _)) ?_
  rintro W7 hb7
  simp only [ps]
  have I7 := hid (I6.out.below hb7)
  have OF7 := hid ((hb7.block _ (blk_lt' OF.out)).trans OF.out)
  have HXn : Hid (Regs (setR (X.set 0 0) d (p4))) := hid (HX0.out.setR d _ (by first | omega | exact adr_lt _ _))
  clear hb7 I6 OF lG lz lS lO cpc jd kn kl ko HK6 HT6
  refine wpList_store_row rfl 58 (.tmp 19) (.tmp 147) rfl O (stCells (setR (X.set 0 0) d (p4)) pc) rfl rfl 58 _ OF7.out (infoState7 HXn.out pc) ((stCells_size HX0.out _).trans (stCells_size HXn.out _).symm) (stCells_one _ _) ?_
  simp only [ps]
  have I8 := hid (I7.out.rowO (g := O) hO (stCells (setR (X.set 0 0) d (p4)) pc))
  have OF8 : Hid (St7 (W7.setRow O (stCells (setR (X.set 0 0) d (p4)) pc)) O (setR (X.set 0 0) d (p4)) pc) := hid (setRow_heap _ _ _ _ _ _ OF7.out)
  generalize W7.setRow O (stCells (setR (X.set 0 0) d (p4)) pc) = W8 at I8 OF8 ⊢
  clear I7 OF7
  clear hnxi
  go_wp2_with fail
  refine Met.intro ?_
  go_step
  refine ⟨sl, M, (setR (X.set 0 0) d p4), nx, 0, O, I8, OF8, hid (HS.out _), HXn, hO, hnxl, hid (by rw [Hs.out, E0.out]), ?_⟩
  unfold FrameB FrameG
  (repeat apply Exists.intro); rfl
set_option maxHeartbeats 4000000 in
set_option maxRecDepth 100000 in
theorem refSw_jalr {u : World} {sl : Value} {M : List Pg} {q : Int} {X : List Nat} {pc i d a b : Nat} {n : Int} {nm : List UInt8} {l : Int} {o f3 f7 A Bv im p4 G z O : Nat} {W6 : World} {act : Act} (h : Mid u sl M q X pc i d a b n nm l o f3 f7 A Bv im p4 G z O W6) (hF : FrameOf (.pointer (some ⟨u.heap.size, 0, none⟩)) (.pointer (some ⟨u.heap.size + 1, 0, none⟩)) (.pointer (some ⟨u.heap.size + 2, 0, none⟩)) (.pointer (some ⟨u.heap.size + 3, 0, none⟩)) (.pointer (some ⟨G, 0, none⟩)) (.pointer (some ⟨z, 0, none⟩)) (.int .u64 A) (.int .u64 Bv) (.int .u64 im) (.int .u64 p4) (.pointer (some ⟨O, 0, none⟩)) (.int .i64 0) act) (hcl : i = 3) :
    (stepC 12).wp Tryz.prog (bodyPost Tryz.prog Tryz.f18 (RefPost q (stepN M X pc) u)) act W6 := by
  obtain ⟨hM2, hp, h4p, hi, hd, ha, hb, Hs, Hrow, HX0, HG, HS, hA, hBv, HAe, HBe, Him, himl, hp4i, hp4l, hp4m, Hp4, I6, HK6, HT6, OF, hO, hGO, hzO, lG, lz, lS, lO, cpc, jd, kn, kl, ko⟩ := h
  have Hcl := hid hcl
  have hp64 : pc < 18446744073709551616 := by omega
  have hpi : ¬ (1099511627776 : Int) ≤ (pc : Int) := by omega
  clear hcl
  rw [show stepC 12 = .seq (headC (stepC 12)) (stepC 13) from rfl]
  refine wp_seq (wp_cut (FinR u q (X.set 0 0) pc (stepN M X pc)) (fun _ _ hh => refStep_fin HX0 hh) ?_)
  intro _ _ _ _
  unfold FrameOf at hF
  iterate 71 (obtain ⟨_, hF⟩ := hF)
  subst hF
  conv => arg 2; whnf
  obtain rfl := Hcl.out
  have hnm : nm = [106, 97, 108, 114] := (congrArg (fun r => r.1) Hrow.out).symm
  subst hnm
  obtain ⟨sm, hsm⟩ : ∃ sm, adr A im = sm := ⟨_, rfl⟩
  have hsml : sm < 18446744073709551616 := by rw [← hsm]; exact adr_lt _ _
  have hsmi : IntKind.u64.wrap ((A : Int) + (im : Int)) = (sm : Int) := by rw [u64wn, hsm]
  obtain ⟨hf, hhf⟩ : ∃ hf, sm / 2 = hf := ⟨_, rfl⟩
  have hhfi : (sm : Int) / 2 = (hf : Int) := by omega
  have hhfl : hf < 9223372036854775808 := by omega
  obtain ⟨nx, hnx⟩ : ∃ nx, hf * 2 = nx := ⟨_, rfl⟩
  have Hnx := hid hnx
  have hnxl : nx < 18446744073709551616 := by rw [← hnx]; omega
  have hnxi : (hf : Int) * 2 = (nx : Int) := by omega
  have e0 : execN M (X.set 0 0) pc ((3 : Nat) : Int) d a b n = if nx % 4 = 0 then ⟨M, setR (X.set 0 0) d p4, nx, 0, 0, 0⟩ else ⟨M, X.set 0 0, pc, 0, 13, nx⟩ := by
    rw [← hnx, ← hhf, ← hsm, ← Him.out, ← Hp4.out, ← HAe.out]
    exact exec_jump (X' := setR (X.set 0 0) d (adr pc 4)) (t := adr (getR (X.set 0 0) a) (u64N n) / 2 * 2) (by unfold goesN; rw [if_neg (by decide), if_pos (by decide)])
  have E0 := hid e0
  clear e0 Hrow hnx hhf hsm
  go_upto_region 31 with (fail)
  apply wp_region_lit
  refine wpList_load_row rfl 58 (.tmp 3) rfl (u.heap.size + 1) rfl 58 (stCells (X.set 0 0) pc) (0, 0) _ I6.out.b3 Tryz.underlying58 rfl (infoState7 HX0.out pc) ?_
  simp only [ps]
  refine wpList_val (w' := W6) (.pointer (some ⟨G, 1, none⟩)) rfl (by kernel_rfl) ?_
  simp only [ps]
  refine wpList_val (w' := W6) (.int .i64 d) rfl (by go_simp) ?_
  simp only [ps]
  refine wpList_val (w' := W6) (.pointer (some ⟨u.heap.size + 1, 32, none⟩)) rfl (by kernel_rfl) ?_
  simp only [ps]
  refine wpList_val (w' := W6) (.int .u64 pc) rfl (by go_simp) ?_
  simp only [ps]
  refine wpList_val (w' := W6) (.int .u64 p4) rfl (by go_simp; rw [u64w]; omega) ?_
  simp only [ps]
  refine wpList_call (.agg (stCells (setR (X.set 0 0) d (p4)) pc)) (fun w'' => Below W6.heap.size W6 w'') (f := 48) (args := #[.agg (stCells (X.set 0 0) pc), .int .i64 d, .int .u64 (p4 : Int)]) rfl (by kernel_rfl) (refSet_any (X.set 0 0) pc d (p4) W6 HX0.out hd (by first | omega | exact adr_lt _ _)) ?_
  rintro W7 hb7
  simp only [ps]
  have I7 := hid (I6.out.below hb7)
  have OF7 := hid ((hb7.block _ (blk_lt' OF.out)).trans OF.out)
  have HXn : Hid (Regs (setR (X.set 0 0) d (p4))) := hid (HX0.out.setR d _ (by first | omega | exact adr_lt _ _))
  clear hb7 I6 OF lG lz lS lO cpc jd kn kl ko HK6 HT6
  refine wpList_store_row rfl 58 (.tmp 19) (.tmp 163) rfl O (stCells (setR (X.set 0 0) d (p4)) pc) rfl rfl 58 _ OF7.out (infoState7 HXn.out pc) ((stCells_size HX0.out _).trans (stCells_size HXn.out _).symm) (stCells_one _ _) ?_
  simp only [ps]
  have I8 := hid (I7.out.rowO (g := O) hO (stCells (setR (X.set 0 0) d (p4)) pc))
  have OF8 : Hid (St7 (W7.setRow O (stCells (setR (X.set 0 0) d (p4)) pc)) O (setR (X.set 0 0) d (p4)) pc) := hid (setRow_heap _ _ _ _ _ _ OF7.out)
  generalize W7.setRow O (stCells (setR (X.set 0 0) d (p4)) pc) = W8 at I8 OF8 ⊢
  clear I7 OF7
  clear hnxi hhfi hsmi
  go_wp2_with fail
  refine Met.intro ?_
  go_step
  refine ⟨sl, M, (setR (X.set 0 0) d p4), nx, 0, O, I8, OF8, hid (HS.out _), HXn, hO, hnxl, hid (by rw [Hs.out, E0.out]), ?_⟩
  unfold FrameB FrameG
  (repeat apply Exists.intro); rfl
set_option maxHeartbeats 4000000 in
set_option maxRecDepth 100000 in
theorem refSw_ecall {u : World} {sl : Value} {M : List Pg} {q : Int} {X : List Nat} {pc i d a b : Nat} {n : Int} {nm : List UInt8} {l : Int} {o f3 f7 A Bv im p4 G z O : Nat} {W6 : World} {act : Act} (h : Mid u sl M q X pc i d a b n nm l o f3 f7 A Bv im p4 G z O W6) (hF : FrameOf (.pointer (some ⟨u.heap.size, 0, none⟩)) (.pointer (some ⟨u.heap.size + 1, 0, none⟩)) (.pointer (some ⟨u.heap.size + 2, 0, none⟩)) (.pointer (some ⟨u.heap.size + 3, 0, none⟩)) (.pointer (some ⟨G, 0, none⟩)) (.pointer (some ⟨z, 0, none⟩)) (.int .u64 A) (.int .u64 Bv) (.int .u64 im) (.int .u64 p4) (.pointer (some ⟨O, 0, none⟩)) (.int .i64 0) act) (hcl : i = 62) :
    (stepC 12).wp Tryz.prog (bodyPost Tryz.prog Tryz.f18 (RefPost q (stepN M X pc) u)) act W6 := by
  obtain ⟨hM2, hp, h4p, hi, hd, ha, hb, Hs, Hrow, HX0, HG, HS, hA, hBv, HAe, HBe, Him, himl, hp4i, hp4l, hp4m, Hp4, I6, HK6, HT6, OF, hO, hGO, hzO, lG, lz, lS, lO, cpc, jd, kn, kl, ko⟩ := h
  have Hcl := hid hcl
  have hp64 : pc < 18446744073709551616 := by omega
  have hpi : ¬ (1099511627776 : Int) ≤ (pc : Int) := by omega
  clear hcl
  rw [show stepC 12 = .seq (headC (stepC 12)) (stepC 13) from rfl]
  refine wp_seq (wp_cut (FinR u q (X.set 0 0) pc (stepN M X pc)) (fun _ _ hh => refStep_fin HX0 hh) ?_)
  intro _ _ _ _
  unfold FrameOf at hF
  iterate 71 (obtain ⟨_, hF⟩ := hF)
  subst hF
  conv => arg 2; whnf
  obtain rfl := Hcl.out
  have hnm : nm = [101, 99, 97, 108, 108] := (congrArg (fun r => r.1) Hrow.out).symm
  have hll : l = 78 := (congrArg (fun r => r.2.1) Hrow.out).symm
  have hoo : (o : Int) = 115 := (congrArg (fun r => r.2.2.1) Hrow.out).symm
  obtain rfl : o = 115 := by omega
  subst hnm hll
  rw [show letterB 78 = 78 from by decide] at kl
  have e0 : execN M (X.set 0 0) pc ((62 : Nat) : Int) d a b n = ⟨M, X.set 0 0, p4, 1, 0, 0⟩ := by
    rw [exec_do (by omega), ← Hp4.out]
    simp [doR, evN]
  have E0 := hid e0
  clear e0 Hrow hoo
  go_wp2_with fail
  refine Met.intro ?_
  go_step
  refine ⟨sl, M, (X.set 0 0), p4, 1, O, I6, OF, hid (HS.out _), HX0, hO, hp4l, hid (by rw [Hs.out, E0.out, if_pos (by omega)]), ?_⟩
  unfold FrameB FrameG
  (repeat apply Exists.intro); rfl
set_option maxHeartbeats 4000000 in
set_option maxRecDepth 100000 in
theorem refSw_ebreak {u : World} {sl : Value} {M : List Pg} {q : Int} {X : List Nat} {pc i d a b : Nat} {n : Int} {nm : List UInt8} {l : Int} {o f3 f7 A Bv im p4 G z O : Nat} {W6 : World} {act : Act} (h : Mid u sl M q X pc i d a b n nm l o f3 f7 A Bv im p4 G z O W6) (hF : FrameOf (.pointer (some ⟨u.heap.size, 0, none⟩)) (.pointer (some ⟨u.heap.size + 1, 0, none⟩)) (.pointer (some ⟨u.heap.size + 2, 0, none⟩)) (.pointer (some ⟨u.heap.size + 3, 0, none⟩)) (.pointer (some ⟨G, 0, none⟩)) (.pointer (some ⟨z, 0, none⟩)) (.int .u64 A) (.int .u64 Bv) (.int .u64 im) (.int .u64 p4) (.pointer (some ⟨O, 0, none⟩)) (.int .i64 0) act) (hcl : i = 63) :
    (stepC 12).wp Tryz.prog (bodyPost Tryz.prog Tryz.f18 (RefPost q (stepN M X pc) u)) act W6 := by
  obtain ⟨hM2, hp, h4p, hi, hd, ha, hb, Hs, Hrow, HX0, HG, HS, hA, hBv, HAe, HBe, Him, himl, hp4i, hp4l, hp4m, Hp4, I6, HK6, HT6, OF, hO, hGO, hzO, lG, lz, lS, lO, cpc, jd, kn, kl, ko⟩ := h
  have Hcl := hid hcl
  have hp64 : pc < 18446744073709551616 := by omega
  have hpi : ¬ (1099511627776 : Int) ≤ (pc : Int) := by omega
  clear hcl
  rw [show stepC 12 = .seq (headC (stepC 12)) (stepC 13) from rfl]
  refine wp_seq (wp_cut (FinR u q (X.set 0 0) pc (stepN M X pc)) (fun _ _ hh => refStep_fin HX0 hh) ?_)
  intro _ _ _ _
  unfold FrameOf at hF
  iterate 71 (obtain ⟨_, hF⟩ := hF)
  subst hF
  conv => arg 2; whnf
  obtain rfl := Hcl.out
  have hnm : nm = [101, 98, 114, 101, 97, 107] := (congrArg (fun r => r.1) Hrow.out).symm
  have hll : l = 78 := (congrArg (fun r => r.2.1) Hrow.out).symm
  have hoo : (o : Int) = 115 := (congrArg (fun r => r.2.2.1) Hrow.out).symm
  obtain rfl : o = 115 := by omega
  subst hnm hll
  rw [show letterB 78 = 78 from by decide] at kl
  have e0 : execN M (X.set 0 0) pc ((63 : Nat) : Int) d a b n = ⟨M, X.set 0 0, p4, 2, 0, 0⟩ := by
    rw [exec_do (by omega), ← Hp4.out]
    simp [doR, evN]
  have E0 := hid e0
  clear e0 Hrow hoo
  go_wp2_with fail
  refine Met.intro ?_
  go_step
  refine ⟨sl, M, (X.set 0 0), p4, 2, O, I6, OF, hid (HS.out _), HX0, hO, hp4l, hid (by rw [Hs.out, E0.out, if_pos (by omega)]), ?_⟩
  unfold FrameB FrameG
  (repeat apply Exists.intro); rfl
end
end Go.Proofs.YtiemingpbommeaaGreatDoor

/- The document's step: branches. -/
namespace Go.Proofs.YtiemingpbommeaaGreatDoor
open Go Go.RowKit
noncomputable section
set_option linter.unusedVariables false
set_option linter.unusedSimpArgs false
set_option maxHeartbeats 4000000 in
set_option maxRecDepth 100000 in
theorem refSw_branch {u : World} {sl : Value} {M : List Pg} {q : Int} {X : List Nat} {pc i d a b : Nat} {n : Int} {nm : List UInt8} {l : Int} {o f3 f7 A Bv im p4 G z O : Nat} {W6 : World} {act : Act} (h : Mid u sl M q X pc i d a b n nm l o f3 f7 A Bv im p4 G z O W6) (hF : FrameOf (.pointer (some ⟨u.heap.size, 0, none⟩)) (.pointer (some ⟨u.heap.size + 1, 0, none⟩)) (.pointer (some ⟨u.heap.size + 2, 0, none⟩)) (.pointer (some ⟨u.heap.size + 3, 0, none⟩)) (.pointer (some ⟨G, 0, none⟩)) (.pointer (some ⟨z, 0, none⟩)) (.int .u64 A) (.int .u64 Bv) (.int .u64 im) (.int .u64 p4) (.pointer (some ⟨O, 0, none⟩)) (.int .i64 0) act) (hcl : 4 ≤ i ∧ i ≤ 9) :
    (stepC 12).wp Tryz.prog (bodyPost Tryz.prog Tryz.f18 (RefPost q (stepN M X pc) u)) act W6 := by
  obtain ⟨hM2, hp, h4p, hi, hd, ha, hb, Hs, Hrow, HX0, HG, HS, hA, hBv, HAe, HBe, Him, himl, hp4i, hp4l, hp4m, Hp4, I6, HK6, HT6, OF, hO, hGO, hzO, lG, lz, lS, lO, cpc, jd, kn, kl, ko⟩ := h
  have Hcl := hid hcl
  have hp64 : pc < 18446744073709551616 := by omega
  have hpi : ¬ (1099511627776 : Int) ≤ (pc : Int) := by omega
  clear hcl
  rw [show stepC 12 = .seq (headC (stepC 12)) (stepC 13) from rfl]
  refine wp_seq (wp_cut (FinR u q (X.set 0 0) pc (stepN M X pc)) (fun _ _ hh => refStep_fin HX0 hh) ?_)
  intro _ _ _ _
  unfold FrameOf at hF
  iterate 71 (obtain ⟨_, hF⟩ := hF)
  subst hF
  conv => arg 2; whnf
  obtain ⟨q1, q2, q3, q4⟩ := names4 i hi (by have := Hcl.out; omega)
  rw [Hrow.out] at q1 q2 q3 q4
  have hll : l = 66 := by have h := letB i hi Hcl.out.1 Hcl.out.2; rw [Hrow.out] at h; exact h
  subst hll
  rw [show letterB 66 = 66 from by decide] at kl
  have hnb : nameB (i : Int) = nm := by unfold nameB; rw [if_pos ⟨by omega, by omega⟩, Int.toNat_natCast, Hrow.out]
  have htk := fun W => refTaken_any i Hcl.out.1 Hcl.out.2 A Bv W hA hBv
  rw [hnb] at htk
  obtain ⟨tk, ht⟩ : ∃ tk, takenN (i : Int) A Bv = tk := ⟨_, rfl⟩
  rw [ht] at htk
  have HTk := hid htk
  have hg : goesN (X.set 0 0) pc (i : Int) d a b n = (jumpN (X.set 0 0) (X.set 0 0) pc (if tk then adr pc im else p4), true) := by
    unfold goesN
    have h := Hcl.out
    rw [if_neg (by omega), if_neg (by omega), if_pos (by omega), HAe.out, HBe.out, ht, Him.out, Hp4.out]
  have E0 := hid (exec_jump (M := M) hg)
  clear htk ht hg hnb Hrow
  cases tk with
  | true =>
    obtain ⟨nx, hnx⟩ : ∃ nx, adr pc im = nx := ⟨_, rfl⟩
    have Hnx := hid hnx
    have hnxl : nx < 18446744073709551616 := by rw [← hnx]; exact adr_lt _ _
    have hnxi : IntKind.u64.wrap ((pc : Int) + (im : Int)) = (nx : Int) := by rw [u64wn, hnx]
    have E1 : Hid (execN M (X.set 0 0) pc (i : Int) d a b n = if nx % 4 = 0 then ⟨M, X.set 0 0, nx, 0, 0, 0⟩ else ⟨M, X.set 0 0, pc, 0, 13, nx⟩) := hid (by have h := E0.out; simp only [if_true] at h; rw [hnx] at h; exact h)
    clear hnx E0
    go_upto_region 33 with (fail)
    apply wp_region_lit
    refine wpList_val (w' := W6) (.pointer (some ⟨z, 0, none⟩)) rfl (by kernel_rfl) ?_
    simp only [ps]
    refine wpList_val (w' := W6) (.string ⟨nm.toArray⟩) rfl (by go_simp) ?_
    simp only [ps]
    refine wpList_val (w' := W6) (.int .u64 A) rfl (by kernel_rfl) ?_
    simp only [ps]
    refine wpList_val (w' := W6) (.int .u64 Bv) rfl (by kernel_rfl) ?_
    simp only [ps]
    refine wpList_call (.bool true) (fun w'' => Below W6.heap.size W6 w'') (f := 49) (args := #[.string ⟨nm.toArray⟩, .int .u64 A, .int .u64 Bv]) rfl (by kernel_rfl) (HTk.out W6) ?_
    rintro W7 hb7
    simp only [ps]
    have I7 := hid (I6.out.below hb7)
    have OF7 : Hid (St7 W7 O (X.set 0 0) pc) := hid ((hb7.block _ (blk_lt' OF.out)).trans OF.out)
    clear hb7 I6 OF lG lz lS lO cpc jd kn kl ko HK6 HT6
    have cpc := I7.out.b3.cellPc HX0.out
    have lS := blk_lt' I7.out.b3
    go_wp2_with fail
    refine Met.intro ?_
    go_step
    refine ⟨sl, M, (X.set 0 0), nx, 0, O, I7, OF7, hid (HS.out _), HX0, hO, hnxl, hid (by rw [Hs.out, E1.out]), ?_⟩
    unfold FrameB FrameG
    (repeat apply Exists.intro); rfl
  | false =>
    have E1 : Hid (execN M (X.set 0 0) pc (i : Int) d a b n = ⟨M, X.set 0 0, p4, 0, 0, 0⟩) := hid (by have h := E0.out; simp only [Bool.false_eq_true, if_false] at h; rw [if_pos (by omega)] at h; exact h)
    clear E0
    go_upto_region 33 with (fail)
    apply wp_region_lit
    refine wpList_val (w' := W6) (.pointer (some ⟨z, 0, none⟩)) rfl (by kernel_rfl) ?_
    simp only [ps]
    refine wpList_val (w' := W6) (.string ⟨nm.toArray⟩) rfl (by go_simp) ?_
    simp only [ps]
    refine wpList_val (w' := W6) (.int .u64 A) rfl (by kernel_rfl) ?_
    simp only [ps]
    refine wpList_val (w' := W6) (.int .u64 Bv) rfl (by kernel_rfl) ?_
    simp only [ps]
    refine wpList_call (.bool false) (fun w'' => Below W6.heap.size W6 w'') (f := 49) (args := #[.string ⟨nm.toArray⟩, .int .u64 A, .int .u64 Bv]) rfl (by kernel_rfl) (HTk.out W6) ?_
    rintro W7 hb7
    simp only [ps]
    have I7 := hid (I6.out.below hb7)
    have OF7 : Hid (St7 W7 O (X.set 0 0) pc) := hid ((hb7.block _ (blk_lt' OF.out)).trans OF.out)
    clear hb7 I6 OF lG lz lS lO cpc jd kn kl ko HK6 HT6
    have cpc := I7.out.b3.cellPc HX0.out
    have lS := blk_lt' I7.out.b3
    go_wp2_with fail
    refine Met.intro ?_
    go_step
    refine ⟨sl, M, (X.set 0 0), p4, 0, O, I7, OF7, hid (HS.out _), HX0, hO, hp4l, hid (by rw [Hs.out, E1.out, if_pos (by omega)]), ?_⟩
    unfold FrameB FrameG
    (repeat apply Exists.intro); rfl
end
end Go.Proofs.YtiemingpbommeaaGreatDoor
