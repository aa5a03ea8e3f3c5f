/- Row CpuGuards: the plain law. -/
import Derived.Test.YtiemingpbommeaaGreatDoorHj
import Derived.Test.YtiemingpbommeaaGreatDoorHh
import Derived.Test.YtiemingpbommeaaGreatDoorHc
import Derived.Deep.MidRow
import Derived.Test.YtiemingpbommeaaGreatDoorGr
import Derived.Deep.SlicePairs
import Derived.ChangeSlices
import Derived.Carry
namespace Go.Proofs.YtiemingpbommeaaGreatDoor
open Go Go.RowKit
noncomputable section
set_option linter.unusedVariables false
set_option linter.unusedSimpArgs false

/-- no byte may be stored -/
def Shut (M : List Pg) : Prop := ∀ y, okAt M 2 y = false
theorem storeN_shut {M : List Pg} (h : Shut M) (x v : Nat) (size : Int) : (storeN M x v size).1 = M := by
  unfold storeN
  split
  · rename_i hs
    have h1 : 0 < size.toNat := by
      unfold sizeOk at hs
      simp only [decide_eq_true_eq] at hs
      omega
    have hm : mayN M x size.toNat 2 11 = (if (pgOf M (adr x 0)).isSome then (11, adr x 0) else (9, adr x 0)) := mayN_some h1 (fun j hj => by omega) (h _)
    rw [if_neg]
    rw [hm]
    split <;> simp
  · rfl
theorem stepN_shut {M : List Pg} (h : Shut M) (X : List Nat) (pc : Nat) : (stepN M X pc).M = M := by
  unfold stepN
  split
  · rfl
  · split
    · split
      · unfold execN
        have hd : ∀ X pc o d a b n, (doR M X pc o d a b n).1 = M := fun X pc o d a b n => by
          unfold doR
          split
          · rfl
          · split
            · rfl
            · split
              · rfl
              · split
                · exact storeN_shut h _ _ _
                · split <;> rfl
        split
        · split <;> rfl
        · split <;> exact hd _ _ _ _ _ _ _
      · rfl
    · rfl
theorem runN_shut {M : List Pg} (h : Shut M) : ∀ (r k : Nat) (X : List Nat) (pc : Nat), (runN r k M X pc).M = M
  | 0, k, X, pc => by unfold runN; split <;> rfl
  | r + 1, k, X, pc => by
    unfold runN
    have hs := stepN_shut h (X.set 0 0) pc
    dsimp only
    split
    · split
      · exact hs
      · split
        · rw [hs]; exact runN_shut h r _ _ _
        · exact hs
    · exact hs
theorem threeM_find {p0 p1 y : Nat} {g : Pg} (h : pgOf (threeM p0 p1) y = some g) : g.p = p0 ∨ g.p = p1 := by
  have hm := (pgOf_a h).2
  simp only [threeM, List.mem_cons, List.mem_nil_iff, or_false] at hm
  rcases hm with rfl | rfl | rfl
  · exact .inl rfl
  · exact .inr rfl
  · exact .inr rfl
theorem shut_three (T : List UInt8) : Shut (layN (threeM 5 4) 65536 T) := by
  intro y
  unfold layN
  rw [okAt_layK]
  unfold okAt
  cases h : pgOf (threeM 5 4) y with
  | none => rfl
  | some g =>
    rcases threeM_find h with e | e
    · show (g.p &&& 2 == 2) = false
      rw [e]; rfl
    · show (g.p &&& 2 == 2) = false
      rw [e]; rfl
theorem fetch_shut (T : List UInt8) : fetchN (layN (threeM 5 4) 65536 T) 65792 = (0, 12, 65792) := by
  have h0 : okAt (layN (threeM 5 4) 65536 T) 1 (adr 65792 0) = false := by
    unfold layN
    rw [okAt_layK]
    decide
  have hs : (pgOf (layN (threeM 5 4) 65536 T) (adr 65792 0)).isSome = true := by
    unfold layN
    rw [some_layK]
    decide
  have hm : mayN (layN (threeM 5 4) 65536 T) 65792 4 1 12 = (12, 65792) := by
    rw [mayN_some (i := 0) (by decide) (fun j hj => by omega) h0, if_pos hs]
    rfl
  unfold fetchN
  rw [if_pos (by decide), hm]
  rfl
theorem step_shut (T : List UInt8) (X : List Nat) : stepN (layN (threeM 5 4) 65536 T) X 65792 = ⟨layN (threeM 5 4) 65536 T, X.set 0 0, 65792, 0, 12, 65792⟩ := by
  unfold stepN
  rw [if_neg (by decide), fetch_shut]
  rfl
theorem laid_map (T : List UInt8) (p0 p1 : Nat) : (layN (threeM p0 p1) 65536 T).map (fun g => (g.a, g.p)) = [(65536, p0), (65792, p1), (66048, p1)] := by
  have h : ∀ k, (layK (threeM p0 p1) 65536 T k).map (fun g => (g.a, g.p)) = [(65536, p0), (65792, p1), (66048, p1)] := by
    intro k
    induction k with
    | zero => rfl
    | succ k ih => rw [layK_succ, setN_map, ih]
  exact h _
theorem three_of_laid {ps : List (Pg × Nat)} {T : List UInt8} {p0 p1 : Nat} (h : pgs ps = layN (threeM p0 p1) 65536 T) : Three ps := by
  have h1 := laid_map T p0 p1
  rw [← h] at h1
  have h2 := congrArg (List.map Prod.fst) h1
  unfold Three
  unfold pgs at h2
  simpa [Function.comp_def] using h2
theorem list32 {X : List Nat} (h : X.length = 32) : ∃ x0 x1 x2 x3 x4 x5 x6 x7 x8 x9 x10 x11 x12 x13 x14 x15 x16 x17 x18 x19 x20 x21 x22 x23 x24 x25 x26 x27 x28 x29 x30 x31, X = [x0, x1, x2, x3, x4, x5, x6, x7, x8, x9, x10, x11, x12, x13, x14, x15, x16, x17, x18, x19, x20, x21, x22, x23, x24, x25, x26, x27, x28, x29, x30, x31] := by
  match X, h with
  | [x0, x1, x2, x3, x4, x5, x6, x7, x8, x9, x10, x11, x12, x13, x14, x15, x16, x17, x18, x19, x20, x21, x22, x23, x24, x25, x26, x27, x28, x29, x30, x31], _ => exact ⟨_, _, _, _, _, _, _, _, _, _, _, _, _, _, _, _, _, _, _, _, _, _, _, _, _, _, _, _, _, _, _, _, rfl⟩
/-- a state out of its registers and its place -/
theorem built_state {X : List Nat} (hX : Regs X) (pc : Nat) : Tryz.prog.built 36 [(0, .agg (ucells X)), (1, .int .u64 pc)] = some (stCells X pc) := by
  obtain ⟨x0, x1, x2, x3, x4, x5, x6, x7, x8, x9, x10, x11, x12, x13, x14, x15, x16, x17, x18, x19, x20, x21, x22, x23, x24, x25, x26, x27, x28, x29, x30, x31, rfl⟩ := list32 hX.len
  clear hX
  kernel_rfl
theorem Codes.keep {w w' : World} {v : Value} (h : Codes w v) (hk : Keep [] w w') : Codes w' v := by
  obtain ⟨p, n, c, hv, hn, hc⟩ := h
  refine ⟨p, n, c, hv, hn, fun h0 => ?_⟩
  obtain ⟨b, off, hp, hb, hj⟩ := hc h0
  refine ⟨b, off, hp, Nat.lt_of_lt_of_le hb hk.size, fun j hj' => ?_⟩
  obtain ⟨x, r, hx, h1, h2⟩ := hj j hj'
  exact ⟨x, r, hx, (World.cell?_of_block (hk.block b hb (by simp))).trans h1, (World.cell?_of_block (hk.block b hb (by simp))).trans h2⟩
end
end Go.Proofs.YtiemingpbommeaaGreatDoor

/- Row CpuGuards: the law's own function, walked. -/
namespace Go.Proofs.YtiemingpbommeaaGreatDoor
open Go Go.RowKit
noncomputable section
set_option linter.unusedVariables false
set_option linter.unusedSimpArgs false

theorem range_state {w : World} {g pc : Nat} {X : List Nat} (hX : Regs X) (h : StIs w g X pc) : w.rangeAt g 0 (List.map (fun n : Nat => Value.int .u64 (n : Int)) X) := by
  intro j v hj
  have hl : j < X.length := by have := (List.getElem?_eq_some_iff.1 hj).1; simpa using this
  rw [Nat.zero_add, h.cell hX (by rw [← hX.len]; exact hl)]
  rw [List.getElem?_map, List.getElem?_eq_getElem hl] at hj
  unfold getR
  rw [getD_at _ _ _ hl]
  exact hj
section
variable {P : Program} {ops : Array Oper} {Q : Exit → Act → World → Prop}
theorem exec_build {o : Oper} {a : Act} {w : World} {t : TypeId} {parts : Array (Nat × Operand)} {cells : Array Value} (ho : o.op = .build t parts) (hf : P.built t (parts.map fun (i, x) => (i, a.eval x)).toList = some cells) :
    (execOp a.eval o).run P w = .ok (.value (.agg cells)) w := by
  unfold execOp
  simp only [ho, Sem.run_bind, run_build w t _ cells hf, Result.andThen_ok]
  rfl
theorem wpList_callE {rest : List Oper} {o : Oper} {a : Act} {w : World} {f : FuncId} {args : Array Value} (R : Value → World → Prop) (hg : o.guard = none) (hr : (execOp a.eval o).run P w = .ok (.enter f args) w)
    (hc : Calls P f args w (fun e w'' => ∃ v, e = .returned v ∧ R v w'')) (h : ∀ v w'', R v w'' → wpList P ops Q rest (a.put o.dst v) w'') : wpList P ops Q (o :: rest) a w :=
  wpList_plain hg fun K hK => by
    show o.upon P a K Q _
    rw [hr]
    exact hc.mono fun e w'' ⟨v, he, hR⟩ => by subst he; exact hK _ _ (h v w'' hR)
end

set_option maxHeartbeats 4000000 in
set_option maxRecDepth 100000 in
theorem cpuGuards_any (v u : Value) (w : World) (hv : Codes w v) (hu : U64s w u) (hL : Low w []) :
    Calls Tryz.prog 7 #[v, u] w fun e w' => e = .returned (.bool true) ∧ Below w.heap.size w w' := by
  have HL := hid hL
  have HV := hid hv
  have HU := hid hu
  clear hL hv hu
  go_enter Tryz.func7, Tryz.ntmps7
  go_wp2_with fail
  refine (speaks_any _ HL.out).mono ?_
  rintro e w0 ⟨rfl, hb0⟩
  have K0 := hid (Keep.of_below (S := []) hb0)
  clear hb0
  go_wp2_with fail
  refine (begun_any v 5 4 w0 (HV.out.keep K0.out)).mono ?_
  rintro e w1 ⟨sp, m, sl, rsl, ps, T, hT, rfl, hS, hM, hR, hbl, hsp, hm, hb1⟩
  rw [show prmX 5 = 5 from rfl, show prm 4 = 4 from rfl] at hM hR
  obtain ⟨q1, c1, hr1, _, _⟩ := hR.parts
  generalize (layN (threeM 5 4) 65536 T).length = n1 at hr1
  subst hr1
  have HS := hid hS
  have HM := hid hM
  have K1 := hid (K0.out.trans (Keep.of_below hb1))
  have Hbl : Hid (∀ b ∈ blks ps, w.heap.size ≤ b) := hid (fun b hb => Nat.le_trans K0.out.size (hbl b hb))
  clear hS hM hR hbl hsp hm hb1 K0
  go_wp2_with fail
  obtain ⟨w2, hw2⟩ : ∃ w2, w1.alloc (.cells #[.slice q1 n1 c1, .int .i64 4] 54) = w2 := ⟨_, rfl⟩
  have hb2 : Below w1.heap.size w1 w2 := by rw [← hw2]; exact (Below.refl _ _).alloc (Nat.le_refl _) _
  rw [hw2]
  have hS2 := HS.out.below hb2
  have K2 := hid (K1.out.trans (Keep.of_below hb2))
  refine (copy_any sp m sl 4 ps w2 hS2 (three_of_laid HM.out)).mono ?_
  rintro e w3 ⟨c, m2, slc, qs, rfl, hSc, heq, hbq, hc, hm2, hb3⟩
  have HS3 := hid (hS2.below hb3)
  have HSc := hid hSc
  have Heq := hid heq
  have K3 := hid (K2.out.trans (Keep.of_below hb3))
  have Hbq : Hid (∀ b ∈ blks qs, w2.heap.size ≤ b) := hid hbq
  have Hcm : Hid (w2.heap.size ≤ c ∧ w2.heap.size ≤ m2) := hid ⟨hc, hm2⟩
  have Hlt : Hid (∀ b ∈ blks ps, b < w2.heap.size) := hid (fun b hb => hS2.lt_blk hb)
  clear hw2 hb2 hS2 hSc heq hbq hc hm2 hb3 HS K1 K2
  go_upto_region 7 with (fail)
  apply wp_region_lit
  refine wpList_val (w' := w3) (.pointer (some ⟨sp, 0, none⟩)) rfl (by kernel_rfl) ?_
  simp only [Act.put, List.setIfInBounds_toArray, List.set_cons_zero, List.set_cons_succ]
  refine wpList_val (w' := w3) (u) rfl (by kernel_rfl) ?_
  simp only [Act.put, List.setIfInBounds_toArray, List.set_cons_zero, List.set_cons_succ]
  refine wpList_callE (fun v w'' => ∃ X, Regs X ∧ v = .agg (ucells X) ∧ Below w3.heap.size w3 w'') (f := 17) (args := #[u]) rfl (by kernel_rfl) ((registers_any u w3 (HU.out.keep K3.out)).mono (fun e w'' ⟨X, h1, h2, h3⟩ => ⟨_, h2, X, h1, rfl, h3⟩)) ?_
  rintro v4 w4 ⟨X, hX, rfl, hb4⟩
  simp only [Act.put, List.setIfInBounds_toArray, List.set_cons_zero, List.set_cons_succ]
  have HX := hid hX
  have HS4 := hid (HS3.out.below hb4)
  have HSc4 := hid (HSc.out.below hb4)
  have K4 := hid (K3.out.trans (Keep.of_below hb4))
  clear hb4 hX HS3 HSc K3
  refine wpList_val (w' := w4) (.agg (stCells X 65536)) rfl (exec_build rfl (Eq.trans (by kernel_rfl) (built_state HX.out 65536))) ?_
  simp only [Act.put, List.setIfInBounds_toArray, List.set_cons_zero, List.set_cons_succ]
  have HL4 : Hid (Low w4 (blks ps)) := hid (by
    have h := HL.out.keep K4.out
    exact ⟨h.names, h.max, h.sz, fun b hb => by have := Hbl.out b hb; have := HL.out.sz; omega⟩)
  have hrun := run_any sp m sl 4 ps X 65536 100 w4 HS4.out HX.out HL4.out (by decide)
  rw [show (100 : Int).toNat = 100 from rfl] at hrun
  have hreg := runN_regs 100 0 (pgs ps) HX.out 65536
  have hM := runN_shut (M := pgs ps) (by rw [HM.out]; exact shut_three T) 100 0 X 65536
  obtain ⟨R, hR⟩ : ∃ R, runN 100 0 (pgs ps) X 65536 = R := ⟨_, rfl⟩
  rw [hR] at hrun hreg hM
  have Hreg := hid hreg
  have HRM := hid hM
  clear hR hreg hM
  unfold RunPost at hrun
  refine wpList_call (.tuple #[.agg (stCells R.X R.pc), .int .i64 R.n, .int .i64 R.ev, fltV R.code R.fat]) _ (f := 21) (args := #[.pointer (some ⟨sp, 0, none⟩), .agg (stCells X 65536), .int .i64 100]) rfl (by kernel_rfl) hrun ?_
  rintro w5 ⟨ps5, hM5, hb5, hS5, hk5⟩
  simp only [Act.put, List.setIfInBounds_toArray, List.set_cons_zero, List.set_cons_succ]
  have HM5 : Hid (pgs ps5 = pgs ps) := hid (hM5.trans HRM.out)
  have HS5 := hid hS5
  have Hb5 := hid hb5
  have HSc5 := hid (HSc4.out.kept hk5 (fun h => by have := Hlt.out _ h; have := Hcm.out.1; omega) (fun h => by have := Hlt.out _ h; have := Hcm.out.2; omega) (fun b hb h => by have := Hlt.out _ h; have := Hbq.out _ hb; omega))
  have K5 : Hid (Keep [] w w5) := hid (((K4.out.mono (T := blks ps) (by simp)).trans hk5).old (by intro k hk hlt; have := Hbl.out k hk; omega))
  clear hrun hM5 hb5 hS5 hk5 HS4 HSc4 K4 HL4
  refine wpList_val (w' := w5) (.tuple #[.agg (stCells R.X R.pc), .int .i64 R.n, .int .i64 R.ev, fltV R.code R.fat]) rfl (by kernel_rfl) ?_
  simp only [Act.put, List.setIfInBounds_toArray, List.set_cons_zero, List.set_cons_succ]
  refine wpList_val (w' := w5) (.agg (stCells R.X R.pc)) rfl (by kernel_rfl) ?_
  simp only [Act.put, List.setIfInBounds_toArray, List.set_cons_zero, List.set_cons_succ]
  refine wpList_val (w' := w5) (.int .i64 R.n) rfl (by kernel_rfl) ?_
  simp only [Act.put, List.setIfInBounds_toArray, List.set_cons_zero, List.set_cons_succ]
  refine wpList_val (w' := w5) (.int .i64 R.ev) rfl (by kernel_rfl) ?_
  simp only [Act.put, List.setIfInBounds_toArray, List.set_cons_zero, List.set_cons_succ]
  refine wpList_val (w' := w5) (fltV R.code R.fat) rfl (by kernel_rfl) ?_
  simp only [Act.put, List.setIfInBounds_toArray, List.set_cons_zero, List.set_cons_succ]
  obtain ⟨W6, hW6, S11, S13, RB, h1, h2⟩ := two_new w5 36 31 zst #[.int .i64 0, .int .u64 0, .string ⟨#[]⟩] (stCells R.X R.pc) #[.int .i64 R.code, .int .u64 R.fat, .string ⟨#[]⟩]
  have T9 := hid S11
  have T12 := hid S13
  have K6 : Hid (Keep [] w W6) := hid (K5.out.trans (Keep.of_below RB))
  have RBk : Below w5.heap.size w5 W6 := RB
  obtain ⟨WA, hWA⟩ : ∃ WA, w5.alloc (.cells zst 36) = WA := ⟨_, rfl⟩
  have hsA : WA.heap.size = w5.heap.size + 1 := by rw [← hWA]; simp
  refine wpList_val (w' := w5.alloc (.cells zst 36)) (.pointer (some ⟨w5.heap.size, 0, none⟩)) rfl (by kernel_rfl) ?_
  simp only [Act.put, List.setIfInBounds_toArray, List.set_cons_zero, List.set_cons_succ]
  rw [hWA]
  rw [hWA] at h1 h2 hW6
  refine wpList_val (w' := WA.alloc (.cells #[.int .i64 0, .int .u64 0, .string ⟨#[]⟩] 31)) (.pointer (some ⟨WA.heap.size, 0, none⟩)) rfl (by kernel_rfl) ?_
  simp only [Act.put, List.setIfInBounds_toArray, List.set_cons_zero, List.set_cons_succ]
  rw [hsA]
  refine wpList_store_row rfl 36 (.tmp 9) (.tmp 35) rfl w5.heap.size (stCells R.X R.pc) rfl rfl 36 zst h1 (infoState Hreg.out R.pc) (stCells_size Hreg.out _).symm (stCells_one _ _) ?_
  simp only [Act.put, List.setIfInBounds_toArray, List.set_cons_zero, List.set_cons_succ]
  refine wpList_val (w' := (WA.alloc (.cells #[.int .i64 0, .int .u64 0, .string ⟨#[]⟩] 31)).setRow w5.heap.size (stCells R.X R.pc)) (.int .i64 R.n) rfl (by kernel_rfl) ?_
  simp only [Act.put, List.setIfInBounds_toArray, List.set_cons_zero, List.set_cons_succ]
  refine wpList_val (w' := (WA.alloc (.cells #[.int .i64 0, .int .u64 0, .string ⟨#[]⟩] 31)).setRow w5.heap.size (stCells R.X R.pc)) (.int .i64 R.ev) rfl (by kernel_rfl) ?_
  simp only [Act.put, List.setIfInBounds_toArray, List.set_cons_zero, List.set_cons_succ]
  refine wpList_store_row rfl 31 (.tmp 12) (.tmp 38) rfl (w5.heap.size + 1) #[.int .i64 R.code, .int .u64 R.fat, .string ⟨#[]⟩] rfl rfl 31 #[.int .i64 0, .int .u64 0, .string ⟨#[]⟩] h2 infoFault rfl (faultRow_one ..) ?_
  simp only [Act.put, List.setIfInBounds_toArray, List.set_cons_zero, List.set_cons_succ]
  rw [hW6]
  clear hW6 h1 h2 RB hWA hsA K5 S11 S13
  have HS6 := hid (HS5.out.below RBk)
  have HSc6 := hid (HSc5.out.below RBk)
  clear RBk HS5 HSc5
  generalize w5.heap.size = G at T9 T12 ⊢
  go_wp2_with fail
  refine (same_any sp m c m2 sl slc 4 4 ps5 qs W6 HS6.out HSc6.out (by unfold Three; have h := congrArg (List.map Pg.a) HM5.out; have h2 := three_of_laid HM.out; unfold Three at h2; unfold pgs at h; simp only [List.map_map, Function.comp_def] at h; rw [h]; exact h2) (by rw [Heq.out, HM5.out])).mono ?_
  rintro e w7 ⟨rfl, hb7⟩
  have HS7 := hid (HS6.out.below hb7)
  have K7 := hid (K6.out.trans (Keep.of_below hb7))
  have U9 : Hid (StIs w7 G R.X R.pc) := hid ((hb7.block _ (blk_lt' T9.out)).trans T9.out)
  have U12 := hid ((hb7.block _ (blk_lt' T12.out)).trans T12.out)
  clear hb7 HS6 HSc6 T9 T12 K6
  go_upto_region 10 with (fail)
  apply wp_region_lit
  refine wpList_val (w' := w7) (.pointer (some ⟨sp, 0, none⟩)) rfl (by kernel_rfl) ?_
  simp only [Act.put, List.setIfInBounds_toArray, List.set_cons_zero, List.set_cons_succ]
  refine wpList_val (w' := w7) (.pointer (some ⟨G, 0, none⟩)) rfl (by kernel_rfl) ?_
  simp only [Act.put, List.setIfInBounds_toArray, List.set_cons_zero, List.set_cons_succ]
  refine wpList_load_mid rfl 34 (.tmp 45) rfl G 0 rfl (List.map (fun n : Nat => Value.int .u64 (n : Int)) R.X) _ (range_state Hreg.out U9.out) Tryz.underlying34 rfl (by rw [info_regs, List.length_map, Hreg.out.len]) ?_
  simp only [Act.put, List.setIfInBounds_toArray, List.set_cons_zero, List.set_cons_succ]
  refine wpList_val (w' := w7) (.agg (stCells R.X 65792)) rfl (exec_build rfl (Eq.trans (by kernel_rfl) (built_state Hreg.out 65792))) ?_
  simp only [Act.put, List.setIfInBounds_toArray, List.set_cons_zero, List.set_cons_succ]
  have HL7 : Hid (Low w7 (blks ps5)) := hid (by
    have h := HL.out.keep K7.out
    exact ⟨h.names, h.max, h.sz, fun b hb => by rw [Hb5.out] at hb; have := Hbl.out b hb; have := HL.out.sz; omega⟩)
  have hstep := step_any sp m sl 4 ps5 R.X 65792 w7 HS7.out Hreg.out HL7.out
  have hs := step_shut T R.X
  rw [← HM.out, ← HM5.out] at hs
  have hsr := stepN_regs (pgs ps5) Hreg.out 65792
  obtain ⟨S, hS⟩ : ∃ S, stepN (pgs ps5) R.X 65792 = S := ⟨_, rfl⟩
  rw [hS] at hstep hs hsr
  have Hev : Hid (S.ev = 0) := hid (by rw [hs])
  have Hco : Hid (S.code = 12) := hid (by rw [hs])
  have Hfa : Hid (S.fat = 65792) := hid (by rw [hs])
  have HSr := hid hsr
  clear hS hs hsr
  unfold StepPost at hstep
  refine wpList_call (.tuple #[.agg (stCells S.X S.pc), .int .i64 S.ev, fltV S.code S.fat]) _ (f := 13) (args := #[.pointer (some ⟨sp, 0, none⟩), .agg (stCells R.X 65792)]) rfl (by kernel_rfl) hstep ?_
  rintro w8 ⟨ps8, _, _, _, hk8⟩
  simp only [Act.put, List.setIfInBounds_toArray, List.set_cons_zero, List.set_cons_succ]
  have K8 : Hid (Keep [] w w8) := hid (((K7.out.mono (T := blks ps5) (by simp)).trans hk8).old (by intro k hk hlt; rw [Hb5.out] at hk; have := Hbl.out k hk; omega))
  have V12 := hid (hk8.row U12.out (HS7.out.not_blk U12.out (fun cs e => by cases e)))
  clear hstep hk8 HS7 K7 HL7 U9 U12
  refine wpList_val (w' := w8) (.tuple #[.agg (stCells S.X S.pc), .int .i64 S.ev, fltV S.code S.fat]) rfl (by kernel_rfl) ?_
  simp only [Act.put, List.setIfInBounds_toArray, List.set_cons_zero, List.set_cons_succ]
  refine wpList_val (w' := w8) (.agg (stCells S.X S.pc)) rfl (by kernel_rfl) ?_
  simp only [Act.put, List.setIfInBounds_toArray, List.set_cons_zero, List.set_cons_succ]
  refine wpList_val (w' := w8) (.int .i64 S.ev) rfl (by kernel_rfl) ?_
  simp only [Act.put, List.setIfInBounds_toArray, List.set_cons_zero, List.set_cons_succ]
  refine wpList_val (w' := w8) (fltV S.code S.fat) rfl (by kernel_rfl) ?_
  simp only [Act.put, List.setIfInBounds_toArray, List.set_cons_zero, List.set_cons_succ]
  obtain ⟨W9, hW6, S11, S13, RB, h1, h2⟩ := two_new w8 36 31 zst #[.int .i64 0, .int .u64 0, .string ⟨#[]⟩] (stCells S.X S.pc) #[.int .i64 S.code, .int .u64 S.fat, .string ⟨#[]⟩]
  have T13 := hid S11
  have T15 := hid S13
  have K9 : Hid (Keep [] w W9) := hid (K8.out.trans (Keep.of_below RB))
  have RBk : Below w8.heap.size w8 W9 := RB
  obtain ⟨WA, hWA⟩ : ∃ WA, w8.alloc (.cells zst 36) = WA := ⟨_, rfl⟩
  have hsA : WA.heap.size = w8.heap.size + 1 := by rw [← hWA]; simp
  refine wpList_val (w' := w8.alloc (.cells zst 36)) (.pointer (some ⟨w8.heap.size, 0, none⟩)) rfl (by kernel_rfl) ?_
  simp only [Act.put, List.setIfInBounds_toArray, List.set_cons_zero, List.set_cons_succ]
  rw [hWA]
  rw [hWA] at h1 h2 hW6
  refine wpList_val (w' := WA.alloc (.cells #[.int .i64 0, .int .u64 0, .string ⟨#[]⟩] 31)) (.pointer (some ⟨WA.heap.size, 0, none⟩)) rfl (by kernel_rfl) ?_
  simp only [Act.put, List.setIfInBounds_toArray, List.set_cons_zero, List.set_cons_succ]
  rw [hsA]
  refine wpList_store_row rfl 36 (.tmp 13) (.tmp 49) rfl w8.heap.size (stCells S.X S.pc) rfl rfl 36 zst h1 (infoState HSr.out S.pc) (stCells_size HSr.out _).symm (stCells_one _ _) ?_
  simp only [Act.put, List.setIfInBounds_toArray, List.set_cons_zero, List.set_cons_succ]
  refine wpList_val (w' := (WA.alloc (.cells #[.int .i64 0, .int .u64 0, .string ⟨#[]⟩] 31)).setRow w8.heap.size (stCells S.X S.pc)) (.int .i64 S.ev) rfl (by kernel_rfl) ?_
  simp only [Act.put, List.setIfInBounds_toArray, List.set_cons_zero, List.set_cons_succ]
  refine wpList_store_row rfl 31 (.tmp 15) (.tmp 51) rfl (w8.heap.size + 1) #[.int .i64 S.code, .int .u64 S.fat, .string ⟨#[]⟩] rfl rfl 31 #[.int .i64 0, .int .u64 0, .string ⟨#[]⟩] h2 infoFault rfl (faultRow_one ..) ?_
  simp only [Act.put, List.setIfInBounds_toArray, List.set_cons_zero, List.set_cons_succ]
  rw [hW6]
  clear hW6 h1 h2 RB hWA hsA K8 S11 S13
  have X12 := hid ((RBk.block _ (blk_lt' V12.out)).trans V12.out)
  clear RBk V12
  generalize w8.heap.size = G2 at T13 T15 ⊢
  have q0 : W9.cell? ⟨G2 + 1, 0, none⟩ = some (.int .i64 12) := by rw [cell_of_row _ _ _ _ _ _ T15.out, Hco.out]; rfl
  have q1 : W9.cell? ⟨G2 + 1, 1, none⟩ = some (.int .u64 65792) := by rw [cell_of_row _ _ _ _ _ _ T15.out, Hfa.out]; rfl
  have r0 : W9.cell? ⟨G + 1, 0, none⟩ = some (.int .i64 R.code) := by rw [cell_of_row _ _ _ _ _ _ X12.out]; rfl
  have r1 : W9.cell? ⟨G + 1, 1, none⟩ = some (.int .u64 R.fat) := by rw [cell_of_row _ _ _ _ _ _ X12.out]; rfl
  have r2 : W9.cell? ⟨G + 1, 2, none⟩ = some (.string ⟨#[]⟩) := by rw [cell_of_row _ _ _ _ _ _ X12.out]; rfl
  rw [Hev.out]
  go_wp2_with fail
  refine (faultOK_any _ _ _ _).mono ?_
  rintro e w10 ⟨rfl, hb10⟩
  have K10 := hid (K9.out.trans (Keep.of_below hb10))
  have s0 : w10.cell? ⟨G + 1, 0, none⟩ = some (.int .i64 R.code) := (World.cell?_of_block (hb10.block _ (blk_lt' X12.out))).trans r0
  clear hb10 q0 q1 r0 r1 r2 T13 T15 X12 K9
  cases hc1 : ((R.code : Int) == 0) with
  | true =>
    clear hc1
    go_wp2_with fail
    go_ret
    exact ⟨rfl, K10.out.below (Nat.le_refl _) (by simp)⟩
  | false =>
    have hne : ((R.code : Int) == 0) = false := hc1
    clear hc1
    go_wp2_with fail
    go_ret
    exact ⟨by simp at hne ⊢; exact hne, K10.out.below (Nat.le_refl _) (by simp)⟩
end
end Go.Proofs.YtiemingpbommeaaGreatDoor

/- The law's arguments: a program as words, registers as numbers. -/
namespace Go.Proofs.YtiemingpbommeaaGreatDoor
open Go Go.ChangeShapes Go.WideShapes Go.RowKit Go.Deep
noncomputable section
set_option linter.unusedVariables false
variable {H : Type} {enc : TypeId × Value → H}

theorem spot_none {w : World} {a : Addr} {v : Value} (h : w.cell? (a.add 0) = some v) : a = ⟨a.block, a.off, none⟩ ∧ a.block < w.heap.size := by
  have h2 := World.block_lt_of_cell? w _ h
  obtain ⟨b, o, s⟩ := a
  cases s with
  | none => exact ⟨rfl, by simpa [Addr.add] using h2⟩
  | some s =>
    exfalso
    simp [Addr.add, World.cell?] at h
    split at h <;> cases h
set_option maxRecDepth 100000 in
theorem codes_of {W : World} {v : Value} {d : DataW H} {ps : List MemPlace} {base : Nat} {r : Reach} (hv : Value.okWide Tryz.prog W r base 49 v) (h : DataW.Trod enc Tryz.prog W 0 (fun _ => true) true 49 v d ps) : Codes W v := by
  obtain ⟨a0, len, cap, rfl⟩ := okWide_slice Tryz.underlying49 hv
  obtain ⟨fuel, hf⟩ := h
  obtain ⟨f0, f1, hs, o0, o1, t0, t1⟩ : ∃ f0 f1 : Field, Tryz.prog.underlying 108 = some (.struct #[f0, f1]) ∧ f0.offset = 0 ∧ f1.offset = 1 ∧ f0.type = 22 ∧ f1.type = 4 := ⟨_, _, Tryz.underlying108, rfl, rfl, rfl, rfl⟩
  rcases open_slice_pairs Tryz.underlying49 hs (by kernel_rfl) o0 o1 (by rw [t0]; kernel_rfl) (by rw [t1]; kernel_rfl) hf with ⟨hcs, hx⟩ | ⟨a, len', cap', m, n, V0, V1, D0, D1, P0, P1, hcs, hb, hl, hm, hmm, hx, hel⟩
  · simp [Value.cells] at hcs
    obtain ⟨rfl, rfl, rfl⟩ := hcs
    exact ⟨none, 0, 0, rfl, by decide, fun h => by omega⟩
  · simp [Value.cells] at hcs
    obtain ⟨rfl, rfl, rfl⟩ := hcs
    simp only [if_true] at hmm
    refine ⟨some a, len, cap, rfl, by unfold maxLen at hm; omega, fun h0 => ?_⟩
    obtain ⟨e0, _⟩ := hel 0 (by omega)
    obtain ⟨ha, hlt⟩ := spot_none e0
    refine ⟨a.block, a.off, by rw [← ha], hlt, fun j hj => ?_⟩
    obtain ⟨c0, c1, d0, d1⟩ := hel j (by omega)
    rw [t0] at d0
    rw [t1] at d1
    obtain ⟨x, hx0, _, hwf⟩ := DataW.trod_int Tryz.underlying22 d0
    obtain ⟨b, hb0, _⟩ := DataW.trod_bool Tryz.underlying4 d1
    have hr : 0 ≤ x ∧ x < 4294967296 := by have := hwf; simp [Lit.wf, IntKind.min, IntKind.max, IntKind.signed, IntKind.bits] at this; omega
    obtain ⟨y, rfl⟩ := Int.eq_ofNat_of_zero_le hr.1
    simp only [List.cons.injEq, and_true] at hx0 hb0
    rw [ha, Addr.add_mid] at c0 c1
    refine ⟨y, b, by omega, ?_, ?_⟩
    · rw [← hx0, ← c0]
    · rw [← hb0, ← c1]; rfl
set_option maxRecDepth 100000 in
theorem u64s_of {W : World} {v : Value} {d : DataW H} {ps : List MemPlace} {base : Nat} {r : Reach} (hv : Value.okWide Tryz.prog W r base 50 v) (h : DataW.Trod enc Tryz.prog W 0 (fun _ => true) true 50 v d ps) : U64s W v := by
  obtain ⟨a0, len, cap, rfl⟩ := okWide_slice Tryz.underlying50 hv
  obtain ⟨fuel, hf⟩ := h
  rcases open_ints Tryz.underlying50 Tryz.underlying23 (by kernel_rfl) hf with ⟨hcs, hx⟩ | ⟨a, len', cap', zs, hcs, _, hl, hm, hz, hx, hcell, hwz⟩
  · simp [Value.cells] at hcs
    obtain ⟨rfl, rfl, rfl⟩ := hcs
    exact ⟨none, 0, 0, rfl, by decide, fun h => by omega⟩
  · simp [Value.cells] at hcs
    obtain ⟨rfl, rfl, rfl⟩ := hcs
    simp only [if_true] at hz
    refine ⟨some a, len, cap, rfl, by unfold maxLen at hm; omega, fun h0 => ?_⟩
    obtain ⟨ha, hlt⟩ := spot_none (hcell 0 (by omega))
    refine ⟨a.block, a.off, by rw [← ha], hlt, fun j hj => ?_⟩
    have hj' : j < zs.length := by omega
    have hc := hcell j hj'
    have hw := hwz (zs.getD j 0) (by rw [getD_at _ _ _ hj']; exact List.getElem_mem hj')
    have hr : 0 ≤ zs.getD j 0 ∧ zs.getD j 0 < 18446744073709551616 := by have := hw; simp [Lit.wf, IntKind.min, IntKind.max, IntKind.signed, IntKind.bits] at this; constructor <;> (simp at *; omega)
    obtain ⟨y, hy⟩ := Int.eq_ofNat_of_zero_le hr.1
    rw [ha, Addr.add_mid] at hc
    rw [hy] at hc hr
    exact ⟨y, by omega, by rw [← hc]⟩
end
end Go.Proofs.YtiemingpbommeaaGreatDoor
