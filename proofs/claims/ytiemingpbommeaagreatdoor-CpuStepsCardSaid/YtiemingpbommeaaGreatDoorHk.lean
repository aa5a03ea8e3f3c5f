/- Row CpuGuards: the plain law. -/
import Derived.Test.YtiemingpbommeaaGreatDoorHj
import Derived.Stop.BytesEq
import Derived.Test.YtiemingpbommeaaGreatDoorHh
import Derived.Test.YtiemingpbommeaaGreatDoorHc
import Derived.Deep.MidRow
import Derived.Test.YtiemingpbommeaaGreatDoorGr
import Derived.Deep.SlicePairs
import Derived.ChangeSlices
import Derived.Carry
namespace Go.Proofs.YtiemingpbommeaaGreatDoor
open Go Go.RowKit
noncomputable section
set_option linter.unusedVariables false
set_option linter.unusedSimpArgs false
theorem list32 {X : List Nat} (h : X.length = 32) : ∃ x0 x1 x2 x3 x4 x5 x6 x7 x8 x9 x10 x11 x12 x13 x14 x15 x16 x17 x18 x19 x20 x21 x22 x23 x24 x25 x26 x27 x28 x29 x30 x31, X = [x0, x1, x2, x3, x4, x5, x6, x7, x8, x9, x10, x11, x12, x13, x14, x15, x16, x17, x18, x19, x20, x21, x22, x23, x24, x25, x26, x27, x28, x29, x30, x31] := by
  match X, h with
  | [x0, x1, x2, x3, x4, x5, x6, x7, x8, x9, x10, x11, x12, x13, x14, x15, x16, x17, x18, x19, x20, x21, x22, x23, x24, x25, x26, x27, x28, x29, x30, x31], _ => exact ⟨_, _, _, _, _, _, _, _, _, _, _, _, _, _, _, _, _, _, _, _, _, _, _, _, _, _, _, _, _, _, _, _, rfl⟩
/-- a state out of its registers and its place -/
theorem built_state {X : List Nat} (hX : Regs X) (pc : Nat) : Tryz.prog.built 36 [(0, .agg (ucells X)), (1, .int .u64 pc)] = some (stCells X pc) := by
  obtain ⟨x0, x1, x2, x3, x4, x5, x6, x7, x8, x9, x10, x11, x12, x13, x14, x15, x16, x17, x18, x19, x20, x21, x22, x23, x24, x25, x26, x27, x28, x29, x30, x31, rfl⟩ := list32 hX.len
  clear hX
  kernel_rfl
theorem Codes.keep {w w' : World} {v : Value} (h : Codes w v) (hk : Keep [] w w') : Codes w' v := by
  obtain ⟨p, n, c, hv, hn, hc⟩ := h
  refine ⟨p, n, c, hv, hn, fun h0 => ?_⟩
  obtain ⟨b, off, hp, hb, hj⟩ := hc h0
  refine ⟨b, off, hp, Nat.lt_of_lt_of_le hb hk.size, fun j hj' => ?_⟩
  obtain ⟨x, r, hx, h1, h2⟩ := hj j hj'
  exact ⟨x, r, hx, (World.cell?_of_block (hk.block b hb (by simp))).trans h1, (World.cell?_of_block (hk.block b hb (by simp))).trans h2⟩
end
end Go.Proofs.YtiemingpbommeaaGreatDoor

/- Row CpuGuards: the law's own function, walked. -/
namespace Go.Proofs.YtiemingpbommeaaGreatDoor
open Go Go.RowKit
noncomputable section
set_option linter.unusedVariables false
set_option linter.unusedSimpArgs false
theorem range_state {w : World} {g pc : Nat} {X : List Nat} (hX : Regs X) (h : StIs w g X pc) : w.rangeAt g 0 (List.map (fun n : Nat => Value.int .u64 (n : Int)) X) := by
  intro j v hj
  have hl : j < X.length := by have := (List.getElem?_eq_some_iff.1 hj).1; simpa using this
  rw [Nat.zero_add, h.cell hX (by rw [← hX.len]; exact hl)]
  rw [List.getElem?_map, List.getElem?_eq_getElem hl] at hj
  unfold getR
  rw [getD_at _ _ _ hl]
  exact hj
section
variable {P : Program} {ops : Array Oper} {Q : Exit → Act → World → Prop}
theorem exec_build {o : Oper} {a : Act} {w : World} {t : TypeId} {parts : Array (Nat × Operand)} {cells : Array Value} (ho : o.op = .build t parts) (hf : P.built t (parts.map fun (i, x) => (i, a.eval x)).toList = some cells) :
    (execOp a.eval o).run P w = .ok (.value (.agg cells)) w := by
  unfold execOp
  simp only [ho, Sem.run_bind, run_build w t _ cells hf, Result.andThen_ok]
  rfl
theorem wpList_callE {rest : List Oper} {o : Oper} {a : Act} {w : World} {f : FuncId} {args : Array Value} (R : Value → World → Prop) (hg : o.guard = none) (hr : (execOp a.eval o).run P w = .ok (.enter f args) w)
    (hc : Calls P f args w (fun e w'' => ∃ v, e = .returned v ∧ R v w'')) (h : ∀ v w'', R v w'' → wpList P ops Q rest (a.put o.dst v) w'') : wpList P ops Q (o :: rest) a w :=
  wpList_plain hg fun K hK => by
    show o.upon P a K Q _
    rw [hr]
    exact hc.mono fun e w'' ⟨v, he, hR⟩ => by subst he; exact hK _ _ (h v w'' hR)
end
end
end Go.Proofs.YtiemingpbommeaaGreatDoor

/- The law's arguments: a program as words, registers as numbers. -/
namespace Go.Proofs.YtiemingpbommeaaGreatDoor
open Go Go.ChangeShapes Go.WideShapes Go.RowKit Go.Deep
noncomputable section
set_option linter.unusedVariables false
variable {H : Type} {enc : TypeId × Value → H}
theorem spot_none {w : World} {a : Addr} {v : Value} (h : w.cell? (a.add 0) = some v) : a = ⟨a.block, a.off, none⟩ ∧ a.block < w.heap.size := by
  have h2 := World.block_lt_of_cell? w _ h
  obtain ⟨b, o, s⟩ := a
  cases s with
  | none => exact ⟨rfl, by simpa [Addr.add] using h2⟩
  | some s =>
    exfalso
    simp [Addr.add, World.cell?] at h
    split at h <;> cases h
set_option maxRecDepth 100000 in
theorem codes_of {W : World} {v : Value} {d : DataW H} {ps : List MemPlace} {base : Nat} {r : Reach} (hv : Value.okWide Tryz.prog W r base 49 v) (h : DataW.Trod enc Tryz.prog W 0 (fun _ => true) true 49 v d ps) : Codes W v := by
  obtain ⟨a0, len, cap, rfl⟩ := okWide_slice Tryz.underlying49 hv
  obtain ⟨fuel, hf⟩ := h
  obtain ⟨f0, f1, hs, o0, o1, t0, t1⟩ : ∃ f0 f1 : Field, Tryz.prog.underlying 108 = some (.struct #[f0, f1]) ∧ f0.offset = 0 ∧ f1.offset = 1 ∧ f0.type = 22 ∧ f1.type = 4 := ⟨_, _, Tryz.underlying108, rfl, rfl, rfl, rfl⟩
  rcases open_slice_pairs Tryz.underlying49 hs (by kernel_rfl) o0 o1 (by rw [t0]; kernel_rfl) (by rw [t1]; kernel_rfl) hf with ⟨hcs, hx⟩ | ⟨a, len', cap', m, n, V0, V1, D0, D1, P0, P1, hcs, hb, hl, hm, hmm, hx, hel⟩
  · simp [Value.cells] at hcs
    obtain ⟨rfl, rfl, rfl⟩ := hcs
    exact ⟨none, 0, 0, rfl, by decide, fun h => by omega⟩
  · simp [Value.cells] at hcs
    obtain ⟨rfl, rfl, rfl⟩ := hcs
    simp only [if_true] at hmm
    refine ⟨some a, len, cap, rfl, by unfold maxLen at hm; omega, fun h0 => ?_⟩
    obtain ⟨e0, _⟩ := hel 0 (by omega)
    obtain ⟨ha, hlt⟩ := spot_none e0
    refine ⟨a.block, a.off, by rw [← ha], hlt, fun j hj => ?_⟩
    obtain ⟨c0, c1, d0, d1⟩ := hel j (by omega)
    rw [t0] at d0
    rw [t1] at d1
    obtain ⟨x, hx0, _, hwf⟩ := DataW.trod_int Tryz.underlying22 d0
    obtain ⟨b, hb0, _⟩ := DataW.trod_bool Tryz.underlying4 d1
    have hr : 0 ≤ x ∧ x < 4294967296 := by have := hwf; simp [Lit.wf, IntKind.min, IntKind.max, IntKind.signed, IntKind.bits] at this; omega
    obtain ⟨y, rfl⟩ := Int.eq_ofNat_of_zero_le hr.1
    simp only [List.cons.injEq, and_true] at hx0 hb0
    rw [ha, Addr.add_mid] at c0 c1
    refine ⟨y, b, by omega, ?_, ?_⟩
    · rw [← hx0, ← c0]
    · rw [← hb0, ← c1]; rfl
set_option maxRecDepth 100000 in
theorem u64s_of {W : World} {v : Value} {d : DataW H} {ps : List MemPlace} {base : Nat} {r : Reach} (hv : Value.okWide Tryz.prog W r base 50 v) (h : DataW.Trod enc Tryz.prog W 0 (fun _ => true) true 50 v d ps) : U64s W v := by
  obtain ⟨a0, len, cap, rfl⟩ := okWide_slice Tryz.underlying50 hv
  obtain ⟨fuel, hf⟩ := h
  rcases open_ints Tryz.underlying50 Tryz.underlying23 (by kernel_rfl) hf with ⟨hcs, hx⟩ | ⟨a, len', cap', zs, hcs, _, hl, hm, hz, hx, hcell, hwz⟩
  · simp [Value.cells] at hcs
    obtain ⟨rfl, rfl, rfl⟩ := hcs
    exact ⟨none, 0, 0, rfl, by decide, fun h => by omega⟩
  · simp [Value.cells] at hcs
    obtain ⟨rfl, rfl, rfl⟩ := hcs
    simp only [if_true] at hz
    refine ⟨some a, len, cap, rfl, by unfold maxLen at hm; omega, fun h0 => ?_⟩
    obtain ⟨ha, hlt⟩ := spot_none (hcell 0 (by omega))
    refine ⟨a.block, a.off, by rw [← ha], hlt, fun j hj => ?_⟩
    have hj' : j < zs.length := by omega
    have hc := hcell j hj'
    have hw := hwz (zs.getD j 0) (by rw [getD_at _ _ _ hj']; exact List.getElem_mem hj')
    have hr : 0 ≤ zs.getD j 0 ∧ zs.getD j 0 < 18446744073709551616 := by have := hw; simp [Lit.wf, IntKind.min, IntKind.max, IntKind.signed, IntKind.bits] at this; constructor <;> (simp at *; omega)
    obtain ⟨y, hy⟩ := Int.eq_ofNat_of_zero_le hr.1
    rw [ha, Addr.add_mid] at hc
    rw [hy] at hc hr
    exact ⟨y, by omega, by rw [← hc]⟩
end
end Go.Proofs.YtiemingpbommeaaGreatDoor
