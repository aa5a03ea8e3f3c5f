/- Row CpuRuns: the plain law, and what lies in memory between two rounds. -/
import Derived.Test.YtiemingpbommeaaGreatDoorHk
namespace Go.Proofs.YtiemingpbommeaaGreatDoor
open Go Go.RowKit
noncomputable section
set_option linter.unusedVariables false
set_option linter.unusedSimpArgs false
/-- a step keeps the pages' addresses -/
theorem layN_map (M : List Pg) (x : Nat) (bs : List UInt8) : (layN M x bs).map (fun g => (g.a, g.p)) = M.map (fun g => (g.a, g.p)) := by
  have h : ∀ k, (layK M x bs k).map (fun g => (g.a, g.p)) = M.map (fun g => (g.a, g.p)) := by
    intro k
    induction k with
    | zero => rfl
    | succ k ih => rw [layK_succ, setN_map, ih]
  exact h _
theorem storeN_map (M : List Pg) (x v : Nat) (size : Int) : (storeN M x v size).1.map (fun g => (g.a, g.p)) = M.map (fun g => (g.a, g.p)) := by
  unfold storeN
  split
  · split
    · exact layN_map _ _ _
    · rfl
  · rfl
theorem stepN_map (M : List Pg) (X : List Nat) (pc : Nat) : (stepN M X pc).M.map (fun g => (g.a, g.p)) = M.map (fun g => (g.a, g.p)) := by
  unfold stepN
  split
  · rfl
  · split
    · split
      · unfold execN
        have hd : ∀ X pc o d a b n, (doR M X pc o d a b n).1.map (fun g => (g.a, g.p)) = M.map (fun g => (g.a, g.p)) := fun X pc o d a b n => by
          unfold doR
          split
          · rfl
          · split
            · rfl
            · split
              · rfl
              · split
                · exact storeN_map _ _ _ _
                · split <;> rfl
        split
        · split <;> rfl
        · split <;> exact hd _ _ _ _ _ _ _
      · rfl
    · rfl
/-- what lies where -/
structure Place where
  sp : Nat
  m : Nat
  sl : Value
  c : Nat
  m2 : Nat
  slc : Value
  bp : List Nat
  bq : List Nat
  g : Nat
  t : Nat
/-- nothing of it lies in another's blocks -/
structure Place.Ok (p : Place) (w : World) : Prop where
  a1 : p.sp ∉ p.bq
  a2 : p.m ∉ p.bq
  a3 : ∀ b ∈ p.bp, b ∉ p.bq
  a4 : p.g ∉ p.bq
  a5 : p.t ∉ p.bq
  a6 : p.t + 1 ∉ p.bq
  a7 : p.g ≠ p.t ∧ p.g ≠ p.t + 1
  b1 : p.sp ≠ p.g
  b2 : p.m ≠ p.g
  b3 : p.g ∉ p.bp
  b4 : p.c ≠ p.g
  b5 : p.m2 ≠ p.g
  lo : ∀ b ∈ p.bq, w.heap.size ≤ b
  lg : w.heap.size ≤ p.g
structure RunsW (p : Place) (w : World) (R : RAns) (M : List Pg) (X : List Nat) (pc : Nat) (W : World) : Prop where
  keep : Keep [] w W
  s : StIs W p.g X pc
  t : StIs W p.t R.X R.pc
  f : W.heap[p.t + 1]? = some (.cells #[.int .i64 R.code, .int .u64 R.fat, .string ⟨#[]⟩] 31 (0, 0))
  a : ∃ ps, pgs ps = R.M ∧ blks ps = p.bp ∧ SpaceIs W p.sp p.m p.sl 4 ps
  b : ∃ qs, pgs qs = M ∧ blks qs = p.bq ∧ SpaceIs W p.c p.m2 p.slc 4 qs
theorem RunsW.below {p : Place} {w : World} {R : RAns} {M : List Pg} {X : List Nat} {pc : Nat} {W W' : World} (h : RunsW p w R M X pc W) (hb : Below W.heap.size W W') : RunsW p w R M X pc W' := by
  obtain ⟨ps, a1, a2, a3⟩ := h.a
  obtain ⟨qs, b1, b2, b3⟩ := h.b
  exact ⟨h.keep.trans (Keep.of_below hb), (hb.block _ (blk_lt' h.s)).trans h.s, (hb.block _ (blk_lt' h.t)).trans h.t, (hb.block _ (blk_lt' h.f)).trans h.f, ⟨ps, a1, a2, a3.below hb⟩, ⟨qs, b1, b2, b3.below hb⟩⟩
theorem RunsW.stepped {p : Place} {w : World} {R : RAns} {M M' : List Pg} {X : List Nat} {pc : Nat} {W W' : World} (ho : p.Ok w) (h : RunsW p w R M X pc W) (hk : Keep p.bq W W') (hb : ∃ qs, pgs qs = M' ∧ blks qs = p.bq ∧ SpaceIs W' p.c p.m2 p.slc 4 qs) :
    RunsW p w R M' X pc W' := by
  obtain ⟨ps, a1, a2, a3⟩ := h.a
  exact ⟨((h.keep.mono (T := p.bq) (by simp)).trans hk).old (by intro k hk hlt; have := ho.lo k hk; omega), hk.row h.s ho.a4, hk.row h.t ho.a5, hk.row h.f ho.a6, ⟨ps, a1, a2, a3.kept hk ho.a1 ho.a2 (fun b hb => ho.a3 b (by rw [← a2]; exact hb))⟩, hb⟩
/-! ### two rows that are one -/
theorem run_equalIn_same {P : Program} (w : World) (d : Nat) (t e : TypeId) (n : Nat) (k : IntKind) (ht : P.underlying t = some (.array n e)) (he : P.underlying e = some (.int k)) (hsz : ∀ w, (sizeOf e).run P w = .ok 1 w) (xs : List Int) (hx : xs.length = n) :
    (Op.equalIn (d + 2) t (.agg (xs.map (Value.int k)).toArray) (.agg (xs.map (Value.int k)).toArray)).run P w = .ok true w := by
  rw [Op.equalIn]
  simp only [Sem.run_bind, run_underlying ht, Result.andThen_ok, hsz, Std.Legacy.Range.forIn_eq_forIn_range', Std.Legacy.Range.size, Nat.sub_zero, Nat.add_sub_cancel, Nat.div_one]
  have hl : ∀ i ∈ List.range' 0 n 1, i < xs.length := fun i hi => by simpa [hx] using (List.mem_range'_1.1 hi).2
  generalize List.range' 0 n 1 = l at hl ⊢
  induction l with
  | nil => simp
  | cons i l ih =>
    have hi : i < xs.length := hl i (by simp)
    have pt : (part e (xs.map (Value.int k)).toArray (i * 1)).run P w = .ok (.int k xs[i]) w := by
      simp [part, isAgg, run_underlying he, hi]
    have pe : (Op.equalIn (d + 1) e (.int k xs[i]) (.int k xs[i])).run P w = .ok true w := by
      rw [run_equalIn_int w d e k k _ _ he]
      simp
    simp only [List.forIn_cons, Sem.run_bind, pt, pe, Result.andThen_ok, Bool.not_true, Bool.false_eq_true, if_false, Sem.run_pure]
    exact ih fun j hj => hl j (by simp [hj])
section
variable {P : Program} {Q : Exit → Act → World → Prop} {ops : Array Oper}
end
end
end Go.Proofs.YtiemingpbommeaaGreatDoor
