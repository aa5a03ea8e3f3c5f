/- Row CpuRuns: the plain law, and what lies in memory between two rounds. -/
import Derived.Test.YtiemingpbommeaaGreatDoorHk
namespace Go.Proofs.YtiemingpbommeaaGreatDoor
open Go Go.RowKit
noncomputable section
set_option linter.unusedVariables false
set_option linter.unusedSimpArgs false

/-- a step keeps the pages' addresses -/
theorem layN_map (M : List Pg) (x : Nat) (bs : List UInt8) : (layN M x bs).map (fun g => (g.a, g.p)) = M.map (fun g => (g.a, g.p)) := by
  have h : ∀ k, (layK M x bs k).map (fun g => (g.a, g.p)) = M.map (fun g => (g.a, g.p)) := by
    intro k
    induction k with
    | zero => rfl
    | succ k ih => rw [layK_succ, setN_map, ih]
  exact h _
theorem storeN_map (M : List Pg) (x v : Nat) (size : Int) : (storeN M x v size).1.map (fun g => (g.a, g.p)) = M.map (fun g => (g.a, g.p)) := by
  unfold storeN
  split
  · split
    · exact layN_map _ _ _
    · rfl
  · rfl
theorem stepN_map (M : List Pg) (X : List Nat) (pc : Nat) : (stepN M X pc).M.map (fun g => (g.a, g.p)) = M.map (fun g => (g.a, g.p)) := by
  unfold stepN
  split
  · rfl
  · split
    · split
      · unfold execN
        have hd : ∀ X pc o d a b n, (doR M X pc o d a b n).1.map (fun g => (g.a, g.p)) = M.map (fun g => (g.a, g.p)) := fun X pc o d a b n => by
          unfold doR
          split
          · rfl
          · split
            · rfl
            · split
              · rfl
              · split
                · exact storeN_map _ _ _ _
                · split <;> rfl
        split
        · split <;> rfl
        · split <;> exact hd _ _ _ _ _ _ _
      · rfl
    · rfl
theorem runN_map : ∀ (r k : Nat) (M : List Pg) (X : List Nat) (pc : Nat), (runN r k M X pc).M.map (fun g => (g.a, g.p)) = M.map (fun g => (g.a, g.p))
  | 0, k, M, X, pc => by unfold runN; split <;> rfl
  | r + 1, k, M, X, pc => by
    unfold runN
    have hs := stepN_map M (X.set 0 0) pc
    dsimp only
    split
    · split
      · exact hs
      · split
        · rw [runN_map r _ _ _ _]; exact hs
        · exact hs
    · exact hs
theorem stepN_set0 (M : List Pg) (X : List Nat) (pc : Nat) : stepN M (X.set 0 0) pc = stepN M X pc := by
  unfold stepN
  simp only [List.set_set]
theorem stepN_trap (M : List Pg) (X : List Nat) {pc : Nat} (h : 1099511627776 ≤ pc) : (stepN M X pc).code = 0 ∧ (stepN M X pc).ev = 3 := by
  unfold stepN
  rw [if_pos h]
  exact ⟨rfl, rfl⟩
/-- the run, seen from one of its rounds -/
theorem run_out {k : Nat} {M : List Pg} {X : List Nat} {pc : Nat} {R : RAns} (h : runN 0 k M X pc = R) (hpc : pc < 1099511627776) : R.M = M ∧ R.pc = pc ∧ R.n = k ∧ R.ev = 0 ∧ R.code = 16 ∧ R.fat = pc := by
  unfold runN at h
  rw [if_pos hpc] at h
  subst h
  exact ⟨rfl, rfl, rfl, rfl, rfl, rfl⟩
theorem run_fault {r k : Nat} {M : List Pg} {X : List Nat} {pc : Nat} {R : RAns} {s : Ans} (h : runN r k M X pc = R) (hr : ¬ (r = 0 ∧ pc < 1099511627776)) (hs : stepN M X pc = s) (hc : s.code ≠ 0) :
    R.M = s.M ∧ R.pc = pc ∧ R.n = k ∧ R.ev = 0 ∧ R.code = s.code ∧ R.fat = s.fat := by
  rw [runN_step r k M X pc s ((stepN_set0 M X pc).trans hs) hr, if_neg hc] at h
  subst h
  exact ⟨rfl, rfl, rfl, rfl, rfl, rfl⟩
theorem run_trap {r k : Nat} {M : List Pg} {X : List Nat} {pc : Nat} {R : RAns} {s : Ans} (h : runN r k M X pc = R) (hr : ¬ (r = 0 ∧ pc < 1099511627776)) (hs : stepN M X pc = s) (hc : s.code = 0) (he : s.ev = 3) :
    R.pc = pc ∧ R.n = k ∧ R.ev = 3 ∧ R.code = 0 := by
  rw [runN_step r k M X pc s ((stepN_set0 M X pc).trans hs) hr, if_pos hc, if_pos he] at h
  subst h
  exact ⟨rfl, rfl, rfl, rfl⟩
theorem run_on {r k : Nat} {M : List Pg} {X : List Nat} {pc : Nat} {R : RAns} {s : Ans} (h : runN r k M X pc = R) (hr : ¬ (r = 0 ∧ pc < 1099511627776)) (hs : stepN M X pc = s) (hc : s.code = 0) (he : s.ev = 0) :
    0 < r ∧ runN (r - 1) (k + 1) s.M s.X s.pc = R := by
  have h0 : 0 < r := by
    rcases Nat.eq_zero_or_pos r with e | e
    · exfalso
      have hp : 1099511627776 ≤ pc := by omega
      have := (stepN_trap M X hp).2
      rw [hs, he] at this
      cases this
    · exact e
  rw [runN_step r k M X pc s ((stepN_set0 M X pc).trans hs) hr, if_pos hc, if_neg (by rw [he]; decide), if_pos he] at h
  exact ⟨h0, h⟩
theorem run_event {r k : Nat} {M : List Pg} {X : List Nat} {pc : Nat} {R : RAns} {s : Ans} (h : runN r k M X pc = R) (hr : ¬ (r = 0 ∧ pc < 1099511627776)) (hs : stepN M X pc = s) (hc : s.code = 0) (he : s.ev ≠ 3) (he0 : s.ev ≠ 0) :
    R.M = s.M ∧ R.X = s.X ∧ R.pc = s.pc ∧ R.n = k + 1 ∧ R.ev = s.ev ∧ R.code = 0 := by
  rw [runN_step r k M X pc s ((stepN_set0 M X pc).trans hs) hr, if_pos hc, if_neg he, if_neg he0] at h
  subst h
  exact ⟨rfl, rfl, rfl, rfl, rfl, rfl⟩

/-- what lies where -/
structure Place where
  sp : Nat
  m : Nat
  sl : Value
  c : Nat
  m2 : Nat
  slc : Value
  bp : List Nat
  bq : List Nat
  g : Nat
  t : Nat
/-- nothing of it lies in another's blocks -/
structure Place.Ok (p : Place) (w : World) : Prop where
  a1 : p.sp ∉ p.bq
  a2 : p.m ∉ p.bq
  a3 : ∀ b ∈ p.bp, b ∉ p.bq
  a4 : p.g ∉ p.bq
  a5 : p.t ∉ p.bq
  a6 : p.t + 1 ∉ p.bq
  a7 : p.g ≠ p.t ∧ p.g ≠ p.t + 1
  b1 : p.sp ≠ p.g
  b2 : p.m ≠ p.g
  b3 : p.g ∉ p.bp
  b4 : p.c ≠ p.g
  b5 : p.m2 ≠ p.g
  lo : ∀ b ∈ p.bq, w.heap.size ≤ b
  lg : w.heap.size ≤ p.g
structure RunsW (p : Place) (w : World) (R : RAns) (M : List Pg) (X : List Nat) (pc : Nat) (W : World) : Prop where
  keep : Keep [] w W
  s : StIs W p.g X pc
  t : StIs W p.t R.X R.pc
  f : W.heap[p.t + 1]? = some (.cells #[.int .i64 R.code, .int .u64 R.fat, .string ⟨#[]⟩] 31 (0, 0))
  a : ∃ ps, pgs ps = R.M ∧ blks ps = p.bp ∧ SpaceIs W p.sp p.m p.sl 4 ps
  b : ∃ qs, pgs qs = M ∧ blks qs = p.bq ∧ SpaceIs W p.c p.m2 p.slc 4 qs
theorem RunsW.below {p : Place} {w : World} {R : RAns} {M : List Pg} {X : List Nat} {pc : Nat} {W W' : World} (h : RunsW p w R M X pc W) (hb : Below W.heap.size W W') : RunsW p w R M X pc W' := by
  obtain ⟨ps, a1, a2, a3⟩ := h.a
  obtain ⟨qs, b1, b2, b3⟩ := h.b
  exact ⟨h.keep.trans (Keep.of_below hb), (hb.block _ (blk_lt' h.s)).trans h.s, (hb.block _ (blk_lt' h.t)).trans h.t, (hb.block _ (blk_lt' h.f)).trans h.f, ⟨ps, a1, a2, a3.below hb⟩, ⟨qs, b1, b2, b3.below hb⟩⟩
theorem RunsW.stepped {p : Place} {w : World} {R : RAns} {M M' : List Pg} {X : List Nat} {pc : Nat} {W W' : World} (ho : p.Ok w) (h : RunsW p w R M X pc W) (hk : Keep p.bq W W') (hb : ∃ qs, pgs qs = M' ∧ blks qs = p.bq ∧ SpaceIs W' p.c p.m2 p.slc 4 qs) :
    RunsW p w R M' X pc W' := by
  obtain ⟨ps, a1, a2, a3⟩ := h.a
  exact ⟨((h.keep.mono (T := p.bq) (by simp)).trans hk).old (by intro k hk hlt; have := ho.lo k hk; omega), hk.row h.s ho.a4, hk.row h.t ho.a5, hk.row h.f ho.a6, ⟨ps, a1, a2, a3.kept hk ho.a1 ho.a2 (fun b hb => ho.a3 b (by rw [← a2]; exact hb))⟩, hb⟩
theorem RunsW.setS {p : Place} {w : World} {R : RAns} {M : List Pg} {X : List Nat} {pc : Nat} {W : World} (ho : p.Ok w) (h : RunsW p w R M X pc W) (X' : List Nat) (pc' : Nat) : RunsW p w R M X' pc' (W.setRow p.g (stCells X' pc')) := by
  obtain ⟨ps, a1, a2, a3⟩ := h.a
  obtain ⟨qs, b1, b2, b3⟩ := h.b
  refine ⟨h.keep.setRow _ _ (.inl ho.lg), setRow_heap _ _ _ _ _ _ h.s, (setRow_other _ _ _ _ ho.a7.1.symm).trans h.t, (setRow_other _ _ _ _ ho.a7.2.symm).trans h.f, ⟨ps, a1, a2, spaceIs_setRow a3 ho.b1.symm ho.b2.symm (by rw [a2]; exact ho.b3)⟩, ⟨qs, b1, b2, spaceIs_setRow b3 ho.b4.symm ho.b5.symm (by rw [b2]; exact ho.a4)⟩⟩

/-! ### two rows that are one -/
theorem run_equalIn_same {P : Program} (w : World) (d : Nat) (t e : TypeId) (n : Nat) (k : IntKind) (ht : P.underlying t = some (.array n e)) (he : P.underlying e = some (.int k)) (hsz : ∀ w, (sizeOf e).run P w = .ok 1 w) (xs : List Int) (hx : xs.length = n) :
    (Op.equalIn (d + 2) t (.agg (xs.map (Value.int k)).toArray) (.agg (xs.map (Value.int k)).toArray)).run P w = .ok true w := by
  rw [Op.equalIn]
  simp only [Sem.run_bind, run_underlying ht, Result.andThen_ok, hsz, Std.Legacy.Range.forIn_eq_forIn_range', Std.Legacy.Range.size, Nat.sub_zero, Nat.add_sub_cancel, Nat.div_one]
  have hl : ∀ i ∈ List.range' 0 n 1, i < xs.length := fun i hi => by simpa [hx] using (List.mem_range'_1.1 hi).2
  generalize List.range' 0 n 1 = l at hl ⊢
  induction l with
  | nil => simp
  | cons i l ih =>
    have hi : i < xs.length := hl i (by simp)
    have pt : (part e (xs.map (Value.int k)).toArray (i * 1)).run P w = .ok (.int k xs[i]) w := by
      simp [part, isAgg, run_underlying he, hi]
    have pe : (Op.equalIn (d + 1) e (.int k xs[i]) (.int k xs[i])).run P w = .ok true w := by
      rw [run_equalIn_int w d e k k _ _ he]
      simp
    simp only [List.forIn_cons, Sem.run_bind, pt, pe, Result.andThen_ok, Bool.not_true, Bool.false_eq_true, if_false, Sem.run_pure]
    exact ih fun j hj => hl j (by simp [hj])
theorem state_eq {X : List Nat} (hX : Regs X) (pc : Nat) (w : World) : (Op.equalIn 10000 36 (.agg (stCells X pc)) (.agg (stCells X pc))).run Tryz.prog w = .ok true w := by
  rw [show (10000 : Nat) = 9999 + 1 from rfl, run_equalIn_agg w 9999 _ _ _ (by kernel_rfl) (by kernel_rfl)]
  have hl := hX.len
  have e1 : (Op.equalIn 9999 34 (.agg (ucells X)) (.agg (ucells X))).run Tryz.prog w = .ok true w := by
    have := run_equalIn_same (P := Tryz.prog) w 9997 34 23 32 .u64 Tryz.underlying34 Tryz.underlying23 (fun w => by kernel_rfl) (X.map fun n : Nat => (n : Int)) (by simp [hl])
    rw [List.map_map] at this
    exact this
  have e2 : (Op.equalIn 9999 23 (.int .u64 pc) (.int .u64 pc)).run Tryz.prog w = .ok true w := by
    rw [show (9999 : Nat) = 9998 + 1 from rfl, run_equalIn_int w 9998 23 .u64 .u64 _ _ Tryz.underlying23]
    simp
  have hs : ∀ w, (sizeOf 34).run Tryz.prog w = .ok 32 w := fun w => by kernel_rfl
  have p1 : (part 34 (stCells X pc) 0).run Tryz.prog w = .ok (.agg (ucells X)) w := by
    simp [part, isAgg, run_underlying Tryz.underlying34, hs, stCells, hl, ucells]
  have p2 : (part 23 (stCells X pc) 32).run Tryz.prog w = .ok (.int .u64 pc) w := by
    simp [part, isAgg, run_underlying Tryz.underlying23, stCells, hl]
  have hf : (Tryz.prog.fieldsOf 36).toList.map (fun f => (f.name == "_", f.type, f.offset)) = [(false, 34, 0), (false, 23, 32)] := by kernel_rfl
  generalize (Tryz.prog.fieldsOf 36).toList = fs at hf
  rcases fs with _ | ⟨f1, _ | ⟨f2, _ | ⟨f3, fs⟩⟩⟩
  · simp at hf
  · simp at hf
  · simp only [List.map_cons, List.map_nil, List.cons.injEq, Prod.mk.injEq, beq_eq_false_iff_ne, and_true] at hf
    obtain ⟨⟨n1, t1, o1⟩, n2, t2, o2⟩ := hf
    simp [Op.eqFields, n1, n2, t1, t2, o1, o2, p1, p2, e1, e2, Result.andThen]
  · simp at hf
theorem fault_eq (c f : Int) (w : World) : (Op.equalIn 10000 31 (.agg #[.int .i64 c, .int .u64 f, .string ⟨#[]⟩]) (.agg #[.int .i64 c, .int .u64 f, .string ⟨#[]⟩])).run Tryz.prog w = .ok true w := by
  rw [show (10000 : Nat) = 9999 + 1 from rfl, run_equalIn_agg w 9999 _ _ _ (by kernel_rfl) (by kernel_rfl)]
  have hf : (Tryz.prog.fieldsOf 31).toList.map (fun f => (f.name == "_", f.type, f.offset)) = [(false, 26, 0), (false, 23, 1), (false, 9, 2)] := by kernel_rfl
  generalize (Tryz.prog.fieldsOf 31).toList = fs at hf
  have e1 : (Op.equalIn 9999 26 (.int .i64 c) (.int .i64 c)).run Tryz.prog w = .ok true w := by
    rw [show (9999 : Nat) = 9998 + 1 from rfl, run_equalIn_int w 9998 26 .i64 .i64 _ _ Tryz.underlying26]
    simp
  have e2 : (Op.equalIn 9999 23 (.int .u64 f) (.int .u64 f)).run Tryz.prog w = .ok true w := by
    rw [show (9999 : Nat) = 9998 + 1 from rfl, run_equalIn_int w 9998 23 .u64 .u64 _ _ Tryz.underlying23]
    simp
  have e3 : (Op.equalIn 9999 9 (.string ⟨#[]⟩) (.string ⟨#[]⟩)).run Tryz.prog w = .ok true w := by
    rw [show (9999 : Nat) = 9998 + 1 from rfl, run_equalIn_string w 9998 9 _ _ Tryz.underlying9]
    simp
  have p1 : (part 26 (#[.int .i64 c, .int .u64 f, .string ⟨#[]⟩] : Array Value) 0).run Tryz.prog w = .ok (.int .i64 c) w := by
    simp [part, isAgg, run_underlying Tryz.underlying26]
  have p2 : (part 23 (#[.int .i64 c, .int .u64 f, .string ⟨#[]⟩] : Array Value) 1).run Tryz.prog w = .ok (.int .u64 f) w := by
    simp [part, isAgg, run_underlying Tryz.underlying23]
  have p3 : (part 9 (#[.int .i64 c, .int .u64 f, .string ⟨#[]⟩] : Array Value) 2).run Tryz.prog w = .ok (.string ⟨#[]⟩) w := by
    simp [part, isAgg, run_underlying Tryz.underlying9]
  rcases fs with _ | ⟨f1, _ | ⟨f2, _ | ⟨f3, _ | ⟨f4, fs⟩⟩⟩⟩
  · simp at hf
  · simp at hf
  · simp at hf
  · simp only [List.map_cons, List.map_nil, List.cons.injEq, Prod.mk.injEq, beq_eq_false_iff_ne, and_true] at hf
    obtain ⟨⟨n1, t1, o1⟩, ⟨n2, t2, o2⟩, n3, t3, o3⟩ := hf
    simp [Op.eqFields, n1, n2, n3, t1, t2, t3, o1, o2, o3, p1, p2, p3, e1, e2, e3, Result.andThen]
  · simp at hf
theorem exec_eql_same {o : Oper} {a : Act} {w : World} {x y : Operand} {ty t : TypeId} {cs : Array Value} (ho : o.op = .binOp .eql ty x y t) (hx : a.eval x = .agg cs) (hy : a.eval y = .agg cs) (hg : Tryz.prog.eqGuardType Tryz.prog.depth ty = false)
    (he : ∀ w, (Op.equalIn 10000 ty (.agg cs) (.agg cs)).run Tryz.prog w = .ok true w) : (execOp a.eval o).run Tryz.prog w = .ok (.value (.bool true)) w := by
  have hg := run_eqGuard_agg (P := Tryz.prog) w .eql ty x y cs cs hg
  have hn := run_eql_struct (P := Tryz.prog) w ty cs cs
  rw [he] at hn
  unfold execOp
  simp [ho, hx, hy, hg, hn, Result.andThen]
section
variable {P : Program} {Q : Exit → Act → World → Prop} {ops : Array Oper}
/-- an operation that is wanted -/
theorem wpList_valW {rest : List Oper} {o : Oper} {a : Act} {w w' : World} (v : Value) (hw : Region.wanted o (yielded ops a.tmps) = true) (hr : (execOp a.eval o).run P w = .ok (.value v) w') (h : wpList P ops Q rest (a.put o.dst v) w') : wpList P ops Q (o :: rest) a w :=
  wpList_step fun K hK => by
    rw [if_pos hw]
    show o.upon P a K Q _
    rw [hr]
    exact hK _ _ h
end
theorem three_of_maps {ps qs : List (Pg × Nat)} (hm : (pgs qs).map (fun g => (g.a, g.p)) = (pgs ps).map (fun g => (g.a, g.p))) (ht : Three ps) : Three qs := by
  unfold Three at ht ⊢
  have h := congrArg (List.map Prod.fst) hm
  unfold pgs at h
  simp only [List.map_map, Function.comp_def] at h
  exact h.trans ht
/-- the two spaces, asked for what differs -/
theorem runs_same {p : Place} {w W : World} {R : RAns} {M : List Pg} {X : List Nat} {pc : Nat} {ps : List (Pg × Nat)} (h : RunsW p w R M X pc W) (hM : R.M = M) (hm : R.M.map (fun g => (g.a, g.p)) = (pgs ps).map (fun g => (g.a, g.p))) (ht : Three ps) :
    Calls Tryz.prog 22 #[.pointer (some ⟨p.sp, 0, none⟩), .pointer (some ⟨p.c, 0, none⟩)] W fun e w' => e = .returned (.bool true) ∧ Below W.heap.size W w' := by
  obtain ⟨ps1, a1, a2, a3⟩ := h.a
  obtain ⟨qs1, b1, b2, b3⟩ := h.b
  exact same_any p.sp p.m p.c p.m2 p.sl p.slc 4 4 ps1 qs1 W a3 b3 (three_of_maps (by rw [a1]; exact hm) ht) (by rw [a1, b1, hM])
end
end Go.Proofs.YtiemingpbommeaaGreatDoor
