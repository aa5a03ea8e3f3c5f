/- The processor: a run. -/
import Derived.Test.YtiemingpbommeaaGreatDoorGm
namespace Go.Proofs.YtiemingpbommeaaGreatDoor
open Go Go.RowKit
noncomputable section
set_option linter.unusedVariables false
set_option linter.unusedSimpArgs false
/-- what a run answers -/
structure RAns where
  M : List Pg
  X : List Nat
  pc : Nat
  n : Nat
  ev : Int
  code : Nat
  fat : Nat
def runN : Nat → Nat → List Pg → List Nat → Nat → RAns
  | 0, k, M, X, pc => if pc < 1099511627776 then ⟨M, X.set 0 0, pc, k, 0, 16, pc⟩ else ⟨M, X.set 0 0, pc, k, 3, 0, 0⟩
  | r + 1, k, M, X, pc =>
    let s := stepN M (X.set 0 0) pc
    if s.code = 0 then
      if s.ev = 3 then ⟨s.M, X.set 0 0, pc, k, 3, 0, 0⟩
      else if s.ev = 0 then runN r (k + 1) s.M s.X s.pc
      else ⟨s.M, s.X, s.pc, k + 1, s.ev, 0, 0⟩
    else ⟨s.M, X.set 0 0, pc, k, 0, s.code, s.fat⟩
/-- what a run leaves -/
def RunPost (sp m : Nat) (sl : Value) (q : Int) (ps : List (Pg × Nat)) (r : RAns) (w : World) (e : Ending) (w' : World) : Prop :=
  e = .returned (.tuple #[.agg (stCells r.X r.pc), .int .i64 r.n, .int .i64 r.ev, fltV r.code r.fat]) ∧ ∃ ps', pgs ps' = r.M ∧ blks ps' = blks ps ∧ SpaceIs w' sp m sl q ps' ∧ Keep (blks ps) w w'
theorem Gone.set0 {sp m : Nat} {sl : Value} {q : Int} {ps : List (Pg × Nat)} {M : List Pg} {X : List Nat} {pc : Nat} {w W : World} (hS : SpaceIs w sp m sl q ps) (h : Gone sp m sl q ps M X pc w W) (hX : Regs X) :
    Gone sp m sl q ps M (X.set 0 0) pc w (W.setCell ⟨w.heap.size, 0, none⟩ (.int .u64 0)) := by
  have hk : Keep [w.heap.size] W (W.setCell ⟨w.heap.size, 0, none⟩ (.int .u64 0)) := (Keep.refl _ _).setCell _ _ (.inr (by simp))
  refine ⟨h.st.set hX (by decide) 0, ?_, hk.row h.zf (by simp; omega), ?_, h.k.setCell _ _ (.inl (Nat.le_refl _))⟩
  · obtain ⟨cs, h1, h2⟩ := h.zs
    exact ⟨cs, h1, hk.row h2 (by simp)⟩
  · obtain ⟨ps', h1, h2, h3⟩ := h.sp
    exact ⟨ps', h1, h2, h3.keepSt h.st hk⟩
theorem runN_step (r k : Nat) (M : List Pg) (X : List Nat) (pc : Nat) (s : Ans) (hs : stepN M (X.set 0 0) pc = s) (h : ¬ (r = 0 ∧ pc < 1099511627776)) : runN r k M X pc =
    if s.code = 0 then (if s.ev = 3 then ⟨s.M, X.set 0 0, pc, k, 3, 0, 0⟩ else if s.ev = 0 then runN (r - 1) (k + 1) s.M s.X s.pc else ⟨s.M, s.X, s.pc, k + 1, s.ev, 0, 0⟩) else ⟨s.M, X.set 0 0, pc, k, 0, s.code, s.fat⟩ := by
  subst hs
  cases r with
  | zero =>
    have hp : 1099511627776 ≤ pc := by omega
    unfold runN stepN
    rw [if_neg (by omega), if_pos hp]
    rfl
  | succ r => rfl
theorem stepN_regs (M : List Pg) {X : List Nat} (hX : Regs X) (pc : Nat) : Regs (stepN M X pc).X := by
  have h0 := hX.set 0 0 (by decide)
  unfold stepN
  split
  · exact h0
  · split
    · split
      · unfold execN
        split
        · split
          · exact goesN_regs h0 _ _ _ _ _ _
          · exact h0
        · split
          · exact doR_regs _ h0 _ _ _ _ _ _
          · exact h0
      · exact h0
    · exact h0
theorem wpList_call {P : Program} {ops : Array Oper} {rest : List Oper} {o : Oper} {a : Act} {w : World} {Q : Exit → Act → World → Prop} {f : FuncId} {args : Array Value} (v : Value) (R : World → Prop) (hg : o.guard = none) (hr : (execOp a.eval o).run P w = .ok (.enter f args) w)
    (hc : Calls P f args w (fun e w'' => e = .returned v ∧ R w'')) (h : ∀ w'', R w'' → wpList P ops Q rest (a.put o.dst v) w'') : wpList P ops Q (o :: rest) a w :=
  wpList_plain hg fun K hK => by
    show o.upon P a K Q _
    rw [hr]
    exact hc.mono fun e w'' ⟨he, hR⟩ => by subst he; exact hK _ _ (h w'' hR)
theorem two_new (W : World) (t t' : TypeId) (zs zs' cs cs' : Array Value) : ∃ W', ((((W.alloc (.cells zs t)).alloc (.cells zs' t')).setRow W.heap.size cs).setRow (W.heap.size + 1) cs') = W' ∧ W'.heap[W.heap.size]? = some (.cells cs t (0, 0)) ∧ W'.heap[W.heap.size + 1]? = some (.cells cs' t' (0, 0)) ∧ Below W.heap.size W W' ∧
    (((W.alloc (.cells zs t)).alloc (.cells zs' t')).heap[W.heap.size]? = some (.cells zs t (0, 0))) ∧ ((((W.alloc (.cells zs t)).alloc (.cells zs' t')).setRow W.heap.size cs).heap[W.heap.size + 1]? = some (.cells zs' t' (0, 0))) := by
  have h1 := heap_alloc2_old W (.cells zs t) (.cells zs' t')
  have h2 := heap_alloc2_new W (.cells zs t) (.cells zs' t')
  have h3 := (setRow_other ((W.alloc (.cells zs t)).alloc (.cells zs' t')) W.heap.size (W.heap.size + 1) cs (by omega)).trans h2
  refine ⟨_, rfl, (setRow_other _ _ _ _ (by omega)).trans (setRow_heap _ _ _ _ _ _ h1), setRow_heap _ _ _ _ _ _ h3, below_setRow (below_setRow (((Below.refl _ _).alloc (Nat.le_refl _) _).alloc (by simp) _) (Nat.le_refl _) _) (by omega) _, h1, h3⟩
theorem Gone.stepped {sp m : Nat} {sl : Value} {q : Int} {ps ps' ps'' : List (Pg × Nat)} {M M' : List Pg} {X : List Nat} {pc : Nat} {w W W' : World} (hS : SpaceIs w sp m sl q ps) (h : Gone sp m sl q ps M X pc w W) (hb : blks ps' = blks ps)
    (hM : pgs ps'' = M') (hb' : blks ps'' = blks ps') (hsp : SpaceIs W' sp m sl q ps'') (hk : Keep (blks ps') W W') : Gone sp m sl q ps M' X pc w W' := by
  rw [hb] at hk
  have hn : ∀ k, w.heap.size ≤ k → k ∉ blks ps := fun k hk h => by have := hS.lt_blk h; omega
  refine ⟨hk.row h.st (hn _ (Nat.le_refl _)), ?_, hk.row h.zf (hn _ (by omega)), ⟨ps'', hM, hb'.trans hb, hsp⟩, h.k.trans hk⟩
  obtain ⟨cs, h1, h2⟩ := h.zs
  exact ⟨cs, h1, hk.row h2 (hn _ (by omega))⟩
theorem Gone.setSt {sp m : Nat} {sl : Value} {q : Int} {ps : List (Pg × Nat)} {M : List Pg} {X X' : List Nat} {pc pc' : Nat} {w W : World} (hS : SpaceIs w sp m sl q ps) (h : Gone sp m sl q ps M X pc w W) :
    Gone sp m sl q ps M X' pc' w (W.setRow w.heap.size (stCells X' pc')) := by
  have hk : Keep [w.heap.size] W (W.setRow w.heap.size (stCells X' pc')) := (Keep.refl _ _).setRow _ _ (.inr (by simp))
  refine ⟨setRow_heap _ _ _ _ _ _ h.st, ?_, hk.row h.zf (by simp; omega), ?_, h.k.setRow _ _ (.inl (Nat.le_refl _))⟩
  · obtain ⟨cs, h1, h2⟩ := h.zs
    exact ⟨cs, h1, hk.row h2 (by simp)⟩
  · obtain ⟨ps', h1, h2, h3⟩ := h.sp
    exact ⟨ps', h1, h2, h3.keepSt h.st hk⟩
theorem results_cttc {P : Program} {fn : Func} {p r r' s : Tmp} {ty ty' : TypeId} (h : fn.results = #[.cell p ty, .tmp r, .tmp r', .cell s ty']) (tmps : Array Value) (w : World) (g g' : Nat) (t t' : TypeId) (cs cs' : Array Value) (fr fr' : Nat × Nat) (d d' : TypeDesc)
    (hp : tmps.getD p undef = .pointer (some ⟨g, 0, none⟩)) (hp' : tmps.getD s undef = .pointer (some ⟨g', 0, none⟩)) (hg : w.heap[g]? = some (.cells cs t fr)) (hg' : w.heap[g']? = some (.cells cs' t' fr'))
    (hu : P.underlying ty = some d) (hd : (match d with | .struct _ | .array _ _ => true | _ => false) = true) (hi : (P.info? ty).map (·.size) = some cs.size)
    (hu' : P.underlying ty' = some d') (hd' : (match d' with | .struct _ | .array _ _ => true | _ => false) = true) (hi' : (P.info? ty').map (·.size) = some cs'.size) :
    (results fn tmps).run P w = .ok (.tuple #[.agg cs, tmps.getD r undef, tmps.getD r' undef, .agg cs']) w := by
  have e1 : tmps[p]?.getD undef = .pointer (some ⟨g, 0, none⟩) := by simpa using hp
  have e2 : tmps[s]?.getD undef = .pointer (some ⟨g', 0, none⟩) := by simpa using hp'
  simp [results, h, e1, e2, asAddr, run_loadVar_row w g t ty cs fr d hg hu hd hi, run_loadVar_row w g' t' ty' cs' fr' d' hg' hu' hd' hi']
set_option maxHeartbeats 4000000 in
set_option maxRecDepth 100000 in
theorem run_any (sp m : Nat) (sl : Value) (q : Int) (ps : List (Pg × Nat)) (X : List Nat) (pc : Nat) (fuel : Int) (w : World) (hS : SpaceIs w sp m sl q ps) (hX : Regs X) (hL : Low w (blks ps)) (hfu : fuel < 9223372036854775808) :
    Calls Tryz.prog 21 #[.pointer (some ⟨sp, 0, none⟩), .agg (stCells X pc), .int .i64 fuel] w (RunPost sp m sl q ps (runN fuel.toNat 0 (pgs ps) X pc) w) := by
  have HX := hid hX
  have HS := hid hS
  have HL := hid hL
  have Hfu := hid hfu
  clear hX hS hL hfu
  obtain ⟨R, hR⟩ : ∃ R, runN fuel.toNat 0 (pgs ps) X pc = R := ⟨_, rfl⟩
  have HR := hid hR
  rw [hR]
  clear hR
  obtain ⟨st, hst⟩ : ∃ st, stCells X pc = st := ⟨_, rfl⟩
  have Hst := hid hst
  rw [hst]
  clear hst
  go_enter Tryz.func21, Tryz.ntmps21
  go_upto_region 0 with (fail)
  go_cut [4, 6, 7, 8, 9] (fun v4 v6 v7 v8 v9 wc => v4 = .pointer (some ⟨w.heap.size, 0, none⟩) ∧ v6 = .pointer (some ⟨w.heap.size + 1, 0, none⟩) ∧ v9 = .pointer (some ⟨w.heap.size + 1 + 1, 0, none⟩) ∧ Gone sp m sl q ps (pgs ps) X pc w wc)
  case first =>
    go_wp2_with fail
    go_meet
    case rel =>
      have hb := ((((Below.refl w.heap.size w).alloc (Nat.le_refl _) (.cells st 36)).alloc (by simp) (.cells zst 36)).alloc (by simp; omega) (.cells #[.int .i64 0, .int .u64 0, .string ⟨#[]⟩] 31))
      refine ⟨rfl, rfl, rfl, ⟨?_, ⟨zst, rfl, ?_⟩, ?_, ⟨ps, rfl, rfl, HS.out.below hb⟩, Keep.of_below hb⟩⟩
      · unfold StIs
        rw [Hst.out, Below.heap_alloc _ _ _ (by simp; omega), Below.heap_alloc _ _ _ (by simp)]
        exact heap_alloc_new _ _
      · rw [Below.heap_alloc _ _ _ (by simp)]
        have := heap_alloc_new (w.alloc (.cells st 36)) (.cells zst 36)
        simpa [zst] using this
      · have := heap_alloc_new ((w.alloc (.cells st 36)).alloc (.cells zst 36)) (.cells #[.int .i64 0, .int .u64 0, .string ⟨#[]⟩] 31)
        simpa [zst] using this
  obtain ⟨rfl, rfl, rfl, hbg⟩ := hcut
  have Hbg := hid hbg
  clear hbg
  go_wp2_with fail
  go_loopw [10] (fun v10 wr => ∃ (k : Nat) (M : List Pg) (X : List Nat) (pc : Nat), v10 = .int .i64 k ∧ k ≤ fuel.toNat ∧ Regs X ∧ Gone sp m sl q ps M X pc w wr ∧ runN (fuel.toNat - k) k M X pc = R) (fun v10 _ => fuel.toNat + 1 - (intOf v10).toNat)
  case atStart => exact ⟨0, pgs ps, X, pc, rfl, by omega, HX.out, Hbg.out, HR.out⟩
  case round =>
    obtain ⟨k, M, X1, pc1, rfl, hk, hX1, hg, hrun⟩ := hrel
    have HX1 := hid (hX1.set 0 0 (by decide))
    have HG := hid (hg.set0 HS.out hX1)
    have Hrun := hid hrun
    have c0 := hg.st.cell hX1 (show 0 < 32 by decide)
    have fz := frozen_of_row wr _ 0 _ _ hg.st
    clear hX1 hg hrun HX Hbg HR
    go_upto_region 4 with (fail)
    generalize wr.setCell ⟨w.heap.size, 0, none⟩ (.int .u64 0) = W at HG ⊢
    clear c0 fz
    have cpc := HG.out.st.cellPc HX1.out
    by_cases hgo : (fuel ≤ k ∧ pc1 < 1099511627776)
    · have hg1 : fuel ≤ (k : Int) := hgo.1
      have hg2 : ((pc1 : Int) < 1099511627776) := by omega
      have Hrun3 : Hid ((⟨M, X1.set 0 0, pc1, k, 0, 16, pc1⟩ : RAns) = R) := hid (by
        rw [← Hrun.out, show fuel.toNat - k = 0 by omega]
        unfold runN
        rw [if_pos hgo.2])
      clear hgo Hrun
      go_wp2_with fail
      refine wp_region_any (by kernel_rfl) ?_
      change wpAny _ _ _ _ _ _ _ (World.drew W)
      have DG := hid (HG.out.below (W' := W.drew) ((Below.refl _ _).drew))
      obtain ⟨D, hD⟩ : ∃ D, W.drew = D := ⟨_, rfl⟩
      rw [hD] at DG ⊢
      clear hD HG cpc
      have cpc := DG.out.st.cellPc HX1.out
      refine wpAny_take (i := 1) (v := .int .i64 k) rfl (by kernel_rfl) (by kernel_rfl) (by kernel_rfl) (fun _ _ _ h => h) (Or.inl ⟨by rfl, fun w => by kernel_rfl⟩) ?_
      simp only [Act.put, List.getElem_toArray, List.getElem_cons_zero, List.getElem_cons_succ, List.setIfInBounds_toArray, List.set_cons_zero, List.set_cons_succ]
      refine wpAny_take (i := 2) (v := .pointer (some ⟨w.heap.size, 32, none⟩)) rfl (by kernel_rfl) (by kernel_rfl) (by kernel_rfl) (fun _ _ _ h => h) (Or.inl ⟨by rfl, fun w => by go_simp⟩) ?_
      simp only [Act.put, List.getElem_toArray, List.getElem_cons_zero, List.getElem_cons_succ, List.setIfInBounds_toArray, List.set_cons_zero, List.set_cons_succ]
      refine any2 (i := 0) (j := 3) (by kernel_rfl) ?_ ?_
      · refine wpOp_val (w' := D) (v := .agg (stCells (X1.set 0 0) pc1)) rfl rfl (exec_load_row 36 (.tmp 4) rfl w.heap.size rfl 36 _ (0, 0) _ DG.out.st Tryz.underlying36 rfl (infoState HX1.out pc1)) ?_
        simp only [Act.put, List.getElem_toArray, List.getElem_cons_zero, List.getElem_cons_succ, List.setIfInBounds_toArray, List.set_cons_zero, List.set_cons_succ]
        refine any1 (i := 3) (by kernel_rfl) ?_
        refine wpOp_val (w' := D) (v := .int .u64 pc1) rfl rfl (by go_simp) ?_
        simp only [Act.put, List.getElem_toArray, List.getElem_cons_zero, List.getElem_cons_succ, List.setIfInBounds_toArray, List.set_cons_zero, List.set_cons_succ]
        refine any1 (i := 4) (by kernel_rfl) ?_
        refine wpOp_call (fltV 16 pc1) (fun w'' => Below D.heap.size D w'') (f := 33) (args := #[.int .i64 16, .int .u64 pc1]) rfl rfl (by kernel_rfl) (failAt_any 16 pc1 D) ?_
        rintro W9 hb9
        simp only [Act.put, List.getElem_toArray, List.getElem_cons_zero, List.getElem_cons_succ, List.setIfInBounds_toArray, List.set_cons_zero, List.set_cons_succ]
        have DG9 := hid (DG.out.below hb9)
        clear hb9
        obtain ⟨zc, hz1, hz2⟩ := DG9.out.zs
        have Hz1 := hid hz1
        have DZ := hid hz2
        obtain ⟨ps', hps', hbk, hsp⟩ := DG9.out.sp
        have E1 : Hid ((W9.setRow (w.heap.size + 1) (stCells (X1.set 0 0) pc1)).heap[w.heap.size + 1]? = _) := hid (setRow_heap _ _ _ _ _ _ DZ.out)
        have EF : Hid ((W9.setRow (w.heap.size + 1) (stCells (X1.set 0 0) pc1)).heap[w.heap.size + 1 + 1]? = _) := hid ((setRow_other _ _ _ _ (by omega)).trans DG9.out.zf)
        have G1 : Hid (((W9.setRow (w.heap.size + 1) (stCells (X1.set 0 0) pc1)).setRow (w.heap.size + 1 + 1) #[.int .i64 ((16 : Nat) : Int), .int .u64 pc1, .string ⟨#[]⟩]).heap[w.heap.size + 1]? = _) := hid ((setRow_other _ _ _ _ (by omega)).trans E1.out)
        refine any1 (i := 5) (by kernel_rfl) ?_
        refine wpOp_store_row rfl rfl 36 (.tmp 6) (.tmp 26) rfl (w.heap.size + 1) (stCells (X1.set 0 0) pc1) rfl rfl 36 zc DZ.out (infoState HX1.out pc1) (Hz1.out.trans (stCells_size HX1.out _).symm) (stCells_one _ _) ?_
        simp only [Act.put, List.getElem_toArray, List.getElem_cons_zero, List.getElem_cons_succ, List.setIfInBounds_toArray, List.set_cons_zero, List.set_cons_succ]
        refine any1 (i := 6) (by kernel_rfl) ?_
        refine wpOp_val (w' := (W9.setRow (w.heap.size + 1) (stCells (X1.set 0 0) pc1))) (v := .int .i64 k) rfl rfl (by kernel_rfl) ?_
        simp only [Act.put, List.getElem_toArray, List.getElem_cons_zero, List.getElem_cons_succ, List.setIfInBounds_toArray, List.set_cons_zero, List.set_cons_succ]
        refine any1 (i := 7) (by kernel_rfl) ?_
        refine wpOp_val (w' := (W9.setRow (w.heap.size + 1) (stCells (X1.set 0 0) pc1))) (v := .int .i64 0) rfl rfl (by kernel_rfl) ?_
        simp only [Act.put, List.getElem_toArray, List.getElem_cons_zero, List.getElem_cons_succ, List.setIfInBounds_toArray, List.set_cons_zero, List.set_cons_succ]
        refine any1 (i := 8) (by kernel_rfl) ?_
        refine wpOp_store_row rfl rfl 31 (.tmp 9) (.tmp 30) rfl (w.heap.size + 1 + 1) #[.int .i64 ((16 : Nat) : Int), .int .u64 pc1, .string ⟨#[]⟩] rfl rfl 31 _ EF.out infoFault rfl (faultRow_one ..) ?_
        simp only [Act.put, List.getElem_toArray, List.getElem_cons_zero, List.getElem_cons_succ, List.setIfInBounds_toArray, List.set_cons_zero, List.set_cons_succ]
        refine ⟨by kernel_rfl, ?_⟩
        go_wp2_with fail
        refine bodyPost_ret (results_cttc rfl _ _ (w.heap.size + 1) (w.heap.size + 1 + 1) 36 31 (stCells (X1.set 0 0) pc1) #[.int .i64 ((16 : Nat) : Int), .int .u64 pc1, .string ⟨#[]⟩] (0, 0) (0, 0) _ _ rfl rfl G1.out (setRow_heap _ _ _ _ _ _ EF.out) Tryz.underlying36 rfl (infoState HX1.out pc1) Tryz.underlying31 rfl infoFault) rfl ?_
        rw [← Hrun3.out]
        exact ⟨rfl, step_stored HS.out hps' hbk hsp DG9.out.k _ _⟩
      · refine wpOp_val (w' := D) (v := .int .u64 pc1) rfl rfl (by go_simp) ?_
        simp only [Act.put, List.getElem_toArray, List.getElem_cons_zero, List.getElem_cons_succ, List.setIfInBounds_toArray, List.set_cons_zero, List.set_cons_succ]
        refine any2 (i := 0) (j := 4) (by kernel_rfl) ?_ ?_
        · refine wpOp_val (w' := D) (v := .agg (stCells (X1.set 0 0) pc1)) rfl rfl (exec_load_row 36 (.tmp 4) rfl w.heap.size rfl 36 _ (0, 0) _ DG.out.st Tryz.underlying36 rfl (infoState HX1.out pc1)) ?_
          simp only [Act.put, List.getElem_toArray, List.getElem_cons_zero, List.getElem_cons_succ, List.setIfInBounds_toArray, List.set_cons_zero, List.set_cons_succ]
          refine any1 (i := 4) (by kernel_rfl) ?_
          refine wpOp_call (fltV 16 pc1) (fun w'' => Below D.heap.size D w'') (f := 33) (args := #[.int .i64 16, .int .u64 pc1]) rfl rfl (by kernel_rfl) (failAt_any 16 pc1 D) ?_
          rintro W9 hb9
          simp only [Act.put, List.getElem_toArray, List.getElem_cons_zero, List.getElem_cons_succ, List.setIfInBounds_toArray, List.set_cons_zero, List.set_cons_succ]
          have DG9 := hid (DG.out.below hb9)
          clear hb9
          obtain ⟨zc, hz1, hz2⟩ := DG9.out.zs
          have Hz1 := hid hz1
          have DZ := hid hz2
          obtain ⟨ps', hps', hbk, hsp⟩ := DG9.out.sp
          have E1 : Hid ((W9.setRow (w.heap.size + 1) (stCells (X1.set 0 0) pc1)).heap[w.heap.size + 1]? = _) := hid (setRow_heap _ _ _ _ _ _ DZ.out)
          have EF : Hid ((W9.setRow (w.heap.size + 1) (stCells (X1.set 0 0) pc1)).heap[w.heap.size + 1 + 1]? = _) := hid ((setRow_other _ _ _ _ (by omega)).trans DG9.out.zf)
          have G1 : Hid (((W9.setRow (w.heap.size + 1) (stCells (X1.set 0 0) pc1)).setRow (w.heap.size + 1 + 1) #[.int .i64 ((16 : Nat) : Int), .int .u64 pc1, .string ⟨#[]⟩]).heap[w.heap.size + 1]? = _) := hid ((setRow_other _ _ _ _ (by omega)).trans E1.out)
          refine any1 (i := 5) (by kernel_rfl) ?_
          refine wpOp_store_row rfl rfl 36 (.tmp 6) (.tmp 26) rfl (w.heap.size + 1) (stCells (X1.set 0 0) pc1) rfl rfl 36 zc DZ.out (infoState HX1.out pc1) (Hz1.out.trans (stCells_size HX1.out _).symm) (stCells_one _ _) ?_
          simp only [Act.put, List.getElem_toArray, List.getElem_cons_zero, List.getElem_cons_succ, List.setIfInBounds_toArray, List.set_cons_zero, List.set_cons_succ]
          refine any1 (i := 6) (by kernel_rfl) ?_
          refine wpOp_val (w' := (W9.setRow (w.heap.size + 1) (stCells (X1.set 0 0) pc1))) (v := .int .i64 k) rfl rfl (by kernel_rfl) ?_
          simp only [Act.put, List.getElem_toArray, List.getElem_cons_zero, List.getElem_cons_succ, List.setIfInBounds_toArray, List.set_cons_zero, List.set_cons_succ]
          refine any1 (i := 7) (by kernel_rfl) ?_
          refine wpOp_val (w' := (W9.setRow (w.heap.size + 1) (stCells (X1.set 0 0) pc1))) (v := .int .i64 0) rfl rfl (by kernel_rfl) ?_
          simp only [Act.put, List.getElem_toArray, List.getElem_cons_zero, List.getElem_cons_succ, List.setIfInBounds_toArray, List.set_cons_zero, List.set_cons_succ]
          refine any1 (i := 8) (by kernel_rfl) ?_
          refine wpOp_store_row rfl rfl 31 (.tmp 9) (.tmp 30) rfl (w.heap.size + 1 + 1) #[.int .i64 ((16 : Nat) : Int), .int .u64 pc1, .string ⟨#[]⟩] rfl rfl 31 _ EF.out infoFault rfl (faultRow_one ..) ?_
          simp only [Act.put, List.getElem_toArray, List.getElem_cons_zero, List.getElem_cons_succ, List.setIfInBounds_toArray, List.set_cons_zero, List.set_cons_succ]
          refine ⟨by kernel_rfl, ?_⟩
          go_wp2_with fail
          refine bodyPost_ret (results_cttc rfl _ _ (w.heap.size + 1) (w.heap.size + 1 + 1) 36 31 (stCells (X1.set 0 0) pc1) #[.int .i64 ((16 : Nat) : Int), .int .u64 pc1, .string ⟨#[]⟩] (0, 0) (0, 0) _ _ rfl rfl G1.out (setRow_heap _ _ _ _ _ _ EF.out) Tryz.underlying36 rfl (infoState HX1.out pc1) Tryz.underlying31 rfl infoFault) rfl ?_
          rw [← Hrun3.out]
          exact ⟨rfl, step_stored HS.out hps' hbk hsp DG9.out.k _ _⟩
        · refine wpOp_call (fltV 16 pc1) (fun w'' => Below D.heap.size D w'') (f := 33) (args := #[.int .i64 16, .int .u64 pc1]) rfl rfl (by kernel_rfl) (failAt_any 16 pc1 D) ?_
          rintro W9 hb9
          simp only [Act.put, List.getElem_toArray, List.getElem_cons_zero, List.getElem_cons_succ, List.setIfInBounds_toArray, List.set_cons_zero, List.set_cons_succ]
          have DG9 := hid (DG.out.below hb9)
          clear hb9
          refine any1 (i := 0) (by kernel_rfl) ?_
          refine wpOp_val (w' := W9) (v := .agg (stCells (X1.set 0 0) pc1)) rfl rfl (exec_load_row 36 (.tmp 4) rfl w.heap.size rfl 36 _ (0, 0) _ DG9.out.st Tryz.underlying36 rfl (infoState HX1.out pc1)) ?_
          simp only [Act.put, List.getElem_toArray, List.getElem_cons_zero, List.getElem_cons_succ, List.setIfInBounds_toArray, List.set_cons_zero, List.set_cons_succ]
          obtain ⟨zc, hz1, hz2⟩ := DG9.out.zs
          have Hz1 := hid hz1
          have DZ := hid hz2
          obtain ⟨ps', hps', hbk, hsp⟩ := DG9.out.sp
          have E1 : Hid ((W9.setRow (w.heap.size + 1) (stCells (X1.set 0 0) pc1)).heap[w.heap.size + 1]? = _) := hid (setRow_heap _ _ _ _ _ _ DZ.out)
          have EF : Hid ((W9.setRow (w.heap.size + 1) (stCells (X1.set 0 0) pc1)).heap[w.heap.size + 1 + 1]? = _) := hid ((setRow_other _ _ _ _ (by omega)).trans DG9.out.zf)
          have G1 : Hid (((W9.setRow (w.heap.size + 1) (stCells (X1.set 0 0) pc1)).setRow (w.heap.size + 1 + 1) #[.int .i64 ((16 : Nat) : Int), .int .u64 pc1, .string ⟨#[]⟩]).heap[w.heap.size + 1]? = _) := hid ((setRow_other _ _ _ _ (by omega)).trans E1.out)
          refine any1 (i := 5) (by kernel_rfl) ?_
          refine wpOp_store_row rfl rfl 36 (.tmp 6) (.tmp 26) rfl (w.heap.size + 1) (stCells (X1.set 0 0) pc1) rfl rfl 36 zc DZ.out (infoState HX1.out pc1) (Hz1.out.trans (stCells_size HX1.out _).symm) (stCells_one _ _) ?_
          simp only [Act.put, List.getElem_toArray, List.getElem_cons_zero, List.getElem_cons_succ, List.setIfInBounds_toArray, List.set_cons_zero, List.set_cons_succ]
          refine any1 (i := 6) (by kernel_rfl) ?_
          refine wpOp_val (w' := (W9.setRow (w.heap.size + 1) (stCells (X1.set 0 0) pc1))) (v := .int .i64 k) rfl rfl (by kernel_rfl) ?_
          simp only [Act.put, List.getElem_toArray, List.getElem_cons_zero, List.getElem_cons_succ, List.setIfInBounds_toArray, List.set_cons_zero, List.set_cons_succ]
          refine any1 (i := 7) (by kernel_rfl) ?_
          refine wpOp_val (w' := (W9.setRow (w.heap.size + 1) (stCells (X1.set 0 0) pc1))) (v := .int .i64 0) rfl rfl (by kernel_rfl) ?_
          simp only [Act.put, List.getElem_toArray, List.getElem_cons_zero, List.getElem_cons_succ, List.setIfInBounds_toArray, List.set_cons_zero, List.set_cons_succ]
          refine any1 (i := 8) (by kernel_rfl) ?_
          refine wpOp_store_row rfl rfl 31 (.tmp 9) (.tmp 30) rfl (w.heap.size + 1 + 1) #[.int .i64 ((16 : Nat) : Int), .int .u64 pc1, .string ⟨#[]⟩] rfl rfl 31 _ EF.out infoFault rfl (faultRow_one ..) ?_
          simp only [Act.put, List.getElem_toArray, List.getElem_cons_zero, List.getElem_cons_succ, List.setIfInBounds_toArray, List.set_cons_zero, List.set_cons_succ]
          refine ⟨by kernel_rfl, ?_⟩
          go_wp2_with fail
          refine bodyPost_ret (results_cttc rfl _ _ (w.heap.size + 1) (w.heap.size + 1 + 1) 36 31 (stCells (X1.set 0 0) pc1) #[.int .i64 ((16 : Nat) : Int), .int .u64 pc1, .string ⟨#[]⟩] (0, 0) (0, 0) _ _ rfl rfl G1.out (setRow_heap _ _ _ _ _ _ EF.out) Tryz.underlying36 rfl (infoState HX1.out pc1) Tryz.underlying31 rfl infoFault) rfl ?_
          rw [← Hrun3.out]
          exact ⟨rfl, step_stored HS.out hps' hbk hsp DG9.out.k _ _⟩
    · -- a step
      have hcond : ¬ (fuel ≤ (k : Int)) ∨ (fuel ≤ (k : Int) ∧ (1099511627776 : Int) ≤ pc1) := by omega
      obtain ⟨sN, hsN⟩ : ∃ sN, stepN M (X1.set 0 0) pc1 = sN := ⟨_, rfl⟩
      have HsN := hid hsN
      have Hrun2 := hid ((runN_step (fuel.toNat - k) k M X1 pc1 sN hsN (by omega)).symm.trans Hrun.out)
      have Hlt : Hid (sN.ev ≠ 3 → (k : Int) < fuel) := hid (fun he => by
        have : ¬ 1099511627776 ≤ pc1 := fun hp => he (by rw [← hsN]; unfold stepN; rw [if_pos hp])
        omega)
      have HsX : Hid (Regs sN.X) := hid (by rw [← hsN]; exact stepN_regs M HX1.out pc1)
      clear hsN hgo
      go_cut [18, 19, 20, 21, 22, 23, 24, 25] (fun v18 v19 v20 v21 v22 v23 v24 v25 wd => v25 = .bool false ∧ wd = W)
      case first =>
        rcases hcond with h | ⟨h, h2⟩
        · go_wp2_with fail
          go_meet
          case rel => exact ⟨rfl, rfl⟩
        · have h3 : ¬ ((pc1 : Int) < 1099511627776) := by omega
          go_wp2_with fail
          go_meet
          case rel => exact ⟨rfl, rfl⟩
      obtain ⟨rfl, rfl⟩ := hcut
      obtain ⟨ps', hps', hbk, hsp⟩ := HG.out.sp
      have HLW : Low wc (blks ps') := by rw [hbk]; exact HL.out.keep HG.out.k
      have hstep := step_any sp m sl q ps' (X1.set 0 0) pc1 wc hsp HX1.out HLW
      rw [hps', HsN.out] at hstep
      unfold StepPost at hstep
      go_upto_region 6 with (fail)
      apply wp_region_lit
      refine wpList_val (w' := wc) (.pointer (some ⟨sp, 0, none⟩)) rfl (by kernel_rfl) ?_
      simp only [Act.put, List.setIfInBounds_toArray, List.set_cons_zero, List.set_cons_succ]
      refine wpList_load_row rfl 36 (.tmp 4) rfl w.heap.size rfl 36 (stCells (X1.set 0 0) pc1) (0, 0) _ HG.out.st Tryz.underlying36 rfl (infoState HX1.out pc1) ?_
      simp only [Act.put, List.setIfInBounds_toArray, List.set_cons_zero, List.set_cons_succ]
      refine wpList_call (.tuple #[.agg (stCells sN.X sN.pc), .int .i64 sN.ev, fltV sN.code sN.fat]) _ (f := 13) (args := #[.pointer (some ⟨sp, 0, none⟩), .agg (stCells (X1.set 0 0) pc1)]) rfl (by kernel_rfl) hstep ?_
      rintro W5 ⟨ps'', hps'', hbk', hsp', hkp⟩
      simp only [Act.put, List.setIfInBounds_toArray, List.set_cons_zero, List.set_cons_succ]
      have HG5 := hid (HG.out.stepped HS.out hbk hps'' hbk' hsp' hkp)
      clear hstep hsp HLW hps' hbk hps'' hbk' hsp' hkp HG cpc
      refine wpList_val (w' := W5) (.tuple #[.agg (stCells sN.X sN.pc), .int .i64 sN.ev, fltV sN.code sN.fat]) rfl (by kernel_rfl) ?_
      simp only [Act.put, List.setIfInBounds_toArray, List.set_cons_zero, List.set_cons_succ]
      refine wpList_val (w' := W5) (.agg (stCells sN.X sN.pc)) rfl (by kernel_rfl) ?_
      simp only [Act.put, List.setIfInBounds_toArray, List.set_cons_zero, List.set_cons_succ]
      refine wpList_val (w' := W5) (.int .i64 sN.ev) rfl (by kernel_rfl) ?_
      simp only [Act.put, List.setIfInBounds_toArray, List.set_cons_zero, List.set_cons_succ]
      refine wpList_val (w' := W5) (fltV sN.code sN.fat) rfl (by kernel_rfl) ?_
      simp only [Act.put, List.setIfInBounds_toArray, List.set_cons_zero, List.set_cons_succ]
      obtain ⟨W6, hW6, S11, S13, RB, h1, h2⟩ := two_new W5 36 31 zst #[.int .i64 0, .int .u64 0, .string ⟨#[]⟩] (stCells sN.X sN.pc) #[.int .i64 sN.code, .int .u64 sN.fat, .string ⟨#[]⟩]
      have S11 := hid S11
      have S13 := hid S13
      have HG6 := hid (HG5.out.below RB)
      refine wpList_val (w' := W5.alloc (.cells zst 36)) (.pointer (some ⟨W5.heap.size, 0, none⟩)) rfl (by kernel_rfl) ?_
      simp only [Act.put, List.setIfInBounds_toArray, List.set_cons_zero, List.set_cons_succ]
      obtain ⟨WA, hWA⟩ : ∃ WA, W5.alloc (.cells zst 36) = WA := ⟨_, rfl⟩
      have hsA : WA.heap.size = W5.heap.size + 1 := by rw [← hWA]; simp
      rw [hWA]
      rw [hWA] at h1 h2 hW6
      refine wpList_val (w' := WA.alloc (.cells #[.int .i64 0, .int .u64 0, .string ⟨#[]⟩] 31)) (.pointer (some ⟨WA.heap.size, 0, none⟩)) rfl (by kernel_rfl) ?_
      simp only [Act.put, List.setIfInBounds_toArray, List.set_cons_zero, List.set_cons_succ]
      rw [hsA]
      refine wpList_store_row rfl 36 (.tmp 11) (.tmp 35) rfl W5.heap.size (stCells sN.X sN.pc) rfl rfl 36 zst h1 (infoState HsX.out sN.pc) (stCells_size HsX.out _).symm (stCells_one _ _) ?_
      simp only [Act.put, List.setIfInBounds_toArray, List.set_cons_zero, List.set_cons_succ]
      refine wpList_val (w' := (WA.alloc (.cells #[.int .i64 0, .int .u64 0, .string ⟨#[]⟩] 31)).setRow W5.heap.size (stCells sN.X sN.pc)) (.int .i64 sN.ev) rfl (by kernel_rfl) ?_
      simp only [Act.put, List.setIfInBounds_toArray, List.set_cons_zero, List.set_cons_succ]
      refine wpList_store_row rfl 31 (.tmp 13) (.tmp 37) rfl (W5.heap.size + 1) #[.int .i64 sN.code, .int .u64 sN.fat, .string ⟨#[]⟩] rfl rfl 31 #[.int .i64 0, .int .u64 0, .string ⟨#[]⟩] h2 infoFault rfl (faultRow_one ..) ?_
      simp only [Act.put, List.setIfInBounds_toArray, List.set_cons_zero, List.set_cons_succ]
      rw [hW6]
      have hG11 : w.heap.size + 1 + 1 < W5.heap.size := blk_lt' HG5.out.zf
      clear hW6 h1 h2 RB HG5 hWA hsA
      generalize W5.heap.size = G at S11 S13 hG11 ⊢
      have q0 : W6.cell? ⟨G + 1, 0, none⟩ = some (.int .i64 sN.code) := by rw [cell_of_row W6 _ _ _ _ _ S13.out]; rfl
      have q1 : W6.cell? ⟨G + 1, 1, none⟩ = some (.int .u64 sN.fat) := by rw [cell_of_row W6 _ _ _ _ _ S13.out]; rfl
      have q2 : W6.cell? ⟨G + 1, 2, none⟩ = some (.string ⟨#[]⟩) := by rw [cell_of_row W6 _ _ _ _ _ S13.out]; rfl
      go_wp2_with fail
      refine (faultOK_any _ _ _ _).mono ?_
      rintro e V ⟨rfl, hb⟩
      have HG := hid (HG6.out.below hb)
      have Q11 := hid ((hb.block _ (blk_lt' S11.out)).trans S11.out)
      have Q13 := hid ((hb.block _ (blk_lt' S13.out)).trans S13.out)
      clear HG6 S11 S13 q0 q1 q2 hb
      by_cases hcode : sN.code = 0
      · have Hcode := hid hcode
        have hc1 : ((sN.code : Int) == 0) = true := by rw [hcode]; rfl
        rw [hc1]
        clear hc1 hcode
        by_cases hev : sN.ev = 3
        · have Hev := hid hev
          go_upto_region 10 with (fail)
          clear hev
          obtain ⟨zc, hz1, hz2⟩ := HG.out.zs
          have Hz1 := hid hz1
          have Hz2 := hid hz2
          obtain ⟨ps', hps', hbk, hsp⟩ := HG.out.sp
          have Hps' := hid hps'
          have Hbk := hid hbk
          have Hsp := hid hsp
          clear hz1 hz2 hps' hbk hsp
          have E1 := hid (setRow_heap _ _ _ (stCells (X1.set 0 0) pc1) _ _ Hz2.out)
          have EF := hid ((setRow_other V (w.heap.size + 1) (w.heap.size + 1 + 1) (stCells (X1.set 0 0) pc1) (by omega)).trans HG.out.zf)
          have G1 : Hid (((V.setRow (w.heap.size + 1) (stCells (X1.set 0 0) pc1)).setRow (w.heap.size + 1 + 1) #[.int .i64 0, .int .u64 0, .string ⟨#[]⟩]).heap[w.heap.size + 1]? = _) := hid ((setRow_other _ _ _ _ (by omega)).trans E1.out)
          apply wp_region_lit
          refine wpList_load_row rfl 36 (.tmp 4) rfl (w.heap.size) rfl 36 (stCells (X1.set 0 0) pc1) (0, 0) _ HG.out.st Tryz.underlying36 rfl (infoState HX1.out pc1) ?_
          simp only [Act.put, List.setIfInBounds_toArray, List.set_cons_zero, List.set_cons_succ]
          refine wpList_val (w' := V) (.int .i64 k) rfl (by kernel_rfl) ?_
          simp only [Act.put, List.setIfInBounds_toArray, List.set_cons_zero, List.set_cons_succ]
          refine wpList_val (w' := V) (.int .i64 3) rfl (by kernel_rfl) ?_
          simp only [Act.put, List.setIfInBounds_toArray, List.set_cons_zero, List.set_cons_succ]
          refine wpList_val (w' := V) (.agg #[.int .i64 0, .int .u64 0, .string ⟨#[]⟩]) rfl (by kernel_rfl) ?_
          simp only [Act.put, List.setIfInBounds_toArray, List.set_cons_zero, List.set_cons_succ]
          refine wpList_store_row rfl 36 (.tmp 6) (.tmp 48) rfl (w.heap.size + 1) (stCells (X1.set 0 0) pc1) rfl rfl 36 zc Hz2.out (infoState HX1.out pc1) (Hz1.out.trans (stCells_size HX1.out pc1).symm) (stCells_one _ _) ?_
          simp only [Act.put, List.setIfInBounds_toArray, List.set_cons_zero, List.set_cons_succ]
          refine wpList_val (w' := V.setRow (w.heap.size + 1) (stCells (X1.set 0 0) pc1)) (.int .i64 k) rfl (by kernel_rfl) ?_
          simp only [Act.put, List.setIfInBounds_toArray, List.set_cons_zero, List.set_cons_succ]
          refine wpList_val (w' := V.setRow (w.heap.size + 1) (stCells (X1.set 0 0) pc1)) (.int .i64 3) rfl (by kernel_rfl) ?_
          simp only [Act.put, List.setIfInBounds_toArray, List.set_cons_zero, List.set_cons_succ]
          refine wpList_store_row rfl 31 (.tmp 9) (.tmp 51) rfl (w.heap.size + 1 + 1) #[.int .i64 0, .int .u64 0, .string ⟨#[]⟩] rfl rfl 31 _ EF.out infoFault rfl (faultRow_one ..) ?_
          simp only [Act.put, List.setIfInBounds_toArray, List.set_cons_zero, List.set_cons_succ]
          go_wp2_with fail
          refine bodyPost_ret (results_cttc rfl _ _ (w.heap.size + 1) (w.heap.size + 1 + 1) 36 31 (stCells (X1.set 0 0) pc1) #[.int .i64 0, .int .u64 0, .string ⟨#[]⟩] (0, 0) (0, 0) _ _ rfl rfl G1.out (setRow_heap _ _ _ _ _ _ EF.out) Tryz.underlying36 rfl (infoState HX1.out pc1) Tryz.underlying31 rfl infoFault) rfl ?_
          rw [← Hrun2.out, if_pos Hcode.out, if_pos Hev.out]
          exact ⟨rfl, step_stored HS.out Hps'.out Hbk.out Hsp.out HG.out.k _ _⟩
        · by_cases hev0 : sN.ev = 0
          · have Hev := hid hev
            have Hev0 := hid hev0
            have hlt := Hlt.out hev
            have hfu2 := Hfu.out
            go_upto_region 13 with (fail)
            clear hev hev0
            apply wp_region_lit
            refine wpList_load_row rfl 36 (.tmp 11) rfl G rfl 36 (stCells sN.X sN.pc) (0, 0) _ Q11.out Tryz.underlying36 rfl (infoState HsX.out sN.pc) ?_
            simp only [Act.put, List.setIfInBounds_toArray, List.set_cons_zero, List.set_cons_succ]
            refine wpList_store_row rfl 36 (.tmp 4) (.tmp 60) rfl w.heap.size (stCells sN.X sN.pc) rfl rfl 36 _ HG.out.st (infoState HsX.out sN.pc) ((stCells_size HX1.out _).trans (stCells_size HsX.out _).symm) (stCells_one _ _) ?_
            simp only [Act.put, List.setIfInBounds_toArray, List.set_cons_zero, List.set_cons_succ]
            have HG2 := hid (HG.out.setSt HS.out (X' := sN.X) (pc' := sN.pc))
            generalize V.setRow w.heap.size (stCells sN.X sN.pc) = V2 at HG2 ⊢
            go_wp2_with fail
            refine ⟨⟨k + 1, sN.M, sN.X, sN.pc, by simp, by omega, HsX.out, HG2.out, ?_⟩, by simp only [intOf]; omega⟩
            rw [← Hrun2.out, if_pos Hcode.out, if_neg Hev.out, if_pos Hev0.out]
            congr 1
          · have Hev := hid hev
            have Hev0 := hid hev0
            have hlt := Hlt.out hev
            have hfu2 := Hfu.out
            go_upto_region 12 with (fail)
            clear hev hev0
            obtain ⟨zc, hz1, hz2⟩ := HG.out.zs
            have Hz1 := hid hz1
            have Hz2 := hid hz2
            obtain ⟨ps', hps', hbk, hsp⟩ := HG.out.sp
            have Hps' := hid hps'
            have Hbk := hid hbk
            have Hsp := hid hsp
            clear hz1 hz2 hps' hbk hsp
            have E1 := hid (setRow_heap _ _ _ (stCells sN.X sN.pc) _ _ Hz2.out)
            have EF := hid ((setRow_other V (w.heap.size + 1) (w.heap.size + 1 + 1) (stCells sN.X sN.pc) (by omega)).trans HG.out.zf)
            have G1 : Hid (((V.setRow (w.heap.size + 1) (stCells sN.X sN.pc)).setRow (w.heap.size + 1 + 1) #[.int .i64 0, .int .u64 0, .string ⟨#[]⟩]).heap[w.heap.size + 1]? = _) := hid ((setRow_other _ _ _ _ (by omega)).trans E1.out)
            apply wp_region_lit
            refine wpList_load_row rfl 36 (.tmp 11) rfl (G) rfl 36 (stCells sN.X sN.pc) (0, 0) _ Q11.out Tryz.underlying36 rfl (infoState HsX.out sN.pc) ?_
            simp only [Act.put, List.setIfInBounds_toArray, List.set_cons_zero, List.set_cons_succ]
            refine wpList_val (w' := V) (.int .i64 k) rfl (by kernel_rfl) ?_
            simp only [Act.put, List.setIfInBounds_toArray, List.set_cons_zero, List.set_cons_succ]
            refine wpList_val (w' := V) (.int .i64 ((k : Int) + 1)) rfl (by go_simp; first | (rw [IntKind.wrap_i64]; omega) | (rw [IntKind.wrap_i64]; unfold wrap64; omega)) ?_
            simp only [Act.put, List.setIfInBounds_toArray, List.set_cons_zero, List.set_cons_succ]
            refine wpList_val (w' := V) (.int .i64 sN.ev) rfl (by kernel_rfl) ?_
            simp only [Act.put, List.setIfInBounds_toArray, List.set_cons_zero, List.set_cons_succ]
            refine wpList_val (w' := V) (.agg #[.int .i64 0, .int .u64 0, .string ⟨#[]⟩]) rfl (by kernel_rfl) ?_
            simp only [Act.put, List.setIfInBounds_toArray, List.set_cons_zero, List.set_cons_succ]
            refine wpList_store_row rfl 36 (.tmp 6) (.tmp 55) rfl (w.heap.size + 1) (stCells sN.X sN.pc) rfl rfl 36 zc Hz2.out (infoState HsX.out sN.pc) (Hz1.out.trans (stCells_size HsX.out sN.pc).symm) (stCells_one _ _) ?_
            simp only [Act.put, List.setIfInBounds_toArray, List.set_cons_zero, List.set_cons_succ]
            refine wpList_val (w' := V.setRow (w.heap.size + 1) (stCells sN.X sN.pc)) (.int .i64 ((k : Int) + 1)) rfl (by kernel_rfl) ?_
            simp only [Act.put, List.setIfInBounds_toArray, List.set_cons_zero, List.set_cons_succ]
            refine wpList_val (w' := V.setRow (w.heap.size + 1) (stCells sN.X sN.pc)) (.int .i64 sN.ev) rfl (by kernel_rfl) ?_
            simp only [Act.put, List.setIfInBounds_toArray, List.set_cons_zero, List.set_cons_succ]
            refine wpList_store_row rfl 31 (.tmp 9) (.tmp 59) rfl (w.heap.size + 1 + 1) #[.int .i64 0, .int .u64 0, .string ⟨#[]⟩] rfl rfl 31 _ EF.out infoFault rfl (faultRow_one ..) ?_
            simp only [Act.put, List.setIfInBounds_toArray, List.set_cons_zero, List.set_cons_succ]
            go_wp2_with fail
            refine bodyPost_ret (results_cttc rfl _ _ (w.heap.size + 1) (w.heap.size + 1 + 1) 36 31 (stCells sN.X sN.pc) #[.int .i64 0, .int .u64 0, .string ⟨#[]⟩] (0, 0) (0, 0) _ _ rfl rfl G1.out (setRow_heap _ _ _ _ _ _ EF.out) Tryz.underlying36 rfl (infoState HsX.out sN.pc) Tryz.underlying31 rfl infoFault) rfl ?_
            rw [← Hrun2.out, if_pos Hcode.out, if_neg Hev.out, if_neg Hev0.out]
            exact ⟨rfl, step_stored HS.out Hps'.out Hbk.out Hsp.out HG.out.k _ _⟩
      · have Hcode := hid hcode
        have hc1 : ((sN.code : Int) == 0) = false := by simp; omega
        rw [hc1]
        clear hc1 hcode
        go_wp2_with fail
        refine wp_region_any (by kernel_rfl) ?_
        change wpAny _ _ _ _ _ _ _ (World.drew V)
        have DG := hid (HG.out.below (W' := V.drew) ((Below.refl _ _).drew))
        have DS : Hid (V.drew.heap[G + 1]? = some (.cells #[.int .i64 sN.code, .int .u64 sN.fat, .string ⟨#[]⟩] 31 (0, 0))) := hid Q13.out
        obtain ⟨D, hD⟩ : ∃ D, V.drew = D := ⟨_, rfl⟩
        rw [hD] at DG DS ⊢
        clear hD HG Q11 Q13
        obtain ⟨zc, hz1, hz2⟩ := DG.out.zs
        have Hz1 := hid hz1
        have DZ := hid hz2
        obtain ⟨ps', hps', hbk, hsp⟩ := DG.out.sp
        have Hps' := hid hps'
        have Hbk := hid hbk
        have Hsp := hid hsp
        clear hz1 hz2 hps' hbk hsp
        have ES : Hid ((D.setRow (w.heap.size + 1) (stCells (X1.set 0 0) pc1)).heap[G + 1]? = _) := hid ((setRow_other _ _ _ _ (by omega)).trans DS.out)
        have E1 : Hid ((D.setRow (w.heap.size + 1) (stCells (X1.set 0 0) pc1)).heap[w.heap.size + 1]? = _) := hid (setRow_heap _ _ _ _ _ _ DZ.out)
        have EF : Hid ((D.setRow (w.heap.size + 1) (stCells (X1.set 0 0) pc1)).heap[w.heap.size + 1 + 1]? = _) := hid ((setRow_other _ _ _ _ (by omega)).trans DG.out.zf)
        have G1 : Hid (((D.setRow (w.heap.size + 1) (stCells (X1.set 0 0) pc1)).setRow (w.heap.size + 1 + 1) #[.int .i64 sN.code, .int .u64 sN.fat, .string ⟨#[]⟩]).heap[w.heap.size + 1]? = _) := hid ((setRow_other _ _ _ _ (by omega)).trans E1.out)
        refine wpAny_take (i := 1) (v := .int .i64 k) rfl (by kernel_rfl) (by kernel_rfl) (by kernel_rfl) (fun _ _ _ h => h) (Or.inl ⟨by rfl, fun w => by kernel_rfl⟩) ?_
        simp only [Act.put, List.getElem_toArray, List.getElem_cons_zero, List.getElem_cons_succ, List.setIfInBounds_toArray, List.set_cons_zero, List.set_cons_succ]
        refine any2 (i := 0) (j := 2) (by kernel_rfl) ?_ ?_
        · refine wpOp_val (w' := D) (v := .agg (stCells (X1.set 0 0) pc1)) rfl rfl (exec_load_row 36 (.tmp 4) rfl w.heap.size rfl 36 _ (0, 0) _ DG.out.st Tryz.underlying36 rfl (infoState HX1.out pc1)) ?_
          simp only [Act.put, List.getElem_toArray, List.getElem_cons_zero, List.getElem_cons_succ, List.setIfInBounds_toArray, List.set_cons_zero, List.set_cons_succ]
          refine any2 (i := 2) (j := 3) (by kernel_rfl) ?_ ?_
          · refine wpOp_val (w' := D) (v := .agg #[.int .i64 sN.code, .int .u64 sN.fat, .string ⟨#[]⟩]) rfl rfl (exec_load_row 31 (.tmp 13) rfl (G + 1) rfl 31 _ (0, 0) _ DS.out Tryz.underlying31 rfl infoFault) ?_
            simp only [Act.put, List.getElem_toArray, List.getElem_cons_zero, List.getElem_cons_succ, List.setIfInBounds_toArray, List.set_cons_zero, List.set_cons_succ]
            refine any1 (i := 3) (by kernel_rfl) ?_
            refine wpOp_store_row rfl rfl 36 (.tmp 6) (.tmp 42) rfl (w.heap.size + 1) (stCells (X1.set 0 0) pc1) rfl rfl 36 zc DZ.out (infoState HX1.out pc1) (Hz1.out.trans (stCells_size HX1.out _).symm) (stCells_one _ _) ?_
            simp only [Act.put, List.getElem_toArray, List.getElem_cons_zero, List.getElem_cons_succ, List.setIfInBounds_toArray, List.set_cons_zero, List.set_cons_succ]
            refine any1 (i := 4) (by kernel_rfl) ?_
            refine wpOp_val (w' := (D.setRow (w.heap.size + 1) (stCells (X1.set 0 0) pc1))) (v := .int .i64 k) rfl rfl (by kernel_rfl) ?_
            simp only [Act.put, List.getElem_toArray, List.getElem_cons_zero, List.getElem_cons_succ, List.setIfInBounds_toArray, List.set_cons_zero, List.set_cons_succ]
            refine any1 (i := 5) (by kernel_rfl) ?_
            refine wpOp_val (w' := (D.setRow (w.heap.size + 1) (stCells (X1.set 0 0) pc1))) (v := .int .i64 0) rfl rfl (by kernel_rfl) ?_
            simp only [Act.put, List.getElem_toArray, List.getElem_cons_zero, List.getElem_cons_succ, List.setIfInBounds_toArray, List.set_cons_zero, List.set_cons_succ]
            refine any1 (i := 6) (by kernel_rfl) ?_
            refine wpOp_store_row rfl rfl 31 (.tmp 9) (.tmp 44) rfl (w.heap.size + 1 + 1) #[.int .i64 sN.code, .int .u64 sN.fat, .string ⟨#[]⟩] rfl rfl 31 _ EF.out infoFault rfl (faultRow_one ..) ?_
            simp only [Act.put, List.getElem_toArray, List.getElem_cons_zero, List.getElem_cons_succ, List.setIfInBounds_toArray, List.set_cons_zero, List.set_cons_succ]
            refine ⟨by kernel_rfl, ?_⟩
            go_wp2_with fail
            refine bodyPost_ret (results_cttc rfl _ _ (w.heap.size + 1) (w.heap.size + 1 + 1) 36 31 (stCells (X1.set 0 0) pc1) #[.int .i64 sN.code, .int .u64 sN.fat, .string ⟨#[]⟩] (0, 0) (0, 0) _ _ rfl rfl G1.out (setRow_heap _ _ _ _ _ _ EF.out) Tryz.underlying36 rfl (infoState HX1.out pc1) Tryz.underlying31 rfl infoFault) rfl ?_
            rw [← Hrun2.out, if_neg Hcode.out]
            exact ⟨rfl, step_stored HS.out Hps'.out Hbk.out Hsp.out DG.out.k _ _⟩
          · refine wpOp_store_row rfl rfl 36 (.tmp 6) (.tmp 42) rfl (w.heap.size + 1) (stCells (X1.set 0 0) pc1) rfl rfl 36 zc DZ.out (infoState HX1.out pc1) (Hz1.out.trans (stCells_size HX1.out _).symm) (stCells_one _ _) ?_
            simp only [Act.put, List.getElem_toArray, List.getElem_cons_zero, List.getElem_cons_succ, List.setIfInBounds_toArray, List.set_cons_zero, List.set_cons_succ]
            refine any2 (i := 2) (j := 4) (by kernel_rfl) ?_ ?_
            · refine wpOp_val (w' := (D.setRow (w.heap.size + 1) (stCells (X1.set 0 0) pc1))) (v := .agg #[.int .i64 sN.code, .int .u64 sN.fat, .string ⟨#[]⟩]) rfl rfl (exec_load_row 31 (.tmp 13) rfl (G + 1) rfl 31 _ (0, 0) _ ES.out Tryz.underlying31 rfl infoFault) ?_
              simp only [Act.put, List.getElem_toArray, List.getElem_cons_zero, List.getElem_cons_succ, List.setIfInBounds_toArray, List.set_cons_zero, List.set_cons_succ]
              refine any1 (i := 4) (by kernel_rfl) ?_
              refine wpOp_val (w' := (D.setRow (w.heap.size + 1) (stCells (X1.set 0 0) pc1))) (v := .int .i64 k) rfl rfl (by kernel_rfl) ?_
              simp only [Act.put, List.getElem_toArray, List.getElem_cons_zero, List.getElem_cons_succ, List.setIfInBounds_toArray, List.set_cons_zero, List.set_cons_succ]
              refine any1 (i := 5) (by kernel_rfl) ?_
              refine wpOp_val (w' := (D.setRow (w.heap.size + 1) (stCells (X1.set 0 0) pc1))) (v := .int .i64 0) rfl rfl (by kernel_rfl) ?_
              simp only [Act.put, List.getElem_toArray, List.getElem_cons_zero, List.getElem_cons_succ, List.setIfInBounds_toArray, List.set_cons_zero, List.set_cons_succ]
              refine any1 (i := 6) (by kernel_rfl) ?_
              refine wpOp_store_row rfl rfl 31 (.tmp 9) (.tmp 44) rfl (w.heap.size + 1 + 1) #[.int .i64 sN.code, .int .u64 sN.fat, .string ⟨#[]⟩] rfl rfl 31 _ EF.out infoFault rfl (faultRow_one ..) ?_
              simp only [Act.put, List.getElem_toArray, List.getElem_cons_zero, List.getElem_cons_succ, List.setIfInBounds_toArray, List.set_cons_zero, List.set_cons_succ]
              refine ⟨by kernel_rfl, ?_⟩
              go_wp2_with fail
              refine bodyPost_ret (results_cttc rfl _ _ (w.heap.size + 1) (w.heap.size + 1 + 1) 36 31 (stCells (X1.set 0 0) pc1) #[.int .i64 sN.code, .int .u64 sN.fat, .string ⟨#[]⟩] (0, 0) (0, 0) _ _ rfl rfl G1.out (setRow_heap _ _ _ _ _ _ EF.out) Tryz.underlying36 rfl (infoState HX1.out pc1) Tryz.underlying31 rfl infoFault) rfl ?_
              rw [← Hrun2.out, if_neg Hcode.out]
              exact ⟨rfl, step_stored HS.out Hps'.out Hbk.out Hsp.out DG.out.k _ _⟩
            · refine wpOp_val (w' := (D.setRow (w.heap.size + 1) (stCells (X1.set 0 0) pc1))) (v := .int .i64 k) rfl rfl (by kernel_rfl) ?_
              simp only [Act.put, List.getElem_toArray, List.getElem_cons_zero, List.getElem_cons_succ, List.setIfInBounds_toArray, List.set_cons_zero, List.set_cons_succ]
              refine any2 (i := 2) (j := 5) (by kernel_rfl) ?_ ?_
              · refine wpOp_val (w' := (D.setRow (w.heap.size + 1) (stCells (X1.set 0 0) pc1))) (v := .agg #[.int .i64 sN.code, .int .u64 sN.fat, .string ⟨#[]⟩]) rfl rfl (exec_load_row 31 (.tmp 13) rfl (G + 1) rfl 31 _ (0, 0) _ ES.out Tryz.underlying31 rfl infoFault) ?_
                simp only [Act.put, List.getElem_toArray, List.getElem_cons_zero, List.getElem_cons_succ, List.setIfInBounds_toArray, List.set_cons_zero, List.set_cons_succ]
                refine any1 (i := 5) (by kernel_rfl) ?_
                refine wpOp_val (w' := (D.setRow (w.heap.size + 1) (stCells (X1.set 0 0) pc1))) (v := .int .i64 0) rfl rfl (by kernel_rfl) ?_
                simp only [Act.put, List.getElem_toArray, List.getElem_cons_zero, List.getElem_cons_succ, List.setIfInBounds_toArray, List.set_cons_zero, List.set_cons_succ]
                refine any1 (i := 6) (by kernel_rfl) ?_
                refine wpOp_store_row rfl rfl 31 (.tmp 9) (.tmp 44) rfl (w.heap.size + 1 + 1) #[.int .i64 sN.code, .int .u64 sN.fat, .string ⟨#[]⟩] rfl rfl 31 _ EF.out infoFault rfl (faultRow_one ..) ?_
                simp only [Act.put, List.getElem_toArray, List.getElem_cons_zero, List.getElem_cons_succ, List.setIfInBounds_toArray, List.set_cons_zero, List.set_cons_succ]
                refine ⟨by kernel_rfl, ?_⟩
                go_wp2_with fail
                refine bodyPost_ret (results_cttc rfl _ _ (w.heap.size + 1) (w.heap.size + 1 + 1) 36 31 (stCells (X1.set 0 0) pc1) #[.int .i64 sN.code, .int .u64 sN.fat, .string ⟨#[]⟩] (0, 0) (0, 0) _ _ rfl rfl G1.out (setRow_heap _ _ _ _ _ _ EF.out) Tryz.underlying36 rfl (infoState HX1.out pc1) Tryz.underlying31 rfl infoFault) rfl ?_
                rw [← Hrun2.out, if_neg Hcode.out]
                exact ⟨rfl, step_stored HS.out Hps'.out Hbk.out Hsp.out DG.out.k _ _⟩
              · refine wpOp_val (w' := (D.setRow (w.heap.size + 1) (stCells (X1.set 0 0) pc1))) (v := .int .i64 0) rfl rfl (by kernel_rfl) ?_
                simp only [Act.put, List.getElem_toArray, List.getElem_cons_zero, List.getElem_cons_succ, List.setIfInBounds_toArray, List.set_cons_zero, List.set_cons_succ]
                refine any1 (i := 2) (by kernel_rfl) ?_
                refine wpOp_val (w' := (D.setRow (w.heap.size + 1) (stCells (X1.set 0 0) pc1))) (v := .agg #[.int .i64 sN.code, .int .u64 sN.fat, .string ⟨#[]⟩]) rfl rfl (exec_load_row 31 (.tmp 13) rfl (G + 1) rfl 31 _ (0, 0) _ ES.out Tryz.underlying31 rfl infoFault) ?_
                simp only [Act.put, List.getElem_toArray, List.getElem_cons_zero, List.getElem_cons_succ, List.setIfInBounds_toArray, List.set_cons_zero, List.set_cons_succ]
                refine any1 (i := 6) (by kernel_rfl) ?_
                refine wpOp_store_row rfl rfl 31 (.tmp 9) (.tmp 44) rfl (w.heap.size + 1 + 1) #[.int .i64 sN.code, .int .u64 sN.fat, .string ⟨#[]⟩] rfl rfl 31 _ EF.out infoFault rfl (faultRow_one ..) ?_
                simp only [Act.put, List.getElem_toArray, List.getElem_cons_zero, List.getElem_cons_succ, List.setIfInBounds_toArray, List.set_cons_zero, List.set_cons_succ]
                refine ⟨by kernel_rfl, ?_⟩
                go_wp2_with fail
                refine bodyPost_ret (results_cttc rfl _ _ (w.heap.size + 1) (w.heap.size + 1 + 1) 36 31 (stCells (X1.set 0 0) pc1) #[.int .i64 sN.code, .int .u64 sN.fat, .string ⟨#[]⟩] (0, 0) (0, 0) _ _ rfl rfl G1.out (setRow_heap _ _ _ _ _ _ EF.out) Tryz.underlying36 rfl (infoState HX1.out pc1) Tryz.underlying31 rfl infoFault) rfl ?_
                rw [← Hrun2.out, if_neg Hcode.out]
                exact ⟨rfl, step_stored HS.out Hps'.out Hbk.out Hsp.out DG.out.k _ _⟩
        · refine wpOp_val (w' := D) (v := .agg #[.int .i64 sN.code, .int .u64 sN.fat, .string ⟨#[]⟩]) rfl rfl (exec_load_row 31 (.tmp 13) rfl (G + 1) rfl 31 _ (0, 0) _ DS.out Tryz.underlying31 rfl infoFault) ?_
          simp only [Act.put, List.getElem_toArray, List.getElem_cons_zero, List.getElem_cons_succ, List.setIfInBounds_toArray, List.set_cons_zero, List.set_cons_succ]
          refine any1 (i := 0) (by kernel_rfl) ?_
          refine wpOp_val (w' := D) (v := .agg (stCells (X1.set 0 0) pc1)) rfl rfl (exec_load_row 36 (.tmp 4) rfl w.heap.size rfl 36 _ (0, 0) _ DG.out.st Tryz.underlying36 rfl (infoState HX1.out pc1)) ?_
          simp only [Act.put, List.getElem_toArray, List.getElem_cons_zero, List.getElem_cons_succ, List.setIfInBounds_toArray, List.set_cons_zero, List.set_cons_succ]
          refine any1 (i := 3) (by kernel_rfl) ?_
          refine wpOp_store_row rfl rfl 36 (.tmp 6) (.tmp 42) rfl (w.heap.size + 1) (stCells (X1.set 0 0) pc1) rfl rfl 36 zc DZ.out (infoState HX1.out pc1) (Hz1.out.trans (stCells_size HX1.out _).symm) (stCells_one _ _) ?_
          simp only [Act.put, List.getElem_toArray, List.getElem_cons_zero, List.getElem_cons_succ, List.setIfInBounds_toArray, List.set_cons_zero, List.set_cons_succ]
          refine any1 (i := 4) (by kernel_rfl) ?_
          refine wpOp_val (w' := (D.setRow (w.heap.size + 1) (stCells (X1.set 0 0) pc1))) (v := .int .i64 k) rfl rfl (by kernel_rfl) ?_
          simp only [Act.put, List.getElem_toArray, List.getElem_cons_zero, List.getElem_cons_succ, List.setIfInBounds_toArray, List.set_cons_zero, List.set_cons_succ]
          refine any1 (i := 5) (by kernel_rfl) ?_
          refine wpOp_val (w' := (D.setRow (w.heap.size + 1) (stCells (X1.set 0 0) pc1))) (v := .int .i64 0) rfl rfl (by kernel_rfl) ?_
          simp only [Act.put, List.getElem_toArray, List.getElem_cons_zero, List.getElem_cons_succ, List.setIfInBounds_toArray, List.set_cons_zero, List.set_cons_succ]
          refine any1 (i := 6) (by kernel_rfl) ?_
          refine wpOp_store_row rfl rfl 31 (.tmp 9) (.tmp 44) rfl (w.heap.size + 1 + 1) #[.int .i64 sN.code, .int .u64 sN.fat, .string ⟨#[]⟩] rfl rfl 31 _ EF.out infoFault rfl (faultRow_one ..) ?_
          simp only [Act.put, List.getElem_toArray, List.getElem_cons_zero, List.getElem_cons_succ, List.setIfInBounds_toArray, List.set_cons_zero, List.set_cons_succ]
          refine ⟨by kernel_rfl, ?_⟩
          go_wp2_with fail
          refine bodyPost_ret (results_cttc rfl _ _ (w.heap.size + 1) (w.heap.size + 1 + 1) 36 31 (stCells (X1.set 0 0) pc1) #[.int .i64 sN.code, .int .u64 sN.fat, .string ⟨#[]⟩] (0, 0) (0, 0) _ _ rfl rfl G1.out (setRow_heap _ _ _ _ _ _ EF.out) Tryz.underlying36 rfl (infoState HX1.out pc1) Tryz.underlying31 rfl infoFault) rfl ?_
          rw [← Hrun2.out, if_neg Hcode.out]
          exact ⟨rfl, step_stored HS.out Hps'.out Hbk.out Hsp.out DG.out.k _ _⟩
end
end Go.Proofs.YtiemingpbommeaaGreatDoor
