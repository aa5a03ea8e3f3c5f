/- The processor: an instruction that reckons; any instruction behind which the next one comes. -/
import Derived.Test.YtiemingpbommeaaGreatDoorGh
namespace Go.Proofs.YtiemingpbommeaaGreatDoor
open Go Go.RowKit
noncomputable section
set_option linter.unusedVariables false
set_option linter.unusedSimpArgs false
theorem MaxAt.below {w w' : World} (h : MaxAt w) (h0 : 2 < w.heap.size) (hb : Below w.heap.size w w') : MaxAt w' := by
  obtain ⟨m, hm⟩ := h
  exact ⟨m, (World.cell?_of_block (hb.block 1 (Nat.lt_of_le_of_lt (by decide) h0))).trans hm⟩
theorem do_at (o : Int) (oi : Int) (ho : oi = o) (a b : Nat) (ai bi : Int) (h1 : ai = a) (h2 : bi = b) (w : World) (ha : a < 18446744073709551616) (hb : b < 18446744073709551616) :
    Calls Tryz.prog 80 #[.int .i64 oi, .int .u64 ai, .int .u64 bi] w fun e w' => e = .returned (.int .u64 (doN o a b)) ∧ ∃ m, w' = w.drewN m := by subst ho; subst h1; subst h2; exact do_any oi a b w ha hb
set_option maxHeartbeats 4000000 in
set_option maxRecDepth 100000 in
theorem do_alu (sp m : Nat) (sl : Value) (q : Int) (ps : List (Pg × Nat)) (g : Nat) (X : List Nat) (pc : Nat) (d a b : Nat) (n : Int) (w : World) (hS : SpaceIs w sp m sl q ps) (hT : StIs w g X pc) (hX : Regs X) (hd : d < 32) (ha : a < 32) (hb : b < 32) (o : Int) (ho : o ≠ 0 ∧ o ≠ 1 ∧ (o < 10 ∨ 20 < o) ∧ o ≠ 62 ∧ o ≠ 63) (hN : NamesAt w) (hM : MaxAt w) (h2 : 2 < w.heap.size) :
    Calls Tryz.prog 35 #[.pointer (some ⟨g, 0, none⟩), .pointer (some ⟨sp, 0, none⟩), .agg (instCells o d a b n)] w (DoPost sp m sl q ps g (pgs ps, setR X d (doN (operN o) (getR X a) (if letterI o = 82 then getR X b else u64N n)), 0, 0) pc w) := by
  have Ho := hid ho
  have HN := hid hN
  have HM := hid hM
  have H2 := hid h2
  clear ho hN hM h2
  obtain ⟨r, hr⟩ : ∃ r, doN (operN o) (getR X a) (if letterI o = 82 then getR X b else u64N n) = r := ⟨_, rfl⟩
  have Hr := hid hr
  rw [hr]
  clear hr
  have HX := hid hX
  have HT := hid hT
  have HS := hid hS
  have hgl := hT.lt
  have hA := hX.get a
  have hB := hX.get b
  have hca := hT.cell hX ha
  have hcb := hT.cell hX hb
  clear hX hT hS
  obtain ⟨A, hAe⟩ : ∃ A, getR X a = A := ⟨_, rfl⟩
  obtain ⟨B, hBe⟩ : ∃ B, getR X b = B := ⟨_, rfl⟩
  have HAe := hid hAe
  have HBe := hid hBe
  rw [hAe] at hA hca
  rw [hBe] at hB hcb
  clear hAe hBe
  unfold instCells
  go_enter Tryz.func35, Tryz.ntmps35
  go_wp2_with fail
  obtain ⟨W, hW⟩ : ∃ W, (w.alloc (.cells #[.int .i64 o, .int .i64 d, .int .i64 a, .int .i64 b, .int .i64 n] 44)).alloc (.cells #[.int .i64 0, .int .u64 0, .string ⟨#[]⟩] 31) = W := ⟨_, rfl⟩
  have B1 : Hid (Below w.heap.size w W) := hid (by rw [← hW]; exact ((Below.refl _ _).alloc (Nat.le_refl _) _).alloc (by simp) _)
  have M5 : Hid (W.heap[w.heap.size]? = some (.cells #[.int .i64 o, .int .i64 d, .int .i64 a, .int .i64 b, .int .i64 n] 44 (0, 0))) := hid (by rw [← hW]; exact heap_alloc2_old w _ _)
  have M6 : Hid (W.heap[w.heap.size + 1]? = some (.cells #[.int .i64 0, .int .u64 0, .string ⟨#[]⟩] 31 (0, 0))) := hid (by rw [← hW]; exact heap_alloc2_new w _ _)
  have x2 : W.cell? ⟨w.heap.size, 2, none⟩ = some (.int .i64 a) := by rw [cell_of_row W _ _ _ _ _ M5.out]; rfl
  have x3 : W.cell? ⟨w.heap.size, 3, none⟩ = some (.int .i64 b) := by rw [cell_of_row W _ _ _ _ _ M5.out]; rfl
  have hcA : W.cell? ⟨g, a, none⟩ = some (.int .u64 A) := by rw [← hca]; exact World.cell?_of_block (B1.out.block _ hgl)
  have hcB : W.cell? ⟨g, b, none⟩ = some (.int .u64 B) := by rw [← hcb]; exact World.cell?_of_block (B1.out.block _ hgl)
  have l5 := blk_lt' M5.out
  have lg : g < W.heap.size := Nat.lt_of_lt_of_le hgl B1.out.size
  rw [hW]
  clear hW hca hcb
  refine wp_region_quiet_in (fun w' => ∃ u, w' = aft W u) (by kernel_rfl) (by kernel_rfl) (aft_drew _) ?_
  repeat (go_big_quiet_step (fail))
  refine wpQuiet_nil ?_
  rintro W2 ⟨u, rfl⟩
  obtain ⟨W2, hW2⟩ : ∃ W2, aft W u = W2 := ⟨_, rfl⟩
  have bu : Hid (Below W.heap.size W W2) := hid (by rw [← hW2]; exact aft_below W u)
  rw [hW2]
  clear hW2
  have N5 := hid ((bu.out.block _ l5).trans M5.out)
  have N6 := hid ((bu.out.block _ (blk_lt' M6.out)).trans M6.out)
  have B2 := hid (B1.out.trans (bu.out.mono B1.out.size))
  clear x2 x3 hcA hcB l5 lg M5 M6 B1 bu
  have HT2 := hid (HT.out.below B2.out)
  have HS2 := hid (HS.out.below B2.out)
  have y0 : W2.cell? ⟨w.heap.size, 0, none⟩ = some (.int .i64 o) := by rw [cell_of_row W2 _ _ _ _ _ N5.out]; rfl
  have y1 : W2.cell? ⟨w.heap.size, 1, none⟩ = some (.int .i64 d) := by rw [cell_of_row W2 _ _ _ _ _ N5.out]; rfl
  have y4 : W2.cell? ⟨w.heap.size, 4, none⟩ = some (.int .i64 n) := by rw [cell_of_row W2 _ _ _ _ _ N5.out]; rfl
  have l5 := blk_lt' N5.out
  have lg := HT2.out.lt
  rw [HAe.out, HBe.out] at Hr
  have ho := Ho.out
  have HN2 := hid (HN.out.below (by have := H2.out; omega) B2.out)
  have HM2 := hid (HM.out.below H2.out B2.out)
  have h22 : 2 < W2.heap.size := Nat.lt_of_lt_of_le H2.out B2.out.size
  go_wp2_with fail
  refine (form_any o _).mono ?_
  rintro e W3 ⟨rfl, hb3⟩
  have HN3 := hid (HN2.out.below (by omega) hb3)
  have HM3 := hid (HM2.out.below h22 hb3)
  have h23 : 2 < W3.heap.size := Nat.lt_of_lt_of_le h22 hb3.size
  have Q5 := hid ((hb3.block _ l5).trans N5.out)
  have Q6 := hid ((hb3.block _ (blk_lt' N6.out)).trans N6.out)
  have HT3 := hid (HT2.out.below hb3)
  have HS3 := hid (HS2.out.below hb3)
  have B3 := hid (B2.out.trans (hb3.mono B2.out.size))
  clear y0 y1 y4 l5 lg hb3 N5 N6 HT2 HS2 B2 HN2 HM2 h22
  have y0 : W3.cell? ⟨w.heap.size, 0, none⟩ = some (.int .i64 o) := by rw [cell_of_row W3 _ _ _ _ _ Q5.out]; rfl
  have y1 : W3.cell? ⟨w.heap.size, 1, none⟩ = some (.int .i64 d) := by rw [cell_of_row W3 _ _ _ _ _ Q5.out]; rfl
  have y4 : W3.cell? ⟨w.heap.size, 4, none⟩ = some (.int .i64 n) := by rw [cell_of_row W3 _ _ _ _ _ Q5.out]; rfl
  have l5 := blk_lt' Q5.out
  have lg := HT3.out.lt
  by_cases hl : letterI o = 82
  · have Hr' : Hid (doN (operN o) A B = r) := hid (by rw [← Hr.out, if_pos hl])
    go_wp2_with fail
    refine wp_region_quiet_tail 9 (fun w' => ∃ u, w' = aft W3 u) (by kernel_rfl) (by kernel_rfl) (aft_drew _) ?_
    simp only [List.take_succ_cons, List.take_zero, List.drop_succ_cons, List.drop_zero]
    repeat (go_big_quiet_step (first
      | (go_at_call 81; exact aft_call (operation_any o _ (HN3.out.below (by omega) (aft_below W3 _)) (HM3.out.below h23 (aft_below W3 _)) (Nat.lt_of_lt_of_le h23 (aft_size W3 _))))
      | (go_at_call 80; exact aft_callq (do_any (operN o) A B _ hA hB))))
    refine wpQuiet_nil ?_
    rintro W4 ⟨u, rfl⟩
    obtain ⟨W4, hW4⟩ : ∃ W4, aft W3 u = W4 := ⟨_, rfl⟩
    have bu : Hid (Below W3.heap.size W3 W4) := hid (by rw [← hW4]; exact aft_below W3 u)
    rw [hW4]
    clear hW4
    go_wp2_with fail
    refine (set_at g X pc d r _ (by rw [← Hr'.out]) _ (HT3.out.below bu.out) HX.out hd).mono ?_
    rintro e W5 ⟨rfl, hst, hkp⟩
    have P6 := hid (hkp.row ((bu.out.block _ (blk_lt' Q6.out)).trans Q6.out) (by simp; omega))
    have K3 := hid (((Keep.of_below B3.out).trans (Keep.of_below bu.out)).trans hkp)
    have HS9 := hid ((HS3.out.below bu.out).keepSt (HT3.out.below bu.out) hkp)
    clear HT3 HS3
    have HT3 := hid hst
    have HS3 := HS9
    clear hst hkp bu
    go_wp2_with (refine wpList_store_row rfl 31 (.tmp 6) (.tmp 102) rfl (w.heap.size + 1) _ rfl rfl 31 _ P6.out infoFault rfl (faultRow_one ..) ?_)
    refine bodyPost_ret (results_cell_row rfl _ _ (w.heap.size + 1) 31 _ (0, 0) _ rfl (setRow_heap _ _ _ _ _ _ P6.out) Tryz.underlying31 rfl infoFault) rfl ?_
    refine ⟨rfl, ⟨ps, rfl, rfl, HS3.out.row_new ?_ ?_ ?_ _⟩, (setRow_other _ _ _ _ (by omega)).trans HT3.out, (K3.out.toG).setRow _ _ (.inl (by omega))⟩
    · have := blk_lt' HS.out.row; omega
    · have := blk_lt' HS.out.map; omega
    · intro h; have := HS.out.lt_blk h; omega
  · have Hr' : Hid (doN (operN o) A (u64N n) = r) := hid (by rw [← Hr.out, if_neg hl])
    go_wp2_with fail
    refine wp_region_quiet_tail 9 (fun w' => ∃ u, w' = aft W3 u) (by kernel_rfl) (by kernel_rfl) (aft_drew _) ?_
    simp only [List.take_succ_cons, List.take_zero, List.drop_succ_cons, List.drop_zero]
    repeat (go_big_quiet_step (first
      | (go_at_call 81; exact aft_call (operation_any o _ (HN3.out.below (by omega) (aft_below W3 _)) (HM3.out.below h23 (aft_below W3 _)) (Nat.lt_of_lt_of_le h23 (aft_size W3 _))))
      | (go_at_call 80; exact aft_callq (do_at (operN o) _ rfl A (u64N n) _ _ rfl (wrap_u64N n) _ hA (u64N_lt n)))))
    refine wpQuiet_nil ?_
    rintro W4 ⟨u, rfl⟩
    obtain ⟨W4, hW4⟩ : ∃ W4, aft W3 u = W4 := ⟨_, rfl⟩
    have bu : Hid (Below W3.heap.size W3 W4) := hid (by rw [← hW4]; exact aft_below W3 u)
    rw [hW4]
    clear hW4
    go_wp2_with fail
    refine (set_at g X pc d r _ (by rw [← Hr'.out]) _ (HT3.out.below bu.out) HX.out hd).mono ?_
    rintro e W5 ⟨rfl, hst, hkp⟩
    have P6 := hid (hkp.row ((bu.out.block _ (blk_lt' Q6.out)).trans Q6.out) (by simp; omega))
    have K3 := hid (((Keep.of_below B3.out).trans (Keep.of_below bu.out)).trans hkp)
    have HS9 := hid ((HS3.out.below bu.out).keepSt (HT3.out.below bu.out) hkp)
    clear HT3 HS3
    have HT3 := hid hst
    have HS3 := HS9
    clear hst hkp bu
    go_wp2_with (refine wpList_store_row rfl 31 (.tmp 6) (.tmp 102) rfl (w.heap.size + 1) _ rfl rfl 31 _ P6.out infoFault rfl (faultRow_one ..) ?_)
    refine bodyPost_ret (results_cell_row rfl _ _ (w.heap.size + 1) 31 _ (0, 0) _ rfl (setRow_heap _ _ _ _ _ _ P6.out) Tryz.underlying31 rfl infoFault) rfl ?_
    refine ⟨rfl, ⟨ps, rfl, rfl, HS3.out.row_new ?_ ?_ ?_ _⟩, (setRow_other _ _ _ _ (by omega)).trans HT3.out, (K3.out.toG).setRow _ _ (.inl (by omega))⟩
    · have := blk_lt' HS.out.row; omega
    · have := blk_lt' HS.out.map; omega
    · intro h; have := HS.out.lt_blk h; omega
end
end Go.Proofs.YtiemingpbommeaaGreatDoor

/- The processor: one step. -/
namespace Go.Proofs.YtiemingpbommeaaGreatDoor
open Go Go.RowKit
noncomputable section
set_option linter.unusedVariables false
set_option linter.unusedSimpArgs false
/-- the worlds behind a step's first operations -/
structure Begun (sp m : Nat) (sl : Value) (q : Int) (ps : List (Pg × Nat)) (X : List Nat) (pc : Nat) (w W : World) : Prop where
  st : StIs W w.heap.size X pc
  zs : ∃ cs, cs.size = 33 ∧ W.heap[w.heap.size + 1]? = some (.cells cs 36 (0, 0))
  zf : W.heap[w.heap.size + 1 + 1]? = some (.cells #[.int .i64 0, .int .u64 0, .string ⟨#[]⟩] 31 (0, 0))
  sp : SpaceIs W sp m sl q ps
  b : Below w.heap.size w W
theorem Begun.set0 {sp m : Nat} {sl : Value} {q : Int} {ps : List (Pg × Nat)} {X : List Nat} {pc : Nat} {w W : World} (h : Begun sp m sl q ps X pc w W) (hX : Regs X) :
    Begun sp m sl q ps (X.set 0 0) pc w (W.setCell ⟨w.heap.size, 0, none⟩ (.int .u64 0)) := by
  refine ⟨h.st.set hX (by decide) 0, ?_, ?_, h.sp.keepSt h.st ((Keep.refl _ _).setCell _ _ (.inr (by simp))), ?_⟩
  · obtain ⟨cs, h1, h2⟩ := h.zs
    exact ⟨cs, h1, (heap_setCell_other _ _ _ _ (by simp)).trans h2⟩
  · exact (heap_setCell_other _ _ _ _ (by simp; omega)).trans h.zf
  · exact ((Keep.of_below (S := []) h.b).setCell _ _ (.inl (Nat.le_refl _))).below (Nat.le_refl _) (by simp)
theorem stCells_size {X : List Nat} (h : Regs X) (pc : Nat) : (stCells X pc).size = 33 := by unfold stCells; simp [h.len]
theorem infoState {X : List Nat} (h : Regs X) (pc : Nat) : (Tryz.prog.info? 36).map (fun x => x.size) = some (stCells X pc).size := by rw [stCells_size h]; kernel_rfl
theorem stCells_one (X : List Nat) (pc : Nat) : ((stCells X pc).all fun x => x.oneCell') = true := by
  unfold stCells
  rw [List.all_toArray, List.all_append, List.all_map]
  simp [Value.oneCell']
theorem results_ctc {P : Program} {fn : Func} {p r s : Tmp} {ty ty' : TypeId} (h : fn.results = #[.cell p ty, .tmp r, .cell s ty']) (tmps : Array Value) (w : World) (g g' : Nat) (t t' : TypeId) (cs cs' : Array Value) (fr fr' : Nat × Nat) (d d' : TypeDesc)
    (hp : tmps.getD p undef = .pointer (some ⟨g, 0, none⟩)) (hp' : tmps.getD s undef = .pointer (some ⟨g', 0, none⟩)) (hg : w.heap[g]? = some (.cells cs t fr)) (hg' : w.heap[g']? = some (.cells cs' t' fr'))
    (hu : P.underlying ty = some d) (hd : (match d with | .struct _ | .array _ _ => true | _ => false) = true) (hi : (P.info? ty).map (·.size) = some cs.size)
    (hu' : P.underlying ty' = some d') (hd' : (match d' with | .struct _ | .array _ _ => true | _ => false) = true) (hi' : (P.info? ty').map (·.size) = some cs'.size) :
    (results fn tmps).run P w = .ok (.tuple #[.agg cs, tmps.getD r undef, .agg cs']) w := by
  have e1 : tmps[p]?.getD undef = .pointer (some ⟨g, 0, none⟩) := by simpa using hp
  have e2 : tmps[s]?.getD undef = .pointer (some ⟨g', 0, none⟩) := by simpa using hp'
  simp [results, h, e1, e2, asAddr, run_loadVar_row w g t ty cs fr d hg hu hd hi, run_loadVar_row w g' t' ty' cs' fr' d' hg' hu' hd' hi']
/-- what a step leaves -/
def StepPost (sp m : Nat) (sl : Value) (q : Int) (ps : List (Pg × Nat)) (M' : List Pg) (X' : List Nat) (pc' : Nat) (ev : Int) (c f : Nat) (w : World) (e : Ending) (w' : World) : Prop :=
  e = .returned (.tuple #[.agg (stCells X' pc'), .int .i64 ev, fltV c f]) ∧ ∃ ps', pgs ps' = M' ∧ blks ps' = blks ps ∧ SpaceIs w' sp m sl q ps' ∧ Keep (blks ps) w w'
theorem step_stored {sp m : Nat} {sl : Value} {q : Int} {ps ps' : List (Pg × Nat)} {M' : List Pg} {w V : World} (hS : SpaceIs w sp m sl q ps) (hM : pgs ps' = M') (hb : blks ps' = blks ps) (hV : SpaceIs V sp m sl q ps') (hk : Keep (blks ps) w V) (cs cs' : Array Value) :
    ∃ ps', pgs ps' = M' ∧ blks ps' = blks ps ∧ SpaceIs ((V.setRow (w.heap.size + 1) cs).setRow (w.heap.size + 1 + 1) cs') sp m sl q ps' ∧ Keep (blks ps) w ((V.setRow (w.heap.size + 1) cs).setRow (w.heap.size + 1 + 1) cs') := by
  have h1 := blk_lt' hS.row
  have h2 := blk_lt' hS.map
  have h3 : ∀ k, w.heap.size ≤ k → k ∉ blks ps' := fun k hk h => by rw [hb] at h; have := hS.lt_blk h; omega
  exact ⟨ps', hM, hb, (hV.row_new (by omega) (by omega) (h3 _ (by omega)) cs).row_new (by omega) (by omega) (h3 _ (by omega)) cs', (hk.setRow _ _ (.inl (by omega))).setRow _ _ (.inl (by omega))⟩
set_option maxHeartbeats 4000000 in
set_option maxRecDepth 100000 in
theorem step_trap (sp m : Nat) (sl : Value) (q : Int) (ps : List (Pg × Nat)) (X : List Nat) (pc : Nat) (w : World) (hS : SpaceIs w sp m sl q ps) (hX : Regs X) (hpc : 1099511627776 ≤ pc) :
    Calls Tryz.prog 13 #[.pointer (some ⟨sp, 0, none⟩), .agg (stCells X pc)] w (StepPost sp m sl q ps (pgs ps) (X.set 0 0) pc 3 0 0 w) := by
  have hpi : (1099511627776 : Int) ≤ pc := by omega
  clear hpc
  have HX := hid (hX.set 0 0 (by decide))
  have HX0 := hid hX
  have HS := hid hS
  clear hX hS
  obtain ⟨st, hst⟩ : ∃ st, stCells X pc = st := ⟨_, rfl⟩
  have Hst := hid hst
  rw [hst]
  clear hst
  go_enter Tryz.func13, Tryz.ntmps13
  go_upto_region 0 with (fail)
  go_cut [3, 4, 5, 6] (fun v3 v4 v5 v6 wc => v3 = .pointer (some ⟨w.heap.size, 0, none⟩) ∧ v4 = .pointer (some ⟨w.heap.size + 1, 0, none⟩) ∧ v5 = .int .i64 0 ∧ v6 = .pointer (some ⟨w.heap.size + 1 + 1, 0, none⟩) ∧ Begun sp m sl q ps X pc w wc)
  case first =>
    go_wp2_with fail
    go_meet
    case rel =>
      have hb := ((((Below.refl w.heap.size w).alloc (Nat.le_refl _) (.cells st 36)).alloc (by simp) (.cells #[.int .u64 0, .int .u64 0, .int .u64 0, .int .u64 0, .int .u64 0, .int .u64 0, .int .u64 0, .int .u64 0, .int .u64 0, .int .u64 0, .int .u64 0, .int .u64 0, .int .u64 0, .int .u64 0, .int .u64 0, .int .u64 0, .int .u64 0, .int .u64 0, .int .u64 0, .int .u64 0, .int .u64 0, .int .u64 0, .int .u64 0, .int .u64 0, .int .u64 0, .int .u64 0, .int .u64 0, .int .u64 0, .int .u64 0, .int .u64 0, .int .u64 0, .int .u64 0, .int .u64 0] 36)).alloc (by simp; omega) (.cells #[.int .i64 0, .int .u64 0, .string ⟨#[]⟩] 31))
      refine ⟨rfl, rfl, rfl, rfl, ⟨?_, ⟨#[.int .u64 0, .int .u64 0, .int .u64 0, .int .u64 0, .int .u64 0, .int .u64 0, .int .u64 0, .int .u64 0, .int .u64 0, .int .u64 0, .int .u64 0, .int .u64 0, .int .u64 0, .int .u64 0, .int .u64 0, .int .u64 0, .int .u64 0, .int .u64 0, .int .u64 0, .int .u64 0, .int .u64 0, .int .u64 0, .int .u64 0, .int .u64 0, .int .u64 0, .int .u64 0, .int .u64 0, .int .u64 0, .int .u64 0, .int .u64 0, .int .u64 0, .int .u64 0, .int .u64 0], rfl, ?_⟩, ?_, HS.out.below hb, hb⟩⟩
      · unfold StIs
        rw [Hst.out, Below.heap_alloc _ _ _ (by simp; omega), Below.heap_alloc _ _ _ (by simp)]
        exact heap_alloc_new _ _
      · rw [Below.heap_alloc _ _ _ (by simp)]
        have := heap_alloc_new (w.alloc (.cells st 36)) (.cells #[.int .u64 0, .int .u64 0, .int .u64 0, .int .u64 0, .int .u64 0, .int .u64 0, .int .u64 0, .int .u64 0, .int .u64 0, .int .u64 0, .int .u64 0, .int .u64 0, .int .u64 0, .int .u64 0, .int .u64 0, .int .u64 0, .int .u64 0, .int .u64 0, .int .u64 0, .int .u64 0, .int .u64 0, .int .u64 0, .int .u64 0, .int .u64 0, .int .u64 0, .int .u64 0, .int .u64 0, .int .u64 0, .int .u64 0, .int .u64 0, .int .u64 0, .int .u64 0, .int .u64 0] 36)
        simpa using this
      · have := heap_alloc_new ((w.alloc (.cells st 36)).alloc (.cells #[.int .u64 0, .int .u64 0, .int .u64 0, .int .u64 0, .int .u64 0, .int .u64 0, .int .u64 0, .int .u64 0, .int .u64 0, .int .u64 0, .int .u64 0, .int .u64 0, .int .u64 0, .int .u64 0, .int .u64 0, .int .u64 0, .int .u64 0, .int .u64 0, .int .u64 0, .int .u64 0, .int .u64 0, .int .u64 0, .int .u64 0, .int .u64 0, .int .u64 0, .int .u64 0, .int .u64 0, .int .u64 0, .int .u64 0, .int .u64 0, .int .u64 0, .int .u64 0, .int .u64 0] 36)) (.cells #[.int .i64 0, .int .u64 0, .string ⟨#[]⟩] 31)
        simpa using this
  obtain ⟨rfl, rfl, rfl, rfl, hbg⟩ := hcut
  have Hbg := hid hbg
  clear hbg
  have c0 := Hbg.out.st.cell HX0.out (show 0 < 32 by decide)
  have fz := frozen_of_row wc _ 0 _ _ Hbg.out.st
  go_upto_region 1 with (fail)
  go_cut [15, 16] (fun v15 v16 W => Begun sp m sl q ps (X.set 0 0) pc w W)
  case first =>
    go_wp2_with fail
    go_meet
    case rel => exact Hbg.out.set0 HX0.out
  have HB := hid hcut
  clear hcut
  have cp := HB.out.st.cellPc HX.out
  obtain ⟨zc, hz1, hz2⟩ := HB.out.zs
  have Hz1 := hid hz1
  have Hz2 := hid hz2
  clear hz1 hz2
  have Z1 := hid (setRow_heap _ _ _ (stCells (X.set 0 0) pc) _ _ Hz2.out)
  have Z2 := hid ((setRow_other wc (w.heap.size + 1) (w.heap.size + 1 + 1) (stCells (X.set 0 0) pc) (by omega)).trans HB.out.zf)
  go_upto_region 3 with (fail)
  apply wp_region_lit
  refine wpList_load_row rfl 36 (.tmp 3) rfl w.heap.size rfl 36 (stCells (X.set 0 0) pc) (0, 0) _ HB.out.st Tryz.underlying36 rfl (infoState HX.out pc) ?_
  refine wpList_build rfl 31 #[] rfl (by kernel_rfl) ?_
  refine wpList_store_row rfl 36 (.tmp 4) (.tmp 20) rfl (w.heap.size + 1) (stCells (X.set 0 0) pc) rfl rfl 36 zc Hz2.out (infoState HX.out pc) (Hz1.out.trans (stCells_size HX.out pc).symm) (stCells_one _ _) ?_
  go_wp2_with (refine wpList_store_row rfl 31 (.tmp 6) (.tmp 21) rfl (w.heap.size + 1 + 1) #[.int .i64 0, .int .u64 0, .string ⟨#[]⟩] rfl rfl 31 _ Z2.out infoFault rfl (faultRow_one ..) ?_)
  have W1 : ((wc.setRow (w.heap.size + 1) (stCells (X.set 0 0) pc)).setRow (w.heap.size + 1 + 1) #[.int .i64 0, .int .u64 0, .string ⟨#[]⟩]).heap[w.heap.size + 1]? = some (.cells (stCells (X.set 0 0) pc) 36 (0, 0)) := (setRow_other _ _ _ _ (by omega)).trans Z1.out
  refine bodyPost_ret (results_ctc rfl _ _ (w.heap.size + 1) (w.heap.size + 1 + 1) 36 31 (stCells (X.set 0 0) pc) #[.int .i64 0, .int .u64 0, .string ⟨#[]⟩] (0, 0) (0, 0) _ _ rfl rfl W1 (setRow_heap _ _ _ _ _ _ Z2.out) Tryz.underlying36 rfl (infoState HX.out pc) Tryz.underlying31 rfl infoFault) rfl ?_
  exact ⟨rfl, step_stored HS.out rfl rfl HB.out.sp (Keep.of_below HB.out.b) _ _⟩
end
end Go.Proofs.YtiemingpbommeaaGreatDoor
