/- The processor: one step, an instruction that goes elsewhere. -/
import Derived.Test.YtiemingpbommeaaGreatDoorGj
namespace Go.Proofs.YtiemingpbommeaaGreatDoor
open Go Go.RowKit
noncomputable section
set_option linter.unusedVariables false
set_option linter.unusedSimpArgs false
theorem wpList_val {P : Program} {ops : Array Oper} {rest : List Oper} {o : Oper} {a : Act} {w w' : World} {Q : Exit → Act → World → Prop} (v : Value) (hg : o.guard = none) (hr : (execOp a.eval o).run P w = .ok (.value v) w')
    (h : wpList P ops Q rest (a.put o.dst v) w') : wpList P ops Q (o :: rest) a w :=
  wpList_plain hg fun K hK => by
    show o.upon P a K Q _
    rw [hr]
    exact hK _ _ h
def zst : Array Value := #[.int .u64 0, .int .u64 0, .int .u64 0, .int .u64 0, .int .u64 0, .int .u64 0, .int .u64 0, .int .u64 0, .int .u64 0, .int .u64 0, .int .u64 0, .int .u64 0, .int .u64 0, .int .u64 0, .int .u64 0, .int .u64 0, .int .u64 0, .int .u64 0, .int .u64 0, .int .u64 0, .int .u64 0, .int .u64 0, .int .u64 0, .int .u64 0, .int .u64 0, .int .u64 0, .int .u64 0, .int .u64 0, .int .u64 0, .int .u64 0, .int .u64 0, .int .u64 0, .int .u64 0]
theorem goes_any (g : Nat) (X : List Nat) (pc : Nat) (o : Int) (d a b : Nat) (n : Int) (w : World) (hT : StIs w g X pc) (hX : Regs X) (hd : d < 32) (ha : a < 32) (hb : b < 32) :
    Calls Tryz.prog 34 #[.pointer (some ⟨g, 0, none⟩), .agg (instCells o d a b n)] w (GoesPost g (goesN X pc o d a b n) w) := by
  unfold goesN
  split
  · rename_i h; subst h; exact goes_jal g X pc d a b n w hT hX hd ha hb
  · split
    · rename_i h; subst h; exact goes_jalr g X pc d a b n w hT hX hd ha hb
    · split
      · rename_i h; exact goes_branch g X pc o d a b n w hT hX hd ha hb h
      · exact goes_none g X pc o d a b n w hT hX hd ha hb (by omega)
theorem goes_of (g : Nat) (X : List Nat) (pc : Nat) (o : Int) (d a b : Nat) (n : Int) (X' : List Nat) (pc' c f : Nat) (went : Bool) (h : goesN X pc o d a b n = ((X', pc', c, f), went)) (w : World) (hT : StIs w g X pc) (hX : Regs X) (hd : d < 32) (ha : a < 32) (hb : b < 32) :
    Calls Tryz.prog 34 #[.pointer (some ⟨g, 0, none⟩), .agg #[.int .i64 o, .int .i64 d, .int .i64 a, .int .i64 b, .int .i64 n]] w fun e w' => e = .returned (.tuple #[fltV c f, .bool went]) ∧ StIs w' g X' pc' ∧ Keep [g] w w' := by
  have h1 := goes_any g X pc o d a b n w hT hX hd ha hb
  unfold GoesPost at h1
  rw [h] at h1
  exact h1
/-- behind what may have changed the state -/
structure Gone (sp m : Nat) (sl : Value) (q : Int) (ps : List (Pg × Nat)) (M' : List Pg) (X : List Nat) (pc : Nat) (w W : World) : Prop where
  st : StIs W w.heap.size X pc
  zs : ∃ cs, cs.size = 33 ∧ W.heap[w.heap.size + 1]? = some (.cells cs 36 (0, 0))
  zf : W.heap[w.heap.size + 1 + 1]? = some (.cells #[.int .i64 0, .int .u64 0, .string ⟨#[]⟩] 31 (0, 0))
  sp : ∃ ps', pgs ps' = M' ∧ blks ps' = blks ps ∧ SpaceIs W sp m sl q ps'
  k : Keep (blks ps) w W
theorem Gone.below {sp m : Nat} {sl : Value} {q : Int} {ps : List (Pg × Nat)} {M' : List Pg} {X : List Nat} {pc : Nat} {w W W' : World} (h : Gone sp m sl q ps M' X pc w W) (hb : Below W.heap.size W W') : Gone sp m sl q ps M' X pc w W' := by
  refine ⟨h.st.below hb, ?_, (hb.block _ (blk_lt' h.zf)).trans h.zf, ?_, h.k.trans (Keep.of_below hb)⟩
  · obtain ⟨cs, h1, h2⟩ := h.zs
    exact ⟨cs, h1, (hb.block _ (blk_lt' h2)).trans h2⟩
  · obtain ⟨ps', h1, h2, h3⟩ := h.sp
    exact ⟨ps', h1, h2, h3.below hb⟩
theorem Begun.gone {sp m : Nat} {sl : Value} {q : Int} {ps : List (Pg × Nat)} {X X' : List Nat} {pc pc' : Nat} {w W W' : World} (h : Begun sp m sl q ps X pc w W) (hst : StIs W' w.heap.size X' pc') (hk : Keep [w.heap.size] W W') : Gone sp m sl q ps (pgs ps) X' pc' w W' := by
  refine ⟨hst, ?_, hk.row h.zf (by simp; omega), ⟨ps, rfl, rfl, h.sp.keepSt h.st hk⟩, ?_⟩
  · obtain ⟨cs, h1, h2⟩ := h.zs
    exact ⟨cs, h1, hk.row h2 (by simp)⟩
  · exact ((Keep.of_below (S := [w.heap.size]) h.b).trans hk).old (by intro k hk hlt; simp at hk; omega)
set_option maxHeartbeats 4000000 in
set_option maxRecDepth 100000 in
theorem step_jumped (sp m : Nat) (sl : Value) (q : Int) (ps : List (Pg × Nat)) (X : List Nat) (pc : Nat) (w : World) (hS : SpaceIs w sp m sl q ps) (hX : Regs X) (hpc : pc < 1099511627776)
    (v f : Nat) (hf : fetchN (pgs ps) pc = (v, 0, f)) (o : Int) (d a b : Nat) (n : Int) (ok : Bool) (hdec : decN v = ((o, (d : Int), (a : Int), (b : Int), n), ok)) (hok : ok = true) (hd : d < 32) (ha : a < 32) (hb : b < 32)
    (X' : List Nat) (pc' gc gf : Nat) (went : Bool) (hgo : goesN (X.set 0 0) pc o d a b n = ((X', pc', gc, gf), went)) (hw : went = true) (hgc : gc = 0) (hX' : Regs X') :
    Calls Tryz.prog 13 #[.pointer (some ⟨sp, 0, none⟩), .agg (stCells X pc)] w (StepPost sp m sl q ps (pgs ps) X' pc' 0 0 0 w) := by
  have Hw := hid hw
  have Hgc := hid hgc
  have HX' := hid hX'
  clear hw hgc hX'
  have Hok := hid hok
  have Hg := hid hgo
  have Hdl := hid hd
  have Hal := hid ha
  have Hbl := hid hb
  clear hok hgo hd ha hb
  have Hf := hid hf
  have Hd := hid hdec
  have Hv : Hid (v < 4294967296) := hid (by have := fetchN_lt (pgs ps) pc; rw [hf] at this; exact this)
  obtain ⟨c, hc⟩ : ∃ c : Nat, c = 0 := ⟨_, rfl⟩
  rw [← hc] at Hf
  have Hc := hid hc
  clear hf hdec hc
  have hpi : ¬ (1099511627776 : Int) ≤ pc := by omega
  have hp64 : Hid (pc < 18446744073709551616) := hid (by omega)
  clear hpc
  have HX := hid (hX.set 0 0 (by decide))
  have HX0 := hid hX
  have HS := hid hS
  clear hX hS
  obtain ⟨st, hst⟩ : ∃ st, stCells X pc = st := ⟨_, rfl⟩
  have Hst := hid hst
  rw [hst]
  clear hst
  go_enter Tryz.func13, Tryz.ntmps13
  go_upto_region 0 with (fail)
  go_cut [3, 4, 5, 6] (fun v3 v4 v5 v6 wc => v3 = .pointer (some ⟨w.heap.size, 0, none⟩) ∧ v4 = .pointer (some ⟨w.heap.size + 1, 0, none⟩) ∧ v5 = .int .i64 0 ∧ v6 = .pointer (some ⟨w.heap.size + 1 + 1, 0, none⟩) ∧ Begun sp m sl q ps X pc w wc)
  case first =>
    go_wp2_with fail
    go_meet
    case rel =>
      have hb := ((((Below.refl w.heap.size w).alloc (Nat.le_refl _) (.cells st 36)).alloc (by simp) (.cells #[.int .u64 0, .int .u64 0, .int .u64 0, .int .u64 0, .int .u64 0, .int .u64 0, .int .u64 0, .int .u64 0, .int .u64 0, .int .u64 0, .int .u64 0, .int .u64 0, .int .u64 0, .int .u64 0, .int .u64 0, .int .u64 0, .int .u64 0, .int .u64 0, .int .u64 0, .int .u64 0, .int .u64 0, .int .u64 0, .int .u64 0, .int .u64 0, .int .u64 0, .int .u64 0, .int .u64 0, .int .u64 0, .int .u64 0, .int .u64 0, .int .u64 0, .int .u64 0, .int .u64 0] 36)).alloc (by simp; omega) (.cells #[.int .i64 0, .int .u64 0, .string ⟨#[]⟩] 31))
      refine ⟨rfl, rfl, rfl, rfl, ⟨?_, ⟨#[.int .u64 0, .int .u64 0, .int .u64 0, .int .u64 0, .int .u64 0, .int .u64 0, .int .u64 0, .int .u64 0, .int .u64 0, .int .u64 0, .int .u64 0, .int .u64 0, .int .u64 0, .int .u64 0, .int .u64 0, .int .u64 0, .int .u64 0, .int .u64 0, .int .u64 0, .int .u64 0, .int .u64 0, .int .u64 0, .int .u64 0, .int .u64 0, .int .u64 0, .int .u64 0, .int .u64 0, .int .u64 0, .int .u64 0, .int .u64 0, .int .u64 0, .int .u64 0, .int .u64 0], rfl, ?_⟩, ?_, HS.out.below hb, hb⟩⟩
      · unfold StIs
        rw [Hst.out, Below.heap_alloc _ _ _ (by simp; omega), Below.heap_alloc _ _ _ (by simp)]
        exact heap_alloc_new _ _
      · rw [Below.heap_alloc _ _ _ (by simp)]
        have := heap_alloc_new (w.alloc (.cells st 36)) (.cells #[.int .u64 0, .int .u64 0, .int .u64 0, .int .u64 0, .int .u64 0, .int .u64 0, .int .u64 0, .int .u64 0, .int .u64 0, .int .u64 0, .int .u64 0, .int .u64 0, .int .u64 0, .int .u64 0, .int .u64 0, .int .u64 0, .int .u64 0, .int .u64 0, .int .u64 0, .int .u64 0, .int .u64 0, .int .u64 0, .int .u64 0, .int .u64 0, .int .u64 0, .int .u64 0, .int .u64 0, .int .u64 0, .int .u64 0, .int .u64 0, .int .u64 0, .int .u64 0, .int .u64 0] 36)
        simpa using this
      · have := heap_alloc_new ((w.alloc (.cells st 36)).alloc (.cells #[.int .u64 0, .int .u64 0, .int .u64 0, .int .u64 0, .int .u64 0, .int .u64 0, .int .u64 0, .int .u64 0, .int .u64 0, .int .u64 0, .int .u64 0, .int .u64 0, .int .u64 0, .int .u64 0, .int .u64 0, .int .u64 0, .int .u64 0, .int .u64 0, .int .u64 0, .int .u64 0, .int .u64 0, .int .u64 0, .int .u64 0, .int .u64 0, .int .u64 0, .int .u64 0, .int .u64 0, .int .u64 0, .int .u64 0, .int .u64 0, .int .u64 0, .int .u64 0, .int .u64 0] 36)) (.cells #[.int .i64 0, .int .u64 0, .string ⟨#[]⟩] 31)
        simpa using this
  obtain ⟨rfl, rfl, rfl, rfl, hbg⟩ := hcut
  have Hbg := hid hbg
  clear hbg
  have c0 := Hbg.out.st.cell HX0.out (show 0 < 32 by decide)
  have fz := frozen_of_row wc _ 0 _ _ Hbg.out.st
  go_upto_region 1 with (fail)
  go_cut [15, 16] (fun v15 v16 W => Begun sp m sl q ps (X.set 0 0) pc w W)
  case first =>
    go_wp2_with fail
    go_meet
    case rel => exact Hbg.out.set0 HX0.out
  have HB := hid hcut
  clear hcut
  have cp := HB.out.st.cellPc HX.out
  go_wp2_with fail
  refine (fetch_at sp m sl q ps pc v c f Hf.out _ hp64.out HB.out.sp).mono ?_
  rintro e w1 ⟨rfl, hb1⟩
  have HB1 := hid (HB.out.below hb1)
  clear cp c0 fz hb1 HB Hbg hpi
  go_wp2_with fail
  refine (faultOK_any _ _ _ _).mono ?_
  rintro e V ⟨rfl, hb8⟩
  have S8 : Hid (V.heap[w1.heap.size]? = some (.cells #[.int .i64 c, .int .u64 f, .string ⟨#[]⟩] 31 (0, 0))) := hid ((hb8.block _ (by simp)).trans (heap_alloc_new _ _))
  have HB := hid ((HB1.out.below (((Below.refl _ _).alloc (Nat.le_refl _) _) : Below w1.heap.size w1 (w1.alloc (.cells #[.int .i64 c, .int .u64 f, .string ⟨#[]⟩] 31)))).below hb8)
  have hG8 : w.heap.size + 1 + 1 < w1.heap.size := blk_lt' HB1.out.zf
  clear hb8 HB1
  generalize w1.heap.size = G8 at S8 hG8 ⊢
  obtain ⟨zc, hz1, hz2⟩ := HB.out.zs
  have Hz1 := hid hz1
  have Z29 := hz2
  have Z35 := HB.out.zf
  have ZP := HB.out.st
  have ZS := S8.out
  have HZ29 := hid Z29
  clear hz1 hz2 Z29 Z35 ZP ZS
  have hc1 : ((c : Int) == 0) = true := by rw [Hc.out]; rfl
  rw [hc1]
  clear hc1 S8 hG8
  go_wp2_with fail
  refine (decode_of v o d a b n ok Hd.out _ Hv.out).mono ?_
  rintro e w2 ⟨rfl, hb2⟩
  have HB2 := hid (HB.out.below hb2)
  clear HB Hz1 HZ29 hb2
  obtain ⟨V, hV⟩ : ∃ V, w2.alloc (.cells #[.int .i64 o, .int .i64 d, .int .i64 a, .int .i64 b, .int .i64 n] 44) = V := ⟨_, rfl⟩
  have S9 : Hid (V.heap[w2.heap.size]? = some (.cells #[.int .i64 o, .int .i64 d, .int .i64 a, .int .i64 b, .int .i64 n] 44 (0, 0))) := hid (by rw [← hV]; exact heap_alloc_new _ _)
  have HB := hid (HB2.out.below (W' := V) (by rw [← hV]; exact (Below.refl _ _).alloc (Nat.le_refl _) _))
  have hG9 : w.heap.size + 1 + 1 < w2.heap.size := blk_lt' HB2.out.zf
  have HV := hid hV
  clear hV HB2
  rw [Hok.out]
  go_upto_region 10 with (fail)
  rw [HV.out]
  clear HV
  obtain ⟨V2, hV2, S11, RB⟩ := new_row V (stCells (X.set 0 0) pc) zst 36
  have S11 := hid S11
  have R9 := hid ((RB.block _ (blk_lt' S9.out)).trans S9.out)
  have HB2 := hid (HB.out.below RB)
  apply wp_region_lit
  refine wpList_load_row rfl 36 (.tmp 3) rfl w.heap.size rfl 36 (stCells (X.set 0 0) pc) (0, 0) _ HB.out.st Tryz.underlying36 rfl (infoState HX.out pc) ?_
  refine wpList_val (w' := V.alloc (.cells zst 36)) (.pointer (some ⟨V.heap.size, 0, none⟩)) rfl (by kernel_rfl) ?_
  refine wpList_store_row rfl 36 (.tmp 11) (.tmp 45) rfl V.heap.size (stCells (X.set 0 0) pc) rfl rfl 36 zst (heap_alloc_new _ _) (infoState HX.out pc) (stCells_size HX.out pc).symm (stCells_one _ _) ?_
  rw [hV2]
  have hG9' : w.heap.size < w2.heap.size := by omega
  have hG11 : w2.heap.size < V.heap.size := blk_lt' S9.out
  clear hV2 RB HB S9
  have q0 : V2.cell? ⟨w2.heap.size, 0, none⟩ = some (.int .i64 o) := by rw [cell_of_row V2 _ _ _ _ _ R9.out]; rfl
  have q1 : V2.cell? ⟨w2.heap.size, 1, none⟩ = some (.int .i64 d) := by rw [cell_of_row V2 _ _ _ _ _ R9.out]; rfl
  have q2 : V2.cell? ⟨w2.heap.size, 2, none⟩ = some (.int .i64 a) := by rw [cell_of_row V2 _ _ _ _ _ R9.out]; rfl
  have q3 : V2.cell? ⟨w2.heap.size, 3, none⟩ = some (.int .i64 b) := by rw [cell_of_row V2 _ _ _ _ _ R9.out]; rfl
  have q4 : V2.cell? ⟨w2.heap.size, 4, none⟩ = some (.int .i64 n) := by rw [cell_of_row V2 _ _ _ _ _ R9.out]; rfl
  go_wp2_with fail
  refine (goes_of w.heap.size (X.set 0 0) pc o d a b n X' pc' gc gf went Hg.out _ HB2.out.st HX.out Hdl.out Hal.out Hbl.out).mono ?_
  rintro e w3 ⟨rfl, hst, hkp⟩
  have HG3 := hid (HB2.out.gone hst hkp)
  have P9 := hid (hkp.row R9.out (by simp; omega))
  have P11 := hid (hkp.row S11.out (by simp; omega))
  have hV3 := hkp.size
  have hV2s : w2.heap.size < V.heap.size := hG11
  generalize V.heap.size = G11 at P11 hG11 hV2s S11 ⊢
  clear hst hkp HB2 R9 S11 q0 q1 q2 q3 q4
  obtain ⟨V4, hV4⟩ : ∃ V4, w3.alloc (.cells #[.int .i64 gc, .int .u64 gf, .string ⟨#[]⟩] 31) = V4 := ⟨_, rfl⟩
  have S12 : Hid (V4.heap[w3.heap.size]? = some (.cells #[.int .i64 gc, .int .u64 gf, .string ⟨#[]⟩] 31 (0, 0))) := hid (by rw [← hV4]; exact heap_alloc_new _ _)
  have hb4 : Below w3.heap.size w3 V4 := by rw [← hV4]; exact (Below.refl _ _).alloc (Nat.le_refl _) _
  have HG := hid (HG3.out.below hb4)
  have S9 := hid ((hb4.block _ (blk_lt' P9.out)).trans P9.out)
  have S11 := hid ((hb4.block _ (blk_lt' P11.out)).trans P11.out)
  have hG12 : G11 < w3.heap.size := blk_lt' P11.out
  have HV4 := hid hV4
  clear hV4 hb4 HG3 P9 P11
  rw [Hw.out]
  go_wp2_with fail
  rw [HV4.out]
  clear HV4
  refine (faultOK_any _ _ _ _).mono ?_
  rintro e V ⟨rfl, hb5⟩
  have HG5 := hid (HG.out.below hb5)
  have Q11 := hid ((hb5.block _ (blk_lt' S11.out)).trans S11.out)
  have Q12 := hid ((hb5.block _ (blk_lt' S12.out)).trans S12.out)
  clear HG S9 S11 S12 hb5
  generalize w3.heap.size = G12 at Q12 hG12 ⊢
  obtain ⟨zc, hz1, hz2⟩ := HG5.out.zs
  have Hz1 := hid hz1
  have Hz2 := hid hz2
  obtain ⟨ps', hps', hbk, hsp⟩ := HG5.out.sp
  have Hps' := hid hps'
  have Hbk := hid hbk
  have Hsp := hid hsp
  clear hz1 hz2 hps' hbk hsp
  have hc1 : ((gc : Int) == 0) = true := by rw [Hgc.out]; rfl
  rw [hc1]
  clear hc1
  go_upto_region 15 with (fail)
  have Z1 := hid (setRow_heap _ _ _ (stCells X' pc') _ _ Hz2.out)
  have Z2 := hid ((setRow_other V (w.heap.size + 1) (w.heap.size + 1 + 1) (stCells X' pc') (by omega)).trans HG5.out.zf)
  apply wp_region_lit
  refine wpList_load_row rfl 36 (.tmp 3) rfl w.heap.size rfl 36 (stCells X' pc') (0, 0) _ HG5.out.st Tryz.underlying36 rfl (infoState HX'.out pc') ?_
  refine wpList_build rfl 31 #[] rfl (by kernel_rfl) ?_
  refine wpList_store_row rfl 36 (.tmp 4) (.tmp 57) rfl (w.heap.size + 1) (stCells X' pc') rfl rfl 36 zc Hz2.out (infoState HX'.out pc') (Hz1.out.trans (stCells_size HX'.out pc').symm) (stCells_one _ _) ?_
  go_wp2_with (refine wpList_store_row rfl 31 (.tmp 6) (.tmp 58) rfl (w.heap.size + 1 + 1) #[.int .i64 0, .int .u64 0, .string ⟨#[]⟩] rfl rfl 31 _ Z2.out infoFault rfl (faultRow_one ..) ?_)
  have W1 : ((V.setRow (w.heap.size + 1) (stCells X' pc')).setRow (w.heap.size + 1 + 1) #[.int .i64 0, .int .u64 0, .string ⟨#[]⟩]).heap[w.heap.size + 1]? = some (.cells (stCells X' pc') 36 (0, 0)) := (setRow_other _ _ _ _ (by omega)).trans Z1.out
  refine bodyPost_ret (results_ctc rfl _ _ (w.heap.size + 1) (w.heap.size + 1 + 1) 36 31 (stCells X' pc') #[.int .i64 0, .int .u64 0, .string ⟨#[]⟩] (0, 0) (0, 0) _ _ rfl rfl W1 (setRow_heap _ _ _ _ _ _ Z2.out) Tryz.underlying36 rfl (infoState HX'.out pc') Tryz.underlying31 rfl infoFault) rfl ?_
  exact ⟨rfl, step_stored HS.out Hps'.out Hbk.out Hsp.out HG5.out.k _ _⟩
set_option maxHeartbeats 4000000 in
set_option maxRecDepth 100000 in
theorem step_nojump (sp m : Nat) (sl : Value) (q : Int) (ps : List (Pg × Nat)) (X : List Nat) (pc : Nat) (w : World) (hS : SpaceIs w sp m sl q ps) (hX : Regs X) (hpc : pc < 1099511627776)
    (v f : Nat) (hf : fetchN (pgs ps) pc = (v, 0, f)) (o : Int) (d a b : Nat) (n : Int) (ok : Bool) (hdec : decN v = ((o, (d : Int), (a : Int), (b : Int), n), ok)) (hok : ok = true) (hd : d < 32) (ha : a < 32) (hb : b < 32)
    (X' : List Nat) (pc' gc gf : Nat) (went : Bool) (hgo : goesN (X.set 0 0) pc o d a b n = ((X', pc', gc, gf), went)) (hw : went = true) (hgc : gc ≠ 0) :
    Calls Tryz.prog 13 #[.pointer (some ⟨sp, 0, none⟩), .agg (stCells X pc)] w (StepPost sp m sl q ps (pgs ps) (X.set 0 0) pc 0 gc gf w) := by
  have Hw := hid hw
  have Hgc := hid hgc
  clear hw hgc
  have Hok := hid hok
  have Hg := hid hgo
  have Hdl := hid hd
  have Hal := hid ha
  have Hbl := hid hb
  clear hok hgo hd ha hb
  have Hf := hid hf
  have Hd := hid hdec
  have Hv : Hid (v < 4294967296) := hid (by have := fetchN_lt (pgs ps) pc; rw [hf] at this; exact this)
  obtain ⟨c, hc⟩ : ∃ c : Nat, c = 0 := ⟨_, rfl⟩
  rw [← hc] at Hf
  have Hc := hid hc
  clear hf hdec hc
  have hpi : ¬ (1099511627776 : Int) ≤ pc := by omega
  have hp64 : Hid (pc < 18446744073709551616) := hid (by omega)
  clear hpc
  have HX := hid (hX.set 0 0 (by decide))
  have HX0 := hid hX
  have HS := hid hS
  clear hX hS
  obtain ⟨st, hst⟩ : ∃ st, stCells X pc = st := ⟨_, rfl⟩
  have Hst := hid hst
  rw [hst]
  clear hst
  go_enter Tryz.func13, Tryz.ntmps13
  go_upto_region 0 with (fail)
  go_cut [3, 4, 5, 6] (fun v3 v4 v5 v6 wc => v3 = .pointer (some ⟨w.heap.size, 0, none⟩) ∧ v4 = .pointer (some ⟨w.heap.size + 1, 0, none⟩) ∧ v5 = .int .i64 0 ∧ v6 = .pointer (some ⟨w.heap.size + 1 + 1, 0, none⟩) ∧ Begun sp m sl q ps X pc w wc)
  case first =>
    go_wp2_with fail
    go_meet
    case rel =>
      have hb := ((((Below.refl w.heap.size w).alloc (Nat.le_refl _) (.cells st 36)).alloc (by simp) (.cells #[.int .u64 0, .int .u64 0, .int .u64 0, .int .u64 0, .int .u64 0, .int .u64 0, .int .u64 0, .int .u64 0, .int .u64 0, .int .u64 0, .int .u64 0, .int .u64 0, .int .u64 0, .int .u64 0, .int .u64 0, .int .u64 0, .int .u64 0, .int .u64 0, .int .u64 0, .int .u64 0, .int .u64 0, .int .u64 0, .int .u64 0, .int .u64 0, .int .u64 0, .int .u64 0, .int .u64 0, .int .u64 0, .int .u64 0, .int .u64 0, .int .u64 0, .int .u64 0, .int .u64 0] 36)).alloc (by simp; omega) (.cells #[.int .i64 0, .int .u64 0, .string ⟨#[]⟩] 31))
      refine ⟨rfl, rfl, rfl, rfl, ⟨?_, ⟨#[.int .u64 0, .int .u64 0, .int .u64 0, .int .u64 0, .int .u64 0, .int .u64 0, .int .u64 0, .int .u64 0, .int .u64 0, .int .u64 0, .int .u64 0, .int .u64 0, .int .u64 0, .int .u64 0, .int .u64 0, .int .u64 0, .int .u64 0, .int .u64 0, .int .u64 0, .int .u64 0, .int .u64 0, .int .u64 0, .int .u64 0, .int .u64 0, .int .u64 0, .int .u64 0, .int .u64 0, .int .u64 0, .int .u64 0, .int .u64 0, .int .u64 0, .int .u64 0, .int .u64 0], rfl, ?_⟩, ?_, HS.out.below hb, hb⟩⟩
      · unfold StIs
        rw [Hst.out, Below.heap_alloc _ _ _ (by simp; omega), Below.heap_alloc _ _ _ (by simp)]
        exact heap_alloc_new _ _
      · rw [Below.heap_alloc _ _ _ (by simp)]
        have := heap_alloc_new (w.alloc (.cells st 36)) (.cells #[.int .u64 0, .int .u64 0, .int .u64 0, .int .u64 0, .int .u64 0, .int .u64 0, .int .u64 0, .int .u64 0, .int .u64 0, .int .u64 0, .int .u64 0, .int .u64 0, .int .u64 0, .int .u64 0, .int .u64 0, .int .u64 0, .int .u64 0, .int .u64 0, .int .u64 0, .int .u64 0, .int .u64 0, .int .u64 0, .int .u64 0, .int .u64 0, .int .u64 0, .int .u64 0, .int .u64 0, .int .u64 0, .int .u64 0, .int .u64 0, .int .u64 0, .int .u64 0, .int .u64 0] 36)
        simpa using this
      · have := heap_alloc_new ((w.alloc (.cells st 36)).alloc (.cells #[.int .u64 0, .int .u64 0, .int .u64 0, .int .u64 0, .int .u64 0, .int .u64 0, .int .u64 0, .int .u64 0, .int .u64 0, .int .u64 0, .int .u64 0, .int .u64 0, .int .u64 0, .int .u64 0, .int .u64 0, .int .u64 0, .int .u64 0, .int .u64 0, .int .u64 0, .int .u64 0, .int .u64 0, .int .u64 0, .int .u64 0, .int .u64 0, .int .u64 0, .int .u64 0, .int .u64 0, .int .u64 0, .int .u64 0, .int .u64 0, .int .u64 0, .int .u64 0, .int .u64 0] 36)) (.cells #[.int .i64 0, .int .u64 0, .string ⟨#[]⟩] 31)
        simpa using this
  obtain ⟨rfl, rfl, rfl, rfl, hbg⟩ := hcut
  have Hbg := hid hbg
  clear hbg
  have c0 := Hbg.out.st.cell HX0.out (show 0 < 32 by decide)
  have fz := frozen_of_row wc _ 0 _ _ Hbg.out.st
  go_upto_region 1 with (fail)
  go_cut [15, 16] (fun v15 v16 W => Begun sp m sl q ps (X.set 0 0) pc w W)
  case first =>
    go_wp2_with fail
    go_meet
    case rel => exact Hbg.out.set0 HX0.out
  have HB := hid hcut
  clear hcut
  have cp := HB.out.st.cellPc HX.out
  go_wp2_with fail
  refine (fetch_at sp m sl q ps pc v c f Hf.out _ hp64.out HB.out.sp).mono ?_
  rintro e w1 ⟨rfl, hb1⟩
  have HB1 := hid (HB.out.below hb1)
  clear cp c0 fz hb1 HB Hbg hpi
  go_wp2_with fail
  refine (faultOK_any _ _ _ _).mono ?_
  rintro e V ⟨rfl, hb8⟩
  have S8 : Hid (V.heap[w1.heap.size]? = some (.cells #[.int .i64 c, .int .u64 f, .string ⟨#[]⟩] 31 (0, 0))) := hid ((hb8.block _ (by simp)).trans (heap_alloc_new _ _))
  have HB := hid ((HB1.out.below (((Below.refl _ _).alloc (Nat.le_refl _) _) : Below w1.heap.size w1 (w1.alloc (.cells #[.int .i64 c, .int .u64 f, .string ⟨#[]⟩] 31)))).below hb8)
  have hG8 : w.heap.size + 1 + 1 < w1.heap.size := blk_lt' HB1.out.zf
  clear hb8 HB1
  generalize w1.heap.size = G8 at S8 hG8 ⊢
  obtain ⟨zc, hz1, hz2⟩ := HB.out.zs
  have Hz1 := hid hz1
  have Z29 := hz2
  have Z35 := HB.out.zf
  have ZP := HB.out.st
  have ZS := S8.out
  have HZ29 := hid Z29
  clear hz1 hz2 Z29 Z35 ZP ZS
  have hc1 : ((c : Int) == 0) = true := by rw [Hc.out]; rfl
  rw [hc1]
  clear hc1 S8 hG8
  go_wp2_with fail
  refine (decode_of v o d a b n ok Hd.out _ Hv.out).mono ?_
  rintro e w2 ⟨rfl, hb2⟩
  have HB2 := hid (HB.out.below hb2)
  clear HB Hz1 HZ29 hb2
  obtain ⟨V, hV⟩ : ∃ V, w2.alloc (.cells #[.int .i64 o, .int .i64 d, .int .i64 a, .int .i64 b, .int .i64 n] 44) = V := ⟨_, rfl⟩
  have S9 : Hid (V.heap[w2.heap.size]? = some (.cells #[.int .i64 o, .int .i64 d, .int .i64 a, .int .i64 b, .int .i64 n] 44 (0, 0))) := hid (by rw [← hV]; exact heap_alloc_new _ _)
  have HB := hid (HB2.out.below (W' := V) (by rw [← hV]; exact (Below.refl _ _).alloc (Nat.le_refl _) _))
  have hG9 : w.heap.size + 1 + 1 < w2.heap.size := blk_lt' HB2.out.zf
  have HV := hid hV
  clear hV HB2
  rw [Hok.out]
  go_upto_region 10 with (fail)
  rw [HV.out]
  clear HV
  obtain ⟨V2, hV2, S11, RB⟩ := new_row V (stCells (X.set 0 0) pc) zst 36
  have S11 := hid S11
  have R9 := hid ((RB.block _ (blk_lt' S9.out)).trans S9.out)
  have HB2 := hid (HB.out.below RB)
  apply wp_region_lit
  refine wpList_load_row rfl 36 (.tmp 3) rfl w.heap.size rfl 36 (stCells (X.set 0 0) pc) (0, 0) _ HB.out.st Tryz.underlying36 rfl (infoState HX.out pc) ?_
  refine wpList_val (w' := V.alloc (.cells zst 36)) (.pointer (some ⟨V.heap.size, 0, none⟩)) rfl (by kernel_rfl) ?_
  refine wpList_store_row rfl 36 (.tmp 11) (.tmp 45) rfl V.heap.size (stCells (X.set 0 0) pc) rfl rfl 36 zst (heap_alloc_new _ _) (infoState HX.out pc) (stCells_size HX.out pc).symm (stCells_one _ _) ?_
  rw [hV2]
  have hG9' : w.heap.size < w2.heap.size := by omega
  have hG11 : w2.heap.size < V.heap.size := blk_lt' S9.out
  clear hV2 RB HB S9
  have q0 : V2.cell? ⟨w2.heap.size, 0, none⟩ = some (.int .i64 o) := by rw [cell_of_row V2 _ _ _ _ _ R9.out]; rfl
  have q1 : V2.cell? ⟨w2.heap.size, 1, none⟩ = some (.int .i64 d) := by rw [cell_of_row V2 _ _ _ _ _ R9.out]; rfl
  have q2 : V2.cell? ⟨w2.heap.size, 2, none⟩ = some (.int .i64 a) := by rw [cell_of_row V2 _ _ _ _ _ R9.out]; rfl
  have q3 : V2.cell? ⟨w2.heap.size, 3, none⟩ = some (.int .i64 b) := by rw [cell_of_row V2 _ _ _ _ _ R9.out]; rfl
  have q4 : V2.cell? ⟨w2.heap.size, 4, none⟩ = some (.int .i64 n) := by rw [cell_of_row V2 _ _ _ _ _ R9.out]; rfl
  go_wp2_with fail
  refine (goes_of w.heap.size (X.set 0 0) pc o d a b n X' pc' gc gf went Hg.out _ HB2.out.st HX.out Hdl.out Hal.out Hbl.out).mono ?_
  rintro e w3 ⟨rfl, hst, hkp⟩
  have HG3 := hid (HB2.out.gone hst hkp)
  have P9 := hid (hkp.row R9.out (by simp; omega))
  have P11 := hid (hkp.row S11.out (by simp; omega))
  have hV3 := hkp.size
  have hV2s : w2.heap.size < V.heap.size := hG11
  generalize V.heap.size = G11 at P11 hG11 hV2s S11 ⊢
  clear hst hkp HB2 R9 S11 q0 q1 q2 q3 q4
  obtain ⟨V4, hV4⟩ : ∃ V4, w3.alloc (.cells #[.int .i64 gc, .int .u64 gf, .string ⟨#[]⟩] 31) = V4 := ⟨_, rfl⟩
  have S12 : Hid (V4.heap[w3.heap.size]? = some (.cells #[.int .i64 gc, .int .u64 gf, .string ⟨#[]⟩] 31 (0, 0))) := hid (by rw [← hV4]; exact heap_alloc_new _ _)
  have hb4 : Below w3.heap.size w3 V4 := by rw [← hV4]; exact (Below.refl _ _).alloc (Nat.le_refl _) _
  have HG := hid (HG3.out.below hb4)
  have S9 := hid ((hb4.block _ (blk_lt' P9.out)).trans P9.out)
  have S11 := hid ((hb4.block _ (blk_lt' P11.out)).trans P11.out)
  have hG12 : G11 < w3.heap.size := blk_lt' P11.out
  have HV4 := hid hV4
  clear hV4 hb4 HG3 P9 P11
  rw [Hw.out]
  go_wp2_with fail
  rw [HV4.out]
  clear HV4
  refine (faultOK_any _ _ _ _).mono ?_
  rintro e V ⟨rfl, hb5⟩
  have HG5 := hid (HG.out.below hb5)
  have Q11 := hid ((hb5.block _ (blk_lt' S11.out)).trans S11.out)
  have Q12 := hid ((hb5.block _ (blk_lt' S12.out)).trans S12.out)
  clear HG S9 S11 S12 hb5
  generalize w3.heap.size = G12 at Q12 hG12 ⊢
  obtain ⟨zc, hz1, hz2⟩ := HG5.out.zs
  have Hz1 := hid hz1
  have Hz2 := hid hz2
  obtain ⟨ps', hps', hbk, hsp⟩ := HG5.out.sp
  have Hps' := hid hps'
  have Hbk := hid hbk
  have Hsp := hid hsp
  clear hz1 hz2 hps' hbk hsp
  have hc1 : ((gc : Int) == 0) = false := by have := Hgc.out; simp; omega
  rw [hc1]
  clear hc1
  go_wp2_with fail
  have Z29 := Hz2.out
  have Z35 := HG5.out.zf
  refine wp_region_any (by kernel_rfl) ?_
  change wpAny _ _ _ _ _ _ _ (World.drew V)
  have DP : Hid (V.drew.heap[G11]? = some (.cells (stCells (X.set 0 0) pc) 36 (0, 0))) := hid Q11.out
  have DS : Hid (V.drew.heap[G12]? = some (.cells #[.int .i64 gc, .int .u64 gf, .string ⟨#[]⟩] 31 (0, 0))) := hid Q12.out
  have DZ : Hid (V.drew.heap[w.heap.size + 1]? = some (.cells zc 36 (0, 0))) := hid Z29
  have DF : Hid (V.drew.heap[w.heap.size + 1 + 1]? = some (.cells #[.int .i64 0, .int .u64 0, .string ⟨#[]⟩] 31 (0, 0))) := hid Z35
  have DSP := hid (Hsp.out).drew1
  have DK := hid (HG5.out.k).drew1
  obtain ⟨D, hD⟩ : ∃ D, V.drew = D := ⟨_, rfl⟩
  rw [hD] at DP DS DZ DF DSP DK ⊢
  clear hD
  have ES : Hid ((D.setRow (w.heap.size + 1) (stCells (X.set 0 0) pc)).heap[G12]? = _) := hid ((setRow_other _ _ _ _ (by omega)).trans DS.out)
  have E1 : Hid ((D.setRow (w.heap.size + 1) (stCells (X.set 0 0) pc)).heap[w.heap.size + 1]? = _) := hid (setRow_heap _ _ _ _ _ _ DZ.out)
  have EF : Hid ((D.setRow (w.heap.size + 1) (stCells (X.set 0 0) pc)).heap[w.heap.size + 1 + 1]? = _) := hid ((setRow_other _ _ _ _ (by omega)).trans DF.out)
  have G1 : Hid (((D.setRow (w.heap.size + 1) (stCells (X.set 0 0) pc)).setRow (w.heap.size + 1 + 1) #[.int .i64 gc, .int .u64 gf, .string ⟨#[]⟩]).heap[w.heap.size + 1]? = _) := hid ((setRow_other _ _ _ _ (by omega)).trans E1.out)
  refine any2 (i := 0) (j := 1) (by kernel_rfl) ?_ ?_
  · refine wpOp_val (w' := D) (v := .agg (stCells (X.set 0 0) pc)) rfl rfl (exec_load_row 36 (.tmp 11) rfl (G11) rfl 36 _ (0, 0) _ DP.out Tryz.underlying36 rfl (infoState HX.out pc)) ?_
    simp only [Act.put, List.getElem_toArray, List.getElem_cons_zero, List.getElem_cons_succ, List.setIfInBounds_toArray, List.set_cons_zero, List.set_cons_succ]
    refine any2 (i := 1) (j := 2) (by kernel_rfl) ?_ ?_
    · refine wpOp_val (w' := D) (v := .agg #[.int .i64 gc, .int .u64 gf, .string ⟨#[]⟩]) rfl rfl (exec_load_row 31 (.tmp 12) rfl (G12) rfl 31 _ (0, 0) _ DS.out Tryz.underlying31 rfl infoFault) ?_
      simp only [Act.put, List.getElem_toArray, List.getElem_cons_zero, List.getElem_cons_succ, List.setIfInBounds_toArray, List.set_cons_zero, List.set_cons_succ]
      refine any1 (i := 2) (by kernel_rfl) ?_
      refine wpOp_store_row rfl rfl 36 (.tmp 4) (.tmp 55) rfl (w.heap.size + 1) (stCells (X.set 0 0) pc) rfl rfl 36 zc DZ.out (infoState HX.out pc) (Hz1.out.trans (stCells_size HX.out _).symm) (stCells_one _ _) ?_
      simp only [Act.put, List.getElem_toArray, List.getElem_cons_zero, List.getElem_cons_succ, List.setIfInBounds_toArray, List.set_cons_zero, List.set_cons_succ]
      refine any1 (i := 3) (by kernel_rfl) ?_
      refine wpOp_val (w' := (D.setRow (w.heap.size + 1) (stCells (X.set 0 0) pc))) (v := .int .i64 0) rfl rfl (by kernel_rfl) ?_
      simp only [Act.put, List.getElem_toArray, List.getElem_cons_zero, List.getElem_cons_succ, List.setIfInBounds_toArray, List.set_cons_zero, List.set_cons_succ]
      refine any1 (i := 4) (by kernel_rfl) ?_
      refine wpOp_store_row rfl rfl 31 (.tmp 6) (.tmp 56) rfl (w.heap.size + 1 + 1) #[.int .i64 gc, .int .u64 gf, .string ⟨#[]⟩] rfl rfl 31 _ EF.out infoFault rfl (faultRow_one ..) ?_
      simp only [Act.put, List.getElem_toArray, List.getElem_cons_zero, List.getElem_cons_succ, List.setIfInBounds_toArray, List.set_cons_zero, List.set_cons_succ]
      refine ⟨by kernel_rfl, ?_⟩
      go_wp2_with fail
      refine bodyPost_ret (results_ctc rfl _ _ (w.heap.size + 1) (w.heap.size + 1 + 1) 36 31 (stCells (X.set 0 0) pc) #[.int .i64 gc, .int .u64 gf, .string ⟨#[]⟩] (0, 0) (0, 0) _ _ rfl rfl G1.out (setRow_heap _ _ _ _ _ _ EF.out) Tryz.underlying36 rfl (infoState HX.out pc) Tryz.underlying31 rfl infoFault) rfl ?_
      exact ⟨rfl, step_stored HS.out Hps'.out Hbk.out DSP.out DK.out _ _⟩
    · refine wpOp_store_row rfl rfl 36 (.tmp 4) (.tmp 55) rfl (w.heap.size + 1) (stCells (X.set 0 0) pc) rfl rfl 36 zc DZ.out (infoState HX.out pc) (Hz1.out.trans (stCells_size HX.out _).symm) (stCells_one _ _) ?_
      simp only [Act.put, List.getElem_toArray, List.getElem_cons_zero, List.getElem_cons_succ, List.setIfInBounds_toArray, List.set_cons_zero, List.set_cons_succ]
      refine any2 (i := 1) (j := 3) (by kernel_rfl) ?_ ?_
      · refine wpOp_val (w' := (D.setRow (w.heap.size + 1) (stCells (X.set 0 0) pc))) (v := .agg #[.int .i64 gc, .int .u64 gf, .string ⟨#[]⟩]) rfl rfl (exec_load_row 31 (.tmp 12) rfl (G12) rfl 31 _ (0, 0) _ ES.out Tryz.underlying31 rfl infoFault) ?_
        simp only [Act.put, List.getElem_toArray, List.getElem_cons_zero, List.getElem_cons_succ, List.setIfInBounds_toArray, List.set_cons_zero, List.set_cons_succ]
        refine any1 (i := 3) (by kernel_rfl) ?_
        refine wpOp_val (w' := (D.setRow (w.heap.size + 1) (stCells (X.set 0 0) pc))) (v := .int .i64 0) rfl rfl (by kernel_rfl) ?_
        simp only [Act.put, List.getElem_toArray, List.getElem_cons_zero, List.getElem_cons_succ, List.setIfInBounds_toArray, List.set_cons_zero, List.set_cons_succ]
        refine any1 (i := 4) (by kernel_rfl) ?_
        refine wpOp_store_row rfl rfl 31 (.tmp 6) (.tmp 56) rfl (w.heap.size + 1 + 1) #[.int .i64 gc, .int .u64 gf, .string ⟨#[]⟩] rfl rfl 31 _ EF.out infoFault rfl (faultRow_one ..) ?_
        simp only [Act.put, List.getElem_toArray, List.getElem_cons_zero, List.getElem_cons_succ, List.setIfInBounds_toArray, List.set_cons_zero, List.set_cons_succ]
        refine ⟨by kernel_rfl, ?_⟩
        go_wp2_with fail
        refine bodyPost_ret (results_ctc rfl _ _ (w.heap.size + 1) (w.heap.size + 1 + 1) 36 31 (stCells (X.set 0 0) pc) #[.int .i64 gc, .int .u64 gf, .string ⟨#[]⟩] (0, 0) (0, 0) _ _ rfl rfl G1.out (setRow_heap _ _ _ _ _ _ EF.out) Tryz.underlying36 rfl (infoState HX.out pc) Tryz.underlying31 rfl infoFault) rfl ?_
        exact ⟨rfl, step_stored HS.out Hps'.out Hbk.out DSP.out DK.out _ _⟩
      · refine wpOp_val (w' := (D.setRow (w.heap.size + 1) (stCells (X.set 0 0) pc))) (v := .int .i64 0) rfl rfl (by kernel_rfl) ?_
        simp only [Act.put, List.getElem_toArray, List.getElem_cons_zero, List.getElem_cons_succ, List.setIfInBounds_toArray, List.set_cons_zero, List.set_cons_succ]
        refine any1 (i := 1) (by kernel_rfl) ?_
        refine wpOp_val (w' := (D.setRow (w.heap.size + 1) (stCells (X.set 0 0) pc))) (v := .agg #[.int .i64 gc, .int .u64 gf, .string ⟨#[]⟩]) rfl rfl (exec_load_row 31 (.tmp 12) rfl (G12) rfl 31 _ (0, 0) _ ES.out Tryz.underlying31 rfl infoFault) ?_
        simp only [Act.put, List.getElem_toArray, List.getElem_cons_zero, List.getElem_cons_succ, List.setIfInBounds_toArray, List.set_cons_zero, List.set_cons_succ]
        refine any1 (i := 4) (by kernel_rfl) ?_
        refine wpOp_store_row rfl rfl 31 (.tmp 6) (.tmp 56) rfl (w.heap.size + 1 + 1) #[.int .i64 gc, .int .u64 gf, .string ⟨#[]⟩] rfl rfl 31 _ EF.out infoFault rfl (faultRow_one ..) ?_
        simp only [Act.put, List.getElem_toArray, List.getElem_cons_zero, List.getElem_cons_succ, List.setIfInBounds_toArray, List.set_cons_zero, List.set_cons_succ]
        refine ⟨by kernel_rfl, ?_⟩
        go_wp2_with fail
        refine bodyPost_ret (results_ctc rfl _ _ (w.heap.size + 1) (w.heap.size + 1 + 1) 36 31 (stCells (X.set 0 0) pc) #[.int .i64 gc, .int .u64 gf, .string ⟨#[]⟩] (0, 0) (0, 0) _ _ rfl rfl G1.out (setRow_heap _ _ _ _ _ _ EF.out) Tryz.underlying36 rfl (infoState HX.out pc) Tryz.underlying31 rfl infoFault) rfl ?_
        exact ⟨rfl, step_stored HS.out Hps'.out Hbk.out DSP.out DK.out _ _⟩
  · refine wpOp_val (w' := D) (v := .agg #[.int .i64 gc, .int .u64 gf, .string ⟨#[]⟩]) rfl rfl (exec_load_row 31 (.tmp 12) rfl (G12) rfl 31 _ (0, 0) _ DS.out Tryz.underlying31 rfl infoFault) ?_
    simp only [Act.put, List.getElem_toArray, List.getElem_cons_zero, List.getElem_cons_succ, List.setIfInBounds_toArray, List.set_cons_zero, List.set_cons_succ]
    refine any1 (i := 0) (by kernel_rfl) ?_
    refine wpOp_val (w' := D) (v := .agg (stCells (X.set 0 0) pc)) rfl rfl (exec_load_row 36 (.tmp 11) rfl (G11) rfl 36 _ (0, 0) _ DP.out Tryz.underlying36 rfl (infoState HX.out pc)) ?_
    simp only [Act.put, List.getElem_toArray, List.getElem_cons_zero, List.getElem_cons_succ, List.setIfInBounds_toArray, List.set_cons_zero, List.set_cons_succ]
    refine any1 (i := 2) (by kernel_rfl) ?_
    refine wpOp_store_row rfl rfl 36 (.tmp 4) (.tmp 55) rfl (w.heap.size + 1) (stCells (X.set 0 0) pc) rfl rfl 36 zc DZ.out (infoState HX.out pc) (Hz1.out.trans (stCells_size HX.out _).symm) (stCells_one _ _) ?_
    simp only [Act.put, List.getElem_toArray, List.getElem_cons_zero, List.getElem_cons_succ, List.setIfInBounds_toArray, List.set_cons_zero, List.set_cons_succ]
    refine any1 (i := 3) (by kernel_rfl) ?_
    refine wpOp_val (w' := (D.setRow (w.heap.size + 1) (stCells (X.set 0 0) pc))) (v := .int .i64 0) rfl rfl (by kernel_rfl) ?_
    simp only [Act.put, List.getElem_toArray, List.getElem_cons_zero, List.getElem_cons_succ, List.setIfInBounds_toArray, List.set_cons_zero, List.set_cons_succ]
    refine any1 (i := 4) (by kernel_rfl) ?_
    refine wpOp_store_row rfl rfl 31 (.tmp 6) (.tmp 56) rfl (w.heap.size + 1 + 1) #[.int .i64 gc, .int .u64 gf, .string ⟨#[]⟩] rfl rfl 31 _ EF.out infoFault rfl (faultRow_one ..) ?_
    simp only [Act.put, List.getElem_toArray, List.getElem_cons_zero, List.getElem_cons_succ, List.setIfInBounds_toArray, List.set_cons_zero, List.set_cons_succ]
    refine ⟨by kernel_rfl, ?_⟩
    go_wp2_with fail
    refine bodyPost_ret (results_ctc rfl _ _ (w.heap.size + 1) (w.heap.size + 1 + 1) 36 31 (stCells (X.set 0 0) pc) #[.int .i64 gc, .int .u64 gf, .string ⟨#[]⟩] (0, 0) (0, 0) _ _ rfl rfl G1.out (setRow_heap _ _ _ _ _ _ EF.out) Tryz.underlying36 rfl (infoState HX.out pc) Tryz.underlying31 rfl infoFault) rfl ?_
    exact ⟨rfl, step_stored HS.out Hps'.out Hbk.out DSP.out DK.out _ _⟩
end
end Go.Proofs.YtiemingpbommeaaGreatDoor
