/- The processor: one step, an instruction behind which the next one comes. -/
import Derived.Test.YtiemingpbommeaaGreatDoorGk
namespace Go.Proofs.YtiemingpbommeaaGreatDoor
open Go Go.RowKit
noncomputable section
set_option linter.unusedVariables false
set_option linter.unusedSimpArgs false
/-- what an instruction does behind which the next one comes: the space, the registers, the fault's number and address -/
def doR (M : List Pg) (X : List Nat) (pc : Nat) (o : Int) (d a b : Nat) (n : Int) : List Pg × List Nat × Nat × Nat :=
  if o = 0 then (M, setR X d (u64N n), 0, 0)
  else if o = 1 then (M, setR X d (adr pc (u64N n)), 0, 0)
  else if 10 ≤ o ∧ o ≤ 16 then (M, (if (loadN M (adr (getR X a) (u64N n)) (widthN o).1).2.1 = 0 then setR X d (if (widthN o).2 then extendN (loadN M (adr (getR X a) (u64N n)) (widthN o).1).1 (8 * (widthN o).1) else (loadN M (adr (getR X a) (u64N n)) (widthN o).1).1) else X), (loadN M (adr (getR X a) (u64N n)) (widthN o).1).2.1, (loadN M (adr (getR X a) (u64N n)) (widthN o).1).2.2)
  else if 17 ≤ o ∧ o ≤ 20 then ((storeN M (adr (getR X a) (u64N n)) (getR X b) (widthN o).1).1, X, (storeN M (adr (getR X a) (u64N n)) (getR X b) (widthN o).1).2.1, (storeN M (adr (getR X a) (u64N n)) (getR X b) (widthN o).1).2.2)
  else if o = 62 ∨ o = 63 then (M, X, 0, 0)
  else (M, setR X d (doN (operN o) (getR X a) (if letterI o = 82 then getR X b else u64N n)), 0, 0)
/-- what lies among the globals -/
structure Low (w : World) (bs : List Nat) : Prop where
  names : NamesAt w
  max : MaxAt w
  sz : 2 < w.heap.size
  lo : ∀ b ∈ bs, 2 < b
theorem Low.keep {w w' : World} {bs : List Nat} (h : Low w bs) (hk : Keep bs w w') : Low w' bs := by
  have h0 := h.sz
  have n0 : 0 ∉ bs := fun hm => by have := h.lo _ hm; omega
  have n2 : 1 ∉ bs := fun hm => by have := h.lo _ hm; omega
  refine ⟨fun i hi => (World.cell?_of_block (hk.block 0 (by omega) n0)).trans (h.names i hi), ?_, Nat.lt_of_lt_of_le h0 hk.size, h.lo⟩
  obtain ⟨m, hm⟩ := h.max
  exact ⟨m, (World.cell?_of_block (hk.block 1 (by omega) n2)).trans hm⟩
theorem do_of (sp m : Nat) (sl : Value) (q : Int) (ps : List (Pg × Nat)) (g : Nat) (X : List Nat) (pc : Nat) (d a b : Nat) (n : Int) (w : World) (hS : SpaceIs w sp m sl q ps) (hT : StIs w g X pc) (hX : Regs X) (hd : d < 32) (ha : a < 32) (hb : b < 32) (o : Int) (hL : Low w (blks ps))
    (M' : List Pg) (X' : List Nat) (c f : Nat) (h : doR (pgs ps) X pc o d a b n = (M', X', c, f)) :
    Calls Tryz.prog 35 #[.pointer (some ⟨g, 0, none⟩), .pointer (some ⟨sp, 0, none⟩), .agg #[.int .i64 o, .int .i64 d, .int .i64 a, .int .i64 b, .int .i64 n]] w (DoPost sp m sl q ps g (M', X', c, f) pc w) := by
  rw [← h]
  unfold doR
  split
  · rename_i h; subst h; exact do_lui sp m sl q ps g X pc d a b n w hS hT hX hd ha hb
  · split
    · rename_i h; subst h; exact do_auipc sp m sl q ps g X pc d a b n w hS hT hX hd ha hb
    · split
      · rename_i h; exact do_load sp m sl q ps g X pc d a b n w hS hT hX hd ha hb o h
      · split
        · rename_i h; exact do_store sp m sl q ps g X pc d a b n w hS hT hX hd ha hb o h
        · split
          · rename_i h; exact do_none sp m sl q ps g X pc d a b n w hS hT hX hd ha hb o h
          · exact do_alu sp m sl q ps g X pc d a b n w hS hT hX hd ha hb o (by omega) hL.names hL.max hL.sz
theorem Gone.did {sp m : Nat} {sl : Value} {q : Int} {ps : List (Pg × Nat)} {M M' : List Pg} {X X' : List Nat} {pc : Nat} {w W W' : World} (hS : SpaceIs w sp m sl q ps) (h : Gone sp m sl q ps M X pc w W) {ps' : List (Pg × Nat)} (hb : blks ps' = blks ps)
    (hsp : ∃ ps'', pgs ps'' = M' ∧ blks ps'' = blks ps' ∧ SpaceIs W' sp m sl q ps'') (hst : StIs W' w.heap.size X' pc) (hk : Keep (w.heap.size :: blks ps') W W') : Gone sp m sl q ps M' X' pc w W' := by
  rw [hb] at hk hsp
  have hn : ∀ k, w.heap.size < k → k ∉ w.heap.size :: blks ps := fun k hk h => by
    rcases List.mem_cons.1 h with rfl | h
    · omega
    · have := hS.lt_blk h; omega
  refine ⟨hst, ?_, hk.row h.zf (hn _ (by omega)), hsp, ?_⟩
  · obtain ⟨cs, h1, h2⟩ := h.zs
    exact ⟨cs, h1, hk.row h2 (hn _ (by omega))⟩
  · exact ((h.k.mono (T := w.heap.size :: blks ps) (by intro k hk; exact List.mem_cons_of_mem _ hk)).trans hk).old (by
      intro k hk hlt
      rcases List.mem_cons.1 hk with rfl | hk
      · omega
      · exact hk)
theorem Gone.setPc {sp m : Nat} {sl : Value} {q : Int} {ps : List (Pg × Nat)} {M : List Pg} {X : List Nat} {pc : Nat} {w W : World} (hS : SpaceIs w sp m sl q ps) (h : Gone sp m sl q ps M X pc w W) (hX : Regs X) (t : Nat) :
    Gone sp m sl q ps M X t w (W.setCell ⟨w.heap.size, 32, none⟩ (.int .u64 t)) := by
  have hk : Keep [w.heap.size] W (W.setCell ⟨w.heap.size, 32, none⟩ (.int .u64 t)) := (Keep.refl _ _).setCell _ _ (.inr (by simp))
  refine ⟨h.st.setPc hX t, ?_, hk.row h.zf (by simp; omega), ?_, h.k.setCell _ _ (.inl (Nat.le_refl _))⟩
  · obtain ⟨cs, h1, h2⟩ := h.zs
    exact ⟨cs, h1, hk.row h2 (by simp)⟩
  · obtain ⟨ps', h1, h2, h3⟩ := h.sp
    exact ⟨ps', h1, h2, h3.keepSt h.st hk⟩
set_option maxHeartbeats 4000000 in
set_option maxRecDepth 100000 in
theorem step_undone (sp m : Nat) (sl : Value) (q : Int) (ps : List (Pg × Nat)) (X : List Nat) (pc : Nat) (w : World) (hS : SpaceIs w sp m sl q ps) (hX : Regs X) (hpc : pc < 1099511627776) (hL : Low w (blks ps))
    (v f : Nat) (hf : fetchN (pgs ps) pc = (v, 0, f)) (o : Int) (d a b : Nat) (n : Int) (ok : Bool) (hdec : decN v = ((o, (d : Int), (a : Int), (b : Int), n), ok)) (hok : ok = true) (hd : d < 32) (ha : a < 32) (hb : b < 32)
    (X' : List Nat) (pc' gc gf : Nat) (went : Bool) (hgo : goesN (X.set 0 0) pc o d a b n = ((X', pc', gc, gf), went)) (hw : went = false) (hX1 : X' = X.set 0 0) (hpc1 : pc = pc')
    (M' : List Pg) (X2 : List Nat) (dc df : Nat) (hdo : doR (pgs ps) (X.set 0 0) pc o d a b n = (M', X2, dc, df)) (hdc : dc ≠ 0) :
    Calls Tryz.prog 13 #[.pointer (some ⟨sp, 0, none⟩), .agg (stCells X pc)] w (StepPost sp m sl q ps M' (X.set 0 0) pc 0 dc df w) := by
  have Hdc := hid hdc
  clear hdc
  have Hw := hid hw
  have HX1 := hid hX1
  have Hpc1 := hid hpc1
  have HL := hid hL
  have Hdo := hid hdo
  clear hw hX1 hpc1 hL hdo
  have Hok := hid hok
  have Hg := hid hgo
  have Hdl := hid hd
  have Hal := hid ha
  have Hbl := hid hb
  clear hok hgo hd ha hb
  have Hf := hid hf
  have Hd := hid hdec
  have Hv : Hid (v < 4294967296) := hid (by have := fetchN_lt (pgs ps) pc; rw [hf] at this; exact this)
  obtain ⟨c, hc⟩ : ∃ c : Nat, c = 0 := ⟨_, rfl⟩
  rw [← hc] at Hf
  have Hc := hid hc
  clear hf hdec hc
  have hpi : ¬ (1099511627776 : Int) ≤ pc := by omega
  have hp64 : Hid (pc < 18446744073709551616) := hid (by omega)
  clear hpc
  have HX := hid (hX.set 0 0 (by decide))
  have HX0 := hid hX
  have HS := hid hS
  clear hX hS
  obtain ⟨st, hst⟩ : ∃ st, stCells X pc = st := ⟨_, rfl⟩
  have Hst := hid hst
  rw [hst]
  clear hst
  go_enter Tryz.func13, Tryz.ntmps13
  go_upto_region 0 with (fail)
  go_cut [3, 4, 5, 6] (fun v3 v4 v5 v6 wc => v3 = .pointer (some ⟨w.heap.size, 0, none⟩) ∧ v4 = .pointer (some ⟨w.heap.size + 1, 0, none⟩) ∧ v5 = .int .i64 0 ∧ v6 = .pointer (some ⟨w.heap.size + 1 + 1, 0, none⟩) ∧ Begun sp m sl q ps X pc w wc)
  case first =>
    go_wp2_with fail
    go_meet
    case rel =>
      have hb := ((((Below.refl w.heap.size w).alloc (Nat.le_refl _) (.cells st 36)).alloc (by simp) (.cells #[.int .u64 0, .int .u64 0, .int .u64 0, .int .u64 0, .int .u64 0, .int .u64 0, .int .u64 0, .int .u64 0, .int .u64 0, .int .u64 0, .int .u64 0, .int .u64 0, .int .u64 0, .int .u64 0, .int .u64 0, .int .u64 0, .int .u64 0, .int .u64 0, .int .u64 0, .int .u64 0, .int .u64 0, .int .u64 0, .int .u64 0, .int .u64 0, .int .u64 0, .int .u64 0, .int .u64 0, .int .u64 0, .int .u64 0, .int .u64 0, .int .u64 0, .int .u64 0, .int .u64 0] 36)).alloc (by simp; omega) (.cells #[.int .i64 0, .int .u64 0, .string ⟨#[]⟩] 31))
      refine ⟨rfl, rfl, rfl, rfl, ⟨?_, ⟨#[.int .u64 0, .int .u64 0, .int .u64 0, .int .u64 0, .int .u64 0, .int .u64 0, .int .u64 0, .int .u64 0, .int .u64 0, .int .u64 0, .int .u64 0, .int .u64 0, .int .u64 0, .int .u64 0, .int .u64 0, .int .u64 0, .int .u64 0, .int .u64 0, .int .u64 0, .int .u64 0, .int .u64 0, .int .u64 0, .int .u64 0, .int .u64 0, .int .u64 0, .int .u64 0, .int .u64 0, .int .u64 0, .int .u64 0, .int .u64 0, .int .u64 0, .int .u64 0, .int .u64 0], rfl, ?_⟩, ?_, HS.out.below hb, hb⟩⟩
      · unfold StIs
        rw [Hst.out, Below.heap_alloc _ _ _ (by simp; omega), Below.heap_alloc _ _ _ (by simp)]
        exact heap_alloc_new _ _
      · rw [Below.heap_alloc _ _ _ (by simp)]
        have := heap_alloc_new (w.alloc (.cells st 36)) (.cells #[.int .u64 0, .int .u64 0, .int .u64 0, .int .u64 0, .int .u64 0, .int .u64 0, .int .u64 0, .int .u64 0, .int .u64 0, .int .u64 0, .int .u64 0, .int .u64 0, .int .u64 0, .int .u64 0, .int .u64 0, .int .u64 0, .int .u64 0, .int .u64 0, .int .u64 0, .int .u64 0, .int .u64 0, .int .u64 0, .int .u64 0, .int .u64 0, .int .u64 0, .int .u64 0, .int .u64 0, .int .u64 0, .int .u64 0, .int .u64 0, .int .u64 0, .int .u64 0, .int .u64 0] 36)
        simpa using this
      · have := heap_alloc_new ((w.alloc (.cells st 36)).alloc (.cells #[.int .u64 0, .int .u64 0, .int .u64 0, .int .u64 0, .int .u64 0, .int .u64 0, .int .u64 0, .int .u64 0, .int .u64 0, .int .u64 0, .int .u64 0, .int .u64 0, .int .u64 0, .int .u64 0, .int .u64 0, .int .u64 0, .int .u64 0, .int .u64 0, .int .u64 0, .int .u64 0, .int .u64 0, .int .u64 0, .int .u64 0, .int .u64 0, .int .u64 0, .int .u64 0, .int .u64 0, .int .u64 0, .int .u64 0, .int .u64 0, .int .u64 0, .int .u64 0, .int .u64 0] 36)) (.cells #[.int .i64 0, .int .u64 0, .string ⟨#[]⟩] 31)
        simpa using this
  obtain ⟨rfl, rfl, rfl, rfl, hbg⟩ := hcut
  have Hbg := hid hbg
  clear hbg
  have c0 := Hbg.out.st.cell HX0.out (show 0 < 32 by decide)
  have fz := frozen_of_row wc _ 0 _ _ Hbg.out.st
  go_upto_region 1 with (fail)
  go_cut [15, 16] (fun v15 v16 W => Begun sp m sl q ps (X.set 0 0) pc w W)
  case first =>
    go_wp2_with fail
    go_meet
    case rel => exact Hbg.out.set0 HX0.out
  have HB := hid hcut
  clear hcut
  have cp := HB.out.st.cellPc HX.out
  go_wp2_with fail
  refine (fetch_at sp m sl q ps pc v c f Hf.out _ hp64.out HB.out.sp).mono ?_
  rintro e w1 ⟨rfl, hb1⟩
  have HB1 := hid (HB.out.below hb1)
  clear cp c0 fz hb1 HB Hbg hpi
  go_wp2_with fail
  refine (faultOK_any _ _ _ _).mono ?_
  rintro e V ⟨rfl, hb8⟩
  have S8 : Hid (V.heap[w1.heap.size]? = some (.cells #[.int .i64 c, .int .u64 f, .string ⟨#[]⟩] 31 (0, 0))) := hid ((hb8.block _ (by simp)).trans (heap_alloc_new _ _))
  have HB := hid ((HB1.out.below (((Below.refl _ _).alloc (Nat.le_refl _) _) : Below w1.heap.size w1 (w1.alloc (.cells #[.int .i64 c, .int .u64 f, .string ⟨#[]⟩] 31)))).below hb8)
  have hG8 : w.heap.size + 1 + 1 < w1.heap.size := blk_lt' HB1.out.zf
  clear hb8 HB1
  generalize w1.heap.size = G8 at S8 hG8 ⊢
  obtain ⟨zc, hz1, hz2⟩ := HB.out.zs
  have Hz1 := hid hz1
  have Z29 := hz2
  have Z35 := HB.out.zf
  have ZP := HB.out.st
  have ZS := S8.out
  have HZ29 := hid Z29
  clear hz1 hz2 Z29 Z35 ZP ZS
  have hc1 : ((c : Int) == 0) = true := by rw [Hc.out]; rfl
  rw [hc1]
  clear hc1 S8 hG8
  go_wp2_with fail
  refine (decode_of v o d a b n ok Hd.out _ Hv.out).mono ?_
  rintro e w2 ⟨rfl, hb2⟩
  have HB2 := hid (HB.out.below hb2)
  clear HB Hz1 HZ29 hb2
  obtain ⟨V, hV⟩ : ∃ V, w2.alloc (.cells #[.int .i64 o, .int .i64 d, .int .i64 a, .int .i64 b, .int .i64 n] 44) = V := ⟨_, rfl⟩
  have S9 : Hid (V.heap[w2.heap.size]? = some (.cells #[.int .i64 o, .int .i64 d, .int .i64 a, .int .i64 b, .int .i64 n] 44 (0, 0))) := hid (by rw [← hV]; exact heap_alloc_new _ _)
  have HB := hid (HB2.out.below (W' := V) (by rw [← hV]; exact (Below.refl _ _).alloc (Nat.le_refl _) _))
  have hG9 : w.heap.size + 1 + 1 < w2.heap.size := blk_lt' HB2.out.zf
  have HV := hid hV
  clear hV HB2
  rw [Hok.out]
  go_upto_region 10 with (fail)
  rw [HV.out]
  clear HV
  obtain ⟨V2, hV2, S11, RB⟩ := new_row V (stCells (X.set 0 0) pc) zst 36
  have S11 := hid S11
  have R9 := hid ((RB.block _ (blk_lt' S9.out)).trans S9.out)
  have HB2 := hid (HB.out.below RB)
  apply wp_region_lit
  refine wpList_load_row rfl 36 (.tmp 3) rfl w.heap.size rfl 36 (stCells (X.set 0 0) pc) (0, 0) _ HB.out.st Tryz.underlying36 rfl (infoState HX.out pc) ?_
  refine wpList_val (w' := V.alloc (.cells zst 36)) (.pointer (some ⟨V.heap.size, 0, none⟩)) rfl (by kernel_rfl) ?_
  refine wpList_store_row rfl 36 (.tmp 11) (.tmp 45) rfl V.heap.size (stCells (X.set 0 0) pc) rfl rfl 36 zst (heap_alloc_new _ _) (infoState HX.out pc) (stCells_size HX.out pc).symm (stCells_one _ _) ?_
  rw [hV2]
  have hG9' : w.heap.size < w2.heap.size := by omega
  have hG11 : w2.heap.size < V.heap.size := blk_lt' S9.out
  clear hV2 RB HB S9
  have q0 : V2.cell? ⟨w2.heap.size, 0, none⟩ = some (.int .i64 o) := by rw [cell_of_row V2 _ _ _ _ _ R9.out]; rfl
  have q1 : V2.cell? ⟨w2.heap.size, 1, none⟩ = some (.int .i64 d) := by rw [cell_of_row V2 _ _ _ _ _ R9.out]; rfl
  have q2 : V2.cell? ⟨w2.heap.size, 2, none⟩ = some (.int .i64 a) := by rw [cell_of_row V2 _ _ _ _ _ R9.out]; rfl
  have q3 : V2.cell? ⟨w2.heap.size, 3, none⟩ = some (.int .i64 b) := by rw [cell_of_row V2 _ _ _ _ _ R9.out]; rfl
  have q4 : V2.cell? ⟨w2.heap.size, 4, none⟩ = some (.int .i64 n) := by rw [cell_of_row V2 _ _ _ _ _ R9.out]; rfl
  go_wp2_with fail
  refine (goes_of w.heap.size (X.set 0 0) pc o d a b n X' pc' gc gf went Hg.out _ HB2.out.st HX.out Hdl.out Hal.out Hbl.out).mono ?_
  rintro e w3 ⟨rfl, hst, hkp⟩
  have HG3 := hid (HB2.out.gone hst hkp)
  have P9 := hid (hkp.row R9.out (by simp; omega))
  have P11 := hid (hkp.row S11.out (by simp; omega))
  have hV3 := hkp.size
  have hV2s : w2.heap.size < V.heap.size := hG11
  generalize V.heap.size = G11 at P11 hG11 hV2s S11 ⊢
  clear hst hkp HB2 R9 S11 q0 q1 q2 q3 q4
  obtain ⟨V4, hV4⟩ : ∃ V4, w3.alloc (.cells #[.int .i64 gc, .int .u64 gf, .string ⟨#[]⟩] 31) = V4 := ⟨_, rfl⟩
  have S12 : Hid (V4.heap[w3.heap.size]? = some (.cells #[.int .i64 gc, .int .u64 gf, .string ⟨#[]⟩] 31 (0, 0))) := hid (by rw [← hV4]; exact heap_alloc_new _ _)
  have hb4 : Below w3.heap.size w3 V4 := by rw [← hV4]; exact (Below.refl _ _).alloc (Nat.le_refl _) _
  have HG := hid (HG3.out.below hb4)
  have S9 := hid ((hb4.block _ (blk_lt' P9.out)).trans P9.out)
  have S11 := hid ((hb4.block _ (blk_lt' P11.out)).trans P11.out)
  have hG12 : G11 < w3.heap.size := blk_lt' P11.out
  have HV4 := hid hV4
  clear hV4 hb4 HG3 P9 P11
  have hX1e := HX1.out
  have hpc1e := Hpc1.out
  subst hX1e
  subst hpc1e
  rw [Hw.out]
  have r0 : V4.cell? ⟨w2.heap.size, 0, none⟩ = some (.int .i64 o) := by rw [cell_of_row V4 _ _ _ _ _ S9.out]; rfl
  have r1 : V4.cell? ⟨w2.heap.size, 1, none⟩ = some (.int .i64 d) := by rw [cell_of_row V4 _ _ _ _ _ S9.out]; rfl
  have r2 : V4.cell? ⟨w2.heap.size, 2, none⟩ = some (.int .i64 a) := by rw [cell_of_row V4 _ _ _ _ _ S9.out]; rfl
  have r3 : V4.cell? ⟨w2.heap.size, 3, none⟩ = some (.int .i64 b) := by rw [cell_of_row V4 _ _ _ _ _ S9.out]; rfl
  have r4 : V4.cell? ⟨w2.heap.size, 4, none⟩ = some (.int .i64 n) := by rw [cell_of_row V4 _ _ _ _ _ S9.out]; rfl
  go_upto_region 16 with (fail)
  rw [HV4.out]
  clear HV4
  obtain ⟨ps', hps', hbk, hsp⟩ := HG.out.sp
  have Hps' := hid hps'
  have Hbk := hid hbk
  have Hsp := hid hsp
  have HL4 := hid (HL.out.keep HG.out.k)
  clear hps' hbk hsp
  go_wp2_with fail
  refine (do_of sp m sl q ps' w.heap.size (X.set 0 0) pc d a b n _ Hsp.out HG.out.st HX.out Hdl.out Hal.out Hbl.out o (by rw [Hbk.out]; exact HL4.out) M' X2 dc df (by rw [Hps'.out]; exact Hdo.out)).mono ?_
  rintro e w5 ⟨rfl, hsp2, hst, hkp⟩
  have HG5 := hid (HG.out.did HS.out Hbk.out hsp2 hst hkp)
  have hn : ∀ k, w.heap.size < k → k ∉ w.heap.size :: blks ps' := fun k hk h => by
    rcases List.mem_cons.1 h with rfl | h
    · omega
    · rw [Hbk.out] at h; have := HS.out.lt_blk h; omega
  have P9 := hid (hkp.row S9.out (hn _ (by omega)))
  have P11 := hid (hkp.row S11.out (hn _ (by omega)))
  clear hn hst hkp hsp2 HG Hps' Hbk Hsp HL4 S9 S11 S12 r0 r1 r2 r3 r4
  obtain ⟨V5, hV5⟩ : ∃ V5, w5.alloc (.cells #[.int .i64 dc, .int .u64 df, .string ⟨#[]⟩] 31) = V5 := ⟨_, rfl⟩
  have S14 : Hid (V5.heap[w5.heap.size]? = some (.cells #[.int .i64 dc, .int .u64 df, .string ⟨#[]⟩] 31 (0, 0))) := hid (by rw [← hV5]; exact heap_alloc_new _ _)
  have hb5 : Below w5.heap.size w5 V5 := by rw [← hV5]; exact (Below.refl _ _).alloc (Nat.le_refl _) _
  have HG6 := hid (HG5.out.below hb5)
  have S9 := hid ((hb5.block _ (blk_lt' P9.out)).trans P9.out)
  have S11 := hid ((hb5.block _ (blk_lt' P11.out)).trans P11.out)
  have hG14 : G11 < w5.heap.size := blk_lt' P11.out
  have HV5 := hid hV5
  clear hV5 hb5 HG5 P9 P11
  go_wp2_with fail
  rw [HV5.out]
  clear HV5
  refine (faultOK_any _ _ _ _).mono ?_
  rintro e V ⟨rfl, hb6⟩
  have HG7 := hid (HG6.out.below hb6)
  have Q9 := hid ((hb6.block _ (blk_lt' S9.out)).trans S9.out)
  have Q11 := hid ((hb6.block _ (blk_lt' S11.out)).trans S11.out)
  have Q14 := hid ((hb6.block _ (blk_lt' S14.out)).trans S14.out)
  clear HG6 S9 S11 S14 hb6
  generalize w5.heap.size = G14 at Q14 hG14 ⊢
  have hc1 : ((dc : Int) == 0) = false := by have := Hdc.out; simp; omega
  rw [hc1]
  clear hc1
  go_wp2_with fail
  obtain ⟨zc, hz1, hz2⟩ := HG7.out.zs
  have Hz1 := hid hz1
  have Z29 := hz2
  have Z35 := HG7.out.zf
  obtain ⟨ps', hps', hbk, hsp⟩ := HG7.out.sp
  refine wp_region_any (by kernel_rfl) ?_
  change wpAny _ _ _ _ _ _ _ (World.drew V)
  have DP : Hid (V.drew.heap[G11]? = some (.cells (stCells (X.set 0 0) pc) 36 (0, 0))) := hid Q11.out
  have DS : Hid (V.drew.heap[G14]? = some (.cells #[.int .i64 dc, .int .u64 df, .string ⟨#[]⟩] 31 (0, 0))) := hid Q14.out
  have DZ : Hid (V.drew.heap[w.heap.size + 1]? = some (.cells zc 36 (0, 0))) := hid Z29
  have DF : Hid (V.drew.heap[w.heap.size + 1 + 1]? = some (.cells #[.int .i64 0, .int .u64 0, .string ⟨#[]⟩] 31 (0, 0))) := hid Z35
  have DSP := hid (hsp).drew1
  have DK := hid (HG7.out.k).drew1
  obtain ⟨D, hD⟩ : ∃ D, V.drew = D := ⟨_, rfl⟩
  rw [hD] at DP DS DZ DF DSP DK ⊢
  clear hD
  have ES : Hid ((D.setRow (w.heap.size + 1) (stCells (X.set 0 0) pc)).heap[G14]? = _) := hid ((setRow_other _ _ _ _ (by omega)).trans DS.out)
  have E1 : Hid ((D.setRow (w.heap.size + 1) (stCells (X.set 0 0) pc)).heap[w.heap.size + 1]? = _) := hid (setRow_heap _ _ _ _ _ _ DZ.out)
  have EF : Hid ((D.setRow (w.heap.size + 1) (stCells (X.set 0 0) pc)).heap[w.heap.size + 1 + 1]? = _) := hid ((setRow_other _ _ _ _ (by omega)).trans DF.out)
  have G1 : Hid (((D.setRow (w.heap.size + 1) (stCells (X.set 0 0) pc)).setRow (w.heap.size + 1 + 1) #[.int .i64 dc, .int .u64 df, .string ⟨#[]⟩]).heap[w.heap.size + 1]? = _) := hid ((setRow_other _ _ _ _ (by omega)).trans E1.out)
  refine any2 (i := 0) (j := 1) (by kernel_rfl) ?_ ?_
  · refine wpOp_val (w' := D) (v := .agg (stCells (X.set 0 0) pc)) rfl rfl (exec_load_row 36 (.tmp 11) rfl (G11) rfl 36 _ (0, 0) _ DP.out Tryz.underlying36 rfl (infoState HX.out pc)) ?_
    simp only [Act.put, List.getElem_toArray, List.getElem_cons_zero, List.getElem_cons_succ, List.setIfInBounds_toArray, List.set_cons_zero, List.set_cons_succ]
    refine any2 (i := 1) (j := 2) (by kernel_rfl) ?_ ?_
    · refine wpOp_val (w' := D) (v := .agg #[.int .i64 dc, .int .u64 df, .string ⟨#[]⟩]) rfl rfl (exec_load_row 31 (.tmp 14) rfl (G14) rfl 31 _ (0, 0) _ DS.out Tryz.underlying31 rfl infoFault) ?_
      simp only [Act.put, List.getElem_toArray, List.getElem_cons_zero, List.getElem_cons_succ, List.setIfInBounds_toArray, List.set_cons_zero, List.set_cons_succ]
      refine any1 (i := 2) (by kernel_rfl) ?_
      refine wpOp_store_row rfl rfl 36 (.tmp 4) (.tmp 65) rfl (w.heap.size + 1) (stCells (X.set 0 0) pc) rfl rfl 36 zc DZ.out (infoState HX.out pc) (Hz1.out.trans (stCells_size HX.out _).symm) (stCells_one _ _) ?_
      simp only [Act.put, List.getElem_toArray, List.getElem_cons_zero, List.getElem_cons_succ, List.setIfInBounds_toArray, List.set_cons_zero, List.set_cons_succ]
      refine any1 (i := 3) (by kernel_rfl) ?_
      refine wpOp_val (w' := (D.setRow (w.heap.size + 1) (stCells (X.set 0 0) pc))) (v := .int .i64 0) rfl rfl (by kernel_rfl) ?_
      simp only [Act.put, List.getElem_toArray, List.getElem_cons_zero, List.getElem_cons_succ, List.setIfInBounds_toArray, List.set_cons_zero, List.set_cons_succ]
      refine any1 (i := 4) (by kernel_rfl) ?_
      refine wpOp_store_row rfl rfl 31 (.tmp 6) (.tmp 66) rfl (w.heap.size + 1 + 1) #[.int .i64 dc, .int .u64 df, .string ⟨#[]⟩] rfl rfl 31 _ EF.out infoFault rfl (faultRow_one ..) ?_
      simp only [Act.put, List.getElem_toArray, List.getElem_cons_zero, List.getElem_cons_succ, List.setIfInBounds_toArray, List.set_cons_zero, List.set_cons_succ]
      refine ⟨by kernel_rfl, ?_⟩
      go_wp2_with fail
      refine bodyPost_ret (results_ctc rfl _ _ (w.heap.size + 1) (w.heap.size + 1 + 1) 36 31 (stCells (X.set 0 0) pc) #[.int .i64 dc, .int .u64 df, .string ⟨#[]⟩] (0, 0) (0, 0) _ _ rfl rfl G1.out (setRow_heap _ _ _ _ _ _ EF.out) Tryz.underlying36 rfl (infoState HX.out pc) Tryz.underlying31 rfl infoFault) rfl ?_
      exact ⟨rfl, step_stored HS.out hps' hbk DSP.out DK.out _ _⟩
    · refine wpOp_store_row rfl rfl 36 (.tmp 4) (.tmp 65) rfl (w.heap.size + 1) (stCells (X.set 0 0) pc) rfl rfl 36 zc DZ.out (infoState HX.out pc) (Hz1.out.trans (stCells_size HX.out _).symm) (stCells_one _ _) ?_
      simp only [Act.put, List.getElem_toArray, List.getElem_cons_zero, List.getElem_cons_succ, List.setIfInBounds_toArray, List.set_cons_zero, List.set_cons_succ]
      refine any2 (i := 1) (j := 3) (by kernel_rfl) ?_ ?_
      · refine wpOp_val (w' := (D.setRow (w.heap.size + 1) (stCells (X.set 0 0) pc))) (v := .agg #[.int .i64 dc, .int .u64 df, .string ⟨#[]⟩]) rfl rfl (exec_load_row 31 (.tmp 14) rfl (G14) rfl 31 _ (0, 0) _ ES.out Tryz.underlying31 rfl infoFault) ?_
        simp only [Act.put, List.getElem_toArray, List.getElem_cons_zero, List.getElem_cons_succ, List.setIfInBounds_toArray, List.set_cons_zero, List.set_cons_succ]
        refine any1 (i := 3) (by kernel_rfl) ?_
        refine wpOp_val (w' := (D.setRow (w.heap.size + 1) (stCells (X.set 0 0) pc))) (v := .int .i64 0) rfl rfl (by kernel_rfl) ?_
        simp only [Act.put, List.getElem_toArray, List.getElem_cons_zero, List.getElem_cons_succ, List.setIfInBounds_toArray, List.set_cons_zero, List.set_cons_succ]
        refine any1 (i := 4) (by kernel_rfl) ?_
        refine wpOp_store_row rfl rfl 31 (.tmp 6) (.tmp 66) rfl (w.heap.size + 1 + 1) #[.int .i64 dc, .int .u64 df, .string ⟨#[]⟩] rfl rfl 31 _ EF.out infoFault rfl (faultRow_one ..) ?_
        simp only [Act.put, List.getElem_toArray, List.getElem_cons_zero, List.getElem_cons_succ, List.setIfInBounds_toArray, List.set_cons_zero, List.set_cons_succ]
        refine ⟨by kernel_rfl, ?_⟩
        go_wp2_with fail
        refine bodyPost_ret (results_ctc rfl _ _ (w.heap.size + 1) (w.heap.size + 1 + 1) 36 31 (stCells (X.set 0 0) pc) #[.int .i64 dc, .int .u64 df, .string ⟨#[]⟩] (0, 0) (0, 0) _ _ rfl rfl G1.out (setRow_heap _ _ _ _ _ _ EF.out) Tryz.underlying36 rfl (infoState HX.out pc) Tryz.underlying31 rfl infoFault) rfl ?_
        exact ⟨rfl, step_stored HS.out hps' hbk DSP.out DK.out _ _⟩
      · refine wpOp_val (w' := (D.setRow (w.heap.size + 1) (stCells (X.set 0 0) pc))) (v := .int .i64 0) rfl rfl (by kernel_rfl) ?_
        simp only [Act.put, List.getElem_toArray, List.getElem_cons_zero, List.getElem_cons_succ, List.setIfInBounds_toArray, List.set_cons_zero, List.set_cons_succ]
        refine any1 (i := 1) (by kernel_rfl) ?_
        refine wpOp_val (w' := (D.setRow (w.heap.size + 1) (stCells (X.set 0 0) pc))) (v := .agg #[.int .i64 dc, .int .u64 df, .string ⟨#[]⟩]) rfl rfl (exec_load_row 31 (.tmp 14) rfl (G14) rfl 31 _ (0, 0) _ ES.out Tryz.underlying31 rfl infoFault) ?_
        simp only [Act.put, List.getElem_toArray, List.getElem_cons_zero, List.getElem_cons_succ, List.setIfInBounds_toArray, List.set_cons_zero, List.set_cons_succ]
        refine any1 (i := 4) (by kernel_rfl) ?_
        refine wpOp_store_row rfl rfl 31 (.tmp 6) (.tmp 66) rfl (w.heap.size + 1 + 1) #[.int .i64 dc, .int .u64 df, .string ⟨#[]⟩] rfl rfl 31 _ EF.out infoFault rfl (faultRow_one ..) ?_
        simp only [Act.put, List.getElem_toArray, List.getElem_cons_zero, List.getElem_cons_succ, List.setIfInBounds_toArray, List.set_cons_zero, List.set_cons_succ]
        refine ⟨by kernel_rfl, ?_⟩
        go_wp2_with fail
        refine bodyPost_ret (results_ctc rfl _ _ (w.heap.size + 1) (w.heap.size + 1 + 1) 36 31 (stCells (X.set 0 0) pc) #[.int .i64 dc, .int .u64 df, .string ⟨#[]⟩] (0, 0) (0, 0) _ _ rfl rfl G1.out (setRow_heap _ _ _ _ _ _ EF.out) Tryz.underlying36 rfl (infoState HX.out pc) Tryz.underlying31 rfl infoFault) rfl ?_
        exact ⟨rfl, step_stored HS.out hps' hbk DSP.out DK.out _ _⟩
  · refine wpOp_val (w' := D) (v := .agg #[.int .i64 dc, .int .u64 df, .string ⟨#[]⟩]) rfl rfl (exec_load_row 31 (.tmp 14) rfl (G14) rfl 31 _ (0, 0) _ DS.out Tryz.underlying31 rfl infoFault) ?_
    simp only [Act.put, List.getElem_toArray, List.getElem_cons_zero, List.getElem_cons_succ, List.setIfInBounds_toArray, List.set_cons_zero, List.set_cons_succ]
    refine any1 (i := 0) (by kernel_rfl) ?_
    refine wpOp_val (w' := D) (v := .agg (stCells (X.set 0 0) pc)) rfl rfl (exec_load_row 36 (.tmp 11) rfl (G11) rfl 36 _ (0, 0) _ DP.out Tryz.underlying36 rfl (infoState HX.out pc)) ?_
    simp only [Act.put, List.getElem_toArray, List.getElem_cons_zero, List.getElem_cons_succ, List.setIfInBounds_toArray, List.set_cons_zero, List.set_cons_succ]
    refine any1 (i := 2) (by kernel_rfl) ?_
    refine wpOp_store_row rfl rfl 36 (.tmp 4) (.tmp 65) rfl (w.heap.size + 1) (stCells (X.set 0 0) pc) rfl rfl 36 zc DZ.out (infoState HX.out pc) (Hz1.out.trans (stCells_size HX.out _).symm) (stCells_one _ _) ?_
    simp only [Act.put, List.getElem_toArray, List.getElem_cons_zero, List.getElem_cons_succ, List.setIfInBounds_toArray, List.set_cons_zero, List.set_cons_succ]
    refine any1 (i := 3) (by kernel_rfl) ?_
    refine wpOp_val (w' := (D.setRow (w.heap.size + 1) (stCells (X.set 0 0) pc))) (v := .int .i64 0) rfl rfl (by kernel_rfl) ?_
    simp only [Act.put, List.getElem_toArray, List.getElem_cons_zero, List.getElem_cons_succ, List.setIfInBounds_toArray, List.set_cons_zero, List.set_cons_succ]
    refine any1 (i := 4) (by kernel_rfl) ?_
    refine wpOp_store_row rfl rfl 31 (.tmp 6) (.tmp 66) rfl (w.heap.size + 1 + 1) #[.int .i64 dc, .int .u64 df, .string ⟨#[]⟩] rfl rfl 31 _ EF.out infoFault rfl (faultRow_one ..) ?_
    simp only [Act.put, List.getElem_toArray, List.getElem_cons_zero, List.getElem_cons_succ, List.setIfInBounds_toArray, List.set_cons_zero, List.set_cons_succ]
    refine ⟨by kernel_rfl, ?_⟩
    go_wp2_with fail
    refine bodyPost_ret (results_ctc rfl _ _ (w.heap.size + 1) (w.heap.size + 1 + 1) 36 31 (stCells (X.set 0 0) pc) #[.int .i64 dc, .int .u64 df, .string ⟨#[]⟩] (0, 0) (0, 0) _ _ rfl rfl G1.out (setRow_heap _ _ _ _ _ _ EF.out) Tryz.underlying36 rfl (infoState HX.out pc) Tryz.underlying31 rfl infoFault) rfl ?_
    exact ⟨rfl, step_stored HS.out hps' hbk DSP.out DK.out _ _⟩
end
end Go.Proofs.YtiemingpbommeaaGreatDoor
