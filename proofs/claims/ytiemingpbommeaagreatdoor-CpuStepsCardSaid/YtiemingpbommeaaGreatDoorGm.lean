/- The processor: one step, an instruction behind which the next one comes, without a fault. -/
import Derived.Test.YtiemingpbommeaaGreatDoorGl
namespace Go.Proofs.YtiemingpbommeaaGreatDoor
open Go Go.RowKit
noncomputable section
set_option linter.unusedVariables false
set_option linter.unusedSimpArgs false
set_option maxHeartbeats 4000000 in
set_option maxRecDepth 100000 in
theorem step_done (sp m : Nat) (sl : Value) (q : Int) (ps : List (Pg × Nat)) (X : List Nat) (pc : Nat) (w : World) (hS : SpaceIs w sp m sl q ps) (hX : Regs X) (hpc : pc < 1099511627776) (hL : Low w (blks ps))
    (v f : Nat) (hf : fetchN (pgs ps) pc = (v, 0, f)) (o : Int) (d a b : Nat) (n : Int) (ok : Bool) (hdec : decN v = ((o, (d : Int), (a : Int), (b : Int), n), ok)) (hok : ok = true) (hd : d < 32) (ha : a < 32) (hb : b < 32)
    (X' : List Nat) (pc' gc gf : Nat) (went : Bool) (hgo : goesN (X.set 0 0) pc o d a b n = ((X', pc', gc, gf), went)) (hw : went = false) (hX1 : X' = X.set 0 0) (hpc1 : pc = pc')
    (M' : List Pg) (X2 : List Nat) (dc df : Nat) (hdo : doR (pgs ps) (X.set 0 0) pc o d a b n = (M', X2, dc, df)) (hdc : dc = 0) (hX2 : Regs X2) :
    Calls Tryz.prog 13 #[.pointer (some ⟨sp, 0, none⟩), .agg (stCells X pc)] w (StepPost sp m sl q ps M' X2 (adr pc 4) (if o = 62 then 1 else if o = 63 then 2 else 0) 0 0 w) := by
  have Hdc := hid hdc
  have HX2 := hid hX2
  clear hdc hX2
  obtain ⟨EV, hEV⟩ : ∃ EV : Int, (if o = 62 then 1 else if o = 63 then 2 else 0) = EV := ⟨_, rfl⟩
  rw [hEV]
  have HEV := hid hEV
  clear hEV
  have Hw := hid hw
  have HX1 := hid hX1
  have Hpc1 := hid hpc1
  have HL := hid hL
  have Hdo := hid hdo
  clear hw hX1 hpc1 hL hdo
  have Hok := hid hok
  have Hg := hid hgo
  have Hdl := hid hd
  have Hal := hid ha
  have Hbl := hid hb
  clear hok hgo hd ha hb
  have Hf := hid hf
  have Hd := hid hdec
  have Hv : Hid (v < 4294967296) := hid (by have := fetchN_lt (pgs ps) pc; rw [hf] at this; exact this)
  obtain ⟨c, hc⟩ : ∃ c : Nat, c = 0 := ⟨_, rfl⟩
  rw [← hc] at Hf
  have Hc := hid hc
  clear hf hdec hc
  have hpi : ¬ (1099511627776 : Int) ≤ pc := by omega
  have hp64 : Hid (pc < 18446744073709551616) := hid (by omega)
  clear hpc
  have HX := hid (hX.set 0 0 (by decide))
  have HX0 := hid hX
  have HS := hid hS
  clear hX hS
  obtain ⟨st, hst⟩ : ∃ st, stCells X pc = st := ⟨_, rfl⟩
  have Hst := hid hst
  rw [hst]
  clear hst
  go_enter Tryz.func13, Tryz.ntmps13
  go_upto_region 0 with (fail)
  go_cut [3, 4, 5, 6] (fun v3 v4 v5 v6 wc => v3 = .pointer (some ⟨w.heap.size, 0, none⟩) ∧ v4 = .pointer (some ⟨w.heap.size + 1, 0, none⟩) ∧ v5 = .int .i64 0 ∧ v6 = .pointer (some ⟨w.heap.size + 1 + 1, 0, none⟩) ∧ Begun sp m sl q ps X pc w wc)
  case first =>
    go_wp2_with fail
    go_meet
    case rel =>
      have hb := ((((Below.refl w.heap.size w).alloc (Nat.le_refl _) (.cells st 36)).alloc (by simp) (.cells #[.int .u64 0, .int .u64 0, .int .u64 0, .int .u64 0, .int .u64 0, .int .u64 0, .int .u64 0, .int .u64 0, .int .u64 0, .int .u64 0, .int .u64 0, .int .u64 0, .int .u64 0, .int .u64 0, .int .u64 0, .int .u64 0, .int .u64 0, .int .u64 0, .int .u64 0, .int .u64 0, .int .u64 0, .int .u64 0, .int .u64 0, .int .u64 0, .int .u64 0, .int .u64 0, .int .u64 0, .int .u64 0, .int .u64 0, .int .u64 0, .int .u64 0, .int .u64 0, .int .u64 0] 36)).alloc (by simp; omega) (.cells #[.int .i64 0, .int .u64 0, .string ⟨#[]⟩] 31))
      refine ⟨rfl, rfl, rfl, rfl, ⟨?_, ⟨#[.int .u64 0, .int .u64 0, .int .u64 0, .int .u64 0, .int .u64 0, .int .u64 0, .int .u64 0, .int .u64 0, .int .u64 0, .int .u64 0, .int .u64 0, .int .u64 0, .int .u64 0, .int .u64 0, .int .u64 0, .int .u64 0, .int .u64 0, .int .u64 0, .int .u64 0, .int .u64 0, .int .u64 0, .int .u64 0, .int .u64 0, .int .u64 0, .int .u64 0, .int .u64 0, .int .u64 0, .int .u64 0, .int .u64 0, .int .u64 0, .int .u64 0, .int .u64 0, .int .u64 0], rfl, ?_⟩, ?_, HS.out.below hb, hb⟩⟩
      · unfold StIs
        rw [Hst.out, Below.heap_alloc _ _ _ (by simp; omega), Below.heap_alloc _ _ _ (by simp)]
        exact heap_alloc_new _ _
      · rw [Below.heap_alloc _ _ _ (by simp)]
        have := heap_alloc_new (w.alloc (.cells st 36)) (.cells #[.int .u64 0, .int .u64 0, .int .u64 0, .int .u64 0, .int .u64 0, .int .u64 0, .int .u64 0, .int .u64 0, .int .u64 0, .int .u64 0, .int .u64 0, .int .u64 0, .int .u64 0, .int .u64 0, .int .u64 0, .int .u64 0, .int .u64 0, .int .u64 0, .int .u64 0, .int .u64 0, .int .u64 0, .int .u64 0, .int .u64 0, .int .u64 0, .int .u64 0, .int .u64 0, .int .u64 0, .int .u64 0, .int .u64 0, .int .u64 0, .int .u64 0, .int .u64 0, .int .u64 0] 36)
        simpa using this
      · have := heap_alloc_new ((w.alloc (.cells st 36)).alloc (.cells #[.int .u64 0, .int .u64 0, .int .u64 0, .int .u64 0, .int .u64 0, .int .u64 0, .int .u64 0, .int .u64 0, .int .u64 0, .int .u64 0, .int .u64 0, .int .u64 0, .int .u64 0, .int .u64 0, .int .u64 0, .int .u64 0, .int .u64 0, .int .u64 0, .int .u64 0, .int .u64 0, .int .u64 0, .int .u64 0, .int .u64 0, .int .u64 0, .int .u64 0, .int .u64 0, .int .u64 0, .int .u64 0, .int .u64 0, .int .u64 0, .int .u64 0, .int .u64 0, .int .u64 0] 36)) (.cells #[.int .i64 0, .int .u64 0, .string ⟨#[]⟩] 31)
        simpa using this
  obtain ⟨rfl, rfl, rfl, rfl, hbg⟩ := hcut
  have Hbg := hid hbg
  clear hbg
  have c0 := Hbg.out.st.cell HX0.out (show 0 < 32 by decide)
  have fz := frozen_of_row wc _ 0 _ _ Hbg.out.st
  go_upto_region 1 with (fail)
  go_cut [15, 16] (fun v15 v16 W => Begun sp m sl q ps (X.set 0 0) pc w W)
  case first =>
    go_wp2_with fail
    go_meet
    case rel => exact Hbg.out.set0 HX0.out
  have HB := hid hcut
  clear hcut
  have cp := HB.out.st.cellPc HX.out
  go_wp2_with fail
  refine (fetch_at sp m sl q ps pc v c f Hf.out _ hp64.out HB.out.sp).mono ?_
  rintro e w1 ⟨rfl, hb1⟩
  have HB1 := hid (HB.out.below hb1)
  clear cp c0 fz hb1 HB Hbg hpi
  go_wp2_with fail
  refine (faultOK_any _ _ _ _).mono ?_
  rintro e V ⟨rfl, hb8⟩
  have S8 : Hid (V.heap[w1.heap.size]? = some (.cells #[.int .i64 c, .int .u64 f, .string ⟨#[]⟩] 31 (0, 0))) := hid ((hb8.block _ (by simp)).trans (heap_alloc_new _ _))
  have HB := hid ((HB1.out.below (((Below.refl _ _).alloc (Nat.le_refl _) _) : Below w1.heap.size w1 (w1.alloc (.cells #[.int .i64 c, .int .u64 f, .string ⟨#[]⟩] 31)))).below hb8)
  have hG8 : w.heap.size + 1 + 1 < w1.heap.size := blk_lt' HB1.out.zf
  clear hb8 HB1
  generalize w1.heap.size = G8 at S8 hG8 ⊢
  obtain ⟨zc, hz1, hz2⟩ := HB.out.zs
  have Hz1 := hid hz1
  have Z29 := hz2
  have Z35 := HB.out.zf
  have ZP := HB.out.st
  have ZS := S8.out
  have HZ29 := hid Z29
  clear hz1 hz2 Z29 Z35 ZP ZS
  have hc1 : ((c : Int) == 0) = true := by rw [Hc.out]; rfl
  rw [hc1]
  clear hc1 S8 hG8
  go_wp2_with fail
  refine (decode_of v o d a b n ok Hd.out _ Hv.out).mono ?_
  rintro e w2 ⟨rfl, hb2⟩
  have HB2 := hid (HB.out.below hb2)
  clear HB Hz1 HZ29 hb2
  obtain ⟨V, hV⟩ : ∃ V, w2.alloc (.cells #[.int .i64 o, .int .i64 d, .int .i64 a, .int .i64 b, .int .i64 n] 44) = V := ⟨_, rfl⟩
  have S9 : Hid (V.heap[w2.heap.size]? = some (.cells #[.int .i64 o, .int .i64 d, .int .i64 a, .int .i64 b, .int .i64 n] 44 (0, 0))) := hid (by rw [← hV]; exact heap_alloc_new _ _)
  have HB := hid (HB2.out.below (W' := V) (by rw [← hV]; exact (Below.refl _ _).alloc (Nat.le_refl _) _))
  have hG9 : w.heap.size + 1 + 1 < w2.heap.size := blk_lt' HB2.out.zf
  have HV := hid hV
  clear hV HB2
  rw [Hok.out]
  go_upto_region 10 with (fail)
  rw [HV.out]
  clear HV
  obtain ⟨V2, hV2, S11, RB⟩ := new_row V (stCells (X.set 0 0) pc) zst 36
  have S11 := hid S11
  have R9 := hid ((RB.block _ (blk_lt' S9.out)).trans S9.out)
  have HB2 := hid (HB.out.below RB)
  apply wp_region_lit
  refine wpList_load_row rfl 36 (.tmp 3) rfl w.heap.size rfl 36 (stCells (X.set 0 0) pc) (0, 0) _ HB.out.st Tryz.underlying36 rfl (infoState HX.out pc) ?_
  refine wpList_val (w' := V.alloc (.cells zst 36)) (.pointer (some ⟨V.heap.size, 0, none⟩)) rfl (by kernel_rfl) ?_
  refine wpList_store_row rfl 36 (.tmp 11) (.tmp 45) rfl V.heap.size (stCells (X.set 0 0) pc) rfl rfl 36 zst (heap_alloc_new _ _) (infoState HX.out pc) (stCells_size HX.out pc).symm (stCells_one _ _) ?_
  rw [hV2]
  have hG9' : w.heap.size < w2.heap.size := by omega
  have hG11 : w2.heap.size < V.heap.size := blk_lt' S9.out
  clear hV2 RB HB S9
  have q0 : V2.cell? ⟨w2.heap.size, 0, none⟩ = some (.int .i64 o) := by rw [cell_of_row V2 _ _ _ _ _ R9.out]; rfl
  have q1 : V2.cell? ⟨w2.heap.size, 1, none⟩ = some (.int .i64 d) := by rw [cell_of_row V2 _ _ _ _ _ R9.out]; rfl
  have q2 : V2.cell? ⟨w2.heap.size, 2, none⟩ = some (.int .i64 a) := by rw [cell_of_row V2 _ _ _ _ _ R9.out]; rfl
  have q3 : V2.cell? ⟨w2.heap.size, 3, none⟩ = some (.int .i64 b) := by rw [cell_of_row V2 _ _ _ _ _ R9.out]; rfl
  have q4 : V2.cell? ⟨w2.heap.size, 4, none⟩ = some (.int .i64 n) := by rw [cell_of_row V2 _ _ _ _ _ R9.out]; rfl
  go_wp2_with fail
  refine (goes_of w.heap.size (X.set 0 0) pc o d a b n X' pc' gc gf went Hg.out _ HB2.out.st HX.out Hdl.out Hal.out Hbl.out).mono ?_
  rintro e w3 ⟨rfl, hst, hkp⟩
  have HG3 := hid (HB2.out.gone hst hkp)
  have P9 := hid (hkp.row R9.out (by simp; omega))
  have P11 := hid (hkp.row S11.out (by simp; omega))
  have hV3 := hkp.size
  have hV2s : w2.heap.size < V.heap.size := hG11
  generalize V.heap.size = G11 at P11 hG11 hV2s S11 ⊢
  clear hst hkp HB2 R9 S11 q0 q1 q2 q3 q4
  obtain ⟨V4, hV4⟩ : ∃ V4, w3.alloc (.cells #[.int .i64 gc, .int .u64 gf, .string ⟨#[]⟩] 31) = V4 := ⟨_, rfl⟩
  have S12 : Hid (V4.heap[w3.heap.size]? = some (.cells #[.int .i64 gc, .int .u64 gf, .string ⟨#[]⟩] 31 (0, 0))) := hid (by rw [← hV4]; exact heap_alloc_new _ _)
  have hb4 : Below w3.heap.size w3 V4 := by rw [← hV4]; exact (Below.refl _ _).alloc (Nat.le_refl _) _
  have HG := hid (HG3.out.below hb4)
  have S9 := hid ((hb4.block _ (blk_lt' P9.out)).trans P9.out)
  have S11 := hid ((hb4.block _ (blk_lt' P11.out)).trans P11.out)
  have hG12 : G11 < w3.heap.size := blk_lt' P11.out
  have HV4 := hid hV4
  clear hV4 hb4 HG3 P9 P11
  have hX1e := HX1.out
  have hpc1e := Hpc1.out
  subst hX1e
  subst hpc1e
  rw [Hw.out]
  have r0 : V4.cell? ⟨w2.heap.size, 0, none⟩ = some (.int .i64 o) := by rw [cell_of_row V4 _ _ _ _ _ S9.out]; rfl
  have r1 : V4.cell? ⟨w2.heap.size, 1, none⟩ = some (.int .i64 d) := by rw [cell_of_row V4 _ _ _ _ _ S9.out]; rfl
  have r2 : V4.cell? ⟨w2.heap.size, 2, none⟩ = some (.int .i64 a) := by rw [cell_of_row V4 _ _ _ _ _ S9.out]; rfl
  have r3 : V4.cell? ⟨w2.heap.size, 3, none⟩ = some (.int .i64 b) := by rw [cell_of_row V4 _ _ _ _ _ S9.out]; rfl
  have r4 : V4.cell? ⟨w2.heap.size, 4, none⟩ = some (.int .i64 n) := by rw [cell_of_row V4 _ _ _ _ _ S9.out]; rfl
  go_upto_region 16 with (fail)
  rw [HV4.out]
  clear HV4
  obtain ⟨ps', hps', hbk, hsp⟩ := HG.out.sp
  have Hps' := hid hps'
  have Hbk := hid hbk
  have Hsp := hid hsp
  have HL4 := hid (HL.out.keep HG.out.k)
  clear hps' hbk hsp
  go_wp2_with fail
  refine (do_of sp m sl q ps' w.heap.size (X.set 0 0) pc d a b n _ Hsp.out HG.out.st HX.out Hdl.out Hal.out Hbl.out o (by rw [Hbk.out]; exact HL4.out) M' X2 dc df (by rw [Hps'.out]; exact Hdo.out)).mono ?_
  rintro e w5 ⟨rfl, hsp2, hst, hkp⟩
  have HG5 := hid (HG.out.did HS.out Hbk.out hsp2 hst hkp)
  have hn : ∀ k, w.heap.size < k → k ∉ w.heap.size :: blks ps' := fun k hk h => by
    rcases List.mem_cons.1 h with rfl | h
    · omega
    · rw [Hbk.out] at h; have := HS.out.lt_blk h; omega
  have P9 := hid (hkp.row S9.out (hn _ (by omega)))
  have P11 := hid (hkp.row S11.out (hn _ (by omega)))
  clear hn hst hkp hsp2 HG Hps' Hbk Hsp HL4 S9 S11 S12 r0 r1 r2 r3 r4
  obtain ⟨V5, hV5⟩ : ∃ V5, w5.alloc (.cells #[.int .i64 dc, .int .u64 df, .string ⟨#[]⟩] 31) = V5 := ⟨_, rfl⟩
  have S14 : Hid (V5.heap[w5.heap.size]? = some (.cells #[.int .i64 dc, .int .u64 df, .string ⟨#[]⟩] 31 (0, 0))) := hid (by rw [← hV5]; exact heap_alloc_new _ _)
  have hb5 : Below w5.heap.size w5 V5 := by rw [← hV5]; exact (Below.refl _ _).alloc (Nat.le_refl _) _
  have HG6 := hid (HG5.out.below hb5)
  have S9 := hid ((hb5.block _ (blk_lt' P9.out)).trans P9.out)
  have S11 := hid ((hb5.block _ (blk_lt' P11.out)).trans P11.out)
  have hG14 : G11 < w5.heap.size := blk_lt' P11.out
  have HV5 := hid hV5
  clear hV5 hb5 HG5 P9 P11
  go_wp2_with fail
  rw [HV5.out]
  clear HV5
  refine (faultOK_any _ _ _ _).mono ?_
  rintro e V ⟨rfl, hb6⟩
  have HG7 := hid (HG6.out.below hb6)
  have Q9 := hid ((hb6.block _ (blk_lt' S9.out)).trans S9.out)
  have Q11 := hid ((hb6.block _ (blk_lt' S11.out)).trans S11.out)
  have Q14 := hid ((hb6.block _ (blk_lt' S14.out)).trans S14.out)
  clear HG6 S9 S11 S14 hb6
  generalize w5.heap.size = G14 at Q14 hG14 ⊢
  have hc1 : ((dc : Int) == 0) = true := by rw [Hdc.out]; rfl
  rw [hc1]
  clear hc1
  have cpc := HG7.out.st.cellPc HX2.out
  have fpc := frozen_of_row V _ 32 _ _ HG7.out.st
  have HG8' := hid (HG7.out.setPc HS.out HX2.out (adr pc 4))
  have Q9b' : Hid ((V.setCell ⟨w.heap.size, 32, none⟩ (.int .u64 (adr pc 4))).heap[w2.heap.size]? = _) := hid ((heap_setCell_other _ _ _ _ (by simp; omega)).trans Q9.out)
  have Hfour := hid (adr_four pc)
  go_upto_region 20 with (fail)
  rw [adr_four]
  clear cpc fpc HG7 Q9 Q11 Q14
  obtain ⟨V0, hV0⟩ : ∃ V0, V.setCell ⟨w.heap.size, 32, none⟩ (.int .u64 (adr pc 4)) = V0 := ⟨_, rfl⟩
  rw [hV0] at HG8' Q9b' ⊢
  clear hV0
  have HG8 := HG8'
  have Q9b := Q9b'
  clear HG8' Q9b'
  refine wp_region_any (by kernel_rfl) ?_
  change wpAny _ _ _ _ _ _ _ (World.drew V0)
  have DG := hid (HG8.out.below (W' := V0.drew) ((Below.refl _ _).drew))
  have D9 : Hid (V0.drew.heap[w2.heap.size]? = some (.cells #[.int .i64 o, .int .i64 d, .int .i64 a, .int .i64 b, .int .i64 n] 44 (0, 0))) := hid Q9b.out
  obtain ⟨D, hD⟩ : ∃ D, V0.drew = D := ⟨_, rfl⟩
  rw [hD] at DG D9 ⊢
  clear hD HG8 Q9b
  obtain ⟨zc, hz1, hz2⟩ := DG.out.zs
  have Hz1 := hid hz1
  have DZ := hid hz2
  obtain ⟨ps', hps', hbk, hsp⟩ := DG.out.sp
  have Hps' := hid hps'
  have Hbk := hid hbk
  have Hsp := hid hsp
  clear hz1 hz2 hps' hbk hsp
  have d9 : D.cell? ⟨w2.heap.size, 0, none⟩ = some (.int .i64 o) := by rw [cell_of_row D _ _ _ _ _ D9.out]; rfl
  obtain ⟨ev, hev⟩ : ∃ ev : Int, (if o = 62 then 1 else if o = 63 then 2 else 0) = ev := ⟨_, rfl⟩
  have Hev := hid hev
  clear hev
  have E1 : Hid ((D.setRow (w.heap.size + 1) (stCells X2 (adr pc 4))).heap[w.heap.size + 1]? = _) := hid (setRow_heap _ _ _ _ _ _ DZ.out)
  have EF : Hid ((D.setRow (w.heap.size + 1) (stCells X2 (adr pc 4))).heap[w.heap.size + 1 + 1]? = _) := hid ((setRow_other _ _ _ _ (by omega)).trans DG.out.zf)
  have G1 : Hid (((D.setRow (w.heap.size + 1) (stCells X2 (adr pc 4))).setRow (w.heap.size + 1 + 1) #[.int .i64 0, .int .u64 0, .string ⟨#[]⟩]).heap[w.heap.size + 1]? = _) := hid ((setRow_other _ _ _ _ (by omega)).trans E1.out)
  refine wpAny_take (i := 1) (v := .pointer (some ⟨w2.heap.size, 0, none⟩)) rfl (by kernel_rfl) (by kernel_rfl) (by kernel_rfl) (fun _ _ _ h => h) (Or.inl ⟨by rfl, fun w => by go_simp⟩) ?_
  simp only [Act.put, List.getElem_toArray, List.getElem_cons_zero, List.getElem_cons_succ, List.setIfInBounds_toArray, List.set_cons_zero, List.set_cons_succ]
  refine wpAny_take (i := 4) (v := .agg #[.int .i64 0, .int .u64 0, .string ⟨#[]⟩]) rfl (by kernel_rfl) (by kernel_rfl) (by kernel_rfl) (fun _ _ _ h => h) (Or.inl ⟨by rfl, fun w => by kernel_rfl⟩) ?_
  simp only [Act.put, List.getElem_toArray, List.getElem_cons_zero, List.getElem_cons_succ, List.setIfInBounds_toArray, List.set_cons_zero, List.set_cons_succ]
  refine any2 (i := 0) (j := 2) (by kernel_rfl) ?_ ?_
  · refine wpOp_val (w' := D) (v := .agg (stCells X2 (adr pc 4))) rfl rfl (exec_load_row 36 (.tmp 3) rfl w.heap.size rfl 36 _ (0, 0) _ DG.out.st Tryz.underlying36 rfl (infoState HX2.out (adr pc 4))) ?_
    simp only [Act.put, List.getElem_toArray, List.getElem_cons_zero, List.getElem_cons_succ, List.setIfInBounds_toArray, List.set_cons_zero, List.set_cons_succ]
    refine any1 (i := 2) (by kernel_rfl) ?_
    refine wpOp_val (w' := D) (v := .int .i64 o) rfl rfl (by go_simp) ?_
    simp only [Act.put, List.getElem_toArray, List.getElem_cons_zero, List.getElem_cons_succ, List.setIfInBounds_toArray, List.set_cons_zero, List.set_cons_succ]
    refine any1 (i := 3) (by kernel_rfl) ?_
    refine wpOp_call (.int .i64 ev) (fun w'' => w'' = D) (f := 36) (args := #[.int .i64 o]) rfl rfl (by kernel_rfl) (by rw [← Hev.out]; exact event_any o D) ?_
    rintro w6 hw6
    rw [hw6]
    clear hw6
    simp only [Act.put, List.getElem_toArray, List.getElem_cons_zero, List.getElem_cons_succ, List.setIfInBounds_toArray, List.set_cons_zero, List.set_cons_succ]
    refine any1 (i := 5) (by kernel_rfl) ?_
    refine wpOp_store_row rfl rfl 36 (.tmp 4) (.tmp 71) rfl (w.heap.size + 1) (stCells X2 (adr pc 4)) rfl rfl 36 zc DZ.out (infoState HX2.out (adr pc 4)) (Hz1.out.trans (stCells_size HX2.out _).symm) (stCells_one _ _) ?_
    simp only [Act.put, List.getElem_toArray, List.getElem_cons_zero, List.getElem_cons_succ, List.setIfInBounds_toArray, List.set_cons_zero, List.set_cons_succ]
    refine any1 (i := 6) (by kernel_rfl) ?_
    refine wpOp_val (w' := (D.setRow (w.heap.size + 1) (stCells X2 (adr pc 4)))) (v := .int .i64 ev) rfl rfl (by kernel_rfl) ?_
    simp only [Act.put, List.getElem_toArray, List.getElem_cons_zero, List.getElem_cons_succ, List.setIfInBounds_toArray, List.set_cons_zero, List.set_cons_succ]
    refine any1 (i := 7) (by kernel_rfl) ?_
    refine wpOp_store_row rfl rfl 31 (.tmp 6) (.tmp 75) rfl (w.heap.size + 1 + 1) #[.int .i64 0, .int .u64 0, .string ⟨#[]⟩] rfl rfl 31 _ EF.out infoFault rfl (faultRow_one ..) ?_
    simp only [Act.put, List.getElem_toArray, List.getElem_cons_zero, List.getElem_cons_succ, List.setIfInBounds_toArray, List.set_cons_zero, List.set_cons_succ]
    refine ⟨by kernel_rfl, ?_⟩
    go_wp2_with fail
    refine bodyPost_ret (results_ctc rfl _ _ (w.heap.size + 1) (w.heap.size + 1 + 1) 36 31 (stCells X2 (adr pc 4)) #[.int .i64 0, .int .u64 0, .string ⟨#[]⟩] (0, 0) (0, 0) _ _ rfl rfl G1.out (setRow_heap _ _ _ _ _ _ EF.out) Tryz.underlying36 rfl (infoState HX2.out (adr pc 4)) Tryz.underlying31 rfl infoFault) rfl ?_
    rw [← HEV.out, Hev.out]
    exact ⟨rfl, step_stored HS.out Hps'.out Hbk.out Hsp.out DG.out.k _ _⟩
  · refine wpOp_val (w' := D) (v := .int .i64 o) rfl rfl (by go_simp) ?_
    simp only [Act.put, List.getElem_toArray, List.getElem_cons_zero, List.getElem_cons_succ, List.setIfInBounds_toArray, List.set_cons_zero, List.set_cons_succ]
    refine any2 (i := 0) (j := 3) (by kernel_rfl) ?_ ?_
    · refine wpOp_val (w' := D) (v := .agg (stCells X2 (adr pc 4))) rfl rfl (exec_load_row 36 (.tmp 3) rfl w.heap.size rfl 36 _ (0, 0) _ DG.out.st Tryz.underlying36 rfl (infoState HX2.out (adr pc 4))) ?_
      simp only [Act.put, List.getElem_toArray, List.getElem_cons_zero, List.getElem_cons_succ, List.setIfInBounds_toArray, List.set_cons_zero, List.set_cons_succ]
      refine any1 (i := 3) (by kernel_rfl) ?_
      refine wpOp_call (.int .i64 ev) (fun w'' => w'' = D) (f := 36) (args := #[.int .i64 o]) rfl rfl (by kernel_rfl) (by rw [← Hev.out]; exact event_any o D) ?_
      rintro w6 hw6
      rw [hw6]
      clear hw6
      simp only [Act.put, List.getElem_toArray, List.getElem_cons_zero, List.getElem_cons_succ, List.setIfInBounds_toArray, List.set_cons_zero, List.set_cons_succ]
      refine any1 (i := 5) (by kernel_rfl) ?_
      refine wpOp_store_row rfl rfl 36 (.tmp 4) (.tmp 71) rfl (w.heap.size + 1) (stCells X2 (adr pc 4)) rfl rfl 36 zc DZ.out (infoState HX2.out (adr pc 4)) (Hz1.out.trans (stCells_size HX2.out _).symm) (stCells_one _ _) ?_
      simp only [Act.put, List.getElem_toArray, List.getElem_cons_zero, List.getElem_cons_succ, List.setIfInBounds_toArray, List.set_cons_zero, List.set_cons_succ]
      refine any1 (i := 6) (by kernel_rfl) ?_
      refine wpOp_val (w' := (D.setRow (w.heap.size + 1) (stCells X2 (adr pc 4)))) (v := .int .i64 ev) rfl rfl (by kernel_rfl) ?_
      simp only [Act.put, List.getElem_toArray, List.getElem_cons_zero, List.getElem_cons_succ, List.setIfInBounds_toArray, List.set_cons_zero, List.set_cons_succ]
      refine any1 (i := 7) (by kernel_rfl) ?_
      refine wpOp_store_row rfl rfl 31 (.tmp 6) (.tmp 75) rfl (w.heap.size + 1 + 1) #[.int .i64 0, .int .u64 0, .string ⟨#[]⟩] rfl rfl 31 _ EF.out infoFault rfl (faultRow_one ..) ?_
      simp only [Act.put, List.getElem_toArray, List.getElem_cons_zero, List.getElem_cons_succ, List.setIfInBounds_toArray, List.set_cons_zero, List.set_cons_succ]
      refine ⟨by kernel_rfl, ?_⟩
      go_wp2_with fail
      refine bodyPost_ret (results_ctc rfl _ _ (w.heap.size + 1) (w.heap.size + 1 + 1) 36 31 (stCells X2 (adr pc 4)) #[.int .i64 0, .int .u64 0, .string ⟨#[]⟩] (0, 0) (0, 0) _ _ rfl rfl G1.out (setRow_heap _ _ _ _ _ _ EF.out) Tryz.underlying36 rfl (infoState HX2.out (adr pc 4)) Tryz.underlying31 rfl infoFault) rfl ?_
      rw [← HEV.out, Hev.out]
      exact ⟨rfl, step_stored HS.out Hps'.out Hbk.out Hsp.out DG.out.k _ _⟩
    · refine wpOp_call (.int .i64 ev) (fun w'' => w'' = D) (f := 36) (args := #[.int .i64 o]) rfl rfl (by kernel_rfl) (by rw [← Hev.out]; exact event_any o D) ?_
      rintro w6 hw6
      rw [hw6]
      clear hw6
      simp only [Act.put, List.getElem_toArray, List.getElem_cons_zero, List.getElem_cons_succ, List.setIfInBounds_toArray, List.set_cons_zero, List.set_cons_succ]
      refine any1 (i := 0) (by kernel_rfl) ?_
      refine wpOp_val (w' := D) (v := .agg (stCells X2 (adr pc 4))) rfl rfl (exec_load_row 36 (.tmp 3) rfl w.heap.size rfl 36 _ (0, 0) _ DG.out.st Tryz.underlying36 rfl (infoState HX2.out (adr pc 4))) ?_
      simp only [Act.put, List.getElem_toArray, List.getElem_cons_zero, List.getElem_cons_succ, List.setIfInBounds_toArray, List.set_cons_zero, List.set_cons_succ]
      refine any1 (i := 5) (by kernel_rfl) ?_
      refine wpOp_store_row rfl rfl 36 (.tmp 4) (.tmp 71) rfl (w.heap.size + 1) (stCells X2 (adr pc 4)) rfl rfl 36 zc DZ.out (infoState HX2.out (adr pc 4)) (Hz1.out.trans (stCells_size HX2.out _).symm) (stCells_one _ _) ?_
      simp only [Act.put, List.getElem_toArray, List.getElem_cons_zero, List.getElem_cons_succ, List.setIfInBounds_toArray, List.set_cons_zero, List.set_cons_succ]
      refine any1 (i := 6) (by kernel_rfl) ?_
      refine wpOp_val (w' := (D.setRow (w.heap.size + 1) (stCells X2 (adr pc 4)))) (v := .int .i64 ev) rfl rfl (by kernel_rfl) ?_
      simp only [Act.put, List.getElem_toArray, List.getElem_cons_zero, List.getElem_cons_succ, List.setIfInBounds_toArray, List.set_cons_zero, List.set_cons_succ]
      refine any1 (i := 7) (by kernel_rfl) ?_
      refine wpOp_store_row rfl rfl 31 (.tmp 6) (.tmp 75) rfl (w.heap.size + 1 + 1) #[.int .i64 0, .int .u64 0, .string ⟨#[]⟩] rfl rfl 31 _ EF.out infoFault rfl (faultRow_one ..) ?_
      simp only [Act.put, List.getElem_toArray, List.getElem_cons_zero, List.getElem_cons_succ, List.setIfInBounds_toArray, List.set_cons_zero, List.set_cons_succ]
      refine ⟨by kernel_rfl, ?_⟩
      go_wp2_with fail
      refine bodyPost_ret (results_ctc rfl _ _ (w.heap.size + 1) (w.heap.size + 1 + 1) 36 31 (stCells X2 (adr pc 4)) #[.int .i64 0, .int .u64 0, .string ⟨#[]⟩] (0, 0) (0, 0) _ _ rfl rfl G1.out (setRow_heap _ _ _ _ _ _ EF.out) Tryz.underlying36 rfl (infoState HX2.out (adr pc 4)) Tryz.underlying31 rfl infoFault) rfl ?_
      rw [← HEV.out, Hev.out]
      exact ⟨rfl, step_stored HS.out Hps'.out Hbk.out Hsp.out DG.out.k _ _⟩
end
end Go.Proofs.YtiemingpbommeaaGreatDoor

/- The processor: what a step answers. -/
namespace Go.Proofs.YtiemingpbommeaaGreatDoor
open Go Go.RowKit
noncomputable section
set_option linter.unusedVariables false
set_option linter.unusedSimpArgs false
theorem registerN_lt (x f : Nat) (is : Bool) : registerN x f is < 32 := by
  unfold registerN fieldN
  split
  · exact Nat.mod_lt _ (by decide)
  · decide
/-- a word's instruction: kind, registers, number -/
theorem decN_regs (v : Nat) : (∃ o d a b n, decN v = ((o, d, a, b, n), false)) ∨ ∃ (o : Int) (d a b : Nat) (n : Int), decN v = ((o, (d : Int), (a : Int), (b : Int), n), true) ∧ d < 32 ∧ a < 32 ∧ b < 32 := by
  by_cases h : firstOf (fitsAt v) < 0
  · exact .inl ⟨0, 0, 0, 0, 0, by unfold decN; rw [if_pos h]⟩
  · exact .inr ⟨_, _, _, _, _, by unfold decN; rw [if_neg h], registerN_lt _ _ _, registerN_lt _ _ _, registerN_lt _ _ _⟩
/-- what a step answers: the pages, the registers, the place, the event, the fault's number and address -/
structure Ans where
  M : List Pg
  X : List Nat
  pc : Nat
  ev : Int
  code : Nat
  fat : Nat
def evN (o : Int) : Int := if o = 62 then 1 else if o = 63 then 2 else 0
/-- an instruction; X 0 is 0 -/
def execN (M : List Pg) (X : List Nat) (pc : Nat) (o : Int) (d a b : Nat) (n : Int) : Ans :=
  if (goesN X pc o d a b n).2 then
    if (goesN X pc o d a b n).1.2.2.1 = 0 then ⟨M, (goesN X pc o d a b n).1.1, (goesN X pc o d a b n).1.2.1, 0, 0, 0⟩ else ⟨M, X, pc, 0, (goesN X pc o d a b n).1.2.2.1, (goesN X pc o d a b n).1.2.2.2⟩
  else
    if (doR M X pc o d a b n).2.2.1 = 0 then ⟨(doR M X pc o d a b n).1, (doR M X pc o d a b n).2.1, adr pc 4, evN o, 0, 0⟩ else ⟨(doR M X pc o d a b n).1, X, pc, 0, (doR M X pc o d a b n).2.2.1, (doR M X pc o d a b n).2.2.2⟩
def stepN (M : List Pg) (X : List Nat) (pc : Nat) : Ans :=
  if 1099511627776 ≤ pc then ⟨M, X.set 0 0, pc, 3, 0, 0⟩
  else if (fetchN M pc).2.1 = 0 then
    if (decN (fetchN M pc).1).2 then execN M (X.set 0 0) pc (decN (fetchN M pc).1).1.1 (decN (fetchN M pc).1).1.2.1.toNat (decN (fetchN M pc).1).1.2.2.1.toNat (decN (fetchN M pc).1).1.2.2.2.1.toNat (decN (fetchN M pc).1).1.2.2.2.2
    else ⟨M, X.set 0 0, pc, 0, 14, pc⟩
  else ⟨M, X.set 0 0, pc, 0, (fetchN M pc).2.1, (fetchN M pc).2.2⟩
theorem goesN_regs {X : List Nat} (hX : Regs X) (pc : Nat) (o : Int) (d a b : Nat) (n : Int) : Regs (goesN X pc o d a b n).1.1 := by
  have h1 : Regs (setR X d (adr pc 4)) := hX.setR d _ (adr_lt _ _)
  have hj : ∀ X' t, Regs X' → Regs (jumpN X X' pc t).1 := fun X' t h => by unfold jumpN; split <;> assumption
  unfold goesN
  split
  · exact hj _ _ h1
  · split
    · exact hj _ _ h1
    · split
      · exact hj _ _ hX
      · exact hX
theorem goesN_not {X : List Nat} {pc : Nat} {o : Int} {d a b : Nat} {n : Int} (h : (goesN X pc o d a b n).2 = false) : goesN X pc o d a b n = ((X, pc, 0, 0), false) := by
  unfold goesN at *
  split at h
  · cases h
  · rename_i h1
    split at h
    · cases h
    · rename_i h2
      split at h
      · cases h
      · rename_i h3
        rw [if_neg h1, if_neg h2, if_neg h3]
theorem doR_regs (M : List Pg) {X : List Nat} (hX : Regs X) (pc : Nat) (o : Int) (d a b : Nat) (n : Int) : Regs (doR M X pc o d a b n).2.1 := by
  unfold doR
  split
  · exact hX.setR _ _ (u64N_lt _)
  · split
    · exact hX.setR _ _ (adr_lt _ _)
    · split
      · dsimp only
        split
        · refine hX.setR _ _ ?_
          split
          · exact extendN_lt _ _ (loadN_lt _ _ _)
          · exact loadN_lt _ _ _
        · exact hX
      · split
        · exact hX
        · split
          · exact hX
          · refine hX.setR _ _ (doN_lt _ _ _ (hX.get _) ?_)
            split
            · exact hX.get _
            · exact u64N_lt _
set_option maxRecDepth 100000 in
theorem step_any (sp m : Nat) (sl : Value) (q : Int) (ps : List (Pg × Nat)) (X : List Nat) (pc : Nat) (w : World) (hS : SpaceIs w sp m sl q ps) (hX : Regs X) (hL : Low w (blks ps)) :
    Calls Tryz.prog 13 #[.pointer (some ⟨sp, 0, none⟩), .agg (stCells X pc)] w (StepPost sp m sl q ps (stepN (pgs ps) X pc).M (stepN (pgs ps) X pc).X (stepN (pgs ps) X pc).pc (stepN (pgs ps) X pc).ev (stepN (pgs ps) X pc).code (stepN (pgs ps) X pc).fat w) := by
  have hX0 := hX.set 0 0 (by decide)
  unfold stepN
  by_cases hpc : 1099511627776 ≤ pc
  · simp only [if_pos hpc]
    exact step_trap sp m sl q ps X pc w hS hX hpc
  · simp only [if_neg hpc]
    rcases hf : fetchN (pgs ps) pc with ⟨v, c, f⟩
    by_cases hc : c = 0
    · subst hc
      simp only [if_true]
      rcases decN_regs v with ⟨o, d, a, b, n, hd⟩ | ⟨o, d, a, b, n, hd, h1, h2, h3⟩
      · simp only [hd, Bool.false_eq_true, if_false]
        exact step_nocode sp m sl q ps X pc w hS hX (by omega) v f hf o d a b n false hd rfl
      · simp only [hd, if_true, Int.toNat_natCast]
        unfold execN
        have hg := goesN_regs hX0 pc o d a b n
        have hn := @goesN_not (X.set 0 0) pc o d a b n
        rcases hgo : goesN (X.set 0 0) pc o d a b n with ⟨⟨X', pc', gc, gf⟩, went⟩
        rw [hgo] at hg hn
        cases went with
        | true =>
          simp only [if_true]
          by_cases hgc : gc = 0
          · simp only [if_pos hgc]
            exact step_jumped sp m sl q ps X pc w hS hX (by omega) v f hf o d a b n true hd rfl h1 h2 h3 X' pc' gc gf true hgo rfl hgc hg
          · simp only [if_neg hgc]
            exact step_nojump sp m sl q ps X pc w hS hX (by omega) v f hf o d a b n true hd rfl h1 h2 h3 X' pc' gc gf true hgo rfl hgc
        | false =>
          simp only [Bool.false_eq_true, if_false]
          have hn' := hn rfl
          simp only [Prod.mk.injEq] at hn'
          obtain ⟨⟨e1, e2, _, _⟩, _⟩ := hn'
          have hr := doR_regs (pgs ps) hX0 pc o d a b n
          rcases hdo : doR (pgs ps) (X.set 0 0) pc o d a b n with ⟨M', X2, dc, df⟩
          rw [hdo] at hr
          by_cases hdc : dc = 0
          · simp only [if_pos hdc]
            exact step_done sp m sl q ps X pc w hS hX (by omega) hL v f hf o d a b n true hd rfl h1 h2 h3 X' pc' gc gf false hgo rfl e1 e2.symm M' X2 dc df hdo hdc hr
          · simp only [if_neg hdc]
            exact step_undone sp m sl q ps X pc w hS hX (by omega) hL v f hf o d a b n true hd rfl h1 h2 h3 X' pc' gc gf false hgo rfl e1 e2.symm M' X2 dc df hdo hdc
    · simp only [if_neg hc]
      exact step_nofetch sp m sl q ps X pc w hS hX (by omega) v c f hf hc
end
end Go.Proofs.YtiemingpbommeaaGreatDoor
