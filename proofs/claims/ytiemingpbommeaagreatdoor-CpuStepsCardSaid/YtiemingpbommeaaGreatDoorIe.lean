/- The document's step: loads. -/
import Derived.Test.YtiemingpbommeaaGreatDoorIc
namespace Go.Proofs.YtiemingpbommeaaGreatDoor
open Go Go.RowKit
noncomputable section
set_option linter.unusedVariables false
set_option linter.unusedSimpArgs false
set_option maxHeartbeats 4000000 in
set_option maxRecDepth 100000 in
theorem refSw_load {u : World} {sl : Value} {M : List Pg} {q : Int} {X : List Nat} {pc i d a b : Nat} {n : Int} {nm : List UInt8} {l : Int} {o f3 f7 A Bv im p4 G z O : Nat} {W6 : World} {act : Act} (h : Mid u sl M q X pc i d a b n nm l o f3 f7 A Bv im p4 G z O W6) (hF : FrameOf (.pointer (some ⟨u.heap.size, 0, none⟩)) (.pointer (some ⟨u.heap.size + 1, 0, none⟩)) (.pointer (some ⟨u.heap.size + 2, 0, none⟩)) (.pointer (some ⟨u.heap.size + 3, 0, none⟩)) (.pointer (some ⟨G, 0, none⟩)) (.pointer (some ⟨z, 0, none⟩)) (.int .u64 A) (.int .u64 Bv) (.int .u64 im) (.int .u64 p4) (.pointer (some ⟨O, 0, none⟩)) (.int .i64 0) act) (hcl : 10 ≤ i ∧ i ≤ 16) :
    (stepC 12).wp Tryz.prog (bodyPost Tryz.prog Tryz.f18 (RefPost q (stepN M X pc) u)) act W6 := by
  obtain ⟨hM2, hp, h4p, hi, hd, ha, hb, Hs, Hrow, HX0, HG, HS, hA, hBv, HAe, HBe, Him, himl, hp4i, hp4l, hp4m, Hp4, I6, HK6, HT6, OF, hO, hGO, hzO, lG, lz, lS, lO, cpc, jd, kn, kl, ko⟩ := h
  have Hcl := hid hcl
  have hp64 : pc < 18446744073709551616 := by omega
  have hpi : ¬ (1099511627776 : Int) ≤ (pc : Int) := by omega
  clear hcl
  rw [show stepC 12 = .seq (headC (stepC 12)) (stepC 13) from rfl]
  refine wp_seq (wp_cut (FinR u q (X.set 0 0) pc (stepN M X pc)) (fun _ _ hh => refStep_fin HX0 hh) ?_)
  intro _ _ _ _
  unfold FrameOf at hF
  iterate 71 (obtain ⟨_, hF⟩ := hF)
  subst hF
  conv => arg 2; whnf
  obtain ⟨q1, q2, q3, q4⟩ := names4 i hi (by have := Hcl.out; omega)
  rw [Hrow.out] at q1 q2 q3 q4
  obtain ⟨hll, ho3, hle, hn2, hn3⟩ := letL i hi Hcl.out.1 Hcl.out.2
  rw [Hrow.out] at hll ho3 hle hn2 hn3
  simp only at hll ho3 hle hn2 hn3
  subst hll
  rw [show letterB 73 = 73 from by decide] at kl
  obtain rfl : o = 3 := by omega
  have hnb : nameB (i : Int) = nm := by unfold nameB; rw [if_pos ⟨by omega, by omega⟩, Int.toNat_natCast, Hrow.out]
  obtain ⟨wd, hwd⟩ : ∃ wd, (widthN (i : Int)).1 = wd := ⟨_, rfl⟩
  have hwd4 : wd = 1 ∨ wd = 2 ∨ wd = 4 ∨ wd = 8 := by
    rw [← hwd]
    have h := Hcl.out
    unfold widthN
    repeat' split
    all_goals simp
  have hw := fun W => refWidth_any i Hcl.out.1 (by have := Hcl.out.2; omega) W
  rw [hnb, hwd] at hw
  have HW := hid hw
  obtain ⟨x, hx⟩ : ∃ x, adr A im = x := ⟨_, rfl⟩
  have hxl : x < 18446744073709551616 := by rw [← hx]; exact adr_lt _ _
  have hxi : IntKind.u64.wrap ((A : Int) + (im : Int)) = (x : Int) := by rw [u64wn, hx]
  have hld := fun (W : World) (hb : Below u.heap.size u W) => refLoad_any 0 sl M q x wd W ((HS.out W).at hb) HG.out hxl hwd4
  rcases hL : loadN M x wd with ⟨v0, c, fa⟩
  rw [hL] at hld
  have HLd := hid hld
  have hv0 : v0 < 18446744073709551616 := by
    have h : (loadN M x wd).1 < 18446744073709551616 := by
      unfold loadN
      split
      · split
        · exact getL_lt64 _ (by rw [bytesN_length]; omega)
        · show 0 < 18446744073709551616; decide
      · show 0 < 18446744073709551616; decide
    rw [hL] at h; exact h
  obtain ⟨r, hr⟩ : ∃ r, (if i ≤ 13 then extendN v0 (8 * (wd : Int)) else v0) = r := ⟨_, rfl⟩
  have hrl : r < 18446744073709551616 := by rw [← hr]; split; exact extendN_lt _ _ hv0; exact hv0
  have hext : (if (widthN (i : Int)).2 then extendN v0 (8 * (wd : Int)) else v0) = r := by
    rw [← hr]
    have h := Hcl.out
    by_cases h12 : i ≤ 12
    · rw [if_pos (show i ≤ 13 by omega), if_pos (by unfold widthN; rcases (by omega : i = 10 ∨ i = 11 ∨ i = 12) with h | h | h <;> subst h <;> decide)]
    · by_cases h13 : i = 13
      · subst h13
        rw [if_neg (by decide), if_pos (by omega), ← hwd]
        unfold extendN
        rw [if_neg (by decide)]
      · rw [if_neg (show ¬ i ≤ 13 by omega), if_neg (by unfold widthN; rcases (by omega : i = 14 ∨ i = 15 ∨ i = 16) with h | h | h <;> subst h <;> decide)]
  have e0 : execN M (X.set 0 0) pc (i : Int) d a b n = if c = 0 then ⟨M, setR (X.set 0 0) d r, p4, 0, 0, 0⟩ else ⟨M, X.set 0 0, pc, 0, c, fa⟩ := by
    have h := Hcl.out
    have hd : doR M (X.set 0 0) pc (i : Int) d a b n = (M, (if c = 0 then setR (X.set 0 0) d r else X.set 0 0), c, fa) := by
      unfold doR
      rw [if_neg (by omega), if_neg (by omega), if_pos (by omega), HAe.out, Him.out, hx, hwd, hL]
      simp only
      rw [hext]
    rw [exec_do (by omega), hd, Hp4.out]
    have hev : evN (i : Int) = 0 := by unfold evN; rw [if_neg (by omega), if_neg (by omega)]
    rw [hev]
    by_cases hc : c = 0 <;> simp [hc]
  have E0 := hid e0
  have Hr := hid hr
  have hsz : (⟨nm.toArray⟩ : ByteArray).size = nm.length := by simp [ByteArray.size]
  have Hle := hid hle
  have Hx := hid hx
  clear e0 Hrow hnb hw hld hL hext hr hwd hle hx
  go_upto_region 41 with (fail)
  refine wp_region_quiet_in (fun w' => ∃ k, w' = aft W6 k) (by kernel_rfl) (by kernel_rfl) (aft_drew _) ?_
  refine quiet_val (.agg #[sl, .int .i64 q]) rfl (fun w' hC => ?_) ?_
  · obtain ⟨k, rfl⟩ := hC
    exact exec_load_row 54 (.tmp 2) rfl u.heap.size rfl 54 _ (0, 0) _ ((aft_heap (blk_lt' I6.out.b2)).trans I6.out.b2) Tryz.underlying54 rfl infoSpc
  simp only [ps]
  refine quiet_val (.int .u64 A) rfl (fun w' hC => by kernel_rfl) ?_
  simp only [ps]
  refine quiet_val (.int .u64 im) rfl (fun w' hC => by kernel_rfl) ?_
  simp only [ps]
  refine quiet_val (.int .u64 x) rfl (fun w' hC => by rw [← hxi]; kernel_rfl) ?_
  simp only [ps]
  refine quiet_val (.pointer (some ⟨z, 0, none⟩)) rfl (fun w' hC => by kernel_rfl) ?_
  simp only [ps]
  refine quiet_val (.string ⟨nm.toArray⟩) rfl (fun w' hC => by obtain ⟨k, rfl⟩ := hC; go_simp) ?_
  simp only [ps]
  refine quiet_call (.int .i64 wd) (f := 51) (args := #[.string ⟨nm.toArray⟩]) rfl (fun w' hC => by kernel_rfl) (fun w' hC => by obtain ⟨k, rfl⟩ := hC; exact aft_calls (HW.out _)) ?_
  simp only [ps]
  refine quiet_call (.tuple #[.int .u64 v0, .int .i64 c, .int .u64 fa]) (f := 52) (args := #[.agg #[sl, .int .i64 q], .int .u64 x, .int .i64 wd]) rfl (fun w' hC => by kernel_rfl) (fun w' hC => by obtain ⟨k, rfl⟩ := hC; exact aft_call (HLd.out _ (I6.out.b.trans ((aft_below W6 k).mono I6.out.b.size)))) ?_
  simp only [ps]
  refine quiet_val (.tuple #[.int .u64 v0, .int .i64 c, .int .u64 fa]) rfl (fun w' hC => by kernel_rfl) ?_
  simp only [ps]
  refine quiet_val (.int .u64 v0) rfl (fun w' hC => by kernel_rfl) ?_
  simp only [ps]
  refine quiet_val (.int .i64 c) rfl (fun w' hC => by kernel_rfl) ?_
  simp only [ps]
  refine quiet_val (.int .u64 fa) rfl (fun w' hC => by kernel_rfl) ?_
  simp only [ps]
  refine quiet_val (.int .u64 v0) rfl (fun w' hC => by kernel_rfl) ?_
  simp only [ps]
  refine quiet_val (.int .i64 c) rfl (fun w' hC => by kernel_rfl) ?_
  simp only [ps]
  refine quiet_val (.int .u64 fa) rfl (fun w' hC => by kernel_rfl) ?_
  simp only [ps]
  refine wpQuiet_nil ?_
  intro W7 hW7
  obtain ⟨k7, rfl⟩ := hW7
  obtain ⟨W7, hW7⟩ : ∃ W7, aft W6 k7 = W7 := ⟨_, rfl⟩
  have hb7 : Below W6.heap.size W6 W7 := by rw [← hW7]; exact aft_below W6 k7
  rw [hW7]
  clear hW7
  have I7 := hid (I6.out.below hb7)
  have HK7 := hid ((hb7.block _ (blk_lt' HK6.out)).trans HK6.out)
  have HT7 := hid ((hb7.block _ (blk_lt' HT6.out)).trans HT6.out)
  have OF7 : Hid (St7 W7 O (X.set 0 0) pc) := hid ((hb7.block _ (blk_lt' OF.out)).trans OF.out)
  clear I6 HK6 HT6 OF lG lz lS lO cpc jd kn kl ko hb7
  obtain ⟨W6, rfl⟩ : ∃ W6, W6 = W7 := ⟨_, rfl⟩
  have I6 := I7
  have HK6 := HK7
  have HT6 := HT7
  have OF := OF7
  clear I7 HK7 HT7 OF7
  have lG := blk_lt' HT6.out
  have lz := blk_lt' HK6.out
  have lS := blk_lt' I6.out.b3
  have lO := blk_lt' OF.out
  have cpc := I6.out.b3.cellPc HX0.out
  have jd : W6.cell? ⟨G, 1, none⟩ = some (.int .i64 d) := by rw [cell_of_row W6 _ _ _ _ _ HT6.out]; rfl
  have kn : W6.cell? ⟨z, 0, none⟩ = some (.string ⟨nm.toArray⟩) := by rw [cell_of_row W6 _ _ _ _ _ HK6.out]; rfl
  have kl := True.intro
  have ko := True.intro
  by_cases hc : c = 0
  · subst hc
    have E1 : Hid (execN M (X.set 0 0) pc (i : Int) d a b n = ⟨M, setR (X.set 0 0) d r, p4, 0, 0, 0⟩) := hid (by have h := E0.out; rw [if_pos rfl] at h; exact h)
    clear E0 hxi
    by_cases h13 : i ≤ 13
    · have hr2 : extendN v0 (8 * (wd : Int)) = r := by have h := Hr.out; rw [if_pos h13] at h; exact h
      have hex := fun W => refExtend_any v0 (8 * (wd : Int)) W hv0
      rw [hr2] at hex
      have HEx := hid hex
      have hn2e : nm.length = 2 := by have h := Hle.out; simpa [h13] using h
      clear hr2 hex
      have hwb : (wd : Int) ≤ 8 ∧ 0 ≤ (wd : Int) := by omega
      obtain ⟨hwb1, hwb2⟩ := hwb
      go_upto_region 46 with (first
        | (go_at_call 51; refine (HW.out _).mono ?_; rintro e w8 ⟨rfl, hw8⟩; have hw9 := hw8.symm; clear hw8; subst hw9)
        | (go_at_call 53; refine (HEx.out _).mono ?_; rintro e w9 ⟨rfl, m9, rfl⟩))
      obtain ⟨W7, hW7⟩ : ∃ W7, W6.drewN m9 = W7 := ⟨_, rfl⟩
      have hb7 : Below W6.heap.size W6 W7 := by rw [← hW7]; exact below_drewN (Below.refl _ _) m9
      rw [hW7]
      clear hW7
      have I7 := hid (I6.out.below hb7)
      have HK7 := hid ((hb7.block _ (blk_lt' HK6.out)).trans HK6.out)
      have HT7 := hid ((hb7.block _ (blk_lt' HT6.out)).trans HT6.out)
      have OF7 : Hid (St7 W7 O (X.set 0 0) pc) := hid ((hb7.block _ (blk_lt' OF.out)).trans OF.out)
      clear I6 HK6 HT6 OF lG lz lS lO cpc jd kn kl ko hb7
      obtain ⟨W6, rfl⟩ : ∃ W6, W6 = W7 := ⟨_, rfl⟩
      have I6 := I7
      have HK6 := HK7
      have HT6 := HT7
      have OF := OF7
      clear I7 HK7 HT7 OF7
      have lG := blk_lt' HT6.out
      have lz := blk_lt' HK6.out
      have lS := blk_lt' I6.out.b3
      have lO := blk_lt' OF.out
      have cpc := I6.out.b3.cellPc HX0.out
      have jd : W6.cell? ⟨G, 1, none⟩ = some (.int .i64 d) := by rw [cell_of_row W6 _ _ _ _ _ HT6.out]; rfl
      have kn : W6.cell? ⟨z, 0, none⟩ = some (.string ⟨nm.toArray⟩) := by rw [cell_of_row W6 _ _ _ _ _ HK6.out]; rfl
      have kl := True.intro
      have ko := True.intro
      go_upto_region 46 with (fail)
      apply wp_region_lit
      refine wpList_load_row rfl 58 (.tmp 3) rfl (u.heap.size + 1) rfl 58 (stCells (X.set 0 0) pc) (0, 0) _ I6.out.b3 Tryz.underlying58 rfl (infoState7 HX0.out pc) ?_
      simp only [ps]
      refine wpList_val (w' := W6) (.pointer (some ⟨G, 1, none⟩)) rfl (by kernel_rfl) ?_
      simp only [ps]
      refine wpList_val (w' := W6) (.int .i64 d) rfl (by go_simp) ?_
      simp only [ps]
      refine wpList_val (w' := W6) (.int .u64 r) rfl (by kernel_rfl) ?_
      simp only [ps]
      refine wpList_call (.agg (stCells (setR (X.set 0 0) d (r)) pc)) (fun w'' => Below W6.heap.size W6 w'') (f := 48) (args := #[.agg (stCells (X.set 0 0) pc), .int .i64 d, .int .u64 (r : Int)]) rfl (by kernel_rfl) (refSet_any (X.set 0 0) pc d (r) W6 HX0.out hd (by first | omega | exact adr_lt _ _)) ?_
      rintro W7 hb7
      simp only [ps]
      have I7 := hid (I6.out.below hb7)
      have OF7 := hid ((hb7.block _ (blk_lt' OF.out)).trans OF.out)
      have HXn : Hid (Regs (setR (X.set 0 0) d (r))) := hid (HX0.out.setR d _ (by first | omega | exact adr_lt _ _))
      clear hb7 I6 OF lG lz lS lO cpc jd kn kl ko HK6 HT6
      refine wpList_store_row rfl 58 (.tmp 19) (.tmp 237) rfl O (stCells (setR (X.set 0 0) d (r)) pc) rfl rfl 58 _ OF7.out (infoState7 HXn.out pc) ((stCells_size HX0.out _).trans (stCells_size HXn.out _).symm) (stCells_one _ _) ?_
      simp only [ps]
      have I8 := hid (I7.out.rowO (g := O) hO (stCells (setR (X.set 0 0) d (r)) pc))
      have OF8 : Hid (St7 (W7.setRow O (stCells (setR (X.set 0 0) d (r)) pc)) O (setR (X.set 0 0) d (r)) pc) := hid (setRow_heap _ _ _ _ _ _ OF7.out)
      generalize W7.setRow O (stCells (setR (X.set 0 0) d (r)) pc) = W8 at I8 OF8 ⊢
      clear I7 OF7
      go_wp2_with fail
      refine Met.intro ?_
      go_step
      refine ⟨sl, M, (setR (X.set 0 0) d r), p4, 0, O, I8, OF8, hid (HS.out _), HXn, hO, hp4l, hid (by rw [Hs.out, E1.out, if_pos (by omega)]), ?_⟩
      unfold FrameB FrameG
      (repeat apply Exists.intro); rfl
    · have hr2 : v0 = r := by have h := Hr.out; rw [if_neg h13] at h; exact h
      have hn3e : nm.length = 3 := by
        have h := Hle.out
        have : (nm.length == 2) = false := by rw [h]; simpa using h13
        rw [beq_eq_false_iff_ne] at this
        omega
      subst hr2
      go_upto_region 46 with (fail)
      go_upto_region 46 with (fail)
      apply wp_region_lit
      refine wpList_load_row rfl 58 (.tmp 3) rfl (u.heap.size + 1) rfl 58 (stCells (X.set 0 0) pc) (0, 0) _ I6.out.b3 Tryz.underlying58 rfl (infoState7 HX0.out pc) ?_
      simp only [ps]
      refine wpList_val (w' := W6) (.pointer (some ⟨G, 1, none⟩)) rfl (by kernel_rfl) ?_
      simp only [ps]
      refine wpList_val (w' := W6) (.int .i64 d) rfl (by go_simp) ?_
      simp only [ps]
      refine wpList_val (w' := W6) (.int .u64 v0) rfl (by kernel_rfl) ?_
      simp only [ps]
      refine wpList_call (.agg (stCells (setR (X.set 0 0) d (v0)) pc)) (fun w'' => Below W6.heap.size W6 w'') (f := 48) (args := #[.agg (stCells (X.set 0 0) pc), .int .i64 d, .int .u64 (v0 : Int)]) rfl (by kernel_rfl) (refSet_any (X.set 0 0) pc d (v0) W6 HX0.out hd (by first | omega | exact adr_lt _ _)) ?_
      rintro W7 hb7
      simp only [ps]
      have I7 := hid (I6.out.below hb7)
      have OF7 := hid ((hb7.block _ (blk_lt' OF.out)).trans OF.out)
      have HXn : Hid (Regs (setR (X.set 0 0) d (v0))) := hid (HX0.out.setR d _ (by first | omega | exact adr_lt _ _))
      clear hb7 I6 OF lG lz lS lO cpc jd kn kl ko HK6 HT6
      refine wpList_store_row rfl 58 (.tmp 19) (.tmp 237) rfl O (stCells (setR (X.set 0 0) d (v0)) pc) rfl rfl 58 _ OF7.out (infoState7 HXn.out pc) ((stCells_size HX0.out _).trans (stCells_size HXn.out _).symm) (stCells_one _ _) ?_
      simp only [ps]
      have I8 := hid (I7.out.rowO (g := O) hO (stCells (setR (X.set 0 0) d (v0)) pc))
      have OF8 : Hid (St7 (W7.setRow O (stCells (setR (X.set 0 0) d (v0)) pc)) O (setR (X.set 0 0) d (v0)) pc) := hid (setRow_heap _ _ _ _ _ _ OF7.out)
      generalize W7.setRow O (stCells (setR (X.set 0 0) d (v0)) pc) = W8 at I8 OF8 ⊢
      clear I7 OF7
      go_wp2_with fail
      refine Met.intro ?_
      go_step
      refine ⟨sl, M, (setR (X.set 0 0) d v0), p4, 0, O, I8, OF8, hid (HS.out _), HXn, hO, hp4l, hid (by rw [Hs.out, E1.out, if_pos (by omega)]), ?_⟩
      unfold FrameB FrameG
      (repeat apply Exists.intro); rfl
  · have hci : ((c : Int) == 0) = false := by rw [beq_eq_false_iff_ne]; omega
    have hcn : ((c : Int) != 0) = true := by rw [bne_iff_ne]; omega
    have Hs2 : Hid (stepN M X pc = ⟨M, X.set 0 0, pc, 0, c, fa⟩) := hid (by rw [Hs.out, E0.out, if_neg hc])
    clear E0 hxi
    go_upto_region 43 with (fail)
    refine wp_region_any (by kernel_rfl) ?_
    change wpAny _ _ _ _ _ _ _ (World.drew W6)
    have I9 := hid (I6.out.below (W' := W6.drew) ((Below.refl _ _).drew))
    have S9 := hid (SpAt.below (HS.out _) (W' := W6.drew) ((Below.refl _ _).drew))
    obtain ⟨D, hD⟩ : ∃ D, W6.drew = D := ⟨_, rfl⟩
    rw [hD] at I9 S9 ⊢
    clear hD
    have b4 := I9.out.b4
    have b5 := I9.out.b5
    obtain ⟨D4, hD4⟩ : ∃ D4, D.setRow (u.heap.size + 2) #[sl, .int .i64 q] = D4 := ⟨_, rfl⟩
    have J5 : Hid (D4.heap[u.heap.size + 3]? = some (.cells zst 58 (0, 0))) := hid (by rw [← hD4]; exact (setRow_other _ _ _ _ (by omega)).trans b5)
    obtain ⟨D5, hD5⟩ : ∃ D5, D4.setRow (u.heap.size + 3) (stCells (X.set 0 0) pc) = D5 := ⟨_, rfl⟩
    have P0 : Hid (D.heap[u.heap.size]? = some (.cells #[sl, .int .i64 q] 54 (0, 0))) := hid I9.out.b2
    have P1 : Hid (D4.heap[u.heap.size]? = some (.cells #[sl, .int .i64 q] 54 (0, 0))) := hid (by rw [← hD4]; exact (setRow_other _ _ _ _ (by omega)).trans P0.out)
    have Q0 : Hid (St7 D (u.heap.size + 1) (X.set 0 0) pc) := hid I9.out.b3
    have Q1 : Hid (St7 D4 (u.heap.size + 1) (X.set 0 0) pc) := hid (by rw [← hD4]; exact (setRow_other _ _ _ _ (by omega)).trans Q0.out)
    have J4 : Hid (D5.heap[u.heap.size + 2]? = some (.cells #[sl, .int .i64 q] 54 (0, 0))) := hid (by rw [← hD5, ← hD4]; exact (setRow_other _ _ _ _ (by omega)).trans (setRow_heap _ _ _ _ _ _ b4))
    have J55 : Hid (D5.heap[u.heap.size + 3]? = some (.cells (stCells (X.set 0 0) pc) 58 (0, 0))) := hid (by rw [← hD5]; exact setRow_heap _ _ _ _ _ _ J5.out)
    have HD := hid (refstep_done (q := q) I9.out S9.out (cs := #[sl, .int .i64 q]) (cs' := stCells (X.set 0 0) pc) (stepN M X pc) (by rw [Hs2.out]))
    rw [hD4, hD5] at HD
    have hone := S9.out.one
    have P0' := P0
    refine wpAny_take (i := 2) (v := .int .i64 c) rfl (by kernel_rfl) (by kernel_rfl) (by kernel_rfl) (fun _ _ _ h => h) (Or.inl ⟨by rfl, fun w => by first | kernel_rfl | go_simp⟩) ?_
    simp only [ps]
    refine wpAny_take (i := 3) (v := .int .u64 fa) rfl (by kernel_rfl) (by kernel_rfl) (by kernel_rfl) (fun _ _ _ h => h) (Or.inl ⟨by rfl, fun w => by first | kernel_rfl | go_simp⟩) ?_
    simp only [ps]
    refine any2 (i := 0) (j := 1) (by kernel_rfl) ?_ ?_
    · refine wpOp_val (w' := D) (v := .agg #[sl, .int .i64 q]) rfl rfl (exec_load_row 54 (.tmp 2) rfl u.heap.size rfl 54 _ (0, 0) _ P0.out Tryz.underlying54 rfl infoSpc) ?_
      simp only [ps]
      refine any2 (i := 1) (j := 4) (by kernel_rfl) ?_ ?_
      · refine wpOp_val (w' := D) (v := .agg (stCells (X.set 0 0) pc)) rfl rfl (exec_load_row 58 (.tmp 3) rfl (u.heap.size + 1) rfl 58 _ (0, 0) _ Q0.out Tryz.underlying58 rfl (infoState7 HX0.out pc)) ?_
        simp only [ps]
        refine any1 (i := 4) (by kernel_rfl) ?_
        refine wpOp_store_row rfl rfl 54 (.tmp 4) (.tmp 219) rfl (u.heap.size + 2) #[sl, .int .i64 q] rfl rfl 54 _ b4 infoSpc rfl (spc_one _ _ hone) ?_
        simp only [ps]
        rw [hD4]
        refine any1 (i := 5) (by kernel_rfl) ?_
        refine wpOp_store_row rfl rfl 58 (.tmp 5) (.tmp 220) rfl (u.heap.size + 3) (stCells (X.set 0 0) pc) rfl rfl 58 zst J5.out (infoState7 HX0.out pc) (stCells_size HX0.out _).symm (stCells_one _ _) ?_
        simp only [ps]
        rw [hD5]
        refine any1 (i := 6) (by kernel_rfl) ?_
        refine wpOp_val (w' := D5) (v := .int .i64 0) rfl rfl (by kernel_rfl) ?_
        simp only [ps]
        refine any1 (i := 7) (by kernel_rfl) ?_
        refine wpOp_val (w' := D5) (v := .int .i64 c) rfl rfl (by kernel_rfl) ?_
        simp only [ps]
        refine any1 (i := 8) (by kernel_rfl) ?_
        refine wpOp_val (w' := D5) (v := .int .u64 fa) rfl rfl (by kernel_rfl) ?_
        simp only [ps]
        refine ⟨by kernel_rfl, ?_⟩
        go_wp2_with fail
        refine bodyPost_ret (results_ccttt rfl _ _ (u.heap.size + 2) (u.heap.size + 3) 54 58 #[sl, .int .i64 q] (stCells (X.set 0 0) pc) (0, 0) (0, 0) _ _ rfl rfl J4.out J55.out Tryz.underlying54 rfl infoSpc Tryz.underlying58 rfl (infoState7 HX0.out pc)) rfl ?_
        refine ⟨sl, ?_, HD.out⟩
        (rw [Hs2.out]; rfl)
      · refine wpOp_store_row rfl rfl 54 (.tmp 4) (.tmp 219) rfl (u.heap.size + 2) #[sl, .int .i64 q] rfl rfl 54 _ b4 infoSpc rfl (spc_one _ _ hone) ?_
        simp only [ps]
        rw [hD4]
        refine any1 (i := 1) (by kernel_rfl) ?_
        refine wpOp_val (w' := D4) (v := .agg (stCells (X.set 0 0) pc)) rfl rfl (exec_load_row 58 (.tmp 3) rfl (u.heap.size + 1) rfl 58 _ (0, 0) _ Q1.out Tryz.underlying58 rfl (infoState7 HX0.out pc)) ?_
        simp only [ps]
        refine any1 (i := 5) (by kernel_rfl) ?_
        refine wpOp_store_row rfl rfl 58 (.tmp 5) (.tmp 220) rfl (u.heap.size + 3) (stCells (X.set 0 0) pc) rfl rfl 58 zst J5.out (infoState7 HX0.out pc) (stCells_size HX0.out _).symm (stCells_one _ _) ?_
        simp only [ps]
        rw [hD5]
        refine any1 (i := 6) (by kernel_rfl) ?_
        refine wpOp_val (w' := D5) (v := .int .i64 0) rfl rfl (by kernel_rfl) ?_
        simp only [ps]
        refine any1 (i := 7) (by kernel_rfl) ?_
        refine wpOp_val (w' := D5) (v := .int .i64 c) rfl rfl (by kernel_rfl) ?_
        simp only [ps]
        refine any1 (i := 8) (by kernel_rfl) ?_
        refine wpOp_val (w' := D5) (v := .int .u64 fa) rfl rfl (by kernel_rfl) ?_
        simp only [ps]
        refine ⟨by kernel_rfl, ?_⟩
        go_wp2_with fail
        refine bodyPost_ret (results_ccttt rfl _ _ (u.heap.size + 2) (u.heap.size + 3) 54 58 #[sl, .int .i64 q] (stCells (X.set 0 0) pc) (0, 0) (0, 0) _ _ rfl rfl J4.out J55.out Tryz.underlying54 rfl infoSpc Tryz.underlying58 rfl (infoState7 HX0.out pc)) rfl ?_
        refine ⟨sl, ?_, HD.out⟩
        (rw [Hs2.out]; rfl)
    · refine wpOp_val (w' := D) (v := .agg (stCells (X.set 0 0) pc)) rfl rfl (exec_load_row 58 (.tmp 3) rfl (u.heap.size + 1) rfl 58 _ (0, 0) _ Q0.out Tryz.underlying58 rfl (infoState7 HX0.out pc)) ?_
      simp only [ps]
      refine any1 (i := 0) (by kernel_rfl) ?_
      refine wpOp_val (w' := D) (v := .agg #[sl, .int .i64 q]) rfl rfl (exec_load_row 54 (.tmp 2) rfl u.heap.size rfl 54 _ (0, 0) _ P0.out Tryz.underlying54 rfl infoSpc) ?_
      simp only [ps]
      refine any1 (i := 4) (by kernel_rfl) ?_
      refine wpOp_store_row rfl rfl 54 (.tmp 4) (.tmp 219) rfl (u.heap.size + 2) #[sl, .int .i64 q] rfl rfl 54 _ b4 infoSpc rfl (spc_one _ _ hone) ?_
      simp only [ps]
      rw [hD4]
      refine any1 (i := 5) (by kernel_rfl) ?_
      refine wpOp_store_row rfl rfl 58 (.tmp 5) (.tmp 220) rfl (u.heap.size + 3) (stCells (X.set 0 0) pc) rfl rfl 58 zst J5.out (infoState7 HX0.out pc) (stCells_size HX0.out _).symm (stCells_one _ _) ?_
      simp only [ps]
      rw [hD5]
      refine any1 (i := 6) (by kernel_rfl) ?_
      refine wpOp_val (w' := D5) (v := .int .i64 0) rfl rfl (by kernel_rfl) ?_
      simp only [ps]
      refine any1 (i := 7) (by kernel_rfl) ?_
      refine wpOp_val (w' := D5) (v := .int .i64 c) rfl rfl (by kernel_rfl) ?_
      simp only [ps]
      refine any1 (i := 8) (by kernel_rfl) ?_
      refine wpOp_val (w' := D5) (v := .int .u64 fa) rfl rfl (by kernel_rfl) ?_
      simp only [ps]
      refine ⟨by kernel_rfl, ?_⟩
      go_wp2_with fail
      refine bodyPost_ret (results_ccttt rfl _ _ (u.heap.size + 2) (u.heap.size + 3) 54 58 #[sl, .int .i64 q] (stCells (X.set 0 0) pc) (0, 0) (0, 0) _ _ rfl rfl J4.out J55.out Tryz.underlying54 rfl infoSpc Tryz.underlying58 rfl (infoState7 HX0.out pc)) rfl ?_
      refine ⟨sl, ?_, HD.out⟩
      (rw [Hs2.out]; rfl)
end
end Go.Proofs.YtiemingpbommeaaGreatDoor
