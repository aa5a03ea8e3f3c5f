/- The document's step: words. -/
import Derived.Test.YtiemingpbommeaaGreatDoorIc
namespace Go.Proofs.YtiemingpbommeaaGreatDoor
open Go Go.RowKit
noncomputable section
set_option linter.unusedVariables false
set_option linter.unusedSimpArgs false
theorem idxR : ∀ i, i < 64 → 34 ≤ i → i ≤ 61 → 0 ≤ nameIdx (formAt i).1 := by
  unfold nameIdx wname
  rw [wnames_lit]
  decide
theorem repI : ∀ i, i < 64 → 21 ≤ i → i ≤ 33 → Lib.replace (formAt i).1 [105] [] 1 = (formAt i).1.filter (fun c => c != 105) := by decide
theorem idxI : ∀ i, i < 64 → 21 ≤ i → i ≤ 33 → 0 ≤ nameIdx ((formAt i).1.filter (fun c => c != 105)) := by
  unfold nameIdx wname
  rw [wnames_lit]
  decide
theorem doN_any_lt (o : Int) (a b : Nat) (ha : a < 18446744073709551616) (hb : b < 18446744073709551616) : doN o a b < 18446744073709551616 := doN_lt o a b ha hb
set_option maxHeartbeats 4000000 in
set_option maxRecDepth 100000 in
theorem refSw_r {u : World} {sl : Value} {M : List Pg} {q : Int} {X : List Nat} {pc i d a b : Nat} {n : Int} {nm : List UInt8} {l : Int} {o f3 f7 A Bv im p4 G z O : Nat} {W6 : World} {act : Act} (h : Mid u sl M q X pc i d a b n nm l o f3 f7 A Bv im p4 G z O W6) (hF : FrameOf (.pointer (some ⟨u.heap.size, 0, none⟩)) (.pointer (some ⟨u.heap.size + 1, 0, none⟩)) (.pointer (some ⟨u.heap.size + 2, 0, none⟩)) (.pointer (some ⟨u.heap.size + 3, 0, none⟩)) (.pointer (some ⟨G, 0, none⟩)) (.pointer (some ⟨z, 0, none⟩)) (.int .u64 A) (.int .u64 Bv) (.int .u64 im) (.int .u64 p4) (.pointer (some ⟨O, 0, none⟩)) (.int .i64 0) act) (hcl : 34 ≤ i ∧ i ≤ 61) :
    (stepC 12).wp Tryz.prog (bodyPost Tryz.prog Tryz.f18 (RefPost q (stepN M X pc) u)) act W6 := by
  obtain ⟨hM2, hp, h4p, hi, hd, ha, hb, Hs, Hrow, HX0, HG, HS, hA, hBv, HAe, HBe, Him, himl, hp4i, hp4l, hp4m, Hp4, I6, HK6, HT6, OF, hO, hGO, hzO, lG, lz, lS, lO, cpc, jd, kn, kl, ko⟩ := h
  have Hcl := hid hcl
  have hp64 : pc < 18446744073709551616 := by omega
  have hpi : ¬ (1099511627776 : Int) ≤ (pc : Int) := by omega
  clear hcl
  rw [show stepC 12 = .seq (headC (stepC 12)) (stepC 13) from rfl]
  refine wp_seq (wp_cut (FinR u q (X.set 0 0) pc (stepN M X pc)) (fun _ _ hh => refStep_fin HX0 hh) ?_)
  intro _ _ _ _
  unfold FrameOf at hF
  iterate 71 (obtain ⟨_, hF⟩ := hF)
  subst hF
  conv => arg 2; whnf
  obtain ⟨q1, q2, q3, q4⟩ := names4 i hi (by have := Hcl.out; omega)
  rw [Hrow.out] at q1 q2 q3 q4
  obtain ⟨hll, ho3, q5, q6⟩ := letR i hi Hcl.out.1 Hcl.out.2
  have hix := idxR i hi Hcl.out.1 Hcl.out.2
  rw [Hrow.out] at hll ho3 q5 q6 hix
  simp only at hll ho3 q5 q6 hix
  subst hll
  rw [show letterB 82 = 82 from by decide] at kl
  have ho3i : ((o : Int) == 3) = false := by rw [beq_eq_false_iff_ne]; exact ho3
  have hnb : nameB (i : Int) = nm := by unfold nameB; rw [if_pos ⟨by omega, by omega⟩, Int.toNat_natCast, Hrow.out]
  have hlb : letterI (i : Int) = 82 := by unfold letterI; rw [if_pos ⟨by omega, by omega⟩, Int.toNat_natCast, Hrow.out]
  have hop : operN (i : Int) = nameIdx nm := by unfold operN; rw [if_pos hlb, hnb]; omega
  obtain ⟨r, hr⟩ : ∃ r, doN (nameIdx nm) A Bv = r := ⟨_, rfl⟩
  have hrl : r < 18446744073709551616 := by rw [← hr]; exact doN_any_lt _ _ _ hA hBv
  have HDo := hid (fun W => refDo_any (nameIdx nm) A Bv W hA hBv)
  rw [hr] at HDo
  have HOp := hid (fun W => refOp_any nm W)
  have e0 : execN M (X.set 0 0) pc (i : Int) d a b n = ⟨M, setR (X.set 0 0) d r, p4, 0, 0, 0⟩ := by
    have h := Hcl.out
    have hd : doR M (X.set 0 0) pc (i : Int) d a b n = (M, setR (X.set 0 0) d r, 0, 0) := by
      unfold doR
      rw [if_neg (by omega), if_neg (by omega), if_neg (by omega), if_neg (by omega), if_neg (by omega), if_pos hlb, hop, HAe.out, HBe.out, hr]
    rw [exec_do (by omega), hd, if_pos rfl, Hp4.out]
    unfold evN
    rw [if_neg (by omega), if_neg (by omega)]
  have E0 := hid e0
  clear e0 Hrow hnb hlb hop hr hix ho3
  go_upto_region 52 with (fail)
  refine wp_region_quiet_tail 10 (fun w' => ∃ k, w' = aft W6 k) (by kernel_rfl) (by kernel_rfl) (aft_drew _) ?_
  simp only [List.take_succ_cons, List.take_zero, List.drop_succ_cons, List.drop_zero]
  refine quiet_val (.agg (stCells (X.set 0 0) pc)) rfl (fun w' hC => ?_) ?_
  · obtain ⟨k, rfl⟩ := hC
    exact exec_load_row 58 (.tmp 3) rfl (u.heap.size + 1) rfl 58 _ (0, 0) _ ((aft_heap (blk_lt' I6.out.b3)).trans I6.out.b3) Tryz.underlying58 rfl (infoState7 HX0.out pc)
  simp only [ps]
  refine quiet_val (.pointer (some ⟨G, 1, none⟩)) rfl (fun w' hC => by kernel_rfl) ?_
  simp only [ps]
  refine quiet_val (.int .i64 d) rfl (fun w' hC => by obtain ⟨k, rfl⟩ := hC; go_simp) ?_
  simp only [ps]
  refine quiet_val (.pointer (some ⟨z, 0, none⟩)) rfl (fun w' hC => by kernel_rfl) ?_
  simp only [ps]
  refine quiet_val (.string ⟨nm.toArray⟩) rfl (fun w' hC => by obtain ⟨k, rfl⟩ := hC; go_simp) ?_
  simp only [ps]
  refine quiet_call (.int .i64 (nameIdx nm)) (f := 55) (args := #[.string ⟨nm.toArray⟩]) rfl (fun w' hC => by kernel_rfl) (fun w' hC => by obtain ⟨k, rfl⟩ := hC; exact aft_call (HOp.out _)) ?_
  simp only [ps]
  refine quiet_val (.int .u64 A) rfl (fun w' hC => by kernel_rfl) ?_
  simp only [ps]
  refine quiet_val (.int .u64 Bv) rfl (fun w' hC => by kernel_rfl) ?_
  simp only [ps]
  refine quiet_call (.int .u64 r) (f := 54) (args := #[.int .i64 (nameIdx nm), .int .u64 A, .int .u64 Bv]) rfl (fun w' hC => by kernel_rfl) (fun w' hC => by obtain ⟨k, rfl⟩ := hC; exact aft_call (HDo.out _)) ?_
  simp only [ps]
  refine quiet_call (.agg (stCells (setR (X.set 0 0) d r) pc)) (f := 48) (args := #[.agg (stCells (X.set 0 0) pc), .int .i64 d, .int .u64 r]) rfl (fun w' hC => by kernel_rfl) (fun w' hC => by obtain ⟨k, rfl⟩ := hC; exact aft_call (refSet_any (X.set 0 0) pc d r _ HX0.out hd hrl)) ?_
  simp only [ps]
  refine wpQuiet_nil ?_
  intro W7 hW7
  obtain ⟨k7, rfl⟩ := hW7
  obtain ⟨W7, hW7⟩ : ∃ W7, aft W6 k7 = W7 := ⟨_, rfl⟩
  have hb7 : Below W6.heap.size W6 W7 := by rw [← hW7]; exact aft_below W6 k7
  rw [hW7]
  have I7 := hid (I6.out.below hb7)
  have OF7 := hid ((hb7.block _ (blk_lt' OF.out)).trans OF.out)
  have HXn : Hid (Regs (setR (X.set 0 0) d (r))) := hid (HX0.out.setR d _ hrl)
  clear hW7 hb7 I6 OF lG lz lS lO cpc jd kn kl ko HK6 HT6
  refine wpList_store_row rfl 58 (.tmp 19) (.tmp 259) rfl O (stCells (setR (X.set 0 0) d (r)) pc) rfl rfl 58 _ OF7.out (infoState7 HXn.out pc) ((stCells_size HX0.out _).trans (stCells_size HXn.out _).symm) (stCells_one _ _) ?_
  simp only [ps]
  have I8 := hid (I7.out.rowO (g := O) hO (stCells (setR (X.set 0 0) d (r)) pc))
  have OF8 : Hid (St7 (W7.setRow O (stCells (setR (X.set 0 0) d (r)) pc)) O (setR (X.set 0 0) d (r)) pc) := hid (setRow_heap _ _ _ _ _ _ OF7.out)
  generalize W7.setRow O (stCells (setR (X.set 0 0) d (r)) pc) = W8 at I8 OF8 ⊢
  clear I7 OF7
  go_wp2_with fail
  refine Met.intro ?_
  go_step
  refine ⟨sl, M, (setR (X.set 0 0) d r), p4, 0, O, I8, OF8, hid (HS.out _), HXn, hO, hp4l, hid (by rw [Hs.out, E0.out, if_pos (by omega)]), ?_⟩
  unfold FrameB FrameG
  (repeat apply Exists.intro); rfl
set_option maxHeartbeats 4000000 in
set_option maxRecDepth 100000 in
theorem refSw_i {u : World} {sl : Value} {M : List Pg} {q : Int} {X : List Nat} {pc i d a b : Nat} {n : Int} {nm : List UInt8} {l : Int} {o f3 f7 A Bv im p4 G z O : Nat} {W6 : World} {act : Act} (h : Mid u sl M q X pc i d a b n nm l o f3 f7 A Bv im p4 G z O W6) (hF : FrameOf (.pointer (some ⟨u.heap.size, 0, none⟩)) (.pointer (some ⟨u.heap.size + 1, 0, none⟩)) (.pointer (some ⟨u.heap.size + 2, 0, none⟩)) (.pointer (some ⟨u.heap.size + 3, 0, none⟩)) (.pointer (some ⟨G, 0, none⟩)) (.pointer (some ⟨z, 0, none⟩)) (.int .u64 A) (.int .u64 Bv) (.int .u64 im) (.int .u64 p4) (.pointer (some ⟨O, 0, none⟩)) (.int .i64 0) act) (hcl : 21 ≤ i ∧ i ≤ 33) :
    (stepC 12).wp Tryz.prog (bodyPost Tryz.prog Tryz.f18 (RefPost q (stepN M X pc) u)) act W6 := by
  obtain ⟨hM2, hp, h4p, hi, hd, ha, hb, Hs, Hrow, HX0, HG, HS, hA, hBv, HAe, HBe, Him, himl, hp4i, hp4l, hp4m, Hp4, I6, HK6, HT6, OF, hO, hGO, hzO, lG, lz, lS, lO, cpc, jd, kn, kl, ko⟩ := h
  have Hcl := hid hcl
  have hp64 : pc < 18446744073709551616 := by omega
  have hpi : ¬ (1099511627776 : Int) ≤ (pc : Int) := by omega
  clear hcl
  rw [show stepC 12 = .seq (headC (stepC 12)) (stepC 13) from rfl]
  refine wp_seq (wp_cut (FinR u q (X.set 0 0) pc (stepN M X pc)) (fun _ _ hh => refStep_fin HX0 hh) ?_)
  intro _ _ _ _
  unfold FrameOf at hF
  iterate 71 (obtain ⟨_, hF⟩ := hF)
  subst hF
  conv => arg 2; whnf
  obtain ⟨q1, q2, q3, q4⟩ := names4 i hi (by have := Hcl.out; omega)
  rw [Hrow.out] at q1 q2 q3 q4
  obtain ⟨hll, ho3, q5, q6⟩ := letM i hi Hcl.out.1 Hcl.out.2
  have hix := idxI i hi Hcl.out.1 Hcl.out.2
  have hrp := repI i hi Hcl.out.1 Hcl.out.2
  rw [Hrow.out] at hll ho3 q5 q6 hix hrp
  simp only at hll ho3 q5 q6 hix hrp
  have kB : ((letterB l : UInt8) == 66) = false ∧ ((letterB l : UInt8) == 83) = false ∧ ((letterB l : UInt8) == 82) = false := by rcases hll with h | h | h <;> subst h <;> decide
  obtain ⟨kB1, kB2, kB3⟩ := kB
  have ho3i : ((o : Int) == 3) = false := by rw [beq_eq_false_iff_ne]; exact ho3
  have hnb : nameB (i : Int) = nm := by unfold nameB; rw [if_pos ⟨by omega, by omega⟩, Int.toNat_natCast, Hrow.out]
  have hlb : letterI (i : Int) ≠ 82 := by unfold letterI; rw [if_pos ⟨by omega, by omega⟩, Int.toNat_natCast, Hrow.out]; simp only; rcases hll with h | h | h <;> subst h <;> decide
  obtain ⟨fm, hfm⟩ : ∃ fm, nm.filter (fun c => c != 105) = fm := ⟨_, rfl⟩
  have Hfm := hid hfm
  have hop : operN (i : Int) = nameIdx fm := by unfold operN; rw [if_neg hlb, hnb, hrp, hfm]; rw [hfm] at hix; omega
  obtain ⟨r, hr⟩ : ∃ r, doN (nameIdx fm) A im = r := ⟨_, rfl⟩
  have hrl : r < 18446744073709551616 := by rw [← hr]; exact doN_any_lt _ _ _ hA himl
  have HDo := hid (fun W => refDo_any (nameIdx fm) A im W hA himl)
  rw [hr] at HDo
  have HOp := hid (fun W => refOp_any fm W)
  have e0 : execN M (X.set 0 0) pc (i : Int) d a b n = ⟨M, setR (X.set 0 0) d r, p4, 0, 0, 0⟩ := by
    have h := Hcl.out
    have hd : doR M (X.set 0 0) pc (i : Int) d a b n = (M, setR (X.set 0 0) d r, 0, 0) := by
      unfold doR
      rw [if_neg (by omega), if_neg (by omega), if_neg (by omega), if_neg (by omega), if_neg (by omega), if_neg hlb, hop, HAe.out, Him.out, hr]
    rw [exec_do (by omega), hd, if_pos rfl, Hp4.out]
    unfold evN
    rw [if_neg (by omega), if_neg (by omega)]
  have E0 := hid e0
  have hlen := nameB_short (i : Int)
  rw [hnb] at hlen
  have hsz : (⟨nm.toArray⟩ : ByteArray).size = nm.length := by simp [ByteArray.size]
  clear e0 Hrow hnb hlb hop hr hix ho3 hrp hll hfm
  go_upto_region 16 with (fail)
  go_wp2_with fail
  go_loopw [27, 28] (fun v i wr => ∃ k : Nat, k ≤ nm.length ∧ i = .int .i64 k ∧ v = .string ⟨((nm.take k).filter (fun c => c != 105)).toArray⟩ ∧ wr = W6) (fun _ i _ => nm.length - (RowKit.intOf i).toNat)
  case atStart => exact ⟨0, by omega, rfl, rfl, rfl⟩
  case round =>
  obtain ⟨k, hk, rfl, rfl, hwr⟩ := hrel
  have hwr2 := hwr.symm
  clear hwr
  subst hwr2
  by_cases hlt : k < nm.length
  · have hk2 : k < (⟨nm.toArray⟩ : ByteArray).size := by rw [hsz]; exact hlt
    have htk : nm.take (k + 1) = nm.take k ++ [nm[k]] := (List.take_append_getElem hlt).symm
    obtain ⟨c, hc⟩ : ∃ c, (⟨nm.toArray⟩ : ByteArray)[k]'hk2 = c := ⟨_, rfl⟩
    have hc' : nm[k] = c := hc
    by_cases h105 : c = 105
    · have Hnext : Hid ((nm.take (k + 1)).filter (fun c => c != 105) = (nm.take k).filter (fun c => c != 105)) := hid (by rw [htk, hc', h105, List.filter_append]; simp)
      have e2 : (c.toNat : Int) = 105 := by rw [h105]; rfl
      clear htk hc' h105
      go_wp2_with fail
      go_roundw
      case rel => exact ⟨k + 1, by omega, by go_num, by rw [Hnext.out], by trivial⟩
      case measure => simp [RowKit.intOf]; omega
    · have hcn : c.toNat ≠ 105 := fun h => h105 (UInt8.toNat_inj.1 h)
      have e2 : ((c.toNat : Int) == 105) = false := by rw [beq_eq_false_iff_ne]; omega
      have e3 : ((c.toNat : Int) != 105) = true := by rw [bne_iff_ne]; omega
      have Hnext : Hid ((⟨((nm.take k).filter (fun c => c != 105)).toArray⟩ : ByteArray) ++ (⟨nm.toArray⟩ : ByteArray).extract k (k + 1) = ⟨((nm.take (k + 1)).filter (fun c => c != 105)).toArray⟩) := hid (by
        have h2 : (nm.drop k).take 1 = [nm[k]] := by rw [List.drop_eq_getElem_cons hlt]; rfl
        rw [htk, List.filter_append, show [nm[k]].filter (fun c => c != 105) = (nm.drop k).take 1 from by rw [h2, hc']; simp [h105]]
        apply ByteArray.ext
        apply Array.ext'
        simp only [ByteArray.data_append, ByteArray.data_extract, Array.toList_append, Array.toList_extract, List.extract_eq_take_drop, Nat.add_sub_cancel_left])
      have hsb : (⟨((nm.take k).filter (fun c => c != 105)).toArray⟩ : ByteArray).size ≤ 100 := by
        have h1 := List.length_filter_le (fun c : UInt8 => c != 105) (nm.take k)
        have h2 : (nm.take k).length ≤ nm.length := by simp; omega
        simp only [ByteArray.size, List.size_toArray]
        omega
      have hse : ((⟨nm.toArray⟩ : ByteArray).extract k (k + 1)).size = 1 := by rw [ByteArray.size_extract]; omega
      clear htk hc' h105 hcn
      go_wp2_with fail
      go_roundw
      case rel => exact ⟨k + 1, by omega, by go_num, by rw [← Hnext.out], by trivial⟩
      case measure => simp [RowKit.intOf]; omega
  · obtain rfl : k = nm.length := by omega
    rw [List.take_length, Hfm.out]
    go_upto_region 21 with (fail)
    refine wp_region_quiet_tail 9 (fun w' => ∃ k, w' = aft W6 k) (by kernel_rfl) (by kernel_rfl) (aft_drew _) ?_
    simp only [List.take_succ_cons, List.take_zero, List.drop_succ_cons, List.drop_zero]
    refine quiet_val (.agg (stCells (X.set 0 0) pc)) rfl (fun w' hC => ?_) ?_
    · obtain ⟨k, rfl⟩ := hC
      exact exec_load_row 58 (.tmp 3) rfl (u.heap.size + 1) rfl 58 _ (0, 0) _ ((aft_heap (blk_lt' I6.out.b3)).trans I6.out.b3) Tryz.underlying58 rfl (infoState7 HX0.out pc)
    simp only [ps]
    refine quiet_val (.pointer (some ⟨G, 1, none⟩)) rfl (fun w' hC => by kernel_rfl) ?_
    simp only [ps]
    refine quiet_val (.int .i64 d) rfl (fun w' hC => by obtain ⟨k, rfl⟩ := hC; go_simp) ?_
    simp only [ps]
    refine quiet_val (.string ⟨fm.toArray⟩) rfl (fun w' hC => by kernel_rfl) ?_
    simp only [ps]
    refine quiet_call (.int .i64 (nameIdx fm)) (f := 55) (args := #[.string ⟨fm.toArray⟩]) rfl (fun w' hC => by kernel_rfl) (fun w' hC => by obtain ⟨k, rfl⟩ := hC; exact aft_call (HOp.out _)) ?_
    simp only [ps]
    refine quiet_val (.int .u64 A) rfl (fun w' hC => by kernel_rfl) ?_
    simp only [ps]
    refine quiet_val (.int .u64 im) rfl (fun w' hC => by kernel_rfl) ?_
    simp only [ps]
    refine quiet_call (.int .u64 r) (f := 54) (args := #[.int .i64 (nameIdx fm), .int .u64 A, .int .u64 im]) rfl (fun w' hC => by kernel_rfl) (fun w' hC => by obtain ⟨k, rfl⟩ := hC; exact aft_call (HDo.out _)) ?_
    simp only [ps]
    refine quiet_call (.agg (stCells (setR (X.set 0 0) d r) pc)) (f := 48) (args := #[.agg (stCells (X.set 0 0) pc), .int .i64 d, .int .u64 r]) rfl (fun w' hC => by kernel_rfl) (fun w' hC => by obtain ⟨k, rfl⟩ := hC; exact aft_call (refSet_any (X.set 0 0) pc d r _ HX0.out hd hrl)) ?_
    simp only [ps]
    refine wpQuiet_nil ?_
    intro W7 hW7
    obtain ⟨k7, rfl⟩ := hW7
    obtain ⟨W7, hW7⟩ : ∃ W7, aft W6 k7 = W7 := ⟨_, rfl⟩
    have hb7 : Below W6.heap.size W6 W7 := by rw [← hW7]; exact aft_below W6 k7
    rw [hW7]
    have I7 := hid (I6.out.below hb7)
    have OF7 := hid ((hb7.block _ (blk_lt' OF.out)).trans OF.out)
    have HXn : Hid (Regs (setR (X.set 0 0) d (r))) := hid (HX0.out.setR d _ hrl)
    clear hW7 hb7 I6 OF lG lz lS lO cpc jd kn kl ko HK6 HT6
    refine wpList_store_row rfl 58 (.tmp 19) (.tmp 111) rfl O (stCells (setR (X.set 0 0) d (r)) pc) rfl rfl 58 _ OF7.out (infoState7 HXn.out pc) ((stCells_size HX0.out _).trans (stCells_size HXn.out _).symm) (stCells_one _ _) ?_
    simp only [ps]
    have I8 := hid (I7.out.rowO (g := O) hO (stCells (setR (X.set 0 0) d (r)) pc))
    have OF8 : Hid (St7 (W7.setRow O (stCells (setR (X.set 0 0) d (r)) pc)) O (setR (X.set 0 0) d (r)) pc) := hid (setRow_heap _ _ _ _ _ _ OF7.out)
    generalize W7.setRow O (stCells (setR (X.set 0 0) d (r)) pc) = W8 at I8 OF8 ⊢
    clear I7 OF7
    go_wp2_with fail
    refine Met.intro ?_
    go_step
    refine ⟨sl, M, (setR (X.set 0 0) d r), p4, 0, O, I8, OF8, hid (HS.out _), HXn, hO, hp4l, hid (by rw [Hs.out, E0.out, if_pos (by omega)]), ?_⟩
    unfold FrameB FrameG
    (repeat apply Exists.intro); rfl
end
end Go.Proofs.YtiemingpbommeaaGreatDoor
