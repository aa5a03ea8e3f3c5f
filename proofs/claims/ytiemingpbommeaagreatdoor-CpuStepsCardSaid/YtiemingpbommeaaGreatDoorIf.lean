/- The document's step: stores. -/
import Derived.Test.YtiemingpbommeaaGreatDoorIc
namespace Go.Proofs.YtiemingpbommeaaGreatDoor
open Go Go.RowKit
noncomputable section
set_option linter.unusedVariables false
set_option linter.unusedSimpArgs false
theorem storeN_fail {M : List Pg} {x n : Nat} {k : Int} (h : (storeN M x n k).2.1 ≠ 0) : (storeN M x n k).1 = M := by
  unfold storeN at h ⊢
  split at h
  · rename_i h1
    rw [if_pos h1]
    split at h
    · exact absurd rfl h
    · rename_i h2
      rw [if_neg h2]
  · rename_i h1
    rw [if_neg h1]
theorem StepI.sp {u : World} {sl sl' : Value} {q : Int} {X : List Nat} {pc : Nat} {W : World} (h : StepI u sl q X pc W) : StepI u sl' q X pc (W.setRow u.heap.size #[sl', .int .i64 q]) :=
  ⟨setRow_heap _ _ _ _ _ _ h.b2, (setRow_other _ _ _ _ (by omega)).trans h.b3, (setRow_other _ _ _ _ (by omega)).trans h.b4, (setRow_other _ _ _ _ (by omega)).trans h.b5, below_setRow h.b (Nat.le_refl _) _⟩
section
variable {P : Program} {Q : Exit → Act → World → Prop} {ops : Array Oper}
theorem wpOp_valS {i : Nat} {o : Oper} {v : Value} {K : Act → World → Prop} {a : Act} {w : World} (ho : ops[i]? = some o) (hg : o.guard = none) (hr : (execOp a.eval o).run P w = .ok (.value v) w) (hK : K (a.put o.dst v) w) : wpOp P ops Q i K a w := wpOp_val ho hg hr hK
end
set_option maxHeartbeats 4000000 in
set_option maxRecDepth 100000 in
theorem refSw_store {u : World} {sl : Value} {M : List Pg} {q : Int} {X : List Nat} {pc i d a b : Nat} {n : Int} {nm : List UInt8} {l : Int} {o f3 f7 A Bv im p4 G z O : Nat} {W6 : World} {act : Act} (h : Mid u sl M q X pc i d a b n nm l o f3 f7 A Bv im p4 G z O W6) (hF : FrameOf (.pointer (some ⟨u.heap.size, 0, none⟩)) (.pointer (some ⟨u.heap.size + 1, 0, none⟩)) (.pointer (some ⟨u.heap.size + 2, 0, none⟩)) (.pointer (some ⟨u.heap.size + 3, 0, none⟩)) (.pointer (some ⟨G, 0, none⟩)) (.pointer (some ⟨z, 0, none⟩)) (.int .u64 A) (.int .u64 Bv) (.int .u64 im) (.int .u64 p4) (.pointer (some ⟨O, 0, none⟩)) (.int .i64 0) act) (hcl : 17 ≤ i ∧ i ≤ 20) :
    (stepC 12).wp Tryz.prog (bodyPost Tryz.prog Tryz.f18 (RefPost q (stepN M X pc) u)) act W6 := by
  obtain ⟨hM2, hp, h4p, hi, hd, ha, hb, Hs, Hrow, HX0, HG, HS, hA, hBv, HAe, HBe, Him, himl, hp4i, hp4l, hp4m, Hp4, I6, HK6, HT6, OF, hO, hGO, hzO, lG, lz, lS, lO, cpc, jd, kn, kl, ko⟩ := h
  have Hcl := hid hcl
  have hp64 : pc < 18446744073709551616 := by omega
  have hpi : ¬ (1099511627776 : Int) ≤ (pc : Int) := by omega
  clear hcl
  rw [show stepC 12 = .seq (headC (stepC 12)) (stepC 13) from rfl]
  refine wp_seq (wp_cut (FinR u q (X.set 0 0) pc (stepN M X pc)) (fun _ _ hh => refStep_fin HX0 hh) ?_)
  intro _ _ _ _
  unfold FrameOf at hF
  iterate 71 (obtain ⟨_, hF⟩ := hF)
  subst hF
  conv => arg 2; whnf
  obtain ⟨q1, q2, q3, q4⟩ := names4 i hi (by have := Hcl.out; omega)
  rw [Hrow.out] at q1 q2 q3 q4
  have hll : l = 83 := by have h := letS i hi Hcl.out.1 Hcl.out.2; rw [Hrow.out] at h; exact h
  subst hll
  rw [show letterB 83 = 83 from by decide] at kl
  have hnb : nameB (i : Int) = nm := by unfold nameB; rw [if_pos ⟨by omega, by omega⟩, Int.toNat_natCast, Hrow.out]
  obtain ⟨wd, hwd⟩ : ∃ wd, (widthN (i : Int)).1 = wd := ⟨_, rfl⟩
  have hwd4 : wd = 1 ∨ wd = 2 ∨ wd = 4 ∨ wd = 8 := by
    rw [← hwd]
    unfold widthN
    repeat' split
    all_goals simp
  have hw := fun W => refWidth_any i (by have := Hcl.out.1; omega) Hcl.out.2 W
  rw [hnb, hwd] at hw
  have HW := hid hw
  obtain ⟨x, hx⟩ : ∃ x, adr A im = x := ⟨_, rfl⟩
  have hxl : x < 18446744073709551616 := by rw [← hx]; exact adr_lt _ _
  have hxi : IntKind.u64.wrap ((A : Int) + (im : Int)) = (x : Int) := by rw [u64wn, hx]
  have hst := fun (W : World) (hb : Below u.heap.size u W) => refStore_any 0 sl M q x Bv wd W ((HS.out W).at hb) HG.out hM2 hxl hBv hwd4
  have hfail := @storeN_fail M x Bv (wd : Int)
  rcases hL : storeN M x Bv wd with ⟨M', c, fa⟩
  rw [hL] at hst hfail
  have HSt := hid hst
  have e0 : execN M (X.set 0 0) pc (i : Int) d a b n = if c = 0 then ⟨M', X.set 0 0, p4, 0, 0, 0⟩ else ⟨M, X.set 0 0, pc, 0, c, fa⟩ := by
    have h := Hcl.out
    have hd : doR M (X.set 0 0) pc (i : Int) d a b n = (M', X.set 0 0, c, fa) := by
      unfold doR
      rw [if_neg (by omega), if_neg (by omega), if_neg (by omega), if_pos (by omega), HAe.out, HBe.out, Him.out, hx, hwd, hL]
    rw [exec_do (by omega), hd, Hp4.out]
    have hev : evN (i : Int) = 0 := by unfold evN; rw [if_neg (by omega), if_neg (by omega)]
    rw [hev]
    by_cases hc : c = 0
    · simp [hc]
    · have hM' : M' = M := hfail hc
      simp [hc, hM']
  have E0 := hid e0
  clear e0 Hrow hnb hw hst hL hwd hx hfail
  go_upto_region 36 with (fail)
  go_cut [21, 22, 23] (fun v21 v22 v23 wc => ∃ g sl', v21 = .pointer (some ⟨g, 0, none⟩) ∧ v22 = .int .i64 c ∧ v23 = .int .u64 fa ∧ W6.heap.size ≤ g ∧ Hid (wc.heap[g]? = some (.cells #[sl', .int .i64 q] 54 (0, 0))) ∧ Hid (Below W6.heap.size W6 wc) ∧ Hid (c = 0 → RL W6.heap.size wc sl' M'))
  case first =>
    refine wp_region_allocT 13 8 21 (.cells #[.slice none 0 0, .int .i64 0] 54) (by kernel_rfl) (by kernel_rfl) (by decide) _ rfl rfl (fun a w => by kernel_rfl) ?_
    simp only [List.take_succ_cons, List.take_zero]
    obtain ⟨D, hD⟩ : ∃ D, W6.drew = D := ⟨_, rfl⟩
    have BD : Hid (Below W6.heap.size W6 D) := hid (by rw [← hD]; exact (Below.refl _ _).drew)
    have hDs : D.heap.size = W6.heap.size := by rw [← hD]; rfl
    rw [hD]
    clear hD
    have p2 := hid ((BD.out.block _ (blk_lt' I6.out.b2)).trans I6.out.b2)
    have yk : D.cell? ⟨z, 0, none⟩ = some (.string ⟨nm.toArray⟩) := (BD.out.cell (p := ⟨z, 0, none⟩) lz).trans kn
    have mz : z < D.heap.size := by rw [hDs]; exact lz
    have HuD := hid (I6.out.b.trans (BD.out.mono I6.out.b.size))
    clear kn jd kl ko cpc
    refine mono_val (.agg #[sl, .int .i64 q]) rfl (fun k => exec_load_row 54 (.tmp 2) rfl u.heap.size rfl 54 _ (0, 0) _ ((aft_heap (blk_lt' p2.out)).trans p2.out) Tryz.underlying54 rfl infoSpc) ?_
    simp only [ps]
    refine mono_val (.int .u64 A) rfl (fun k => by kernel_rfl) ?_
    simp only [ps]
    refine mono_val (.int .u64 im) rfl (fun k => by kernel_rfl) ?_
    simp only [ps]
    refine mono_val (.int .u64 x) rfl (fun k => by rw [← hxi]; kernel_rfl) ?_
    simp only [ps]
    refine mono_val (.int .u64 Bv) rfl (fun k => by kernel_rfl) ?_
    simp only [ps]
    refine mono_val (.pointer (some ⟨z, 0, none⟩)) rfl (fun k => by kernel_rfl) ?_
    simp only [ps]
    refine mono_val (.string ⟨nm.toArray⟩) rfl (fun k => by first | (go_simp; done) | (go_simp; rfl)) ?_
    simp only [ps]
    refine mono_call (.int .i64 wd) 51 #[.string ⟨nm.toArray⟩] rfl (fun k => by kernel_rfl) (fun k => (HW.out _).mono (fun e w' h => ⟨h.1, by rw [h.2]; exact Below.refl _ _⟩)) ?_
    simp only [ps]
    refine mono_nil ?_
    have hu4 : u.heap.size ≤ D.heap.size := HuD.out.size
    clear yk mz
    refine ⟨fun g W8 hB hg hbk => ?_, fun W8 hB => ?_⟩
    · simp only [ps]
      change wpAny _ _ _ _ 8 #[true, true, true, true, true, true, true, true, false, false, false, false, false, true, false, false, false] _ _
      refine any1 (i := 8) (by kernel_rfl) ?_
      refine wpOp_callE (fun v W9 => ∃ sl2, v = .tuple #[.agg #[sl2, .int .i64 q], .int .i64 c, .int .u64 fa] ∧ (c = 0 → RL W8.heap.size W9 sl2 M') ∧ sl2.oneCell' = true ∧ Below W8.heap.size W8 W9) rfl rfl (by kernel_rfl) ((HSt.out W8 (I6.out.b.trans (hB.mono I6.out.b.size))).mono (fun e W9 ⟨s2, h1, h2, h4, h3⟩ => ⟨_, h1, s2, rfl, h2, h4, h3⟩)) ?_
      rintro v W9 ⟨sl2, rfl, hrl9, hone2, hb9⟩
      simp only [ps]
      have hgl := blk_lt' hbk
      have hbk9 := (hb9.block _ hgl).trans hbk
      refine wpAny_take (i := 9) (v := .tuple #[.agg #[sl2, .int .i64 q], .int .i64 c, .int .u64 fa]) rfl (by kernel_rfl) (by kernel_rfl) (by kernel_rfl) (fun _ _ _ h => h) (Or.inl ⟨by rfl, fun w => by kernel_rfl⟩) ?_
      simp only [ps]
      refine wpAny_take (i := 10) (v := .agg #[sl2, .int .i64 q]) rfl (by kernel_rfl) (by kernel_rfl) (by kernel_rfl) (fun _ _ _ h => h) (Or.inl ⟨by rfl, fun w => by kernel_rfl⟩) ?_
      simp only [ps]
      refine wpAny_take (i := 11) (v := .int .i64 c) rfl (by kernel_rfl) (by kernel_rfl) (by kernel_rfl) (fun _ _ _ h => h) (Or.inl ⟨by rfl, fun w => by kernel_rfl⟩) ?_
      simp only [ps]
      refine wpAny_take (i := 12) (v := .int .u64 fa) rfl (by kernel_rfl) (by kernel_rfl) (by kernel_rfl) (fun _ _ _ h => h) (Or.inl ⟨by rfl, fun w => by kernel_rfl⟩) ?_
      simp only [ps]
      refine any1 (i := 14) (by kernel_rfl) ?_
      refine wpOp_store_row rfl rfl 54 (.tmp 21) (.tmp 191) rfl (g) #[sl2, .int .i64 q] rfl rfl 54 _ (hbk9) infoSpc rfl (spc_one _ _ hone2) ?_
      simp only [ps]
      refine any1 (i := 15) (by kernel_rfl) ?_
      refine wpOp_valS (v := .int .i64 c) rfl rfl (by kernel_rfl) ?_
      simp only [ps]
      refine any1 (i := 16) (by kernel_rfl) ?_
      refine wpOp_valS (v := .int .u64 fa) rfl rfl (by kernel_rfl) ?_
      simp only [ps]
      refine ⟨by kernel_rfl, ?_⟩
      go_wp2_with fail
      go_meet
      case rel => exact ⟨g, sl2, rfl, rfl, rfl, by omega, hid (setRow_heap _ _ _ _ _ _ hbk9), hid (below_setRow (hB.trans (hb9.mono hB.size)) (by omega) _), hid (fun h0 => rl_setRow (hrl9 h0) hgl (by have := hB.size; omega))⟩
    · change wpAny _ _ _ _ 9 #[true, true, true, true, true, true, true, true, false, false, false, false, false, false, false, false, false] _ _
      refine any2 (i := 8) (j := 13) (by kernel_rfl) ?_ ?_
      · refine wpOp_callE (fun v W9 => ∃ sl2, v = .tuple #[.agg #[sl2, .int .i64 q], .int .i64 c, .int .u64 fa] ∧ (c = 0 → RL W8.heap.size W9 sl2 M') ∧ sl2.oneCell' = true ∧ Below W8.heap.size W8 W9) rfl rfl (by kernel_rfl) ((HSt.out W8 (I6.out.b.trans (hB.mono I6.out.b.size))).mono (fun e W9 ⟨s2, h1, h2, h4, h3⟩ => ⟨_, h1, s2, rfl, h2, h4, h3⟩)) ?_
        rintro v W9 ⟨sl2, rfl, hrl9, hone2, hb9⟩
        simp only [ps]
        refine wpAny_take (i := 9) (v := .tuple #[.agg #[sl2, .int .i64 q], .int .i64 c, .int .u64 fa]) rfl (by kernel_rfl) (by kernel_rfl) (by kernel_rfl) (fun _ _ _ h => h) (Or.inl ⟨by rfl, fun w => by kernel_rfl⟩) ?_
        simp only [ps]
        refine wpAny_take (i := 10) (v := .agg #[sl2, .int .i64 q]) rfl (by kernel_rfl) (by kernel_rfl) (by kernel_rfl) (fun _ _ _ h => h) (Or.inl ⟨by rfl, fun w => by kernel_rfl⟩) ?_
        simp only [ps]
        refine wpAny_take (i := 11) (v := .int .i64 c) rfl (by kernel_rfl) (by kernel_rfl) (by kernel_rfl) (fun _ _ _ h => h) (Or.inl ⟨by rfl, fun w => by kernel_rfl⟩) ?_
        simp only [ps]
        refine wpAny_take (i := 12) (v := .int .u64 fa) rfl (by kernel_rfl) (by kernel_rfl) (by kernel_rfl) (fun _ _ _ h => h) (Or.inl ⟨by rfl, fun w => by kernel_rfl⟩) ?_
        simp only [ps]
        refine any1 (i := 13) (by kernel_rfl) ?_
        refine wpOp_val (w' := W9.alloc (.cells #[.slice none 0 0, .int .i64 0] 54)) (v := .pointer (some ⟨W9.heap.size, 0, none⟩)) rfl rfl (by kernel_rfl) ?_
        simp only [ps]
        refine any1 (i := 14) (by kernel_rfl) ?_
        refine wpOp_store_row rfl rfl 54 (.tmp 21) (.tmp 191) rfl (W9.heap.size) #[sl2, .int .i64 q] rfl rfl 54 _ (heap_alloc_new _ _) infoSpc rfl (spc_one _ _ hone2) ?_
        simp only [ps]
        have hb10 : Below W9.heap.size W9 ((W9.alloc (.cells #[.slice none 0 0, .int .i64 0] 54)).setRow W9.heap.size #[sl2, .int .i64 q]) := below_setRow ((Below.refl _ _).alloc (Nat.le_refl _) _) (Nat.le_refl _) _
        refine any1 (i := 15) (by kernel_rfl) ?_
        refine wpOp_valS (v := .int .i64 c) rfl rfl (by kernel_rfl) ?_
        simp only [ps]
        refine any1 (i := 16) (by kernel_rfl) ?_
        refine wpOp_valS (v := .int .u64 fa) rfl rfl (by kernel_rfl) ?_
        simp only [ps]
        refine ⟨by kernel_rfl, ?_⟩
        go_wp2_with fail
        go_meet
        case rel => exact ⟨W9.heap.size, sl2, rfl, rfl, rfl, by have := hb9.size; have := hB.size; omega, hid (setRow_heap _ _ _ _ _ _ (heap_alloc_new _ _)), hid ((hB.trans (hb9.mono hB.size)).trans (hb10.mono (by have := hb9.size; have := hB.size; omega))), hid (fun h0 => ((hrl9 h0).below hb10).base (by have := hB.size; omega))⟩
      · refine wpOp_val (w' := W8.alloc (.cells #[.slice none 0 0, .int .i64 0] 54)) (v := .pointer (some ⟨W8.heap.size, 0, none⟩)) rfl rfl (by kernel_rfl) ?_
        simp only [ps]
        obtain ⟨V8, hV8⟩ : ∃ V8, W8.alloc (.cells #[.slice none 0 0, .int .i64 0] 54) = V8 := ⟨_, rfl⟩
        have hbk : V8.heap[W8.heap.size]? = some (.cells #[.slice none 0 0, .int .i64 0] 54 (0, 0)) := by rw [← hV8]; exact heap_alloc_new _ _
        have hB2 : Below W6.heap.size W6 V8 := by rw [← hV8]; exact hB.alloc hB.size _
        have hge : W6.heap.size ≤ W8.heap.size := hB.size
        rw [hV8]
        clear hV8 hB
        generalize W8.heap.size = g at hbk hge ⊢
        obtain ⟨W8, rfl⟩ : ∃ W8, W8 = V8 := ⟨_, rfl⟩
        have hB := hB2
        clear hB2
        refine any1 (i := 8) (by kernel_rfl) ?_
        refine wpOp_callE (fun v W9 => ∃ sl2, v = .tuple #[.agg #[sl2, .int .i64 q], .int .i64 c, .int .u64 fa] ∧ (c = 0 → RL W8.heap.size W9 sl2 M') ∧ sl2.oneCell' = true ∧ Below W8.heap.size W8 W9) rfl rfl (by kernel_rfl) ((HSt.out W8 (I6.out.b.trans (hB.mono I6.out.b.size))).mono (fun e W9 ⟨s2, h1, h2, h4, h3⟩ => ⟨_, h1, s2, rfl, h2, h4, h3⟩)) ?_
        rintro v W9 ⟨sl2, rfl, hrl9, hone2, hb9⟩
        simp only [ps]
        have hgl := blk_lt' hbk
        have hbk9 := (hb9.block _ hgl).trans hbk
        refine wpAny_take (i := 9) (v := .tuple #[.agg #[sl2, .int .i64 q], .int .i64 c, .int .u64 fa]) rfl (by kernel_rfl) (by kernel_rfl) (by kernel_rfl) (fun _ _ _ h => h) (Or.inl ⟨by rfl, fun w => by kernel_rfl⟩) ?_
        simp only [ps]
        refine wpAny_take (i := 10) (v := .agg #[sl2, .int .i64 q]) rfl (by kernel_rfl) (by kernel_rfl) (by kernel_rfl) (fun _ _ _ h => h) (Or.inl ⟨by rfl, fun w => by kernel_rfl⟩) ?_
        simp only [ps]
        refine wpAny_take (i := 11) (v := .int .i64 c) rfl (by kernel_rfl) (by kernel_rfl) (by kernel_rfl) (fun _ _ _ h => h) (Or.inl ⟨by rfl, fun w => by kernel_rfl⟩) ?_
        simp only [ps]
        refine wpAny_take (i := 12) (v := .int .u64 fa) rfl (by kernel_rfl) (by kernel_rfl) (by kernel_rfl) (fun _ _ _ h => h) (Or.inl ⟨by rfl, fun w => by kernel_rfl⟩) ?_
        simp only [ps]
        refine any1 (i := 14) (by kernel_rfl) ?_
        refine wpOp_store_row rfl rfl 54 (.tmp 21) (.tmp 191) rfl (g) #[sl2, .int .i64 q] rfl rfl 54 _ (hbk9) infoSpc rfl (spc_one _ _ hone2) ?_
        simp only [ps]
        refine any1 (i := 15) (by kernel_rfl) ?_
        refine wpOp_valS (v := .int .i64 c) rfl rfl (by kernel_rfl) ?_
        simp only [ps]
        refine any1 (i := 16) (by kernel_rfl) ?_
        refine wpOp_valS (v := .int .u64 fa) rfl rfl (by kernel_rfl) ?_
        simp only [ps]
        refine ⟨by kernel_rfl, ?_⟩
        go_wp2_with fail
        go_meet
        case rel => exact ⟨g, sl2, rfl, rfl, rfl, by omega, hid (setRow_heap _ _ _ _ _ _ hbk9), hid (below_setRow (hB.trans (hb9.mono hB.size)) (by omega) _), hid (fun h0 => rl_setRow (hrl9 h0) hgl (by have := hB.size; omega))⟩
  case rest =>
  obtain ⟨g, sl2, rfl, rfl, rfl, hgW, Hg, Hb7, Hrl⟩ := hcut
  have hb7 := Hb7.out
  have hu6 := I6.out.b.size
  have hn6 : u.heap.size + 4 ≤ W6.heap.size := by omega
  have Hrl4 : Hid (c = 0 → RL (u.heap.size + 4) wc sl2 M') := hid (fun h => (Hrl.out h).base hn6)
  have hgu : u.heap.size + 4 ≤ g := by omega
  clear Hb7 Hrl hgW hn6 hxi hu6
  obtain ⟨W7, rfl⟩ : ∃ W7, W7 = wc := ⟨_, rfl⟩
  have I7 := hid (I6.out.below hb7)
  have HK7 := hid ((hb7.block _ (blk_lt' HK6.out)).trans HK6.out)
  have HT7 := hid ((hb7.block _ (blk_lt' HT6.out)).trans HT6.out)
  have OF7 : Hid (St7 W7 O (X.set 0 0) pc) := hid ((hb7.block _ (blk_lt' OF.out)).trans OF.out)
  clear I6 HK6 HT6 OF lG lz lS lO cpc jd kn kl ko hb7
  obtain ⟨W6, rfl⟩ : ∃ W6, W6 = W7 := ⟨_, rfl⟩
  have I6 := I7
  have HK6 := HK7
  have HT6 := HT7
  have OF := OF7
  clear I7 HK7 HT7 OF7
  have lG := blk_lt' HT6.out
  have lz := blk_lt' HK6.out
  have lS := blk_lt' I6.out.b3
  have lO := blk_lt' OF.out
  have cpc := I6.out.b3.cellPc HX0.out
  have jd : W6.cell? ⟨G, 1, none⟩ = some (.int .i64 d) := by rw [cell_of_row W6 _ _ _ _ _ HT6.out]; rfl
  have kn : W6.cell? ⟨z, 0, none⟩ = some (.string ⟨nm.toArray⟩) := by rw [cell_of_row W6 _ _ _ _ _ HK6.out]; rfl
  have kl := True.intro
  have ko := True.intro
  by_cases hc : c = 0
  · have E1 : Hid (execN M (X.set 0 0) pc (i : Int) d a b n = ⟨M', X.set 0 0, p4, 0, 0, 0⟩) := hid (by have h := E0.out; rw [if_pos hc] at h; exact h)
    have Hr6 := hid (Hrl4.out hc)
    subst hc
    clear E0 Hrl4
    go_upto_region 39 with (fail)
    apply wp_region_lit
    refine wpList_load_row rfl 54 (.tmp 21) rfl g rfl 54 #[sl2, .int .i64 q] (0, 0) _ Hg.out Tryz.underlying54 rfl infoSpc ?_
    simp only [ps]
    refine wpList_store_row rfl 54 (.tmp 2) (.tmp 200) rfl u.heap.size #[sl2, .int .i64 q] rfl rfl 54 _ I6.out.b2 infoSpc rfl (spc_one _ _ (RL.one Hr6.out)) ?_
    simp only [ps]
    have I8 := hid (I6.out.sp (sl' := sl2))
    have OF8 : Hid (St7 (W6.setRow u.heap.size #[sl2, .int .i64 q]) O (X.set 0 0) pc) := hid ((setRow_other _ _ _ _ (by omega)).trans OF.out)
    have S8 : Hid (SpAt u (W6.setRow u.heap.size #[sl2, .int .i64 q]) sl2 M') := hid (.inr (rl_setRow Hr6.out (by omega) (Nat.le_refl _)))
    generalize W6.setRow u.heap.size #[sl2, .int .i64 q] = W8 at I8 OF8 S8 ⊢
    clear I6 OF Hr6 Hg lG lz lS lO cpc jd kn kl ko HK6 HT6 HS
    go_wp2_with fail
    refine Met.intro ?_
    go_step
    refine ⟨sl2, M', (X.set 0 0), p4, 0, O, I8, OF8, S8, HX0, hO, hp4l, hid (by rw [Hs.out, E1.out, if_pos (by omega)]), ?_⟩
    unfold FrameB FrameG
    (repeat apply Exists.intro); rfl
  · have hci : ((c : Int) == 0) = false := by rw [beq_eq_false_iff_ne]; omega
    have hcn : ((c : Int) != 0) = true := by rw [bne_iff_ne]; omega
    have Hs2 : Hid (stepN M X pc = ⟨M, X.set 0 0, pc, 0, c, fa⟩) := hid (by rw [Hs.out, E0.out, if_neg hc])
    clear E0 Hg Hrl4
    go_upto_region 38 with (fail)
    refine wp_region_any (by kernel_rfl) ?_
    change wpAny _ _ _ _ _ _ _ (World.drew W6)
    have I9 := hid (I6.out.below (W' := W6.drew) ((Below.refl _ _).drew))
    have S9 := hid (SpAt.below (HS.out _) (W' := W6.drew) ((Below.refl _ _).drew))
    obtain ⟨D, hD⟩ : ∃ D, W6.drew = D := ⟨_, rfl⟩
    rw [hD] at I9 S9 ⊢
    clear hD
    have b4 := I9.out.b4
    have b5 := I9.out.b5
    obtain ⟨D4, hD4⟩ : ∃ D4, D.setRow (u.heap.size + 2) #[sl, .int .i64 q] = D4 := ⟨_, rfl⟩
    have J5 : Hid (D4.heap[u.heap.size + 3]? = some (.cells zst 58 (0, 0))) := hid (by rw [← hD4]; exact (setRow_other _ _ _ _ (by omega)).trans b5)
    obtain ⟨D5, hD5⟩ : ∃ D5, D4.setRow (u.heap.size + 3) (stCells (X.set 0 0) pc) = D5 := ⟨_, rfl⟩
    have P0 : Hid (D.heap[u.heap.size]? = some (.cells #[sl, .int .i64 q] 54 (0, 0))) := hid I9.out.b2
    have P1 : Hid (D4.heap[u.heap.size]? = some (.cells #[sl, .int .i64 q] 54 (0, 0))) := hid (by rw [← hD4]; exact (setRow_other _ _ _ _ (by omega)).trans P0.out)
    have Q0 : Hid (St7 D (u.heap.size + 1) (X.set 0 0) pc) := hid I9.out.b3
    have Q1 : Hid (St7 D4 (u.heap.size + 1) (X.set 0 0) pc) := hid (by rw [← hD4]; exact (setRow_other _ _ _ _ (by omega)).trans Q0.out)
    have J4 : Hid (D5.heap[u.heap.size + 2]? = some (.cells #[sl, .int .i64 q] 54 (0, 0))) := hid (by rw [← hD5, ← hD4]; exact (setRow_other _ _ _ _ (by omega)).trans (setRow_heap _ _ _ _ _ _ b4))
    have J55 : Hid (D5.heap[u.heap.size + 3]? = some (.cells (stCells (X.set 0 0) pc) 58 (0, 0))) := hid (by rw [← hD5]; exact setRow_heap _ _ _ _ _ _ J5.out)
    have HD := hid (refstep_done (q := q) I9.out S9.out (cs := #[sl, .int .i64 q]) (cs' := stCells (X.set 0 0) pc) (stepN M X pc) (by rw [Hs2.out]))
    rw [hD4, hD5] at HD
    have hone := S9.out.one
    have P0' := P0
    refine wpAny_take (i := 2) (v := .int .i64 c) rfl (by kernel_rfl) (by kernel_rfl) (by kernel_rfl) (fun _ _ _ h => h) (Or.inl ⟨by rfl, fun w => by first | kernel_rfl | go_simp⟩) ?_
    simp only [ps]
    refine wpAny_take (i := 3) (v := .int .u64 fa) rfl (by kernel_rfl) (by kernel_rfl) (by kernel_rfl) (fun _ _ _ h => h) (Or.inl ⟨by rfl, fun w => by first | kernel_rfl | go_simp⟩) ?_
    simp only [ps]
    refine any2 (i := 0) (j := 1) (by kernel_rfl) ?_ ?_
    · refine wpOp_val (w' := D) (v := .agg #[sl, .int .i64 q]) rfl rfl (exec_load_row 54 (.tmp 2) rfl u.heap.size rfl 54 _ (0, 0) _ P0.out Tryz.underlying54 rfl infoSpc) ?_
      simp only [ps]
      refine any2 (i := 1) (j := 4) (by kernel_rfl) ?_ ?_
      · refine wpOp_val (w' := D) (v := .agg (stCells (X.set 0 0) pc)) rfl rfl (exec_load_row 58 (.tmp 3) rfl (u.heap.size + 1) rfl 58 _ (0, 0) _ Q0.out Tryz.underlying58 rfl (infoState7 HX0.out pc)) ?_
        simp only [ps]
        refine any1 (i := 4) (by kernel_rfl) ?_
        refine wpOp_store_row rfl rfl 54 (.tmp 4) (.tmp 196) rfl (u.heap.size + 2) #[sl, .int .i64 q] rfl rfl 54 _ b4 infoSpc rfl (spc_one _ _ hone) ?_
        simp only [ps]
        rw [hD4]
        refine any1 (i := 5) (by kernel_rfl) ?_
        refine wpOp_store_row rfl rfl 58 (.tmp 5) (.tmp 197) rfl (u.heap.size + 3) (stCells (X.set 0 0) pc) rfl rfl 58 zst J5.out (infoState7 HX0.out pc) (stCells_size HX0.out _).symm (stCells_one _ _) ?_
        simp only [ps]
        rw [hD5]
        refine any1 (i := 6) (by kernel_rfl) ?_
        refine wpOp_val (w' := D5) (v := .int .i64 0) rfl rfl (by kernel_rfl) ?_
        simp only [ps]
        refine any1 (i := 7) (by kernel_rfl) ?_
        refine wpOp_val (w' := D5) (v := .int .i64 c) rfl rfl (by kernel_rfl) ?_
        simp only [ps]
        refine any1 (i := 8) (by kernel_rfl) ?_
        refine wpOp_val (w' := D5) (v := .int .u64 fa) rfl rfl (by kernel_rfl) ?_
        simp only [ps]
        refine ⟨by kernel_rfl, ?_⟩
        go_wp2_with fail
        refine bodyPost_ret (results_ccttt rfl _ _ (u.heap.size + 2) (u.heap.size + 3) 54 58 #[sl, .int .i64 q] (stCells (X.set 0 0) pc) (0, 0) (0, 0) _ _ rfl rfl J4.out J55.out Tryz.underlying54 rfl infoSpc Tryz.underlying58 rfl (infoState7 HX0.out pc)) rfl ?_
        refine ⟨sl, ?_, HD.out⟩
        (rw [Hs2.out]; rfl)
      · refine wpOp_store_row rfl rfl 54 (.tmp 4) (.tmp 196) rfl (u.heap.size + 2) #[sl, .int .i64 q] rfl rfl 54 _ b4 infoSpc rfl (spc_one _ _ hone) ?_
        simp only [ps]
        rw [hD4]
        refine any1 (i := 1) (by kernel_rfl) ?_
        refine wpOp_val (w' := D4) (v := .agg (stCells (X.set 0 0) pc)) rfl rfl (exec_load_row 58 (.tmp 3) rfl (u.heap.size + 1) rfl 58 _ (0, 0) _ Q1.out Tryz.underlying58 rfl (infoState7 HX0.out pc)) ?_
        simp only [ps]
        refine any1 (i := 5) (by kernel_rfl) ?_
        refine wpOp_store_row rfl rfl 58 (.tmp 5) (.tmp 197) rfl (u.heap.size + 3) (stCells (X.set 0 0) pc) rfl rfl 58 zst J5.out (infoState7 HX0.out pc) (stCells_size HX0.out _).symm (stCells_one _ _) ?_
        simp only [ps]
        rw [hD5]
        refine any1 (i := 6) (by kernel_rfl) ?_
        refine wpOp_val (w' := D5) (v := .int .i64 0) rfl rfl (by kernel_rfl) ?_
        simp only [ps]
        refine any1 (i := 7) (by kernel_rfl) ?_
        refine wpOp_val (w' := D5) (v := .int .i64 c) rfl rfl (by kernel_rfl) ?_
        simp only [ps]
        refine any1 (i := 8) (by kernel_rfl) ?_
        refine wpOp_val (w' := D5) (v := .int .u64 fa) rfl rfl (by kernel_rfl) ?_
        simp only [ps]
        refine ⟨by kernel_rfl, ?_⟩
        go_wp2_with fail
        refine bodyPost_ret (results_ccttt rfl _ _ (u.heap.size + 2) (u.heap.size + 3) 54 58 #[sl, .int .i64 q] (stCells (X.set 0 0) pc) (0, 0) (0, 0) _ _ rfl rfl J4.out J55.out Tryz.underlying54 rfl infoSpc Tryz.underlying58 rfl (infoState7 HX0.out pc)) rfl ?_
        refine ⟨sl, ?_, HD.out⟩
        (rw [Hs2.out]; rfl)
    · refine wpOp_val (w' := D) (v := .agg (stCells (X.set 0 0) pc)) rfl rfl (exec_load_row 58 (.tmp 3) rfl (u.heap.size + 1) rfl 58 _ (0, 0) _ Q0.out Tryz.underlying58 rfl (infoState7 HX0.out pc)) ?_
      simp only [ps]
      refine any1 (i := 0) (by kernel_rfl) ?_
      refine wpOp_val (w' := D) (v := .agg #[sl, .int .i64 q]) rfl rfl (exec_load_row 54 (.tmp 2) rfl u.heap.size rfl 54 _ (0, 0) _ P0.out Tryz.underlying54 rfl infoSpc) ?_
      simp only [ps]
      refine any1 (i := 4) (by kernel_rfl) ?_
      refine wpOp_store_row rfl rfl 54 (.tmp 4) (.tmp 196) rfl (u.heap.size + 2) #[sl, .int .i64 q] rfl rfl 54 _ b4 infoSpc rfl (spc_one _ _ hone) ?_
      simp only [ps]
      rw [hD4]
      refine any1 (i := 5) (by kernel_rfl) ?_
      refine wpOp_store_row rfl rfl 58 (.tmp 5) (.tmp 197) rfl (u.heap.size + 3) (stCells (X.set 0 0) pc) rfl rfl 58 zst J5.out (infoState7 HX0.out pc) (stCells_size HX0.out _).symm (stCells_one _ _) ?_
      simp only [ps]
      rw [hD5]
      refine any1 (i := 6) (by kernel_rfl) ?_
      refine wpOp_val (w' := D5) (v := .int .i64 0) rfl rfl (by kernel_rfl) ?_
      simp only [ps]
      refine any1 (i := 7) (by kernel_rfl) ?_
      refine wpOp_val (w' := D5) (v := .int .i64 c) rfl rfl (by kernel_rfl) ?_
      simp only [ps]
      refine any1 (i := 8) (by kernel_rfl) ?_
      refine wpOp_val (w' := D5) (v := .int .u64 fa) rfl rfl (by kernel_rfl) ?_
      simp only [ps]
      refine ⟨by kernel_rfl, ?_⟩
      go_wp2_with fail
      refine bodyPost_ret (results_ccttt rfl _ _ (u.heap.size + 2) (u.heap.size + 3) 54 58 #[sl, .int .i64 q] (stCells (X.set 0 0) pc) (0, 0) (0, 0) _ _ rfl rfl J4.out J55.out Tryz.underlying54 rfl infoSpc Tryz.underlying58 rfl (infoState7 HX0.out pc)) rfl ?_
      refine ⟨sl, ?_, HD.out⟩
      (rw [Hs2.out]; rfl)
end
end Go.Proofs.YtiemingpbommeaaGreatDoor
