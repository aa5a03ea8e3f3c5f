/- The document's step: any state, any space in order. -/
import Derived.Test.YtiemingpbommeaaGreatDoorIc
import Derived.Test.YtiemingpbommeaaGreatDoorId
import Derived.Test.YtiemingpbommeaaGreatDoorIe
import Derived.Test.YtiemingpbommeaaGreatDoorIf
import Derived.Test.YtiemingpbommeaaGreatDoorHw
import Derived.Test.YtiemingpbommeaaGreatDoorHn
namespace Go.Proofs.YtiemingpbommeaaGreatDoor
open Go Go.RowKit
noncomputable section
set_option linter.unusedVariables false
set_option linter.unusedSimpArgs false
theorem fetch_good {M : List Pg} {pc v f : Nat} (h : fetchN M pc = (v, 0, f)) : pc % 4 = 0 ∧ v < 4294967296 := by
  unfold fetchN at h
  split at h
  · rename_i h4
    refine ⟨h4, ?_⟩
    split at h
    · have h1 := congrArg (fun r => r.1) h
      simp only at h1
      rw [← h1]
      exact getL4 _ (bytesN_length _ _ _)
    · have h1 := congrArg (fun r => r.1) h
      simp only at h1
      omega
  · have h1 := congrArg (fun r => r.2.1) h
    simp at h1
theorem refStep_any (B : Nat) (sl : Value) (M : List Pg) (q : Int) (X : List Nat) (pc : Nat) (u : World) (hR : RL B u sl M) (hG : Good M) (hM2 : M.length ≤ 4096) (hX : Regs X) :
    Calls Tryz.prog 18 #[.agg #[sl, .int .i64 q], .agg (stCells X pc)] u (RefPost q (stepN M X pc) u) := by
  have hS : ∀ W, SpAt u W sl M := fun W => .inl (hR.base (Nat.zero_le _))
  refine refStep_enter sl M q X pc u hX _ (fun act W1 hI hF => ?_)
  by_cases hp : 1099511627776 ≤ pc
  · exact refStep_trap sl M q X pc u W1 act hI hF hX hS hp
  have hp' : pc < 1099511627776 := by omega
  rcases hf : fetchN M pc with ⟨v, c, f⟩
  by_cases hc : c = 0
  · subst hc
    obtain ⟨h4p, hv⟩ := fetch_good hf
    rcases decN_regs v with ⟨o, d, a, b, n, h⟩ | ⟨o, d, a, b, n, h, hd, ha, hb⟩
    · exact refStep_none sl M q X pc u W1 act hI hF hX hS hG hp' v f hv hf o d a b n h
    obtain ⟨i, hi, h0⟩ : ∃ i : Nat, i < 64 ∧ o = i := by
      rcases decN_cases v with ⟨e, _⟩ | ⟨i, hi, _, _, e⟩
      · rw [h] at e; cases e
      · exact ⟨i, hi, by rw [h] at e; have := congrArg (fun q => q.1.1) e; exact this⟩
    subst h0
    refine refStep_main sl M q X pc u W1 act hI hF hX hS hG hM2 hp' v f hv hf h4p i d a b n h hi hd ha hb (fun nm l o f3 f7 A Bv im p4 G z O W6 act h hF => ?_)
    by_cases k0 : i = 0
    · exact refSw_lui h hF k0
    by_cases k1 : i = 1
    · exact refSw_auipc h hF k1
    by_cases k2 : i = 2
    · exact refSw_jal h hF k2
    by_cases k3 : i = 3
    · exact refSw_jalr h hF k3
    by_cases k4 : i ≤ 9
    · exact refSw_branch h hF (by omega)
    by_cases k5 : i ≤ 16
    · exact refSw_load h hF (by omega)
    by_cases k6 : i ≤ 20
    · exact refSw_store h hF (by omega)
    by_cases k7 : i ≤ 33
    · exact refSw_i h hF (by omega)
    by_cases k8 : i ≤ 61
    · exact refSw_r h hF (by omega)
    by_cases k9 : i = 62
    · exact refSw_ecall h hF k9
    · exact refSw_ebreak h hF (by omega)
  · exact refStep_fault sl M q X pc u W1 act hI hF hX hS hG hp' v c f hf hc
end
end Go.Proofs.YtiemingpbommeaaGreatDoor

/- The law's own 'same': a space and the document's list of the same pages: true. -/
namespace Go.Proofs.YtiemingpbommeaaGreatDoor
open Go Go.RowKit
noncomputable section
set_option linter.unusedVariables false
set_option linter.unusedSimpArgs false
theorem pgOf_at {M : List Pg} (hG : Good M) {k y : Nat} (hk : k < M.length) (h : M[k].a = y - y % 256) : pgOf M y = some M[k] := by
  unfold pgOf
  rw [List.find?_eq_some_iff_getElem]
  refine ⟨by simpa using h, k, hk, rfl, fun i hi => ?_⟩
  have hne := List.pairwise_iff_getElem.1 hG.nd i k (by omega) hk hi
  simp only [beq_iff_eq, Bool.not_eq_true', beq_eq_false_iff_ne]
  intro e
  exact hne (e.trans h.symm)
theorem peek_page {M : List Pg} (hG : Good M) {k : Nat} (hk : k < M.length) : peekN M M[k].a 256 = (M[k].b, 0, 0) := by
  have hal := hG.al _ (List.getElem_mem hk)
  have htop := hG.top _ (List.getElem_mem hk)
  have hlen := hG.len _ (List.getElem_mem hk)
  have hadr : ∀ i, i < 256 → adr M[k].a i = M[k].a + i := fun i hi => by unfold adr; omega
  have hpg : ∀ i, i < 256 → pgOf M (adr M[k].a i) = some M[k] := fun i hi => pgOf_at hG hk (by rw [hadr i hi]; omega)
  unfold peekN
  rw [mayN_all0 (fun i hi => by rw [hpg i hi]; rfl), if_pos rfl]
  have hb : bytesN M M[k].a 256 = M[k].b := by
    have e : bytesN M M[k].a 256 = (List.range 256).map (fun i => M[k].b.getD i 0) := by
      unfold bytesN
      apply List.map_congr_left
      intro i hi
      have hi := List.mem_range.1 hi
      unfold byteN
      rw [hpg i hi]
      simp only
      rw [hadr i hi, show (M[k].a + i) % 256 = i by omega]
    rw [e]
    apply List.ext_getElem
    · simp [hlen]
    · intro i h1 h2
      rw [List.getElem_map, List.getElem_range, List.getD_eq_getElem?_getD, List.getElem?_eq_getElem h2, Option.getD_some]
  rw [hb]
set_option maxHeartbeats 4000000 in
set_option maxRecDepth 100000 in
theorem lawSame_any (sp m : Nat) (sl : Value) (q : Int) (ps : List (Pg × Nat)) (B : Nat) (rsl : Value) (q2 : Int) (w : World) (hS : SpaceIs w sp m sl q ps) (hR : RL B w rsl (pgs ps)) :
    Calls Tryz.prog 19 #[.pointer (some ⟨sp, 0, none⟩), .agg #[rsl, .int .i64 q2]] w fun e w' => e = .returned (.bool true) ∧ Below w.heap.size w w' := by
  obtain ⟨p, c, rfl, hml, hc⟩ := hR.parts
  have Hc := hid hc
  have HS := hid hS
  have HG : Hid (Good (pgs ps)) := hid hS.good
  obtain ⟨M, hM⟩ : ∃ M, pgs ps = M := ⟨_, rfl⟩
  have HM := hid hM
  rw [hM] at Hc HG hml ⊢
  clear hR hc hS hM
  go_enter Tryz.func19, Tryz.ntmps19
  go_wp2_with fail
  go_loopw [5] (fun i wr => ∃ k : Nat, k ≤ M.length ∧ i = .int .i64 k ∧ Hid (wr.heap[w.heap.size]? = some (.cells #[.slice p M.length c, .int .i64 q2] 54 (0, 0))) ∧ Hid (Below w.heap.size w wr)) (fun i _ => M.length - (RowKit.intOf i).toNat)
  case atStart => exact ⟨0, by omega, rfl, hid (heap_alloc_new _ _), hid ((Below.refl _ _).alloc (Nat.le_refl _) _)⟩
  case round =>
    obtain ⟨k, hk, rfl, Hbox, HB⟩ := hrel
    have b0 : wr.cell? ⟨w.heap.size, 0, none⟩ = some (.slice p M.length c) := by rw [cell_of_row wr _ _ _ _ _ Hbox.out]; rfl
    have l0 := blk_lt' Hbox.out
    by_cases hlt : k < M.length
    · obtain ⟨g, rfl, hgl, _, hcs⟩ := Hc.out (by omega)
      obtain ⟨ca, _, cb⟩ := hcs k hlt
      have hget : M.getD k ⟨0, 0, []⟩ = M[k] := by rw [List.getD_eq_getElem?_getD, List.getElem?_eq_getElem hlt, Option.getD_some]
      rw [hget] at ca cb
      have hpe := peek_page HG.out hlt
      have hpk := peek_any sp m sl q ps M[k].a 256 wr (HG.out.top _ (List.getElem_mem hlt)) (by decide) (HS.out.below HB.out)
      unfold PeekPost at hpk
      rw [HM.out, hpe] at hpk
      have Hpk := hid hpk
      have ca1 : wr.cell? ⟨g, k * 3, none⟩ = some (.int .u64 (M[k].a : Int)) := (HB.out.cell (p := ⟨g, k * 3, none⟩) hgl).trans ca
      have cb1 := hid ((HB.out.cell (p := ⟨g, k * 3 + 2, none⟩) hgl).trans cb)
      have hgr : g < wr.heap.size := Nat.lt_of_lt_of_le hgl HB.out.size
      clear hpe hpk ca cb hcs hget
      generalize M[k].a = a at *
      generalize M[k].b = bs at *
      go_upto_region 4 with (fail)
      apply wp_region_lit
      refine wpList_val (w' := wr) (.pointer (some ⟨sp, 0, none⟩)) rfl (by kernel_rfl) ?_
      simp only [Act.put, List.setIfInBounds_toArray, List.set_cons_zero, List.set_cons_succ]
      refine wpList_val (w' := wr) (.pointer (some ⟨w.heap.size, 0, none⟩)) rfl (by kernel_rfl) ?_
      simp only [Act.put, List.setIfInBounds_toArray, List.set_cons_zero, List.set_cons_succ]
      refine wpList_val (w' := wr) (.slice (some ⟨g, 0, none⟩) M.length c) rfl (by go_simp) ?_
      simp only [Act.put, List.setIfInBounds_toArray, List.set_cons_zero, List.set_cons_succ]
      refine wpList_val (w' := wr) (.int .i64 k) rfl (by kernel_rfl) ?_
      simp only [Act.put, List.setIfInBounds_toArray, List.set_cons_zero, List.set_cons_succ]
      refine wpList_val (w' := wr) (.pointer (some ⟨g, k * 3, none⟩)) rfl (by first | (go_simp; done) | (go_simp; rw [if_pos (by omega)]) | (go_simp; intro hh; omega)) ?_
      simp only [Act.put, List.setIfInBounds_toArray, List.set_cons_zero, List.set_cons_succ]
      refine wpList_val (w' := wr) (.pointer (some ⟨g, k * 3, none⟩)) rfl (by kernel_rfl) ?_
      simp only [Act.put, List.setIfInBounds_toArray, List.set_cons_zero, List.set_cons_succ]
      refine wpList_val (w' := wr) (.int .u64 a) rfl (by go_simp) ?_
      simp only [Act.put, List.setIfInBounds_toArray, List.set_cons_zero, List.set_cons_succ]
      refine wpList_call (.tuple #[.string ⟨bs.toArray⟩, fltV 0 0]) (fun w'' => Below wr.heap.size wr w'') (f := 56) (args := #[.pointer (some ⟨sp, 0, none⟩), .int .u64 a, .int .i64 256]) rfl (by kernel_rfl) Hpk.out ?_
      rintro w1 hb1
      simp only [Act.put, List.setIfInBounds_toArray, List.set_cons_zero, List.set_cons_succ]
      refine wpList_val (w' := w1) (.tuple #[.string ⟨bs.toArray⟩, fltV 0 0]) rfl (by kernel_rfl) ?_
      simp only [Act.put, List.setIfInBounds_toArray, List.set_cons_zero, List.set_cons_succ]
      refine wpList_val (w' := w1) (.string ⟨bs.toArray⟩) rfl (by kernel_rfl) ?_
      simp only [Act.put, List.setIfInBounds_toArray, List.set_cons_zero, List.set_cons_succ]
      refine wpList_val (w' := w1) (fltV 0 0) rfl (by kernel_rfl) ?_
      simp only [Act.put, List.setIfInBounds_toArray, List.set_cons_zero, List.set_cons_succ]
      have HB1 := hid (HB.out.trans (hb1.mono HB.out.size))
      have Hbox1 := hid ((hb1.block _ l0).trans Hbox.out)
      have cb2 := hid ((hb1.cell (p := ⟨g, k * 3 + 2, none⟩) hgr).trans cb1.out)
      obtain ⟨w2, hw2, g2, b2⟩ := new_row w1 #[.int .i64 0, .int .u64 0, .string ⟨#[]⟩] #[.int .i64 0, .int .u64 0, .string ⟨#[]⟩] 31
      refine wpList_val (w' := w1.alloc (.cells #[.int .i64 0, .int .u64 0, .string ⟨#[]⟩] 31)) (.pointer (some ⟨w1.heap.size, 0, none⟩)) rfl (by kernel_rfl) ?_
      simp only [Act.put, List.setIfInBounds_toArray, List.set_cons_zero, List.set_cons_succ]
      refine wpList_val (w' := w1.alloc (.cells #[.int .i64 0, .int .u64 0, .string ⟨#[]⟩] 31)) (.string ⟨bs.toArray⟩) rfl (by kernel_rfl) ?_
      simp only [Act.put, List.setIfInBounds_toArray, List.set_cons_zero, List.set_cons_succ]
      refine wpList_store_row rfl 31 (.tmp 7) (.tmp 25) rfl w1.heap.size #[.int .i64 0, .int .u64 0, .string ⟨#[]⟩] rfl rfl 31 _ (heap_alloc_new _ _) infoFault rfl (faultRow_one ..) ?_
      simp only [Act.put, List.setIfInBounds_toArray, List.set_cons_zero, List.set_cons_succ]
      rw [hw2]
      have HB2 := hid (HB1.out.trans (b2.mono HB1.out.size))
      have Hbox2 := hid ((b2.block _ (blk_lt' Hbox1.out)).trans Hbox1.out)
      have hg1 : g < w1.heap.size := Nat.lt_of_lt_of_le hgr hb1.size
      have cb3 := hid ((b2.cell (p := ⟨g, k * 3 + 2, none⟩) hg1).trans cb2.out)
      have q0 : w2.cell? ⟨w1.heap.size, 0, none⟩ = some (.int .i64 0) := by rw [cell_of_row _ _ _ _ _ _ g2]; rfl
      have q1 : w2.cell? ⟨w1.heap.size, 1, none⟩ = some (.int .u64 0) := by rw [cell_of_row _ _ _ _ _ _ g2]; rfl
      have q2' : w2.cell? ⟨w1.heap.size, 2, none⟩ = some (.string ⟨#[]⟩) := by rw [cell_of_row _ _ _ _ _ _ g2]; rfl
      have lz := blk_lt' g2
      have hg2 : g < w2.heap.size := by have := b2.size; omega
      clear hw2 g2 b2 hb1 b0 ca1 cb1 cb2 Hbox1 Hbox HB HB1 hgr hg1 l0 Hpk
      generalize w1.heap.size = Z at q0 q1 q2' lz ⊢
      go_wp2_with fail
      refine (faultOK_any _ _ _ _).mono ?_
      rintro e w3 ⟨rfl, hb3⟩
      have HB3 := hid (HB2.out.trans (hb3.mono HB2.out.size))
      have Hbox3 := hid ((hb3.block _ (blk_lt' Hbox2.out)).trans Hbox2.out)
      have c3 : w3.cell? ⟨g, k * 3 + 2, none⟩ = some (.string ⟨bs.toArray⟩) := (hb3.cell (p := ⟨g, k * 3 + 2, none⟩) hg2).trans cb3.out
      have b3 : w3.cell? ⟨w.heap.size, 0, none⟩ = some (.slice (some ⟨g, 0, none⟩) M.length c) := by rw [cell_of_row _ _ _ _ _ _ Hbox3.out]; rfl
      have l3 := blk_lt' Hbox3.out
      clear hb3 q0 q1 q2' lz HB2 Hbox2 cb3
      go_wp2_with fail
      go_roundw
      case rel => exact ⟨k + 1, by omega, by go_num, Hbox3, HB3⟩
      case measure => simp [RowKit.intOf]; omega
    · obtain rfl : k = M.length := by omega
      go_wp2_with fail
      go_ret
      exact ⟨rfl, HB.out⟩
end
end Go.Proofs.YtiemingpbommeaaGreatDoor

/- Row CpuSteps: what lies in memory between two rounds; two rows that are one. -/
namespace Go.Proofs.YtiemingpbommeaaGreatDoor
open Go Go.RowKit
noncomputable section
set_option linter.unusedVariables false
set_option linter.unusedSimpArgs false
/-- the document's list keeps, where a block of another type is written -/
theorem rl_setRow_far {B : Nat} {w : World} {sl : Value} {M : List Pg} {O : Nat} {cs cs' : Array Value} {t : TypeId} {fr : Nat × Nat} (h : RL B w sl M) (ho : w.heap[O]? = some (.cells cs t fr)) (ht : t ≠ 135) : RL B (w.setRow O cs') sl M := by
  obtain ⟨h1, h2⟩ := h
  refine ⟨h1, ?_⟩
  rcases h2 with h2 | ⟨g, cap, cur, e, hB, hg, r⟩
  · exact .inl h2
  · refine .inr ⟨g, cap, cur, e, hB, (setRow_other _ _ _ _ ?_).trans hg, r⟩
    intro e2
    subst e2
    rw [ho] at hg
    injection hg with hg
    injection hg with _ h5 _
    exact ht h5
theorem rl_keep {B sp m : Nat} {w w' : World} {sl rsl : Value} {q : Int} {ps : List (Pg × Nat)} {M : List Pg} (h : RL B w rsl M) (hS : SpaceIs w sp m sl q ps) (hk : Keep (blks ps) w w') : RL B w' rsl M := by
  obtain ⟨h1, h2⟩ := h
  refine ⟨h1, ?_⟩
  rcases h2 with h2 | ⟨g, cap, cur, e, hB, hg, r⟩
  · exact .inl h2
  · exact .inr ⟨g, cap, cur, e, hB, hk.row hg (hS.not_blk hg (fun cs e => by injection e with _ e5 _; exact absurd e5 (by decide))), r⟩
/-- where the parts lie -/
structure Spots (w : World) (sp m : Nat) (bp : List Nat) (g8 g10 g11 : Nat) : Prop where
  lo : ∀ b ∈ bp, w.heap.size ≤ b
  a8 : g8 ≠ sp ∧ g8 ≠ m ∧ g8 ∉ bp
  a10 : g10 ≠ sp ∧ g10 ≠ m ∧ g10 ∉ bp
  a11 : g11 ≠ sp ∧ g11 ≠ m ∧ g11 ∉ bp
  d1 : g8 ≠ g10
  d2 : g8 ≠ g11
  d3 : g10 ≠ g11
  w8 : w.heap.size ≤ g8
  w10 : w.heap.size ≤ g10
  w11 : w.heap.size ≤ g11
structure StepsW (w : World) (sp m : Nat) (sl : Value) (bp : List Nat) (g8 g10 g11 : Nat) (rsl : Value) (M Ml : List Pg) (X : List Nat) (pc : Nat) (W : World) : Prop where
  keep : Keep [] w W
  a : ∃ ps, pgs ps = M ∧ blks ps = bp ∧ SpaceIs W sp m sl 4 ps
  r : W.heap[g8]? = some (.cells #[rsl, .int .i64 4] 54 (0, 0))
  l : RL 0 W rsl Ml
  s : StIs W g10 X pc
  t : St7 W g11 X pc
theorem StepsW.below {w : World} {sp m : Nat} {sl : Value} {bp : List Nat} {g8 g10 g11 : Nat} {rsl : Value} {M Ml : List Pg} {X : List Nat} {pc : Nat} {W W' : World} (h : StepsW w sp m sl bp g8 g10 g11 rsl M Ml X pc W) (hb : Below W.heap.size W W') : StepsW w sp m sl bp g8 g10 g11 rsl M Ml X pc W' := by
  obtain ⟨ps, a1, a2, a3⟩ := h.a
  exact ⟨h.keep.trans (Keep.of_below hb), ⟨ps, a1, a2, a3.below hb⟩, (hb.block _ (blk_lt' h.r)).trans h.r, h.l.below hb, (hb.block _ (blk_lt' h.s)).trans h.s, (hb.block _ (blk_lt' h.t)).trans h.t⟩
theorem StepsW.stepped {w : World} {sp m : Nat} {sl : Value} {bp : List Nat} {g8 g10 g11 : Nat} {rsl : Value} {M M' Ml : List Pg} {X : List Nat} {pc : Nat} {W W' : World} (ho : Spots w sp m bp g8 g10 g11) (h : StepsW w sp m sl bp g8 g10 g11 rsl M Ml X pc W) (hk : Keep bp W W')
    (hb : ∃ ps, pgs ps = M' ∧ blks ps = bp ∧ SpaceIs W' sp m sl 4 ps) : StepsW w sp m sl bp g8 g10 g11 rsl M' Ml X pc W' := by
  obtain ⟨ps, a1, a2, a3⟩ := h.a
  exact ⟨((h.keep.mono (T := bp) (by simp)).trans hk).old (by intro k hk hlt; have := ho.lo k hk; omega), hb, hk.row h.r ho.a8.2.2, rl_keep h.l a3 (by rw [a2]; exact hk), hk.row h.s ho.a10.2.2, hk.row h.t ho.a11.2.2⟩
theorem StepsW.set8 {w : World} {sp m : Nat} {sl : Value} {bp : List Nat} {g8 g10 g11 : Nat} {rsl rsl' : Value} {M Ml Ml' : List Pg} {X : List Nat} {pc : Nat} {W : World} (ho : Spots w sp m bp g8 g10 g11) (h : StepsW w sp m sl bp g8 g10 g11 rsl M Ml X pc W) (hl : RL 0 W rsl' Ml') :
    StepsW w sp m sl bp g8 g10 g11 rsl' M Ml' X pc (W.setRow g8 #[rsl', .int .i64 4]) := by
  obtain ⟨ps, a1, a2, a3⟩ := h.a
  exact ⟨h.keep.setRow _ _ (.inl ho.w8), ⟨ps, a1, a2, spaceIs_setRow a3 ho.a8.1 ho.a8.2.1 (by rw [a2]; exact ho.a8.2.2)⟩, setRow_heap _ _ _ _ _ _ h.r, rl_setRow_far hl h.r (by decide), (setRow_other _ _ _ _ ho.d1.symm).trans h.s, (setRow_other _ _ _ _ ho.d2.symm).trans h.t⟩
theorem StepsW.setST {w : World} {sp m : Nat} {sl : Value} {bp : List Nat} {g8 g10 g11 : Nat} {rsl : Value} {M Ml : List Pg} {X X' : List Nat} {pc pc' : Nat} {W : World} (ho : Spots w sp m bp g8 g10 g11) (h : StepsW w sp m sl bp g8 g10 g11 rsl M Ml X pc W) :
    StepsW w sp m sl bp g8 g10 g11 rsl M Ml X' pc' ((W.setRow g10 (stCells X' pc')).setRow g11 (stCells X' pc')) := by
  obtain ⟨ps, a1, a2, a3⟩ := h.a
  have h11 : (W.setRow g10 (stCells X' pc')).heap[g11]? = _ := (setRow_other _ _ _ _ ho.d3.symm).trans h.t
  exact ⟨(h.keep.setRow _ _ (.inl ho.w10)).setRow _ _ (.inl ho.w11), ⟨ps, a1, a2, spaceIs_setRow (spaceIs_setRow a3 ho.a10.1 ho.a10.2.1 (by rw [a2]; exact ho.a10.2.2)) ho.a11.1 ho.a11.2.1 (by rw [a2]; exact ho.a11.2.2)⟩,
    (setRow_other _ _ _ _ ho.d2).trans ((setRow_other _ _ _ _ ho.d1).trans h.r), rl_setRow_far (rl_setRow_far h.l h.s (by decide)) h11 (by decide), (setRow_other _ _ _ _ ho.d3).trans (setRow_heap _ _ _ _ _ _ h.s), setRow_heap _ _ _ _ _ _ h11⟩
theorem built_state7 {X : List Nat} (hX : Regs X) (pc : Nat) : Tryz.prog.built 58 [(0, .agg (ucells X)), (1, .int .u64 pc)] = some (stCells X pc) := by
  obtain ⟨x0, x1, x2, x3, x4, x5, x6, x7, x8, x9, x10, x11, x12, x13, x14, x15, x16, x17, x18, x19, x20, x21, x22, x23, x24, x25, x26, x27, x28, x29, x30, x31, rfl⟩ := list32 hX.len
  clear hX
  kernel_rfl
theorem state_eq7 {X : List Nat} (hX : Regs X) (pc : Nat) (w : World) : (Op.equalIn 10000 58 (.agg (stCells X pc)) (.agg (stCells X pc))).run Tryz.prog w = .ok true w := by
  rw [show (10000 : Nat) = 9999 + 1 from rfl, run_equalIn_agg w 9999 _ _ _ (by kernel_rfl) (by kernel_rfl)]
  have hl := hX.len
  have e1 : (Op.equalIn 9999 34 (.agg (ucells X)) (.agg (ucells X))).run Tryz.prog w = .ok true w := by
    have := run_equalIn_same (P := Tryz.prog) w 9997 34 23 32 .u64 Tryz.underlying34 Tryz.underlying23 (fun w => by kernel_rfl) (X.map fun n : Nat => (n : Int)) (by simp [hl])
    rw [List.map_map] at this
    exact this
  have e2 : (Op.equalIn 9999 23 (.int .u64 pc) (.int .u64 pc)).run Tryz.prog w = .ok true w := by
    rw [show (9999 : Nat) = 9998 + 1 from rfl, run_equalIn_int w 9998 23 .u64 .u64 _ _ Tryz.underlying23]
    simp
  have hs : ∀ w, (sizeOf 34).run Tryz.prog w = .ok 32 w := fun w => by kernel_rfl
  have p1 : (part 34 (stCells X pc) 0).run Tryz.prog w = .ok (.agg (ucells X)) w := by
    simp [part, isAgg, run_underlying Tryz.underlying34, hs, stCells, hl, ucells]
  have p2 : (part 23 (stCells X pc) 32).run Tryz.prog w = .ok (.int .u64 pc) w := by
    simp [part, isAgg, run_underlying Tryz.underlying23, stCells, hl]
  have hf : (Tryz.prog.fieldsOf 58).toList.map (fun f => (f.name == "_", f.type, f.offset)) = [(false, 34, 0), (false, 23, 32)] := by kernel_rfl
  generalize (Tryz.prog.fieldsOf 58).toList = fs at hf
  rcases fs with _ | ⟨f1, _ | ⟨f2, _ | ⟨f3, fs⟩⟩⟩
  · simp at hf
  · simp at hf
  · simp only [List.map_cons, List.map_nil, List.cons.injEq, Prod.mk.injEq, beq_eq_false_iff_ne, and_true] at hf
    obtain ⟨⟨n1, t1, o1⟩, n2, t2, o2⟩ := hf
    simp [Op.eqFields, n1, n2, t1, t2, o1, o2, p1, p2, e1, e2, Result.andThen]
  · simp at hf
theorem exec_neq_same {o : Oper} {a : Act} {w : World} {x y : Operand} {ty t : TypeId} {cs : Array Value} (ho : o.op = .binOp .neq ty x y t) (hx : a.eval x = .agg cs) (hy : a.eval y = .agg cs) (hg : Tryz.prog.eqGuardType Tryz.prog.depth ty = false)
    (he : ∀ w, (Op.equalIn 10000 ty (.agg cs) (.agg cs)).run Tryz.prog w = .ok true w) : (execOp a.eval o).run Tryz.prog w = .ok (.value (.bool false)) w := by
  have hg := run_eqGuard_agg (P := Tryz.prog) w .neq ty x y cs cs hg
  have hn := run_neq_struct (P := Tryz.prog) w ty cs cs
  rw [he] at hn
  unfold execOp
  simp [ho, hx, hy, hg, hn, Result.andThen]
end
end Go.Proofs.YtiemingpbommeaaGreatDoor
