/- The document's spaces: a load, a store, a fetch: as the program's. -/
import Derived.Test.YtiemingpbommeaaGreatDoorHs
import Derived.Test.YtiemingpbommeaaGreatDoorHh
import Derived.Test.YtiemingpbommeaaGreatDoorHk
import Derived.Test.YtiemingpbommeaaGreatDoorHc
import Derived.BigQuiet
import Derived.Test.YtiemingpbommeaaGreatDoorHv
namespace Go.Proofs.YtiemingpbommeaaGreatDoor
open Go Go.RowKit
noncomputable section
set_option linter.unusedVariables false
set_option linter.unusedSimpArgs false
theorem infoSpc : (Tryz.prog.info? 54).map (fun x => x.size) = some 2 := by kernel_rfl
theorem getL4 (l : List UInt8) (h : l.length = 4) : getL l < 4294967296 := by
  have h1 := getL_lt l
  rw [h] at h1
  omega
set_option maxHeartbeats 4000000 in
set_option maxRecDepth 100000 in
theorem refFetch_any (B : Nat) (sl : Value) (M : List Pg) (q : Int) (x : Nat) (w : World) (hR : RL B w sl M) (hG : Good M) (hx : x < 18446744073709551616) :
    Calls Tryz.prog 45 #[.agg #[sl, .int .i64 q], .int .u64 x] w fun e w' => e = .returned (.tuple #[.int .u32 ((fetchN M x).1 : Nat), .int .i64 ((fetchN M x).2.1 : Nat), .int .u64 ((fetchN M x).2.2 : Nat)]) ∧ Below w.heap.size w w' := by
  have HR := hid hR
  have HG := hid hG
  clear hR hG
  obtain ⟨W, hW⟩ : ∃ W, w.alloc (.cells #[sl, .int .i64 q] 54) = W := ⟨_, rfl⟩
  have HBW : Hid (Below w.heap.size w W) := hid (by rw [← hW]; exact (Below.refl _ _).alloc (Nat.le_refl _) _)
  have Hbox : Hid (W.heap[w.heap.size]? = some (.cells #[sl, .int .i64 q] 54 (0, 0))) := hid (by rw [← hW]; exact heap_alloc_new _ _)
  by_cases h4 : x % 4 = 0
  · have h4i : (x : Int) % 4 = 0 := by omega
    have Hf : Hid (fetchN M x = if (mayN M x 4 1 12).1 = 0 then (getL (bytesN M x 4), 0, 0) else (0, mayN M x 4 1 12)) := hid (by unfold fetchN; rw [if_pos h4])
    have Hall := hid (mayN_ok (M := M) (x := x) (n := 4) (perm := 1) (e := 12) (by decide))
    have Hmay := hid (fun W' hb => refMay_any B sl M q x 4 1 12 W' (HR.out.below (w' := W') hb) HG.out hx (by decide) (by decide) (by decide))
    rcases hm : mayN M x 4 1 12 with ⟨c, f⟩
    rw [hm] at Hf Hall Hmay
    clear hm
    go_enter Tryz.func45, Tryz.ntmps45
    go_upto_region 3 with (fail)
    try rw [hW]
    clear hW
    have b0 : W.cell? ⟨w.heap.size, 0, none⟩ = some sl := by rw [cell_of_row W _ _ _ _ _ Hbox.out]; rfl
    have b1 : W.cell? ⟨w.heap.size, 1, none⟩ = some (.int .i64 q) := by rw [cell_of_row W _ _ _ _ _ Hbox.out]; rfl
    have l0 := blk_lt' Hbox.out
    go_wp2_with fail
    refine (Hmay.out W HBW.out).mono ?_
    rintro e w1 ⟨rfl, hb1⟩
    have HB1 := hid (HBW.out.trans (hb1.mono HBW.out.size))
    have Hbox1 := hid ((hb1.block _ l0).trans Hbox.out)
    clear hb1 b0 b1
    by_cases hc : c = 0
    · subst hc
      have b0 : w1.cell? ⟨w.heap.size, 0, none⟩ = some sl := by rw [cell_of_row w1 _ _ _ _ _ Hbox1.out]; rfl
      have b1 : w1.cell? ⟨w.heap.size, 1, none⟩ = some (.int .i64 q) := by rw [cell_of_row w1 _ _ _ _ _ Hbox1.out]; rfl
      have Hby := hid (refBytes_any B sl M q x 4 w1 (HR.out.below HB1.out) HG.out hx (by decide) (fun i hi => by
        have h := Hall.out rfl i hi
        obtain ⟨g, hg⟩ := okAt_some h
        rw [hg]; rfl))
      have Hlt := hid (getL4 (bytesN M x 4) (bytesN_length _ _ _))
      have Hget := hid (fun W' => refGet_any (bytesN M x 4) W' (by rw [bytesN_length]; decide))
      have Hf2 : Hid (fetchN M x = (getL (bytesN M x 4), 0, 0)) := hid (by rw [Hf.out]; rfl)
      have hlt := Hlt.out
      clear Hf
      generalize getL (bytesN M x 4) = v at *
      go_wp2_with fail
      refine Hby.out.mono ?_
      rintro e w2 ⟨rfl, hb2⟩
      have HB2 := hid (HB1.out.trans (hb2.mono HB1.out.size))
      clear hb2
      go_wp2_with fail
      refine (Hget.out _).mono ?_
      rintro e w3 ⟨rfl, m, rfl⟩
      go_wp2_with fail
      go_ret3
      exact ⟨by rw [Hf2.out]; rfl, below_drewN HB2.out _⟩
    · have hci : ((c : Int) == 0) = false := by rw [beq_eq_false_iff_ne]; omega
      have hcn : ((c : Int) != 0) = true := by rw [bne_iff_ne]; omega
      have Hf2 : Hid (fetchN M x = (0, c, f)) := hid (by rw [Hf.out]; simp only [hc, if_false])
      clear Hf
      go_wp2_with fail
      go_ret3
      exact ⟨by rw [Hf2.out]; rfl, HB1.out⟩
  · have h4i : ((x : Int) % 4 != 0) = true := by rw [bne_iff_ne]; omega
    have Hf : Hid (fetchN M x = (0, 13, x)) := hid (by unfold fetchN; rw [if_neg h4])
    go_enter Tryz.func45, Tryz.ntmps45
    go_wp2_with fail
    go_ret3
    exact ⟨by rw [Hf.out]; rfl, HBW.out⟩
set_option maxHeartbeats 4000000 in
set_option maxRecDepth 100000 in
theorem refLoad_any (B : Nat) (sl : Value) (M : List Pg) (q : Int) (x k : Nat) (w : World) (hR : RL B w sl M) (hG : Good M) (hx : x < 18446744073709551616) (hk : k = 1 ∨ k = 2 ∨ k = 4 ∨ k = 8) :
    Calls Tryz.prog 52 #[.agg #[sl, .int .i64 q], .int .u64 x, .int .i64 k] w fun e w' => e = .returned (.tuple #[.int .u64 ((loadN M x k).1 : Nat), .int .i64 ((loadN M x k).2.1 : Nat), .int .u64 ((loadN M x k).2.2 : Nat)]) ∧ Below w.heap.size w w' := by
  have HR := hid hR
  have HG := hid hG
  clear hR hG
  obtain ⟨W, hW⟩ : ∃ W, w.alloc (.cells #[sl, .int .i64 q] 54) = W := ⟨_, rfl⟩
  have HBW : Hid (Below w.heap.size w W) := hid (by rw [← hW]; exact (Below.refl _ _).alloc (Nat.le_refl _) _)
  have Hbox : Hid (W.heap[w.heap.size]? = some (.cells #[sl, .int .i64 q] 54 (0, 0))) := hid (by rw [← hW]; exact heap_alloc_new _ _)
  have hk8 : k ≤ 8 := by omega
  have hk0 : 0 < k := by omega
  have Hf : Hid (loadN M x k = if (mayN M x k 4 10).1 = 0 then (getL (bytesN M x k), 0, 0) else (0, mayN M x k 4 10)) := hid (by
    unfold loadN
    rw [if_pos (by unfold sizeOk; simp; omega)]
    rfl)
  have Hall := hid (mayN_ok (M := M) (x := x) (n := k) (perm := 4) (e := 10) (by decide))
  have Hmay := hid (fun W' hb => refMay_any B sl M q x k 4 10 W' (HR.out.below (w' := W') hb) HG.out hx (by omega) (by decide) (by decide))
  rcases hm : mayN M x k 4 10 with ⟨c, f⟩
  rw [hm] at Hf Hall Hmay
  clear hm
  have Hby := hid (fun (W1 : World) (h0 : c = 0) (hb : Below w.heap.size w W1) => refBytes_any B sl M q x k W1 (HR.out.below hb) HG.out hx (by omega) (fun i hi => by
    have h := Hall.out h0 i hi
    obtain ⟨g, hg⟩ := okAt_some h
    rw [hg]; rfl))
  have hlt := getL_lt64 (bytesN M x k) (by rw [bytesN_length]; exact hk8)
  have hget := fun W' => refGet_any (bytesN M x k) W' (by rw [bytesN_length]; exact hk8)
  obtain ⟨v, hv⟩ : ∃ v, getL (bytesN M x k) = v := ⟨_, rfl⟩
  rw [hv] at hlt Hf
  have Hget : Hid (∀ W', Calls Tryz.prog 87 #[.string ⟨(bytesN M x k).toArray⟩] W' fun e w' => e = .returned (.int .u64 v) ∧ ∃ m, w' = W'.drewN m) := hid (fun W' => by have h := hget W'; rw [hv] at h; exact h)
  clear hv hget Hall
  go_enter Tryz.func52, Tryz.ntmps52
  rcases hk with rfl | rfl | rfl | rfl
  all_goals
    go_upto_region 3 with (fail)
    try rw [hW]
    clear hW
    have b0 : W.cell? ⟨w.heap.size, 0, none⟩ = some sl := by rw [cell_of_row W _ _ _ _ _ Hbox.out]; rfl
    have b1 : W.cell? ⟨w.heap.size, 1, none⟩ = some (.int .i64 q) := by rw [cell_of_row W _ _ _ _ _ Hbox.out]; rfl
    have l0 := blk_lt' Hbox.out
    go_wp2_with fail
    refine (Hmay.out W HBW.out).mono ?_
    rintro e w1 ⟨rfl, hb1⟩
    have HB1 := hid (HBW.out.trans (hb1.mono HBW.out.size))
    have Hbox1 := hid ((hb1.block _ l0).trans Hbox.out)
    clear hb1 b0 b1
    by_cases hc : c = 0
    · subst hc
      have b0 : w1.cell? ⟨w.heap.size, 0, none⟩ = some sl := by rw [cell_of_row w1 _ _ _ _ _ Hbox1.out]; rfl
      have b1 : w1.cell? ⟨w.heap.size, 1, none⟩ = some (.int .i64 q) := by rw [cell_of_row w1 _ _ _ _ _ Hbox1.out]; rfl
      have Hf2 := hid (Hf.out.trans (if_pos rfl))
      clear Hf
      go_wp2_with fail
      refine (Hby.out w1 (by first | rfl | trivial) HB1.out).mono ?_
      rintro e w2 ⟨rfl, hb2⟩
      have HB2 := hid (HB1.out.trans (hb2.mono HB1.out.size))
      clear hb2
      go_wp2_with fail
      refine (Hget.out _).mono ?_
      rintro e w3 ⟨rfl, m, rfl⟩
      go_wp2_with fail
      go_ret3
      exact ⟨by rw [Hf2.out]; rfl, below_drewN HB2.out _⟩
    · have hci : ((c : Int) == 0) = false := by rw [beq_eq_false_iff_ne]; omega
      have hcn : ((c : Int) != 0) = true := by rw [bne_iff_ne]; omega
      have Hf2 := hid (Hf.out.trans (if_neg hc))
      clear Hf
      go_wp2_with fail
      go_ret3
      exact ⟨by rw [Hf2.out]; rfl, HB1.out⟩
theorem results_ctt {P : Program} {fn : Func} {p q s : Tmp} {ty : TypeId} (h : fn.results = #[.cell p ty, .tmp q, .tmp s]) (tmps : Array Value) (w : World) (g : Nat) (t : TypeId) (cs : Array Value) (fr : Nat × Nat) (d : TypeDesc)
    (hp : tmps.getD p undef = .pointer (some ⟨g, 0, none⟩)) (hg : w.heap[g]? = some (.cells cs t fr))
    (hu : P.underlying ty = some d) (hd : (match d with | .struct _ | .array _ _ => true | _ => false) = true) (hi : (P.info? ty).map (·.size) = some cs.size) :
    (results fn tmps).run P w = .ok (.tuple #[.agg cs, tmps.getD q undef, tmps.getD s undef]) w := by
  have hp' : tmps[p]?.getD undef = .pointer (some ⟨g, 0, none⟩) := by simpa using hp
  simp [results, h, hp', asAddr, run_loadVar_row w g t ty cs fr d hg hu hd hi]
theorem spc_one (sl : Value) (q : Int) (h : sl.oneCell' = true) : (#[sl, .int .i64 q] : Array Value).all (fun x => x.oneCell') = true := by simp [Value.oneCell', h]; exact h
theorem RL.one {B : Nat} {w : World} {sl : Value} {M : List Pg} (h : RL B w sl M) : sl.oneCell' = true := by
  obtain ⟨p, c, rfl, _⟩ := h.parts
  rfl
set_option maxHeartbeats 4000000 in
set_option maxRecDepth 100000 in
theorem refStore_any (B : Nat) (sl : Value) (M : List Pg) (q : Int) (x n k : Nat) (w : World) (hR : RL B w sl M) (hG : Good M) (hM2 : M.length ≤ 4096) (hx : x < 18446744073709551616) (hn : n < 18446744073709551616) (hk : k = 1 ∨ k = 2 ∨ k = 4 ∨ k = 8) :
    Calls Tryz.prog 50 #[.agg #[sl, .int .i64 q], .int .u64 x, .int .u64 n, .int .i64 k] w fun e w' => ∃ sl', e = .returned (.tuple #[.agg #[sl', .int .i64 q], .int .i64 ((storeN M x n k).2.1 : Nat), .int .u64 ((storeN M x n k).2.2 : Nat)]) ∧ ((storeN M x n k).2.1 = 0 → RL w.heap.size w' sl' (storeN M x n k).1) ∧ sl'.oneCell' = true ∧ Below w.heap.size w w' := by
  have HR := hid hR
  have HG := hid hG
  have Hone := hid hR.one
  clear hR hG
  obtain ⟨W0, hW0⟩ : ∃ W0, w.alloc (.cells #[sl, .int .i64 q] 54) = W0 := ⟨_, rfl⟩
  obtain ⟨W, hW⟩ : ∃ W, W0.alloc (.cells #[.slice none 0 0, .int .i64 0] 54) = W := ⟨_, rfl⟩
  have hs0 : W0.heap.size = w.heap.size + 1 := by rw [← hW0]; simp
  have HBW : Hid (Below w.heap.size w W) := hid (by rw [← hW, ← hW0]; exact ((Below.refl _ _).alloc (Nat.le_refl _) _).alloc (by simp) _)
  have Hbox : Hid (W.heap[w.heap.size]? = some (.cells #[sl, .int .i64 q] 54 (0, 0))) := hid (by rw [← hW, ← hW0]; exact heap_alloc2_old _ _ _)
  have Hres : Hid (W.heap[w.heap.size + 1]? = some (.cells #[.slice none 0 0, .int .i64 0] 54 (0, 0))) := hid (by rw [← hW, ← hW0]; exact heap_alloc2_new _ _ _)
  have hk8 : k ≤ 8 := by omega
  have hk0 : 0 < k := by omega
  have Hf : Hid (storeN M x n k = if (mayN M x k 2 11).1 = 0 then (layN M x (putL n k), 0, 0) else (M, mayN M x k 2 11)) := hid (by
    unfold storeN
    rw [if_pos (by unfold sizeOk; simp; omega)]
    rfl)
  have Hall := hid (mayN_ok (M := M) (x := x) (n := k) (perm := 2) (e := 11) (by decide))
  have Hmay := hid (fun W' hb => refMay_any B sl M q x k 2 11 W' (HR.out.below (w' := W') hb) HG.out hx (by omega) (by decide) (by decide))
  rcases hm : mayN M x k 2 11 with ⟨c, f⟩
  rw [hm] at Hf Hall Hmay
  clear hm
  have hput := fun W' => refPut_any n k W' hn hk8
  have hlay := (fun (W1 : World) (h0 : c = 0) (hb : Below w.heap.size w W1) => refLay_any B sl M q x (putL n k) W1 (HR.out.below hb) HG.out (by
      obtain ⟨g, hg⟩ := okAt_some (Hall.out h0 0 hk0)
      have := (pgOf_a hg).2
      exact List.length_pos_of_mem this) hM2 hx (by rw [putL_length]; omega) (fun i hi => by
    rw [putL_length] at hi
    have h := Hall.out h0 i hi
    obtain ⟨g, hg⟩ := okAt_some h
    rw [hg]; rfl))
  obtain ⟨bs, hbs⟩ : ∃ bs, putL n k = bs := ⟨_, rfl⟩
  rw [hbs] at Hf hput hlay
  have Hput := hid hput
  have Hlay := hid hlay
  clear hput hlay hbs
  go_enter Tryz.func50, Tryz.ntmps50
  rcases hk with rfl | rfl | rfl | rfl
  all_goals
    go_upto_region 3 with (fail)
    try rw [hW0]
    try rw [hs0]
    try rw [hW]
    clear hW hW0 hs0
    have b0 : W.cell? ⟨w.heap.size, 0, none⟩ = some sl := by rw [cell_of_row W _ _ _ _ _ Hbox.out]; rfl
    have b1 : W.cell? ⟨w.heap.size, 1, none⟩ = some (.int .i64 q) := by rw [cell_of_row W _ _ _ _ _ Hbox.out]; rfl
    have l0 := blk_lt' Hbox.out
    go_wp2_with fail
    refine (Hmay.out W HBW.out).mono ?_
    rintro e w1 ⟨rfl, hb1⟩
    have HB1 := hid (HBW.out.trans (hb1.mono HBW.out.size))
    have Hbox1 := hid ((hb1.block _ l0).trans Hbox.out)
    have Hres1 := hid ((hb1.block _ (blk_lt' Hres.out)).trans Hres.out)
    clear hb1 b0 b1
    by_cases hc : c = 0
    · subst hc
      have Hf2 := hid (Hf.out.trans (if_pos rfl))
      clear Hf
      go_upto_region 6 with (fail)
      refine wp_region_quiet_tail 5 (fun w' => ∃ u, w' = aft w1 u) (by kernel_rfl) (by kernel_rfl) (aft_drew _) ?_
      simp only [List.take_succ_cons, List.take_zero, List.drop_succ_cons, List.drop_zero]
      refine quiet_val (.agg #[sl, .int .i64 q]) rfl (fun w' hC => ?_) ?_
      · obtain ⟨u, rfl⟩ := hC
        exact exec_load_row 54 (.tmp 4) rfl w.heap.size rfl 54 _ (0, 0) _ ((aft_heap (blk_lt' Hbox1.out)).trans Hbox1.out) Tryz.underlying54 rfl infoSpc
      simp only [Act.put, List.setIfInBounds_toArray, List.set_cons_zero, List.set_cons_succ]
      refine quiet_val (.int .u64 x) rfl (fun w' hC => by kernel_rfl) ?_
      simp only [Act.put, List.setIfInBounds_toArray, List.set_cons_zero, List.set_cons_succ]
      refine quiet_val (.int .u64 n) rfl (fun w' hC => by kernel_rfl) ?_
      simp only [Act.put, List.setIfInBounds_toArray, List.set_cons_zero, List.set_cons_succ]
      refine quiet_val _ rfl (fun w' hC => rfl) ?_
      simp only [Act.put, List.setIfInBounds_toArray, List.set_cons_zero, List.set_cons_succ]
      refine quiet_call (.string ⟨bs.toArray⟩) (f := 42) rfl (fun w' hC => by kernel_rfl) (fun w' hC => by obtain ⟨u, rfl⟩ := hC; exact aft_call (Hput.out _)) ?_
      simp only [Act.put, List.setIfInBounds_toArray, List.set_cons_zero, List.set_cons_succ]
      refine wpQuiet_nil ?_
      intro w5 hw5
      obtain ⟨u, rfl⟩ := hw5
      obtain ⟨w5, hw5⟩ : ∃ w5, aft w1 u = w5 := ⟨_, rfl⟩
      have hb5 : Below w1.heap.size w1 w5 := by rw [← hw5]; exact aft_below w1 u
      rw [hw5]
      have HB5 := hid (HB1.out.trans (hb5.mono HB1.out.size))
      have Hres5 := hid ((hb5.block _ (blk_lt' Hres1.out)).trans Hres1.out)
      clear hw5 hb5
      refine wpList_callE (fun v w'' => ∃ sl', v = .agg #[sl', .int .i64 q] ∧ RL w5.heap.size w'' sl' (layN M x bs) ∧ Below w5.heap.size w5 w'') (f := 44) rfl (by kernel_rfl) ((Hlay.out w5 (by first | rfl | trivial) HB5.out).mono (fun e w'' ⟨sl', h1, h2, h3⟩ => ⟨_, h1, sl', rfl, h2, h3⟩)) ?_
      rintro v6 w6 ⟨sl', rfl, hrl, hb6⟩
      simp only [Act.put, List.setIfInBounds_toArray, List.set_cons_zero, List.set_cons_succ]
      have HB6 := hid (HB5.out.trans (hb6.mono HB5.out.size))
      have Hres6 := hid ((hb6.block _ (blk_lt' Hres5.out)).trans Hres5.out)
      have hone := hrl.one
      have Hrl := hid hrl
      have hl5 := blk_lt' Hres5.out
      refine wpList_store_row rfl 54 (.tmp 8) (.tmp 45) rfl (w.heap.size + 1) #[sl', .int .i64 q] rfl rfl 54 _ Hres6.out infoSpc rfl (spc_one _ _ hone) ?_
      simp only [Act.put, List.setIfInBounds_toArray, List.set_cons_zero, List.set_cons_succ]
      clear hrl hb6
      go_wp2_with fail
      refine bodyPost_ret (results_ctt rfl _ _ (w.heap.size + 1) 54 #[sl', .int .i64 q] (0, 0) _ rfl (setRow_heap _ _ _ _ _ _ Hres6.out) Tryz.underlying54 rfl infoSpc) rfl ?_
      exact ⟨sl', by rw [Hf2.out]; rfl, fun _ => by rw [Hf2.out]; exact rl_setRow Hrl.out hl5 HB5.out.size, hone, below_setRow HB6.out (by omega) _⟩
    · have hci : ((c : Int) == 0) = false := by rw [beq_eq_false_iff_ne]; omega
      have hcn : ((c : Int) != 0) = true := by rw [bne_iff_ne]; omega
      have Hf2 := hid (Hf.out.trans (if_neg hc))
      clear Hf
      go_upto_region 5 with (fail)
      apply wp_region_lit
      refine wpList_load_row rfl 54 (.tmp 4) rfl w.heap.size rfl 54 #[sl, .int .i64 q] (0, 0) _ Hbox1.out Tryz.underlying54 rfl infoSpc ?_
      simp only [Act.put, List.setIfInBounds_toArray, List.set_cons_zero, List.set_cons_succ]
      go_wp2_with (refine wpList_store_row rfl 54 (.tmp 8) (.tmp 37) rfl (w.heap.size + 1) #[sl, .int .i64 q] rfl rfl 54 _ Hres1.out infoSpc rfl (spc_one _ _ Hone.out) ?_)
      refine bodyPost_ret (results_ctt rfl _ _ (w.heap.size + 1) 54 #[sl, .int .i64 q] (0, 0) _ rfl (setRow_heap _ _ _ _ _ _ Hres1.out) Tryz.underlying54 rfl infoSpc) rfl ?_
      exact ⟨sl, by rw [Hf2.out]; rfl, fun h => by rw [Hf2.out] at h; exact absurd h hc, Hone.out, below_setRow HB1.out (by omega) _⟩
end
end Go.Proofs.YtiemingpbommeaaGreatDoor

/- The document's step: an operation's number by its name; a register set; is a branch taken; a width. -/
namespace Go.Proofs.YtiemingpbommeaaGreatDoor
open Go Go.RowKit
noncomputable section
set_option linter.unusedVariables false
set_option linter.unusedSimpArgs false
def nameCells : Array Value := (wnames.map fun l => Value.string ⟨l.toArray⟩).toArray
theorem nameCells_get (k : Nat) (hk : k < 28) : nameCells[k]? = some (.string ⟨(wname k).toArray⟩) := by
  unfold nameCells wname
  have hl : wnames.length = 28 := by simp [wnames]
  rw [List.getElem?_toArray, List.getElem?_map, List.getElem?_eq_getElem (by omega), List.getD_eq_getElem?_getD, List.getElem?_eq_getElem (by omega)]
  rfl
set_option maxRecDepth 100000 in
theorem refNames_any (w : World) :
    Calls Tryz.prog 96 #[] w fun e w' => e = .returned (.slice (some ⟨w.heap.size, 0, none⟩) 28 28) ∧ w' = w.alloc (.cells nameCells 9) := by
  refine calls_of_wp Tryz.func96 rfl ?_
  refine wp_seq ?_
  refine wp_region_lit ?_
  refine wpList_take 1 { tmps := (Array.replicate 2 undef).setIfInBounds 0 (.slice none 0 0), defers := [] } w (by kernel_rfl) ?_
  refine wpList_nil ?_
  refine wp_seq ?_
  refine wp_region_lit ?_
  refine wpList_take 2 { tmps := #[.slice (some ⟨w.heap.size, 0, none⟩) 28 28, .slice (some ⟨w.heap.size, 0, none⟩) 28 28], defers := [] } (w.alloc (.cells nameCells 9)) (by kernel_rfl) ?_
  refine wpList_nil ?_
  refine wp_ret ?_
  refine bodyPost_ret (results_tmp rfl _ _ _) rfl ?_
  exact ⟨rfl, rfl⟩
set_option maxHeartbeats 2000000 in
set_option maxRecDepth 100000 in
theorem refOp_any (l : List UInt8) (w : World) :
    Calls Tryz.prog 55 #[.string ⟨l.toArray⟩] w fun e w' => e = .returned (.int .i64 (nameIdx l)) ∧ Below w.heap.size w w' := by
  have Hs := hid (fun k => @nameIdx_some l k)
  have Hn := hid (@nameIdx_none l)
  obtain ⟨r, hr⟩ : ∃ r, nameIdx l = r := ⟨_, rfl⟩
  rw [hr] at Hs Hn ⊢
  clear hr
  go_enter Tryz.func55, Tryz.ntmps55
  go_wp2_with fail
  refine (refNames_any _).mono ?_
  rintro e w1 ⟨rfl, hw1⟩
  have N1 : Hid (w1.heap[w.heap.size]? = some (.cells nameCells 9 (0, 0))) := hid (by rw [hw1]; exact heap_alloc_new _ _)
  have HB : Hid (Below w.heap.size w w1) := hid (by rw [hw1]; exact (Below.refl _ _).alloc (Nat.le_refl _) _)
  clear hw1
  generalize w.heap.size = G at N1 ⊢
  have HN : Hid (∀ k, k < 28 → w1.cell? ⟨G, k, none⟩ = some (.string ⟨(wname k).toArray⟩)) := hid (fun k hk => by rw [cell_of_row w1 _ _ _ _ _ N1.out]; exact nameCells_get k hk)
  have hl := blk_lt' N1.out
  clear N1
  go_wp2_with fail
  go_loopw [4] (fun i wr => ∃ k : Nat, k ≤ 28 ∧ i = .int .i64 k ∧ (∀ j, j < k → (l == wname j) = false) ∧ wr = w1) (fun i _ => 28 - (RowKit.intOf i).toNat)
  case atStart => exact ⟨0, by omega, rfl, fun j hj => absurd hj (by omega), rfl⟩
  case round =>
    obtain ⟨k, hk, rfl, hno, rfl⟩ := hrel
    have Hno := hid hno
    clear hno
    by_cases hlt : k < 28
    · have c0 := HN.out k hlt
      cases he : (l == wname k) with
      | true =>
        have e1 : l = wname k := by simpa using he
        have Hr := hid (Hs.out k hlt he Hno.out)
        rw [← e1] at c0
        clear he e1
        go_wp2_with fail
        go_ret
        exact ⟨by rw [Hr.out]; rfl, HB.out⟩
      | false =>
        have e1 : ¬ wname k = l := fun h => by rw [h] at he; simp at he
        have Hno2 : Hid (∀ j, j < k + 1 → (l == wname j) = false) := hid (fun j hj => by
          by_cases e : j = k
          · subst e; exact he
          · exact Hno.out j (by omega))
        clear he Hs Hn
        generalize wname k = nk at c0 e1
        have e2 : (nk == l) = false := by rw [beq_eq_false_iff_ne]; exact e1
        go_wp2_with fail
        go_roundw
        case rel => exact ⟨k + 1, by omega, by go_num, Hno2.out, by trivial⟩
        case measure => simp [RowKit.intOf]; omega
    · have hk28 : k = 28 := by omega
      subst hk28
      go_wp2_with fail
      go_ret
      exact ⟨by rw [Hn.out Hno.out]; rfl, HB.out⟩
/-- a state of the document's -/
def St7 (w : World) (g : Nat) (X : List Nat) (pc : Nat) : Prop := w.heap[g]? = some (.cells (stCells X pc) 58 (0, 0))
theorem infoState7 {X : List Nat} (h : Regs X) (pc : Nat) : (Tryz.prog.info? 58).map (fun x => x.size) = some (stCells X pc).size := by rw [stCells_size h]; kernel_rfl
theorem St7.cell {w : World} {g : Nat} {X : List Nat} {pc : Nat} (h : St7 w g X pc) (hX : Regs X) {r : Nat} (hr : r < 32) : w.cell? ⟨g, r, none⟩ = some (.int .u64 (getR X r)) := by
  rw [cell_of_row w g r _ _ _ h]; exact stCells_get hX pc r hr
theorem St7.cellPc {w : World} {g : Nat} {X : List Nat} {pc : Nat} (h : St7 w g X pc) (hX : Regs X) : w.cell? ⟨g, 32, none⟩ = some (.int .u64 pc) := by
  rw [cell_of_row w g 32 _ _ _ h]; exact stCells_pc hX pc
theorem St7.set {w : World} {g : Nat} {X : List Nat} {pc : Nat} (h : St7 w g X pc) (hX : Regs X) {r : Nat} (hr : r < 32) (n : Nat) : St7 (w.setCell ⟨g, r, none⟩ (.int .u64 n)) g (X.set r n) pc := by
  unfold St7
  rw [heap_setCell_same _ _ _ _ _ _ h, stCells_set hX pc r n hr]
theorem St7.setPc {w : World} {g : Nat} {X : List Nat} {pc : Nat} (h : St7 w g X pc) (hX : Regs X) (n : Nat) : St7 (w.setCell ⟨g, 32, none⟩ (.int .u64 n)) g X n := by
  unfold St7
  rw [heap_setCell_same _ _ _ _ _ _ h, stCells_setpc hX pc n]
set_option maxHeartbeats 2000000 in
set_option maxRecDepth 100000 in
theorem refSet_any (X : List Nat) (pc r n : Nat) (w : World) (hX : Regs X) (hr : r < 32) (hn : n < 18446744073709551616) :
    Calls Tryz.prog 48 #[.agg (stCells X pc), .int .i64 r, .int .u64 n] w fun e w' => e = .returned (.agg (stCells (setR X r n) pc)) ∧ Below w.heap.size w w' := by
  have HX := hid hX
  have HX2 := hid (hX.setR r n hn)
  clear hX
  have Hyes := hid (show 0 < r → setR X r n = X.set r n from fun h => by unfold setR; rw [if_pos h])
  have Hno := hid (show ¬ 0 < r → setR X r n = X from fun h => by unfold setR; rw [if_neg h])
  go_enter Tryz.func48, Tryz.ntmps48
  go_upto_region 0 with (fail)
  apply wp_region_lit
  refine wpList_val (w' := w.alloc (.cells (stCells X pc) 58)) (.pointer (some ⟨w.heap.size, 0, none⟩)) rfl (by kernel_rfl) ?_
  simp only [ps]
  obtain ⟨W0, hW0⟩ : ∃ W0, w.alloc (.cells (stCells X pc) 58) = W0 := ⟨_, rfl⟩
  have hs0 : W0.heap.size = w.heap.size + 1 := by rw [← hW0]; simp
  rw [hW0]
  refine wpList_val (w' := W0.alloc (.cells zst 58)) (.pointer (some ⟨W0.heap.size, 0, none⟩)) rfl (by kernel_rfl) ?_
  simp only [ps]
  obtain ⟨W, hW⟩ : ∃ W, W0.alloc (.cells zst 58) = W := ⟨_, rfl⟩
  have N3 : Hid (St7 W w.heap.size X pc) := hid (by unfold St7; rw [← hW, ← hW0]; exact heap_alloc2_old _ _ _)
  have N6 : Hid (W.heap[w.heap.size + 1]? = some (.cells zst 58 (0, 0))) := hid (by rw [← hW, ← hW0]; exact heap_alloc2_new _ _ _)
  have HB : Hid (Below w.heap.size w W) := hid (by rw [← hW, ← hW0]; exact ((Below.refl _ _).alloc (Nat.le_refl _) _).alloc (by simp) _)
  rw [hW, hs0]
  clear hW hW0 hs0
  have hc := N3.out.cell HX.out hr
  have hfz := frozen_of_row W _ r _ _ N3.out
  have hl := blk_lt' N3.out
  by_cases h0 : 0 < r
  · have HV : Hid (setR X r n = X.set r n) := hid (Hyes.out h0)
    go_upto_region 3 with (fail)
    have N3' := hid (N3.out.set HX.out hr n)
    have N6' := hid ((heap_setCell_other W ⟨w.heap.size, r, none⟩ (w.heap.size + 1) (.int .u64 n) (by simp)).trans N6.out)
    have HB' := hid (HB.out.setCell (p := ⟨w.heap.size, r, none⟩) (Nat.le_refl _) (.int .u64 n))
    rw [← HV.out] at N3'
    clear hc hfz hl N3 N6 HB
    generalize W.setCell ⟨w.heap.size, r, none⟩ (.int .u64 n) = V at *
    apply wp_region_lit
    refine wpList_load_row rfl 58 (.tmp 3) rfl w.heap.size rfl 58 (stCells (setR X r n) pc) (0, 0) _ N3'.out Tryz.underlying58 rfl (infoState7 HX2.out pc) ?_
    simp only [ps]
    refine wpList_store_row rfl 58 (.tmp 6) (.tmp 13) rfl (w.heap.size + 1) (stCells (setR X r n) pc) rfl rfl 58 zst N6'.out (infoState7 HX2.out pc) (stCells_size HX2.out _).symm (stCells_one _ _) ?_
    simp only [ps]
    go_wp2_with fail
    refine bodyPost_ret (results_cell_row rfl _ _ (w.heap.size + 1) 58 (stCells (setR X r n) pc) (0, 0) _ rfl (setRow_heap _ _ _ _ _ _ N6'.out) Tryz.underlying58 rfl (infoState7 HX2.out pc)) rfl ?_
    exact ⟨rfl, below_setRow HB'.out (by omega) _⟩
  · have HV : Hid (setR X r n = X) := hid (Hno.out h0)
    go_upto_region 3 with (fail)
    clear hc hfz hl
    apply wp_region_lit
    refine wpList_load_row rfl 58 (.tmp 3) rfl w.heap.size rfl 58 (stCells X pc) (0, 0) _ N3.out Tryz.underlying58 rfl (infoState7 HX.out pc) ?_
    simp only [ps]
    refine wpList_store_row rfl 58 (.tmp 6) (.tmp 13) rfl (w.heap.size + 1) (stCells X pc) rfl rfl 58 zst N6.out (infoState7 HX.out pc) (stCells_size HX.out _).symm (stCells_one _ _) ?_
    simp only [ps]
    go_wp2_with fail
    refine bodyPost_ret (results_cell_row rfl _ _ (w.heap.size + 1) 58 (stCells X pc) (0, 0) _ rfl (setRow_heap _ _ _ _ _ _ N6.out) Tryz.underlying58 rfl (infoState7 HX.out pc)) rfl ?_
    exact ⟨by rw [HV.out], below_setRow HB.out (by omega) _⟩
theorem wnames_lit : wnames = [[97,100,100],[115,117,98],[115,108,108],[115,108,116],[115,108,116,117],[120,111,114],[115,114,108],[115,114,97],[111,114],[97,110,100],[109,117,108],[109,117,108,104],[109,117,108,104,115,117],[109,117,108,104,117],[100,105,118],[100,105,118,117],[114,101,109],[114,101,109,117],[97,100,100,119],[115,117,98,119],[115,108,108,119],[115,114,108,119],[115,114,97,119],[109,117,108,119],[100,105,118,119],[100,105,118,117,119],[114,101,109,119],[114,101,109,117,119]] := by kernel_rfl
theorem slt_idx : nameIdx [115, 108, 116] = 3 := by
  unfold nameIdx wname
  rw [wnames_lit]
  decide
theorem doN3 (a b : Nat) : doN 3 a b = 0 ∨ doN 3 a b = 1 := by
  rw [doN_full 3 a b (by decide) (by decide)]
  simp only [fullN, simpleN, Int.reduceLE, Int.reduceEq, ↓reduceIte]
  split
  · right; rfl
  · left; rfl
set_option maxHeartbeats 2000000 in
set_option maxRecDepth 100000 in
theorem refTaken_any (o : Nat) (h4 : 4 ≤ o) (h9 : o ≤ 9) (a b : Nat) (w : World) (ha : a < 18446744073709551616) (hb : b < 18446744073709551616) :
    Calls Tryz.prog 49 #[.string ⟨(nameB o).toArray⟩, .int .u64 a, .int .u64 b] w fun e w' => e = .returned (.bool (takenN o a b)) ∧ Below w.heap.size w w' := by
  have hd := doN3 a b
  have Hop := hid (fun W => refOp_any [115, 108, 116] W)
  rw [slt_idx] at Hop
  have Hdo := hid (fun W => refDo_any 3 a b W ha hb)
  have Hv : Hid (takenN o a b = if o = 4 then a == b else if o = 5 then a != b else if o = 6 then doN 3 a b == 1 else if o = 7 then doN 3 a b == 0 else if o = 8 then decide (a < b) else decide (b ≤ a)) := hid (by
    unfold takenN
    have e4 : ((o : Int) = 4) = (o = 4) := by rw [eq_iff_iff]; omega
    have e5 : ((o : Int) = 5) = (o = 5) := by rw [eq_iff_iff]; omega
    have e6 : ((o : Int) = 6) = (o = 6) := by rw [eq_iff_iff]; omega
    have e7 : ((o : Int) = 7) = (o = 7) := by rw [eq_iff_iff]; omega
    have e8 : ((o : Int) = 8) = (o = 8) := by rw [eq_iff_iff]; omega
    simp only [e4, e5, e6, e7, e8])
  generalize doN 3 a b = d at *
  obtain ⟨lb, hlb⟩ : ∃ lb, ((d : Int) == 1) = lb := ⟨_, rfl⟩
  have H6 : Hid ((d == 1) = lb) := hid (by rw [← hlb]; rcases hd with h | h <;> subst h <;> decide)
  have H7 : Hid ((d == 0) = !lb) := hid (by rw [← hlb]; rcases hd with h | h <;> subst h <;> decide)
  obtain ⟨r, hr⟩ : ∃ r, takenN o a b = r := ⟨_, rfl⟩
  rw [hr] at Hv ⊢
  clear hr hd
  have hcs : o = 4 ∨ o = 5 ∨ o = 6 ∨ o = 7 ∨ o = 8 ∨ o = 9 := by omega
  clear h4 h9
  go_enter Tryz.func49, Tryz.ntmps49
  go_upto_region 2 with (first
    | (go_at_call 55; refine (Hop.out _).mono ?_; rintro e w1 ⟨rfl, hb1⟩)
    | (go_at_call 54; refine (Hdo.out _).mono ?_; rintro e w2 ⟨rfl, hb2⟩))
  have HB := hid (hb1.trans (hb2.mono hb1.size))
  clear hb1 hb2
  clear Hop Hdo
  have htri := Nat.lt_trichotomy a b
  rcases hcs with rfl | rfl | rfl | rfl | rfl | rfl
  · rw [show nameB ((4 : Nat) : Int) = [98, 101, 113] from by decide]
    have Hv2 : Hid (r = (a == b)) := hid (by have h := Hv.out; rw [if_pos rfl] at h; exact h)
    clear Hv
    rcases htri with hl | hl | hl
    · have e1 : ((a : Int) == (b : Int)) = false := by rw [beq_eq_false_iff_ne]; omega
      go_wp2_with fail
      go_ret
      exact ⟨by rw [Hv2.out]; simp; omega, HB.out⟩
    · subst hl
      go_wp2_with fail
      go_ret
      exact ⟨by rw [Hv2.out]; simp, HB.out⟩
    · have e1 : ((a : Int) == (b : Int)) = false := by rw [beq_eq_false_iff_ne]; omega
      go_wp2_with fail
      go_ret
      exact ⟨by rw [Hv2.out]; simp; omega, HB.out⟩
  · rw [show nameB ((5 : Nat) : Int) = [98, 110, 101] from by decide]
    have Hv2 : Hid (r = (a != b)) := hid (by have h := Hv.out; rw [if_neg (by decide), if_pos rfl] at h; exact h)
    clear Hv
    rcases htri with hl | hl | hl
    · have e1 : ((a : Int) == (b : Int)) = false := by rw [beq_eq_false_iff_ne]; omega
      have e2 : ((a : Int) != (b : Int)) = true := by rw [bne_iff_ne]; omega
      go_wp2_with fail
      go_ret
      exact ⟨by rw [Hv2.out, show (a != b) = true from by rw [bne_iff_ne]; omega]; rfl, HB.out⟩
    · subst hl
      go_wp2_with fail
      go_ret
      exact ⟨by rw [Hv2.out, show (a != a) = false from by simp]; rfl, HB.out⟩
    · have e1 : ((a : Int) == (b : Int)) = false := by rw [beq_eq_false_iff_ne]; omega
      have e2 : ((a : Int) != (b : Int)) = true := by rw [bne_iff_ne]; omega
      go_wp2_with fail
      go_ret
      exact ⟨by rw [Hv2.out, show (a != b) = true from by rw [bne_iff_ne]; omega]; rfl, HB.out⟩
  · rw [show nameB ((6 : Nat) : Int) = [98, 108, 116] from by decide]
    have Hv2 : Hid (r = lb) := hid (by have h := Hv.out; rw [if_neg (by decide), if_neg (by decide), if_pos rfl, H6.out] at h; exact h)
    clear Hv
    go_wp2_with fail
    go_ret
    exact ⟨by rw [Hv2.out]; rfl, HB.out⟩
  · rw [show nameB ((7 : Nat) : Int) = [98, 103, 101] from by decide]
    have Hv2 : Hid (r = !lb) := hid (by have h := Hv.out; rw [if_neg (by decide), if_neg (by decide), if_neg (by decide), if_pos rfl, H7.out] at h; exact h)
    clear Hv
    go_wp2_with fail
    go_ret
    exact ⟨by rw [Hv2.out]; rfl, HB.out⟩
  · rw [show nameB ((8 : Nat) : Int) = [98, 108, 116, 117] from by decide]
    have Hv2 : Hid (r = decide (a < b)) := hid (by have h := Hv.out; rw [if_neg (by decide), if_neg (by decide), if_neg (by decide), if_neg (by decide), if_pos rfl] at h; exact h)
    clear Hv
    by_cases hl : a < b
    · go_wp2_with fail
      go_ret
      exact ⟨by rw [Hv2.out, show decide (a < b) = true from by simpa using hl]; first | rfl | simp; omega, HB.out⟩
    · go_wp2_with fail
      go_ret
      exact ⟨by rw [Hv2.out, show decide (a < b) = false from by simpa using hl]; first | rfl | simp; omega, HB.out⟩
  · rw [show nameB ((9 : Nat) : Int) = [98, 103, 101, 117] from by decide]
    have Hv2 : Hid (r = decide (b ≤ a)) := hid (by have h := Hv.out; rw [if_neg (by decide), if_neg (by decide), if_neg (by decide), if_neg (by decide), if_neg (by decide)] at h; exact h)
    clear Hv
    by_cases hl : b ≤ a
    · go_wp2_with fail
      go_ret
      exact ⟨by rw [Hv2.out, show decide (b ≤ a) = true from by simpa using hl]; first | rfl | simp; omega, HB.out⟩
    · go_wp2_with fail
      go_ret
      exact ⟨by rw [Hv2.out, show decide (b ≤ a) = false from by simpa using hl]; first | rfl | simp; omega, HB.out⟩
set_option maxHeartbeats 2000000 in
set_option maxRecDepth 100000 in
theorem refWidth_any (o : Nat) (h10 : 10 ≤ o) (h20 : o ≤ 20) (w : World) :
    Calls Tryz.prog 51 #[.string ⟨(nameB o).toArray⟩] w fun e w' => e = .returned (.int .i64 ((widthN o).1 : Nat)) ∧ w' = w := by
  have hcs : o = 10 ∨ o = 11 ∨ o = 12 ∨ o = 13 ∨ o = 14 ∨ o = 15 ∨ o = 16 ∨ o = 17 ∨ o = 18 ∨ o = 19 ∨ o = 20 := by omega
  clear h10 h20
  go_enter Tryz.func51, Tryz.ntmps51
  rcases hcs with rfl | rfl | rfl | rfl | rfl | rfl | rfl | rfl | rfl | rfl | rfl
  · rw [show nameB ((10 : Nat) : Int) = [108, 98] from by decide, show (widthN ((10 : Nat) : Int)).1 = 1 from by decide]
    go_wp2_with fail
    go_ret
    exact ⟨rfl, rfl⟩
  · rw [show nameB ((11 : Nat) : Int) = [108, 104] from by decide, show (widthN ((11 : Nat) : Int)).1 = 2 from by decide]
    go_wp2_with fail
    go_ret
    exact ⟨rfl, rfl⟩
  · rw [show nameB ((12 : Nat) : Int) = [108, 119] from by decide, show (widthN ((12 : Nat) : Int)).1 = 4 from by decide]
    go_wp2_with fail
    go_ret
    exact ⟨rfl, rfl⟩
  · rw [show nameB ((13 : Nat) : Int) = [108, 100] from by decide, show (widthN ((13 : Nat) : Int)).1 = 8 from by decide]
    go_wp2_with fail
    go_ret
    exact ⟨rfl, rfl⟩
  · rw [show nameB ((14 : Nat) : Int) = [108, 98, 117] from by decide, show (widthN ((14 : Nat) : Int)).1 = 1 from by decide]
    go_wp2_with fail
    go_ret
    exact ⟨rfl, rfl⟩
  · rw [show nameB ((15 : Nat) : Int) = [108, 104, 117] from by decide, show (widthN ((15 : Nat) : Int)).1 = 2 from by decide]
    go_wp2_with fail
    go_ret
    exact ⟨rfl, rfl⟩
  · rw [show nameB ((16 : Nat) : Int) = [108, 119, 117] from by decide, show (widthN ((16 : Nat) : Int)).1 = 4 from by decide]
    go_wp2_with fail
    go_ret
    exact ⟨rfl, rfl⟩
  · rw [show nameB ((17 : Nat) : Int) = [115, 98] from by decide, show (widthN ((17 : Nat) : Int)).1 = 1 from by decide]
    go_wp2_with fail
    go_ret
    exact ⟨rfl, rfl⟩
  · rw [show nameB ((18 : Nat) : Int) = [115, 104] from by decide, show (widthN ((18 : Nat) : Int)).1 = 2 from by decide]
    go_wp2_with fail
    go_ret
    exact ⟨rfl, rfl⟩
  · rw [show nameB ((19 : Nat) : Int) = [115, 119] from by decide, show (widthN ((19 : Nat) : Int)).1 = 4 from by decide]
    go_wp2_with fail
    go_ret
    exact ⟨rfl, rfl⟩
  · rw [show nameB ((20 : Nat) : Int) = [115, 100] from by decide, show (widthN ((20 : Nat) : Int)).1 = 8 from by decide]
    go_wp2_with fail
    go_ret
    exact ⟨rfl, rfl⟩
end
end Go.Proofs.YtiemingpbommeaaGreatDoor
