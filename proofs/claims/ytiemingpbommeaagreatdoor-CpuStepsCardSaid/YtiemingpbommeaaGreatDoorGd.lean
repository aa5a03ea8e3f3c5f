/- A space in memory: Load. -/
import Derived.Test.YtiemingpbommeaaGreatDoorGc
namespace Go.Proofs.YtiemingpbommeaaGreatDoor
open Go.RowKit
noncomputable section
set_option linter.unusedVariables false
set_option linter.unusedSimpArgs false
set_option maxHeartbeats 1000000 in
set_option maxRecDepth 100000 in
theorem spSized_any (sp : Nat) (size : Int) (w : World) :
    Calls Tryz.prog 107 #[.pointer (some ⟨sp, 0, none⟩), .int .i64 size] w fun e w' => e = .returned (.bool (sizeOk size)) ∧ w = w' := by
  by_cases h1 : size = 1
  · subst h1
    go_enter Tryz.func107, Tryz.ntmps107
    go_wp2
    go_ret
    exact ⟨rfl, rfl⟩
  by_cases h2 : size = 2
  · subst h2
    go_enter Tryz.func107, Tryz.ntmps107
    go_wp2
    go_ret
    exact ⟨rfl, rfl⟩
  by_cases h4 : size = 4
  · subst h4
    go_enter Tryz.func107, Tryz.ntmps107
    go_wp2
    go_ret
    exact ⟨rfl, rfl⟩
  by_cases h8 : size = 8
  · subst h8
    go_enter Tryz.func107, Tryz.ntmps107
    go_wp2
    go_ret
    exact ⟨rfl, rfl⟩
  have e1 : (size == 1) = false := beq_eq_false_iff_ne.2 h1
  have e2 : (size == 2) = false := beq_eq_false_iff_ne.2 h2
  have e4 : (size == 4) = false := beq_eq_false_iff_ne.2 h4
  have e8 : (size == 8) = false := beq_eq_false_iff_ne.2 h8
  have hv : sizeOk size = false := by unfold sizeOk; simp [h1, h2, h4, h8]
  rw [hv]
  clear h1 h2 h4 h8
  go_enter Tryz.func107, Tryz.ntmps107
  go_wp2
  go_ret
  exact ⟨rfl, rfl⟩
theorem sized_yes (sp : Nat) (size : Int) (w : World) (h : sizeOk size = true) :
    Calls Tryz.prog 107 #[.pointer (some ⟨sp, 0, none⟩), .int .i64 size] w fun e w' => e = .returned (.bool true) ∧ w = w' := by
  have := spSized_any sp size w; rwa [h] at this
theorem sized_no (sp : Nat) (size : Int) (w : World) (h : sizeOk size = false) :
    Calls Tryz.prog 107 #[.pointer (some ⟨sp, 0, none⟩), .int .i64 size] w fun e w' => e = .returned (.bool false) ∧ w = w' := by
  have := spSized_any sp size w; rwa [h] at this
/-- a fault's value -/
abbrev fltV (c a : Nat) : Value := .agg #[.int .i64 (c : Int), .int .u64 (a : Int), .string ⟨#[]⟩]
theorem may_at (sp m : Nat) (sl : Value) (q : Int) (ps : List (Pg × Nat)) (x n perm e c a : Nat) (hv : mayN (pgs ps) x n perm e = (c, a)) (ni : Int) (hni : ni = n) (w : World) (hx : x < 18446744073709551616) (hn : n ≤ 65536) (hp : perm < 8) (he : e < 100) (hS : SpaceIs w sp m sl q ps) :
    Calls Tryz.prog 28 #[.pointer (some ⟨sp, 0, none⟩), .int .u64 x, .int .i64 ni, .int .i64 perm, .int .i64 e] w fun r w' => r = .returned (fltV c a) ∧ Below w.heap.size w w' := by
  subst hni
  have := may_any sp m sl q ps x n perm e w hx hn hp he hS
  unfold mayV at this
  rw [hv] at this
  exact this
theorem ok_zero (a : Int) (s : ByteArray) (w : World) :
    Calls Tryz.prog 14 #[.agg #[.int .i64 0, .int .u64 a, .string s]] w fun e w' => e = .returned (.bool true) ∧ Below w.heap.size w w' := faultOK_any 0 a s w
theorem ok_not (c a : Int) (s : ByteArray) (w : World) (h : c ≠ 0) :
    Calls Tryz.prog 14 #[.agg #[.int .i64 c, .int .u64 a, .string s]] w fun e w' => e = .returned (.bool false) ∧ Below w.heap.size w w' := by
  have := faultOK_any c a s w
  rw [show (c == 0) = false from beq_eq_false_iff_ne.2 h] at this
  exact this
theorem results_tmp_cell {P : Program} {fn : Func} {p r : Tmp} {ty : TypeId} (h : fn.results = #[.tmp r, .cell p ty]) (tmps : Array Value) (w : World) (g : Nat) (t : TypeId) (cs : Array Value) (fr : Nat × Nat) (d : TypeDesc)
    (hp : tmps.getD p undef = .pointer (some ⟨g, 0, none⟩)) (hg : w.heap[g]? = some (.cells cs t fr))
    (hu : P.underlying ty = some d) (hd : (match d with | .struct _ | .array _ _ => true | _ => false) = true) (hi : (P.info? ty).map (·.size) = some cs.size) :
    (results fn tmps).run P w = .ok (.tuple #[tmps.getD r undef, .agg cs]) w := by
  have hp' : tmps[p]?.getD undef = .pointer (some ⟨g, 0, none⟩) := by simpa using hp
  simp [results, h, hp', asAddr, run_loadVar_row w g t ty cs fr d hg hu hd hi]
theorem exec_load_row {P : Program} {o : Oper} {a : Act} {w : World} (ty : TypeId) (x : Operand) (ho : o.op = .load ty x)
    (g : Nat) (hx : a.eval x = .pointer (some ⟨g, 0, none⟩)) (t : TypeId) (cs : Array Value) (fr : Nat × Nat) (d : TypeDesc) (hg : w.heap[g]? = some (.cells cs t fr))
    (hu : P.underlying ty = some d) (hd : (match d with | .struct _ | .array _ _ => true | _ => false) = true) (hi : (P.info? ty).map (·.size) = some cs.size) :
    (execOp a.eval o).run P w = .ok (.value (.agg cs)) w := by
  unfold execOp
  simp only [ho, hx, Instr.loadAt, Instr.sureAddr, Sem.run_bind, Sem.run_pure, Result.andThen_ok, run_loadVar_row w g t ty cs fr d hg hu hd hi]
/-- what Load answers -/
def LoadPost (M : List Pg) (x : Nat) (size : Int) (w : World) (r : Ending) (w' : World) : Prop :=
  r = .returned (.tuple #[.int .u64 ((loadN M x size).1 : Int), fltV (loadN M x size).2.1 (loadN M x size).2.2]) ∧ Below w.heap.size w w'
theorem sizeOk_nat {size : Int} (h : sizeOk size = true) : ∃ n : Nat, size = n ∧ n ≤ 8 ∧ 1 ≤ n := by
  unfold sizeOk at h
  simp only [decide_eq_true_eq] at h
  exact ⟨size.toNat, by omega, by omega, by omega⟩
set_option maxHeartbeats 4000000 in
set_option maxRecDepth 100000 in
theorem load_any (sp m : Nat) (sl : Value) (q : Int) (ps : List (Pg × Nat)) (x : Nat) (size : Int) (w : World) (hx : x < 18446744073709551616) (hS : SpaceIs w sp m sl q ps) :
    Calls Tryz.prog 106 #[.pointer (some ⟨sp, 0, none⟩), .int .u64 x, .int .i64 size] w (LoadPost (pgs ps) x size w) := by
  have HS := hid hS
  have Hx := hid hx
  clear hS
  cases hsz : sizeOk size with
  | false =>
    have Hsz := hid hsz
    have Hv : Hid (loadN (pgs ps) x size = (0, 1, 0)) := hid (by unfold loadN; rw [hsz]; rfl)
    clear hsz
    go_enter Tryz.func106, Tryz.ntmps106
    go_wp2_with fail
    refine (sized_no sp size _ Hsz.out).mono ?_
    rintro e w1 ⟨rfl, rfl⟩
    go_wp2_with fail
    refine (failOf_any _ _).mono ?_
    rintro e w1 ⟨rfl, hb⟩
    have N1 := (hb.block w.heap.size (by simp)).trans (heap_alloc_new w (.cells #[.int .i64 0, .int .u64 0, .string ⟨#[]⟩] 31))
    have HB1 : Below w.heap.size w w1 := ((Below.refl w.heap.size w).alloc (Nat.le_refl _) _).trans (hb.mono (by simp))
    go_wp2_with (refine wpList_store_row rfl 31 (.tmp 7) (.tmp 13) rfl w.heap.size _ rfl rfl 31 _ N1 infoFault rfl (faultRow_one ..) ?_)
    refine bodyPost_ret (results_tmp_cell rfl _ _ w.heap.size 31 _ (0, 0) _ rfl (setRow_heap _ _ _ _ _ _ N1) Tryz.underlying31 rfl infoFault) rfl ?_
    exact ⟨by rw [Hv.out]; rfl, below_setRow HB1 (Nat.le_refl _) _⟩
  | true =>
    have Hsz := hid hsz
    obtain ⟨n, rfl, hn8, hn1⟩ := sizeOk_nat hsz
    rcases hmv : mayN (pgs ps) x n 4 10 with ⟨c, a⟩
    have Hmv := hid hmv
    by_cases hc : c = 0
    · have Hall := hid (mayN_ok (M := pgs ps) (x := x) (n := n) (perm := 4) (e := 10) (by decide) (by rw [hmv]; exact hc))
      have Hv : Hid (loadN (pgs ps) x n = (getL (bytesN (pgs ps) x n), 0, 0)) := hid (by unfold loadN; rw [hsz, Int.toNat_natCast, hmv]; simp [hc])
      subst hc
      clear hsz hmv
      go_enter Tryz.func106, Tryz.ntmps106
      go_wp2_with fail
      refine (sized_yes sp n _ Hsz.out).mono ?_
      rintro e w1 ⟨rfl, rfl⟩
      go_wp2_with fail
      refine (may_at sp m sl q ps x n 4 10 0 a Hmv.out _ rfl _ Hx.out (by omega) (by decide) (by decide) (HS.out.below (Keep.below ((Keep.refl [] w).alloc _) (Nat.le_refl _) (by simp)))).mono ?_
      rintro e w1 ⟨rfl, hb⟩
      go_wp2_with fail
      refine (ok_zero _ _ _).mono ?_
      rintro e w2 ⟨rfl, hb2⟩
      have HB1 : Below w.heap.size w w1 := ((Below.refl w.heap.size w).alloc (Nat.le_refl _) _).trans (hb.mono (by simp))
      have N1 := (hb.block w.heap.size (by simp)).trans (heap_alloc_new w (.cells #[.int .i64 0, .int .u64 0, .string ⟨#[]⟩] 31))
      have HB2 : Below w.heap.size w w2 := (HB1.alloc HB1.size _).trans (hb2.mono (by have := HB1.size; simp; omega))
      have N2 : w2.heap[w.heap.size]? = _ := (hb2.block w.heap.size (by have := blk_lt' N1; simp; omega)).trans ((Below.heap_alloc _ _ _ (blk_lt' N1)).trans N1)
      have HS2 := hid (HS.out.below HB2)
      have HB2' := hid HB2
      have N2' := hid N2
      clear N1 N2 HB1 HB2 hb hb2
      go_wp2_with fail
      refine (bytes_any sp m sl q ps x n _ Hx.out (by omega) HS2.out (fun i hi => by obtain ⟨g, hg⟩ := okAt_some (Hall.out i hi); rw [hg]; rfl)).mono ?_
      rintro e w3 ⟨rfl, hb3⟩
      go_wp2_with fail
      refine (get_in (bytesN (pgs ps) x n) _ (by simp [bytesN]; omega)).mono ?_
      rintro e w4 ⟨rfl, m4, rfl⟩
      have N3 : (w3.drewN m4).heap[w.heap.size]? = _ := (hb3.block w.heap.size (blk_lt' N2'.out)).trans N2'.out
      have HB3 : Below w.heap.size w (w3.drewN m4) := below_drewN (HB2'.out.trans (hb3.mono HB2'.out.size)) _
      generalize w3.drewN m4 = w5 at *
      go_wp2_with (refine wpList_store_row rfl 31 (.tmp 7) (.tmp 27) rfl w.heap.size _ rfl rfl 31 _ N3 infoFault rfl (faultRow_one ..) ?_)
      refine bodyPost_ret (results_tmp_cell rfl _ _ w.heap.size 31 _ (0, 0) _ rfl (setRow_heap _ _ _ _ _ _ N3) Tryz.underlying31 rfl infoFault) rfl ?_
      exact ⟨by rw [Hv.out]; rfl, below_setRow HB3 (Nat.le_refl _) _⟩
    · have Hv : Hid (loadN (pgs ps) x n = (0, c, a)) := hid (by unfold loadN; rw [hsz, Int.toNat_natCast, hmv]; simp [hc])
      clear hsz hmv
      go_enter Tryz.func106, Tryz.ntmps106
      go_wp2_with fail
      refine (sized_yes sp n _ Hsz.out).mono ?_
      rintro e w1 ⟨rfl, rfl⟩
      go_wp2_with fail
      refine (may_at sp m sl q ps x n 4 10 c a Hmv.out _ rfl _ Hx.out (by omega) (by decide) (by decide) (HS.out.below (Keep.below ((Keep.refl [] w).alloc _) (Nat.le_refl _) (by simp)))).mono ?_
      rintro e w1 ⟨rfl, hb⟩
      go_wp2_with fail
      refine (ok_not _ _ _ _ (by omega)).mono ?_
      rintro e w2 ⟨rfl, hb2⟩
      have HB1 : Below w.heap.size w w1 := ((Below.refl w.heap.size w).alloc (Nat.le_refl _) _).trans (hb.mono (by simp))
      have N1 := (hb.block w.heap.size (by simp)).trans (heap_alloc_new w (.cells #[.int .i64 0, .int .u64 0, .string ⟨#[]⟩] 31))
      have HB2 : Below w.heap.size w w2 := (HB1.alloc HB1.size _).trans (hb2.mono (by have := HB1.size; simp; omega))
      have N2 : w2.heap[w.heap.size]? = _ := (hb2.block w.heap.size (by have := blk_lt' N1; simp; omega)).trans ((Below.heap_alloc _ _ _ (blk_lt' N1)).trans N1)
      have M2 : w2.heap[w1.heap.size]? = _ := (hb2.block w1.heap.size (by simp)).trans (heap_alloc_new _ _)
      have hne : w1.heap.size ≠ w.heap.size := by have := blk_lt' N1; omega
      clear N1 HB1 hb hb2
      go_wp2_with fail
      refine wp_region_quiet_tail 2 (fun w' => ∃ u, w' = aft w2 u) (by kernel_rfl) (by kernel_rfl) (aft_drew _) ?_
      simp only [List.take_succ_cons, List.take_zero, List.drop_succ_cons, List.drop_zero]
      refine quiet_val (.agg #[.int .i64 c, .int .u64 a, .string ⟨#[]⟩]) rfl (fun w' hC => ?_) ?_
      · obtain ⟨u, rfl⟩ := hC
        exact exec_load_row 31 (.tmp 8) rfl w1.heap.size rfl 31 _ (0, 0) _ ((aft_heap (blk_lt' M2)).trans M2) Tryz.underlying31 rfl infoFault
      simp only [Act.put, List.setIfInBounds_toArray, List.set_cons_zero, List.set_cons_succ]
      refine quiet_val (.int .u64 0) rfl (fun w' hC => rfl) ?_
      simp only [Act.put, List.setIfInBounds_toArray, List.set_cons_zero, List.set_cons_succ]
      refine wpQuiet_nil ?_
      rintro w5 ⟨u, rfl⟩
      have N3 := (aft_heap (u := u) (blk_lt' N2)).trans N2
      have HB3 : Below w.heap.size w (aft w2 u) := HB2.trans ((aft_below w2 u).mono HB2.size)
      go_wp2_with (refine wpList_store_row rfl 31 (.tmp 7) (.tmp 21) rfl w.heap.size _ rfl rfl 31 _ N3 infoFault rfl (faultRow_one ..) ?_)
      refine bodyPost_ret (results_tmp_cell rfl _ _ w.heap.size 31 _ (0, 0) _ rfl (setRow_heap _ _ _ _ _ _ N3) Tryz.underlying31 rfl infoFault) rfl ?_
      exact ⟨by rw [Hv.out]; rfl, below_setRow HB3 (Nat.le_refl _) _⟩
end
end Go.Proofs.YtiemingpbommeaaGreatDoor

/- A space in memory: Fetch, Peek. -/
namespace Go.Proofs.YtiemingpbommeaaGreatDoor
open Go.RowKit
noncomputable section
set_option linter.unusedVariables false
set_option linter.unusedSimpArgs false
/-- what Fetch answers -/
def FetchPost (M : List Pg) (x : Nat) (w : World) (r : Ending) (w' : World) : Prop :=
  r = .returned (.tuple #[.int .u32 ((fetchN M x).1 : Int), fltV (fetchN M x).2.1 (fetchN M x).2.2]) ∧ Below w.heap.size w w'
theorem u32w (n : Nat) (h : n < 4294967296) : IntKind.u32.wrap (n : Int) = (n : Int) := by rw [IntKind.wrap_u32]; omega
theorem getL_lt32 (l : List UInt8) (h : l.length = 4) : getL l < 4294967296 := by
  have := getL_lt l
  rw [h] at this
  omega
set_option maxHeartbeats 4000000 in
set_option maxRecDepth 100000 in
theorem fetch_any (sp m : Nat) (sl : Value) (q : Int) (ps : List (Pg × Nat)) (x : Nat) (w : World) (hx : x < 18446744073709551616) (hS : SpaceIs w sp m sl q ps) :
    Calls Tryz.prog 31 #[.pointer (some ⟨sp, 0, none⟩), .int .u64 x] w (FetchPost (pgs ps) x w) := by
  have HS := hid hS
  have Hx := hid hx
  clear hS
  by_cases h4 : x % 4 = 0
  · have hx4 : (x : Int) % 4 = 0 := by omega
    have H4 := hid h4
    rcases hmv : mayN (pgs ps) x 4 1 12 with ⟨c, a⟩
    have Hmv := hid hmv
    by_cases hc : c = 0
    · have Hall := hid (mayN_ok (M := pgs ps) (x := x) (n := 4) (perm := 1) (e := 12) (by decide) (by rw [hmv]; exact hc))
      have Hv : Hid (fetchN (pgs ps) x = (getL (bytesN (pgs ps) x 4), 0, 0)) := hid (by unfold fetchN; rw [if_pos h4, hmv]; simp [hc])
      have hg32 := getL_lt32 (bytesN (pgs ps) x 4) (by simp [bytesN])
      subst hc
      clear hmv h4
      generalize hbs : bytesN (pgs ps) x 4 = bs at *
      have hbl : bs.length ≤ 8 := by rw [← hbs]; simp [bytesN]
      have Hbs := hid hbs
      have Hbl := hid hbl
      have hg32' := u32w _ hg32
      clear hbs hbl hg32
      go_enter Tryz.func31, Tryz.ntmps31
      go_wp2_with fail
      refine (may_at sp m sl q ps x 4 1 12 0 a Hmv.out _ rfl _ Hx.out (by omega) (by decide) (by decide) (HS.out.below (Keep.below ((Keep.refl [] w).alloc _) (Nat.le_refl _) (by simp)))).mono ?_
      rintro e w1 ⟨rfl, hb⟩
      go_wp2_with fail
      refine (ok_zero _ _ _).mono ?_
      rintro e w2 ⟨rfl, hb2⟩
      have HB1 : Below w.heap.size w w1 := ((Below.refl w.heap.size w).alloc (Nat.le_refl _) _).trans (hb.mono (by simp))
      have N1 := (hb.block w.heap.size (by simp)).trans (heap_alloc_new w (.cells #[.int .i64 0, .int .u64 0, .string ⟨#[]⟩] 31))
      have HB2 : Below w.heap.size w w2 := (HB1.alloc HB1.size _).trans (hb2.mono (by have := HB1.size; simp; omega))
      have N2 : w2.heap[w.heap.size]? = _ := (hb2.block w.heap.size (by have := blk_lt' N1; simp; omega)).trans ((Below.heap_alloc _ _ _ (blk_lt' N1)).trans N1)
      have HS2 := hid (HS.out.below HB2)
      have HB2' := hid HB2
      have N2' := hid N2
      clear N1 N2 HB1 HB2 hb hb2
      go_wp2_with fail
      refine (bytes_any sp m sl q ps x 4 _ Hx.out (by omega) HS2.out (fun i hi => by obtain ⟨g, hg⟩ := okAt_some (Hall.out i hi); rw [hg]; rfl)).mono ?_
      rw [Hbs.out]
      rintro e w3 ⟨rfl, hb3⟩
      go_wp2_with fail
      refine (get_in bs _ Hbl.out).mono ?_
      rintro e w4 ⟨rfl, m4, rfl⟩
      have N3 : (w3.drewN m4).heap[w.heap.size]? = _ := (hb3.block w.heap.size (blk_lt' N2'.out)).trans N2'.out
      have HB3 : Below w.heap.size w (w3.drewN m4) := below_drewN (HB2'.out.trans (hb3.mono HB2'.out.size)) _
      generalize w3.drewN m4 = w5 at *
      go_wp2_with (refine wpList_store_row rfl 31 (.tmp 5) (.tmp 29) rfl w.heap.size _ rfl rfl 31 _ N3 infoFault rfl (faultRow_one ..) ?_)
      refine bodyPost_ret (results_tmp_cell rfl _ _ w.heap.size 31 _ (0, 0) _ rfl (setRow_heap _ _ _ _ _ _ N3) Tryz.underlying31 rfl infoFault) rfl ?_
      exact ⟨by rw [Hv.out]; rfl, below_setRow HB3 (Nat.le_refl _) _⟩
    · have Hv : Hid (fetchN (pgs ps) x = (0, c, a)) := hid (by unfold fetchN; rw [if_pos h4, hmv]; simp [hc])
      clear hmv h4
      go_enter Tryz.func31, Tryz.ntmps31
      go_wp2_with fail
      refine (may_at sp m sl q ps x 4 1 12 c a Hmv.out _ rfl _ Hx.out (by omega) (by decide) (by decide) (HS.out.below (Keep.below ((Keep.refl [] w).alloc _) (Nat.le_refl _) (by simp)))).mono ?_
      rintro e w1 ⟨rfl, hb⟩
      go_wp2_with fail
      refine (ok_not _ _ _ _ (by omega)).mono ?_
      rintro e w2 ⟨rfl, hb2⟩
      have HB1 : Below w.heap.size w w1 := ((Below.refl w.heap.size w).alloc (Nat.le_refl _) _).trans (hb.mono (by simp))
      have N1 := (hb.block w.heap.size (by simp)).trans (heap_alloc_new w (.cells #[.int .i64 0, .int .u64 0, .string ⟨#[]⟩] 31))
      have HB2 : Below w.heap.size w w2 := (HB1.alloc HB1.size _).trans (hb2.mono (by have := HB1.size; simp; omega))
      have N2 : w2.heap[w.heap.size]? = _ := (hb2.block w.heap.size (by have := blk_lt' N1; simp; omega)).trans ((Below.heap_alloc _ _ _ (blk_lt' N1)).trans N1)
      have M2 : w2.heap[w1.heap.size]? = _ := (hb2.block w1.heap.size (by simp)).trans (heap_alloc_new _ _)
      have hne : w1.heap.size ≠ w.heap.size := by have := blk_lt' N1; omega
      clear N1 HB1 hb hb2
      go_wp2_with fail
      refine wp_region_quiet_tail 2 (fun w' => ∃ u, w' = aft w2 u) (by kernel_rfl) (by kernel_rfl) (aft_drew _) ?_
      simp only [List.take_succ_cons, List.take_zero, List.drop_succ_cons, List.drop_zero]
      refine quiet_val (.agg #[.int .i64 c, .int .u64 a, .string ⟨#[]⟩]) rfl (fun w' hC => ?_) ?_
      · obtain ⟨u, rfl⟩ := hC
        exact exec_load_row 31 (.tmp 6) rfl w1.heap.size rfl 31 _ (0, 0) _ ((aft_heap (blk_lt' M2)).trans M2) Tryz.underlying31 rfl infoFault
      simp only [Act.put, List.setIfInBounds_toArray, List.set_cons_zero, List.set_cons_succ]
      refine quiet_val (.int .u32 0) rfl (fun w' hC => rfl) ?_
      simp only [Act.put, List.setIfInBounds_toArray, List.set_cons_zero, List.set_cons_succ]
      refine wpQuiet_nil ?_
      rintro w5 ⟨u, rfl⟩
      have N3 := (aft_heap (u := u) (blk_lt' N2)).trans N2
      have HB3 : Below w.heap.size w (aft w2 u) := HB2.trans ((aft_below w2 u).mono HB2.size)
      go_wp2_with (refine wpList_store_row rfl 31 (.tmp 5) (.tmp 23) rfl w.heap.size _ rfl rfl 31 _ N3 infoFault rfl (faultRow_one ..) ?_)
      refine bodyPost_ret (results_tmp_cell rfl _ _ w.heap.size 31 _ (0, 0) _ rfl (setRow_heap _ _ _ _ _ _ N3) Tryz.underlying31 rfl infoFault) rfl ?_
      exact ⟨by rw [Hv.out]; rfl, below_setRow HB3 (Nat.le_refl _) _⟩
  · have hx4 : ((x : Int) % 4 != 0) = true := by rw [bne_iff_ne]; omega
    have Hv : Hid (fetchN (pgs ps) x = (0, 13, x)) := hid (by unfold fetchN; rw [if_neg h4])
    clear h4
    go_enter Tryz.func31, Tryz.ntmps31
    go_wp2_with fail
    refine (failAt_any _ _ _).mono ?_
    rintro e w1 ⟨rfl, hb⟩
    have N1 := (hb.block w.heap.size (by simp)).trans (heap_alloc_new w (.cells #[.int .i64 0, .int .u64 0, .string ⟨#[]⟩] 31))
    have HB1 : Below w.heap.size w w1 := ((Below.refl w.heap.size w).alloc (Nat.le_refl _) _).trans (hb.mono (by simp))
    go_wp2_with (refine wpList_store_row rfl 31 (.tmp 5) (.tmp 16) rfl w.heap.size _ rfl rfl 31 _ N1 infoFault rfl (faultRow_one ..) ?_)
    refine bodyPost_ret (results_tmp_cell rfl _ _ w.heap.size 31 _ (0, 0) _ rfl (setRow_heap _ _ _ _ _ _ N1) Tryz.underlying31 rfl infoFault) rfl ?_
    exact ⟨by rw [Hv.out]; rfl, below_setRow HB1 (Nat.le_refl _) _⟩
end
end Go.Proofs.YtiemingpbommeaaGreatDoor

/- A space in memory: Peek, Poke, Store. -/
namespace Go.Proofs.YtiemingpbommeaaGreatDoor
open Go.RowKit
noncomputable section
set_option linter.unusedVariables false
set_option linter.unusedSimpArgs false
/-- Peek: the bytes; the fault's number and address -/
def peekN (M : List Pg) (x n : Nat) : List UInt8 × Nat × Nat := if (mayN M x n 0 0).1 = 0 then (bytesN M x n, 0, 0) else ([], mayN M x n 0 0)
/-- Poke -/
def pokeN (M : List Pg) (x : Nat) (bs : List UInt8) : List Pg × Nat × Nat := if (mayN M x bs.length 0 0).1 = 0 then (layN M x bs, 0, 0) else (M, mayN M x bs.length 0 0)
theorem okAt_zero (M : List Pg) (y : Nat) : okAt M 0 y = (pgOf M y).isSome := by
  unfold okAt; cases pgOf M y with
  | none => rfl
  | some g => simp
theorem mayN_ok0 {M : List Pg} {x n : Nat} (h : (mayN M x n 0 0).1 = 0) : ∀ i, i < n → (pgOf M (adr x i)).isSome = true := by
  unfold mayN at h
  cases hf : (List.range n).find? (fun i => !okAt M 0 (adr x i)) with
  | none =>
    intro i hi
    have := List.find?_eq_none.1 hf i (List.mem_range.2 hi)
    rw [okAt_zero] at this
    simpa only [Bool.not_eq_true', Bool.not_eq_false] using this
  | some i =>
    rw [hf] at h
    have h1 := List.find?_some hf
    rw [okAt_zero] at h1
    simp only at h
    have h2 : (pgOf M (adr x i)).isSome = false := by simpa using h1
    rw [h2] at h
    simp at h
theorem mayN_all0 {M : List Pg} {x n : Nat} (h : ∀ i, i < n → (pgOf M (adr x i)).isSome = true) : mayN M x n 0 0 = (0, 0) :=
  mayN_none fun i hi => by rw [okAt_zero]; exact h i hi
def PeekPost (M : List Pg) (x n : Nat) (w : World) (r : Ending) (w' : World) : Prop :=
  r = .returned (.tuple #[.string ⟨(peekN M x n).1.toArray⟩, fltV (peekN M x n).2.1 (peekN M x n).2.2]) ∧ Below w.heap.size w w'
set_option maxHeartbeats 4000000 in
set_option maxRecDepth 100000 in
theorem peek_any (sp m : Nat) (sl : Value) (q : Int) (ps : List (Pg × Nat)) (x n : Nat) (w : World) (hx : x < 18446744073709551616) (hn : n ≤ 65536) (hS : SpaceIs w sp m sl q ps) :
    Calls Tryz.prog 56 #[.pointer (some ⟨sp, 0, none⟩), .int .u64 x, .int .i64 n] w (PeekPost (pgs ps) x n w) := by
  have HS := hid hS
  have Hx := hid hx
  clear hS
  rcases hmv : mayN (pgs ps) x n 0 0 with ⟨c, a⟩
  have Hmv := hid hmv
  by_cases hc : c = 0
  · have Hall := hid (mayN_ok0 (M := pgs ps) (x := x) (n := n) (by rw [hmv]; exact hc))
    have Hv : Hid (peekN (pgs ps) x n = (bytesN (pgs ps) x n, 0, 0)) := hid (by unfold peekN; rw [hmv]; simp [hc])
    subst hc
    clear hmv
    go_enter Tryz.func56, Tryz.ntmps56
    go_wp2_with fail
    refine (may_at sp m sl q ps x n 0 0 0 a Hmv.out _ rfl _ Hx.out (by omega) (by decide) (by decide) (HS.out.below (Keep.below ((Keep.refl [] w).alloc _) (Nat.le_refl _) (by simp)))).mono ?_
    rintro e w1 ⟨rfl, hb⟩
    go_wp2_with fail
    refine (ok_zero _ _ _).mono ?_
    rintro e w2 ⟨rfl, hb2⟩
    have HB1 : Below w.heap.size w w1 := ((Below.refl w.heap.size w).alloc (Nat.le_refl _) _).trans (hb.mono (by simp))
    have N1 := (hb.block w.heap.size (by simp)).trans (heap_alloc_new w (.cells #[.int .i64 0, .int .u64 0, .string ⟨#[]⟩] 31))
    have HB2 : Below w.heap.size w w2 := (HB1.alloc HB1.size _).trans (hb2.mono (by have := HB1.size; simp; omega))
    have N2 : w2.heap[w.heap.size]? = _ := (hb2.block w.heap.size (by have := blk_lt' N1; simp; omega)).trans ((Below.heap_alloc _ _ _ (blk_lt' N1)).trans N1)
    have HS2 := hid (HS.out.below HB2)
    have HB2' := hid HB2
    have N2' := hid N2
    clear N1 N2 HB1 HB2 hb hb2
    go_wp2_with fail
    refine (bytes_any sp m sl q ps x n _ Hx.out (by omega) HS2.out (fun i hi => Hall.out i hi)).mono ?_
    rintro e w3 ⟨rfl, hb3⟩
    have N3 : w3.heap[w.heap.size]? = _ := (hb3.block w.heap.size (blk_lt' N2'.out)).trans N2'.out
    have HB3 : Below w.heap.size w w3 := HB2'.out.trans (hb3.mono HB2'.out.size)
    go_wp2_with (refine wpList_store_row rfl 31 (.tmp 7) (.tmp 32) rfl w.heap.size _ rfl rfl 31 _ N3 infoFault rfl (faultRow_one ..) ?_)
    refine bodyPost_ret (results_tmp_cell rfl _ _ w.heap.size 31 _ (0, 0) _ rfl (setRow_heap _ _ _ _ _ _ N3) Tryz.underlying31 rfl infoFault) rfl ?_
    exact ⟨by rw [Hv.out]; rfl, below_setRow HB3 (Nat.le_refl _) _⟩
  · have Hv : Hid (peekN (pgs ps) x n = ([], c, a)) := hid (by unfold peekN; rw [hmv]; simp [hc])
    clear hmv
    go_enter Tryz.func56, Tryz.ntmps56
    go_wp2_with fail
    refine (may_at sp m sl q ps x n 0 0 c a Hmv.out _ rfl _ Hx.out (by omega) (by decide) (by decide) (HS.out.below (Keep.below ((Keep.refl [] w).alloc _) (Nat.le_refl _) (by simp)))).mono ?_
    rintro e w1 ⟨rfl, hb⟩
    go_wp2_with fail
    refine (ok_not _ _ _ _ (by omega)).mono ?_
    rintro e w2 ⟨rfl, hb2⟩
    have HB1 : Below w.heap.size w w1 := ((Below.refl w.heap.size w).alloc (Nat.le_refl _) _).trans (hb.mono (by simp))
    have N1 := (hb.block w.heap.size (by simp)).trans (heap_alloc_new w (.cells #[.int .i64 0, .int .u64 0, .string ⟨#[]⟩] 31))
    have HB2 : Below w.heap.size w w2 := (HB1.alloc HB1.size _).trans (hb2.mono (by have := HB1.size; simp; omega))
    have N2 : w2.heap[w.heap.size]? = _ := (hb2.block w.heap.size (by have := blk_lt' N1; simp; omega)).trans ((Below.heap_alloc _ _ _ (blk_lt' N1)).trans N1)
    have M2 : w2.heap[w1.heap.size]? = _ := (hb2.block w1.heap.size (by simp)).trans (heap_alloc_new _ _)
    have hne : w1.heap.size ≠ w.heap.size := by have := blk_lt' N1; omega
    clear N1 HB1 hb hb2
    go_wp2_with fail
    refine wp_region_quiet_tail 2 (fun w' => ∃ u, w' = aft w2 u) (by kernel_rfl) (by kernel_rfl) (aft_drew _) ?_
    simp only [List.take_succ_cons, List.take_zero, List.drop_succ_cons, List.drop_zero]
    refine quiet_val (.agg #[.int .i64 c, .int .u64 a, .string ⟨#[]⟩]) rfl (fun w' hC => ?_) ?_
    · obtain ⟨u, rfl⟩ := hC
      exact exec_load_row 31 (.tmp 8) rfl w1.heap.size rfl 31 _ (0, 0) _ ((aft_heap (blk_lt' M2)).trans M2) Tryz.underlying31 rfl infoFault
    simp only [Act.put, List.setIfInBounds_toArray, List.set_cons_zero, List.set_cons_succ]
    refine quiet_val (.string ⟨#[]⟩) rfl (fun w' hC => rfl) ?_
    simp only [Act.put, List.setIfInBounds_toArray, List.set_cons_zero, List.set_cons_succ]
    refine wpQuiet_nil ?_
    rintro w5 ⟨u, rfl⟩
    have N3 := (aft_heap (u := u) (blk_lt' N2)).trans N2
    have HB3 : Below w.heap.size w (aft w2 u) := HB2.trans ((aft_below w2 u).mono HB2.size)
    go_wp2_with (refine wpList_store_row rfl 31 (.tmp 7) (.tmp 27) rfl w.heap.size _ rfl rfl 31 _ N3 infoFault rfl (faultRow_one ..) ?_)
    refine bodyPost_ret (results_tmp_cell rfl _ _ w.heap.size 31 _ (0, 0) _ rfl (setRow_heap _ _ _ _ _ _ N3) Tryz.underlying31 rfl infoFault) rfl ?_
    exact ⟨by rw [Hv.out]; rfl, below_setRow HB3 (Nat.le_refl _) _⟩
/-- what a store leaves: a space in order with other pages, all else as it was -/
def Stored (sp m : Nat) (sl : Value) (q : Int) (ps : List (Pg × Nat)) (M' : List Pg) (w w' : World) : Prop :=
  ∃ ps', pgs ps' = M' ∧ blks ps' = blks ps ∧ SpaceIs w' sp m sl q ps' ∧ Keep (blks ps) w w'
def PokePost (sp m : Nat) (sl : Value) (q : Int) (ps : List (Pg × Nat)) (x : Nat) (bs : List UInt8) (w : World) (r : Ending) (w' : World) : Prop :=
  r = .returned (fltV (pokeN (pgs ps) x bs).2.1 (pokeN (pgs ps) x bs).2.2) ∧ Stored sp m sl q ps (pokeN (pgs ps) x bs).1 w w'
def StorePost (sp m : Nat) (sl : Value) (q : Int) (ps : List (Pg × Nat)) (x n : Nat) (size : Int) (w : World) (r : Ending) (w' : World) : Prop :=
  r = .returned (fltV (storeN (pgs ps) x n size).2.1 (storeN (pgs ps) x n size).2.2) ∧ Stored sp m sl q ps (storeN (pgs ps) x n size).1 w w'
/-- a block that is no page's stays where the pages' alone turn -/
theorem SpaceIs.keepRow {w w' : World} {sp m : Nat} {sl : Value} {q : Int} {ps : List (Pg × Nat)} (h : SpaceIs w sp m sl q ps) (hk : Keep (blks ps) w w') {b : Nat} {cs : Array Value} {t : TypeId} (hb : w.heap[b]? = some (.cells cs t (0, 0)))
    (ht : t ≠ 85) : w'.heap[b]? = some (.cells cs t (0, 0)) :=
  hk.row hb (h.not_blk hb fun cs' e => by
    have := congrArg (fun o : Obj => match o with | .cells _ t _ => t | _ => 0) e
    exact ht this)
theorem Stored.row {sp m : Nat} {sl : Value} {q : Int} {ps : List (Pg × Nat)} {M' : List Pg} {w w' : World} (h : Stored sp m sl q ps M' w w') (hS : SpaceIs w sp m sl q ps) {b : Nat} {cs : Array Value} {t : TypeId} (hb : w.heap[b]? = some (.cells cs t (0, 0)))
    (ht : t ≠ 85) : w'.heap[b]? = some (.cells cs t (0, 0)) := by
  obtain ⟨_, _, _, _, hk⟩ := h
  exact hS.keepRow hk hb ht
theorem Stored.same {sp m : Nat} {sl : Value} {q : Int} {ps : List (Pg × Nat)} {w w' : World} (h : SpaceIs w sp m sl q ps) (hb : Below w.heap.size w w') : Stored sp m sl q ps (pgs ps) w w' :=
  ⟨ps, rfl, rfl, h.below hb, Keep.of_below hb⟩
theorem SpaceIs.row_new {w : World} {sp m : Nat} {sl : Value} {q : Int} {ps : List (Pg × Nat)} (h : SpaceIs w sp m sl q ps) {g : Nat} (hsp : g ≠ sp) (hm : g ≠ m) (hb : g ∉ blks ps) (cs : Array Value) : SpaceIs (w.setRow g cs) sp m sl q ps :=
  h.kept (S := [g]) ((Keep.refl [g] w).setRow g cs (.inr (by simp))) (by simpa using Ne.symm hsp) (by simpa using Ne.symm hm) (fun b hb' => by simp; rintro rfl; exact hb hb')
set_option maxHeartbeats 4000000 in
set_option maxRecDepth 100000 in
theorem poke_any (sp m : Nat) (sl : Value) (q : Int) (ps : List (Pg × Nat)) (x : Nat) (bs : List UInt8) (w : World) (hx : x < 18446744073709551616) (hn : bs.length ≤ 65536) (hS : SpaceIs w sp m sl q ps) :
    Calls Tryz.prog 11 #[.pointer (some ⟨sp, 0, none⟩), .int .u64 x, .string ⟨bs.toArray⟩] w (PokePost sp m sl q ps x bs w) := by
  have HS := hid hS
  have Hx := hid hx
  have hsz : (⟨bs.toArray⟩ : ByteArray).size = bs.length := by simp [ByteArray.size]
  clear hS
  rcases hmv : mayN (pgs ps) x bs.length 0 0 with ⟨c, a⟩
  have Hmv := hid hmv
  by_cases hc : c = 0
  · have Hall := hid (mayN_ok0 (M := pgs ps) (x := x) (n := bs.length) (by rw [hmv]; exact hc))
    have ha : a = 0 := by
      have := mayN_all0 Hall.out
      rw [hmv] at this
      exact congrArg Prod.snd this
    have Hv : Hid (pokeN (pgs ps) x bs = (layN (pgs ps) x bs, 0, 0)) := hid (by unfold pokeN; rw [hmv]; simp [hc])
    subst hc; subst ha
    clear hmv
    go_enter Tryz.func11, Tryz.ntmps11
    go_wp2_with fail
    refine (may_at sp m sl q ps x bs.length 0 0 0 0 Hmv.out _ rfl _ Hx.out (by omega) (by decide) (by decide) (HS.out.below (Keep.below ((Keep.refl [] w).alloc _) (Nat.le_refl _) (by simp)))).mono ?_
    rintro e w1 ⟨rfl, hb⟩
    go_wp2_with fail
    refine (ok_zero _ _ _).mono ?_
    rintro e w2 ⟨rfl, hb2⟩
    have HB1 : Below w.heap.size w w1 := ((Below.refl w.heap.size w).alloc (Nat.le_refl _) _).trans (hb.mono (by simp))
    have N1 := (hb.block w.heap.size (by simp)).trans (heap_alloc_new w (.cells #[.int .i64 0, .int .u64 0, .string ⟨#[]⟩] 31))
    have HB2 : Below w.heap.size w w2 := (HB1.alloc HB1.size _).trans (hb2.mono (by have := HB1.size; simp; omega))
    have N2 : w2.heap[w.heap.size]? = _ := (hb2.block w.heap.size (by have := blk_lt' N1; simp; omega)).trans ((Below.heap_alloc _ _ _ (blk_lt' N1)).trans N1)
    have M2 : w2.heap[w1.heap.size]? = _ := (hb2.block w1.heap.size (by simp)).trans (heap_alloc_new _ _)
    have HS2 := hid (HS.out.below HB2)
    have HB2' := hid HB2
    have N2' := hid N2
    have M2' := hid M2
    clear N1 N2 HB1 HB2 hb hb2 M2
    go_wp2_with fail
    refine (lay_any sp m sl q ps x bs _ Hx.out hn HS2.out Hall.out).mono ?_
    rintro e w3 ⟨rfl, hS3, hk3⟩
    have N3 := HS2.out.keepRow hk3 N2'.out (by decide)
    have M3 := HS2.out.keepRow hk3 M2'.out (by decide)
    have c0 : w3.cell? ⟨w1.heap.size, 0, none⟩ = some (.int .i64 0) := by rw [cell_of_row w3 _ _ _ _ _ M3]; rfl
    have c1 : w3.cell? ⟨w1.heap.size, 1, none⟩ = some (.int .u64 0) := by rw [cell_of_row w3 _ _ _ _ _ M3]; rfl
    have c2 : w3.cell? ⟨w1.heap.size, 2, none⟩ = some (.string ⟨#[]⟩) := by rw [cell_of_row w3 _ _ _ _ _ M3]; rfl
    clear M3
    have HS3 := hid hS3
    have Hk3 := hid hk3
    clear hS3 hk3
    go_wp2_with (refine wpList_store_row rfl 31 (.tmp 6) (.tmp 27) rfl w.heap.size _ rfl rfl 31 _ N3 infoFault rfl (faultRow_one ..) ?_)
    refine bodyPost_ret (results_cell_row rfl _ _ w.heap.size 31 _ (0, 0) _ rfl (setRow_heap _ _ _ _ _ _ N3) Tryz.underlying31 rfl infoFault) rfl ?_
    refine ⟨by rw [Hv.out]; rfl, psLay ps x bs bs.length, by rw [Hv.out, pgs_psLay]; rfl, blks_psLay _ _ _ _, HS3.out.row_new ?_ ?_ ?_ _, ((Keep.of_below HB2'.out).trans Hk3.out).setRow _ _ (.inl (Nat.le_refl _))⟩
    · have := blk_lt' HS.out.row; omega
    · have := blk_lt' HS.out.map; omega
    · rw [blks_psLay]; intro h; have := HS.out.lt_blk h; omega
  · have Hv : Hid (pokeN (pgs ps) x bs = (pgs ps, c, a)) := hid (by unfold pokeN; rw [hmv]; simp [hc])
    clear hmv
    go_enter Tryz.func11, Tryz.ntmps11
    go_wp2_with fail
    refine (may_at sp m sl q ps x bs.length 0 0 c a Hmv.out _ rfl _ Hx.out (by omega) (by decide) (by decide) (HS.out.below (Keep.below ((Keep.refl [] w).alloc _) (Nat.le_refl _) (by simp)))).mono ?_
    rintro e w1 ⟨rfl, hb⟩
    go_wp2_with fail
    refine (ok_not _ _ _ _ (by omega)).mono ?_
    rintro e w2 ⟨rfl, hb2⟩
    have HB1 : Below w.heap.size w w1 := ((Below.refl w.heap.size w).alloc (Nat.le_refl _) _).trans (hb.mono (by simp))
    have N1 := (hb.block w.heap.size (by simp)).trans (heap_alloc_new w (.cells #[.int .i64 0, .int .u64 0, .string ⟨#[]⟩] 31))
    have HB2 : Below w.heap.size w w2 := (HB1.alloc HB1.size _).trans (hb2.mono (by have := HB1.size; simp; omega))
    have N2 : w2.heap[w.heap.size]? = _ := (hb2.block w.heap.size (by have := blk_lt' N1; simp; omega)).trans ((Below.heap_alloc _ _ _ (blk_lt' N1)).trans N1)
    have M2 : w2.heap[w1.heap.size]? = _ := (hb2.block w1.heap.size (by simp)).trans (heap_alloc_new _ _)
    have c0 : w2.cell? ⟨w1.heap.size, 0, none⟩ = some (.int .i64 c) := by rw [cell_of_row w2 _ _ _ _ _ M2]; rfl
    have c1 : w2.cell? ⟨w1.heap.size, 1, none⟩ = some (.int .u64 a) := by rw [cell_of_row w2 _ _ _ _ _ M2]; rfl
    have c2 : w2.cell? ⟨w1.heap.size, 2, none⟩ = some (.string ⟨#[]⟩) := by rw [cell_of_row w2 _ _ _ _ _ M2]; rfl
    clear N1 HB1 hb hb2 M2
    have HB2' := hid HB2
    clear HB2
    go_wp2_with (refine wpList_store_row rfl 31 (.tmp 6) (.tmp 27) rfl w.heap.size _ rfl rfl 31 _ N2 infoFault rfl (faultRow_one ..) ?_)
    refine bodyPost_ret (results_cell_row rfl _ _ w.heap.size 31 _ (0, 0) _ rfl (setRow_heap _ _ _ _ _ _ N2) Tryz.underlying31 rfl infoFault) rfl ?_
    refine ⟨by rw [Hv.out] <;> rfl, ?_⟩
    rw [Hv.out]
    exact Stored.same HS.out (below_setRow HB2'.out (Nat.le_refl _) _)
end
end Go.Proofs.YtiemingpbommeaaGreatDoor

/- A space in memory: Store. -/
namespace Go.Proofs.YtiemingpbommeaaGreatDoor
open Go.RowKit
noncomputable section
set_option linter.unusedVariables false
set_option linter.unusedSimpArgs false
set_option maxHeartbeats 4000000 in
set_option maxRecDepth 100000 in
theorem store_any (sp m : Nat) (sl : Value) (q : Int) (ps : List (Pg × Nat)) (x n : Nat) (size : Int) (w : World) (hx : x < 18446744073709551616) (hn : n < 18446744073709551616) (hS : SpaceIs w sp m sl q ps) :
    Calls Tryz.prog 78 #[.pointer (some ⟨sp, 0, none⟩), .int .u64 x, .int .u64 n, .int .i64 size] w (StorePost sp m sl q ps x n size w) := by
  have HS := hid hS
  have Hx := hid hx
  have Hn := hid hn
  clear hS
  cases hsz : sizeOk size with
  | false =>
    have Hsz := hid hsz
    have Hv : Hid (storeN (pgs ps) x n size = (pgs ps, 1, 0)) := hid (by unfold storeN; rw [hsz]; rfl)
    clear hsz
    go_enter Tryz.func78, Tryz.ntmps78
    go_wp2_with fail
    refine (sized_no sp size _ Hsz.out).mono ?_
    rintro e w1 ⟨rfl, rfl⟩
    go_wp2_with fail
    refine (failOf_any _ _).mono ?_
    rintro e w1 ⟨rfl, hb⟩
    have N1 := (hb.block w.heap.size (by simp)).trans (heap_alloc_new w (.cells #[.int .i64 0, .int .u64 0, .string ⟨#[]⟩] 31))
    have HB1 : Below w.heap.size w w1 := ((Below.refl w.heap.size w).alloc (Nat.le_refl _) _).trans (hb.mono (by simp))
    go_wp2_with (refine wpList_store_row rfl 31 (.tmp 8) (.tmp 14) rfl w.heap.size _ rfl rfl 31 _ N1 infoFault rfl (faultRow_one ..) ?_)
    refine bodyPost_ret (results_cell_row rfl _ _ w.heap.size 31 _ (0, 0) _ rfl (setRow_heap _ _ _ _ _ _ N1) Tryz.underlying31 rfl infoFault) rfl ?_
    refine ⟨by rw [Hv.out] <;> rfl, ?_⟩
    rw [Hv.out]
    exact Stored.same HS.out (below_setRow HB1 (Nat.le_refl _) _)
  | true =>
    have Hsz := hid hsz
    obtain ⟨k, rfl, hk8, hk1⟩ := sizeOk_nat hsz
    rcases hmv : mayN (pgs ps) x k 2 11 with ⟨c, a⟩
    have Hmv := hid hmv
    by_cases hc : c = 0
    · have Hall := hid (mayN_ok (M := pgs ps) (x := x) (n := k) (perm := 2) (e := 11) (by decide) (by rw [hmv]; exact hc))
      have Hv : Hid (storeN (pgs ps) x n k = (layN (pgs ps) x (putL n k), 0, 0)) := hid (by unfold storeN; rw [hsz, Int.toNat_natCast, hmv]; simp [hc])
      have Hlen := hid (putL_length n k)
      subst hc
      clear hsz hmv
      go_enter Tryz.func78, Tryz.ntmps78
      go_wp2_with fail
      refine (sized_yes sp k _ Hsz.out).mono ?_
      rintro e w1 ⟨rfl, rfl⟩
      go_wp2_with fail
      refine (may_at sp m sl q ps x k 2 11 0 a Hmv.out _ rfl _ Hx.out (by omega) (by decide) (by decide) (HS.out.below (Keep.below ((Keep.refl [] w).alloc _) (Nat.le_refl _) (by simp)))).mono ?_
      rintro e w1 ⟨rfl, hb⟩
      go_wp2_with fail
      refine (ok_zero _ _ _).mono ?_
      rintro e w2 ⟨rfl, hb2⟩
      have HB1 : Below w.heap.size w w1 := ((Below.refl w.heap.size w).alloc (Nat.le_refl _) _).trans (hb.mono (by simp))
      have N1 := (hb.block w.heap.size (by simp)).trans (heap_alloc_new w (.cells #[.int .i64 0, .int .u64 0, .string ⟨#[]⟩] 31))
      have HB2 : Below w.heap.size w w2 := (HB1.alloc HB1.size _).trans (hb2.mono (by have := HB1.size; simp; omega))
      have N2 : w2.heap[w.heap.size]? = _ := (hb2.block w.heap.size (by have := blk_lt' N1; simp; omega)).trans ((Below.heap_alloc _ _ _ (blk_lt' N1)).trans N1)
      have HB2' := hid HB2
      have N2' := hid N2
      clear N1 N2 HB1 HB2 hb hb2
      go_wp2_with fail
      refine (put_in n k _ Hn.out hk1 hk8).mono ?_
      rintro e w3 ⟨rfl, hb3⟩
      have HB3 := hid (HB2'.out.trans (hb3.mono HB2'.out.size))
      have N3 := hid ((hb3.block _ (blk_lt' N2'.out)).trans N2'.out)
      have HS3 := hid (HS.out.below HB3.out)
      clear hb3
      go_wp2_with fail
      refine (lay_any sp m sl q ps x (putL n k) _ Hx.out (by rw [Hlen.out]; omega) HS3.out (fun i hi => by rw [Hlen.out] at hi; obtain ⟨g, hg⟩ := okAt_some (Hall.out i hi); rw [hg]; rfl)).mono ?_
      rintro e w4 ⟨rfl, hS4, hk4⟩
      have N4 := HS3.out.keepRow hk4 N3.out (by decide)
      have HS4 := hid hS4
      have Hk4 := hid hk4
      clear hS4 hk4
      go_wp2_with (refine wpList_store_row rfl 31 (.tmp 8) (.tmp 29) rfl w.heap.size _ rfl rfl 31 _ N4 infoFault rfl (faultRow_one ..) ?_)
      refine bodyPost_ret (results_cell_row rfl _ _ w.heap.size 31 _ (0, 0) _ rfl (setRow_heap _ _ _ _ _ _ N4) Tryz.underlying31 rfl infoFault) rfl ?_
      refine ⟨by rw [Hv.out] <;> rfl, psLay ps x (putL n k) (putL n k).length, by rw [Hv.out, pgs_psLay]; rfl, blks_psLay _ _ _ _, HS4.out.row_new ?_ ?_ ?_ _, ((Keep.of_below HB3.out).trans Hk4.out).setRow _ _ (.inl (Nat.le_refl _))⟩
      · have := blk_lt' HS.out.row; omega
      · have := blk_lt' HS.out.map; omega
      · rw [blks_psLay]; intro h; have := HS.out.lt_blk h; omega
    · have Hv : Hid (storeN (pgs ps) x n k = (pgs ps, c, a)) := hid (by unfold storeN; rw [hsz, Int.toNat_natCast, hmv]; simp [hc])
      clear hsz hmv
      go_enter Tryz.func78, Tryz.ntmps78
      go_wp2_with fail
      refine (sized_yes sp k _ Hsz.out).mono ?_
      rintro e w1 ⟨rfl, rfl⟩
      go_wp2_with fail
      refine (may_at sp m sl q ps x k 2 11 c a Hmv.out _ rfl _ Hx.out (by omega) (by decide) (by decide) (HS.out.below (Keep.below ((Keep.refl [] w).alloc _) (Nat.le_refl _) (by simp)))).mono ?_
      rintro e w1 ⟨rfl, hb⟩
      go_wp2_with fail
      refine (ok_not _ _ _ _ (by omega)).mono ?_
      rintro e w2 ⟨rfl, hb2⟩
      have HB1 : Below w.heap.size w w1 := ((Below.refl w.heap.size w).alloc (Nat.le_refl _) _).trans (hb.mono (by simp))
      have N1 := (hb.block w.heap.size (by simp)).trans (heap_alloc_new w (.cells #[.int .i64 0, .int .u64 0, .string ⟨#[]⟩] 31))
      have HB2 : Below w.heap.size w w2 := (HB1.alloc HB1.size _).trans (hb2.mono (by have := HB1.size; simp; omega))
      have N2 : w2.heap[w.heap.size]? = _ := (hb2.block w.heap.size (by have := blk_lt' N1; simp; omega)).trans ((Below.heap_alloc _ _ _ (blk_lt' N1)).trans N1)
      have M2 : w2.heap[w1.heap.size]? = _ := (hb2.block w1.heap.size (by simp)).trans (heap_alloc_new _ _)
      have c0 : w2.cell? ⟨w1.heap.size, 0, none⟩ = some (.int .i64 c) := by rw [cell_of_row w2 _ _ _ _ _ M2]; rfl
      have c1 : w2.cell? ⟨w1.heap.size, 1, none⟩ = some (.int .u64 a) := by rw [cell_of_row w2 _ _ _ _ _ M2]; rfl
      have c2 : w2.cell? ⟨w1.heap.size, 2, none⟩ = some (.string ⟨#[]⟩) := by rw [cell_of_row w2 _ _ _ _ _ M2]; rfl
      clear N1 HB1 hb hb2 M2
      have HB2' := hid HB2
      clear HB2
      go_wp2_with (refine wpList_store_row rfl 31 (.tmp 8) (.tmp 22) rfl w.heap.size _ rfl rfl 31 _ N2 infoFault rfl (faultRow_one ..) ?_)
      refine bodyPost_ret (results_cell_row rfl _ _ w.heap.size 31 _ (0, 0) _ rfl (setRow_heap _ _ _ _ _ _ N2) Tryz.underlying31 rfl infoFault) rfl ?_
      refine ⟨by rw [Hv.out] <;> rfl, ?_⟩
      rw [Hv.out]
      exact Stored.same HS.out (below_setRow HB2'.out (Nat.le_refl _) _)
end
end Go.Proofs.YtiemingpbommeaaGreatDoor
