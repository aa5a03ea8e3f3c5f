/- Package span: the sort of a set's list, where it is sorted. -/
import Derived.Test.YtiemingpbommeaaGreatDoorGo
import Derived.Test.YtiemingpbommeaaGreatDoorShelf
import Derived.Laws.OwnMore
namespace Go.Proofs.YtiemingpbommeaaGreatDoor
open Go.RowKit
noncomputable section
set_option linter.unusedVariables false
set_option linter.unusedSimpArgs false
set_option maxHeartbeats 1000000 in
set_option maxRecDepth 100000 in
theorem isNaN_any (a : Int) (w : World) :
    Calls Tryz.prog 128 #[.int .u64 a] w fun e w' => e = .returned (.bool false) ∧ w = w' := by
  go_enter Tryz.func128, Tryz.ntmps128
  go_wp2
  go_ret
  exact ⟨by simp, rfl⟩
/-- the comparison where the first is not the lesser -/
def cmpI (a b : Nat) : Int := if b < a then 1 else 0
set_option maxHeartbeats 1000000 in
set_option maxRecDepth 100000 in
theorem compare_ge (a b : Nat) (h : b ≤ a) (w : World) :
    Calls Tryz.prog 103 #[.int .u64 a, .int .u64 b] w fun e w' => e = .returned (.int .i64 (cmpI a b)) ∧ w = w' := by
  by_cases hb : b < a
  · have hv : cmpI a b = 1 := if_pos hb
    rw [hv]
    go_enter Tryz.func103, Tryz.ntmps103
    go_wp2_with (go_at_call 128; refine (isNaN_any _ _).mono ?_; rintro e w1 ⟨rfl, rfl⟩)
    go_ret
    exact ⟨rfl, rfl⟩
  · have hv : cmpI a b = 0 := if_neg hb
    rw [hv]
    obtain rfl : a = b := by omega
    go_enter Tryz.func103, Tryz.ntmps103
    go_wp2_with (go_at_call 128; refine (isNaN_any _ _).mono ?_; rintro e w1 ⟨rfl, rfl⟩)
    go_ret
    exact ⟨rfl, rfl⟩
theorem cmpI_nn (a b : Nat) : 0 ≤ cmpI a b := by unfold cmpI; split <;> omega
theorem cmpI_le (a b : Nat) : cmpI a b ≤ 1 := by unfold cmpI; split <;> omega
set_option maxHeartbeats 1000000 in
set_option maxRecDepth 100000 in
theorem sortCmp_ge (x o : Nat × Nat) (h : o.1 ≤ x.1) (w : World) :
    Calls Tryz.prog 102 #[.agg #[.int .u64 x.1, .int .u64 x.2], .agg #[.int .u64 o.1, .int .u64 o.2]] w fun e w' => e = .returned (.int .i64 (cmpI x.1 o.1)) ∧ Below w.heap.size w w' := by
  go_enter Tryz.func102, Tryz.ntmps102
  go_wp2_with fail
  refine (compare_ge x.1 o.1 h _).mono ?_
  rintro e w1 ⟨rfl, rfl⟩
  go_wp2
  go_ret
  exact ⟨rfl, ((Below.refl _ _).alloc (Nat.le_refl _) _).alloc (by simp) _⟩
/-- rising by their begins -/
def Rising (L : List (Nat × Nat)) : Prop := ∀ i, i + 1 < L.length → (L.getD i (0, 0)).1 ≤ (L.getD (i + 1) (0, 0)).1
set_option maxHeartbeats 4000000 in
set_option maxRecDepth 100000 in
theorem insertion_sorted (g cap : Nat) (cur : Array Value) (L : List (Nat × Nat)) (w : World) (hg : w.heap[g]? = some (.cells cur 76 (0, 0))) (ht : cur.toList.take (L.length * 2) = spanCells L)
    (hcap : L.length ≤ cap) (hc2 : cap ≤ 9223372036854775807) (hr : Rising L) (hl : L.length ≤ 12) :
    Calls Tryz.prog 144 #[.slice (some ⟨g, 0, none⟩) L.length cap, .int .i64 0, .int .i64 L.length, .func (.func 102) #[] #[]] w fun e w' => e = .returned (.tuple #[]) ∧ Below w.heap.size w w' := by
  have Hg := hid hg
  have Ht := hid ht
  have Hr := hid hr
  have hgl : g < w.heap.size := blk_lt' hg
  have hF : ∀ (args : Array Value) (w' : World), (callFunc 102 args).run Tryz.prog w' = .ok (.enter 102 args) w' := fun args w' => by kernel_rfl
  clear hg ht hr
  go_enter Tryz.func144, Tryz.ntmps144
  go_wp2
  go_loopw [8] (fun i wr => ∃ k : Nat, 1 ≤ k ∧ k ≤ L.length + 1 ∧ i = .int .i64 k ∧ Below w.heap.size w wr) (fun i _ => 14 - (intOf i).toNat)
  case atStart => exact ⟨1, by omega, by omega, rfl, Below.refl _ _⟩
  case round =>
    obtain ⟨k, hk1, hk, rfl, hb⟩ := hrel
    by_cases hlt : k < L.length
    · obtain ⟨j, rfl⟩ : ∃ j, k = j + 1 := ⟨k - 1, by omega⟩
      have hgr := (hb.block g hgl).trans Hg.out
      obtain ⟨c0, c1⟩ := span_cell hgr Ht.out (j + 1) hlt
      obtain ⟨d0, d1⟩ := span_cell hgr Ht.out j (by omega)
      have Hle := hid (Hr.out j hlt)
      generalize L.getD (j + 1) (0, 0) = x at *
      generalize L.getD j (0, 0) = o at *
      clear hgr
      have hgl' : g < wr.heap.size := Nat.lt_of_lt_of_le hgl hb.size
      go_wp2
      refine wp_loop_once ?_
      go_wp2
      refine wp_region_quiet_in (fun w' => ∃ u, w' = aft wr u) (by kernel_rfl) (by kernel_rfl) (aft_drew _) ?_
      repeat (go_big_quiet_step ((go_at_call 102; exact aft_call (sortCmp_ge x o Hle.out _))))
      refine wpQuiet_nil ?_
      rintro w5 ⟨u, rfl⟩
      have hnn := cmpI_nn x.1 o.1
      have hle1 := cmpI_le x.1 o.1
      generalize cmpI x.1 o.1 = cc at *
      go_wp2
      exact ⟨⟨j + 2, by omega, by omega, by congr 1, hb.trans ((aft_below wr u).mono hb.size)⟩, by simp [intOf]; omega⟩
    · have hge : L.length ≤ k := by omega
      clear hlt hF
      go_wp2
      go_end0
      exact ⟨rfl, hb⟩
/-- some number, the world as it was -/
def SomeInt (w : World) (e : Ending) (w' : World) : Prop := ∃ k : Int, e = .returned (.int .i64 k) ∧ w = w'
theorem len_small (n : Nat) (h : n < 256) (w : World) : Calls Tryz.prog 127 #[.int .u64 n] w (SomeInt w) :=
  (Tryz.bits_Len (n : Int) w (by omega) (by omega)).mono fun e w' ⟨he, hw⟩ => ⟨_, he, hw.symm⟩
set_option maxHeartbeats 4000000 in
set_option maxRecDepth 100000 in
theorem pdq_sorted (g cap : Nat) (cur : Array Value) (L : List (Nat × Nat)) (lim : Int) (w : World) (hg : w.heap[g]? = some (.cells cur 76 (0, 0))) (ht : cur.toList.take (L.length * 2) = spanCells L)
    (hcap : L.length ≤ cap) (hc2 : cap ≤ 9223372036854775807) (hr : Rising L) (hl : L.length ≤ 12) :
    Calls Tryz.prog 126 #[.slice (some ⟨g, 0, none⟩) L.length cap, .int .i64 0, .int .i64 L.length, .int .i64 lim, .func (.func 102) #[] #[]] w fun e w' => e = .returned (.tuple #[]) ∧ Below w.heap.size w w' := by
  have Hg := hid hg
  have Ht := hid ht
  have Hr := hid hr
  clear hg ht hr
  go_enter Tryz.func126, Tryz.ntmps126
  go_wp2_with fail
  refine wp_loop_once ?_
  go_wp2_with fail
  refine (insertion_sorted g cap cur L w Hg.out Ht.out hcap hc2 Hr.out hl).mono ?_
  rintro e w1 ⟨rfl, hb⟩
  go_wp2
  refine bodyPost_ret (results_none rfl _ _ _) rfl ?_
  exact ⟨rfl, hb⟩
set_option maxHeartbeats 4000000 in
set_option maxRecDepth 100000 in
theorem sortFunc_sorted (g cap : Nat) (cur : Array Value) (L : List (Nat × Nat)) (w : World) (hg : w.heap[g]? = some (.cells cur 76 (0, 0))) (ht : cur.toList.take (L.length * 2) = spanCells L)
    (hcap : L.length ≤ cap) (hc2 : cap ≤ 9223372036854775807) (hr : Rising L) (hl : L.length ≤ 12) :
    Calls Tryz.prog 101 #[.slice (some ⟨g, 0, none⟩) L.length cap, .func (.func 102) #[] #[]] w fun e w' => e = .returned (.tuple #[]) ∧ Below w.heap.size w w' := by
  have Hg := hid hg
  have Ht := hid ht
  have Hr := hid hr
  clear hg ht hr
  go_enter Tryz.func101, Tryz.ntmps101
  go_wp2_with fail
  refine (len_small L.length (by omega) _).mono ?_
  rintro e w1 ⟨k, rfl, rfl⟩
  go_wp2_with fail
  refine (pdq_sorted g cap cur L k _ Hg.out Ht.out hcap hc2 Hr.out hl).mono ?_
  rintro e w1 ⟨rfl, hb⟩
  go_wp2
  go_end0
  exact ⟨rfl, hb⟩
end
end Go.Proofs.YtiemingpbommeaaGreatDoor

/- Package span: a set's list is sorted and joined. -/
namespace Go.Proofs.YtiemingpbommeaaGreatDoor
open Go.RowKit
noncomputable section
set_option linter.unusedVariables false
set_option linter.unusedSimpArgs false
/-- one span more: it is joined where it touches the last one -/
def joinStep (out : List (Nat × Nat)) (x : Nat × Nat) : List (Nat × Nat) :=
  match out.getLast? with
  | some y => if y.2 = x.1 then out.dropLast ++ [(y.1, x.2)] else out ++ [x]
  | none => [x]
def joinL (L : List (Nat × Nat)) : List (Nat × Nat) := L.foldl joinStep []
theorem joinL_snoc (L : List (Nat × Nat)) (k : Nat) (h : k < L.length) : joinL (L.take (k + 1)) = joinStep (joinL (L.take k)) (L.getD k (0, 0)) := by
  unfold joinL; rw [List.take_succ_eq_append_getElem h, List.foldl_append, getD_at L k _ h]; rfl
theorem joinStep_length (out : List (Nat × Nat)) (x : Nat × Nat) : (joinStep out x).length ≤ out.length + 1 := by
  unfold joinStep
  split
  · split <;> simp <;> omega
  · simp
theorem joinL_length (L : List (Nat × Nat)) (k : Nat) : (joinL (L.take k)).length ≤ k := by
  induction k with
  | zero => simp [joinL]
  | succ k ih =>
    by_cases h : k < L.length
    · rw [joinL_snoc L k h]; have := joinStep_length (joinL (L.take k)) (L.getD k (0, 0)); omega
    · rw [List.take_of_length_le (by omega)]; rw [List.take_of_length_le (by omega)] at ih; omega
theorem infoSpan : (Tryz.prog.info? 76).map (fun i => (i.zero, i.size, i.bytes)) = some (some (.agg #[.int .u64 0, .int .u64 0]), 2, 16) := by kernel_rfl
/-- what the loop has made -/
def OutIs (B : Nat) (w : World) (v : Value) (J : List (Nat × Nat)) : Prop :=
  (J = [] ∧ v = .slice none 0 0) ∨ ∃ g cap, J ≠ [] ∧ v = .slice (some ⟨g, 0, none⟩) J.length cap ∧ w.ownsRow B 76 2 (.slice (some ⟨g, 0, none⟩) J.length cap) J.length (spanCells J)
theorem OutIs.owns {B : Nat} {w : World} {v : Value} {J : List (Nat × Nat)} (h : OutIs B w v J) : w.ownsRow B 76 2 v J.length (spanCells J) := by
  rcases h with ⟨rfl, rfl⟩ | ⟨g, cap, _, rfl, h⟩
  · exact World.ownsRow_nil ..
  · exact h
theorem OutIs.base {B B' : Nat} {w : World} {v : Value} {J : List (Nat × Nat)} (h : OutIs B w v J) (hB : B' ≤ B) : OutIs B' w v J := by
  rcases h with h | ⟨g, cap, h1, h2, h3, h4⟩
  · exact .inl h
  · refine .inr ⟨g, cap, h1, h2, h3, ?_⟩
    rcases h4 with h4 | ⟨g', c', cur, e, hb, r⟩
    · exact .inl h4
    · exact .inr ⟨g', c', cur, e, Nat.le_trans hB hb, r⟩
theorem ownsRow_below {B E s : Nat} {w w' : World} {v : Value} {n : Nat} {xs : List Value} (h : w.ownsRow B E s v n xs) (hb : Below w.heap.size w w') : w'.ownsRow B E s v n xs :=
  World.ownsRow.kept (row := none) h ⟨hb.os, hb.tape, hb.output, hb.size, fun k hk _ => hb.block k hk⟩ (by cases h' : v.ownBlock with | none => exact .inl rfl | some k => exact .inr (by simp))
set_option maxHeartbeats 4000000 in
set_option maxRecDepth 100000 in
theorem setSort_any (sb so : Nat) (sl : Value) (L : List (Nat × Nat)) (w : World) (hc : w.cell? ⟨sb, so, none⟩ = some sl) (hf : w.frozen? ⟨sb, so, none⟩ = false) (hS : SetIs w sl L) (hr : Rising L) (hl : L.length ≤ 12) (h0 : L ≠ []) :
    Calls Tryz.prog 61 #[.pointer (some ⟨sb, so, none⟩)] w fun e w' => e = .returned (.tuple #[]) ∧
      ∃ v w1, Below w.heap.size w w1 ∧ OutIs w.heap.size w1 v (joinL L) ∧ w' = w1.setCell ⟨sb, so, none⟩ v := by
  rcases hS.cases with ⟨_, rfl⟩ | ⟨g, cap, cur, rfl, hcap, hg, hmax, _, ht⟩
  · exact absurd rfl h0
  · have Hg := hid hg
    have Ht := hid ht
    have Hr := hid hr
    have hsb : sb < w.heap.size := World.block_lt_of_cell? w _ hc
    have hgl : g < w.heap.size := blk_lt' hg
    have Hmax := hid hmax
    clear hg ht hr hS hmax
    go_enter Tryz.func61, Tryz.ntmps61
    go_wp2_with fail
    refine (sortFunc_sorted g cap cur L w Hg.out Ht.out hcap (by have := Hmax.out; unfold maxLen at this; omega) Hr.out hl).mono ?_
    rintro e w1 ⟨rfl, hb1⟩
    have c1 := (hb1.cell (p := ⟨sb, so, none⟩) hsb).trans hc
    have f1 := (hb1.frozen (p := ⟨sb, so, none⟩) hsb).trans hf
    have hsb1 : sb < w1.heap.size := Nat.lt_of_lt_of_le hsb hb1.size
    have hgl1 : g < w1.heap.size := Nat.lt_of_lt_of_le hgl hb1.size
    have Hg1 := hid ((hb1.block g hgl).trans Hg.out)
    have Hb1 := hid hb1
    clear hb1 hc hf
    go_wp2
    go_loopw [16, 2] (fun i v wr => ∃ k : Nat, k ≤ L.length ∧ i = .int .i64 k ∧ OutIs w1.heap.size wr v (joinL (L.take k)) ∧ Below w1.heap.size w1 wr) (fun i _ _ => L.length - (intOf i).toNat)
    case atStart => exact ⟨0, by omega, rfl, .inl ⟨rfl, rfl⟩, Below.refl _ _⟩
    case round =>
      obtain ⟨k, hk, rfl, hO, hb⟩ := hrel
      have HO := hid hO
      have Hb := hid hb
      have hszb := hb.size
      have hw1 := Hb1.out.size
      clear hO hb
      by_cases hlt : k < L.length
      · have hgr := (Hb.out.block g hgl1).trans Hg1.out
        obtain ⟨x0, x1⟩ := span_cell hgr Ht.out k hlt
        have Hj := hid (joinL_snoc L k hlt)
        have hJl := joinL_length L k
        generalize L.getD k (0, 0) = x at *
        obtain ⟨J, hJ⟩ : ∃ J, joinL (L.take k) = J := ⟨_, rfl⟩
        rw [hJ] at HO hJl Hj
        have hglr : g < wr.heap.size := Nat.lt_of_lt_of_le hgl1 hszb
        clear hgr hJ
        have N0 := heap_alloc_new wr (.cells #[.int .u64 (x.1 : Int), .int .u64 (x.2 : Int)] 76)
        have B0 := hid (Below.alloc (Below.refl wr.heap.size wr) (Nat.le_refl _) (.cells #[.int .u64 (x.1 : Int), .int .u64 (x.2 : Int)] 76))
        rcases HO.out with ⟨rfl, rfl⟩ | ⟨h, hcp, hne, rfl, hown⟩
        · go_wp2
          generalize hwq : wr.alloc (.cells #[.int .u64 (x.1 : Int), .int .u64 (x.2 : Int)] 76) = wq at *
          have d0 : wq.cell? ⟨wr.heap.size, 0, none⟩ = some (.int .u64 x.1) := by rw [cell_of_row wq _ _ _ _ _ N0]; rfl
          have d1 : wq.cell? ⟨wr.heap.size, 1, none⟩ = some (.int .u64 x.2) := by rw [cell_of_row wq _ _ _ _ _ N0]; rfl
          have hq : wr.heap.size < wq.heap.size := blk_lt' N0
          clear N0 hwq
          refine wp_region_quiet_in (fun w' => ∃ u, w' = aft wq u) (by kernel_rfl) (by kernel_rfl) (aft_drew _) ?_
          repeat (go_big_quiet_step (fail))
          refine wpQuiet_nil ?_
          rintro w5 ⟨u, rfl⟩
          have hu := aft_size wq u
          obtain ⟨i0, hi, hz0, hz1, hz2⟩ := info_parts infoSpan
          go_wp2_with (at_builtin; refine wpList_append_lies _ rfl (.tmp 42) (.tmp 44) 70 rfl w1.heap.size 76 i0 (.agg #[.int .u64 0, .int .u64 0]) 2 16 Tryz.underlying70 hi hz0 hz1 hz2 rfl (by decide) _ 0 [] rfl (World.ownsRow_nil _ _ _ _) ⟨(aft wq u).heap.size, 0, none⟩ 1 1 (spanRow x) rfl rfl (World.news_of_block (heap_alloc_new _ _)) (by simp [Value.oneCell']) (by decide) (by unfold maxLen; omega) (by omega) (by simp; omega) _ rfl ?_)
          intro g' cap' w6 hown6 hgrow6 hat6 hlt6
          have HB6 : Below w1.heap.size w1 w6 := (((Hb.out.trans (B0.out.mono hszb)).trans ((aft_below wq u).mono (by omega))).alloc (by omega) _).grown hgrow6 (by simp; omega) (fun k h => by cases h)
          have Hown6 := hid hown6
          clear hown6 hgrow6 hat6 hlt6
          go_wp2
          go_roundw
          case rel => exact ⟨k + 1, by omega, by go_num, .inr ⟨g', cap', by rw [Hj.out]; simp [joinStep], by rw [Hj.out]; rfl, by rw [Hj.out]; exact Hown6.out⟩, HB6⟩
          case measure => simp [intOf]; omega
        · obtain ⟨J', y, rfl⟩ : ∃ J' y, J = J' ++ [y] := by
            rcases List.eq_nil_or_concat J with rfl | ⟨J', y, e⟩
            · exact absurd rfl hne
            · exact ⟨J', y, by rw [e, List.concat_eq_append]⟩
          obtain ⟨n, hn⟩ : ∃ n, J'.length = n := ⟨_, rfl⟩
          have hlen : (J' ++ [y]).length = n + 1 := by simp [hn]
          have hcl : (spanCells J').length = n * 2 := by rw [spanCells_length, hn]
          have hsc : spanCells (J' ++ [y]) = spanCells J' ++ [.int .u64 (y.1 : Int), .int .u64 (y.2 : Int)] := by rw [spanCells_append]; rfl
          rw [hlen, hsc] at hown
          rw [hlen] at HO hJl ⊢
          have hhb : h < wr.heap.size := by obtain ⟨_, _, e, _, hh⟩ := hown.form (by omega); cases e; exact hh
          have hyc : wr.cell? ⟨h, n * 2 + 1, none⟩ = some (.int .u64 (y.2 : Int)) := by
            rw [hown.cellAt _ (by omega), List.getElem?_append_right (by omega), hcl]
            simp
          have hyf := hown.frozenAt (n * 2 + 1)
          have hyc' := (B0.out.cell (p := ⟨h, n * 2 + 1, none⟩) hhb).trans hyc
          have hyf' := (B0.out.frozen (p := ⟨h, n * 2 + 1, none⟩) hhb).trans hyf
          have Hown := hid (ownsRow_below hown B0.out)
          have Hjs : Hid (joinL (L.take (k + 1)) = if y.2 = x.1 then J' ++ [(y.1, x.2)] else J' ++ [y] ++ [x]) := hid (by rw [Hj.out]; simp [joinStep])
          have Hn := hid hn
          have Hcl := hid hcl
          have Hsc := hid hsc
          clear hn hlen hcl hsc hown hyc hyf HO Hj hne
          by_cases he : y.2 = x.1
          · rw [he] at hyc'
            have He := hid he
            clear he
            go_wp2
            generalize hwq : wr.alloc (.cells #[.int .u64 (x.1 : Int), .int .u64 (x.2 : Int)] 76) = wq at *
            have d0 : wq.cell? ⟨wr.heap.size, 0, none⟩ = some (.int .u64 x.1) := by rw [cell_of_row wq _ _ _ _ _ N0]; rfl
            have d1 : wq.cell? ⟨wr.heap.size, 1, none⟩ = some (.int .u64 x.2) := by rw [cell_of_row wq _ _ _ _ _ N0]; rfl
            have hq : wr.heap.size < wq.heap.size := blk_lt' N0
            have hhq : h < wq.heap.size := by omega
            clear N0 hwq
            refine wp_region_quiet_in (fun w' => ∃ u, w' = aft wq u) (by kernel_rfl) (by kernel_rfl) (aft_drew _) ?_
            repeat (go_big_quiet_step (fail))
            refine wpQuiet_nil ?_
            rintro w5 ⟨u, rfl⟩
            have hu := aft_size wq u
            have Hown5 := hid ((ownsRow_below Hown.out (aft_below wq u)).stored (n * 2 + 1) (.int .u64 (x.2 : Int)))
            have hge : w1.heap.size ≤ h := by obtain ⟨_, _, e, hh, _⟩ := Hown.out.form (by omega); cases e; exact hh
            have HB5 : Below w1.heap.size w1 (aft wq u) := (Hb.out.trans (B0.out.mono hszb)).trans ((aft_below wq u).mono (by omega))
            go_wp2
            refine ⟨⟨k + 1, by omega, by go_num, .inr ⟨h, hcp, ?_, ?_, ?_⟩, HB5.setCell hge _⟩, by simp [intOf]; omega⟩
            · rw [Hjs.out, if_pos He.out]; simp
            · rw [Hjs.out, if_pos He.out]; simp [Hn.out]
            · rw [Hjs.out, if_pos He.out]
              have := Hown5.out.1
              rw [List.set_append_right _ _ (by rw [Hcl.out]; omega), Hcl.out, show n * 2 + 1 - n * 2 = 1 by omega] at this
              rw [spanCells_append, List.length_append, Hn.out]
              exact this
          · have hne : ((y.2 : Int) == (x.1 : Int)) = false := by rw [beq_eq_false_iff_ne]; omega
            have He := hid he
            clear he
            go_wp2
            generalize hwq : wr.alloc (.cells #[.int .u64 (x.1 : Int), .int .u64 (x.2 : Int)] 76) = wq at *
            have d0 : wq.cell? ⟨wr.heap.size, 0, none⟩ = some (.int .u64 x.1) := by rw [cell_of_row wq _ _ _ _ _ N0]; rfl
            have d1 : wq.cell? ⟨wr.heap.size, 1, none⟩ = some (.int .u64 x.2) := by rw [cell_of_row wq _ _ _ _ _ N0]; rfl
            have hq : wr.heap.size < wq.heap.size := blk_lt' N0
            have hhq : h < wq.heap.size := by omega
            clear N0 hwq
            refine wp_region_quiet_in (fun w' => ∃ u, w' = aft wq u) (by kernel_rfl) (by kernel_rfl) (aft_drew _) ?_
            repeat (go_big_quiet_step (fail))
            refine wpQuiet_nil ?_
            rintro w5 ⟨u, rfl⟩
            have hu := aft_size wq u
            have Hown5 := ownsRow_below Hown.out (aft_below wq u)
            have hge : w1.heap.size ≤ h := by obtain ⟨_, _, e, hh, _⟩ := Hown.out.form (by omega); cases e; exact hh
            have HB5 : Below w1.heap.size w1 (aft wq u) := (Hb.out.trans (B0.out.mono hszb)).trans ((aft_below wq u).mono (by omega))
            obtain ⟨i0, hi, hz0, hz1, hz2⟩ := info_parts infoSpan
            go_wp2_with (at_builtin; refine wpList_append_lies _ rfl (.tmp 42) (.tmp 44) 70 rfl w1.heap.size 76 i0 (.agg #[.int .u64 0, .int .u64 0]) 2 16 Tryz.underlying70 hi hz0 hz1 hz2 rfl (by decide) _ (n + 1) _ rfl (Hown5.alloc _) ⟨(aft wq u).heap.size, 0, none⟩ 1 1 (spanRow x) rfl rfl (World.news_of_block (heap_alloc_new _ _)) (by simp [Value.oneCell']) (by decide) (by unfold maxLen; omega) (by omega) (by simp; omega) _ rfl ?_)
            intro g' cap' w6 hown6 hgrow6 hat6 hlt6
            have HB6 : Below w1.heap.size w1 w6 := (HB5.alloc (by omega) _).grown hgrow6 (by simp; omega) (fun k h => by cases h; exact hge)
            have Hown6 := hid hown6
            clear hown6 hgrow6 hat6 hlt6 Hown5
            go_wp2
            go_roundw
            case rel => exact ⟨k + 1, by omega, by go_num, .inr ⟨g', cap', by rw [Hjs.out, if_neg He.out]; simp, by rw [Hjs.out, if_neg He.out]; simp [Hn.out], by
              rw [Hjs.out, if_neg He.out, spanCells_append, List.length_append, List.length_append, Hn.out, Hsc.out, List.append_assoc]; exact Hown6.out⟩, HB6⟩
            case measure => simp [intOf]; omega
      · obtain rfl : k = L.length := by omega
        have hcr := (Hb.out.cell (p := ⟨sb, so, none⟩) hsb1).trans c1
        have hfr := (Hb.out.frozen (p := ⟨sb, so, none⟩) hsb1).trans f1
        have HBw : Below w.heap.size w wr := Hb1.out.trans (Hb.out.mono hw1)
        have HO' := OutIs.base HO.out hw1
        rw [List.take_length] at HO'
        rcases HO.out with ⟨_, rfl⟩ | ⟨h, hcp, _, rfl, _⟩
        · go_wp2
          go_end0
          exact ⟨rfl, _, wr, HBw, HO', by first | rfl | rw [List.take_length]⟩
        · go_wp2
          go_end0
          exact ⟨rfl, _, wr, HBw, HO', by first | rfl | rw [List.take_length]⟩
end
end Go.Proofs.YtiemingpbommeaaGreatDoor

/- Package span: a span behind all others is added to a set. -/
namespace Go.Proofs.YtiemingpbommeaaGreatDoor
open Go.RowKit
noncomputable section
set_option linter.unusedVariables false
set_option linter.unusedSimpArgs false
/-- a slice's own block -/
def ownB (v : Value) : List Nat := match v.ownBlock with | some k => [k] | none => []
theorem ownB_mem {v : Value} {k : Nat} (h : k ∈ ownB v) : v.ownBlock = some k := by
  unfold ownB at h
  split at h
  · rename_i j hj; rw [hj]; simp at h; rw [h]
  · simp at h
theorem Keep.of_grown {w w' : World} {v : Value} (h : w.grownBy w' v.ownBlock) : Keep (ownB v) w w' :=
  ⟨h.os, h.tape, h.output, h.size, fun k hk hn => h.block k hk fun e => hn (by unfold ownB; rw [← e]; simp)⟩
theorem World.grownBy_setCell (w : World) (a : Addr) (v : Value) : w.grownBy (w.setCell a v) (some a.block) :=
  ⟨rfl, rfl, rfl, by simp [World.setCell], fun k _ hk => heap_setCell_other w a k v (fun e => hk (by rw [e]))⟩
theorem setIf_twice (cs : Array Value) (i : Nat) (a b : Value) : (cs.setIfInBounds i a).setIfInBounds i b = cs.setIfInBounds i b := by
  apply Array.ext'; simp
theorem OutIs.own {B : Nat} {w : World} {v : Value} {J : List (Nat × Nat)} (h : OutIs B w v J) : ∀ k ∈ ownB v, B ≤ k := by
  intro k hk
  have e := ownB_mem hk
  rcases h.owns.2 with ⟨rfl, _⟩ | ⟨g, cap, cur, rfl, hB, _⟩
  · cases e
  · simp only [Value.ownBlock, Option.some.injEq] at e
    omega
theorem OutIs.setOther {B : Nat} {w : World} {v : Value} {J : List (Nat × Nat)} (h : OutIs B w v J) (sb so : Nat) (u : Value) (hs : sb < B) : OutIs B (w.setCell ⟨sb, so, none⟩ u) v J := by
  rcases h with h | ⟨g, cap, h1, h2, h3⟩
  · exact .inl h
  · refine .inr ⟨g, cap, h1, h2, World.ownsRow.kept (row := some sb) h3 (World.grownBy_setCell w ⟨sb, so, none⟩ u) (.inr ?_)⟩
    obtain ⟨_, _, e, hge, _⟩ := h3.form (by cases J; exact absurd rfl h1; simp)
    cases e
    simp only [Value.ownBlock, ne_eq, Option.some.injEq]
    omega
/-- behind all others -/
def Behind (L : List (Nat × Nat)) (x : Nat × Nat) : Prop := ∀ i, i < L.length → (L.getD i (0, 0)).2 ≤ x.1
theorem behind_no {L : List (Nat × Nat)} {x : Nat × Nat} (h : Behind L x) : ∀ i, i < L.length → meetsN x (L.getD i (0, 0)) = false := fun i hi => by
  have := h i hi
  unfold meetsN
  simp only [decide_eq_false_iff_not]
  omega
def AddPost (sb so : Nat) (sl : Value) (cs : Array Value) (t : TypeId) (L : List (Nat × Nat)) (x : Nat × Nat) (w : World) (e : Ending) (w' : World) : Prop :=
  e = .returned (.bool true) ∧ ∃ v, OutIs w.heap.size w' v (joinL (L ++ [x])) ∧ w'.heap[sb]? = some (.cells (cs.setIfInBounds so v) t (0, 0)) ∧ Keep (sb :: ownB sl) w w'
set_option maxHeartbeats 4000000 in
set_option maxRecDepth 100000 in
theorem setAdd_any (sb so : Nat) (sl : Value) (cs : Array Value) (t : TypeId) (L : List (Nat × Nat)) (x : Nat × Nat) (w : World) (hrow : w.heap[sb]? = some (.cells cs t (0, 0))) (ht : t ≠ 76) (hc : cs[so]? = some sl) (hS : SetIs w sl L)
    (hx : x.1 < x.2) (hB : Behind L x) (hr : Rising (L ++ [x])) (hl : L.length ≤ 11) :
    Calls Tryz.prog 25 #[.pointer (some ⟨sb, so, none⟩), .agg #[.int .u64 x.1, .int .u64 x.2]] w (AddPost sb so sl cs t L x w) := by
  have HS := hid hS
  have Hrow := hid hrow
  have Hc := hid hc
  have HB := hid hB
  have Hr := hid hr
  have Ht := hid ht
  have hsb := blk_lt' hrow
  have hc0 : w.cell? ⟨sb, so, none⟩ = some sl := by rw [cell_of_row w _ _ _ _ _ hrow]; exact hc
  have Hx0 : Hid (decide (x.2 ≤ x.1) = false) := hid (by simp; omega)
  have hf0 := frozen_of_row w sb so _ _ hrow
  have Hnb : Hid (some sb ≠ sl.ownBlock) := hid (by
    rcases hS.cases with ⟨rfl, _⟩ | ⟨g, cap, cur, rfl, _, hg, _⟩
    · simp [Value.ownBlock]
    · intro e
      have e' : sb = g := by simpa [Value.ownBlock] using e
      subst e'
      rw [hrow] at hg
      have := congrArg (fun o : Option Obj => match o with | some (.cells _ t _) => t | _ => 0) hg
      exact ht this)
  clear hS hrow hc hB hr ht
  go_enter Tryz.func25, Tryz.ntmps25
  go_wp2_with fail
  refine (spanEmpty_any x.1 x.2 _).mono ?_
  rw [Hx0.out]
  rintro e w1 ⟨rfl, hb1⟩
  have N0 := heap_alloc_new w (.cells #[.int .u64 (x.1 : Int), .int .u64 (x.2 : Int)] 76)
  have B0 := Below.alloc (Below.refl w.heap.size w) (Nat.le_refl _) (.cells #[.int .u64 (x.1 : Int), .int .u64 (x.2 : Int)] 76)
  have N1 := hid ((hb1.block _ (blk_lt' N0)).trans N0)
  have B1 := hid (B0.trans (hb1.mono B0.size))
  have c1 := (B1.out.cell (p := ⟨sb, so, none⟩) hsb).trans hc0
  have d0 : w1.cell? ⟨w.heap.size, 0, none⟩ = some (.int .u64 x.1) := by rw [cell_of_row w1 _ _ _ _ _ N1.out]; rfl
  have d1 : w1.cell? ⟨w.heap.size, 1, none⟩ = some (.int .u64 x.2) := by rw [cell_of_row w1 _ _ _ _ _ N1.out]; rfl
  clear N0 B0 hb1
  go_wp2_with fail
  refine (setMeets_no sb so x sl L w1 c1 (HS.out.below B1.out) (behind_no HB.out) (by omega)).mono ?_
  rintro e w2 ⟨rfl, hb2⟩
  have hl1 := blk_lt' N1.out
  have N2 := hid ((hb2.block _ hl1).trans N1.out)
  have B2 := hid (B1.out.trans (hb2.mono B1.out.size))
  have c2 := (B2.out.cell (p := ⟨sb, so, none⟩) hsb).trans hc0
  have f2 := (B2.out.frozen (p := ⟨sb, so, none⟩) hsb).trans hf0
  have e0 : w2.cell? ⟨w.heap.size, 0, none⟩ = some (.int .u64 x.1) := by rw [cell_of_row w2 _ _ _ _ _ N2.out]; rfl
  have e1 : w2.cell? ⟨w.heap.size, 1, none⟩ = some (.int .u64 x.2) := by rw [cell_of_row w2 _ _ _ _ _ N2.out]; rfl
  have hl2 := blk_lt' N2.out
  have hsb2 : sb < w2.heap.size := by omega
  have Hown := hid (HS.out.below B2.out)
  clear c1 d0 d1 hb2 N1 B1 hl1 hf0 hc0
  obtain ⟨i0, hi, hz0, hz1, hz2⟩ := info_parts infoSpan
  have Hi := hid hi
  have Hz0 := hid hz0
  have Hz1 := hid hz1
  have Hz2 := hid hz2
  clear hi hz0 hz1 hz2
  go_wp2_with fail
  go_region_law (refine step_append_lies _ rfl (.tmp 20) (.tmp 22) 70 rfl 0 76 i0 (.agg #[.int .u64 0, .int .u64 0]) 2 16 Tryz.underlying70 Hi.out Hz0.out Hz1.out Hz2.out rfl (by decide) sl L.length (spanCells L) rfl (Hown.out.drew.alloc _) ⟨_, 0, none⟩ 1 1 (spanRow x) rfl rfl (World.news_of_block (heap_alloc_new _ _)) (by simp [Value.oneCell']) (by decide) (by unfold maxLen; omega) (by omega) (by simp) _ rfl ?_; intro g' cap' w6 hown6 hgrow6 hat6 hlt6; have c6 : w6.cell? ⟨sb, so, none⟩ = some sl := (hgrow6.cell_far ⟨sb, so, none⟩ (by simp; omega) Hnb.out).trans ((World.cell?_alloc_past _ _ _ (by simpa using hsb2)).trans c2); have f6 : w6.frozen? ⟨sb, so, none⟩ = false := (hgrow6.frozen_far ⟨sb, so, none⟩ (by simp; omega) Hnb.out).trans ((World.frozen?_alloc_past _ _ _ (by simpa using hsb2)).trans f2))
  all_goals
    have hg6 := Keep.of_grown hgrow6
    have hk6 : Keep (ownB sl) w w6 := (((Keep.of_below B2.out).drew1.alloc _).trans hg6)
    have hr6 : w6.heap[sb]? = some (.cells cs t (0, 0)) := hk6.row Hrow.out (by intro hm; exact Hnb.out (ownB_mem hm).symm)
    have hg's : g' ≠ sb := by
      rcases hat6 with h | h
      · intro e; subst e; exact Hnb.out h.symm
      · simp at h; omega
    have hr7 := heap_setCell_same w6 sb so cs t (.slice (some ⟨g', 0, none⟩) (L.length + 1) cap') hr6
    have hk7 : Keep (sb :: ownB sl) w (w6.setCell ⟨sb, so, none⟩ (.slice (some ⟨g', 0, none⟩) (L.length + 1) cap')) := (hk6.mono (fun k hk => List.mem_cons_of_mem _ hk)).setCell _ _ (.inr (List.mem_cons_self ..))
    have hS7 : SetIs (w6.setCell ⟨sb, so, none⟩ (.slice (some ⟨g', 0, none⟩) (L.length + 1) cap')) (.slice (some ⟨g', 0, none⟩) (L.length + 1) cap') (L ++ [x]) := by
      have h1 := World.ownsRow.kept (row := some sb) hown6 (World.grownBy_setCell w6 ⟨sb, so, none⟩ (.slice (some ⟨g', 0, none⟩) (L.length + 1) cap')) (.inr (by simp [Value.ownBlock, hg's]))
      unfold SetIs
      rw [List.length_append, spanCells_append]
      exact h1
    have hl7 : (cs.setIfInBounds so (.slice (some ⟨g', 0, none⟩) (L.length + 1) cap'))[so]? = some (.slice (some ⟨g', 0, none⟩) (L.length + 1) cap') := by
      rw [Array.getElem?_setIfInBounds, if_pos rfl, if_pos (by have := Hc.out; exact (Array.getElem?_eq_some_iff.1 this).1)]
    generalize hv7 : Value.slice (some ⟨g', 0, none⟩) (L.length + 1) cap' = v7 at *
    generalize hw7 : w6.setCell ⟨sb, so, none⟩ v7 = w7 at *
    have c7 : w7.cell? ⟨sb, so, none⟩ = some v7 := by rw [cell_of_row w7 _ _ _ _ _ hr7]; exact hl7
    have f7 := frozen_of_row w7 sb so _ _ hr7
    have Hr7 := hid hr7
    have Hk7 := hid hk7
    have HS7 := hid hS7
    clear hr7 hk7 hS7 hl7 hg6 hk6 hr6 hown6 hgrow6 hat6 hlt6 hw7 hv7 c6 f6 hg's
    go_wp2_with fail
    refine (setSort_any sb so v7 (L ++ [x]) w7 c7 f7 HS7.out Hr.out (by simp; omega) (by simp)).mono ?_
    rintro e w8 ⟨rfl, v, w9, hb9, ho9, rfl⟩
    have hr9 := (hb9.block _ (blk_lt' Hr7.out)).trans Hr7.out
    have Hr9 := hid (heap_setCell_same w9 sb so _ t v hr9)
    have Hk9 := hid ((Hk7.out.trans (Keep.of_below hb9)).setCell ⟨sb, so, none⟩ v (.inr (List.mem_cons_self ..)))
    have Ho9 := hid (ho9.setOther sb so v (blk_lt' Hr7.out))
    clear hb9 ho9 hr9
    go_wp2
    go_ret
    exact ⟨rfl, v, Ho9.out.base Hk7.out.size, by have := Hr9.out; rwa [setIf_twice] at this, Hk9.out⟩
end
end Go.Proofs.YtiemingpbommeaaGreatDoor

/- A space: New; the extent of some pages. -/
namespace Go.Proofs.YtiemingpbommeaaGreatDoor
open Go.RowKit
noncomputable section
set_option linter.unusedVariables false
set_option linter.unusedSimpArgs false
theorem infoSpanS : (Tryz.prog.info? 76).map (fun x => x.size) = some 2 := by kernel_rfl
/-- may so many pages be asked for at such a place? -/
structure Fine (a n p : Nat) : Prop where
  n1 : 1 ≤ n
  n2 : n ≤ 4096
  p7 : p ≤ 7
  al : a % 256 = 0
  up : a + n * 256 ≤ 9223372036854775808
set_option maxHeartbeats 2000000 in
set_option maxRecDepth 100000 in
theorem extent_any (s : Addr) (a n p : Nat) (h : Fine a n p) (w : World) :
    Calls Tryz.prog 23 #[.pointer (some s), .int .u64 a, .int .i64 n, .int .i64 p] w fun e w' => e = .returned (.tuple #[.agg #[.int .u64 a, .int .u64 ((a + n * 256 : Nat) : Int)], .int .i64 0]) ∧ Below w.heap.size w w' := by
  obtain ⟨h1, h2, h3, h4, h5⟩ := h
  have e4 : (a : Int) % 256 = 0 := by omega
  go_enter Tryz.func23, Tryz.ntmps23
  go_wp2
  refine bodyPost_ret (results_cell_tmp rfl _ _ w.heap.size 76 #[.int .u64 a, .int .u64 ((a : Int) + n * 256)] (0, 0) _ rfl (heap_alloc_new _ _) Tryz.underlying76 rfl infoSpanS) rfl ?_
  exact ⟨by rw [Int.natCast_add, Int.natCast_mul]; rfl, (Below.refl _ _).alloc (Nat.le_refl _) _⟩
def NewPost (q : Nat) (w : World) (e : Ending) (w' : World) : Prop :=
  ∃ sp m, e = .returned (.tuple #[.pointer (some ⟨sp, 0, none⟩), .int .i64 0]) ∧ SpaceIs w' sp m (.slice none 0 0) q [] ∧ Below w.heap.size w w' ∧ w.heap.size ≤ sp ∧ w.heap.size ≤ m
set_option maxHeartbeats 2000000 in
set_option maxRecDepth 100000 in
theorem new_any (q : Nat) (hq : q ≤ 4096) (w : World) : Calls Tryz.prog 9 #[.int .i64 q] w (NewPost q w) := by
  have hmm := @run_makeMap Tryz.prog
  go_enter Tryz.func9, Tryz.ntmps9
  go_wp2
  go_ret2
  refine ⟨w.heap.size + 1, w.heap.size, rfl, ⟨heap_alloc2_new _ _ _, heap_alloc2_old _ _ _, by simp, ⟨by simp [pgs], by simp [pgs], by simp [pgs], by simp [pgs], by simp [pgs]⟩, by simp⟩, ((Below.refl _ _).alloc (Nat.le_refl _) _).alloc (by simp) _, by omega, Nat.le_refl _⟩
end
end Go.Proofs.YtiemingpbommeaaGreatDoor
