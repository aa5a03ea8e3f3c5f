/- The document's Decode answers as the program's. -/
import Derived.Test.YtiemingpbommeaaGreatDoorHa
namespace Go.Proofs.YtiemingpbommeaaGreatDoor
open Go.RowKit
noncomputable section
set_option linter.unusedVariables false
set_option linter.unusedSimpArgs false
theorem info30s : (Tryz.prog.info? 116).map (fun x => x.size) = some 5 := by kernel_rfl
theorem row_letter (i : Nat) (hi : i < 64) : ∃ (nm : List UInt8) (l : Int) (o f3 f7 : Nat), formAt i = (nm, l, (o : Int), (f3 : Int), (f7 : Int)) ∧ o < 128 ∧ f3 < 8 ∧ f7 < 128 ∧ isLetter l := by
  obtain ⟨nm, l, o, f3, f7, e, ho, h3, h7, hl⟩ := row_nat i hi
  exact ⟨nm, l, o, f3, f7, e, ho, h3, h7, by unfold isLetter; omega⟩
set_option maxHeartbeats 8000000 in
set_option maxRecDepth 100000 in
theorem refDecode_any (x : Nat) (w : World) (hx : x < 4294967296) :
    Calls Tryz.prog 46 #[.int .u32 x] w fun e w' => e = .returned (.tuple #[.agg (instCells (decN x).1.1 (decN x).1.2.1 (decN x).1.2.2.1 (decN x).1.2.2.2.1 (decN x).1.2.2.2.2), .bool (decN x).2]) ∧ Below w.heap.size w w' := by
  have hall : (∀ i, i < 64 → fitsAt x i = false) → decN x = ((0, 0, 0, 0, 0), false) := by
    intro h
    rcases decN_cases x with ⟨e, _⟩ | ⟨i, hi, hp, _⟩
    · exact e
    · rw [h i hi] at hp; cases hp
  have hat : ∀ i, i < 64 → fitsAt x i = true → (∀ j, j < i → fitsAt x j = false) → decN x = (decAt x i, true) := decN_at x
  generalize decN x = v at *
  have Hall := hid hall
  have Hat := hid hat
  clear hall hat
  go_enter Tryz.func46, Tryz.ntmps46
  go_wp2_with fail
  refine (kinds_any _).mono ?_
  rintro e w1 ⟨g, rfl, hg, hgs, hb⟩
  have hs1 := hb.size
  simp at hgs hs1
  have N2 : Hid (w1.heap[w.heap.size]? = some (.cells #[.int .i64 0, .int .i64 0, .int .i64 0, .int .i64 0, .int .i64 0] 116 (0, 0))) := by
    refine hid ?_
    rw [hb.block _ (by simp)]
    exact heap_alloc_new _ _
  have hgl : g < w1.heap.size := blk_lt' hg
  have Hg := hid hg
  have HB : Below w.heap.size w w1 := ((Below.refl _ _).alloc (Nat.le_refl _) _).trans (hb.mono (by simp))
  clear hg hb
  go_wp2_with fail
  go_loopw [5] (fun i wr => ∃ k : Nat, k ≤ 64 ∧ i = .int .i64 k ∧ Hid (∀ j, j < k → fitsAt x j = false) ∧ Below w1.heap.size w1 wr) (fun i _ => 64 - (intOf i).toNat)
  case atStart => exact ⟨0, by omega, rfl, hid (fun j hj => by omega), Below.refl _ _⟩
  case round =>
    obtain ⟨k, hk, rfl, Hno, hbr⟩ := hrel
    have hgr := hid ((hbr.block _ hgl).trans Hg.out)
    have hn2 := hid ((hbr.block _ (by omega)).trans N2.out)
    have hsr := hbr.size
    have HBr : Below w.heap.size w wr := HB.trans (hbr.mono (by omega))
    by_cases hlt : k < 64
    · obtain ⟨nm, l, o, f3, f7, he, ho, h3, h7, hl⟩ := row_letter k hlt
      have hc : ∀ j, j < 5 → wr.cell? ⟨g, k * 5 + j, none⟩ = (kindRow (formAt k))[j]? := fun j hj => by
        rw [cell_of_row wr g _ _ _ _ hgr.out, Nat.mul_comm]; exact kindCells_get k j hlt hj
      have c0 := hc 0 (by omega)
      have c1 := hc 1 (by omega)
      have c2 := hc 2 (by omega)
      have c3 := hc 3 (by omega)
      have c4 := hc 4 (by omega)
      rw [he] at c0 c1 c2 c3 c4
      rw [Nat.add_zero] at c0
      simp only [kindRow, List.getElem?_cons_zero, List.getElem?_cons_succ] at c0 c1 c2 c3 c4
      have hfit : fitsAt x k = fitsB l o f3 f7 x := by unfold fitsAt; rw [he]
      have hdec : decAt x k = ((k : Int), ((registerN x 7 (hasB l).1 : Nat) : Int), ((registerN x 15 (hasB l).2.1 : Nat) : Int), ((registerN x 20 (hasB l).2.2 : Nat) : Int), numI l x) := by unfold decAt; rw [he]
      have HF := refFits_any nm l o f3 f7 x wr hx ho h3 h7 hl
      rw [← hfit] at HF
      have Hdec := hid hdec
      have Hk := Hat.out k hlt
      clear hfit hc he hdec
      cases hfk : fitsAt x k
      · rw [hfk] at HF
        have Hn2 := hid (show ∀ j, j < k + 1 → fitsAt x j = false from fun j hj => by
          rcases Nat.lt_or_ge j k with h | h
          · exact Hno.out j h
          · rw [show j = k by omega]; exact hfk)
        clear Hk hfk
        go_wp2_with (first
          | (go_at_call 89; refine HF.mono ?_; rintro e w2 ⟨rfl, hb2⟩))
        go_roundw
        case rel => exact ⟨k + 1, by omega, by go_num, Hn2, hbr.trans (hb2.mono hbr.size)⟩
        case measure => simp [intOf]; omega
      · rw [hfk] at HF
        have hv := Hk hfk Hno.out
        rw [Hdec.out] at hv
        obtain rfl := hv
        clear Hk hfk Hall Hat
        go_wp2_with fail
        refine HF.mono ?_
        rintro e w2 ⟨rfl, hb2⟩
        obtain ⟨hc2, hf2⟩ := bcell hb2
        have hgl2 : g < wr.heap.size := by omega
        go_wp2_with fail
        refine (refImm_any l x _ hl hx).mono ?_
        rintro e w3 ⟨rfl, m3, h3e⟩
        have hb3 : Below w2.heap.size w2 w3 := by rw [h3e]; exact below_drewN (Below.refl _ _) _
        clear h3e
        have hs2 := hb2.size
        have hs3 := hb3.size
        have hz2 : w.heap.size < w3.heap.size := by omega
        have Hn2 := hid ((hb3.block _ (by omega)).trans ((hb2.block _ (by omega)).trans hn2.out))
        have HB2 : Below w.heap.size w w3 := (HBr.trans (hb2.mono (by omega))).trans (hb3.mono (by omega))
        have c1' : w3.cell? ⟨g, k * 5 + 1, none⟩ = some (.string ⟨#[letterB l]⟩) := by rw [hb3.cell (by show g < _; omega), hc2 _ _ hgl2, c1]
        have hgl3 : g < w3.heap.size := by omega
        clear HF c0 c1 c2 c3 c4 hb2 hb3 hn2 hgr hc2 hf2
        have Ha : ∀ ob, (w3.alloc ob).heap[w.heap.size]? = some (.cells #[.int .i64 0, .int .i64 0, .int .i64 0, .int .i64 0, .int .i64 0] 116 (0, 0)) := fun ob => by
          rw [Below.heap_alloc _ _ _ hz2]; exact Hn2.out
        have HA := hid Ha
        clear Ha
        rcases hl with rfl | rfl | rfl | rfl | rfl | rfl | rfl | rfl | rfl
        all_goals have hb7 : fieldN x 7 5 < 32 := Nat.mod_lt _ (by decide)
        all_goals have hb15 : fieldN x 15 5 < 32 := Nat.mod_lt _ (by decide)
        all_goals have hb20 : fieldN x 20 5 < 32 := Nat.mod_lt _ (by decide)
        · go_wp2_with (first
            | (go_at_call_of 91 (Value.int IntKind.i64 7); refine (refBits_id x 7 5 _ hx (by omega) (by omega)).mono ?_; rintro e w7 ⟨rfl, rfl⟩)
            | (refine wpList_store_row rfl 116 (.tmp 2) (.tmp 102) rfl w.heap.size (instCells k (fieldN x 7 5 : Nat) 0 0 (numI 85 x)) rfl rfl 116 _ (HA.out _) info30s rfl (instCells_one ..) ?_))
          refine bodyPost_ret (results_cell_tmp rfl _ _ w.heap.size 116 (instCells k (fieldN x 7 5 : Nat) 0 0 (numI 85 x)) (0, 0) _ rfl (setRow_heap _ _ _ _ _ _ (HA.out _)) Tryz.underlying116 rfl info30s) rfl ?_
          exact ⟨by rw [show hasB 85 = (true, false, false) by decide]; rfl, below_setRow (HB2.alloc (by omega) _) (by omega) _⟩
        · go_wp2_with (first
            | (go_at_call_of 91 (Value.int IntKind.i64 7); refine (refBits_id x 7 5 _ hx (by omega) (by omega)).mono ?_; rintro e w7 ⟨rfl, rfl⟩)
            | (refine wpList_store_row rfl 116 (.tmp 2) (.tmp 102) rfl w.heap.size (instCells k (fieldN x 7 5 : Nat) 0 0 (numI 74 x)) rfl rfl 116 _ (HA.out _) info30s rfl (instCells_one ..) ?_))
          refine bodyPost_ret (results_cell_tmp rfl _ _ w.heap.size 116 (instCells k (fieldN x 7 5 : Nat) 0 0 (numI 74 x)) (0, 0) _ rfl (setRow_heap _ _ _ _ _ _ (HA.out _)) Tryz.underlying116 rfl info30s) rfl ?_
          exact ⟨by rw [show hasB 74 = (true, false, false) by decide]; rfl, below_setRow (HB2.alloc (by omega) _) (by omega) _⟩
        · go_wp2_with (first
            | (go_at_call_of 91 (Value.int IntKind.i64 7); refine (refBits_id x 7 5 _ hx (by omega) (by omega)).mono ?_; rintro e w7 ⟨rfl, rfl⟩)
            | (go_at_call_of 91 (Value.int IntKind.i64 15); refine (refBits_id x 15 5 _ hx (by omega) (by omega)).mono ?_; rintro e w15 ⟨rfl, rfl⟩)
            | (refine wpList_store_row rfl 116 (.tmp 2) (.tmp 102) rfl w.heap.size (instCells k (fieldN x 7 5 : Nat) (fieldN x 15 5 : Nat) 0 (numI 73 x)) rfl rfl 116 _ (HA.out _) info30s rfl (instCells_one ..) ?_))
          refine bodyPost_ret (results_cell_tmp rfl _ _ w.heap.size 116 (instCells k (fieldN x 7 5 : Nat) (fieldN x 15 5 : Nat) 0 (numI 73 x)) (0, 0) _ rfl (setRow_heap _ _ _ _ _ _ (HA.out _)) Tryz.underlying116 rfl info30s) rfl ?_
          exact ⟨by rw [show hasB 73 = (true, true, false) by decide]; rfl, below_setRow (HB2.alloc (by omega) _) (by omega) _⟩
        · go_wp2_with (first
            | (go_at_call_of 91 (Value.int IntKind.i64 15); refine (refBits_id x 15 5 _ hx (by omega) (by omega)).mono ?_; rintro e w15 ⟨rfl, rfl⟩)
            | (go_at_call_of 91 (Value.int IntKind.i64 20); refine (refBits_id x 20 5 _ hx (by omega) (by omega)).mono ?_; rintro e w20 ⟨rfl, rfl⟩)
            | (refine wpList_store_row rfl 116 (.tmp 2) (.tmp 102) rfl w.heap.size (instCells k 0 (fieldN x 15 5 : Nat) (fieldN x 20 5 : Nat) (numI 66 x)) rfl rfl 116 _ (HA.out _) info30s rfl (instCells_one ..) ?_))
          refine bodyPost_ret (results_cell_tmp rfl _ _ w.heap.size 116 (instCells k 0 (fieldN x 15 5 : Nat) (fieldN x 20 5 : Nat) (numI 66 x)) (0, 0) _ rfl (setRow_heap _ _ _ _ _ _ (HA.out _)) Tryz.underlying116 rfl info30s) rfl ?_
          exact ⟨by rw [show hasB 66 = (false, true, true) by decide]; rfl, below_setRow (HB2.alloc (by omega) _) (by omega) _⟩
        · go_wp2_with (first
            | (go_at_call_of 91 (Value.int IntKind.i64 15); refine (refBits_id x 15 5 _ hx (by omega) (by omega)).mono ?_; rintro e w15 ⟨rfl, rfl⟩)
            | (go_at_call_of 91 (Value.int IntKind.i64 20); refine (refBits_id x 20 5 _ hx (by omega) (by omega)).mono ?_; rintro e w20 ⟨rfl, rfl⟩)
            | (refine wpList_store_row rfl 116 (.tmp 2) (.tmp 102) rfl w.heap.size (instCells k 0 (fieldN x 15 5 : Nat) (fieldN x 20 5 : Nat) (numI 83 x)) rfl rfl 116 _ (HA.out _) info30s rfl (instCells_one ..) ?_))
          refine bodyPost_ret (results_cell_tmp rfl _ _ w.heap.size 116 (instCells k 0 (fieldN x 15 5 : Nat) (fieldN x 20 5 : Nat) (numI 83 x)) (0, 0) _ rfl (setRow_heap _ _ _ _ _ _ (HA.out _)) Tryz.underlying116 rfl info30s) rfl ?_
          exact ⟨by rw [show hasB 83 = (false, true, true) by decide]; rfl, below_setRow (HB2.alloc (by omega) _) (by omega) _⟩
        · go_wp2_with (first
            | (go_at_call_of 91 (Value.int IntKind.i64 7); refine (refBits_id x 7 5 _ hx (by omega) (by omega)).mono ?_; rintro e w7 ⟨rfl, rfl⟩)
            | (go_at_call_of 91 (Value.int IntKind.i64 15); refine (refBits_id x 15 5 _ hx (by omega) (by omega)).mono ?_; rintro e w15 ⟨rfl, rfl⟩)
            | (refine wpList_store_row rfl 116 (.tmp 2) (.tmp 102) rfl w.heap.size (instCells k (fieldN x 7 5 : Nat) (fieldN x 15 5 : Nat) 0 (numI 72 x)) rfl rfl 116 _ (HA.out _) info30s rfl (instCells_one ..) ?_))
          refine bodyPost_ret (results_cell_tmp rfl _ _ w.heap.size 116 (instCells k (fieldN x 7 5 : Nat) (fieldN x 15 5 : Nat) 0 (numI 72 x)) (0, 0) _ rfl (setRow_heap _ _ _ _ _ _ (HA.out _)) Tryz.underlying116 rfl info30s) rfl ?_
          exact ⟨by rw [show hasB 72 = (true, true, false) by decide]; rfl, below_setRow (HB2.alloc (by omega) _) (by omega) _⟩
        · go_wp2_with (first
            | (go_at_call_of 91 (Value.int IntKind.i64 7); refine (refBits_id x 7 5 _ hx (by omega) (by omega)).mono ?_; rintro e w7 ⟨rfl, rfl⟩)
            | (go_at_call_of 91 (Value.int IntKind.i64 15); refine (refBits_id x 15 5 _ hx (by omega) (by omega)).mono ?_; rintro e w15 ⟨rfl, rfl⟩)
            | (refine wpList_store_row rfl 116 (.tmp 2) (.tmp 102) rfl w.heap.size (instCells k (fieldN x 7 5 : Nat) (fieldN x 15 5 : Nat) 0 (numI 75 x)) rfl rfl 116 _ (HA.out _) info30s rfl (instCells_one ..) ?_))
          refine bodyPost_ret (results_cell_tmp rfl _ _ w.heap.size 116 (instCells k (fieldN x 7 5 : Nat) (fieldN x 15 5 : Nat) 0 (numI 75 x)) (0, 0) _ rfl (setRow_heap _ _ _ _ _ _ (HA.out _)) Tryz.underlying116 rfl info30s) rfl ?_
          exact ⟨by rw [show hasB 75 = (true, true, false) by decide]; rfl, below_setRow (HB2.alloc (by omega) _) (by omega) _⟩
        · go_wp2_with (first
            | (go_at_call_of 91 (Value.int IntKind.i64 7); refine (refBits_id x 7 5 _ hx (by omega) (by omega)).mono ?_; rintro e w7 ⟨rfl, rfl⟩)
            | (go_at_call_of 91 (Value.int IntKind.i64 15); refine (refBits_id x 15 5 _ hx (by omega) (by omega)).mono ?_; rintro e w15 ⟨rfl, rfl⟩)
            | (go_at_call_of 91 (Value.int IntKind.i64 20); refine (refBits_id x 20 5 _ hx (by omega) (by omega)).mono ?_; rintro e w20 ⟨rfl, rfl⟩)
            | (refine wpList_store_row rfl 116 (.tmp 2) (.tmp 102) rfl w.heap.size (instCells k (fieldN x 7 5 : Nat) (fieldN x 15 5 : Nat) (fieldN x 20 5 : Nat) (numI 82 x)) rfl rfl 116 _ (HA.out _) info30s rfl (instCells_one ..) ?_))
          refine bodyPost_ret (results_cell_tmp rfl _ _ w.heap.size 116 (instCells k (fieldN x 7 5 : Nat) (fieldN x 15 5 : Nat) (fieldN x 20 5 : Nat) (numI 82 x)) (0, 0) _ rfl (setRow_heap _ _ _ _ _ _ (HA.out _)) Tryz.underlying116 rfl info30s) rfl ?_
          exact ⟨by rw [show hasB 82 = (true, true, true) by decide]; rfl, below_setRow (HB2.alloc (by omega) _) (by omega) _⟩
        · go_wp2_with (first
            | (refine wpList_store_row rfl 116 (.tmp 2) (.tmp 102) rfl w.heap.size (instCells k 0 0 0 (numI 78 x)) rfl rfl 116 _ (HA.out _) info30s rfl (instCells_one ..) ?_))
          refine bodyPost_ret (results_cell_tmp rfl _ _ w.heap.size 116 (instCells k 0 0 0 (numI 78 x)) (0, 0) _ rfl (setRow_heap _ _ _ _ _ _ (HA.out _)) Tryz.underlying116 rfl info30s) rfl ?_
          exact ⟨by rw [show hasB 78 = (false, false, false) by decide]; rfl, below_setRow (HB2.alloc (by omega) _) (by omega) _⟩
    · obtain rfl : k = 64 := by omega
      have hv := Hall.out Hno.out
      subst hv
      go_wp2_with (first
        | (refine wpList_store_row rfl 116 (.tmp 2) (.tmp 103) rfl w.heap.size (instCells 0 0 0 0 0) rfl rfl 116 _ hn2.out info30s rfl (instCells_one ..) ?_))
      refine bodyPost_ret (results_cell_tmp rfl _ _ w.heap.size 116 (instCells 0 0 0 0 0) (0, 0) _ rfl (setRow_heap _ _ _ _ _ _ hn2.out) Tryz.underlying116 rfl info30s) rfl ?_
      exact ⟨rfl, below_setRow HBr (by omega) _⟩
end
end Go.Proofs.YtiemingpbommeaaGreatDoor
