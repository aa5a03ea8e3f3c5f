/- The law's own 'tame': a word, made tame: some word. -/
import Derived.Test.YtiemingpbommeaaGreatDoorHb
import Derived.Test.YtiemingpbommeaaGreatDoorGb
import Derived.Test.YtiemingpbommeaaGreatDoorGf
namespace Go.Proofs.YtiemingpbommeaaGreatDoor
open Go Go.RowKit
noncomputable section
set_option linter.unusedVariables false
set_option linter.unusedSimpArgs false
section
variable {P : Program} {Q : Exit → Act → World → Prop} {ops : Array Oper} {md : Region.Mode}
theorem wpOp_callE {i : Nat} {o : Oper} {f : FuncId} {args : Array Value} {K : Act → World → Prop} {a : Act} {w : World} (R : Value → World → Prop) (ho : ops[i]? = some o) (hg : o.guard = none) (hr : (execOp a.eval o).run P w = .ok (.enter f args) w)
    (hc : Calls P f args w (fun e w'' => ∃ v, e = .returned v ∧ R v w'')) (hK : ∀ v w'', R v w'' → K (a.put o.dst v) w'') : wpOp P ops Q i K a w := by
  unfold wpOp
  rw [ho]
  dsimp only
  rw [if_pos (by simp [Region.wanted, hg])]
  refine .inl ?_
  show o.upon P a K Q _
  rw [hr]
  exact hc.mono fun e w'' ⟨v, he, hR⟩ => by subst he; exact hK v w'' hR
theorem any3 {i j k : Nat} {f : Nat} {listed : Array Bool} {a : Act} {w : World} (hr : Region.ready md ops listed = [i, j, k]) (h : wpOp P ops Q i (wpAny P md ops Q f (listed.setIfInBounds i true)) a w)
    (h' : wpOp P ops Q j (wpAny P md ops Q f (listed.setIfInBounds j true)) a w) (h'' : wpOp P ops Q k (wpAny P md ops Q f (listed.setIfInBounds k true)) a w) : wpAny P md ops Q (f + 1) listed a w :=
  wpAny_all hr (by simp) fun n hn => by
    simp only [List.mem_cons, List.mem_nil_iff, or_false] at hn
    rcases hn with rfl | rfl | rfl
    · exact h
    · exact h'
    · exact h''
end
theorem infoKind : (Tryz.prog.info? 120).map (fun x => x.size) = some 5 := by kernel_rfl
theorem kind_one (s1 s2 : ByteArray) (a b c : Int) : (#[.string s1, .string s2, .int .u32 a, .int .u32 b, .int .u32 c] : Array Value).all (fun x => x.oneCell') = true := by simp [Value.oneCell']
theorem kinds_of (w : World) : Calls Tryz.prog 47 #[] w fun e w' => ∃ v, e = .returned v ∧ ∃ g, v = .slice (some ⟨g, 0, none⟩) 64 64 ∧ w'.heap[g]? = some (.cells kindCells 120 (0, 0)) ∧ Below w.heap.size w w' :=
  (kinds_any w).mono fun e w' ⟨g, he, hg, _, hb⟩ => ⟨_, he, g, rfl, hg, hb⟩
theorem icell {W : World} {G : Nat} {i d a b n : Int} (h : Hid (W.heap[G]? = some (.cells #[.int .i64 i, .int .i64 d, .int .i64 a, .int .i64 b, .int .i64 n] 116 (0, 0)))) : W.cell? ⟨G, 0, none⟩ = some (.int .i64 i) := by
  rw [cell_of_row W _ _ _ _ _ h.out]; rfl
theorem kcells {W : World} {g i : Nat} {nm : List UInt8} {l : Int} {o f3 f7 : Nat} (h : Hid (W.heap[g]? = some (.cells kindCells 120 (0, 0)))) (hi : i < 64) (hrow : formAt i = (nm, l, (o : Int), (f3 : Int), (f7 : Int))) :
    W.cell? ⟨g, i * 5, none⟩ = some (.string ⟨nm.toArray⟩) ∧ W.cell? ⟨g, i * 5 + 1, none⟩ = some (.string ⟨#[letterB l]⟩) ∧ W.cell? ⟨g, i * 5 + 2, none⟩ = some (.int .u32 (o : Int)) ∧ W.cell? ⟨g, i * 5 + 3, none⟩ = some (.int .u32 (f3 : Int)) ∧ W.cell? ⟨g, i * 5 + 4, none⟩ = some (.int .u32 (f7 : Int)) := by
  have hc : ∀ j, j < 5 → W.cell? ⟨g, i * 5 + j, none⟩ = (kindRow (formAt i))[j]? := fun j hj => by
    rw [cell_of_row W g _ _ _ _ h.out, Nat.mul_comm]; exact kindCells_get i j hi hj
  rw [hrow] at hc
  exact ⟨hc 0 (by omega), hc 1 (by omega), hc 2 (by omega), hc 3 (by omega), hc 4 (by omega)⟩
theorem refDecode_lit (X : Nat) (o d a b n : Int) (ok : Bool) (hlt : X < 4294967296) (hD : decN X = ((o, d, a, b, n), ok)) (w : World) :
    Calls Tryz.prog 46 #[.int .u32 X] w fun e w' => e = .returned (.tuple #[.agg #[.int .i64 o, .int .i64 d, .int .i64 a, .int .i64 b, .int .i64 n], .bool ok]) ∧ Below w.heap.size w w' := by
  have := refDecode_any X w hlt
  rw [hD] at this
  exact this
theorem encN_lt' (o d a b n : Int) : encN o d a b n < 4294967296 := encN_lt o d a b n
theorem encV_lt (o d a b n : Int) : (encV o d a b n).1 < 4294967296 := by
  unfold encV
  split
  · exact encN_lt' o d a b n
  · decide
theorem encode_some (o d a b n : Int) (w : World) :
    Calls Tryz.prog 15 #[.agg #[.int .i64 o, .int .i64 d, .int .i64 a, .int .i64 b, .int .i64 n]] w fun e w' => ∃ (y : Nat) (ok : Bool), y < 4294967296 ∧ e = .returned (.tuple #[.int .u32 y, .bool ok]) ∧ Below w.heap.size w w' :=
  (encode_any o d a b n w).mono fun e w' ⟨he, hb⟩ => ⟨_, _, encV_lt o d a b n, he, hb⟩
def TameCut (w : World) (G : Nat) (ir kr : Array Value) (v5 : Value) (wc : World) : Prop :=
  ∃ z, v5 = .pointer (some ⟨z, 0, none⟩) ∧ Hid (wc.heap[z]? = some (.cells kr 120 (0, 0))) ∧ Hid (wc.heap[G]? = some (.cells ir 116 (0, 0))) ∧ Hid (Below w.heap.size w wc)
theorem tame_met {w W : World} {G z : Nat} {ir zr : Array Value} (HT : Hid (W.heap[G]? = some (.cells ir 116 (0, 0)))) (HZ : Hid (W.heap[z]? = some (.cells zr 120 (0, 0)))) (hz : w.heap.size ≤ z) (HB : Hid (Below w.heap.size w W)) (kr : Array Value) :
    TameCut w G ir kr (.pointer (some ⟨z, 0, none⟩)) (W.setRow z kr) := by
  refine ⟨z, rfl, hid (setRow_heap _ _ _ _ _ _ HZ.out), hid ((setRow_other _ _ _ _ ?_).trans HT.out), hid (below_setRow HB.out hz _)⟩
  intro e
  subst e
  have h1 := HT.out
  rw [HZ.out] at h1
  have := congrArg (fun o : Option Obj => match o with | some (.cells _ t _) => t | _ => 0) h1
  have h2 : (120 : Nat) = 116 := this
  exact absurd h2 (by decide)
set_option maxHeartbeats 4000000 in
set_option maxRecDepth 100000 in
theorem tame_any (x : Nat) (w : World) (hx : x < 4294967296) :
    Calls Tryz.prog 41 #[.int .u32 x] w fun e w' => (∃ y : Nat, y < 4294967296 ∧ e = .returned (.int .u32 y)) ∧ Below w.heap.size w w' := by
  have hcase := decN_cases x
  rcases hD : decN x with ⟨⟨i0, d, a, b, n⟩, ok⟩
  have hdec := refDecode_lit x i0 d a b n ok hx hD w
  rw [hD] at hcase
  have Hdec := hid hdec
  have Hcase := hid hcase
  clear hdec hcase hD
  go_enter Tryz.func41, Tryz.ntmps41
  go_wp2_with fail
  refine Hdec.out.mono ?_
  rintro e w1 ⟨rfl, hb1⟩
  cases ok with
  | false =>
    go_wp2_with fail
    go_ret
    exact ⟨⟨x, hx, rfl⟩, hb1.alloc hb1.size _⟩
  | true =>
    obtain ⟨i, hi, h0⟩ : ∃ i : Nat, i < 64 ∧ i0 = i := by
      rcases Hcase.out with ⟨h, _⟩ | ⟨i, hi, _, _, h⟩
      · cases h
      · exact ⟨i, hi, by have := congrArg (fun q => q.1.1) h; exact this⟩
    subst h0
    obtain ⟨nm, l, o, f3, f7, hrow, ho, h3, h7, hl⟩ := row_letter i hi
    go_upto_region 4 with (fail)
    obtain ⟨V, hV⟩ : ∃ V, w1.alloc (.cells #[.int .i64 i, .int .i64 d, .int .i64 a, .int .i64 b, .int .i64 n] 116) = V := ⟨_, rfl⟩
    have HT : Hid (V.heap[w1.heap.size]? = some (.cells #[.int .i64 i, .int .i64 d, .int .i64 a, .int .i64 b, .int .i64 n] 116 (0, 0))) := hid (by rw [← hV]; exact heap_alloc_new _ _)
    have HB : Hid (Below w.heap.size w V) := hid (by rw [← hV]; exact hb1.alloc hb1.size _)
    rw [hV]
    have hsz1 := hb1.size
    clear hV hb1
    have hGw0 : w.heap.size ≤ w1.heap.size := hsz1
    generalize w1.heap.size = G at HT hGw0 ⊢
    have Hrow := hid hrow
    clear hrow
    go_cut [5] (fun v5 wc => TameCut w G #[.int .i64 i, .int .i64 d, .int .i64 a, .int .i64 b, .int .i64 n] #[.string ⟨nm.toArray⟩, .string ⟨#[letterB l]⟩, .int .u32 (o : Nat), .int .u32 (f3 : Nat), .int .u32 (f7 : Nat)] v5 wc)
    case first =>
      refine wp_region_any (by kernel_rfl) ?_
      change wpAny _ _ _ _ _ _ _ (World.drew V)
      have HT' := HT
      have HB' := HB
      have HT : Hid (V.drew.heap[G]? = some (.cells #[.int .i64 i, .int .i64 d, .int .i64 a, .int .i64 b, .int .i64 n] 116 (0, 0))) := hid HT'.out
      have HB : Hid (Below w.heap.size w V.drew) := hid HB'.out.drew
      obtain ⟨D, hD⟩ : ∃ D, V.drew = D := ⟨_, rfl⟩
      rw [hD] at HT HB ⊢
      clear hD HT' HB'
      refine wpAny_take (i := 1) (v := .pointer (some ⟨G, 0, none⟩)) rfl (by kernel_rfl) (by kernel_rfl) (by kernel_rfl) (fun _ _ _ h => h) (Or.inl ⟨by rfl, fun w => by go_simp⟩) ?_
      simp only [Act.put, List.getElem_toArray, List.getElem_cons_zero, List.getElem_cons_succ, List.setIfInBounds_toArray, List.set_cons_zero, List.set_cons_succ]
      refine any3 (i := 0) (j := 2) (k := 5) (by kernel_rfl) ?_ ?_ ?_
      · refine wpOp_callE (fun v W' => ∃ g, v = .slice (some ⟨g, 0, none⟩) 64 64 ∧ W'.heap[g]? = some (.cells kindCells 120 (0, 0)) ∧ Below D.heap.size D W') rfl rfl (by kernel_rfl) (kinds_of _) ?_
        rintro v W1 ⟨g, rfl, hk, hbk⟩
        simp only [Act.put, List.getElem_toArray, List.getElem_cons_zero, List.getElem_cons_succ, List.setIfInBounds_toArray, List.set_cons_zero, List.set_cons_succ]
        have HT := hid ((hbk.block _ (blk_lt' HT.out)).trans HT.out)
        have HB := hid (HB.out.trans (hbk.mono HB.out.size))
        have HK := hid hk
        clear hk hbk
        refine any2 (i := 2) (j := 5) (by kernel_rfl) ?_ ?_
        · have c0 := icell HT
          refine wpOp_val (w' := W1) (v := .int .i64 i) rfl rfl (by go_simp) ?_
          simp only [Act.put, List.getElem_toArray, List.getElem_cons_zero, List.getElem_cons_succ, List.setIfInBounds_toArray, List.set_cons_zero, List.set_cons_succ]
          clear c0
          refine any2 (i := 3) (j := 5) (by kernel_rfl) ?_ ?_
          · refine wpOp_val (w' := W1) (v := .pointer (some ⟨g, i * 5, none⟩)) rfl rfl (by go_simp; intro hh; omega) ?_
            simp only [Act.put, List.getElem_toArray, List.getElem_cons_zero, List.getElem_cons_succ, List.setIfInBounds_toArray, List.set_cons_zero, List.set_cons_succ]
            refine any2 (i := 4) (j := 5) (by kernel_rfl) ?_ ?_
            · obtain ⟨k0, k1, k2, k3, k4⟩ := kcells HK hi Hrow.out
              refine wpOp_val (w' := W1) (v := .agg #[.string ⟨nm.toArray⟩, .string ⟨#[letterB l]⟩, .int .u32 (o : Nat), .int .u32 (f3 : Nat), .int .u32 (f7 : Nat)]) rfl rfl (by go_simp) ?_
              simp only [Act.put, List.getElem_toArray, List.getElem_cons_zero, List.getElem_cons_succ, List.setIfInBounds_toArray, List.set_cons_zero, List.set_cons_succ]
              clear k0 k1 k2 k3 k4
              refine any1 (i := 5) (by kernel_rfl) ?_
              refine wpOp_val (w' := W1.alloc (.cells #[.string ⟨#[]⟩, .string ⟨#[]⟩, .int .u32 0, .int .u32 0, .int .u32 0] 120)) (v := .pointer (some ⟨W1.heap.size, 0, none⟩)) rfl rfl (by kernel_rfl) ?_
              simp only [Act.put, List.getElem_toArray, List.getElem_cons_zero, List.getElem_cons_succ, List.setIfInBounds_toArray, List.set_cons_zero, List.set_cons_succ]
              have HZ := hid (heap_alloc_new W1 (.cells #[.string ⟨#[]⟩, .string ⟨#[]⟩, .int .u32 0, .int .u32 0, .int .u32 0] 120))
              have HT := hid ((Below.heap_alloc W1 (.cells #[.string ⟨#[]⟩, .string ⟨#[]⟩, .int .u32 0, .int .u32 0, .int .u32 0] 120) _ (blk_lt' HT.out)).trans HT.out)
              have hzw : w.heap.size ≤ W1.heap.size := HB.out.size
              have HK := hid ((Below.heap_alloc W1 (.cells #[.string ⟨#[]⟩, .string ⟨#[]⟩, .int .u32 0, .int .u32 0, .int .u32 0] 120) _ (blk_lt' HK.out)).trans HK.out)
              have HB := hid (HB.out.alloc HB.out.size (.cells #[.string ⟨#[]⟩, .string ⟨#[]⟩, .int .u32 0, .int .u32 0, .int .u32 0] 120))
              obtain ⟨z, hz⟩ : ∃ z, W1.heap.size = z := ⟨_, rfl⟩
              obtain ⟨W5, hW⟩ : ∃ W, W1.alloc (.cells #[.string ⟨#[]⟩, .string ⟨#[]⟩, .int .u32 0, .int .u32 0, .int .u32 0] 120) = W := ⟨_, rfl⟩
              rw [hz] at HZ hzw ⊢
              rw [hW] at HZ HT HK HB ⊢
              clear hz hW
              refine any1 (i := 6) (by kernel_rfl) ?_
              refine wpOp_store_row rfl rfl 120 (.tmp 5) (.tmp 20) rfl z #[.string ⟨nm.toArray⟩, .string ⟨#[letterB l]⟩, .int .u32 (o : Nat), .int .u32 (f3 : Nat), .int .u32 (f7 : Nat)] rfl rfl 120 _ HZ.out infoKind rfl (kind_one ..) ?_
              simp only [Act.put, List.getElem_toArray, List.getElem_cons_zero, List.getElem_cons_succ, List.setIfInBounds_toArray, List.set_cons_zero, List.set_cons_succ]
              refine ⟨by kernel_rfl, ?_⟩
              go_wp2_with fail
              go_meet
              case rel => exact tame_met HT HZ hzw HB #[.string ⟨nm.toArray⟩, .string ⟨#[letterB l]⟩, .int .u32 (o : Nat), .int .u32 (f3 : Nat), .int .u32 (f7 : Nat)]
            · refine wpOp_val (w' := W1.alloc (.cells #[.string ⟨#[]⟩, .string ⟨#[]⟩, .int .u32 0, .int .u32 0, .int .u32 0] 120)) (v := .pointer (some ⟨W1.heap.size, 0, none⟩)) rfl rfl (by kernel_rfl) ?_
              simp only [Act.put, List.getElem_toArray, List.getElem_cons_zero, List.getElem_cons_succ, List.setIfInBounds_toArray, List.set_cons_zero, List.set_cons_succ]
              have HZ := hid (heap_alloc_new W1 (.cells #[.string ⟨#[]⟩, .string ⟨#[]⟩, .int .u32 0, .int .u32 0, .int .u32 0] 120))
              have HT := hid ((Below.heap_alloc W1 (.cells #[.string ⟨#[]⟩, .string ⟨#[]⟩, .int .u32 0, .int .u32 0, .int .u32 0] 120) _ (blk_lt' HT.out)).trans HT.out)
              have hzw : w.heap.size ≤ W1.heap.size := HB.out.size
              have HK := hid ((Below.heap_alloc W1 (.cells #[.string ⟨#[]⟩, .string ⟨#[]⟩, .int .u32 0, .int .u32 0, .int .u32 0] 120) _ (blk_lt' HK.out)).trans HK.out)
              have HB := hid (HB.out.alloc HB.out.size (.cells #[.string ⟨#[]⟩, .string ⟨#[]⟩, .int .u32 0, .int .u32 0, .int .u32 0] 120))
              obtain ⟨z, hz⟩ : ∃ z, W1.heap.size = z := ⟨_, rfl⟩
              obtain ⟨W7, hW⟩ : ∃ W, W1.alloc (.cells #[.string ⟨#[]⟩, .string ⟨#[]⟩, .int .u32 0, .int .u32 0, .int .u32 0] 120) = W := ⟨_, rfl⟩
              rw [hz] at HZ hzw ⊢
              rw [hW] at HZ HT HK HB ⊢
              clear hz hW
              refine any1 (i := 4) (by kernel_rfl) ?_
              obtain ⟨k0, k1, k2, k3, k4⟩ := kcells HK hi Hrow.out
              refine wpOp_val (w' := W7) (v := .agg #[.string ⟨nm.toArray⟩, .string ⟨#[letterB l]⟩, .int .u32 (o : Nat), .int .u32 (f3 : Nat), .int .u32 (f7 : Nat)]) rfl rfl (by go_simp) ?_
              simp only [Act.put, List.getElem_toArray, List.getElem_cons_zero, List.getElem_cons_succ, List.setIfInBounds_toArray, List.set_cons_zero, List.set_cons_succ]
              clear k0 k1 k2 k3 k4
              refine any1 (i := 6) (by kernel_rfl) ?_
              refine wpOp_store_row rfl rfl 120 (.tmp 5) (.tmp 20) rfl z #[.string ⟨nm.toArray⟩, .string ⟨#[letterB l]⟩, .int .u32 (o : Nat), .int .u32 (f3 : Nat), .int .u32 (f7 : Nat)] rfl rfl 120 _ HZ.out infoKind rfl (kind_one ..) ?_
              simp only [Act.put, List.getElem_toArray, List.getElem_cons_zero, List.getElem_cons_succ, List.setIfInBounds_toArray, List.set_cons_zero, List.set_cons_succ]
              refine ⟨by kernel_rfl, ?_⟩
              go_wp2_with fail
              go_meet
              case rel => exact tame_met HT HZ hzw HB #[.string ⟨nm.toArray⟩, .string ⟨#[letterB l]⟩, .int .u32 (o : Nat), .int .u32 (f3 : Nat), .int .u32 (f7 : Nat)]
          · refine wpOp_val (w' := W1.alloc (.cells #[.string ⟨#[]⟩, .string ⟨#[]⟩, .int .u32 0, .int .u32 0, .int .u32 0] 120)) (v := .pointer (some ⟨W1.heap.size, 0, none⟩)) rfl rfl (by kernel_rfl) ?_
            simp only [Act.put, List.getElem_toArray, List.getElem_cons_zero, List.getElem_cons_succ, List.setIfInBounds_toArray, List.set_cons_zero, List.set_cons_succ]
            have HZ := hid (heap_alloc_new W1 (.cells #[.string ⟨#[]⟩, .string ⟨#[]⟩, .int .u32 0, .int .u32 0, .int .u32 0] 120))
            have HT := hid ((Below.heap_alloc W1 (.cells #[.string ⟨#[]⟩, .string ⟨#[]⟩, .int .u32 0, .int .u32 0, .int .u32 0] 120) _ (blk_lt' HT.out)).trans HT.out)
            have hzw : w.heap.size ≤ W1.heap.size := HB.out.size
            have HK := hid ((Below.heap_alloc W1 (.cells #[.string ⟨#[]⟩, .string ⟨#[]⟩, .int .u32 0, .int .u32 0, .int .u32 0] 120) _ (blk_lt' HK.out)).trans HK.out)
            have HB := hid (HB.out.alloc HB.out.size (.cells #[.string ⟨#[]⟩, .string ⟨#[]⟩, .int .u32 0, .int .u32 0, .int .u32 0] 120))
            obtain ⟨z, hz⟩ : ∃ z, W1.heap.size = z := ⟨_, rfl⟩
            obtain ⟨W10, hW⟩ : ∃ W, W1.alloc (.cells #[.string ⟨#[]⟩, .string ⟨#[]⟩, .int .u32 0, .int .u32 0, .int .u32 0] 120) = W := ⟨_, rfl⟩
            rw [hz] at HZ hzw ⊢
            rw [hW] at HZ HT HK HB ⊢
            clear hz hW
            refine any1 (i := 3) (by kernel_rfl) ?_
            refine wpOp_val (w' := W10) (v := .pointer (some ⟨g, i * 5, none⟩)) rfl rfl (by go_simp; intro hh; omega) ?_
            simp only [Act.put, List.getElem_toArray, List.getElem_cons_zero, List.getElem_cons_succ, List.setIfInBounds_toArray, List.set_cons_zero, List.set_cons_succ]
            refine any1 (i := 4) (by kernel_rfl) ?_
            obtain ⟨k0, k1, k2, k3, k4⟩ := kcells HK hi Hrow.out
            refine wpOp_val (w' := W10) (v := .agg #[.string ⟨nm.toArray⟩, .string ⟨#[letterB l]⟩, .int .u32 (o : Nat), .int .u32 (f3 : Nat), .int .u32 (f7 : Nat)]) rfl rfl (by go_simp) ?_
            simp only [Act.put, List.getElem_toArray, List.getElem_cons_zero, List.getElem_cons_succ, List.setIfInBounds_toArray, List.set_cons_zero, List.set_cons_succ]
            clear k0 k1 k2 k3 k4
            refine any1 (i := 6) (by kernel_rfl) ?_
            refine wpOp_store_row rfl rfl 120 (.tmp 5) (.tmp 20) rfl z #[.string ⟨nm.toArray⟩, .string ⟨#[letterB l]⟩, .int .u32 (o : Nat), .int .u32 (f3 : Nat), .int .u32 (f7 : Nat)] rfl rfl 120 _ HZ.out infoKind rfl (kind_one ..) ?_
            simp only [Act.put, List.getElem_toArray, List.getElem_cons_zero, List.getElem_cons_succ, List.setIfInBounds_toArray, List.set_cons_zero, List.set_cons_succ]
            refine ⟨by kernel_rfl, ?_⟩
            go_wp2_with fail
            go_meet
            case rel => exact tame_met HT HZ hzw HB #[.string ⟨nm.toArray⟩, .string ⟨#[letterB l]⟩, .int .u32 (o : Nat), .int .u32 (f3 : Nat), .int .u32 (f7 : Nat)]
        · refine wpOp_val (w' := W1.alloc (.cells #[.string ⟨#[]⟩, .string ⟨#[]⟩, .int .u32 0, .int .u32 0, .int .u32 0] 120)) (v := .pointer (some ⟨W1.heap.size, 0, none⟩)) rfl rfl (by kernel_rfl) ?_
          simp only [Act.put, List.getElem_toArray, List.getElem_cons_zero, List.getElem_cons_succ, List.setIfInBounds_toArray, List.set_cons_zero, List.set_cons_succ]
          have HZ := hid (heap_alloc_new W1 (.cells #[.string ⟨#[]⟩, .string ⟨#[]⟩, .int .u32 0, .int .u32 0, .int .u32 0] 120))
          have HT := hid ((Below.heap_alloc W1 (.cells #[.string ⟨#[]⟩, .string ⟨#[]⟩, .int .u32 0, .int .u32 0, .int .u32 0] 120) _ (blk_lt' HT.out)).trans HT.out)
          have hzw : w.heap.size ≤ W1.heap.size := HB.out.size
          have HK := hid ((Below.heap_alloc W1 (.cells #[.string ⟨#[]⟩, .string ⟨#[]⟩, .int .u32 0, .int .u32 0, .int .u32 0] 120) _ (blk_lt' HK.out)).trans HK.out)
          have HB := hid (HB.out.alloc HB.out.size (.cells #[.string ⟨#[]⟩, .string ⟨#[]⟩, .int .u32 0, .int .u32 0, .int .u32 0] 120))
          obtain ⟨z, hz⟩ : ∃ z, W1.heap.size = z := ⟨_, rfl⟩
          obtain ⟨W14, hW⟩ : ∃ W, W1.alloc (.cells #[.string ⟨#[]⟩, .string ⟨#[]⟩, .int .u32 0, .int .u32 0, .int .u32 0] 120) = W := ⟨_, rfl⟩
          rw [hz] at HZ hzw ⊢
          rw [hW] at HZ HT HK HB ⊢
          clear hz hW
          refine any1 (i := 2) (by kernel_rfl) ?_
          have c0 := icell HT
          refine wpOp_val (w' := W14) (v := .int .i64 i) rfl rfl (by go_simp) ?_
          simp only [Act.put, List.getElem_toArray, List.getElem_cons_zero, List.getElem_cons_succ, List.setIfInBounds_toArray, List.set_cons_zero, List.set_cons_succ]
          clear c0
          refine any1 (i := 3) (by kernel_rfl) ?_
          refine wpOp_val (w' := W14) (v := .pointer (some ⟨g, i * 5, none⟩)) rfl rfl (by go_simp; intro hh; omega) ?_
          simp only [Act.put, List.getElem_toArray, List.getElem_cons_zero, List.getElem_cons_succ, List.setIfInBounds_toArray, List.set_cons_zero, List.set_cons_succ]
          refine any1 (i := 4) (by kernel_rfl) ?_
          obtain ⟨k0, k1, k2, k3, k4⟩ := kcells HK hi Hrow.out
          refine wpOp_val (w' := W14) (v := .agg #[.string ⟨nm.toArray⟩, .string ⟨#[letterB l]⟩, .int .u32 (o : Nat), .int .u32 (f3 : Nat), .int .u32 (f7 : Nat)]) rfl rfl (by go_simp) ?_
          simp only [Act.put, List.getElem_toArray, List.getElem_cons_zero, List.getElem_cons_succ, List.setIfInBounds_toArray, List.set_cons_zero, List.set_cons_succ]
          clear k0 k1 k2 k3 k4
          refine any1 (i := 6) (by kernel_rfl) ?_
          refine wpOp_store_row rfl rfl 120 (.tmp 5) (.tmp 20) rfl z #[.string ⟨nm.toArray⟩, .string ⟨#[letterB l]⟩, .int .u32 (o : Nat), .int .u32 (f3 : Nat), .int .u32 (f7 : Nat)] rfl rfl 120 _ HZ.out infoKind rfl (kind_one ..) ?_
          simp only [Act.put, List.getElem_toArray, List.getElem_cons_zero, List.getElem_cons_succ, List.setIfInBounds_toArray, List.set_cons_zero, List.set_cons_succ]
          refine ⟨by kernel_rfl, ?_⟩
          go_wp2_with fail
          go_meet
          case rel => exact tame_met HT HZ hzw HB #[.string ⟨nm.toArray⟩, .string ⟨#[letterB l]⟩, .int .u32 (o : Nat), .int .u32 (f3 : Nat), .int .u32 (f7 : Nat)]
      · have c0 := icell HT
        refine wpOp_val (w' := D) (v := .int .i64 i) rfl rfl (by go_simp) ?_
        simp only [Act.put, List.getElem_toArray, List.getElem_cons_zero, List.getElem_cons_succ, List.setIfInBounds_toArray, List.set_cons_zero, List.set_cons_succ]
        clear c0
        refine any2 (i := 0) (j := 5) (by kernel_rfl) ?_ ?_
        · refine wpOp_callE (fun v W' => ∃ g, v = .slice (some ⟨g, 0, none⟩) 64 64 ∧ W'.heap[g]? = some (.cells kindCells 120 (0, 0)) ∧ Below D.heap.size D W') rfl rfl (by kernel_rfl) (kinds_of _) ?_
          rintro v W20 ⟨g, rfl, hk, hbk⟩
          simp only [Act.put, List.getElem_toArray, List.getElem_cons_zero, List.getElem_cons_succ, List.setIfInBounds_toArray, List.set_cons_zero, List.set_cons_succ]
          have HT := hid ((hbk.block _ (blk_lt' HT.out)).trans HT.out)
          have HB := hid (HB.out.trans (hbk.mono HB.out.size))
          have HK := hid hk
          clear hk hbk
          refine any2 (i := 3) (j := 5) (by kernel_rfl) ?_ ?_
          · refine wpOp_val (w' := W20) (v := .pointer (some ⟨g, i * 5, none⟩)) rfl rfl (by go_simp; intro hh; omega) ?_
            simp only [Act.put, List.getElem_toArray, List.getElem_cons_zero, List.getElem_cons_succ, List.setIfInBounds_toArray, List.set_cons_zero, List.set_cons_succ]
            refine any2 (i := 4) (j := 5) (by kernel_rfl) ?_ ?_
            · obtain ⟨k0, k1, k2, k3, k4⟩ := kcells HK hi Hrow.out
              refine wpOp_val (w' := W20) (v := .agg #[.string ⟨nm.toArray⟩, .string ⟨#[letterB l]⟩, .int .u32 (o : Nat), .int .u32 (f3 : Nat), .int .u32 (f7 : Nat)]) rfl rfl (by go_simp) ?_
              simp only [Act.put, List.getElem_toArray, List.getElem_cons_zero, List.getElem_cons_succ, List.setIfInBounds_toArray, List.set_cons_zero, List.set_cons_succ]
              clear k0 k1 k2 k3 k4
              refine any1 (i := 5) (by kernel_rfl) ?_
              refine wpOp_val (w' := W20.alloc (.cells #[.string ⟨#[]⟩, .string ⟨#[]⟩, .int .u32 0, .int .u32 0, .int .u32 0] 120)) (v := .pointer (some ⟨W20.heap.size, 0, none⟩)) rfl rfl (by kernel_rfl) ?_
              simp only [Act.put, List.getElem_toArray, List.getElem_cons_zero, List.getElem_cons_succ, List.setIfInBounds_toArray, List.set_cons_zero, List.set_cons_succ]
              have HZ := hid (heap_alloc_new W20 (.cells #[.string ⟨#[]⟩, .string ⟨#[]⟩, .int .u32 0, .int .u32 0, .int .u32 0] 120))
              have HT := hid ((Below.heap_alloc W20 (.cells #[.string ⟨#[]⟩, .string ⟨#[]⟩, .int .u32 0, .int .u32 0, .int .u32 0] 120) _ (blk_lt' HT.out)).trans HT.out)
              have hzw : w.heap.size ≤ W20.heap.size := HB.out.size
              have HK := hid ((Below.heap_alloc W20 (.cells #[.string ⟨#[]⟩, .string ⟨#[]⟩, .int .u32 0, .int .u32 0, .int .u32 0] 120) _ (blk_lt' HK.out)).trans HK.out)
              have HB := hid (HB.out.alloc HB.out.size (.cells #[.string ⟨#[]⟩, .string ⟨#[]⟩, .int .u32 0, .int .u32 0, .int .u32 0] 120))
              obtain ⟨z, hz⟩ : ∃ z, W20.heap.size = z := ⟨_, rfl⟩
              obtain ⟨W23, hW⟩ : ∃ W, W20.alloc (.cells #[.string ⟨#[]⟩, .string ⟨#[]⟩, .int .u32 0, .int .u32 0, .int .u32 0] 120) = W := ⟨_, rfl⟩
              rw [hz] at HZ hzw ⊢
              rw [hW] at HZ HT HK HB ⊢
              clear hz hW
              refine any1 (i := 6) (by kernel_rfl) ?_
              refine wpOp_store_row rfl rfl 120 (.tmp 5) (.tmp 20) rfl z #[.string ⟨nm.toArray⟩, .string ⟨#[letterB l]⟩, .int .u32 (o : Nat), .int .u32 (f3 : Nat), .int .u32 (f7 : Nat)] rfl rfl 120 _ HZ.out infoKind rfl (kind_one ..) ?_
              simp only [Act.put, List.getElem_toArray, List.getElem_cons_zero, List.getElem_cons_succ, List.setIfInBounds_toArray, List.set_cons_zero, List.set_cons_succ]
              refine ⟨by kernel_rfl, ?_⟩
              go_wp2_with fail
              go_meet
              case rel => exact tame_met HT HZ hzw HB #[.string ⟨nm.toArray⟩, .string ⟨#[letterB l]⟩, .int .u32 (o : Nat), .int .u32 (f3 : Nat), .int .u32 (f7 : Nat)]
            · refine wpOp_val (w' := W20.alloc (.cells #[.string ⟨#[]⟩, .string ⟨#[]⟩, .int .u32 0, .int .u32 0, .int .u32 0] 120)) (v := .pointer (some ⟨W20.heap.size, 0, none⟩)) rfl rfl (by kernel_rfl) ?_
              simp only [Act.put, List.getElem_toArray, List.getElem_cons_zero, List.getElem_cons_succ, List.setIfInBounds_toArray, List.set_cons_zero, List.set_cons_succ]
              have HZ := hid (heap_alloc_new W20 (.cells #[.string ⟨#[]⟩, .string ⟨#[]⟩, .int .u32 0, .int .u32 0, .int .u32 0] 120))
              have HT := hid ((Below.heap_alloc W20 (.cells #[.string ⟨#[]⟩, .string ⟨#[]⟩, .int .u32 0, .int .u32 0, .int .u32 0] 120) _ (blk_lt' HT.out)).trans HT.out)
              have hzw : w.heap.size ≤ W20.heap.size := HB.out.size
              have HK := hid ((Below.heap_alloc W20 (.cells #[.string ⟨#[]⟩, .string ⟨#[]⟩, .int .u32 0, .int .u32 0, .int .u32 0] 120) _ (blk_lt' HK.out)).trans HK.out)
              have HB := hid (HB.out.alloc HB.out.size (.cells #[.string ⟨#[]⟩, .string ⟨#[]⟩, .int .u32 0, .int .u32 0, .int .u32 0] 120))
              obtain ⟨z, hz⟩ : ∃ z, W20.heap.size = z := ⟨_, rfl⟩
              obtain ⟨W25, hW⟩ : ∃ W, W20.alloc (.cells #[.string ⟨#[]⟩, .string ⟨#[]⟩, .int .u32 0, .int .u32 0, .int .u32 0] 120) = W := ⟨_, rfl⟩
              rw [hz] at HZ hzw ⊢
              rw [hW] at HZ HT HK HB ⊢
              clear hz hW
              refine any1 (i := 4) (by kernel_rfl) ?_
              obtain ⟨k0, k1, k2, k3, k4⟩ := kcells HK hi Hrow.out
              refine wpOp_val (w' := W25) (v := .agg #[.string ⟨nm.toArray⟩, .string ⟨#[letterB l]⟩, .int .u32 (o : Nat), .int .u32 (f3 : Nat), .int .u32 (f7 : Nat)]) rfl rfl (by go_simp) ?_
              simp only [Act.put, List.getElem_toArray, List.getElem_cons_zero, List.getElem_cons_succ, List.setIfInBounds_toArray, List.set_cons_zero, List.set_cons_succ]
              clear k0 k1 k2 k3 k4
              refine any1 (i := 6) (by kernel_rfl) ?_
              refine wpOp_store_row rfl rfl 120 (.tmp 5) (.tmp 20) rfl z #[.string ⟨nm.toArray⟩, .string ⟨#[letterB l]⟩, .int .u32 (o : Nat), .int .u32 (f3 : Nat), .int .u32 (f7 : Nat)] rfl rfl 120 _ HZ.out infoKind rfl (kind_one ..) ?_
              simp only [Act.put, List.getElem_toArray, List.getElem_cons_zero, List.getElem_cons_succ, List.setIfInBounds_toArray, List.set_cons_zero, List.set_cons_succ]
              refine ⟨by kernel_rfl, ?_⟩
              go_wp2_with fail
              go_meet
              case rel => exact tame_met HT HZ hzw HB #[.string ⟨nm.toArray⟩, .string ⟨#[letterB l]⟩, .int .u32 (o : Nat), .int .u32 (f3 : Nat), .int .u32 (f7 : Nat)]
          · refine wpOp_val (w' := W20.alloc (.cells #[.string ⟨#[]⟩, .string ⟨#[]⟩, .int .u32 0, .int .u32 0, .int .u32 0] 120)) (v := .pointer (some ⟨W20.heap.size, 0, none⟩)) rfl rfl (by kernel_rfl) ?_
            simp only [Act.put, List.getElem_toArray, List.getElem_cons_zero, List.getElem_cons_succ, List.setIfInBounds_toArray, List.set_cons_zero, List.set_cons_succ]
            have HZ := hid (heap_alloc_new W20 (.cells #[.string ⟨#[]⟩, .string ⟨#[]⟩, .int .u32 0, .int .u32 0, .int .u32 0] 120))
            have HT := hid ((Below.heap_alloc W20 (.cells #[.string ⟨#[]⟩, .string ⟨#[]⟩, .int .u32 0, .int .u32 0, .int .u32 0] 120) _ (blk_lt' HT.out)).trans HT.out)
            have hzw : w.heap.size ≤ W20.heap.size := HB.out.size
            have HK := hid ((Below.heap_alloc W20 (.cells #[.string ⟨#[]⟩, .string ⟨#[]⟩, .int .u32 0, .int .u32 0, .int .u32 0] 120) _ (blk_lt' HK.out)).trans HK.out)
            have HB := hid (HB.out.alloc HB.out.size (.cells #[.string ⟨#[]⟩, .string ⟨#[]⟩, .int .u32 0, .int .u32 0, .int .u32 0] 120))
            obtain ⟨z, hz⟩ : ∃ z, W20.heap.size = z := ⟨_, rfl⟩
            obtain ⟨W28, hW⟩ : ∃ W, W20.alloc (.cells #[.string ⟨#[]⟩, .string ⟨#[]⟩, .int .u32 0, .int .u32 0, .int .u32 0] 120) = W := ⟨_, rfl⟩
            rw [hz] at HZ hzw ⊢
            rw [hW] at HZ HT HK HB ⊢
            clear hz hW
            refine any1 (i := 3) (by kernel_rfl) ?_
            refine wpOp_val (w' := W28) (v := .pointer (some ⟨g, i * 5, none⟩)) rfl rfl (by go_simp; intro hh; omega) ?_
            simp only [Act.put, List.getElem_toArray, List.getElem_cons_zero, List.getElem_cons_succ, List.setIfInBounds_toArray, List.set_cons_zero, List.set_cons_succ]
            refine any1 (i := 4) (by kernel_rfl) ?_
            obtain ⟨k0, k1, k2, k3, k4⟩ := kcells HK hi Hrow.out
            refine wpOp_val (w' := W28) (v := .agg #[.string ⟨nm.toArray⟩, .string ⟨#[letterB l]⟩, .int .u32 (o : Nat), .int .u32 (f3 : Nat), .int .u32 (f7 : Nat)]) rfl rfl (by go_simp) ?_
            simp only [Act.put, List.getElem_toArray, List.getElem_cons_zero, List.getElem_cons_succ, List.setIfInBounds_toArray, List.set_cons_zero, List.set_cons_succ]
            clear k0 k1 k2 k3 k4
            refine any1 (i := 6) (by kernel_rfl) ?_
            refine wpOp_store_row rfl rfl 120 (.tmp 5) (.tmp 20) rfl z #[.string ⟨nm.toArray⟩, .string ⟨#[letterB l]⟩, .int .u32 (o : Nat), .int .u32 (f3 : Nat), .int .u32 (f7 : Nat)] rfl rfl 120 _ HZ.out infoKind rfl (kind_one ..) ?_
            simp only [Act.put, List.getElem_toArray, List.getElem_cons_zero, List.getElem_cons_succ, List.setIfInBounds_toArray, List.set_cons_zero, List.set_cons_succ]
            refine ⟨by kernel_rfl, ?_⟩
            go_wp2_with fail
            go_meet
            case rel => exact tame_met HT HZ hzw HB #[.string ⟨nm.toArray⟩, .string ⟨#[letterB l]⟩, .int .u32 (o : Nat), .int .u32 (f3 : Nat), .int .u32 (f7 : Nat)]
        · refine wpOp_val (w' := D.alloc (.cells #[.string ⟨#[]⟩, .string ⟨#[]⟩, .int .u32 0, .int .u32 0, .int .u32 0] 120)) (v := .pointer (some ⟨D.heap.size, 0, none⟩)) rfl rfl (by kernel_rfl) ?_
          simp only [Act.put, List.getElem_toArray, List.getElem_cons_zero, List.getElem_cons_succ, List.setIfInBounds_toArray, List.set_cons_zero, List.set_cons_succ]
          have HZ := hid (heap_alloc_new D (.cells #[.string ⟨#[]⟩, .string ⟨#[]⟩, .int .u32 0, .int .u32 0, .int .u32 0] 120))
          have HT := hid ((Below.heap_alloc D (.cells #[.string ⟨#[]⟩, .string ⟨#[]⟩, .int .u32 0, .int .u32 0, .int .u32 0] 120) _ (blk_lt' HT.out)).trans HT.out)
          have hzw : w.heap.size ≤ D.heap.size := HB.out.size
          have HB := hid (HB.out.alloc HB.out.size (.cells #[.string ⟨#[]⟩, .string ⟨#[]⟩, .int .u32 0, .int .u32 0, .int .u32 0] 120))
          obtain ⟨z, hz⟩ : ∃ z, D.heap.size = z := ⟨_, rfl⟩
          obtain ⟨W32, hW⟩ : ∃ W, D.alloc (.cells #[.string ⟨#[]⟩, .string ⟨#[]⟩, .int .u32 0, .int .u32 0, .int .u32 0] 120) = W := ⟨_, rfl⟩
          rw [hz] at HZ hzw ⊢
          rw [hW] at HZ HT HB ⊢
          clear hz hW
          refine any1 (i := 0) (by kernel_rfl) ?_
          refine wpOp_callE (fun v W' => ∃ g, v = .slice (some ⟨g, 0, none⟩) 64 64 ∧ W'.heap[g]? = some (.cells kindCells 120 (0, 0)) ∧ Below W32.heap.size W32 W') rfl rfl (by kernel_rfl) (kinds_of _) ?_
          rintro v W33 ⟨g, rfl, hk, hbk⟩
          simp only [Act.put, List.getElem_toArray, List.getElem_cons_zero, List.getElem_cons_succ, List.setIfInBounds_toArray, List.set_cons_zero, List.set_cons_succ]
          have HT := hid ((hbk.block _ (blk_lt' HT.out)).trans HT.out)
          have HB := hid (HB.out.trans (hbk.mono HB.out.size))
          have HZ := hid ((hbk.block _ (blk_lt' HZ.out)).trans HZ.out)
          have HK := hid hk
          clear hk hbk
          refine any1 (i := 3) (by kernel_rfl) ?_
          refine wpOp_val (w' := W33) (v := .pointer (some ⟨g, i * 5, none⟩)) rfl rfl (by go_simp; intro hh; omega) ?_
          simp only [Act.put, List.getElem_toArray, List.getElem_cons_zero, List.getElem_cons_succ, List.setIfInBounds_toArray, List.set_cons_zero, List.set_cons_succ]
          refine any1 (i := 4) (by kernel_rfl) ?_
          obtain ⟨k0, k1, k2, k3, k4⟩ := kcells HK hi Hrow.out
          refine wpOp_val (w' := W33) (v := .agg #[.string ⟨nm.toArray⟩, .string ⟨#[letterB l]⟩, .int .u32 (o : Nat), .int .u32 (f3 : Nat), .int .u32 (f7 : Nat)]) rfl rfl (by go_simp) ?_
          simp only [Act.put, List.getElem_toArray, List.getElem_cons_zero, List.getElem_cons_succ, List.setIfInBounds_toArray, List.set_cons_zero, List.set_cons_succ]
          clear k0 k1 k2 k3 k4
          refine any1 (i := 6) (by kernel_rfl) ?_
          refine wpOp_store_row rfl rfl 120 (.tmp 5) (.tmp 20) rfl z #[.string ⟨nm.toArray⟩, .string ⟨#[letterB l]⟩, .int .u32 (o : Nat), .int .u32 (f3 : Nat), .int .u32 (f7 : Nat)] rfl rfl 120 _ HZ.out infoKind rfl (kind_one ..) ?_
          simp only [Act.put, List.getElem_toArray, List.getElem_cons_zero, List.getElem_cons_succ, List.setIfInBounds_toArray, List.set_cons_zero, List.set_cons_succ]
          refine ⟨by kernel_rfl, ?_⟩
          go_wp2_with fail
          go_meet
          case rel => exact tame_met HT HZ hzw HB #[.string ⟨nm.toArray⟩, .string ⟨#[letterB l]⟩, .int .u32 (o : Nat), .int .u32 (f3 : Nat), .int .u32 (f7 : Nat)]
      · refine wpOp_val (w' := D.alloc (.cells #[.string ⟨#[]⟩, .string ⟨#[]⟩, .int .u32 0, .int .u32 0, .int .u32 0] 120)) (v := .pointer (some ⟨D.heap.size, 0, none⟩)) rfl rfl (by kernel_rfl) ?_
        simp only [Act.put, List.getElem_toArray, List.getElem_cons_zero, List.getElem_cons_succ, List.setIfInBounds_toArray, List.set_cons_zero, List.set_cons_succ]
        have HZ := hid (heap_alloc_new D (.cells #[.string ⟨#[]⟩, .string ⟨#[]⟩, .int .u32 0, .int .u32 0, .int .u32 0] 120))
        have HT := hid ((Below.heap_alloc D (.cells #[.string ⟨#[]⟩, .string ⟨#[]⟩, .int .u32 0, .int .u32 0, .int .u32 0] 120) _ (blk_lt' HT.out)).trans HT.out)
        have hzw : w.heap.size ≤ D.heap.size := HB.out.size
        have HB := hid (HB.out.alloc HB.out.size (.cells #[.string ⟨#[]⟩, .string ⟨#[]⟩, .int .u32 0, .int .u32 0, .int .u32 0] 120))
        obtain ⟨z, hz⟩ : ∃ z, D.heap.size = z := ⟨_, rfl⟩
        obtain ⟨W37, hW⟩ : ∃ W, D.alloc (.cells #[.string ⟨#[]⟩, .string ⟨#[]⟩, .int .u32 0, .int .u32 0, .int .u32 0] 120) = W := ⟨_, rfl⟩
        rw [hz] at HZ hzw ⊢
        rw [hW] at HZ HT HB ⊢
        clear hz hW
        refine any2 (i := 0) (j := 2) (by kernel_rfl) ?_ ?_
        · refine wpOp_callE (fun v W' => ∃ g, v = .slice (some ⟨g, 0, none⟩) 64 64 ∧ W'.heap[g]? = some (.cells kindCells 120 (0, 0)) ∧ Below W37.heap.size W37 W') rfl rfl (by kernel_rfl) (kinds_of _) ?_
          rintro v W38 ⟨g, rfl, hk, hbk⟩
          simp only [Act.put, List.getElem_toArray, List.getElem_cons_zero, List.getElem_cons_succ, List.setIfInBounds_toArray, List.set_cons_zero, List.set_cons_succ]
          have HT := hid ((hbk.block _ (blk_lt' HT.out)).trans HT.out)
          have HB := hid (HB.out.trans (hbk.mono HB.out.size))
          have HZ := hid ((hbk.block _ (blk_lt' HZ.out)).trans HZ.out)
          have HK := hid hk
          clear hk hbk
          refine any1 (i := 2) (by kernel_rfl) ?_
          have c0 := icell HT
          refine wpOp_val (w' := W38) (v := .int .i64 i) rfl rfl (by go_simp) ?_
          simp only [Act.put, List.getElem_toArray, List.getElem_cons_zero, List.getElem_cons_succ, List.setIfInBounds_toArray, List.set_cons_zero, List.set_cons_succ]
          clear c0
          refine any1 (i := 3) (by kernel_rfl) ?_
          refine wpOp_val (w' := W38) (v := .pointer (some ⟨g, i * 5, none⟩)) rfl rfl (by go_simp; intro hh; omega) ?_
          simp only [Act.put, List.getElem_toArray, List.getElem_cons_zero, List.getElem_cons_succ, List.setIfInBounds_toArray, List.set_cons_zero, List.set_cons_succ]
          refine any1 (i := 4) (by kernel_rfl) ?_
          obtain ⟨k0, k1, k2, k3, k4⟩ := kcells HK hi Hrow.out
          refine wpOp_val (w' := W38) (v := .agg #[.string ⟨nm.toArray⟩, .string ⟨#[letterB l]⟩, .int .u32 (o : Nat), .int .u32 (f3 : Nat), .int .u32 (f7 : Nat)]) rfl rfl (by go_simp) ?_
          simp only [Act.put, List.getElem_toArray, List.getElem_cons_zero, List.getElem_cons_succ, List.setIfInBounds_toArray, List.set_cons_zero, List.set_cons_succ]
          clear k0 k1 k2 k3 k4
          refine any1 (i := 6) (by kernel_rfl) ?_
          refine wpOp_store_row rfl rfl 120 (.tmp 5) (.tmp 20) rfl z #[.string ⟨nm.toArray⟩, .string ⟨#[letterB l]⟩, .int .u32 (o : Nat), .int .u32 (f3 : Nat), .int .u32 (f7 : Nat)] rfl rfl 120 _ HZ.out infoKind rfl (kind_one ..) ?_
          simp only [Act.put, List.getElem_toArray, List.getElem_cons_zero, List.getElem_cons_succ, List.setIfInBounds_toArray, List.set_cons_zero, List.set_cons_succ]
          refine ⟨by kernel_rfl, ?_⟩
          go_wp2_with fail
          go_meet
          case rel => exact tame_met HT HZ hzw HB #[.string ⟨nm.toArray⟩, .string ⟨#[letterB l]⟩, .int .u32 (o : Nat), .int .u32 (f3 : Nat), .int .u32 (f7 : Nat)]
        · have c0 := icell HT
          refine wpOp_val (w' := W37) (v := .int .i64 i) rfl rfl (by go_simp) ?_
          simp only [Act.put, List.getElem_toArray, List.getElem_cons_zero, List.getElem_cons_succ, List.setIfInBounds_toArray, List.set_cons_zero, List.set_cons_succ]
          clear c0
          refine any1 (i := 0) (by kernel_rfl) ?_
          refine wpOp_callE (fun v W' => ∃ g, v = .slice (some ⟨g, 0, none⟩) 64 64 ∧ W'.heap[g]? = some (.cells kindCells 120 (0, 0)) ∧ Below W37.heap.size W37 W') rfl rfl (by kernel_rfl) (kinds_of _) ?_
          rintro v W44 ⟨g, rfl, hk, hbk⟩
          simp only [Act.put, List.getElem_toArray, List.getElem_cons_zero, List.getElem_cons_succ, List.setIfInBounds_toArray, List.set_cons_zero, List.set_cons_succ]
          have HT := hid ((hbk.block _ (blk_lt' HT.out)).trans HT.out)
          have HB := hid (HB.out.trans (hbk.mono HB.out.size))
          have HZ := hid ((hbk.block _ (blk_lt' HZ.out)).trans HZ.out)
          have HK := hid hk
          clear hk hbk
          refine any1 (i := 3) (by kernel_rfl) ?_
          refine wpOp_val (w' := W44) (v := .pointer (some ⟨g, i * 5, none⟩)) rfl rfl (by go_simp; intro hh; omega) ?_
          simp only [Act.put, List.getElem_toArray, List.getElem_cons_zero, List.getElem_cons_succ, List.setIfInBounds_toArray, List.set_cons_zero, List.set_cons_succ]
          refine any1 (i := 4) (by kernel_rfl) ?_
          obtain ⟨k0, k1, k2, k3, k4⟩ := kcells HK hi Hrow.out
          refine wpOp_val (w' := W44) (v := .agg #[.string ⟨nm.toArray⟩, .string ⟨#[letterB l]⟩, .int .u32 (o : Nat), .int .u32 (f3 : Nat), .int .u32 (f7 : Nat)]) rfl rfl (by go_simp) ?_
          simp only [Act.put, List.getElem_toArray, List.getElem_cons_zero, List.getElem_cons_succ, List.setIfInBounds_toArray, List.set_cons_zero, List.set_cons_succ]
          clear k0 k1 k2 k3 k4
          refine any1 (i := 6) (by kernel_rfl) ?_
          refine wpOp_store_row rfl rfl 120 (.tmp 5) (.tmp 20) rfl z #[.string ⟨nm.toArray⟩, .string ⟨#[letterB l]⟩, .int .u32 (o : Nat), .int .u32 (f3 : Nat), .int .u32 (f7 : Nat)] rfl rfl 120 _ HZ.out infoKind rfl (kind_one ..) ?_
          simp only [Act.put, List.getElem_toArray, List.getElem_cons_zero, List.getElem_cons_succ, List.setIfInBounds_toArray, List.set_cons_zero, List.set_cons_succ]
          refine ⟨by kernel_rfl, ?_⟩
          go_wp2_with fail
          go_meet
          case rel => exact tame_met HT HZ hzw HB #[.string ⟨nm.toArray⟩, .string ⟨#[letterB l]⟩, .int .u32 (o : Nat), .int .u32 (f3 : Nat), .int .u32 (f7 : Nat)]
    case rest =>
      obtain ⟨z, rfl, HZ, HT, HB⟩ := hcut
      have k1 : wc.cell? ⟨z, 1, none⟩ = some (.string ⟨#[letterB l]⟩) := by rw [cell_of_row wc _ _ _ _ _ HZ.out]; rfl
      have k2 : wc.cell? ⟨z, 2, none⟩ = some (.int .u32 (o : Int)) := by rw [cell_of_row wc _ _ _ _ _ HZ.out]; rfl
      have a0 : wc.cell? ⟨G, 0, none⟩ = some (.int .i64 i) := by rw [cell_of_row wc _ _ _ _ _ HT.out]; rfl
      have a1 : wc.cell? ⟨G, 1, none⟩ = some (.int .i64 d) := by rw [cell_of_row wc _ _ _ _ _ HT.out]; rfl
      have a2 : wc.cell? ⟨G, 2, none⟩ = some (.int .i64 a) := by rw [cell_of_row wc _ _ _ _ _ HT.out]; rfl
      have a3 : wc.cell? ⟨G, 3, none⟩ = some (.int .i64 b) := by rw [cell_of_row wc _ _ _ _ _ HT.out]; rfl
      have a4 : wc.cell? ⟨G, 4, none⟩ = some (.int .i64 n) := by rw [cell_of_row wc _ _ _ _ _ HT.out]; rfl
      have f4 := frozen_of_row wc _ 4 _ _ HT.out
      have hGz : G ≠ z := fun e => by
        subst e
        have h1 := HT.out
        rw [HZ.out] at h1
        have := congrArg (fun o : Option Obj => match o with | some (.cells _ t _) => t | _ => 0) h1
        have h2 : (120 : Nat) = 116 := this
        exact absurd h2 (by decide)
      have hGw : w.heap.size ≤ G := hGw0
      have HL := hid hl
      clear hl HZ HT Hrow Hdec Hcase ho h3 h7
      have hcl : letterB l = 66 ∨ letterB l = 74 ∨ letterB l = 83 ∨ ((letterB l == 66) = false ∧ (letterB l == 74) = false ∧ (letterB l == 83) = false) := by
        rcases HL.out with rfl | rfl | rfl | rfl | rfl | rfl | rfl | rfl | rfl <;> decide
      generalize letterB l = cl at k1 hcl
      rcases hcl with rfl | rfl | rfl | ⟨hB, hJ, hS⟩
      · skip
        by_cases ho : o = 3
        · subst ho
          go_wp2_with fail
          refine (encode_some _ _ _ _ _ _).mono ?_
          rintro e w2 ⟨y, ok, hy, rfl, hb2⟩
          have hbw : Below w.heap.size w w2 := by first | exact HB.out.trans (hb2.mono HB.out.size) | exact (HB.out.setCell hGw _).trans (hb2.mono (HB.out.setCell hGw _).size) | exact ((HB.out.setCell hGw _).setCell hGw _).trans (hb2.mono ((HB.out.setCell hGw _).setCell hGw _).size)
          have HBw := hid hbw
          clear hb2 hbw k1 k2 a0 a1 a2 a3 a4 f4
          cases ok
          · go_wp2_with fail
            go_ret
            exact ⟨⟨x, hx, rfl⟩, HBw.out⟩
          · go_wp2_with fail
            go_ret
            exact ⟨⟨y, hy, rfl⟩, HBw.out⟩
        · have ho' : ((o : Int) == 3) = false := by rw [beq_eq_false_iff_ne]; omega
          go_wp2_with fail
          refine (encode_some _ _ _ _ _ _).mono ?_
          rintro e w2 ⟨y, ok, hy, rfl, hb2⟩
          have hbw : Below w.heap.size w w2 := by first | exact HB.out.trans (hb2.mono HB.out.size) | exact (HB.out.setCell hGw _).trans (hb2.mono (HB.out.setCell hGw _).size) | exact ((HB.out.setCell hGw _).setCell hGw _).trans (hb2.mono ((HB.out.setCell hGw _).setCell hGw _).size)
          have HBw := hid hbw
          clear hb2 hbw k1 k2 a0 a1 a2 a3 a4 f4
          cases ok
          · go_wp2_with fail
            go_ret
            exact ⟨⟨x, hx, rfl⟩, HBw.out⟩
          · go_wp2_with fail
            go_ret
            exact ⟨⟨y, hy, rfl⟩, HBw.out⟩
      · skip
        by_cases ho : o = 3
        · subst ho
          go_wp2_with fail
          refine (encode_some _ _ _ _ _ _).mono ?_
          rintro e w2 ⟨y, ok, hy, rfl, hb2⟩
          have hbw : Below w.heap.size w w2 := by first | exact HB.out.trans (hb2.mono HB.out.size) | exact (HB.out.setCell hGw _).trans (hb2.mono (HB.out.setCell hGw _).size) | exact ((HB.out.setCell hGw _).setCell hGw _).trans (hb2.mono ((HB.out.setCell hGw _).setCell hGw _).size)
          have HBw := hid hbw
          clear hb2 hbw k1 k2 a0 a1 a2 a3 a4 f4
          cases ok
          · go_wp2_with fail
            go_ret
            exact ⟨⟨x, hx, rfl⟩, HBw.out⟩
          · go_wp2_with fail
            go_ret
            exact ⟨⟨y, hy, rfl⟩, HBw.out⟩
        · have ho' : ((o : Int) == 3) = false := by rw [beq_eq_false_iff_ne]; omega
          go_wp2_with fail
          refine (encode_some _ _ _ _ _ _).mono ?_
          rintro e w2 ⟨y, ok, hy, rfl, hb2⟩
          have hbw : Below w.heap.size w w2 := by first | exact HB.out.trans (hb2.mono HB.out.size) | exact (HB.out.setCell hGw _).trans (hb2.mono (HB.out.setCell hGw _).size) | exact ((HB.out.setCell hGw _).setCell hGw _).trans (hb2.mono ((HB.out.setCell hGw _).setCell hGw _).size)
          have HBw := hid hbw
          clear hb2 hbw k1 k2 a0 a1 a2 a3 a4 f4
          cases ok
          · go_wp2_with fail
            go_ret
            exact ⟨⟨x, hx, rfl⟩, HBw.out⟩
          · go_wp2_with fail
            go_ret
            exact ⟨⟨y, hy, rfl⟩, HBw.out⟩
      · skip
        go_wp2_with fail
        refine (encode_some _ _ _ _ _ _).mono ?_
        rintro e w2 ⟨y, ok, hy, rfl, hb2⟩
        have hbw : Below w.heap.size w w2 := by first | exact HB.out.trans (hb2.mono HB.out.size) | exact (HB.out.setCell hGw _).trans (hb2.mono (HB.out.setCell hGw _).size) | exact ((HB.out.setCell hGw _).setCell hGw _).trans (hb2.mono ((HB.out.setCell hGw _).setCell hGw _).size)
        have HBw := hid hbw
        clear hb2 hbw k1 k2 a0 a1 a2 a3 a4 f4
        cases ok
        · go_wp2_with fail
          go_ret
          exact ⟨⟨x, hx, rfl⟩, HBw.out⟩
        · go_wp2_with fail
          go_ret
          exact ⟨⟨y, hy, rfl⟩, HBw.out⟩
      · skip
        by_cases ho : o = 3
        · subst ho
          go_wp2_with fail
          refine (encode_some _ _ _ _ _ _).mono ?_
          rintro e w2 ⟨y, ok, hy, rfl, hb2⟩
          have hbw : Below w.heap.size w w2 := by first | exact HB.out.trans (hb2.mono HB.out.size) | exact (HB.out.setCell hGw _).trans (hb2.mono (HB.out.setCell hGw _).size) | exact ((HB.out.setCell hGw _).setCell hGw _).trans (hb2.mono ((HB.out.setCell hGw _).setCell hGw _).size)
          have HBw := hid hbw
          clear hb2 hbw k1 k2 a0 a1 a2 a3 a4 f4
          cases ok
          · go_wp2_with fail
            go_ret
            exact ⟨⟨x, hx, rfl⟩, HBw.out⟩
          · go_wp2_with fail
            go_ret
            exact ⟨⟨y, hy, rfl⟩, HBw.out⟩
        · have ho' : ((o : Int) == 3) = false := by rw [beq_eq_false_iff_ne]; omega
          go_wp2_with fail
          refine (encode_some _ _ _ _ _ _).mono ?_
          rintro e w2 ⟨y, ok, hy, rfl, hb2⟩
          have hbw : Below w.heap.size w w2 := by first | exact HB.out.trans (hb2.mono HB.out.size) | exact (HB.out.setCell hGw _).trans (hb2.mono (HB.out.setCell hGw _).size) | exact ((HB.out.setCell hGw _).setCell hGw _).trans (hb2.mono ((HB.out.setCell hGw _).setCell hGw _).size)
          have HBw := hid hbw
          clear hb2 hbw k1 k2 a0 a1 a2 a3 a4 f4
          cases ok
          · go_wp2_with fail
            go_ret
            exact ⟨⟨x, hx, rfl⟩, HBw.out⟩
          · go_wp2_with fail
            go_ret
            exact ⟨⟨y, hy, rfl⟩, HBw.out⟩
end
end Go.Proofs.YtiemingpbommeaaGreatDoor
