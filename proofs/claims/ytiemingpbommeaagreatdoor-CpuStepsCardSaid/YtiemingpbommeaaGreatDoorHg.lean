/- The document's spaces: bytes are laid. -/
import Derived.Test.YtiemingpbommeaaGreatDoorHf
namespace Go.Proofs.YtiemingpbommeaaGreatDoor
open Go Go.RowKit
noncomputable section
set_option linter.unusedVariables false
set_option linter.unusedSimpArgs false
theorem own_empty (w : World) (B : Nat) (hB : B ≤ w.heap.size) : (w.alloc (.cells #[] 135)).ownsRow B 135 3 (.slice (some ⟨w.heap.size, 0, none⟩) 0 0) 0 [] :=
  ⟨rfl, .inr ⟨w.heap.size, 0, #[], rfl, hB, heap_alloc_new _ _, Nat.le_refl _, by decide, rfl, rfl⟩⟩
theorem own_empty_d (w : World) (B : Nat) (hB : B ≤ w.heap.size) : (w.alloc (.cells #[] 135)).drew.ownsRow B 135 3 (.slice (some ⟨w.heap.size, 0, none⟩) 0 0) 0 [] :=
  ⟨rfl, .inr ⟨w.heap.size, 0, #[], rfl, hB, heap_alloc_new _ _, Nat.le_refl _, by decide, rfl, rfl⟩⟩
theorem own_empty2 (w : World) (B : Nat) (o : Obj) (hB : B ≤ w.heap.size) : ((w.alloc (.cells #[] 135)).alloc o).drew.ownsRow B 135 3 (.slice (some ⟨w.heap.size, 0, none⟩) 0 0) 0 [] :=
  own_below (own_empty w B hB) ((Below.refl _ _).alloc (Nat.le_refl _) _).drew
theorem own_empty3 (w : World) (B : Nat) (o : Obj) (hB : B ≤ w.heap.size) : ((w.alloc o).alloc (.cells #[] 135)).drew.ownsRow B 135 3 (.slice (some ⟨w.heap.size + 1, 0, none⟩) 0 0) 0 [] := by
  have := own_empty_d (w.alloc o) B (by simp; omega)
  rwa [World.size_alloc] at this
theorem far_a {a b : Nat} (h : a < b) : some a ≠ some b := by intro e; cases e; omega
theorem far_b {a b : Nat} (h : a < b) : some a ≠ some (b + 1) := by intro e; cases e; omega
theorem later1 (w : World) (o : Obj) : Below w.heap.size w (w.alloc o).drew := ((Below.refl _ _).alloc (Nat.le_refl _) _).drew
theorem later2 (w : World) (o o' : Obj) : Below w.heap.size w ((w.alloc o).alloc o').drew := (((Below.refl _ _).alloc (Nat.le_refl _) _).alloc (by simp) _).drew
theorem grow_cell {w W0 w6 : World} {row : Option Nat} {X i : Nat} {v : Value} (hb : Below w.heap.size w W0) (hg : W0.grownBy w6 row) (hf : some X ≠ row) (hX : X < w.heap.size) (x0 : w.cell? ⟨X, i, none⟩ = some v) : w6.cell? ⟨X, i, none⟩ = some v :=
  (hg.cell_far ⟨X, i, none⟩ (Nat.lt_of_lt_of_le hX hb.size) hf).trans ((hb.cell (p := ⟨X, i, none⟩) hX).trans x0)
theorem findI_is {M : List Pg} {y : Nat} (h : (pgOf M y).isSome = true) : ∃ j, j < M.length ∧ (M.getD j ⟨0, 0, []⟩).a = y - y % 256 ∧ findI M y = j := by
  obtain ⟨g, hg⟩ := Option.isSome_iff_exists.1 h
  unfold pgOf at hg
  unfold findI
  cases hf : M.findIdx? (fun g => g.a == y - y % 256) with
  | none =>
    rw [List.findIdx?_eq_none_iff] at hf
    have h1 := List.find?_some hg
    have h2 := hf g (List.mem_of_find?_eq_some hg)
    simp_all
  | some j =>
    rw [List.findIdx?_eq_some_iff_getElem] at hf
    obtain ⟨hj, hp, _⟩ := hf
    exact ⟨j, hj, by rw [List.getD_eq_getElem?_getD, List.getElem?_eq_getElem hj, Option.getD_some]; simpa using hp, rfl⟩
theorem RL.frozen {B g n c i : Nat} {w : World} {M : List Pg} (h : RL B w (.slice (some ⟨g, 0, none⟩) n c) M) : w.frozen? ⟨g, i, none⟩ = false := by
  rcases h.2 with ⟨e, _⟩ | ⟨g', cap, cur, e, hB, hg, _⟩
  · cases e
  · cases e; exact frozen_of_row w g i _ _ hg
def zsp : Obj := .cells #[.slice none 0 0, .int .i64 0] 54
theorem grow_zero {W0 w6 : World} {row : Option Nat} {X : Nat} (hg : W0.grownBy w6 row) (hf : some X ≠ row) (hX : W0.heap[X]? = some zsp) :
    w6.cell? ⟨X, 0, none⟩ = some (.slice none 0 0) ∧ w6.cell? ⟨X, 1, none⟩ = some (.int .i64 0) ∧ w6.frozen? ⟨X, 0, none⟩ = false ∧ w6.frozen? ⟨X, 1, none⟩ = false ∧ X < w6.heap.size := by
  have h6 : w6.heap[X]? = some zsp := (hg.block X (Array.getElem?_eq_some_iff.1 hX).1 hf).trans hX
  exact ⟨by rw [cell_of_row w6 _ _ _ _ _ h6]; rfl, by rw [cell_of_row w6 _ _ _ _ _ h6]; rfl, frozen_of_row w6 X 0 _ _ h6, frozen_of_row w6 X 1 _ _ h6, blk_lt' h6⟩
theorem grow_zero2 {w w6 : World} {o : Obj} (hg : ((w.alloc o).alloc zsp).drew.grownBy w6 (some w.heap.size)) :
    w6.cell? ⟨w.heap.size + 1, 0, none⟩ = some (.slice none 0 0) ∧ w6.cell? ⟨w.heap.size + 1, 1, none⟩ = some (.int .i64 0) ∧ w6.frozen? ⟨w.heap.size + 1, 0, none⟩ = false ∧ w6.frozen? ⟨w.heap.size + 1, 1, none⟩ = false ∧ w.heap.size + 1 < w6.heap.size :=
  grow_zero hg (by simp) (by have := heap_alloc_new (w.alloc o) zsp; rw [World.size_alloc] at this; exact this)
theorem grow_zero3 {w w6 : World} {o : Obj} (hg : ((w.alloc zsp).alloc o).drew.grownBy w6 (some (w.heap.size + 1))) :
    w6.cell? ⟨w.heap.size, 0, none⟩ = some (.slice none 0 0) ∧ w6.cell? ⟨w.heap.size, 1, none⟩ = some (.int .i64 0) ∧ w6.frozen? ⟨w.heap.size, 0, none⟩ = false ∧ w6.frozen? ⟨w.heap.size, 1, none⟩ = false ∧ w.heap.size < w6.heap.size :=
  grow_zero hg (by simp) ((Below.heap_alloc _ _ _ (by simp)).trans (heap_alloc_new w zsp))
theorem RL.news {B : Nat} {w : World} {g n c : Nat} {M : List Pg} (h : RL B w (.slice (some ⟨g, 0, none⟩) n c) M) : ∀ j u, (rcells M)[j]? = some u → w.cell? ((⟨g, 0, none⟩ : Addr).add j) = some u := by
  intro j u hu
  have hadd : (⟨g, 0, none⟩ : Addr).add j = ⟨g, j, none⟩ := by unfold Addr.add; split <;> simp_all
  obtain ⟨h1, h2⟩ := h
  rcases h2 with ⟨e, _⟩ | ⟨g', cap, cur, e, hB, hg, hn, hc, hs, ht⟩
  · cases e
  · cases e
    rw [hadd, cell_of_row w g j cur _ _ hg]
    have hj : j < (rcells M).length := (List.getElem?_eq_some_iff.1 hu).1
    rw [← ht, List.getElem?_take_of_lt (by rw [h1] at hj; exact hj), Array.getElem?_toList] at hu
    exact hu
theorem rcells_one (M : List Pg) : ∀ u ∈ rcells M, u.oneCell' = true := by
  intro u hu
  unfold rcells at hu
  obtain ⟨g, _, hg⟩ := List.mem_flatMap.1 hu
  simp only [pcells, List.mem_cons, List.mem_nil_iff, or_false] at hg
  rcases hg with rfl | rfl | rfl <;> rfl
/-- what holds between two rounds while bytes are laid -/
structure LaySt (w : World) (X : Nat) (sl : Value) (q : Int) (M' : List Pg) (v : Value) (wr : World) : Prop where
  out : wr.heap[X]? = some (.cells #[v, .int .i64 q] 54 (0, 0))
  row : RL (w.heap.size + 2) wr v M'
  box : wr.heap[w.heap.size]? = some (.cells #[sl, .int .i64 q] 54 (0, 0))
  res : wr.heap[w.heap.size + 1]? = some (.cells #[.slice none 0 0, .int .i64 0] 54 (0, 0))
  b : Below w.heap.size w wr
  x : w.heap.size + 1 < X
theorem LaySt.below {w : World} {X : Nat} {sl : Value} {q : Int} {M' : List Pg} {v : Value} {wr w1 : World} (h : LaySt w X sl q M' v wr) (hb : Below wr.heap.size wr w1) : LaySt w X sl q M' v w1 :=
  ⟨(hb.block _ (blk_lt' h.out)).trans h.out, own_below h.row hb, (hb.block _ (blk_lt' h.box)).trans h.box, (hb.block _ (blk_lt' h.res)).trans h.res, h.b.trans (hb.mono h.b.size), h.x⟩
theorem lay_base {w W1 W0 w6 : World} {h : Nat} {sl : Value} {q : Int} (hb1 : Below w.heap.size w W1) (N4 : W1.heap[w.heap.size]? = some (.cells #[sl, .int .i64 q] 54 (0, 0))) (N8 : W1.heap[w.heap.size + 1]? = some (.cells #[.slice none 0 0, .int .i64 0] 54 (0, 0)))
    (hb : Below W1.heap.size W1 W0) (hg : W0.grownBy w6 (some h)) (hh : W1.heap.size ≤ h) :
    w6.heap[w.heap.size]? = some (.cells #[sl, .int .i64 q] 54 (0, 0)) ∧ w6.heap[w.heap.size + 1]? = some (.cells #[.slice none 0 0, .int .i64 0] 54 (0, 0)) ∧ Below w.heap.size w w6 ∧ W1.heap.size ≤ w6.heap.size := by
  have h1 := blk_lt' N4
  have h2 := blk_lt' N8
  have hs := hb.size
  have hk : ∀ k o, k < W1.heap.size → W1.heap[k]? = some o → w6.heap[k]? = some o := fun k o hk ho => by
    rw [hg.block k (by omega) (by intro e; simp at e; omega), hb.block k hk, ho]
  exact ⟨hk _ _ h1 N4, hk _ _ h2 N8, (hb1.trans (hb.mono hb1.size)).grown hg (by have := hb1.size; omega) (fun k e => by cases e; have := hb1.size; omega), Nat.le_trans hs hg.size⟩
theorem lay_new {w W1 W0 w6 : World} {h g' cap' : Nat} {sl : Value} {q : Int} {M : List Pg} (hb1 : Below w.heap.size w W1) (N4 : W1.heap[w.heap.size]? = some (.cells #[sl, .int .i64 q] 54 (0, 0))) (N8 : W1.heap[w.heap.size + 1]? = some (.cells #[.slice none 0 0, .int .i64 0] 54 (0, 0)))
    (hb : Below W1.heap.size W1 W0) (hg : W0.grownBy w6 (some h)) (hh : W1.heap.size ≤ h) (hown : w6.ownsRow (w.heap.size + 2) 135 3 (.slice (some ⟨g', 0, none⟩) (0 + M.length) cap') (0 + M.length) ([] ++ rcells M)) :
    LaySt w w6.heap.size sl q M (.slice (some ⟨g', 0, none⟩) M.length cap') (w6.alloc (.cells #[.slice (some ⟨g', 0, none⟩) M.length cap', .int .i64 q] 54)) := by
  obtain ⟨h1, h2, h3, h4⟩ := lay_base hb1 N4 N8 hb hg hh
  rw [Nat.zero_add, List.nil_append] at hown
  have hl := blk_lt' N8
  exact ⟨heap_alloc_new _ _, own_below hown ((Below.refl _ _).alloc (Nat.le_refl _) _), (Below.heap_alloc _ _ _ (blk_lt' h1)).trans h1, (Below.heap_alloc _ _ _ (blk_lt' h2)).trans h2, h3.alloc h3.size _, by omega⟩
theorem lay_set {w W1 W0 w6 : World} {h g' cap' X : Nat} {sl : Value} {q : Int} {M : List Pg} (hb1 : Below w.heap.size w W1) (N4 : W1.heap[w.heap.size]? = some (.cells #[sl, .int .i64 q] 54 (0, 0))) (N8 : W1.heap[w.heap.size + 1]? = some (.cells #[.slice none 0 0, .int .i64 0] 54 (0, 0)))
    (hb : Below W1.heap.size W1 W0) (hg : W0.grownBy w6 (some h)) (hh : W1.heap.size ≤ h) (hown : w6.ownsRow (w.heap.size + 2) 135 3 (.slice (some ⟨g', 0, none⟩) (0 + M.length) cap') (0 + M.length) ([] ++ rcells M))
    (hX : W1.heap.size ≤ X) (hz : w6.heap[X]? = some zsp) :
    LaySt w X sl q M (.slice (some ⟨g', 0, none⟩) M.length cap') ((w6.setCell ⟨X, 0, none⟩ (.slice (some ⟨g', 0, none⟩) M.length cap')).setCell ⟨X, 1, none⟩ (.int .i64 q)) := by
  obtain ⟨h1, h2, h3, h4⟩ := lay_base hb1 N4 N8 hb hg hh
  rw [Nat.zero_add, List.nil_append] at hown
  have hl := blk_lt' N8
  have hgX : g' ≠ X := fun e => by
    subst e
    rcases hown.2 with ⟨e, _⟩ | ⟨g, cap, cur, e, _, hgr, _⟩
    · cases e
    · cases e
      rw [hz] at hgr
      have := congrArg (fun o : Option Obj => match o with | some (.cells _ t _) => t | _ => 0) hgr
      have h2 : (54 : Nat) = 135 := this
      exact absurd h2 (by decide)
  have s1 := heap_setCell_same w6 X 0 _ _ (.slice (some ⟨g', 0, none⟩) M.length cap') hz
  have s2 := heap_setCell_same _ X 1 _ _ (.int .i64 q) s1
  refine ⟨s2, ?_, ?_, ?_, ?_, by omega⟩
  · have k1 := World.ownsRow.kept (row := some X) hown (World.grownBy_setCell w6 ⟨X, 0, none⟩ (.slice (some ⟨g', 0, none⟩) M.length cap')) (.inr (by simp only [Value.ownBlock, ne_eq, Option.some.injEq]; omega))
    exact World.ownsRow.kept (row := some X) k1 (World.grownBy_setCell _ ⟨X, 1, none⟩ (.int .i64 q)) (.inr (by simp only [Value.ownBlock, ne_eq, Option.some.injEq]; omega))
  · exact (heap_setCell_other _ _ _ _ (by simp only; omega)).trans ((heap_setCell_other _ _ _ _ (by simp only; omega)).trans h1)
  · exact (heap_setCell_other _ _ _ _ (by simp only; omega)).trans ((heap_setCell_other _ _ _ _ (by simp only; omega)).trans h2)
  · exact (h3.setCell (by simp only; omega) _).setCell (by simp only; omega) _
theorem rcells_set (M : List Pg) (j : Nat) (P : Pg) (hj : j < M.length) (ha : P.a = (M.getD j ⟨0, 0, []⟩).a) (hp : P.p = (M.getD j ⟨0, 0, []⟩).p) : rcells (M.set j P) = (rcells M).set (j * 3 + 2) (.string ⟨P.b.toArray⟩) := by
  induction M generalizing j with
  | nil => simp at hj
  | cons g M ih =>
    cases j with
    | zero =>
      simp only [List.getD_cons_zero] at ha hp
      simp [rcells, pcells, ha, hp]
    | succ j =>
      simp only [List.getD_cons_succ] at ha hp
      have h := ih j (by simpa using hj) ha hp
      unfold rcells at h ⊢
      rw [List.set_cons_succ, List.flatMap_cons, List.flatMap_cons, h, List.set_append_right _ _ (by simp [pcells]; omega)]
      simp only [pcells, List.length_cons, List.length_nil]
      rw [show (j + 1) * 3 + 2 - (0 + 1 + 1 + 1) = j * 3 + 2 by omega]
theorem layK_a (M : List Pg) (x : Nat) (bs : List UInt8) (k j : Nat) : ((layK M x bs k).getD j ⟨0, 0, []⟩).a = (M.getD j ⟨0, 0, []⟩).a := by
  have h : (layK M x bs k).map (fun g => (g.a, g.p)) = M.map fun g => (g.a, g.p) := by
    induction k with
    | zero => rfl
    | succ k ih => rw [layK_succ, setN_map, ih]
  have h2 := congrArg (fun l => l.getD j (0, 0)) h
  simp only [List.getD_eq_getElem?_getD, List.getElem?_map] at h2 ⊢
  cases h3 : (layK M x bs k)[j]? <;> cases h4 : M[j]? <;> simp_all
theorem setN_set {M : List Pg} (hG : Good M) {y j : Nat} (c : UInt8) (hj : j < M.length) (ha : (M.getD j ⟨0, 0, []⟩).a = y - y % 256) :
    setN M y c = M.set j { M.getD j ⟨0, 0, []⟩ with b := (M.getD j ⟨0, 0, []⟩).b.set (y % 256) c } := by
  have hgj : M.getD j ⟨0, 0, []⟩ = M[j] := by rw [List.getD_eq_getElem?_getD, List.getElem?_eq_getElem hj, Option.getD_some]
  rw [hgj] at ha ⊢
  apply List.ext_getElem
  · simp [setN]
  · intro i h1 h2
    have hi : i < M.length := by simpa [setN] using h1
    simp only [setN, List.getElem_map, List.getElem_set]
    by_cases e : j = i
    · subst e
      rw [if_pos rfl, if_pos (by simpa using ha)]
    · rw [if_neg e, if_neg]
      intro hb
      have hne := List.pairwise_iff_getElem.1 hG.nd
      have hb' : M[i].a = y - y % 256 := by simpa using hb
      rcases Nat.lt_or_ge i j with h | h
      · exact hne i j hi hj h (hb'.trans ha.symm)
      · exact hne j i hj hi (by omega) (ha.trans hb'.symm)
theorem spliced (b bs : List UInt8) (z k : Nat) (hb : b.length = 256) (hz : z ≤ 255) (hk : k < bs.length) :
    (⟨b.toArray⟩ : ByteArray).extract 0 z ++ (⟨bs.toArray⟩ : ByteArray).extract k (k + 1) ++ (⟨b.toArray⟩ : ByteArray).extract (z + 1) 256 = ⟨(b.set z (bs.getD k 0)).toArray⟩ := by
  have h1 : b.set z (bs.getD k 0) = b.take z ++ [bs.getD k 0] ++ b.drop (z + 1) := by
    rw [List.set_eq_take_append_cons_drop, if_pos (by omega)]
    simp
  have h2 : (bs.drop k).take 1 = [bs.getD k 0] := by
    rw [List.drop_eq_getElem_cons hk, List.getD_eq_getElem?_getD, List.getElem?_eq_getElem hk]
    rfl
  have h3 : (b.drop (z + 1)).take (256 - (z + 1)) = b.drop (z + 1) := List.take_of_length_le (by simp; omega)
  rw [h1, ← h2]
  apply ByteArray.ext
  apply Array.ext'
  simp only [ByteArray.data_append, ByteArray.data_extract, Array.toList_append, Array.toList_extract, List.extract_eq_take_drop, Nat.sub_zero, List.drop_zero, h3, Nat.add_sub_cancel_left, List.append_assoc]
theorem lay_put {w : World} {X : Nat} {sl : Value} {q : Int} {gv n cv j k z y x : Nat} {bs : List UInt8} {s : ByteArray} {W2 : World} {M : List Pg} (h : LaySt w X sl q (layK M x bs k) (.slice (some ⟨gv, 0, none⟩) n cv) W2) (hG : Good (layK M x bs k)) (hj : j < (layK M x bs k).length)
    (ha : ((layK M x bs k).getD j ⟨0, 0, []⟩).a = y - y % 256) (hs : (⟨((layK M x bs k).getD j ⟨0, 0, []⟩).b.toArray⟩ : ByteArray) = s) (hz : y % 256 = z) (hk : k < bs.length) (hy : y = adr x k) :
    LaySt w X sl q (layK M x bs (k + 1)) (.slice (some ⟨gv, 0, none⟩) n cv) (W2.setCell ⟨gv, j * 3 + 2, none⟩ (.string (s.extract 0 z ++ (⟨bs.toArray⟩ : ByteArray).extract k (k + 1) ++ s.extract (z + 1) 256))) := by
  have hmem : (layK M x bs k).getD j ⟨0, 0, []⟩ ∈ layK M x bs k := by rw [List.getD_eq_getElem?_getD, List.getElem?_eq_getElem hj, Option.getD_some]; exact List.getElem_mem _
  have hlen := hG.len _ hmem
  rw [layK_succ, ← hy, setN_set hG _ hj ha, ← hs, spliced _ _ _ _ hlen (by omega) hk, hz]
  generalize layK M x bs k = L at *
  have hrow := h.row
  obtain ⟨h1, h2⟩ := h.row
  rcases h2 with ⟨e, _⟩ | ⟨g', cap, cur, e, hB, hg, hn, hc, hsz, ht⟩
  · cases e
  cases e
  have hx := h.x
  have hgX : gv ≠ X := fun e => by
    subst e
    rw [h.out] at hg
    have := congrArg (fun o : Option Obj => match o with | some (.cells _ t _) => t | _ => 0) hg
    have h2 : (54 : Nat) = 135 := this
    exact absurd h2 (by decide)
  refine ⟨(heap_setCell_other _ _ _ _ (by simp only; omega)).trans h.out, ?_, (heap_setCell_other _ _ _ _ (by simp only; omega)).trans h.box, (heap_setCell_other _ _ _ _ (by simp only; omega)).trans h.res, h.b.setCell (by simp only; omega) _, hx⟩
  unfold RL
  rw [List.length_set]
  refine ⟨by rw [rcells_length, List.length_set], .inr ⟨gv, cv, _, rfl, hB, heap_setCell_same W2 gv (j * 3 + 2) cur _ _ hg, hn, hc, by simpa using hsz, ?_⟩⟩
  refine Eq.trans ?_ (rcells_set L j { L.getD j ⟨0, 0, []⟩ with b := (L.getD j ⟨0, 0, []⟩).b.set z (bs.getD k 0) } hj rfl rfl).symm
  rw [Array.toList_setIfInBounds, List.take_set, ht]
theorem LaySt.done {w : World} {X : Nat} {sl : Value} {q : Int} {M' : List Pg} {v : Value} {wr : World} {cs : Array Value} (h : LaySt w X sl q M' v wr) :
    ∃ sl', Ending.returned (.agg #[v, .int .i64 q]) = .returned (.agg #[sl', .int .i64 q]) ∧ RL w.heap.size (wr.setRow (w.heap.size + 1) cs) sl' M' ∧ Below w.heap.size w (wr.setRow (w.heap.size + 1) cs) := by
  have hx := h.x
  refine ⟨v, rfl, ?_, below_setRow h.b (by omega) _⟩
  have hr : RL (w.heap.size + 2) (wr.setRow (w.heap.size + 1) cs) v M' := by
    obtain ⟨h1, h2⟩ := h.row
    refine ⟨h1, ?_⟩
    rcases h2 with h2 | ⟨g, cap, cur, e, hB, hg, r⟩
    · exact .inl h2
    · exact .inr ⟨g, cap, cur, e, hB, (setRow_other _ _ _ _ (by omega)).trans hg, r⟩
  exact hr.base (by omega)
theorem zero2 {w w6 : World} {o : Obj} (hg : ((w.alloc o).alloc zsp).drew.grownBy w6 (some w.heap.size)) : w6.heap[w.heap.size + 1]? = some zsp :=
  (hg.block (w.heap.size + 1) (by simp [World.drew]) (by simp)).trans (by have := heap_alloc_new (w.alloc o) zsp; rw [World.size_alloc] at this; exact this)
theorem zero3 {w w6 : World} {o : Obj} (hg : ((w.alloc zsp).alloc o).drew.grownBy w6 (some (w.heap.size + 1))) : w6.heap[w.heap.size]? = some zsp :=
  (hg.block w.heap.size (by simp [World.drew]; omega) (by simp)).trans ((Below.heap_alloc _ _ _ (by simp)).trans (heap_alloc_new w zsp))
set_option maxHeartbeats 4000000 in
set_option maxRecDepth 100000 in
theorem refLay_any (B : Nat) (sl : Value) (M : List Pg) (q : Int) (x : Nat) (bs : List UInt8) (w : World) (hR : RL B w sl M) (hG : Good M) (hM : 0 < M.length) (hM2 : M.length ≤ 4096) (hx : x < 18446744073709551616) (hbl : bs.length ≤ 65536)
    (hon : ∀ i, i < bs.length → (pgOf M (adr x i)).isSome = true) :
    Calls Tryz.prog 44 #[.agg #[sl, .int .i64 q], .int .u64 x, .string ⟨bs.toArray⟩] w fun e w' => ∃ sl', e = .returned (.agg #[sl', .int .i64 q]) ∧ RL w.heap.size w' sl' (layN M x bs) ∧ Below w.heap.size w w' := by
  obtain ⟨sp, sc, rfl, _, hcs⟩ := hR.parts
  obtain ⟨g, rfl, hgl, _, _⟩ := hcs hM
  have HR := hid hR
  have HG := hid hG
  have Hon := hid hon
  clear hR hG hon hcs
  go_enter Tryz.func44, Tryz.ntmps44
  go_upto_region 1 with (fail)
  obtain ⟨W1, hW1⟩ : ∃ W1, (w.alloc (.cells #[.slice (some ⟨g, 0, none⟩) M.length sc, .int .i64 q] 54)).alloc (.cells #[.slice none 0 0, .int .i64 0] 54) = W1 := ⟨_, rfl⟩
  have N4 : Hid (W1.heap[w.heap.size]? = some (.cells #[.slice (some ⟨g, 0, none⟩) M.length sc, .int .i64 q] 54 (0, 0))) := hid (by rw [← hW1]; exact heap_alloc2_old _ _ _)
  have N8 : Hid (W1.heap[w.heap.size + 1]? = some (.cells #[.slice none 0 0, .int .i64 0] 54 (0, 0))) := hid (by rw [← hW1]; exact heap_alloc2_new _ _ _)
  have HB1 : Hid (Below w.heap.size w W1) := hid (by rw [← hW1]; exact ((Below.refl _ _).alloc (Nat.le_refl _) _).alloc (by simp) _)
  rw [hW1]
  clear hW1
  have b0 : W1.cell? ⟨w.heap.size, 0, none⟩ = some (.slice (some ⟨g, 0, none⟩) M.length sc) := by rw [cell_of_row _ _ _ _ _ _ N4.out]; rfl
  have b1 : W1.cell? ⟨w.heap.size, 1, none⟩ = some (.int .i64 q) := by rw [cell_of_row _ _ _ _ _ _ N4.out]; rfl
  have hwl : w.heap.size + 1 < W1.heap.size := blk_lt' N8.out
  have hwl0 : w.heap.size < W1.heap.size := by omega
  have Hrow := hid (HR.out.below HB1.out)
  obtain ⟨i0, hi, hz0, hz1, hz2⟩ := info_parts infoPage
  have Hi := hid hi
  have Hz0 := hid hz0
  have Hz1 := hid hz1
  have Hz2 := hid hz2
  clear hi hz0 hz1 hz2
  go_cut [7] (fun v7 wc => ∃ X v, v7 = .pointer (some ⟨X, 0, none⟩) ∧ LaySt w X (.slice (some ⟨g, 0, none⟩) M.length sc) q M v wc)
  case first =>
    go_region_law (refine step_append_lies _ rfl (.tmp 11) (.tmp 13) 52 rfl (w.heap.size + 2) 135 i0 (.agg #[.int .u64 0, .int .i64 0, .string ⟨#[]⟩]) 3 32 Tryz.underlying52 Hi.out Hz0.out Hz1.out Hz2.out rfl (by decide) _ 0 [] rfl (by first | exact own_empty_d W1 _ (by omega) | exact own_empty2 W1 _ _ (by omega) | exact own_empty3 W1 _ _ (by omega)) ⟨g, 0, none⟩ M.length sc (rcells M) rfl (rcells_length M) (by first | exact (Hrow.out.below (later1 _ _)).news | exact (Hrow.out.below (later2 _ _ _)).news) (rcells_one M) hM (by unfold maxLen; omega) (by omega) (by simp; omega) _ rfl ?_; intro g' cap' w6 hown6 hgrow6 hat6 hlt6; have c61 : w6.cell? ⟨w.heap.size, 1, none⟩ = some (.int .i64 q) := grow_cell (by first | exact later1 _ _ | exact later2 _ _ _) hgrow6 (by first | exact far_a hwl0 | exact far_b hwl0) hwl0 b1; have hl6 : w.heap.size < w6.heap.size := World.block_lt_of_cell? w6 _ c61; first | (have zz := grow_zero2 (w := W1) hgrow6; have z0 := zz.1; have z1 := zz.2.1; have y0 := zz.2.2.1; have y1 := zz.2.2.2.1; have zl := zz.2.2.2.2) | (have zz := grow_zero3 (w := W1) hgrow6; have z0 := zz.1; have z1 := zz.2.1; have y0 := zz.2.2.1; have y1 := zz.2.2.2.1; have zl := zz.2.2.2.2) | skip)
    all_goals
      clear b0 b1 c61 hl6
      go_wp2_with fail
      go_meet
      case rel => first
        | exact ⟨_, _, rfl, lay_new HB1.out N4.out N8.out (later1 _ _) hgrow6 (Nat.le_refl _) hown6⟩
        | exact ⟨_, _, rfl, lay_set HB1.out N4.out N8.out (later2 _ _ _) hgrow6 (Nat.le_refl _) hown6 (Nat.le_succ _) (zero2 hgrow6)⟩
        | exact ⟨_, _, rfl, lay_set HB1.out N4.out N8.out (later2 _ _ _) hgrow6 (Nat.le_succ _) hown6 (Nat.le_refl _) (zero3 hgrow6)⟩
  case rest =>
    obtain ⟨X, v, rfl, HL⟩ := hcut
    clear b0 b1 N4 N8 HB1 hwl hwl0 Hrow Hi Hz0 Hz1 Hz2
    have hwX := HL.x
    have HL0 := hid HL
    clear HL
    go_wp2_with fail
    go_loopw [8] (fun i wr => ∃ k : Nat, k ≤ bs.length ∧ i = .int .i64 k ∧ LaySt w X (.slice (some ⟨g, 0, none⟩) M.length sc) q (layK M x bs k) v wr) (fun i _ => bs.length - (intOf i).toNat)
    case atStart => exact ⟨0, by omega, rfl, HL0.out⟩
    case round =>
      obtain ⟨k, hk, rfl, hS⟩ := hrel
      have HS := hid hS
      have b0 : wr.cell? ⟨w.heap.size, 0, none⟩ = some (.slice (some ⟨g, 0, none⟩) M.length sc) := by rw [cell_of_row _ _ _ _ _ _ hS.box]; rfl
      have b1 : wr.cell? ⟨w.heap.size, 1, none⟩ = some (.int .i64 q) := by rw [cell_of_row _ _ _ _ _ _ hS.box]; rfl
      clear hS
      by_cases hlt : k < bs.length
      · obtain ⟨y, hy⟩ : ∃ y, adr x k = y := ⟨_, rfl⟩
        have hy2 : y = (x + k) % 18446744073709551616 := by rw [← hy]; rfl
        have hyl : y < 18446744073709551616 := by omega
        obtain ⟨j, hj, hja, hfi⟩ := findI_is (Hon.out k hlt)
        rw [hy] at hja hfi
        have Hfi := hid hfi
        have Hja := hid hja
        have Hy := hid hy
        clear hy hfi hja
        go_wp2_with fail
        refine (refFind_at B _ M q y _ wr (HR.out.below HS.out.b) HG.out hyl (by simp only [IntKind.wrap_u64]; omega)).mono ?_
        rw [Hfi.out]
        rintro e w1 ⟨rfl, hb1⟩
        have HS1 := hid (HS.out.below hb1)
        clear hb1 b0 b1
        have hll : (layK M x bs k).length = M.length := layK_length M x bs k
        obtain ⟨pv, cv, hv, _, hcv⟩ := HS1.out.row.parts
        obtain ⟨gv, hpv, hgv, hgB, hcells⟩ := hcv (by rw [hll]; exact hM)
        rw [hll] at hv
        rw [hpv] at hv
        subst hv
        obtain ⟨_, _, cb⟩ := hcells j (by rw [hll]; exact hj)
        have hP : (layK M x bs k).getD j ⟨0, 0, []⟩ ∈ layK M x bs k := by rw [List.getD_eq_getElem?_getD, List.getElem?_eq_getElem (by rw [hll]; exact hj), Option.getD_some]; exact List.getElem_mem _
        have hlen := (HG.out.layK x bs k).len _ hP
        have x0 : w1.cell? ⟨X, 0, none⟩ = some (.slice (some ⟨gv, 0, none⟩) M.length cv) := by rw [cell_of_row _ _ _ _ _ _ HS1.out.out]; rfl
        have hXl : X < w1.heap.size := blk_lt' HS1.out.out
        have fb : w1.frozen? ⟨gv, j * 3 + 2, none⟩ = false := HS1.out.row.frozen
        obtain ⟨s, hs⟩ : ∃ s : ByteArray, (⟨((layK M x bs k).getD j ⟨0, 0, []⟩).b.toArray⟩ : ByteArray) = s := ⟨_, rfl⟩
        have hss : s.size = 256 := by rw [← hs]; simpa [ByteArray.size] using hlen
        rw [hs] at cb
        have Hs := hid hs
        clear hs hcells hcv hP hlen
        obtain ⟨z, hz⟩ : ∃ z, y % 256 = z := ⟨_, rfl⟩
        have hz2 : z ≤ 255 := by omega
        have hzx : (IntKind.u64.wrap ((x : Int) + k)).tmod 256 = (z : Int) := by
          rw [IntKind.wrap_u64, ← hz, hy2, Int.tmod_eq_emod_of_nonneg (by omega)]
          omega
        have Hzx := hid hzx
        have Hz := hid hz
        clear hzx hz
        have hbsz : (⟨bs.toArray⟩ : ByteArray).size = bs.length := by simp [ByteArray.size]
        go_upto_region 7 with (fail)
        rw [Hzx.out]
        refine wp_region_quiet_tail 29 (fun w' => ∃ u, w' = aft w1 u) (by kernel_rfl) (by kernel_rfl) (aft_drew _) ?_
        simp only [List.take_succ_cons, List.take_zero, List.drop_succ_cons, List.drop_zero]
        repeat (go_big_quiet_step (fail))
        refine wpQuiet_nil ?_
        rintro w2 ⟨u, rfl⟩
        obtain ⟨W2, hW2⟩ : ∃ W2, aft w1 u = W2 := ⟨_, rfl⟩
        have bu : Hid (Below w1.heap.size w1 W2) := hid (by rw [← hW2]; exact aft_below w1 u)
        rw [hW2]
        have cb2 : W2.cell? ⟨gv, j * 3 + 2, none⟩ = some (.string s) := (bu.out.cell (p := ⟨gv, j * 3 + 2, none⟩) hgv).trans cb
        have fb2 : W2.frozen? ⟨gv, j * 3 + 2, none⟩ = false := (bu.out.frozen (p := ⟨gv, j * 3 + 2, none⟩) hgv).trans fb
        have HS2 := hid (HS1.out.below bu.out)
        clear hW2 cb fb x0 HS1 bu
        go_wp2_with fail
        go_roundw
        case rel =>
          exact ⟨k + 1, by omega, by go_num, lay_put HS2.out (HG.out.layK x bs k) (by rw [hll]; exact hj) (by rw [layK_a]; exact Hja.out) Hs.out Hz.out hlt (by rw [← Hy.out])⟩
        case measure => simp [intOf]; omega
      · obtain rfl : k = bs.length := by omega
        have x0 : wr.cell? ⟨X, 0, none⟩ = some v := by rw [cell_of_row _ _ _ _ _ _ HS.out.out]; rfl
        have x1 : wr.cell? ⟨X, 1, none⟩ = some (.int .i64 q) := by rw [cell_of_row _ _ _ _ _ _ HS.out.out]; rfl
        clear b0 b1
        obtain ⟨pv, cv, rfl, _, _⟩ := HS.out.row.parts
        go_wp2_with (refine wpList_store_row rfl 54 (.tmp 6) (.tmp 64) rfl (w.heap.size + 1) #[.slice pv (layK M x bs bs.length).length cv, .int .i64 q] rfl rfl 54 _ HS.out.res infoSpace rfl (space_one ..) ?_)
        refine bodyPost_ret (results_cell_row rfl _ _ (w.heap.size + 1) 54 #[.slice pv (layK M x bs bs.length).length cv, .int .i64 q] (0, 0) _ rfl (setRow_heap _ _ _ _ _ _ HS.out.res) Tryz.underlying54 rfl infoSpace) rfl ?_
        exact HS.out.done
end
end Go.Proofs.YtiemingpbommeaaGreatDoor
