/- A space: the addresses of some pages, one by one; a page is mapped. -/
import Derived.Test.YtiemingpbommeaaGreatDoorGv
import Derived.Test.YtiemingpbommeaaGreatDoorGf
namespace Go.Proofs.YtiemingpbommeaaGreatDoor
open Go Go.RowKit Go.Shelf
noncomputable section
set_option linter.unusedVariables false
set_option linter.unusedSimpArgs false
attribute [local go_sem] Oper.semAt_some
/-- the first j of k numbers -/
def firstI (k j : Nat) : List (Fin k) := (List.finRange k).take j
theorem firstI_succ (k j : Nat) (h : j < k) : firstI k (j + 1) = firstI k j ++ [⟨j, h⟩] := by
  unfold firstI
  rw [List.take_succ_eq_append_getElem (by simpa using h)]
  simp
theorem firstI_length (k j : Nat) (h : j ≤ k) : (firstI k j).length = j := by unfold firstI; simp; omega
theorem firstI_all (k : Nat) : firstI k k = List.finRange k := by unfold firstI; rw [List.take_of_length_le (by simp)]
/-- what a round of the loop keeps: the block of the extent -/
def KpBlk (b : Nat) (W W' : World) : Prop := W'.heap[b]? = W.heap[b]?
theorem kpBlk_t {b : Nat} {A B C : World} (h : KpBlk b A B) (k : KpBlk b B C) : KpBlk b A C := Eq.trans k h
theorem kpBlk_b {b : Nat} {w : World} (hb : b < w.heap.size) (W : World) (l : Nat) (o o' : Obj) (hl : w.heap.size ≤ l) (h : W.heap[l]? = some o) (_ : o.isCells = false) (_ : o.isWalk = false) : KpBlk b W (W.putObj l o') :=
  World.putObj_heap_other (by omega)
set_option maxHeartbeats 1000000 in
set_option maxRecDepth 100000 in
theorem each_in (F : Fence) (n : Nat) (hF : F.fn 62) (hro : F.round = none) (hn : 1 ≤ n) (l b a k : Nat) (hk : a + k * 256 ≤ 9223372036854775808) (J Jx : List (Fin k) → World → Prop)
    (hY : ∀ pre (x : Fin k) W, J pre W → pre.length < k → YieldAt F (n - 1) Tryz.prog l #[.int .u64 ((a + x.1 * 256 : Nat) : Int)] W fun e W' =>
      (e = .returned (.bool true) ∧ J (pre ++ [x]) W' ∧ KpBlk b W W') ∨ (e = .returned (.bool false) ∧ Jx (pre ++ [x]) W'))
    (W : World) (hb : W.heap[b]? = some (.cells #[.int .u64 (a : Int), .int .u64 ((a + k * 256 : Nat) : Int)] 76 (0, 0))) (h0 : J [] W) :
    CallsIn F n Tryz.prog 62 #[.func (.yield l) #[] #[], .pointer (some ⟨b, 0, none⟩)] W fun e W' => (∃ v, e = .returned v) ∧
      ((∃ ys, ys = List.finRange k ∧ J ys W') ∨ (∃ pre, pre <+: List.finRange k ∧ Jx pre W')) := by
  have hc : ∀ wr : World, wr.heap[b]? = W.heap[b]? → wr.cell? ⟨b, 0, none⟩ = some (.int .u64 (a : Int)) ∧ wr.cell? ⟨b, 1, none⟩ = some (.int .u64 ((a : Int) + k * 256)) := fun wr h => by
    rw [cell_of_row wr _ _ _ _ _ (h.trans hb), cell_of_row wr _ _ _ _ _ (h.trans hb)]
    exact ⟨rfl, by rw [Int.natCast_add, Int.natCast_mul]; rfl⟩
  have Hc := hid hc
  obtain ⟨c0, c1⟩ := hc W rfl
  clear hc hb
  refine callsIn_of_wp Tryz.func62 rfl hF ?_ hro
  simp only [Tryz.ntmps62, List.size_toArray, List.length_cons, List.length_nil, Nat.reduceAdd, Nat.reduceSub, Array.replicate_succ, Array.replicate_zero, List.push_toArray, List.append_toArray, List.nil_append, List.cons_append]
  gi_wp2
  gi_loopw [3] (fun p wr => ∃ j : Nat, j ≤ k ∧ p = .int .u64 ((a : Int) + j * 256) ∧ J (firstI k j) wr ∧ Hid (wr.heap[b]? = W.heap[b]?)) (fun p wr => (a + k * 256 - (intOf p).toNat))
  case atStart => exact ⟨0, by omega, by simp, by simpa [firstI] using h0, hid rfl⟩
  case round =>
    obtain ⟨j, hj, rfl, hJ, hbk⟩ := hrel
    obtain ⟨e0, e1⟩ := Hc.out wr hbk.out
    clear c0 c1
    by_cases hlt : j < k
    · have hjk : (j + 1) * 256 ≤ k * 256 := Nat.mul_le_mul_right _ hlt
      obtain ⟨fn, tmps, assign, body, hy, hR⟩ := hY (firstI k j) ⟨j, hlt⟩ wr hJ (by rw [firstI_length k j hj]; exact hlt)
      rw [show ((a + j * 256 : Nat) : Int) = (a : Int) + j * 256 by omega] at hy
      gi_wp2
      refine hR.mono ?_
      rintro e W3 (⟨rfl, hJ3, hk3⟩ | ⟨rfl, hJx3⟩)
      · obtain ⟨g0, g1⟩ := Hc.out W3 (hk3.trans hbk.out)
        have Hk3 := hid (hk3.trans hbk.out)
        clear e0 e1 hy hR hk3 hbk
        gi_wp2
        go_roundw
        case rel => exact ⟨j + 1, by omega, by congr 1; omega, by rw [firstI_succ k j hlt]; exact hJ3, Hk3⟩
        case measure => simp [intOf]; omega
      · gi_wp2
        refine bodyPost_ret (results_none rfl _ _ _) rfl ?_
        refine ⟨⟨_, rfl⟩, .inr ⟨firstI k j ++ [⟨j, hlt⟩], ?_, hJx3⟩⟩
        rw [← firstI_succ k j hlt]
        exact List.take_prefix _ _
    · obtain rfl : j = k := by omega
      gi_wp2
      go_end0
      exact ⟨⟨_, rfl⟩, .inl ⟨_, rfl, by rw [← firstI_all]; exact hJ⟩⟩
/-- each HANDS BACK what comes one by one -/
theorem each_stops (F : Fence) (n : Nat) (hF : F.fn 62) (hro : F.round = none) (hn : 1 ≤ n) (b a k : Nat) (hk : a + k * 256 ≤ 9223372036854775808) (w : World)
    (hb : w.heap[b]? = some (.cells #[.int .u64 (a : Int), .int .u64 ((a + k * 256 : Nat) : Int)] 76 (0, 0))) :
    SeqStopsK F n Tryz.prog 62 #[.pointer (some ⟨b, 0, none⟩)] (fun x : Fin k => #[Value.int .u64 ((a + x.1 * 256 : Nat) : Int)]) (KpBlk b) (fun ys => ys = List.finRange k) (fun pre => pre <+: List.finRange k) k w := fun l J Jx W hW _ _ hY h0 =>
  each_in F n hF hro hn l b a k hk J Jx hY W ((hW.block b (blk_lt' hb)).trans hb) h0
end
end Go.Proofs.YtiemingpbommeaaGreatDoor

/- The map of pages: a page is laid in at whatever key. -/
namespace Go.Proofs.YtiemingpbommeaaGreatDoor
open Go Go.RowKit Go.Shelf Go.ChangeMaps
noncomputable section
set_option linter.unusedVariables false
set_option linter.unusedSimpArgs false
theorem ents_append (x : Pg × Nat) : ∀ (ps : List (Pg × Nat)) (i : Nat), ents i (ps ++ [x]) = ents i ps ++ [⟨.int .u64 (x.1.a : Int), .pointer (some ⟨x.2, 0, none⟩), i + ps.length⟩]
  | [], i => by simp [ents]
  | q :: l, i => by
    rw [List.cons_append, ents, ents_append x l (i + 1), ents, List.cons_append, List.length_cons]
    congr 3
    simp only [List.cons.injEq, MapEntry.mk.injEq, true_and, and_true]
    omega
theorem ents_split (l2 : List (Pg × Nat)) (q : Pg × Nat) : ∀ (l1 : List (Pg × Nat)) (i : Nat), ents i (l1 ++ q :: l2) = ents i l1 ++ ⟨.int .u64 (q.1.a : Int), .pointer (some ⟨q.2, 0, none⟩), i + l1.length⟩ :: ents (i + l1.length + 1) l2
  | [], i => by simp [ents]
  | p :: l, i => by
    rw [List.cons_append, ents, ents_split l2 q l (i + 1), ents, List.cons_append, List.length_cons, show i + 1 + l.length = i + (l.length + 1) by omega]
theorem findNow_at (l2 : List (Pg × Nat)) (q : Pg × Nat) : ∀ (l1 : List (Pg × Nat)) (i n : Nat), (∀ x ∈ l1, x.1.a ≠ q.1.a) →
    Instr.findNow (.int .u64) (.int .u64 (q.1.a : Int)) (ents i (l1 ++ q :: l2)) n = some (some (n + l1.length, .pointer (some ⟨q.2, 0, none⟩)))
  | [], i, n, _ => by simp [ents, Instr.findNow, Instr.sameNow]
  | p :: l, i, n, h => by
    have h' : ((q.1.a : Int) == (p.1.a : Int)) = false := by
      rw [beq_eq_false_iff_ne]
      have := h p (List.mem_cons_self ..)
      omega
    simp only [List.cons_append, ents, Instr.findNow, Instr.sameNow, if_true, h']
    rw [findNow_at l2 q l (i + 1) (n + 1) (fun x hx => h x (List.mem_cons_of_mem _ hx)), List.length_cons]
    congr 3
    omega
theorem keyOf_page (k : Nat) (hk : k < 18446744073709551616) : keyOf Tryz.prog 23 (.int .u64 (k : Int)) = some (.int .u64 (k : Int)) :=
  Maps.keyOf_int_mk Tryz.underlying23 (by simp [Lit.wf, IntKind.min, IntKind.max, IntKind.signed, IntKind.bits]; omega)
/-- a page is laid into the map at a new key -/
theorem run_update_new (w : World) (m c : Nat) (ps : List (Pg × Nat)) (k b : Nat) (hk : k < 18446744073709551616) (hm : w.heap[m]? = some (.map (ents 0 ps).toArray c)) (hno : ∀ x ∈ ps, x.1.a ≠ k) :
    (Instr.mapUpdate 69 (.map (some m)) (.int .u64 k) (.pointer (some ⟨b, 0, none⟩))).run Tryz.prog w =
      .ok () (setBlock w m (.map (((ents 0 ps).toArray).push ⟨.int .u64 k, .pointer (some ⟨b, 0, none⟩), c⟩) (c + 1))) := by
  have K := Maps.int_keyed (P := Tryz.prog) Tryz.underlying23
  have hkey := keyOf_page k hk
  obtain ⟨r, h1, h2⟩ := findNow_ents k ps 0 0
  have h3 : (ps.find? fun q => q.1.a == k) = none := List.find?_eq_none.2 fun x hx => by simpa using hno x hx
  rw [h3] at h2
  obtain rfl : r = none := by cases r with | none => rfl | some y => cases h2
  have hf : (Instr.findKey 23 (.int .u64 k) (ents 0 ps)).run Tryz.prog w = .ok none w := by
    unfold Instr.findKey
    simp [Sem.run_bind, run_underlying Tryz.underlying23, h1]
  simp [Instr.mapUpdate, run_underlying Tryz.underlying69, MapKept.run_getObj_map hm, K.check w false hkey, hf, MapKept.run_setObj_map _ hm, Result.andThen, setBlock]
/-- .. at a key that is there -/
theorem run_update_old (w : World) (m c : Nat) (l1 l2 : List (Pg × Nat)) (q : Pg × Nat) (b : Nat) (hk : q.1.a < 18446744073709551616) (hm : w.heap[m]? = some (.map (ents 0 (l1 ++ q :: l2)).toArray c)) (hno : ∀ x ∈ l1, x.1.a ≠ q.1.a) :
    (Instr.mapUpdate 69 (.map (some m)) (.int .u64 (q.1.a : Int)) (.pointer (some ⟨b, 0, none⟩))).run Tryz.prog w =
      .ok () (setBlock w m (.map (ents 0 (l1 ++ (q.1, b) :: l2)).toArray c)) := by
  have K := Maps.int_keyed (P := Tryz.prog) Tryz.underlying23
  have hkey := keyOf_page q.1.a hk
  have h1 := findNow_at l2 q l1 0 0 hno
  have hf : (Instr.findKey 23 (.int .u64 (q.1.a : Int)) (ents 0 (l1 ++ q :: l2))).run Tryz.prog w = .ok (some (l1.length, .pointer (some ⟨q.2, 0, none⟩))) w := by
    unfold Instr.findKey
    simp [Sem.run_bind, run_underlying Tryz.underlying23, h1]
  have hlen : (ents 0 l1).length = l1.length := ents_get l1 0
  have hj : (ents 0 (l1 ++ q :: l2)).toArray[l1.length]? = some ⟨.int .u64 (q.1.a : Int), .pointer (some ⟨q.2, 0, none⟩), 0 + l1.length⟩ := by
    rw [ents_split, List.getElem?_toArray, List.getElem?_append_right (by omega), hlen]
    simp
  have hmod : (ents 0 (l1 ++ q :: l2)).modify l1.length (fun e => { e with key := .int .u64 (q.1.a : Int), val := .pointer (some ⟨b, 0, none⟩) }) = ents 0 (l1 ++ (q.1, b) :: l2) := by
    rw [ents_split, ents_split]
    apply List.ext_getElem?
    intro j
    rw [List.getElem?_modify]
    simp only [Option.map_eq_map]
    rcases Nat.lt_trichotomy j l1.length with h | h | h
    · have hne : ¬l1.length = j := by omega
      simp only [hne, if_false]
      rw [List.getElem?_append_left (by omega), List.getElem?_append_left (by omega)]
      simp
    · subst h
      rw [List.getElem?_append_right (by omega), List.getElem?_append_right (by omega), hlen]
      simp
    · have hne : ¬l1.length = j := by omega
      simp only [hne, if_false]
      rw [List.getElem?_append_right (by omega), List.getElem?_append_right (by omega), hlen]
      obtain ⟨d, hd⟩ : ∃ d, j - l1.length = d + 1 := ⟨j - l1.length - 1, by omega⟩
      rw [hd]
      simp
  have hj' : ((ents 0 (l1 ++ q :: l2))[l1.length]?) = some ⟨.int .u64 (q.1.a : Int), .pointer (some ⟨q.2, 0, none⟩), 0 + l1.length⟩ := by simpa using hj
  simp [Instr.mapUpdate, run_underlying Tryz.underlying69, MapKept.run_getObj_map hm, K.check w false hkey, hf, hj', K.stays w hkey, MapKept.run_setObj_map _ hm, Result.andThen, setBlock]
  rw [hmod]
end
end Go.Proofs.YtiemingpbommeaaGreatDoor

/- What holds between two rounds while pages are mapped. -/
namespace Go.Proofs.YtiemingpbommeaaGreatDoor
open Go Go.RowKit Go.Shelf Go.ChangeMaps
noncomputable section
set_option linter.unusedVariables false
set_option linter.unusedSimpArgs false
/-- a page of noughts -/
def zeroPg (p a : Nat) : Pg := ⟨a, p, List.replicate 256 0⟩
def addI (l : List Nat) (i : Nat) : List Nat := if i ∈ l then l else l ++ [i]
/-- each number once, as they came -/
def ddup (pre : List Nat) : List Nat := pre.foldl addI []
theorem ddup_snoc (pre : List Nat) (i : Nat) : ddup (pre ++ [i]) = addI (ddup pre) i := by unfold ddup; rw [List.foldl_append]; rfl
theorem ddup_range (n : Nat) : ddup (List.range n) = List.range n := by
  induction n with
  | zero => rfl
  | succ n ih => rw [List.range_succ, ddup_snoc, ih]; unfold addI; rw [if_neg (by simp)]
theorem finRange_map (n : Nat) : (List.finRange n).map (·.1) = List.range n := by
  apply List.ext_getElem
  · simp
  · intro i h1 h2; simp
/-- what holds between two rounds -/
def PInv (a p n : Nat) (W5 : World) (sp m : Nat) (v : Value) (q : Int) (ps : List (Pg × Nat)) (pre : List (Fin n)) (W : World) : Prop :=
  ∃ qs, pgs qs = (ddup (pre.map (·.1))).map (fun i => zeroPg p (a + i * 256)) ∧ (∀ b ∈ blks qs, W5.heap.size ≤ b) ∧ SpaceIs W sp m v q (ps ++ qs) ∧ Keep [m] W5 W
theorem zeroPg_good (p a : Nat) (hp : p < 8) (ha : a % 256 = 0) (ht : a < 18446744073709551616) : (zeroPg p a).b.length = 256 ∧ (zeroPg p a).a % 256 = 0 ∧ (zeroPg p a).a < 18446744073709551616 ∧ (zeroPg p a).p < 8 := ⟨List.length_replicate, ha, ht, hp⟩
theorem page_step {a p n : Nat} {W5 : World} {sp m : Nat} {v : Value} {q : Int} {ps : List (Pg × Nat)} {pre : List (Fin n)} {W : World} (h : PInv a p n W5 sp m v q ps pre W) (hp : p < 8) (ha : a % 256 = 0) (ht : a + n * 256 ≤ 9223372036854775808)
    (hps : ∀ x ∈ ps, x.1.a < a) (x : Fin n) {W2 : World} (hB : Below W.heap.size W W2) {b : Nat} (hb : W.heap.size ≤ b) (hpg : W2.heap[b]? = some (.cells (pgCells (zeroPg p (a + x.1 * 256))) 85 (0, 0))) :
    ∃ W', (Instr.mapUpdate 69 (.map (some m)) (.int .u64 ((a + x.1 * 256 : Nat) : Int)) (.pointer (some ⟨b, 0, none⟩))).run Tryz.prog W2 = .ok () W' ∧ PInv a p n W5 sp m v q ps (pre ++ [x]) W' ∧ Keep [m] W2 W' ∧ Keep [m] W W' := by
  obtain ⟨qs, hqs, hbl, hS, hK⟩ := h
  have hS2 := hS.below hB
  have hK2 : Keep [m] W5 W2 := hK.trans (Keep.of_below hB)
  have hxn : x.1 * 256 + 256 ≤ n * 256 := by have := Nat.mul_le_mul_right 256 x.2; omega
  have hk : a + x.1 * 256 < 18446744073709551616 := by omega
  have hbnew : b ∉ blks (ps ++ qs) := fun hm => by have := hS.lt_blk hm; omega
  have hbm : b ≠ m := fun e => by have := blk_lt' hS.map; omega
  have hset : ∀ o, Keep [m] W2 (setBlock W2 m o) := fun o => ⟨rfl, rfl, rfl, by simp [setBlock], fun k _ hk => by
    simp only [List.mem_singleton] at hk
    simp only [setBlock]
    rw [Array.getElem?_setIfInBounds, if_neg (fun e => hk e.symm)]⟩
  have hmm : ∀ o, (setBlock W2 m o).heap[m]? = some o := fun o => by
    simp only [setBlock]
    rw [Array.getElem?_setIfInBounds, if_pos rfl, if_pos (blk_lt' hS2.map)]
  have hspm : sp ≠ m := fun e => by have h1 := hS.row; have h2 := hS.map; rw [e, h2] at h1; cases h1
  have hblm : ∀ k ∈ blks (ps ++ qs), k ≠ m := fun k hk e => by
    obtain ⟨y, hy, rfl⟩ := List.mem_map.1 hk
    have h1 := hS.page y hy
    rw [e, hS.map] at h1
    cases h1
  by_cases hin : x.1 ∈ ddup (pre.map (·.1))
  · have hmem : zeroPg p (a + x.1 * 256) ∈ pgs qs := by rw [hqs]; exact List.mem_map.2 ⟨x.1, hin, rfl⟩
    obtain ⟨y, hy, hye⟩ := List.mem_map.1 hmem
    obtain ⟨l1, l2, rfl⟩ := List.append_of_mem hy
    have hya : y.1.a = a + x.1 * 256 := by rw [hye]; rfl
    have hall : ps ++ (l1 ++ y :: l2) = (ps ++ l1) ++ y :: l2 := by simp
    have hnd := hS2.good.nd
    rw [hall] at hS2 hnd
    unfold pgs at hnd
    rw [List.map_append, List.map_cons, List.pairwise_append] at hnd
    have hno : ∀ z ∈ ps ++ l1, z.1.a ≠ y.1.a := fun z hz => hnd.2.2 _ (List.mem_map.2 ⟨z, hz, rfl⟩) _ (List.mem_cons_self ..)
    have hrun := run_update_old W2 m (ps ++ l1 ++ y :: l2).length (ps ++ l1) l2 y b (by rw [hya]; exact hk) hS2.map hno
    rw [hya] at hrun
    refine ⟨_, hrun, ⟨l1 ++ (y.1, b) :: l2, ?_, ?_, ?_, hK2.trans (hset _)⟩, hset _, (Keep.of_below hB).trans (hset _)⟩
    · rw [List.map_append, List.map_singleton, ddup_snoc]
      unfold addI
      rw [if_pos hin, ← hqs]
      simp [pgs]
    · intro k hk
      simp only [blks, List.map_append, List.map_cons, List.mem_append, List.mem_cons] at hk
      rcases hk with hk | rfl | hk
      · exact hbl k (by simp only [blks, List.map_append, List.map_cons, List.mem_append, List.mem_cons]; exact .inl hk)
      · exact Nat.le_trans hK.size hb
      · exact hbl k (by simp only [blks, List.map_append, List.map_cons, List.mem_append, List.mem_cons]; exact .inr (.inr hk))
    · have e : ps ++ (l1 ++ (y.1, b) :: l2) = (ps ++ l1) ++ (y.1, b) :: l2 := by simp
      rw [e]
      refine ⟨(hset _).row hS2.row (by simpa using hspm), ?_, ?_, ?_, ?_⟩
      · rw [hmm]; simp
      · intro z hz
        rcases List.mem_append.1 hz with hz | hz
        · exact (hset _).row (hS2.page z (List.mem_append_left _ hz)) (by simpa using hblm z.2 (List.mem_map.2 ⟨z, by rw [hall]; exact List.mem_append_left _ hz, rfl⟩))
        · rcases List.mem_cons.1 hz with rfl | hz
          · show (setBlock W2 m _).heap[b]? = _
            rw [hye]
            exact (hset _).row hpg (by simpa using hbm)
          · exact (hset _).row (hS2.page z (List.mem_append_right _ (List.mem_cons_of_mem _ hz))) (by simpa using hblm z.2 (List.mem_map.2 ⟨z, by rw [hall]; exact List.mem_append_right _ (List.mem_cons_of_mem _ hz), rfl⟩))
      · have := hS2.good
        unfold pgs at this ⊢
        rw [List.map_append, List.map_cons] at this ⊢
        exact this
      · have h0 := hS2.nd
        rw [List.pairwise_append, List.pairwise_cons] at h0 ⊢
        have hbz : ∀ z ∈ ps ++ l1 ++ y :: l2, z.2 ≠ b := fun z hz e => hbnew (by rw [hall, ← e]; exact List.mem_map.2 ⟨z, hz, rfl⟩)
        refine ⟨h0.1, ⟨fun z hz => (hbz z (List.mem_append_right _ (List.mem_cons_of_mem _ hz))).symm, h0.2.1.2⟩, fun z hz z' hz' => ?_⟩
        rcases List.mem_cons.1 hz' with rfl | hz'
        · exact hbz z (List.mem_append_left _ hz)
        · exact h0.2.2 z hz z' (List.mem_cons_of_mem _ hz')
  · have hnoq : ∀ z ∈ qs, z.1.a ≠ a + x.1 * 256 := fun z hz e => by
      have : z.1 ∈ pgs qs := List.mem_map.2 ⟨z, hz, rfl⟩
      rw [hqs] at this
      obtain ⟨i, hi, hie⟩ := List.mem_map.1 this
      rw [← hie] at e
      have : i = x.1 := by simp only [zeroPg] at e; omega
      exact hin (this ▸ hi)
    have hno : ∀ z ∈ ps ++ qs, z.1.a ≠ a + x.1 * 256 := fun z hz => by
      rcases List.mem_append.1 hz with hz | hz
      · have := hps z hz; omega
      · exact hnoq z hz
    have hrun := run_update_new W2 m (ps ++ qs).length (ps ++ qs) (a + x.1 * 256) b hk hS2.map hno
    refine ⟨_, hrun, ⟨qs ++ [(zeroPg p (a + x.1 * 256), b)], ?_, ?_, ?_, hK2.trans (hset _)⟩, hset _, (Keep.of_below hB).trans (hset _)⟩
    · rw [List.map_append, List.map_singleton, ddup_snoc]
      unfold addI
      rw [if_neg hin, List.map_append, ← hqs]
      simp [pgs]
    · intro k hk
      simp only [blks, List.map_append, List.map_cons, List.map_nil, List.mem_append, List.mem_singleton] at hk
      rcases hk with hk | rfl
      · exact hbl k hk
      · exact Nat.le_trans hK.size hb
    · rw [← List.append_assoc]
      refine ⟨(hset _).row hS2.row (by simpa using hspm), ?_, ?_, ?_, ?_⟩
      · rw [hmm, ents_append]
        have e1 : ((a + x.1 * 256 : Nat) : Int) = ((zeroPg p (a + x.1 * 256)).a : Int) := rfl
        rw [e1]
        simp
        omega
      · intro z hz
        rcases List.mem_append.1 hz with hz | hz
        · exact (hset _).row (hS2.page z hz) (by simpa using hblm z.2 (List.mem_map.2 ⟨z, hz, rfl⟩))
        · obtain rfl := List.mem_singleton.1 hz
          exact (hset _).row hpg (by simpa using hbm)
      · have hg := hS2.good
        have hz := zeroPg_good p (a + x.1 * 256) hp (by omega) hk
        have hm : ∀ g ∈ pgs (ps ++ qs ++ [(zeroPg p (a + x.1 * 256), b)]), g ∈ pgs (ps ++ qs) ∨ g = zeroPg p (a + x.1 * 256) := fun g hg' => by
          unfold pgs at hg' ⊢
          rw [List.map_append] at hg'
          rcases List.mem_append.1 hg' with h | h
          · exact .inl h
          · exact .inr (by simpa using h)
        refine ⟨fun g h => ?_, fun g h => ?_, fun g h => ?_, fun g h => ?_, ?_⟩
        · rcases hm g h with h | rfl; exact hg.len g h; exact hz.1
        · rcases hm g h with h | rfl; exact hg.al g h; exact hz.2.1
        · rcases hm g h with h | rfl; exact hg.top g h; exact hz.2.2.1
        · rcases hm g h with h | rfl; exact hg.per g h; exact hz.2.2.2
        · have h0 := hg.nd
          unfold pgs at h0 ⊢
          rw [List.map_append, List.pairwise_append]
          refine ⟨h0, by simp, fun g hg' g' hg'' => ?_⟩
          obtain ⟨z, hz, rfl⟩ := List.mem_map.1 hg'
          have : g' = zeroPg p (a + x.1 * 256) := by simpa using hg''
          rw [this]
          exact hno z hz
      · rw [List.pairwise_append]
        refine ⟨hS2.nd, by simp, fun z hz z' hz' => ?_⟩
        obtain rfl := List.mem_singleton.1 hz'
        exact fun e => hbnew (List.mem_map.2 ⟨z, hz, e⟩)
/-- it abides the law's own book-keeping -/
theorem pinv_own {a p n : Nat} {W5 : World} {sp m : Nat} {v : Value} {q : Int} {ps : List (Pg × Nat)} (hsp : sp < W5.heap.size) (hm : m < W5.heap.size) : OwnFrom W5.heap.size (PInv a p n W5 sp m v q ps) := by
  intro pre A B row h hg hr
  obtain ⟨qs, hqs, hbl, hS, hK⟩ := h
  have hk : ∀ k o, A.heap[k]? = some o → (k < W5.heap.size ∨ o.isCells = true) → B.heap[k]? = some o := fun k o hko hc => by
    rw [hg.block k (Array.getElem?_eq_some_iff.1 hko).1 ?_]
    · exact hko
    · intro e
      obtain ⟨h1, o', ho', hc'⟩ := hr k e.symm
      rcases hc with hc | hc
      · omega
      · rw [hko] at ho'
        cases ho'
        rw [hc] at hc'
        cases hc'
  refine ⟨qs, hqs, hbl, ⟨hk _ _ hS.row (.inr rfl), hk _ _ hS.map (.inl hm), fun x hx => hk _ _ (hS.page x hx) (.inr rfl), hS.good, hS.nd⟩, ?_⟩
  exact ⟨hg.os.trans hK.os, hg.tape.trans hK.tape, hg.output.trans hK.output, Nat.le_trans hK.size hg.size, fun k hk1 hk2 =>
    (hg.block k (Nat.lt_of_lt_of_le hk1 hK.size) (fun e => by have := (hr k e.symm).1; omega)).trans (hK.block k hk1 hk2)⟩
end
end Go.Proofs.YtiemingpbommeaaGreatDoor

/- A space: Map, where the pages lie behind all others. -/
namespace Go.Proofs.YtiemingpbommeaaGreatDoor
open Go Go.RowKit Go.Shelf Go.ChangeMaps
noncomputable section
set_option linter.unusedVariables false
set_option linter.unusedSimpArgs false
attribute [local go_sem] Oper.semAt_some
theorem extent_at (s : Addr) (a n p hi : Nat) (h : Fine a n p) (hh : a + n * 256 = hi) (w : World) :
    Calls Tryz.prog 23 #[.pointer (some s), .int .u64 a, .int .i64 n, .int .i64 p] w fun e w' => e = .returned (.tuple #[.agg #[.int .u64 a, .int .u64 hi], .int .i64 0]) ∧ Below w.heap.size w w' := by
  subst hh; exact extent_any s a n p h w
theorem run_len_pages (w : World) (m c : Nat) (es : Array MapEntry) (ty : TypeId) (hm : w.heap[m]? = some (.map es c)) :
    (Builtin.len_ #[69] ty #[.map (some m)]).run Tryz.prog w = .ok (.int .i64 es.size) w := by
  simp [Builtin.len_, run_underlying Tryz.underlying69, MapKept.run_getObj_map hm, goInt, Result.andThen]
theorem setMeets_at (sb so a hi : Nat) (sl : Value) (L : List (Nat × Nat)) (w : World) (hc : w.cell? ⟨sb, so, none⟩ = some sl) (hS : SetIs w sl L) (hB : Behind L (a, hi)) (hl : L.length ≤ 11) :
    Calls Tryz.prog 24 #[.pointer (some ⟨sb, so, none⟩), .agg #[.int .u64 a, .int .u64 hi]] w fun e w' => e = .returned (.bool false) ∧ Below w.heap.size w w' :=
  setMeets_no sb so (a, hi) sl L w hc hS (behind_no hB) (by omega)
theorem SpaceIs.cellSet {w : World} {sp m : Nat} {sl : Value} {q : Int} {ps : List (Pg × Nat)} (h : SpaceIs w sp m sl q ps) : w.cell? ⟨sp, 1, none⟩ = some sl := by
  rw [cell_of_row w sp _ _ _ _ h.row]; rfl
theorem SpaceIs.cellQuota {w : World} {sp m : Nat} {sl : Value} {q : Int} {ps : List (Pg × Nat)} (h : SpaceIs w sp m sl q ps) : w.cell? ⟨sp, 2, none⟩ = some (.int .i64 q) := by
  rw [cell_of_row w sp _ _ _ _ h.row]; rfl
theorem SpaceIs.m_not {w : World} {sp m : Nat} {sl : Value} {q : Int} {ps : List (Pg × Nat)} {L : List (Nat × Nat)} (h : SpaceIs w sp m sl q ps) (hL : SetIs w sl L) : m ∉ sp :: ownB sl := fun hm => by
  have h1 := h.map
  rcases List.mem_cons.1 hm with e | hm
  · rw [e, h.row] at h1; cases h1
  · have e := ownB_mem hm
    rcases hL.cases with ⟨rfl, _⟩ | ⟨g, cap, cur, rfl, _, hg, _⟩
    · cases e
    · simp only [Value.ownBlock, Option.some.injEq] at e
      rw [← e, hg] at h1
      cases h1
theorem SpaceIs.b_not {w : World} {sp m : Nat} {sl : Value} {q : Int} {ps : List (Pg × Nat)} {L : List (Nat × Nat)} (h : SpaceIs w sp m sl q ps) (hL : SetIs w sl L) {b : Nat} {cs : Array Value} {t : TypeId} (hb : w.heap[b]? = some (.cells cs t (0, 0)))
    (h1 : t ≠ 74) (h2 : t ≠ 76) : b ∉ sp :: ownB sl := fun hm => by
  rcases List.mem_cons.1 hm with e | hm
  · rw [e, h.row] at hb
    have := congrArg (fun o : Option Obj => match o with | some (.cells _ t _) => t | _ => 0) hb
    exact h1 this.symm
  · have e := ownB_mem hm
    rcases hL.cases with ⟨rfl, _⟩ | ⟨g, cap, cur, rfl, _, hg, _⟩
    · cases e
    · simp only [Value.ownBlock, Option.some.injEq] at e
      rw [← e, hg] at hb
      have := congrArg (fun o : Option Obj => match o with | some (.cells _ t _) => t | _ => 0) hb
      exact h2 this.symm
theorem pinv_cells {a p n : Nat} {W5 : World} {sp m : Nat} {v : Value} {q : Int} {ps : List (Pg × Nat)} {pre : List (Fin n)} {W : World} {x4 x7 : Nat} {u4 u7 : Value} {t4 t7 : TypeId} (h : PInv a p n W5 sp m v q ps pre W)
    (hm5 : ∃ es c, W5.heap[m]? = some (.map es c)) (h4 : W5.heap[x4]? = some (.cells #[u4] t4 (0, 0))) (h7 : W5.heap[x7]? = some (.cells #[u7] t7 (0, 0))) :
    W.cell? ⟨x4, 0, none⟩ = some u4 ∧ W.cell? ⟨x7, 0, none⟩ = some u7 ∧ W.cell? ⟨sp, 0, none⟩ = some (.map (some m)) ∧ x4 < W.heap.size ∧ x7 < W.heap.size ∧ sp < W.heap.size := by
  obtain ⟨qs, _, _, hS, hK⟩ := h
  have hne : ∀ x u t, W5.heap[x]? = some (Obj.cells #[u] t (0, 0)) → W.heap[x]? = some (Obj.cells #[u] t (0, 0)) := fun x u t hx => hK.row hx (fun hm => by
    obtain rfl := List.mem_singleton.1 hm
    obtain ⟨es, c, h1⟩ := hm5
    rw [hx] at h1; cases h1)
  have e4 := hne _ _ _ h4
  have e7 := hne _ _ _ h7
  refine ⟨by rw [cell_of_row W _ _ _ _ _ e4]; rfl, by rw [cell_of_row W _ _ _ _ _ e7]; rfl, hS.cellMap, blk_lt' e4, blk_lt' e7, blk_lt' hS.row⟩
theorem SetIs.keep {w w' : World} {S : List Nat} {sl : Value} {L : List (Nat × Nat)} (h : SetIs w sl L) (hk : Keep S w w') (hn : ∀ k ∈ ownB sl, k ∉ S) : SetIs w' sl L := by
  refine ⟨h.1, h.2.imp id ?_⟩
  rintro ⟨g, cap, cur, h1, h2, h3, h4⟩
  exact ⟨g, cap, cur, h1, h2, hk.row h3 (hn g (by rw [h1]; simp [ownB, Value.ownBlock])), h4⟩
/-- what Map leaves behind -/
def MapPost (sp m : Nat) (sl : Value) (q : Int) (ps : List (Pg × Nat)) (L : List (Nat × Nat)) (a n p hi : Nat) (w : World) (e : Ending) (w' : World) : Prop :=
  e = .returned (.int .i64 0) ∧ ∃ v qs, SpaceIs w' sp m v q (ps ++ qs) ∧ pgs qs = (List.range n).map (fun i => zeroPg p (a + i * 256)) ∧ (∀ b ∈ blks qs, w.heap.size ≤ b) ∧ SetIs w' v (joinL (L ++ [(a, hi)])) ∧ Keep (sp :: m :: ownB sl) w w' ∧ ∀ k ∈ ownB v, w.heap.size ≤ k
set_option maxHeartbeats 1000000 in
set_option maxRecDepth 100000 in
theorem each_any (a hi : Nat) (w : World) :
    Calls Tryz.prog 26 #[.agg #[.int .u64 a, .int .u64 hi]] w fun e w' => e = .returned (.func (.func 62) #[] #[.pointer (some ⟨w.heap.size, 0, none⟩)]) ∧ w' = w.alloc (.cells #[.int .u64 a, .int .u64 hi] 76) := by
  go_enter Tryz.func26, Tryz.ntmps26
  go_wp2
  go_ret
  exact ⟨rfl, rfl⟩
set_option maxHeartbeats 4000000 in
set_option maxRecDepth 100000 in
theorem map_any (sp m : Nat) (sl : Value) (q : Int) (ps : List (Pg × Nat)) (L : List (Nat × Nat)) (a n p hi : Nat) (w : World) (hS : SpaceIs w sp m sl q ps) (hL : SetIs w sl L) (hf : Fine a n p) (hhi : a + n * 256 = hi)
    (hB : Behind L (a, hi)) (hr : Rising (L ++ [(a, hi)])) (hl : L.length ≤ 11) (hq : ((ps.length + n : Nat) : Int) ≤ q) (hps : ps.length ≤ 4096) (hno : ∀ x ∈ ps, x.1.a < a) :
    Calls Tryz.prog 10 #[.pointer (some ⟨sp, 0, none⟩), .int .u64 a, .int .i64 n, .int .i64 p] w (MapPost sp m sl q ps L a n p hi w) := by
  have HS := hid hS
  have HL := hid hL
  have Hf := hid hf
  have HB := hid hB
  have Hr := hid hr
  have Hq := hid hq
  have Hps := hid hps
  have Hno := hid hno
  have Hhi := hid hhi
  have hspl := blk_lt' hS.row
  clear hS hL hf hB hr hq hps hno hhi
  refine (callsIn_wide (n := 5)).1 (callsIn_of_wp_marks Tryz.func10 rfl trivial (wpIn_wide.2 ?_) rfl)
  simp only [Tryz.ntmps10, List.size_toArray, List.length_cons, List.length_nil, Nat.reduceAdd, Nat.reduceSub, Array.replicate_succ, Array.replicate_zero, List.push_toArray, List.append_toArray, List.nil_append, List.cons_append]
  go_wp2_with fail
  refine (extent_at ⟨sp, 0, none⟩ a n p hi Hf.out Hhi.out _).mono ?_
  rintro e w1 ⟨rfl, hb1⟩
  have B1 := hid ((((Below.refl w.heap.size w).alloc (Nat.le_refl _) (.cells #[.pointer (some ⟨sp, 0, none⟩)] 25)).alloc (by simp) (.cells #[.int .i64 p] 3)).trans (hb1.mono (by simp; omega)))
  have M1 := hid ((hb1.block w.heap.size (by simp; omega)).trans (heap_alloc2_old w (.cells #[.pointer (some ⟨sp, 0, none⟩)] 25) (.cells #[.int .i64 p] 3)))
  have M2 := hid ((hb1.block (w.heap.size + 1) (by simp)).trans (heap_alloc2_new w (.cells #[.pointer (some ⟨sp, 0, none⟩)] 25) (.cells #[.int .i64 p] 3)))
  clear hb1
  go_wp2_with fail
  -- the world behind the extent's box
  obtain ⟨W, hW⟩ : ∃ W, w1.alloc (.cells #[.int .u64 (a : Int), .int .u64 (hi : Int)] 76) = W := ⟨_, rfl⟩
  have h21 := blk_lt' M2.out
  have MX : Hid (W.heap[w1.heap.size]? = some (.cells #[.int .u64 (a : Int), .int .u64 (hi : Int)] 76 (0, 0))) := hid (by rw [← hW]; exact heap_alloc_new _ _)
  have B2 : Hid (Below w.heap.size w W) := hid (by rw [← hW]; exact B1.out.alloc B1.out.size _)
  have M4 : Hid (W.heap[w.heap.size]? = some (.cells #[.pointer (some ⟨sp, 0, none⟩)] 25 (0, 0))) := hid (by rw [← hW]; exact (Below.heap_alloc _ _ _ (by omega)).trans M1.out)
  have M7 : Hid (W.heap[w.heap.size + 1]? = some (.cells #[.int .i64 (p : Int)] 3 (0, 0))) := hid (by rw [← hW]; exact (Below.heap_alloc _ _ _ h21).trans M2.out)
  have hX := blk_lt' MX.out
  rw [hW]
  clear hW M1 M2 B1
  have HS2 := hid (HS.out.below B2.out)
  have HL2 := hid (HL.out.below B2.out)
  have c4 : W.cell? ⟨w.heap.size, 0, none⟩ = some (.pointer (some ⟨sp, 0, none⟩)) := by rw [cell_of_row W _ _ _ _ _ M4.out]; rfl
  have x0 : W.cell? ⟨w1.heap.size, 0, none⟩ = some (.int .u64 a) := by rw [cell_of_row W _ _ _ _ _ MX.out]; rfl
  have x1 : W.cell? ⟨w1.heap.size, 1, none⟩ = some (.int .u64 hi) := by rw [cell_of_row W _ _ _ _ _ MX.out]; rfl
  have s0 := HS2.out.cellMap
  have s1 := HS2.out.cellSet
  have s2 := HS2.out.cellQuota
  have hspW : sp < W.heap.size := Nat.lt_of_lt_of_le hspl B2.out.size
  have hwW : w.heap.size < W.heap.size := blk_lt' M4.out
  refine wp_region_quiet_in (fun w' => ∃ u, w' = aft W u) (by kernel_rfl) (by kernel_rfl) (aft_drew _) ?_
  repeat (go_big_quiet_step ((go_at_call 24; exact aft_call (setMeets_at sp 1 a hi sl L _ ((aft_cell hspW).trans s1) (HL2.out.below (aft_below W _)) HB.out hl))))
  refine wpQuiet_nil ?_
  rintro w5 ⟨u, rfl⟩
  obtain ⟨W2, hW2⟩ : ∃ W2, aft W u = W2 := ⟨_, rfl⟩
  have bu : Hid (Below W.heap.size W W2) := hid (by rw [← hW2]; exact aft_below W u)
  rw [hW2]
  clear hW2
  have N4 := hid ((bu.out.block _ hwW).trans M4.out)
  have N7 := hid ((bu.out.block _ (blk_lt' M7.out)).trans M7.out)
  have NX := hid ((bu.out.block _ hX).trans MX.out)
  have B3 := hid (B2.out.trans (bu.out.mono B2.out.size))
  clear c4 x0 x1 s0 s1 s2 hspW hwW M4 M7 MX B2 HS2 HL2 bu
  have HS2 := hid (HS.out.below B3.out)
  have HL2 := hid (HL.out.below B3.out)
  have c4 : W2.cell? ⟨w.heap.size, 0, none⟩ = some (.pointer (some ⟨sp, 0, none⟩)) := by rw [cell_of_row W2 _ _ _ _ _ N4.out]; rfl
  have x0 : W2.cell? ⟨w1.heap.size, 0, none⟩ = some (.int .u64 a) := by rw [cell_of_row W2 _ _ _ _ _ NX.out]; rfl
  have x1 : W2.cell? ⟨w1.heap.size, 1, none⟩ = some (.int .u64 hi) := by rw [cell_of_row W2 _ _ _ _ _ NX.out]; rfl
  have s0 := HS2.out.cellMap
  have s1 := HS2.out.cellSet
  have s2 := HS2.out.cellQuota
  have hspW : sp < W2.heap.size := Nat.lt_of_lt_of_le hspl B3.out.size
  have hwW : w.heap.size < W2.heap.size := blk_lt' N4.out
  have hXW : w1.heap.size < W2.heap.size := blk_lt' NX.out
  go_wp2_with fail
  refine wp_region_quiet_in (fun w' => ∃ u, w' = aft W2 u) (by kernel_rfl) (by kernel_rfl) (aft_drew _) ?_
  have HmW2 := HS2.out.map
  have hmW := blk_lt' HmW2
  have hqq : (ps.length : Int) + n ≤ q := by have := Hq.out; omega
  have hpl := Hps.out
  have hn1 := Hf.out.n1
  have hn2 := Hf.out.n2
  have HmW2' := hid HmW2
  clear HmW2
  repeat (go_big_quiet_step (fail))
  refine quiet_val (.int .i64 ps.length) rfl (fun w' hC => ?_) ?_
  · obtain ⟨u, rfl⟩ := hC
    have h1 := run_len_pages (aft W2 u) m _ _ 3 ((aft_heap hmW).trans HmW2'.out)
    rw [show (ents 0 ps).toArray.size = ps.length by simp [ents_get]] at h1
    simp [execOp, resolve, invoke, builtin, Act.eval, h1, Result.andThen]
  simp only [Act.put, List.setIfInBounds_toArray, List.set_cons_zero, List.set_cons_succ]
  repeat (go_big_quiet_step (fail))
  refine wpQuiet_nil ?_
  rintro w5 ⟨u2, rfl⟩
  obtain ⟨W3, hW3⟩ : ∃ W3, aft W2 u2 = W3 := ⟨_, rfl⟩
  have bu : Hid (Below W2.heap.size W2 W3) := hid (by rw [← hW3]; exact aft_below W2 u2)
  rw [hW3]
  clear hW3
  have P4 := hid ((bu.out.block _ hwW).trans N4.out)
  have P7 := hid ((bu.out.block _ (blk_lt' N7.out)).trans N7.out)
  have PX := hid ((bu.out.block _ hXW).trans NX.out)
  have B4 := hid (B3.out.trans (bu.out.mono B3.out.size))
  clear c4 x0 x1 s0 s1 s2 hspW hwW hXW N4 N7 NX B3 HS2 HL2 bu HmW2' hmW
  have HS2 := hid (HS.out.below B4.out)
  have HL2 := hid (HL.out.below B4.out)
  have c4 : W3.cell? ⟨w.heap.size, 0, none⟩ = some (.pointer (some ⟨sp, 0, none⟩)) := by rw [cell_of_row W3 _ _ _ _ _ P4.out]; rfl
  have x0 : W3.cell? ⟨w1.heap.size, 0, none⟩ = some (.int .u64 a) := by rw [cell_of_row W3 _ _ _ _ _ PX.out]; rfl
  have x1 : W3.cell? ⟨w1.heap.size, 1, none⟩ = some (.int .u64 hi) := by rw [cell_of_row W3 _ _ _ _ _ PX.out]; rfl
  have hspW : sp < W3.heap.size := Nat.lt_of_lt_of_le hspl B4.out.size
  have hwW : w.heap.size < W3.heap.size := blk_lt' P4.out
  have hXW : w1.heap.size < W3.heap.size := blk_lt' PX.out
  go_wp2_with fail
  refine wp_region_quiet_tail 4 (fun w' => ∃ u, w' = aft W3 u) (by kernel_rfl) (by kernel_rfl) (aft_drew _) ?_
  simp only [List.take_succ_cons, List.take_zero, List.drop_succ_cons, List.drop_zero]
  repeat (go_big_quiet_step (fail))
  refine wpQuiet_nil ?_
  rintro w5 ⟨u3, rfl⟩
  obtain ⟨W4, hW4⟩ : ∃ W4, aft W3 u3 = W4 := ⟨_, rfl⟩
  have bu : Hid (Below W3.heap.size W3 W4) := hid (by rw [← hW4]; exact aft_below W3 u3)
  rw [hW4]
  clear hW4
  have Q4 := hid ((bu.out.block _ hwW).trans P4.out)
  have Q7 := hid ((bu.out.block _ (blk_lt' P7.out)).trans P7.out)
  have QX := hid ((bu.out.block _ hXW).trans PX.out)
  have B5 := hid (B4.out.trans (bu.out.mono B4.out.size))
  clear c4 x0 x1 hspW hwW hXW P4 P7 PX B4 HS2 HL2 bu
  have HS2 := hid (HS.out.below B5.out)
  have HL2 := hid (HL.out.below B5.out)
  go_wp2_with fail
  refine (setAdd_any sp 1 sl _ _ L (a, hi) W4 HS2.out.row (by decide) rfl HL2.out (by have := Hf.out.n1; have := Hhi.out; simp only; omega) HB.out Hr.out hl).mono ?_
  rintro e W6 ⟨rfl, v, ho6, hr6, hk6⟩
  have hm6 : m ∉ sp :: ownB sl := HS2.out.m_not HL2.out
  have hb6 : ∀ b cs t, W4.heap[b]? = some (.cells cs t (0, 0)) → t ≠ 74 → t ≠ 76 → b ∉ sp :: ownB sl := fun b cs t hb h1 h2 => HS2.out.b_not HL2.out hb h1 h2
  have HS6 : Hid (SpaceIs W6 sp m v q ps) := hid ⟨hr6, hk6.row HS2.out.map hm6, fun x hx => hk6.row (HS2.out.page x hx) (hb6 _ _ _ (HS2.out.page x hx) (by decide) (by decide)), HS2.out.good, HS2.out.nd⟩
  have R4 := hid (hk6.row Q4.out (hb6 _ _ _ Q4.out (by decide) (by decide)))
  have R7 := hid (hk6.row Q7.out (hb6 _ _ _ Q7.out (by decide) (by decide)))
  have hXlt : ∀ k ∈ ownB sl, k < w.heap.size := fun k hk => by
    have e := ownB_mem hk
    rcases HL.out.cases with ⟨rfl, _⟩ | ⟨g, cap, cur, rfl, _, hg, _⟩
    · cases e
    · simp only [Value.ownBlock, Option.some.injEq] at e
      rw [← e]; exact blk_lt' hg
  have RX := hid (hk6.row QX.out (fun hm => by
    rcases List.mem_cons.1 hm with e | hm
    · have := B5.out.size; omega
    · have := hXlt _ hm; omega))
  have K6 := hid ((Keep.of_below B5.out).trans hk6)
  have Ho6 := hid ho6
  have hsz4 : w.heap.size ≤ W4.heap.size := B5.out.size
  clear ho6 hr6 hk6 hm6 hb6 hXlt Q4 Q7 QX HS2 HL2 B5
  have x0 : W6.cell? ⟨w1.heap.size, 0, none⟩ = some (.int .u64 a) := by rw [cell_of_row W6 _ _ _ _ _ RX.out]; rfl
  have x1 : W6.cell? ⟨w1.heap.size, 1, none⟩ = some (.int .u64 hi) := by rw [cell_of_row W6 _ _ _ _ _ RX.out]; rfl
  go_wp2_with fail
  refine (each_any a hi _).mono ?_
  rintro e W7 ⟨rfl, rfl⟩
  go_wp2_with fail
  have hE : (W6.alloc (.cells #[.int .u64 (a : Int), .int .u64 (hi : Int)] 76)).heap[W6.heap.size]? = some (.cells #[.int .u64 (a : Int), .int .u64 ((a + n * 256 : Nat) : Int)] 76 (0, 0)) := by
    rw [Hhi.out]; exact heap_alloc_new _ _
  have B7 := hid (Below.alloc (Below.refl W6.heap.size W6) (Nat.le_refl _) (.cells #[.int .u64 (a : Int), .int .u64 (hi : Int)] 76))
  have S4 := hid ((B7.out.block _ (blk_lt' R4.out)).trans R4.out)
  have S7 := hid ((B7.out.block _ (blk_lt' R7.out)).trans R7.out)
  have HS7 := hid (HS6.out.below B7.out)
  obtain ⟨W7, hW7⟩ : ∃ W7, W6.alloc (.cells #[.int .u64 (a : Int), .int .u64 (hi : Int)] 76) = W7 := ⟨_, rfl⟩
  rw [hW7] at hE B7 S4 S7 HS7
  rw [hW7]
  have hEl := blk_lt' hE
  clear x0 x1
  refine (wpIn_wide (n := 5)).1 ?_
  refine wpIn_rangeFunc_ownG rfl (by omega) (gf := 62) (lb := #[.pointer (some ⟨W6.heap.size, 0, none⟩)]) rfl trivial (enters_of Tryz.func62 (by kernel_rfl) rfl)
    (each_stops Fence.wide 4 trivial rfl (by omega) W6.heap.size a n (by have := Hf.out.up; omega) _ hE) kpBlk_t (kpBlk_b hEl) (Below.refl _ _) (fun _ => rfl)
    (PInv a p n W7 sp m v q ps) (fun _ _ _ => False) (pinv_own (blk_lt' HS7.out.row) (blk_lt' HS7.out.map)) (fun _ _ _ _ _ hs _ _ => hs)
    ⟨[], rfl, by simp [blks], by simpa using HS7.out, Keep.refl _ _⟩ ?a1 ?assign ?body ?done ?stop
  case assign =>
    intro l x W K hK
    gi_wp2
    exact hK
  case body =>
    rintro l pre x W hI hlt
    have HI := hid hI
    obtain ⟨c4, c7, c0, hlts⟩ := pinv_cells hI ⟨_, _, HS7.out.map⟩ S4.out S7.out
    obtain ⟨l4, l7, ls⟩ := hlts
    have hbuild : ∀ w' : World, (Instr.build 85 #[(0, .int .i64 (p : Int))]).run Tryz.prog w' = .ok (.agg (pgCells (zeroPg p (a + x.1 * 256)))) w' := fun w' => by kernel_rfl
    obtain ⟨pgc, hpgc⟩ : ∃ pgc, pgCells (zeroPg p (a + x.1 * 256)) = pgc := ⟨_, rfl⟩
    obtain ⟨W', hrun, hI', hK2, hK⟩ := page_step hI (by have := Hf.out.p7; omega) Hf.out.al (by have := Hf.out.up; omega) Hno.out x (W2 := W.drew.alloc (.cells pgc 85)) (((Below.refl W.heap.size W).drew).alloc (Nat.le_refl _) _) (b := W.heap.size) (Nat.le_refl _) (by rw [hpgc]; exact heap_alloc_new W.drew _)
    rw [show ((a + x.1 * 256 : Nat) : Int) = (a : Int) + x.1 * 256 by omega] at hrun
    rw [hpgc] at hbuild
    clear hI
    gi_wp2
    refine region_round (by kernel_rfl) (by kernel_rfl) (fun ⟨_, _, h⟩ => h) ?_
    change wpAny _ _ _ _ _ _ _ (World.drew W)
    refine wpAny_take (i := 4) (v := .int .u64 ((a : Int) + x.1 * 256)) rfl (by kernel_rfl) (by kernel_rfl) (by kernel_rfl) (fun _ _ _ h => h) (Or.inl ⟨by rfl, fun w => by go_simp⟩) ?_
    have d4 : W.drew.cell? ⟨w.heap.size, 0, none⟩ = some (.pointer (some ⟨sp, 0, none⟩)) := c4
    have d7 : W.drew.cell? ⟨w.heap.size + 1, 0, none⟩ = some (.int .i64 (p : Int)) := c7
    have d0 : W.drew.cell? ⟨sp, 0, none⟩ = some (.map (some m)) := c0
    obtain ⟨E, hE2⟩ : ∃ E, W.drew.alloc (.cells pgc 85) = E := ⟨_, rfl⟩
    have e4 : E.cell? ⟨w.heap.size, 0, none⟩ = some (.pointer (some ⟨sp, 0, none⟩)) := by rw [← hE2, World.cell?_alloc_old _ _ _ (Nat.ne_of_lt l4)]; exact c4
    have e7 : E.cell? ⟨w.heap.size + 1, 0, none⟩ = some (.int .i64 (p : Int)) := by rw [← hE2, World.cell?_alloc_old _ _ _ (Nat.ne_of_lt l7)]; exact c7
    have e0 : E.cell? ⟨sp, 0, none⟩ = some (.map (some m)) := by rw [← hE2, World.cell?_alloc_old _ _ _ (Nat.ne_of_lt ls)]; exact c0
    have hbox : (Instr.box 85 (.agg pgc)).run Tryz.prog W.drew = .ok (.pointer (some ⟨W.heap.size, 0, none⟩)) E := by
      rw [← hE2]; go_simp
    rw [hE2] at hrun
    have hmW6 : m < W6.heap.size := blk_lt' HS6.out.map
    have hW7W : W7.heap.size ≤ W.heap.size := by obtain ⟨_, _, _, _, hh⟩ := HI.out; exact hh.size
    have hfin : KeepsFrom W7.heap.size W W' ∧ KpBlk W6.heap.size W W' ∧ PInv a p n W7 sp m v q ps (pre ++ [x]) W' :=
      ⟨⟨hK.size, fun k o hk ho _ => (hK.block k (blk_lt' ho) (by simp only [List.mem_singleton]; omega)).trans ho⟩, hK.block _ (by omega) (by simp only [List.mem_singleton]; omega), hI'⟩
    refine any2 (i := 0) (j := 5) (by kernel_rfl) ?_ ?_
    · refine wpOp_val (w' := W.drew) (v := .pointer (some ⟨sp, 0, none⟩)) rfl rfl (by go_simp) ?_
      refine wpAny_take (i := 1) (v := .pointer (some ⟨sp, 0, none⟩)) rfl (by kernel_rfl) (by kernel_rfl) (by kernel_rfl) (fun _ _ _ h => h) (Or.inl ⟨by rfl, fun w => by go_simp⟩) ?_
      refine wpAny_take (i := 2) (v := .pointer (some ⟨sp, 0, none⟩)) rfl (by kernel_rfl) (by kernel_rfl) (by kernel_rfl) (fun _ _ _ h => h) (Or.inl ⟨by rfl, fun w => by go_simp⟩) ?_
      refine any2 (i := 3) (j := 5) (by kernel_rfl) ?_ ?_
      · refine wpOp_val (w' := W.drew) (v := .map (some m)) rfl rfl (by go_simp) ?_
        refine any1 (i := 5) (by kernel_rfl) ?_
        refine wpOp_val (w' := W.drew) (v := .int .i64 p) rfl rfl (by go_simp) ?_
        refine wpAny_take (i := 6) (v := .agg pgc) rfl (by kernel_rfl) (by kernel_rfl) (by kernel_rfl) (fun _ _ _ h => h) (Or.inl ⟨by rfl, fun w => by (simp [execOp, Act.eval, Act.put, hbuild])⟩) ?_
        refine any1 (i := 7) (by kernel_rfl) ?_
        refine wpOp_val (w' := E) (v := .pointer (some ⟨W.heap.size, 0, none⟩)) rfl rfl (by (rw [← hE2]; go_simp)) ?_
        refine any1 (i := 8) (by kernel_rfl) ?_
        refine wpOp_none (w' := W') rfl rfl (by (simp [execOp, Act.eval, Act.put, hrun])) ?_
        exact ⟨by kernel_rfl, by (exact hfin)⟩
      · refine wpOp_val (w' := W.drew) (v := .int .i64 p) rfl rfl (by go_simp) ?_
        refine wpAny_take (i := 6) (v := .agg pgc) rfl (by kernel_rfl) (by kernel_rfl) (by kernel_rfl) (fun _ _ _ h => h) (Or.inl ⟨by rfl, fun w => by (simp [execOp, Act.eval, Act.put, hbuild])⟩) ?_
        refine any2 (i := 3) (j := 7) (by kernel_rfl) ?_ ?_
        · refine wpOp_val (w' := W.drew) (v := .map (some m)) rfl rfl (by go_simp) ?_
          refine any1 (i := 7) (by kernel_rfl) ?_
          refine wpOp_val (w' := E) (v := .pointer (some ⟨W.heap.size, 0, none⟩)) rfl rfl (by (rw [← hE2]; go_simp)) ?_
          refine any1 (i := 8) (by kernel_rfl) ?_
          refine wpOp_none (w' := W') rfl rfl (by (simp [execOp, Act.eval, Act.put, hrun])) ?_
          exact ⟨by kernel_rfl, by (exact hfin)⟩
        · refine wpOp_val (w' := E) (v := .pointer (some ⟨W.heap.size, 0, none⟩)) rfl rfl (by (rw [← hE2]; go_simp)) ?_
          refine any1 (i := 3) (by kernel_rfl) ?_
          refine wpOp_val (w' := E) (v := .map (some m)) rfl rfl (by go_simp) ?_
          refine any1 (i := 8) (by kernel_rfl) ?_
          refine wpOp_none (w' := W') rfl rfl (by (simp [execOp, Act.eval, Act.put, hrun])) ?_
          exact ⟨by kernel_rfl, by (exact hfin)⟩
    · refine wpOp_val (w' := W.drew) (v := .int .i64 p) rfl rfl (by go_simp) ?_
      refine wpAny_take (i := 6) (v := .agg pgc) rfl (by kernel_rfl) (by kernel_rfl) (by kernel_rfl) (fun _ _ _ h => h) (Or.inl ⟨by rfl, fun w => by (simp [execOp, Act.eval, Act.put, hbuild])⟩) ?_
      refine any2 (i := 0) (j := 7) (by kernel_rfl) ?_ ?_
      · refine wpOp_val (w' := W.drew) (v := .pointer (some ⟨sp, 0, none⟩)) rfl rfl (by go_simp) ?_
        refine wpAny_take (i := 1) (v := .pointer (some ⟨sp, 0, none⟩)) rfl (by kernel_rfl) (by kernel_rfl) (by kernel_rfl) (fun _ _ _ h => h) (Or.inl ⟨by rfl, fun w => by go_simp⟩) ?_
        refine wpAny_take (i := 2) (v := .pointer (some ⟨sp, 0, none⟩)) rfl (by kernel_rfl) (by kernel_rfl) (by kernel_rfl) (fun _ _ _ h => h) (Or.inl ⟨by rfl, fun w => by go_simp⟩) ?_
        refine any2 (i := 3) (j := 7) (by kernel_rfl) ?_ ?_
        · refine wpOp_val (w' := W.drew) (v := .map (some m)) rfl rfl (by go_simp) ?_
          refine any1 (i := 7) (by kernel_rfl) ?_
          refine wpOp_val (w' := E) (v := .pointer (some ⟨W.heap.size, 0, none⟩)) rfl rfl (by (rw [← hE2]; go_simp)) ?_
          refine any1 (i := 8) (by kernel_rfl) ?_
          refine wpOp_none (w' := W') rfl rfl (by (simp [execOp, Act.eval, Act.put, hrun])) ?_
          exact ⟨by kernel_rfl, by (exact hfin)⟩
        · refine wpOp_val (w' := E) (v := .pointer (some ⟨W.heap.size, 0, none⟩)) rfl rfl (by (rw [← hE2]; go_simp)) ?_
          refine any1 (i := 3) (by kernel_rfl) ?_
          refine wpOp_val (w' := E) (v := .map (some m)) rfl rfl (by go_simp) ?_
          refine any1 (i := 8) (by kernel_rfl) ?_
          refine wpOp_none (w' := W') rfl rfl (by (simp [execOp, Act.eval, Act.put, hrun])) ?_
          exact ⟨by kernel_rfl, by (exact hfin)⟩
      · refine wpOp_val (w' := E) (v := .pointer (some ⟨W.heap.size, 0, none⟩)) rfl rfl (by (rw [← hE2]; go_simp)) ?_
        refine any1 (i := 0) (by kernel_rfl) ?_
        refine wpOp_val (w' := E) (v := .pointer (some ⟨sp, 0, none⟩)) rfl rfl (by go_simp) ?_
        refine wpAny_take (i := 1) (v := .pointer (some ⟨sp, 0, none⟩)) rfl (by kernel_rfl) (by kernel_rfl) (by kernel_rfl) (fun _ _ _ h => h) (Or.inl ⟨by rfl, fun w => by go_simp⟩) ?_
        refine wpAny_take (i := 2) (v := .pointer (some ⟨sp, 0, none⟩)) rfl (by kernel_rfl) (by kernel_rfl) (by kernel_rfl) (fun _ _ _ h => h) (Or.inl ⟨by rfl, fun w => by go_simp⟩) ?_
        refine any1 (i := 3) (by kernel_rfl) ?_
        refine wpOp_val (w' := E) (v := .map (some m)) rfl rfl (by go_simp) ?_
        refine any1 (i := 8) (by kernel_rfl) ?_
        refine wpOp_none (w' := W') rfl rfl (by (simp [execOp, Act.eval, Act.put, hrun])) ?_
        exact ⟨by kernel_rfl, by (exact hfin)⟩
  case done =>
    rintro D ys W hD rfl hI hK
    go_wp2_with fail
    refine ⟨by simp, .inl ⟨_, _, rfl, run_takeDeferred hK, ?_⟩⟩
    refine ⟨_, results_tmp rfl _ _ _, rfl, ?_⟩
    have hI2 := pinv_own (a := a) (p := p) (n := n) (v := v) (q := q) (ps := ps) (blk_lt' HS7.out.row) (blk_lt' HS7.out.map) _ _ _ _ hI (grownBy_putObj' W D (.deferred none)) (fun r e => by cases e; exact ⟨hD, _, hK, rfl⟩)
    obtain ⟨qs, hqs, hbl, hSp, hKp⟩ := hI2
    rw [finRange_map, ddup_range] at hqs
    have hset : SetIs W7 v (joinL (L ++ [(a, hi)])) := SetIs.below (Ho6.out.base (Nat.zero_le _)).owns B7.out
    refine ⟨v, qs, hSp, hqs, fun b hb => ?_, hset.keep hKp ?_, ?_, ?_⟩
    · have := hbl b hb
      have := K6.out.size
      have := B7.out.size
      omega
    · intro k hk hkm
      obtain rfl := List.mem_singleton.1 hkm
      exact absurd (List.mem_cons_of_mem _ hk) (HS7.out.m_not hset)
    · exact (K6.out.mono (by intro k hk; rcases List.mem_cons.1 hk with rfl | hk <;> simp [*])).trans (((Keep.of_below B7.out)).trans (hKp.mono (by intro k hk; obtain rfl := List.mem_singleton.1 hk; simp)))
    · intro k hk; exact Nat.le_trans hsz4 (Ho6.out.own k hk)
  case stop =>
    rintro D c pre W _ _ h _
    exact h.elim
end
end Go.Proofs.YtiemingpbommeaaGreatDoor
