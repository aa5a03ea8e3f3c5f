/- A space of three pages: the keys of its map, one by one, in whatever order. -/
import Derived.Test.YtiemingpbommeaaGreatDoorGp
import Derived.Sort.MapsRangeIn
import Derived.RangeFuncSeq
import Derived.Lib.SlKeysI
import Derived.Test.YtiemingpbommeaaGreatDoorHf
namespace Go.Proofs.YtiemingpbommeaaGreatDoor
open Go Go.RowKit Go.Shelf Go.Maps Go.WideElems
noncomputable section
set_option linter.unusedVariables false
set_option linter.unusedSimpArgs false
attribute [local go_sem] Oper.semAt_some

/-- three pages, where the law's own code lays them -/
def Three (ps : List (Pg × Nat)) : Prop := ps.map (fun x => x.1.a) = [65536, 65792, 66048]
theorem Three.form {ps : List (Pg × Nat)} (h : Three ps) : ∃ g0 b0 g1 b1 g2 b2, ps = [(g0, b0), (g1, b1), (g2, b2)] ∧ g0.a = 65536 ∧ g1.a = 65792 ∧ g2.a = 66048 := by
  unfold Three at h
  rcases ps with _ | ⟨⟨g0, b0⟩, _ | ⟨⟨g1, b1⟩, _ | ⟨⟨g2, b2⟩, _ | ⟨x, ps⟩⟩⟩⟩
  · simp at h
  · simp at h
  · simp at h
  · simp at h
    exact ⟨g0, b0, g1, b1, g2, b2, rfl, h.1, h.2.1, h.2.2⟩
  · simp at h

def K3 : List Int := [65536, 65792, 66048]
def D3 : DataW Unit := .map [(.int .u64 65536, .nil), (.int .u64 65792, .nil), (.int .u64 66048, .nil)]
def R3 : Value → Option (DataW Unit × List MemPlace) := fun _ => some (.nil, [])

theorem owns3 {w : World} {m : Nat} {ps : List (Pg × Nat)} (hm : w.heap[m]? = some (.map (ents 0 ps).toArray ps.length)) (h : Three ps) : w.ownsMap Tryz.prog 23 R3 m 3 D3 := by
  obtain ⟨⟨a0, p0, l0⟩, b0, ⟨a1, p1, l1⟩, b1, ⟨a2, p2, l2⟩, b2, rfl, h0, h1, h2⟩ := h.form
  simp only at h0 h1 h2
  subst h0; subst h1; subst h2
  refine ⟨_, _, hm, ⟨by simp [ents, maxLen], ⟨?_, ?_, ?_⟩, ?_⟩, by simp [ents], ?_⟩
  · intro x hx
    simp only [ents, List.mem_cons, List.mem_nil_iff, or_false] at hx
    rcases hx with rfl | rfl | rfl <;> simp
  · simp [ents]
  · simp [ents]
  · intro x hx
    simp only [ents, List.mem_cons, List.mem_nil_iff, or_false] at hx
    rcases hx with rfl | rfl | rfl
    · exact ⟨(.int .u64 65536, .nil), by kernel_rfl⟩
    · exact ⟨(.int .u64 65792, .nil), by kernel_rfl⟩
    · exact ⟨(.int .u64 66048, .nil), by kernel_rfl⟩
  · kernel_rfl

/-- the keys met so far -/
def Coll (left : Lit → Bool) (ss : List Int) : Prop := ss.Nodup ∧ ∀ x : Int, x ∈ ss ↔ (has D3 (.int .u64 x) = true ∧ left (.int .u64 x) = false)
theorem Coll.start : Coll (has D3) [] := ⟨List.nodup_nil, fun x => by cases has D3 (.int .u64 x) <;> simp⟩
theorem Coll.step {left : Lit → Bool} {ss : List Int} (h : Coll left ss) {x : Int} {y : DataW Unit} (hlk : left (.int .u64 x) = true) (hat : ∀ zd, D3.atKey (.int .u64 x) zd = y) : Coll (fun z => left z && !z.sameKey (.int .u64 x)) (ss ++ [x]) := by
  have hhas : has D3 (.int .u64 x) = true := has_true_of_atKey hat
  have hnew : x ∉ ss := fun hx => by have := ((h.2 x).1 hx).2; rw [hlk] at this; cases this
  refine ⟨List.nodup_append.2 ⟨h.1, by simp, fun a ha b hb => by simp at hb; subst hb; exact fun e => hnew (e ▸ ha)⟩, fun y => ?_⟩
  by_cases hy : y = x
  · subst hy; simp [hhas, Lit.sameKey]
  · simp [h.2 y, hy, Lit.sameKey]
theorem has3 (x : Int) : has D3 (.int .u64 x) = true ↔ x ∈ K3 := by
  simp [D3, has, K3, Lit.sameKey]
  omega
theorem Coll.perm {left : Lit → Bool} {ss : List Int} (h : Coll left ss) (hl : ∀ kl, left kl = false) : ss.Perm K3 := by
  refine (List.perm_ext_iff_of_nodup h.1 (by decide)).2 fun x => ?_
  rw [h.2 x, hl, has3]
  simp

set_option maxHeartbeats 1000000 in
set_option maxRecDepth 100000 in
theorem keys_in (F : Fence) (n : Nat) (hF : F.fn 125) (hro : F.round = none) (hn : 1 ≤ n) (l Bm b : Nat) (J Jx : List Int → World → Prop)
    (hY : ∀ pre x W, J pre W → pre.length < 3 → YieldAt F (n - 1) Tryz.prog l #[.int .u64 x] W fun e W' => (e = .returned (.bool true) ∧ J (pre ++ [x]) W' ∧ KeepsWalks W W') ∨ (e = .returned (.bool false) ∧ Jx (pre ++ [x]) W'))
    (W : World) (hJ : AbidesFrom W.heap.size J) (hm : W.cell? ⟨Bm, 0, none⟩ = some (.map (some b))) (hown : W.ownsMap Tryz.prog 23 R3 b 3 D3) (h0 : J [] W) :
    CallsIn F n Tryz.prog 125 #[.func (.yield l) #[] #[], .pointer (some ⟨Bm, 0, none⟩)] W fun e W' => (∃ v, e = .returned v) ∧
      ((∃ ss, ss.Perm K3 ∧ J ss W') ∨ (∃ pre, True ∧ Jx pre W')) := by
  have K := Maps.int_keyed (P := Tryz.prog) Tryz.underlying23
  refine callsIn_of_wp Tryz.func125 rfl hF ?_ hro
  simp only [Tryz.ntmps125, List.size_toArray, List.length_cons, List.length_nil, Nat.reduceAdd, Nat.reduceSub, Array.replicate_succ, Array.replicate_zero, List.push_toArray, List.append_toArray, List.nil_append, List.cons_append]
  gi_wp2_with (first
    | (gi_at_range; refine wpListIn_range_own _ rfl _ 69 rfl 23 82 K Tryz.underlying69 _ b 3 _ rfl hown ?_; intro w0 hrg0 hg0 hs0)
    | gi_in)
  go_frame
  gi_loopw [3] (fun _ wr => ∃ (left : Lit → Bool) (cnt : Nat) (ss : List Int), wr.ranges Tryz.prog 23 R3 b W.heap.size 3 D3 left cnt ∧ ss.length + cnt ≤ 3 ∧ Coll left ss ∧ J ss wr)
    (fun _ wr => wr.rangeLeft b W.heap.size)
  case atStart =>
    exact ⟨_, _, [], hrg0, by simp [D3, Maps.size], Coll.start, hJ [] W w0 none h0 hg0 (fun r e => by cases e)⟩
  case round =>
    obtain ⟨left, cnt, ss, hrg, hcs, hC, hJs⟩ := hrel
    gi_wp2_with (first
      | (gi_at_next; refine wpListIn_next_ranges _ rfl _ rfl 23 K R3 (Value.int .u64) id (fun key kl hk => by obtain ⟨x, rfl, _⟩ := Maps.keyOf_int_inv Tryz.underlying23 hk; exact ⟨x, rfl⟩) (fun v _ _ => ⟨v, rfl⟩) b W.heap.size 3 _ _ _ rfl hrg ?_ ?_)
      | gi_in)
    · intro hc0 hl0
      gi_wp2
      go_end0
      exact ⟨⟨_, rfl⟩, .inl ⟨ss, hC.perm hl0, hJs⟩⟩
    · intro x c kl yd yp w2 cnt2 hkey hlk hv hat hrg2 hlt hg2 hs2 hen
      obtain ⟨x', ex, rfl, _⟩ := Maps.keyOf_int_inv Tryz.underlying23 hkey
      obtain rfl : x = x' := by simpa using ex
      have hJ2 : J ss w2 := hJ ss wr w2 (some W.heap.size) hJs hg2 (fun r e => by cases e; exact ⟨Nat.le_refl _, hrg.iter_walk⟩)
      obtain ⟨fn, tmps, assign, body, hy, hR⟩ := hY ss x w2 hJ2 (by omega)
      clear hs2
      gi_wp2
      refine hR.mono ?_
      rintro e W3 (⟨rfl, hJ3, hk3⟩ | ⟨rfl, hJx3⟩)
      · gi_wp2
        have hrg3 := hrg2.of_walks hk3
        go_roundw
        case rel => exact ⟨_, cnt2, ss ++ [x], hrg3, by simp; omega, hC.step hlk hat, hJ3⟩
        case measure => rw [hrg3.left_eq, hrg.left_eq]; exact hlt
      · gi_wp2
        refine bodyPost_ret (results_none rfl _ _ _) rfl ?_
        exact ⟨⟨_, rfl⟩, .inr ⟨_, trivial, hJx3⟩⟩

/-- maps.Keys HANDS BACK the keys -/
theorem keys_stops (F : Fence) (n : Nat) (hF : F.fn 125) (hro : F.round = none) (hn : 1 ≤ n) (Bm b : Nat) (w : World) (hBm : Bm < w.heap.size) (hm : w.cell? ⟨Bm, 0, none⟩ = some (.map (some b))) (hown : w.ownsMap Tryz.prog 23 R3 b 3 D3) :
    SeqStopsK F n Tryz.prog 125 #[.pointer (some ⟨Bm, 0, none⟩)] (fun x : Int => #[Value.int .u64 x]) KeepsWalks (fun ss => ss.Perm K3) (fun _ => True) 3 w := fun l J Jx W hW hJ _ hY h0 => by
  have hown' : W.ownsMap Tryz.prog 23 R3 b 3 D3 := by
    have hbl := hown.lt
    obtain ⟨es, clock, hb, Ft, hs, hD⟩ := hown
    exact ⟨es, clock, (hW.block b hbl).trans hb, Ft, hs, hD⟩
  exact keys_in F n hF hro hn l Bm b J Jx hY W hJ ((hW.cell (p := ⟨Bm, 0, none⟩) hBm).trans hm) hown' h0
end
end Go.Proofs.YtiemingpbommeaaGreatDoor

/- A space of three pages: the keys of its map, collected. -/
namespace Go.Proofs.YtiemingpbommeaaGreatDoor
open Go Go.RowKit Go.Shelf Go.Maps
noncomputable section
set_option linter.unusedVariables false
set_option linter.unusedSimpArgs false
attribute [local go_sem] Oper.semAt_some

theorem infoU64 : (Tryz.prog.info? 23).map (fun i => (i.zero, i.size, i.bytes)) = some (some (.int .u64 0), 1, 8) := by kernel_rfl
def u64s (ss : List Int) : List Value := ss.map fun x => .int .u64 x
theorem own_far {B e s n k : Nat} {w : World} {v : Value} {xs : List Value} (h : w.ownsRow B e s v n xs) (hk : k < B) : some k ≠ v.ownBlock := by
  rcases h.2 with ⟨rfl, _⟩ | ⟨g, cap, cur, rfl, hB, _⟩
  · simp [Value.ownBlock]
  · simp only [Value.ownBlock, ne_eq, Option.some.injEq]; omega
theorem own_form {B e s n : Nat} {w : World} {v : Value} {xs : List Value} (h : w.ownsRow B e s v (n + 1) xs) : ∃ g cap, v = .slice (some ⟨g, 0, none⟩) (n + 1) cap := by
  rcases h.2 with ⟨_, h0⟩ | ⟨g, cap, cur, rfl, _⟩
  · omega
  · exact ⟨g, cap, rfl⟩
theorem growCell {w W0 w6 : World} {row : Option Nat} {X i : Nat} {v : Value} (hb : Below w.heap.size w W0) (hg : W0.grownBy w6 row) (hf : some X ≠ row) (hX : X < w.heap.size) (x0 : w.cell? ⟨X, i, none⟩ = some v) : w6.cell? ⟨X, i, none⟩ = some v :=
  (hg.cell_far ⟨X, i, none⟩ (Nat.lt_of_lt_of_le hX hb.size) hf).trans ((hb.cell (p := ⟨X, i, none⟩) hX).trans x0)
theorem growFrozen {w W0 w6 : World} {row : Option Nat} {X i : Nat} (hb : Below w.heap.size w W0) (hg : W0.grownBy w6 row) (hf : some X ≠ row) (hX : X < w.heap.size) (x0 : w.frozen? ⟨X, i, none⟩ = false) : w6.frozen? ⟨X, i, none⟩ = false :=
  (hg.frozen_far ⟨X, i, none⟩ (Nat.lt_of_lt_of_le hX hb.size) hf).trans ((hb.frozen (p := ⟨X, i, none⟩) hX).trans x0)
/-- between two rounds: what has come so far -/
def CInv (w : World) (ss : List Int) (W : World) : Prop := ∃ v, W.heap[w.heap.size]? = some (.cells #[v] 50 (0, 0)) ∧ W.ownsRow (w.heap.size + 1) 23 1 v ss.length (u64s ss) ∧ Below w.heap.size w W
theorem cinv_own (w : World) (B : Nat) (hB : w.heap.size ≤ B) : OwnFrom B (CInv w) := by
  intro ss A C row h hg hr
  obtain ⟨v, h1, h2, h3⟩ := h
  have hk : ∀ (k : Nat) (cs : Array Value) (t : TypeId) (z : Nat × Nat), A.heap[k]? = some (.cells cs t z) → C.heap[k]? = some (.cells cs t z) := fun k cs t z hk => by
    rw [hg.block k (Array.getElem?_eq_some_iff.1 hk).1 (fun e => by
      obtain ⟨_, o, ho, hc⟩ := hr k e.symm
      rw [hk] at ho
      cases ho
      cases hc)]
    exact hk
  refine ⟨v, hk _ _ _ _ h1, ?_, h3.grown hg h3.size (fun k e => Nat.le_trans hB (hr k e).1)⟩
  obtain ⟨e1, e2⟩ := h2
  refine ⟨e1, ?_⟩
  rcases e2 with e2 | ⟨g, cap, cur, e, hb, hgg, r⟩
  · exact .inl e2
  · exact .inr ⟨g, cap, cur, e, hb, hk _ _ _ _ hgg, r⟩

theorem walk_cells {o : Obj} (h : o.isWalk = true) : o.isCells = false := by cases o <;> first | rfl | cases h
theorem cinv_step {w W w3 : World} {pre : List Int} {x : Int} {v : Value} {g' cap' : Nat} (h1 : W.heap[w.heap.size]? = some (.cells #[v] 50 (0, 0))) (h2 : W.ownsRow (w.heap.size + 1) 23 1 v pre.length (u64s pre)) (h3 : Below w.heap.size w W)
    (hg3 : (W.alloc (.cells #[.int .u64 x] 23)).grownBy w3 v.ownBlock) (hown : w3.ownsRow (w.heap.size + 1) 23 1 (.slice (some ⟨g', 0, none⟩) (pre.length + 1) cap') (pre.length + 1) (u64s pre ++ [.int .u64 x])) :
    W.heap.size ≤ (w3.setCell ⟨w.heap.size, 0, none⟩ (.slice (some ⟨g', 0, none⟩) (pre.length + 1) cap')).heap.size ∧
    (∀ (k : Nat) (o : Obj), W.heap[k]? = some o → o.isCells = false → (w3.setCell ⟨w.heap.size, 0, none⟩ (.slice (some ⟨g', 0, none⟩) (pre.length + 1) cap')).heap[k]? = some o) ∧
    CInv w (pre ++ [x]) (w3.setCell ⟨w.heap.size, 0, none⟩ (.slice (some ⟨g', 0, none⟩) (pre.length + 1) cap')) := by
  have hs0 := hg3.size
  rw [World.size_alloc] at hs0
  have hk : ∀ (k : Nat) (o : Obj), W.heap[k]? = some o → some k ≠ v.ownBlock → w3.heap[k]? = some o := fun k o ho hn => by
    have hl := (Array.getElem?_eq_some_iff.1 ho).1
    rw [hg3.block k (by rw [World.size_alloc]; omega) hn, Below.heap_alloc _ _ _ hl, ho]
  have r3 := hk _ _ h1 (own_far h2 (Nat.lt_succ_self _))
  refine ⟨by simp [World.setCell]; omega, fun k o ho hc => ?_, ?_⟩
  · have hkb : k ≠ w.heap.size := fun e => by subst e; rw [h1] at ho; cases ho; cases hc
    rw [heap_setCell_other _ _ _ _ (by simp only; omega)]
    refine hk k o ho ?_
    rcases h2.2 with ⟨rfl, _⟩ | ⟨g, cap, cur, rfl, _, hgg, _⟩
    · simp [Value.ownBlock]
    · intro e
      simp only [Value.ownBlock, Option.some.injEq] at e
      subst e
      rw [hgg] at ho
      cases ho
      cases hc
  · refine ⟨_, heap_setCell_same _ _ _ _ _ _ r3, ?_, ?_⟩
    · rw [List.length_append]
      unfold u64s
      rw [List.map_append]
      exact World.ownsRow.kept (row := some w.heap.size) hown (World.grownBy_setCell w3 ⟨w.heap.size, 0, none⟩ _) (.inr (fun e => own_far hown (Nat.lt_succ_self _) e.symm))
    · refine Below.setCell (p := ⟨w.heap.size, 0, none⟩) ?_ (Nat.le_refl _) _
      refine (h3.alloc h3.size _).grown hg3 (by have := h3.size; simp; omega) fun k e => ?_
      rcases h2.2 with ⟨rfl, _⟩ | ⟨g, cap, cur, rfl, hB, _⟩
      · cases e
      · simp only [Value.ownBlock, Option.some.injEq] at e; omega

set_option maxHeartbeats 4000000 in
set_option maxRecDepth 100000 in
theorem appendSeq_any (Bm b : Nat) (w : World) (hBm : Bm < w.heap.size) (hm : w.cell? ⟨Bm, 0, none⟩ = some (.map (some b))) (hown : w.ownsMap Tryz.prog 23 R3 b 3 D3) :
    Calls Tryz.prog 142 #[.slice none 0 0, .func (.func 125) #[] #[.pointer (some ⟨Bm, 0, none⟩)]] w fun e w' =>
      ∃ v ss, e = .returned v ∧ ss.Perm K3 ∧ w'.ownsRow (w.heap.size + 1) 23 1 v ss.length (u64s ss) ∧ Below w.heap.size w w' := by
  have Hown := hid hown
  clear hown
  refine (callsIn_wide (n := 5)).1 (callsIn_of_wp_marks Tryz.func142 rfl trivial (wpIn_wide.2 ?_) rfl)
  simp only [Tryz.ntmps142, List.size_toArray, List.length_cons, List.length_nil, Nat.reduceAdd, Nat.reduceSub, Array.replicate_succ, Array.replicate_zero, List.push_toArray, List.append_toArray, List.nil_append, List.cons_append]
  go_wp2_with fail
  obtain ⟨W1, hW1⟩ : ∃ W1, w.alloc (.cells #[.slice none 0 0] 50) = W1 := ⟨_, rfl⟩
  have HB1 : Below w.heap.size w W1 := by rw [← hW1]; exact (Below.refl _ _).alloc (Nat.le_refl _) _
  have N1 : W1.heap[w.heap.size]? = some (.cells #[.slice none 0 0] 50 (0, 0)) := by rw [← hW1]; exact heap_alloc_new _ _
  rw [hW1]
  clear hW1
  have hws : w.heap.size ≤ W1.heap.size := HB1.size
  obtain ⟨i0, hi, hz0, hz1, hz2⟩ := info_parts infoU64
  have Hi := hid hi
  have Hz0 := hid hz0
  have Hz1 := hid hz1
  have Hz2 := hid hz2
  clear hi hz0 hz1 hz2
  refine (wpIn_wide (n := 5)).1 ?_
  refine wpIn_rangeFunc_ownG rfl (by omega) (gf := 125) (lb := #[.pointer (some ⟨Bm, 0, none⟩)]) rfl trivial (enters_of Tryz.func125 (by kernel_rfl) rfl)
    (keys_stops Fence.wide 4 trivial rfl (by omega) Bm b w hBm hm Hown.out) (fun h k => KeepsWalks.trans h k) (fun W l o o' _ h _ hw => KeepsWalks.putObj o' h hw) HB1 (fun _ => rfl)
    (CInv w) (fun _ _ _ => False) (cinv_own w _ hws) (fun _ _ _ _ _ hs _ _ => hs)
    ⟨_, N1, ⟨rfl, .inl ⟨rfl, rfl⟩⟩, HB1⟩ ?a1 ?assign ?body ?done ?stop
  case assign =>
    intro l x W K hK
    gi_wp2
    exact hK
  case body =>
    rintro l pre x W ⟨v, h1, h2, h3⟩ hlt
    have c2 : W.cell? ⟨w.heap.size, 0, none⟩ = some v := by rw [cell_of_row _ _ _ _ _ _ h1]; rfl
    have f2 := frozen_of_row W w.heap.size 0 _ _ h1
    have hwl : w.heap.size < W.heap.size := blk_lt' h1
    have H1 := hid h1
    have H2 := hid h2
    have H3 := hid h3
    have Hfar : Hid (some w.heap.size ≠ v.ownBlock) := hid (own_far h2 (Nat.lt_succ_self _))
    clear h1 h2 h3
    gi_wp2_with (first
      | (gi_at_builtin; refine wpListIn_append_own _ rfl _ _ 50 rfl (w.heap.size + 1) 23 i0 (.int .u64 0) 1 8 Tryz.underlying50 Hi.out Hz0.out Hz1.out Hz2.out rfl (by decide) v pre.length (u64s pre) rfl (H2.out.alloc _) ⟨W.heap.size, 0, none⟩ 1 1 [.int .u64 x] rfl rfl (World.news_of_block (heap_alloc_new _ _)) (by simp [Value.oneCell']) (by unfold maxLen; omega) (by omega) (by simp; omega) ?_; intro v' w3 hown' hg3 hnil3
         obtain ⟨g', cap', rfl⟩ := own_form hown'
         have c3 : w3.cell? ⟨w.heap.size, 0, none⟩ = some v := growCell ((Below.refl _ _).alloc (Nat.le_refl _) _) hg3 Hfar.out hwl c2
         have f3 : w3.frozen? ⟨w.heap.size, 0, none⟩ = false := growFrozen ((Below.refl _ _).alloc (Nat.le_refl _) _) hg3 Hfar.out hwl f2
         go_frame)
      | gi_in)
    obtain ⟨e1, e2, e3⟩ := cinv_step H1.out H2.out H3.out hg3 hown'
    exact ⟨⟨e1, fun k o _ hk ho => e2 k o hk ho⟩, ⟨e1, fun k o hk ho => e2 k o hk (walk_cells ho)⟩, e3⟩
  case done =>
    rintro D ss W hD hS hI hK
    obtain ⟨v, h1, h2, h3⟩ := hI
    have c2 : W.cell? ⟨w.heap.size, 0, none⟩ = some v := by rw [cell_of_row _ _ _ _ _ _ h1]; rfl
    have HI : Hid (CInv w ss (W.putObj D (.deferred none))) := hid (cinv_own w W1.heap.size hws _ _ _ _ ⟨v, h1, h2, h3⟩ (grownBy_putObj' W D (.deferred none)) (fun r e => by cases e; exact ⟨hD, _, hK, rfl⟩))
    have Hrow := hid h1
    clear h1 h2 h3
    go_wp2_with fail
    refine ⟨by simp, .inl ⟨_, _, rfl, run_takeDeferred hK, ?_⟩⟩
    refine ⟨_, results_tmp rfl _ _ _, ?_⟩
    obtain ⟨v', g1, g2, g3⟩ := HI.out
    have hv : v' = v := by
      have hne : D ≠ w.heap.size := fun e => by
        subst e
        have := Hrow.out
        rw [hK] at this
        cases this
      have : (W.putObj D (.deferred none)).heap[w.heap.size]? = _ := (World.putObj_heap_other hne.symm).trans Hrow.out
      rw [g1] at this
      cases this
      rfl
    subst hv
    exact ⟨v', ss, rfl, hS, g2, g3⟩
  case stop =>
    rintro D c pre W _ _ h _
    exact h.elim
end
end Go.Proofs.YtiemingpbommeaaGreatDoor
