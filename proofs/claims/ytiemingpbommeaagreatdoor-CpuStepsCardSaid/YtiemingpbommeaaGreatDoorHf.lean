/- The document's spaces: pages are mapped behind all others. -/
import Derived.Test.YtiemingpbommeaaGreatDoorHe
import Derived.Deep.AppendLies
import Derived.Deep.RegionLaw
import Derived.Deep.Upon
namespace Go.Proofs.YtiemingpbommeaaGreatDoor
open Go Go.RowKit
noncomputable section
set_option linter.unusedVariables false
set_option linter.unusedSimpArgs false
theorem findI_behind {M : List Pg} {a y : Nat} (h : ∀ x ∈ M, x.a < a) (ha : a % 256 = 0) (hy : a ≤ y) : findI M y = -1 := by
  refine findI_none fun j hj => ?_
  rw [beq_eq_false_iff_ne]
  have hm : M.getD j ⟨0, 0, []⟩ ∈ M := by rw [List.getD_eq_getElem?_getD, List.getElem?_eq_getElem hj, Option.getD_some]; exact List.getElem_mem hj
  have := h _ hm
  omega
theorem infoPage : (Tryz.prog.info? 135).map (fun i => (i.zero, i.size, i.bytes)) = some (some (.agg #[.int .u64 0, .int .i64 0, .string ⟨#[]⟩]), 3, 32) := by kernel_rfl
theorem infoSpace : (Tryz.prog.info? 54).map (fun x => x.size) = some 2 := by kernel_rfl
theorem convert_blank (m : Nat) (w : World) :
    (convert 90 9 (.slice (some ⟨w.heap.size, 0, none⟩) m m)).run Tryz.prog (w.alloc (.cells (List.replicate m (Value.int .u8 0)).toArray 5)) = .ok (.string ⟨(List.replicate m (0 : UInt8)).toArray⟩) (w.alloc (.cells (List.replicate m (Value.int .u8 0)).toArray 5)) := by
  have := run_convert_bytes_back (P := Tryz.prog) (w.alloc (.cells (List.replicate m (Value.int .u8 0)).toArray 5)) 90 9 5 ⟨w.heap.size, 0, none⟩ m (List.replicate m (0 : UInt8)) Tryz.underlying90 Tryz.underlying5 Tryz.underlying9 (fun j hj => by
    have e : (⟨w.heap.size, 0, none⟩ : Addr).add j = ⟨w.heap.size, j, none⟩ := by unfold Addr.add; split <;> simp_all
    rw [List.length_replicate] at hj
    rw [e, cell_of_row _ _ _ _ _ _ (heap_alloc_new w _), List.getElem?_toArray, List.getElem?_replicate]
    simp [hj])
  rw [List.length_replicate] at this
  exact this
theorem convert_blank_drew (m : Nat) (w : World) :
    (convert 90 9 (.slice (some ⟨w.heap.size, 0, none⟩) m m)).run Tryz.prog (w.alloc (.cells (List.replicate m (Value.int .u8 0)).toArray 5)).drew = .ok (.string ⟨(List.replicate m (0 : UInt8)).toArray⟩) (w.alloc (.cells (List.replicate m (Value.int .u8 0)).toArray 5)).drew := by
  have := run_convert_bytes_back (P := Tryz.prog) (w.alloc (.cells (List.replicate m (Value.int .u8 0)).toArray 5)).drew 90 9 5 ⟨w.heap.size, 0, none⟩ m (List.replicate m (0 : UInt8)) Tryz.underlying90 Tryz.underlying5 Tryz.underlying9 (fun j hj => by
    have e : (⟨w.heap.size, 0, none⟩ : Addr).add j = ⟨w.heap.size, j, none⟩ := by unfold Addr.add; split <;> simp_all
    have hh : (w.alloc (.cells (List.replicate m (Value.int .u8 0)).toArray 5)).drew.heap[w.heap.size]? = some (.cells (List.replicate m (Value.int .u8 0)).toArray 5 (0, 0)) := heap_alloc_new w _
    rw [List.length_replicate] at hj
    rw [e, cell_of_row _ _ _ _ _ _ hh, List.getElem?_toArray, List.getElem?_replicate]
    simp [hj])
  rw [List.length_replicate] at this
  exact this
theorem blank_page : (∀ w : World, (Instr.makeSlice 90 (.int .i64 256) (.int .i64 256)).run Tryz.prog w = .ok (.slice (some ⟨w.heap.size, 0, none⟩) 256 256) (w.alloc (.cells (List.replicate 256 (Value.int .u8 0)).toArray 5))) ∧
    ∀ w : World, (convert 90 9 (.slice (some ⟨w.heap.size, 0, none⟩) 256 256)).run Tryz.prog (w.alloc (.cells (List.replicate 256 (Value.int .u8 0)).toArray 5)) = .ok (.string ⟨(List.replicate 256 (0 : UInt8)).toArray⟩) (w.alloc (.cells (List.replicate 256 (Value.int .u8 0)).toArray 5)) :=
  ⟨fun w => run_make_bytes 256 (by decide) w, fun w => convert_blank 256 w⟩
theorem blank_drew : ∀ w : World, (convert 90 9 (.slice (some ⟨w.heap.size, 0, none⟩) 256 256)).run Tryz.prog (w.alloc (.cells (List.replicate 256 (Value.int .u8 0)).toArray 5)).drew = .ok (.string ⟨(List.replicate 256 (0 : UInt8)).toArray⟩) (w.alloc (.cells (List.replicate 256 (Value.int .u8 0)).toArray 5)).drew := fun w => convert_blank_drew 256 w
theorem after_grow {wr W0 w6 : World} {row : Option Nat} {X i : Nat} {v : Value} (hb : Below wr.heap.size wr W0) (hg : W0.grownBy w6 row) (hf : some X ≠ row) (hX : X < wr.heap.size) (x0 : wr.cell? ⟨X, i, none⟩ = some v) (fx : wr.frozen? ⟨X, i, none⟩ = false) :
    w6.cell? ⟨X, i, none⟩ = some v ∧ w6.frozen? ⟨X, i, none⟩ = false :=
  ⟨(hg.cell_far ⟨X, i, none⟩ (Nat.lt_of_lt_of_le hX hb.size) hf).trans ((hb.cell (p := ⟨X, i, none⟩) hX).trans x0), (hg.frozen_far ⟨X, i, none⟩ (Nat.lt_of_lt_of_le hX hb.size) hf).trans ((hb.frozen (p := ⟨X, i, none⟩) hX).trans fx)⟩
section
variable {P : Program}
theorem src_none (w : World) {tx e' : TypeId} (size : Nat) (hk : P.underlying tx = some (.slice e')) (p : Option Addr) (c : Nat) : Src P size tx (.slice p 0 c) 0 [] w := by
  cases p with
  | none => exact Src.ofNil w hk c
  | some a => exact Src.ofSlice w hk a 0 c [] (by simp) (fun j u h => by simp at h) (fun u h => by cases h)
/-- at a step of a region that draws its order: nothing is appended -/
theorem step_append_none (w : World) {ops : Array Oper} {o : Oper} {a : Act} {K : Act → World → Prop} {Q : Exit → Act → World → Prop} {E : Prop} (hgd : o.guard = none) (s x : Operand) (t : TypeId)
    (ho : o.op = .call { callee := .builtin .append, args := #[s, x], argTypes := #[t, t] })
    (e : TypeId) (i : TypeInfo) (ht : P.underlying t = some (.slice e)) (hi : P.info? e = some i) (base : Option Addr) (n cap : Nat) (hle : n ≤ cap) (hs : a.eval s = .slice base n cap) (p : Option Addr) (c : Nat) (hx : a.eval x = .slice p 0 c)
    (h : K (a.put o.dst (.slice base n cap)) w) : if Region.wanted o (yielded ops a.tmps) = true then Oper.wp P o a w K Q else E := by
  have hw : Region.wanted o (yielded ops a.tmps) = true := by simp [Region.wanted, hgd]
  rw [if_pos hw]
  have hr := run_append_nothing (P := P) w t t o.type e i ht hi base n cap hle (.slice p 0 c) (src_none w i.size ht p c)
  unfold Oper.wp execOp
  simp only [ho, resolve, invoke, builtin, Sem.run_bind, Sem.run_pure, Result.andThen_ok, List.map_toArray, List.map_cons, List.map_nil, hs, hx, hr]
  exact h
end
theorem own_below {B e s n : Nat} {w w' : World} {v : Value} {xs : List Value} (h : w.ownsRow B e s v n xs) (hb : Below w.heap.size w w') : w'.ownsRow B e s v n xs := by
  obtain ⟨h1, h2⟩ := h
  refine ⟨h1, ?_⟩
  rcases h2 with h2 | ⟨g, cap, cur, e, hB, hg, r⟩
  · exact .inl h2
  · exact .inr ⟨g, cap, cur, e, hB, (hb.block g (blk_lt' hg)).trans hg, r⟩
theorem news_at2 (w : World) (o : Obj) (cs : Array Value) (t : TypeId) : ((w.alloc o).alloc (.cells cs t)).drew.heap[w.heap.size + 1]? = some (.cells cs t (0, 0)) := by
  have := heap_alloc_new (w.alloc o) (.cells cs t)
  rw [World.size_alloc] at this
  exact this
theorem news_at3 (w : World) (o : Obj) (cs : Array Value) (t : TypeId) : ((w.alloc o).drew.alloc (.cells cs t)).heap[w.heap.size + 1]? = some (.cells cs t (0, 0)) := by
  have := heap_alloc_new (w.alloc o).drew (.cells cs t)
  rw [show (w.alloc o).drew.heap.size = w.heap.size + 1 by simp [World.drew]] at this
  exact this
def zeros (p a n : Nat) : List Pg := (List.range n).map fun i => zeroPg p (a + i * 256)
theorem zeros_succ (p a k : Nat) : zeros p a (k + 1) = zeros p a k ++ [zeroPg p (a + k * 256)] := by unfold zeros; rw [List.range_succ, List.map_append]; rfl
def RefMapPost (q : Int) (M' : List Pg) (w : World) (e : Ending) (w' : World) : Prop :=
  ∃ sl', e = .returned (.tuple #[.agg #[sl', .int .i64 q], .int .i64 0]) ∧ RL w.heap.size w' sl' M' ∧ Below w.heap.size w w'
theorem RL.base {B B' : Nat} {w : World} {sl : Value} {M : List Pg} (h : RL B w sl M) (hb : B' ≤ B) : RL B' w sl M := by
  obtain ⟨h1, h2⟩ := h
  refine ⟨h1, ?_⟩
  rcases h2 with h2 | ⟨g, cap, cur, e, hB, r⟩
  · exact .inl h2
  · exact .inr ⟨g, cap, cur, e, Nat.le_trans hb hB, r⟩
theorem RL.cap {B : Nat} {w : World} {p : Option Addr} {n c : Nat} {M : List Pg} (h : RL B w (.slice p n c) M) : n ≤ c := by
  rcases h.2 with ⟨e, h0⟩ | ⟨g, cap, cur, e, hB, hg, hn, _⟩
  · cases e; omega
  · cases e; exact hn
theorem RL.far {B k : Nat} {w : World} {sl : Value} {M : List Pg} (h : RL B w sl M) (hk : k < B) : some k ≠ sl.ownBlock := by
  rcases h.2 with ⟨rfl, _⟩ | ⟨g, cap, cur, rfl, hB, _⟩
  · simp [Value.ownBlock]
  · simp only [Value.ownBlock, ne_eq, Option.some.injEq]; omega
/-- what holds between two rounds while pages are put in -/
structure MapSt (w : World) (X : Nat) (sl : Value) (q : Int) (M' : List Pg) (v : Value) (wr : World) : Prop where
  out : wr.heap[X]? = some (.cells #[v, .int .i64 q] 54 (0, 0))
  row : RL (X + 1) wr v M'
  box : wr.heap[w.heap.size]? = some (.cells #[sl, .int .i64 q] 54 (0, 0))
  res : wr.heap[w.heap.size + 1]? = some (.cells #[.slice none 0 0, .int .i64 0] 54 (0, 0))
  b : Below w.heap.size w wr
  x : w.heap.size + 1 < X
theorem take_snoc (M : List Pg) (k : Nat) (h : k < M.length) : M.take (k + 1) = M.take k ++ [M.getD k ⟨0, 0, []⟩] := by
  rw [List.take_succ_eq_append_getElem h, List.getD_eq_getElem?_getD, List.getElem?_eq_getElem h, Option.getD_some]
theorem MapSt.again {w : World} {X : Nat} {sl : Value} {q : Int} {M' : List Pg} {v : Value} {wr : World} (h : MapSt w X sl q M' v wr) : MapSt w X sl q M' v (wr.drew.setCell ⟨X, 0, none⟩ v) := by
  have hx := h.x
  refine ⟨?_, ?_, ?_, ?_, ?_, hx⟩
  · rw [heap_setCell_same wr.drew X 0 _ _ v h.out]; rfl
  · refine World.ownsRow.kept (row := some X) (w := wr.drew) h.row (World.grownBy_setCell wr.drew ⟨X, 0, none⟩ _) (.inr ?_)
    exact fun e => (h.row.far (Nat.lt_succ_self X)) e.symm
  · exact (heap_setCell_other wr.drew ⟨X, 0, none⟩ _ _ (by simp only; omega)).trans h.box
  · exact (heap_setCell_other wr.drew ⟨X, 0, none⟩ _ _ (by simp only; omega)).trans h.res
  · exact h.b.drew.setCell (by simp only; omega) _
theorem space_one (p : Option Addr) (n c : Nat) (q : Int) : (#[.slice p n c, .int .i64 q] : Array Value).all (fun x => x.oneCell') = true := by simp [Value.oneCell']
/-- behind an append and the store of what it gave -/
theorem MapSt.step {w : World} {X : Nat} {sl : Value} {q : Int} {M' : List Pg} {v : Value} {wr w0 w6 : World} (h : MapSt w X sl q M' v wr) (hb : Below wr.heap.size wr w0) (hg : w0.grownBy w6 v.ownBlock) {g cap : Nat} {P : Pg}
    (hown : w6.ownsRow (X + 1) 135 3 (.slice (some ⟨g, 0, none⟩) (M'.length + 1) cap) (M'.length + 1) (rcells M' ++ pcells P)) :
    MapSt w X sl q (M' ++ [P]) (.slice (some ⟨g, 0, none⟩) (M'.length + 1) cap) (w6.setCell ⟨X, 0, none⟩ (.slice (some ⟨g, 0, none⟩) (M'.length + 1) cap)) := by
  have hx := h.x
  have hXl := blk_lt' h.out
  have hk : ∀ k o, k < X + 1 → wr.heap[k]? = some o → w6.heap[k]? = some o := fun k o hk ho => by
    have hl := (Array.getElem?_eq_some_iff.1 ho).1
    rw [hg.block k (Nat.lt_of_lt_of_le hl hb.size) (h.row.far hk), hb.block k hl, ho]
  have o6 := hk X _ (by omega) h.out
  have hrow : RL (X + 1) w6 (.slice (some ⟨g, 0, none⟩) (M'.length + 1) cap) (M' ++ [P]) := by
    unfold RL
    rw [List.length_append, rcells_append]
    simpa [rcells] using hown
  refine ⟨?_, ?_, ?_, ?_, ?_, hx⟩
  · rw [heap_setCell_same _ _ _ _ _ _ o6]; rfl
  · refine World.ownsRow.kept (row := some X) hrow (World.grownBy_setCell w6 ⟨X, 0, none⟩ _) (.inr ?_)
    exact fun e => (hrow.far (Nat.lt_succ_self X)) e.symm
  · exact (heap_setCell_other _ _ _ _ (by simp only; omega)).trans (hk _ _ (by omega) h.box)
  · exact (heap_setCell_other _ _ _ _ (by simp only; omega)).trans (hk _ _ (by omega) h.res)
  · refine Below.setCell (((h.b.trans (hb.mono h.b.size))).grown hg (by have := h.b.size; have := hb.size; omega) fun k e => ?_) (by simp only; omega) _
    have := h.row
    rcases h.row.2 with ⟨rfl, _⟩ | ⟨g', cap', cur', rfl, hB, _⟩
    · cases e
    · simp only [Value.ownBlock, Option.some.injEq] at e; omega
theorem MapSt.done {w : World} {X : Nat} {sl : Value} {q : Int} {M' : List Pg} {v : Value} {wr : World} {cs : Array Value} (h : MapSt w X sl q M' v wr) :
    RefMapPost q M' w (.returned (.tuple #[.agg #[v, .int .i64 q], .int .i64 0])) (wr.setRow (w.heap.size + 1) cs) := by
  have hx := h.x
  refine ⟨v, rfl, ?_, below_setRow h.b (by omega) _⟩
  have hr : RL (X + 1) (wr.setRow (w.heap.size + 1) cs) v M' := by
    obtain ⟨h1, h2⟩ := h.row
    refine ⟨h1, ?_⟩
    rcases h2 with h2 | ⟨g, cap, cur, e, hB, hg, r⟩
    · exact .inl h2
    · exact .inr ⟨g, cap, cur, e, hB, (setRow_other _ _ _ _ (by omega)).trans hg, r⟩
  exact hr.base (by omega)
set_option maxHeartbeats 4000000 in
set_option maxRecDepth 100000 in
theorem refMap_any (B : Nat) (sl : Value) (M : List Pg) (q : Int) (a n p : Nat) (w : World) (hR : RL B w sl M) (hG : Good M) (hf : Fine a n p) (hlt : ∀ x ∈ M, x.a < a) (hq : (M.length : Int) + n ≤ q) (hq2 : q ≤ 4096) (hnil : M.length = 0 → sl = .slice none 0 0) :
    Calls Tryz.prog 43 #[.agg #[sl, .int .i64 q], .int .u64 a, .int .i64 n, .int .i64 p] w (RefMapPost q (M ++ zeros p a n) w) := by
  have hno : ∀ i, i < n → findI M (a + i * 256) = -1 := fun i _ => findI_behind hlt hf.al (by omega)
  obtain ⟨sp, sc, rfl, _, hcs⟩ := hR.parts
  have Hcs := hid hcs
  have HR := hid hR
  have HG := hid hG
  have Hno := hid hno
  have Hlt := hid hlt
  have Hf := hid hf
  have hn1 := hf.n1
  have hn2 := hf.n2
  have hup := hf.up
  clear hR hG hno hf hlt hcs
  go_enter Tryz.func43, Tryz.ntmps43
  go_wp2_with fail
  refine (refWrong_any a n p Hf.out _).mono ?_
  rintro e w1 ⟨rfl, u1, hw1⟩
  obtain ⟨W, hW⟩ : ∃ W, w1 = W := ⟨_, rfl⟩
  have HB0 : Hid (Below w.heap.size w w1) := hid (by rw [hw1]; exact below_drewN (((Below.refl _ _).alloc (Nat.le_refl _) _).alloc (by simp) _) _)
  have N4 : Hid (w1.heap[w.heap.size]? = some (.cells #[.slice sp M.length sc, .int .i64 q] 54 (0, 0))) := hid (by rw [hw1]; exact heap_alloc2_old _ _ _)
  have N8 : Hid (w1.heap[w.heap.size + 1]? = some (.cells #[.slice none 0 0, .int .i64 0] 54 (0, 0))) := hid (by rw [hw1]; exact heap_alloc2_new _ _ _)
  have b0 : w1.cell? ⟨w.heap.size, 0, none⟩ = some (.slice sp M.length sc) := by rw [cell_of_row _ _ _ _ _ _ N4.out]; rfl
  have b1 : w1.cell? ⟨w.heap.size, 1, none⟩ = some (.int .i64 q) := by rw [cell_of_row _ _ _ _ _ _ N4.out]; rfl
  clear hW hw1
  go_wp2_with fail
  refine (refThere_no B _ M q a n _ (HR.out.below HB0.out) HG.out hn2 hup Hno.out).mono ?_
  rintro e w2 ⟨rfl, hb2⟩
  have M4 := hid ((hb2.block _ (blk_lt' N4.out)).trans N4.out)
  have M8 := hid ((hb2.block _ (blk_lt' N8.out)).trans N8.out)
  have HB2 := hid (HB0.out.trans (hb2.mono HB0.out.size))
  clear hb2 N4 N8 HB0 b0 b1
  have b0 : w2.cell? ⟨w.heap.size, 0, none⟩ = some (.slice sp M.length sc) := by rw [cell_of_row _ _ _ _ _ _ M4.out]; rfl
  have b1 : w2.cell? ⟨w.heap.size, 1, none⟩ = some (.int .i64 q) := by rw [cell_of_row _ _ _ _ _ _ M4.out]; rfl
  go_upto_region 9 with (fail)
  obtain ⟨X, hX⟩ : ∃ X, w2.heap.size = X := ⟨_, rfl⟩
  obtain ⟨W3, hW3⟩ : ∃ W3, w2.alloc (.cells #[.slice none 0 0, .int .i64 q] 54) = W3 := ⟨_, rfl⟩
  have S0 : MapSt w X (.slice sp M.length sc) q [] (.slice none 0 0) W3 := by
    have hx := blk_lt' M8.out
    rw [← hW3, ← hX]
    exact ⟨heap_alloc_new _ _, RL.nil _ _, (Below.heap_alloc _ _ _ (blk_lt' M4.out)).trans M4.out, (Below.heap_alloc _ _ _ hx).trans M8.out, HB2.out.alloc HB2.out.size _, hx⟩
  rw [hX, hW3]
  have hwX : w.heap.size + 1 < X := S0.x
  clear hX hW3 b0 b1 M4 M8 HB2
  go_wp2_with fail
  go_loopw [12] (fun i wr => ∃ (k : Nat) (v : Value), k ≤ M.length ∧ i = .int .i64 k ∧ MapSt w X (.slice sp M.length sc) q (M.take k) v wr) (fun i _ => M.length - (intOf i).toNat)
  case atStart => exact ⟨0, _, by omega, rfl, S0⟩
  case round =>
    obtain ⟨k, v, hk, rfl, hS⟩ := hrel
    have HS := hid hS
    have b0 : wr.cell? ⟨w.heap.size, 0, none⟩ = some (.slice sp M.length sc) := by rw [cell_of_row _ _ _ _ _ _ hS.box]; rfl
    clear hS
    by_cases hlk : k < M.length
    · obtain ⟨g, rfl, hgl, _, hcell⟩ := Hcs.out (by omega)
      obtain ⟨ca, cp, cb⟩ := hcell k hlk
      have c0 := (HS.out.b.cell (p := ⟨g, k * 3, none⟩) hgl).trans ca
      have c1 := (HS.out.b.cell (p := ⟨g, k * 3 + 1, none⟩) hgl).trans cp
      have c2 := (HS.out.b.cell (p := ⟨g, k * 3 + 2, none⟩) hgl).trans cb
      have x0 : wr.cell? ⟨X, 0, none⟩ = some v := by rw [cell_of_row _ _ _ _ _ _ HS.out.out]; rfl
      have fx := frozen_of_row wr X 0 _ _ HS.out.out
      have hla : (M.getD k ⟨0, 0, []⟩).a < a := Hlt.out _ (by rw [List.getD_eq_getElem?_getD, List.getElem?_eq_getElem hlk, Option.getD_some]; exact List.getElem_mem hlk)
      have Htk := hid (take_snoc M k hlk)
      clear hcell ca cp cb
      generalize M.getD k ⟨0, 0, []⟩ = P at *
      have hlen : (M.take k).length = k := by rw [List.length_take]; omega
      have Hrow : Hid (wr.ownsRow (X + 1) 135 3 v k (rcells (M.take k))) := hid (by have := HS.out.row; unfold RL at this; rwa [hlen] at this)
      have hXr : X < wr.heap.size := blk_lt' HS.out.out
      have Hfar := hid (HS.out.row.far (Nat.lt_succ_self X))
      obtain ⟨i0, hi, hz0, hz1, hz2⟩ := info_parts infoPage
      have Hi := hid hi
      have Hz0 := hid hz0
      have Hz1 := hid hz1
      have Hz2 := hid hz2
      clear hi hz0 hz1 hz2
      go_wp2_with fail
      go_region_law (refine step_append_lies _ rfl (.tmp 59) (.tmp 65) 52 rfl (X + 1) 135 i0 (.agg #[.int .u64 0, .int .i64 0, .string ⟨#[]⟩]) 3 32 Tryz.underlying52 Hi.out Hz0.out Hz1.out Hz2.out rfl (by decide) v k (rcells (M.take k)) rfl (Hrow.out.drew.alloc _) ⟨_, 0, none⟩ 1 1 (pcells P) rfl rfl (World.news_of_block (heap_alloc_new _ _)) (by simp [pcells, Value.oneCell']) (by decide) (by unfold maxLen; omega) (by omega) (by simp; omega) _ rfl ?_; intro g' cap' w6 hown6 hgrow6 hat6 hlt6; have c6 : w6.cell? ⟨X, 0, none⟩ = some v := (hgrow6.cell_far ⟨X, 0, none⟩ (by simp; omega) Hfar.out).trans ((World.cell?_alloc_past _ _ _ (by simpa using hXr)).trans x0); have f6 : w6.frozen? ⟨X, 0, none⟩ = false := (hgrow6.frozen_far ⟨X, 0, none⟩ (by simp; omega) Hfar.out).trans ((World.frozen?_alloc_past _ _ _ (by simpa using hXr)).trans fx))
      all_goals
        have hs := hid (HS.out.step (P := P) (((Below.refl _ _).drew).alloc (Nat.le_refl _) _) hgrow6 (by rw [hlen]; exact hown6))
        rw [hlen, ← Htk.out] at hs
        clear hown6 hgrow6 hat6 hlt6 c6 f6 x0 fx b0 c0 c1 c2 Hrow hXr Hfar
        go_wp2_with fail
        go_roundw
        case rel => exact ⟨k + 1, _, by omega, by go_num, hs.out⟩
        case measure => simp [intOf]; omega
    · obtain rfl : k = M.length := by omega
      rw [List.take_length] at HS
      obtain ⟨pv, cv, rfl, hml, _⟩ := HS.out.row.parts
      have x0 : wr.cell? ⟨X, 0, none⟩ = some (.slice pv M.length cv) := by rw [cell_of_row _ _ _ _ _ _ HS.out.out]; rfl
      have HM0 : Hid (MapSt w X (.slice sp M.length sc) q (M ++ zeros p a 0) (.slice pv M.length cv) wr) := hid (by have := HS.out; simpa [zeros] using this)
      obtain ⟨hmk, hcv⟩ := blank_page
      have hcv2 := blank_drew
      obtain ⟨zc, hzc⟩ : ∃ zc, (List.replicate 256 (Value.int .u8 0)).toArray = zc := ⟨_, rfl⟩
      obtain ⟨zb, hzb⟩ : ∃ zb : ByteArray, (⟨(List.replicate 256 (0 : UInt8)).toArray⟩ : ByteArray) = zb := ⟨_, rfl⟩
      rw [hzc] at hmk hcv hcv2
      rw [hzb] at hcv hcv2
      have Hzb := hid hzb
      clear hzc hzb HS
      go_wp2_with fail
      clear x0 b0
      go_loopw [14] (fun i wr => ∃ (k : Nat) (v : Value), k ≤ n ∧ i = .int .i64 k ∧ MapSt w X (.slice sp M.length sc) q (M ++ zeros p a k) v wr) (fun i _ => n - (intOf i).toNat)
      case atStart => exact ⟨0, _, by omega, rfl, HM0.out⟩
      case round =>
        obtain ⟨k, v, hk, rfl, hS⟩ := hrel
        have HS := hid hS
        clear hS HM0
        by_cases hlk : k < n
        · have x0 : wr.cell? ⟨X, 0, none⟩ = some v := by rw [cell_of_row _ _ _ _ _ _ HS.out.out]; rfl
          have fx := frozen_of_row wr X 0 _ _ HS.out.out
          have hlen : (M ++ zeros p a k).length = M.length + k := by simp [zeros]
          have Hrow : Hid (wr.ownsRow (X + 1) 135 3 v (M.length + k) (rcells (M ++ zeros p a k))) := hid (by have := HS.out.row; unfold RL at this; rwa [hlen] at this)
          have hXr : X < wr.heap.size := blk_lt' HS.out.out
          have Hfar := hid (HS.out.row.far (Nat.lt_succ_self X))
          have hka : a + k * 256 + 256 ≤ 9223372036854775808 := by omega
          obtain ⟨i0, hi, hz0, hz1, hz2⟩ := info_parts infoPage
          have Hi := hid hi
          have Hz0 := hid hz0
          have Hz1 := hid hz1
          have Hz2 := hid hz2
          clear hi hz0 hz1 hz2
          go_wp2_with fail
          go_region_law (refine step_append_lies _ rfl (.tmp 77) (.tmp 87) 52 rfl (X + 1) 135 i0 (.agg #[.int .u64 0, .int .i64 0, .string ⟨#[]⟩]) 3 32 Tryz.underlying52 Hi.out Hz0.out Hz1.out Hz2.out rfl (by decide) v (M.length + k) (rcells (M ++ zeros p a k)) rfl (own_below Hrow.out (by first | exact ((Below.refl _ _).alloc (Nat.le_refl _) _).drew.alloc (by simp) _ | exact (((Below.refl _ _).alloc (Nat.le_refl _) _).alloc (by simp) _).drew | exact (((Below.refl _ _).drew).alloc (Nat.le_refl _) _).alloc (by simp) _)) ⟨_, 0, none⟩ 1 1 [.int .u64 (IntKind.u64.wrap ((a : Int) + IntKind.u64.wrap (IntKind.u64.wrap (k : Int) * 256))), .int .i64 p, .string zb] rfl rfl (by first | exact World.news_of_block (news_at2 _ _ _ _) | exact World.news_of_block (news_at3 _ _ _ _)) (by simp [Value.oneCell']) (by decide) (by unfold maxLen; omega) (by omega) (by simp; omega) _ rfl ?_; intro g' cap' w6 hown6 hgrow6 hat6 hlt6; obtain ⟨c6, f6⟩ := after_grow (wr := wr) (by first | exact ((Below.refl _ _).alloc (Nat.le_refl _) _).drew.alloc (by simp) _ | exact (((Below.refl _ _).alloc (Nat.le_refl _) _).alloc (by simp) _).drew | exact (((Below.refl _ _).drew).alloc (Nat.le_refl _) _).alloc (by simp) _) hgrow6 Hfar.out hXr x0 fx)
          all_goals
            have hpe : [Value.int .u64 (IntKind.u64.wrap ((a : Int) + IntKind.u64.wrap (IntKind.u64.wrap (k : Int) * 256))), .int .i64 p, .string zb] = pcells (zeroPg p (a + k * 256)) := by
              simp only [IntKind.wrap_u64]
              unfold pcells zeroPg
              rw [Hzb.out, show ((a : Int) + (k : Int) % 18446744073709551616 * 256 % 18446744073709551616) % 18446744073709551616 = ((a + k * 256 : Nat) : Int) by omega]
            rw [hpe] at hown6
            have hs := hid (HS.out.step (P := zeroPg p (a + k * 256)) (by first | exact ((Below.refl _ _).alloc (Nat.le_refl _) _).drew.alloc (by simp) _ | exact (((Below.refl _ _).alloc (Nat.le_refl _) _).alloc (by simp) _).drew | exact (((Below.refl _ _).drew).alloc (Nat.le_refl _) _).alloc (by simp) _) hgrow6 (by rw [hlen]; exact hown6))
            rw [hlen, List.append_assoc, ← zeros_succ] at hs
            clear hpe hown6 hgrow6 hat6 hlt6 c6 f6 x0 fx Hrow hXr Hfar
            go_wp2_with fail
            go_roundw
            case rel => exact ⟨k + 1, _, by omega, by go_num, hs.out⟩
            case measure => simp [intOf]; omega
        · obtain rfl : k = n := by omega
          clear hmk hcv hcv2
          obtain ⟨pv2, cv2, hv2, hml2, _⟩ := HS.out.row.parts
          obtain ⟨N, hN⟩ : ∃ N, (M ++ zeros p a k).length = N := ⟨_, rfl⟩
          rw [hN] at hv2
          subst hv2
          have hcap : N ≤ cv2 := HS.out.row.cap
          have x0 : wr.cell? ⟨X, 0, none⟩ = some (.slice pv2 N cv2) := by rw [cell_of_row _ _ _ _ _ _ HS.out.out]; rfl
          have fx := frozen_of_row wr X 0 _ _ HS.out.out
          have b0 : wr.cell? ⟨w.heap.size, 0, none⟩ = some (.slice sp M.length sc) := by rw [cell_of_row _ _ _ _ _ _ HS.out.box]; rfl
          obtain ⟨i0, hi, hz0, hz1, hz2⟩ := info_parts infoPage
          have Hi := hid hi
          clear hi hz0 hz1 hz2 hml2 hN
          have Hcap := hid hcap
          clear hcap
          by_cases hM : 0 < M.length
          · obtain ⟨g, rfl, hgl, _, _⟩ := Hcs.out hM
            go_wp2_with fail
            go_region_law (refine step_append_none _ rfl (.tmp 91) (.tmp 95) 52 rfl 135 i0 Tryz.underlying52 Hi.out pv2 N cv2 Hcap.out rfl _ _ rfl ?_)
            all_goals
              have hs := hid HS.out.again
              clear b0 x0 fx HS
              obtain ⟨W9, hW9⟩ : ∃ W9, wr.drew.setCell ⟨X, 0, none⟩ (.slice pv2 N cv2) = W9 := ⟨_, rfl⟩
              rw [hW9] at hs
              first | rw [hW9] | rw [show (wr.setCell ⟨X, 0, none⟩ (.slice pv2 N cv2)).drew = W9 from hW9]
              clear hW9
              have x0 : W9.cell? ⟨X, 0, none⟩ = some (.slice pv2 N cv2) := by rw [cell_of_row _ _ _ _ _ _ hs.out.out]; rfl
              have x1 : W9.cell? ⟨X, 1, none⟩ = some (.int .i64 q) := by rw [cell_of_row _ _ _ _ _ _ hs.out.out]; rfl
              go_wp2_with (refine wpList_store_row rfl 54 (.tmp 8) (.tmp 98) rfl (w.heap.size + 1) #[.slice pv2 N cv2, .int .i64 q] rfl rfl 54 _ hs.out.res infoSpace rfl (space_one ..) ?_)
              all_goals
                refine bodyPost_ret (results_cell_tmp rfl _ _ (w.heap.size + 1) 54 #[.slice pv2 N cv2, .int .i64 q] (0, 0) _ rfl (setRow_heap _ _ _ _ _ _ hs.out.res) Tryz.underlying54 rfl infoSpace) rfl ?_
                exact hs.out.done
          · have h0 : M.length = 0 := by omega
            have hsl := hnil h0
            rw [h0] at hsl b0
            cases hsl
            go_wp2_with fail
            go_region_law (refine step_append_none _ rfl (.tmp 91) (.tmp 95) 52 rfl 135 i0 Tryz.underlying52 Hi.out pv2 N cv2 Hcap.out rfl _ _ rfl ?_)
            all_goals
              have hs := hid HS.out.again
              clear b0 x0 fx HS
              obtain ⟨W9, hW9⟩ : ∃ W9, wr.drew.setCell ⟨X, 0, none⟩ (.slice pv2 N cv2) = W9 := ⟨_, rfl⟩
              rw [hW9] at hs
              first | rw [hW9] | rw [show (wr.setCell ⟨X, 0, none⟩ (.slice pv2 N cv2)).drew = W9 from hW9]
              clear hW9
              have x0 : W9.cell? ⟨X, 0, none⟩ = some (.slice pv2 N cv2) := by rw [cell_of_row _ _ _ _ _ _ hs.out.out]; rfl
              have x1 : W9.cell? ⟨X, 1, none⟩ = some (.int .i64 q) := by rw [cell_of_row _ _ _ _ _ _ hs.out.out]; rfl
              go_wp2_with (refine wpList_store_row rfl 54 (.tmp 8) (.tmp 98) rfl (w.heap.size + 1) #[.slice pv2 N cv2, .int .i64 q] rfl rfl 54 _ hs.out.res infoSpace rfl (space_one ..) ?_)
              all_goals
                refine bodyPost_ret (results_cell_tmp rfl _ _ (w.heap.size + 1) 54 #[.slice pv2 N cv2, .int .i64 q] (0, 0) _ rfl (setRow_heap _ _ _ _ _ _ hs.out.res) Tryz.underlying54 rfl infoSpace) rfl ?_
                exact hs.out.done
end
end Go.Proofs.YtiemingpbommeaaGreatDoor
