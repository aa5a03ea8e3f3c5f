/- The words that this seat's walks share: a region of closed operations run at once, what stays below, a whole row stored. -/
import Derived.Test.YtiemingpbommeaaGreatDoorProg
import Derived.WalkKit
import Derived.WalkSpells
import Derived.WalkLawsBesides
import Derived.KernelRfl
import Derived.Deep.RegionHeld3
import Derived.Deep.QuietTactic
import Derived.BigQuiet
import Derived.Deep.Quiet
import Derived.StillTail
import Derived.Tactics
import Derived.Below
import Derived.Deep.Draws
import Derived.Laws.BitsLemmas
namespace Go.Proofs.YtiemingpbommeaaGreatDoor
open Go.RowKit
noncomputable section
/-- a list of operations run at once; each has no guard and yields a value -/
def evalList (P : Program) : List Oper → Act → World → Option (Act × World)
  | [], a, w => some (a, w)
  | o :: r, a, w =>
    match o.guard with
    | some _ => none
    | none =>
      match (execOp a.eval o).run P w with
      | .ok (.value v) w' => evalList P r (a.put o.dst v) w'
      | .ok .skip w' => evalList P r (a.put o.dst undef) w'
      | _ => none
theorem wpList_evalList {P : Program} {ops : Array Oper} {Q : Exit → Act → World → Prop} : ∀ (l rest : List Oper) (a : Act) (w : World) (a' : Act) (w' : World),
    evalList P l a w = some (a', w') → wpList P ops Q rest a' w' → wpList P ops Q (l ++ rest) a w := by
  intro l
  induction l with
  | nil =>
    intro rest a w a' w' h hk
    simp only [evalList, Option.some.injEq, Prod.mk.injEq] at h
    obtain ⟨rfl, rfl⟩ := h
    exact hk
  | cons o l ih =>
    intro rest a w a' w' h hk
    simp only [evalList] at h
    cases hg : o.guard with
    | some x => simp [hg] at h
    | none =>
      simp only [hg] at h
      refine wpList_plain hg fun K hK => ?_
      show (o.upon P a K Q ((execOp a.eval o).run P w))
      split at h
      · rename_i v w1 hr
        rw [hr, Oper.upon_value]
        exact hK _ _ (ih rest _ _ a' w' h hk)
      · rename_i w1 hr
        rw [hr, Oper.upon_skip]
        exact hK _ _ (ih rest _ _ a' w' h hk)
      · cases h
theorem wpList_take {P : Program} {ops : Array Oper} {Q : Exit → Act → World → Prop} (n : Nat) {l : List Oper} {a : Act} {w : World} (a' : Act) (w' : World)
    (h : evalList P (l.take n) a w = some (a', w')) (hk : wpList P ops Q (l.drop n) a' w') : wpList P ops Q l a w := by
  have := wpList_evalList (l.take n) (l.drop n) a w a' w' h hk
  rwa [List.take_append_drop] at this
/-- a fact kept from the walk -/
theorem hid {p : Prop} (h : p) : Hid p := h
theorem bcell {W w1 : World} (hb : Below W.heap.size W w1) : (∀ b o, b < W.heap.size → w1.cell? ⟨b, o, none⟩ = W.cell? ⟨b, o, none⟩) ∧ (∀ b o, b < W.heap.size → w1.frozen? ⟨b, o, none⟩ = W.frozen? ⟨b, o, none⟩) :=
  ⟨fun b o h => hb.cell (p := ⟨b, o, none⟩) h, fun b o h => hb.frozen (p := ⟨b, o, none⟩) h⟩
theorem blk_lt' {w : World} {g : Nat} {o : Obj} (h : w.heap[g]? = some o) : g < w.heap.size := (Array.getElem?_eq_some_iff.1 h).1
theorem below_setRow {B : Nat} {a w : World} (h : Below B a w) {g : Nat} (hg : B ≤ g) (cs : Array Value) : Below B a (w.setRow g cs) :=
  h.trans ⟨rfl, rfl, rfl, by simp [World.setRow], fun k hk => by simp only [World.setRow, Array.getElem?_modify]; rw [if_neg (by omega)]⟩
end
end Go.Proofs.YtiemingpbommeaaGreatDoor

/- The table of the instructions' forms as the program makes it: what 'forms' and 'formsAll' return. -/
namespace Go.Proofs.YtiemingpbommeaaGreatDoor
open Go.RowKit
noncomputable section
/-- the forms: name, letter, op, f3, f7 -/
def table : List (List UInt8 × Int × Int × Int × Int) := [
  ([108, 117, 105], 85, 55, 0, 0),
  ([97, 117, 105, 112, 99], 85, 23, 0, 0),
  ([106, 97, 108], 74, 111, 0, 0),
  ([106, 97, 108, 114], 73, 103, 0, 0),
  ([98, 101, 113], 66, 99, 0, 0),
  ([98, 110, 101], 66, 99, 1, 0),
  ([98, 108, 116], 66, 99, 4, 0),
  ([98, 103, 101], 66, 99, 5, 0),
  ([98, 108, 116, 117], 66, 99, 6, 0),
  ([98, 103, 101, 117], 66, 99, 7, 0),
  ([108, 98], 73, 3, 0, 0),
  ([108, 104], 73, 3, 1, 0),
  ([108, 119], 73, 3, 2, 0),
  ([108, 100], 73, 3, 3, 0),
  ([108, 98, 117], 73, 3, 4, 0),
  ([108, 104, 117], 73, 3, 5, 0),
  ([108, 119, 117], 73, 3, 6, 0),
  ([115, 98], 83, 35, 0, 0),
  ([115, 104], 83, 35, 1, 0),
  ([115, 119], 83, 35, 2, 0),
  ([115, 100], 83, 35, 3, 0),
  ([97, 100, 100, 105], 73, 19, 0, 0),
  ([115, 108, 116, 105], 73, 19, 2, 0),
  ([115, 108, 116, 105, 117], 73, 19, 3, 0),
  ([120, 111, 114, 105], 73, 19, 4, 0),
  ([111, 114, 105], 73, 19, 6, 0),
  ([97, 110, 100, 105], 73, 19, 7, 0),
  ([115, 108, 108, 105], 72, 19, 1, 0),
  ([115, 114, 108, 105], 72, 19, 5, 0),
  ([115, 114, 97, 105], 72, 19, 5, 32),
  ([97, 100, 100, 105, 119], 73, 27, 0, 0),
  ([115, 108, 108, 105, 119], 75, 27, 1, 0),
  ([115, 114, 108, 105, 119], 75, 27, 5, 0),
  ([115, 114, 97, 105, 119], 75, 27, 5, 32),
  ([97, 100, 100], 82, 51, 0, 0),
  ([115, 117, 98], 82, 51, 0, 32),
  ([115, 108, 108], 82, 51, 1, 0),
  ([115, 108, 116], 82, 51, 2, 0),
  ([115, 108, 116, 117], 82, 51, 3, 0),
  ([120, 111, 114], 82, 51, 4, 0),
  ([115, 114, 108], 82, 51, 5, 0),
  ([115, 114, 97], 82, 51, 5, 32),
  ([111, 114], 82, 51, 6, 0),
  ([97, 110, 100], 82, 51, 7, 0),
  ([109, 117, 108], 82, 51, 0, 1),
  ([109, 117, 108, 104], 82, 51, 1, 1),
  ([109, 117, 108, 104, 115, 117], 82, 51, 2, 1),
  ([109, 117, 108, 104, 117], 82, 51, 3, 1),
  ([100, 105, 118], 82, 51, 4, 1),
  ([100, 105, 118, 117], 82, 51, 5, 1),
  ([114, 101, 109], 82, 51, 6, 1),
  ([114, 101, 109, 117], 82, 51, 7, 1),
  ([97, 100, 100, 119], 82, 59, 0, 0),
  ([115, 117, 98, 119], 82, 59, 0, 32),
  ([115, 108, 108, 119], 82, 59, 1, 0),
  ([115, 114, 108, 119], 82, 59, 5, 0),
  ([115, 114, 97, 119], 82, 59, 5, 32),
  ([109, 117, 108, 119], 82, 59, 0, 1),
  ([100, 105, 118, 119], 82, 59, 4, 1),
  ([100, 105, 118, 117, 119], 82, 59, 5, 1),
  ([114, 101, 109, 119], 82, 59, 6, 1),
  ([114, 101, 109, 117, 119], 82, 59, 7, 1),
  ([101, 99, 97, 108, 108], 78, 115, 0, 0),
  ([101, 98, 114, 101, 97, 107], 78, 115, 0, 1)
  ]
/-- the cells of one form -/
def rowCells (x : List UInt8 × Int × Int × Int × Int) : List Value := [.string ⟨x.1.toArray⟩, .int .u8 x.2.1, .int .u32 x.2.2.1, .int .u32 x.2.2.2.1, .int .u32 x.2.2.2.2]
/-- all cells -/
noncomputable def formCells : Array Value := (table.flatMap rowCells).toArray
theorem formCells_size : formCells.size = 320 := by kernel_rfl
theorem formCells_one : (formCells.all fun x => x.oneCell') = true := by kernel_rfl
theorem info58 : (Tryz.prog.info? 102).map (fun x => x.size) = some formCells.size := by kernel_rfl
/-- the noughts of the array -/
noncomputable def formZero : Array Value := match (Tryz.prog.info? 102) with | some i => (match i.zero with | some (.agg z) => z | _ => #[]) | none => #[]
theorem formZero_run (w : World) : (zeroValue 102).run Tryz.prog w = .ok (.agg formZero) w := by kernel_rfl
theorem formZero_size : formZero.size = formCells.size := by kernel_rfl
end
end Go.Proofs.YtiemingpbommeaaGreatDoor

/- 'forms' and 'formsAll' of package inst: the table. -/
namespace Go.Proofs.YtiemingpbommeaaGreatDoor
open Go.RowKit
noncomputable section
set_option maxHeartbeats 1000000 in
set_option maxRecDepth 100000 in
theorem forms_any (w : World) :
    Calls Tryz.prog 38 #[] w fun e w' => e = .returned (.agg formCells) ∧ Below w.heap.size w w' := by
  refine calls_of_wp Tryz.func38 rfl ?_
  refine wp_seq ?_
  refine wp_region_lit ?_
  refine wpList_take 1 { tmps := (Array.replicate 66 undef).setIfInBounds 0 (.pointer (some ⟨w.heap.size, 0, none⟩)), defers := [] } (w.alloc (.cells formZero 102)) (by kernel_rfl) ?_
  refine wpList_nil ?_
  refine wp_seq ?_
  refine wp_region_lit ?_
  refine wpList_take 65 { tmps := ((Value.pointer (some ⟨w.heap.size, 0, none⟩) :: table.map (fun x => Value.agg (rowCells x).toArray)) ++ [Value.agg formCells]).toArray, defers := [] } (w.alloc (.cells formZero 102)) (by kernel_rfl) ?_
  refine wpList_store_row rfl _ _ _ rfl w.heap.size formCells (by kernel_rfl) (by kernel_rfl) 102 formZero (heap_alloc_new _ _) info58 formZero_size formCells_one ?_
  refine wpList_nil ?_
  refine wp_ret ?_
  refine bodyPost_ret (results_cell_row rfl _ _ w.heap.size 102 formCells (0, 0) _ (by kernel_rfl) (setRow_heap _ _ _ _ _ _ (heap_alloc_new _ _)) Tryz.underlying102 rfl info58) rfl ?_
  exact ⟨rfl, below_setRow ((Below.refl _ _).alloc (Nat.le_refl _) _) (Nat.le_refl _) _⟩
set_option maxHeartbeats 1000000 in
set_option maxRecDepth 100000 in
theorem formsAll_any (w : World) :
    Calls Tryz.prog 67 #[] w fun e w' => ∃ g, e = .returned (.slice (some ⟨g, 0, none⟩) 64 64) ∧ w'.heap[g]? = some (.cells formCells 102 (0, 0)) ∧ w.heap.size ≤ g ∧ Below w.heap.size w w' := by
  have hz := formZero_run
  go_enter Tryz.func67, Tryz.ntmps67
  go_wp2_with (first
    | (go_at_call 38; refine (forms_any _).mono ?_; rintro e w1 ⟨rfl, hb⟩)
    | (refine wpList_store_row rfl 102 (.tmp 1) (.tmp 2) rfl w1.heap.size formCells rfl rfl 102 formZero (heap_alloc_new _ _) info58 formZero_size formCells_one ?_))
  go_ret
  have hs := hb.size
  exact ⟨_, rfl, setRow_heap _ _ _ _ _ _ (heap_alloc_new _ _), hs, below_setRow (hb.alloc hs _) hs _⟩
end
end Go.Proofs.YtiemingpbommeaaGreatDoor

/- A region that draws its order: its first n operations are quiet in a class of worlds, the others follow one behind the other. One walk in the text's order serves. -/
namespace Go.Proofs.YtiemingpbommeaaGreatDoor
open Go
section
variable {P : Program} {ops : Array Oper} {md : Region.Mode} {C : World → Prop}
/-- the head's operations in any order; behind them L -/
def headQ (P : Program) (md : Region.Mode) (ops : Array Oper) (C : World → Prop) (n : Nat) (L : Array Bool → Act → Prop) : Nat → Array Bool → Act → Prop
  | 0, listed, a => L listed a
  | f + 1, listed, a => Region.ready md ops listed ≠ [] ∧ ∀ i ∈ Region.ready md ops listed, i < n ∧ qOp P ops C i (headQ P md ops C n L f (listed.setIfInBounds i true)) a
theorem wpAny_of_headQ {n g : Nat} {L : Array Bool → Act → Prop} {Q' : Exit → Act → World → Prop} (hL : ∀ listed a, L listed a → ∀ w, C w → wpAny P md ops Q' g listed a w) :
    ∀ (f : Nat) (listed : Array Bool) (a : Act), headQ P md ops C n L f listed a → ∀ w, C w → wpAny P md ops Q' (f + g) listed a w
  | 0, listed, a, h, w, hw => by rw [Nat.zero_add]; exact hL _ _ h w hw
  | f + 1, listed, a, h, w, hw => by
    rw [show f + 1 + g = (f + g) + 1 by omega]
    exact ⟨fun h0 => absurd h0 h.1, fun i hi => wpOp_of_qOp hw (fun a' w' hw' h' => wpAny_of_headQ hL f _ a' h' w' hw') (h.2 i hi).2⟩
theorem headQ_first {n i : Nat} {oi : Oper} {v : Value} {L : Array Bool → Act → Prop} (hi : ops[i]? = some oi) (hsel : ∀ (j : Nat) (o : Oper) cs b, ops[j]? = some o → o.op ≠ .select cs b)
    (hs : Region.sinkB md ops n = true) (hc : Region.chainB md ops n = true) (hn : n < ops.size) (hin : i < n)
    (hdone : ∀ listed a, L listed a → ∀ j ∈ Region.ready md ops listed, n ≤ j) :
    ∀ (f : Nat) (listed : Array Bool) (a : Act), HeadInv md ops n listed →
      (∀ j oj, ops[j]? = some oj → j ≠ i → listed.getD j true = false → (∀ e ∈ oj.after, Region.binds md e = true → e.on ≠ i) → oi.apart ops oj = true) →
      i ∈ Region.ready md ops listed → YieldsIn P ops C oi v a →
      headQ P md ops C n L f (listed.setIfInBounds i true) (a.put oi.dst v) → headQ P md ops C n L (f + 1) listed a := by
  intro f
  induction f with
  | zero =>
    intro listed a inv _ hr hy H
    have hun := (mem_ready.1 hr).1
    refine ⟨List.ne_nil_of_mem hr, fun j hj => ?_⟩
    have hjn : j < n := Nat.lt_of_not_le fun h => tail_waits hs hc hn inv _ i rfl hin hun j h hj
    refine ⟨hjn, ?_⟩
    by_cases hji : j = i
    · subst hji; exact hy.qOp hi H
    · have := hdone _ _ H j (ready_mono hj hji)
      omega
  | succ f ih =>
    intro listed a inv hfree hr hy H
    have hun := (mem_ready.1 hr).1
    refine ⟨List.ne_nil_of_mem hr, fun j hj => ?_⟩
    have hjn : j < n := Nat.lt_of_not_le fun h => tail_waits hs hc hn inv _ i rfl hin hun j h hj
    refine ⟨hjn, ?_⟩
    by_cases hji : j = i
    · subst hji; exact hy.qOp hi H
    · have h1 := (H.2 j (ready_mono hj hji)).2
      obtain ⟨hjun, oj, hoj, hall⟩ := mem_ready.1 hj
      have hnot : ∀ e ∈ oj.after, Region.binds md e = true → e.on ≠ i := fun e he hb heq => by
        have h1 := hall e he hb
        rw [heq, getD_both hun] at h1
        cases h1
      have h2 := qOp_put hoj (hfree j oj hoj hji hjun hnot) (fun cs b => hsel i oi cs b hi) (fun cs b => hsel j oj cs b hoj) hy h1
      have hfree' : ∀ k ok, ops[k]? = some ok → k ≠ i → (listed.setIfInBounds j true).getD k true = false →
          (∀ e ∈ ok.after, Region.binds md e = true → e.on ≠ i) → oi.apart ops ok = true := fun k ok hk hki hun hno => by
        refine hfree k ok hk hki ?_ hno
        by_cases hjk : j = k
        · subst hjk; exact hjun
        · rw [getD_set_ne true hjk] at hun; exact hun
      refine qOp_mono (fun a' h3 => ih (listed.setIfInBounds j true) a' (inv.set hj hjn) hfree' (ready_mono hr (Ne.symm hji)) h3.1 ?_) h2
      rw [Array.setIfInBounds_comm _ _ hji]
      exact h3.2
theorem headQ_lex {n g : Nat} {Lq : Act → Prop} (hsel : Region.noSelect ops = true) (hs : Region.sinkB md ops n = true) (hc : Region.chainB md ops n = true) (hn : n < ops.size) :
    ∀ (l : List Oper) (k : Nat) (listed : Array Bool) (a : Act), (∀ j, j < l.length → l[j]? = ops[k + j]?) → k + l.length = n → HeadInv md ops n listed →
    Region.lexHead md ops g l.length k listed = true → wpQuiet P ops C Lq l a →
    headQ P md ops C n (fun listed' a' => Region.seqB md ops g n listed' = true ∧ Lq a') l.length listed a
  | [], k, listed, a, _, hk, _, hB, h => by
    have : k = n := by simpa using hk
    subst this
    exact ⟨by simpa [Region.lexHead] using hB, h⟩
  | o :: l, k, listed, a, hl, hk, inv, hB, h => by
    have h0 : ops[k]? = some o := by simpa using (hl 0 (by simp)).symm
    simp only [List.length_cons, Region.lexHead, Bool.and_eq_true] at hB
    obtain ⟨⟨hr, hf⟩, hB'⟩ := hB
    have hkn : k < n := by simp only [List.length_cons] at hk; omega
    have hr' : k ∈ Region.ready md ops listed := by simpa using hr
    have hst : qOp P ops C k (wpQuiet P ops C Lq l) a := by unfold qOp; simp only [h0]; exact h
    obtain ⟨v, hy, hK⟩ := yieldsIn_of_qOp h0 hst
    exact headQ_first h0 (Region.noSelect_spec hsel) hs hc hn hkn (fun listed' a' hL => seqB_ready hL.1) l.length listed a inv (Region.free_spec h0 hf) hr' hy
      (headQ_lex hsel hs hc hn l (k + 1) _ _ (fun j hj => by have := hl (j + 1) (by simp; omega); simpa [Nat.add_assoc, Nat.add_comm 1 j] using this) (by simp only [List.length_cons] at hk; omega) (inv.set hr' hkn) hB' hK)
/-- the region's first n operations quiet in the class C, the others in sequence from any world of the class -/
theorem wp_region_quiet_tail {id : Nat} {Q : Exit → Act → World → Prop} {a : Act} {w : World} {l : List Oper} (n : Nat) (C : World → Prop) (hm : P.follows .mixedOrders = true) (hB : Region.lexTailB .any l.toArray n = true)
    (hC : C { w with drawn := w.drawn + 1 })
    (h : wpQuiet P l.toArray C (fun a' => ∀ w', C w' → wpList P l.toArray Q (l.drop n) a' w') (l.take n) a) : (Code.region id l.toArray true).wp P Q a w := by
  simp only [Region.lexTailB, Bool.and_eq_true, decide_eq_true_eq] at hB
  obtain ⟨⟨⟨⟨hsel, hn⟩, hs⟩, hc⟩, hlex⟩ := hB
  have hn' : n < l.length := by simpa using hn
  have htl : (l.take n).length = n := by simp; omega
  have hdl : (l.drop n).length = l.toArray.size - n := by simp
  have inv0 : HeadInv .any l.toArray n (Array.replicate l.toArray.size false) :=
    ⟨by simp, fun j oj _ hl => (by rw [getD_replicate_false] at hl; cases hl), fun t _ ht => getD_in (by simpa using ht) (getD_replicate_false _ _)⟩
  have H := headQ_lex (md := .any) (g := l.toArray.size - n) hsel hs hc hn (l.take n) 0 _ a (fun j hj => by
    have hj' : j < n := by rw [htl] at hj; exact hj
    simp [hj']) (by simpa using htl) inv0 (by rw [htl]; exact hlex) h
  refine wp_region_any hm ?_
  have := wpAny_of_headQ (Q' := Q) (g := l.toArray.size - n) (fun listed a' hL w' hw' => by
    have := wpAny_of_seq (md := .any) (Q' := Q) (l.drop n) n listed a' w' (fun j => by simp [List.getElem?_drop]) (by rw [hdl]; exact hL.1) (hL.2 w' hw')
    rwa [hdl] at this) _ _ _ H _ hC
  rw [htl, show n + (l.toArray.size - n) = l.toArray.size by omega] at this
  exact this
/-- a whole region quiet in a class of worlds -/
theorem wp_region_quiet_in {id : Nat} {Q : Exit → Act → World → Prop} {a : Act} {w : World} {l : List Oper} (C : World → Prop) (hm : P.follows .mixedOrders = true) (hB : Region.lexB .any l.toArray = true)
    (hC : C { w with drawn := w.drawn + 1 })
    (h : wpQuiet P l.toArray C (fun a' => ∀ w', C w' → Q .normal a' w') l a) : (Code.region id l.toArray true).wp P Q a w :=
  wp_region_quiet hm hB hC (by simpa using h)
/-- one operation: its value in every world of the class -/
theorem quiet_val {o : Oper} {rest : List Oper} {K : Act → Prop} {a : Act} (v : Value) (hw : Region.wanted o (yielded ops a.tmps) = true)
    (h : ∀ w, C w → (execOp a.eval o).run P w = .ok (.value v) w) (hk : wpQuiet P ops C K rest (a.put o.dst v)) : wpQuiet P ops C K (o :: rest) a := by
  unfold wpQuiet
  rw [if_pos hw]
  exact ⟨v, fun w hC => by unfold Oper.quietAt; rw [h w hC]; exact ⟨rfl, rfl⟩, hk⟩
/-- one call: its value, and the class stays -/
theorem quiet_call {o : Oper} {rest : List Oper} {K : Act → Prop} {a : Act} (v : Value) {f : FuncId} {args : Array Value} (hw : Region.wanted o (yielded ops a.tmps) = true)
    (h : ∀ w, C w → (execOp a.eval o).run P w = .ok (.enter f args) w) (hc : ∀ w, C w → Calls P f args w (fun e w' => e = .returned v ∧ C w')) (hk : wpQuiet P ops C K rest (a.put o.dst v)) : wpQuiet P ops C K (o :: rest) a := by
  unfold wpQuiet
  rw [if_pos hw]
  exact ⟨v, fun w hC => by unfold Oper.quietAt; rw [h w hC]; exact ⟨rfl, hc w hC⟩, hk⟩
end
/-! ### the class of the worlds that lie behind a world -/
section
open Go.RowKit
/-- a world behind w: below w's end all is as it was -/
def Aft (w : World) : Type := { w' : World // Below w.heap.size w w' }
instance (w : World) : Nonempty (Aft w) := ⟨⟨w, Below.refl _ _⟩⟩
def aft (w : World) (u : Aft w) : World := u.1
theorem aft_below (w : World) (u : Aft w) : Below w.heap.size w (aft w u) := u.2
theorem aft_of {w w' : World} (h : Below w.heap.size w w') : ∃ u, w' = aft w u := ⟨⟨w', h⟩, rfl⟩
theorem aft_drew (w : World) : ∃ u, ({ w with drawn := w.drawn + 1 } : World) = aft w u := aft_of ⟨rfl, rfl, rfl, Nat.le_refl _, fun _ _ => rfl⟩
@[go_sem] theorem aft_cell {w : World} {u : Aft w} {b o : Nat} (h : b < w.heap.size) : (aft w u).cell? ⟨b, o, none⟩ = w.cell? ⟨b, o, none⟩ := u.2.cell (p := ⟨b, o, none⟩) h
@[go_sem] theorem aft_frozen {w : World} {u : Aft w} {b o : Nat} (h : b < w.heap.size) : (aft w u).frozen? ⟨b, o, none⟩ = w.frozen? ⟨b, o, none⟩ := u.2.frozen (p := ⟨b, o, none⟩) h
theorem aft_heap {w : World} {u : Aft w} {b : Nat} (h : b < w.heap.size) : (aft w u).heap[b]? = w.heap[b]? := u.2.block b h
theorem aft_size (w : World) (u : Aft w) : w.heap.size ≤ (aft w u).heap.size := u.2.size
theorem aft_call {P : Program} {f : FuncId} {args : Array Value} {w : World} {u : Aft w} {v : Value}
    (h : Calls P f args (aft w u) fun e w' => e = .returned v ∧ Below (aft w u).heap.size (aft w u) w') : Calls P f args (aft w u) fun e w'' => e = .returned v ∧ ∃ u', w'' = aft w u' :=
  h.mono fun _ _ ⟨he, hb⟩ => ⟨he, aft_of (u.2.trans (hb.mono u.2.size))⟩
theorem aft_callq {P : Program} {f : FuncId} {args : Array Value} {w : World} {u : Aft w} {v : Value}
    (h : Calls P f args (aft w u) fun e w' => e = .returned v ∧ ∃ m, w' = (aft w u).drewN m) : Calls P f args (aft w u) fun e w'' => e = .returned v ∧ ∃ u', w'' = aft w u' :=
  h.mono fun _ _ ⟨he, _, hm⟩ => ⟨he, aft_of (hm ▸ ⟨u.2.os, u.2.tape, u.2.output, u.2.size, u.2.block⟩)⟩
theorem aft_calls {P : Program} {f : FuncId} {args : Array Value} {w : World} {u : Aft w} {v : Value}
    (h : Calls P f args (aft w u) fun e w' => e = .returned v ∧ w' = aft w u) : Calls P f args (aft w u) fun e w'' => e = .returned v ∧ ∃ u', w'' = aft w u' :=
  h.mono fun _ _ ⟨he, hm⟩ => ⟨he, u, hm⟩
end
end Go.Proofs.YtiemingpbommeaaGreatDoor

/- Package inst's small functions: field, register, placed, has, there, and le.Extend. -/
namespace Go.Proofs.YtiemingpbommeaaGreatDoor
open Go.RowKit
noncomputable section
set_option linter.unusedVariables false
set_option linter.unusedSimpArgs false
theorem ret_int {k : IntKind} {a b : Int} (h : a = b) : Ending.returned (.int k a) = .returned (.int k b) := by rw [h]
theorem wraps_u32 (n : Int) (h₀ : 0 ≤ n) (h₁ : n < 2 ^ 32) : IntKind.u32.wrap n = n := by rw [IntKind.wrap_u32]; omega
theorem mask32 (x n : Nat) (hx : x < 4294967296) (hn : n < 32) : bits BinOp.and IntKind.u32 (x : Int) (((2 ^ n - 1 : Int)) % 4294967296) = ((x % 2 ^ n : Nat) : Int) := by
  have hp : (2 : Nat) ^ n < 4294967296 := Nat.lt_of_lt_of_le (Nat.pow_lt_pow_right (by omega) hn) (by decide)
  have hp0 : 0 < 2 ^ n := Nat.two_pow_pos n
  have hc : ((2 : Int) ^ n) = ((2 ^ n : Nat) : Int) := by simp
  have e : (((2 ^ n - 1 : Int)) % 4294967296) = 2 ^ n - 1 := by rw [hc]; omega
  rw [e, bits_mask .u32 32 (by decide) wraps_u32 n (by omega) x (by omega) (by omega)]
  simp
/-- a field of a word -/
def fieldN (x f n : Nat) : Nat := x / 2 ^ f % 2 ^ n
theorem fieldN_lt (x f n : Nat) (hn : n < 32) : fieldN x f n < 2147483649 := by
  have h1 : x / 2 ^ f % 2 ^ n < 2 ^ n := Nat.mod_lt _ (Nat.two_pow_pos n)
  have h2 : (2 : Nat) ^ n ≤ 2 ^ 31 := Nat.pow_le_pow_right (by omega) (by omega)
  unfold fieldN; omega
set_option maxHeartbeats 1000000 in
set_option maxRecDepth 100000 in
theorem field_any (x f n : Nat) (w : World) (hx : x < 4294967296) (hf : f < 32) (hn : n < 32) :
    Calls Tryz.prog 104 #[.int .u32 x, .int .i64 f, .int .i64 n] w fun e w' => e = .returned (.int .u32 (fieldN x f n)) ∧ ∃ m, w' = w.drewN m := by
  go_enter Tryz.func104, Tryz.ntmps104
  go_wp2
  go_quiet (fail)
  go_wp2
  go_ret
  refine ⟨ret_int ?_, _, rfl⟩
  have hd : x / 2 ^ f < 4294967296 := Nat.lt_of_le_of_lt (Nat.div_le_self _ _) hx
  have := mask32 (x / 2 ^ f) n hd hn
  simpa [fieldN] using this
/-- a number's sign from bit b-1 on, in 64 bits -/
def extN (x b : Nat) : Nat := if x % 2 ^ b < 2 ^ (b - 1) then x % 2 ^ b else x % 2 ^ b + (18446744073709551616 - 2 ^ b)
theorem ext_math (x b : Nat) (hb : 1 ≤ b) (hb2 : b ≤ 63) :
    IntKind.u64.wrap (wrap64 (IntKind.u64.wrap ((x : Int) * 2 ^ (64 - b))) / 2 ^ (64 - b)) = extN x b := by
  have hw : ∀ n : Int, IntKind.u64.wrap n = n % 18446744073709551616 := fun n => by simp [IntKind.wrap, IntKind.bits, IntKind.signed]
  have hc : (2 : Nat) ^ b * 2 ^ (64 - b) = 18446744073709551616 := by rw [← Nat.pow_add, show b + (64 - b) = 64 by omega]
  have hc1 : (2 : Nat) ^ (b - 1) * 2 = 2 ^ b := by
    obtain ⟨d, rfl⟩ : ∃ d, b = d + 1 := ⟨b - 1, by omega⟩
    simp [Nat.pow_succ]
  have hm : x % 2 ^ b < 2 ^ b := Nat.mod_lt _ (Nat.two_pow_pos b)
  have hmul : x * 2 ^ (64 - b) % 18446744073709551616 = x % 2 ^ b * 2 ^ (64 - b) := by
    rw [← hc, Nat.mul_mod_mul_right]
  have hcast : ((x : Int) * 2 ^ (64 - b)) = ((x * 2 ^ (64 - b) : Nat) : Int) := by simp
  have hcp : ((2 : Int) ^ (64 - b)) = ((2 ^ (64 - b) : Nat) : Int) := by simp
  rw [hw, hw, hcast, show ((x * 2 ^ (64 - b) : Nat) : Int) % 18446744073709551616 = ((x * 2 ^ (64 - b) % 18446744073709551616 : Nat) : Int) by simp, hmul, hcp]
  unfold extN wrap64
  have hcpos : 0 < 2 ^ (64 - b) := Nat.two_pow_pos _
  generalize hM : x % 2 ^ b = m at *
  generalize hC : 2 ^ (64 - b) = c at *
  generalize hB : 2 ^ b = B at *
  generalize hB1 : 2 ^ (b - 1) = B1 at *
  have hB1c : B1 * c * 2 = 18446744073709551616 := by rw [Nat.mul_right_comm, hc1, hc]
  by_cases h : m < B1
  · rw [if_pos h]
    have hlt : m * c < B1 * c := Nat.mul_lt_mul_of_pos_right h hcpos
    have e : (((m * c : Nat) : Int) + 9223372036854775808) % 18446744073709551616 - 9223372036854775808 = ((m * c : Nat) : Int) := by omega
    first | rw [e] | (simp only [e])
    have : ((m * c : Nat) : Int) / (c : Int) = (m : Int) := by
      rw [Int.natCast_mul]; exact Int.mul_ediv_cancel _ (by omega)
    rw [this]
    have hmle : m * 1 ≤ m * c := Nat.mul_le_mul_left _ hcpos
    omega
  · rw [if_neg h]
    have hle : B1 * c ≤ m * c := Nat.mul_le_mul_right c (Nat.le_of_not_lt h)
    have hlt : m * c < B * c := Nat.mul_lt_mul_of_pos_right hm hcpos
    have e : (((m * c : Nat) : Int) + 9223372036854775808) % 18446744073709551616 - 9223372036854775808 = ((m * c : Nat) : Int) - 18446744073709551616 := by omega
    first | rw [e] | (simp only [e])
    have : (((m * c : Nat) : Int) - 18446744073709551616) / (c : Int) = (m : Int) - B := by
      have e2 : (((m * c : Nat) : Int) - 18446744073709551616) = ((m : Int) - B) * c := by
        rw [Int.sub_mul, ← Int.natCast_mul, ← Int.natCast_mul, hc]; rfl
      rw [e2]; exact Int.mul_ediv_cancel _ (by omega)
    rw [this]
    have hble : B * 1 ≤ B * c := Nat.mul_le_mul_left _ hcpos
    omega
set_option maxHeartbeats 1000000 in
set_option maxRecDepth 100000 in
theorem ext_any (x b : Nat) (w : World) (hx : x < 18446744073709551616) (hb : 1 ≤ b) (hb2 : b ≤ 63) :
    Calls Tryz.prog 105 #[.int .u64 x, .int .i64 b] w fun e w' => e = .returned (.int .u64 (extN x b)) ∧ ∃ m, w' = w.drewN m := by
  go_enter Tryz.func105, Tryz.ntmps105
  go_wp2
  go_ret
  exact ⟨ret_int (ext_math x b hb hb2), 0, rfl⟩
set_option maxHeartbeats 1000000 in
set_option maxRecDepth 100000 in
theorem ext_zero (x : Nat) (w : World) (hx : x < 18446744073709551616) :
    Calls Tryz.prog 105 #[.int .u64 x, .int .i64 0] w fun e w' => e = .returned (.int .u64 x) ∧ ∃ m, w' = w.drewN m := by
  go_enter Tryz.func105, Tryz.ntmps105
  go_wp2
  go_ret
  exact ⟨rfl, 0, rfl⟩
theorem and31 (x : Int) : bits BinOp.and IntKind.i64 x 31 = x % 32 := by
  have h : (BitVec.ofInt 64 x &&& BitVec.ofInt 64 31).toNat = (x % 32).toNat := by
    rw [BitVec.toNat_and, show (BitVec.ofInt 64 31).toNat = 2 ^ 5 - 1 from by decide, Nat.and_two_pow_sub_one_eq_mod, BitVec.toNat_ofInt]
    omega
  show IntKind.i64.wrap ((BitVec.ofInt 64 x &&& BitVec.ofInt 64 31).toNat : Int) = x % 32
  rw [h, IntKind.wrap_i64]
  omega
/-- a register in a word -/
def placedN (x : Int) (f : Nat) : Nat := (x % 32).toNat * 2 ^ f
set_option maxHeartbeats 1000000 in
set_option maxRecDepth 100000 in
theorem placed_any (x : Int) (f : Nat) (w : World) (hf : f < 26) :
    Calls Tryz.prog 40 #[.int .i64 x, .int .i64 f] w fun e w' => e = .returned (.int .u32 (placedN x f)) ∧ ∃ m, w' = w.drewN m := by
  go_enter Tryz.func40, Tryz.ntmps40
  go_wp2
  go_ret
  refine ⟨ret_int ?_, 0, rfl⟩
  rw [and31]
  unfold placedN
  have hp : (2 : Nat) ^ f ≤ 2 ^ 25 := Nat.pow_le_pow_right (by omega) (by omega)
  obtain ⟨k, hk⟩ : ∃ k : Nat, x % 32 = k := ⟨(x % 32).toNat, by omega⟩
  rw [hk]
  have hk32 : k < 32 := by omega
  have hm : k * 2 ^ f ≤ 31 * 2 ^ 25 := Nat.mul_le_mul (by omega) hp
  rw [show ((k : Int) % 4294967296) = k by omega, show ((k : Int) * 2 ^ f) = ((k * 2 ^ f : Nat) : Int) by simp]
  simp only [Int.toNat_natCast]
  omega
/-- a register of a word, where the form has it -/
def registerN (x f : Nat) (is : Bool) : Nat := if is then fieldN x f 5 else 0
set_option maxHeartbeats 1000000 in
set_option maxRecDepth 100000 in
theorem register_any (x f : Nat) (is : Bool) (w : World) (hx : x < 4294967296) (hf : f < 32) :
    Calls Tryz.prog 71 #[.int .u32 x, .int .i64 f, .bool is] w fun e w' => e = .returned (.int .i64 (registerN x f is)) ∧ ∃ m, w' = w.drewN m := by
  have hl := fieldN_lt x f 5 (by omega)
  cases is
  · go_enter Tryz.func71, Tryz.ntmps71
    go_wp2
    go_ret
    exact ⟨rfl, 0, rfl⟩
  · go_enter Tryz.func71, Tryz.ntmps71
    go_wp2_with (first | (go_at_call 104; refine (field_any x f 5 _ hx hf (by omega)).mono ?_; rintro e w1 ⟨rfl, m, rfl⟩))
    go_ret
    exact ⟨rfl, m, rfl⟩
/-- which of rd, rs1, rs2 a form has -/
def hasB (c : Int) : Bool × Bool × Bool :=
  if c = 85 ∨ c = 74 then (true, false, false) else if c = 73 ∨ c = 72 ∨ c = 75 then (true, true, false)
  else if c = 66 ∨ c = 83 then (false, true, true) else if c = 82 then (true, true, true) else (false, false, false)
set_option maxHeartbeats 2000000 in
set_option maxRecDepth 100000 in
theorem has_any (c : Int) (w : World) :
    Calls Tryz.prog 70 #[.int .u8 c] w fun e w' => e = .returned (.tuple #[.bool (hasB c).1, .bool (hasB c).2.1, .bool (hasB c).2.2]) ∧ w' = w := by
  go_enter Tryz.func70, Tryz.ntmps70
  go_wp2
  all_goals (go_ret3; refine ⟨?_, rfl⟩; simp_all [hasB])
set_option maxHeartbeats 1000000 in
set_option maxRecDepth 100000 in
theorem there_any (a : Int) (w : World) :
    Calls Tryz.prog 37 #[.int .i64 a] w fun e w' => e = .returned (.bool (decide (0 ≤ a ∧ a < 64))) ∧ w' = w := by
  by_cases h0 : 0 ≤ a
  · go_enter Tryz.func37, Tryz.ntmps37
    go_wp2
    go_ret
    exact ⟨by simp [h0], rfl⟩
  · have h1 : a < 0 := by omega
    clear h0
    go_enter Tryz.func37, Tryz.ntmps37
    go_wp2
    go_ret
    exact ⟨by simp; omega, rfl⟩
end
end Go.Proofs.YtiemingpbommeaaGreatDoor

/- Does a word fit a form: what 'fits' answers. -/
namespace Go.Proofs.YtiemingpbommeaaGreatDoor
open Go.RowKit
noncomputable section
set_option linter.unusedVariables false
set_option linter.unusedSimpArgs false
theorem quiet_add {P : Program} {f : FuncId} {args : Array Value} {w : World} {a n : Nat} {v : Value}
    (h : Calls P f args (w.drewN (a + n)) fun e w' => e = .returned v ∧ ∃ m, w' = (w.drewN (a + n)).drewN m) :
    Calls P f args (w.drewN (a + n)) fun e w'' => e = .returned v ∧ ∃ m, w'' = w.drewN (a + m) :=
  h.mono fun _ _ ⟨he, m, hm⟩ => ⟨he, n + m, by rw [hm, World.drewN_drewN, Nat.add_assoc]⟩
theorem below_drewN {B : Nat} {a w : World} (h : Below B a w) (n : Nat) : Below B a (w.drewN n) := ⟨h.os, h.tape, h.output, h.size, h.block⟩
/-- has a word a form's fixed numbers? -/
def fitsB (l o f3 f7 : Int) (x : Nat) : Bool :=
  if (fieldN x 0 7 : Int) ≠ o then false
  else if l = 85 ∨ l = 74 then true
  else if l = 78 then ((x : Int) == bits .or .u32 o (f7 * 1048576 % 4294967296))
  else if l = 82 ∨ l = 75 then ((fieldN x 12 3 : Int) == f3) && ((fieldN x 25 7 : Int) == f7)
  else if l = 72 then ((fieldN x 12 3 : Int) == f3) && ((fieldN x 26 6 : Int) == f7 / 2)
  else ((fieldN x 12 3 : Int) == f3)
set_option maxHeartbeats 1000000 in
set_option maxRecDepth 100000 in
theorem fits_any (s : ByteArray) (l o f3 f7 : Int) (x : Nat) (w : World) (hx : x < 4294967296) (h7 : 0 ≤ f7) (h7b : f7 < 4294967296) :
    Calls Tryz.prog 69 #[.agg #[.string s, .int .u8 l, .int .u32 o, .int .u32 f3, .int .u32 f7], .int .u32 x] w fun e w' => e = .returned (.bool (fitsB l o f3 f7 x)) ∧ Below w.heap.size w w' := by
  by_cases h0 : (fieldN x 0 7 : Int) = o
  case neg =>
    have b0 : ((fieldN x 0 7 : Int) != o) = true := bne_iff_ne.mpr h0
    have hv : fitsB l o f3 f7 x = false := by unfold fitsB; rw [if_pos h0]
    rw [hv]
    clear hv h0
    go_enter Tryz.func69, Tryz.ntmps69
    go_wp2
    go_quiet ((go_at_call 104; exact Calls.quiet_of (field_any x 0 7 _ hx (by omega) (by omega))))
    go_wp2
    go_ret
    exact ⟨rfl, below_drewN ((Below.refl _ _).alloc (Nat.le_refl _) _) _⟩
  case pos =>
    have b0 : ((fieldN x 0 7 : Int) != o) = false := bne_eq_false_iff_eq.mpr h0
    have H0 := hid h0
    by_cases h3 : (fieldN x 12 3 : Int) = f3
    case neg =>
      have b3 : ((fieldN x 12 3 : Int) == f3) = false := beq_eq_false_iff_ne.mpr h3
      have H3 := hid h3
      clear h0 h3
      go_enter Tryz.func69, Tryz.ntmps69
      go_wp2
      go_quiet ((go_at_call 104; exact Calls.quiet_of (field_any x 0 7 _ hx (by omega) (by omega))))
      go_wp2
      all_goals try go_quiet ((go_at_call 104; exact quiet_add (field_any x 12 3 _ hx (by omega) (by omega))))
      all_goals go_wp2
      all_goals
        go_ret
        refine ⟨?_, by repeat (first | exact (Below.refl _ _).alloc (Nat.le_refl _) _ | refine below_drewN ?_ _)⟩
        have h0 := H0.out
        have h3 := H3.out
        simp_all [fitsB]
    case pos =>
      have b3 : ((fieldN x 12 3 : Int) == f3) = true := beq_iff_eq.mpr h3
      have H3 := hid h3
      clear h0 h3
      go_enter Tryz.func69, Tryz.ntmps69
      go_wp2
      go_quiet ((go_at_call 104; exact Calls.quiet_of (field_any x 0 7 _ hx (by omega) (by omega))))
      go_wp2
      all_goals try go_quiet (first
        | (go_at_call_of 104 (Value.int IntKind.i64 12); exact quiet_add (field_any x 12 3 _ hx (by omega) (by omega)))
        | (go_at_call_of 104 (Value.int IntKind.i64 25); exact quiet_add (field_any x 25 7 _ hx (by omega) (by omega)))
        | (go_at_call_of 104 (Value.int IntKind.i64 26); exact quiet_add (field_any x 26 6 _ hx (by omega) (by omega))))
      all_goals go_wp2
      all_goals
        go_ret
        refine ⟨?_, by repeat (first | exact (Below.refl _ _).alloc (Nat.le_refl _) _ | refine below_drewN ?_ _)⟩
        have h0 := H0.out
        have h3 := H3.out
        simp_all [fitsB]
      all_goals trace_state
end
end Go.Proofs.YtiemingpbommeaaGreatDoor

/- The first form that a test takes: 'IndexFunc' over the table. -/
namespace Go.Proofs.YtiemingpbommeaaGreatDoor
open Go.RowKit
noncomputable section
set_option linter.unusedVariables false
set_option linter.unusedSimpArgs false
/-- form number i -/
def formAt (i : Nat) : List UInt8 × Int × Int × Int × Int := table.getD i ([], 0, 0, 0, 0)
theorem flat_get {α β : Type} (f : α → List β) (m : Nat) (hm : ∀ x, (f x).length = m) (d : α) : ∀ (l : List α) (i j : Nat), i < l.length → j < m → (l.flatMap f)[m * i + j]? = (f (l.getD i d))[j]? := by
  intro l
  induction l with
  | nil => intro i j h; simp at h
  | cons x l ih =>
    intro i j h hj
    cases i with
    | zero => simp only [List.flatMap_cons, Nat.mul_zero, Nat.zero_add, List.getD_cons_zero]; rw [List.getElem?_append_left (by rw [hm]; exact hj)]
    | succ i =>
      simp only [List.flatMap_cons, List.getD_cons_succ]
      rw [List.getElem?_append_right (by rw [hm, Nat.mul_succ]; omega), hm, show m * (i + 1) + j - m = m * i + j by rw [Nat.mul_succ]; omega]
      exact ih i j (by simpa using h) hj
theorem table_length : table.length = 64 := by kernel_rfl
theorem formCells_get (i j : Nat) (hi : i < 64) (hj : j < 5) : formCells[5 * i + j]? = (rowCells (formAt i))[j]? := by
  unfold formCells formAt
  rw [List.getElem?_toArray]
  exact flat_get rowCells 5 (fun _ => rfl) _ table i j (by rw [table_length]; exact hi) hj
/-- r is the first place where p holds, or -1 -/
def IsFirst (p : Nat → Bool) (r : Int) : Prop := (r = -1 ∧ ∀ i, i < 64 → p i = false) ∨ (∃ i : Nat, i < 64 ∧ r = i ∧ p i = true ∧ ∀ j, j < i → p j = false)
/-- what a call of IndexFunc ends in -/
def IndexPost (p : Nat → Bool) (w : World) (e : Ending) (w' : World) : Prop := ∃ r : Int, IsFirst p r ∧ e = .returned (.int .i64 r) ∧ Below w.heap.size w w'
set_option maxHeartbeats 1000000 in
set_option maxRecDepth 100000 in
theorem index_any (F : FuncId) (g b : Nat) (p : Nat → Bool) (w : World) (hg : w.heap[g]? = some (.cells formCells 102 (0, 0)))
    (hF : ∀ (args : Array Value) (w' : World), (callFunc F args).run Tryz.prog w' = .ok (.enter F args) w')
    (hcall : ∀ (i : Nat) (w' : World), i < 64 → Below w.heap.size w w' →
      Calls Tryz.prog F #[.agg (rowCells (formAt i)).toArray, .pointer (some ⟨b, 0, none⟩)] w' fun e w'' => e = .returned (.bool (p i)) ∧ Below w'.heap.size w' w'') :
    Calls Tryz.prog 66 #[.slice (some ⟨g, 0, none⟩) 64 64, .func (.func F) #[] #[.pointer (some ⟨b, 0, none⟩)]] w (IndexPost p w) := by
  have Hcall := hid hcall
  have Hg := hid hg
  have hgl : g < w.heap.size := blk_lt' hg
  clear hcall hg
  go_enter Tryz.func66, Tryz.ntmps66
  go_wp2
  go_outline
  go_loopw [8] (fun i wr => ∃ k : Nat, k ≤ 64 ∧ i = .int .i64 k ∧ (∀ j, j < k → p j = false) ∧ Below w.heap.size w wr) (fun i _ => 64 - (intOf i).toNat)
  case atStart => exact ⟨0, by omega, rfl, fun j hj => absurd hj (by omega), Below.refl _ _⟩
  case round =>
    obtain ⟨k, hk, rfl, hno, hb⟩ := hrel
    have Hno := hid hno
    clear hno
    by_cases hlt : k < 64
    · have hgr := (hb.block g hgl).trans Hg.out
      have hc : ∀ j, j < 5 → wr.cell? ⟨g, k * 5 + j, none⟩ = (rowCells (formAt k))[j]? := fun j hj => by
        rw [cell_of_row wr g _ _ _ _ hgr, Nat.mul_comm]; exact formCells_get k j hlt hj
      have c0 := hc 0 (by omega)
      have c1 := hc 1 (by omega)
      have c2 := hc 2 (by omega)
      have c3 := hc 3 (by omega)
      have c4 := hc 4 (by omega)
      clear hc hgr
      rw [Nat.add_zero] at c0
      simp only [rowCells, List.getElem?_cons_zero, List.getElem?_cons_succ] at c0 c1 c2 c3 c4
      go_wp2_with fail
      refine (Hcall.out k wr hlt hb).mono ?_
      rintro e w1 ⟨rfl, hb1⟩
      have hb2 : Below w.heap.size w w1 := hb.trans (hb1.mono hb.size)
      clear c0 c1 c2 c3 c4 hb1 hF
      cases hp : p k
      · have Hp := hid hp
        clear hp
        go_wp2
        go_roundw
        case rel => exact ⟨k + 1, by omega, by go_num, fun j hj => by
          by_cases h : j < k
          · exact Hno.out j h
          · rw [show j = k by omega]; exact Hp.out, hb2⟩
        case measure => simp [intOf]; omega
      · have Hp := hid hp
        clear hp
        go_wp2
        go_ret
        exact ⟨k, .inr ⟨k, hlt, rfl, Hp.out, Hno.out⟩, rfl, hb2⟩
    · have hge : 64 ≤ k := by omega
      clear hlt hF
      go_wp2
      go_ret
      exact ⟨-1, .inl ⟨rfl, fun i hi => Hno.out i (by omega)⟩, rfl, hb⟩
end
end Go.Proofs.YtiemingpbommeaaGreatDoor

/- The pieces of a form's number; the number of a word and the bits of a number in a word. -/
namespace Go.Proofs.YtiemingpbommeaaGreatDoor
open Go.RowKit
noncomputable section
set_option linter.unusedVariables false
set_option linter.unusedSimpArgs false
/-- the pieces of a form's number: from, n, to; and its highest bit -/
def piecesOf (l : Int) : List (Nat × Nat × Nat) × Nat :=
  if l = 85 then ([(12, 20, 12)], 32)
  else if l = 74 then ([(31, 1, 20), (12, 8, 12), (20, 1, 11), (21, 10, 1)], 21)
  else if l = 73 then ([(20, 12, 0)], 12)
  else if l = 66 then ([(31, 1, 12), (7, 1, 11), (25, 6, 5), (8, 4, 1)], 13)
  else if l = 83 then ([(25, 7, 5), (7, 5, 0)], 12)
  else if l = 72 then ([(20, 6, 0)], 0)
  else if l = 75 then ([(20, 5, 0)], 0)
  else ([], 0)
def pieceRow (p : Nat × Nat × Nat) : List Value := [.int .i64 p.1, .int .i64 p.2.1, .int .i64 p.2.2]
def pieceCells (ps : List (Nat × Nat × Nat)) : Array Value := (ps.flatMap pieceRow).toArray
/-- what pieces ends in -/
def PiecesPost (l : Int) (w : World) (e : Ending) (w' : World) : Prop :=
  Below w.heap.size w w' ∧ ∃ A : Option Addr, e = .returned (.tuple #[.slice A (piecesOf l).1.length (piecesOf l).1.length, .int .i64 (piecesOf l).2]) ∧
    (((piecesOf l).1.length = 0 ∧ A = none) ∨ ∃ g, A = some ⟨g, 0, none⟩ ∧ w'.heap[g]? = some (.cells (pieceCells (piecesOf l).1) 168 (0, 0)))
set_option maxHeartbeats 2000000 in
set_option maxRecDepth 100000 in
theorem pieces_any (l : Int) (w : World) :
    Calls Tryz.prog 82 #[.int .u8 l] w (PiecesPost l w) := by
  by_cases hl : l = 85 ∨ l = 74 ∨ l = 73 ∨ l = 66 ∨ l = 83 ∨ l = 72 ∨ l = 75
  · rcases hl with rfl | rfl | rfl | rfl | rfl | rfl | rfl
    all_goals
      go_enter Tryz.func82, Tryz.ntmps82
      go_wp2
      go_ret2
      exact ⟨(Below.refl _ _).alloc (Nat.le_refl _) _, _, rfl, .inr ⟨_, rfl, heap_alloc_new _ _⟩⟩
  · have hp : piecesOf l = ([], 0) := by unfold piecesOf; simp only [not_or] at hl; simp [hl]
    simp only [not_or] at hl
    obtain ⟨h1, h2, h3, h4, h5, h6, h7⟩ := hl
    have b1 : (l == 85) = false := beq_eq_false_iff_ne.mpr h1
    have b2 : (l == 74) = false := beq_eq_false_iff_ne.mpr h2
    have b3 : (l == 73) = false := beq_eq_false_iff_ne.mpr h3
    have b4 : (l == 66) = false := beq_eq_false_iff_ne.mpr h4
    have b5 : (l == 83) = false := beq_eq_false_iff_ne.mpr h5
    have b6 : (l == 72) = false := beq_eq_false_iff_ne.mpr h6
    have b7 : (l == 75) = false := beq_eq_false_iff_ne.mpr h7
    have Hp := hid hp
    clear hp h1 h2 h3 h4 h5 h6 h7
    go_enter Tryz.func82, Tryz.ntmps82
    go_wp2
    go_ret2
    unfold PiecesPost
    rw [Hp.out]
    exact ⟨Below.refl _ _, none, rfl, .inl ⟨rfl, rfl⟩⟩
end
end Go.Proofs.YtiemingpbommeaaGreatDoor

/- The number of a word, by its form. -/
namespace Go.Proofs.YtiemingpbommeaaGreatDoor
open Go.RowKit
noncomputable section
set_option linter.unusedVariables false
set_option linter.unusedSimpArgs false
theorem getD_at {α : Type} (l : List α) (i : Nat) (d : α) (h : i < l.length) : l.getD i d = l[i] := by simp [List.getD, List.getElem?_eq_getElem h]
theorem pieceCells_get (ps : List (Nat × Nat × Nat)) (i j : Nat) (hi : i < ps.length) (hj : j < 3) : (pieceCells ps)[3 * i + j]? = (pieceRow (ps.getD i (0, 0, 0)))[j]? := by
  unfold pieceCells
  rw [List.getElem?_toArray]
  exact flat_get pieceRow 3 (fun _ => rfl) _ ps i j hi hj
theorem piecesOf_ok (l : Int) : (piecesOf l).1.all (fun p => p.1 < 32 && p.2.1 < 32 && p.2.2 < 32 && (p.2.1 + p.2.2 < 64) && (p.2.1 + p.1 ≤ 32)) = true ∧ (piecesOf l).2 ≤ 63 ∧ (piecesOf l).1.length ≤ 4 := by
  unfold piecesOf
  repeat' split
  all_goals decide
/-- the number's bits, before its sign is extended -/
def numAcc (x : Nat) (ps : List (Nat × Nat × Nat)) : Nat := ps.foldl (fun n p => n ||| (fieldN x p.1 p.2.1 * 2 ^ p.2.2)) 0
/-- the number of a word, by its form -/
def numI (l : Int) (x : Nat) : Int := wrap64 (if (piecesOf l).2 = 0 then numAcc x (piecesOf l).1 else extN (numAcc x (piecesOf l).1) (piecesOf l).2)
theorem numAcc_lt (x : Nat) (ps : List (Nat × Nat × Nat)) (hok : ∀ p ∈ ps, p.1 < 32 ∧ p.2.1 < 32 ∧ p.2.2 < 32 ∧ p.2.1 + p.2.2 < 64 ∧ p.2.1 + p.1 ≤ 32) : numAcc x ps < 2 ^ 64 := by
  unfold numAcc
  suffices h : ∀ a, a < 2 ^ 64 → ps.foldl (fun n p => n ||| (fieldN x p.1 p.2.1 * 2 ^ p.2.2)) a < 2 ^ 64 from h 0 (by decide)
  induction ps with
  | nil => exact fun a h => h
  | cons p ps ih =>
    intro a ha
    simp only [List.foldl_cons]
    refine ih (fun q hq => hok q (List.mem_cons_of_mem _ hq)) _ (Nat.or_lt_two_pow ha ?_)
    obtain ⟨_, _, _, h, _⟩ := hok p (List.mem_cons_self ..)
    have h1 : fieldN x p.1 p.2.1 < 2 ^ p.2.1 := Nat.mod_lt _ (Nat.two_pow_pos _)
    have h2 : fieldN x p.1 p.2.1 * 2 ^ p.2.2 < 2 ^ p.2.1 * 2 ^ p.2.2 := Nat.mul_lt_mul_of_pos_right h1 (Nat.two_pow_pos _)
    rw [← Nat.pow_add] at h2
    exact Nat.lt_of_lt_of_le h2 (Nat.pow_le_pow_right (by decide) (by omega))
theorem fieldN_mul_lt (x f n t : Nat) (h : n + t < 64) : fieldN x f n * 2 ^ t < 2 ^ 64 := by
  have h1 : fieldN x f n < 2 ^ n := Nat.mod_lt _ (Nat.two_pow_pos _)
  have h2 : fieldN x f n * 2 ^ t < 2 ^ n * 2 ^ t := Nat.mul_lt_mul_of_pos_right h1 (Nat.two_pow_pos _)
  rw [← Nat.pow_add] at h2
  exact Nat.lt_of_lt_of_le h2 (Nat.pow_le_pow_right (by decide) (by omega))
theorem acc_or (a m t : Nat) (h : a < 2 ^ 64) (hm : m * 2 ^ t < 2 ^ 64) :
    Value.int IntKind.u64 (bits BinOp.or IntKind.u64 a (IntKind.u64.wrap (IntKind.u64.wrap m * 2 ^ t))) = Value.int IntKind.u64 ((a ||| m * 2 ^ t : Nat) : Int) := by
  have hp : 1 ≤ 2 ^ t := Nat.two_pow_pos t
  have h1 : m * 1 ≤ m * 2 ^ t := Nat.mul_le_mul_left m hp
  have hw : ∀ n : Nat, n < 2 ^ 64 → IntKind.u64.wrap (n : Int) = n := fun n hn => by
    simp [IntKind.wrap, IntKind.bits, IntKind.signed]; omega
  rw [hw m (by omega), show ((m : Int) * 2 ^ t) = ((m * 2 ^ t : Nat) : Int) by simp, hw _ hm, bits_or_u64_nat a _ (by omega) (by omega)]
theorem numAcc_snoc (x : Nat) (ps : List (Nat × Nat × Nat)) (k : Nat) (hk : k < ps.length) :
    numAcc x (ps.take (k + 1)) = numAcc x (ps.take k) ||| (fieldN x (ps.getD k (0, 0, 0)).1 (ps.getD k (0, 0, 0)).2.1 * 2 ^ (ps.getD k (0, 0, 0)).2.2) := by
  unfold numAcc
  rw [List.take_succ_eq_append_getElem hk, List.foldl_append, getD_at ps k _ hk]
  rfl
set_option maxHeartbeats 2000000 in
set_option maxRecDepth 100000 in
theorem number_any (l : Int) (x : Nat) (w : World) (hx : x < 4294967296) :
    Calls Tryz.prog 72 #[.int .u8 l, .int .u32 x] w fun e w' => e = .returned (.int .i64 (numI l x)) ∧ Below w.heap.size w w' := by
  obtain ⟨hok, hb63, hlen⟩ := piecesOf_ok l
  have hv : numI l x = wrap64 (if (piecesOf l).2 = 0 then numAcc x (piecesOf l).1 else extN (numAcc x (piecesOf l).1) (piecesOf l).2) := rfl
  have Hv := hid hv
  have hp := pieces_any l
  unfold PiecesPost at hp
  generalize numI l x = v at *
  generalize (piecesOf l).1 = ps at *
  generalize (piecesOf l).2 = b at *
  have hok' : ∀ p ∈ ps, p.1 < 32 ∧ p.2.1 < 32 ∧ p.2.2 < 32 ∧ p.2.1 + p.2.2 < 64 ∧ p.2.1 + p.1 ≤ 32 := fun p hq => by
    have := List.all_eq_true.1 hok p hq
    simpa [and_assoc] using this
  have Hok := hid hok'
  have Hp := hid hp
  clear hv hp hok hok'
  go_enter Tryz.func72, Tryz.ntmps72
  go_wp2_with fail
  refine (Hp.out w).mono ?_
  rintro e w1 ⟨hb1, A, rfl, hA⟩
  have hacc : numAcc x ps < 2 ^ 64 := numAcc_lt x ps Hok.out
  rcases hA with ⟨h0, rfl⟩ | ⟨g, rfl, hg⟩
  · have Hnil := hid (List.length_eq_zero_iff.1 h0)
    rw [h0]
    clear h0
    go_wp2
    refine wp_loop_once ?_
    rcases Nat.eq_zero_or_pos b with hb0 | hb0
    · subst hb0
      go_wp2_with (first | (go_at_call 105; refine (ext_zero 0 _ (by omega)).mono ?_; rintro e w2 ⟨rfl, m, rfl⟩))
      go_ret
      exact ⟨ret_int (by rw [Hv.out, Hnil.out]; simp [numAcc, wrap64]), below_drewN hb1 _⟩
    · have Hb0 : Hid (b ≠ 0) := hid (by omega)
      go_wp2_with (first | (go_at_call 105; refine (ext_any 0 b _ (by omega) hb0 hb63).mono ?_; rintro e w2 ⟨rfl, m, rfl⟩))
      go_ret
      exact ⟨ret_int (by rw [Hv.out, Hnil.out, if_neg Hb0.out]; rfl), below_drewN hb1 _⟩
  · have Hg := hid hg
    have hgl : g < w1.heap.size := blk_lt' hg
    clear hg
    go_wp2
    go_loopw [17, 7] (fun i n wr => ∃ k : Nat, k ≤ ps.length ∧ i = .int .i64 k ∧ n = .int .u64 (numAcc x (ps.take k)) ∧ Below w1.heap.size w1 wr) (fun i _ _ => ps.length - (intOf i).toNat)
    case atStart => exact ⟨0, by omega, rfl, rfl, Below.refl _ _⟩
    case round =>
      obtain ⟨k, hk, rfl, rfl, hb⟩ := hrel
      by_cases hlt : k < ps.length
      · have hgr := (hb.block g hgl).trans Hg.out
        have hc : ∀ j, j < 3 → wr.cell? ⟨g, k * 3 + j, none⟩ = (pieceRow (ps.getD k (0, 0, 0)))[j]? := fun j hj => by
          rw [cell_of_row wr g _ _ _ _ hgr, Nat.mul_comm]; exact pieceCells_get ps k j hlt hj
        have c0 := hc 0 (by omega)
        have c1 := hc 1 (by omega)
        have c2 := hc 2 (by omega)
        have Hs := hid (numAcc_snoc x ps k hlt)
        have hmem : ps.getD k (0, 0, 0) ∈ ps := by rw [getD_at ps k _ hlt]; exact List.getElem_mem hlt
        obtain ⟨h1, h2, h3, h4, h5⟩ := Hok.out _ hmem
        generalize ps.getD k (0, 0, 0) = p at *
        obtain ⟨f, n, t⟩ := p
        clear hc hgr hmem
        rw [Nat.add_zero] at c0
        simp only [pieceRow, List.getElem?_cons_zero, List.getElem?_cons_succ] at c0 c1 c2 h1 h2 h3 h4 h5
        have Hlt1 := hid (numAcc_lt x (ps.take k) (fun p hp => Hok.out p (List.mem_of_mem_take hp)))
        have Hm := hid (fieldN_mul_lt x f n t h4)
        go_wp2
        go_quiet ((go_at_call 104; exact Calls.quiet_of (field_any x f n _ hx h1 h2)))
        go_wp2
        go_roundw
        case rel => exact ⟨k + 1, by omega, by go_num, by rw [Hs.out, acc_or _ _ _ Hlt1.out Hm.out], below_drewN (hb.alloc hb.size _) _⟩
        case measure => simp [intOf]; omega
      · have hk' : k = ps.length := by omega
        subst hk'
        clear hlt
        rw [List.take_length]
        rcases Nat.eq_zero_or_pos b with hb0 | hb0
        · subst hb0
          go_wp2_with (first | (go_at_call 105; refine (ext_zero (numAcc x ps) _ hacc).mono ?_; rintro e w2 ⟨rfl, m, rfl⟩))
          go_ret
          exact ⟨ret_int (by rw [Hv.out]; rfl), hb1.trans (below_drewN (hb.mono hb1.size) _)⟩
        · have Hb0 : Hid (b ≠ 0) := hid (by omega)
          go_wp2_with (first | (go_at_call 105; refine (ext_any (numAcc x ps) b _ hacc hb0 hb63).mono ?_; rintro e w2 ⟨rfl, m, rfl⟩))
          go_ret
          exact ⟨ret_int (by rw [Hv.out, if_neg Hb0.out]), hb1.trans (below_drewN (hb.mono hb1.size) _)⟩
end
end Go.Proofs.YtiemingpbommeaaGreatDoor

/- The bits of a number in a word, by its form. -/
namespace Go.Proofs.YtiemingpbommeaaGreatDoor
open Go.RowKit
noncomputable section
set_option linter.unusedVariables false
set_option linter.unusedSimpArgs false
/-- a number of 64 bits as they lie -/
def u64N (i : Int) : Nat := (i % 18446744073709551616).toNat
/-- the number's bits in a word -/
def laidAcc (u : Nat) (ps : List (Nat × Nat × Nat)) : Nat := ps.foldl (fun n p => n ||| (fieldN u p.2.2 p.2.1 * 2 ^ p.1)) 0
def laidN (l : Int) (imm : Int) : Nat := laidAcc (u64N imm) (piecesOf l).1
theorem laidAcc_lt (x : Nat) (ps : List (Nat × Nat × Nat)) (hok : ∀ p ∈ ps, p.1 < 32 ∧ p.2.1 < 32 ∧ p.2.2 < 32 ∧ p.2.1 + p.2.2 < 64 ∧ p.2.1 + p.1 ≤ 32) : laidAcc x ps < 2 ^ 32 := by
  unfold laidAcc
  suffices h : ∀ a, a < 2 ^ 32 → ps.foldl (fun n p => n ||| (fieldN x p.2.2 p.2.1 * 2 ^ p.1)) a < 2 ^ 32 from h 0 (by decide)
  induction ps with
  | nil => exact fun a h => h
  | cons p ps ih =>
    intro a ha
    simp only [List.foldl_cons]
    refine ih (fun q hq => hok q (List.mem_cons_of_mem _ hq)) _ (Nat.or_lt_two_pow ha ?_)
    obtain ⟨_, _, _, _, h⟩ := hok p (List.mem_cons_self ..)
    have h1 : fieldN x p.2.2 p.2.1 < 2 ^ p.2.1 := Nat.mod_lt _ (Nat.two_pow_pos _)
    have h2 : fieldN x p.2.2 p.2.1 * 2 ^ p.1 < 2 ^ p.2.1 * 2 ^ p.1 := Nat.mul_lt_mul_of_pos_right h1 (Nat.two_pow_pos _)
    rw [← Nat.pow_add] at h2
    exact Nat.lt_of_lt_of_le h2 (Nat.pow_le_pow_right (by decide) h)
theorem fieldN_mul_lt32 (x t n f : Nat) (h : n + f ≤ 32) : fieldN x t n * 2 ^ f < 2 ^ 32 := by
  have h1 : fieldN x t n < 2 ^ n := Nat.mod_lt _ (Nat.two_pow_pos _)
  have h2 : fieldN x t n * 2 ^ f < 2 ^ n * 2 ^ f := Nat.mul_lt_mul_of_pos_right h1 (Nat.two_pow_pos _)
  rw [← Nat.pow_add] at h2
  exact Nat.lt_of_lt_of_le h2 (Nat.pow_le_pow_right (by decide) h)
theorem laidAcc_snoc (x : Nat) (ps : List (Nat × Nat × Nat)) (k : Nat) (hk : k < ps.length) :
    laidAcc x (ps.take (k + 1)) = laidAcc x (ps.take k) ||| (fieldN x (ps.getD k (0, 0, 0)).2.2 (ps.getD k (0, 0, 0)).2.1 * 2 ^ (ps.getD k (0, 0, 0)).1) := by
  unfold laidAcc
  rw [List.take_succ_eq_append_getElem hk, List.foldl_append, getD_at ps k _ hk]
  rfl
theorem or32 (a b : Nat) (ha : a < 2 ^ 32) (hb : b < 2 ^ 32) : bits BinOp.or IntKind.u32 (a : Int) (b : Int) = ((a ||| b : Nat) : Int) :=
  (bits_nat .u32 32 (by decide) wraps_u32 a b ha hb).2
theorem u64_wrap (i : Int) : IntKind.u64.wrap i = (u64N i : Int) := by
  unfold u64N
  simp [IntKind.wrap, IntKind.bits, IntKind.signed]
  omega
theorem laid_or (a t n f : Nat) (imm : Int) (hn : n < 32) (h : a < 2 ^ 32) (hm : fieldN (u64N imm) t n * 2 ^ f < 2 ^ 32) :
    Value.int IntKind.u32 (bits BinOp.or IntKind.u32 a (bits BinOp.and IntKind.u32 (IntKind.u64.wrap imm / 2 ^ t % 4294967296) ((2 ^ n - 1) % 4294967296) * 2 ^ f % 4294967296)) =
      Value.int IntKind.u32 ((a ||| fieldN (u64N imm) t n * 2 ^ f : Nat) : Int) := by
  have e1 : IntKind.u64.wrap imm / 2 ^ t % 4294967296 = ((u64N imm / 2 ^ t % 4294967296 : Nat) : Int) := by rw [u64_wrap]; simp
  have e2 : u64N imm / 2 ^ t % 4294967296 % 2 ^ n = fieldN (u64N imm) t n :=
    Nat.mod_mod_of_dvd _ (by rw [show 4294967296 = 2 ^ 32 by decide]; exact Nat.pow_dvd_pow 2 (by omega))
  rw [e1, mask32 _ n (Nat.mod_lt _ (by decide)) hn, e2, show ((fieldN (u64N imm) t n : Int) * 2 ^ f) = ((fieldN (u64N imm) t n * 2 ^ f : Nat) : Int) by simp]
  rw [show (((fieldN (u64N imm) t n * 2 ^ f : Nat) : Int) % 4294967296) = ((fieldN (u64N imm) t n * 2 ^ f : Nat) : Int) by omega, or32 _ _ h hm]
set_option maxHeartbeats 2000000 in
set_option maxRecDepth 100000 in
theorem laid_any (l imm : Int) (w : World) :
    Calls Tryz.prog 39 #[.int .u8 l, .int .i64 imm] w fun e w' => e = .returned (.int .u32 (laidN l imm)) ∧ Below w.heap.size w w' := by
  obtain ⟨hok, hb63, hlen⟩ := piecesOf_ok l
  have hv : laidN l imm = laidAcc (u64N imm) (piecesOf l).1 := rfl
  have Hv := hid hv
  have hp := pieces_any l
  unfold PiecesPost at hp
  generalize laidN l imm = v at *
  generalize (piecesOf l).1 = ps at *
  generalize (piecesOf l).2 = b at *
  have hok' : ∀ p ∈ ps, p.1 < 32 ∧ p.2.1 < 32 ∧ p.2.2 < 32 ∧ p.2.1 + p.2.2 < 64 ∧ p.2.1 + p.1 ≤ 32 := fun p hq => by
    have := List.all_eq_true.1 hok p hq
    simpa [and_assoc] using this
  have Hok := hid hok'
  have Hp := hid hp
  clear hv hp hok hok'
  go_enter Tryz.func39, Tryz.ntmps39
  go_wp2_with fail
  refine (Hp.out w).mono ?_
  rintro e w1 ⟨hb1, A, rfl, hA⟩
  rcases hA with ⟨h0, rfl⟩ | ⟨g, rfl, hg⟩
  · have Hnil := hid (List.length_eq_zero_iff.1 h0)
    rw [h0]
    clear h0
    go_wp2
    refine wp_loop_once ?_
    go_wp2
    go_ret
    exact ⟨ret_int (by rw [Hv.out, Hnil.out]; rfl), hb1⟩
  · have Hg := hid hg
    have hgl : g < w1.heap.size := blk_lt' hg
    clear hg
    go_wp2
    go_loopw [17, 5] (fun i n wr => ∃ k : Nat, k ≤ ps.length ∧ i = .int .i64 k ∧ n = .int .u32 (laidAcc (u64N imm) (ps.take k)) ∧ Below w1.heap.size w1 wr) (fun i _ _ => ps.length - (intOf i).toNat)
    case atStart => exact ⟨0, by omega, rfl, rfl, Below.refl _ _⟩
    case round =>
      obtain ⟨k, hk, rfl, rfl, hb⟩ := hrel
      by_cases hlt : k < ps.length
      · have hgr := (hb.block g hgl).trans Hg.out
        have hc : ∀ j, j < 3 → wr.cell? ⟨g, k * 3 + j, none⟩ = (pieceRow (ps.getD k (0, 0, 0)))[j]? := fun j hj => by
          rw [cell_of_row wr g _ _ _ _ hgr, Nat.mul_comm]; exact pieceCells_get ps k j hlt hj
        have c0 := hc 0 (by omega)
        have c1 := hc 1 (by omega)
        have c2 := hc 2 (by omega)
        have Hs := hid (laidAcc_snoc (u64N imm) ps k hlt)
        have hmem : ps.getD k (0, 0, 0) ∈ ps := by rw [getD_at ps k _ hlt]; exact List.getElem_mem hlt
        obtain ⟨h1, h2, h3, h4, h5⟩ := Hok.out _ hmem
        generalize ps.getD k (0, 0, 0) = p at *
        obtain ⟨f, n, t⟩ := p
        clear hc hgr hmem
        rw [Nat.add_zero] at c0
        simp only [pieceRow, List.getElem?_cons_zero, List.getElem?_cons_succ] at c0 c1 c2 h1 h2 h3 h4 h5
        have Hlt1 := hid (laidAcc_lt (u64N imm) (ps.take k) (fun p hp => Hok.out p (List.mem_of_mem_take hp)))
        have Hm := hid (fieldN_mul_lt32 (u64N imm) t n f h5)
        go_wp2
        go_quiet (fail)
        go_wp2
        go_roundw
        case rel => exact ⟨k + 1, by omega, by go_num, by rw [Hs.out, laid_or _ _ _ _ _ h2 Hlt1.out Hm.out], below_drewN (hb.alloc hb.size _) _⟩
        case measure => simp [intOf]; omega
      · have hk' : k = ps.length := by omega
        subst hk'
        clear hlt
        rw [List.take_length]
        go_wp2
        go_ret
        exact ⟨ret_int (by rw [Hv.out]), hb1.trans (hb.mono hb1.size)⟩
end
end Go.Proofs.YtiemingpbommeaaGreatDoor

/- Decode: what it answers. -/
namespace Go.Proofs.YtiemingpbommeaaGreatDoor
open Go.RowKit
noncomputable section
set_option linter.unusedVariables false
set_option linter.unusedSimpArgs false
/-- does form number i take the word? -/
def fitsAt (x i : Nat) : Bool := fitsB (formAt i).2.1 (formAt i).2.2.1 (formAt i).2.2.2.1 (formAt i).2.2.2.2 x
theorem table_ok : table.all (fun r => decide (0 ≤ r.2.2.2.2) && decide (r.2.2.2.2 < 4294967296)) = true := by decide
theorem formAt_mem (i : Nat) (h : i < 64) : formAt i ∈ table := by
  unfold formAt
  rw [getD_at table i _ (by rw [table_length]; exact h)]
  exact List.getElem_mem _
theorem formAt_f7 (i : Nat) (h : i < 64) : 0 ≤ (formAt i).2.2.2.2 ∧ (formAt i).2.2.2.2 < 4294967296 := by
  have := List.all_eq_true.1 table_ok _ (formAt_mem i h)
  simpa using this
set_option maxHeartbeats 1000000 in
set_option maxRecDepth 100000 in
theorem closure_any (x i b : Nat) (w : World) (hx : x < 4294967296) (hi : i < 64) (hc : w.cell? ⟨b, 0, none⟩ = some (.int .u32 x)) :
    Calls Tryz.prog 68 #[.agg (rowCells (formAt i)).toArray, .pointer (some ⟨b, 0, none⟩)] w fun e w' => e = .returned (.bool (fitsAt x i)) ∧ Below w.heap.size w w' := by
  obtain ⟨h7, h7b⟩ := formAt_f7 i hi
  have hv : fitsAt x i = fitsB (formAt i).2.1 (formAt i).2.2.1 (formAt i).2.2.2.1 (formAt i).2.2.2.2 x := rfl
  have hbl : b < w.heap.size := World.block_lt_of_cell? w _ hc
  have ea := World.new_ne w ⟨b, 0, none⟩ hc
  generalize fitsAt x i = v at *
  generalize formAt i = r at *
  obtain ⟨s, l, o, f3, f7⟩ := r
  simp only [rowCells] at h7 h7b hv ⊢
  have Hv := hid hv
  clear hv
  go_enter Tryz.func68, Tryz.ntmps68
  go_wp2_with (first | (go_at_call 69; refine (fits_any ⟨s.toArray⟩ l o f3 f7 x _ hx h7 h7b).mono ?_; rintro e w1 ⟨rfl, hb⟩))
  go_ret
  exact ⟨by rw [Hv.out]; rfl, ((Below.refl _ _).alloc (Nat.le_refl _) _).trans (hb.mono (by simp))⟩
/-- the first place where p holds, or -1 -/
def firstOf (p : Nat → Bool) : Int := match (List.range 64).find? p with | some i => i | none => -1
theorem isFirst_eq (p : Nat → Bool) (r : Int) (h : IsFirst p r) : r = firstOf p := by
  unfold firstOf
  rcases h with ⟨rfl, h⟩ | ⟨i, hi, rfl, hp, hno⟩
  · have : (List.range 64).find? p = none := List.find?_eq_none.2 fun i hi => by simp [h i (List.mem_range.1 hi)]
    rw [this]
  · have : (List.range 64).find? p = some i := by
      rw [List.find?_range_eq_some]
      exact ⟨hp, List.mem_range.2 hi, fun j hj => by simp [hno j hj]⟩
    rw [this]
/-- an instruction's five cells -/
def instCells (o d a b n : Int) : Array Value := #[.int .i64 o, .int .i64 d, .int .i64 a, .int .i64 b, .int .i64 n]
theorem instCells_one (o d a b n : Int) : ((instCells o d a b n).all fun x => x.oneCell') = true := by simp [instCells, Value.oneCell']
/-- what Decode answers: the five fields, and whether there is one -/
def decN (x : Nat) : (Int × Int × Int × Int × Int) × Bool :=
  if firstOf (fitsAt x) < 0 then ((0, 0, 0, 0, 0), false)
  else
    let l := (formAt (firstOf (fitsAt x)).toNat).2.1
    ((firstOf (fitsAt x), registerN x 7 (hasB l).1, registerN x 15 (hasB l).2.1, registerN x 20 (hasB l).2.2, numI l x), true)
theorem info26s : (Tryz.prog.info? 44).map (fun x => x.size) = some 5 := by kernel_rfl
theorem field_letter (s : ByteArray) (l o f3 f7 : Int) (w : World) : (Instr.field 101 (.agg #[.string s, .int .u8 l, .int .u32 o, .int .u32 f3, .int .u32 f7]) 1).run Tryz.prog w = .ok (.int .u8 l) w := by kernel_rfl
set_option maxRecDepth 100000 in
/-- the index of the table's cells -/
theorem run_index_forms (i : Nat) (hi : i < 64) (w : World) : (Instr.index 102 (.agg formCells) (.int .i64 i)).run Tryz.prog w = .ok (.agg (rowCells (formAt i)).toArray) w := by
  have hu := Tryz.underlying102
  unfold Instr.index
  simp [go_sem, hu]
  rw [if_pos hi]
  congr 2
  apply Array.ext'
  apply List.ext_getElem?
  intro j
  rw [Array.getElem?_toList, Array.getElem?_extract]
  by_cases hj : j < 5
  · rw [if_pos (by rw [formCells_size]; omega), Nat.mul_comm, formCells_get i j hi hj]
  · rw [if_neg (by omega)]
    symm
    simp [rowCells]; omega
theorem results_cell_tmp {P : Program} {fn : Func} {p q : Tmp} {ty : TypeId} (h : fn.results = #[.cell p ty, .tmp q]) (tmps : Array Value) (w : World) (g : Nat) (t : TypeId) (cs : Array Value) (fr : Nat × Nat) (d : TypeDesc)
    (hp : tmps.getD p undef = .pointer (some ⟨g, 0, none⟩)) (hg : w.heap[g]? = some (.cells cs t fr))
    (hu : P.underlying ty = some d) (hd : (match d with | .struct _ | .array _ _ => true | _ => false) = true) (hi : (P.info? ty).map (·.size) = some cs.size) :
    (results fn tmps).run P w = .ok (.tuple #[.agg cs, tmps.getD q undef]) w := by
  have hp' : tmps[p]?.getD undef = .pointer (some ⟨g, 0, none⟩) := by simpa using hp
  simp [results, h, hp', asAddr, run_loadVar_row w g t ty cs fr d hg hu hd hi]
set_option maxHeartbeats 4000000 in
set_option maxRecDepth 100000 in
theorem decode_any (x : Nat) (w : World) (hx : x < 4294967296) :
    Calls Tryz.prog 32 #[.int .u32 x] w fun e w' => e = .returned (.tuple #[.agg (instCells (decN x).1.1 (decN x).1.2.1 (decN x).1.2.2.1 (decN x).1.2.2.2.1 (decN x).1.2.2.2.2), .bool (decN x).2]) ∧ Below w.heap.size w w' := by
  have hv : decN x = decN x := rfl
  conv at hv => rhs; unfold decN
  generalize decN x = v at *
  have Hv := hid hv
  clear hv
  go_enter Tryz.func32, Tryz.ntmps32
  go_wp2_with fail
  refine (formsAll_any _).mono ?_
  rintro e w1 ⟨g, rfl, hg, hgs, hb⟩
  have Hg := hid hg
  have hs1 := hb.size
  simp at hgs hs1
  go_wp2_with fail
  have hF : ∀ (args : Array Value) (w' : World), (callFunc 68 args).run Tryz.prog w' = .ok (.enter 68 args) w' := fun args w' => by kernel_rfl
  refine (index_any 68 g w.heap.size (fitsAt x) w1 Hg.out hF (fun i w' hi hb' => closure_any x i _ w' hx hi ?_)).mono ?_
  · rw [hb'.cell (by show w.heap.size < _; omega), hb.cell (by simp; omega)]
    simp
  rintro e w2 ⟨r, hr, rfl, hb2⟩
  have hr' := isFirst_eq _ _ hr
  have N1 : w2.heap[w.heap.size]? = some (.cells #[.int .u32 x] 22 (0, 0)) := by
    rw [hb2.block _ (by omega), hb.block _ (by simp; omega), Below.heap_alloc _ _ _ (by simp)]
    exact heap_alloc_new _ _
  have N2 : w2.heap[w.heap.size + 1]? = some (.cells #[.int .i64 0, .int .i64 0, .int .i64 0, .int .i64 0, .int .i64 0] 44 (0, 0)) := by
    rw [hb2.block _ (by omega), hb.block _ (by simp)]
    have := heap_alloc_new (w.alloc (.cells #[.int .u32 x] 22)) (.cells #[.int .i64 0, .int .i64 0, .int .i64 0, .int .i64 0, .int .i64 0] 44)
    simpa using this
  have HB : Below w.heap.size w w2 := (((Below.refl _ _).alloc (Nat.le_refl _) _).alloc (by simp) _).trans ((hb.mono (by simp; omega)).trans (hb2.mono (by omega)))
  clear hb hb2 hg Hg hF hs1 hgs
  rw [← hr'] at Hv
  have M1 : w.heap.size < w2.heap.size := blk_lt' N1
  have M2 : w.heap.size + 1 < w2.heap.size := blk_lt' N2
  rcases hr with ⟨rfl, _⟩ | ⟨i, hi, rfl, _, _⟩
  · rw [if_pos (by decide)] at Hv
    obtain rfl := Hv.out
    clear Hv N1 hr'
    go_wp2_with (first
      | (refine wpList_store_row rfl 44 (.tmp 2) (.tmp 15) rfl (w.heap.size + 1) (instCells 0 0 0 0 0) rfl rfl 44 _ N2 info26s rfl (instCells_one ..) ?_))
    refine bodyPost_ret (results_cell_tmp rfl _ _ (w.heap.size + 1) 44 (instCells 0 0 0 0 0) (0, 0) _ rfl (setRow_heap _ _ _ _ _ _ N2) Tryz.underlying44 rfl info26s) rfl ?_
    exact ⟨rfl, below_setRow HB (by omega) _⟩
  · rw [if_neg (by omega), Int.toNat_natCast] at Hv
    have hix := run_index_forms i hi
    obtain ⟨s, o, f3, f7, hrow⟩ : ∃ (s : ByteArray) (o f3 f7 : Int), (rowCells (formAt i)).toArray = #[.string s, .int .u8 (formAt i).2.1, .int .u32 o, .int .u32 f3, .int .u32 f7] := ⟨_, _, _, _, rfl⟩
    generalize (formAt i).2.1 = l at *
    rw [hrow] at hix
    obtain rfl := Hv.out
    have hfl := field_letter s l o f3 f7
    clear hrow Hv hr'
    go_wp2_with (first
      | (go_at_call 38; refine (forms_any _).mono ?_; rintro e w3 ⟨rfl, hb3⟩)
      | (go_at_call 70; refine (has_any l _).mono ?_; rintro e w4 ⟨rfl, rfl⟩))
    have n2 := (hb3.block _ M2).trans N2
    have c1 : w4.cell? ⟨w.heap.size, 0, none⟩ = some (.int .u32 x) := by
      rw [cell_of_row w4 _ _ _ _ _ ((hb3.block _ M1).trans N1)]; rfl
    have L1 : w.heap.size < w4.heap.size := Nat.lt_of_lt_of_le M1 hb3.size
    have L2 : w.heap.size + 1 < w4.heap.size := Nat.lt_of_lt_of_le M2 hb3.size
    have HB4 : Below w.heap.size w w4 := HB.trans (hb3.mono (by omega))
    clear hb3 N1 N2 M1 M2 HB hfl hix
    have N2 := hid n2
    clear n2
    refine wp_region_quiet_tail 14 (fun w' => ∃ u, w' = aft w4 u) (by kernel_rfl) (by kernel_rfl) (aft_drew _) ?_
    simp only [List.take_succ_cons, List.take_zero, List.drop_succ_cons, List.drop_zero]
    repeat (go_big_quiet_step (first
      | (go_at_call_of 71 (Value.int IntKind.i64 7); exact aft_callq (register_any x 7 _ _ hx (by omega)))
      | (go_at_call_of 71 (Value.int IntKind.i64 15); exact aft_callq (register_any x 15 _ _ hx (by omega)))
      | (go_at_call_of 71 (Value.int IntKind.i64 20); exact aft_callq (register_any x 20 _ _ hx (by omega)))
      | (go_at_call 72; exact aft_call (number_any l x _ hx))))
    refine wpQuiet_nil ?_
    rintro w5 ⟨u, rfl⟩
    have n5 := (aft_heap (u := u) L2).trans N2.out
    go_wp2_with (first
      | (refine wpList_store_row rfl 44 (.tmp 2) (.tmp 39) rfl (w.heap.size + 1) (instCells i (registerN x 7 (hasB l).1) (registerN x 15 (hasB l).2.1) (registerN x 20 (hasB l).2.2) (numI l x)) rfl rfl 44 _ n5 info26s rfl (instCells_one ..) ?_))
    refine bodyPost_ret (results_cell_tmp rfl _ _ (w.heap.size + 1) 44 (instCells i (registerN x 7 (hasB l).1) (registerN x 15 (hasB l).2.1) (registerN x 20 (hasB l).2.2) (numI l x)) (0, 0) _ rfl (setRow_heap _ _ _ _ _ _ n5) Tryz.underlying44 rfl info26s) rfl ?_
    exact ⟨rfl, below_setRow (HB4.trans ((aft_below w4 u).mono (by omega))) (by omega) _⟩
end
end Go.Proofs.YtiemingpbommeaaGreatDoor

/- A kind's name and form, and the kind of a name. -/
namespace Go.Proofs.YtiemingpbommeaaGreatDoor
open Go.RowKit
noncomputable section
set_option linter.unusedVariables false
set_option linter.unusedSimpArgs false
/-- the letter of a kind -/
def letterI (o : Int) : Int := if 0 ≤ o ∧ o < 64 then (formAt o.toNat).2.1 else 0
/-- the name of a kind -/
def nameB (o : Int) : List UInt8 := if 0 ≤ o ∧ o < 64 then (formAt o.toNat).1 else []
theorem field_name (s : ByteArray) (l o f3 f7 : Int) (w : World) : (Instr.field 101 (.agg #[.string s, .int .u8 l, .int .u32 o, .int .u32 f3, .int .u32 f7]) 0).run Tryz.prog w = .ok (.string s) w := by kernel_rfl
set_option maxHeartbeats 1000000 in
set_option maxRecDepth 100000 in
theorem form_any (o : Int) (w : World) :
    Calls Tryz.prog 79 #[.int .i64 o] w fun e w' => e = .returned (.int .u8 (letterI o)) ∧ Below w.heap.size w w' := by
  by_cases h : 0 ≤ o ∧ o < 64
  · have hv : letterI o = (formAt o.toNat).2.1 := by unfold letterI; rw [if_pos h]
    have hd : decide (0 ≤ o ∧ o < 64) = true := decide_eq_true h
    obtain ⟨i, rfl⟩ := Int.eq_ofNat_of_zero_le h.1
    have hi : i < 64 := by omega
    rw [Int.toNat_natCast] at hv
    have hix := run_index_forms i hi
    obtain ⟨s, p, f3, f7, hrow⟩ : ∃ (s : ByteArray) (p f3 f7 : Int), (rowCells (formAt i)).toArray = #[.string s, .int .u8 (formAt i).2.1, .int .u32 p, .int .u32 f3, .int .u32 f7] := ⟨_, _, _, _, rfl⟩
    generalize letterI i = v at *
    generalize (formAt i).2.1 = l at *
    subst hv
    rw [hrow] at hix
    have hfl := field_letter s v p f3 f7
    clear hrow
    go_enter Tryz.func79, Tryz.ntmps79
    go_wp2_with (first
      | (go_at_call 37; refine (there_any _ _).mono ?_; rintro e w3 ⟨rfl, rfl⟩)
      | (go_at_call 38; refine (forms_any _).mono ?_; rintro e w3 ⟨rfl, hb3⟩))
    go_ret
    exact ⟨rfl, hb3⟩
  · have hv : letterI o = 0 := by unfold letterI; rw [if_neg h]
    have hd : decide (0 ≤ o ∧ o < 64) = false := decide_eq_false h
    rw [hv]
    clear h hv
    go_enter Tryz.func79, Tryz.ntmps79
    go_wp2_with (first
      | (go_at_call 37; refine (there_any _ _).mono ?_; rintro e w3 ⟨rfl, rfl⟩; rw [hd]))
    go_ret
    exact ⟨rfl, Below.refl _ _⟩
set_option maxHeartbeats 1000000 in
set_option maxRecDepth 100000 in
theorem name_any (o : Int) (w : World) :
    Calls Tryz.prog 112 #[.int .i64 o] w fun e w' => e = .returned (.string ⟨(nameB o).toArray⟩) ∧ Below w.heap.size w w' := by
  by_cases h : 0 ≤ o ∧ o < 64
  · have hv : nameB o = (formAt o.toNat).1 := by unfold nameB; rw [if_pos h]
    have hd : decide (0 ≤ o ∧ o < 64) = true := decide_eq_true h
    obtain ⟨i, rfl⟩ := Int.eq_ofNat_of_zero_le h.1
    have hi : i < 64 := by omega
    rw [Int.toNat_natCast] at hv
    have hix := run_index_forms i hi
    obtain ⟨l, p, f3, f7, hrow⟩ : ∃ (l p f3 f7 : Int), (rowCells (formAt i)).toArray = #[.string ⟨(formAt i).1.toArray⟩, .int .u8 l, .int .u32 p, .int .u32 f3, .int .u32 f7] := ⟨_, _, _, _, rfl⟩
    generalize nameB i = v at *
    generalize (formAt i).1 = nm at *
    subst hv
    rw [hrow] at hix
    have hfl := field_name ⟨v.toArray⟩ l p f3 f7
    clear hrow
    go_enter Tryz.func112, Tryz.ntmps112
    go_wp2_with (first
      | (go_at_call 37; refine (there_any _ _).mono ?_; rintro e w3 ⟨rfl, rfl⟩)
      | (go_at_call 38; refine (forms_any _).mono ?_; rintro e w3 ⟨rfl, hb3⟩))
    go_ret
    exact ⟨rfl, hb3⟩
  · have hv : nameB o = [] := by unfold nameB; rw [if_neg h]
    have hd : decide (0 ≤ o ∧ o < 64) = false := decide_eq_false h
    rw [hv]
    clear h hv
    go_enter Tryz.func112, Tryz.ntmps112
    go_wp2_with (first
      | (go_at_call 37; refine (there_any _ _).mono ?_; rintro e w3 ⟨rfl, rfl⟩; rw [hd]))
    go_ret
    exact ⟨rfl, Below.refl _ _⟩
end
end Go.Proofs.YtiemingpbommeaaGreatDoor
