/- Decode: what it answers. -/
import Derived.Test.YtoljkjnehcbbaaaLaid
namespace Go.Proofs.Ytoljkjnehcbbaaa
open Go.RowKit
noncomputable section
set_option linter.unusedVariables false
set_option linter.unusedSimpArgs false

/-- does form number i take the word? -/
def fitsAt (x i : Nat) : Bool := fitsB (formAt i).2.1 (formAt i).2.2.1 (formAt i).2.2.2.1 (formAt i).2.2.2.2 x

theorem table_ok : table.all (fun r => decide (0 ≤ r.2.2.2.2) && decide (r.2.2.2.2 < 4294967296)) = true := by decide
theorem formAt_mem (i : Nat) (h : i < 64) : formAt i ∈ table := by
  unfold formAt
  rw [getD_at table i _ (by rw [table_length]; exact h)]
  exact List.getElem_mem _
theorem formAt_f7 (i : Nat) (h : i < 64) : 0 ≤ (formAt i).2.2.2.2 ∧ (formAt i).2.2.2.2 < 4294967296 := by
  have := List.all_eq_true.1 table_ok _ (formAt_mem i h)
  simpa using this

set_option maxHeartbeats 1000000 in
set_option maxRecDepth 100000 in
theorem closure_any (x i b : Nat) (w : World) (hx : x < 4294967296) (hi : i < 64) (hc : w.cell? ⟨b, 0, none⟩ = some (.int .u32 x)) :
    Calls Try.prog 20 #[.agg (rowCells (formAt i)).toArray, .pointer (some ⟨b, 0, none⟩)] w fun e w' => e = .returned (.bool (fitsAt x i)) ∧ Below w.heap.size w w' := by
  obtain ⟨h7, h7b⟩ := formAt_f7 i hi
  have hv : fitsAt x i = fitsB (formAt i).2.1 (formAt i).2.2.1 (formAt i).2.2.2.1 (formAt i).2.2.2.2 x := rfl
  have hbl : b < w.heap.size := World.block_lt_of_cell? w _ hc
  have ea := World.new_ne w ⟨b, 0, none⟩ hc
  generalize fitsAt x i = v at *
  generalize formAt i = r at *
  obtain ⟨s, l, o, f3, f7⟩ := r
  simp only [rowCells] at h7 h7b hv ⊢
  have Hv := hid hv
  clear hv
  go_enter Try.func20, Try.ntmps20
  go_wp2_with (first | (go_at_call 21; refine (fits_any ⟨s.toArray⟩ l o f3 f7 x _ hx h7 h7b).mono ?_; rintro e w1 ⟨rfl, hb⟩))
  go_ret
  exact ⟨by rw [Hv.out]; rfl, ((Below.refl _ _).alloc (Nat.le_refl _) _).trans (hb.mono (by simp))⟩

/-- the first place where p holds, or -1 -/
def firstOf (p : Nat → Bool) : Int := match (List.range 64).find? p with | some i => i | none => -1

theorem isFirst_eq (p : Nat → Bool) (r : Int) (h : IsFirst p r) : r = firstOf p := by
  unfold firstOf
  rcases h with ⟨rfl, h⟩ | ⟨i, hi, rfl, hp, hno⟩
  · have : (List.range 64).find? p = none := List.find?_eq_none.2 fun i hi => by simp [h i (List.mem_range.1 hi)]
    rw [this]
  · have : (List.range 64).find? p = some i := by
      rw [List.find?_range_eq_some]
      exact ⟨hp, List.mem_range.2 hi, fun j hj => by simp [hno j hj]⟩
    rw [this]

/-- an instruction's five cells -/
def instCells (o d a b n : Int) : Array Value := #[.int .i64 o, .int .i64 d, .int .i64 a, .int .i64 b, .int .i64 n]

theorem instCells_one (o d a b n : Int) : ((instCells o d a b n).all fun x => x.oneCell') = true := by simp [instCells, Value.oneCell']

/-- what Decode answers: the five fields, and whether there is one -/
def decN (x : Nat) : (Int × Int × Int × Int × Int) × Bool :=
  if firstOf (fitsAt x) < 0 then ((0, 0, 0, 0, 0), false)
  else
    let l := (formAt (firstOf (fitsAt x)).toNat).2.1
    ((firstOf (fitsAt x), registerN x 7 (hasB l).1, registerN x 15 (hasB l).2.1, registerN x 20 (hasB l).2.2, numI l x), true)

theorem info26 : (Try.prog.info? 26).map (fun i => (i.zero, i.size, i.bytes)) = some (some (.agg #[(.int .i64 0), (.int .i64 0), (.int .i64 0), (.int .i64 0), (.int .i64 0)]), 5, 40) := by kernel_rfl

theorem info26s : (Try.prog.info? 26).map (fun x => x.size) = some 5 := by kernel_rfl

theorem field_letter (s : ByteArray) (l o f3 f7 : Int) (w : World) : (Instr.field 55 (.agg #[.string s, .int .u8 l, .int .u32 o, .int .u32 f3, .int .u32 f7]) 1).run Try.prog w = .ok (.int .u8 l) w := by kernel_rfl

/-- the index of the table's cells -/
theorem run_index_forms (i : Nat) (hi : i < 64) (w : World) : (Instr.index 58 (.agg formCells) (.int .i64 i)).run Try.prog w = .ok (.agg (rowCells (formAt i)).toArray) w := by
  have hu := Try.underlying58
  unfold Instr.index
  simp [go_sem, hu]
  rw [if_pos hi]
  congr 2
  apply Array.ext'
  apply List.ext_getElem?
  intro j
  rw [Array.getElem?_toList, Array.getElem?_extract]
  by_cases hj : j < 5
  · rw [if_pos (by rw [formCells_size]; omega), Nat.mul_comm, formCells_get i j hi hj]
  · rw [if_neg (by omega)]
    symm
    simp [rowCells]; omega

theorem results_cell_tmp {P : Program} {fn : Func} {p q : Tmp} {ty : TypeId} (h : fn.results = #[.cell p ty, .tmp q]) (tmps : Array Value) (w : World) (g : Nat) (t : TypeId) (cs : Array Value) (fr : Nat × Nat) (d : TypeDesc)
    (hp : tmps.getD p undef = .pointer (some ⟨g, 0, none⟩)) (hg : w.heap[g]? = some (.cells cs t fr))
    (hu : P.underlying ty = some d) (hd : (match d with | .struct _ | .array _ _ => true | _ => false) = true) (hi : (P.info? ty).map (·.size) = some cs.size) :
    (results fn tmps).run P w = .ok (.tuple #[.agg cs, tmps.getD q undef]) w := by
  have hp' : tmps[p]?.getD undef = .pointer (some ⟨g, 0, none⟩) := by simpa using hp
  simp [results, h, hp', asAddr, run_loadVar_row w g t ty cs fr d hg hu hd hi]

set_option maxHeartbeats 4000000 in
set_option maxRecDepth 100000 in
theorem decode_any (x : Nat) (w : World) (hx : x < 4294967296) :
    Calls Try.prog 9 #[.int .u32 x] w fun e w' => e = .returned (.tuple #[.agg (instCells (decN x).1.1 (decN x).1.2.1 (decN x).1.2.2.1 (decN x).1.2.2.2.1 (decN x).1.2.2.2.2), .bool (decN x).2]) ∧ Below w.heap.size w w' := by
  have hv : decN x = decN x := rfl
  conv at hv => rhs; unfold decN
  generalize decN x = v at *
  have Hv := hid hv
  clear hv
  go_enter Try.func9, Try.ntmps9
  go_wp2_with fail
  refine (formsAll_any _).mono ?_
  rintro e w1 ⟨g, rfl, hg, hgs, hb⟩
  have Hg := hid hg
  have hs1 := hb.size
  simp at hgs hs1
  go_wp2_with fail
  have hF : ∀ (args : Array Value) (w' : World), (callFunc 20 args).run Try.prog w' = .ok (.enter 20 args) w' := fun args w' => by kernel_rfl
  refine (index_any 20 g w.heap.size (fitsAt x) w1 Hg.out hF (fun i w' hi hb' => closure_any x i _ w' hx hi ?_)).mono ?_
  · rw [hb'.cell (by show w.heap.size < _; omega), hb.cell (by simp; omega)]
    simp
  rintro e w2 ⟨r, hr, rfl, hb2⟩
  have hr' := isFirst_eq _ _ hr
  have N1 : w2.heap[w.heap.size]? = some (.cells #[.int .u32 x] 22 (0, 0)) := by
    rw [hb2.block _ (by omega), hb.block _ (by simp; omega), Below.heap_alloc _ _ _ (by simp)]
    exact heap_alloc_new _ _
  have N2 : w2.heap[w.heap.size + 1]? = some (.cells #[.int .i64 0, .int .i64 0, .int .i64 0, .int .i64 0, .int .i64 0] 26 (0, 0)) := by
    rw [hb2.block _ (by omega), hb.block _ (by simp)]
    have := heap_alloc_new (w.alloc (.cells #[.int .u32 x] 22)) (.cells #[.int .i64 0, .int .i64 0, .int .i64 0, .int .i64 0, .int .i64 0] 26)
    simpa using this
  have HB : Below w.heap.size w w2 := (((Below.refl _ _).alloc (Nat.le_refl _) _).alloc (by simp) _).trans ((hb.mono (by simp; omega)).trans (hb2.mono (by omega)))
  clear hb hb2 hg Hg hF hs1 hgs
  rw [← hr'] at Hv
  have M1 : w.heap.size < w2.heap.size := blk_lt' N1
  have M2 : w.heap.size + 1 < w2.heap.size := blk_lt' N2
  rcases hr with ⟨rfl, _⟩ | ⟨i, hi, rfl, _, _⟩
  · rw [if_pos (by decide)] at Hv
    obtain rfl := Hv.out
    clear Hv N1 hr'
    go_wp2_with (first
      | (refine wpList_store_row rfl 26 (.tmp 2) (.tmp 15) rfl (w.heap.size + 1) (instCells 0 0 0 0 0) rfl rfl 26 _ N2 info26s rfl (instCells_one ..) ?_))
    refine bodyPost_ret (results_cell_tmp rfl _ _ (w.heap.size + 1) 26 (instCells 0 0 0 0 0) (0, 0) _ rfl (setRow_heap _ _ _ _ _ _ N2) Try.underlying26 rfl info26s) rfl ?_
    exact ⟨rfl, below_setRow HB (by omega) _⟩
  · rw [if_neg (by omega), Int.toNat_natCast] at Hv
    have hix := run_index_forms i hi
    obtain ⟨s, o, f3, f7, hrow⟩ : ∃ (s : ByteArray) (o f3 f7 : Int), (rowCells (formAt i)).toArray = #[.string s, .int .u8 (formAt i).2.1, .int .u32 o, .int .u32 f3, .int .u32 f7] := ⟨_, _, _, _, rfl⟩
    generalize (formAt i).2.1 = l at *
    rw [hrow] at hix
    obtain rfl := Hv.out
    have hfl := field_letter s l o f3 f7
    clear hrow Hv hr'
    go_wp2_with (first
      | (go_at_call 22; refine (forms_any _).mono ?_; rintro e w3 ⟨rfl, hb3⟩)
      | (go_at_call 23; refine (has_any l _).mono ?_; rintro e w4 ⟨rfl, rfl⟩))
    have n2 := (hb3.block _ M2).trans N2
    have c1 : w4.cell? ⟨w.heap.size, 0, none⟩ = some (.int .u32 x) := by
      rw [cell_of_row w4 _ _ _ _ _ ((hb3.block _ M1).trans N1)]; rfl
    have L1 : w.heap.size < w4.heap.size := Nat.lt_of_lt_of_le M1 hb3.size
    have L2 : w.heap.size + 1 < w4.heap.size := Nat.lt_of_lt_of_le M2 hb3.size
    have HB4 : Below w.heap.size w w4 := HB.trans (hb3.mono (by omega))
    clear hb3 N1 N2 M1 M2 HB hfl hix
    have N2 := hid n2
    clear n2
    refine wp_region_quiet_tail 14 (fun w' => ∃ u, w' = aft w4 u) (by kernel_rfl) (by kernel_rfl) (aft_drew _) ?_
    simp only [List.take_succ_cons, List.take_zero, List.drop_succ_cons, List.drop_zero]
    repeat (go_big_quiet_step (first
      | (go_at_call_of 24 (Value.int IntKind.i64 7); exact aft_callq (register_any x 7 _ _ hx (by omega)))
      | (go_at_call_of 24 (Value.int IntKind.i64 15); exact aft_callq (register_any x 15 _ _ hx (by omega)))
      | (go_at_call_of 24 (Value.int IntKind.i64 20); exact aft_callq (register_any x 20 _ _ hx (by omega)))
      | (go_at_call 25; exact aft_call (number_any l x _ hx))))
    refine wpQuiet_nil ?_
    rintro w5 ⟨u, rfl⟩
    have n5 := (aft_heap (u := u) L2).trans N2.out
    go_wp2_with (first
      | (refine wpList_store_row rfl 26 (.tmp 2) (.tmp 39) rfl (w.heap.size + 1) (instCells i (registerN x 7 (hasB l).1) (registerN x 15 (hasB l).2.1) (registerN x 20 (hasB l).2.2) (numI l x)) rfl rfl 26 _ n5 info26s rfl (instCells_one ..) ?_))
    refine bodyPost_ret (results_cell_tmp rfl _ _ (w.heap.size + 1) 26 (instCells i (registerN x 7 (hasB l).1) (registerN x 15 (hasB l).2.1) (registerN x 20 (hasB l).2.2) (numI l x)) (0, 0) _ rfl (setRow_heap _ _ _ _ _ _ n5) Try.underlying26 rfl info26s) rfl ?_
    exact ⟨rfl, below_setRow (HB4.trans ((aft_below w4 u).mono (by omega))) (by omega) _⟩
end
end Go.Proofs.Ytoljkjnehcbbaaa
