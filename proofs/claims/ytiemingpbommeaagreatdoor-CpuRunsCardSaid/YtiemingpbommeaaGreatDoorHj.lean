/- A space of three pages, copied. -/
import Derived.Test.YtiemingpbommeaaGreatDoorHi
import Derived.Test.YtiemingpbommeaaGreatDoorGp
import Derived.Stop.BytesEq
namespace Go.Proofs.YtiemingpbommeaaGreatDoor
open Go Go.RowKit Go.Shelf Go.ChangeMaps
noncomputable section
set_option linter.unusedVariables false
set_option linter.unusedSimpArgs false
attribute [local go_sem] Oper.semAt_some

section
variable {P : Program} {Q : Exit → Act → World → Prop}
/-- a listed region within a round -/
theorem listIn_of_list {n l : Nat} {ops : Array Oper} (hQ : ¬LetsOut Q) : ∀ (r : List Oper) (a : Act) (w : World), (r.all fun o => match o.op with | .defer _ => false | _ => true) = true → wpList P ops Q r a w → wpListIn (Fence.wide.inRound l) n P ops Q r a w
  | [], _, _, _, h => h
  | o :: r, a, w, hd, h => by
    simp only [List.all_cons, Bool.and_eq_true] at hd
    have hdo : ∀ c, o.op ≠ .defer c := fun c e => by
      have := hd.1
      rw [e] at this
      cases this
    unfold wpList at h
    unfold wpListIn
    split at h
    · rename_i hw
      rw [if_pos hw]
      rcases h with h | h
      · exact operIn_of_wp hdo (Oper.wp_mono (fun a w h => listIn_of_list hQ r a w hd.2 h) h)
      · exact absurd h.2 hQ
    · rename_i hw
      rw [if_neg hw]
      exact ⟨fun _ _ => trivial, listIn_of_list hQ r _ _ hd.2 h⟩
theorem wpList_value {ops : Array Oper} {rest : List Oper} {o : Oper} {a : Act} {w w' : World} (v : Value) (hg : o.guard = none) (hr : (execOp a.eval o).run P w = .ok (.value v) w') (h : wpList P ops Q rest (a.put o.dst v) w') : wpList P ops Q (o :: rest) a w :=
  wpList_plain hg fun K hK => by
    unfold Oper.wp
    rw [hr]
    exact hK _ _ h
end

theorem infoPage4 : (Tryz.prog.info? 85).map (·.size) = some 257 := by kernel_rfl
theorem pgCells_size {g : Pg} (h : g.b.length = 256) : (pgCells g).size = 257 := by simp [pgCells, h]
theorem pgCells_one (g : Pg) : (pgCells g).all (·.oneCell') = true := by
  simp [pgCells, Value.oneCell']

/-- the set's list behind so many pages -/
def LL : Nat → List (Nat × Nat)
  | 0 => []
  | j + 1 => [(65536, 65536 + 256 * (j + 1))]

/-- between two rounds: so many pages are copied; what the copy lies in is new -/
structure CopyI (sp : Nat) (q : Int) (M : List Pg) (w : World) (j : Nat) (W : World) : Prop where
  below : Below w.heap.size w W
  box : W.heap[w.heap.size]? = some (.cells #[.pointer (some ⟨sp, 0, none⟩)] 25 (0, 0))
  cell : W.heap[w.heap.size + 3]? = some (.cells #[.pointer (some ⟨w.heap.size + 2, 0, none⟩)] 25 (0, 0))
  space : ∃ sl qs, SpaceIs W (w.heap.size + 2) (w.heap.size + 1) sl q qs ∧ pgs qs = M.take j ∧ SetIs W sl (LL j) ∧ (∀ b ∈ blks qs, w.heap.size + 4 ≤ b) ∧ (∀ k ∈ ownB sl, w.heap.size + 4 ≤ k)

theorem copyI_own (sp : Nat) (q : Int) (M : List Pg) (w : World) (B : Nat) (hB : w.heap.size + 4 ≤ B) : OwnFrom B (CopyI sp q M w) := by
  intro j A C row h hg hr
  obtain ⟨h1, h2, h3, sl, qs, hS, hM, hL, hb, ho⟩ := h
  have hk : ∀ k o, A.heap[k]? = some o → (k < B ∨ o.isCells = true) → C.heap[k]? = some o := fun k o hko hc => by
    rw [hg.block k (Array.getElem?_eq_some_iff.1 hko).1 ?_]
    · exact hko
    · intro e
      obtain ⟨g1, o', ho', hc'⟩ := hr k e.symm
      rcases hc with hc | hc
      · omega
      · rw [hko] at ho'
        cases ho'
        rw [hc] at hc'
        cases hc'
  refine ⟨h1.grown hg h1.size (fun k e => by have := (hr k e).1; omega), hk _ _ h2 (.inr rfl), hk _ _ h3 (.inr rfl), sl, qs, ⟨hk _ _ hS.row (.inr rfl), hk _ _ hS.map (.inl (by omega)), fun x hx => hk _ _ (hS.page x hx) (.inr rfl), hS.good, hS.nd⟩, hM, ?_, hb, ho⟩
  refine ⟨hL.1, hL.2.imp id ?_⟩
  rintro ⟨g, cap, cur, e1, e2, e3, e4⟩
  exact ⟨g, cap, cur, e1, e2, hk _ _ e3 (.inr rfl), e4⟩

/-- a page more, at the end -/
theorem space_push {V : World} {c m2 b : Nat} {sl : Value} {q : Int} {qs : List (Pg × Nat)} {g : Pg} (h : SpaceIs V c m2 sl q qs) (hb : V.heap[b]? = some (.cells (pgCells g) 85 (0, 0))) (hn : b ∉ blks qs) (hG : Good (pgs qs ++ [g])) :
    ∃ V2, (Instr.mapUpdate 69 (.map (some m2)) (.int .u64 (g.a : Int)) (.pointer (some ⟨b, 0, none⟩))).run Tryz.prog V = .ok () V2 ∧ SpaceIs V2 c m2 sl q (qs ++ [(g, b)]) ∧ Keep [m2] V V2 := by
  have hset : ∀ o, Keep [m2] V (setBlock V m2 o) := fun o => ⟨rfl, rfl, rfl, by simp [setBlock], fun k _ hk => by
    simp only [List.mem_singleton] at hk
    simp only [setBlock]
    rw [Array.getElem?_setIfInBounds, if_neg (fun e => hk e.symm)]⟩
  have hmm : ∀ o, (setBlock V m2 o).heap[m2]? = some o := fun o => by
    simp only [setBlock]
    rw [Array.getElem?_setIfInBounds, if_pos rfl, if_pos (blk_lt' h.map)]
  have hcm : c ∉ [m2] := fun e => by
    have e := List.mem_singleton.1 e
    have h1 := h.row
    have h2 := h.map
    rw [e, h2] at h1; cases h1
  have hbm : b ∉ [m2] := fun e => by
    have e := List.mem_singleton.1 e
    have h2 := h.map
    rw [e, h2] at hb; cases hb
  have hblm : ∀ x ∈ qs, x.2 ∉ [m2] := fun x hx e => by
    have e := List.mem_singleton.1 e
    have h1 := h.page x hx
    rw [e, h.map] at h1
    cases h1
  have hno : ∀ x ∈ qs, x.1.a ≠ g.a := fun x hx => by
    have := hG.nd
    rw [List.pairwise_append] at this
    exact this.2.2 x.1 (List.mem_map.2 ⟨x, hx, rfl⟩) g (by simp)
  refine ⟨_, run_update_new V m2 _ qs g.a b (hG.top g (by simp)) h.map hno, ⟨(hset _).row h.row hcm, ?_, ?_, ?_, ?_⟩, hset _⟩
  · rw [hmm, ents_append]
    simp
  · intro x hx
    rcases List.mem_append.1 hx with hx | hx
    · exact (hset _).row (h.page x hx) (hblm x hx)
    · obtain rfl := List.mem_singleton.1 hx
      exact (hset _).row hb hbm
  · have : pgs (qs ++ [(g, b)]) = pgs qs ++ [g] := by simp [pgs]
    rw [this]
    exact hG
  · refine List.pairwise_append.2 ⟨h.nd, by simp, fun x hx y hy => ?_⟩
    obtain rfl := List.mem_singleton.1 hy
    exact fun e => hn (List.mem_map.2 ⟨x, hx, e⟩)
theorem Good.sub {M N : List Pg} (h : Good M) (hs : N.Sublist M) : Good N :=
  ⟨fun g hg => h.len g (hs.subset hg), fun g hg => h.al g (hs.subset hg), fun g hg => h.top g (hs.subset hg), fun g hg => h.per g (hs.subset hg), h.nd.sublist hs⟩
theorem take_pg3 {ps : List (Pg × Nat)} (h : Three ps) (j : Nat) (hj : j < 3) : (pgs ps).take (j + 1) = (pgs ps).take j ++ [(pg3 ps j).1] ∧ ((pg3 ps j).1.a : Int) = a3 j ∧ (pg3 ps j).1.a = 65536 + 256 * j := by
  obtain ⟨⟨a0, p0, l0⟩, b0, ⟨a1, p1, l1⟩, b1, ⟨a2, p2, l2⟩, b2, rfl, h0, h1, h2⟩ := h.form
  simp only at h0 h1 h2
  subst h0; subst h1; subst h2
  obtain rfl | rfl | rfl : j = 0 ∨ j = 1 ∨ j = 2 := by omega
  all_goals exact ⟨rfl, rfl, rfl⟩
theorem alloc_page (w : World) : ∃ zc : Array Value, zc.size = 257 ∧ ∀ (o : Oper) (a : Act), o.op = .alloc 85 → (execOp a.eval o).run Tryz.prog w = .ok (.value (.pointer (some ⟨w.heap.size, 0, none⟩))) (w.alloc (.cells zc 85)) := by
  refine ⟨pgCells (zeroPg 0 0), by kernel_rfl, fun o a ho => ?_⟩
  unfold execOp
  rw [ho]
  kernel_rfl

theorem SetIs.block {w : World} {sl : Value} {L : List (Nat × Nat)} (h : SetIs w sl L) {k : Nat} (hk : k ∈ ownB sl) : ∃ cs, w.heap[k]? = some (.cells cs 76 (0, 0)) := by
  have e := ownB_mem hk
  rcases h.2 with ⟨rfl, _⟩ | ⟨g, cap, cur, rfl, _, hg, _⟩
  · cases e
  · simp only [Value.ownBlock, Option.some.injEq] at e
    subst e
    exact ⟨_, hg⟩
theorem LL_next (j : Nat) (hj : j < 3) : Behind (LL j) (65536 + 256 * j, 65536 + 256 * (j + 1)) ∧ Rising (LL j ++ [(65536 + 256 * j, 65536 + 256 * (j + 1))]) ∧ joinL (LL j ++ [(65536 + 256 * j, 65536 + 256 * (j + 1))]) = LL (j + 1) ∧ (LL j).length ≤ 1 := by
  obtain rfl | rfl | rfl : j = 0 ∨ j = 1 ∨ j = 2 := by omega
  · exact ⟨fun i hi => by simp [LL] at hi, fun i hi => by simp [LL] at hi, by decide, by decide⟩
  · exact ⟨fun i hi => by obtain rfl : i = 0 := by simpa [LL] using hi
                          decide, fun i hi => by obtain rfl : i = 0 := by simp [LL] at hi; omega
                                                 decide, by decide, by decide⟩
  · exact ⟨fun i hi => by obtain rfl : i = 0 := by simpa [LL] using hi
                          decide, fun i hi => by obtain rfl : i = 0 := by simp [LL] at hi; omega
                                                 decide, by decide, by decide⟩

/-- a round's end -/
theorem copy_step {sp j : Nat} {q : Int} {M : List Pg} {w W V V2 W3 : World} {sl v : Value} {qs : List (Pg × Nat)} {g : Pg} (hI : CopyI sp q M w j W) (hS : SpaceIs W (w.heap.size + 2) (w.heap.size + 1) sl q qs) (hM : pgs qs = M.take j) (hMj : M.take (j + 1) = M.take j ++ [g])
    (hL : SetIs W sl (LL j)) (hb : ∀ b ∈ blks qs, w.heap.size + 4 ≤ b) (ho : ∀ k ∈ ownB sl, w.heap.size + 4 ≤ k) (hbV : Below W.heap.size W V) (hS3 : SpaceIs V2 (w.heap.size + 2) (w.heap.size + 1) sl q (qs ++ [(g, W.heap.size)])) (hK3 : Keep [w.heap.size + 1] V V2)
    (hO : OutIs V2.heap.size W3 v (LL (j + 1))) (hrow : W3.heap[w.heap.size + 2]? = some (.cells #[.map (some (w.heap.size + 1)), v, .int .i64 q] 74 (0, 0))) (hK4 : Keep ((w.heap.size + 2) :: ownB sl) V2 W3) :
    KeepsFrom (w.heap.size + 5) W W3 ∧ KpC (w.heap.size + 5) (w.heap.size + 2) (w.heap.size + 1) W W3 ∧ CopyI sp q M w (j + 1) W3 := by
  have hk : ∀ k o, W.heap[k]? = some o → k ≠ w.heap.size + 2 → k ≠ w.heap.size + 1 → (∀ cs fr, o ≠ .cells cs 76 fr) → W3.heap[k]? = some o := fun k o hk h1 h2 h3 => by
    have hl := blk_lt' hk
    refine hK4.row (hK3.row ((hbV.block k hl).trans hk) (by simpa using h2)) (fun hm => ?_)
    rcases List.mem_cons.1 hm with e | hm
    · exact h1 e
    · obtain ⟨cs, hc⟩ := hL.block hm
      rw [hc] at hk
      cases hk
      exact h3 _ _ rfl
  have hsz : W.heap.size ≤ W3.heap.size := Nat.le_trans hbV.size (Nat.le_trans hK3.size hK4.size)
  have hVs := hbV.size
  have hV2 := hK3.size
  have hws := hI.below.size
  have hcl := blk_lt' hS.row
  have hbW : Below w.heap.size w W3 := (((Keep.of_below (S := (w.heap.size + 1) :: (w.heap.size + 2) :: ownB sl) (hI.below.trans (hbV.mono hws))).trans (hK3.mono (by simp))).trans (hK4.mono (fun k hk => List.mem_cons_of_mem _ hk))).below (Nat.le_refl _) (fun k hk => by
    rcases List.mem_cons.1 hk with rfl | hk
    · omega
    · rcases List.mem_cons.1 hk with rfl | hk
      · omega
      · have := ho k hk; omega)
  have hno : ∀ k cs t, V2.heap[k]? = some (.cells cs t (0, 0)) → t ≠ 76 → k ≠ w.heap.size + 2 → k < V2.heap.size → W3.heap[k]? = some (.cells cs t (0, 0)) := fun k cs t h1 h2 h3 h4 => by
    refine hK4.row h1 (fun hm => ?_)
    rcases List.mem_cons.1 hm with e | hm
    · exact h3 e
    · obtain ⟨cs', hc⟩ := hL.block hm
      have h5 := ho k hm
      have := hK3.row ((hbV.block k (blk_lt' hc)).trans hc) (by simp; omega)
      rw [h1] at this
      cases this
      exact h2 rfl
  refine ⟨⟨hsz, fun k o hB hko hc => hk k o hko (by omega) (by omega) (fun cs fr e => by subst e; cases hc)⟩, ⟨hsz, fun k o hko h1 h2 _ h4 => hk k o hko h1 h2 h4⟩, hbW, hk _ _ hI.box (by omega) (by omega) (fun cs fr e => by cases e), hk _ _ hI.cell (by omega) (by omega) (fun cs fr e => by cases e), v, qs ++ [(g, W.heap.size)], ⟨hrow, ?_, fun x hx => ?_, hS3.good, hS3.nd⟩, ?_, (hO.base (Nat.zero_le _)).owns, fun b hb' => ?_, fun k hk' => ?_⟩
  · refine hK4.row hS3.map (fun hm => ?_)
    rcases List.mem_cons.1 hm with e | hm
    · omega
    · have := ho _ hm; omega
  · refine hno _ _ _ (hS3.page x hx) (by decide) (fun e => ?_) (blk_lt' (hS3.page x hx))
    have h1 := hS3.page x hx
    rw [e, hS3.row] at h1
    cases h1
  · rw [hMj, ← hM]
    simp [pgs]
  · unfold blks at hb'
    rw [List.map_append] at hb'
    rcases List.mem_append.1 hb' with hb' | hb'
    · exact hb b hb'
    · simp at hb'
      subst hb'
      have := blk_lt' hI.cell
      omega
  · have := hO.own k hk'
    have := blk_lt' hI.cell
    omega

set_option maxHeartbeats 4000000 in
set_option maxRecDepth 100000 in
theorem copy_any (sp m : Nat) (sl : Value) (q : Int) (ps : List (Pg × Nat)) (w : World) (hS : SpaceIs w sp m sl q ps) (h3 : Three ps) :
    Calls Tryz.prog 20 #[.pointer (some ⟨sp, 0, none⟩)] w fun e w' =>
      ∃ c m2 sl2 qs, e = .returned (.pointer (some ⟨c, 0, none⟩)) ∧ SpaceIs w' c m2 sl2 q qs ∧ pgs qs = pgs ps ∧ (∀ b ∈ blks qs, w.heap.size ≤ b) ∧ w.heap.size ≤ c ∧ w.heap.size ≤ m2 ∧ Below w.heap.size w w' := by
  have HS := hid hS
  have H3 := hid h3
  have hmm := @run_makeMap Tryz.prog
  have c0 := hS.cellMap
  have c2 := hS.cellQuota
  have hspl := blk_lt' hS.row
  clear hS h3
  refine (callsIn_wide (n := 5)).1 (callsIn_of_wp_marks Tryz.func20 rfl trivial (wpIn_wide.2 ?_) rfl)
  simp only [Tryz.ntmps20, List.size_toArray, List.length_cons, List.length_nil, Nat.reduceAdd, Nat.reduceSub, Array.replicate_succ, Array.replicate_zero, List.push_toArray, List.append_toArray, List.nil_append, List.cons_append]
  go_wp2_with fail
  obtain ⟨W1, hW1⟩ : ∃ W1, (((w.alloc (.cells #[.pointer (some ⟨sp, 0, none⟩)] 25)).alloc (.map #[] 0)).alloc (.cells #[.map (some (w.heap.size + 1)), .slice none 0 0, .int .i64 q] 74)).alloc (.cells #[.pointer (some ⟨w.heap.size + 1 + 1, 0, none⟩)] 25) = W1 := ⟨_, rfl⟩
  have hs1 : W1.heap.size = w.heap.size + 4 := by rw [← hW1]; simp
  have hb1 : Below w.heap.size w W1 := by
    rw [← hW1]
    exact ((((Below.refl _ _).alloc (Nat.le_refl _) _).alloc (by simp) _).alloc (by simp; omega) _).alloc (by simp; omega) _
  have hI0 : CopyI sp q (pgs ps) w 0 W1 := by
    have e0 : W1.heap[w.heap.size]? = some (.cells #[.pointer (some ⟨sp, 0, none⟩)] 25 (0, 0)) := by
      rw [← hW1, Below.heap_alloc _ _ _ (by simp; omega), Below.heap_alloc _ _ _ (by simp; omega)]
      exact heap_alloc2_old _ _ _
    have e1 : W1.heap[w.heap.size + 1]? = some (.map #[] 0) := by
      rw [← hW1, Below.heap_alloc _ _ _ (by simp), Below.heap_alloc _ _ _ (by simp)]
      exact heap_alloc2_new _ _ _
    have e2 : W1.heap[w.heap.size + 2]? = some (.cells #[.map (some (w.heap.size + 1)), .slice none 0 0, .int .i64 q] 74 (0, 0)) := by
      rw [← hW1, Below.heap_alloc _ _ _ (by simp)]
      have h := heap_alloc_new ((w.alloc (.cells #[.pointer (some ⟨sp, 0, none⟩)] 25)).alloc (.map #[] 0)) (.cells #[.map (some (w.heap.size + 1)), .slice none 0 0, .int .i64 q] 74)
      rwa [World.size_alloc, World.size_alloc] at h
    have e3 : W1.heap[w.heap.size + 3]? = some (.cells #[.pointer (some ⟨w.heap.size + 2, 0, none⟩)] 25 (0, 0)) := by
      rw [← hW1]
      have h := heap_alloc_new (((w.alloc (.cells #[.pointer (some ⟨sp, 0, none⟩)] 25)).alloc (.map #[] 0)).alloc (.cells #[.map (some (w.heap.size + 1)), .slice none 0 0, .int .i64 q] 74)) (.cells #[.pointer (some ⟨w.heap.size + 1 + 1, 0, none⟩)] 25)
      rwa [World.size_alloc, World.size_alloc, World.size_alloc] at h
    exact ⟨hb1, e0, e3, .slice none 0 0, [], ⟨e2, e1, by simp, ⟨by simp [pgs], by simp [pgs], by simp [pgs], by simp [pgs], by simp [pgs]⟩, by simp⟩, rfl, ⟨rfl, .inl ⟨rfl, rfl⟩⟩, by simp [blks], by simp [ownB, Value.ownBlock]⟩
  rw [hW1]
  clear hW1 c0 c2
  have c0 : W1.cell? ⟨w.heap.size, 0, none⟩ = some (.pointer (some ⟨sp, 0, none⟩)) := by rw [cell_of_row _ _ _ _ _ _ hI0.box]; rfl
  refine (pagesOf_any sp W1).mono ?_
  rintro e W2 ⟨rfl, hW2⟩
  have hb2 : Below W1.heap.size W1 W2 := by rw [← hW2]; exact (Below.refl _ _).alloc (Nat.le_refl _) _
  have hbx : W2.heap[w.heap.size + 4]? = some (.cells #[.pointer (some ⟨sp, 0, none⟩)] 25 (0, 0)) := by rw [← hW2, ← hs1]; exact heap_alloc_new _ _
  have HI2 : Hid (CopyI sp q (pgs ps) w 0 W2) := hid (by rw [← hW2]; exact (copyI_own sp q (pgs ps) w (w.heap.size + 4) (Nat.le_refl _)).alloc _ hI0)
  have hs2 : W2.heap.size = w.heap.size + 5 := by rw [← hW2]; simp [hs1]
  have hml := blk_lt' HS.out.map
  have hap : Apart (w.heap.size + 2) (w.heap.size + 1) sp m ps := ⟨by omega, by omega, fun h => by have := HS.out.lt_blk h; omega, by omega, by omega, fun h => by have := HS.out.lt_blk h; omega⟩
  have HS2 := hid (HS.out.below (hb1.trans (hb2.mono hb1.size)))
  clear hW2 c0 hI0 hb2 hb1
  go_wp2_with fail
  refine (wpIn_wide (n := 5)).1 ?_
  refine range_in_order rfl (by omega) (gf := 97) (lb := #[.pointer (some ⟨w.heap.size + 4, 0, none⟩)]) rfl trivial (enters_of Tryz.func97 (by kernel_rfl) rfl)
    (pages_stops (w.heap.size + 4) sp m (w.heap.size + 2) (w.heap.size + 1) sl q ps W2 hap H3.out (by omega) (by omega) (by omega) (by omega) hbx HS2.out) kpC_t (kpC_b (Nat.le_refl _)) (Below.refl _ _) (fun _ => rfl)
    (CopyI sp q (pgs ps) w) (copyI_own sp q (pgs ps) w _ (by omega)) HI2.out ?a1 ?assign ?body ?done
  case assign =>
    intro l j W K hK
    gi_wp2
    exact hK
  case body =>
    intro l j W hj hI
    have HI := hid hI
    obtain ⟨sl2, qs, hS2, hM2, hL2, hb2, ho2⟩ := hI.space
    have hSW := HS.out.below hI.below
    obtain ⟨hl, hp⟩ := three_cell hSW H3.out j hj (a3 j) rfl
    have hmem := (three_at H3.out j hj).2
    have hrow := hSW.page _ hmem
    obtain ⟨ht1, ht2, ht3⟩ := take_pg3 H3.out j hj
    have hlen : (pg3 ps j).1.b.length = 256 := hSW.good.len _ (List.mem_map.2 ⟨_, hmem, rfl⟩)
    obtain ⟨zc, hz1, hz2⟩ := alloc_page W
    have c0 : W.cell? ⟨w.heap.size, 0, none⟩ = some (.pointer (some ⟨sp, 0, none⟩)) := by rw [cell_of_row _ _ _ _ _ _ hI.box]; rfl
    have c1 := hSW.cellMap
    generalize hpg : pg3 ps j = pg at *
    obtain ⟨g, b⟩ := pg
    simp only at hl hp hrow ht1 ht2 ht3 hlen
    unfold enc3
    rw [hpg]
    generalize hak : a3 j = ak at *
    simp only [List.size_toArray, List.length_cons, List.length_nil, List.zip_toArray, List.zip_cons_cons, List.zip_nil_right, List.foldl_toArray', List.foldl_cons, List.foldl_nil, List.setIfInBounds_toArray, List.set_cons_zero, List.set_cons_succ, List.getElem?_toArray, List.getElem?_cons_succ, List.getElem?_cons_zero, Option.getD_some, Nat.reduceAdd, Nat.min_self]
    refine wpIn_block ?_
    refine wpIn_seq ?_
    refine wpIn_region_lit ?_
    refine listIn_of_list (fun ⟨_, _, h⟩ => h) _ _ _ (by kernel_rfl) ?_
    go_wp2_with (first
      | (refine wpList_value (.agg (pgCells g)) rfl (exec_load_row 85 (.tmp 25) rfl b rfl 85 _ (0, 0) _ hrow Tryz.underlying85 rfl (by rw [infoPage4, pgCells_size hlen])) ?_)
      | (refine wpList_value _ rfl (hz2 _ _ rfl) ?_)
      | (refine wpList_store_row rfl 85 (.tmp 5) (.tmp 26) rfl W.heap.size (pgCells g) rfl rfl 85 zc (heap_alloc_new _ _) (by rw [infoPage4, pgCells_size hlen]) (by rw [hz1, pgCells_size hlen]) (pgCells_one g) ?_))
    obtain ⟨V, hV⟩ : ∃ V, (W.alloc (.cells zc 85)).setRow W.heap.size (pgCells g) = V := ⟨_, rfl⟩
    have hbV : Below W.heap.size W V := by rw [← hV]; exact below_setRow ((Below.refl _ _).alloc (Nat.le_refl _) _) (Nat.le_refl _) _
    have hVr : V.heap[W.heap.size]? = some (.cells (pgCells g) 85 (0, 0)) := by rw [← hV]; exact setRow_heap _ _ _ _ _ _ (heap_alloc_new _ _)
    have hVs : V.heap.size = W.heap.size + 1 := by rw [← hV]; simp
    rw [hV]
    obtain ⟨V2, hup, hS3, hK3⟩ := space_push (hS2.below hbV) hVr (fun h => by have := hS2.lt_blk h; omega) (by rw [hM2, ← ht1]; exact HS.out.good.sub (List.take_sublist _ _))
    have hc3 : V.cell? ⟨w.heap.size + 3, 0, none⟩ = some (.pointer (some ⟨w.heap.size + 2, 0, none⟩)) := by rw [cell_of_row _ _ _ _ _ _ ((hbV.block _ (blk_lt' hI.cell)).trans hI.cell)]; rfl
    have hc2 := (hS2.below hbV).cellMap
    rw [ht2] at hup
    have hd3 : V2.cell? ⟨w.heap.size + 3, 0, none⟩ = some (.pointer (some ⟨w.heap.size + 2, 0, none⟩)) := by rw [cell_of_row _ _ _ _ _ _ (hK3.row ((hbV.block _ (blk_lt' hI.cell)).trans hI.cell) (by simp))]; rfl
    have hak2 : Hid (ak = ((65536 + 256 * j : Nat) : Int)) := hid (by rw [← ht2, ht3])
    have hwr : Hid (IntKind.u64.wrap (((65536 + 256 * j : Nat) : Int) + 256) = ((65536 + 256 * (j + 1) : Nat) : Int)) := hid (by rw [u64w']; omega)
    have Ht1 := hid ht1
    have hL3 : SetIs V2 sl2 (LL j) := (hL2.below hbV).keep hK3 (fun k hk hm => by have := ho2 k hk; simp at hm; omega)
    obtain ⟨n1, n2, n3, n4⟩ := LL_next j hj
    clear hl hp hrow c0 c1 hz2 ht1 ht2 ht3 hak
    gi_wp2_with fail
    have hadd := setAdd_any (w.heap.size + 2) 1 sl2 _ _ (LL j) (65536 + 256 * j, 65536 + 256 * (j + 1)) V2 hS3.row (by decide) rfl hL3 (by simp only; omega) n1 n2 (by omega)
    simp only at hadd
    rw [← hak2.out, ← hwr.out, ← hak2.out] at hadd
    refine ⟨trivial, CallsIn.inRound l (callsIn_wide.2 (hadd.mono ?_))⟩
    rintro e W3 ⟨rfl, v, hO, hr4, hK4⟩
    rw [n3] at hO
    have hfin := copy_step hI hS2 hM2 Ht1.out hL2 hb2 ho2 hbV hS3 hK3 hO hr4 hK4
    gi_wp2_with fail
    rw [hs2]
    exact hfin
  case done =>
    intro D W hD hI hK
    have HI : CopyI sp q (pgs ps) w 3 (W.putObj D (.deferred none)) := copyI_own sp q (pgs ps) w (w.heap.size + 5) (by omega) _ _ _ _ hI (grownBy_putObj' W D (.deferred none)) (fun r e => by cases e; exact ⟨by omega, _, hK, rfl⟩)
    have hd3 : W.cell? ⟨w.heap.size + 3, 0, none⟩ = some (.pointer (some ⟨w.heap.size + 2, 0, none⟩)) := by rw [cell_of_row _ _ _ _ _ _ hI.cell]; rfl
    have HI' := hid HI
    clear HI hI
    go_wp2_with fail
    refine ⟨by simp, .inl ⟨_, _, rfl, run_takeDeferred hK, ?_⟩⟩
    refine ⟨_, results_tmp rfl _ _ _, ?_⟩
    obtain ⟨sl2, qs, h1, h2, h3, h4, h5⟩ := HI'.out.space
    refine ⟨_, _, sl2, qs, rfl, h1, ?_, fun b hb => by have := h4 b hb; omega, by omega, by omega, HI'.out.below⟩
    rw [h2, List.take_of_length_le]
    obtain ⟨g0, b0, g1, b1, g2, b2, rfl, _⟩ := H3.out.form
    simp [pgs]
end
end Go.Proofs.YtiemingpbommeaaGreatDoor

/- Two spaces of three pages that are alike. -/
namespace Go.Proofs.YtiemingpbommeaaGreatDoor
open Go Go.RowKit Go.Shelf Go.ChangeMaps
noncomputable section
set_option linter.unusedVariables false
set_option linter.unusedSimpArgs false
attribute [local go_sem] Oper.semAt_some

theorem page_eq (g : Pg) (h : g.b.length = 256) (w : World) : (Op.equalIn 10000 85 (.agg (pgCells g)) (.agg (pgCells g))).run Tryz.prog w = .ok true w := by
  rw [show (10000 : Nat) = 9999 + 1 from rfl, run_equalIn_agg w 9999 _ _ _ (by kernel_rfl) (by kernel_rfl)]
  have e2 : (Op.equalIn 9999 83 (.agg (g.b.map Extern.Stop.cell).toArray) (.agg (g.b.map Extern.Stop.cell).toArray)).run Tryz.prog w = .ok true w := by
    have := run_equalIn_bytes (P := Tryz.prog) w 9997 83 5 256 Tryz.underlying83 Tryz.underlying5 (fun w => by kernel_rfl) g.b g.b h h
    rw [this]
    simp
  have e1 : (Op.equalIn 9999 3 (.int .i64 g.p) (.int .i64 g.p)).run Tryz.prog w = .ok true w := by
    rw [show (9999 : Nat) = 9998 + 1 from rfl, run_equalIn_int w 9998 3 .i64 .i64 _ _ Tryz.underlying3]
    simp
  have hs : ∀ w, (sizeOf 83).run Tryz.prog w = .ok 256 w := fun w => by kernel_rfl
  have p1 : (part 3 (pgCells g) 0).run Tryz.prog w = .ok (.int .i64 g.p) w := by
    simp [part, isAgg, run_underlying Tryz.underlying3, pgCells]
  have p2 : (part 83 (pgCells g) 1).run Tryz.prog w = .ok (.agg (g.b.map Extern.Stop.cell).toArray) w := by
    simp [part, isAgg, run_underlying Tryz.underlying83, hs, pgCells, h]
    exact List.take_of_length_le (by simp; omega)
  have hf : (Tryz.prog.fieldsOf 85).toList.map (fun f => (f.name == "_", f.type, f.offset)) = [(false, 3, 0), (false, 83, 1)] := by kernel_rfl
  generalize (Tryz.prog.fieldsOf 85).toList = fs at hf
  rcases fs with _ | ⟨f1, _ | ⟨f2, _ | ⟨f3, fs⟩⟩⟩
  · simp at hf
  · simp at hf
  · simp only [List.map_cons, List.map_nil, List.cons.injEq, Prod.mk.injEq, beq_eq_false_iff_ne, and_true] at hf
    obtain ⟨⟨n1, t1, o1⟩, n2, t2, o2⟩ := hf
    simp [Op.eqFields, n1, n2, t1, t2, o1, o2, p1, p2, e1, e2, Result.andThen]
  · simp at hf

section
variable {P : Program} {Q : Exit → Act → World → Prop}
/-- a region within a round whose operations only read -/
theorem region_round_quiet {n l id : Nat} {l' : List Oper} {a : Act} {w : World} (C : World → Prop) (hm : P.follows .mixedOrders = true) (hd : noDefer l'.toArray = true) (hQ : ¬LetsOut Q) (hB : Region.lexB .any l'.toArray = true)
    (hC : C { w with drawn := w.drawn + 1 }) (h : wpQuiet P l'.toArray C (fun a' => ∀ w', C w' → Q .normal a' w') l' a) : (Code.region id l'.toArray true).wpIn (Fence.wide.inRound l) n P Q a w := by
  refine region_round hm hd hQ ?_
  simp only [Region.lexB, Bool.and_eq_true] at hB
  refine wpAny_of_quiet (Q := fun a' => ∀ w', C w' → Q .normal a' w') (fun _ w' hw' h => h w' hw') _ _ _ _ hC ?_
  have := wpAnyQ_lex (C := C) (md := .any) hB.1 l' 0 (Array.replicate l'.length false) a (by simp) (by simpa using hB.2) h
  simpa using this
end

theorem exec_neq_page {o : Oper} {a : Act} {w : World} {x y : Operand} {t : TypeId} {g : Pg} (h : g.b.length = 256) (ho : o.op = .binOp .neq 85 x y t) (hx : a.eval x = .agg (pgCells g)) (hy : a.eval y = .agg (pgCells g)) :
    (execOp a.eval o).run Tryz.prog w = .ok (.value (.bool false)) w := by
  have hg := run_eqGuard_agg (P := Tryz.prog) w .neq 85 x y (pgCells g) (pgCells g) (by kernel_rfl)
  have hn := run_neq_struct (P := Tryz.prog) w 85 (pgCells g) (pgCells g)
  rw [page_eq g h] at hn
  unfold execOp
  simp [ho, hx, hy, hg, hn, Result.andThen]

/-- between two rounds: all that was is there -/
structure SameI (sp c : Nat) (w : World) (_ : Nat) (W : World) : Prop where
  below : Below w.heap.size w W
  b0 : W.heap[w.heap.size]? = some (.cells #[.pointer (some ⟨sp, 0, none⟩)] 25 (0, 0))
  b1 : W.heap[w.heap.size + 1]? = some (.cells #[.pointer (some ⟨c, 0, none⟩)] 25 (0, 0))
  b2 : W.heap[w.heap.size + 2]? = some (.cells #[.bool false] 4 (0, 0))
theorem sameI_own (sp c : Nat) (w : World) (B : Nat) (hB : w.heap.size ≤ B) : OwnFrom B (SameI sp c w) := by
  intro j A C row h hg hr
  have hk : ∀ (k : Nat) (o : Obj), A.heap[k]? = some o → Obj.isCells o = true → C.heap[k]? = some o := fun k o hko hc => by
    rw [hg.block k (Array.getElem?_eq_some_iff.1 hko).1 ?_]
    · exact hko
    · intro e
      obtain ⟨g1, o', ho', hc'⟩ := hr k e.symm
      rw [hko] at ho'
      cases ho'
      rw [hc] at hc'
      cases hc'
  exact ⟨h.below.grown hg h.below.size (fun k e => by have := (hr k e).1; omega), hk _ _ h.b0 rfl, hk _ _ h.b1 rfl, hk _ _ h.b2 rfl⟩

theorem three_len {ps : List (Pg × Nat)} (h : Three ps) : (ents 0 ps).toArray.size = 3 := by
  obtain ⟨g0, b0, g1, b1, g2, b2, rfl, _⟩ := h.form
  rfl
theorem three_alike {ps qs : List (Pg × Nat)} (h : Three ps) (he : pgs qs = pgs ps) : Three qs ∧ ∀ j, (pg3 qs j).1 = (pg3 ps j).1 := by
  have ha : qs.map (fun x => x.1.a) = ps.map (fun x => x.1.a) := by
    have := congrArg (List.map Pg.a) he
    simpa [pgs, Function.comp_def] using this
  refine ⟨by unfold Three; rw [ha]; exact h, fun j => ?_⟩
  have hl : ∀ l : List (Pg × Nat), (pg3 l j).1 = (pgs l).getD j ⟨0, 0, []⟩ := fun l => by
    unfold pg3 pgs
    rw [List.getD_eq_getElem?_getD, List.getD_eq_getElem?_getD, List.getElem?_map]
    cases l[j]? <;> rfl
  rw [hl, hl, he]
/-- the look-up of a page, with its second value -/
theorem three_cell2 {w : World} {sp m : Nat} {sl : Value} {q : Int} {ps : List (Pg × Nat)} (hS : SpaceIs w sp m sl q ps) (h : Three ps) (j : Nat) (hj : j < 3) (k : Int) (hk : a3 j = k) :
    (Instr.lookup 69 (.map (some m)) (.int .u64 k) true).run Tryz.prog w = .ok (.tuple #[.pointer (some ⟨(pg3 ps j).2, 0, none⟩), .bool true]) w := by
  obtain ⟨h1, h2⟩ := three_at h j hj
  have hb := a3_small j hj
  obtain ⟨n, hn⟩ : ∃ n : Nat, a3 j = n := ⟨(a3 j).toNat, by omega⟩
  have hn2 : (a3 j).toNat = n := by omega
  rw [hn2] at h1
  rw [← hk, hn, run_lookup_pages w m _ ps n (by omega) hS.map, h1]
  rfl

set_option maxHeartbeats 4000000 in
set_option maxRecDepth 100000 in
theorem same_any (sp m c m2 : Nat) (sl sl2 : Value) (q q2 : Int) (ps qs : List (Pg × Nat)) (w : World) (hS : SpaceIs w sp m sl q ps) (hS2 : SpaceIs w c m2 sl2 q2 qs) (h3 : Three ps) (he : pgs qs = pgs ps) :
    Calls Tryz.prog 22 #[.pointer (some ⟨sp, 0, none⟩), .pointer (some ⟨c, 0, none⟩)] w fun e w' => e = .returned (.bool true) ∧ Below w.heap.size w w' := by
  have HS := hid hS
  have HS2 := hid hS2
  have H3 := hid h3
  have He := hid he
  clear hS hS2 h3 he
  refine (callsIn_wide (n := 5)).1 (callsIn_of_wp_marks Tryz.func22 rfl trivial (wpIn_wide.2 ?_) rfl)
  simp only [Tryz.ntmps22, List.size_toArray, List.length_cons, List.length_nil, Nat.reduceAdd, Nat.reduceSub, Array.replicate_succ, Array.replicate_zero, List.push_toArray, List.append_toArray, List.nil_append, List.cons_append]
  go_wp2_with fail
  obtain ⟨W1, hW1⟩ : ∃ W1, ((w.alloc (.cells #[.pointer (some ⟨sp, 0, none⟩)] 25)).alloc (.cells #[.pointer (some ⟨c, 0, none⟩)] 25)).alloc (.cells #[.bool false] 4) = W1 := ⟨_, rfl⟩
  have hs1 : W1.heap.size = w.heap.size + 3 := by rw [← hW1]; simp
  have hI1 : SameI sp c w 0 W1 := by
    refine ⟨?_, ?_, ?_, ?_⟩
    · rw [← hW1]
      exact (((Below.refl _ _).alloc (Nat.le_refl _) _).alloc (by simp) _).alloc (by simp; omega) _
    · rw [← hW1, Below.heap_alloc _ _ _ (by simp; omega)]
      exact heap_alloc2_old _ _ _
    · rw [← hW1, Below.heap_alloc _ _ _ (by simp)]
      exact heap_alloc2_new _ _ _
    · rw [← hW1]
      have h := heap_alloc_new ((w.alloc (.cells #[.pointer (some ⟨sp, 0, none⟩)] 25)).alloc (.cells #[.pointer (some ⟨c, 0, none⟩)] 25)) (.cells #[.bool false] 4)
      rwa [World.size_alloc, World.size_alloc] at h
  rw [hW1]
  clear hW1
  have HI1 := hid hI1
  have HSa := HS.out.below hI1.below
  have HSb := HS2.out.below hI1.below
  have c0 : W1.cell? ⟨w.heap.size, 0, none⟩ = some (.pointer (some ⟨sp, 0, none⟩)) := by rw [cell_of_row _ _ _ _ _ _ hI1.b0]; rfl
  have c1 : W1.cell? ⟨w.heap.size + 1, 0, none⟩ = some (.pointer (some ⟨c, 0, none⟩)) := by rw [cell_of_row _ _ _ _ _ _ hI1.b1]; rfl
  have c2 := HSa.cellMap
  have c3 := HSb.cellMap
  have l0 : sp < W1.heap.size := blk_lt' HSa.row
  have l1 : c < W1.heap.size := blk_lt' HSb.row
  have l2 : w.heap.size < W1.heap.size := blk_lt' hI1.b0
  have l3 : w.heap.size + 1 < W1.heap.size := blk_lt' hI1.b1
  obtain ⟨hq3, hq4⟩ := three_alike H3.out He.out
  have hlen1 : ∀ u, (Builtin.len_ #[69] 3 #[.map (some m)]).run Tryz.prog (aft W1 u) = .ok (.int .i64 3) (aft W1 u) := fun u => by
    have h := run_len_pages (aft W1 u) m _ _ 3 ((aft_heap (blk_lt' HSa.map)).trans HSa.map)
    rw [three_len H3.out] at h
    exact h
  have hlen2 : ∀ u, (Builtin.len_ #[69] 3 #[.map (some m2)]).run Tryz.prog (aft W1 u) = .ok (.int .i64 3) (aft W1 u) := fun u => by
    have h := run_len_pages (aft W1 u) m2 _ _ 3 ((aft_heap (blk_lt' HSb.map)).trans HSb.map)
    rw [three_len hq3] at h
    exact h
  have Hq3 := hid hq3
  have Hq4 := hid hq4
  have HSa' := hid HSa
  have HSb' := hid HSb
  have Hs1 := hid hs1
  clear hI1 HSa HSb hq3 hq4 hs1
  refine wp_region_quiet_in (fun w' => ∃ u, w' = aft W1 u) (by kernel_rfl) (by kernel_rfl) (aft_drew _) ?_
  repeat (go_big_quiet_step (fail))
  refine wpQuiet_nil ?_
  rintro w5 ⟨u, rfl⟩
  obtain ⟨W2, hW2⟩ : ∃ W2, aft W1 u = W2 := ⟨_, rfl⟩
  have bu : Below W1.heap.size W1 W2 := by rw [← hW2]; exact aft_below W1 u
  rw [hW2]
  have hI2 : SameI sp c w 0 W2 := ⟨HI1.out.below.trans (bu.mono HI1.out.below.size), (bu.block _ l2).trans HI1.out.b0, (bu.block _ l3).trans HI1.out.b1, (bu.block _ (blk_lt' HI1.out.b2)).trans HI1.out.b2⟩
  clear c0 c1 c2 c3 l0 l1 l2 l3 hlen1 hlen2 hW2
  have c0 : W2.cell? ⟨w.heap.size, 0, none⟩ = some (.pointer (some ⟨sp, 0, none⟩)) := by rw [cell_of_row _ _ _ _ _ _ hI2.b0]; rfl
  have HI2 := hid hI2
  have Bu := hid bu
  clear hI2 bu
  go_wp2_with fail
  refine (pagesOf_any sp W2).mono ?_
  rintro e W3 ⟨rfl, hW3⟩
  have hb3 : Below W2.heap.size W2 W3 := by rw [← hW3]; exact (Below.refl _ _).alloc (Nat.le_refl _) _
  have hbx : W3.heap[W2.heap.size]? = some (.cells #[.pointer (some ⟨sp, 0, none⟩)] 25 (0, 0)) := by rw [← hW3]; exact heap_alloc_new _ _
  have HI3 : Hid (SameI sp c w 0 W3) := hid (by rw [← hW3]; exact (sameI_own sp c w w.heap.size (Nat.le_refl _)).alloc _ HI2.out)
  have hs3 : W2.heap.size < W3.heap.size := blk_lt' hbx
  have hs2 : w.heap.size + 3 ≤ W2.heap.size := blk_lt' HI2.out.b2
  have lm := blk_lt' HS.out.map
  have lsp := blk_lt' HS.out.row
  have hap : Apart (w.heap.size + 1) (w.heap.size + 1) sp m ps := ⟨by omega, by omega, fun h => by have := HS.out.lt_blk h; omega, by omega, by omega, fun h => by have := HS.out.lt_blk h; omega⟩
  have HS3 := hid (HS.out.below HI3.out.below)
  have Hs2 := hid hs2
  have Hs3 := hid hs3
  clear hW3 c0 hb3 hs2 lm lsp hs3
  go_wp2_with fail
  refine (wpIn_wide (n := 5)).1 ?_
  refine range_in_order rfl (by omega) (gf := 97) (lb := #[.pointer (some ⟨W2.heap.size, 0, none⟩)]) rfl trivial (enters_of Tryz.func97 (by kernel_rfl) rfl)
    (pages_stops W2.heap.size sp m (w.heap.size + 1) (w.heap.size + 1) sl q ps W3 hap H3.out (by have := Hs2.out; omega) (by have := Hs2.out; omega) (by have := Hs2.out; have := Hs3.out; omega) (by have := Hs2.out; have := Hs3.out; omega) hbx HS3.out) kpC_t (kpC_b (Nat.le_refl _)) (Below.refl _ _) (fun _ => rfl)
    (SameI sp c w) (sameI_own sp c w _ (by have := Hs2.out; have := Hs3.out; omega)) HI3.out ?a1 ?assign ?body ?done
  case assign =>
    intro l j W K hK
    gi_wp2
    exact hK
  case body =>
    intro l j W hj hI
    have HI := hid hI
    have hSa := HS.out.below hI.below
    have hSb := HS2.out.below hI.below
    obtain ⟨hl, hp⟩ := three_cell hSa H3.out j hj (a3 j) rfl
    have hl2 := three_cell2 hSb Hq3.out j hj (a3 j) rfl
    have hlu : ∀ u, (Instr.lookup 69 (.map (some m)) (.int .u64 (a3 j)) false).run Tryz.prog (aft W u) = .ok (.pointer (some ⟨(pg3 ps j).2, 0, none⟩)) (aft W u) := fun u => (three_cell (hSa.below (aft_below W u)) H3.out j hj (a3 j) rfl).1
    have hrow := hSa.page _ (three_at H3.out j hj).2
    have hrow2 := hSb.page _ (three_at Hq3.out j hj).2
    rw [Hq4.out j] at hrow2
    have hlen : (pg3 ps j).1.b.length = 256 := hSa.good.len _ (List.mem_map.2 ⟨_, (three_at H3.out j hj).2, rfl⟩)
    have c0 : W.cell? ⟨w.heap.size, 0, none⟩ = some (.pointer (some ⟨sp, 0, none⟩)) := by rw [cell_of_row _ _ _ _ _ _ hI.b0]; rfl
    have c1 : W.cell? ⟨w.heap.size + 1, 0, none⟩ = some (.pointer (some ⟨c, 0, none⟩)) := by rw [cell_of_row _ _ _ _ _ _ hI.b1]; rfl
    have c2 := hSa.cellMap
    have c3 := hSb.cellMap
    unfold enc3
    generalize (pg3 qs j).2 = b2 at *
    generalize hpg : pg3 ps j = pg at *
    obtain ⟨g, b⟩ := pg
    simp only at hl hp hrow hrow2 hlen
    generalize hak : a3 j = ak at *
    have HSa2 := hid hSa
    have HSb2 := hid hSb
    clear hI hSa hSb hp
    simp only [List.size_toArray, List.length_cons, List.length_nil, List.zip_toArray, List.zip_cons_cons, List.zip_nil_right, List.foldl_toArray', List.foldl_cons, List.foldl_nil, List.setIfInBounds_toArray, List.set_cons_zero, List.set_cons_succ, List.getElem?_toArray, List.getElem?_cons_succ, List.getElem?_cons_zero, Option.getD_some, Nat.reduceAdd, Nat.min_self]
    gi_wp2_with fail
    have l0 : sp < W.heap.size := blk_lt' HSa2.out.row
    have l2 : w.heap.size < W.heap.size := blk_lt' HI.out.b0
    have Hrow := hid hrow
    have Hrow2 := hid hrow2
    clear hrow hrow2 hl hl2
    refine region_round_quiet (fun w' => ∃ u, w' = aft W u) (by kernel_rfl) (by kernel_rfl) (fun ⟨_, _, h⟩ => h) (by kernel_rfl) (aft_drew _) ?_
    iterate 5 (go_big_quiet_step (fail))
    refine quiet_val (.agg (pgCells g)) (by kernel_rfl) (fun w' hC => ?_) ?_
    · obtain ⟨u, rfl⟩ := hC
      exact exec_load_row 85 (.tmp 44) rfl b2 rfl 85 _ (0, 0) _ ((aft_heap (blk_lt' Hrow2.out)).trans Hrow2.out) Tryz.underlying85 rfl (by rw [infoPage4, pgCells_size hlen])
    simp only [Act.put, List.setIfInBounds_toArray, List.set_cons_zero, List.set_cons_succ]
    iterate 7 (go_big_quiet_step (fail))
    refine quiet_val (.agg (pgCells g)) (by kernel_rfl) (fun w' hC => ?_) ?_
    · obtain ⟨u, rfl⟩ := hC
      exact exec_load_row 85 (.tmp 52) rfl b rfl 85 _ (0, 0) _ ((aft_heap (blk_lt' Hrow.out)).trans Hrow.out) Tryz.underlying85 rfl (by rw [infoPage4, pgCells_size hlen])
    simp only [Act.put, List.setIfInBounds_toArray, List.set_cons_zero, List.set_cons_succ]
    refine quiet_val (.bool false) (by kernel_rfl) (fun w' hC => ?_) ?_
    · exact exec_neq_page hlen rfl rfl rfl
    simp only [Act.put, List.setIfInBounds_toArray, List.set_cons_zero, List.set_cons_succ]
    repeat (go_big_quiet_step (fail))
    refine wpQuiet_nil ?_
    rintro w5 ⟨u, rfl⟩
    have hfin : ∀ a, goesOn W3.heap.size (KpC W3.heap.size (w.heap.size + 1) (w.heap.size + 1)) (SameI sp c w (j + 1)) W .normal a (aft W u) := by
      intro a
      have hu := aft_below W u
      refine ⟨⟨hu.size, fun k o _ hk _ => (hu.block k (blk_lt' hk)).trans hk⟩, ⟨hu.size, fun k o hk _ _ _ _ => (hu.block k (blk_lt' hk)).trans hk⟩, HI.out.below.trans (hu.mono HI.out.below.size), (hu.block _ (blk_lt' HI.out.b0)).trans HI.out.b0, (hu.block _ (blk_lt' HI.out.b1)).trans HI.out.b1, (hu.block _ (blk_lt' HI.out.b2)).trans HI.out.b2⟩
    gi_wp2_with fail
    exact hfin _
  case done =>
    intro D W hD hI hK
    have HI : SameI sp c w 3 (W.putObj D (.deferred none)) := sameI_own sp c w W3.heap.size (by have := Hs2.out; have := Hs3.out; omega) _ _ _ _ hI (grownBy_putObj' W D (.deferred none)) (fun r e => by cases e; exact ⟨hD, _, hK, rfl⟩)
    have c2 : W.cell? ⟨w.heap.size + 2, 0, none⟩ = some (.bool false) := by rw [cell_of_row _ _ _ _ _ _ hI.b2]; rfl
    have f2 := frozen_of_row W _ 0 _ _ hI.b2
    have HI' := hid HI
    have HB2 := hid hI.b2
    have HBl := hid hI.below
    clear HI hI
    go_wp2_with fail
    refine ⟨by simp, .inl ⟨_, _, rfl, run_takeDeferred (w := W.setCell ⟨w.heap.size + 2, 0, none⟩ (.bool true)) ((heap_setCell_other _ _ _ _ (by have := Hs2.out; have := Hs3.out; simp only; omega)).trans hK), ?_⟩⟩
    have hrow : ((W.setCell ⟨w.heap.size + 2, 0, none⟩ (.bool true)).putObj D (.deferred none)).heap[w.heap.size + 2]? = some (.cells #[.bool true] 4 (0, 0)) :=
      (World.putObj_heap_other (by have := Hs2.out; have := Hs3.out; omega)).trans (heap_setCell_same W (w.heap.size + 2) 0 _ _ (.bool true) HB2.out)
    have hcell : ((W.setCell ⟨w.heap.size + 2, 0, none⟩ (.bool true)).putObj D (.deferred none)).cell? ⟨w.heap.size + 2, 0, none⟩ = some (.bool true) := by rw [cell_of_row _ _ _ _ _ _ hrow]; rfl
    refine ⟨.bool true, ?_, rfl, ?_⟩
    · have hw : w.heap.size + 1 + 1 = w.heap.size + 2 := rfl
      simp [results, Tryz.f22, asAddr, hcell, loadVar, run_underlying Tryz.underlying4, Result.andThen]
    · have h := (HBl.out).setCell (p := ⟨w.heap.size + 2, 0, none⟩) (by simp) (.bool true)
      exact h.grown (grownBy_putObj' _ D _) h.size (fun k e => by cases e; have := Hs2.out; have := Hs3.out; omega)
end
end Go.Proofs.YtiemingpbommeaaGreatDoor
