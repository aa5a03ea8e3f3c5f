/- The law's own space: three pages, and a program laid into the first; the document's too. -/
import Derived.Test.YtiemingpbommeaaGreatDoorHg
import Derived.Test.YtiemingpbommeaaGreatDoorHc
import Derived.Test.YtiemingpbommeaaGreatDoorHd
import Derived.Test.YtiemingpbommeaaGreatDoorGq
import Derived.Deep.RegionWith
namespace Go.Proofs.YtiemingpbommeaaGreatDoor
open Go Go.RowKit
noncomputable section
set_option linter.unusedVariables false
set_option linter.unusedSimpArgs false
/-- a slice of words, somewhere -/
def Codes (w : World) (v : Value) : Prop := ∃ (p : Option Addr) (n c : Nat), v = .slice p n c ∧ n ≤ 9223372036854775807 ∧
  (0 < n → ∃ b off : Nat, p = some ⟨b, off, none⟩ ∧ b < w.heap.size ∧ ∀ j, j < n → ∃ (x : Nat) (r : Bool), x < 4294967296 ∧ w.cell? ⟨b, off + j * 2, none⟩ = some (.int .u32 x) ∧ w.cell? ⟨b, off + j * 2 + 1, none⟩ = some (.bool r))
theorem results_tct {P : Program} {fn : Func} {p q s : Tmp} {ty : TypeId} (h : fn.results = #[.tmp q, .cell p ty, .tmp s]) (tmps : Array Value) (w : World) (g : Nat) (t : TypeId) (cs : Array Value) (fr : Nat × Nat) (d : TypeDesc)
    (hp : tmps.getD p undef = .pointer (some ⟨g, 0, none⟩)) (hg : w.heap[g]? = some (.cells cs t fr))
    (hu : P.underlying ty = some d) (hd : (match d with | .struct _ | .array _ _ => true | _ => false) = true) (hi : (P.info? ty).map (·.size) = some cs.size) :
    (results fn tmps).run P w = .ok (.tuple #[tmps.getD q undef, .agg cs, tmps.getD s undef]) w := by
  have hp' : tmps[p]?.getD undef = .pointer (some ⟨g, 0, none⟩) := by simpa using hp
  simp [results, h, hp', asAddr, run_loadVar_row w g t ty cs fr d hg hu hd hi]
theorem i64_and7 (n : Int) : bits .and .i64 n 7 = n % 8 := by
  have h7 : (BitVec.ofInt 64 7).toNat = 2 ^ 3 - 1 := by decide
  have key : (BitVec.ofInt 64 n &&& BitVec.ofInt 64 7).toNat = (n % ((2 ^ 64 : Nat) : Int)).toNat % 2 ^ 3 := by
    rw [BitVec.toNat_and, BitVec.toNat_ofInt, h7, Nat.and_two_pow_sub_one_eq_mod]
  show IntKind.i64.wrap ((BitVec.ofInt 64 n &&& BitVec.ofInt 64 7).toNat : Nat) = n % 8
  rw [key, IntKind.wrap_i64]
  omega
/-- what may be done, out of any number -/
def prm (p : Int) : Nat := (p % 8).toNat
def prmX (p : Int) : Nat := if p % 2 = 0 then (p % 8).toNat + 1 else (p % 8).toNat
theorem prm_eq (p : Int) : bits .and .i64 p 7 = (prm p : Int) ∧ prm p ≤ 7 := by
  rw [i64_and7]; unfold prm; omega
theorem or_one (z : Int) (h0 : 0 ≤ z) (h8 : z < 8) : bits .or .i64 z 1 = if z % 2 = 0 then z + 1 else z := by
  have h : z = 0 ∨ z = 1 ∨ z = 2 ∨ z = 3 ∨ z = 4 ∨ z = 5 ∨ z = 6 ∨ z = 7 := by omega
  rcases h with rfl | rfl | rfl | rfl | rfl | rfl | rfl | rfl <;> decide
theorem prmX_eq (p : Int) : bits .or .i64 (bits .and .i64 p 7) 1 = (prmX p : Int) ∧ prmX p ≤ 7 := by
  rw [i64_and7, or_one _ (by omega) (by omega)]
  unfold prmX
  split <;> split <;> omega
/-- the three pages -/
def threeM (p0 p1 : Nat) : List Pg := [zeroPg p0 65536, zeroPg p1 65792, zeroPg p1 66048]
theorem behind_one {a b c d : Nat} (h : b ≤ c) : Behind [(a, b)] (c, d) := by
  intro i hi
  obtain rfl : i = 0 := by simpa using hi
  exact h
theorem rising_two {a b c d : Nat} (h : a ≤ c) : Rising ([(a, b)] ++ [(c, d)]) := by
  intro i hi
  obtain rfl : i = 0 := by simp at hi; omega
  exact h
theorem on_three (p0 p1 i : Nat) (h : i < 256) : pgOf (threeM p0 p1) (adr 65536 i) = some (zeroPg p0 65536) := by
  unfold pgOf threeM adr
  have : (65536 + i) % 18446744073709551616 - (65536 + i) % 18446744073709551616 % 256 = 65536 := by omega
  rw [this]
  rfl
theorem poke_three (p0 p1 : Nat) (T : List UInt8) (h : T.length ≤ 256) : pokeN (threeM p0 p1) 65536 T = (layN (threeM p0 p1) 65536 T, 0, 0) ∧ ∀ i, i < T.length → (pgOf (threeM p0 p1) (adr 65536 i)).isSome = true := by
  refine ⟨?_, fun i hi => by rw [on_three _ _ _ (by omega)]; rfl⟩
  unfold pokeN
  rw [mayN_none (fun i hi => by rw [okAt_zero, on_three _ _ _ (by omega)]; rfl)]
  rfl
theorem good_nil : Good [] := ⟨by simp, by simp, by simp, by simp, by simp⟩
theorem two_cells {w : World} {X : Nat} {cs : Array Value} (h : w.heap[X]? = some (.cells cs 54 (0, 0))) (v u : Value) :
    (((w.setCell ⟨X, 0, none⟩ v).setCell ⟨X, 1, none⟩ u).heap[X]? = some (.cells ((cs.setIfInBounds 0 v).setIfInBounds 1 u) 54 (0, 0))) ∧
    (∀ k, k ≠ X → ((w.setCell ⟨X, 0, none⟩ v).setCell ⟨X, 1, none⟩ u).heap[k]? = w.heap[k]?) ∧
    (∀ B w0, Below B w0 w → B ≤ X → Below B w0 ((w.setCell ⟨X, 0, none⟩ v).setCell ⟨X, 1, none⟩ u)) ∧
    (∀ B sl M, RL B w sl M → X < B → RL B ((w.setCell ⟨X, 0, none⟩ v).setCell ⟨X, 1, none⟩ u) sl M) := by
  refine ⟨?_, fun k hk => ?_, fun B w0 hb hB => ?_, fun B sl M hR hX => ?_⟩
  · exact heap_setCell_same _ X 1 _ _ u (heap_setCell_same w X 0 _ _ v h)
  · exact (heap_setCell_other _ _ _ _ (by simp only; omega)).trans (heap_setCell_other _ _ _ _ (by simp only; omega))
  · exact (hb.setCell hB _).setCell hB _
  · have k1 := World.ownsRow.kept (row := some X) hR (World.grownBy_setCell w ⟨X, 0, none⟩ v) (.inr (fun e => hR.far hX e.symm))
    exact World.ownsRow.kept (row := some X) k1 (World.grownBy_setCell _ ⟨X, 1, none⟩ u) (.inr (fun e => hR.far hX e.symm))
theorem good_one {p : Nat} (h : p < 8) : Good [zeroPg p 65536] := by
  have z := zeroPg_good p 65536 h (by decide) (by decide)
  have hm : ∀ g ∈ [zeroPg p 65536], g = zeroPg p 65536 := fun g hg => by simpa using hg
  exact ⟨fun g hg => by rw [hm g hg]; exact z.1, fun g hg => by rw [hm g hg]; exact z.2.1, fun g hg => by rw [hm g hg]; exact z.2.2.1, fun g hg => by rw [hm g hg]; exact z.2.2.2, by simp⟩
theorem good_three {p0 p1 : Nat} (h0 : p0 ≤ 7) (h1 : p1 ≤ 7) : Good (threeM p0 p1) := by
  have z0 := zeroPg_good p0 65536 (by omega) (by decide) (by decide)
  have z1 := zeroPg_good p1 65792 (by omega) (by decide) (by decide)
  have z2 := zeroPg_good p1 66048 (by omega) (by decide) (by decide)
  have hm : ∀ g ∈ threeM p0 p1, g = zeroPg p0 65536 ∨ g = zeroPg p1 65792 ∨ g = zeroPg p1 66048 := fun g hg => by simpa [threeM] using hg
  refine ⟨fun g hg => ?_, fun g hg => ?_, fun g hg => ?_, fun g hg => ?_, ?_⟩
  · rcases hm g hg with rfl | rfl | rfl; exact z0.1; exact z1.1; exact z2.1
  · rcases hm g hg with rfl | rfl | rfl; exact z0.2.1; exact z1.2.1; exact z2.2.1
  · rcases hm g hg with rfl | rfl | rfl; exact z0.2.2.1; exact z1.2.2.1; exact z2.2.2.1
  · rcases hm g hg with rfl | rfl | rfl; exact z0.2.2.2; exact z1.2.2.2; exact z2.2.2.2
  · have ha : (zeroPg p0 65536).a = 65536 := rfl
    have hb : (zeroPg p1 65792).a = 65792 := rfl
    have hc : (zeroPg p1 66048).a = 66048 := rfl
    simp only [threeM, List.pairwise_cons, List.mem_cons, List.mem_nil_iff, or_false]
    refine ⟨?_, ?_, by simp⟩
    · rintro g (rfl | rfl)
      · rw [ha, hb]; decide
      · rw [ha, hc]; decide
    · rintro g rfl
      rw [hb, hc]
      decide
theorem spaceIs_setRow {w : World} {sp m g : Nat} {sl : Value} {q : Int} {ps : List (Pg × Nat)} {cs : Array Value} (h : SpaceIs w sp m sl q ps) (h1 : g ≠ sp) (h2 : g ≠ m) (h3 : g ∉ blks ps) : SpaceIs (w.setRow g cs) sp m sl q ps :=
  ⟨(setRow_other _ _ _ _ h1.symm).trans h.row, (setRow_other _ _ _ _ h2.symm).trans h.map, fun x hx => (setRow_other _ _ _ _ (fun e => h3 (by rw [← e]; exact List.mem_map.2 ⟨x, hx, rfl⟩))).trans (h.page x hx), h.good, h.nd⟩
theorem rl_setRow {B B' g : Nat} {w : World} {sl : Value} {M : List Pg} {cs : Array Value} (h : RL B w sl M) (hg : g < B) (hB : B' ≤ B) : RL B' (w.setRow g cs) sl M := by
  obtain ⟨h1, h2⟩ := h
  refine ⟨h1, ?_⟩
  rcases h2 with h2 | ⟨g', cap, cur, e, hb, hgg, r⟩
  · exact .inl h2
  · exact .inr ⟨g', cap, cur, e, by omega, (setRow_other _ _ _ _ (by omega)).trans hgg, r⟩
def BegunPost (p0 p1 : Int) (w : World) (e : Ending) (w' : World) : Prop :=
  ∃ (sp m : Nat) (sl rsl : Value) (ps : List (Pg × Nat)) (T : List UInt8), T.length ≤ 240 ∧ e = .returned (.tuple #[.pointer (some ⟨sp, 0, none⟩), .agg #[rsl, .int .i64 4], .bool true]) ∧
    SpaceIs w' sp m sl 4 ps ∧ pgs ps = layN (threeM (prmX p0) (prm p1)) 65536 T ∧ RL w.heap.size w' rsl (layN (threeM (prmX p0) (prm p1)) 65536 T) ∧ (∀ b ∈ blks ps, w.heap.size ≤ b) ∧ w.heap.size ≤ sp ∧ w.heap.size ≤ m ∧ Below w.heap.size w w'
section
variable {P : Program} {Q : Exit → Act → World → Prop} {ops : Array Oper} {md : Region.Mode}
theorem wpOp_valW {i : Nat} {o : Oper} {v : Value} {K : Act → World → Prop} {a : Act} {w w' : World} (ho : ops[i]? = some o) (hg : Region.wanted o (yielded ops a.tmps) = true) (hr : (execOp a.eval o).run P w = .ok (.value v) w') (hK : K (a.put o.dst v) w') : wpOp P ops Q i K a w := by
  unfold wpOp
  rw [ho]
  dsimp only
  rw [if_pos hg]
  refine .inl ?_
  show o.upon P a K Q _
  rw [hr]
  exact hK
theorem wpOp_callW {i : Nat} {o : Oper} {f : FuncId} {args : Array Value} {K : Act → World → Prop} {a : Act} {w : World} (v : Value) (R : World → Prop) (ho : ops[i]? = some o) (hg : Region.wanted o (yielded ops a.tmps) = true) (hr : (execOp a.eval o).run P w = .ok (.enter f args) w)
    (hc : Calls P f args w (fun e w'' => e = .returned v ∧ R w'')) (hK : ∀ w'', R w'' → K (a.put o.dst v) w'') : wpOp P ops Q i K a w := by
  unfold wpOp
  rw [ho]
  dsimp only
  rw [if_pos hg]
  refine .inl ?_
  show o.upon P a K Q _
  rw [hr]
  exact hc.mono fun e w'' ⟨he, hR⟩ => by subst he; exact hK w'' hR
end
theorem begun_done {P0 P1 sp m : Nat} {w w6 w12 : World} {sl2 : Value} {ps6 : List (Pg × Nat)} {T : List UInt8} {q3 : Option Addr} {n3 n3c : Nat} {cs : Array Value} (hT : T.length ≤ 240) (hS : SpaceIs w6 sp m sl2 4 ps6) (hK : Keep [] w w6) (hM : pgs ps6 = layN (threeM P0 P1) 65536 T) (hbl : ∀ b ∈ blks ps6, w.heap.size + 2 ≤ b)
    (hb : Below w6.heap.size w6 w12) (hR : RL (w6.heap.size + 1 + 1) w12 (.slice q3 n3 n3c) (layN (threeM P0 P1) 65536 T)) (hsp : w.heap.size + 2 ≤ sp) (hm : w.heap.size + 2 ≤ m) (h5 : w.heap.size + 1 < w6.heap.size) :
    ∃ (sp' m' : Nat) (sl rsl : Value) (ps : List (Pg × Nat)) (T' : List UInt8), T'.length ≤ 240 ∧ Ending.returned (.tuple #[.pointer (some ⟨sp, 0, none⟩), .agg #[.slice q3 n3 n3c, .int .i64 4], .bool true]) = .returned (.tuple #[.pointer (some ⟨sp', 0, none⟩), .agg #[rsl, .int .i64 4], .bool true]) ∧
      SpaceIs (w12.setRow (w.heap.size + 1) cs) sp' m' sl 4 ps ∧ pgs ps = layN (threeM P0 P1) 65536 T' ∧ RL w.heap.size (w12.setRow (w.heap.size + 1) cs) rsl (layN (threeM P0 P1) 65536 T') ∧ (∀ b ∈ blks ps, w.heap.size ≤ b) ∧ w.heap.size ≤ sp' ∧ w.heap.size ≤ m' ∧ Below w.heap.size w (w12.setRow (w.heap.size + 1) cs) := by
  have hs6 := hK.size
  exact ⟨sp, m, sl2, _, ps6, T, hT, rfl, spaceIs_setRow (hS.below hb) (by omega) (by omega) (fun hm' => by have := hbl _ hm'; omega), hM, rl_setRow hR (by omega) (by omega), fun b hb => by have := hbl b hb; omega, by omega, by omega,
    below_setRow ((hK.below (Nat.le_refl _) (by simp)).trans (hb.mono hs6)) (by omega) _⟩
set_option maxHeartbeats 4000000 in
set_option maxRecDepth 100000 in
theorem begun_any (v : Value) (p0 p1 : Int) (w : World) (hv : Codes w v) :
    Calls Tryz.prog 16 #[v, .agg #[.int .i64 p0, .int .i64 p1]] w (BegunPost p0 p1 w) := by
  obtain ⟨lp, n, c, rfl, hn, hc⟩ := hv
  have Hc := hid hc
  obtain ⟨P0, hP0⟩ : ∃ P, prmX p0 = P := ⟨_, rfl⟩
  obtain ⟨P1, hP1⟩ : ∃ P, prm p1 = P := ⟨_, rfl⟩
  have he0 := prmX_eq p0
  have he1 := prm_eq p1
  rw [hP0] at he0
  rw [hP1] at he1
  have Hp0 := hid he0.1
  have Hp1 := hid he1.1
  have hl0 := he0.2
  have hl1 := he1.2
  unfold BegunPost
  rw [hP0, hP1]
  clear hc hP0 hP1 he0 he1
  go_enter Tryz.func16, Tryz.ntmps16
  go_wp2_with fail
  refine (new_any 4 (by decide) _).mono ?_
  rintro e w1 ⟨sp, m, rfl, hS, hb1, hsp, hm⟩
  have N3 : Hid (w1.heap[w.heap.size]? = some (.cells #[.int .i64 p0, .int .i64 p1] 51 (0, 0))) := hid ((hb1.block _ (by simp; omega)).trans (heap_alloc2_old _ _ _))
  have N5 : Hid (w1.heap[w.heap.size + 1]? = some (.cells #[.slice none 0 0, .int .i64 0] 54 (0, 0))) := hid ((hb1.block _ (by simp)).trans (heap_alloc2_new _ _ _))
  have HS := hid hS
  have K1 : Hid (Below w.heap.size w w1) := hid ((((Below.refl _ _).alloc (Nat.le_refl _) _).alloc (by simp) _).trans (hb1.mono (by simp; omega)))
  have Hsp : w.heap.size + 2 ≤ sp := by simpa using hsp
  have Hm : w.heap.size + 2 ≤ m := by simpa using hm
  clear hS hb1 hsp hm
  have c0 : w1.cell? ⟨w.heap.size, 0, none⟩ = some (.int .i64 p0) := by rw [cell_of_row _ _ _ _ _ _ N3.out]; rfl
  go_wp2_with fail
  rw [Hp0.out]
  refine (map_first sp m 4 65536 P0 65792 _ HS.out ⟨by decide, by decide, hl0, by decide, by decide⟩ rfl (by decide)).mono ?_
  rintro e w2 ⟨rfl, sl1, qs1, hS2, hqs1, hbl1, hset1, hk2, hown1⟩
  have hw1 := K1.out.size
  have K2 : Hid (Keep [] w w2) := hid (((Keep.of_below (S := [sp, m]) K1.out).trans (hk2.mono (by intro k hk; simpa [ownB, Value.ownBlock] using hk))).old (by intro k hk hlt; simp at hk; omega))
  have M3 := hid (hk2.row N3.out (by intro hm'; simp [ownB, Value.ownBlock] at hm'; omega))
  have M5 := hid (hk2.row N5.out (by intro hm'; simp [ownB, Value.ownBlock] at hm'; omega))
  rw [List.nil_append] at hS2
  have HS2 := hid hS2
  have Hset1 := hid hset1
  have Hown1 : Hid (∀ k ∈ ownB sl1, w.heap.size + 2 ≤ k) := hid (fun k hk => Nat.le_trans (by have := blk_lt' N5.out; omega) (hown1 k hk))
  have Hbl1 : Hid (∀ b ∈ blks qs1, w.heap.size + 2 ≤ b) := hid (fun b hb => Nat.le_trans (by have := blk_lt' N5.out; omega) (hbl1 b hb))
  obtain ⟨b1, hqb⟩ : ∃ b1, qs1 = [(zeroPg P0 65536, b1)] := by
    rcases qs1 with _ | ⟨⟨g1, b1⟩, _ | ⟨x, l⟩⟩
    · simp [pgs] at hqs1
    · simp [pgs] at hqs1; exact ⟨b1, by rw [hqs1]⟩
    · simp [pgs] at hqs1
  subst hqb
  clear hS2 hqs1 hbl1 hset1 hk2 hown1 N3 N5 HS K1 c0
  have c0 : w2.cell? ⟨w.heap.size, 0, none⟩ = some (.int .i64 p0) := by rw [cell_of_row _ _ _ _ _ _ M3.out]; rfl
  have c1 : w2.cell? ⟨w.heap.size, 1, none⟩ = some (.int .i64 p1) := by rw [cell_of_row _ _ _ _ _ _ M3.out]; rfl
  go_wp2_with fail
  rw [Hp1.out]
  have hj1 : joinL ([] ++ [(65536, 65792)]) = [(65536, 65792)] := by decide
  rw [hj1] at Hset1
  refine (map_any sp m sl1 4 [(zeroPg P0 65536, b1)] [(65536, 65792)] 65792 2 P1 66304 _ HS2.out Hset1.out ⟨by decide, by decide, hl1, by decide, by decide⟩ (by decide) (behind_one (by decide)) (rising_two (by decide)) (by simp) (by simp) (by simp) (by intro x hx; simp at hx; subst hx; exact (by decide : 65536 < 65792))).mono ?_
  rintro e w3 ⟨rfl, sl2, qs2, hS3, hqs2, hbl2, _, hk3, _⟩
  have hw2 := K2.out.size
  have hnk : ∀ k, k < w.heap.size + 2 → k ∉ sp :: m :: ownB sl1 := fun k hk hm' => by
    simp only [List.mem_cons] at hm'
    rcases hm' with h | h | h
    · omega
    · omega
    · have := Hown1.out k h; omega
  have N3 := hid (hk3.row M3.out (hnk _ (by omega)))
  have N5 := hid (hk3.row M5.out (hnk _ (by omega)))
  have K3 : Hid (Keep [] w w3) := hid (((K2.out.mono (T := sp :: m :: ownB sl1) (by simp)).trans hk3).old (by intro k hk hlt; exact absurd hk (hnk k (by omega))))
  obtain ⟨ps3, hp3⟩ : ∃ ps3, [(zeroPg P0 65536, b1)] ++ qs2 = ps3 := ⟨_, rfl⟩
  have Hps3 : Hid (pgs ps3 = threeM P0 P1) := hid (by
    rw [← hp3]
    unfold pgs at hqs2 ⊢
    rw [List.map_append, hqs2]
    rfl)
  have Hbl3 : Hid (∀ b ∈ blks ps3, w.heap.size + 2 ≤ b) := hid (by
    rw [← hp3]
    intro b hb
    unfold blks at hb
    rw [List.map_append] at hb
    rcases List.mem_append.1 hb with hb | hb
    · exact Hbl1.out b hb
    · have h1 := hbl2 b hb
      have := blk_lt' M5.out
      omega)
  rw [hp3] at hS3
  have HS3 := hid hS3
  clear hp3 hS3 hqs2 hbl2 hk3 hnk M3 M5 HS2 Hset1 Hown1 Hbl1 K2 c0 c1 hj1
  go_wp2_with fail
  go_loopw [12, 11] (fun i s wr => ∃ (k : Nat) (T : List UInt8), k ≤ 60 ∧ k ≤ n ∧ i = .int .i64 k ∧ s = .string ⟨T.toArray⟩ ∧ T.length = 4 * k ∧ Below w3.heap.size w3 wr) (fun i _ _ => 60 - (intOf i).toNat)
  case atStart => exact ⟨0, [], by omega, by omega, rfl, rfl, rfl, Below.refl _ _⟩
  case round =>
    obtain ⟨k, T, hk, hkn, rfl, rfl, hT, hb⟩ := hrel
    have HT := hid hT
    have KR : Hid (Keep [] w wr) := hid (K3.out.trans (Keep.of_below hb))
    by_cases hlt : k < n ∧ k < 60
    · obtain ⟨h1, h2⟩ := hlt
      obtain ⟨b, off, rfl, hbl, hj⟩ := Hc.out (by omega)
      obtain ⟨x, r, hx, hx0, hx1⟩ := hj k h1
      have c0 : wr.cell? ⟨b, off + k * 2, none⟩ = some (.int .u32 x) := (World.cell?_of_block (KR.out.block b hbl (by simp))).trans hx0
      have c1 : wr.cell? ⟨b, off + k * 2 + 1, none⟩ = some (.bool r) := (World.cell?_of_block (KR.out.block b hbl (by simp))).trans hx1
      clear hj hx0 hx1
      cases r with
      | true =>
        go_wp2_with fail
        refine (refPut_any x 4 _ (by omega) (by decide)).mono ?_
        rintro e w5 ⟨rfl, hb5⟩
        have hb6 : Below w3.heap.size w3 w5 := hb.trans (hb5.mono hb.size)
        have hl1 : T.length = 4 * k := HT.out
        have hl2 : (putL x 4).length = 4 := putL_length _ _
        clear c0 c1 hb5
        go_wp2_with fail
        go_roundw
        case rel => exact ⟨k + 1, T ++ putL x 4, by omega, by omega, by go_num, by simp [ByteArray.ext_iff], by rw [List.length_append, hl1, hl2]; omega, hb6⟩
        case measure => simp [intOf]; omega
      | false =>
        go_wp2_with fail
        refine (tame_any x _ hx).mono ?_
        rintro e w4 ⟨⟨y, hy, rfl⟩, hb4⟩
        have hb' : Below w3.heap.size w3 w4 := hb.trans (hb4.mono hb.size)
        clear c0 c1 hb4
        go_wp2_with fail
        refine (refPut_any y 4 _ (by omega) (by decide)).mono ?_
        rintro e w5 ⟨rfl, hb5⟩
        have hb6 : Below w3.heap.size w3 w5 := hb'.trans (hb5.mono hb'.size)
        have hl1 : T.length = 4 * k := HT.out
        have hl2 : (putL y 4).length = 4 := putL_length _ _
        clear hb5
        go_wp2_with fail
        go_roundw
        case rel => exact ⟨k + 1, T ++ putL y 4, by omega, by omega, by go_num, by simp [ByteArray.ext_iff], by rw [List.length_append, hl1, hl2]; omega, hb6⟩
        case measure => simp [intOf]; omega
    · have hge : (n : Int) ≤ k ∨ 60 ≤ (k : Int) := by omega
      have hTl : T.length ≤ 240 := by have := HT.out; omega
      have Hb := hid hb
      clear hb HT
      have hex : (k < n ∧ 60 ≤ k) ∨ n ≤ k := by omega
      obtain ⟨hpk, hon⟩ := poke_three P0 P1 T (by omega)
      have Hpk := hid hpk
      have Hon := hid hon
      clear hpk hon hge
      rcases hex with ⟨hk1, hk2⟩ | hk1
      all_goals
        go_wp2_with fail
        refine (poke_any sp m sl2 4 ps3 65536 T _ (by decide) (by omega) (HS3.out.below Hb.out)).mono ?_
        rintro e w6 ⟨rfl, ps6, hM6, hb6, hS6, hk6⟩
        rw [Hps3.out] at hM6 ⊢
        rw [Hpk.out] at hM6 ⊢
        have HM6 := hid hM6
        have HS6 := hid hS6
        have Hbl6 : Hid (∀ b ∈ blks ps6, w.heap.size + 2 ≤ b) := hid (by rw [hb6]; exact Hbl3.out)
        have hnb : ∀ k, k < w.heap.size + 2 → k ∉ blks ps3 := fun k hk hm' => by have := Hbl3.out k hm'; omega
        have K6 : Hid (Keep [] w w6) := hid (((KR.out.mono (T := blks ps3) (by simp)).trans hk6).old (by intro k hk hlt'; exact absurd hk (hnb k (by omega))))
        have M3 := hid (hk6.row ((Hb.out.block _ (blk_lt' N3.out)).trans N3.out) (hnb _ (by omega)))
        have M5 := hid (hk6.row ((Hb.out.block _ (blk_lt' N5.out)).trans N5.out) (hnb _ (by omega)))
        clear hM6 hS6 hb6 hnb hk6 N3 N5 KR HS3 Hbl3 Hb
        have c0 : w6.cell? ⟨w.heap.size, 0, none⟩ = some (.int .i64 p0) := by rw [cell_of_row _ _ _ _ _ _ M3.out]; rfl
        have c1 : w6.cell? ⟨w.heap.size, 1, none⟩ = some (.int .i64 p1) := by rw [cell_of_row _ _ _ _ _ _ M3.out]; rfl
        have hwl : w.heap.size < w6.heap.size := blk_lt' M3.out
        go_wp2_with fail
        obtain ⟨V, hV⟩ : ∃ V, (w6.alloc (.cells #[.int .i64 0, .int .u64 0, .string ⟨#[]⟩] 31)).alloc (.cells #[.slice none 0 0, .int .i64 4] 54) = V := ⟨_, rfl⟩
        have hVb : Below w6.heap.size w6 V := by rw [← hV]; exact ((Below.refl _ _).alloc (Nat.le_refl _) _).alloc (by simp) _
        have N14 : V.heap[w6.heap.size]? = some (.cells #[.int .i64 0, .int .u64 0, .string ⟨#[]⟩] 31 (0, 0)) := by rw [← hV]; exact heap_alloc2_old _ _ _
        have N15 : V.heap[w6.heap.size + 1]? = some (.cells #[.slice none 0 0, .int .i64 4] 54 (0, 0)) := by rw [← hV]; exact heap_alloc2_new _ _ _
        have hm1 : ([] ++ zeros P0 65536 1 : List Pg) = [zeroPg P0 65536] := rfl
        rw [hV, Hp0.out]
        refine (refMap_any w.heap.size (.slice none 0 0) [] 4 65536 1 P0 V (RL.nil _ _) good_nil ⟨by decide, by decide, hl0, by decide, by decide⟩ (by simp) (by decide) (by decide) (fun _ => rfl)).mono ?_
        rintro e w7 ⟨rl1, rfl, hR1, hb7⟩
        rw [hm1] at hR1
        obtain ⟨q1, n1c, rfl, _, _⟩ := hR1.parts
        have B7 : Below w6.heap.size w6 w7 := hVb.trans (hb7.mono hVb.size)
        have L14 := hid ((hb7.block _ (blk_lt' N14)).trans N14)
        have L15 := hid ((hb7.block _ (blk_lt' N15)).trans N15)
        have L3 := hid ((B7.block _ (blk_lt' M3.out)).trans M3.out)
        have L5 := hid ((B7.block _ (blk_lt' M5.out)).trans M5.out)
        have hVs := hVb.size
        have hVs2 : V.heap.size = w6.heap.size + 1 + 1 := by rw [← hV]; simp
        have HR1 := hid (hR1.base (B' := w6.heap.size + 1 + 1) (by omega))
        have HB7 := hid B7
        have M5s : Hid (w.heap.size + 1 < w6.heap.size) := hid (blk_lt' M5.out)
        clear hV hVb N14 N15 hm1 hb7 B7 hR1 M3 M5 c0 c1 hwl
        have c1 : w7.cell? ⟨w.heap.size, 1, none⟩ = some (.int .i64 p1) := by rw [cell_of_row _ _ _ _ _ _ L3.out]; rfl
        have x0 : w7.cell? ⟨w6.heap.size + 1, 0, none⟩ = some (.slice none 0 0) := by rw [cell_of_row _ _ _ _ _ _ L15.out]; rfl
        have x1 : w7.cell? ⟨w6.heap.size + 1, 1, none⟩ = some (.int .i64 4) := by rw [cell_of_row _ _ _ _ _ _ L15.out]; rfl
        have f0 := frozen_of_row w7 _ 0 _ _ L15.out
        have f1 := frozen_of_row w7 _ 1 _ _ L15.out
        have hne : w.heap.size ≠ w6.heap.size + 1 := by have := K6.out.size; omega
        go_wp2_with fail
        rw [Hp1.out]
        obtain ⟨r1, r2, r3, r4⟩ := two_cells L15.out (.slice q1 1 n1c) (.int .i64 4)
        obtain ⟨V8, hV8⟩ : ∃ V8, (w7.setCell ⟨w6.heap.size + 1, 0, none⟩ (.slice q1 1 n1c)).setCell ⟨w6.heap.size + 1, 1, none⟩ (.int .i64 4) = V8 := ⟨_, rfl⟩
        rw [hV8] at r1 r2 r3 r4
        rw [hV8]
        have E14 := (r2 w6.heap.size (by omega)).trans L14.out
        have E3 := (r2 w.heap.size hne).trans L3.out
        have hne5 : w.heap.size + 1 ≠ w6.heap.size + 1 := by have := M5s.out; omega
        have E5 := (r2 _ hne5).trans L5.out
        have HR8 := r4 _ _ _ HR1.out (Nat.lt_succ_self _)
        have B8 := r3 _ _ HB7.out (by omega)
        clear hV8 L14 L3 L5 HR1 HB7 c1 x0 x1 f0 f1
        have E15 : V8.heap[w6.heap.size + 1]? = some (.cells #[.slice q1 1 n1c, .int .i64 4] 54 (0, 0)) := r1
        clear r1 r2 r3 r4
        have hm2 : ([zeroPg P0 65536] ++ zeros P1 65792 2 : List Pg) = threeM P0 P1 := rfl
        refine (refMap_any (w6.heap.size + 1 + 1) (.slice q1 1 n1c) [zeroPg P0 65536] 4 65792 2 P1 V8 HR8 (good_one (by omega)) ⟨by decide, by decide, hl1, by decide, by decide⟩ (by intro x hx; simp at hx; subst hx; exact (by decide : 65536 < 65792)) (by simp) (by decide) (fun h => by simp at h)).mono ?_
        rintro e w9 ⟨rl2, rfl, hR2, hb9⟩
        rw [hm2] at hR2
        obtain ⟨q2, n2c, hrl2, _, _⟩ := hR2.parts
        rw [show (threeM P0 P1).length = 3 from rfl] at hrl2
        subst hrl2
        have F14 := hid ((hb9.block _ (blk_lt' E14)).trans E14)
        have F15 := hid ((hb9.block _ (blk_lt' E15)).trans E15)
        have F5 := hid ((hb9.block _ (blk_lt' E5)).trans E5)
        have h15 := blk_lt' E15
        have HR2 := hid (hR2.base (B' := w6.heap.size + 1 + 1) (by omega))
        have HB9 := hid (B8.trans (hb9.mono B8.size))
        clear E14 E15 E3 E5 hm2 hb9 B8 hR2 HR8 h15
        have x0 : w9.cell? ⟨w6.heap.size + 1, 0, none⟩ = some (.slice q1 1 n1c) := by rw [cell_of_row _ _ _ _ _ _ F15.out]; rfl
        have x1 : w9.cell? ⟨w6.heap.size + 1, 1, none⟩ = some (.int .i64 4) := by rw [cell_of_row _ _ _ _ _ _ F15.out]; rfl
        have f0 := frozen_of_row w9 _ 0 _ _ F15.out
        have f1 := frozen_of_row w9 _ 1 _ _ F15.out
        go_wp2_with fail
        obtain ⟨r1, r2, r3, r4⟩ := two_cells F15.out (.slice q2 3 n2c) (.int .i64 4)
        obtain ⟨V10, hV10⟩ : ∃ V10, (w9.setCell ⟨w6.heap.size + 1, 0, none⟩ (.slice q2 3 n2c)).setCell ⟨w6.heap.size + 1, 1, none⟩ (.int .i64 4) = V10 := ⟨_, rfl⟩
        rw [hV10] at r1 r2 r3 r4
        rw [hV10]
        have E14 := (r2 w6.heap.size (by omega)).trans F14.out
        have E5 := (r2 _ hne5).trans F5.out
        have HR10 := r4 _ _ _ HR2.out (Nat.lt_succ_self _)
        have B10 := r3 _ _ HB9.out (by omega)
        have E15 : V10.heap[w6.heap.size + 1]? = some (.cells #[.slice q2 3 n2c, .int .i64 4] 54 (0, 0)) := r1
        clear hV10 F14 F15 F5 HR2 HB9 x0 x1 f0 f1 r1 r2 r3 r4
        refine (refLay_any (w6.heap.size + 1 + 1) (.slice q2 3 n2c) (threeM P0 P1) 4 65536 T V10 HR10 (good_three hl0 hl1) (Nat.succ_pos _) (show 3 ≤ 4096 by decide) (by decide) (by omega) Hon.out).mono ?_
        rintro e w11 ⟨rl3, rfl, hR3, hb11⟩
        obtain ⟨q3, n3c, hrl3, _, _⟩ := hR3.parts
        obtain ⟨n3, hn3⟩ : ∃ n3, (layN (threeM P0 P1) 65536 T).length = n3 := ⟨_, rfl⟩
        rw [hn3] at hrl3
        subst hrl3
        have F14 := hid ((hb11.block _ (blk_lt' E14)).trans E14)
        have F15 := hid ((hb11.block _ (blk_lt' E15)).trans E15)
        have F5 := hid ((hb11.block _ (blk_lt' E5)).trans E5)
        have h15 := blk_lt' E15
        have HR3 := hid (hR3.base (B' := w6.heap.size + 1 + 1) (by omega))
        have HB11 := hid (B10.trans (hb11.mono B10.size))
        clear E14 E15 E5 hb11 B10 hR3 HR10 h15 hn3
        have x0 : w11.cell? ⟨w6.heap.size + 1, 0, none⟩ = some (.slice q2 3 n2c) := by rw [cell_of_row _ _ _ _ _ _ F15.out]; rfl
        have x1 : w11.cell? ⟨w6.heap.size + 1, 1, none⟩ = some (.int .i64 4) := by rw [cell_of_row _ _ _ _ _ _ F15.out]; rfl
        have f0 := frozen_of_row w11 _ 0 _ _ F15.out
        have f1 := frozen_of_row w11 _ 1 _ _ F15.out
        go_upto_region 17 with (fail)
        obtain ⟨r1, r2, r3, r4⟩ := two_cells F15.out (.slice q3 n3 n3c) (.int .i64 4)
        obtain ⟨V12, hV12⟩ : ∃ V12, (w11.setCell ⟨w6.heap.size + 1, 0, none⟩ (.slice q3 n3 n3c)).setCell ⟨w6.heap.size + 1, 1, none⟩ (.int .i64 4) = V12 := ⟨_, rfl⟩
        rw [hV12] at r1 r2 r3 r4
        rw [hV12]
        have E14 := (r2 w6.heap.size (by omega)).trans F14.out
        have E5 := hid ((r2 _ hne5).trans F5.out)
        have HR12 := hid (r4 _ _ _ HR3.out (Nat.lt_succ_self _))
        have B12 := hid (r3 _ _ HB11.out (by omega))
        have E15 : V12.heap[w6.heap.size + 1]? = some (.cells #[.slice q3 n3 n3c, .int .i64 4] 54 (0, 0)) := r1
        clear hV12 F14 F15 F5 HR3 HB11 x0 x1 f0 f1 r1 r2 r3 r4
        refine wp_region_any (by kernel_rfl) ?_
        change wpAny _ _ _ _ _ _ _ (World.drew V12)
        have d15 : V12.drew.heap[w6.heap.size + 1]? = some (.cells #[.slice q3 n3 n3c, .int .i64 4] 54 (0, 0)) := E15
        have d14 : V12.drew.heap[w6.heap.size]? = some (.cells #[.int .i64 0, .int .u64 0, .string ⟨#[]⟩] 31 (0, 0)) := E14
        have d5 : V12.drew.heap[w.heap.size + 1]? = some (.cells #[.slice none 0 0, .int .i64 0] 54 (0, 0)) := E5.out
        have BD : Below w6.heap.size w6 V12.drew := B12.out.drew
        have RD : RL (w6.heap.size + 1 + 1) V12.drew (.slice q3 n3 n3c) (layN (threeM P0 P1) 65536 T) := HR12.out
        obtain ⟨D, hD⟩ : ∃ D, V12.drew = D := ⟨_, rfl⟩
        rw [hD] at d15 d14 d5 BD RD ⊢
        clear hD E14 E15 E5 HR12 B12
        refine wpAny_take (i := 0) (v := (.pointer (some ⟨sp, 0, none⟩))) rfl (by kernel_rfl) (by kernel_rfl) (by kernel_rfl) (fun _ _ _ h => h) (Or.inl ⟨by rfl, fun w => by kernel_rfl⟩) ?_
        simp only [Act.put, List.getElem_toArray, List.getElem_cons_zero, List.getElem_cons_succ, List.setIfInBounds_toArray, List.set_cons_zero, List.set_cons_succ]
        refine wpAny_take (i := 2) (v := (.int .i64 0)) rfl (by kernel_rfl) (by kernel_rfl) (by kernel_rfl) (fun _ _ _ h => h) (Or.inl ⟨by rfl, fun w => by kernel_rfl⟩) ?_
        simp only [Act.put, List.getElem_toArray, List.getElem_cons_zero, List.getElem_cons_succ, List.setIfInBounds_toArray, List.set_cons_zero, List.set_cons_succ]
        refine wpAny_take (i := 3) (v := (.bool true)) rfl (by kernel_rfl) (by kernel_rfl) (by kernel_rfl) (fun _ _ _ h => h) (Or.inl ⟨by rfl, fun w => by kernel_rfl⟩) ?_
        simp only [Act.put, List.getElem_toArray, List.getElem_cons_zero, List.getElem_cons_succ, List.setIfInBounds_toArray, List.set_cons_zero, List.set_cons_succ]
        refine wpAny_take (i := 4) (v := (.bool true)) rfl (by kernel_rfl) (by kernel_rfl) (by kernel_rfl) (fun _ _ _ h => h) (Or.inl ⟨by rfl, fun w => by kernel_rfl⟩) ?_
        simp only [Act.put, List.getElem_toArray, List.getElem_cons_zero, List.getElem_cons_succ, List.setIfInBounds_toArray, List.set_cons_zero, List.set_cons_succ]
        refine wpAny_take (i := 5) (v := (.int .i64 0)) rfl (by kernel_rfl) (by kernel_rfl) (by kernel_rfl) (fun _ _ _ h => h) (Or.inl ⟨by rfl, fun w => by kernel_rfl⟩) ?_
        simp only [Act.put, List.getElem_toArray, List.getElem_cons_zero, List.getElem_cons_succ, List.setIfInBounds_toArray, List.set_cons_zero, List.set_cons_succ]
        refine wpAny_take (i := 6) (v := (.bool true)) rfl (by kernel_rfl) (by kernel_rfl) (by kernel_rfl) (fun _ _ _ h => h) (Or.inl ⟨by rfl, fun w => by kernel_rfl⟩) ?_
        simp only [Act.put, List.getElem_toArray, List.getElem_cons_zero, List.getElem_cons_succ, List.setIfInBounds_toArray, List.set_cons_zero, List.set_cons_succ]
        refine wpAny_take (i := 7) (v := (.bool true)) rfl (by kernel_rfl) (by kernel_rfl) (by kernel_rfl) (fun _ _ _ h => h) (Or.inl ⟨by rfl, fun w => by kernel_rfl⟩) ?_
        simp only [Act.put, List.getElem_toArray, List.getElem_cons_zero, List.getElem_cons_succ, List.setIfInBounds_toArray, List.set_cons_zero, List.set_cons_succ]
        refine wpAny_take (i := 8) (v := (.bool true)) rfl (by kernel_rfl) (by kernel_rfl) (by kernel_rfl) (fun _ _ _ h => h) (Or.inl ⟨by rfl, fun w => by kernel_rfl⟩) ?_
        simp only [Act.put, List.getElem_toArray, List.getElem_cons_zero, List.getElem_cons_succ, List.setIfInBounds_toArray, List.set_cons_zero, List.set_cons_succ]
        refine wpAny_take (i := 9) (v := (.int .i64 0)) rfl (by kernel_rfl) (by kernel_rfl) (by kernel_rfl) (fun _ _ _ h => h) (Or.inl ⟨by rfl, fun w => by kernel_rfl⟩) ?_
        simp only [Act.put, List.getElem_toArray, List.getElem_cons_zero, List.getElem_cons_succ, List.setIfInBounds_toArray, List.set_cons_zero, List.set_cons_succ]
        refine wpAny_take (i := 10) (v := (.bool true)) rfl (by kernel_rfl) (by kernel_rfl) (by kernel_rfl) (fun _ _ _ h => h) (Or.inl ⟨by rfl, fun w => by kernel_rfl⟩) ?_
        simp only [Act.put, List.getElem_toArray, List.getElem_cons_zero, List.getElem_cons_succ, List.setIfInBounds_toArray, List.set_cons_zero, List.set_cons_succ]
        refine wpAny_take (i := 11) (v := (.bool true)) rfl (by kernel_rfl) (by kernel_rfl) (by kernel_rfl) (fun _ _ _ h => h) (Or.inl ⟨by rfl, fun w => by kernel_rfl⟩) ?_
        simp only [Act.put, List.getElem_toArray, List.getElem_cons_zero, List.getElem_cons_succ, List.setIfInBounds_toArray, List.set_cons_zero, List.set_cons_succ]
        refine wpAny_take (i := 12) (v := (.bool true)) rfl (by kernel_rfl) (by kernel_rfl) (by kernel_rfl) (fun _ _ _ h => h) (Or.inl ⟨by rfl, fun w => by kernel_rfl⟩) ?_
        simp only [Act.put, List.getElem_toArray, List.getElem_cons_zero, List.getElem_cons_succ, List.setIfInBounds_toArray, List.set_cons_zero, List.set_cons_succ]
        refine any2 (i := 1) (j := 13) (by kernel_rfl) ?_ ?_
        · refine wpOp_val (w' := D) (v := .agg #[.slice q3 n3 n3c, .int .i64 4]) rfl rfl (exec_load_row 54 (.tmp 15) rfl (w6.heap.size + 1) rfl 54 _ (0, 0) _ d15 Tryz.underlying54 rfl infoSpace) ?_
          simp only [Act.put, List.getElem_toArray, List.getElem_cons_zero, List.getElem_cons_succ, List.setIfInBounds_toArray, List.set_cons_zero, List.set_cons_succ]
          refine any1 (i := 13) (by kernel_rfl) ?_
          refine wpOp_valW (w' := D) (v := .agg #[.int .i64 0, .int .u64 0, .string ⟨#[]⟩]) rfl (by rfl) (exec_load_row 31 (.tmp 14) rfl w6.heap.size rfl 31 _ (0, 0) _ d14 Tryz.underlying31 rfl infoFault) ?_
          simp only [Act.put, List.getElem_toArray, List.getElem_cons_zero, List.getElem_cons_succ, List.setIfInBounds_toArray, List.set_cons_zero, List.set_cons_succ]
          refine any1 (i := 14) (by kernel_rfl) ?_
          refine wpOp_callW (.bool true) (fun W' => Below D.heap.size D W') rfl (by rfl) (by kernel_rfl) (ok_zero 0 ⟨#[]⟩ D) ?_
          intro w12 hb12
          simp only [Act.put, List.getElem_toArray, List.getElem_cons_zero, List.getElem_cons_succ, List.setIfInBounds_toArray, List.set_cons_zero, List.set_cons_succ]
          have c15 := (hb12.block _ (blk_lt' d15)).trans d15
          have c5 := (hb12.block _ (blk_lt' d5)).trans d5
          have BC := BD.trans (hb12.mono BD.size)
          have RC := own_below RD hb12
          refine wpAny_take (i := 15) (v := (.bool true)) rfl (by kernel_rfl) (by kernel_rfl) (by kernel_rfl) (fun _ _ _ h => h) (Or.inl ⟨by rfl, fun w => by kernel_rfl⟩) ?_
          simp only [Act.put, List.getElem_toArray, List.getElem_cons_zero, List.getElem_cons_succ, List.setIfInBounds_toArray, List.set_cons_zero, List.set_cons_succ]
          refine any1 (i := 16) (by kernel_rfl) ?_
          refine wpOp_val (w' := w12) (v := (.pointer (some ⟨sp, 0, none⟩))) rfl rfl (by kernel_rfl) ?_
          simp only [Act.put, List.getElem_toArray, List.getElem_cons_zero, List.getElem_cons_succ, List.setIfInBounds_toArray, List.set_cons_zero, List.set_cons_succ]
          refine any1 (i := 17) (by kernel_rfl) ?_
          refine wpOp_store_row rfl rfl 54 (.tmp 5) (.tmp 84) rfl (w.heap.size + 1) #[.slice q3 n3 n3c, .int .i64 4] rfl rfl 54 _ c5 infoSpace rfl (space_one ..) ?_
          simp only [Act.put, List.getElem_toArray, List.getElem_cons_zero, List.getElem_cons_succ, List.setIfInBounds_toArray, List.set_cons_zero, List.set_cons_succ]
          refine any1 (i := 18) (by kernel_rfl) ?_
          refine wpOp_val (w' := w12.setRow (w.heap.size + 1) #[.slice q3 n3 n3c, .int .i64 4]) (v := .bool true) rfl rfl (by kernel_rfl) ?_
          simp only [Act.put, List.getElem_toArray, List.getElem_cons_zero, List.getElem_cons_succ, List.setIfInBounds_toArray, List.set_cons_zero, List.set_cons_succ]
          refine ⟨by kernel_rfl, ?_⟩
          go_wp2_with fail
          refine bodyPost_ret (results_tct rfl _ _ (w.heap.size + 1) 54 #[.slice q3 n3 n3c, .int .i64 4] (0, 0) _ rfl (setRow_heap _ _ _ _ _ _ c5) Tryz.underlying54 rfl infoSpace) rfl ?_
          exact begun_done hTl HS6.out K6.out HM6.out Hbl6.out BC RC Hsp Hm M5s.out
        · refine wpOp_valW (w' := D) (v := .agg #[.int .i64 0, .int .u64 0, .string ⟨#[]⟩]) rfl (by rfl) (exec_load_row 31 (.tmp 14) rfl w6.heap.size rfl 31 _ (0, 0) _ d14 Tryz.underlying31 rfl infoFault) ?_
          simp only [Act.put, List.getElem_toArray, List.getElem_cons_zero, List.getElem_cons_succ, List.setIfInBounds_toArray, List.set_cons_zero, List.set_cons_succ]
          refine any2 (i := 1) (j := 14) (by kernel_rfl) ?_ ?_
          · refine wpOp_val (w' := D) (v := .agg #[.slice q3 n3 n3c, .int .i64 4]) rfl rfl (exec_load_row 54 (.tmp 15) rfl (w6.heap.size + 1) rfl 54 _ (0, 0) _ d15 Tryz.underlying54 rfl infoSpace) ?_
            simp only [Act.put, List.getElem_toArray, List.getElem_cons_zero, List.getElem_cons_succ, List.setIfInBounds_toArray, List.set_cons_zero, List.set_cons_succ]
            refine any1 (i := 14) (by kernel_rfl) ?_
            refine wpOp_callW (.bool true) (fun W' => Below D.heap.size D W') rfl (by rfl) (by kernel_rfl) (ok_zero 0 ⟨#[]⟩ D) ?_
            intro w12 hb12
            simp only [Act.put, List.getElem_toArray, List.getElem_cons_zero, List.getElem_cons_succ, List.setIfInBounds_toArray, List.set_cons_zero, List.set_cons_succ]
            have c15 := (hb12.block _ (blk_lt' d15)).trans d15
            have c5 := (hb12.block _ (blk_lt' d5)).trans d5
            have BC := BD.trans (hb12.mono BD.size)
            have RC := own_below RD hb12
            refine wpAny_take (i := 15) (v := (.bool true)) rfl (by kernel_rfl) (by kernel_rfl) (by kernel_rfl) (fun _ _ _ h => h) (Or.inl ⟨by rfl, fun w => by kernel_rfl⟩) ?_
            simp only [Act.put, List.getElem_toArray, List.getElem_cons_zero, List.getElem_cons_succ, List.setIfInBounds_toArray, List.set_cons_zero, List.set_cons_succ]
            refine any1 (i := 16) (by kernel_rfl) ?_
            refine wpOp_val (w' := w12) (v := (.pointer (some ⟨sp, 0, none⟩))) rfl rfl (by kernel_rfl) ?_
            simp only [Act.put, List.getElem_toArray, List.getElem_cons_zero, List.getElem_cons_succ, List.setIfInBounds_toArray, List.set_cons_zero, List.set_cons_succ]
            refine any1 (i := 17) (by kernel_rfl) ?_
            refine wpOp_store_row rfl rfl 54 (.tmp 5) (.tmp 84) rfl (w.heap.size + 1) #[.slice q3 n3 n3c, .int .i64 4] rfl rfl 54 _ c5 infoSpace rfl (space_one ..) ?_
            simp only [Act.put, List.getElem_toArray, List.getElem_cons_zero, List.getElem_cons_succ, List.setIfInBounds_toArray, List.set_cons_zero, List.set_cons_succ]
            refine any1 (i := 18) (by kernel_rfl) ?_
            refine wpOp_val (w' := w12.setRow (w.heap.size + 1) #[.slice q3 n3 n3c, .int .i64 4]) (v := .bool true) rfl rfl (by kernel_rfl) ?_
            simp only [Act.put, List.getElem_toArray, List.getElem_cons_zero, List.getElem_cons_succ, List.setIfInBounds_toArray, List.set_cons_zero, List.set_cons_succ]
            refine ⟨by kernel_rfl, ?_⟩
            go_wp2_with fail
            refine bodyPost_ret (results_tct rfl _ _ (w.heap.size + 1) 54 #[.slice q3 n3 n3c, .int .i64 4] (0, 0) _ rfl (setRow_heap _ _ _ _ _ _ c5) Tryz.underlying54 rfl infoSpace) rfl ?_
            exact begun_done hTl HS6.out K6.out HM6.out Hbl6.out BC RC Hsp Hm M5s.out
          · refine wpOp_callW (.bool true) (fun W' => Below D.heap.size D W') rfl (by rfl) (by kernel_rfl) (ok_zero 0 ⟨#[]⟩ D) ?_
            intro w12 hb12
            simp only [Act.put, List.getElem_toArray, List.getElem_cons_zero, List.getElem_cons_succ, List.setIfInBounds_toArray, List.set_cons_zero, List.set_cons_succ]
            have c15 := (hb12.block _ (blk_lt' d15)).trans d15
            have c5 := (hb12.block _ (blk_lt' d5)).trans d5
            have BC := BD.trans (hb12.mono BD.size)
            have RC := own_below RD hb12
            refine wpAny_take (i := 15) (v := (.bool true)) rfl (by kernel_rfl) (by kernel_rfl) (by kernel_rfl) (fun _ _ _ h => h) (Or.inl ⟨by rfl, fun w => by kernel_rfl⟩) ?_
            simp only [Act.put, List.getElem_toArray, List.getElem_cons_zero, List.getElem_cons_succ, List.setIfInBounds_toArray, List.set_cons_zero, List.set_cons_succ]
            refine any2 (i := 1) (j := 16) (by kernel_rfl) ?_ ?_
            · refine wpOp_val (w' := w12) (v := .agg #[.slice q3 n3 n3c, .int .i64 4]) rfl rfl (exec_load_row 54 (.tmp 15) rfl (w6.heap.size + 1) rfl 54 _ (0, 0) _ c15 Tryz.underlying54 rfl infoSpace) ?_
              simp only [Act.put, List.getElem_toArray, List.getElem_cons_zero, List.getElem_cons_succ, List.setIfInBounds_toArray, List.set_cons_zero, List.set_cons_succ]
              refine any1 (i := 16) (by kernel_rfl) ?_
              refine wpOp_val (w' := w12) (v := (.pointer (some ⟨sp, 0, none⟩))) rfl rfl (by kernel_rfl) ?_
              simp only [Act.put, List.getElem_toArray, List.getElem_cons_zero, List.getElem_cons_succ, List.setIfInBounds_toArray, List.set_cons_zero, List.set_cons_succ]
              refine any1 (i := 17) (by kernel_rfl) ?_
              refine wpOp_store_row rfl rfl 54 (.tmp 5) (.tmp 84) rfl (w.heap.size + 1) #[.slice q3 n3 n3c, .int .i64 4] rfl rfl 54 _ c5 infoSpace rfl (space_one ..) ?_
              simp only [Act.put, List.getElem_toArray, List.getElem_cons_zero, List.getElem_cons_succ, List.setIfInBounds_toArray, List.set_cons_zero, List.set_cons_succ]
              refine any1 (i := 18) (by kernel_rfl) ?_
              refine wpOp_val (w' := w12.setRow (w.heap.size + 1) #[.slice q3 n3 n3c, .int .i64 4]) (v := .bool true) rfl rfl (by kernel_rfl) ?_
              simp only [Act.put, List.getElem_toArray, List.getElem_cons_zero, List.getElem_cons_succ, List.setIfInBounds_toArray, List.set_cons_zero, List.set_cons_succ]
              refine ⟨by kernel_rfl, ?_⟩
              go_wp2_with fail
              refine bodyPost_ret (results_tct rfl _ _ (w.heap.size + 1) 54 #[.slice q3 n3 n3c, .int .i64 4] (0, 0) _ rfl (setRow_heap _ _ _ _ _ _ c5) Tryz.underlying54 rfl infoSpace) rfl ?_
              exact begun_done hTl HS6.out K6.out HM6.out Hbl6.out BC RC Hsp Hm M5s.out
            · refine wpOp_val (w' := w12) (v := (.pointer (some ⟨sp, 0, none⟩))) rfl rfl (by kernel_rfl) ?_
              simp only [Act.put, List.getElem_toArray, List.getElem_cons_zero, List.getElem_cons_succ, List.setIfInBounds_toArray, List.set_cons_zero, List.set_cons_succ]
              refine any1 (i := 1) (by kernel_rfl) ?_
              refine wpOp_val (w' := w12) (v := .agg #[.slice q3 n3 n3c, .int .i64 4]) rfl rfl (exec_load_row 54 (.tmp 15) rfl (w6.heap.size + 1) rfl 54 _ (0, 0) _ c15 Tryz.underlying54 rfl infoSpace) ?_
              simp only [Act.put, List.getElem_toArray, List.getElem_cons_zero, List.getElem_cons_succ, List.setIfInBounds_toArray, List.set_cons_zero, List.set_cons_succ]
              refine any1 (i := 17) (by kernel_rfl) ?_
              refine wpOp_store_row rfl rfl 54 (.tmp 5) (.tmp 84) rfl (w.heap.size + 1) #[.slice q3 n3 n3c, .int .i64 4] rfl rfl 54 _ c5 infoSpace rfl (space_one ..) ?_
              simp only [Act.put, List.getElem_toArray, List.getElem_cons_zero, List.getElem_cons_succ, List.setIfInBounds_toArray, List.set_cons_zero, List.set_cons_succ]
              refine any1 (i := 18) (by kernel_rfl) ?_
              refine wpOp_val (w' := w12.setRow (w.heap.size + 1) #[.slice q3 n3 n3c, .int .i64 4]) (v := .bool true) rfl rfl (by kernel_rfl) ?_
              simp only [Act.put, List.getElem_toArray, List.getElem_cons_zero, List.getElem_cons_succ, List.setIfInBounds_toArray, List.set_cons_zero, List.set_cons_succ]
              refine ⟨by kernel_rfl, ?_⟩
              go_wp2_with fail
              refine bodyPost_ret (results_tct rfl _ _ (w.heap.size + 1) 54 #[.slice q3 n3 n3c, .int .i64 4] (0, 0) _ rfl (setRow_heap _ _ _ _ _ _ c5) Tryz.underlying54 rfl infoSpace) rfl ?_
              exact begun_done hTl HS6.out K6.out HM6.out Hbl6.out BC RC Hsp Hm M5s.out
end
end Go.Proofs.YtiemingpbommeaaGreatDoor
