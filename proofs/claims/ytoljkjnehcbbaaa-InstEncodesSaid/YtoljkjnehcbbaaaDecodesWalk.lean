/- InstDecodes: the walk. -/
import Derived.Test.YtoljkjnehcbbaaaRefDecode
import Derived.Test.YtoljkjnehcbbaaaApartWalk
namespace Go.Proofs.Ytoljkjnehcbbaaa
open Go.RowKit
noncomputable section
set_option linter.unusedVariables false
set_option linter.unusedSimpArgs false

theorem results_cell_row {P : Program} {fn : Func} {p : Tmp} {ty : TypeId} (h : fn.results = #[.cell p ty]) (tmps : Array Value) (w : World) (g : Nat) (t : TypeId) (cs : Array Value) (fr : Nat × Nat) (d : TypeDesc)
    (hp : tmps.getD p undef = .pointer (some ⟨g, 0, none⟩)) (hg : w.heap[g]? = some (.cells cs t fr))
    (hu : P.underlying ty = some d) (hd : (match d with | .struct _ | .array _ _ => true | _ => false) = true) (hi : (P.info? ty).map (·.size) = some cs.size) :
    (results fn tmps).run P w = .ok (.agg cs) w := by
  have hp' : tmps[p]?.getD undef = .pointer (some ⟨g, 0, none⟩) := by simpa using hp
  simp [results, h, hp', asAddr, run_loadVar_row w g t ty cs fr d hg hu hd hi]

set_option maxHeartbeats 4000000 in
set_option maxRecDepth 100000 in
theorem plain_any (o d a b n : Int) (w : World) :
    Calls Try.prog 11 #[.agg #[.int .i64 o, .int .i64 d, .int .i64 a, .int .i64 b, .int .i64 n]] w
      fun e w' => e = .returned (.agg #[.int .i64 o, .int .i64 d, .int .i64 a, .int .i64 b, .int .i64 n]) ∧ Below w.heap.size w w' := by
  go_enter Try.func11, Try.ntmps11
  go_wp2
  refine bodyPost_ret (results_cell_row rfl _ _ (w.heap.size + 1) 30 #[.int .i64 o, .int .i64 d, .int .i64 a, .int .i64 b, .int .i64 n] (0, 0) _ rfl (by have := heap_alloc_new (w.alloc (.cells #[.int .i64 o, .int .i64 d, .int .i64 a, .int .i64 b, .int .i64 n] 26)) (.cells #[.int .i64 o, .int .i64 d, .int .i64 a, .int .i64 b, .int .i64 n] 30); simpa using this) Try.underlying30 rfl info30s) rfl ?_
  exact ⟨rfl, (((Below.refl _ _).alloc (Nat.le_refl _) _).alloc (by simp) _)⟩

theorem refDecode_at (X : Nat) (o d a b n : Int) (ok : Bool) (hlt : X < 4294967296) (hD : decN X = ((o, d, a, b, n), ok)) (w : World) :
    Calls Try.prog 10 #[.int .u32 X] w fun e w' => e = .returned (.tuple #[.agg #[.int .i64 o, .int .i64 d, .int .i64 a, .int .i64 b, .int .i64 n], .bool ok]) ∧ Below w.heap.size w w' := by
  have := refDecode_any X w hlt
  rw [hD] at this
  exact this

set_option maxHeartbeats 4000000 in
set_option maxRecDepth 100000 in
theorem decodes_any (x : Nat) (w : World) (hx : x < 4294967296) :
    Calls Try.prog 3 #[.int .u32 x] w fun e w' => e = .returned (.bool true) ∧ Below w.heap.size w w' := by
  rcases hD : decN x with ⟨⟨o, d, a, b, n⟩, ok⟩
  rcases hE : encV o d a b n with ⟨y, oe⟩
  have hoe : ok = true → oe = true ∧ y = x := fun h => by
    subst h
    have := dec_enc x o d a b n hx hD
    rw [hE] at this
    exact ⟨(Prod.mk.inj this).2, (Prod.mk.inj this).1⟩
  have HD := hid hD
  have HE := hid hE
  have Hoe := hid hoe
  clear hD hE hoe
  go_enter Try.func3, Try.ntmps3
  go_wp2_with fail
  refine (speaks_any _).mono ?_
  rintro e w1 ⟨rfl, hb1⟩
  go_wp2_with fail
  refine (decode_at _ x _ _ _ _ _ _ rfl hx HD.out _).mono ?_
  rintro e w2 ⟨rfl, hb2⟩
  go_wp2_with fail
  refine (refDecode_at x _ _ _ _ _ _ hx HD.out _).mono ?_
  rintro e w3 ⟨rfl, hb3⟩
  obtain ⟨hc3, hf3⟩ := bcell hb3
  have hs3 : w2.heap.size < w3.heap.size := by have := hb3.size; simp at this; omega
  have HB : Below w.heap.size w w3 := hb1.trans ((hb2.mono hb1.size).trans ((((Below.refl _ _).alloc (Nat.le_refl _) _).mono (Nat.le_trans hb1.size hb2.size)).trans (hb3.mono (by have := hb1.size; have := hb2.size; simp; omega))))
  have hsz : w.heap.size ≤ w3.heap.size := HB.size
  clear hb1 hb2 hb3
  have hbn : (ok != ok) = false := by simp
  go_wp2_with fail
  obtain ⟨W, hW⟩ : ∃ W, W = w3.alloc (.cells #[.int .i64 o, .int .i64 d, .int .i64 a, .int .i64 b, .int .i64 n] 30) := ⟨_, rfl⟩
  rw [← hW]
  have L2 : w2.heap.size < W.heap.size := by rw [hW]; simp; omega
  have L3 : w3.heap.size < W.heap.size := by rw [hW]; simp
  have HBW : Below w.heap.size w W := by rw [hW]; exact HB.alloc hsz _
  have A0 : W.cell? ⟨w2.heap.size, 0, none⟩ = some (.int .i64 o) := by rw [hW, World.cell?_alloc_past _ _ _ (by omega), hc3 _ _ (by simp)]; simp
  have A1 : W.cell? ⟨w2.heap.size, 1, none⟩ = some (.int .i64 d) := by rw [hW, World.cell?_alloc_past _ _ _ (by omega), hc3 _ _ (by simp)]; simp
  have A2 : W.cell? ⟨w2.heap.size, 2, none⟩ = some (.int .i64 a) := by rw [hW, World.cell?_alloc_past _ _ _ (by omega), hc3 _ _ (by simp)]; simp
  have A3 : W.cell? ⟨w2.heap.size, 3, none⟩ = some (.int .i64 b) := by rw [hW, World.cell?_alloc_past _ _ _ (by omega), hc3 _ _ (by simp)]; simp
  have A4 : W.cell? ⟨w2.heap.size, 4, none⟩ = some (.int .i64 n) := by rw [hW, World.cell?_alloc_past _ _ _ (by omega), hc3 _ _ (by simp)]; simp
  have B0 : W.cell? ⟨w3.heap.size, 0, none⟩ = some (.int .i64 o) := by rw [hW]; simp
  have B1 : W.cell? ⟨w3.heap.size, 1, none⟩ = some (.int .i64 d) := by rw [hW]; simp
  have B2 : W.cell? ⟨w3.heap.size, 2, none⟩ = some (.int .i64 a) := by rw [hW]; simp
  have B3 : W.cell? ⟨w3.heap.size, 3, none⟩ = some (.int .i64 b) := by rw [hW]; simp
  have B4 : W.cell? ⟨w3.heap.size, 4, none⟩ = some (.int .i64 n) := by rw [hW]; simp
  have hszW : w.heap.size ≤ W.heap.size := HBW.size
  clear hW hc3 hf3 HB hs3
  refine wp_region_quiet_in (fun w' => ∃ u, w' = aft W u) (by kernel_rfl) (by kernel_rfl) (aft_drew _) ?_
  repeat (go_big_quiet_step (first
    | (go_at_call 11; exact aft_call (plain_any o d a b n _))))
  refine wpQuiet_nil ?_
  rintro w5 ⟨u, rfl⟩
  have HB5 : Below w.heap.size w (aft W u) := HBW.trans ((aft_below W u).mono hszW)
  have hsz5 : w.heap.size ≤ (aft W u).heap.size := HB5.size
  go_wp2_with fail
  refine (encode_at _ _ _ _ _ _ _ HE.out _).mono ?_
  rintro e w6 ⟨rfl, hb6⟩
  have HB6 : Below w.heap.size w w6 := HB5.trans (hb6.mono hsz5)
  clear hb6
  cases ok
  · go_wp2
    go_ret
    exact ⟨rfl, HB6⟩
  · obtain ⟨rfl, rfl⟩ := Hoe.out rfl
    go_wp2
    go_ret
    exact ⟨by simp, HB6⟩
end
end Go.Proofs.Ytoljkjnehcbbaaa
