/- The document's step: the way in, the early ends. -/
import Derived.Test.YtiemingpbommeaaGreatDoorHw
namespace Go.Proofs.YtiemingpbommeaaGreatDoor
open Go Go.RowKit
noncomputable section
set_option linter.unusedVariables false
set_option linter.unusedSimpArgs false
theorem results_ccttt {P : Program} {fn : Func} {p s ta tb tc : Tmp} {ty ty' : TypeId} (h : fn.results = #[.cell p ty, .cell s ty', .tmp ta, .tmp tb, .tmp tc]) (tmps : Array Value) (w : World) (g g' : Nat) (t t' : TypeId) (cs cs' : Array Value) (fr fr' : Nat × Nat) (d d' : TypeDesc)
    (hp : tmps.getD p undef = .pointer (some ⟨g, 0, none⟩)) (hp' : tmps.getD s undef = .pointer (some ⟨g', 0, none⟩)) (hg : w.heap[g]? = some (.cells cs t fr)) (hg' : w.heap[g']? = some (.cells cs' t' fr'))
    (hu : P.underlying ty = some d) (hd : (match d with | .struct _ | .array _ _ => true | _ => false) = true) (hi : (P.info? ty).map (·.size) = some cs.size)
    (hu' : P.underlying ty' = some d') (hd' : (match d' with | .struct _ | .array _ _ => true | _ => false) = true) (hi' : (P.info? ty').map (·.size) = some cs'.size) :
    (results fn tmps).run P w = .ok (.tuple #[.agg cs, .agg cs', tmps.getD ta undef, tmps.getD tb undef, tmps.getD tc undef]) w := by
  have e1 : tmps[p]?.getD undef = .pointer (some ⟨g, 0, none⟩) := by simpa using hp
  have e2 : tmps[s]?.getD undef = .pointer (some ⟨g', 0, none⟩) := by simpa using hp'
  simp [results, h, e1, e2, asAddr, run_loadVar_row w g t ty cs fr d hg hu hd hi, run_loadVar_row w g' t' ty' cs' fr' d' hg' hu' hd' hi']
/-- what the document's step answers -/
def RefPost (q : Int) (s : Ans) (w : World) (e : Ending) (w' : World) : Prop :=
  ∃ sl', e = .returned (.tuple #[.agg #[sl', .int .i64 q], .agg (stCells s.X s.pc), .int .i64 s.ev, .int .i64 s.code, .int .u64 s.fat]) ∧ RL 0 w' sl' s.M ∧ Below w.heap.size w w'
structure StepI (u : World) (sl : Value) (q : Int) (X : List Nat) (pc : Nat) (W : World) : Prop where
  b2 : W.heap[u.heap.size]? = some (.cells #[sl, .int .i64 q] 54 (0, 0))
  b3 : St7 W (u.heap.size + 1) X pc
  b4 : W.heap[u.heap.size + 2]? = some (.cells #[.slice none 0 0, .int .i64 0] 54 (0, 0))
  b5 : W.heap[u.heap.size + 3]? = some (.cells zst 58 (0, 0))
  b : Below u.heap.size u W
theorem StepI.below {u : World} {sl : Value} {q : Int} {X : List Nat} {pc : Nat} {W W' : World} (h : StepI u sl q X pc W) (hb : Below W.heap.size W W') : StepI u sl q X pc W' :=
  ⟨(hb.block _ (blk_lt' h.b2)).trans h.b2, (hb.block _ (blk_lt' h.b3)).trans h.b3, (hb.block _ (blk_lt' h.b4)).trans h.b4, (hb.block _ (blk_lt' h.b5)).trans h.b5, h.b.trans (hb.mono h.b.size)⟩
theorem StepI.set0 {u : World} {sl : Value} {q : Int} {X : List Nat} {pc : Nat} {W : World} (h : StepI u sl q X pc W) (hX : Regs X) : StepI u sl q (X.set 0 0) pc (W.setCell ⟨u.heap.size + 1, 0, none⟩ (.int .u64 0)) :=
  ⟨(heap_setCell_other _ _ _ _ (by simp)).trans h.b2, h.b3.set hX (by decide) 0, (heap_setCell_other _ _ _ _ (by simp)).trans h.b4, (heap_setCell_other _ _ _ _ (by simp)).trans h.b5, h.b.setCell (by simp) _⟩
/-- the document's list, where it lies: from before the call, or made within it behind the step's own blocks -/
def SpAt (u W : World) (sl : Value) (M : List Pg) : Prop := RL 0 u sl M ∨ RL (u.heap.size + 4) W sl M
theorem SpAt.below {u W W' : World} {sl : Value} {M : List Pg} (h : SpAt u W sl M) (hb : Below W.heap.size W W') : SpAt u W' sl M := by
  rcases h with h | h
  · exact .inl h
  · exact .inr (h.below hb)
theorem SpAt.at {u W : World} {sl : Value} {M : List Pg} (h : SpAt u W sl M) (hb : Below u.heap.size u W) : RL 0 W sl M := by
  rcases h with h | h
  · exact h.below hb
  · exact h.base (Nat.zero_le _)
theorem SpAt.row {u W : World} {sl : Value} {M : List Pg} {g : Nat} {cs : Array Value} (h : SpAt u W sl M) (hg : g < u.heap.size + 4) : SpAt u (W.setRow g cs) sl M := by
  rcases h with h | h
  · exact .inl h
  · exact .inr (rl_setRow h hg (Nat.le_refl _))
theorem SpAt.one {u W : World} {sl : Value} {M : List Pg} (h : SpAt u W sl M) : sl.oneCell' = true := by
  rcases h with h | h
  · exact RL.one h
  · exact RL.one h
theorem refstep_done {u W : World} {sl : Value} {q : Int} {X : List Nat} {pc : Nat} {M : List Pg} {cs cs' : Array Value} (hI : StepI u sl q X pc W) (hS : SpAt u W sl M) (s : Ans) (hM : s.M = M) :
    RL 0 ((W.setRow (u.heap.size + 2) cs).setRow (u.heap.size + 3) cs') sl s.M ∧ Below u.heap.size u ((W.setRow (u.heap.size + 2) cs).setRow (u.heap.size + 3) cs') := by
  have hb := below_setRow (below_setRow hI.b (show u.heap.size ≤ u.heap.size + 2 by omega) cs) (show u.heap.size ≤ u.heap.size + 3 by omega) cs'
  exact ⟨by rw [hM]; exact ((hS.row (by omega)).row (by omega)).at hb, hb⟩
theorem heap_setCell_far (w : World) (g k h : Nat) (v : Value) (hh : h ≠ g) : (w.setCell ⟨g, k, none⟩ v).heap[h]? = w.heap[h]? := heap_setCell_other _ _ _ _ (by simpa using hh)
theorem StepI.rowO {u : World} {sl : Value} {q : Int} {X : List Nat} {pc : Nat} {W : World} {g : Nat} (h : StepI u sl q X pc W) (hg : u.heap.size + 4 ≤ g) (cs : Array Value) : StepI u sl q X pc (W.setRow g cs) :=
  ⟨(setRow_other _ _ _ _ (by omega)).trans h.b2, (setRow_other _ _ _ _ (by omega)).trans h.b3, (setRow_other _ _ _ _ (by omega)).trans h.b4, (setRow_other _ _ _ _ (by omega)).trans h.b5, below_setRow h.b (by omega) _⟩
theorem StepI.cellO {u : World} {sl : Value} {q : Int} {X : List Nat} {pc : Nat} {W : World} {g k : Nat} (h : StepI u sl q X pc W) (hg : u.heap.size + 4 ≤ g) (v : Value) : StepI u sl q X pc (W.setCell ⟨g, k, none⟩ v) :=
  ⟨(heap_setCell_far _ _ _ _ _ (by omega)).trans h.b2, (heap_setCell_far _ _ _ _ _ (by omega)).trans h.b3, (heap_setCell_far _ _ _ _ _ (by omega)).trans h.b4, (heap_setCell_far _ _ _ _ _ (by omega)).trans h.b5, h.b.setCell (by simp only; omega) _⟩
/-- a tail of a body, its head -/
def tailC : Nat → Code → Code
  | 0, c => c
  | n + 1, .seq _ c => tailC n c
  | _ + 1, c => c
def headC : Code → Code
  | .seq c _ => c
  | c => c
def stepC (n : Nat) : Code := tailC n (Tryz.f18.body.getD .skip)
set_option maxRecDepth 100000 in
/-- the frame: twelve slots are told, the others hold anything (FrameOf: ahead of the switch; FrameG: at any place) -/
def FrameOf (v2 v3 v4 v5 v12 v14 v15 v16 v17 v18 v19 v20 : Value) (a : Act) : Prop := ∃ u0 u1 u6 u7 u8 u9 u10 u11 u13 u21 u22 u23 u24 u25 u26 u27 u28 u29 u30 u31 u32 u33 u34 u35 u36 u37 u38 u39 u40 u41 u42 u43 u44 u45 u46 u47 u48 u49 u50 u51 u52 u53 u54 u55 u56 u57 u58 u59 u60 u61 u62 u63 u64 u65 u66 u67 u68 u69 u70 u71 u72 u73 u74 u75 u76 u77 u78 u79 u80 u81 u82 : Value, a = ⟨#[u0, u1, v2, v3, v4, v5, u6, u7, u8, u9, u10, u11, v12, u13, v14, v15, v16, v17, v18, v19, v20, u21, u22, u23, u24, u25, u26, u27, u28, u29, u30, u31, u32, u33, u34, u35, u36, u37, u38, u39, u40, u41, u42, u43, u44, u45, u46, u47, u48, u49, u50, u51, u52, u53, u54, u55, u56, u57, u58, u59, u60, u61, u62, u63, u64, u65, u66, u67, u68, u69, u70, u71, u72, u73, u74, u75, u76, u77, u78, u79, u80, u81, u82, undef, undef, undef, undef, undef, undef, undef, undef, undef, undef, undef, undef, undef, undef, undef, undef, undef, undef, undef, undef, undef, undef, undef, undef, undef, undef, undef, undef, undef, undef, undef, undef, undef, undef, undef, undef, undef, undef, undef, undef, undef, undef, undef, undef, undef, undef, undef, undef, undef, undef, undef, undef, undef, undef, undef, undef, undef, undef, undef, undef, undef, undef, undef, undef, undef, undef, undef, undef, undef, undef, undef, undef, undef, undef, undef, undef, undef, undef, undef, undef, undef, undef, undef, undef, undef, undef, undef, undef, undef, undef, undef, undef, undef, undef, undef, undef, undef, undef, undef, undef, undef, undef, undef, undef, undef, undef, undef, undef, undef, undef, undef, undef, undef, undef, undef, undef, undef, undef, undef, undef, undef, undef, undef, undef, undef, undef, undef, undef, undef, undef, undef, undef, undef, undef, undef, undef, undef, undef, undef, undef, undef, undef, undef, undef, undef, undef, undef, undef, undef, undef, undef, undef, undef, undef, undef, undef, undef, undef, undef, undef, undef, undef, undef, undef, undef, undef, undef, undef, undef, undef, undef, undef, undef, undef, undef, undef, undef, undef, undef, undef, undef, undef, undef, undef, undef, undef, undef, undef], []⟩
set_option maxRecDepth 100000 in
def FrameG (v2 v3 v4 v5 v12 v14 v15 v16 v17 v18 v19 v20 : Value) (a : Act) : Prop := ∃ u0 u1 u6 u7 u8 u9 u10 u11 u13 u21 u22 u23 u24 u25 u26 u27 u28 u29 u30 u31 u32 u33 u34 u35 u36 u37 u38 u39 u40 u41 u42 u43 u44 u45 u46 u47 u48 u49 u50 u51 u52 u53 u54 u55 u56 u57 u58 u59 u60 u61 u62 u63 u64 u65 u66 u67 u68 u69 u70 u71 u72 u73 u74 u75 u76 u77 u78 u79 u80 u81 u82 u83 u84 u85 u86 u87 u88 u89 u90 u91 u92 u93 u94 u95 u96 u97 u98 u99 u100 u101 u102 u103 u104 u105 u106 u107 u108 u109 u110 u111 u112 u113 u114 u115 u116 u117 u118 u119 u120 u121 u122 u123 u124 u125 u126 u127 u128 u129 u130 u131 u132 u133 u134 u135 u136 u137 u138 u139 u140 u141 u142 u143 u144 u145 u146 u147 u148 u149 u150 u151 u152 u153 u154 u155 u156 u157 u158 u159 u160 u161 u162 u163 u164 u165 u166 u167 u168 u169 u170 u171 u172 u173 u174 u175 u176 u177 u178 u179 u180 u181 u182 u183 u184 u185 u186 u187 u188 u189 u190 u191 u192 u193 u194 u195 u196 u197 u198 u199 u200 u201 u202 u203 u204 u205 u206 u207 u208 u209 u210 u211 u212 u213 u214 u215 u216 u217 u218 u219 u220 u221 u222 u223 u224 u225 u226 u227 u228 u229 u230 u231 u232 u233 u234 u235 u236 u237 u238 u239 u240 u241 u242 u243 u244 u245 u246 u247 u248 u249 u250 u251 u252 u253 u254 u255 u256 u257 u258 u259 u260 u261 u262 u263 u264 u265 u266 u267 u268 u269 u270 : Value, a = ⟨#[u0, u1, v2, v3, v4, v5, u6, u7, u8, u9, u10, u11, v12, u13, v14, v15, v16, v17, v18, v19, v20, u21, u22, u23, u24, u25, u26, u27, u28, u29, u30, u31, u32, u33, u34, u35, u36, u37, u38, u39, u40, u41, u42, u43, u44, u45, u46, u47, u48, u49, u50, u51, u52, u53, u54, u55, u56, u57, u58, u59, u60, u61, u62, u63, u64, u65, u66, u67, u68, u69, u70, u71, u72, u73, u74, u75, u76, u77, u78, u79, u80, u81, u82, u83, u84, u85, u86, u87, u88, u89, u90, u91, u92, u93, u94, u95, u96, u97, u98, u99, u100, u101, u102, u103, u104, u105, u106, u107, u108, u109, u110, u111, u112, u113, u114, u115, u116, u117, u118, u119, u120, u121, u122, u123, u124, u125, u126, u127, u128, u129, u130, u131, u132, u133, u134, u135, u136, u137, u138, u139, u140, u141, u142, u143, u144, u145, u146, u147, u148, u149, u150, u151, u152, u153, u154, u155, u156, u157, u158, u159, u160, u161, u162, u163, u164, u165, u166, u167, u168, u169, u170, u171, u172, u173, u174, u175, u176, u177, u178, u179, u180, u181, u182, u183, u184, u185, u186, u187, u188, u189, u190, u191, u192, u193, u194, u195, u196, u197, u198, u199, u200, u201, u202, u203, u204, u205, u206, u207, u208, u209, u210, u211, u212, u213, u214, u215, u216, u217, u218, u219, u220, u221, u222, u223, u224, u225, u226, u227, u228, u229, u230, u231, u232, u233, u234, u235, u236, u237, u238, u239, u240, u241, u242, u243, u244, u245, u246, u247, u248, u249, u250, u251, u252, u253, u254, u255, u256, u257, u258, u259, u260, u261, u262, u263, u264, u265, u266, u267, u268, u269, u270], []⟩
def FrameA (v2 v3 v4 v5 : Value) (a : Act) : Prop := ∃ v12 v14 v15 v16 v17 v18 v19 v20 : Value, FrameOf v2 v3 v4 v5 v12 v14 v15 v16 v17 v18 v19 v20 a
def FrameB (v2 v3 v4 v5 v18 v19 v20 : Value) (a : Act) : Prop := ∃ v12 v14 v15 v16 v17 : Value, FrameG v2 v3 v4 v5 v12 v14 v15 v16 v17 v18 v19 v20 a
set_option maxHeartbeats 4000000 in
set_option maxRecDepth 100000 in
theorem refStep_enter (sl : Value) (M : List Pg) (q : Int) (X : List Nat) (pc : Nat) (u : World) (hX : Regs X) (R : Ending → World → Prop)
    (k : ∀ a W1, StepI u sl q (X.set 0 0) pc W1 → FrameA (.pointer (some ⟨u.heap.size, 0, none⟩)) (.pointer (some ⟨u.heap.size + 1, 0, none⟩)) (.pointer (some ⟨u.heap.size + 2, 0, none⟩)) (.pointer (some ⟨u.heap.size + 3, 0, none⟩)) a → (stepC 2).wp Tryz.prog (bodyPost Tryz.prog Tryz.f18 R) a W1) :
    Calls Tryz.prog 18 #[.agg #[sl, .int .i64 q], .agg (stCells X pc)] u R := by
  have HX := hid hX
  have Hk := hid k
  clear hX k
  go_enter Tryz.func18, Tryz.ntmps18
  go_upto_region 0 with (fail)
  apply wp_region_lit
  refine wpList_val (w' := u.alloc (.cells #[sl, .int .i64 q] 54)) (.pointer (some ⟨u.heap.size, 0, none⟩)) rfl (by kernel_rfl) ?_
  simp only [ps]
  obtain ⟨U0, h0⟩ : ∃ U0, u.alloc (.cells #[sl, .int .i64 q] 54) = U0 := ⟨_, rfl⟩
  have s0 : U0.heap.size = u.heap.size + 1 := by rw [← h0]; simp
  rw [h0]
  refine wpList_val (w' := U0.alloc (.cells (stCells X pc) 58)) (.pointer (some ⟨U0.heap.size, 0, none⟩)) rfl (by kernel_rfl) ?_
  simp only [ps]
  obtain ⟨U1, h1⟩ : ∃ U1, U0.alloc (.cells (stCells X pc) 58) = U1 := ⟨_, rfl⟩
  have s1 : U1.heap.size = u.heap.size + 2 := by rw [← h1]; simp [s0]
  rw [h1, s0]
  refine wpList_val (w' := U1.alloc (.cells #[.slice none 0 0, .int .i64 0] 54)) (.pointer (some ⟨U1.heap.size, 0, none⟩)) rfl (by kernel_rfl) ?_
  simp only [ps]
  obtain ⟨U2, h2⟩ : ∃ U2, U1.alloc (.cells #[.slice none 0 0, .int .i64 0] 54) = U2 := ⟨_, rfl⟩
  have s2 : U2.heap.size = u.heap.size + 3 := by rw [← h2]; simp [s1]
  rw [h2, s1]
  refine wpList_val (w' := U2.alloc (.cells zst 58)) (.pointer (some ⟨U2.heap.size, 0, none⟩)) rfl (by kernel_rfl) ?_
  simp only [ps]
  obtain ⟨U3, h3⟩ : ∃ U3, U2.alloc (.cells zst 58) = U3 := ⟨_, rfl⟩
  rw [h3, s2]
  have I0 : Hid (StepI u sl q X pc U3) := hid (by
    refine ⟨?_, ?_, ?_, ?_, ?_⟩
    · rw [← h3, Below.heap_alloc _ _ _ (by omega), ← h2, Below.heap_alloc _ _ _ (by omega), ← h1, Below.heap_alloc _ _ _ (by omega), ← h0]; exact heap_alloc_new _ _
    · unfold St7; rw [← h3, Below.heap_alloc _ _ _ (by omega), ← h2, Below.heap_alloc _ _ _ (by omega), ← h1, ← s0]; exact heap_alloc_new _ _
    · rw [← h3, Below.heap_alloc _ _ _ (by omega), ← h2, ← s1]; exact heap_alloc_new _ _
    · rw [← h3, ← s2]; exact heap_alloc_new _ _
    · rw [← h3, ← h2, ← h1, ← h0]; exact ((((Below.refl _ _).alloc (Nat.le_refl _) _).alloc (by simp) _).alloc (by simp; omega) _).alloc (by simp; omega) _)
  clear h0 h1 h2 h3 s0 s1 s2
  refine wpList_val (w' := U3) (.int .i64 0) rfl (by kernel_rfl) ?_
  simp only [ps]
  refine wpList_val (w' := U3) (.int .i64 0) rfl (by kernel_rfl) ?_
  simp only [ps]
  refine wpList_val (w' := U3) (.int .u64 0) rfl (by kernel_rfl) ?_
  simp only [ps]
  have c0 := I0.out.b3.cell HX.out (show 0 < 32 by decide)
  have fz := frozen_of_row U3 _ 0 _ _ I0.out.b3
  go_upto_region 1 with (fail)
  rename_i hK
  refine wp_cut (fun a' W1 => StepI u sl q (X.set 0 0) pc W1 ∧ FrameA (.pointer (some ⟨u.heap.size, 0, none⟩)) (.pointer (some ⟨u.heap.size + 1, 0, none⟩)) (.pointer (some ⟨u.heap.size + 2, 0, none⟩)) (.pointer (some ⟨u.heap.size + 3, 0, none⟩)) a') (fun a' W1 hh => hK _ _ (Hk.out a' W1 hh.1 hh.2)) ?_
  clear hK Hk
  intro _ _ _ _
  go_wp2_with fail
  refine Met.intro ?_
  go_step
  refine ⟨I0.out.set0 HX.out, ?_⟩
  unfold FrameA FrameOf
  (repeat apply Exists.intro); rfl
set_option maxHeartbeats 4000000 in
set_option maxRecDepth 100000 in
theorem refStep_trap (sl : Value) (M : List Pg) (q : Int) (X : List Nat) (pc : Nat) (u W1 : World) (act : Act) (hI : StepI u sl q (X.set 0 0) pc W1) (hF : FrameA (.pointer (some ⟨u.heap.size, 0, none⟩)) (.pointer (some ⟨u.heap.size + 1, 0, none⟩)) (.pointer (some ⟨u.heap.size + 2, 0, none⟩)) (.pointer (some ⟨u.heap.size + 3, 0, none⟩)) act) (hX : Regs X) (hS : ∀ W, SpAt u W sl M) (hp : 1099511627776 ≤ pc) :
    (stepC 2).wp Tryz.prog (bodyPost Tryz.prog Tryz.f18 (RefPost q (stepN M X pc) u)) act W1 := by
  have hs : stepN M X pc = ⟨M, X.set 0 0, pc, 3, 0, 0⟩ := by unfold stepN; rw [if_pos hp]
  have hpi : (1099511627776 : Int) ≤ (pc : Int) := by omega
  have Hs := hid hs
  clear hs hp
  have HX0 := hid (hX.set 0 0 (by decide))
  have I1 := hid hI
  have HS := hid hS
  clear hX hI hS
  obtain ⟨_, _, _, _, _, _, _, _, hF⟩ := hF
  unfold FrameOf at hF
  iterate 71 (obtain ⟨_, hF⟩ := hF)
  subst hF
  conv => arg 2; whnf
  have cpc := I1.out.b3.cellPc HX0.out
  go_upto_region 3 with (fail)
  clear cpc
  refine wp_region_any (by kernel_rfl) ?_
  change wpAny _ _ _ _ _ _ _ (World.drew W1)
  have I9 := hid (I1.out.below (W' := W1.drew) ((Below.refl _ _).drew))
  have S9 := hid (SpAt.below (HS.out _) (W' := W1.drew) ((Below.refl _ _).drew))
  obtain ⟨D, hD⟩ : ∃ D, W1.drew = D := ⟨_, rfl⟩
  rw [hD] at I9 S9 ⊢
  clear hD
  have b4 := I9.out.b4
  have b5 := I9.out.b5
  obtain ⟨D4, hD4⟩ : ∃ D4, D.setRow (u.heap.size + 2) #[sl, .int .i64 q] = D4 := ⟨_, rfl⟩
  have J5 : Hid (D4.heap[u.heap.size + 3]? = some (.cells zst 58 (0, 0))) := hid (by rw [← hD4]; exact (setRow_other _ _ _ _ (by omega)).trans b5)
  obtain ⟨D5, hD5⟩ : ∃ D5, D4.setRow (u.heap.size + 3) (stCells (X.set 0 0) pc) = D5 := ⟨_, rfl⟩
  have P0 : Hid (D.heap[u.heap.size]? = some (.cells #[sl, .int .i64 q] 54 (0, 0))) := hid I9.out.b2
  have P1 : Hid (D4.heap[u.heap.size]? = some (.cells #[sl, .int .i64 q] 54 (0, 0))) := hid (by rw [← hD4]; exact (setRow_other _ _ _ _ (by omega)).trans P0.out)
  have Q0 : Hid (St7 D (u.heap.size + 1) (X.set 0 0) pc) := hid I9.out.b3
  have Q1 : Hid (St7 D4 (u.heap.size + 1) (X.set 0 0) pc) := hid (by rw [← hD4]; exact (setRow_other _ _ _ _ (by omega)).trans Q0.out)
  have J4 : Hid (D5.heap[u.heap.size + 2]? = some (.cells #[sl, .int .i64 q] 54 (0, 0))) := hid (by rw [← hD5, ← hD4]; exact (setRow_other _ _ _ _ (by omega)).trans (setRow_heap _ _ _ _ _ _ b4))
  have J55 : Hid (D5.heap[u.heap.size + 3]? = some (.cells (stCells (X.set 0 0) pc) 58 (0, 0))) := hid (by rw [← hD5]; exact setRow_heap _ _ _ _ _ _ J5.out)
  have HD := hid (refstep_done (q := q) I9.out S9.out (cs := #[sl, .int .i64 q]) (cs' := stCells (X.set 0 0) pc) (stepN M X pc) (by rw [Hs.out]))
  rw [hD4, hD5] at HD
  have hone := S9.out.one
  have P0' := P0
  refine any2 (i := 0) (j := 1) (by kernel_rfl) ?_ ?_
  · refine wpOp_val (w' := D) (v := .agg #[sl, .int .i64 q]) rfl rfl (exec_load_row 54 (.tmp 2) rfl u.heap.size rfl 54 _ (0, 0) _ P0.out Tryz.underlying54 rfl infoSpc) ?_
    simp only [ps]
    refine any2 (i := 1) (j := 2) (by kernel_rfl) ?_ ?_
    · refine wpOp_val (w' := D) (v := .agg (stCells (X.set 0 0) pc)) rfl rfl (exec_load_row 58 (.tmp 3) rfl (u.heap.size + 1) rfl 58 _ (0, 0) _ Q0.out Tryz.underlying58 rfl (infoState7 HX0.out pc)) ?_
      simp only [ps]
      refine any1 (i := 2) (by kernel_rfl) ?_
      refine wpOp_store_row rfl rfl 54 (.tmp 4) (.tmp 34) rfl (u.heap.size + 2) #[sl, .int .i64 q] rfl rfl 54 _ b4 infoSpc rfl (spc_one _ _ hone) ?_
      simp only [ps]
      rw [hD4]
      refine any1 (i := 3) (by kernel_rfl) ?_
      refine wpOp_store_row rfl rfl 58 (.tmp 5) (.tmp 35) rfl (u.heap.size + 3) (stCells (X.set 0 0) pc) rfl rfl 58 zst J5.out (infoState7 HX0.out pc) (stCells_size HX0.out _).symm (stCells_one _ _) ?_
      simp only [ps]
      rw [hD5]
      refine any1 (i := 4) (by kernel_rfl) ?_
      refine wpOp_val (w' := D5) (v := .int .i64 3) rfl rfl (by kernel_rfl) ?_
      simp only [ps]
      refine any1 (i := 5) (by kernel_rfl) ?_
      refine wpOp_val (w' := D5) (v := .int .i64 0) rfl rfl (by kernel_rfl) ?_
      simp only [ps]
      refine any1 (i := 6) (by kernel_rfl) ?_
      refine wpOp_val (w' := D5) (v := .int .u64 0) rfl rfl (by kernel_rfl) ?_
      simp only [ps]
      refine ⟨by kernel_rfl, ?_⟩
      go_wp2_with fail
      refine bodyPost_ret (results_ccttt rfl _ _ (u.heap.size + 2) (u.heap.size + 3) 54 58 #[sl, .int .i64 q] (stCells (X.set 0 0) pc) (0, 0) (0, 0) _ _ rfl rfl J4.out J55.out Tryz.underlying54 rfl infoSpc Tryz.underlying58 rfl (infoState7 HX0.out pc)) rfl ?_
      refine ⟨sl, ?_, HD.out⟩
      (rw [Hs.out]; rfl)
    · refine wpOp_store_row rfl rfl 54 (.tmp 4) (.tmp 34) rfl (u.heap.size + 2) #[sl, .int .i64 q] rfl rfl 54 _ b4 infoSpc rfl (spc_one _ _ hone) ?_
      simp only [ps]
      rw [hD4]
      refine any1 (i := 1) (by kernel_rfl) ?_
      refine wpOp_val (w' := D4) (v := .agg (stCells (X.set 0 0) pc)) rfl rfl (exec_load_row 58 (.tmp 3) rfl (u.heap.size + 1) rfl 58 _ (0, 0) _ Q1.out Tryz.underlying58 rfl (infoState7 HX0.out pc)) ?_
      simp only [ps]
      refine any1 (i := 3) (by kernel_rfl) ?_
      refine wpOp_store_row rfl rfl 58 (.tmp 5) (.tmp 35) rfl (u.heap.size + 3) (stCells (X.set 0 0) pc) rfl rfl 58 zst J5.out (infoState7 HX0.out pc) (stCells_size HX0.out _).symm (stCells_one _ _) ?_
      simp only [ps]
      rw [hD5]
      refine any1 (i := 4) (by kernel_rfl) ?_
      refine wpOp_val (w' := D5) (v := .int .i64 3) rfl rfl (by kernel_rfl) ?_
      simp only [ps]
      refine any1 (i := 5) (by kernel_rfl) ?_
      refine wpOp_val (w' := D5) (v := .int .i64 0) rfl rfl (by kernel_rfl) ?_
      simp only [ps]
      refine any1 (i := 6) (by kernel_rfl) ?_
      refine wpOp_val (w' := D5) (v := .int .u64 0) rfl rfl (by kernel_rfl) ?_
      simp only [ps]
      refine ⟨by kernel_rfl, ?_⟩
      go_wp2_with fail
      refine bodyPost_ret (results_ccttt rfl _ _ (u.heap.size + 2) (u.heap.size + 3) 54 58 #[sl, .int .i64 q] (stCells (X.set 0 0) pc) (0, 0) (0, 0) _ _ rfl rfl J4.out J55.out Tryz.underlying54 rfl infoSpc Tryz.underlying58 rfl (infoState7 HX0.out pc)) rfl ?_
      refine ⟨sl, ?_, HD.out⟩
      (rw [Hs.out]; rfl)
  · refine wpOp_val (w' := D) (v := .agg (stCells (X.set 0 0) pc)) rfl rfl (exec_load_row 58 (.tmp 3) rfl (u.heap.size + 1) rfl 58 _ (0, 0) _ Q0.out Tryz.underlying58 rfl (infoState7 HX0.out pc)) ?_
    simp only [ps]
    refine any1 (i := 0) (by kernel_rfl) ?_
    refine wpOp_val (w' := D) (v := .agg #[sl, .int .i64 q]) rfl rfl (exec_load_row 54 (.tmp 2) rfl u.heap.size rfl 54 _ (0, 0) _ P0.out Tryz.underlying54 rfl infoSpc) ?_
    simp only [ps]
    refine any1 (i := 2) (by kernel_rfl) ?_
    refine wpOp_store_row rfl rfl 54 (.tmp 4) (.tmp 34) rfl (u.heap.size + 2) #[sl, .int .i64 q] rfl rfl 54 _ b4 infoSpc rfl (spc_one _ _ hone) ?_
    simp only [ps]
    rw [hD4]
    refine any1 (i := 3) (by kernel_rfl) ?_
    refine wpOp_store_row rfl rfl 58 (.tmp 5) (.tmp 35) rfl (u.heap.size + 3) (stCells (X.set 0 0) pc) rfl rfl 58 zst J5.out (infoState7 HX0.out pc) (stCells_size HX0.out _).symm (stCells_one _ _) ?_
    simp only [ps]
    rw [hD5]
    refine any1 (i := 4) (by kernel_rfl) ?_
    refine wpOp_val (w' := D5) (v := .int .i64 3) rfl rfl (by kernel_rfl) ?_
    simp only [ps]
    refine any1 (i := 5) (by kernel_rfl) ?_
    refine wpOp_val (w' := D5) (v := .int .i64 0) rfl rfl (by kernel_rfl) ?_
    simp only [ps]
    refine any1 (i := 6) (by kernel_rfl) ?_
    refine wpOp_val (w' := D5) (v := .int .u64 0) rfl rfl (by kernel_rfl) ?_
    simp only [ps]
    refine ⟨by kernel_rfl, ?_⟩
    go_wp2_with fail
    refine bodyPost_ret (results_ccttt rfl _ _ (u.heap.size + 2) (u.heap.size + 3) 54 58 #[sl, .int .i64 q] (stCells (X.set 0 0) pc) (0, 0) (0, 0) _ _ rfl rfl J4.out J55.out Tryz.underlying54 rfl infoSpc Tryz.underlying58 rfl (infoState7 HX0.out pc)) rfl ?_
    refine ⟨sl, ?_, HD.out⟩
    (rw [Hs.out]; rfl)
set_option maxHeartbeats 4000000 in
set_option maxRecDepth 100000 in
theorem refStep_fault (sl : Value) (M : List Pg) (q : Int) (X : List Nat) (pc : Nat) (u W1 : World) (act : Act) (hI : StepI u sl q (X.set 0 0) pc W1) (hF : FrameA (.pointer (some ⟨u.heap.size, 0, none⟩)) (.pointer (some ⟨u.heap.size + 1, 0, none⟩)) (.pointer (some ⟨u.heap.size + 2, 0, none⟩)) (.pointer (some ⟨u.heap.size + 3, 0, none⟩)) act) (hX : Regs X) (hS : ∀ W, SpAt u W sl M) (hG : Good M) (hp : pc < 1099511627776) (v c f : Nat) (hf : fetchN M pc = (v, c, f)) (hc : c ≠ 0) :
    (stepC 2).wp Tryz.prog (bodyPost Tryz.prog Tryz.f18 (RefPost q (stepN M X pc) u)) act W1 := by
  have hs : stepN M X pc = ⟨M, X.set 0 0, pc, 0, c, f⟩ := by unfold stepN; rw [if_neg (by omega), hf, if_neg hc]
  have Hs := hid hs
  have Hf := hid hf
  have HG := hid hG
  have hci : ((c : Int) == 0) = false := by rw [beq_eq_false_iff_ne]; omega
  have hcn : ((c : Int) != 0) = true := by rw [bne_iff_ne]; omega
  have hpi : ¬ (1099511627776 : Int) ≤ (pc : Int) := by omega
  have hp64 : pc < 18446744073709551616 := by omega
  clear hs hf hc hG hp
  have HX0 := hid (hX.set 0 0 (by decide))
  have I1 := hid hI
  have HS := hid hS
  clear hX hI hS
  obtain ⟨_, _, _, _, _, _, _, _, hF⟩ := hF
  unfold FrameOf at hF
  iterate 71 (obtain ⟨_, hF⟩ := hF)
  subst hF
  conv => arg 2; whnf
  have cpc := I1.out.b3.cellPc HX0.out
  have hfe := fun (W : World) (hb : Below u.heap.size u W) => refFetch_any 0 sl M q pc W ((HS.out W).at hb) HG.out hp64
  rw [Hf.out] at hfe
  have Hfe := hid hfe
  clear hfe
  have b0 : W1.cell? ⟨u.heap.size, 0, none⟩ = some sl := by rw [cell_of_row W1 _ _ _ _ _ I1.out.b2]; rfl
  have b1 : W1.cell? ⟨u.heap.size, 1, none⟩ = some (.int .i64 q) := by rw [cell_of_row W1 _ _ _ _ _ I1.out.b2]; rfl
  have l2 := blk_lt' I1.out.b2
  have l3 := blk_lt' I1.out.b3
  go_wp2_with fail
  refine (Hfe.out W1 I1.out.b).mono ?_
  rintro e W2 ⟨rfl, hb2⟩
  have I2 := hid (I1.out.below hb2)
  clear hb2 I1 b0 b1 cpc l2 l3
  go_upto_region 6 with (fail)
  refine wp_region_any (by kernel_rfl) ?_
  change wpAny _ _ _ _ _ _ _ (World.drew W2)
  have I9 := hid (I2.out.below (W' := W2.drew) ((Below.refl _ _).drew))
  have S9 := hid (SpAt.below (HS.out _) (W' := W2.drew) ((Below.refl _ _).drew))
  obtain ⟨D, hD⟩ : ∃ D, W2.drew = D := ⟨_, rfl⟩
  rw [hD] at I9 S9 ⊢
  clear hD
  have b4 := I9.out.b4
  have b5 := I9.out.b5
  obtain ⟨D4, hD4⟩ : ∃ D4, D.setRow (u.heap.size + 2) #[sl, .int .i64 q] = D4 := ⟨_, rfl⟩
  have J5 : Hid (D4.heap[u.heap.size + 3]? = some (.cells zst 58 (0, 0))) := hid (by rw [← hD4]; exact (setRow_other _ _ _ _ (by omega)).trans b5)
  obtain ⟨D5, hD5⟩ : ∃ D5, D4.setRow (u.heap.size + 3) (stCells (X.set 0 0) pc) = D5 := ⟨_, rfl⟩
  have P0 : Hid (D.heap[u.heap.size]? = some (.cells #[sl, .int .i64 q] 54 (0, 0))) := hid I9.out.b2
  have P1 : Hid (D4.heap[u.heap.size]? = some (.cells #[sl, .int .i64 q] 54 (0, 0))) := hid (by rw [← hD4]; exact (setRow_other _ _ _ _ (by omega)).trans P0.out)
  have Q0 : Hid (St7 D (u.heap.size + 1) (X.set 0 0) pc) := hid I9.out.b3
  have Q1 : Hid (St7 D4 (u.heap.size + 1) (X.set 0 0) pc) := hid (by rw [← hD4]; exact (setRow_other _ _ _ _ (by omega)).trans Q0.out)
  have J4 : Hid (D5.heap[u.heap.size + 2]? = some (.cells #[sl, .int .i64 q] 54 (0, 0))) := hid (by rw [← hD5, ← hD4]; exact (setRow_other _ _ _ _ (by omega)).trans (setRow_heap _ _ _ _ _ _ b4))
  have J55 : Hid (D5.heap[u.heap.size + 3]? = some (.cells (stCells (X.set 0 0) pc) 58 (0, 0))) := hid (by rw [← hD5]; exact setRow_heap _ _ _ _ _ _ J5.out)
  have HD := hid (refstep_done (q := q) I9.out S9.out (cs := #[sl, .int .i64 q]) (cs' := stCells (X.set 0 0) pc) (stepN M X pc) (by rw [Hs.out]))
  rw [hD4, hD5] at HD
  have hone := S9.out.one
  have P0' := P0
  refine wpAny_take (i := 2) (v := .int .i64 c) rfl (by kernel_rfl) (by kernel_rfl) (by kernel_rfl) (fun _ _ _ h => h) (Or.inl ⟨by rfl, fun w => by first | kernel_rfl | go_simp⟩) ?_
  simp only [ps]
  refine wpAny_take (i := 3) (v := .int .u64 f) rfl (by kernel_rfl) (by kernel_rfl) (by kernel_rfl) (fun _ _ _ h => h) (Or.inl ⟨by rfl, fun w => by first | kernel_rfl | go_simp⟩) ?_
  simp only [ps]
  refine any2 (i := 0) (j := 1) (by kernel_rfl) ?_ ?_
  · refine wpOp_val (w' := D) (v := .agg #[sl, .int .i64 q]) rfl rfl (exec_load_row 54 (.tmp 2) rfl u.heap.size rfl 54 _ (0, 0) _ P0.out Tryz.underlying54 rfl infoSpc) ?_
    simp only [ps]
    refine any2 (i := 1) (j := 4) (by kernel_rfl) ?_ ?_
    · refine wpOp_val (w' := D) (v := .agg (stCells (X.set 0 0) pc)) rfl rfl (exec_load_row 58 (.tmp 3) rfl (u.heap.size + 1) rfl 58 _ (0, 0) _ Q0.out Tryz.underlying58 rfl (infoState7 HX0.out pc)) ?_
      simp only [ps]
      refine any1 (i := 4) (by kernel_rfl) ?_
      refine wpOp_store_row rfl rfl 54 (.tmp 4) (.tmp 46) rfl (u.heap.size + 2) #[sl, .int .i64 q] rfl rfl 54 _ b4 infoSpc rfl (spc_one _ _ hone) ?_
      simp only [ps]
      rw [hD4]
      refine any1 (i := 5) (by kernel_rfl) ?_
      refine wpOp_store_row rfl rfl 58 (.tmp 5) (.tmp 47) rfl (u.heap.size + 3) (stCells (X.set 0 0) pc) rfl rfl 58 zst J5.out (infoState7 HX0.out pc) (stCells_size HX0.out _).symm (stCells_one _ _) ?_
      simp only [ps]
      rw [hD5]
      refine any1 (i := 6) (by kernel_rfl) ?_
      refine wpOp_val (w' := D5) (v := .int .i64 0) rfl rfl (by kernel_rfl) ?_
      simp only [ps]
      refine any1 (i := 7) (by kernel_rfl) ?_
      refine wpOp_val (w' := D5) (v := .int .i64 c) rfl rfl (by kernel_rfl) ?_
      simp only [ps]
      refine any1 (i := 8) (by kernel_rfl) ?_
      refine wpOp_val (w' := D5) (v := .int .u64 f) rfl rfl (by kernel_rfl) ?_
      simp only [ps]
      refine ⟨by kernel_rfl, ?_⟩
      go_wp2_with fail
      refine bodyPost_ret (results_ccttt rfl _ _ (u.heap.size + 2) (u.heap.size + 3) 54 58 #[sl, .int .i64 q] (stCells (X.set 0 0) pc) (0, 0) (0, 0) _ _ rfl rfl J4.out J55.out Tryz.underlying54 rfl infoSpc Tryz.underlying58 rfl (infoState7 HX0.out pc)) rfl ?_
      refine ⟨sl, ?_, HD.out⟩
      (rw [Hs.out]; rfl)
    · refine wpOp_store_row rfl rfl 54 (.tmp 4) (.tmp 46) rfl (u.heap.size + 2) #[sl, .int .i64 q] rfl rfl 54 _ b4 infoSpc rfl (spc_one _ _ hone) ?_
      simp only [ps]
      rw [hD4]
      refine any1 (i := 1) (by kernel_rfl) ?_
      refine wpOp_val (w' := D4) (v := .agg (stCells (X.set 0 0) pc)) rfl rfl (exec_load_row 58 (.tmp 3) rfl (u.heap.size + 1) rfl 58 _ (0, 0) _ Q1.out Tryz.underlying58 rfl (infoState7 HX0.out pc)) ?_
      simp only [ps]
      refine any1 (i := 5) (by kernel_rfl) ?_
      refine wpOp_store_row rfl rfl 58 (.tmp 5) (.tmp 47) rfl (u.heap.size + 3) (stCells (X.set 0 0) pc) rfl rfl 58 zst J5.out (infoState7 HX0.out pc) (stCells_size HX0.out _).symm (stCells_one _ _) ?_
      simp only [ps]
      rw [hD5]
      refine any1 (i := 6) (by kernel_rfl) ?_
      refine wpOp_val (w' := D5) (v := .int .i64 0) rfl rfl (by kernel_rfl) ?_
      simp only [ps]
      refine any1 (i := 7) (by kernel_rfl) ?_
      refine wpOp_val (w' := D5) (v := .int .i64 c) rfl rfl (by kernel_rfl) ?_
      simp only [ps]
      refine any1 (i := 8) (by kernel_rfl) ?_
      refine wpOp_val (w' := D5) (v := .int .u64 f) rfl rfl (by kernel_rfl) ?_
      simp only [ps]
      refine ⟨by kernel_rfl, ?_⟩
      go_wp2_with fail
      refine bodyPost_ret (results_ccttt rfl _ _ (u.heap.size + 2) (u.heap.size + 3) 54 58 #[sl, .int .i64 q] (stCells (X.set 0 0) pc) (0, 0) (0, 0) _ _ rfl rfl J4.out J55.out Tryz.underlying54 rfl infoSpc Tryz.underlying58 rfl (infoState7 HX0.out pc)) rfl ?_
      refine ⟨sl, ?_, HD.out⟩
      (rw [Hs.out]; rfl)
  · refine wpOp_val (w' := D) (v := .agg (stCells (X.set 0 0) pc)) rfl rfl (exec_load_row 58 (.tmp 3) rfl (u.heap.size + 1) rfl 58 _ (0, 0) _ Q0.out Tryz.underlying58 rfl (infoState7 HX0.out pc)) ?_
    simp only [ps]
    refine any1 (i := 0) (by kernel_rfl) ?_
    refine wpOp_val (w' := D) (v := .agg #[sl, .int .i64 q]) rfl rfl (exec_load_row 54 (.tmp 2) rfl u.heap.size rfl 54 _ (0, 0) _ P0.out Tryz.underlying54 rfl infoSpc) ?_
    simp only [ps]
    refine any1 (i := 4) (by kernel_rfl) ?_
    refine wpOp_store_row rfl rfl 54 (.tmp 4) (.tmp 46) rfl (u.heap.size + 2) #[sl, .int .i64 q] rfl rfl 54 _ b4 infoSpc rfl (spc_one _ _ hone) ?_
    simp only [ps]
    rw [hD4]
    refine any1 (i := 5) (by kernel_rfl) ?_
    refine wpOp_store_row rfl rfl 58 (.tmp 5) (.tmp 47) rfl (u.heap.size + 3) (stCells (X.set 0 0) pc) rfl rfl 58 zst J5.out (infoState7 HX0.out pc) (stCells_size HX0.out _).symm (stCells_one _ _) ?_
    simp only [ps]
    rw [hD5]
    refine any1 (i := 6) (by kernel_rfl) ?_
    refine wpOp_val (w' := D5) (v := .int .i64 0) rfl rfl (by kernel_rfl) ?_
    simp only [ps]
    refine any1 (i := 7) (by kernel_rfl) ?_
    refine wpOp_val (w' := D5) (v := .int .i64 c) rfl rfl (by kernel_rfl) ?_
    simp only [ps]
    refine any1 (i := 8) (by kernel_rfl) ?_
    refine wpOp_val (w' := D5) (v := .int .u64 f) rfl rfl (by kernel_rfl) ?_
    simp only [ps]
    refine ⟨by kernel_rfl, ?_⟩
    go_wp2_with fail
    refine bodyPost_ret (results_ccttt rfl _ _ (u.heap.size + 2) (u.heap.size + 3) 54 58 #[sl, .int .i64 q] (stCells (X.set 0 0) pc) (0, 0) (0, 0) _ _ rfl rfl J4.out J55.out Tryz.underlying54 rfl infoSpc Tryz.underlying58 rfl (infoState7 HX0.out pc)) rfl ?_
    refine ⟨sl, ?_, HD.out⟩
    (rw [Hs.out]; rfl)
set_option maxHeartbeats 4000000 in
set_option maxRecDepth 100000 in
theorem refStep_none (sl : Value) (M : List Pg) (q : Int) (X : List Nat) (pc : Nat) (u W1 : World) (act : Act) (hI : StepI u sl q (X.set 0 0) pc W1) (hF : FrameA (.pointer (some ⟨u.heap.size, 0, none⟩)) (.pointer (some ⟨u.heap.size + 1, 0, none⟩)) (.pointer (some ⟨u.heap.size + 2, 0, none⟩)) (.pointer (some ⟨u.heap.size + 3, 0, none⟩)) act) (hX : Regs X) (hS : ∀ W, SpAt u W sl M) (hG : Good M) (hp : pc < 1099511627776) (v f : Nat) (hv : v < 4294967296) (hf : fetchN M pc = (v, 0, f)) (i d a b n : Int) (hd : decN v = ((i, d, a, b, n), false)) :
    (stepC 2).wp Tryz.prog (bodyPost Tryz.prog Tryz.f18 (RefPost q (stepN M X pc) u)) act W1 := by
  have hs : stepN M X pc = ⟨M, X.set 0 0, pc, 0, 14, pc⟩ := by unfold stepN; rw [if_neg (by omega), hf]; simp only [if_true]; rw [hd]; rfl
  have Hs := hid hs
  have Hf := hid hf
  have HG := hid hG
  have Hde := hid (refDecode_lit v i d a b n false hv hd)
  have hpi : ¬ (1099511627776 : Int) ≤ (pc : Int) := by omega
  have hp64 : pc < 18446744073709551616 := by omega
  clear hs hf hd hp hG
  have HX0 := hid (hX.set 0 0 (by decide))
  have I1 := hid hI
  have HS := hid hS
  clear hX hI hS
  obtain ⟨_, _, _, _, _, _, _, _, hF⟩ := hF
  unfold FrameOf at hF
  iterate 71 (obtain ⟨_, hF⟩ := hF)
  subst hF
  conv => arg 2; whnf
  have cpc := I1.out.b3.cellPc HX0.out
  have hfe := fun (W : World) (hb : Below u.heap.size u W) => refFetch_any 0 sl M q pc W ((HS.out W).at hb) HG.out hp64
  rw [Hf.out] at hfe
  have Hfe := hid hfe
  clear hfe
  have b0 : W1.cell? ⟨u.heap.size, 0, none⟩ = some sl := by rw [cell_of_row W1 _ _ _ _ _ I1.out.b2]; rfl
  have b1 : W1.cell? ⟨u.heap.size, 1, none⟩ = some (.int .i64 q) := by rw [cell_of_row W1 _ _ _ _ _ I1.out.b2]; rfl
  have l2 := blk_lt' I1.out.b2
  have l3 := blk_lt' I1.out.b3
  go_wp2_with fail
  refine (Hfe.out W1 I1.out.b).mono ?_
  rintro e W2 ⟨rfl, hb2⟩
  have I2 := hid (I1.out.below hb2)
  clear hb2 I1 b0 b1 cpc l2 l3
  go_wp2_with fail
  refine (Hde.out W2).mono ?_
  rintro e W3 ⟨rfl, hb3⟩
  have I3 := hid (I2.out.below (hb3.alloc hb3.size (.cells #[.int .i64 i, .int .i64 d, .int .i64 a, .int .i64 b, .int .i64 n] 116)))
  clear hb3 I2
  go_upto_region 9 with (fail)
  obtain ⟨W4, hW4⟩ : ∃ W4, W3.alloc (.cells #[.int .i64 i, .int .i64 d, .int .i64 a, .int .i64 b, .int .i64 n] 116) = W4 := ⟨_, rfl⟩
  rw [hW4] at I3 ⊢
  clear hW4
  have cpc := I3.out.b3.cellPc HX0.out
  have l3 := blk_lt' I3.out.b3
  refine wp_region_any (by kernel_rfl) ?_
  change wpAny _ _ _ _ _ _ _ (World.drew W4)
  have I9 := hid (I3.out.below (W' := W4.drew) ((Below.refl _ _).drew))
  have S9 := hid (SpAt.below (HS.out _) (W' := W4.drew) ((Below.refl _ _).drew))
  obtain ⟨D, hD⟩ : ∃ D, W4.drew = D := ⟨_, rfl⟩
  rw [hD] at I9 S9 ⊢
  clear hD
  have b4 := I9.out.b4
  have b5 := I9.out.b5
  obtain ⟨D4, hD4⟩ : ∃ D4, D.setRow (u.heap.size + 2) #[sl, .int .i64 q] = D4 := ⟨_, rfl⟩
  have J5 : Hid (D4.heap[u.heap.size + 3]? = some (.cells zst 58 (0, 0))) := hid (by rw [← hD4]; exact (setRow_other _ _ _ _ (by omega)).trans b5)
  obtain ⟨D5, hD5⟩ : ∃ D5, D4.setRow (u.heap.size + 3) (stCells (X.set 0 0) pc) = D5 := ⟨_, rfl⟩
  have P0 : Hid (D.heap[u.heap.size]? = some (.cells #[sl, .int .i64 q] 54 (0, 0))) := hid I9.out.b2
  have P1 : Hid (D4.heap[u.heap.size]? = some (.cells #[sl, .int .i64 q] 54 (0, 0))) := hid (by rw [← hD4]; exact (setRow_other _ _ _ _ (by omega)).trans P0.out)
  have Q0 : Hid (St7 D (u.heap.size + 1) (X.set 0 0) pc) := hid I9.out.b3
  have Q1 : Hid (St7 D4 (u.heap.size + 1) (X.set 0 0) pc) := hid (by rw [← hD4]; exact (setRow_other _ _ _ _ (by omega)).trans Q0.out)
  have J4 : Hid (D5.heap[u.heap.size + 2]? = some (.cells #[sl, .int .i64 q] 54 (0, 0))) := hid (by rw [← hD5, ← hD4]; exact (setRow_other _ _ _ _ (by omega)).trans (setRow_heap _ _ _ _ _ _ b4))
  have J55 : Hid (D5.heap[u.heap.size + 3]? = some (.cells (stCells (X.set 0 0) pc) 58 (0, 0))) := hid (by rw [← hD5]; exact setRow_heap _ _ _ _ _ _ J5.out)
  have HD := hid (refstep_done (q := q) I9.out S9.out (cs := #[sl, .int .i64 q]) (cs' := stCells (X.set 0 0) pc) (stepN M X pc) (by rw [Hs.out]))
  rw [hD4, hD5] at HD
  have hone := S9.out.one
  have Q2 : Hid (St7 D5 (u.heap.size + 1) (X.set 0 0) pc) := hid (by rw [← hD5]; exact (setRow_other _ _ _ _ (by omega)).trans Q1.out)
  have cp0 := Q0.out.cellPc HX0.out
  have cp1 := Q1.out.cellPc HX0.out
  have cp2 := Q2.out.cellPc HX0.out
  have P0' := P0
  refine wpAny_take (i := 2) (v := .pointer (some ⟨u.heap.size + 1, 32, none⟩)) rfl (by kernel_rfl) (by kernel_rfl) (by kernel_rfl) (fun _ _ _ h => h) (Or.inl ⟨by rfl, fun w => by first | kernel_rfl | go_simp⟩) ?_
  simp only [ps]
  refine any3 (i := 0) (j := 1) (k := 3) (by kernel_rfl) ?_ ?_ ?_
  · refine wpOp_val (w' := D) (v := .agg #[sl, .int .i64 q]) rfl rfl (exec_load_row 54 (.tmp 2) rfl u.heap.size rfl 54 _ (0, 0) _ P0.out Tryz.underlying54 rfl infoSpc) ?_
    simp only [ps]
    refine any3 (i := 1) (j := 3) (k := 4) (by kernel_rfl) ?_ ?_ ?_
    · refine wpOp_val (w' := D) (v := .agg (stCells (X.set 0 0) pc)) rfl rfl (exec_load_row 58 (.tmp 3) rfl (u.heap.size + 1) rfl 58 _ (0, 0) _ Q0.out Tryz.underlying58 rfl (infoState7 HX0.out pc)) ?_
      simp only [ps]
      refine any2 (i := 3) (j := 4) (by kernel_rfl) ?_ ?_
      · refine wpOp_val (w' := D) (v := .int .u64 pc) rfl rfl (by go_simp) ?_
        simp only [ps]
        refine any1 (i := 4) (by kernel_rfl) ?_
        refine wpOp_store_row rfl rfl 54 (.tmp 4) (.tmp 57) rfl (u.heap.size + 2) #[sl, .int .i64 q] rfl rfl 54 _ b4 infoSpc rfl (spc_one _ _ hone) ?_
        simp only [ps]
        rw [hD4]
        refine any1 (i := 5) (by kernel_rfl) ?_
        refine wpOp_store_row rfl rfl 58 (.tmp 5) (.tmp 58) rfl (u.heap.size + 3) (stCells (X.set 0 0) pc) rfl rfl 58 zst J5.out (infoState7 HX0.out pc) (stCells_size HX0.out _).symm (stCells_one _ _) ?_
        simp only [ps]
        rw [hD5]
        refine any1 (i := 6) (by kernel_rfl) ?_
        refine wpOp_val (w' := D5) (v := .int .i64 0) rfl rfl (by kernel_rfl) ?_
        simp only [ps]
        refine any1 (i := 7) (by kernel_rfl) ?_
        refine wpOp_val (w' := D5) (v := .int .i64 14) rfl rfl (by kernel_rfl) ?_
        simp only [ps]
        refine any1 (i := 8) (by kernel_rfl) ?_
        refine wpOp_val (w' := D5) (v := .int .u64 pc) rfl rfl (by kernel_rfl) ?_
        simp only [ps]
        refine ⟨by kernel_rfl, ?_⟩
        go_wp2_with fail
        refine bodyPost_ret (results_ccttt rfl _ _ (u.heap.size + 2) (u.heap.size + 3) 54 58 #[sl, .int .i64 q] (stCells (X.set 0 0) pc) (0, 0) (0, 0) _ _ rfl rfl J4.out J55.out Tryz.underlying54 rfl infoSpc Tryz.underlying58 rfl (infoState7 HX0.out pc)) rfl ?_
        refine ⟨sl, ?_, HD.out⟩
        (rw [Hs.out]; rfl)
      · refine wpOp_store_row rfl rfl 54 (.tmp 4) (.tmp 57) rfl (u.heap.size + 2) #[sl, .int .i64 q] rfl rfl 54 _ b4 infoSpc rfl (spc_one _ _ hone) ?_
        simp only [ps]
        rw [hD4]
        refine any2 (i := 3) (j := 5) (by kernel_rfl) ?_ ?_
        · refine wpOp_val (w' := D4) (v := .int .u64 pc) rfl rfl (by go_simp) ?_
          simp only [ps]
          refine any1 (i := 5) (by kernel_rfl) ?_
          refine wpOp_store_row rfl rfl 58 (.tmp 5) (.tmp 58) rfl (u.heap.size + 3) (stCells (X.set 0 0) pc) rfl rfl 58 zst J5.out (infoState7 HX0.out pc) (stCells_size HX0.out _).symm (stCells_one _ _) ?_
          simp only [ps]
          rw [hD5]
          refine any1 (i := 6) (by kernel_rfl) ?_
          refine wpOp_val (w' := D5) (v := .int .i64 0) rfl rfl (by kernel_rfl) ?_
          simp only [ps]
          refine any1 (i := 7) (by kernel_rfl) ?_
          refine wpOp_val (w' := D5) (v := .int .i64 14) rfl rfl (by kernel_rfl) ?_
          simp only [ps]
          refine any1 (i := 8) (by kernel_rfl) ?_
          refine wpOp_val (w' := D5) (v := .int .u64 pc) rfl rfl (by kernel_rfl) ?_
          simp only [ps]
          refine ⟨by kernel_rfl, ?_⟩
          go_wp2_with fail
          refine bodyPost_ret (results_ccttt rfl _ _ (u.heap.size + 2) (u.heap.size + 3) 54 58 #[sl, .int .i64 q] (stCells (X.set 0 0) pc) (0, 0) (0, 0) _ _ rfl rfl J4.out J55.out Tryz.underlying54 rfl infoSpc Tryz.underlying58 rfl (infoState7 HX0.out pc)) rfl ?_
          refine ⟨sl, ?_, HD.out⟩
          (rw [Hs.out]; rfl)
        · refine wpOp_store_row rfl rfl 58 (.tmp 5) (.tmp 58) rfl (u.heap.size + 3) (stCells (X.set 0 0) pc) rfl rfl 58 zst J5.out (infoState7 HX0.out pc) (stCells_size HX0.out _).symm (stCells_one _ _) ?_
          simp only [ps]
          rw [hD5]
          refine any2 (i := 3) (j := 6) (by kernel_rfl) ?_ ?_
          · refine wpOp_val (w' := D5) (v := .int .u64 pc) rfl rfl (by go_simp) ?_
            simp only [ps]
            refine any1 (i := 6) (by kernel_rfl) ?_
            refine wpOp_val (w' := D5) (v := .int .i64 0) rfl rfl (by kernel_rfl) ?_
            simp only [ps]
            refine any1 (i := 7) (by kernel_rfl) ?_
            refine wpOp_val (w' := D5) (v := .int .i64 14) rfl rfl (by kernel_rfl) ?_
            simp only [ps]
            refine any1 (i := 8) (by kernel_rfl) ?_
            refine wpOp_val (w' := D5) (v := .int .u64 pc) rfl rfl (by kernel_rfl) ?_
            simp only [ps]
            refine ⟨by kernel_rfl, ?_⟩
            go_wp2_with fail
            refine bodyPost_ret (results_ccttt rfl _ _ (u.heap.size + 2) (u.heap.size + 3) 54 58 #[sl, .int .i64 q] (stCells (X.set 0 0) pc) (0, 0) (0, 0) _ _ rfl rfl J4.out J55.out Tryz.underlying54 rfl infoSpc Tryz.underlying58 rfl (infoState7 HX0.out pc)) rfl ?_
            refine ⟨sl, ?_, HD.out⟩
            (rw [Hs.out]; rfl)
          · refine wpOp_val (w' := D5) (v := .int .i64 0) rfl rfl (by kernel_rfl) ?_
            simp only [ps]
            refine any2 (i := 3) (j := 7) (by kernel_rfl) ?_ ?_
            · refine wpOp_val (w' := D5) (v := .int .u64 pc) rfl rfl (by go_simp) ?_
              simp only [ps]
              refine any1 (i := 7) (by kernel_rfl) ?_
              refine wpOp_val (w' := D5) (v := .int .i64 14) rfl rfl (by kernel_rfl) ?_
              simp only [ps]
              refine any1 (i := 8) (by kernel_rfl) ?_
              refine wpOp_val (w' := D5) (v := .int .u64 pc) rfl rfl (by kernel_rfl) ?_
              simp only [ps]
              refine ⟨by kernel_rfl, ?_⟩
              go_wp2_with fail
              refine bodyPost_ret (results_ccttt rfl _ _ (u.heap.size + 2) (u.heap.size + 3) 54 58 #[sl, .int .i64 q] (stCells (X.set 0 0) pc) (0, 0) (0, 0) _ _ rfl rfl J4.out J55.out Tryz.underlying54 rfl infoSpc Tryz.underlying58 rfl (infoState7 HX0.out pc)) rfl ?_
              refine ⟨sl, ?_, HD.out⟩
              (rw [Hs.out]; rfl)
            · refine wpOp_val (w' := D5) (v := .int .i64 14) rfl rfl (by kernel_rfl) ?_
              simp only [ps]
              refine any1 (i := 3) (by kernel_rfl) ?_
              refine wpOp_val (w' := D5) (v := .int .u64 pc) rfl rfl (by go_simp) ?_
              simp only [ps]
              refine any1 (i := 8) (by kernel_rfl) ?_
              refine wpOp_val (w' := D5) (v := .int .u64 pc) rfl rfl (by kernel_rfl) ?_
              simp only [ps]
              refine ⟨by kernel_rfl, ?_⟩
              go_wp2_with fail
              refine bodyPost_ret (results_ccttt rfl _ _ (u.heap.size + 2) (u.heap.size + 3) 54 58 #[sl, .int .i64 q] (stCells (X.set 0 0) pc) (0, 0) (0, 0) _ _ rfl rfl J4.out J55.out Tryz.underlying54 rfl infoSpc Tryz.underlying58 rfl (infoState7 HX0.out pc)) rfl ?_
              refine ⟨sl, ?_, HD.out⟩
              (rw [Hs.out]; rfl)
    · refine wpOp_val (w' := D) (v := .int .u64 pc) rfl rfl (by go_simp) ?_
      simp only [ps]
      refine any2 (i := 1) (j := 4) (by kernel_rfl) ?_ ?_
      · refine wpOp_val (w' := D) (v := .agg (stCells (X.set 0 0) pc)) rfl rfl (exec_load_row 58 (.tmp 3) rfl (u.heap.size + 1) rfl 58 _ (0, 0) _ Q0.out Tryz.underlying58 rfl (infoState7 HX0.out pc)) ?_
        simp only [ps]
        refine any1 (i := 4) (by kernel_rfl) ?_
        refine wpOp_store_row rfl rfl 54 (.tmp 4) (.tmp 57) rfl (u.heap.size + 2) #[sl, .int .i64 q] rfl rfl 54 _ b4 infoSpc rfl (spc_one _ _ hone) ?_
        simp only [ps]
        rw [hD4]
        refine any1 (i := 5) (by kernel_rfl) ?_
        refine wpOp_store_row rfl rfl 58 (.tmp 5) (.tmp 58) rfl (u.heap.size + 3) (stCells (X.set 0 0) pc) rfl rfl 58 zst J5.out (infoState7 HX0.out pc) (stCells_size HX0.out _).symm (stCells_one _ _) ?_
        simp only [ps]
        rw [hD5]
        refine any1 (i := 6) (by kernel_rfl) ?_
        refine wpOp_val (w' := D5) (v := .int .i64 0) rfl rfl (by kernel_rfl) ?_
        simp only [ps]
        refine any1 (i := 7) (by kernel_rfl) ?_
        refine wpOp_val (w' := D5) (v := .int .i64 14) rfl rfl (by kernel_rfl) ?_
        simp only [ps]
        refine any1 (i := 8) (by kernel_rfl) ?_
        refine wpOp_val (w' := D5) (v := .int .u64 pc) rfl rfl (by kernel_rfl) ?_
        simp only [ps]
        refine ⟨by kernel_rfl, ?_⟩
        go_wp2_with fail
        refine bodyPost_ret (results_ccttt rfl _ _ (u.heap.size + 2) (u.heap.size + 3) 54 58 #[sl, .int .i64 q] (stCells (X.set 0 0) pc) (0, 0) (0, 0) _ _ rfl rfl J4.out J55.out Tryz.underlying54 rfl infoSpc Tryz.underlying58 rfl (infoState7 HX0.out pc)) rfl ?_
        refine ⟨sl, ?_, HD.out⟩
        (rw [Hs.out]; rfl)
      · refine wpOp_store_row rfl rfl 54 (.tmp 4) (.tmp 57) rfl (u.heap.size + 2) #[sl, .int .i64 q] rfl rfl 54 _ b4 infoSpc rfl (spc_one _ _ hone) ?_
        simp only [ps]
        rw [hD4]
        refine any1 (i := 1) (by kernel_rfl) ?_
        refine wpOp_val (w' := D4) (v := .agg (stCells (X.set 0 0) pc)) rfl rfl (exec_load_row 58 (.tmp 3) rfl (u.heap.size + 1) rfl 58 _ (0, 0) _ Q1.out Tryz.underlying58 rfl (infoState7 HX0.out pc)) ?_
        simp only [ps]
        refine any1 (i := 5) (by kernel_rfl) ?_
        refine wpOp_store_row rfl rfl 58 (.tmp 5) (.tmp 58) rfl (u.heap.size + 3) (stCells (X.set 0 0) pc) rfl rfl 58 zst J5.out (infoState7 HX0.out pc) (stCells_size HX0.out _).symm (stCells_one _ _) ?_
        simp only [ps]
        rw [hD5]
        refine any1 (i := 6) (by kernel_rfl) ?_
        refine wpOp_val (w' := D5) (v := .int .i64 0) rfl rfl (by kernel_rfl) ?_
        simp only [ps]
        refine any1 (i := 7) (by kernel_rfl) ?_
        refine wpOp_val (w' := D5) (v := .int .i64 14) rfl rfl (by kernel_rfl) ?_
        simp only [ps]
        refine any1 (i := 8) (by kernel_rfl) ?_
        refine wpOp_val (w' := D5) (v := .int .u64 pc) rfl rfl (by kernel_rfl) ?_
        simp only [ps]
        refine ⟨by kernel_rfl, ?_⟩
        go_wp2_with fail
        refine bodyPost_ret (results_ccttt rfl _ _ (u.heap.size + 2) (u.heap.size + 3) 54 58 #[sl, .int .i64 q] (stCells (X.set 0 0) pc) (0, 0) (0, 0) _ _ rfl rfl J4.out J55.out Tryz.underlying54 rfl infoSpc Tryz.underlying58 rfl (infoState7 HX0.out pc)) rfl ?_
        refine ⟨sl, ?_, HD.out⟩
        (rw [Hs.out]; rfl)
    · refine wpOp_store_row rfl rfl 54 (.tmp 4) (.tmp 57) rfl (u.heap.size + 2) #[sl, .int .i64 q] rfl rfl 54 _ b4 infoSpc rfl (spc_one _ _ hone) ?_
      simp only [ps]
      rw [hD4]
      refine any2 (i := 1) (j := 3) (by kernel_rfl) ?_ ?_
      · refine wpOp_val (w' := D4) (v := .agg (stCells (X.set 0 0) pc)) rfl rfl (exec_load_row 58 (.tmp 3) rfl (u.heap.size + 1) rfl 58 _ (0, 0) _ Q1.out Tryz.underlying58 rfl (infoState7 HX0.out pc)) ?_
        simp only [ps]
        refine any2 (i := 3) (j := 5) (by kernel_rfl) ?_ ?_
        · refine wpOp_val (w' := D4) (v := .int .u64 pc) rfl rfl (by go_simp) ?_
          simp only [ps]
          refine any1 (i := 5) (by kernel_rfl) ?_
          refine wpOp_store_row rfl rfl 58 (.tmp 5) (.tmp 58) rfl (u.heap.size + 3) (stCells (X.set 0 0) pc) rfl rfl 58 zst J5.out (infoState7 HX0.out pc) (stCells_size HX0.out _).symm (stCells_one _ _) ?_
          simp only [ps]
          rw [hD5]
          refine any1 (i := 6) (by kernel_rfl) ?_
          refine wpOp_val (w' := D5) (v := .int .i64 0) rfl rfl (by kernel_rfl) ?_
          simp only [ps]
          refine any1 (i := 7) (by kernel_rfl) ?_
          refine wpOp_val (w' := D5) (v := .int .i64 14) rfl rfl (by kernel_rfl) ?_
          simp only [ps]
          refine any1 (i := 8) (by kernel_rfl) ?_
          refine wpOp_val (w' := D5) (v := .int .u64 pc) rfl rfl (by kernel_rfl) ?_
          simp only [ps]
          refine ⟨by kernel_rfl, ?_⟩
          go_wp2_with fail
          refine bodyPost_ret (results_ccttt rfl _ _ (u.heap.size + 2) (u.heap.size + 3) 54 58 #[sl, .int .i64 q] (stCells (X.set 0 0) pc) (0, 0) (0, 0) _ _ rfl rfl J4.out J55.out Tryz.underlying54 rfl infoSpc Tryz.underlying58 rfl (infoState7 HX0.out pc)) rfl ?_
          refine ⟨sl, ?_, HD.out⟩
          (rw [Hs.out]; rfl)
        · refine wpOp_store_row rfl rfl 58 (.tmp 5) (.tmp 58) rfl (u.heap.size + 3) (stCells (X.set 0 0) pc) rfl rfl 58 zst J5.out (infoState7 HX0.out pc) (stCells_size HX0.out _).symm (stCells_one _ _) ?_
          simp only [ps]
          rw [hD5]
          refine any2 (i := 3) (j := 6) (by kernel_rfl) ?_ ?_
          · refine wpOp_val (w' := D5) (v := .int .u64 pc) rfl rfl (by go_simp) ?_
            simp only [ps]
            refine any1 (i := 6) (by kernel_rfl) ?_
            refine wpOp_val (w' := D5) (v := .int .i64 0) rfl rfl (by kernel_rfl) ?_
            simp only [ps]
            refine any1 (i := 7) (by kernel_rfl) ?_
            refine wpOp_val (w' := D5) (v := .int .i64 14) rfl rfl (by kernel_rfl) ?_
            simp only [ps]
            refine any1 (i := 8) (by kernel_rfl) ?_
            refine wpOp_val (w' := D5) (v := .int .u64 pc) rfl rfl (by kernel_rfl) ?_
            simp only [ps]
            refine ⟨by kernel_rfl, ?_⟩
            go_wp2_with fail
            refine bodyPost_ret (results_ccttt rfl _ _ (u.heap.size + 2) (u.heap.size + 3) 54 58 #[sl, .int .i64 q] (stCells (X.set 0 0) pc) (0, 0) (0, 0) _ _ rfl rfl J4.out J55.out Tryz.underlying54 rfl infoSpc Tryz.underlying58 rfl (infoState7 HX0.out pc)) rfl ?_
            refine ⟨sl, ?_, HD.out⟩
            (rw [Hs.out]; rfl)
          · refine wpOp_val (w' := D5) (v := .int .i64 0) rfl rfl (by kernel_rfl) ?_
            simp only [ps]
            refine any2 (i := 3) (j := 7) (by kernel_rfl) ?_ ?_
            · refine wpOp_val (w' := D5) (v := .int .u64 pc) rfl rfl (by go_simp) ?_
              simp only [ps]
              refine any1 (i := 7) (by kernel_rfl) ?_
              refine wpOp_val (w' := D5) (v := .int .i64 14) rfl rfl (by kernel_rfl) ?_
              simp only [ps]
              refine any1 (i := 8) (by kernel_rfl) ?_
              refine wpOp_val (w' := D5) (v := .int .u64 pc) rfl rfl (by kernel_rfl) ?_
              simp only [ps]
              refine ⟨by kernel_rfl, ?_⟩
              go_wp2_with fail
              refine bodyPost_ret (results_ccttt rfl _ _ (u.heap.size + 2) (u.heap.size + 3) 54 58 #[sl, .int .i64 q] (stCells (X.set 0 0) pc) (0, 0) (0, 0) _ _ rfl rfl J4.out J55.out Tryz.underlying54 rfl infoSpc Tryz.underlying58 rfl (infoState7 HX0.out pc)) rfl ?_
              refine ⟨sl, ?_, HD.out⟩
              (rw [Hs.out]; rfl)
            · refine wpOp_val (w' := D5) (v := .int .i64 14) rfl rfl (by kernel_rfl) ?_
              simp only [ps]
              refine any1 (i := 3) (by kernel_rfl) ?_
              refine wpOp_val (w' := D5) (v := .int .u64 pc) rfl rfl (by go_simp) ?_
              simp only [ps]
              refine any1 (i := 8) (by kernel_rfl) ?_
              refine wpOp_val (w' := D5) (v := .int .u64 pc) rfl rfl (by kernel_rfl) ?_
              simp only [ps]
              refine ⟨by kernel_rfl, ?_⟩
              go_wp2_with fail
              refine bodyPost_ret (results_ccttt rfl _ _ (u.heap.size + 2) (u.heap.size + 3) 54 58 #[sl, .int .i64 q] (stCells (X.set 0 0) pc) (0, 0) (0, 0) _ _ rfl rfl J4.out J55.out Tryz.underlying54 rfl infoSpc Tryz.underlying58 rfl (infoState7 HX0.out pc)) rfl ?_
              refine ⟨sl, ?_, HD.out⟩
              (rw [Hs.out]; rfl)
      · refine wpOp_val (w' := D4) (v := .int .u64 pc) rfl rfl (by go_simp) ?_
        simp only [ps]
        refine any1 (i := 1) (by kernel_rfl) ?_
        refine wpOp_val (w' := D4) (v := .agg (stCells (X.set 0 0) pc)) rfl rfl (exec_load_row 58 (.tmp 3) rfl (u.heap.size + 1) rfl 58 _ (0, 0) _ Q1.out Tryz.underlying58 rfl (infoState7 HX0.out pc)) ?_
        simp only [ps]
        refine any1 (i := 5) (by kernel_rfl) ?_
        refine wpOp_store_row rfl rfl 58 (.tmp 5) (.tmp 58) rfl (u.heap.size + 3) (stCells (X.set 0 0) pc) rfl rfl 58 zst J5.out (infoState7 HX0.out pc) (stCells_size HX0.out _).symm (stCells_one _ _) ?_
        simp only [ps]
        rw [hD5]
        refine any1 (i := 6) (by kernel_rfl) ?_
        refine wpOp_val (w' := D5) (v := .int .i64 0) rfl rfl (by kernel_rfl) ?_
        simp only [ps]
        refine any1 (i := 7) (by kernel_rfl) ?_
        refine wpOp_val (w' := D5) (v := .int .i64 14) rfl rfl (by kernel_rfl) ?_
        simp only [ps]
        refine any1 (i := 8) (by kernel_rfl) ?_
        refine wpOp_val (w' := D5) (v := .int .u64 pc) rfl rfl (by kernel_rfl) ?_
        simp only [ps]
        refine ⟨by kernel_rfl, ?_⟩
        go_wp2_with fail
        refine bodyPost_ret (results_ccttt rfl _ _ (u.heap.size + 2) (u.heap.size + 3) 54 58 #[sl, .int .i64 q] (stCells (X.set 0 0) pc) (0, 0) (0, 0) _ _ rfl rfl J4.out J55.out Tryz.underlying54 rfl infoSpc Tryz.underlying58 rfl (infoState7 HX0.out pc)) rfl ?_
        refine ⟨sl, ?_, HD.out⟩
        (rw [Hs.out]; rfl)
  · refine wpOp_val (w' := D) (v := .agg (stCells (X.set 0 0) pc)) rfl rfl (exec_load_row 58 (.tmp 3) rfl (u.heap.size + 1) rfl 58 _ (0, 0) _ Q0.out Tryz.underlying58 rfl (infoState7 HX0.out pc)) ?_
    simp only [ps]
    refine any2 (i := 0) (j := 3) (by kernel_rfl) ?_ ?_
    · refine wpOp_val (w' := D) (v := .agg #[sl, .int .i64 q]) rfl rfl (exec_load_row 54 (.tmp 2) rfl u.heap.size rfl 54 _ (0, 0) _ P0.out Tryz.underlying54 rfl infoSpc) ?_
      simp only [ps]
      refine any2 (i := 3) (j := 4) (by kernel_rfl) ?_ ?_
      · refine wpOp_val (w' := D) (v := .int .u64 pc) rfl rfl (by go_simp) ?_
        simp only [ps]
        refine any1 (i := 4) (by kernel_rfl) ?_
        refine wpOp_store_row rfl rfl 54 (.tmp 4) (.tmp 57) rfl (u.heap.size + 2) #[sl, .int .i64 q] rfl rfl 54 _ b4 infoSpc rfl (spc_one _ _ hone) ?_
        simp only [ps]
        rw [hD4]
        refine any1 (i := 5) (by kernel_rfl) ?_
        refine wpOp_store_row rfl rfl 58 (.tmp 5) (.tmp 58) rfl (u.heap.size + 3) (stCells (X.set 0 0) pc) rfl rfl 58 zst J5.out (infoState7 HX0.out pc) (stCells_size HX0.out _).symm (stCells_one _ _) ?_
        simp only [ps]
        rw [hD5]
        refine any1 (i := 6) (by kernel_rfl) ?_
        refine wpOp_val (w' := D5) (v := .int .i64 0) rfl rfl (by kernel_rfl) ?_
        simp only [ps]
        refine any1 (i := 7) (by kernel_rfl) ?_
        refine wpOp_val (w' := D5) (v := .int .i64 14) rfl rfl (by kernel_rfl) ?_
        simp only [ps]
        refine any1 (i := 8) (by kernel_rfl) ?_
        refine wpOp_val (w' := D5) (v := .int .u64 pc) rfl rfl (by kernel_rfl) ?_
        simp only [ps]
        refine ⟨by kernel_rfl, ?_⟩
        go_wp2_with fail
        refine bodyPost_ret (results_ccttt rfl _ _ (u.heap.size + 2) (u.heap.size + 3) 54 58 #[sl, .int .i64 q] (stCells (X.set 0 0) pc) (0, 0) (0, 0) _ _ rfl rfl J4.out J55.out Tryz.underlying54 rfl infoSpc Tryz.underlying58 rfl (infoState7 HX0.out pc)) rfl ?_
        refine ⟨sl, ?_, HD.out⟩
        (rw [Hs.out]; rfl)
      · refine wpOp_store_row rfl rfl 54 (.tmp 4) (.tmp 57) rfl (u.heap.size + 2) #[sl, .int .i64 q] rfl rfl 54 _ b4 infoSpc rfl (spc_one _ _ hone) ?_
        simp only [ps]
        rw [hD4]
        refine any2 (i := 3) (j := 5) (by kernel_rfl) ?_ ?_
        · refine wpOp_val (w' := D4) (v := .int .u64 pc) rfl rfl (by go_simp) ?_
          simp only [ps]
          refine any1 (i := 5) (by kernel_rfl) ?_
          refine wpOp_store_row rfl rfl 58 (.tmp 5) (.tmp 58) rfl (u.heap.size + 3) (stCells (X.set 0 0) pc) rfl rfl 58 zst J5.out (infoState7 HX0.out pc) (stCells_size HX0.out _).symm (stCells_one _ _) ?_
          simp only [ps]
          rw [hD5]
          refine any1 (i := 6) (by kernel_rfl) ?_
          refine wpOp_val (w' := D5) (v := .int .i64 0) rfl rfl (by kernel_rfl) ?_
          simp only [ps]
          refine any1 (i := 7) (by kernel_rfl) ?_
          refine wpOp_val (w' := D5) (v := .int .i64 14) rfl rfl (by kernel_rfl) ?_
          simp only [ps]
          refine any1 (i := 8) (by kernel_rfl) ?_
          refine wpOp_val (w' := D5) (v := .int .u64 pc) rfl rfl (by kernel_rfl) ?_
          simp only [ps]
          refine ⟨by kernel_rfl, ?_⟩
          go_wp2_with fail
          refine bodyPost_ret (results_ccttt rfl _ _ (u.heap.size + 2) (u.heap.size + 3) 54 58 #[sl, .int .i64 q] (stCells (X.set 0 0) pc) (0, 0) (0, 0) _ _ rfl rfl J4.out J55.out Tryz.underlying54 rfl infoSpc Tryz.underlying58 rfl (infoState7 HX0.out pc)) rfl ?_
          refine ⟨sl, ?_, HD.out⟩
          (rw [Hs.out]; rfl)
        · refine wpOp_store_row rfl rfl 58 (.tmp 5) (.tmp 58) rfl (u.heap.size + 3) (stCells (X.set 0 0) pc) rfl rfl 58 zst J5.out (infoState7 HX0.out pc) (stCells_size HX0.out _).symm (stCells_one _ _) ?_
          simp only [ps]
          rw [hD5]
          refine any2 (i := 3) (j := 6) (by kernel_rfl) ?_ ?_
          · refine wpOp_val (w' := D5) (v := .int .u64 pc) rfl rfl (by go_simp) ?_
            simp only [ps]
            refine any1 (i := 6) (by kernel_rfl) ?_
            refine wpOp_val (w' := D5) (v := .int .i64 0) rfl rfl (by kernel_rfl) ?_
            simp only [ps]
            refine any1 (i := 7) (by kernel_rfl) ?_
            refine wpOp_val (w' := D5) (v := .int .i64 14) rfl rfl (by kernel_rfl) ?_
            simp only [ps]
            refine any1 (i := 8) (by kernel_rfl) ?_
            refine wpOp_val (w' := D5) (v := .int .u64 pc) rfl rfl (by kernel_rfl) ?_
            simp only [ps]
            refine ⟨by kernel_rfl, ?_⟩
            go_wp2_with fail
            refine bodyPost_ret (results_ccttt rfl _ _ (u.heap.size + 2) (u.heap.size + 3) 54 58 #[sl, .int .i64 q] (stCells (X.set 0 0) pc) (0, 0) (0, 0) _ _ rfl rfl J4.out J55.out Tryz.underlying54 rfl infoSpc Tryz.underlying58 rfl (infoState7 HX0.out pc)) rfl ?_
            refine ⟨sl, ?_, HD.out⟩
            (rw [Hs.out]; rfl)
          · refine wpOp_val (w' := D5) (v := .int .i64 0) rfl rfl (by kernel_rfl) ?_
            simp only [ps]
            refine any2 (i := 3) (j := 7) (by kernel_rfl) ?_ ?_
            · refine wpOp_val (w' := D5) (v := .int .u64 pc) rfl rfl (by go_simp) ?_
              simp only [ps]
              refine any1 (i := 7) (by kernel_rfl) ?_
              refine wpOp_val (w' := D5) (v := .int .i64 14) rfl rfl (by kernel_rfl) ?_
              simp only [ps]
              refine any1 (i := 8) (by kernel_rfl) ?_
              refine wpOp_val (w' := D5) (v := .int .u64 pc) rfl rfl (by kernel_rfl) ?_
              simp only [ps]
              refine ⟨by kernel_rfl, ?_⟩
              go_wp2_with fail
              refine bodyPost_ret (results_ccttt rfl _ _ (u.heap.size + 2) (u.heap.size + 3) 54 58 #[sl, .int .i64 q] (stCells (X.set 0 0) pc) (0, 0) (0, 0) _ _ rfl rfl J4.out J55.out Tryz.underlying54 rfl infoSpc Tryz.underlying58 rfl (infoState7 HX0.out pc)) rfl ?_
              refine ⟨sl, ?_, HD.out⟩
              (rw [Hs.out]; rfl)
            · refine wpOp_val (w' := D5) (v := .int .i64 14) rfl rfl (by kernel_rfl) ?_
              simp only [ps]
              refine any1 (i := 3) (by kernel_rfl) ?_
              refine wpOp_val (w' := D5) (v := .int .u64 pc) rfl rfl (by go_simp) ?_
              simp only [ps]
              refine any1 (i := 8) (by kernel_rfl) ?_
              refine wpOp_val (w' := D5) (v := .int .u64 pc) rfl rfl (by kernel_rfl) ?_
              simp only [ps]
              refine ⟨by kernel_rfl, ?_⟩
              go_wp2_with fail
              refine bodyPost_ret (results_ccttt rfl _ _ (u.heap.size + 2) (u.heap.size + 3) 54 58 #[sl, .int .i64 q] (stCells (X.set 0 0) pc) (0, 0) (0, 0) _ _ rfl rfl J4.out J55.out Tryz.underlying54 rfl infoSpc Tryz.underlying58 rfl (infoState7 HX0.out pc)) rfl ?_
              refine ⟨sl, ?_, HD.out⟩
              (rw [Hs.out]; rfl)
    · refine wpOp_val (w' := D) (v := .int .u64 pc) rfl rfl (by go_simp) ?_
      simp only [ps]
      refine any1 (i := 0) (by kernel_rfl) ?_
      refine wpOp_val (w' := D) (v := .agg #[sl, .int .i64 q]) rfl rfl (exec_load_row 54 (.tmp 2) rfl u.heap.size rfl 54 _ (0, 0) _ P0.out Tryz.underlying54 rfl infoSpc) ?_
      simp only [ps]
      refine any1 (i := 4) (by kernel_rfl) ?_
      refine wpOp_store_row rfl rfl 54 (.tmp 4) (.tmp 57) rfl (u.heap.size + 2) #[sl, .int .i64 q] rfl rfl 54 _ b4 infoSpc rfl (spc_one _ _ hone) ?_
      simp only [ps]
      rw [hD4]
      refine any1 (i := 5) (by kernel_rfl) ?_
      refine wpOp_store_row rfl rfl 58 (.tmp 5) (.tmp 58) rfl (u.heap.size + 3) (stCells (X.set 0 0) pc) rfl rfl 58 zst J5.out (infoState7 HX0.out pc) (stCells_size HX0.out _).symm (stCells_one _ _) ?_
      simp only [ps]
      rw [hD5]
      refine any1 (i := 6) (by kernel_rfl) ?_
      refine wpOp_val (w' := D5) (v := .int .i64 0) rfl rfl (by kernel_rfl) ?_
      simp only [ps]
      refine any1 (i := 7) (by kernel_rfl) ?_
      refine wpOp_val (w' := D5) (v := .int .i64 14) rfl rfl (by kernel_rfl) ?_
      simp only [ps]
      refine any1 (i := 8) (by kernel_rfl) ?_
      refine wpOp_val (w' := D5) (v := .int .u64 pc) rfl rfl (by kernel_rfl) ?_
      simp only [ps]
      refine ⟨by kernel_rfl, ?_⟩
      go_wp2_with fail
      refine bodyPost_ret (results_ccttt rfl _ _ (u.heap.size + 2) (u.heap.size + 3) 54 58 #[sl, .int .i64 q] (stCells (X.set 0 0) pc) (0, 0) (0, 0) _ _ rfl rfl J4.out J55.out Tryz.underlying54 rfl infoSpc Tryz.underlying58 rfl (infoState7 HX0.out pc)) rfl ?_
      refine ⟨sl, ?_, HD.out⟩
      (rw [Hs.out]; rfl)
  · refine wpOp_val (w' := D) (v := .int .u64 pc) rfl rfl (by go_simp) ?_
    simp only [ps]
    refine any2 (i := 0) (j := 1) (by kernel_rfl) ?_ ?_
    · refine wpOp_val (w' := D) (v := .agg #[sl, .int .i64 q]) rfl rfl (exec_load_row 54 (.tmp 2) rfl u.heap.size rfl 54 _ (0, 0) _ P0.out Tryz.underlying54 rfl infoSpc) ?_
      simp only [ps]
      refine any2 (i := 1) (j := 4) (by kernel_rfl) ?_ ?_
      · refine wpOp_val (w' := D) (v := .agg (stCells (X.set 0 0) pc)) rfl rfl (exec_load_row 58 (.tmp 3) rfl (u.heap.size + 1) rfl 58 _ (0, 0) _ Q0.out Tryz.underlying58 rfl (infoState7 HX0.out pc)) ?_
        simp only [ps]
        refine any1 (i := 4) (by kernel_rfl) ?_
        refine wpOp_store_row rfl rfl 54 (.tmp 4) (.tmp 57) rfl (u.heap.size + 2) #[sl, .int .i64 q] rfl rfl 54 _ b4 infoSpc rfl (spc_one _ _ hone) ?_
        simp only [ps]
        rw [hD4]
        refine any1 (i := 5) (by kernel_rfl) ?_
        refine wpOp_store_row rfl rfl 58 (.tmp 5) (.tmp 58) rfl (u.heap.size + 3) (stCells (X.set 0 0) pc) rfl rfl 58 zst J5.out (infoState7 HX0.out pc) (stCells_size HX0.out _).symm (stCells_one _ _) ?_
        simp only [ps]
        rw [hD5]
        refine any1 (i := 6) (by kernel_rfl) ?_
        refine wpOp_val (w' := D5) (v := .int .i64 0) rfl rfl (by kernel_rfl) ?_
        simp only [ps]
        refine any1 (i := 7) (by kernel_rfl) ?_
        refine wpOp_val (w' := D5) (v := .int .i64 14) rfl rfl (by kernel_rfl) ?_
        simp only [ps]
        refine any1 (i := 8) (by kernel_rfl) ?_
        refine wpOp_val (w' := D5) (v := .int .u64 pc) rfl rfl (by kernel_rfl) ?_
        simp only [ps]
        refine ⟨by kernel_rfl, ?_⟩
        go_wp2_with fail
        refine bodyPost_ret (results_ccttt rfl _ _ (u.heap.size + 2) (u.heap.size + 3) 54 58 #[sl, .int .i64 q] (stCells (X.set 0 0) pc) (0, 0) (0, 0) _ _ rfl rfl J4.out J55.out Tryz.underlying54 rfl infoSpc Tryz.underlying58 rfl (infoState7 HX0.out pc)) rfl ?_
        refine ⟨sl, ?_, HD.out⟩
        (rw [Hs.out]; rfl)
      · refine wpOp_store_row rfl rfl 54 (.tmp 4) (.tmp 57) rfl (u.heap.size + 2) #[sl, .int .i64 q] rfl rfl 54 _ b4 infoSpc rfl (spc_one _ _ hone) ?_
        simp only [ps]
        rw [hD4]
        refine any1 (i := 1) (by kernel_rfl) ?_
        refine wpOp_val (w' := D4) (v := .agg (stCells (X.set 0 0) pc)) rfl rfl (exec_load_row 58 (.tmp 3) rfl (u.heap.size + 1) rfl 58 _ (0, 0) _ Q1.out Tryz.underlying58 rfl (infoState7 HX0.out pc)) ?_
        simp only [ps]
        refine any1 (i := 5) (by kernel_rfl) ?_
        refine wpOp_store_row rfl rfl 58 (.tmp 5) (.tmp 58) rfl (u.heap.size + 3) (stCells (X.set 0 0) pc) rfl rfl 58 zst J5.out (infoState7 HX0.out pc) (stCells_size HX0.out _).symm (stCells_one _ _) ?_
        simp only [ps]
        rw [hD5]
        refine any1 (i := 6) (by kernel_rfl) ?_
        refine wpOp_val (w' := D5) (v := .int .i64 0) rfl rfl (by kernel_rfl) ?_
        simp only [ps]
        refine any1 (i := 7) (by kernel_rfl) ?_
        refine wpOp_val (w' := D5) (v := .int .i64 14) rfl rfl (by kernel_rfl) ?_
        simp only [ps]
        refine any1 (i := 8) (by kernel_rfl) ?_
        refine wpOp_val (w' := D5) (v := .int .u64 pc) rfl rfl (by kernel_rfl) ?_
        simp only [ps]
        refine ⟨by kernel_rfl, ?_⟩
        go_wp2_with fail
        refine bodyPost_ret (results_ccttt rfl _ _ (u.heap.size + 2) (u.heap.size + 3) 54 58 #[sl, .int .i64 q] (stCells (X.set 0 0) pc) (0, 0) (0, 0) _ _ rfl rfl J4.out J55.out Tryz.underlying54 rfl infoSpc Tryz.underlying58 rfl (infoState7 HX0.out pc)) rfl ?_
        refine ⟨sl, ?_, HD.out⟩
        (rw [Hs.out]; rfl)
    · refine wpOp_val (w' := D) (v := .agg (stCells (X.set 0 0) pc)) rfl rfl (exec_load_row 58 (.tmp 3) rfl (u.heap.size + 1) rfl 58 _ (0, 0) _ Q0.out Tryz.underlying58 rfl (infoState7 HX0.out pc)) ?_
      simp only [ps]
      refine any1 (i := 0) (by kernel_rfl) ?_
      refine wpOp_val (w' := D) (v := .agg #[sl, .int .i64 q]) rfl rfl (exec_load_row 54 (.tmp 2) rfl u.heap.size rfl 54 _ (0, 0) _ P0.out Tryz.underlying54 rfl infoSpc) ?_
      simp only [ps]
      refine any1 (i := 4) (by kernel_rfl) ?_
      refine wpOp_store_row rfl rfl 54 (.tmp 4) (.tmp 57) rfl (u.heap.size + 2) #[sl, .int .i64 q] rfl rfl 54 _ b4 infoSpc rfl (spc_one _ _ hone) ?_
      simp only [ps]
      rw [hD4]
      refine any1 (i := 5) (by kernel_rfl) ?_
      refine wpOp_store_row rfl rfl 58 (.tmp 5) (.tmp 58) rfl (u.heap.size + 3) (stCells (X.set 0 0) pc) rfl rfl 58 zst J5.out (infoState7 HX0.out pc) (stCells_size HX0.out _).symm (stCells_one _ _) ?_
      simp only [ps]
      rw [hD5]
      refine any1 (i := 6) (by kernel_rfl) ?_
      refine wpOp_val (w' := D5) (v := .int .i64 0) rfl rfl (by kernel_rfl) ?_
      simp only [ps]
      refine any1 (i := 7) (by kernel_rfl) ?_
      refine wpOp_val (w' := D5) (v := .int .i64 14) rfl rfl (by kernel_rfl) ?_
      simp only [ps]
      refine any1 (i := 8) (by kernel_rfl) ?_
      refine wpOp_val (w' := D5) (v := .int .u64 pc) rfl rfl (by kernel_rfl) ?_
      simp only [ps]
      refine ⟨by kernel_rfl, ?_⟩
      go_wp2_with fail
      refine bodyPost_ret (results_ccttt rfl _ _ (u.heap.size + 2) (u.heap.size + 3) 54 58 #[sl, .int .i64 q] (stCells (X.set 0 0) pc) (0, 0) (0, 0) _ _ rfl rfl J4.out J55.out Tryz.underlying54 rfl infoSpc Tryz.underlying58 rfl (infoState7 HX0.out pc)) rfl ?_
      refine ⟨sl, ?_, HD.out⟩
      (rw [Hs.out]; rfl)
end
end Go.Proofs.YtiemingpbommeaaGreatDoor
