/- A space of three pages: the keys of its map, one by one, in whatever order. -/
import Derived.Test.YtiemingpbommeaaGreatDoorGp
import Derived.Sort.MapsRangeIn
import Derived.RangeFuncSeq
import Derived.Lib.SlKeysI
namespace Go.Proofs.YtiemingpbommeaaGreatDoor
open Go Go.RowKit Go.Shelf Go.Maps Go.WideElems
noncomputable section
set_option linter.unusedVariables false
set_option linter.unusedSimpArgs false
attribute [local go_sem] Oper.semAt_some
/-- three pages, where the law's own code lays them -/
def Three (ps : List (Pg × Nat)) : Prop := ps.map (fun x => x.1.a) = [65536, 65792, 66048]
theorem Three.form {ps : List (Pg × Nat)} (h : Three ps) : ∃ g0 b0 g1 b1 g2 b2, ps = [(g0, b0), (g1, b1), (g2, b2)] ∧ g0.a = 65536 ∧ g1.a = 65792 ∧ g2.a = 66048 := by
  unfold Three at h
  rcases ps with _ | ⟨⟨g0, b0⟩, _ | ⟨⟨g1, b1⟩, _ | ⟨⟨g2, b2⟩, _ | ⟨x, ps⟩⟩⟩⟩
  · simp at h
  · simp at h
  · simp at h
  · simp at h
    exact ⟨g0, b0, g1, b1, g2, b2, rfl, h.1, h.2.1, h.2.2⟩
  · simp at h
def K3 : List Int := [65536, 65792, 66048]
def D3 : DataW Unit := .map [(.int .u64 65536, .nil), (.int .u64 65792, .nil), (.int .u64 66048, .nil)]
/-- the keys met so far -/
def Coll (left : Lit → Bool) (ss : List Int) : Prop := ss.Nodup ∧ ∀ x : Int, x ∈ ss ↔ (has D3 (.int .u64 x) = true ∧ left (.int .u64 x) = false)
theorem Coll.step {left : Lit → Bool} {ss : List Int} (h : Coll left ss) {x : Int} {y : DataW Unit} (hlk : left (.int .u64 x) = true) (hat : ∀ zd, D3.atKey (.int .u64 x) zd = y) : Coll (fun z => left z && !z.sameKey (.int .u64 x)) (ss ++ [x]) := by
  have hhas : has D3 (.int .u64 x) = true := has_true_of_atKey hat
  have hnew : x ∉ ss := fun hx => by have := ((h.2 x).1 hx).2; rw [hlk] at this; cases this
  refine ⟨List.nodup_append.2 ⟨h.1, by simp, fun a ha b hb => by simp at hb; subst hb; exact fun e => hnew (e ▸ ha)⟩, fun y => ?_⟩
  by_cases hy : y = x
  · subst hy; simp [hhas, Lit.sameKey]
  · simp [h.2 y, hy, Lit.sameKey]
theorem has3 (x : Int) : has D3 (.int .u64 x) = true ↔ x ∈ K3 := by
  simp [D3, has, K3, Lit.sameKey]
  omega
theorem Coll.perm {left : Lit → Bool} {ss : List Int} (h : Coll left ss) (hl : ∀ kl, left kl = false) : ss.Perm K3 := by
  refine (List.perm_ext_iff_of_nodup h.1 (by decide)).2 fun x => ?_
  rw [h.2 x, hl, has3]
  simp
end
end Go.Proofs.YtiemingpbommeaaGreatDoor
