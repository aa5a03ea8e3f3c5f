/- A space of three pages, copied. -/
import Derived.Test.YtiemingpbommeaaGreatDoorHi
import Derived.Test.YtiemingpbommeaaGreatDoorGp
namespace Go.Proofs.YtiemingpbommeaaGreatDoor
open Go Go.RowKit Go.Shelf Go.ChangeMaps
noncomputable section
set_option linter.unusedVariables false
set_option linter.unusedSimpArgs false
attribute [local go_sem] Oper.semAt_some
section
variable {P : Program} {Q : Exit → Act → World → Prop}
end
theorem Good.sub {M N : List Pg} (h : Good M) (hs : N.Sublist M) : Good N :=
  ⟨fun g hg => h.len g (hs.subset hg), fun g hg => h.al g (hs.subset hg), fun g hg => h.top g (hs.subset hg), fun g hg => h.per g (hs.subset hg), h.nd.sublist hs⟩
theorem SetIs.block {w : World} {sl : Value} {L : List (Nat × Nat)} (h : SetIs w sl L) {k : Nat} (hk : k ∈ ownB sl) : ∃ cs, w.heap[k]? = some (.cells cs 76 (0, 0)) := by
  have e := ownB_mem hk
  rcases h.2 with ⟨rfl, _⟩ | ⟨g, cap, cur, rfl, _, hg, _⟩
  · cases e
  · simp only [Value.ownBlock, Option.some.injEq] at e
    subst e
    exact ⟨_, hg⟩
end
end Go.Proofs.YtiemingpbommeaaGreatDoor
