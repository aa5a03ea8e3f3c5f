/- CpuGuards: for every program and every registers the statement answers true, and its arguments read behind the call as before; its card ties the listed variables to the program's text. No condition. -/
import Derived.Test.YtiemingpbommeaaGreatDoorHl
import Derived.Test.YtiemingpbommeaaGreatDoorCards
import Derived.Test.YtiemingpbommeaaGreatDoorTie
import Derived.SevenTiedAt
namespace Go.Proofs.YtiemingpbommeaaGreatDoor
open Go

/-- CpuGuards's card holds. -/
theorem cpuGuards_holds : Rows.CpuGuardsCardSaid :=
  Claim7.holds_tied_plain_at .later [] [.data, .widerDeep, .pinned] true Rows.cpuGuardsCard.stood.harness false
    cpuGuards.over (fun _ h => by cases h) (by kernel_rfl) (fun _ h => by cases h) cpuGuards_row_tie rfl ⟨rfl, rfl⟩ (by kernel_rfl) rfl
    (fun f fn hf hfn => by
      obtain rfl : f = 7 := Option.some.inj ((show Tryz.prog.funcNamed "turnbuckle/turnbucklelaw07.CpuGuards" = some 7 by kernel_rfl).symm.trans hf) |>.symm
      obtain rfl : fn = Tryz.f7 := (Option.some.inj (Tryz.func7.symm.trans hfn)).symm
      exact ⟨by kernel_rfl, fun j t ht => by
        rw [Tryz.params7] at ht
        have hm : t ∈ [49, 50] := by simpa using Array.mem_of_getElem? ht
        have hall : ([49, 50].all fun u => !Tryz.prog.wantsStandIn u) = true := by kernel_rfl
        exact (show Tryz.prog.wantsStandIn t = false by simpa using List.all_eq_true.1 hall t hm)⟩)
    (by kernel_rfl)
end Go.Proofs.YtiemingpbommeaaGreatDoor
#print axioms Go.Proofs.YtiemingpbommeaaGreatDoor.cpuGuards_holds
