/- CpuSteps: for every program, every registers and whatever may be done with its pages the statement answers true, and its arguments read behind the call as before; its card ties the listed variables to the program's text. No condition. -/
import Derived.Test.YtiemingpbommeaaGreatDoorIj
import Derived.Test.YtiemingpbommeaaGreatDoorCards
import Derived.Test.YtiemingpbommeaaGreatDoorTie
import Derived.SevenTiedAt
namespace Go.Proofs.YtiemingpbommeaaGreatDoor
open Go
/-- CpuSteps's card holds. -/
theorem cpuSteps_holds : Rows.CpuStepsCardSaid :=
  Claim7.holds_tied_plain_at .later [] [.data, .widerDeep, .pinned] true Rows.cpuStepsCard.stood.harness false
    cpuSteps.over (fun _ h => by cases h) (by kernel_rfl) (fun _ h => by cases h) cpuSteps_row_tie rfl ⟨rfl, rfl⟩ (by kernel_rfl) rfl
    (fun f fn hf hfn => by
      obtain rfl : f = 5 := Option.some.inj ((show Tryz.prog.funcNamed "turnbuckle/turnbucklelaw07.CpuSteps" = some 5 by kernel_rfl).symm.trans hf) |>.symm
      obtain rfl : fn = Tryz.f5 := (Option.some.inj (Tryz.func5.symm.trans hfn)).symm
      exact ⟨by kernel_rfl, fun j t ht => by
        rw [Tryz.params5] at ht
        have hm : t ∈ [49, 50, 51] := by simpa using Array.mem_of_getElem? ht
        have hall : ([49, 50, 51].all fun u => !Tryz.prog.wantsStandIn u) = true := by kernel_rfl
        exact (show Tryz.prog.wantsStandIn t = false by simpa using List.all_eq_true.1 hall t hm)⟩)
    (by kernel_rfl)
end Go.Proofs.YtiemingpbommeaaGreatDoor
#print axioms Go.Proofs.YtiemingpbommeaaGreatDoor.cpuSteps_holds
