/- CpuRuns: for every program, every registers and every fuel the statement answers true, and its arguments read behind the call as before; its card ties the listed variables to the program's text. No condition. -/
import Derived.Test.YtiemingpbommeaaGreatDoorHp
import Derived.Test.YtiemingpbommeaaGreatDoorCards
import Derived.Test.YtiemingpbommeaaGreatDoorTie
import Derived.SevenTiedAt
namespace Go.Proofs.YtiemingpbommeaaGreatDoor
open Go

/-- CpuRuns's card holds. -/
theorem cpuRuns_holds : Rows.CpuRunsCardSaid :=
  Claim7.holds_tied_plain_at .later [] [.data, .widerDeep, .pinned] true Rows.cpuRunsCard.stood.harness false
    cpuRuns.over (fun _ h => by cases h) (by kernel_rfl) (fun _ h => by cases h) cpuRuns_row_tie rfl ⟨rfl, rfl⟩ (by kernel_rfl) rfl
    (fun f fn hf hfn => by
      obtain rfl : f = 6 := Option.some.inj ((show Tryz.prog.funcNamed "turnbuckle/turnbucklelaw07.CpuRuns" = some 6 by kernel_rfl).symm.trans hf) |>.symm
      obtain rfl : fn = Tryz.f6 := (Option.some.inj (Tryz.func6.symm.trans hfn)).symm
      exact ⟨by kernel_rfl, fun j t ht => by
        rw [Tryz.params6] at ht
        have hm : t ∈ [49, 50, 3] := by simpa using Array.mem_of_getElem? ht
        have hall : ([49, 50, 3].all fun u => !Tryz.prog.wantsStandIn u) = true := by kernel_rfl
        exact (show Tryz.prog.wantsStandIn t = false by simpa using List.all_eq_true.1 hall t hm)⟩)
    (by kernel_rfl)
end Go.Proofs.YtiemingpbommeaaGreatDoor
#print axioms Go.Proofs.YtiemingpbommeaaGreatDoor.cpuRuns_holds
