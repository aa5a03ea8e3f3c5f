/- CpuJumps: for every two numbers and every kind the statement answers true, and its arguments read behind the call as before; its card ties the listed variables to the program's text. No condition. -/
import Derived.Test.YtiemingpbommeaaGreatDoorGy
import Derived.Test.YtiemingpbommeaaGreatDoorCards
import Derived.Test.YtiemingpbommeaaGreatDoorTie
import Derived.SevenTiedAt
namespace Go.Proofs.YtiemingpbommeaaGreatDoor
open Go

/-- CpuJumps's card holds. -/
theorem cpuJumps_holds : Rows.CpuJumpsCardSaid :=
  Claim7.holds_tied_plain_at .later [] [.data, .widerDeep, .pinned] true Rows.cpuJumpsCard.stood.harness false
    cpuJumps.over (fun _ h => by cases h) (by kernel_rfl) (fun _ h => by cases h) cpuJumps_row_tie rfl ⟨rfl, rfl⟩ (by kernel_rfl) rfl
    (fun f fn hf hfn => by
      obtain rfl : f = 4 := Option.some.inj ((show Tryz.prog.funcNamed "turnbuckle/turnbucklelaw07.CpuJumps" = some 4 by kernel_rfl).symm.trans hf) |>.symm
      obtain rfl : fn = Tryz.f4 := (Option.some.inj (Tryz.func4.symm.trans hfn)).symm
      exact ⟨by kernel_rfl, fun j t ht => by
        rw [Tryz.params4] at ht
        have hm : t ∈ [23, 23, 3] := by simpa using Array.mem_of_getElem? ht
        have hall : ([23, 23, 3].all fun u => !Tryz.prog.wantsStandIn u) = true := by kernel_rfl
        exact (show Tryz.prog.wantsStandIn t = false by simpa using List.all_eq_true.1 hall t hm)⟩)
    (by kernel_rfl)
end Go.Proofs.YtiemingpbommeaaGreatDoor
#print axioms Go.Proofs.YtiemingpbommeaaGreatDoor.cpuJumps_holds
