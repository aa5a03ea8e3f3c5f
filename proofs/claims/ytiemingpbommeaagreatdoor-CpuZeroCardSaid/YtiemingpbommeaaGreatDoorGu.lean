/- CpuZero: for every word and every number the statement answers true, and its arguments read behind the call as before; its card ties the listed variables to the program's text. No condition. -/
import Derived.Test.YtiemingpbommeaaGreatDoorGt
import Derived.Test.YtiemingpbommeaaGreatDoorCards
import Derived.Test.YtiemingpbommeaaGreatDoorTie
import Derived.SevenTiedAt
namespace Go.Proofs.YtiemingpbommeaaGreatDoor
open Go

/-- CpuZero's card holds. -/
theorem cpuZero_holds : Rows.CpuZeroCardSaid :=
  Claim7.holds_tied_plain_at .later [] [.data, .widerDeep, .pinned] true Rows.cpuZeroCard.stood.harness false
    cpuZero.over (fun _ h => by cases h) (by kernel_rfl) (fun _ h => by cases h) cpuZero_row_tie rfl ⟨rfl, rfl⟩ (by kernel_rfl) rfl
    (fun f fn hf hfn => by
      obtain rfl : f = 3 := Option.some.inj ((show Tryz.prog.funcNamed "turnbuckle/turnbucklelaw07.CpuZero" = some 3 by kernel_rfl).symm.trans hf) |>.symm
      obtain rfl : fn = Tryz.f3 := (Option.some.inj (Tryz.func3.symm.trans hfn)).symm
      exact ⟨by kernel_rfl, fun j t ht => by
        rw [Tryz.params3] at ht
        have hm : t ∈ [22, 23] := by simpa using Array.mem_of_getElem? ht
        have hall : ([22, 23].all fun u => !Tryz.prog.wantsStandIn u) = true := by kernel_rfl
        exact (show Tryz.prog.wantsStandIn t = false by simpa using List.all_eq_true.1 hall t hm)⟩)
    (by kernel_rfl)
end Go.Proofs.YtiemingpbommeaaGreatDoor
#print axioms Go.Proofs.YtiemingpbommeaaGreatDoor.cpuZero_holds
