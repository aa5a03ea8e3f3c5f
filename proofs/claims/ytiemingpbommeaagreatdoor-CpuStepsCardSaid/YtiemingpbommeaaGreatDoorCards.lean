/-
  DERIVED. GIVEN WITH THE SEED: THE CARDS: each row of YtiemingpbommeaaGreatDoorRows.lean that lists a variable, with what it lists TIED to the program's text (the seventh form; the later family's looks); each row that meets fmt, with fmt's text TOLD by the authors' own Lean function (tested against real Go, not proved from fmt's source: count such statements apart). THE CARD IS WHAT COUNTS. Prove the row's statement (the work); the ties are given (YtiemingpbommeaaGreatDoorTie.lean); close each card by the builder's one call (the guide's Derived/Test/ToyasCard.lean, 'card_holds'). Laid BY PROGRAM, IN A SANDBOX (cutbox-door.mjs). By AI agents, Wed Nov 11 2026. No macro, syntax, notation, axiom, sorry.
-/
import Derived.Test.YtiemingpbommeaaGreatDoorRows
import GoSem.ClaimSeven
namespace Go.Proofs.YtiemingpbommeaaGreatDoor
namespace Rows

/-- THE TIED CARD OF 'turnbucklelaw07.CpuZero'. -/
def cpuZeroCard : Claim7 := { stood := { row := cpuZeroRow, standIns := [], harness := (true, "47a31f80046e3e0277634c6adbb5b3ea35149bc89545d9c211c782cbddd97ba4"), looks := false }, kinds := [], alts := [], laidByText := true, laidKinds := [.data, .widerDeep, .pinned], laidTests := true, laidLooks := .later }
def CpuZeroCardSaid : Prop := Claim7.holds Tryz.pinned (.plain (OpenSpec.ofChange cpuZeroSpec)) cpuZeroCard

/-- THE TIED CARD OF 'turnbucklelaw07.CpuJumps'. -/
def cpuJumpsCard : Claim7 := { stood := { row := cpuJumpsRow, standIns := [], harness := (true, "47a31f80046e3e0277634c6adbb5b3ea35149bc89545d9c211c782cbddd97ba4"), looks := false }, kinds := [], alts := [], laidByText := true, laidKinds := [.data, .widerDeep, .pinned], laidTests := true, laidLooks := .later }
def CpuJumpsCardSaid : Prop := Claim7.holds Tryz.pinned (.plain (OpenSpec.ofChange cpuJumpsSpec)) cpuJumpsCard

/-- THE TIED CARD OF 'turnbucklelaw07.CpuSteps'. -/
def cpuStepsCard : Claim7 := { stood := { row := cpuStepsRow, standIns := [], harness := (true, "47a31f80046e3e0277634c6adbb5b3ea35149bc89545d9c211c782cbddd97ba4"), looks := false }, kinds := [], alts := [], laidByText := true, laidKinds := [.data, .widerDeep, .pinned], laidTests := true, laidLooks := .later }
def CpuStepsCardSaid : Prop := Claim7.holds Tryz.pinned (.plain (OpenSpec.ofChange cpuStepsSpec)) cpuStepsCard

/-- THE TIED CARD OF 'turnbucklelaw07.CpuRuns'. -/
def cpuRunsCard : Claim7 := { stood := { row := cpuRunsRow, standIns := [], harness := (true, "47a31f80046e3e0277634c6adbb5b3ea35149bc89545d9c211c782cbddd97ba4"), looks := false }, kinds := [], alts := [], laidByText := true, laidKinds := [.data, .widerDeep, .pinned], laidTests := true, laidLooks := .later }
def CpuRunsCardSaid : Prop := Claim7.holds Tryz.pinned (.plain (OpenSpec.ofChange cpuRunsSpec)) cpuRunsCard

/-- THE TIED CARD OF 'turnbucklelaw07.CpuGuards'. -/
def cpuGuardsCard : Claim7 := { stood := { row := cpuGuardsRow, standIns := [], harness := (true, "47a31f80046e3e0277634c6adbb5b3ea35149bc89545d9c211c782cbddd97ba4"), looks := false }, kinds := [], alts := [], laidByText := true, laidKinds := [.data, .widerDeep, .pinned], laidTests := true, laidLooks := .later }
def CpuGuardsCardSaid : Prop := Claim7.holds Tryz.pinned (.plain (OpenSpec.ofChange cpuGuardsSpec)) cpuGuardsCard

/-- THE SECOND FORM's CARD OF 'turnbucklelaw07.CpuZero'. -/
def cpuZeroUptoCard : Claim7 := { stood := { row := cpuZeroUptoRow, standIns := [], harness := (true, "47a31f80046e3e0277634c6adbb5b3ea35149bc89545d9c211c782cbddd97ba4"), looks := false }, kinds := [], alts := [], laidByText := true, laidKinds := [.data, .widerDeep, .pinned], laidTests := true, laidLooks := .later }
def CpuZeroUptoCardSaid : Prop := Claim7.holds Tryz.pinned (.plain (OpenSpec.upto cpuZeroSpec)) cpuZeroUptoCard

/-- THE SECOND FORM's CARD OF 'turnbucklelaw07.CpuJumps'. -/
def cpuJumpsUptoCard : Claim7 := { stood := { row := cpuJumpsUptoRow, standIns := [], harness := (true, "47a31f80046e3e0277634c6adbb5b3ea35149bc89545d9c211c782cbddd97ba4"), looks := false }, kinds := [], alts := [], laidByText := true, laidKinds := [.data, .widerDeep, .pinned], laidTests := true, laidLooks := .later }
def CpuJumpsUptoCardSaid : Prop := Claim7.holds Tryz.pinned (.plain (OpenSpec.upto cpuJumpsSpec)) cpuJumpsUptoCard

/-- THE SECOND FORM's CARD OF 'turnbucklelaw07.CpuSteps'. -/
def cpuStepsUptoCard : Claim7 := { stood := { row := cpuStepsUptoRow, standIns := [], harness := (true, "47a31f80046e3e0277634c6adbb5b3ea35149bc89545d9c211c782cbddd97ba4"), looks := false }, kinds := [], alts := [], laidByText := true, laidKinds := [.data, .widerDeep, .pinned], laidTests := true, laidLooks := .later }
def CpuStepsUptoCardSaid : Prop := Claim7.holds Tryz.pinned (.plain (OpenSpec.upto cpuStepsSpec)) cpuStepsUptoCard

/-- THE SECOND FORM's CARD OF 'turnbucklelaw07.CpuRuns'. -/
def cpuRunsUptoCard : Claim7 := { stood := { row := cpuRunsUptoRow, standIns := [], harness := (true, "47a31f80046e3e0277634c6adbb5b3ea35149bc89545d9c211c782cbddd97ba4"), looks := false }, kinds := [], alts := [], laidByText := true, laidKinds := [.data, .widerDeep, .pinned], laidTests := true, laidLooks := .later }
def CpuRunsUptoCardSaid : Prop := Claim7.holds Tryz.pinned (.plain (OpenSpec.upto cpuRunsSpec)) cpuRunsUptoCard

/-- THE SECOND FORM's CARD OF 'turnbucklelaw07.CpuGuards'. -/
def cpuGuardsUptoCard : Claim7 := { stood := { row := cpuGuardsUptoRow, standIns := [], harness := (true, "47a31f80046e3e0277634c6adbb5b3ea35149bc89545d9c211c782cbddd97ba4"), looks := false }, kinds := [], alts := [], laidByText := true, laidKinds := [.data, .widerDeep, .pinned], laidTests := true, laidLooks := .later }
def CpuGuardsUptoCardSaid : Prop := Claim7.holds Tryz.pinned (.plain (OpenSpec.upto cpuGuardsSpec)) cpuGuardsUptoCard
end Rows
end Go.Proofs.YtiemingpbommeaaGreatDoor
