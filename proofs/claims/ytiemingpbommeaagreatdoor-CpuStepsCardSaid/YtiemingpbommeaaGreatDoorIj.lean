/- Row CpuSteps: for every program, every registers and whatever may be done with its pages, the statement answers true. No condition. -/
import Derived.Test.YtiemingpbommeaaGreatDoorIi
import Derived.Test.YtiemingpbommeaaGreatDoorHk
import Derived.Test.YtiemingpbommeaaGreatDoorGr
import Derived.ProofKit
import Derived.Lay
import Derived.LaidMore
import Derived.OpenShut
import Derived.ChangeOld
import Derived.SizedLaws
import Derived.Carry
import Derived.Stop.Joined
import Derived.WideKeyPair
namespace Go.Proofs.YtiemingpbommeaaGreatDoor.cpuSteps
open Go Go.ChangeShapes Go.WideShapes Go.ChangeAt Go.RowKit
set_option linter.unusedVariables false
theorem own : ownKnob Tryz.prog.godebug = none := by kernel_rfl
theorem laidOut : laidOutB Tryz.prog = true := by kernel_rfl
set_option maxRecDepth 100000 in
theorem lifted (os : Os) (started : os.Started) (H : Type) (enc : TypeId × Value → H) :
    ReturnsInHanded {} Tryz.checked os 5 .any (fun w args => (Rows.cpuStepsSpec.pre enc Tryz.prog Tryz.f5 Rows.cpuStepsRow.domain false w args ∧ laidMetH Tryz.prog laidL w) ∧ sizedMet enc Tryz.prog Tryz.f5 (OpenSpec.ofChange Rows.cpuStepsSpec) false w args)
      (Rows.cpuStepsSpec.post enc Tryz.prog Tryz.f5 false true false false) := by
  refine handed_shaped (C := Tryz.checked) (X := fun w _ => laidMetH Tryz.prog laidL w) (fun _ _ _ hh h => h.of_heap hh) own started (by kernel_rfl) Tryz.func5
    (ChangeSpec.witness_shaped (enc := enc) (C := Tryz.checked) (os := os) (X := fun w _ => laidMetH Tryz.prog laidL w) false (World.laidAll Tryz.prog os laidL) #[.slice none 0 0, .slice none 0 0, .agg #[.int .i64 0, .int .i64 0]] 8 (World.laidAll_os _ _ _)
      (World.shaped_of_ZipB (by kernel_rfl) (by kernel_rfl)) (by kernel_rfl) (by kernel_rfl) (by kernel_rfl)
      (by rw [MakeChecks.laidMetH_plain _ _ _ (by kernel_rfl)]; exact laidMet_laidAll _ (by kernel_rfl) (by kernel_rfl))) ?_
  intro W base args ds gs before hval0 hW _ hL hsh
  have hval : ∀ (j : Nat) t v, Tryz.f5.params[j]? = some t → args[j]? = some v → Value.okWide Tryz.prog W .any base t v := hval0
  have hW0 := hW
  have hW' := hW
  obtain ⟨p, q, hA0, hV, rfl, hfz, hnd⟩ := hW
  have hA : DataW.TrodAll enc Tryz.prog W 0 (fun _ => true) true Tryz.f5.params.toList args.toList ds p := hA0
  rw [Tryz.params5] at hA hval
  obtain ⟨v0, v1, v2, d0, d1, d2, p0, p1, p2, rfl, rfl, rfl, h0, h1, h2⟩ := trodAll_three hA
  obtain ⟨rfl, rfl⟩ := trodVars_none hV
  have hwl := hW'.lt
  obtain ⟨q1, q2, hAA, hVV, e12, _, _⟩ := hW'
  have hc := codes_of (hval 0 49 v0 rfl rfl) h0
  have hu := u64s_of (hval 1 50 v1 rfl rfl) h1
  have hA2 : WideMaps.ArrKey Tryz.prog 51 3 2 := ⟨Tryz.underlying51, by kernel_rfl, by kernel_rfl, by kernel_rfl⟩
  obtain ⟨n2, n3, rfl, e2, q2', hwf2, hwf3⟩ := WideMaps.open_pair hA2 Tryz.underlying3 (hval 2 51 v2 rfl rfl) h2
  subst e2; subst q2'
  have l0 : ∀ x ∈ p0, x.block < W.heap.size := fun x hx => by obtain ⟨n, hn⟩ := h0; exact DataW.trod_lt n _ _ _ hn x hx
  have l1 : ∀ x ∈ p1, x.block < W.heap.size := fun x hx => by obtain ⟨n, hn⟩ := h1; exact DataW.trod_lt n _ _ _ hn x hx
  clear hA0 hval0
  refine (cpuSteps_any v0 v1 n2 n3 W hc hu (low_of hL hsh)).mono fun e W' ⟨he, bel⟩ => ?_
  subst he
  exact ⟨_, rfl, _, _, _, [], _, [], hW0, trodAll_mk1 (shut_bool Tryz.underlying4 _),
    trodAll_mk3 (Below.trod laidOut (by kernel_rfl) (of_decide_eq_true (by kernel_rfl)) h0 bel l0) (Below.trod laidOut (by kernel_rfl) (of_decide_eq_true (by kernel_rfl)) h1 bel l1) (WideMaps.shut_pair hA2 Tryz.underlying3 hwf2 hwf3), rfl, bel.frame _, fun h => by cases h⟩
theorem over : Rows.cpuStepsRow.holds Tryz.pinned (OpenSpec.ofChange Rows.cpuStepsSpec) :=
  OpenClaim.holds_of_wide 5 Tryz.f5 rfl rfl rfl rfl rfl rfl rfl ⟨rfl, rfl, rfl, rfl, rfl⟩ rfl rfl rfl rfl rfl (by kernel_rfl) Tryz.func5 (by kernel_rfl)
    (of_decide_eq_true (by kernel_rfl)) (by unfold Func.isWrapper; first | (rw [if_pos (by decide +kernel)]; kernel_rfl) | (rw [if_neg (by decide +kernel)]; exact ⟨rfl, rfl⟩))
    (fun os started H enc _ => lifted os started H enc)
end Go.Proofs.YtiemingpbommeaaGreatDoor.cpuSteps
