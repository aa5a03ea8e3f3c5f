/- InstEncodes: for every instruction as plain data, the statement answers true, and the arguments read afterwards as they read before. No condition. -/
import Derived.Test.YtoljkjnehcbbaaaEncodesWalk
import Derived.Test.YtoljkjnehcbbaaaAgg5
import Derived.OpenShut
import Derived.ChangeOld
import Derived.SizedLaws
import Derived.Carry
namespace Go.Proofs.Ytoljkjnehcbbaaa.instEncodes
open Go.ChangeShapes Go.WideShapes Go.ChangeAt Go.RowKit
set_option linter.unusedVariables false

theorem own : ownKnob Try.prog.godebug = none := by kernel_rfl
theorem laidOut : laidOutB Try.prog = true := by kernel_rfl

set_option maxRecDepth 100000 in
theorem lifted (os : Os) (started : os.Started) (H : Type) (enc : TypeId × Value → H) :
    ReturnsInHanded {} Try.checked os 4 .any (Rows.instEncodesSpec.pre6 enc Try.prog Try.f4 Rows.instEncodesRow.domain false) (Rows.instEncodesSpec.post enc Try.prog Try.f4 false true false false) := by
  refine returnsInHanded_of_change (C := Try.checked) own started (by kernel_rfl) Try.func4
    (ChangeSpec.witness6 (enc := enc) (C := Try.checked) false ⟨#[], #[.agg #[.int .i64 0, .int .i64 0, .int .i64 0, .int .i64 0, .int .i64 0]], []⟩ 8 (by kernel_rfl) (by kernel_rfl) (by kernel_rfl) (by kernel_rfl)) ?_
  intro W base args ds gs before hval0 hW hcnd _
  have hval : ∀ (j : Nat) t v, Try.f4.params[j]? = some t → args[j]? = some v → Value.okWide Try.prog W .any base t v := hval0
  have hW' := hW
  obtain ⟨p, q, hA0, hV, rfl, hfz, hnd⟩ := hW
  have hA : DataW.TrodAll enc Try.prog W 0 (fun _ => true) true Try.f4.params.toList args.toList ds p := hA0
  rw [Try.params4] at hA hval
  obtain ⟨v0, d0, rfl, rfl, h0⟩ := trodAll_one hA
  obtain ⟨rfl, rfl⟩ := trodVars_none hV
  have k0 := h0
  have lt0 : ∀ x ∈ p, x.block < W.heap.size := by obtain ⟨m, hm⟩ := k0; exact DataW.trod_lt m _ _ _ hm
  obtain ⟨c0, c1, c2, c3, c4, y0, y1, y2, y3, y4, m, rfl, _, _, t0, t1, t2, t3, t4⟩ := open_agg5 Try.underlying37 (by kernel_rfl) (by kernel_rfl) (hval 0 37 v0 rfl rfl) h0
  obtain ⟨o, e, _, _⟩ := DataW.trod_int Try.underlying3 t0; obtain rfl := (List.cons.inj e).1
  obtain ⟨d, e, _, _⟩ := DataW.trod_int Try.underlying3 t1; obtain rfl := (List.cons.inj e).1
  obtain ⟨a, e, _, _⟩ := DataW.trod_int Try.underlying3 t2; obtain rfl := (List.cons.inj e).1
  obtain ⟨b, e, _, _⟩ := DataW.trod_int Try.underlying3 t3; obtain rfl := (List.cons.inj e).1
  obtain ⟨n, e, _, _⟩ := DataW.trod_int Try.underlying2 t4; obtain rfl := (List.cons.inj e).1
  clear hA0 hval0
  refine (encodes_any o d a b n W).mono fun e W' ⟨he, bel⟩ => ?_
  subst he
  exact ⟨_, rfl, _, _, _, [], _, [], hW', trodAll_mk1 (shut_bool Try.underlying4 _),
    trodAll_mk1 (Below.trod laidOut (by kernel_rfl) (of_decide_eq_true (by kernel_rfl)) k0 bel lt0), rfl, bel.frame _, fun h => by cases h⟩

theorem over : Rows.instEncodesRow.holds Try.pinned (OpenSpec.ofChange Rows.instEncodesSpec) :=
  OpenClaim.holds_of_wide 4 Try.f4 rfl rfl rfl rfl rfl rfl rfl ⟨rfl, rfl, rfl, rfl, rfl⟩ rfl rfl rfl rfl rfl (by kernel_rfl) Try.func4 (by kernel_rfl)
    (of_decide_eq_true (by kernel_rfl)) (by unfold Func.isWrapper; first | (rw [if_pos (by decide +kernel)]; kernel_rfl) | (rw [if_neg (by decide +kernel)]; exact ⟨rfl, rfl⟩))
    (fun os started H enc _ => lifted os started H enc)
end Go.Proofs.Ytoljkjnehcbbaaa.instEncodes
namespace Go.Proofs.Ytoljkjnehcbbaaa
/-- InstEncodes holds. -/
theorem instEncodes_holds : Rows.InstEncodesSaid := instEncodes.over
end Go.Proofs.Ytoljkjnehcbbaaa
#print axioms Go.Proofs.Ytoljkjnehcbbaaa.instEncodes_holds
