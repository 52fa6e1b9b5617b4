/- The row of the law FnExactWorldUsed: whatever the arguments, the law returns true and the arguments read as they did. No condition. -/
import Derived.Test.YtipkbapnhgdpeaaRows
import Derived.Test.YtipkbapnhgdpeaaLWorldUsed
import Derived.WalkKit
import Derived.ProofKit
import Derived.OpenShut
import Derived.ShutString
import Derived.ChangeOld
import Derived.Below
import Derived.SizedLaws
namespace Go.Proofs.Ytipkbapnhgdpeaa.fnExactWorldUsed
open Go.ChangeShapes Go.WideShapes Go.ChangeAt Go.Proofs.Ytipkbapnhgdpeaa.OFnExactWorldUsed
open Go.ChangeMaps (open_string shut_string)
open Go.RowKit Go.Proofs.Ytipkbapnhgdpeaa.Rd
set_option linter.unusedVariables false
theorem own : ownKnob Try.prog.godebug = none := by kernel_rfl
theorem laidOut : laidOutB Try.prog = true := by kernel_rfl
set_option maxRecDepth 100000 in
theorem lifted (os : Os) (started : os.Started) (H : Type) (enc : TypeId × Value → H) :
    ReturnsInHanded {} Try.checked os 6 .any (Rows.fnExactWorldUsedSpec.pre6 enc Try.prog Try.f6 Rows.fnExactWorldUsedRow.domain false) (Rows.fnExactWorldUsedSpec.post enc Try.prog Try.f6 false true false false) := by
  refine returnsInHanded_of_change_sized (C := Try.checked) own started (by kernel_rfl) Try.func6
    (ChangeSpec.witness6 (enc := enc) (C := Try.checked) false ⟨#[], #[.agg #[.int .i64 0, .int .i64 0, .int .i64 0, .int .i64 0, .slice none 0 0, .slice none 0 0, .slice none 0 0, .slice none 0 0]], []⟩ 8 (by kernel_rfl) (by kernel_rfl) (by kernel_rfl) (by kernel_rfl)) ?_
  intro W base args ds gs before hval0 hW hcnd hsz0 _
  have hval : ∀ (j : Nat) t v, Try.f6.params[j]? = some t → args[j]? = some v → Value.okWide Try.prog W .any base t v := hval0
  have hW' := hW
  obtain ⟨p, q, hA0, hV, rfl, hfz, hnd⟩ := hW
  have hA : DataW.TrodAll enc Try.prog W 0 (fun _ => true) true Try.f6.params.toList args.toList ds p := hA0
  rw [Try.params6] at hA hval
  obtain ⟨v0, vs0, d0, ds0, p0, q0, hargs, rfl, rfl, h0, r0⟩ := trodAll_cons hA
  obtain ⟨rfl, rfl, rfl⟩ := trodAll_nil r0
  obtain rfl : args = #[v0] := by cases args; simp_all
  obtain ⟨rfl, rfl⟩ := trodVars_none hV
  have hlt := hW'.lt
  have t0 := h0
  obtain ⟨y0, cs0, rfl, k0, ok0⟩ := op44.agg Try.underlying44 (hval 0 44 v0 rfl rfl) h0
  obtain ⟨A0_4, c0_4, A0_5, c0_5, A0_6, c0_6, A0_7, c0_7, e0, l0_4, g0_4, l0_5, g0_5, l0_6, g0_6, l0_7, g0_7⟩ := opened44 k0
  obtain rfl : cs0 = #[.int .i64 y0.1.1, .int .i64 y0.1.2.1, .int .i64 y0.1.2.2.1, .int .i64 y0.1.2.2.2.1.1, .slice A0_4 y0.1.2.2.2.1.2.1.length c0_4, .slice A0_5 y0.1.2.2.2.1.2.2.length c0_5, .slice A0_6 y0.1.2.2.2.2.length c0_6, .slice A0_7 y0.2.length c0_7] := Array.ext' e0
  clear k0
  clear hA0 hval0 hsz0
  refine (C.l_FnExactWorldUsed y0 _ _ _ _ _ _ _ _ _ ok0 l0_4 g0_4 l0_5 g0_5 l0_6 g0_6 l0_7 g0_7).mono fun e W' ⟨he, bel⟩ => ?_
  subst he
  exact ⟨_, rfl, _, _, _, [], _, [], hW', trodAll_mk1 (shut_bool Try.underlying4 _), (trodAll_cons_mk (Below.trod laidOut (by kernel_rfl) (of_decide_eq_true (by kernel_rfl)) t0 bel (fun x hx => hlt x (by simp [hx]))) trodAll_mk0), rfl, bel.frame _, fun h => by cases h⟩
theorem over : Rows.fnExactWorldUsedRow.holds Try.pinned (OpenSpec.ofChange Rows.fnExactWorldUsedSpec) :=
  OpenClaim.holds_of_wide 6 Try.f6 rfl rfl rfl rfl rfl rfl rfl ⟨rfl, rfl, rfl, rfl, rfl⟩ rfl rfl rfl rfl rfl (by kernel_rfl) Try.func6 (by kernel_rfl)
    (of_decide_eq_true (by kernel_rfl)) (by unfold Func.isWrapper; first | (rw [if_pos (by decide +kernel)]; kernel_rfl) | (rw [if_neg (by decide +kernel)]; exact ⟨rfl, rfl⟩))
    (fun os started H enc _ => lifted os started H enc)
theorem proved : Rows.FnExactWorldUsedSaid := over
end Go.Proofs.Ytipkbapnhgdpeaa.fnExactWorldUsed
namespace Go.Proofs.Ytipkbapnhgdpeaa
/-- The row, under a short name, for the claim. -/
theorem fnExactWorldUsed_holds : Rows.FnExactWorldUsedSaid := fnExactWorldUsed.proved
end Go.Proofs.Ytipkbapnhgdpeaa
