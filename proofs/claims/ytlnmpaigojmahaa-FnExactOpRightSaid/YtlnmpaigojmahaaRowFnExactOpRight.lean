/- The row of the law FnExactOpRight: whatever the arguments, the law returns true and the arguments read as they did. No condition. -/
import Derived.Test.YtlnmpaigojmahaaRows
import Derived.Test.YtlnmpaigojmahaaLOpRight
import Derived.WalkKit
import Derived.ProofKit
import Derived.OpenShut
import Derived.ShutString
import Derived.ChangeOld
import Derived.Below
import Derived.SizedLaws
namespace Go.Proofs.Ytlnmpaigojmahaa.fnExactOpRight
open Go.ChangeShapes Go.WideShapes Go.ChangeAt Go.Proofs.Ytlnmpaigojmahaa.OFnExactOpRight
open Go.ChangeMaps (open_string shut_string)
open Go.RowKit Go.Proofs.Ytlnmpaigojmahaa.Rd
set_option linter.unusedVariables false
theorem own : ownKnob Try.prog.godebug = none := by kernel_rfl
theorem laidOut : laidOutB Try.prog = true := by kernel_rfl
set_option maxRecDepth 100000 in
theorem lifted (os : Os) (started : os.Started) (H : Type) (enc : TypeId × Value → H) :
    ReturnsInHanded {} Try.checked os 10 .any (Rows.fnExactOpRightSpec.pre6 enc Try.prog Try.f10 Rows.fnExactOpRightRow.domain false) (Rows.fnExactOpRightSpec.post enc Try.prog Try.f10 false true false false) := by
  refine returnsInHanded_of_change_sized (C := Try.checked) own started (by kernel_rfl) Try.func10
    (ChangeSpec.witness6 (enc := enc) (C := Try.checked) false ⟨#[], #[.agg #[.int .i64 0, .int .i64 0, .int .i64 0, .int .i64 0, .int .i64 0]], []⟩ 8 (by kernel_rfl) (by kernel_rfl) (by kernel_rfl) (by kernel_rfl)) ?_
  intro W base args ds gs before hval0 hW hcnd hsz0 _
  have hval : ∀ (j : Nat) t v, Try.f10.params[j]? = some t → args[j]? = some v → Value.okWide Try.prog W .any base t v := hval0
  have hW' := hW
  obtain ⟨p, q, hA0, hV, rfl, hfz, hnd⟩ := hW
  have hA : DataW.TrodAll enc Try.prog W 0 (fun _ => true) true Try.f10.params.toList args.toList ds p := hA0
  rw [Try.params10] at hA hval
  obtain ⟨v0, vs0, d0, ds0, p0, q0, hargs, rfl, rfl, h0, r0⟩ := trodAll_cons hA
  obtain ⟨rfl, rfl, rfl⟩ := trodAll_nil r0
  obtain rfl : args = #[v0] := by cases args; simp_all
  obtain ⟨rfl, rfl⟩ := trodVars_none hV
  have hlt := hW'.lt
  have t0 := h0
  obtain ⟨y0, cs0, rfl, k0, ok0⟩ := op46.agg Try.underlying46 (hval 0 46 v0 rfl rfl) h0
  obtain rfl : cs0 = #[.int .i64 y0.1, .int .i64 y0.2.1, .int .i64 y0.2.2.1, .int .i64 y0.2.2.2.1, .int .i64 y0.2.2.2.2] := Array.ext' (opened46 k0)
  clear k0
  clear hA0 hval0 hsz0
  refine (C.l_FnExactOpRight y0 _ ok0).mono fun e W' ⟨he, bel⟩ => ?_
  subst he
  exact ⟨_, rfl, _, _, _, [], _, [], hW', trodAll_mk1 (shut_bool Try.underlying4 _), (trodAll_cons_mk (Below.trod laidOut (by kernel_rfl) (of_decide_eq_true (by kernel_rfl)) t0 bel (fun x hx => hlt x (by simp [hx]))) trodAll_mk0), rfl, bel.frame _, fun h => by cases h⟩
theorem over : Rows.fnExactOpRightRow.holds Try.pinned (OpenSpec.ofChange Rows.fnExactOpRightSpec) :=
  OpenClaim.holds_of_wide 10 Try.f10 rfl rfl rfl rfl rfl rfl rfl ⟨rfl, rfl, rfl, rfl, rfl⟩ rfl rfl rfl rfl rfl (by kernel_rfl) Try.func10 (by kernel_rfl)
    (of_decide_eq_true (by kernel_rfl)) (by unfold Func.isWrapper; first | (rw [if_pos (by decide +kernel)]; kernel_rfl) | (rw [if_neg (by decide +kernel)]; exact ⟨rfl, rfl⟩))
    (fun os started H enc _ => lifted os started H enc)
theorem proved : Rows.FnExactOpRightSaid := over
end Go.Proofs.Ytlnmpaigojmahaa.fnExactOpRight
namespace Go.Proofs.Ytlnmpaigojmahaa
/-- The row, under a short name, for the claim. -/
theorem fnExactOpRight_holds : Rows.FnExactOpRightSaid := fnExactOpRight.proved
end Go.Proofs.Ytlnmpaigojmahaa
