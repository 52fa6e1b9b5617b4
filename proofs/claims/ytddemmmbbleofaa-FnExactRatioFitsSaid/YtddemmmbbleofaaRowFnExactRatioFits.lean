/- The row of the law FnExactRatioFits: whatever the arguments, the law returns true and the arguments read as they did. No condition. -/
import Derived.Test.YtddemmmbbleofaaRows
import Derived.Test.YtddemmmbbleofaaLRatioFits
import Derived.WalkKit
import Derived.ProofKit
import Derived.OpenShut
import Derived.ShutString
import Derived.ChangeOld
import Derived.Below
import Derived.SizedLaws
namespace Go.Proofs.Ytddemmmbbleofaa.fnExactRatioFits
open Go.ChangeShapes Go.WideShapes Go.ChangeAt Go.Proofs.Ytddemmmbbleofaa.OFnExactRatioFits
open Go.ChangeMaps (open_string shut_string)
open Go.RowKit Go.Proofs.Ytddemmmbbleofaa.Rd
set_option linter.unusedVariables false
theorem own : ownKnob Try.prog.godebug = none := by kernel_rfl
theorem laidOut : laidOutB Try.prog = true := by kernel_rfl
set_option maxRecDepth 100000 in
theorem lifted (os : Os) (started : os.Started) (H : Type) (enc : TypeId × Value → H) :
    ReturnsInHanded {} Try.checked os 9 .any (Rows.fnExactRatioFitsSpec.pre6 enc Try.prog Try.f9 Rows.fnExactRatioFitsRow.domain false) (Rows.fnExactRatioFitsSpec.post enc Try.prog Try.f9 false true false false) := by
  refine returnsInHanded_of_change_sized (C := Try.checked) own started (by kernel_rfl) Try.func9
    (ChangeSpec.witness6 (enc := enc) (C := Try.checked) false ⟨#[], #[.agg #[.int .i64 0, .int .i64 0, .int .i64 0], .int .i64 0, .int .i64 0], []⟩ 8 (by kernel_rfl) (by kernel_rfl) (by kernel_rfl) (by kernel_rfl)) ?_
  intro W base args ds gs before hval0 hW hcnd hsz0 _
  have hval : ∀ (j : Nat) t v, Try.f9.params[j]? = some t → args[j]? = some v → Value.okWide Try.prog W .any base t v := hval0
  have hW' := hW
  obtain ⟨p, q, hA0, hV, rfl, hfz, hnd⟩ := hW
  have hA : DataW.TrodAll enc Try.prog W 0 (fun _ => true) true Try.f9.params.toList args.toList ds p := hA0
  rw [Try.params9] at hA hval
  obtain ⟨v0, vs0, d0, ds0, p0, q0, hargs, rfl, rfl, h0, r0⟩ := trodAll_cons hA
  obtain ⟨v1, vs1, d1, ds1, p1, q1, rfl, rfl, rfl, h1, r1⟩ := trodAll_cons r0
  obtain ⟨v2, vs2, d2, ds2, p2, q2, rfl, rfl, rfl, h2, r2⟩ := trodAll_cons r1
  obtain ⟨rfl, rfl, rfl⟩ := trodAll_nil r2
  obtain rfl : args = #[v0, v1, v2] := by cases args; simp_all
  obtain ⟨rfl, rfl⟩ := trodVars_none hV
  have hlt := hW'.lt
  have t0 := h0
  obtain ⟨y0, cs0, rfl, k0, ok0⟩ := op64.agg Try.underlying64 (hval 0 64 v0 rfl rfl) h0
  obtain rfl : cs0 = #[.int .i64 y0.1, .int .i64 y0.2.1, .int .i64 y0.2.2] := Array.ext' (opened64 k0)
  clear k0
  have t1 := h1
  obtain ⟨y1, rfl, rfl, rfl, ok1⟩ := open_int Try.underlying2 (hval 1 2 v1 rfl rfl) h1
  have t2 := h2
  obtain ⟨y2, rfl, rfl, rfl, ok2⟩ := open_int Try.underlying2 (hval 2 2 v2 rfl rfl) h2
  clear hA0 hval0 hsz0
  refine (C.l_FnExactRatioFits y0 y1 y2 _ ok0 ok1 ok2).mono fun e W' ⟨he, bel⟩ => ?_
  subst he
  exact ⟨_, rfl, _, _, _, [], _, [], hW', trodAll_mk1 (shut_bool Try.underlying4 _), (trodAll_cons_mk (Below.trod laidOut (by kernel_rfl) (of_decide_eq_true (by kernel_rfl)) t0 bel (fun x hx => hlt x (by simp [hx]))) (trodAll_cons_mk (shut_int Try.underlying2 ok1) (trodAll_cons_mk (shut_int Try.underlying2 ok2) trodAll_mk0))), rfl, bel.frame _, fun h => by cases h⟩
theorem over : Rows.fnExactRatioFitsRow.holds Try.pinned (OpenSpec.ofChange Rows.fnExactRatioFitsSpec) :=
  OpenClaim.holds_of_wide 9 Try.f9 rfl rfl rfl rfl rfl rfl rfl ⟨rfl, rfl, rfl, rfl, rfl⟩ rfl rfl rfl rfl rfl (by kernel_rfl) Try.func9 (by kernel_rfl)
    (of_decide_eq_true (by kernel_rfl)) (by unfold Func.isWrapper; first | (rw [if_pos (by decide +kernel)]; kernel_rfl) | (rw [if_neg (by decide +kernel)]; exact ⟨rfl, rfl⟩))
    (fun os started H enc _ => lifted os started H enc)
theorem proved : Rows.FnExactRatioFitsSaid := over
end Go.Proofs.Ytddemmmbbleofaa.fnExactRatioFits
namespace Go.Proofs.Ytddemmmbbleofaa
/-- The row, under a short name, for the claim. -/
theorem fnExactRatioFits_holds : Rows.FnExactRatioFitsSaid := fnExactRatioFits.proved
end Go.Proofs.Ytddemmmbbleofaa
