/- The row of the law FnFarmRun: whatever the arguments, the law returns true and the arguments read as they did. No condition. -/
import Derived.Test.YtipkbapnhgdpeaaRows
import Derived.Test.YtipkbapnhgdpeaaLFnFarmRun
import Derived.WalkKit
import Derived.ProofKit
import Derived.OpenShut
import Derived.ShutString
import Derived.ChangeOld
import Derived.Below
import Derived.SizedLaws
namespace Go.Proofs.Ytipkbapnhgdpeaa.fnFarmRun
open Go.ChangeShapes Go.WideShapes Go.ChangeAt Go.Proofs.Ytipkbapnhgdpeaa.OFnFarmRun
open Go.ChangeMaps (open_string shut_string)
open Go.RowKit Go.Proofs.Ytipkbapnhgdpeaa.Rd
set_option linter.unusedVariables false
theorem own : ownKnob Try.prog.godebug = none := by kernel_rfl
theorem laidOut : laidOutB Try.prog = true := by kernel_rfl
set_option maxRecDepth 100000 in
theorem lifted (os : Os) (started : os.Started) (H : Type) (enc : TypeId × Value → H) :
    ReturnsInHanded {} Try.checked os 9 .any (Rows.fnFarmRunSpec.pre6 enc Try.prog Try.f9 Rows.fnFarmRunRow.domain false) (Rows.fnFarmRunSpec.post enc Try.prog Try.f9 false true false false) := by
  refine returnsInHanded_of_change_sized (C := Try.checked) own started (by kernel_rfl) Try.func9
    (ChangeSpec.witness6 (enc := enc) (C := Try.checked) false ⟨#[], #[.slice none 0 0], []⟩ 8 (by kernel_rfl) (by kernel_rfl) (by kernel_rfl) (by kernel_rfl)) ?_
  intro W base args ds gs before hval0 hW hcnd hsz0 _
  have hval : ∀ (j : Nat) t v, Try.f9.params[j]? = some t → args[j]? = some v → Value.okWide Try.prog W .any base t v := hval0
  have hW' := hW
  obtain ⟨p, q, hA0, hV, rfl, hfz, hnd⟩ := hW
  have hA : DataW.TrodAll enc Try.prog W 0 (fun _ => true) true Try.f9.params.toList args.toList ds p := hA0
  rw [Try.params9] at hA hval
  obtain ⟨v0, vs0, d0, ds0, p0, q0, hargs, rfl, rfl, h0, r0⟩ := trodAll_cons hA
  obtain ⟨rfl, rfl, rfl⟩ := trodAll_nil r0
  obtain rfl : args = #[v0] := by cases args; simp_all
  obtain ⟨rfl, rfl⟩ := trodVars_none hV
  have hlt := hW'.lt
  have t0 := h0
  obtain ⟨y0, A0, c0, rfl, l0, g0, ok0⟩ := op54.row Try.underlying54 (hval 0 54 v0 rfl rfl) h0
  clear hA0 hval0 hsz0
  refine (C.l_FnFarmRun y0 _ _ _ ok0 l0 g0).mono fun e W' ⟨he, bel⟩ => ?_
  subst he
  exact ⟨_, rfl, _, _, _, [], _, [], hW', trodAll_mk1 (shut_bool Try.underlying4 _), (trodAll_cons_mk (Below.trod laidOut (by kernel_rfl) (of_decide_eq_true (by kernel_rfl)) t0 bel (fun x hx => hlt x (by simp [hx]))) trodAll_mk0), rfl, bel.frame _, fun h => by cases h⟩
theorem over : Rows.fnFarmRunRow.holds Try.pinned (OpenSpec.ofChange Rows.fnFarmRunSpec) :=
  OpenClaim.holds_of_wide 9 Try.f9 rfl rfl rfl rfl rfl rfl rfl ⟨rfl, rfl, rfl, rfl, rfl⟩ rfl rfl rfl rfl rfl (by kernel_rfl) Try.func9 (by kernel_rfl)
    (of_decide_eq_true (by kernel_rfl)) (by unfold Func.isWrapper; first | (rw [if_pos (by decide +kernel)]; kernel_rfl) | (rw [if_neg (by decide +kernel)]; exact ⟨rfl, rfl⟩))
    (fun os started H enc _ => lifted os started H enc)
theorem proved : Rows.FnFarmRunSaid := over
end Go.Proofs.Ytipkbapnhgdpeaa.fnFarmRun
namespace Go.Proofs.Ytipkbapnhgdpeaa
/-- The row, under a short name, for the claim. -/
theorem fnFarmRun_holds : Rows.FnFarmRunSaid := fnFarmRun.proved
end Go.Proofs.Ytipkbapnhgdpeaa
