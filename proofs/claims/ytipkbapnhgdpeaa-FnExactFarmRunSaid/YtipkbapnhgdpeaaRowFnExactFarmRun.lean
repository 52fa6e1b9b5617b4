/- The row of the law FnExactFarmRun: whatever the arguments, the law returns true and the arguments read as they did. No condition. -/
import Derived.Test.YtipkbapnhgdpeaaRows
import Derived.Test.YtipkbapnhgdpeaaLFarmRun
import Derived.WalkKit
import Derived.ProofKit
import Derived.OpenShut
import Derived.ShutString
import Derived.ChangeOld
import Derived.Below
import Derived.SizedLaws
namespace Go.Proofs.Ytipkbapnhgdpeaa.fnExactFarmRun
open Go.ChangeShapes Go.WideShapes Go.ChangeAt Go.Proofs.Ytipkbapnhgdpeaa.OFnExactFarmRun
open Go.ChangeMaps (open_string shut_string)
open Go.RowKit Go.Proofs.Ytipkbapnhgdpeaa.Rd
set_option linter.unusedVariables false
theorem own : ownKnob Try.prog.godebug = none := by kernel_rfl
theorem laidOut : laidOutB Try.prog = true := by kernel_rfl
set_option maxRecDepth 100000 in
theorem lifted (os : Os) (started : os.Started) (H : Type) (enc : TypeId × Value → H) :
    ReturnsInHanded {} Try.checked os 11 .any (Rows.fnExactFarmRunSpec.pre6 enc Try.prog Try.f11 Rows.fnExactFarmRunRow.domain false) (Rows.fnExactFarmRunSpec.post enc Try.prog Try.f11 false true false false) := by
  refine returnsInHanded_of_change_sized (C := Try.checked) own started (by kernel_rfl) Try.func11
    (ChangeSpec.witness6 (enc := enc) (C := Try.checked) false ⟨#[], #[.agg #[.int .i64 0, .slice none 0 0, .slice none 0 0], .slice none 0 0], []⟩ 8 (by kernel_rfl) (by kernel_rfl) (by kernel_rfl) (by kernel_rfl)) ?_
  intro W base args ds gs before hval0 hW hcnd hsz0 _
  have hval : ∀ (j : Nat) t v, Try.f11.params[j]? = some t → args[j]? = some v → Value.okWide Try.prog W .any base t v := hval0
  have hW' := hW
  obtain ⟨p, q, hA0, hV, rfl, hfz, hnd⟩ := hW
  have hA : DataW.TrodAll enc Try.prog W 0 (fun _ => true) true Try.f11.params.toList args.toList ds p := hA0
  rw [Try.params11] at hA hval
  obtain ⟨v0, vs0, d0, ds0, p0, q0, hargs, rfl, rfl, h0, r0⟩ := trodAll_cons hA
  obtain ⟨v1, vs1, d1, ds1, p1, q1, rfl, rfl, rfl, h1, r1⟩ := trodAll_cons r0
  obtain ⟨rfl, rfl, rfl⟩ := trodAll_nil r1
  obtain rfl : args = #[v0, v1] := by cases args; simp_all
  obtain ⟨rfl, rfl⟩ := trodVars_none hV
  have hlt := hW'.lt
  have t0 := h0
  obtain ⟨y0, cs0, rfl, k0, ok0⟩ := op25.agg Try.underlying25 (hval 0 25 v0 rfl rfl) h0
  obtain ⟨A0_1, c0_1, A0_2, c0_2, e0, l0_1, g0_1, l0_2, g0_2⟩ := opened25 k0
  obtain rfl : cs0 = #[.int .i64 y0.1, .slice A0_1 y0.2.1.length c0_1, .slice A0_2 y0.2.2.length c0_2] := Array.ext' e0
  clear k0
  have t1 := h1
  obtain ⟨y1, A1, c1, rfl, l1, g1, ok1⟩ := op79.row Try.underlying79 (hval 1 79 v1 rfl rfl) h1
  clear hA0 hval0 hsz0
  refine (C.l_FnExactFarmRun y0 y1 _ _ _ _ _ _ _ ok0 ok1 l0_1 g0_1 l0_2 g0_2 l1 g1).mono fun e W' ⟨he, bel⟩ => ?_
  subst he
  exact ⟨_, rfl, _, _, _, [], _, [], hW', trodAll_mk1 (shut_bool Try.underlying4 _), (trodAll_cons_mk (Below.trod laidOut (by kernel_rfl) (of_decide_eq_true (by kernel_rfl)) t0 bel (fun x hx => hlt x (by simp [hx]))) (trodAll_cons_mk (Below.trod laidOut (by kernel_rfl) (of_decide_eq_true (by kernel_rfl)) t1 bel (fun x hx => hlt x (by simp [hx]))) trodAll_mk0)), rfl, bel.frame _, fun h => by cases h⟩
theorem over : Rows.fnExactFarmRunRow.holds Try.pinned (OpenSpec.ofChange Rows.fnExactFarmRunSpec) :=
  OpenClaim.holds_of_wide 11 Try.f11 rfl rfl rfl rfl rfl rfl rfl ⟨rfl, rfl, rfl, rfl, rfl⟩ rfl rfl rfl rfl rfl (by kernel_rfl) Try.func11 (by kernel_rfl)
    (of_decide_eq_true (by kernel_rfl)) (by unfold Func.isWrapper; first | (rw [if_pos (by decide +kernel)]; kernel_rfl) | (rw [if_neg (by decide +kernel)]; exact ⟨rfl, rfl⟩))
    (fun os started H enc _ => lifted os started H enc)
theorem proved : Rows.FnExactFarmRunSaid := over
end Go.Proofs.Ytipkbapnhgdpeaa.fnExactFarmRun
namespace Go.Proofs.Ytipkbapnhgdpeaa
/-- The row, under a short name, for the claim. -/
theorem fnExactFarmRun_holds : Rows.FnExactFarmRunSaid := fnExactFarmRun.proved
end Go.Proofs.Ytipkbapnhgdpeaa
