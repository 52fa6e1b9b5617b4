/- The program's ClientWant answers what the reference's answers, for every client and want. No condition. -/
import Derived.Test.YtlnmpaigojmahaaOFnExactClientWant
namespace Go.Proofs.Ytlnmpaigojmahaa.Pure
open Go.Proofs.Ytlnmpaigojmahaa.OFnExactClientWant
open Go.RowKit Go.Proofs.YtlnmpaigojmahaaW.PrintWords Go.Proofs.Ytlnmpaigojmahaa.Opn Go.Proofs.Ytlnmpaigojmahaa.PFnExactClientWant
set_option linter.unusedVariables false
set_option linter.unusedSimpArgs false
namespace BFnExactClientWant
theorem e_in (a b c : Int) : impl_in.f a b c = some (decide (b ≤ a ∧ a ≤ c)) := by
  unfold impl_in.f; by_cases h : b ≤ a <;> simp [h]
theorem e_id (a : Int) : impl_isId.f a = some (decide (1 ≤ a ∧ a ≤ 1000000)) := by rw [impl_isId.f, e_in]; rfl
theorem e_want (a : Int) : impl_isWant.f a = some (decide (0 ≤ a ∧ a ≤ 1125899906842624)) := by rw [impl_isWant.f, e_in]; rfl
theorem e_weight (a : Int) : impl_isWeight.f a = some (decide (1 ≤ a ∧ a ≤ 1073741824)) := by rw [impl_isWeight.f, e_in]; rfl
theorem e_time (a : Int) : impl_isTime.f a = some (decide (0 ≤ a ∧ a ≤ 1000000)) := by rw [impl_isTime.f, e_in]; rfl
theorem s_id (a : Int) : spec_l02Id.f a = some (decide (1 ≤ a ∧ a ≤ 1000000)) := by
  unfold spec_l02Id.f; by_cases h : a ≥ 1 <;> simp [h]
theorem s_want (a : Int) : spec_l02Want.f a = some (decide (0 ≤ a ∧ a ≤ 1125899906842624)) := by
  unfold spec_l02Want.f; by_cases h : a ≥ 0 <;> simp [h]
theorem s_weight (a : Int) : spec_l02Weight.f a = some (decide (1 ≤ a ∧ a ≤ 1073741824)) := by
  unfold spec_l02Weight.f; by_cases h : a ≥ 1 <;> simp [h]
theorem s_time (a : Int) : spec_l07Time.f a = some (decide (0 ≤ a ∧ a ≤ 1000000)) := by
  unfold spec_l07Time.f; by_cases h : a ≥ 0 <;> simp [h]
def CR (a0 a1 a2 a3 a4 a5 a6 a7 a8 a9 : Int) : Prop :=
  (1 ≤ a0 ∧ a0 ≤ 1000000) ∧ (a1 = 0 ∨ (1 ≤ a1 ∧ a1 ≤ 1000000)) ∧ (0 ≤ a2 ∧ a2 ≤ 1125899906842624) ∧ (1 ≤ a3 ∧ a3 ≤ 1073741824) ∧ (0 ≤ a4 ∧ a4 ≤ 1125899906842624) ∧
    (0 ≤ a5 ∧ a5 ≤ 1000000) ∧ (0 ≤ a6 ∧ a6 ≤ 1000000) ∧ (0 ≤ a7 ∧ a7 ≤ 1000000) ∧ (1 ≤ a8 ∧ a8 ≤ 64) ∧ (0 ≤ a9 ∧ a9 ≤ 1000000)
instance (a0 a1 a2 a3 a4 a5 a6 a7 a8 a9 : Int) : Decidable (CR a0 a1 a2 a3 a4 a5 a6 a7 a8 a9) := by unfold CR; infer_instance
theorem s_cr (a0 a1 a2 a3 a4 a5 a6 a7 a8 a9 : Int) : spec_ClientRight.f a0 a1 a2 a3 a4 a5 a6 a7 a8 a9 = some (decide (CR a0 a1 a2 a3 a4 a5 a6 a7 a8 a9)) := by
  unfold spec_ClientRight.f
  simp only [s_id, s_want, s_weight, s_time, Option.bind_some, decide_eq_true_eq]
  repeat' split
  all_goals first
    | exact congrArg some (decide_eq_false (by unfold CR; omega)).symm
    | exact congrArg some (decide_eq_decide.mpr (by unfold CR; omega))
theorem e_cr (a0 a1 a2 a3 a4 a5 a6 a7 a8 a9 : Int) : impl_ClientRight.f a0 a1 a2 a3 a4 a5 a6 a7 a8 a9 = some (decide (CR a0 a1 a2 a3 a4 a5 a6 a7 a8 a9)) := by
  unfold impl_ClientRight.f
  simp only [e_in, e_id, e_want, e_weight, e_time, Option.bind_some, decide_eq_true_eq]
  repeat' split
  all_goals first
    | exact congrArg some (decide_eq_false (by unfold CR; omega)).symm
    | exact congrArg some (decide_eq_decide.mpr (by unfold CR; omega))
theorem q_client (a0 a1 a2 a3 a4 a5 a6 a7 a8 a9 : Int) : laws_eqClient.f a0 a1 a2 a3 a4 a5 a6 a7 a8 a9 a0 a1 a2 a3 a4 a5 a6 a7 a8 a9 = some true := by simp [laws_eqClient.f]
end BFnExactClientWant
open BFnExactClientWant
theorem FnExactClientWant : OFnExactClientWant.Pure := by
  rintro ⟨a0, a1, a2, a3, a4, a5, a6, a7, a8, a9⟩ a _ _
  refine ⟨9, ?_⟩
  simp only [laws_FnExactClientWant.f, laws_toClient.f, spec_ClientWant.f, spec_ClientWant.j0, impl_ClientWant.f, impl_Client_wanting.f, Option.bind_some, s_cr, e_cr, s_want, e_want]
  by_cases h : CR a0 a1 a2 a3 a4 a5 a6 a7 a8 a9 <;> by_cases h2 : 0 ≤ a ∧ a ≤ 1125899906842624 <;> by_cases h3 : a = a2 <;> simp [h, h2, h3, q_client]
end Go.Proofs.Ytlnmpaigojmahaa.Pure
