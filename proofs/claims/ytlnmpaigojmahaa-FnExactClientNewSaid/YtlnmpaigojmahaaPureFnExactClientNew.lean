/- The program's ClientNew answers what the reference's answers, for all four numbers. No condition. -/
import Derived.Test.YtlnmpaigojmahaaPFnExactClientNewx2
namespace Go.Proofs.Ytlnmpaigojmahaa.Pure
open Go.RowKit Go.Proofs.Ytlnmpaigojmahaa.PFnExactClientNew Go.Proofs.YtlnmpaigojmahaaW.PrintWords Go.Proofs.YtlnmpaigojmahaaW.PrintLast

theorem cn_in (a b c : Int) : impl_in.f a b c = some (decide (b ≤ a ∧ a ≤ c)) := by
  unfold impl_in.f
  by_cases h : b ≤ a
  · simp [h]
  · simp [h]
theorem cn_eq (a : Int × Int × Int × Int × Int × Int × Int × Int × Int × Int) :
    laws_eqClient.f a.1 a.2.1 a.2.2.1 a.2.2.2.1 a.2.2.2.2.1 a.2.2.2.2.2.1 a.2.2.2.2.2.2.1 a.2.2.2.2.2.2.2.1 a.2.2.2.2.2.2.2.2.1 a.2.2.2.2.2.2.2.2.2 a.1 a.2.1 a.2.2.1 a.2.2.2.1 a.2.2.2.2.1 a.2.2.2.2.2.1 a.2.2.2.2.2.2.1 a.2.2.2.2.2.2.2.1 a.2.2.2.2.2.2.2.2.1 a.2.2.2.2.2.2.2.2.2 = some true := by
  simp [laws_eqClient.f]
theorem cn_same (a0 a1 a2 a3 : Int) : ∃ r, spec_ClientNew.f a0 a1 a2 a3 = some r ∧ impl_ClientNew.f a0 a1 a2 a3 = some r := by
  unfold spec_ClientNew.f impl_ClientNew.f impl_ClientRight.f
  have e1 : spec_l02Id.f a0 = some (decide (1 ≤ a0 ∧ a0 ≤ 1000000)) := by
    unfold spec_l02Id.f; by_cases h : a0 ≥ 1 <;> simp [h]
  have e2 : spec_l02Id.f a1 = some (decide (1 ≤ a1 ∧ a1 ≤ 1000000)) := by
    unfold spec_l02Id.f; by_cases h : a1 ≥ 1 <;> simp [h]
  have e3 : spec_l02Want.f a2 = some (decide (0 ≤ a2 ∧ a2 ≤ 1125899906842624)) := by
    unfold spec_l02Want.f; by_cases h : a2 ≥ 0 <;> simp [h]
  have e4 : spec_l02Weight.f a3 = some (decide (1 ≤ a3 ∧ a3 ≤ 1073741824)) := by
    unfold spec_l02Weight.f; by_cases h : a3 ≥ 1 <;> simp [h]
  rw [e1, e2, e3, e4]
  simp only [impl_isId.f, impl_isWant.f, impl_isWeight.f, impl_isTime.f, cn_in, Option.bind_some]
  by_cases h1 : 1 ≤ a0 ∧ a0 ≤ 1000000 <;> by_cases h2 : a1 = 0 <;> by_cases h3 : 1 ≤ a1 ∧ a1 ≤ 1000000 <;> by_cases h4 : 0 ≤ a2 ∧ a2 ≤ 1125899906842624 <;> by_cases h5 : 1 ≤ a3 ∧ a3 ≤ 1073741824 <;> simp [h1, h2, h3, h4, h5]

theorem FnExactClientNew : laws_FnExactClientNew.Pure := by
  intro a0 a1 a2 a3 _ _ _ _
  obtain ⟨r, h1, h2⟩ := cn_same a0 a1 a2 a3
  unfold laws_FnExactClientNew.f
  rw [h1, h2]
  simp only [Option.bind_some, cn_eq, if_true]

end Go.Proofs.Ytlnmpaigojmahaa.Pure
