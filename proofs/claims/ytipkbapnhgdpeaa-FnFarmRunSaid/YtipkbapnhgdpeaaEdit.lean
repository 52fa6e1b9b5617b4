/- EditRight of both, isEdit: is an edit right? No condition. -/
import Derived.Test.YtipkbapnhgdpeaaLaw
namespace Go.Proofs.Ytipkbapnhgdpeaa.C
open Go.RowKit
set_option maxRecDepth 100000
set_option linter.unusedVariables false
set_option linter.unusedSimpArgs false
attribute [local go_sem ↓] Go.wp_at_zero Go.wp_at_succ
/-- Is an edit right? -/
def edB (k id g a b : Int) : Bool :=
  (bIn id 1 1000000 || (k == 8 && id == 0)) && ((g == 0 || bIn g 1 1000000) &&
    (if k = 1 ∨ k = 6 then bIn a 0 1125899906842624 && bIn b 1 1073741824
     else if k = 2 ∨ k = 7 then g == 0 && (a == 0 && b == 0)
     else if k = 3 ∨ k = 8 then g == 0 && (bIn a 0 1125899906842624 && b == 0)
     else if k = 4 then g == 0 && (bIn a 1 1073741824 && b == 0)
     else if k = 5 then a == 0 && b == 0
     else false))
set_option maxHeartbeats 8000000 in
theorem s_EditRight (k id g a b : Int) (w : World) :
    Calls Try.prog 70 #[.agg #[.int .i64 k, .int .i64 id, .int .i64 g, .int .i64 a, .int .i64 b]] w fun e w' => e = .returned (.bool (edB k id g a b)) ∧ Below w.heap.size w w' := by
  have hu := Try.underlying56
  by_cases k1 : k = 1
  · subst k1
    go_enter Try.func70, Try.ntmps70
    go_wp2_with (first | (go_at_call 93; refine (s_id _ _).mono ?_; rintro e w' ⟨rfl, rfl⟩) | (go_at_call 92; refine (s_want _ _).mono ?_; rintro e w' ⟨rfl, rfl⟩) | (go_at_call 94; refine (s_weight _ _).mono ?_; rintro e w' ⟨rfl, rfl⟩))
    all_goals go_ret
    all_goals (refine ⟨ret_bool ?_, (Below.refl _ _).alloc (Nat.le_refl _) _⟩; clear hu; first | (simp [edB, *]; done) | (simp_all [edB]; done))
  by_cases k2 : k = 2
  · subst k2
    clear k1
    go_enter Try.func70, Try.ntmps70
    go_wp2_with (first | (go_at_call 93; refine (s_id _ _).mono ?_; rintro e w' ⟨rfl, rfl⟩) | (go_at_call 92; refine (s_want _ _).mono ?_; rintro e w' ⟨rfl, rfl⟩) | (go_at_call 94; refine (s_weight _ _).mono ?_; rintro e w' ⟨rfl, rfl⟩))
    all_goals go_ret
    all_goals (refine ⟨ret_bool ?_, (Below.refl _ _).alloc (Nat.le_refl _) _⟩; clear hu; first | (simp [edB, *]; done) | (simp_all [edB]; done))
  by_cases k3 : k = 3
  · subst k3
    clear k1 k2
    go_enter Try.func70, Try.ntmps70
    go_wp2_with (first | (go_at_call 93; refine (s_id _ _).mono ?_; rintro e w' ⟨rfl, rfl⟩) | (go_at_call 92; refine (s_want _ _).mono ?_; rintro e w' ⟨rfl, rfl⟩) | (go_at_call 94; refine (s_weight _ _).mono ?_; rintro e w' ⟨rfl, rfl⟩))
    all_goals go_ret
    all_goals (refine ⟨ret_bool ?_, (Below.refl _ _).alloc (Nat.le_refl _) _⟩; clear hu; first | (simp [edB, *]; done) | (simp_all [edB]; done))
  by_cases k4 : k = 4
  · subst k4
    clear k1 k2 k3
    go_enter Try.func70, Try.ntmps70
    go_wp2_with (first | (go_at_call 93; refine (s_id _ _).mono ?_; rintro e w' ⟨rfl, rfl⟩) | (go_at_call 92; refine (s_want _ _).mono ?_; rintro e w' ⟨rfl, rfl⟩) | (go_at_call 94; refine (s_weight _ _).mono ?_; rintro e w' ⟨rfl, rfl⟩))
    all_goals go_ret
    all_goals (refine ⟨ret_bool ?_, (Below.refl _ _).alloc (Nat.le_refl _) _⟩; clear hu; first | (simp [edB, *]; done) | (simp_all [edB]; done))
  by_cases k5 : k = 5
  · subst k5
    clear k1 k2 k3 k4
    go_enter Try.func70, Try.ntmps70
    go_wp2_with (first | (go_at_call 93; refine (s_id _ _).mono ?_; rintro e w' ⟨rfl, rfl⟩) | (go_at_call 92; refine (s_want _ _).mono ?_; rintro e w' ⟨rfl, rfl⟩) | (go_at_call 94; refine (s_weight _ _).mono ?_; rintro e w' ⟨rfl, rfl⟩))
    all_goals go_ret
    all_goals (refine ⟨ret_bool ?_, (Below.refl _ _).alloc (Nat.le_refl _) _⟩; clear hu; first | (simp [edB, *]; done) | (simp_all [edB]; done))
  by_cases k6 : k = 6
  · subst k6
    clear k1 k2 k3 k4 k5
    go_enter Try.func70, Try.ntmps70
    go_wp2_with (first | (go_at_call 93; refine (s_id _ _).mono ?_; rintro e w' ⟨rfl, rfl⟩) | (go_at_call 92; refine (s_want _ _).mono ?_; rintro e w' ⟨rfl, rfl⟩) | (go_at_call 94; refine (s_weight _ _).mono ?_; rintro e w' ⟨rfl, rfl⟩))
    all_goals go_ret
    all_goals (refine ⟨ret_bool ?_, (Below.refl _ _).alloc (Nat.le_refl _) _⟩; clear hu; first | (simp [edB, *]; done) | (simp_all [edB]; done))
  by_cases k7 : k = 7
  · subst k7
    clear k1 k2 k3 k4 k5 k6
    go_enter Try.func70, Try.ntmps70
    go_wp2_with (first | (go_at_call 93; refine (s_id _ _).mono ?_; rintro e w' ⟨rfl, rfl⟩) | (go_at_call 92; refine (s_want _ _).mono ?_; rintro e w' ⟨rfl, rfl⟩) | (go_at_call 94; refine (s_weight _ _).mono ?_; rintro e w' ⟨rfl, rfl⟩))
    all_goals go_ret
    all_goals (refine ⟨ret_bool ?_, (Below.refl _ _).alloc (Nat.le_refl _) _⟩; clear hu; first | (simp [edB, *]; done) | (simp_all [edB]; done))
  by_cases k8 : k = 8
  · subst k8
    clear k1 k2 k3 k4 k5 k6 k7
    go_enter Try.func70, Try.ntmps70
    go_wp2_with (first | (go_at_call 93; refine (s_id _ _).mono ?_; rintro e w' ⟨rfl, rfl⟩) | (go_at_call 92; refine (s_want _ _).mono ?_; rintro e w' ⟨rfl, rfl⟩) | (go_at_call 94; refine (s_weight _ _).mono ?_; rintro e w' ⟨rfl, rfl⟩))
    all_goals go_ret
    all_goals (refine ⟨ret_bool ?_, (Below.refl _ _).alloc (Nat.le_refl _) _⟩; clear hu; first | (simp [edB, *]; done) | (simp_all [edB]; done))
  have b1 : (k == 1) = false := beq_eq_false_iff_ne.mpr k1
  have b2 : (k == 2) = false := beq_eq_false_iff_ne.mpr k2
  have b3 : (k == 3) = false := beq_eq_false_iff_ne.mpr k3
  have b4 : (k == 4) = false := beq_eq_false_iff_ne.mpr k4
  have b5 : (k == 5) = false := beq_eq_false_iff_ne.mpr k5
  have b6 : (k == 6) = false := beq_eq_false_iff_ne.mpr k6
  have b7 : (k == 7) = false := beq_eq_false_iff_ne.mpr k7
  have b8 : (k == 8) = false := beq_eq_false_iff_ne.mpr k8
  go_enter Try.func70, Try.ntmps70
  go_wp2_with (first | (go_at_call 93; refine (s_id _ _).mono ?_; rintro e w' ⟨rfl, rfl⟩) | (go_at_call 92; refine (s_want _ _).mono ?_; rintro e w' ⟨rfl, rfl⟩) | (go_at_call 94; refine (s_weight _ _).mono ?_; rintro e w' ⟨rfl, rfl⟩))
  all_goals go_ret
  all_goals (refine ⟨ret_bool ?_, (Below.refl _ _).alloc (Nat.le_refl _) _⟩; clear hu; first | (simp [edB, *]; done) | (simp_all [edB]; done))
set_option maxHeartbeats 16000000 in
theorem c_EditRight (k id g a b : Int) (w : World) :
    Calls Try.prog 129 #[.agg #[.int .i64 k, .int .i64 id, .int .i64 g, .int .i64 a, .int .i64 b]] w fun e w' => e = .returned (.bool (edB k id g a b)) ∧ Below w.heap.size w w' := by
  have hu := Try.underlying56
  by_cases k1 : k = 1
  · subst k1
    go_enter Try.func129, Try.ntmps129
    go_wp2_with (first | (go_at_call 82; refine (c_isId _ _).mono ?_; rintro e w' ⟨rfl, rfl⟩) | (go_at_call 81; refine (c_isWant _ _).mono ?_; rintro e w' ⟨rfl, rfl⟩) | (go_at_call 84; refine (c_isWeight _ _).mono ?_; rintro e w' ⟨rfl, rfl⟩))
    go_quiet (fail)
    go_wp2_with (first | (go_at_call 82; refine (c_isId _ _).mono ?_; rintro e w' ⟨rfl, rfl⟩) | (go_at_call 81; refine (c_isWant _ _).mono ?_; rintro e w' ⟨rfl, rfl⟩) | (go_at_call 84; refine (c_isWeight _ _).mono ?_; rintro e w' ⟨rfl, rfl⟩))
    all_goals (try (go_quiet ((first | (go_at_call 81; exact quiet_add_left (c_isWant _ _)) | (go_at_call 84; exact quiet_add_left (c_isWeight _ _))))))
    all_goals (try (go_wp2_with (first | (go_at_call 82; refine (c_isId _ _).mono ?_; rintro e w' ⟨rfl, rfl⟩) | (go_at_call 81; refine (c_isWant _ _).mono ?_; rintro e w' ⟨rfl, rfl⟩) | (go_at_call 84; refine (c_isWeight _ _).mono ?_; rintro e w' ⟨rfl, rfl⟩))))
    all_goals go_ret
    all_goals (refine ⟨ret_bool ?_, below_drewN ((Below.refl _ _).alloc (Nat.le_refl _) _) _⟩; clear hu; first | (simp [edB, *]; done) | (simp_all [edB]; done))
  by_cases k2 : k = 2
  · subst k2
    clear k1
    go_enter Try.func129, Try.ntmps129
    go_wp2_with (first | (go_at_call 82; refine (c_isId _ _).mono ?_; rintro e w' ⟨rfl, rfl⟩) | (go_at_call 81; refine (c_isWant _ _).mono ?_; rintro e w' ⟨rfl, rfl⟩) | (go_at_call 84; refine (c_isWeight _ _).mono ?_; rintro e w' ⟨rfl, rfl⟩))
    go_quiet (fail)
    go_wp2_with (first | (go_at_call 82; refine (c_isId _ _).mono ?_; rintro e w' ⟨rfl, rfl⟩) | (go_at_call 81; refine (c_isWant _ _).mono ?_; rintro e w' ⟨rfl, rfl⟩) | (go_at_call 84; refine (c_isWeight _ _).mono ?_; rintro e w' ⟨rfl, rfl⟩))
    all_goals go_ret
    all_goals (refine ⟨ret_bool ?_, below_drewN ((Below.refl _ _).alloc (Nat.le_refl _) _) _⟩; clear hu; first | (simp [edB, *]; done) | (simp_all [edB]; done))
  by_cases k3 : k = 3
  · subst k3
    clear k1 k2
    go_enter Try.func129, Try.ntmps129
    go_wp2_with (first | (go_at_call 82; refine (c_isId _ _).mono ?_; rintro e w' ⟨rfl, rfl⟩) | (go_at_call 81; refine (c_isWant _ _).mono ?_; rintro e w' ⟨rfl, rfl⟩) | (go_at_call 84; refine (c_isWeight _ _).mono ?_; rintro e w' ⟨rfl, rfl⟩))
    go_quiet (fail)
    go_wp2_with (first | (go_at_call 82; refine (c_isId _ _).mono ?_; rintro e w' ⟨rfl, rfl⟩) | (go_at_call 81; refine (c_isWant _ _).mono ?_; rintro e w' ⟨rfl, rfl⟩) | (go_at_call 84; refine (c_isWeight _ _).mono ?_; rintro e w' ⟨rfl, rfl⟩))
    all_goals go_ret
    all_goals (refine ⟨ret_bool ?_, below_drewN ((Below.refl _ _).alloc (Nat.le_refl _) _) _⟩; clear hu; first | (simp [edB, *]; done) | (simp_all [edB]; done))
  by_cases k4 : k = 4
  · subst k4
    clear k1 k2 k3
    go_enter Try.func129, Try.ntmps129
    go_wp2_with (first | (go_at_call 82; refine (c_isId _ _).mono ?_; rintro e w' ⟨rfl, rfl⟩) | (go_at_call 81; refine (c_isWant _ _).mono ?_; rintro e w' ⟨rfl, rfl⟩) | (go_at_call 84; refine (c_isWeight _ _).mono ?_; rintro e w' ⟨rfl, rfl⟩))
    go_quiet (fail)
    go_wp2_with (first | (go_at_call 82; refine (c_isId _ _).mono ?_; rintro e w' ⟨rfl, rfl⟩) | (go_at_call 81; refine (c_isWant _ _).mono ?_; rintro e w' ⟨rfl, rfl⟩) | (go_at_call 84; refine (c_isWeight _ _).mono ?_; rintro e w' ⟨rfl, rfl⟩))
    all_goals go_ret
    all_goals (refine ⟨ret_bool ?_, below_drewN ((Below.refl _ _).alloc (Nat.le_refl _) _) _⟩; clear hu; first | (simp [edB, *]; done) | (simp_all [edB]; done))
  by_cases k5 : k = 5
  · subst k5
    clear k1 k2 k3 k4
    go_enter Try.func129, Try.ntmps129
    go_wp2_with (first | (go_at_call 82; refine (c_isId _ _).mono ?_; rintro e w' ⟨rfl, rfl⟩) | (go_at_call 81; refine (c_isWant _ _).mono ?_; rintro e w' ⟨rfl, rfl⟩) | (go_at_call 84; refine (c_isWeight _ _).mono ?_; rintro e w' ⟨rfl, rfl⟩))
    go_quiet (fail)
    go_wp2_with (first | (go_at_call 82; refine (c_isId _ _).mono ?_; rintro e w' ⟨rfl, rfl⟩) | (go_at_call 81; refine (c_isWant _ _).mono ?_; rintro e w' ⟨rfl, rfl⟩) | (go_at_call 84; refine (c_isWeight _ _).mono ?_; rintro e w' ⟨rfl, rfl⟩))
    all_goals go_ret
    all_goals (refine ⟨ret_bool ?_, below_drewN ((Below.refl _ _).alloc (Nat.le_refl _) _) _⟩; clear hu; first | (simp [edB, *]; done) | (simp_all [edB]; done))
  by_cases k6 : k = 6
  · subst k6
    clear k1 k2 k3 k4 k5
    go_enter Try.func129, Try.ntmps129
    go_wp2_with (first | (go_at_call 82; refine (c_isId _ _).mono ?_; rintro e w' ⟨rfl, rfl⟩) | (go_at_call 81; refine (c_isWant _ _).mono ?_; rintro e w' ⟨rfl, rfl⟩) | (go_at_call 84; refine (c_isWeight _ _).mono ?_; rintro e w' ⟨rfl, rfl⟩))
    go_quiet (fail)
    go_wp2_with (first | (go_at_call 82; refine (c_isId _ _).mono ?_; rintro e w' ⟨rfl, rfl⟩) | (go_at_call 81; refine (c_isWant _ _).mono ?_; rintro e w' ⟨rfl, rfl⟩) | (go_at_call 84; refine (c_isWeight _ _).mono ?_; rintro e w' ⟨rfl, rfl⟩))
    all_goals (try (go_quiet ((first | (go_at_call 81; exact quiet_add_left (c_isWant _ _)) | (go_at_call 84; exact quiet_add_left (c_isWeight _ _))))))
    all_goals (try (go_wp2_with (first | (go_at_call 82; refine (c_isId _ _).mono ?_; rintro e w' ⟨rfl, rfl⟩) | (go_at_call 81; refine (c_isWant _ _).mono ?_; rintro e w' ⟨rfl, rfl⟩) | (go_at_call 84; refine (c_isWeight _ _).mono ?_; rintro e w' ⟨rfl, rfl⟩))))
    all_goals go_ret
    all_goals (refine ⟨ret_bool ?_, below_drewN ((Below.refl _ _).alloc (Nat.le_refl _) _) _⟩; clear hu; first | (simp [edB, *]; done) | (simp_all [edB]; done))
  by_cases k7 : k = 7
  · subst k7
    clear k1 k2 k3 k4 k5 k6
    go_enter Try.func129, Try.ntmps129
    go_wp2_with (first | (go_at_call 82; refine (c_isId _ _).mono ?_; rintro e w' ⟨rfl, rfl⟩) | (go_at_call 81; refine (c_isWant _ _).mono ?_; rintro e w' ⟨rfl, rfl⟩) | (go_at_call 84; refine (c_isWeight _ _).mono ?_; rintro e w' ⟨rfl, rfl⟩))
    go_quiet (fail)
    go_wp2_with (first | (go_at_call 82; refine (c_isId _ _).mono ?_; rintro e w' ⟨rfl, rfl⟩) | (go_at_call 81; refine (c_isWant _ _).mono ?_; rintro e w' ⟨rfl, rfl⟩) | (go_at_call 84; refine (c_isWeight _ _).mono ?_; rintro e w' ⟨rfl, rfl⟩))
    all_goals go_ret
    all_goals (refine ⟨ret_bool ?_, below_drewN ((Below.refl _ _).alloc (Nat.le_refl _) _) _⟩; clear hu; first | (simp [edB, *]; done) | (simp_all [edB]; done))
  by_cases k8 : k = 8
  · subst k8
    clear k1 k2 k3 k4 k5 k6 k7
    go_enter Try.func129, Try.ntmps129
    go_wp2_with (first | (go_at_call 82; refine (c_isId _ _).mono ?_; rintro e w' ⟨rfl, rfl⟩) | (go_at_call 81; refine (c_isWant _ _).mono ?_; rintro e w' ⟨rfl, rfl⟩) | (go_at_call 84; refine (c_isWeight _ _).mono ?_; rintro e w' ⟨rfl, rfl⟩))
    go_quiet (fail)
    go_wp2_with (first | (go_at_call 82; refine (c_isId _ _).mono ?_; rintro e w' ⟨rfl, rfl⟩) | (go_at_call 81; refine (c_isWant _ _).mono ?_; rintro e w' ⟨rfl, rfl⟩) | (go_at_call 84; refine (c_isWeight _ _).mono ?_; rintro e w' ⟨rfl, rfl⟩))
    all_goals go_ret
    all_goals (refine ⟨ret_bool ?_, below_drewN ((Below.refl _ _).alloc (Nat.le_refl _) _) _⟩; clear hu; first | (simp [edB, *]; done) | (simp_all [edB]; done))
  have b1 : (k == 1) = false := beq_eq_false_iff_ne.mpr k1
  have b2 : (k == 2) = false := beq_eq_false_iff_ne.mpr k2
  have b3 : (k == 3) = false := beq_eq_false_iff_ne.mpr k3
  have b4 : (k == 4) = false := beq_eq_false_iff_ne.mpr k4
  have b5 : (k == 5) = false := beq_eq_false_iff_ne.mpr k5
  have b6 : (k == 6) = false := beq_eq_false_iff_ne.mpr k6
  have b7 : (k == 7) = false := beq_eq_false_iff_ne.mpr k7
  have b8 : (k == 8) = false := beq_eq_false_iff_ne.mpr k8
  go_enter Try.func129, Try.ntmps129
  go_wp2_with (first | (go_at_call 82; refine (c_isId _ _).mono ?_; rintro e w' ⟨rfl, rfl⟩) | (go_at_call 81; refine (c_isWant _ _).mono ?_; rintro e w' ⟨rfl, rfl⟩) | (go_at_call 84; refine (c_isWeight _ _).mono ?_; rintro e w' ⟨rfl, rfl⟩))
  go_quiet (fail)
  go_wp2_with (first | (go_at_call 82; refine (c_isId _ _).mono ?_; rintro e w' ⟨rfl, rfl⟩) | (go_at_call 81; refine (c_isWant _ _).mono ?_; rintro e w' ⟨rfl, rfl⟩) | (go_at_call 84; refine (c_isWeight _ _).mono ?_; rintro e w' ⟨rfl, rfl⟩))
  all_goals go_ret
  all_goals (refine ⟨ret_bool ?_, below_drewN ((Below.refl _ _).alloc (Nat.le_refl _) _) _⟩; clear hu; first | (simp [edB, *]; done) | (simp_all [edB]; done))
end Go.Proofs.Ytipkbapnhgdpeaa.C
