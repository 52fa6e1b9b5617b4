/- Clients: ClientRight (program and reference). No condition. -/
import Derived.Test.YtipkbapnhgdpeaaBase
import Derived.RegionTactic
import Derived.BigRegion
import Derived.BigQuiet
import Derived.BigGuardPart
import Derived.Deep.RegionHeld3
import Derived.Outline
namespace Go.Proofs.Ytipkbapnhgdpeaa.C
open Go.RowKit
set_option maxRecDepth 100000
/-- Is a client right? -/
def clB (a0 a1 a2 a3 a4 a5 a6 a7 a8 a9 : Int) : Bool :=
  bIn a0 1 1000000 && ((a1 == 0 || bIn a1 1 1000000) && (bIn a2 0 1125899906842624 && (bIn a3 1 1073741824 && (bIn a4 0 1125899906842624 && (bIn a5 0 1000000 && (bIn a6 0 1000000 && (bIn a7 0 1000000 && (bIn a9 0 1000000 && bIn a8 1 64))))))))
set_option maxHeartbeats 8000000 in
theorem s_ClientRight (a0 a1 a2 a3 a4 a5 a6 a7 a8 a9 : Int) (w : World) :
    Calls Try.prog 61 #[.agg #[.int .i64 a0, .int .i64 a1, .int .i64 a2, .int .i64 a3, .int .i64 a4, .int .i64 a5, .int .i64 a6, .int .i64 a7, .int .i64 a8, .int .i64 a9]] w fun e w' => e = .returned (.bool (clB a0 a1 a2 a3 a4 a5 a6 a7 a8 a9)) ∧ w' = w.alloc (.cells #[.int .i64 a0, .int .i64 a1, .int .i64 a2, .int .i64 a3, .int .i64 a4, .int .i64 a5, .int .i64 a6, .int .i64 a7, .int .i64 a8, .int .i64 a9] 101) := by
  have hu := Try.underlying101
  by_cases h1 : a1 = 0
  · subst h1
    go_enter Try.func61, Try.ntmps61
    go_wp2_with (first | (go_at_call 93; refine (s_id _ _).mono ?_; rintro e w' ⟨rfl, rfl⟩) | (go_at_call 92; refine (s_want _ _).mono ?_; rintro e w' ⟨rfl, rfl⟩) | (go_at_call 94; refine (s_weight _ _).mono ?_; rintro e w' ⟨rfl, rfl⟩) | (go_at_call 105; refine (s_time _ _).mono ?_; rintro e w' ⟨rfl, rfl⟩))
    all_goals go_ret
    all_goals (refine ⟨ret_bool ?_, rfl⟩; simp [clB, *])
    all_goals first | exact bIn_lo (by omega) | exact (bIn_hi (by omega)).symm
  · have b1 : (a1 == 0) = false := beq_eq_false_iff_ne.mpr h1
    go_enter Try.func61, Try.ntmps61
    go_wp2_with (first | (go_at_call 93; refine (s_id _ _).mono ?_; rintro e w' ⟨rfl, rfl⟩) | (go_at_call 92; refine (s_want _ _).mono ?_; rintro e w' ⟨rfl, rfl⟩) | (go_at_call 94; refine (s_weight _ _).mono ?_; rintro e w' ⟨rfl, rfl⟩) | (go_at_call 105; refine (s_time _ _).mono ?_; rintro e w' ⟨rfl, rfl⟩))
    all_goals go_ret
    all_goals (refine ⟨ret_bool ?_, rfl⟩; simp [clB, *])
    all_goals first | exact bIn_lo (by omega) | exact (bIn_hi (by omega)).symm
set_option maxHeartbeats 8000000 in
theorem c_ClientRight (a0 a1 a2 a3 a4 a5 a6 a7 a8 a9 : Int) (w : World) :
    Calls Try.prog 63 #[.agg #[.int .i64 a0, .int .i64 a1, .int .i64 a2, .int .i64 a3, .int .i64 a4, .int .i64 a5, .int .i64 a6, .int .i64 a7, .int .i64 a8, .int .i64 a9]] w fun e w' => e = .returned (.bool (clB a0 a1 a2 a3 a4 a5 a6 a7 a8 a9)) ∧ w' = w.alloc (.cells #[.int .i64 a0, .int .i64 a1, .int .i64 a2, .int .i64 a3, .int .i64 a4, .int .i64 a5, .int .i64 a6, .int .i64 a7, .int .i64 a8, .int .i64 a9] 101) := by
  have hu := Try.underlying101
  by_cases h1 : a1 = 0
  · subst h1
    go_enter Try.func63, Try.ntmps63
    go_wp2_with (first | (go_at_call 54; refine (c_in _ _ _ _).mono ?_; rintro e w' ⟨rfl, rfl⟩) | (go_at_call 82; refine (c_isId _ _).mono ?_; rintro e w' ⟨rfl, rfl⟩) | (go_at_call 81; refine (c_isWant _ _).mono ?_; rintro e w' ⟨rfl, rfl⟩) | (go_at_call 84; refine (c_isWeight _ _).mono ?_; rintro e w' ⟨rfl, rfl⟩) | (go_at_call 107; refine (c_isTime _ _).mono ?_; rintro e w' ⟨rfl, rfl⟩))
    all_goals go_ret
    all_goals (refine ⟨ret_bool ?_, rfl⟩; simp [clB, *])
  · have b1 : (a1 == 0) = false := beq_eq_false_iff_ne.mpr h1
    go_enter Try.func63, Try.ntmps63
    go_wp2_with (first | (go_at_call 54; refine (c_in _ _ _ _).mono ?_; rintro e w' ⟨rfl, rfl⟩) | (go_at_call 82; refine (c_isId _ _).mono ?_; rintro e w' ⟨rfl, rfl⟩) | (go_at_call 81; refine (c_isWant _ _).mono ?_; rintro e w' ⟨rfl, rfl⟩) | (go_at_call 84; refine (c_isWeight _ _).mono ?_; rintro e w' ⟨rfl, rfl⟩) | (go_at_call 107; refine (c_isTime _ _).mono ?_; rintro e w' ⟨rfl, rfl⟩))
    all_goals go_ret
    all_goals (refine ⟨ret_bool ?_, rfl⟩; simp [clB, *])
end Go.Proofs.Ytipkbapnhgdpeaa.C
