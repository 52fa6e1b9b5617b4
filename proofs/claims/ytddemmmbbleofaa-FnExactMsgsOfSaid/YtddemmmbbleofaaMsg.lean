/- Messages: own, MsgRight (program and reference): what they answer. -/
import Derived.Test.YtddemmmbbleofaaBase
import Derived.RegionTactic
import Derived.BigRegion
import Derived.BigQuiet
import Derived.BigGuardPart
import Derived.Deep.DeepCutAuto
import Derived.Deep.QuietTactic
import Derived.WalkLawsBesides
import Derived.WalkSpells
import Derived.LoopN
import Derived.Outline
namespace Go.Proofs.Ytddemmmbbleofaa.C
open Go.RowKit
set_option maxRecDepth 100000
theorem own_get (b : Nat) (w : World) (h : w.cell? ⟨b, 0, none⟩ = some (.int .i64 1)) :
    Calls Try.prog 52 #[.pointer (some ⟨b, 0, none⟩)] w fun e w' =>
      e = .returned (.slice (some ⟨w.heap.size, 0, none⟩) 3 3) ∧ w' = (w.alloc (.cells #[.pointer (some ⟨b, 3, none⟩), .pointer (some ⟨b, 4, none⟩), .pointer (some ⟨b, 5, none⟩)] 81)).drew := by
  have hu41 := Try.underlying28
  have hu72 := Try.underlying79
  go_enter Try.func52, Try.ntmps52
  go_wp2
  go_region
  all_goals go_wp2
  all_goals go_ret
  all_goals exact ⟨rfl, rfl⟩
theorem own_answer (b : Nat) (w : World) (h : w.cell? ⟨b, 0, none⟩ = some (.int .i64 3)) :
    Calls Try.prog 52 #[.pointer (some ⟨b, 0, none⟩)] w fun e w' =>
      e = .returned (.slice (some ⟨w.heap.size, 0, none⟩) 3 3) ∧ w' = (w.alloc (.cells #[.pointer (some ⟨b, 6, none⟩), .pointer (some ⟨b, 7, none⟩), .pointer (some ⟨b, 8, none⟩)] 81)).drew := by
  have hu41 := Try.underlying28
  have hu72 := Try.underlying79
  go_enter Try.func52, Try.ntmps52
  go_wp2
  go_region
  all_goals go_wp2
  all_goals go_ret
  all_goals exact ⟨rfl, rfl⟩
theorem own_rel (b : Nat) (k : Int) (w : World) (h : w.cell? ⟨b, 0, none⟩ = some (.int .i64 k)) (h1 : k ≠ 1) (h2 : k ≠ 3) :
    Calls Try.prog 52 #[.pointer (some ⟨b, 0, none⟩)] w fun e w' => e = .returned (.slice none 0 0) ∧ w' = w := by
  have hu41 := Try.underlying28
  have b1 : (k == 1) = false := beq_eq_false_iff_ne.mpr h1
  have b2 : (k == 3) = false := beq_eq_false_iff_ne.mpr h2
  clear h1 h2
  go_enter Try.func52, Try.ntmps52
  go_wp2
  go_ret
  exact ⟨rfl, rfl⟩
/-- A message's fields, and the size of its note: is it right? -/
def msgB (k id seq g wa we am un co : Int) (n : Nat) : Bool :=
  bIn id 1 1000000 && (bIn seq 0 1000000 && (decide (n ≤ 40) &&
    (if k = 1 then (g == 0 || bIn g 1 1000000) && (bIn wa 0 1125899906842624 && (bIn we 1 1073741824 && (am == 0 && (un == 0 && co == 0))))
     else if k = 2 then g == 0 && (wa == 0 && (we == 0 && (am == 0 && (un == 0 && co == 0))))
     else if k = 3 then bIn am 0 1125899906842624 && (bIn un 0 1000000 && (bIn co 0 9 && (g == 0 && (wa == 0 && we == 0))))
     else false)))
set_option maxHeartbeats 8000000 in
theorem s_MsgRight (k id seq g wa we am un co : Int) (s : ByteArray) (w : World) (hs : s.size ≤ 9223372036854775807) :
    Calls Try.prog 57 #[.agg #[.int .i64 k, .int .i64 id, .int .i64 seq, .int .i64 g, .int .i64 wa, .int .i64 we, .int .i64 am, .int .i64 un, .int .i64 co, .string s]] w fun e w' => e = .returned (.bool (msgB k id seq g wa we am un co s.size)) ∧ Below w.heap.size w w' := by
  have hu41 := Try.underlying28
  by_cases hN : s.size ≤ 40
  · have hN' : decide ((40 : Int) < s.size) = false := decide_eq_false (by omega)
    by_cases k1 : k = 1
    · subst k1
      go_enter Try.func57, Try.ntmps57
      go_wp2_with (first | (go_at_call 84; refine (s_id _ _).mono ?_; rintro e w' ⟨rfl, rfl⟩) | (go_at_call 85; refine (s_want _ _).mono ?_; rintro e w' ⟨rfl, rfl⟩) | (go_at_call 86; refine (s_weight _ _).mono ?_; rintro e w' ⟨rfl, rfl⟩) | (go_at_call 44; refine (s_time _ _).mono ?_; rintro e w' ⟨rfl, rfl⟩))
      all_goals go_ret
      all_goals (refine ⟨ret_bool ?_, (Below.refl _ _).alloc (Nat.le_refl _) _⟩; simp [msgB, *])
    · by_cases k2 : k = 2
      · subst k2
        go_enter Try.func57, Try.ntmps57
        go_wp2_with (first | (go_at_call 84; refine (s_id _ _).mono ?_; rintro e w' ⟨rfl, rfl⟩) | (go_at_call 85; refine (s_want _ _).mono ?_; rintro e w' ⟨rfl, rfl⟩) | (go_at_call 86; refine (s_weight _ _).mono ?_; rintro e w' ⟨rfl, rfl⟩) | (go_at_call 44; refine (s_time _ _).mono ?_; rintro e w' ⟨rfl, rfl⟩))
        all_goals go_ret
        all_goals (refine ⟨ret_bool ?_, (Below.refl _ _).alloc (Nat.le_refl _) _⟩; simp [msgB, *])
      · by_cases k3 : k = 3
        · subst k3
          go_enter Try.func57, Try.ntmps57
          go_wp2_with (first | (go_at_call 84; refine (s_id _ _).mono ?_; rintro e w' ⟨rfl, rfl⟩) | (go_at_call 85; refine (s_want _ _).mono ?_; rintro e w' ⟨rfl, rfl⟩) | (go_at_call 86; refine (s_weight _ _).mono ?_; rintro e w' ⟨rfl, rfl⟩) | (go_at_call 44; refine (s_time _ _).mono ?_; rintro e w' ⟨rfl, rfl⟩))
          all_goals go_ret
          all_goals (refine ⟨ret_bool ?_, (Below.refl _ _).alloc (Nat.le_refl _) _⟩; simp [msgB, *])
          all_goals (intro h; first | exact bIn_true.mpr (by omega) | (have h2 := bIn_true.mp h; omega))
        · have b1 : (k == 1) = false := beq_eq_false_iff_ne.mpr k1
          have b2 : (k == 2) = false := beq_eq_false_iff_ne.mpr k2
          have b3 : (k == 3) = false := beq_eq_false_iff_ne.mpr k3
          have hm : msgB k id seq g wa we am un co s.size = false := by simp [msgB, k1, k2, k3]
          have HM := Lib.hid hm
          clear hm
          go_enter Try.func57, Try.ntmps57
          go_wp2_with (first | (go_at_call 84; refine (s_id _ _).mono ?_; rintro e w' ⟨rfl, rfl⟩) | (go_at_call 85; refine (s_want _ _).mono ?_; rintro e w' ⟨rfl, rfl⟩) | (go_at_call 86; refine (s_weight _ _).mono ?_; rintro e w' ⟨rfl, rfl⟩) | (go_at_call 44; refine (s_time _ _).mono ?_; rintro e w' ⟨rfl, rfl⟩))
          all_goals go_ret
          all_goals exact ⟨ret_bool HM.out.symm, (Below.refl _ _).alloc (Nat.le_refl _) _⟩
  · have hN' : decide ((40 : Int) < s.size) = true := decide_eq_true (by omega)
    have hm : msgB k id seq g wa we am un co s.size = false := by simp [msgB, hN]
    have HM := Lib.hid hm
    clear hm
    go_enter Try.func57, Try.ntmps57
    go_wp2_with (first | (go_at_call 84; refine (s_id _ _).mono ?_; rintro e w' ⟨rfl, rfl⟩) | (go_at_call 85; refine (s_want _ _).mono ?_; rintro e w' ⟨rfl, rfl⟩) | (go_at_call 86; refine (s_weight _ _).mono ?_; rintro e w' ⟨rfl, rfl⟩) | (go_at_call 44; refine (s_time _ _).mono ?_; rintro e w' ⟨rfl, rfl⟩))
    all_goals go_ret
    all_goals exact ⟨ret_bool HM.out.symm, (Below.refl _ _).alloc (Nat.le_refl _) _⟩
end Go.Proofs.Ytddemmmbbleofaa.C
