/- Clients: ClientRight (program and reference). No condition. -/
import Derived.Test.YtddemmmbbleofaaBase
import Derived.RegionTactic
import Derived.BigRegion
import Derived.BigQuiet
import Derived.BigGuardPart
import Derived.Deep.RegionHeld3
import Derived.Outline
namespace Go.Proofs.Ytddemmmbbleofaa.C
open Go.RowKit
set_option maxRecDepth 100000
/-- Is a client right? -/
def clB (a0 a1 a2 a3 a4 a5 a6 a7 a8 a9 : Int) : Bool :=
  bIn a0 1 1000000 && ((a1 == 0 || bIn a1 1 1000000) && (bIn a2 0 1125899906842624 && (bIn a3 1 1073741824 && (bIn a4 0 1125899906842624 && (bIn a5 0 1000000 && (bIn a6 0 1000000 && (bIn a7 0 1000000 && (bIn a9 0 1000000 && bIn a8 1 64))))))))
set_option maxHeartbeats 8000000 in
theorem s_ClientRight (a0 a1 a2 a3 a4 a5 a6 a7 a8 a9 : Int) (w : World) :
    Calls Try.prog 43 #[.agg #[.int .i64 a0, .int .i64 a1, .int .i64 a2, .int .i64 a3, .int .i64 a4, .int .i64 a5, .int .i64 a6, .int .i64 a7, .int .i64 a8, .int .i64 a9]] w fun e w' => e = .returned (.bool (clB a0 a1 a2 a3 a4 a5 a6 a7 a8 a9)) ∧ w' = w.alloc (.cells #[.int .i64 a0, .int .i64 a1, .int .i64 a2, .int .i64 a3, .int .i64 a4, .int .i64 a5, .int .i64 a6, .int .i64 a7, .int .i64 a8, .int .i64 a9] 24) := by
  have hu := Try.underlying24
  by_cases h1 : a1 = 0
  · subst h1
    go_enter Try.func43, Try.ntmps43
    go_wp2_with (first | (go_at_call 84; refine (s_id _ _).mono ?_; rintro e w' ⟨rfl, rfl⟩) | (go_at_call 85; refine (s_want _ _).mono ?_; rintro e w' ⟨rfl, rfl⟩) | (go_at_call 86; refine (s_weight _ _).mono ?_; rintro e w' ⟨rfl, rfl⟩) | (go_at_call 44; refine (s_time _ _).mono ?_; rintro e w' ⟨rfl, rfl⟩))
    all_goals go_ret
    all_goals (refine ⟨ret_bool ?_, rfl⟩; simp [clB, *])
    all_goals first | exact bIn_lo (by omega) | exact (bIn_hi (by omega)).symm
  · have b1 : (a1 == 0) = false := beq_eq_false_iff_ne.mpr h1
    go_enter Try.func43, Try.ntmps43
    go_wp2_with (first | (go_at_call 84; refine (s_id _ _).mono ?_; rintro e w' ⟨rfl, rfl⟩) | (go_at_call 85; refine (s_want _ _).mono ?_; rintro e w' ⟨rfl, rfl⟩) | (go_at_call 86; refine (s_weight _ _).mono ?_; rintro e w' ⟨rfl, rfl⟩) | (go_at_call 44; refine (s_time _ _).mono ?_; rintro e w' ⟨rfl, rfl⟩))
    all_goals go_ret
    all_goals (refine ⟨ret_bool ?_, rfl⟩; simp [clB, *])
    all_goals first | exact bIn_lo (by omega) | exact (bIn_hi (by omega)).symm
set_option maxHeartbeats 8000000 in
theorem c_ClientRight (a0 a1 a2 a3 a4 a5 a6 a7 a8 a9 : Int) (w : World) :
    Calls Try.prog 46 #[.agg #[.int .i64 a0, .int .i64 a1, .int .i64 a2, .int .i64 a3, .int .i64 a4, .int .i64 a5, .int .i64 a6, .int .i64 a7, .int .i64 a8, .int .i64 a9]] w fun e w' => e = .returned (.bool (clB a0 a1 a2 a3 a4 a5 a6 a7 a8 a9)) ∧ w' = w.alloc (.cells #[.int .i64 a0, .int .i64 a1, .int .i64 a2, .int .i64 a3, .int .i64 a4, .int .i64 a5, .int .i64 a6, .int .i64 a7, .int .i64 a8, .int .i64 a9] 24) := by
  have hu := Try.underlying24
  by_cases h1 : a1 = 0
  · subst h1
    go_enter Try.func46, Try.ntmps46
    go_wp2_with (first | (go_at_call 50; refine (c_in _ _ _ _).mono ?_; rintro e w' ⟨rfl, rfl⟩) | (go_at_call 51; refine (c_isId _ _).mono ?_; rintro e w' ⟨rfl, rfl⟩) | (go_at_call 53; refine (c_isWant _ _).mono ?_; rintro e w' ⟨rfl, rfl⟩) | (go_at_call 54; refine (c_isWeight _ _).mono ?_; rintro e w' ⟨rfl, rfl⟩) | (go_at_call 47; refine (c_isTime _ _).mono ?_; rintro e w' ⟨rfl, rfl⟩))
    all_goals go_ret
    all_goals (refine ⟨ret_bool ?_, rfl⟩; simp [clB, *])
  · have b1 : (a1 == 0) = false := beq_eq_false_iff_ne.mpr h1
    go_enter Try.func46, Try.ntmps46
    go_wp2_with (first | (go_at_call 50; refine (c_in _ _ _ _).mono ?_; rintro e w' ⟨rfl, rfl⟩) | (go_at_call 51; refine (c_isId _ _).mono ?_; rintro e w' ⟨rfl, rfl⟩) | (go_at_call 53; refine (c_isWant _ _).mono ?_; rintro e w' ⟨rfl, rfl⟩) | (go_at_call 54; refine (c_isWeight _ _).mono ?_; rintro e w' ⟨rfl, rfl⟩) | (go_at_call 47; refine (c_isTime _ _).mono ?_; rintro e w' ⟨rfl, rfl⟩))
    all_goals go_ret
    all_goals (refine ⟨ret_bool ?_, rfl⟩; simp [clB, *])
theorem ask_end (a0 a1 a2 a3 a4 a5 a6 a7 a8 now : Int) (w : World) :
    Calls Try.prog 48 #[.agg #[.int .i64 a0, .int .i64 a1, .int .i64 a2, .int .i64 a3, .int .i64 a4, .int .i64 a5, .int .i64 a6, .int .i64 a7, .int .i64 a8, .int .i64 1000000], .int .i64 now] w fun e w' => e = .returned (.tuple #[.agg #[.int .i64 0, .int .i64 0, .int .i64 0, .int .i64 0, .int .i64 0, .int .i64 0, .int .i64 0, .int .i64 0, .int .i64 0, .int .i64 0], .agg #[.int .i64 0, .int .i64 0, .int .i64 0, .int .i64 0, .int .i64 0, .int .i64 0, .int .i64 0, .int .i64 0, .int .i64 0, .string ⟨#[]⟩], .bool false, .int .i64 9]) ∧ Below w.heap.size w w' := by
  have hu29 := Try.underlying24
  have hu41 := Try.underlying28
  go_enter Try.func48, Try.ntmps48
  go_wp2
  refine bodyPost_ret (v := .tuple #[.agg #[.int .i64 0, .int .i64 0, .int .i64 0, .int .i64 0, .int .i64 0, .int .i64 0, .int .i64 0, .int .i64 0, .int .i64 0, .int .i64 0], .agg #[.int .i64 0, .int .i64 0, .int .i64 0, .int .i64 0, .int .i64 0, .int .i64 0, .int .i64 0, .int .i64 0, .int .i64 0, .string ⟨#[]⟩], .bool false, .int .i64 9]) (by simp [results, Try.results48, go_sem]) rfl ⟨rfl, ?_⟩
  (repeat (first | exact Below.refl _ _ | apply Below.drew | refine Below.alloc ?_ (by first | (simp; done) | (simp; omega)) _ | refine Below.setCell ?_ (by first | (simp; done) | (simp; omega)) _))
theorem ask_wait (a0 a1 a2 a3 a4 a5 a6 a7 a8 a9 now : Int) (w : World) (h : a9 ≠ 1000000) (h2 : now < a7) :
    Calls Try.prog 48 #[.agg #[.int .i64 a0, .int .i64 a1, .int .i64 a2, .int .i64 a3, .int .i64 a4, .int .i64 a5, .int .i64 a6, .int .i64 a7, .int .i64 a8, .int .i64 a9], .int .i64 now] w fun e w' => e = .returned (.tuple #[.agg #[.int .i64 a0, .int .i64 a1, .int .i64 a2, .int .i64 a3, .int .i64 a4, .int .i64 a5, .int .i64 a6, .int .i64 a7, .int .i64 a8, .int .i64 a9], .agg #[.int .i64 0, .int .i64 0, .int .i64 0, .int .i64 0, .int .i64 0, .int .i64 0, .int .i64 0, .int .i64 0, .int .i64 0, .string ⟨#[]⟩], .bool false, .int .i64 0]) ∧ Below w.heap.size w w' := by
  have hu29 := Try.underlying24
  have hu41 := Try.underlying28
  have b1 : (a9 == 1000000) = false := beq_eq_false_iff_ne.mpr h
  have b2 : decide (now < a7) = true := decide_eq_true h2
  go_enter Try.func48, Try.ntmps48
  go_wp2
  refine bodyPost_ret (v := .tuple #[.agg #[.int .i64 a0, .int .i64 a1, .int .i64 a2, .int .i64 a3, .int .i64 a4, .int .i64 a5, .int .i64 a6, .int .i64 a7, .int .i64 a8, .int .i64 a9], .agg #[.int .i64 0, .int .i64 0, .int .i64 0, .int .i64 0, .int .i64 0, .int .i64 0, .int .i64 0, .int .i64 0, .int .i64 0, .string ⟨#[]⟩], .bool false, .int .i64 0]) (by simp [results, Try.results48, go_sem]) rfl ⟨rfl, ?_⟩
  (repeat (first | exact Below.refl _ _ | apply Below.drew | refine Below.alloc ?_ (by first | (simp; done) | (simp; omega)) _ | refine Below.setCell ?_ (by first | (simp; done) | (simp; omega)) _))
set_option maxHeartbeats 1000000 in
theorem ask_goes1 (a0 a1 a2 a3 a4 a5 a6 a7 a8 a9 now : Int) (w : World) (h : a9 < 1000000) (h9 : 0 ≤ a9) (h2 : a7 ≤ now) (h3 : 0 ≤ now) (h4 : now ≤ 1000000) (h5 : 1 ≤ a8) (h6 : a8 ≤ 64) (c1 : now + a8 ≤ 1000000) (c2 : 2 * a8 ≤ 64) :
    Calls Try.prog 48 #[.agg #[.int .i64 a0, .int .i64 a1, .int .i64 a2, .int .i64 a3, .int .i64 a4, .int .i64 a5, .int .i64 a6, .int .i64 a7, .int .i64 a8, .int .i64 a9], .int .i64 now] w fun e w' => e = .returned (.tuple #[.agg #[.int .i64 a0, .int .i64 a1, .int .i64 a2, .int .i64 a3, .int .i64 0, .int .i64 0, .int .i64 now, .int .i64 (now + a8), .int .i64 (2 * a8), .int .i64 (a9 + 1)], .agg #[.int .i64 1, .int .i64 a0, .int .i64 (a9 + 1), .int .i64 a1, .int .i64 a2, .int .i64 a3, .int .i64 0, .int .i64 0, .int .i64 0, .string ⟨#[]⟩], .bool true, .int .i64 0]) ∧ Below w.heap.size w w' := by
  have hu29 := Try.underlying24
  have hu41 := Try.underlying28
  have b1 : (a9 == 1000000) = false := beq_eq_false_iff_ne.mpr (by omega)
  have b2 : decide (now < a7) = false := decide_eq_false (by omega)
  go_enter Try.func48, Try.ntmps48
  go_wp2
  go_region_held3 (fun w' => w'.cell? ⟨w.heap.size, 0, none⟩ = some (.int .i64 a0) ∧ w'.cell? ⟨w.heap.size, 1, none⟩ = some (.int .i64 a1) ∧ w'.cell? ⟨w.heap.size, 2, none⟩ = some (.int .i64 a2) ∧ w'.cell? ⟨w.heap.size, 3, none⟩ = some (.int .i64 a3) ∧ w'.cell? ⟨w.heap.size, 4, none⟩ = some (.int .i64 0) ∧ w'.cell? ⟨w.heap.size, 5, none⟩ = some (.int .i64 0) ∧ w'.cell? ⟨w.heap.size, 6, none⟩ = some (.int .i64 now) ∧ w'.cell? ⟨w.heap.size, 7, none⟩ = some (.int .i64 (now + a8)) ∧ w'.cell? ⟨w.heap.size, 8, none⟩ = some (.int .i64 (2 * a8)) ∧ w'.cell? ⟨w.heap.size, 9, none⟩ = some (.int .i64 (a9 + 1))) (go_keep) (first | fail)
  go_wp2
  refine bodyPost_ret (v := .tuple #[.agg #[.int .i64 a0, .int .i64 a1, .int .i64 a2, .int .i64 a3, .int .i64 0, .int .i64 0, .int .i64 now, .int .i64 (now + a8), .int .i64 (2 * a8), .int .i64 (a9 + 1)], .agg #[.int .i64 1, .int .i64 a0, .int .i64 (a9 + 1), .int .i64 a1, .int .i64 a2, .int .i64 a3, .int .i64 0, .int .i64 0, .int .i64 0, .string ⟨#[]⟩], .bool true, .int .i64 0]) (by simp [results, Try.results48, go_sem]) rfl ⟨rfl, ?_⟩
  (repeat (first | exact Below.refl _ _ | apply Below.drew | refine Below.alloc ?_ (by first | (simp; done) | (simp; omega)) _ | refine Below.setCell ?_ (by first | (simp; done) | (simp; omega)) _))
set_option maxHeartbeats 1000000 in
theorem ask_goes2 (a0 a1 a2 a3 a4 a5 a6 a7 a8 a9 now : Int) (w : World) (h : a9 < 1000000) (h9 : 0 ≤ a9) (h2 : a7 ≤ now) (h3 : 0 ≤ now) (h4 : now ≤ 1000000) (h5 : 1 ≤ a8) (h6 : a8 ≤ 64) (c1 : now + a8 ≤ 1000000) (c2 : 64 < 2 * a8) :
    Calls Try.prog 48 #[.agg #[.int .i64 a0, .int .i64 a1, .int .i64 a2, .int .i64 a3, .int .i64 a4, .int .i64 a5, .int .i64 a6, .int .i64 a7, .int .i64 a8, .int .i64 a9], .int .i64 now] w fun e w' => e = .returned (.tuple #[.agg #[.int .i64 a0, .int .i64 a1, .int .i64 a2, .int .i64 a3, .int .i64 0, .int .i64 0, .int .i64 now, .int .i64 (now + a8), .int .i64 64, .int .i64 (a9 + 1)], .agg #[.int .i64 1, .int .i64 a0, .int .i64 (a9 + 1), .int .i64 a1, .int .i64 a2, .int .i64 a3, .int .i64 0, .int .i64 0, .int .i64 0, .string ⟨#[]⟩], .bool true, .int .i64 0]) ∧ Below w.heap.size w w' := by
  have hu29 := Try.underlying24
  have hu41 := Try.underlying28
  have b1 : (a9 == 1000000) = false := beq_eq_false_iff_ne.mpr (by omega)
  have b2 : decide (now < a7) = false := decide_eq_false (by omega)
  go_enter Try.func48, Try.ntmps48
  go_wp2
  go_region_held3 (fun w' => w'.cell? ⟨w.heap.size, 0, none⟩ = some (.int .i64 a0) ∧ w'.cell? ⟨w.heap.size, 1, none⟩ = some (.int .i64 a1) ∧ w'.cell? ⟨w.heap.size, 2, none⟩ = some (.int .i64 a2) ∧ w'.cell? ⟨w.heap.size, 3, none⟩ = some (.int .i64 a3) ∧ w'.cell? ⟨w.heap.size, 4, none⟩ = some (.int .i64 0) ∧ w'.cell? ⟨w.heap.size, 5, none⟩ = some (.int .i64 0) ∧ w'.cell? ⟨w.heap.size, 6, none⟩ = some (.int .i64 now) ∧ w'.cell? ⟨w.heap.size, 7, none⟩ = some (.int .i64 (now + a8)) ∧ w'.cell? ⟨w.heap.size, 8, none⟩ = some (.int .i64 64) ∧ w'.cell? ⟨w.heap.size, 9, none⟩ = some (.int .i64 (a9 + 1))) (go_keep) (first | fail)
  go_wp2
  refine bodyPost_ret (v := .tuple #[.agg #[.int .i64 a0, .int .i64 a1, .int .i64 a2, .int .i64 a3, .int .i64 0, .int .i64 0, .int .i64 now, .int .i64 (now + a8), .int .i64 64, .int .i64 (a9 + 1)], .agg #[.int .i64 1, .int .i64 a0, .int .i64 (a9 + 1), .int .i64 a1, .int .i64 a2, .int .i64 a3, .int .i64 0, .int .i64 0, .int .i64 0, .string ⟨#[]⟩], .bool true, .int .i64 0]) (by simp [results, Try.results48, go_sem]) rfl ⟨rfl, ?_⟩
  (repeat (first | exact Below.refl _ _ | apply Below.drew | refine Below.alloc ?_ (by first | (simp; done) | (simp; omega)) _ | refine Below.setCell ?_ (by first | (simp; done) | (simp; omega)) _))
set_option maxHeartbeats 1000000 in
theorem ask_goes3 (a0 a1 a2 a3 a4 a5 a6 a7 a8 a9 now : Int) (w : World) (h : a9 < 1000000) (h9 : 0 ≤ a9) (h2 : a7 ≤ now) (h3 : 0 ≤ now) (h4 : now ≤ 1000000) (h5 : 1 ≤ a8) (h6 : a8 ≤ 64) (c1 : 1000000 < now + a8) (c2 : 2 * a8 ≤ 64) :
    Calls Try.prog 48 #[.agg #[.int .i64 a0, .int .i64 a1, .int .i64 a2, .int .i64 a3, .int .i64 a4, .int .i64 a5, .int .i64 a6, .int .i64 a7, .int .i64 a8, .int .i64 a9], .int .i64 now] w fun e w' => e = .returned (.tuple #[.agg #[.int .i64 a0, .int .i64 a1, .int .i64 a2, .int .i64 a3, .int .i64 0, .int .i64 0, .int .i64 now, .int .i64 1000000, .int .i64 (2 * a8), .int .i64 (a9 + 1)], .agg #[.int .i64 1, .int .i64 a0, .int .i64 (a9 + 1), .int .i64 a1, .int .i64 a2, .int .i64 a3, .int .i64 0, .int .i64 0, .int .i64 0, .string ⟨#[]⟩], .bool true, .int .i64 0]) ∧ Below w.heap.size w w' := by
  have hu29 := Try.underlying24
  have hu41 := Try.underlying28
  have b1 : (a9 == 1000000) = false := beq_eq_false_iff_ne.mpr (by omega)
  have b2 : decide (now < a7) = false := decide_eq_false (by omega)
  go_enter Try.func48, Try.ntmps48
  go_wp2
  go_region_held3 (fun w' => w'.cell? ⟨w.heap.size, 0, none⟩ = some (.int .i64 a0) ∧ w'.cell? ⟨w.heap.size, 1, none⟩ = some (.int .i64 a1) ∧ w'.cell? ⟨w.heap.size, 2, none⟩ = some (.int .i64 a2) ∧ w'.cell? ⟨w.heap.size, 3, none⟩ = some (.int .i64 a3) ∧ w'.cell? ⟨w.heap.size, 4, none⟩ = some (.int .i64 0) ∧ w'.cell? ⟨w.heap.size, 5, none⟩ = some (.int .i64 0) ∧ w'.cell? ⟨w.heap.size, 6, none⟩ = some (.int .i64 now) ∧ w'.cell? ⟨w.heap.size, 7, none⟩ = some (.int .i64 1000000) ∧ w'.cell? ⟨w.heap.size, 8, none⟩ = some (.int .i64 (2 * a8)) ∧ w'.cell? ⟨w.heap.size, 9, none⟩ = some (.int .i64 (a9 + 1))) (go_keep) (first | fail)
  go_wp2
  refine bodyPost_ret (v := .tuple #[.agg #[.int .i64 a0, .int .i64 a1, .int .i64 a2, .int .i64 a3, .int .i64 0, .int .i64 0, .int .i64 now, .int .i64 1000000, .int .i64 (2 * a8), .int .i64 (a9 + 1)], .agg #[.int .i64 1, .int .i64 a0, .int .i64 (a9 + 1), .int .i64 a1, .int .i64 a2, .int .i64 a3, .int .i64 0, .int .i64 0, .int .i64 0, .string ⟨#[]⟩], .bool true, .int .i64 0]) (by simp [results, Try.results48, go_sem]) rfl ⟨rfl, ?_⟩
  (repeat (first | exact Below.refl _ _ | apply Below.drew | refine Below.alloc ?_ (by first | (simp; done) | (simp; omega)) _ | refine Below.setCell ?_ (by first | (simp; done) | (simp; omega)) _))
set_option maxHeartbeats 1000000 in
theorem ask_goes4 (a0 a1 a2 a3 a4 a5 a6 a7 a8 a9 now : Int) (w : World) (h : a9 < 1000000) (h9 : 0 ≤ a9) (h2 : a7 ≤ now) (h3 : 0 ≤ now) (h4 : now ≤ 1000000) (h5 : 1 ≤ a8) (h6 : a8 ≤ 64) (c1 : 1000000 < now + a8) (c2 : 64 < 2 * a8) :
    Calls Try.prog 48 #[.agg #[.int .i64 a0, .int .i64 a1, .int .i64 a2, .int .i64 a3, .int .i64 a4, .int .i64 a5, .int .i64 a6, .int .i64 a7, .int .i64 a8, .int .i64 a9], .int .i64 now] w fun e w' => e = .returned (.tuple #[.agg #[.int .i64 a0, .int .i64 a1, .int .i64 a2, .int .i64 a3, .int .i64 0, .int .i64 0, .int .i64 now, .int .i64 1000000, .int .i64 64, .int .i64 (a9 + 1)], .agg #[.int .i64 1, .int .i64 a0, .int .i64 (a9 + 1), .int .i64 a1, .int .i64 a2, .int .i64 a3, .int .i64 0, .int .i64 0, .int .i64 0, .string ⟨#[]⟩], .bool true, .int .i64 0]) ∧ Below w.heap.size w w' := by
  have hu29 := Try.underlying24
  have hu41 := Try.underlying28
  have b1 : (a9 == 1000000) = false := beq_eq_false_iff_ne.mpr (by omega)
  have b2 : decide (now < a7) = false := decide_eq_false (by omega)
  go_enter Try.func48, Try.ntmps48
  go_wp2
  go_region_held3 (fun w' => w'.cell? ⟨w.heap.size, 0, none⟩ = some (.int .i64 a0) ∧ w'.cell? ⟨w.heap.size, 1, none⟩ = some (.int .i64 a1) ∧ w'.cell? ⟨w.heap.size, 2, none⟩ = some (.int .i64 a2) ∧ w'.cell? ⟨w.heap.size, 3, none⟩ = some (.int .i64 a3) ∧ w'.cell? ⟨w.heap.size, 4, none⟩ = some (.int .i64 0) ∧ w'.cell? ⟨w.heap.size, 5, none⟩ = some (.int .i64 0) ∧ w'.cell? ⟨w.heap.size, 6, none⟩ = some (.int .i64 now) ∧ w'.cell? ⟨w.heap.size, 7, none⟩ = some (.int .i64 1000000) ∧ w'.cell? ⟨w.heap.size, 8, none⟩ = some (.int .i64 64) ∧ w'.cell? ⟨w.heap.size, 9, none⟩ = some (.int .i64 (a9 + 1))) (go_keep) (first | fail)
  go_wp2
  refine bodyPost_ret (v := .tuple #[.agg #[.int .i64 a0, .int .i64 a1, .int .i64 a2, .int .i64 a3, .int .i64 0, .int .i64 0, .int .i64 now, .int .i64 1000000, .int .i64 64, .int .i64 (a9 + 1)], .agg #[.int .i64 1, .int .i64 a0, .int .i64 (a9 + 1), .int .i64 a1, .int .i64 a2, .int .i64 a3, .int .i64 0, .int .i64 0, .int .i64 0, .string ⟨#[]⟩], .bool true, .int .i64 0]) (by simp [results, Try.results48, go_sem]) rfl ⟨rfl, ?_⟩
  (repeat (first | exact Below.refl _ _ | apply Below.drew | refine Below.alloc ?_ (by first | (simp; done) | (simp; omega)) _ | refine Below.setCell ?_ (by first | (simp; done) | (simp; omega)) _))
theorem ask_goes (a0 a1 a2 a3 a4 a5 a6 a7 a8 a9 now : Int) (w : World) (h : a9 < 1000000) (h9 : 0 ≤ a9) (h2 : a7 ≤ now) (h3 : 0 ≤ now) (h4 : now ≤ 1000000) (h5 : 1 ≤ a8) (h6 : a8 ≤ 64) :
    Calls Try.prog 48 #[.agg #[.int .i64 a0, .int .i64 a1, .int .i64 a2, .int .i64 a3, .int .i64 a4, .int .i64 a5, .int .i64 a6, .int .i64 a7, .int .i64 a8, .int .i64 a9], .int .i64 now] w fun e w' => e = .returned (.tuple #[.agg #[.int .i64 a0, .int .i64 a1, .int .i64 a2, .int .i64 a3, .int .i64 0, .int .i64 0, .int .i64 now, .int .i64 (min (now + a8) 1000000), .int .i64 (min (2 * a8) 64), .int .i64 (a9 + 1)], .agg #[.int .i64 1, .int .i64 a0, .int .i64 (a9 + 1), .int .i64 a1, .int .i64 a2, .int .i64 a3, .int .i64 0, .int .i64 0, .int .i64 0, .string ⟨#[]⟩], .bool true, .int .i64 0]) ∧ Below w.heap.size w w' := by
  by_cases c1 : now + a8 ≤ 1000000 <;> by_cases c2 : 2 * a8 ≤ 64
  · rw [show min (now + a8) 1000000 = now + a8 from by omega, show min (2 * a8) 64 = 2 * a8 from by omega]
    exact ask_goes1 _ _ _ _ _ _ _ _ _ _ _ _ h h9 h2 h3 h4 h5 h6 c1 c2
  · rw [show min (now + a8) 1000000 = now + a8 from by omega, show min (2 * a8) 64 = 64 from by omega]
    exact ask_goes2 _ _ _ _ _ _ _ _ _ _ _ _ h h9 h2 h3 h4 h5 h6 c1 (by omega)
  · rw [show min (now + a8) 1000000 = 1000000 from by omega, show min (2 * a8) 64 = 2 * a8 from by omega]
    exact ask_goes3 _ _ _ _ _ _ _ _ _ _ _ _ h h9 h2 h3 h4 h5 h6 (by omega) c2
  · rw [show min (now + a8) 1000000 = 1000000 from by omega, show min (2 * a8) 64 = 64 from by omega]
    exact ask_goes4 _ _ _ _ _ _ _ _ _ _ _ _ h h9 h2 h3 h4 h5 h6 (by omega) (by omega)
end Go.Proofs.Ytddemmmbbleofaa.C
