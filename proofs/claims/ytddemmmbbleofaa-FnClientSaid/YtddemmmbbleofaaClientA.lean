/- ClientAsk of both: what it answers, case by case. No condition. -/
import Derived.Test.YtddemmmbbleofaaClient
import Derived.Laws.Tables
import Derived.Laws.CopyOwn
import Derived.Laws.Rows
namespace Go.Proofs.Ytddemmmbbleofaa.C
open Go.RowKit
set_option maxRecDepth 100000
set_option linter.unusedVariables false
theorem h3_1 (w : World) (A B C : Obj) : (((w.alloc A).alloc B).alloc C).heap[w.heap.size + 1]? = some B := by
  rw [Below.heap_alloc _ _ _ (by simp)]; exact heap_alloc2_new ..
theorem h4_1 (w : World) (A B C D : Obj) : ((((w.alloc A).alloc B).alloc C).alloc D).heap[w.heap.size + 1]? = some B := by
  rw [Below.heap_alloc _ _ _ (by simp)]; exact h3_1 ..
theorem h2_old {w : World} {A B : Obj} {k : Nat} {o : Obj} (h : w.heap[k]? = some o) (hk : k < w.heap.size) : ((w.alloc A).alloc B).heap[k]? = some o := by
  rw [Below.heap_alloc _ _ _ (by simp; omega), Below.heap_alloc _ _ _ hk]; exact h
theorem s_min (a b : Int) (w : World) : Calls Try.prog 45 #[.int .i64 a, .int .i64 b] w fun e w' => e = .returned (.int .i64 (min a b)) ∧ w = w' := by
  by_cases h : a < b
  · rw [show min a b = a from by omega]
    go_enter Try.func45, Try.ntmps45
    go_wp2
    go_ret
    exact ⟨rfl, rfl⟩
  · rw [show min a b = b from by omega]
    go_enter Try.func45, Try.ntmps45
    go_wp2
    go_ret
    exact ⟨rfl, rfl⟩
theorem clB_bounds {a0 a1 a2 a3 a4 a5 a6 a7 a8 a9 : Int} (h : clB a0 a1 a2 a3 a4 a5 a6 a7 a8 a9 = true) :
    (1 ≤ a0 ∧ a0 ≤ 1000000) ∧ (0 ≤ a1 ∧ a1 ≤ 1000000) ∧ (0 ≤ a2 ∧ a2 ≤ 1125899906842624) ∧ (1 ≤ a3 ∧ a3 ≤ 1073741824) ∧ (0 ≤ a4 ∧ a4 ≤ 1125899906842624) ∧ (0 ≤ a5 ∧ a5 ≤ 1000000) ∧ (0 ≤ a6 ∧ a6 ≤ 1000000) ∧ (0 ≤ a7 ∧ a7 ≤ 1000000) ∧ (1 ≤ a8 ∧ a8 ≤ 64) ∧ (0 ≤ a9 ∧ a9 ≤ 1000000) := by
  simp only [clB, Bool.and_eq_true, Bool.or_eq_true, beq_iff_eq, bIn_true] at h
  omega
set_option maxHeartbeats 1000000 in
theorem s_ask_form (a0 a1 a2 a3 a4 a5 a6 a7 a8 a9 now : Int) (w : World) (hr : (clB a0 a1 a2 a3 a4 a5 a6 a7 a8 a9 && bIn now 0 1000000) = false) :
    Calls Try.prog 11 #[.agg #[.int .i64 a0, .int .i64 a1, .int .i64 a2, .int .i64 a3, .int .i64 a4, .int .i64 a5, .int .i64 a6, .int .i64 a7, .int .i64 a8, .int .i64 a9], .int .i64 now] w fun e w' => e = .returned (.agg #[.int .i64 0, .int .i64 0, .int .i64 0, .int .i64 0, .int .i64 0, .int .i64 0, .int .i64 0, .int .i64 0, .int .i64 0, .int .i64 0, .int .i64 0, .int .i64 0, .int .i64 0, .int .i64 0, .int .i64 0, .int .i64 0, .int .i64 0, .int .i64 0, .int .i64 0, .string ⟨#[]⟩, .bool false, .int .i64 1]) ∧ Below w.heap.size w w' := by
  have hu29 := Try.underlying24
  have hu41 := Try.underlying28
  have hu53 := Try.underlying30
  rcases Bool.eq_false_or_eq_true (clB a0 a1 a2 a3 a4 a5 a6 a7 a8 a9) with hm | hm
  · have ht : bIn now 0 1000000 = false := by simpa [hm] using hr
    clear hr
    go_enter Try.func11, Try.ntmps11
    go_wp2_with (first | (go_at_call 43; refine (s_ClientRight _ _ _ _ _ _ _ _ _ _ _).mono ?_; rintro e w' ⟨rfl, rfl⟩) | (go_at_call 44; refine (s_time _ _).mono ?_; rintro e w' ⟨rfl, rfl⟩) | (go_at_call 45; refine (s_min _ _ _).mono ?_; rintro e w' ⟨rfl, rfl⟩) | ((with_reducible refine at_store (ty := 30) (y := .tmp 14) ?_); refine wpList_store_row rfl 30 (.tmp 4) (.tmp 14) rfl (w.heap.size + 1) _ rfl rfl _ _ (h3_1 ..) (by kernel_rfl) rfl ?_ ?_; simp [Value.oneCell']))
    refine bodyPost_ret (v := .agg #[.int .i64 0, .int .i64 0, .int .i64 0, .int .i64 0, .int .i64 0, .int .i64 0, .int .i64 0, .int .i64 0, .int .i64 0, .int .i64 0, .int .i64 0, .int .i64 0, .int .i64 0, .int .i64 0, .int .i64 0, .int .i64 0, .int .i64 0, .int .i64 0, .int .i64 0, .string ⟨#[]⟩, .bool false, .int .i64 1]) (results_cell_row rfl _ _ _ _ _ _ _ rfl (setRow_heap _ _ _ _ _ _ (h3_1 ..)) hu53 rfl (by kernel_rfl)) rfl ⟨rfl, ?_⟩
    (repeat (first | exact Below.refl _ _ | apply Below.drew | refine below_setRow ?_ (by omega) _ | refine Below.alloc ?_ (by first | (simp; done) | (simp; omega)) _ | refine Below.setCell ?_ (by first | (simp; done) | (simp; omega)) _))
  · clear hr
    go_enter Try.func11, Try.ntmps11
    go_wp2_with (first | (go_at_call 43; refine (s_ClientRight _ _ _ _ _ _ _ _ _ _ _).mono ?_; rintro e w' ⟨rfl, rfl⟩) | (go_at_call 44; refine (s_time _ _).mono ?_; rintro e w' ⟨rfl, rfl⟩) | (go_at_call 45; refine (s_min _ _ _).mono ?_; rintro e w' ⟨rfl, rfl⟩) | ((with_reducible refine at_store (ty := 30) (y := .tmp 14) ?_); refine wpList_store_row rfl 30 (.tmp 4) (.tmp 14) rfl (w.heap.size + 1) _ rfl rfl _ _ (h3_1 ..) (by kernel_rfl) rfl ?_ ?_; simp [Value.oneCell']))
    refine bodyPost_ret (v := .agg #[.int .i64 0, .int .i64 0, .int .i64 0, .int .i64 0, .int .i64 0, .int .i64 0, .int .i64 0, .int .i64 0, .int .i64 0, .int .i64 0, .int .i64 0, .int .i64 0, .int .i64 0, .int .i64 0, .int .i64 0, .int .i64 0, .int .i64 0, .int .i64 0, .int .i64 0, .string ⟨#[]⟩, .bool false, .int .i64 1]) (results_cell_row rfl _ _ _ _ _ _ _ rfl (setRow_heap _ _ _ _ _ _ (h3_1 ..)) hu53 rfl (by kernel_rfl)) rfl ⟨rfl, ?_⟩
    (repeat (first | exact Below.refl _ _ | apply Below.drew | refine below_setRow ?_ (by omega) _ | refine Below.alloc ?_ (by first | (simp; done) | (simp; omega)) _ | refine Below.setCell ?_ (by first | (simp; done) | (simp; omega)) _))
set_option maxHeartbeats 1000000 in
theorem s_ask_state (a0 a1 a2 a3 a4 a5 a6 a7 a8 a9 now : Int) (w : World) (hr : (clB a0 a1 a2 a3 a4 a5 a6 a7 a8 a9 && bIn now 0 1000000) = true) (h9 : a9 = 1000000) :
    Calls Try.prog 11 #[.agg #[.int .i64 a0, .int .i64 a1, .int .i64 a2, .int .i64 a3, .int .i64 a4, .int .i64 a5, .int .i64 a6, .int .i64 a7, .int .i64 a8, .int .i64 a9], .int .i64 now] w fun e w' => e = .returned (.agg #[.int .i64 0, .int .i64 0, .int .i64 0, .int .i64 0, .int .i64 0, .int .i64 0, .int .i64 0, .int .i64 0, .int .i64 0, .int .i64 0, .int .i64 0, .int .i64 0, .int .i64 0, .int .i64 0, .int .i64 0, .int .i64 0, .int .i64 0, .int .i64 0, .int .i64 0, .string ⟨#[]⟩, .bool false, .int .i64 9]) ∧ Below w.heap.size w w' := by
  have hu29 := Try.underlying24
  have hu41 := Try.underlying28
  have hu53 := Try.underlying30
  obtain ⟨hm, ht⟩ := Bool.and_eq_true_iff.mp hr
  obtain ⟨⟨x0, y0⟩, ⟨x1, y1⟩, ⟨x2, y2⟩, ⟨x3, y3⟩, ⟨x4, y4⟩, ⟨x5, y5⟩, ⟨x6, y6⟩, ⟨x7, y7⟩, ⟨x8, y8⟩, ⟨x9, y9⟩⟩ := clB_bounds hm
  clear hr
  subst h9
  go_enter Try.func11, Try.ntmps11
  go_wp2_with (first | (go_at_call 43; refine (s_ClientRight _ _ _ _ _ _ _ _ _ _ _).mono ?_; rintro e w' ⟨rfl, rfl⟩) | (go_at_call 44; refine (s_time _ _).mono ?_; rintro e w' ⟨rfl, rfl⟩) | (go_at_call 45; refine (s_min _ _ _).mono ?_; rintro e w' ⟨rfl, rfl⟩) | ((with_reducible refine at_store (ty := 30) (y := .tmp 18) ?_); refine wpList_store_row rfl 30 (.tmp 4) (.tmp 18) rfl (w.heap.size + 1) _ rfl rfl _ _ (h3_1 ..) (by kernel_rfl) rfl ?_ ?_; simp [Value.oneCell']))
  refine bodyPost_ret (v := .agg #[.int .i64 0, .int .i64 0, .int .i64 0, .int .i64 0, .int .i64 0, .int .i64 0, .int .i64 0, .int .i64 0, .int .i64 0, .int .i64 0, .int .i64 0, .int .i64 0, .int .i64 0, .int .i64 0, .int .i64 0, .int .i64 0, .int .i64 0, .int .i64 0, .int .i64 0, .string ⟨#[]⟩, .bool false, .int .i64 9]) (results_cell_row rfl _ _ _ _ _ _ _ rfl (setRow_heap _ _ _ _ _ _ (h3_1 ..)) hu53 rfl (by kernel_rfl)) rfl ⟨rfl, ?_⟩
  (repeat (first | exact Below.refl _ _ | apply Below.drew | refine below_setRow ?_ (by omega) _ | refine Below.alloc ?_ (by first | (simp; done) | (simp; omega)) _ | refine Below.setCell ?_ (by first | (simp; done) | (simp; omega)) _))
set_option maxHeartbeats 1000000 in
theorem s_ask_wait (a0 a1 a2 a3 a4 a5 a6 a7 a8 a9 now : Int) (w : World) (hr : (clB a0 a1 a2 a3 a4 a5 a6 a7 a8 a9 && bIn now 0 1000000) = true) (h9 : a9 ≠ 1000000) (h7 : now < a7) :
    Calls Try.prog 11 #[.agg #[.int .i64 a0, .int .i64 a1, .int .i64 a2, .int .i64 a3, .int .i64 a4, .int .i64 a5, .int .i64 a6, .int .i64 a7, .int .i64 a8, .int .i64 a9], .int .i64 now] w fun e w' => e = .returned (.agg #[.int .i64 a0, .int .i64 a1, .int .i64 a2, .int .i64 a3, .int .i64 a4, .int .i64 a5, .int .i64 a6, .int .i64 a7, .int .i64 a8, .int .i64 a9, .int .i64 0, .int .i64 0, .int .i64 0, .int .i64 0, .int .i64 0, .int .i64 0, .int .i64 0, .int .i64 0, .int .i64 0, .string ⟨#[]⟩, .bool false, .int .i64 0]) ∧ Below w.heap.size w w' := by
  have hu29 := Try.underlying24
  have hu41 := Try.underlying28
  have hu53 := Try.underlying30
  obtain ⟨hm, ht⟩ := Bool.and_eq_true_iff.mp hr
  obtain ⟨⟨x0, y0⟩, ⟨x1, y1⟩, ⟨x2, y2⟩, ⟨x3, y3⟩, ⟨x4, y4⟩, ⟨x5, y5⟩, ⟨x6, y6⟩, ⟨x7, y7⟩, ⟨x8, y8⟩, ⟨x9, y9⟩⟩ := clB_bounds hm
  clear hr
  have HA := Lib.hid (And.intro h9 h7)
  have b1 : (a9 == 1000000) = false := beq_eq_false_iff_ne.mpr h9
  have b2' : decide (now < a7) = true := decide_eq_true h7
  clear h9
  go_enter Try.func11, Try.ntmps11
  go_wp2_with (first | (go_at_call 43; refine (s_ClientRight _ _ _ _ _ _ _ _ _ _ _).mono ?_; rintro e w' ⟨rfl, rfl⟩) | (go_at_call 44; refine (s_time _ _).mono ?_; rintro e w' ⟨rfl, rfl⟩) | (go_at_call 45; refine (s_min _ _ _).mono ?_; rintro e w' ⟨rfl, rfl⟩) | ((with_reducible refine at_store (ty := 30) (y := .tmp 24) ?_); refine wpList_store_row rfl 30 (.tmp 4) (.tmp 24) rfl (w.heap.size + 1) _ rfl rfl _ _ (h3_1 ..) (by kernel_rfl) rfl ?_ ?_; simp [Value.oneCell']))
  refine bodyPost_ret (v := .agg #[.int .i64 a0, .int .i64 a1, .int .i64 a2, .int .i64 a3, .int .i64 a4, .int .i64 a5, .int .i64 a6, .int .i64 a7, .int .i64 a8, .int .i64 a9, .int .i64 0, .int .i64 0, .int .i64 0, .int .i64 0, .int .i64 0, .int .i64 0, .int .i64 0, .int .i64 0, .int .i64 0, .string ⟨#[]⟩, .bool false, .int .i64 0]) (results_cell_row rfl _ _ _ _ _ _ _ rfl (setRow_heap _ _ _ _ _ _ (h3_1 ..)) hu53 rfl (by kernel_rfl)) rfl ⟨rfl, ?_⟩
  (repeat (first | exact Below.refl _ _ | apply Below.drew | refine below_setRow ?_ (by omega) _ | refine Below.alloc ?_ (by first | (simp; done) | (simp; omega)) _ | refine Below.setCell ?_ (by first | (simp; done) | (simp; omega)) _))
set_option maxHeartbeats 1000000 in
theorem s_ask_goes (a0 a1 a2 a3 a4 a5 a6 a7 a8 a9 now : Int) (w : World) (hr : (clB a0 a1 a2 a3 a4 a5 a6 a7 a8 a9 && bIn now 0 1000000) = true) (h9 : a9 ≠ 1000000) (h7 : a7 ≤ now) :
    Calls Try.prog 11 #[.agg #[.int .i64 a0, .int .i64 a1, .int .i64 a2, .int .i64 a3, .int .i64 a4, .int .i64 a5, .int .i64 a6, .int .i64 a7, .int .i64 a8, .int .i64 a9], .int .i64 now] w fun e w' => e = .returned (.agg #[.int .i64 a0, .int .i64 a1, .int .i64 a2, .int .i64 a3, .int .i64 0, .int .i64 0, .int .i64 now, .int .i64 (min 1000000 (now + a8)), .int .i64 (min 64 (2 * a8)), .int .i64 (a9 + 1), .int .i64 1, .int .i64 a0, .int .i64 (a9 + 1), .int .i64 a1, .int .i64 a2, .int .i64 a3, .int .i64 0, .int .i64 0, .int .i64 0, .string ⟨#[]⟩, .bool true, .int .i64 0]) ∧ Below w.heap.size w w' := by
  have hu29 := Try.underlying24
  have hu41 := Try.underlying28
  have hu53 := Try.underlying30
  obtain ⟨hm, ht⟩ := Bool.and_eq_true_iff.mp hr
  obtain ⟨⟨x0, y0⟩, ⟨x1, y1⟩, ⟨x2, y2⟩, ⟨x3, y3⟩, ⟨x4, y4⟩, ⟨x5, y5⟩, ⟨x6, y6⟩, ⟨x7, y7⟩, ⟨x8, y8⟩, ⟨x9, y9⟩⟩ := clB_bounds hm
  clear hr
  have HA := Lib.hid (bIn_true.mp ht)
  have hn1 : now ≤ 1000000 := HA.out.2
  have hn0 : 0 ≤ now := HA.out.1
  have b1 : (a9 == 1000000) = false := beq_eq_false_iff_ne.mpr h9
  have b2' : decide (now < a7) = false := decide_eq_false (by omega)
  go_enter Try.func11, Try.ntmps11
  go_wp2_with (first | (go_at_call 43; refine (s_ClientRight _ _ _ _ _ _ _ _ _ _ _).mono ?_; rintro e w' ⟨rfl, rfl⟩) | (go_at_call 44; refine (s_time _ _).mono ?_; rintro e w' ⟨rfl, rfl⟩) | (go_at_call 45; refine (s_min _ _ _).mono ?_; rintro e w' ⟨rfl, rfl⟩) | ((with_reducible refine at_store (ty := 30) (y := .tmp 57) ?_); refine wpList_store_row rfl 30 (.tmp 4) (.tmp 57) rfl (w.heap.size + 1) _ rfl rfl _ _ (h4_1 ..) (by kernel_rfl) rfl ?_ ?_; simp [Value.oneCell']))
  refine bodyPost_ret (v := .agg #[.int .i64 a0, .int .i64 a1, .int .i64 a2, .int .i64 a3, .int .i64 0, .int .i64 0, .int .i64 now, .int .i64 (min 1000000 (now + a8)), .int .i64 (min 64 (2 * a8)), .int .i64 (a9 + 1), .int .i64 1, .int .i64 a0, .int .i64 (a9 + 1), .int .i64 a1, .int .i64 a2, .int .i64 a3, .int .i64 0, .int .i64 0, .int .i64 0, .string ⟨#[]⟩, .bool true, .int .i64 0]) (results_cell_row rfl _ _ _ _ _ _ _ rfl (setRow_heap _ _ _ _ _ _ (h4_1 ..)) hu53 rfl (by kernel_rfl)) rfl ⟨rfl, ?_⟩
  (repeat (first | exact Below.refl _ _ | apply Below.drew | refine below_setRow ?_ (by omega) _ | refine Below.alloc ?_ (by first | (simp; done) | (simp; omega)) _ | refine Below.setCell ?_ (by first | (simp; done) | (simp; omega)) _))
set_option maxHeartbeats 1000000 in
theorem c_ask_form (a0 a1 a2 a3 a4 a5 a6 a7 a8 a9 now : Int) (w : World) (hr : (clB a0 a1 a2 a3 a4 a5 a6 a7 a8 a9 && bIn now 0 1000000) = false) :
    Calls Try.prog 12 #[.agg #[.int .i64 a0, .int .i64 a1, .int .i64 a2, .int .i64 a3, .int .i64 a4, .int .i64 a5, .int .i64 a6, .int .i64 a7, .int .i64 a8, .int .i64 a9], .int .i64 now] w fun e w' => e = .returned (.agg #[.int .i64 0, .int .i64 0, .int .i64 0, .int .i64 0, .int .i64 0, .int .i64 0, .int .i64 0, .int .i64 0, .int .i64 0, .int .i64 0, .int .i64 0, .int .i64 0, .int .i64 0, .int .i64 0, .int .i64 0, .int .i64 0, .int .i64 0, .int .i64 0, .int .i64 0, .string ⟨#[]⟩, .bool false, .int .i64 1]) ∧ Below w.heap.size w w' := by
  have hu29 := Try.underlying24
  have hu41 := Try.underlying28
  have hu53 := Try.underlying30
  rcases Bool.eq_false_or_eq_true (clB a0 a1 a2 a3 a4 a5 a6 a7 a8 a9) with hm | hm
  · have ht : bIn now 0 1000000 = false := by simpa [hm] using hr
    clear hr
    go_enter Try.func12, Try.ntmps12
    go_wp2_with (first | (go_at_call 46; refine (c_ClientRight _ _ _ _ _ _ _ _ _ _ _).mono ?_; rintro e w' ⟨rfl, rfl⟩) | (go_at_call 47; refine (c_isTime _ _).mono ?_; rintro e w' ⟨rfl, rfl⟩) | ((with_reducible refine at_store (ty := 30) (y := .tmp 17) ?_); refine wpList_store_row rfl 30 (.tmp 4) (.tmp 17) rfl (w.heap.size + 1) _ rfl rfl _ _ (h3_1 ..) (by kernel_rfl) rfl ?_ ?_; simp [Value.oneCell']))
    refine bodyPost_ret (v := .agg #[.int .i64 0, .int .i64 0, .int .i64 0, .int .i64 0, .int .i64 0, .int .i64 0, .int .i64 0, .int .i64 0, .int .i64 0, .int .i64 0, .int .i64 0, .int .i64 0, .int .i64 0, .int .i64 0, .int .i64 0, .int .i64 0, .int .i64 0, .int .i64 0, .int .i64 0, .string ⟨#[]⟩, .bool false, .int .i64 1]) (results_cell_row rfl _ _ _ _ _ _ _ rfl (setRow_heap _ _ _ _ _ _ (h3_1 ..)) hu53 rfl (by kernel_rfl)) rfl ⟨rfl, ?_⟩
    (repeat (first | exact Below.refl _ _ | apply Below.drew | refine below_setRow ?_ (by omega) _ | refine Below.alloc ?_ (by first | (simp; done) | (simp; omega)) _ | refine Below.setCell ?_ (by first | (simp; done) | (simp; omega)) _))
  · clear hr
    go_enter Try.func12, Try.ntmps12
    go_wp2_with (first | (go_at_call 46; refine (c_ClientRight _ _ _ _ _ _ _ _ _ _ _).mono ?_; rintro e w' ⟨rfl, rfl⟩) | (go_at_call 47; refine (c_isTime _ _).mono ?_; rintro e w' ⟨rfl, rfl⟩) | ((with_reducible refine at_store (ty := 30) (y := .tmp 17) ?_); refine wpList_store_row rfl 30 (.tmp 4) (.tmp 17) rfl (w.heap.size + 1) _ rfl rfl _ _ (h3_1 ..) (by kernel_rfl) rfl ?_ ?_; simp [Value.oneCell']))
    refine bodyPost_ret (v := .agg #[.int .i64 0, .int .i64 0, .int .i64 0, .int .i64 0, .int .i64 0, .int .i64 0, .int .i64 0, .int .i64 0, .int .i64 0, .int .i64 0, .int .i64 0, .int .i64 0, .int .i64 0, .int .i64 0, .int .i64 0, .int .i64 0, .int .i64 0, .int .i64 0, .int .i64 0, .string ⟨#[]⟩, .bool false, .int .i64 1]) (results_cell_row rfl _ _ _ _ _ _ _ rfl (setRow_heap _ _ _ _ _ _ (h3_1 ..)) hu53 rfl (by kernel_rfl)) rfl ⟨rfl, ?_⟩
    (repeat (first | exact Below.refl _ _ | apply Below.drew | refine below_setRow ?_ (by omega) _ | refine Below.alloc ?_ (by first | (simp; done) | (simp; omega)) _ | refine Below.setCell ?_ (by first | (simp; done) | (simp; omega)) _))
set_option maxHeartbeats 1000000 in
theorem c_ask_state (a0 a1 a2 a3 a4 a5 a6 a7 a8 a9 now : Int) (w : World) (hr : (clB a0 a1 a2 a3 a4 a5 a6 a7 a8 a9 && bIn now 0 1000000) = true) (h9 : a9 = 1000000) :
    Calls Try.prog 12 #[.agg #[.int .i64 a0, .int .i64 a1, .int .i64 a2, .int .i64 a3, .int .i64 a4, .int .i64 a5, .int .i64 a6, .int .i64 a7, .int .i64 a8, .int .i64 a9], .int .i64 now] w fun e w' => e = .returned (.agg #[.int .i64 0, .int .i64 0, .int .i64 0, .int .i64 0, .int .i64 0, .int .i64 0, .int .i64 0, .int .i64 0, .int .i64 0, .int .i64 0, .int .i64 0, .int .i64 0, .int .i64 0, .int .i64 0, .int .i64 0, .int .i64 0, .int .i64 0, .int .i64 0, .int .i64 0, .string ⟨#[]⟩, .bool false, .int .i64 9]) ∧ Below w.heap.size w w' := by
  have hu29 := Try.underlying24
  have hu41 := Try.underlying28
  have hu53 := Try.underlying30
  obtain ⟨hm, ht⟩ := Bool.and_eq_true_iff.mp hr
  obtain ⟨⟨x0, y0⟩, ⟨x1, y1⟩, ⟨x2, y2⟩, ⟨x3, y3⟩, ⟨x4, y4⟩, ⟨x5, y5⟩, ⟨x6, y6⟩, ⟨x7, y7⟩, ⟨x8, y8⟩, ⟨x9, y9⟩⟩ := clB_bounds hm
  clear hr
  subst h9
  go_enter Try.func12, Try.ntmps12
  go_wp2_with (first | (go_at_call 46; refine (c_ClientRight _ _ _ _ _ _ _ _ _ _ _).mono ?_; rintro e w' ⟨rfl, rfl⟩) | (go_at_call 47; refine (c_isTime _ _).mono ?_; rintro e w' ⟨rfl, rfl⟩))
  refine (ask_end _ _ _ _ _ _ _ _ _ _ _).mono ?_; rintro e w2 ⟨rfl, b2⟩
  have g1 := (b2.block (w.heap.size + 1) (by simp)).trans (h3_1 ..)
  go_wp2_with ((with_reducible refine at_store (ty := 30) (y := .tmp 30) ?_); refine wpList_store_row rfl 30 (.tmp 4) (.tmp 30) rfl (w.heap.size + 1) _ rfl rfl _ _ (h2_old g1 (by have := b2.size; simp at this; first | done | omega)) (by kernel_rfl) rfl ?_ ?_; simp [Value.oneCell'])
  refine bodyPost_ret (v := .agg #[.int .i64 0, .int .i64 0, .int .i64 0, .int .i64 0, .int .i64 0, .int .i64 0, .int .i64 0, .int .i64 0, .int .i64 0, .int .i64 0, .int .i64 0, .int .i64 0, .int .i64 0, .int .i64 0, .int .i64 0, .int .i64 0, .int .i64 0, .int .i64 0, .int .i64 0, .string ⟨#[]⟩, .bool false, .int .i64 9]) (results_cell_row rfl _ _ _ _ _ _ _ rfl (setRow_heap _ _ _ _ _ _ (h2_old g1 (by have := b2.size; simp at this; first | done | omega))) hu53 rfl (by kernel_rfl)) rfl ⟨rfl, ?_⟩
  refine below_setRow ?_ (by omega) _
  refine Below.alloc (Below.alloc ?_ (by have := b2.size; simp at this; first | done | omega) _) (by have := b2.size; simp at this; simp; omega) _
  exact ((((Below.refl _ w).alloc (Nat.le_refl _) _).alloc (by simp) _).alloc (by simp; omega) _).trans (b2.mono (by simp; omega))
set_option maxHeartbeats 1000000 in
theorem c_ask_wait (a0 a1 a2 a3 a4 a5 a6 a7 a8 a9 now : Int) (w : World) (hr : (clB a0 a1 a2 a3 a4 a5 a6 a7 a8 a9 && bIn now 0 1000000) = true) (h9 : a9 ≠ 1000000) (h7 : now < a7) :
    Calls Try.prog 12 #[.agg #[.int .i64 a0, .int .i64 a1, .int .i64 a2, .int .i64 a3, .int .i64 a4, .int .i64 a5, .int .i64 a6, .int .i64 a7, .int .i64 a8, .int .i64 a9], .int .i64 now] w fun e w' => e = .returned (.agg #[.int .i64 a0, .int .i64 a1, .int .i64 a2, .int .i64 a3, .int .i64 a4, .int .i64 a5, .int .i64 a6, .int .i64 a7, .int .i64 a8, .int .i64 a9, .int .i64 0, .int .i64 0, .int .i64 0, .int .i64 0, .int .i64 0, .int .i64 0, .int .i64 0, .int .i64 0, .int .i64 0, .string ⟨#[]⟩, .bool false, .int .i64 0]) ∧ Below w.heap.size w w' := by
  have hu29 := Try.underlying24
  have hu41 := Try.underlying28
  have hu53 := Try.underlying30
  obtain ⟨hm, ht⟩ := Bool.and_eq_true_iff.mp hr
  obtain ⟨⟨x0, y0⟩, ⟨x1, y1⟩, ⟨x2, y2⟩, ⟨x3, y3⟩, ⟨x4, y4⟩, ⟨x5, y5⟩, ⟨x6, y6⟩, ⟨x7, y7⟩, ⟨x8, y8⟩, ⟨x9, y9⟩⟩ := clB_bounds hm
  clear hr
  have HA := Lib.hid (And.intro h9 h7)
  have b1 : (a9 == 1000000) = false := beq_eq_false_iff_ne.mpr h9
  have b2' : decide (now < a7) = true := decide_eq_true h7
  clear h9
  go_enter Try.func12, Try.ntmps12
  go_wp2_with (first | (go_at_call 46; refine (c_ClientRight _ _ _ _ _ _ _ _ _ _ _).mono ?_; rintro e w' ⟨rfl, rfl⟩) | (go_at_call 47; refine (c_isTime _ _).mono ?_; rintro e w' ⟨rfl, rfl⟩))
  refine (ask_wait _ _ _ _ _ _ _ _ _ _ _ _ HA.out.1 HA.out.2).mono ?_; rintro e w2 ⟨rfl, b2⟩
  have g1 := (b2.block (w.heap.size + 1) (by simp)).trans (h3_1 ..)
  go_wp2_with ((with_reducible refine at_store (ty := 30) (y := .tmp 30) ?_); refine wpList_store_row rfl 30 (.tmp 4) (.tmp 30) rfl (w.heap.size + 1) _ rfl rfl _ _ (h2_old g1 (by have := b2.size; simp at this; first | done | omega)) (by kernel_rfl) rfl ?_ ?_; simp [Value.oneCell'])
  refine bodyPost_ret (v := .agg #[.int .i64 a0, .int .i64 a1, .int .i64 a2, .int .i64 a3, .int .i64 a4, .int .i64 a5, .int .i64 a6, .int .i64 a7, .int .i64 a8, .int .i64 a9, .int .i64 0, .int .i64 0, .int .i64 0, .int .i64 0, .int .i64 0, .int .i64 0, .int .i64 0, .int .i64 0, .int .i64 0, .string ⟨#[]⟩, .bool false, .int .i64 0]) (results_cell_row rfl _ _ _ _ _ _ _ rfl (setRow_heap _ _ _ _ _ _ (h2_old g1 (by have := b2.size; simp at this; first | done | omega))) hu53 rfl (by kernel_rfl)) rfl ⟨rfl, ?_⟩
  refine below_setRow ?_ (by omega) _
  refine Below.alloc (Below.alloc ?_ (by have := b2.size; simp at this; first | done | omega) _) (by have := b2.size; simp at this; simp; omega) _
  exact ((((Below.refl _ w).alloc (Nat.le_refl _) _).alloc (by simp) _).alloc (by simp; omega) _).trans (b2.mono (by simp; omega))
set_option maxHeartbeats 1000000 in
theorem c_ask_goes (a0 a1 a2 a3 a4 a5 a6 a7 a8 a9 now : Int) (w : World) (hr : (clB a0 a1 a2 a3 a4 a5 a6 a7 a8 a9 && bIn now 0 1000000) = true) (h9 : a9 ≠ 1000000) (h7 : a7 ≤ now) :
    Calls Try.prog 12 #[.agg #[.int .i64 a0, .int .i64 a1, .int .i64 a2, .int .i64 a3, .int .i64 a4, .int .i64 a5, .int .i64 a6, .int .i64 a7, .int .i64 a8, .int .i64 a9], .int .i64 now] w fun e w' => e = .returned (.agg #[.int .i64 a0, .int .i64 a1, .int .i64 a2, .int .i64 a3, .int .i64 0, .int .i64 0, .int .i64 now, .int .i64 (min (now + a8) 1000000), .int .i64 (min (2 * a8) 64), .int .i64 (a9 + 1), .int .i64 1, .int .i64 a0, .int .i64 (a9 + 1), .int .i64 a1, .int .i64 a2, .int .i64 a3, .int .i64 0, .int .i64 0, .int .i64 0, .string ⟨#[]⟩, .bool true, .int .i64 0]) ∧ Below w.heap.size w w' := by
  have hu29 := Try.underlying24
  have hu41 := Try.underlying28
  have hu53 := Try.underlying30
  obtain ⟨hm, ht⟩ := Bool.and_eq_true_iff.mp hr
  obtain ⟨⟨x0, y0⟩, ⟨x1, y1⟩, ⟨x2, y2⟩, ⟨x3, y3⟩, ⟨x4, y4⟩, ⟨x5, y5⟩, ⟨x6, y6⟩, ⟨x7, y7⟩, ⟨x8, y8⟩, ⟨x9, y9⟩⟩ := clB_bounds hm
  clear hr
  have HA := Lib.hid (bIn_true.mp ht)
  have hn1 : now ≤ 1000000 := HA.out.2
  have hn0 : 0 ≤ now := HA.out.1
  have b1 : (a9 == 1000000) = false := beq_eq_false_iff_ne.mpr h9
  have b2' : decide (now < a7) = false := decide_eq_false (by omega)
  go_enter Try.func12, Try.ntmps12
  go_wp2_with (first | (go_at_call 46; refine (c_ClientRight _ _ _ _ _ _ _ _ _ _ _).mono ?_; rintro e w' ⟨rfl, rfl⟩) | (go_at_call 47; refine (c_isTime _ _).mono ?_; rintro e w' ⟨rfl, rfl⟩))
  refine (ask_goes _ _ _ _ _ _ _ _ _ _ _ _ (by omega) x9 h7 HA.out.1 HA.out.2 x8 y8).mono ?_; rintro e w2 ⟨rfl, b2⟩
  have g1 := (b2.block (w.heap.size + 1) (by simp)).trans (h3_1 ..)
  go_wp2_with ((with_reducible refine at_store (ty := 30) (y := .tmp 30) ?_); refine wpList_store_row rfl 30 (.tmp 4) (.tmp 30) rfl (w.heap.size + 1) _ rfl rfl _ _ (h2_old g1 (by have := b2.size; simp at this; first | done | omega)) (by kernel_rfl) rfl ?_ ?_; simp [Value.oneCell'])
  refine bodyPost_ret (v := .agg #[.int .i64 a0, .int .i64 a1, .int .i64 a2, .int .i64 a3, .int .i64 0, .int .i64 0, .int .i64 now, .int .i64 (min (now + a8) 1000000), .int .i64 (min (2 * a8) 64), .int .i64 (a9 + 1), .int .i64 1, .int .i64 a0, .int .i64 (a9 + 1), .int .i64 a1, .int .i64 a2, .int .i64 a3, .int .i64 0, .int .i64 0, .int .i64 0, .string ⟨#[]⟩, .bool true, .int .i64 0]) (results_cell_row rfl _ _ _ _ _ _ _ rfl (setRow_heap _ _ _ _ _ _ (h2_old g1 (by have := b2.size; simp at this; first | done | omega))) hu53 rfl (by kernel_rfl)) rfl ⟨rfl, ?_⟩
  refine below_setRow ?_ (by omega) _
  refine Below.alloc (Below.alloc ?_ (by have := b2.size; simp at this; first | done | omega) _) (by have := b2.size; simp at this; simp; omega) _
  exact ((((Below.refl _ w).alloc (Nat.le_refl _) _).alloc (by simp) _).alloc (by simp; omega) _).trans (b2.mono (by simp; omega))
end Go.Proofs.Ytddemmmbbleofaa.C
