/- ClientHear of both: what it answers, case by case. No condition. -/
import Derived.Test.YtddemmmbbleofaaClientA
import Derived.Test.YtddemmmbbleofaaMsgR
import Derived.Test.YtddemmmbbleofaaLaw
import Derived.IntWalk
namespace Go.Proofs.Ytddemmmbbleofaa.C
open Go.RowKit
set_option maxRecDepth 100000
set_option linter.unusedVariables false
attribute [local go_sem ↓] Go.wp_at_zero Go.wp_at_succ
theorem msgB_bounds {k id seq g wa we am un co : Int} {n : Nat} (h : msgB k id seq g wa we am un co n = true) (hk : k = 3) : (0 ≤ am ∧ am ≤ 1125899906842624) ∧ (0 ≤ un ∧ un ≤ 1000000) ∧ (0 ≤ co ∧ co ≤ 9) := by
  subst hk
  simp [msgB, bIn_true] at h
  omega
theorem tdiv_bounds (a b : Int) (h0 : 0 ≤ a) (h1 : a ≤ 1000000) (h2 : 0 ≤ b) (h3 : b ≤ 1000000) : -1000000 ≤ (a - b).tdiv 2 ∧ (a - b).tdiv 2 ≤ 1000000 := by
  rcases Int.le_total 0 (a - b) with h | h
  · rw [Int.tdiv_eq_ediv_of_nonneg h]; omega
  · have e : (a - b).tdiv 2 = -((b - a).tdiv 2) := by rw [show a - b = -(b - a) from by omega, Int.neg_tdiv]
    rw [e, Int.tdiv_eq_ediv_of_nonneg (by omega)]; omega
theorem s_max (a b : Int) (w : World) : Calls Try.prog 73 #[.int .i64 a, .int .i64 b] w fun e w' => e = .returned (.int .i64 (max a b)) ∧ w = w' := by
  by_cases h : a > b
  · rw [show max a b = a from by omega]
    go_enter Try.func73, Try.ntmps73
    go_wp2
    go_ret
    exact ⟨rfl, rfl⟩
  · rw [show max a b = b from by omega]
    go_enter Try.func73, Try.ntmps73
    go_wp2
    go_ret
    exact ⟨rfl, rfl⟩
theorem h4_2 (w : World) (A B C D : Obj) : ((((w.alloc A).alloc B).alloc C).alloc D).heap[w.heap.size + 2]? = some C := by
  rw [Below.heap_alloc _ _ _ (by simp)]; simpa using heap_alloc2_new (w.alloc A) B C
theorem h4_0 (w : World) (A B C D : Obj) : ((((w.alloc A).alloc B).alloc C).alloc D).heap[w.heap.size]? = some A := by
  rw [Below.heap_alloc _ _ _ (by simp; omega), Below.heap_alloc _ _ _ (by simp; omega)]; exact heap_alloc2_old w A B
set_option maxHeartbeats 1000000 in
theorem s_hear_form (a0 a1 a2 a3 a4 a5 a6 a7 a8 a9 now k id seq g wa we am un co : Int) (s : ByteArray) (w : World) (hs : s.size ≤ 9223372036854775807) (h : (clB a0 a1 a2 a3 a4 a5 a6 a7 a8 a9 && (msgB k id seq g wa we am un co s.size && bIn now 0 1000000)) = false) :
    Calls Try.prog 81 #[.agg #[.int .i64 a0, .int .i64 a1, .int .i64 a2, .int .i64 a3, .int .i64 a4, .int .i64 a5, .int .i64 a6, .int .i64 a7, .int .i64 a8, .int .i64 a9], .int .i64 now, .agg #[.int .i64 k, .int .i64 id, .int .i64 seq, .int .i64 g, .int .i64 wa, .int .i64 we, .int .i64 am, .int .i64 un, .int .i64 co, .string s]] w fun e w' => e = .returned (.agg #[.int .i64 0, .int .i64 0, .int .i64 0, .int .i64 0, .int .i64 0, .int .i64 0, .int .i64 0, .int .i64 0, .int .i64 0, .int .i64 0, .int .i64 0, .int .i64 0, .int .i64 0, .int .i64 0, .int .i64 0, .int .i64 0, .int .i64 0, .int .i64 0, .int .i64 0, .string ⟨#[]⟩, .bool false, .int .i64 1]) ∧ Below w.heap.size w w' := by
  have hu29 := Try.underlying24; have hu41 := Try.underlying28; have hu53 := Try.underlying30
  by_cases h1 : clB a0 a1 a2 a3 a4 a5 a6 a7 a8 a9 = true
  · by_cases h2 : msgB k id seq g wa we am un co s.size = true
    · have h3 : bIn now 0 1000000 = false := by simpa [h1, h2] using h
      clear h
      go_enter Try.func81, Try.ntmps81
      go_wp2_with (first | (go_at_call 43; refine (s_ClientRight _ _ _ _ _ _ _ _ _ _ _).mono ?_; rintro e w' ⟨rfl, rfl⟩) | (go_at_call 57; refine (s_MsgRight _ _ _ _ _ _ _ _ _ _ _ hs).mono ?_; rintro e w' ⟨rfl, hb⟩; obtain ⟨hcc, hff⟩ := bcell hb; have hz := hb.size; simp at hz) | (go_at_call 44; refine (s_time _ _).mono ?_; rintro e w' ⟨rfl, rfl⟩) | ((with_reducible refine at_store (ty := 30) (y := .tmp 21) ?_); refine wpl_store_row rfl 30 (.tmp 6) (.tmp 21) rfl (w.heap.size + 2) _ rfl rfl (B := w.heap.size) (n := 22) (t := 30) ?_ rfl (by kernel_rfl) ?_ (fun hblk => ?_); (focus (repeat (first | (with_reducible refine Room.drew ?_) | (with_reducible refine Room.set_far ?_ (by dsimp only; omega) _) | (with_reducible refine Room.keep ?_ hb) | (with_reducible exact Room.of (by omega) (h4_2 ..) rfl)))); (focus (simp [Value.oneCell']))))
      refine bodyPost_ret (v := .agg #[.int .i64 0, .int .i64 0, .int .i64 0, .int .i64 0, .int .i64 0, .int .i64 0, .int .i64 0, .int .i64 0, .int .i64 0, .int .i64 0, .int .i64 0, .int .i64 0, .int .i64 0, .int .i64 0, .int .i64 0, .int .i64 0, .int .i64 0, .int .i64 0, .int .i64 0, .string ⟨#[]⟩, .bool false, .int .i64 1]) (results_cell_row rfl _ _ _ _ _ _ _ rfl hblk.2 Try.underlying30 rfl (by kernel_rfl)) rfl ⟨rfl, by (repeat (first | exact Below.refl _ _ | (with_reducible refine below_setRow ?_ (by omega) _) | (with_reducible apply Below.drew) | (with_reducible refine Below.alloc ?_ (by first | (simp; done) | (simp; omega)) _) | (with_reducible refine Below.setCell ?_ (by first | (simp; done) | (simp; omega)) _) | refine Below.trans ?_ (hb.mono (by simp; omega))))⟩
    · have h2' : msgB k id seq g wa we am un co s.size = false := by simpa using h2
      clear h h2
      go_enter Try.func81, Try.ntmps81
      go_wp2_with (first | (go_at_call 43; refine (s_ClientRight _ _ _ _ _ _ _ _ _ _ _).mono ?_; rintro e w' ⟨rfl, rfl⟩) | (go_at_call 57; refine (s_MsgRight _ _ _ _ _ _ _ _ _ _ _ hs).mono ?_; rintro e w' ⟨rfl, hb⟩; obtain ⟨hcc, hff⟩ := bcell hb; have hz := hb.size; simp at hz) | (go_at_call 44; refine (s_time _ _).mono ?_; rintro e w' ⟨rfl, rfl⟩) | ((with_reducible refine at_store (ty := 30) (y := .tmp 21) ?_); refine wpl_store_row rfl 30 (.tmp 6) (.tmp 21) rfl (w.heap.size + 2) _ rfl rfl (B := w.heap.size) (n := 22) (t := 30) ?_ rfl (by kernel_rfl) ?_ (fun hblk => ?_); (focus (repeat (first | (with_reducible refine Room.drew ?_) | (with_reducible refine Room.set_far ?_ (by dsimp only; omega) _) | (with_reducible refine Room.keep ?_ hb) | (with_reducible exact Room.of (by omega) (h4_2 ..) rfl)))); (focus (simp [Value.oneCell']))))
      refine bodyPost_ret (v := .agg #[.int .i64 0, .int .i64 0, .int .i64 0, .int .i64 0, .int .i64 0, .int .i64 0, .int .i64 0, .int .i64 0, .int .i64 0, .int .i64 0, .int .i64 0, .int .i64 0, .int .i64 0, .int .i64 0, .int .i64 0, .int .i64 0, .int .i64 0, .int .i64 0, .int .i64 0, .string ⟨#[]⟩, .bool false, .int .i64 1]) (results_cell_row rfl _ _ _ _ _ _ _ rfl hblk.2 Try.underlying30 rfl (by kernel_rfl)) rfl ⟨rfl, by (repeat (first | exact Below.refl _ _ | (with_reducible refine below_setRow ?_ (by omega) _) | (with_reducible apply Below.drew) | (with_reducible refine Below.alloc ?_ (by first | (simp; done) | (simp; omega)) _) | (with_reducible refine Below.setCell ?_ (by first | (simp; done) | (simp; omega)) _) | refine Below.trans ?_ (hb.mono (by simp; omega))))⟩
  · have h1' : clB a0 a1 a2 a3 a4 a5 a6 a7 a8 a9 = false := by simpa using h1
    clear h h1
    go_enter Try.func81, Try.ntmps81
    go_wp2_with (first | (go_at_call 43; refine (s_ClientRight _ _ _ _ _ _ _ _ _ _ _).mono ?_; rintro e w' ⟨rfl, rfl⟩) | (go_at_call 57; refine (s_MsgRight _ _ _ _ _ _ _ _ _ _ _ hs).mono ?_; rintro e w' ⟨rfl, hb⟩; obtain ⟨hcc, hff⟩ := bcell hb; have hz := hb.size; simp at hz) | (go_at_call 44; refine (s_time _ _).mono ?_; rintro e w' ⟨rfl, rfl⟩) | ((with_reducible refine at_store (ty := 30) (y := .tmp 21) ?_); refine wpl_store_row rfl 30 (.tmp 6) (.tmp 21) rfl (w.heap.size + 2) _ rfl rfl (B := w.heap.size) (n := 22) (t := 30) ?_ rfl (by kernel_rfl) ?_ (fun hblk => ?_); (focus (repeat (first | (with_reducible refine Room.drew ?_) | (with_reducible refine Room.set_far ?_ (by dsimp only; omega) _) | (with_reducible refine Room.keep ?_ hb) | (with_reducible exact Room.of (by omega) (h4_2 ..) rfl)))); (focus (simp [Value.oneCell']))))
    refine bodyPost_ret (v := .agg #[.int .i64 0, .int .i64 0, .int .i64 0, .int .i64 0, .int .i64 0, .int .i64 0, .int .i64 0, .int .i64 0, .int .i64 0, .int .i64 0, .int .i64 0, .int .i64 0, .int .i64 0, .int .i64 0, .int .i64 0, .int .i64 0, .int .i64 0, .int .i64 0, .int .i64 0, .string ⟨#[]⟩, .bool false, .int .i64 1]) (results_cell_row rfl _ _ _ _ _ _ _ rfl hblk.2 Try.underlying30 rfl (by kernel_rfl)) rfl ⟨rfl, by (repeat (first | exact Below.refl _ _ | (with_reducible refine below_setRow ?_ (by omega) _) | (with_reducible apply Below.drew) | (with_reducible refine Below.alloc ?_ (by first | (simp; done) | (simp; omega)) _) | (with_reducible refine Below.setCell ?_ (by first | (simp; done) | (simp; omega)) _) | refine Below.trans ?_ (hb.mono (by simp; omega))))⟩
set_option maxHeartbeats 1000000 in
theorem s_hear_none (a0 a1 a2 a3 a4 a5 a6 a7 a8 a9 now k id seq g wa we am un co : Int) (s : ByteArray) (w : World) (hs : s.size ≤ 9223372036854775807) (h1 : clB a0 a1 a2 a3 a4 a5 a6 a7 a8 a9 = true) (h2 : msgB k id seq g wa we am un co s.size = true) (h3 : bIn now 0 1000000 = true) (h : ¬ (k = 3 ∧ id = a0 ∧ seq = a9)) :
    Calls Try.prog 81 #[.agg #[.int .i64 a0, .int .i64 a1, .int .i64 a2, .int .i64 a3, .int .i64 a4, .int .i64 a5, .int .i64 a6, .int .i64 a7, .int .i64 a8, .int .i64 a9], .int .i64 now, .agg #[.int .i64 k, .int .i64 id, .int .i64 seq, .int .i64 g, .int .i64 wa, .int .i64 we, .int .i64 am, .int .i64 un, .int .i64 co, .string s]] w fun e w' => e = .returned (.agg #[.int .i64 0, .int .i64 0, .int .i64 0, .int .i64 0, .int .i64 0, .int .i64 0, .int .i64 0, .int .i64 0, .int .i64 0, .int .i64 0, .int .i64 0, .int .i64 0, .int .i64 0, .int .i64 0, .int .i64 0, .int .i64 0, .int .i64 0, .int .i64 0, .int .i64 0, .string ⟨#[]⟩, .bool false, .int .i64 4]) ∧ Below w.heap.size w w' := by
  have hu29 := Try.underlying24; have hu41 := Try.underlying28; have hu53 := Try.underlying30
  by_cases k3 : k = 3
  · by_cases i3 : id = a0
    · have b3 : (seq == a9) = false := beq_eq_false_iff_ne.mpr (by rintro rfl; exact h ⟨k3, i3, rfl⟩)
      clear h
      subst k3
      obtain rfl : a0 = id := i3.symm
      go_enter Try.func81, Try.ntmps81
      go_wp2_with (first | (go_at_call 43; refine (s_ClientRight _ _ _ _ _ _ _ _ _ _ _).mono ?_; rintro e w' ⟨rfl, rfl⟩) | (go_at_call 57; refine (s_MsgRight _ _ _ _ _ _ _ _ _ _ _ hs).mono ?_; rintro e w' ⟨rfl, hb⟩; obtain ⟨hcc, hff⟩ := bcell hb; have hz := hb.size; simp at hz) | (go_at_call 44; refine (s_time _ _).mono ?_; rintro e w' ⟨rfl, rfl⟩) | ((with_reducible refine at_store (ty := 30) (y := .tmp 39) ?_); refine wpl_store_row rfl 30 (.tmp 6) (.tmp 39) rfl (w.heap.size + 2) _ rfl rfl (B := w.heap.size) (n := 22) (t := 30) ?_ rfl (by kernel_rfl) ?_ (fun hblk => ?_); (focus (repeat (first | (with_reducible refine Room.drew ?_) | (with_reducible refine Room.set_far ?_ (by dsimp only; omega) _) | (with_reducible refine Room.keep ?_ hb) | (with_reducible exact Room.of (by omega) (h4_2 ..) rfl)))); (focus (simp [Value.oneCell']))))
      refine bodyPost_ret (v := .agg #[.int .i64 0, .int .i64 0, .int .i64 0, .int .i64 0, .int .i64 0, .int .i64 0, .int .i64 0, .int .i64 0, .int .i64 0, .int .i64 0, .int .i64 0, .int .i64 0, .int .i64 0, .int .i64 0, .int .i64 0, .int .i64 0, .int .i64 0, .int .i64 0, .int .i64 0, .string ⟨#[]⟩, .bool false, .int .i64 4]) (results_cell_row rfl _ _ _ _ _ _ _ rfl hblk.2 Try.underlying30 rfl (by kernel_rfl)) rfl ⟨rfl, by (repeat (first | exact Below.refl _ _ | (with_reducible refine below_setRow ?_ (by omega) _) | (with_reducible apply Below.drew) | (with_reducible refine Below.alloc ?_ (by first | (simp; done) | (simp; omega)) _) | (with_reducible refine Below.setCell ?_ (by first | (simp; done) | (simp; omega)) _) | refine Below.trans ?_ (hb.mono (by simp; omega))))⟩
    · have b2 : (id == a0) = false := beq_eq_false_iff_ne.mpr i3
      clear h i3
      subst k3
      go_enter Try.func81, Try.ntmps81
      go_wp2_with (first | (go_at_call 43; refine (s_ClientRight _ _ _ _ _ _ _ _ _ _ _).mono ?_; rintro e w' ⟨rfl, rfl⟩) | (go_at_call 57; refine (s_MsgRight _ _ _ _ _ _ _ _ _ _ _ hs).mono ?_; rintro e w' ⟨rfl, hb⟩; obtain ⟨hcc, hff⟩ := bcell hb; have hz := hb.size; simp at hz) | (go_at_call 44; refine (s_time _ _).mono ?_; rintro e w' ⟨rfl, rfl⟩) | ((with_reducible refine at_store (ty := 30) (y := .tmp 39) ?_); refine wpl_store_row rfl 30 (.tmp 6) (.tmp 39) rfl (w.heap.size + 2) _ rfl rfl (B := w.heap.size) (n := 22) (t := 30) ?_ rfl (by kernel_rfl) ?_ (fun hblk => ?_); (focus (repeat (first | (with_reducible refine Room.drew ?_) | (with_reducible refine Room.set_far ?_ (by dsimp only; omega) _) | (with_reducible refine Room.keep ?_ hb) | (with_reducible exact Room.of (by omega) (h4_2 ..) rfl)))); (focus (simp [Value.oneCell']))))
      refine bodyPost_ret (v := .agg #[.int .i64 0, .int .i64 0, .int .i64 0, .int .i64 0, .int .i64 0, .int .i64 0, .int .i64 0, .int .i64 0, .int .i64 0, .int .i64 0, .int .i64 0, .int .i64 0, .int .i64 0, .int .i64 0, .int .i64 0, .int .i64 0, .int .i64 0, .int .i64 0, .int .i64 0, .string ⟨#[]⟩, .bool false, .int .i64 4]) (results_cell_row rfl _ _ _ _ _ _ _ rfl hblk.2 Try.underlying30 rfl (by kernel_rfl)) rfl ⟨rfl, by (repeat (first | exact Below.refl _ _ | (with_reducible refine below_setRow ?_ (by omega) _) | (with_reducible apply Below.drew) | (with_reducible refine Below.alloc ?_ (by first | (simp; done) | (simp; omega)) _) | (with_reducible refine Below.setCell ?_ (by first | (simp; done) | (simp; omega)) _) | refine Below.trans ?_ (hb.mono (by simp; omega))))⟩
  · have b1 : (k == 3) = false := beq_eq_false_iff_ne.mpr k3
    have b1' : (k != 3) = true := bne_iff_ne.mpr k3
    clear h
    go_enter Try.func81, Try.ntmps81
    go_wp2_with (first | (go_at_call 43; refine (s_ClientRight _ _ _ _ _ _ _ _ _ _ _).mono ?_; rintro e w' ⟨rfl, rfl⟩) | (go_at_call 57; refine (s_MsgRight _ _ _ _ _ _ _ _ _ _ _ hs).mono ?_; rintro e w' ⟨rfl, hb⟩; obtain ⟨hcc, hff⟩ := bcell hb; have hz := hb.size; simp at hz) | (go_at_call 44; refine (s_time _ _).mono ?_; rintro e w' ⟨rfl, rfl⟩) | ((with_reducible refine at_store (ty := 30) (y := .tmp 39) ?_); refine wpl_store_row rfl 30 (.tmp 6) (.tmp 39) rfl (w.heap.size + 2) _ rfl rfl (B := w.heap.size) (n := 22) (t := 30) ?_ rfl (by kernel_rfl) ?_ (fun hblk => ?_); (focus (repeat (first | (with_reducible refine Room.drew ?_) | (with_reducible refine Room.set_far ?_ (by dsimp only; omega) _) | (with_reducible refine Room.keep ?_ hb) | (with_reducible exact Room.of (by omega) (h4_2 ..) rfl)))); (focus (simp [Value.oneCell']))))
    refine bodyPost_ret (v := .agg #[.int .i64 0, .int .i64 0, .int .i64 0, .int .i64 0, .int .i64 0, .int .i64 0, .int .i64 0, .int .i64 0, .int .i64 0, .int .i64 0, .int .i64 0, .int .i64 0, .int .i64 0, .int .i64 0, .int .i64 0, .int .i64 0, .int .i64 0, .int .i64 0, .int .i64 0, .string ⟨#[]⟩, .bool false, .int .i64 4]) (results_cell_row rfl _ _ _ _ _ _ _ rfl hblk.2 Try.underlying30 rfl (by kernel_rfl)) rfl ⟨rfl, by (repeat (first | exact Below.refl _ _ | (with_reducible refine below_setRow ?_ (by omega) _) | (with_reducible apply Below.drew) | (with_reducible refine Below.alloc ?_ (by first | (simp; done) | (simp; omega)) _) | (with_reducible refine Below.setCell ?_ (by first | (simp; done) | (simp; omega)) _) | refine Below.trans ?_ (hb.mono (by simp; omega))))⟩
set_option maxHeartbeats 1000000 in
theorem s_hear_same (a0 a1 a2 a3 a4 a5 a6 a7 a8 a9 now k id seq g wa we am un co : Int) (s : ByteArray) (w : World) (hs : s.size ≤ 9223372036854775807) (h1 : clB a0 a1 a2 a3 a4 a5 a6 a7 a8 a9 = true) (h2 : msgB k id seq g wa we am un co s.size = true) (h3 : bIn now 0 1000000 = true) (k3 : k = 3) (i3 : id = a0) (q3 : seq = a9) (h : ¬ (co = 0 ∧ now < un)) :
    Calls Try.prog 81 #[.agg #[.int .i64 a0, .int .i64 a1, .int .i64 a2, .int .i64 a3, .int .i64 a4, .int .i64 a5, .int .i64 a6, .int .i64 a7, .int .i64 a8, .int .i64 a9], .int .i64 now, .agg #[.int .i64 k, .int .i64 id, .int .i64 seq, .int .i64 g, .int .i64 wa, .int .i64 we, .int .i64 am, .int .i64 un, .int .i64 co, .string s]] w fun e w' => e = .returned (.agg #[.int .i64 a0, .int .i64 a1, .int .i64 a2, .int .i64 a3, .int .i64 a4, .int .i64 a5, .int .i64 a6, .int .i64 a7, .int .i64 a8, .int .i64 a9, .int .i64 0, .int .i64 0, .int .i64 0, .int .i64 0, .int .i64 0, .int .i64 0, .int .i64 0, .int .i64 0, .int .i64 0, .string ⟨#[]⟩, .bool false, .int .i64 0]) ∧ Below w.heap.size w w' := by
  have hu29 := Try.underlying24; have hu41 := Try.underlying28; have hu53 := Try.underlying30
  subst k3
  obtain rfl : a0 = id := i3.symm
  obtain rfl : a9 = seq := q3.symm
  by_cases c0 : co = 0
  · have b4 : decide (now < un) = false := decide_eq_false (fun q => h ⟨c0, q⟩)
    clear h
    subst c0
    go_enter Try.func81, Try.ntmps81
    go_wp2_with (first | (go_at_call 43; refine (s_ClientRight _ _ _ _ _ _ _ _ _ _ _).mono ?_; rintro e w' ⟨rfl, rfl⟩) | (go_at_call 57; refine (s_MsgRight _ _ _ _ _ _ _ _ _ _ _ hs).mono ?_; rintro e w' ⟨rfl, hb⟩; obtain ⟨hcc, hff⟩ := bcell hb; have hz := hb.size; simp at hz) | (go_at_call 44; refine (s_time _ _).mono ?_; rintro e w' ⟨rfl, rfl⟩) | ((with_reducible refine at_store (ty := 30) (y := .tmp 70) ?_); refine wpl_store_row rfl 30 (.tmp 6) (.tmp 70) rfl (w.heap.size + 2) _ rfl rfl (B := w.heap.size) (n := 22) (t := 30) ?_ rfl (by kernel_rfl) ?_ (fun hblk => ?_); (focus (repeat (first | (with_reducible refine Room.drew ?_) | (with_reducible refine Room.set_far ?_ (by dsimp only; omega) _) | (with_reducible refine Room.keep ?_ hb) | (with_reducible exact Room.of (by omega) (h4_2 ..) rfl)))); (focus (simp [Value.oneCell']))))
    refine bodyPost_ret (v := .agg #[.int .i64 a0, .int .i64 a1, .int .i64 a2, .int .i64 a3, .int .i64 a4, .int .i64 a5, .int .i64 a6, .int .i64 a7, .int .i64 a8, .int .i64 a9, .int .i64 0, .int .i64 0, .int .i64 0, .int .i64 0, .int .i64 0, .int .i64 0, .int .i64 0, .int .i64 0, .int .i64 0, .string ⟨#[]⟩, .bool false, .int .i64 0]) (results_cell_row rfl _ _ _ _ _ _ _ rfl hblk.2 Try.underlying30 rfl (by kernel_rfl)) rfl ⟨rfl, by (repeat (first | exact Below.refl _ _ | (with_reducible refine below_setRow ?_ (by omega) _) | (with_reducible apply Below.drew) | (with_reducible refine Below.alloc ?_ (by first | (simp; done) | (simp; omega)) _) | (with_reducible refine Below.setCell ?_ (by first | (simp; done) | (simp; omega)) _) | refine Below.trans ?_ (hb.mono (by simp; omega))))⟩
  · have b4 : (co == 0) = false := beq_eq_false_iff_ne.mpr c0
    clear h c0
    go_enter Try.func81, Try.ntmps81
    go_wp2_with (first | (go_at_call 43; refine (s_ClientRight _ _ _ _ _ _ _ _ _ _ _).mono ?_; rintro e w' ⟨rfl, rfl⟩) | (go_at_call 57; refine (s_MsgRight _ _ _ _ _ _ _ _ _ _ _ hs).mono ?_; rintro e w' ⟨rfl, hb⟩; obtain ⟨hcc, hff⟩ := bcell hb; have hz := hb.size; simp at hz) | (go_at_call 44; refine (s_time _ _).mono ?_; rintro e w' ⟨rfl, rfl⟩) | ((with_reducible refine at_store (ty := 30) (y := .tmp 70) ?_); refine wpl_store_row rfl 30 (.tmp 6) (.tmp 70) rfl (w.heap.size + 2) _ rfl rfl (B := w.heap.size) (n := 22) (t := 30) ?_ rfl (by kernel_rfl) ?_ (fun hblk => ?_); (focus (repeat (first | (with_reducible refine Room.drew ?_) | (with_reducible refine Room.set_far ?_ (by dsimp only; omega) _) | (with_reducible refine Room.keep ?_ hb) | (with_reducible exact Room.of (by omega) (h4_2 ..) rfl)))); (focus (simp [Value.oneCell']))))
    refine bodyPost_ret (v := .agg #[.int .i64 a0, .int .i64 a1, .int .i64 a2, .int .i64 a3, .int .i64 a4, .int .i64 a5, .int .i64 a6, .int .i64 a7, .int .i64 a8, .int .i64 a9, .int .i64 0, .int .i64 0, .int .i64 0, .int .i64 0, .int .i64 0, .int .i64 0, .int .i64 0, .int .i64 0, .int .i64 0, .string ⟨#[]⟩, .bool false, .int .i64 0]) (results_cell_row rfl _ _ _ _ _ _ _ rfl hblk.2 Try.underlying30 rfl (by kernel_rfl)) rfl ⟨rfl, by (repeat (first | exact Below.refl _ _ | (with_reducible refine below_setRow ?_ (by omega) _) | (with_reducible apply Below.drew) | (with_reducible refine Below.alloc ?_ (by first | (simp; done) | (simp; omega)) _) | (with_reducible refine Below.setCell ?_ (by first | (simp; done) | (simp; omega)) _) | refine Below.trans ?_ (hb.mono (by simp; omega))))⟩
set_option maxHeartbeats 1000000 in
theorem s_hear_new (a0 a1 a2 a3 a4 a5 a6 a7 a8 a9 now k id seq g wa we am un co : Int) (s : ByteArray) (w : World) (hs : s.size ≤ 9223372036854775807) (h1 : clB a0 a1 a2 a3 a4 a5 a6 a7 a8 a9 = true) (h2 : msgB k id seq g wa we am un co s.size = true) (h3 : bIn now 0 1000000 = true) (k3 : k = 3) (i3 : id = a0) (q3 : seq = a9) (c0 : co = 0) (h4 : now < un) :
    Calls Try.prog 81 #[.agg #[.int .i64 a0, .int .i64 a1, .int .i64 a2, .int .i64 a3, .int .i64 a4, .int .i64 a5, .int .i64 a6, .int .i64 a7, .int .i64 a8, .int .i64 a9], .int .i64 now, .agg #[.int .i64 k, .int .i64 id, .int .i64 seq, .int .i64 g, .int .i64 wa, .int .i64 we, .int .i64 am, .int .i64 un, .int .i64 co, .string s]] w fun e w' => e = .returned (.agg #[.int .i64 a0, .int .i64 a1, .int .i64 a2, .int .i64 a3, .int .i64 am, .int .i64 un, .int .i64 a6, .int .i64 (min 1000000 (a6 + max 1 ((un - a6).tdiv 2))), .int .i64 1, .int .i64 a9, .int .i64 0, .int .i64 0, .int .i64 0, .int .i64 0, .int .i64 0, .int .i64 0, .int .i64 0, .int .i64 0, .int .i64 0, .string ⟨#[]⟩, .bool false, .int .i64 0]) ∧ Below w.heap.size w w' := by
  have hu29 := Try.underlying24; have hu41 := Try.underlying28; have hu53 := Try.underlying30
  obtain ⟨⟨x0, y0⟩, ⟨x1, y1⟩, ⟨x2, y2⟩⟩ := msgB_bounds h2 k3
  obtain ⟨-, -, -, -, -, -, ⟨x6, y6⟩, -, -, -⟩ := clB_bounds h1
  obtain ⟨t1, t2⟩ := tdiv_bounds un a6 x1 y1 x6 y6
  subst k3 c0
  obtain rfl : a0 = id := i3.symm
  obtain rfl : a9 = seq := q3.symm
  have b4 : decide (now < un) = true := decide_eq_true h4
  have hwr : IntKind.i64.wrap (a6 + max 1 ((un - a6).tdiv 2)) = a6 + max 1 ((un - a6).tdiv 2) := IntWalk.i64_in _ (by omega)
  go_enter Try.func81, Try.ntmps81
  go_upto_region 10 with (first | (go_at_call 43; refine (s_ClientRight _ _ _ _ _ _ _ _ _ _ _).mono ?_; rintro e w' ⟨rfl, rfl⟩) | (go_at_call 57; refine (s_MsgRight _ _ _ _ _ _ _ _ _ _ _ hs).mono ?_; rintro e w' ⟨rfl, hb⟩; obtain ⟨hcc, hff⟩ := bcell hb; have hz := hb.size; simp at hz) | (go_at_call 44; refine (s_time _ _).mono ?_; rintro e w' ⟨rfl, rfl⟩))
  have R10 : RowAt w' w.heap.size [.int .i64 a0, .int .i64 a1, .int .i64 a2, .int .i64 a3, .int .i64 a4, .int .i64 a5, .int .i64 a6, .int .i64 a7, .int .i64 a8, .int .i64 a9] := (RowAt.of (h4_0 ..)).keep hb
  have e0 := R10.2 0 _ rfl
  have e1 := R10.2 1 _ rfl
  have e2 := R10.2 2 _ rfl
  have e3 := R10.2 3 _ rfl
  have e4 := R10.2 4 _ rfl
  have e5 := R10.2 5 _ rfl
  have e6 := R10.2 6 _ rfl
  have e7 := R10.2 7 _ rfl
  have e8 := R10.2 8 _ rfl
  have e9 := R10.2 9 _ rfl
  clear hcc
  go_region_held3 (fun w2 => w2.cell? ⟨w.heap.size, 6, none⟩ = some (.int .i64 a6)) ((repeat (first | (with_reducible exact e6) | (with_reducible refine c_drew ?_) | (with_reducible refine c_set (by simp) ?_)))) (first | (go_at_call 73; refine (s_max _ _ _).mono ?_; rintro e w' ⟨rfl, rfl⟩) | (go_at_call 45; refine (s_min _ _ _).mono ?_; rintro e w' ⟨rfl, rfl⟩))
  clear hff e0 e1 e2 e3 e4 e5 e6 e7 e8 e9 R10
  go_wp2_with (first | ((with_reducible refine at_load (ty := 24) (x := .tmp 3) ?_); refine wpl_load_row rfl 24 (.tmp 3) rfl w.heap.size rfl (B := 0) (n := 10) (t := 24) (cs := #[.int .i64 a0, .int .i64 a1, .int .i64 a2, .int .i64 a3, .int .i64 am, .int .i64 un, .int .i64 a6, .int .i64 (min 1000000 (a6 + max 1 ((un - a6).tdiv 2))), .int .i64 1, .int .i64 a9]) (Blk.cast (((((Blk.keep ⟨Nat.zero_le _, h4_0 ..⟩ hb).setc 4 (.int .i64 am)).setc 5 (.int .i64 un)).setc 8 (.int .i64 1)).setc 7 (.int .i64 (min 1000000 (a6 + max 1 ((un - a6).tdiv 2))))).drew rfl) rfl (by kernel_rfl) Try.underlying24 rfl ?_) | ((with_reducible refine at_store (ty := 30) (y := .tmp 70) ?_); refine wpl_store_row rfl 30 (.tmp 6) (.tmp 70) rfl (w.heap.size + 2) _ rfl rfl (B := w.heap.size) (n := 22) (t := 30) ?_ rfl (by kernel_rfl) ?_ (fun hblk => ?_); (focus (repeat (first | (with_reducible refine Room.drew ?_) | (with_reducible refine Room.set_far ?_ (by dsimp only; omega) _) | (with_reducible refine Room.keep ?_ hb) | (with_reducible exact Room.of (by omega) (h4_2 ..) rfl)))); (focus (simp [Value.oneCell']))))
  refine bodyPost_ret (v := .agg #[.int .i64 a0, .int .i64 a1, .int .i64 a2, .int .i64 a3, .int .i64 am, .int .i64 un, .int .i64 a6, .int .i64 (min 1000000 (a6 + max 1 ((un - a6).tdiv 2))), .int .i64 1, .int .i64 a9, .int .i64 0, .int .i64 0, .int .i64 0, .int .i64 0, .int .i64 0, .int .i64 0, .int .i64 0, .int .i64 0, .int .i64 0, .string ⟨#[]⟩, .bool false, .int .i64 0]) (results_cell_row rfl _ _ _ _ _ _ _ rfl hblk.2 Try.underlying30 rfl (by kernel_rfl)) rfl ⟨rfl, by (repeat (first | exact Below.refl _ _ | (with_reducible refine below_setRow ?_ (by omega) _) | (with_reducible apply Below.drew) | (with_reducible refine Below.alloc ?_ (by first | (simp; done) | (simp; omega)) _) | (with_reducible refine Below.setCell ?_ (by first | (simp; done) | (simp; omega)) _) | refine Below.trans ?_ (hb.mono (by simp; omega))))⟩
end Go.Proofs.Ytddemmmbbleofaa.C
