/- The law FnExactServerNew, walked: both make the same new server, in new memory. No condition. -/
import Derived.Test.YtlnmpaigojmahaaLaw
import Derived.Test.YtlnmpaigojmahaaOFnExactServerNew
namespace Go.Proofs.Ytlnmpaigojmahaa.C
open Go.RowKit Go.Proofs.Ytlnmpaigojmahaa.Rd
set_option maxRecDepth 100000
set_option linter.unusedVariables false
theorem eqGroupS_nil (w : World) : Calls Try.prog 81 #[.slice none 0 0, .slice none 0 0] w fun e w' => e = .returned (.bool true) ∧ w = w' := by go_enter Try.func81, Try.ntmps81; go_wp2; refine wp_loop_rounds 1 ?_; rw [rounds_succ]; go_wp2; go_ret; exact ⟨rfl, rfl⟩
theorem eqMemberS_nil (w : World) : Calls Try.prog 82 #[.slice none 0 0, .slice none 0 0] w fun e w' => e = .returned (.bool true) ∧ w = w' := by go_enter Try.func82, Try.ntmps82; go_wp2; refine wp_loop_rounds 1 ?_; rw [rounds_succ]; go_wp2; go_ret; exact ⟨rfl, rfl⟩
theorem eqLeaseS_nil (w : World) : Calls Try.prog 73 #[.slice none 0 0, .slice none 0 0] w fun e w' => e = .returned (.bool true) ∧ w = w' := by go_enter Try.func73, Try.ntmps73; go_wp2; refine wp_loop_rounds 1 ?_; rw [rounds_succ]; go_wp2; go_ret; exact ⟨rfl, rfl⟩
theorem markGroupS_nil (k : Int) (w : World) : Calls Try.prog 84 #[.slice none 0 0, .int .i64 k] w fun e w' => e = .returned (.int .i64 k) ∧ w = w' := by go_enter Try.func84, Try.ntmps84; go_wp2; refine wp_loop_rounds 1 ?_; rw [rounds_succ]; go_wp2; go_ret; exact ⟨rfl, rfl⟩
theorem markMemberS_nil (k : Int) (w : World) : Calls Try.prog 85 #[.slice none 0 0, .int .i64 k] w fun e w' => e = .returned (.int .i64 k) ∧ w = w' := by go_enter Try.func85, Try.ntmps85; go_wp2; refine wp_loop_rounds 1 ?_; rw [rounds_succ]; go_wp2; go_ret; exact ⟨rfl, rfl⟩
theorem markLeaseS_nil (k : Int) (w : World) : Calls Try.prog 75 #[.slice none 0 0, .int .i64 k] w fun e w' => e = .returned (.int .i64 k) ∧ w = w' := by go_enter Try.func75, Try.ntmps75; go_wp2; refine wp_loop_rounds 1 ?_; rw [rounds_succ]; go_wp2; go_ret; exact ⟨rfl, rfl⟩
theorem heldGroupS_nil (k : Int) (w : World) : Calls Try.prog 86 #[.slice none 0 0, .int .i64 k] w fun e w' => e = .returned (.int .i64 k) ∧ w = w' := by go_enter Try.func86, Try.ntmps86; go_wp2; refine wp_loop_rounds 1 ?_; rw [rounds_succ]; go_wp2; go_ret; exact ⟨rfl, rfl⟩
theorem heldMemberS_nil (k : Int) (w : World) : Calls Try.prog 87 #[.slice none 0 0, .int .i64 k] w fun e w' => e = .returned (.int .i64 k) ∧ w = w' := by go_enter Try.func87, Try.ntmps87; go_wp2; refine wp_loop_rounds 1 ?_; rw [rounds_succ]; go_wp2; go_ret; exact ⟨rfl, rfl⟩
theorem heldLeaseS_nil (k : Int) (w : World) : Calls Try.prog 77 #[.slice none 0 0, .int .i64 k] w fun e w' => e = .returned (.int .i64 k) ∧ w = w' := by go_enter Try.func77, Try.ntmps77; go_wp2; refine wp_loop_rounds 1 ?_; rw [rounds_succ]; go_wp2; go_ret; exact ⟨rfl, rfl⟩
theorem eqFarm_nil (c' : Int) (w : World) : Calls Try.prog 72 #[.agg #[.int .i64 c', .slice none 0 0, .slice none 0 0], .agg #[.int .i64 c', .slice none 0 0, .slice none 0 0]] w fun e w' => e = .returned (.bool true) ∧ Below w.heap.size w w' := by
  have hu := Try.underlying61
  go_enter Try.func72, Try.ntmps72
  go_wp2_with (first | (go_at_call 81; refine (eqGroupS_nil _).mono ?_; rintro e w' ⟨rfl, rfl⟩) | (go_at_call 82; refine (eqMemberS_nil _).mono ?_; rintro e w' ⟨rfl, rfl⟩))
  go_ret
  exact ⟨rfl, by repeat (first | exact Below.refl _ _ | refine Below.alloc ?_ (by first | (simp; done) | (simp; omega)) _)⟩
theorem markFarm_nil (c' k : Int) (w : World) : Calls Try.prog 74 #[.agg #[.int .i64 c', .slice none 0 0, .slice none 0 0], .int .i64 k] w fun e w' => e = .returned (.int .i64 k) ∧ Below w.heap.size w w' := by
  have hu := Try.underlying61
  go_enter Try.func74, Try.ntmps74
  go_wp2_with (first | (go_at_call 84; refine (markGroupS_nil _ _).mono ?_; rintro e w' ⟨rfl, rfl⟩) | (go_at_call 85; refine (markMemberS_nil _ _).mono ?_; rintro e w' ⟨rfl, rfl⟩))
  go_ret
  exact ⟨rfl, by repeat (first | exact Below.refl _ _ | refine Below.alloc ?_ (by first | (simp; done) | (simp; omega)) _)⟩
theorem heldFarm_nil (c' k : Int) (w : World) (hk : 0 ≤ k) : Calls Try.prog 76 #[.agg #[.int .i64 c', .slice none 0 0, .slice none 0 0], .int .i64 k] w fun e w' => e = .returned (.int .i64 k) ∧ Below w.heap.size w w' := by
  have hu := Try.underlying61
  go_enter Try.func76, Try.ntmps76
  go_wp2_with (first | (go_at_call 86; refine (heldGroupS_nil _ _).mono ?_; rintro e w' ⟨rfl, rfl⟩) | (go_at_call 87; refine (heldMemberS_nil _ _).mono ?_; rintro e w' ⟨rfl, rfl⟩))
  go_ret
  exact ⟨rfl, by repeat (first | exact Below.refl _ _ | refine Below.alloc ?_ (by first | (simp; done) | (simp; omega)) _)⟩
theorem eqServer_nil (l' c' : Int) (w : World) : Calls Try.prog 45 #[.agg #[.int .i64 l', .int .i64 0, .int .i64 0, .int .i64 c', .slice none 0 0, .slice none 0 0, .slice none 0 0], .agg #[.int .i64 l', .int .i64 0, .int .i64 0, .int .i64 c', .slice none 0 0, .slice none 0 0, .slice none 0 0]] w fun e w' => e = .returned (.bool true) ∧ Below w.heap.size w w' := by
  have hu := Try.underlying64
  have hu2 := Try.underlying61
  go_enter Try.func45, Try.ntmps45
  go_wp2_with (first | (go_at_call 73; refine (eqLeaseS_nil _).mono ?_; rintro e w' ⟨rfl, rfl⟩) | (go_at_call 72; refine (eqFarm_nil _ _).mono ?_; rintro e w' ⟨rfl, hb⟩; obtain ⟨hcc, hff⟩ := bcell hb; have hz := hb.size; simp at hz))
  go_ret
  exact ⟨rfl, (((Below.refl _ w).alloc (Nat.le_refl _) _).alloc (by simp) _).trans (hb.mono (by simp; omega))⟩
theorem markServer_nil (l' c' k : Int) (w : World) : Calls Try.prog 46 #[.agg #[.int .i64 l', .int .i64 0, .int .i64 0, .int .i64 c', .slice none 0 0, .slice none 0 0, .slice none 0 0], .int .i64 k] w fun e w' => e = .returned (.int .i64 k) ∧ Below w.heap.size w w' := by
  have hu := Try.underlying64
  have hu2 := Try.underlying61
  go_enter Try.func46, Try.ntmps46
  go_wp2_with (first | (go_at_call 75; refine (markLeaseS_nil _ _).mono ?_; rintro e w' ⟨rfl, rfl⟩) | (go_at_call 74; refine (markFarm_nil _ _ _).mono ?_; rintro e w' ⟨rfl, hb⟩; obtain ⟨hcc, hff⟩ := bcell hb; have hz := hb.size; simp at hz))
  go_ret
  exact ⟨rfl, balloc (Below.refl _ w) hb⟩
theorem heldServer_nil (l' c' k : Int) (w : World) (hk : 0 ≤ k) : Calls Try.prog 47 #[.agg #[.int .i64 l', .int .i64 0, .int .i64 0, .int .i64 c', .slice none 0 0, .slice none 0 0, .slice none 0 0], .int .i64 k] w fun e w' => e = .returned (.int .i64 k) ∧ Below w.heap.size w w' := by
  have hu := Try.underlying64
  have hu2 := Try.underlying61
  go_enter Try.func47, Try.ntmps47
  go_wp2_with (first | (go_at_call 77; refine (heldLeaseS_nil _ _).mono ?_; rintro e w' ⟨rfl, rfl⟩) | (go_at_call 76; refine (heldFarm_nil _ _ _ hk).mono ?_; rintro e w' ⟨rfl, hb⟩; obtain ⟨hcc, hff⟩ := bcell hb; have hz := hb.size; simp at hz))
  go_ret
  exact ⟨rfl, balloc (Below.refl _ w) hb⟩
theorem s_length (a : Int) (w : World) : Calls Try.prog 70 #[.int .i64 a] w fun e w' => e = .returned (.bool (bIn a 1 1000)) ∧ w = w' := by
  by_cases h : 1 ≤ a
  · have e1 := Lib.hid (bIn_hi (c := 1000) h)
    go_enter Try.func70, Try.ntmps70
    go_wp2
    go_ret
    exact ⟨ret_bool e1.out.symm, rfl⟩
  · have e1 := Lib.hid (bIn_lo (c := 1000) h)
    go_enter Try.func70, Try.ntmps70
    go_wp2
    go_ret
    exact ⟨ret_bool e1.out.symm, rfl⟩
theorem c_mayStart (a c : Int) (w : World) : Calls Try.prog 71 #[.int .i64 a, .int .i64 c] w fun e w' => e = .returned (.bool (bIn a 1 1000 && bIn c 0 1125899906842624)) ∧ w = w' := by
  cases h : bIn a 1 1000
  all_goals
    go_enter Try.func71, Try.ntmps71
    go_wp2_with (first | (go_at_call 57; refine (c_in _ _ _ _).mono ?_; rintro e w' ⟨rfl, rfl⟩) | (go_at_call 54; refine (c_isWant _ _).mono ?_; rintro e w' ⟨rfl, rfl⟩))
    go_ret
    exact ⟨rfl, rfl⟩
theorem s_new_yes (l c : Int) (w : World) (h : (bIn l 1 1000 && bIn c 0 1125899906842624) = true) : Calls Try.prog 43 #[.int .i64 l, .int .i64 c] w fun e w' => e = .returned (.agg #[.int .i64 l, .int .i64 0, .int .i64 0, .int .i64 c, .slice none 0 0, .slice none 0 0, .slice none 0 0]) ∧ Below w.heap.size w w' := by
  obtain ⟨h1, h2⟩ := Bool.and_eq_true_iff.mp h
  clear h
  have hu := Try.underlying64
  have hu2 := Try.underlying61
  go_enter Try.func43, Try.ntmps43
  go_wp2_with (first | (go_at_call 70; refine (s_length _ _).mono ?_; rintro e w' ⟨rfl, rfl⟩) | (go_at_call 50; refine (s_want _ _).mono ?_; rintro e w' ⟨rfl, rfl⟩))
  refine bodyPost_ret (v := .agg #[.int .i64 l, .int .i64 0, .int .i64 0, .int .i64 c, .slice none 0 0, .slice none 0 0, .slice none 0 0]) (by simp [results, Try.results43, go_sem]) rfl ⟨rfl, by repeat (first | exact Below.refl _ _ | refine Below.alloc ?_ (by first | (simp; done) | (simp; omega)) _)⟩
theorem s_new_no (l c : Int) (w : World) (h : (bIn l 1 1000 && bIn c 0 1125899906842624) = false) : Calls Try.prog 43 #[.int .i64 l, .int .i64 c] w fun e w' => e = .returned (.agg #[.int .i64 0, .int .i64 0, .int .i64 0, .int .i64 0, .slice none 0 0, .slice none 0 0, .slice none 0 0]) ∧ Below w.heap.size w w' := by
  have hu := Try.underlying64
  have hu2 := Try.underlying61
  cases h1 : bIn l 1 1000
  · clear h
    go_enter Try.func43, Try.ntmps43
    go_wp2_with (first | (go_at_call 70; refine (s_length _ _).mono ?_; rintro e w' ⟨rfl, rfl⟩) | (go_at_call 50; refine (s_want _ _).mono ?_; rintro e w' ⟨rfl, rfl⟩))
    refine bodyPost_ret (v := .agg #[.int .i64 0, .int .i64 0, .int .i64 0, .int .i64 0, .slice none 0 0, .slice none 0 0, .slice none 0 0]) (by simp [results, Try.results43, go_sem]) rfl ⟨rfl, by repeat (first | exact Below.refl _ _ | refine Below.alloc ?_ (by first | (simp; done) | (simp; omega)) _)⟩
  · have h2 : bIn c 0 1125899906842624 = false := by simpa [h1] using h
    clear h
    go_enter Try.func43, Try.ntmps43
    go_wp2_with (first | (go_at_call 70; refine (s_length _ _).mono ?_; rintro e w' ⟨rfl, rfl⟩) | (go_at_call 50; refine (s_want _ _).mono ?_; rintro e w' ⟨rfl, rfl⟩))
    refine bodyPost_ret (v := .agg #[.int .i64 0, .int .i64 0, .int .i64 0, .int .i64 0, .slice none 0 0, .slice none 0 0, .slice none 0 0]) (by simp [results, Try.results43, go_sem]) rfl ⟨rfl, by repeat (first | exact Below.refl _ _ | refine Below.alloc ?_ (by first | (simp; done) | (simp; omega)) _)⟩
theorem c_new_yes (l c : Int) (w : World) (h : (bIn l 1 1000 && bIn c 0 1125899906842624) = true) : Calls Try.prog 44 #[.int .i64 l, .int .i64 c] w fun e w' => e = .returned (.agg #[.int .i64 l, .int .i64 0, .int .i64 0, .int .i64 c, .slice none 0 0, .slice none 0 0, .slice none 0 0]) ∧ Below w.heap.size w w' := by
  have hu := Try.underlying64
  have hu2 := Try.underlying61
  have H := Lib.hid h
  clear h
  go_enter Try.func44, Try.ntmps44
  go_wp2_with (go_at_call 71; refine (c_mayStart _ _ _).mono ?_; rintro e w' ⟨rfl, rfl⟩; rw [H.out])
  refine bodyPost_ret (v := .agg #[.int .i64 l, .int .i64 0, .int .i64 0, .int .i64 c, .slice none 0 0, .slice none 0 0, .slice none 0 0]) (by simp [results, Try.results44, go_sem]) rfl ⟨rfl, by repeat (first | exact Below.refl _ _ | refine Below.alloc ?_ (by first | (simp; done) | (simp; omega)) _)⟩
theorem c_new_no (l c : Int) (w : World) (h : (bIn l 1 1000 && bIn c 0 1125899906842624) = false) : Calls Try.prog 44 #[.int .i64 l, .int .i64 c] w fun e w' => e = .returned (.agg #[.int .i64 0, .int .i64 0, .int .i64 0, .int .i64 0, .slice none 0 0, .slice none 0 0, .slice none 0 0]) ∧ Below w.heap.size w w' := by
  have hu := Try.underlying64
  have hu2 := Try.underlying61
  have H := Lib.hid h
  clear h
  go_enter Try.func44, Try.ntmps44
  go_wp2_with (go_at_call 71; refine (c_mayStart _ _ _).mono ?_; rintro e w' ⟨rfl, rfl⟩; rw [H.out])
  refine bodyPost_ret (v := .agg #[.int .i64 0, .int .i64 0, .int .i64 0, .int .i64 0, .slice none 0 0, .slice none 0 0, .slice none 0 0]) (by simp [results, Try.results44, go_sem]) rfl ⟨rfl, by repeat (first | exact Below.refl _ _ | refine Below.alloc ?_ (by first | (simp; done) | (simp; omega)) _)⟩
theorem new_law (l c l' c' : Int) (w : World)
    (hs : ∀ w, Calls Try.prog 43 #[.int .i64 l, .int .i64 c] w fun e w' => e = .returned (.agg #[.int .i64 l', .int .i64 0, .int .i64 0, .int .i64 c', .slice none 0 0, .slice none 0 0, .slice none 0 0]) ∧ Below w.heap.size w w')
    (hi : ∀ w, Calls Try.prog 44 #[.int .i64 l, .int .i64 c] w fun e w' => e = .returned (.agg #[.int .i64 l', .int .i64 0, .int .i64 0, .int .i64 c', .slice none 0 0, .slice none 0 0, .slice none 0 0]) ∧ Below w.heap.size w w') :
    Calls Try.prog 14 #[.int .i64 l, .int .i64 c] w fun e w' => e = .returned (.bool true) ∧ Below w.heap.size w w' := by
  have HS := Lib.hid hs
  have HI := Lib.hid hi
  clear hs hi
  have hu := Try.underlying64
  go_enter Try.func14, Try.ntmps14
  go_wp2_with fail
  refine (HS.out _).mono ?_
  rintro e w1 ⟨rfl, h1⟩
  go_wp2_with fail
  have B5 : Blk (w1.alloc (.cells #[.int .i64 l', .int .i64 0, .int .i64 0, .int .i64 c', .slice none 0 0, .slice none 0 0, .slice none 0 0] 64)) 0 w1.heap.size #[.int .i64 l', .int .i64 0, .int .i64 0, .int .i64 c', .slice none 0 0, .slice none 0 0, .slice none 0 0] 64 := Blk.new (Nat.zero_le _) _ _
  refine (HI.out _).mono ?_
  rintro e w2 ⟨rfl, h2⟩
  have C5 := B5.keep h2
  have s1 := h2.size
  go_upto_region 3 with fail
  have B6 : Blk (w2.alloc (.cells #[.int .i64 l', .int .i64 0, .int .i64 0, .int .i64 c', .slice none 0 0, .slice none 0 0, .slice none 0 0] 64)) 0 w2.heap.size #[.int .i64 l', .int .i64 0, .int .i64 0, .int .i64 c', .slice none 0 0, .slice none 0 0, .slice none 0 0] 64 := Blk.new (Nat.zero_le _) _ _
  have D5 := C5.keep ((Below.refl _ w2).alloc (Nat.le_refl _) (.cells #[.int .i64 l', .int .i64 0, .int .i64 0, .int .i64 c', .slice none 0 0, .slice none 0 0, .slice none 0 0] 64))
  have bW := ((Below.refl _ w).trans h1).alloc h1.size (.cells #[.int .i64 l', .int .i64 0, .int .i64 0, .int .i64 c', .slice none 0 0, .slice none 0 0, .slice none 0 0] 64)
  have bW2 := (btrans bW h2).alloc (btrans bW h2).size (.cells #[.int .i64 l', .int .i64 0, .int .i64 0, .int .i64 c', .slice none 0 0, .slice none 0 0, .slice none 0 0] 64)
  clear B5 C5 bW h1 h2 s1
  obtain ⟨W2, hW2⟩ : ∃ W, W = w2.alloc (.cells #[.int .i64 l', .int .i64 0, .int .i64 0, .int .i64 c', .slice none 0 0, .slice none 0 0, .slice none 0 0] 64) := ⟨_, rfl⟩
  obtain ⟨g5, hg5⟩ : ∃ g, g = w1.heap.size := ⟨_, rfl⟩
  obtain ⟨g6, hg6⟩ : ∃ g, g = w2.heap.size := ⟨_, rfl⟩
  rw [← hW2, ← hg6] at B6
  rw [← hW2, ← hg5] at D5
  rw [← hW2] at bW2
  rw [← hW2, ← hg5, ← hg6]
  clear hW2 hg5 hg6
  have Q5 := Lib.hid D5
  have Q6 := Lib.hid B6
  clear D5 B6
  go_wp2_with (first | ((with_reducible refine at_load (ty := 64) (x := .tmp 6) ?_); refine wpl_load_row rfl 64 (.tmp 6) rfl g6 rfl (B := 0) (n := 7) (t := 64) (cs := #[.int .i64 l', .int .i64 0, .int .i64 0, .int .i64 c', .slice none 0 0, .slice none 0 0, .slice none 0 0]) Q6.out rfl (by kernel_rfl) Try.underlying64 rfl ?_) | ((with_reducible refine at_load (ty := 64) (x := .tmp 5) ?_); refine wpl_load_row rfl 64 (.tmp 5) rfl g5 rfl (B := 0) (n := 7) (t := 64) (cs := #[.int .i64 l', .int .i64 0, .int .i64 0, .int .i64 c', .slice none 0 0, .slice none 0 0, .slice none 0 0]) Q5.out rfl (by kernel_rfl) Try.underlying64 rfl ?_))
  refine (eqServer_nil _ _ _).mono ?_
  rintro e w3 ⟨rfl, h3⟩
  have b3 := btrans bW2 h3
  have R5 := Lib.hid (Q5.out.keep h3)
  have R6 := Lib.hid (Q6.out.keep h3)
  clear Q5 Q6
  go_wp2_with (first | ((with_reducible refine at_load (ty := 64) (x := .tmp 6) ?_); refine wpl_load_row rfl 64 (.tmp 6) rfl g6 rfl (B := 0) (n := 7) (t := 64) (cs := #[.int .i64 l', .int .i64 0, .int .i64 0, .int .i64 c', .slice none 0 0, .slice none 0 0, .slice none 0 0]) R6.out rfl (by kernel_rfl) Try.underlying64 rfl ?_))
  refine (markServer_nil _ _ _ _).mono ?_
  rintro e w4 ⟨rfl, h4⟩
  have b4 := btrans b3 h4
  have S5 := Lib.hid (R5.out.keep h4)
  have S6 := Lib.hid (R6.out.keep h4)
  clear R5 R6
  go_wp2_with (first | ((with_reducible refine at_load (ty := 64) (x := .tmp 6) ?_); refine wpl_load_row rfl 64 (.tmp 6) rfl g6 rfl (B := 0) (n := 7) (t := 64) (cs := #[.int .i64 l', .int .i64 0, .int .i64 0, .int .i64 c', .slice none 0 0, .slice none 0 0, .slice none 0 0]) S6.out rfl (by kernel_rfl) Try.underlying64 rfl ?_))
  refine (heldServer_nil _ _ _ _ (by omega)).mono ?_
  rintro e w5 ⟨rfl, h5⟩
  have b5 := btrans b4 h5
  have T5 := Lib.hid (S5.out.keep h5)
  have T6 := Lib.hid (S6.out.keep h5)
  clear S5 S6
  go_wp2_with fail
  refine (HI.out _).mono ?_
  rintro e w6 ⟨rfl, h6⟩
  have b6 := (btrans b5 h6).alloc (btrans b5 h6).size (.cells #[.int .i64 l', .int .i64 0, .int .i64 0, .int .i64 c', .slice none 0 0, .slice none 0 0, .slice none 0 0] 64)
  have bx := (Below.refl _ w6).alloc (Nat.le_refl _) (.cells #[.int .i64 l', .int .i64 0, .int .i64 0, .int .i64 c', .slice none 0 0, .slice none 0 0, .slice none 0 0] 64)
  have U5 := (T5.out.keep h6).keep bx
  have U6 := (T6.out.keep h6).keep bx
  clear T5 T6
  go_upto_region 14 with fail
  have U9 : Blk (w6.alloc (.cells #[.int .i64 l', .int .i64 0, .int .i64 0, .int .i64 c', .slice none 0 0, .slice none 0 0, .slice none 0 0] 64)) 0 w6.heap.size #[.int .i64 l', .int .i64 0, .int .i64 0, .int .i64 c', .slice none 0 0, .slice none 0 0, .slice none 0 0] 64 := Blk.new (Nat.zero_le _) _ _
  obtain ⟨W6, hW6⟩ : ∃ W, W = w6.alloc (.cells #[.int .i64 l', .int .i64 0, .int .i64 0, .int .i64 c', .slice none 0 0, .slice none 0 0, .slice none 0 0] 64) := ⟨_, rfl⟩
  obtain ⟨g9, hg9⟩ : ∃ g, g = w6.heap.size := ⟨_, rfl⟩
  clear bx
  rw [← hW6] at U5 U6 b6
  rw [← hW6, ← hg9] at U9
  rw [← hW6, ← hg9]
  clear hW6 hg9
  have V5 := Lib.hid U5
  have V6 := Lib.hid U6
  have V9 := Lib.hid U9
  clear U5 U6 U9
  go_wp2_with (first | ((with_reducible refine at_load (ty := 64) (x := .tmp 9) ?_); refine wpl_load_row rfl 64 (.tmp 9) rfl g9 rfl (B := 0) (n := 7) (t := 64) (cs := #[.int .i64 l', .int .i64 0, .int .i64 0, .int .i64 c', .slice none 0 0, .slice none 0 0, .slice none 0 0]) V9.out rfl (by kernel_rfl) Try.underlying64 rfl ?_) | ((with_reducible refine at_load (ty := 64) (x := .tmp 5) ?_); refine wpl_load_row rfl 64 (.tmp 5) rfl g5 rfl (B := 0) (n := 7) (t := 64) (cs := #[.int .i64 l', .int .i64 0, .int .i64 0, .int .i64 c', .slice none 0 0, .slice none 0 0, .slice none 0 0]) V5.out rfl (by kernel_rfl) Try.underlying64 rfl ?_))
  refine (eqServer_nil _ _ _).mono ?_
  rintro e w7 ⟨rfl, h7⟩
  have b7 := btrans b6 h7
  have X6 := Lib.hid (V6.out.keep h7)
  clear V5 V6 V9
  go_wp2_with (first | ((with_reducible refine at_load (ty := 64) (x := .tmp 6) ?_); refine wpl_load_row rfl 64 (.tmp 6) rfl g6 rfl (B := 0) (n := 7) (t := 64) (cs := #[.int .i64 l', .int .i64 0, .int .i64 0, .int .i64 c', .slice none 0 0, .slice none 0 0, .slice none 0 0]) X6.out rfl (by kernel_rfl) Try.underlying64 rfl ?_))
  refine (heldServer_nil _ _ _ _ (by omega)).mono ?_
  rintro e w8 ⟨rfl, h8⟩
  have b8 := btrans b7 h8
  go_wp2
  go_ret
  exact ⟨rfl, b8⟩
theorem l_FnExactServerNew : OFnExactServerNew.Walks := by
  rintro l c w - -
  by_cases h : (bIn l 1 1000 && bIn c 0 1125899906842624) = true
  · exact new_law l c l c w (fun w => s_new_yes _ _ w h) (fun w => c_new_yes _ _ w h)
  · have h' := Bool.eq_false_iff.mpr h
    exact new_law l c 0 0 w (fun w => s_new_no _ _ w h') (fun w => c_new_no _ _ w h')
end Go.Proofs.Ytlnmpaigojmahaa.C
