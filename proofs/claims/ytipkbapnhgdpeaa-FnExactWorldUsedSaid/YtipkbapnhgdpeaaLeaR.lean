/- LeasesRight of both. No condition. -/
import Derived.Test.YtipkbapnhgdpeaaFarmR
namespace Go.Proofs.Ytipkbapnhgdpeaa.C
open Go.RowKit
set_option maxRecDepth 100000
set_option linter.unusedVariables false
set_option linter.unusedSimpArgs false
attribute [local go_sem ↓] Go.wp_at_zero Go.wp_at_succ
def leaB (a0 a1 a2 : Int) : Bool := bIn a0 1 1000000 && (bIn a1 0 1125899906842624 && bIn a2 0 1000000)
/-- Is the lease at place i right, behind the one ahead of it? -/
def okL (l : Nat → Nat → Int) (i : Nat) : Bool := leaB (l i 0) (l i 1) (l i 2) && (i == 0 || decide (l (i - 1) 0 < l i 0))
def leasesB (n : Nat) (l : Nat → Nat → Int) : Bool := decide (n ≤ 60) && (List.range n).all (okL l)
theorem leases_no {n i : Nat} {l : Nat → Nat → Int} (hi : i < n) (h : okL l i = false) : leasesB n l = false := by
  have : (List.range n).all (okL l) = false := List.all_eq_false.2 ⟨i, List.mem_range.2 hi, by rw [h]; decide⟩
  simp [leasesB, this]
theorem leases_all {n : Nat} {l : Nat → Nat → Int} (h : ∀ j, j < n → okL l j = true) : leasesB n l = decide (n ≤ 60) := by
  have : (List.range n).all (okL l) = true := List.all_eq_true.2 fun j hj => h j (List.mem_range.1 hj)
  simp [leasesB, this]
theorem s_time_k {a : Int} {b : Bool} (h : bIn a 0 1000000 = b) (w : World) : Calls Try.prog 105 #[.int .i64 a] w fun e w' => e = .returned (.bool b) ∧ w = w' := h ▸ s_time a w
theorem c_isTime_v {a : Int} {b : Bool} (h : bIn a 0 1000000 = b) (w : World) : Calls Try.prog 107 #[.int .i64 a] w fun e w' => e = .returned (.bool b) ∧ w = w' := h ▸ c_isTime a w
theorem s_want_l {a : Int} {b : Bool} (h : bIn a 0 1125899906842624 = b) (w : World) : Calls Try.prog 92 #[.int .i64 a] w fun e w' => e = .returned (.bool b) ∧ w = w' := h ▸ s_want a w
theorem s_id_l {a : Int} {b : Bool} (h : bIn a 1 1000000 = b) (w : World) : Calls Try.prog 93 #[.int .i64 a] w fun e w' => e = .returned (.bool b) ∧ w = w' := h ▸ s_id a w
theorem c_isRight (a0 a1 a2 : Int) (w : World) : Calls Try.prog 101 #[.agg #[.int .i64 a0, .int .i64 a1, .int .i64 a2]] w fun e w' => e = .returned (.bool (leaB a0 a1 a2)) ∧ Below w.heap.size w w' := by
  rcases h1 : bIn a0 1 1000000 with _ | _ <;> rcases h2 : bIn a1 0 1125899906842624 with _ | _ <;> rcases h3 : bIn a2 0 1000000 with _ | _ <;> (
    go_enter Try.func101, Try.ntmps101
    go_wp2_with ((first | (go_at_call 82; refine (c_isId_v h1 _).mono ?_; rintro e w' ⟨rfl, rfl⟩) | (go_at_call 81; refine (c_isWant_v h2 _).mono ?_; rintro e w' ⟨rfl, rfl⟩) | (go_at_call 107; refine (c_isTime_v h3 _).mono ?_; rintro e w' ⟨rfl, rfl⟩) | (go_at_call 93; refine (s_id_l h1 _).mono ?_; rintro e w' ⟨rfl, rfl⟩) | (go_at_call 92; refine (s_want_l h2 _).mono ?_; rintro e w' ⟨rfl, rfl⟩) | (go_at_call 105; refine (s_time_k h3 _).mono ?_; rintro e w' ⟨rfl, rfl⟩) | fail))
    go_ret
    exact ⟨ret_bool (by simp [leaB, h1, h2, h3]), (Below.refl _ _).alloc (Nat.le_refl _) _⟩)
theorem s_l07Lease (a0 a1 a2 : Int) (w : World) : Calls Try.prog 99 #[.agg #[.int .i64 a0, .int .i64 a1, .int .i64 a2]] w fun e w' => e = .returned (.bool (leaB a0 a1 a2)) ∧ Below w.heap.size w w' := by
  rcases h1 : bIn a0 1 1000000 with _ | _ <;> rcases h2 : bIn a1 0 1125899906842624 with _ | _ <;> rcases h3 : bIn a2 0 1000000 with _ | _ <;> (
    go_enter Try.func99, Try.ntmps99
    go_wp2_with ((first | (go_at_call 82; refine (c_isId_v h1 _).mono ?_; rintro e w' ⟨rfl, rfl⟩) | (go_at_call 81; refine (c_isWant_v h2 _).mono ?_; rintro e w' ⟨rfl, rfl⟩) | (go_at_call 107; refine (c_isTime_v h3 _).mono ?_; rintro e w' ⟨rfl, rfl⟩) | (go_at_call 93; refine (s_id_l h1 _).mono ?_; rintro e w' ⟨rfl, rfl⟩) | (go_at_call 92; refine (s_want_l h2 _).mono ?_; rintro e w' ⟨rfl, rfl⟩) | (go_at_call 105; refine (s_time_k h3 _).mono ?_; rintro e w' ⟨rfl, rfl⟩) | fail))
    go_ret
    exact ⟨ret_bool (by simp [leaB, h1, h2, h3]), (Below.refl _ _).alloc (Nat.le_refl _) _⟩)
theorem c_isRight_v {a0 a1 a2 : Int} {b : Bool} (h : leaB a0 a1 a2 = b) (w : World) : Calls Try.prog 101 #[.agg #[.int .i64 a0, .int .i64 a1, .int .i64 a2]] w fun e w' => e = .returned (.bool b) ∧ Below w.heap.size w w' := h ▸ c_isRight a0 a1 a2 w
theorem s_l07Lease_v {a0 a1 a2 : Int} {b : Bool} (h : leaB a0 a1 a2 = b) (w : World) : Calls Try.prog 99 #[.agg #[.int .i64 a0, .int .i64 a1, .int .i64 a2]] w fun e w' => e = .returned (.bool b) ∧ Below w.heap.size w w' := h ▸ s_l07Lease a0 a1 a2 w
set_option maxHeartbeats 8000000 in
theorem c_LeasesRight (A : Option Addr) (n c : Nat) (l : Nat → Nat → Int) (w : World) (h : Tab 3 w A n l) (hn : n ≤ 2000000) :
    Calls Try.prog 55 #[.slice A n c] w fun e w' => e = .returned (.bool (leasesB n l)) ∧ Below w.heap.size w w' := by
  have H := Lib.hid h
  have hb := Below.refl w.heap.size w
  clear h
  go_enter Try.func55, Try.ntmps55
  go_wp2_with fail
  go_loopw [7] (fun v7 wr => ∃ i : Nat, i ≤ n ∧ v7 = .int .i64 i ∧ Hid (∀ j, j < i → okL l j = true) ∧ Hid (Below w.heap.size w wr)) (fun v7 _ => n - (intOf v7).toNat)
  case atStart => exact ⟨0, by omega, rfl, Lib.hid (by intro j hj; omega), Lib.hid hb⟩
  case round =>
    obtain ⟨i, hi, rfl, KI, KB⟩ := hrel
    clear hb
    by_cases h5 : i < n
    · have b1 : decide ((i : Int) < (n : Int)) = true := decide_eq_true (by omega)
      obtain ⟨g, off, rfl, hg, hx⟩ := (H.out.keep KB.out).at (by omega)
      have x0 := hx i 0 h5 (by omega)
      have x1 := hx i 1 h5 (by omega)
      have x2 := hx i 2 h5 (by omega)
      rw [Nat.add_zero] at x0
      have hpv := hx (i - 1) 0 (by omega) (by omega)
      rw [Nat.add_zero] at hpv
      obtain ⟨r, hr⟩ : ∃ r, okL l i = r := ⟨_, rfl⟩
      have HRi := Lib.hid hr
      unfold okL at hr
      generalize l i 0 = a0 at *
      generalize l i 1 = a1 at *
      generalize l i 2 = a2 at *
      generalize l (i - 1) 0 = pv at *
      clear hx
      go_upto_region 4 with fail
      have hal := (Below.refl wr.heap.size wr).alloc (Nat.le_refl _) (.cells #[.int .i64 a0, .int .i64 a1, .int .i64 a2] 89)
      have Q4 := Lib.hid (Blk.new (w := wr) (B := 0) (Nat.zero_le _) #[.int .i64 a0, .int .i64 a1, .int .i64 a2] 89)
      have QP := Lib.hid ((hal.cell (p := ⟨g, off + (i - 1) * 3, none⟩) hg).trans hpv)
      have QL := Lib.hid (Nat.lt_of_lt_of_le hg hal.size)
      have QW := Lib.hid (btrans KB.out hal)
      clear hal x0 x1 x2 hpv
      generalize hb4 : wr.heap.size = b4 at *
      generalize wr.alloc (.cells #[.int .i64 a0, .int .i64 a1, .int .i64 a2] 89) = w2 at *
      clear hb4
      go_cut [29] (fun v29 wc => ∃ wx : World, wx = wc ∧ v29 = .bool (!r) ∧ Below w2.heap.size w2 wx)
      case first =>
        have t0 : ∀ p : BehW w2, p.w.cell? ⟨b4, 0, none⟩ = some (.int .i64 a0) := fun p => ((Q4.out.keep p.h).cell 0).trans rfl
        have t1 : ∀ p : BehW w2, p.w.cell? ⟨b4, 1, none⟩ = some (.int .i64 a1) := fun p => ((Q4.out.keep p.h).cell 1).trans rfl
        have t2 : ∀ p : BehW w2, p.w.cell? ⟨b4, 2, none⟩ = some (.int .i64 a2) := fun p => ((Q4.out.keep p.h).cell 2).trans rfl
        have t3 : ∀ p : BehW w2, p.w.cell? ⟨g, off + (i - 1) * 3, none⟩ = some (.int .i64 pv) := fun p => (p.h.cell (p := ⟨g, off + (i - 1) * 3, none⟩) QL.out).trans QP.out
        clear HRi
        rcases he1 : leaB a0 a1 a2 with _ | _
        · rw [he1] at hr; subst hr
          refine wp_region_beh (by kernel_rfl) (by kernel_rfl) ?_
          repeat (go_big_quiet_step ((first | (go_at_call 101; exact beh_below (c_isRight_v he1 _)) | (go_at_call 99; exact beh_below (s_l07Lease_v he1 _)) | fail)))
          refine wpQuiet_nil ?_
          intro _ hw'
          obtain ⟨qb, hw''⟩ := hw'
          subst hw''
          go_wp2_with fail
          go_meet
          exact ⟨_, rfl, rfl, qb.h⟩
        rcases hpos : decide (0 < i) with _ | _
        · have hi0 : ¬ 0 < i := of_decide_eq_false hpos
          have h0 : (i == 0) = true := beq_iff_eq.2 (by omega)
          rw [he1, h0] at hr; have hr : true = r := by simpa using hr
          subst hr; clear h0
          refine wp_region_beh (by kernel_rfl) (by kernel_rfl) ?_
          repeat (go_big_quiet_step ((first | (go_at_call 101; exact beh_below (c_isRight_v he1 _)) | (go_at_call 99; exact beh_below (s_l07Lease_v he1 _)) | fail)))
          refine wpQuiet_nil ?_
          intro _ hw'
          obtain ⟨qb, hw''⟩ := hw'
          subst hw''
          go_wp2_with fail
          go_meet
          exact ⟨_, rfl, rfl, qb.h⟩
        have hi0 : 0 < i := of_decide_eq_true hpos
        have h0 : (i == 0) = false := beq_eq_false_iff_ne.2 (by omega)
        rcases he2 : decide (pv < a0) with _ | _
        · have b4 : decide (pv ≥ a0) = true := decide_eq_true (by have := of_decide_eq_false he2; omega)
          rw [he1, h0, he2] at hr; have hr : false = r := by simpa using hr
          subst hr; clear h0 he2
          refine wp_region_beh (by kernel_rfl) (by kernel_rfl) ?_
          repeat (go_big_quiet_step ((first | (go_at_call 101; exact beh_below (c_isRight_v he1 _)) | (go_at_call 99; exact beh_below (s_l07Lease_v he1 _)) | fail)))
          refine wpQuiet_nil ?_
          intro _ hw'
          obtain ⟨qb, hw''⟩ := hw'
          subst hw''
          go_wp2_with fail
          go_meet
          exact ⟨_, rfl, rfl, qb.h⟩
        · have b4 : decide (pv ≥ a0) = false := decide_eq_false (by have := of_decide_eq_true he2; omega)
          rw [he1, h0, he2] at hr; have hr : true = r := by simpa using hr
          subst hr; clear h0 he2
          refine wp_region_beh (by kernel_rfl) (by kernel_rfl) ?_
          repeat (go_big_quiet_step ((first | (go_at_call 101; exact beh_below (c_isRight_v he1 _)) | (go_at_call 99; exact beh_below (s_l07Lease_v he1 _)) | fail)))
          refine wpQuiet_nil ?_
          intro _ hw'
          obtain ⟨qb, hw''⟩ := hw'
          subst hw''
          go_wp2_with fail
          go_meet
          exact ⟨_, rfl, rfl, qb.h⟩
      case rest =>
        obtain ⟨wx, rfl, rfl, hbx⟩ := hcut
        have KB5 := Lib.hid (btrans QW.out hbx)
        clear hr Q4 QP QL QW hbx
        rename_i hKK
        refine hKK _ _ ?_
        clear hKK
        cases r with
        | false =>
          go_wp2_with fail
          go_ret
          exact ⟨ret_bool (leases_no h5 HRi.out).symm, KB5.out⟩
        | true =>
          have KI5 : Hid (∀ j, j < i + 1 → okL l j = true) := Lib.hid (by intro j hj; rcases Nat.lt_succ_iff_lt_or_eq.1 hj with h | rfl; exact KI.out j h; exact HRi.out)
          clear KI HRi
          go_wp2_with fail
          go_roundw
          case rel => exact ⟨i + 1, by omega, by go_num, KI5, KB5⟩
          case measure => simp [intOf]; omega
    · obtain rfl : n = i := by omega
      have b1 : decide ((n : Int) < (n : Int)) = false := decide_eq_false (by omega)
      have b2 : decide ((n : Int) ≤ 60) = decide (n ≤ 60) := decide_eq_decide.2 (by omega)
      go_wp2_with fail
      go_ret
      exact ⟨ret_bool (by rw [leases_all KI.out]), KB.out⟩
set_option maxHeartbeats 8000000 in
theorem s_LeasesRight (A : Option Addr) (n c : Nat) (l : Nat → Nat → Int) (w : World) (h : Tab 3 w A n l) (hn : n ≤ 2000000) :
    Calls Try.prog 52 #[.slice A n c] w fun e w' => e = .returned (.bool (leasesB n l)) ∧ Below w.heap.size w w' := by
  have H := Lib.hid h
  have hb := Below.refl w.heap.size w
  clear h
  by_cases h60 : n ≤ 60
  case neg =>
    have b0 : decide ((n : Int) > 60) = true := decide_eq_true (by omega)
    go_enter Try.func52, Try.ntmps52
    go_wp2_with fail
    go_ret
    exact ⟨ret_bool (by simp [leasesB, h60]), hb⟩
  have b0 : decide ((n : Int) > 60) = false := decide_eq_false (by omega)
  go_enter Try.func52, Try.ntmps52
  go_wp2_with fail
  go_loopw [3] (fun v7 wr => ∃ i : Nat, i ≤ n ∧ v7 = .int .i64 i ∧ Hid (∀ j, j < i → okL l j = true) ∧ Hid (Below w.heap.size w wr)) (fun v7 _ => n - (intOf v7).toNat)
  case atStart => exact ⟨0, by omega, rfl, Lib.hid (by intro j hj; omega), Lib.hid hb⟩
  case round =>
    obtain ⟨i, hi, rfl, KI, KB⟩ := hrel
    clear hb
    by_cases h5 : i < n
    · have b1 : decide ((i : Int) < (n : Int)) = true := decide_eq_true (by omega)
      obtain ⟨g, off, rfl, hg, hx⟩ := (H.out.keep KB.out).at (by omega)
      have x0 := hx i 0 h5 (by omega)
      have x1 := hx i 1 h5 (by omega)
      have x2 := hx i 2 h5 (by omega)
      rw [Nat.add_zero] at x0
      have hpv := hx (i - 1) 0 (by omega) (by omega)
      rw [Nat.add_zero] at hpv
      obtain ⟨r, hr⟩ : ∃ r, okL l i = r := ⟨_, rfl⟩
      have HRi := Lib.hid hr
      unfold okL at hr
      generalize l i 0 = a0 at *
      generalize l i 1 = a1 at *
      generalize l i 2 = a2 at *
      generalize l (i - 1) 0 = pv at *
      clear hx
      go_upto_region 6 with fail
      have QL := Lib.hid hg
      have QX0 := Lib.hid x0
      have QX1 := Lib.hid x1
      have QX2 := Lib.hid x2
      have QP := Lib.hid hpv
      clear x0 x1 x2 hpv
      go_cut [36] (fun v29 wc => ∃ wx : World, wx = wc ∧ v29 = .bool (!r) ∧ Below wr.heap.size wr wx)
      case first =>
        have t0 : ∀ p : BehW wr, p.w.cell? ⟨g, off + i * 3, none⟩ = some (.int .i64 a0) := fun p => (p.h.cell (p := ⟨g, off + i * 3, none⟩) QL.out).trans QX0.out
        have t1 : ∀ p : BehW wr, p.w.cell? ⟨g, off + i * 3 + 1, none⟩ = some (.int .i64 a1) := fun p => (p.h.cell (p := ⟨g, off + i * 3 + 1, none⟩) QL.out).trans QX1.out
        have t2 : ∀ p : BehW wr, p.w.cell? ⟨g, off + i * 3 + 2, none⟩ = some (.int .i64 a2) := fun p => (p.h.cell (p := ⟨g, off + i * 3 + 2, none⟩) QL.out).trans QX2.out
        have t3 : ∀ p : BehW wr, p.w.cell? ⟨g, off + (i - 1) * 3, none⟩ = some (.int .i64 pv) := fun p => (p.h.cell (p := ⟨g, off + (i - 1) * 3, none⟩) QL.out).trans QP.out
        clear HRi
        rcases he1 : leaB a0 a1 a2 with _ | _
        · rw [he1] at hr; subst hr
          refine wp_region_beh (by kernel_rfl) (by kernel_rfl) ?_
          repeat (go_big_quiet_step ((first | (go_at_call 101; exact beh_below (c_isRight_v he1 _)) | (go_at_call 99; exact beh_below (s_l07Lease_v he1 _)) | fail)))
          refine wpQuiet_nil ?_
          intro _ hw'
          obtain ⟨qb, hw''⟩ := hw'
          subst hw''
          go_wp2_with fail
          go_meet
          exact ⟨_, rfl, rfl, qb.h⟩
        rcases hpos : decide (0 < i) with _ | _
        · have hi0 : ¬ 0 < i := of_decide_eq_false hpos
          have h0 : (i == 0) = true := beq_iff_eq.2 (by omega)
          rw [he1, h0] at hr; have hr : true = r := by simpa using hr
          subst hr; clear h0
          refine wp_region_beh (by kernel_rfl) (by kernel_rfl) ?_
          repeat (go_big_quiet_step ((first | (go_at_call 101; exact beh_below (c_isRight_v he1 _)) | (go_at_call 99; exact beh_below (s_l07Lease_v he1 _)) | fail)))
          refine wpQuiet_nil ?_
          intro _ hw'
          obtain ⟨qb, hw''⟩ := hw'
          subst hw''
          go_wp2_with fail
          go_meet
          exact ⟨_, rfl, rfl, qb.h⟩
        have hi0 : 0 < i := of_decide_eq_true hpos
        have h0 : (i == 0) = false := beq_eq_false_iff_ne.2 (by omega)
        rcases he2 : decide (pv < a0) with _ | _
        · have b4 : decide (a0 ≤ pv) = true := decide_eq_true (by have := of_decide_eq_false he2; omega)
          rw [he1, h0, he2] at hr; have hr : false = r := by simpa using hr
          subst hr; clear h0 he2
          refine wp_region_beh (by kernel_rfl) (by kernel_rfl) ?_
          repeat (go_big_quiet_step ((first | (go_at_call 101; exact beh_below (c_isRight_v he1 _)) | (go_at_call 99; exact beh_below (s_l07Lease_v he1 _)) | fail)))
          refine wpQuiet_nil ?_
          intro _ hw'
          obtain ⟨qb, hw''⟩ := hw'
          subst hw''
          go_wp2_with fail
          go_meet
          exact ⟨_, rfl, rfl, qb.h⟩
        · have b4 : decide (a0 ≤ pv) = false := decide_eq_false (by have := of_decide_eq_true he2; omega)
          rw [he1, h0, he2] at hr; have hr : true = r := by simpa using hr
          subst hr; clear h0 he2
          refine wp_region_beh (by kernel_rfl) (by kernel_rfl) ?_
          repeat (go_big_quiet_step ((first | (go_at_call 101; exact beh_below (c_isRight_v he1 _)) | (go_at_call 99; exact beh_below (s_l07Lease_v he1 _)) | fail)))
          refine wpQuiet_nil ?_
          intro _ hw'
          obtain ⟨qb, hw''⟩ := hw'
          subst hw''
          go_wp2_with fail
          go_meet
          exact ⟨_, rfl, rfl, qb.h⟩
      case rest =>
        obtain ⟨wx, rfl, rfl, hbx⟩ := hcut
        have KB5 := Lib.hid (btrans KB.out hbx)
        clear hr QP QL QX0 QX1 QX2 hbx
        rename_i hKK
        refine hKK _ _ ?_
        clear hKK
        cases r with
        | false =>
          go_wp2_with fail
          go_ret
          exact ⟨ret_bool (leases_no h5 HRi.out).symm, KB5.out⟩
        | true =>
          have KI5 : Hid (∀ j, j < i + 1 → okL l j = true) := Lib.hid (by intro j hj; rcases Nat.lt_succ_iff_lt_or_eq.1 hj with h | rfl; exact KI.out j h; exact HRi.out)
          clear KI HRi
          go_wp2_with fail
          go_roundw
          case rel => exact ⟨i + 1, by omega, by go_num, KI5, KB5⟩
          case measure => simp [intOf]; omega
    · obtain rfl : n = i := by omega
      have b1 : decide ((n : Int) < (n : Int)) = false := decide_eq_false (by omega)
      go_wp2_with fail
      go_ret
      exact ⟨ret_bool (by rw [leases_all KI.out]; exact (decide_eq_true h60).symm), KB.out⟩
end Go.Proofs.Ytipkbapnhgdpeaa.C
