/- WorldRight of both. No condition. -/
import Derived.Test.YtipkbapnhgdpeaaSrvR
import Derived.Test.YtipkbapnhgdpeaaWorC
import Derived.Test.YtipkbapnhgdpeaaClient
namespace Go.Proofs.Ytipkbapnhgdpeaa.C
open Go.RowKit
set_option maxRecDepth 100000
set_option linter.unusedVariables false
set_option linter.unusedSimpArgs false
attribute [local go_sem ↓] Go.wp_at_zero Go.wp_at_succ
/-- Is the client at place i right, behind the one ahead of it? -/
def okC (f : Nat → Nat → Int) (i : Nat) : Bool := clB (f i 0) (f i 1) (f i 2) (f i 3) (f i 4) (f i 5) (f i 6) (f i 7) (f i 8) (f i 9) && (i == 0 || decide (f (i - 1) 0 < f i 0))
/-- Is a world right? -/
def wldB (len born clock cap : Int) (n1 : Nat) (f1 : Nat → Nat → Int) (n2 : Nat) (f2 : Nat → Nat → Int) (n3 : Nat) (f3 : Nat → Nat → Int) (n4 : Nat) (f4 : Nat → Nat → Int) : Bool :=
  decide (n4 ≤ 20) && (srvB len born clock cap n1 f1 n2 f2 n3 f3 && (List.range n4).all (okC f4))
theorem wld_no {len born clock cap : Int} {n1 n2 n3 n4 i : Nat} {f1 f2 f3 f4 : Nat → Nat → Int} (hi : i < n4) (h : okC f4 i = false) : wldB len born clock cap n1 f1 n2 f2 n3 f3 n4 f4 = false := by
  have : (List.range n4).all (okC f4) = false := List.all_eq_false.2 ⟨i, List.mem_range.2 hi, by rw [h]; decide⟩
  simp [wldB, this]
theorem wld_all {len born clock cap : Int} {n1 n2 n3 n4 : Nat} {f1 f2 f3 f4 : Nat → Nat → Int} (h : ∀ j, j < n4 → okC f4 j = true) : wldB len born clock cap n1 f1 n2 f2 n3 f3 n4 f4 = (decide (n4 ≤ 20) && srvB len born clock cap n1 f1 n2 f2 n3 f3) := by
  have : (List.range n4).all (okC f4) = true := List.all_eq_true.2 fun j hj => h j (List.mem_range.1 hj)
  simp [wldB, this]
theorem c_CR_v {a0 a1 a2 a3 a4 a5 a6 a7 a8 a9 : Int} {b : Bool} (h : clB a0 a1 a2 a3 a4 a5 a6 a7 a8 a9 = b) (w : World) : Calls Try.prog 63 #[.agg #[.int .i64 a0, .int .i64 a1, .int .i64 a2, .int .i64 a3, .int .i64 a4, .int .i64 a5, .int .i64 a6, .int .i64 a7, .int .i64 a8, .int .i64 a9]] w fun e w' => e = .returned (.bool b) ∧ Below w.heap.size w w' :=
  (c_ClientRight a0 a1 a2 a3 a4 a5 a6 a7 a8 a9 w).mono fun _ _ ⟨he, hw⟩ => ⟨h ▸ he, hw ▸ (Below.refl _ _).alloc (Nat.le_refl _) _⟩
theorem s_CR_v {a0 a1 a2 a3 a4 a5 a6 a7 a8 a9 : Int} {b : Bool} (h : clB a0 a1 a2 a3 a4 a5 a6 a7 a8 a9 = b) (w : World) : Calls Try.prog 61 #[.agg #[.int .i64 a0, .int .i64 a1, .int .i64 a2, .int .i64 a3, .int .i64 a4, .int .i64 a5, .int .i64 a6, .int .i64 a7, .int .i64 a8, .int .i64 a9]] w fun e w' => e = .returned (.bool b) ∧ Below w.heap.size w w' :=
  (s_ClientRight a0 a1 a2 a3 a4 a5 a6 a7 a8 a9 w).mono fun _ _ ⟨he, hw⟩ => ⟨h ▸ he, hw ▸ (Below.refl _ _).alloc (Nat.le_refl _) _⟩
theorem s_SR_w {r : Bool} (len born clock cap : Int) (A1 A2 A3 : Option Addr) (n1 c1 n2 c2 n3 c3 : Nat) (f1 f2 f3 : Nat → Nat → Int) (w : World) (h : SrvAt w A1 n1 f1 A2 n2 f2 A3 n3 f3) (hc1 : n1 ≤ c1) (hn3 : n3 ≤ 2000000) (he : srvB len born clock cap n1 f1 n2 f2 n3 f3 = r) : Calls Try.prog 13 #[.agg #[.int .i64 len, .int .i64 born, .int .i64 clock, .int .i64 cap, .slice A1 n1 c1, .slice A2 n2 c2, .slice A3 n3 c3]] w fun e w' => e = .returned (.bool r) ∧ Below w.heap.size w w' := he ▸ s_ServerRight len born clock cap A1 A2 A3 n1 c1 n2 c2 n3 c3 f1 f2 f3 w h hc1 hn3
theorem c_SR_w {r : Bool} (len born clock cap : Int) (A1 A2 A3 : Option Addr) (n1 c1 n2 c2 n3 c3 : Nat) (f1 f2 f3 : Nat → Nat → Int) (w : World) (h : SrvAt w A1 n1 f1 A2 n2 f2 A3 n3 f3) (hc1 : n1 ≤ c1) (hn3 : n3 ≤ 2000000) (he : srvB len born clock cap n1 f1 n2 f2 n3 f3 = r) : Calls Try.prog 15 #[.agg #[.int .i64 len, .int .i64 born, .int .i64 clock, .int .i64 cap, .slice A1 n1 c1, .slice A2 n2 c2, .slice A3 n3 c3]] w fun e w' => e = .returned (.bool r) ∧ Below w.heap.size w w' := he ▸ c_ServerRight len born clock cap A1 A2 A3 n1 c1 n2 c2 n3 c3 f1 f2 f3 w h hc1 hn3
set_option maxHeartbeats 8000000 in
theorem c_WorldRight (len born clock cap : Int) (A1 A2 A3 A4 : Option Addr) (n1 c1 n2 c2 n3 c3 n4 c4 : Nat) (f1 f2 f3 f4 : Nat → Nat → Int) (w : World) (h : WldAt w A1 n1 f1 A2 n2 f2 A3 n3 f3 A4 n4 f4) (hc1 : n1 ≤ c1) (hn3 : n3 ≤ 2000000) (hn4 : n4 ≤ 2000000) :
    Calls Try.prog 22 #[.agg #[.int .i64 len, .int .i64 born, .int .i64 clock, .int .i64 cap, .slice A1 n1 c1, .slice A2 n2 c2, .slice A3 n3 c3, .slice A4 n4 c4]] w fun e w' => e = .returned (.bool (wldB len born clock cap n1 f1 n2 f2 n3 f3 n4 f4)) ∧ Below w.heap.size w w' := by
  have hb := (Below.refl _ w).alloc (Nat.le_refl _) (.cells #[.int .i64 len, .int .i64 born, .int .i64 clock, .int .i64 cap, .slice A1 n1 c1, .slice A2 n2 c2, .slice A3 n3 c3, .slice A4 n4 c4] 49)
  have BK := Lib.hid (Blk.new (w := w) (B := 0) (Nat.zero_le _) #[.int .i64 len, .int .i64 born, .int .i64 clock, .int .i64 cap, .slice A1 n1 c1, .slice A2 n2 c2, .slice A3 n3 c3, .slice A4 n4 c4] 49)
  have H := Lib.hid (h.keep hb)
  have HB := Lib.hid hb
  have hz : w.heap.size ≤ (w.alloc (.cells #[.int .i64 len, .int .i64 born, .int .i64 clock, .int .i64 cap, .slice A1 n1 c1, .slice A2 n2 c2, .slice A3 n3 c3, .slice A4 n4 c4] 49)).heap.size := hb.size
  have HZ := Lib.hid hz
  clear h hb hz
  go_enter Try.func22, Try.ntmps22
  go_upto_region 1 with fail
  generalize w.alloc (.cells #[.int .i64 len, .int .i64 born, .int .i64 clock, .int .i64 cap, .slice A1 n1 c1, .slice A2 n2 c2, .slice A3 n3 c3, .slice A4 n4 c4] 49) = w1 at *
  obtain ⟨b, hbb⟩ : ∃ b, w.heap.size = b := ⟨_, rfl⟩
  rw [hbb] at BK ⊢
  have T1 : Hid (∀ w', Below w1.heap.size w1 w' → w'.cell? ⟨b, 0, none⟩ = some (.int .i64 len) ∧ w'.cell? ⟨b, 1, none⟩ = some (.int .i64 born) ∧ w'.cell? ⟨b, 2, none⟩ = some (.int .i64 clock) ∧ w'.cell? ⟨b, 3, none⟩ = some (.int .i64 cap) ∧ w'.cell? ⟨b, 4, none⟩ = some (.slice A1 n1 c1) ∧ w'.cell? ⟨b, 5, none⟩ = some (.slice A2 n2 c2) ∧ w'.cell? ⟨b, 6, none⟩ = some (.slice A3 n3 c3) ∧ w'.cell? ⟨b, 7, none⟩ = some (.slice A4 n4 c4)) := Lib.hid fun w' hb => ⟨((BK.out.keep hb).cell 0).trans rfl, ((BK.out.keep hb).cell 1).trans rfl, ((BK.out.keep hb).cell 2).trans rfl, ((BK.out.keep hb).cell 3).trans rfl, ((BK.out.keep hb).cell 4).trans rfl, ((BK.out.keep hb).cell 5).trans rfl, ((BK.out.keep hb).cell 6).trans rfl, ((BK.out.keep hb).cell 7).trans rfl⟩
  obtain ⟨z0, z1, z2, z3, z4, z5, z6, z7⟩ := T1.out w1 (Below.refl _ _)
  go_wp2_with fail
  clear z0 z1 z2 z3 z4 z5 z6 z7
  go_loopw [8] (fun v8 wr => ∃ i : Nat, i ≤ n4 ∧ v8 = .int .i64 i ∧ Hid (∀ j, j < i → okC f4 j = true) ∧ Hid (Below w1.heap.size w1 wr)) (fun v8 _ => n4 - (intOf v8).toNat)
  case atStart => exact ⟨0, by omega, rfl, Lib.hid (by intro j hj; omega), Lib.hid (Below.refl _ _)⟩
  case round =>
    obtain ⟨i, hi, rfl, KI, KB⟩ := hrel
    by_cases h5 : i < n4
    · have b1 : decide ((i : Int) < (n4 : Int)) = true := decide_eq_true (by omega)
      obtain ⟨g, off, rfl, hg, hx⟩ := (H.out.c.keep KB.out).at (by omega)
      have x0 := hx i 0 h5 (by omega)
      have x1 := hx i 1 h5 (by omega)
      have x2 := hx i 2 h5 (by omega)
      have x3 := hx i 3 h5 (by omega)
      have x4 := hx i 4 h5 (by omega)
      have x5 := hx i 5 h5 (by omega)
      have x6 := hx i 6 h5 (by omega)
      have x7 := hx i 7 h5 (by omega)
      have x8 := hx i 8 h5 (by omega)
      have x9 := hx i 9 h5 (by omega)
      rw [Nat.add_zero] at x0
      have hpv := hx (i - 1) 0 (by omega) (by omega)
      rw [Nat.add_zero] at hpv
      obtain ⟨r, hr⟩ : ∃ r, okC f4 i = r := ⟨_, rfl⟩
      have HRi := Lib.hid hr
      unfold okC at hr
      generalize f4 i 0 = a0 at *
      generalize f4 i 1 = a1 at *
      generalize f4 i 2 = a2 at *
      generalize f4 i 3 = a3 at *
      generalize f4 i 4 = a4 at *
      generalize f4 i 5 = a5 at *
      generalize f4 i 6 = a6 at *
      generalize f4 i 7 = a7 at *
      generalize f4 i 8 = a8 at *
      generalize f4 i 9 = a9 at *
      generalize f4 (i - 1) 0 = pv at *
      clear hx
      go_upto_region 4 with fail
      have hal := (Below.refl wr.heap.size wr).alloc (Nat.le_refl _) (.cells #[.int .i64 a0, .int .i64 a1, .int .i64 a2, .int .i64 a3, .int .i64 a4, .int .i64 a5, .int .i64 a6, .int .i64 a7, .int .i64 a8, .int .i64 a9] 101)
      have Q4 := Lib.hid (Blk.new (w := wr) (B := 0) (Nat.zero_le _) #[.int .i64 a0, .int .i64 a1, .int .i64 a2, .int .i64 a3, .int .i64 a4, .int .i64 a5, .int .i64 a6, .int .i64 a7, .int .i64 a8, .int .i64 a9] 101)
      have QP := Lib.hid ((hal.cell (p := ⟨g, off + (i - 1) * 10, none⟩) hg).trans hpv)
      have QL := Lib.hid (Nat.lt_of_lt_of_le hg hal.size)
      have QW := Lib.hid (btrans KB.out hal)
      clear hal x0 x1 x2 x3 x4 x5 x6 x7 x8 x9 hpv
      generalize hb4 : wr.heap.size = b4 at *
      generalize wr.alloc (.cells #[.int .i64 a0, .int .i64 a1, .int .i64 a2, .int .i64 a3, .int .i64 a4, .int .i64 a5, .int .i64 a6, .int .i64 a7, .int .i64 a8, .int .i64 a9] 101) = w2 at *
      clear hb4
      go_cut [31] (fun v31 wc => ∃ wx : World, wx = wc ∧ v31 = .bool (!r) ∧ Below w2.heap.size w2 wx)
      case first =>
        have t0 : ∀ p : BehW w2, p.w.cell? ⟨b4, 0, none⟩ = some (.int .i64 a0) := fun p => ((Q4.out.keep p.h).cell 0).trans rfl
        have t1 : ∀ p : BehW w2, p.w.cell? ⟨b4, 1, none⟩ = some (.int .i64 a1) := fun p => ((Q4.out.keep p.h).cell 1).trans rfl
        have t2 : ∀ p : BehW w2, p.w.cell? ⟨b4, 2, none⟩ = some (.int .i64 a2) := fun p => ((Q4.out.keep p.h).cell 2).trans rfl
        have t3 : ∀ p : BehW w2, p.w.cell? ⟨b4, 3, none⟩ = some (.int .i64 a3) := fun p => ((Q4.out.keep p.h).cell 3).trans rfl
        have t4 : ∀ p : BehW w2, p.w.cell? ⟨b4, 4, none⟩ = some (.int .i64 a4) := fun p => ((Q4.out.keep p.h).cell 4).trans rfl
        have t5 : ∀ p : BehW w2, p.w.cell? ⟨b4, 5, none⟩ = some (.int .i64 a5) := fun p => ((Q4.out.keep p.h).cell 5).trans rfl
        have t6 : ∀ p : BehW w2, p.w.cell? ⟨b4, 6, none⟩ = some (.int .i64 a6) := fun p => ((Q4.out.keep p.h).cell 6).trans rfl
        have t7 : ∀ p : BehW w2, p.w.cell? ⟨b4, 7, none⟩ = some (.int .i64 a7) := fun p => ((Q4.out.keep p.h).cell 7).trans rfl
        have t8 : ∀ p : BehW w2, p.w.cell? ⟨b4, 8, none⟩ = some (.int .i64 a8) := fun p => ((Q4.out.keep p.h).cell 8).trans rfl
        have t9 : ∀ p : BehW w2, p.w.cell? ⟨b4, 9, none⟩ = some (.int .i64 a9) := fun p => ((Q4.out.keep p.h).cell 9).trans rfl
        have t10 : ∀ p : BehW w2, p.w.cell? ⟨g, off + (i - 1) * 10, none⟩ = some (.int .i64 pv) := fun p => (p.h.cell (p := ⟨g, off + (i - 1) * 10, none⟩) QL.out).trans QP.out
        have t11 : ∀ p : BehW w2, p.w.cell? ⟨b, 7, none⟩ = some (.slice (some ⟨g, off, none⟩) n4 c4) := fun p => (T1.out _ (btrans QW.out p.h)).2.2.2.2.2.2.2
        clear HRi
        rcases he1 : clB a0 a1 a2 a3 a4 a5 a6 a7 a8 a9 with _ | _
        · rw [he1] at hr; subst hr
          refine wp_region_beh (by kernel_rfl) (by kernel_rfl) ?_
          repeat (go_big_quiet_step ((first | (go_at_call 63; exact beh_below (c_CR_v he1 _)) | (go_at_call 61; exact beh_below (s_CR_v he1 _)) | fail)))
          refine wpQuiet_nil ?_
          intro _ hw'
          obtain ⟨qb, hw''⟩ := hw'
          subst hw''
          go_wp2_with fail
          go_meet
          exact ⟨_, rfl, rfl, qb.h⟩
        rcases hpos : decide (0 < i) with _ | _
        · have hi0 : ¬ 0 < i := of_decide_eq_false hpos
          have h0 : (i == 0) = true := beq_iff_eq.2 (by omega)
          rw [he1, h0] at hr; have hr : true = r := by simpa using hr
          subst hr; clear h0
          refine wp_region_beh (by kernel_rfl) (by kernel_rfl) ?_
          repeat (go_big_quiet_step ((first | (go_at_call 63; exact beh_below (c_CR_v he1 _)) | (go_at_call 61; exact beh_below (s_CR_v he1 _)) | fail)))
          refine wpQuiet_nil ?_
          intro _ hw'
          obtain ⟨qb, hw''⟩ := hw'
          subst hw''
          go_wp2_with fail
          go_meet
          exact ⟨_, rfl, rfl, qb.h⟩
        have hi0 : 0 < i := of_decide_eq_true hpos
        have h0 : (i == 0) = false := beq_eq_false_iff_ne.2 (by omega)
        rcases he2 : decide (pv < a0) with _ | _
        · have b4 : decide (pv ≥ a0) = true := decide_eq_true (by have := of_decide_eq_false he2; omega)
          rw [he1, h0, he2] at hr; have hr : false = r := by simpa using hr
          subst hr; clear h0 he2
          refine wp_region_beh (by kernel_rfl) (by kernel_rfl) ?_
          repeat (go_big_quiet_step ((first | (go_at_call 63; exact beh_below (c_CR_v he1 _)) | (go_at_call 61; exact beh_below (s_CR_v he1 _)) | fail)))
          refine wpQuiet_nil ?_
          intro _ hw'
          obtain ⟨qb, hw''⟩ := hw'
          subst hw''
          go_wp2_with fail
          go_meet
          exact ⟨_, rfl, rfl, qb.h⟩
        · have b4 : decide (pv ≥ a0) = false := decide_eq_false (by have := of_decide_eq_true he2; omega)
          rw [he1, h0, he2] at hr; have hr : true = r := by simpa using hr
          subst hr; clear h0 he2
          refine wp_region_beh (by kernel_rfl) (by kernel_rfl) ?_
          repeat (go_big_quiet_step ((first | (go_at_call 63; exact beh_below (c_CR_v he1 _)) | (go_at_call 61; exact beh_below (s_CR_v he1 _)) | fail)))
          refine wpQuiet_nil ?_
          intro _ hw'
          obtain ⟨qb, hw''⟩ := hw'
          subst hw''
          go_wp2_with fail
          go_meet
          exact ⟨_, rfl, rfl, qb.h⟩
      case rest =>
        obtain ⟨wx, rfl, rfl, hbx⟩ := hcut
        have KB5 := Lib.hid (btrans QW.out hbx)
        clear hr Q4 QP QL QW hbx
        rename_i hKK
        refine hKK _ _ ?_
        clear hKK
        cases r with
        | false =>
          go_wp2_with fail
          go_ret
          exact ⟨ret_bool (wld_no h5 HRi.out).symm, by first | exact HB.out.trans (KB5.out.mono HZ.out) | (rw [← hbb]; exact HB.out.trans (KB5.out.mono HZ.out))⟩
        | true =>
          have KI5 : Hid (∀ j, j < i + 1 → okC f4 j = true) := Lib.hid (by intro j hj; rcases Nat.lt_succ_iff_lt_or_eq.1 hj with h | rfl; exact KI.out j h; exact HRi.out)
          clear KI HRi
          go_wp2_with fail
          go_roundw
          case rel => exact ⟨i + 1, by omega, by go_num, KI5, KB5⟩
          case measure => simp [intOf]; omega
    · obtain rfl : n4 = i := by omega
      have b1 : decide ((n4 : Int) < (n4 : Int)) = false := decide_eq_false (by omega)
      have E := Lib.hid (wld_all (len := len) (born := born) (clock := clock) (cap := cap) (n1 := n1) (f1 := f1) (n2 := n2) (f2 := f2) (n3 := n3) (f3 := f3) KI.out)
      have bq : decide ((n4 : Int) ≤ 20) = decide (n4 ≤ 20) := decide_eq_decide.2 (by omega)
      obtain ⟨z0, z1, z2, z3, z4, z5, z6, z7⟩ := T1.out wr KB.out
      clear KI
      rcases h20 : decide (n4 ≤ 20) with _ | _
      · rw [h20] at E bq
        go_wp2_with fail
        go_ret
        exact ⟨ret_bool (by rw [E.out]; rfl), by first | exact HB.out.trans (KB.out.mono HZ.out) | (rw [← hbb]; exact HB.out.trans (KB.out.mono HZ.out))⟩
      · rw [h20] at E bq
        obtain ⟨rs, hrs⟩ : ∃ r, srvB len born clock cap n1 f1 n2 f2 n3 f3 = r := ⟨_, rfl⟩
        have HRS := Lib.hid hrs
        clear hrs
        go_wp2_with (first | (go_at_call 15; refine (c_SR_w _ _ _ _ _ _ _ _ _ _ _ _ _ _ _ _ _ (H.out.s.keep KB.out) hc1 hn3 HRS.out).mono ?_; rintro e w2 ⟨rfl, hb2⟩; have HB2 := Lib.hid (btrans KB.out hb2); clear hb2) | fail)
        go_ret
        exact ⟨ret_bool (by rw [E.out, HRS.out]; rfl), by first | exact HB.out.trans (HB2.out.mono HZ.out) | (rw [← hbb]; exact HB.out.trans (HB2.out.mono HZ.out))⟩
set_option maxHeartbeats 8000000 in
theorem s_WorldRight (len born clock cap : Int) (A1 A2 A3 A4 : Option Addr) (n1 c1 n2 c2 n3 c3 n4 c4 : Nat) (f1 f2 f3 f4 : Nat → Nat → Int) (w : World) (h : WldAt w A1 n1 f1 A2 n2 f2 A3 n3 f3 A4 n4 f4) (hc1 : n1 ≤ c1) (hn3 : n3 ≤ 2000000) (hn4 : n4 ≤ 2000000) :
    Calls Try.prog 20 #[.agg #[.int .i64 len, .int .i64 born, .int .i64 clock, .int .i64 cap, .slice A1 n1 c1, .slice A2 n2 c2, .slice A3 n3 c3, .slice A4 n4 c4]] w fun e w' => e = .returned (.bool (wldB len born clock cap n1 f1 n2 f2 n3 f3 n4 f4)) ∧ Below w.heap.size w w' := by
  have hb := (Below.refl _ w).alloc (Nat.le_refl _) (.cells #[.int .i64 len, .int .i64 born, .int .i64 clock, .int .i64 cap, .slice A1 n1 c1, .slice A2 n2 c2, .slice A3 n3 c3, .slice A4 n4 c4] 49)
  have BK := Lib.hid (Blk.new (w := w) (B := 0) (Nat.zero_le _) #[.int .i64 len, .int .i64 born, .int .i64 clock, .int .i64 cap, .slice A1 n1 c1, .slice A2 n2 c2, .slice A3 n3 c3, .slice A4 n4 c4] 49)
  have H := Lib.hid (h.keep hb)
  have HB := Lib.hid hb
  have hz : w.heap.size ≤ (w.alloc (.cells #[.int .i64 len, .int .i64 born, .int .i64 clock, .int .i64 cap, .slice A1 n1 c1, .slice A2 n2 c2, .slice A3 n3 c3, .slice A4 n4 c4] 49)).heap.size := hb.size
  have HZ := Lib.hid hz
  clear h hb hz
  go_enter Try.func20, Try.ntmps20
  go_upto_region 1 with fail
  generalize w.alloc (.cells #[.int .i64 len, .int .i64 born, .int .i64 clock, .int .i64 cap, .slice A1 n1 c1, .slice A2 n2 c2, .slice A3 n3 c3, .slice A4 n4 c4] 49) = w1 at *
  obtain ⟨b, hbb⟩ : ∃ b, w.heap.size = b := ⟨_, rfl⟩
  rw [hbb] at BK ⊢
  have T1 : Hid (∀ w', Below w1.heap.size w1 w' → w'.cell? ⟨b, 0, none⟩ = some (.int .i64 len) ∧ w'.cell? ⟨b, 1, none⟩ = some (.int .i64 born) ∧ w'.cell? ⟨b, 2, none⟩ = some (.int .i64 clock) ∧ w'.cell? ⟨b, 3, none⟩ = some (.int .i64 cap) ∧ w'.cell? ⟨b, 4, none⟩ = some (.slice A1 n1 c1) ∧ w'.cell? ⟨b, 5, none⟩ = some (.slice A2 n2 c2) ∧ w'.cell? ⟨b, 6, none⟩ = some (.slice A3 n3 c3) ∧ w'.cell? ⟨b, 7, none⟩ = some (.slice A4 n4 c4)) := Lib.hid fun w' hb => ⟨((BK.out.keep hb).cell 0).trans rfl, ((BK.out.keep hb).cell 1).trans rfl, ((BK.out.keep hb).cell 2).trans rfl, ((BK.out.keep hb).cell 3).trans rfl, ((BK.out.keep hb).cell 4).trans rfl, ((BK.out.keep hb).cell 5).trans rfl, ((BK.out.keep hb).cell 6).trans rfl, ((BK.out.keep hb).cell 7).trans rfl⟩
  obtain ⟨z0, z1, z2, z3, z4, z5, z6, z7⟩ := T1.out w1 (Below.refl _ _)
  rcases hrs : srvB len born clock cap n1 f1 n2 f2 n3 f3 with _ | _
  · have HRS := Lib.hid hrs
    clear hrs
    go_wp2_with (first | (go_at_call 13; refine (s_SR_w _ _ _ _ _ _ _ _ _ _ _ _ _ _ _ _ _ H.out.s hc1 hn3 HRS.out).mono ?_; rintro e w2 ⟨rfl, hb2⟩; have HB2 := Lib.hid hb2; clear hb2) | fail)
    go_ret
    exact ⟨ret_bool (by simp [wldB, HRS.out]), by first | exact HB.out.trans (HB2.out.mono HZ.out) | (rw [← hbb]; exact HB.out.trans (HB2.out.mono HZ.out))⟩
  have HRS := Lib.hid hrs
  clear hrs
  by_cases h20 : n4 ≤ 20
  case neg =>
    have b0 : decide ((n4 : Int) > 20) = true := decide_eq_true (by omega)
    go_wp2_with (first | (go_at_call 13; refine (s_SR_w _ _ _ _ _ _ _ _ _ _ _ _ _ _ _ _ _ H.out.s hc1 hn3 HRS.out).mono ?_; rintro e w2 ⟨rfl, hb2⟩; have HB2 := Lib.hid hb2; clear hb2; obtain ⟨-, -, -, -, -, -, -, y7⟩ := T1.out w2 HB2.out) | fail)
    go_ret
    exact ⟨ret_bool (by simp [wldB, h20]), by first | exact HB.out.trans (HB2.out.mono HZ.out) | (rw [← hbb]; exact HB.out.trans (HB2.out.mono HZ.out))⟩
  have b0 : decide ((n4 : Int) > 20) = false := decide_eq_false (by omega)
  have H20 := Lib.hid h20
  clear h20
  go_wp2_with (first | (go_at_call 13; refine (s_SR_w _ _ _ _ _ _ _ _ _ _ _ _ _ _ _ _ _ H.out.s hc1 hn3 HRS.out).mono ?_; rintro e w2 ⟨rfl, hb2⟩; have HB2 := Lib.hid hb2; clear hb2; obtain ⟨-, -, -, -, -, -, -, y7⟩ := T1.out w2 HB2.out) | fail)
  clear z0 z1 z2 z3 z4 z5 z6 z7 y7
  go_loopw [3] (fun v8 wr => ∃ i : Nat, i ≤ n4 ∧ v8 = .int .i64 i ∧ Hid (∀ j, j < i → okC f4 j = true) ∧ Hid (Below w1.heap.size w1 wr)) (fun v8 _ => n4 - (intOf v8).toNat)
  case atStart => exact ⟨0, by omega, rfl, Lib.hid (by intro j hj; omega), HB2⟩
  case round =>
    obtain ⟨i, hi, rfl, KI, KB⟩ := hrel
    clear HB2
    obtain ⟨-, -, -, -, -, -, -, z7⟩ := T1.out wr KB.out
    by_cases h5 : i < n4
    · have b1 : decide ((i : Int) < (n4 : Int)) = true := decide_eq_true (by omega)
      obtain ⟨g, off, rfl, hg, hx⟩ := (H.out.c.keep KB.out).at (by omega)
      have x0 := hx i 0 h5 (by omega)
      have x1 := hx i 1 h5 (by omega)
      have x2 := hx i 2 h5 (by omega)
      have x3 := hx i 3 h5 (by omega)
      have x4 := hx i 4 h5 (by omega)
      have x5 := hx i 5 h5 (by omega)
      have x6 := hx i 6 h5 (by omega)
      have x7 := hx i 7 h5 (by omega)
      have x8 := hx i 8 h5 (by omega)
      have x9 := hx i 9 h5 (by omega)
      rw [Nat.add_zero] at x0
      have hpv := hx (i - 1) 0 (by omega) (by omega)
      rw [Nat.add_zero] at hpv
      obtain ⟨r, hr⟩ : ∃ r, okC f4 i = r := ⟨_, rfl⟩
      have HRi := Lib.hid hr
      unfold okC at hr
      generalize f4 i 0 = a0 at *
      generalize f4 i 1 = a1 at *
      generalize f4 i 2 = a2 at *
      generalize f4 i 3 = a3 at *
      generalize f4 i 4 = a4 at *
      generalize f4 i 5 = a5 at *
      generalize f4 i 6 = a6 at *
      generalize f4 i 7 = a7 at *
      generalize f4 i 8 = a8 at *
      generalize f4 i 9 = a9 at *
      generalize f4 (i - 1) 0 = pv at *
      clear hx
      go_upto_region 6 with fail
      have QL := Lib.hid hg
      have QX0 := Lib.hid x0
      have QX1 := Lib.hid x1
      have QX2 := Lib.hid x2
      have QX3 := Lib.hid x3
      have QX4 := Lib.hid x4
      have QX5 := Lib.hid x5
      have QX6 := Lib.hid x6
      have QX7 := Lib.hid x7
      have QX8 := Lib.hid x8
      have QX9 := Lib.hid x9
      have QP := Lib.hid hpv
      clear x0 x1 x2 x3 x4 x5 x6 x7 x8 x9 hpv z7
      go_cut [47] (fun v47 wc => ∃ wx : World, wx = wc ∧ v47 = .bool (!r) ∧ Below wr.heap.size wr wx)
      case first =>
        have t0 : ∀ p : BehW wr, p.w.cell? ⟨g, off + i * 10, none⟩ = some (.int .i64 a0) := fun p => (p.h.cell (p := ⟨g, off + i * 10, none⟩) QL.out).trans QX0.out
        have t1 : ∀ p : BehW wr, p.w.cell? ⟨g, off + i * 10 + 1, none⟩ = some (.int .i64 a1) := fun p => (p.h.cell (p := ⟨g, off + i * 10 + 1, none⟩) QL.out).trans QX1.out
        have t2 : ∀ p : BehW wr, p.w.cell? ⟨g, off + i * 10 + 2, none⟩ = some (.int .i64 a2) := fun p => (p.h.cell (p := ⟨g, off + i * 10 + 2, none⟩) QL.out).trans QX2.out
        have t3 : ∀ p : BehW wr, p.w.cell? ⟨g, off + i * 10 + 3, none⟩ = some (.int .i64 a3) := fun p => (p.h.cell (p := ⟨g, off + i * 10 + 3, none⟩) QL.out).trans QX3.out
        have t4 : ∀ p : BehW wr, p.w.cell? ⟨g, off + i * 10 + 4, none⟩ = some (.int .i64 a4) := fun p => (p.h.cell (p := ⟨g, off + i * 10 + 4, none⟩) QL.out).trans QX4.out
        have t5 : ∀ p : BehW wr, p.w.cell? ⟨g, off + i * 10 + 5, none⟩ = some (.int .i64 a5) := fun p => (p.h.cell (p := ⟨g, off + i * 10 + 5, none⟩) QL.out).trans QX5.out
        have t6 : ∀ p : BehW wr, p.w.cell? ⟨g, off + i * 10 + 6, none⟩ = some (.int .i64 a6) := fun p => (p.h.cell (p := ⟨g, off + i * 10 + 6, none⟩) QL.out).trans QX6.out
        have t7 : ∀ p : BehW wr, p.w.cell? ⟨g, off + i * 10 + 7, none⟩ = some (.int .i64 a7) := fun p => (p.h.cell (p := ⟨g, off + i * 10 + 7, none⟩) QL.out).trans QX7.out
        have t8 : ∀ p : BehW wr, p.w.cell? ⟨g, off + i * 10 + 8, none⟩ = some (.int .i64 a8) := fun p => (p.h.cell (p := ⟨g, off + i * 10 + 8, none⟩) QL.out).trans QX8.out
        have t9 : ∀ p : BehW wr, p.w.cell? ⟨g, off + i * 10 + 9, none⟩ = some (.int .i64 a9) := fun p => (p.h.cell (p := ⟨g, off + i * 10 + 9, none⟩) QL.out).trans QX9.out
        have t10 : ∀ p : BehW wr, p.w.cell? ⟨g, off + (i - 1) * 10, none⟩ = some (.int .i64 pv) := fun p => (p.h.cell (p := ⟨g, off + (i - 1) * 10, none⟩) QL.out).trans QP.out
        have t11 : ∀ p : BehW wr, p.w.cell? ⟨b, 7, none⟩ = some (.slice (some ⟨g, off, none⟩) n4 c4) := fun p => (T1.out _ (btrans KB.out p.h)).2.2.2.2.2.2.2
        clear HRi
        rcases he1 : clB a0 a1 a2 a3 a4 a5 a6 a7 a8 a9 with _ | _
        · rw [he1] at hr; subst hr
          refine wp_region_beh (by kernel_rfl) (by kernel_rfl) ?_
          repeat (go_big_quiet_step ((first | (go_at_call 63; exact beh_below (c_CR_v he1 _)) | (go_at_call 61; exact beh_below (s_CR_v he1 _)) | fail)))
          refine wpQuiet_nil ?_
          intro _ hw'
          obtain ⟨qb, hw''⟩ := hw'
          subst hw''
          go_wp2_with fail
          go_meet
          exact ⟨_, rfl, rfl, qb.h⟩
        rcases hpos : decide (0 < i) with _ | _
        · have hi0 : ¬ 0 < i := of_decide_eq_false hpos
          have h0 : (i == 0) = true := beq_iff_eq.2 (by omega)
          rw [he1, h0] at hr; have hr : true = r := by simpa using hr
          subst hr; clear h0
          refine wp_region_beh (by kernel_rfl) (by kernel_rfl) ?_
          repeat (go_big_quiet_step ((first | (go_at_call 63; exact beh_below (c_CR_v he1 _)) | (go_at_call 61; exact beh_below (s_CR_v he1 _)) | fail)))
          refine wpQuiet_nil ?_
          intro _ hw'
          obtain ⟨qb, hw''⟩ := hw'
          subst hw''
          go_wp2_with fail
          go_meet
          exact ⟨_, rfl, rfl, qb.h⟩
        have hi0 : 0 < i := of_decide_eq_true hpos
        have h0 : (i == 0) = false := beq_eq_false_iff_ne.2 (by omega)
        rcases he2 : decide (pv < a0) with _ | _
        · have b4 : decide (a0 ≤ pv) = true := decide_eq_true (by have := of_decide_eq_false he2; omega)
          rw [he1, h0, he2] at hr; have hr : false = r := by simpa using hr
          subst hr; clear h0 he2
          refine wp_region_beh (by kernel_rfl) (by kernel_rfl) ?_
          repeat (go_big_quiet_step ((first | (go_at_call 63; exact beh_below (c_CR_v he1 _)) | (go_at_call 61; exact beh_below (s_CR_v he1 _)) | fail)))
          refine wpQuiet_nil ?_
          intro _ hw'
          obtain ⟨qb, hw''⟩ := hw'
          subst hw''
          go_wp2_with fail
          go_meet
          exact ⟨_, rfl, rfl, qb.h⟩
        · have b4 : decide (a0 ≤ pv) = false := decide_eq_false (by have := of_decide_eq_true he2; omega)
          rw [he1, h0, he2] at hr; have hr : true = r := by simpa using hr
          subst hr; clear h0 he2
          refine wp_region_beh (by kernel_rfl) (by kernel_rfl) ?_
          repeat (go_big_quiet_step ((first | (go_at_call 63; exact beh_below (c_CR_v he1 _)) | (go_at_call 61; exact beh_below (s_CR_v he1 _)) | fail)))
          refine wpQuiet_nil ?_
          intro _ hw'
          obtain ⟨qb, hw''⟩ := hw'
          subst hw''
          go_wp2_with fail
          go_meet
          exact ⟨_, rfl, rfl, qb.h⟩
      case rest =>
        obtain ⟨wx, rfl, rfl, hbx⟩ := hcut
        have KB5 := Lib.hid (btrans KB.out hbx)
        clear hr QX0 QX1 QX2 QX3 QX4 QX5 QX6 QX7 QX8 QX9 QP QL hbx
        rename_i hKK
        refine hKK _ _ ?_
        clear hKK
        cases r with
        | false =>
          go_wp2_with fail
          go_ret
          exact ⟨ret_bool (wld_no h5 HRi.out).symm, by first | exact HB.out.trans (KB5.out.mono HZ.out) | (rw [← hbb]; exact HB.out.trans (KB5.out.mono HZ.out))⟩
        | true =>
          have KI5 : Hid (∀ j, j < i + 1 → okC f4 j = true) := Lib.hid (by intro j hj; rcases Nat.lt_succ_iff_lt_or_eq.1 hj with h | rfl; exact KI.out j h; exact HRi.out)
          clear KI HRi
          go_wp2_with fail
          go_roundw
          case rel => exact ⟨i + 1, by omega, by go_num, KI5, KB5⟩
          case measure => simp [intOf]; omega
    · obtain rfl : n4 = i := by omega
      have b1 : decide ((n4 : Int) < (n4 : Int)) = false := decide_eq_false (by omega)
      have E := Lib.hid (wld_all (len := len) (born := born) (clock := clock) (cap := cap) (n1 := n1) (f1 := f1) (n2 := n2) (f2 := f2) (n3 := n3) (f3 := f3) KI.out)
      clear KI
      go_wp2_with fail
      go_ret
      exact ⟨ret_bool (by rw [E.out, HRS.out, decide_eq_true H20.out]; rfl), by first | exact HB.out.trans (KB.out.mono HZ.out) | (rw [← hbb]; exact HB.out.trans (KB.out.mono HZ.out))⟩
end Go.Proofs.Ytipkbapnhgdpeaa.C
