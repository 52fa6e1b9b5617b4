/- The reference's WindowOf: a window of the same span, or the empty one. No condition. -/
import Derived.Test.YtddemmmbbleofaaWinT
namespace Go.Proofs.Ytddemmmbbleofaa.C
open Go.RowKit
set_option maxRecDepth 100000
set_option linter.unusedVariables false
set_option linter.unusedSimpArgs false
attribute [local go_sem ↓] Go.wp_at_zero Go.wp_at_succ
/-- What the reference's WindowOf answers. -/
def WOutS (sp : Int) (ms : List Mk) (w : World) (e : Ending) (w' : World) : Prop :=
  ∃ (x nw cp : Int) (v : Value), e = .returned (.agg #[.int .i64 x, .int .i64 nw, .int .i64 cp, v]) ∧ x = (if isWin sp ms then sp else 0) ∧ Below w.heap.size w w'
set_option maxHeartbeats 4000000 in
theorem s_WindowOf (sp : Int) (A : Option Addr) (ms : List Mk) (c : Nat) (w : World) (h : Mks w A ms) (hn : ms.length ≤ 3000000) :
    Calls Try.prog 30 #[.int .i64 sp, .slice A ms.length c] w (WOutS sp ms w) := by
  have hu := Try.underlying56
  have hu2 := Try.underlying59
  have hB0 := (Below.refl _ w).alloc (Nat.le_refl _) (.cells #[.int .i64 0, .int .i64 0, .int .i64 0, .slice none 0 0] 56)
  have R0 := Lib.hid (Blk.new (w := w) (Nat.le_refl _) #[.int .i64 0, .int .i64 0, .int .i64 0, .slice none 0 0] 56)
  have HM := Lib.hid (h.keep hB0)
  have HB0 := Lib.hid hB0
  clear h hB0
  obtain ⟨hb, hhb⟩ : ∃ b, histB ms = b := ⟨_, rfl⟩
  obtain ⟨r, hr⟩ : ∃ r, isWin sp ms = r := ⟨_, rfl⟩
  have HR := Lib.hid hr
  have HH := Lib.hid hhb
  rw [isWin, hhb] at hr
  go_enter Try.func30, Try.ntmps30
  go_upto_region 1 with fail
  generalize hw0 : w.alloc (.cells #[.int .i64 0, .int .i64 0, .int .i64 0, .slice none 0 0] 56) = w0 at *
  clear hw0
  have hz0 : w.heap.size < w0.heap.size := R0.out.lt
  have HZ0 := Lib.hid hz0
  go_cut [22] (fun v22 wc => ∃ wx : World, wx = wc ∧ v22 = .bool (!r) ∧ Below w0.heap.size w0 wx)
  case first =>
    clear hz0
    by_cases h0 : ms.length = 0
    · have b0 : ((ms.length : Int) == 0) = true := beq_iff_eq.2 (by omega)
      rw [show decide (ms.length ≠ 0) = false from decide_eq_false (fun h => h h0)] at hr
      have hr : false = r := by simpa using hr
      subst hr
      clear HR h0
      go_wp2_with fail
      go_meet
      exact ⟨_, rfl, rfl, Below.refl _ _⟩
    · have b0 : ((ms.length : Int) == 0) = false := beq_eq_false_iff_ne.2 (by omega)
      rw [show decide (ms.length ≠ 0) = true from decide_eq_true h0] at hr
      clear h0
      cases hb with
      | false =>
        have hr : false = r := by simpa using hr
        subst hr
        clear HR
        go_wp2_with (first | (go_at_call 69; refine (s_hist _ _ _ _ HM.out (by omega)).mono ?_; rintro e w1 ⟨rfl, hb1⟩; rw [HH.out]) | fail)
        go_meet
        exact ⟨_, rfl, rfl, hb1⟩
      | true =>
        have hr : bIn sp 1 1000000 = r := by simpa using hr
        by_cases h1 : sp < 1
        · have b2 : decide (sp < 1) = true := decide_eq_true h1
          have : false = r := by rw [← hr]; exact (bIn_lo (by omega)).symm
          subst this
          clear HR hr h1
          go_wp2_with (first | (go_at_call 69; refine (s_hist _ _ _ _ HM.out (by omega)).mono ?_; rintro e w1 ⟨rfl, hb1⟩; rw [HH.out]) | fail)
          go_meet
          exact ⟨_, rfl, rfl, hb1⟩
        · have b2 : decide (sp < 1) = false := decide_eq_false h1
          by_cases h3 : sp > 1000000
          · have b3 : decide (sp > 1000000) = true := decide_eq_true h3
            have : false = r := by rw [← hr]; exact (bIn_false.2 (by omega)).symm
            subst this
            clear HR hr h1 h3
            go_wp2_with (first | (go_at_call 69; refine (s_hist _ _ _ _ HM.out (by omega)).mono ?_; rintro e w1 ⟨rfl, hb1⟩; rw [HH.out]) | fail)
            go_meet
            exact ⟨_, rfl, rfl, hb1⟩
          · have b3 : decide (sp > 1000000) = false := decide_eq_false h3
            have : true = r := by rw [← hr]; exact (bIn_true.2 (by omega)).symm
            subst this
            clear HR hr h1 h3
            go_wp2_with (first | (go_at_call 69; refine (s_hist _ _ _ _ HM.out (by omega)).mono ?_; rintro e w1 ⟨rfl, hb1⟩; rw [HH.out]) | fail)
            go_meet
            exact ⟨_, rfl, rfl, hb1⟩
  case rest =>
  obtain ⟨w1, rfl, rfl, hb1⟩ := hcut
  have R1 := Lib.hid (R0.out.keep hb1)
  have HM1 := Lib.hid (HM.out.keep hb1)
  have HB1 := Lib.hid (HB0.out.trans (hb1.mono (Nat.le_of_lt HZ0.out)))
  have HZ1 := Lib.hid (Nat.lt_of_lt_of_le HZ0.out hb1.size)
  clear R0 HM HB0 hb1 HZ0 hz0
  rename_i hK
  refine hK _ _ ?_
  clear hK
  cases r with
  | false =>
    go_wp2_with (first | ((with_reducible refine at_store (ty := 56) (y := .tmp 23) ?_); refine wpl_store_row rfl 56 (.tmp 4) (.tmp 23) rfl w.heap.size _ rfl rfl (R1.out.room (n := 4) rfl) rfl (by kernel_rfl) (by simp [Value.oneCell']) ?_; intro hout) | fail)
    exact bodyPost_ret (v := .agg #[.int .i64 0, .int .i64 0, .int .i64 0, .slice none 0 0]) (results_cell_row rfl _ _ _ _ _ _ _ rfl hout.2 hu rfl (by kernel_rfl)) rfl ⟨_, _, _, _, rfl, by rw [HR.out]; rfl, below_setRow HB1.out (Nat.le_refl _) _⟩
  | true =>
    have hr2 := HR.out
    rw [isWin, Bool.and_eq_true, Bool.and_eq_true, bIn_true] at hr2
    obtain ⟨hh, hne, s0, s1⟩ := hr2
    have hne := of_decide_eq_true hne
    have hlen := (hist_of hh).1
    have h0 : 0 < ms.length := by omega
    clear hr hhb hh hne HH
    obtain ⟨g, off, rfl, hg, hx⟩ := HM1.out.at h0
    obtain ⟨x0, x1⟩ := hx 0 h0
    rw [Nat.zero_mul, Nat.add_zero] at x0 x1
    generalize (mat ms 0).1 = p0 at *
    generalize (mat ms 0).2 = q0 at *
    clear hx
    have hal := (Below.refl w1.heap.size w1).alloc (Nat.le_refl _) (.cells #[.int .i64 0, .int .i64 0, .int .i64 0, .slice none 0 0] 56)
    have y0 := (hal.cell (p := ⟨g, off, none⟩) hg).trans x0
    have y1 := (hal.cell (p := ⟨g, off + 1, none⟩) hg).trans x1
    clear hal
    go_upto_region 3 with fail
    go_cut [5] (fun v5 wc => ∃ (wx : World) (b5 : Nat), wx = wc ∧ v5 = .pointer (some ⟨b5, 0, none⟩) ∧ w1.heap.size ≤ b5 ∧ Blk wx 0 b5 #[.int .i64 sp, .int .i64 p0, .int .i64 q0, .slice none 0 0] 56 ∧ Below w1.heap.size w1 wx)
    case first =>
      go_region
      all_goals (go_wp2_with fail; go_meet)
      all_goals exact ⟨_, _, rfl, rfl, Nat.le_refl _, (Blk.new (Nat.zero_le _) _ _).drew, ((Below.refl _ _).alloc (Nat.le_refl _) _).drew⟩
    case rest =>
    obtain ⟨w2, b5, rfl, rfl, h5b, hB5, hb2⟩ := hcut
    clear x0 x1 y0 y1
    have HB5 := Lib.hid hB5
    have HB2 := Lib.hid hb2
    have H5B := Lib.hid h5b
    clear hB5 hb2 h5b
    rename_i hK
    refine hK _ _ ?_
    clear hK
    go_wp2_with fail
    go_loopw [6] (fun v6 wr => ∃ (i : Nat) (nw cp : Int) (A' : Option Addr) (c' : Nat) (L : List Mk), 1 ≤ i ∧ i ≤ ms.length ∧ v6 = .int .i64 i ∧ L.length ≤ 200 ∧ Hid (Blk wr 0 b5 #[.int .i64 sp, .int .i64 nw, .int .i64 cp, .slice A' L.length c'] 56) ∧ Hid (Mks wr A' L) ∧ Hid (∀ g off, A' = some ⟨g, off, none⟩ → b5 < g) ∧ Hid (Below w1.heap.size w1 wr)) (fun v6 _ => ms.length - (intOf v6).toNat)
    case atStart => exact ⟨1, p0, q0, none, 0, [], by omega, by omega, rfl, by simp, HB5, Lib.hid (.inl ⟨rfl, rfl⟩), Lib.hid (by intro g off e; cases e), HB2⟩
    case round =>
      obtain ⟨i, nw, cp, A', c', L, hi0, hi, rfl, hL, KB, KM, KN, KW⟩ := hrel
      clear HB5 HB2
      by_cases h5 : i < ms.length
      · have b1 : decide ((i : Int) < (ms.length : Int)) = true := decide_eq_true (by omega)
        obtain ⟨g2, off2, e2, hg2, hx⟩ := (HM1.out.keep KW.out).at h5
        cases e2
        obtain ⟨x0, x1⟩ := hx i h5
        clear hx
        generalize (mat ms i).1 = p at *
        generalize (mat ms i).2 = q at *
        have z0 := (KB.out.cell 0).trans rfl
        have z1 := (KB.out.cell 1).trans rfl
        have z2 := (KB.out.cell 2).trans rfl
        have z3 := (KB.out.cell 3).trans rfl
        have hlt5 := Lib.hid KB.out.lt
        go_upto_region 7 with fail
        go_region_law (first
          | (go_simp; go_at_call 70; refine (s_WindowPut_any sp nw cp p q A' L c' _ (KM.out.keep (by (repeat (first | exact Below.refl _ _ | (with_reducible refine Below.drew ?_) | (with_reducible refine Below.alloc ?_ (by first | (simp; done) | (simp; omega)) _))))) hL).mono ?_; rintro e w9 ⟨nw9, cp9, A9, c9, L9, rfl, hL9, hM9, hb9, hn9⟩; have hB := Below.trans (c := w9) (show Below wr.heap.size wr _ by (repeat (first | exact Below.refl _ _ | (with_reducible refine Below.drew ?_) | (with_reducible refine Below.alloc ?_ (by first | (simp; done) | (simp; omega)) _)))) hb9; have tb := Lib.hid (KB.out.keep hB); have tw := Lib.hid (btrans KW.out hB); have tm := Lib.hid hM9; have tn : Hid (∀ g off, A9 = some ⟨g, off, none⟩ → b5 < g) := Lib.hid fun g off e => Nat.lt_of_lt_of_le hlt5.out (hn9 g off e); have r0 := (tb.out.cell 0).trans rfl; have r1 := (tb.out.cell 1).trans rfl; have r2 := (tb.out.cell 2).trans rfl; have r3 := (tb.out.cell 3).trans rfl; have f0 := tb.out.frozen 0; have f1 := tb.out.frozen 1; have f2 := tb.out.frozen 2; have f3 := tb.out.frozen 3; clear hM9 hb9 hn9 hB)
          | fail)
        all_goals (go_wp2_with fail; go_roundw)
        all_goals first | (simp [intOf]; omega) | exact ⟨i + 1, nw9, cp9, A9, c9, L9, by omega, by omega, by go_num, hL9, Lib.hid (((((tb.out.setc 0 (.int .i64 sp)).setc 1 (.int .i64 nw9)).setc 2 (.int .i64 cp9)).setc 3 (.slice A9 L9.length c9)).cast (by simp only [List.setIfInBounds_toArray, List.set_cons_zero, List.set_cons_succ])), Lib.hid ((((tm.out.setf (.int .i64 sp) tn.out).setf (.int .i64 nw9) tn.out).setf (.int .i64 cp9) tn.out).setf (.slice A9 L9.length c9) tn.out), tn, Lib.hid ((((tw.out.setCell H5B.out (.int .i64 sp)).setCell H5B.out (.int .i64 nw9)).setCell H5B.out (.int .i64 cp9)).setCell H5B.out (.slice A9 L9.length c9))⟩
      · obtain rfl : i = ms.length := by omega
        have b1 : decide ((ms.length : Int) < (ms.length : Int)) = false := decide_eq_false (by omega)
        have R2 := Lib.hid (R1.out.keep KW.out)
        have hBX := Lib.hid (HB1.out.trans (KW.out.mono (Nat.le_of_lt HZ1.out)))
        go_wp2_with (first
          | ((with_reducible refine at_load (ty := 56) (x := .tmp 5) ?_); refine wpl_load_row rfl 56 (.tmp 5) rfl b5 rfl KB.out rfl (by kernel_rfl) hu rfl ?_)
          | ((with_reducible refine at_store (ty := 56) (y := .tmp 46) ?_); refine wpl_store_row rfl 56 (.tmp 4) (.tmp 46) rfl w.heap.size _ rfl rfl (R2.out.room (n := 4) rfl) rfl (by kernel_rfl) (by simp [Value.oneCell']) ?_; intro hout)
          | fail)
        exact bodyPost_ret (v := .agg #[.int .i64 sp, .int .i64 nw, .int .i64 cp, .slice A' L.length c']) (results_cell_row rfl _ _ _ _ _ _ _ rfl hout.2 hu rfl (by kernel_rfl)) rfl ⟨_, _, _, _, rfl, by rw [HR.out]; rfl, below_setRow hBX.out (Nat.le_refl _) _⟩
end Go.Proofs.Ytddemmmbbleofaa.C
