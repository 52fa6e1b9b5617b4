/- Copies and comparisons of @X@s in the laws. No condition. -/
import Derived.Test.YtipkbapnhgdpeaaTab
import Derived.Deep.RegionLaw
namespace Go.Proofs.Ytipkbapnhgdpeaa.C
open Go.RowKit
set_option maxRecDepth 100000
set_option linter.unusedVariables false
set_option linter.unusedSimpArgs false
attribute [local go_sem ↓] Go.wp_at_zero Go.wp_at_succ
theorem infoMember : (Try.prog.info? 91).map (fun i => (i.zero, i.size, i.bytes)) = some (some (.agg #[.int .i64 0, .int .i64 0, .int .i64 0, .int .i64 0]), 4, 32) := by kernel_rfl
theorem c_szMemberS (A : Option Addr) (n c : Nat) (left : Int) (w : World) (h0 : 0 ≤ left) (h1 : left ≤ 9223372036854775807) (hn : n ≤ 9223372036854775807) :
    Calls Try.prog 86 #[.slice A n c, .int .i64 left] w fun e w' => e = .returned (.int .i64 (if left < n then -1 else left - n)) ∧ w = w' := by
  have hw : IntKind.i64.wrap (left - n) = left - n := by rw [IntKind.wrap_i64]; omega
  by_cases h : left - n < 0
  · have b1 : decide (left - (n : Int) < 0) = true := decide_eq_true h
    go_enter Try.func86, Try.ntmps86
    go_wp2
    go_ret
    exact ⟨ret_int (by first | rfl | (split <;> omega)), rfl⟩
  · have b1 : decide (left - (n : Int) < 0) = false := decide_eq_false h
    go_enter Try.func86, Try.ntmps86
    go_wp2
    go_ret
    exact ⟨ret_int (by first | rfl | (split <;> omega)), rfl⟩
theorem c_toMember (a0 a1 a2 a3 : Int) (w : World) : Calls Try.prog 122 #[.agg #[.int .i64 a0, .int .i64 a1, .int .i64 a2, .int .i64 a3]] w fun e w' => e = .returned (.agg #[.int .i64 a0, .int .i64 a1, .int .i64 a2, .int .i64 a3]) ∧ Below w.heap.size w w' := by
  have hu := Try.underlying91
  go_enter Try.func122, Try.ntmps122
  go_wp2
  exact bodyPost_ret (v := .agg #[.int .i64 a0, .int .i64 a1, .int .i64 a2, .int .i64 a3]) (by simp [results, Try.results122, go_sem]) rfl ⟨rfl, by (repeat (first | exact Below.refl _ _ | apply Below.drew | refine Below.alloc ?_ (by first | (simp; done) | (simp; omega)) _ | refine Below.setCell ?_ (by first | (simp; done) | (simp; omega)) _))⟩
theorem c_eqMember (a0 a1 a2 a3 : Int) (w : World) : Calls Try.prog 124 #[.agg #[.int .i64 a0, .int .i64 a1, .int .i64 a2, .int .i64 a3], .agg #[.int .i64 a0, .int .i64 a1, .int .i64 a2, .int .i64 a3]] w fun e w' => e = .returned (.bool true) ∧ Below w.heap.size w w' := by
  go_enter Try.func124, Try.ntmps124
  go_wp2
  go_ret
  exact ⟨rfl, by (repeat (first | exact Below.refl _ _ | apply Below.drew | refine Below.alloc ?_ (by first | (simp; done) | (simp; omega)) _ | refine Below.setCell ?_ (by first | (simp; done) | (simp; omega)) _))⟩
set_option maxHeartbeats 4000000 in
theorem c_toMemberF (A : Option Addr) (n c : Nat) (f : Nat → Nat → Int) (w : World) (h : TabA 4 w A n f) (hn : n ≤ 2000000) :
    Calls Try.prog 88 #[.slice A n c] w fun e w' => ∃ g F, e = .returned (.slice (some ⟨g, 0, none⟩) n n) ∧ FlatW w' w.heap.size g (n * 4) F 91 ∧ (∀ i j, i < n → j < 4 → F (i * 4 + j) = f i j) ∧ Below w.heap.size w w' := by
  have hu2 := Try.underlying91
  have H := Lib.hid h
  obtain ⟨j0, hj, hy0, hy1, hy2⟩ := info_parts infoMember
  have hmk : (Instr.makeSlice 32 (.int .i64 (n : Int)) (.int .i64 (n : Int))).run Try.prog w = .ok (.slice (some ⟨w.heap.size, 0, none⟩) n n) (w.alloc (.cells (madeCells #[.int .i64 0, .int .i64 0, .int .i64 0, .int .i64 0] (n * 4)) 91)) := by
    have := run_makeSlice (P := Try.prog) w 32 91 j0 _ Try.underlying32 hj hy0 .i64 .i64 (n : Int) (n : Int) (by omega) (by omega) (by rw [hy1]; omega) (by rw [hy2]; omega) (by omega)
    rw [hy1] at this
    simp only [Int.toNat_natCast] at this
    exact this
  clear h
  go_enter Try.func88, Try.ntmps88
  go_wp2_with fail
  have hF := Lib.hid (FlatW.made w #[.int .i64 0, .int .i64 0, .int .i64 0, .int .i64 0] (n * 4) 91 (by intro q hq; match q, hq with | 0, _ => rfl | 1, _ => rfl | 2, _ => rfl | 3, _ => rfl) (by decide))
  have hB := Lib.hid ((Below.refl _ w).alloc (Nat.le_refl _) (.cells (madeCells #[.int .i64 0, .int .i64 0, .int .i64 0, .int .i64 0] (n * 4)) 91))
  generalize w.alloc _ = w1 at *
  generalize hb : w.heap.size = b at *
  go_loopw [4] (fun v4 wr => ∃ (i : Nat) (F : Nat → Int), i ≤ n ∧ v4 = .int .i64 i ∧ Hid (FlatW wr b b (n * 4) F 91) ∧ Hid (∀ i' j, i' < i → j < 4 → F (i' * 4 + j) = f i' j) ∧ Hid (Below b w wr)) (fun v4 _ => n - (intOf v4).toNat)
  case atStart => exact ⟨0, fun _ => 0, by omega, rfl, hF, Lib.hid (by intro i' j hi; omega), hB⟩
  case round =>
    obtain ⟨i, F, hi, rfl, KF, KO, KB⟩ := hrel
    clear hF hB
    by_cases h5 : i < n
    · have b1 : decide ((i : Int) < (n : Int)) = true := decide_eq_true (by omega)
      have hab : Below w.heap.size w wr := by rw [hb]; exact KB.out
      obtain ⟨ad, rfl, hl, h0, hx⟩ := H.out.keep hab i h5
      have x1 := hx 1 (by omega) (by omega)
      have x2 := hx 2 (by omega) (by omega)
      have x3 := hx 3 (by omega) (by omega)
      clear hx hab
      go_wp2_with (first
        | (go_at_call 122; refine (c_toMember _ _ _ _ _).mono ?_; rintro e w9 ⟨rfl, hb9⟩; have KF9 := Lib.hid (KF.out.keep hb9); have KB9 := Lib.hid (KB.out.trans (hb9.mono (Nat.le_of_lt KF.out.lt))); have y0 := KF9.out.cell (p := i * 4) (by omega); have y1 := KF9.out.cell (p := i * 4 + 1) (by omega); have y2 := KF9.out.cell (p := i * 4 + 2) (by omega); have y3 := KF9.out.cell (p := i * 4 + 3) (by omega); have f0 := KF9.out.frozen (i * 4); have f1 := KF9.out.frozen (i * 4 + 1); have f2 := KF9.out.frozen (i * 4 + 2); have f3 := KF9.out.frozen (i * 4 + 3); clear hb9)
        | fail)
      go_roundw
      case rel =>
        refine ⟨i + 1, _, by omega, by go_num, Lib.hid ((((KF9.out.set (p0 := i * 4) (by omega) (f i 0)).set (p0 := i * 4 + 1) (by omega) (f i 1)).set (p0 := i * 4 + 2) (by omega) (f i 2)).set (p0 := i * 4 + 3) (by omega) (f i 3)), Lib.hid ?_, Lib.hid ((((KB9.out.setCell (p := ⟨b, i * 4, none⟩) (Nat.le_refl _) _).setCell (p := ⟨b, i * 4 + 1, none⟩) (Nat.le_refl _) _).setCell (p := ⟨b, i * 4 + 2, none⟩) (Nat.le_refl _) _).setCell (p := ⟨b, i * 4 + 3, none⟩) (Nat.le_refl _) _)⟩
        intro i' j hi' hjk
        rcases Nat.lt_succ_iff_lt_or_eq.1 hi' with hlt | rfl
        · simp only [show ¬ i' * 4 + j = i * 4 + 3 by omega, show ¬ i' * 4 + j = i * 4 + 2 by omega, show ¬ i' * 4 + j = i * 4 + 1 by omega, show ¬ i' * 4 + j = i * 4 by omega, if_false]
          exact KO.out i' j hlt hjk
        · match j, hjk with
          | 0, _ => simp
          | 1, _ => simp
          | 2, _ => simp
          | 3, _ => simp
      case measure => simp [intOf]; omega
    · obtain rfl : i = n := by omega
      have b1 : decide ((i : Int) < (i : Int)) = false := decide_eq_false (by omega)
      go_wp2_with fail
      go_ret
      exact ⟨_, _, rfl, by rw [hb]; exact KF.out, KO.out, by rw [hb]; exact KB.out⟩
theorem c_toMemberS (A : Option Addr) (n c : Nat) (f : Nat → Nat → Int) (w : World) (h : TabA 4 w A n f) (hn : n ≤ 2000000) :
    Calls Try.prog 88 #[.slice A n c] w fun e w' => ∃ A' c', e = .returned (.slice A' n c') ∧ n ≤ c' ∧ Tab 4 w' A' n f ∧ Below w.heap.size w w' ∧ ∀ g off, A' = some ⟨g, off, none⟩ → w.heap.size ≤ g :=
  (c_toMemberF A n c f w h hn).mono fun e w' ⟨g, F, e1, hF, hO, hb⟩ => ⟨_, _, e1, Nat.le_refl _, hF.tab hO, hb, fun g' off e => by cases e; exact hF.ge⟩
set_option maxHeartbeats 4000000 in
theorem c_eqMemberS (A1 A2 : Option Addr) (n c1 c2 : Nat) (f : Nat → Nat → Int) (w : World) (h1 : Tab 4 w A1 n f) (h2 : Tab 4 w A2 n f) (hn : n ≤ 2000000) :
    Calls Try.prog 90 #[.slice A1 n c1, .slice A2 n c2] w fun e w' => e = .returned (.bool true) ∧ Below w.heap.size w w' := by
  have H1 := Lib.hid h1
  have H2 := Lib.hid h2
  have hb := Below.refl w.heap.size w
  have b0 : ((n : Int) != (n : Int)) = false := by simp
  clear h1 h2
  go_enter Try.func90, Try.ntmps90
  go_wp2_with fail
  go_loopw [5] (fun v2 wr => ∃ i : Nat, i ≤ n ∧ v2 = .int .i64 i ∧ Hid (Below w.heap.size w wr)) (fun v2 _ => n - (intOf v2).toNat)
  case atStart => exact ⟨0, by omega, rfl, Lib.hid hb⟩
  case round =>
    obtain ⟨i, hi, rfl, KB⟩ := hrel
    clear hb
    by_cases h5 : i < n
    · have b1 : decide ((i : Int) < (n : Int)) = true := decide_eq_true (by omega)
      obtain ⟨g1, o1, rfl, hg1, hx⟩ := (H1.out.keep KB.out).at (by omega)
      obtain ⟨g2, o2, rfl, hg2, hy⟩ := (H2.out.keep KB.out).at (by omega)
      have x0 := hx i 0 h5 (by omega)
      have x1 := hx i 1 h5 (by omega)
      have x2 := hx i 2 h5 (by omega)
      have x3 := hx i 3 h5 (by omega)
      have y0 := hy i 0 h5 (by omega)
      have y1 := hy i 1 h5 (by omega)
      have y2 := hy i 2 h5 (by omega)
      have y3 := hy i 3 h5 (by omega)
      rw [Nat.add_zero] at x0 y0
      generalize f i 0 = a0 at *
      generalize f i 1 = a1 at *
      generalize f i 2 = a2 at *
      generalize f i 3 = a3 at *
      clear hx hy
      go_upto_region 6 with fail
      go_region_law (first
        | (go_simp; go_at_call 124; refine (c_eqMember _ _ _ _ _).mono ?_; rintro e w9 ⟨rfl, hb9⟩; have KB9 := Lib.hid (btrans KB.out.drew hb9); clear hb9)
        | fail)
      all_goals (go_wp2_with fail; go_roundw)
      all_goals first | (simp [intOf]; omega) | exact ⟨i + 1, by omega, by go_num, KB9⟩
    · obtain rfl : i = n := by omega
      have b1 : decide ((i : Int) < (i : Int)) = false := decide_eq_false (by omega)
      go_wp2_with fail
      go_ret
      exact ⟨rfl, KB.out⟩
end Go.Proofs.Ytipkbapnhgdpeaa.C
