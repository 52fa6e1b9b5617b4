/- The place of a group, or of a member, in a table that is in order. No condition. -/
import Derived.Test.YtipkbapnhgdpeaaEdX
namespace Go.Proofs.Ytipkbapnhgdpeaa.C
open Go.RowKit
set_option maxRecDepth 100000
set_option linter.unusedVariables false
set_option linter.unusedSimpArgs false
attribute [local go_sem ↓] Go.wp_at_zero Go.wp_at_succ
set_option maxHeartbeats 4000000 in
theorem c_BinPG (A : Option Addr) (n c : Nat) (f : Nat → Nat → Int) (id : Int) (w : World) (h : Tab 4 w A n f) (hn : n ≤ 1000) (hr : Rises n f) :
    Calls Try.prog 116 #[.slice A n c, .int .i64 id, .func (.func 117) #[] #[]] w fun e w' => e = .returned (.tuple #[.int .i64 (posT n f id : Nat), .bool (hasId n f id)]) ∧ Below w.heap.size w w' := by
  have H := Lib.hid h
  clear h
  have hb := Below.refl w.heap.size w
  have HRI := Lib.hid hr
  clear hr
  go_enter Try.func116, Try.ntmps116
  go_wp2_with fail
  go_loopw [9, 10] (fun v9 v10 wr => ∃ lo hi : Nat, lo ≤ hi ∧ hi ≤ n ∧ v9 = .int .i64 lo ∧ v10 = .int .i64 hi ∧ Hid (∀ i, i < lo → f i 0 < id) ∧ Hid (∀ i, hi ≤ i → i < n → f i 0 ≥ id) ∧ Hid (Below w.heap.size w wr)) (fun v9 v10 _ => (intOf v10).toNat - (intOf v9).toNat)
  case atStart => exact ⟨0, n, by omega, by omega, rfl, rfl, Lib.hid (by intro i hi; omega), Lib.hid (by intro i h1 h2; omega), Lib.hid hb⟩
  case round =>
    obtain ⟨lo, hi, h1, h2, rfl, rfl, KL, KH, KB⟩ := hrel
    clear hb
    by_cases h5 : lo < hi
    · have b1 : decide ((lo : Int) < (hi : Int)) = true := decide_eq_true (by omega)
      obtain ⟨m, hm⟩ : ∃ m, (lo + hi) / 2 = m := ⟨_, rfl⟩
      have hm1 : lo ≤ m := by omega
      have hm2 : m < hi := by omega
      obtain ⟨g, off, rfl, hg, hx⟩ := (H.out.keep KB.out).at (by omega)
      have x0 := hx m 0 (by omega) (by omega)
      have x1 := hx m 1 (by omega) (by omega)
      have x2 := hx m 2 (by omega) (by omega)
      have x3 := hx m 3 (by omega) (by omega)
      rw [Nat.add_zero] at x0
      clear hx
      have hmI : ((lo : Int) + (hi : Int)) / 2 = (m : Int) := by omega
      by_cases h7 : f m 0 < id
      · have hcm : cmpI (f m 0) id = -1 := if_pos h7
        have KL2 := Lib.hid (show ∀ i, i < m + 1 → f i 0 < id from fun i hi' => by
          rcases Nat.lt_succ_iff_lt_or_eq.1 hi' with h | rfl
          · have := HRI.out i m h (by omega); omega
          · exact h7)
        go_wp2_with (first | (go_at_call 117; refine (c_group1 _ _ _ _ _ _).mono ?_; rintro e w2 ⟨rfl, hb2⟩; rw [hcm]; have KB2 := Lib.hid (btrans KB.out hb2); clear hb2) | fail)
        go_roundw
        case rel => exact ⟨m + 1, hi, by omega, h2, by go_num, rfl, KL2, KH, KB2⟩
        case measure => simp [intOf]; omega
      · have hcm : decide (cmpI (f m 0) id < 0) = false := decide_eq_false (by unfold cmpI; rw [if_neg h7]; split <;> omega)
        have KH2 := Lib.hid (show ∀ i, m ≤ i → i < n → f i 0 ≥ id from fun i hi' hn' => by
          rcases Nat.lt_or_ge m i with h | h
          · have := HRI.out m i h hn'; omega
          · rw [show i = m by omega]; omega)
        go_wp2_with (first | (go_at_call 117; refine (c_group1 _ _ _ _ _ _).mono ?_; rintro e w2 ⟨rfl, hb2⟩; have KB2 := Lib.hid (btrans KB.out hb2); clear hb2) | fail)
        go_roundw
        case rel => exact ⟨lo, m, by omega, by omega, rfl, rfl, KL, KH2, KB2⟩
        case measure => simp [intOf]; omega
    · obtain rfl : lo = hi := by omega
      have b1 : decide ((lo : Int) < (lo : Int)) = false := decide_eq_false (by omega)
      have hfd := Lib.hid (hasId_found h2 KL.out KH.out HRI.out)
      by_cases h6 : lo < n
      · have b2 : decide ((lo : Int) < (n : Int)) = true := decide_eq_true (by omega)
        obtain ⟨g, off, rfl, hg, hx⟩ := (H.out.keep KB.out).at (by omega)
        have x0 := hx lo 0 (by omega) (by omega)
        have x1 := hx lo 1 (by omega) (by omega)
        have x2 := hx lo 2 (by omega) (by omega)
        have x3 := hx lo 3 (by omega) (by omega)
        rw [Nat.add_zero] at x0
        clear hx
        have hfd2 : Hid (hasId n f id = (cmpI (f lo 0) id == 0)) := Lib.hid (hfd.out.trans (by rw [decide_eq_true h6]; rfl))
        generalize hcc : cmpI (f lo 0) id = cc at *
        go_wp2_with (first | (go_at_call 117; refine (c_group1 _ _ _ _ _ _).mono ?_; rintro e w2 ⟨rfl, hb2⟩; rw [hcc]; have KB2 := Lib.hid (btrans KB.out hb2); clear hb2) | fail)
        exact bodyPost_ret (v := .tuple #[.int .i64 lo, .bool (cc == 0)]) (by simp [results, Try.results116, go_sem]) rfl ⟨by rw [hfd2.out, ← Pos.eq HRI.out ⟨h2, KL.out, KH.out⟩], KB2.out⟩
      · have b2 : decide ((lo : Int) < (n : Int)) = false := decide_eq_false (by omega)
        go_wp2_with fail
        exact bodyPost_ret (v := .tuple #[.int .i64 lo, .bool false]) (by simp [results, Try.results116, go_sem]) rfl ⟨by rw [hfd.out, decide_eq_false h6, ← Pos.eq HRI.out ⟨h2, KL.out, KH.out⟩]; rfl, KB.out⟩
theorem c_groupP (cap : Int) (A1 A2 : Option Addr) (n1 c1 n2 c2 : Nat) (f1 : Nat → Nat → Int) (id : Int) (w : World) (h : Tab 4 w A1 n1 f1) (hn : n1 ≤ 1000) (hr : Rises n1 f1) :
    Calls Try.prog 79 #[.agg #[.int .i64 cap, .slice A1 n1 c1, .slice A2 n2 c2], .int .i64 id] w fun e w' => e = .returned (.tuple #[.int .i64 (posT n1 f1 id : Nat), .bool (hasId n1 f1 id)]) ∧ Below w.heap.size w w' := by
  have H := Lib.hid h
  clear h
  have hb := (Below.refl _ w).alloc (Nat.le_refl _) (.cells #[.int .i64 cap, .slice A1 n1 c1, .slice A2 n2 c2] 34)
  have HB := Lib.hid hb
  have H1 := Lib.hid (H.out.keep hb)
  clear hb
  go_enter Try.func79, Try.ntmps79
  go_wp2_with (first | (go_at_call 116; refine (c_BinPG _ _ _ _ _ _ H1.out hn hr).mono ?_; rintro e w2 ⟨rfl, hb2⟩; have HB2 := Lib.hid (HB.out.trans (hb2.mono (by simp))); clear hb2) | fail)
  exact bodyPost_ret (v := .tuple #[.int .i64 (posT n1 f1 id : Nat), .bool (hasId n1 f1 id)]) (by simp [results, Try.results79, go_sem]) rfl ⟨rfl, HB2.out⟩
theorem c_member1 (a0 a1 a2 a3 b : Int) (w : World) : Calls Try.prog 120 #[.agg #[.int .i64 a0, .int .i64 a1, .int .i64 a2, .int .i64 a3], .int .i64 b] w fun e w' => e = .returned (.int .i64 (cmpI a0 b)) ∧ Below w.heap.size w w' := by
  go_enter Try.func120, Try.ntmps120
  go_wp2_with (first | (go_at_call 118; refine (c_Compare _ _ _).mono ?_; rintro e w' ⟨rfl, rfl⟩) | fail)
  go_ret
  exact ⟨rfl, (Below.refl _ _).alloc (Nat.le_refl _) _⟩
set_option maxHeartbeats 4000000 in
theorem c_BinPM (A : Option Addr) (n c : Nat) (f : Nat → Nat → Int) (id : Int) (w : World) (h : Tab 4 w A n f) (hn : n ≤ 1000) (hr : Rises n f) :
    Calls Try.prog 119 #[.slice A n c, .int .i64 id, .func (.func 120) #[] #[]] w fun e w' => e = .returned (.tuple #[.int .i64 (posT n f id : Nat), .bool (hasId n f id)]) ∧ Below w.heap.size w w' := by
  have H := Lib.hid h
  clear h
  have hb := Below.refl w.heap.size w
  have HRI := Lib.hid hr
  clear hr
  go_enter Try.func119, Try.ntmps119
  go_wp2_with fail
  go_loopw [9, 10] (fun v9 v10 wr => ∃ lo hi : Nat, lo ≤ hi ∧ hi ≤ n ∧ v9 = .int .i64 lo ∧ v10 = .int .i64 hi ∧ Hid (∀ i, i < lo → f i 0 < id) ∧ Hid (∀ i, hi ≤ i → i < n → f i 0 ≥ id) ∧ Hid (Below w.heap.size w wr)) (fun v9 v10 _ => (intOf v10).toNat - (intOf v9).toNat)
  case atStart => exact ⟨0, n, by omega, by omega, rfl, rfl, Lib.hid (by intro i hi; omega), Lib.hid (by intro i h1 h2; omega), Lib.hid hb⟩
  case round =>
    obtain ⟨lo, hi, h1, h2, rfl, rfl, KL, KH, KB⟩ := hrel
    clear hb
    by_cases h5 : lo < hi
    · have b1 : decide ((lo : Int) < (hi : Int)) = true := decide_eq_true (by omega)
      obtain ⟨m, hm⟩ : ∃ m, (lo + hi) / 2 = m := ⟨_, rfl⟩
      have hm1 : lo ≤ m := by omega
      have hm2 : m < hi := by omega
      obtain ⟨g, off, rfl, hg, hx⟩ := (H.out.keep KB.out).at (by omega)
      have x0 := hx m 0 (by omega) (by omega)
      have x1 := hx m 1 (by omega) (by omega)
      have x2 := hx m 2 (by omega) (by omega)
      have x3 := hx m 3 (by omega) (by omega)
      rw [Nat.add_zero] at x0
      clear hx
      have hmI : ((lo : Int) + (hi : Int)) / 2 = (m : Int) := by omega
      by_cases h7 : f m 0 < id
      · have hcm : cmpI (f m 0) id = -1 := if_pos h7
        have KL2 := Lib.hid (show ∀ i, i < m + 1 → f i 0 < id from fun i hi' => by
          rcases Nat.lt_succ_iff_lt_or_eq.1 hi' with h | rfl
          · have := HRI.out i m h (by omega); omega
          · exact h7)
        go_wp2_with (first | (go_at_call 120; refine (c_member1 _ _ _ _ _ _).mono ?_; rintro e w2 ⟨rfl, hb2⟩; rw [hcm]; have KB2 := Lib.hid (btrans KB.out hb2); clear hb2) | fail)
        go_roundw
        case rel => exact ⟨m + 1, hi, by omega, h2, by go_num, rfl, KL2, KH, KB2⟩
        case measure => simp [intOf]; omega
      · have hcm : decide (cmpI (f m 0) id < 0) = false := decide_eq_false (by unfold cmpI; rw [if_neg h7]; split <;> omega)
        have KH2 := Lib.hid (show ∀ i, m ≤ i → i < n → f i 0 ≥ id from fun i hi' hn' => by
          rcases Nat.lt_or_ge m i with h | h
          · have := HRI.out m i h hn'; omega
          · rw [show i = m by omega]; omega)
        go_wp2_with (first | (go_at_call 120; refine (c_member1 _ _ _ _ _ _).mono ?_; rintro e w2 ⟨rfl, hb2⟩; have KB2 := Lib.hid (btrans KB.out hb2); clear hb2) | fail)
        go_roundw
        case rel => exact ⟨lo, m, by omega, by omega, rfl, rfl, KL, KH2, KB2⟩
        case measure => simp [intOf]; omega
    · obtain rfl : lo = hi := by omega
      have b1 : decide ((lo : Int) < (lo : Int)) = false := decide_eq_false (by omega)
      have hfd := Lib.hid (hasId_found h2 KL.out KH.out HRI.out)
      by_cases h6 : lo < n
      · have b2 : decide ((lo : Int) < (n : Int)) = true := decide_eq_true (by omega)
        obtain ⟨g, off, rfl, hg, hx⟩ := (H.out.keep KB.out).at (by omega)
        have x0 := hx lo 0 (by omega) (by omega)
        have x1 := hx lo 1 (by omega) (by omega)
        have x2 := hx lo 2 (by omega) (by omega)
        have x3 := hx lo 3 (by omega) (by omega)
        rw [Nat.add_zero] at x0
        clear hx
        have hfd2 : Hid (hasId n f id = (cmpI (f lo 0) id == 0)) := Lib.hid (hfd.out.trans (by rw [decide_eq_true h6]; rfl))
        generalize hcc : cmpI (f lo 0) id = cc at *
        go_wp2_with (first | (go_at_call 120; refine (c_member1 _ _ _ _ _ _).mono ?_; rintro e w2 ⟨rfl, hb2⟩; rw [hcc]; have KB2 := Lib.hid (btrans KB.out hb2); clear hb2) | fail)
        exact bodyPost_ret (v := .tuple #[.int .i64 lo, .bool (cc == 0)]) (by simp [results, Try.results119, go_sem]) rfl ⟨by rw [hfd2.out, ← Pos.eq HRI.out ⟨h2, KL.out, KH.out⟩], KB2.out⟩
      · have b2 : decide ((lo : Int) < (n : Int)) = false := decide_eq_false (by omega)
        go_wp2_with fail
        exact bodyPost_ret (v := .tuple #[.int .i64 lo, .bool false]) (by simp [results, Try.results119, go_sem]) rfl ⟨by rw [hfd.out, decide_eq_false h6, ← Pos.eq HRI.out ⟨h2, KL.out, KH.out⟩]; rfl, KB.out⟩
theorem c_memberP (cap : Int) (A1 A2 : Option Addr) (n1 c1 n2 c2 : Nat) (f2 : Nat → Nat → Int) (id : Int) (w : World) (h : Tab 4 w A2 n2 f2) (hn : n2 ≤ 1000) (hr : Rises n2 f2) :
    Calls Try.prog 80 #[.agg #[.int .i64 cap, .slice A1 n1 c1, .slice A2 n2 c2], .int .i64 id] w fun e w' => e = .returned (.tuple #[.int .i64 (posT n2 f2 id : Nat), .bool (hasId n2 f2 id)]) ∧ Below w.heap.size w w' := by
  have H := Lib.hid h
  clear h
  have hb := (Below.refl _ w).alloc (Nat.le_refl _) (.cells #[.int .i64 cap, .slice A1 n1 c1, .slice A2 n2 c2] 34)
  have HB := Lib.hid hb
  have H1 := Lib.hid (H.out.keep hb)
  clear hb
  go_enter Try.func80, Try.ntmps80
  go_wp2_with (first | (go_at_call 119; refine (c_BinPM _ _ _ _ _ _ H1.out hn hr).mono ?_; rintro e w2 ⟨rfl, hb2⟩; have HB2 := Lib.hid (HB.out.trans (hb2.mono (by simp))); clear hb2) | fail)
  exact bodyPost_ret (v := .tuple #[.int .i64 (posT n2 f2 id : Nat), .bool (hasId n2 f2 id)]) (by simp [results, Try.results80, go_sem]) rfl ⟨rfl, HB2.out⟩
end Go.Proofs.Ytipkbapnhgdpeaa.C
