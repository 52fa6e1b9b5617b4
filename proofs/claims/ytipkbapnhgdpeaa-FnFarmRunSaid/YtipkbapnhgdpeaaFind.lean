/- A group is found in a table that is in order. No condition. -/
import Derived.Test.YtipkbapnhgdpeaaFarmC
namespace Go.Proofs.Ytipkbapnhgdpeaa.C
open Go.RowKit
set_option maxRecDepth 100000
set_option linter.unusedVariables false
set_option linter.unusedSimpArgs false
attribute [local go_sem ↓] Go.wp_at_zero Go.wp_at_succ
def cmpI (a b : Int) : Int := if a < b then -1 else if a > b then 1 else 0
theorem c_isNaN (a : Int) (w : World) : Calls Try.prog 134 #[.int .i64 a] w fun e w' => e = .returned (.bool false) ∧ w = w' := by
  go_enter Try.func134, Try.ntmps134
  go_wp2
  go_ret
  exact ⟨rfl, rfl⟩
theorem c_Compare (a b : Int) (w : World) : Calls Try.prog 118 #[.int .i64 a, .int .i64 b] w fun e w' => e = .returned (.int .i64 (cmpI a b)) ∧ w = w' := by
  unfold cmpI
  by_cases h1 : a < b
  · rw [if_pos h1]
    go_enter Try.func118, Try.ntmps118
    go_wp2_with (first | (go_at_call 134; refine (c_isNaN _ _).mono ?_; rintro e w' ⟨rfl, rfl⟩) | fail)
    go_ret
    exact ⟨rfl, rfl⟩
  · rw [if_neg h1]
    by_cases h2 : a > b
    · rw [if_pos h2]
      go_enter Try.func118, Try.ntmps118
      go_wp2_with (first | (go_at_call 134; refine (c_isNaN _ _).mono ?_; rintro e w' ⟨rfl, rfl⟩) | fail)
      go_ret
      exact ⟨rfl, rfl⟩
    · rw [if_neg h2]
      go_enter Try.func118, Try.ntmps118
      go_wp2_with (first | (go_at_call 134; refine (c_isNaN _ _).mono ?_; rintro e w' ⟨rfl, rfl⟩) | fail)
      go_ret
      exact ⟨rfl, rfl⟩
theorem c_group1 (a0 a1 a2 a3 b : Int) (w : World) : Calls Try.prog 117 #[.agg #[.int .i64 a0, .int .i64 a1, .int .i64 a2, .int .i64 a3], .int .i64 b] w fun e w' => e = .returned (.int .i64 (cmpI a0 b)) ∧ Below w.heap.size w w' := by
  go_enter Try.func117, Try.ntmps117
  go_wp2_with (first | (go_at_call 118; refine (c_Compare _ _ _).mono ?_; rintro e w' ⟨rfl, rfl⟩) | fail)
  go_ret
  exact ⟨rfl, (Below.refl _ _).alloc (Nat.le_refl _) _⟩
/-- Is there a row with this first number among the first n? -/
def hasId (n : Nat) (f : Nat → Nat → Int) (id : Int) : Bool := (List.range n).any fun i => f i 0 == id
theorem hasId_iff {n : Nat} {f : Nat → Nat → Int} {id : Int} : hasId n f id = true ↔ ∃ i, i < n ∧ f i 0 = id := by
  unfold hasId
  rw [List.any_eq_true]
  exact ⟨fun ⟨i, hi, h⟩ => ⟨i, List.mem_range.1 hi, by simpa using h⟩, fun ⟨i, hi, h⟩ => ⟨i, List.mem_range.2 hi, by simpa using h⟩⟩
def Rises (n : Nat) (f : Nat → Nat → Int) : Prop := ∀ i j, i < j → j < n → f i 0 < f j 0
theorem hasId_found {n lo : Nat} {f : Nat → Nat → Int} {id : Int} (hlo : lo ≤ n) (hl : ∀ i, i < lo → f i 0 < id) (hh : ∀ i, lo ≤ i → i < n → f i 0 ≥ id) (hr : Rises n f) : hasId n f id = (decide (lo < n) && (cmpI (f lo 0) id == 0)) := by
  rcases hb : (decide (lo < n) && (cmpI (f lo 0) id == 0)) with _ | _
  · rcases h : hasId n f id with _ | _
    · rfl
    · obtain ⟨i, hi, he⟩ := hasId_iff.1 h
      exfalso
      rcases Nat.lt_or_ge i lo with h1 | h1
      · have := hl i h1; omega
      · have hlt : lo < n := by omega
        have e1 : f lo 0 = id := by
          have h2 := hh lo (Nat.le_refl _) hlt
          rcases Nat.lt_or_ge lo i with h3 | h3
          · have := hr lo i h3 hi; omega
          · rw [show lo = i by omega]; exact he
        have : cmpI (f lo 0) id = 0 := by unfold cmpI; rw [if_neg (by omega), if_neg (by omega)]
        simp [hlt, this] at hb
  · rw [Bool.and_eq_true] at hb
    have h1 := of_decide_eq_true hb.1
    have h2 : cmpI (f lo 0) id = 0 := by simpa using hb.2
    refine hasId_iff.2 ⟨lo, h1, ?_⟩
    unfold cmpI at h2
    by_cases h3 : f lo 0 < id
    · rw [if_pos h3] at h2; omega
    · rw [if_neg h3] at h2
      by_cases h4 : f lo 0 > id
      · rw [if_pos h4] at h2; omega
      · omega
set_option maxHeartbeats 4000000 in
theorem c_BinG (A : Option Addr) (n c : Nat) (f : Nat → Nat → Int) (id : Int) (w : World) (h : Tab 4 w A n f) (hn : n ≤ 1000) (hr : Rises n f) :
    Calls Try.prog 116 #[.slice A n c, .int .i64 id, .func (.func 117) #[] #[]] w fun e w' => ∃ k : Nat, e = .returned (.tuple #[.int .i64 k, .bool (hasId n f id)]) ∧ Below w.heap.size w w' := by
  have H := Lib.hid h
  clear h
  have hb := Below.refl w.heap.size w
  have HRI := Lib.hid hr
  clear hr
  go_enter Try.func116, Try.ntmps116
  go_wp2_with fail
  go_loopw [9, 10] (fun v9 v10 wr => ∃ lo hi : Nat, lo ≤ hi ∧ hi ≤ n ∧ v9 = .int .i64 lo ∧ v10 = .int .i64 hi ∧ Hid (∀ i, i < lo → f i 0 < id) ∧ Hid (∀ i, hi ≤ i → i < n → f i 0 ≥ id) ∧ Hid (Below w.heap.size w wr)) (fun v9 v10 _ => (intOf v10).toNat - (intOf v9).toNat)
  case atStart => exact ⟨0, n, by omega, by omega, rfl, rfl, Lib.hid (by intro i hi; omega), Lib.hid (by intro i h1 h2; omega), Lib.hid hb⟩
  case round =>
    obtain ⟨lo, hi, h1, h2, rfl, rfl, KL, KH, KB⟩ := hrel
    clear hb
    by_cases h5 : lo < hi
    · have b1 : decide ((lo : Int) < (hi : Int)) = true := decide_eq_true (by omega)
      obtain ⟨m, hm⟩ : ∃ m, (lo + hi) / 2 = m := ⟨_, rfl⟩
      have hm1 : lo ≤ m := by omega
      have hm2 : m < hi := by omega
      obtain ⟨g, off, rfl, hg, hx⟩ := (H.out.keep KB.out).at (by omega)
      have x0 := hx m 0 (by omega) (by omega)
      have x1 := hx m 1 (by omega) (by omega)
      have x2 := hx m 2 (by omega) (by omega)
      have x3 := hx m 3 (by omega) (by omega)
      rw [Nat.add_zero] at x0
      clear hx
      have hmI : ((lo : Int) + (hi : Int)) / 2 = (m : Int) := by omega
      by_cases h7 : f m 0 < id
      · have hcm : cmpI (f m 0) id = -1 := if_pos h7
        have KL2 := Lib.hid (show ∀ i, i < m + 1 → f i 0 < id from fun i hi' => by
          rcases Nat.lt_succ_iff_lt_or_eq.1 hi' with h | rfl
          · have := HRI.out i m h (by omega); omega
          · exact h7)
        go_wp2_with (first | (go_at_call 117; refine (c_group1 _ _ _ _ _ _).mono ?_; rintro e w2 ⟨rfl, hb2⟩; rw [hcm]; have KB2 := Lib.hid (btrans KB.out hb2); clear hb2) | fail)
        go_roundw
        case rel => exact ⟨m + 1, hi, by omega, h2, by go_num, rfl, KL2, KH, KB2⟩
        case measure => simp [intOf]; omega
      · have hcm : decide (cmpI (f m 0) id < 0) = false := decide_eq_false (by unfold cmpI; rw [if_neg h7]; split <;> omega)
        have KH2 := Lib.hid (show ∀ i, m ≤ i → i < n → f i 0 ≥ id from fun i hi' hn' => by
          rcases Nat.lt_or_ge m i with h | h
          · have := HRI.out m i h hn'; omega
          · rw [show i = m by omega]; omega)
        go_wp2_with (first | (go_at_call 117; refine (c_group1 _ _ _ _ _ _).mono ?_; rintro e w2 ⟨rfl, hb2⟩; have KB2 := Lib.hid (btrans KB.out hb2); clear hb2) | fail)
        go_roundw
        case rel => exact ⟨lo, m, by omega, by omega, rfl, rfl, KL, KH2, KB2⟩
        case measure => simp [intOf]; omega
    · obtain rfl : lo = hi := by omega
      have b1 : decide ((lo : Int) < (lo : Int)) = false := decide_eq_false (by omega)
      have hfd := Lib.hid (hasId_found h2 KL.out KH.out HRI.out)
      by_cases h6 : lo < n
      · have b2 : decide ((lo : Int) < (n : Int)) = true := decide_eq_true (by omega)
        obtain ⟨g, off, rfl, hg, hx⟩ := (H.out.keep KB.out).at (by omega)
        have x0 := hx lo 0 (by omega) (by omega)
        have x1 := hx lo 1 (by omega) (by omega)
        have x2 := hx lo 2 (by omega) (by omega)
        have x3 := hx lo 3 (by omega) (by omega)
        rw [Nat.add_zero] at x0
        clear hx
        have hfd2 : Hid (hasId n f id = (cmpI (f lo 0) id == 0)) := Lib.hid (hfd.out.trans (by rw [decide_eq_true h6]; rfl))
        generalize hcc : cmpI (f lo 0) id = cc at *
        go_wp2_with (first | (go_at_call 117; refine (c_group1 _ _ _ _ _ _).mono ?_; rintro e w2 ⟨rfl, hb2⟩; rw [hcc]; have KB2 := Lib.hid (btrans KB.out hb2); clear hb2) | fail)
        exact bodyPost_ret (v := .tuple #[.int .i64 lo, .bool (cc == 0)]) (by simp [results, Try.results116, go_sem]) rfl ⟨lo, by rw [hfd2.out], KB2.out⟩
      · have b2 : decide ((lo : Int) < (n : Int)) = false := decide_eq_false (by omega)
        go_wp2_with fail
        exact bodyPost_ret (v := .tuple #[.int .i64 lo, .bool false]) (by simp [results, Try.results116, go_sem]) rfl ⟨lo, by rw [hfd.out, decide_eq_false h6]; rfl, KB.out⟩
theorem c_group (cap : Int) (A1 A2 : Option Addr) (n1 c1 n2 c2 : Nat) (f1 : Nat → Nat → Int) (id : Int) (w : World) (h : Tab 4 w A1 n1 f1) (hn : n1 ≤ 1000) (hr : Rises n1 f1) :
    Calls Try.prog 79 #[.agg #[.int .i64 cap, .slice A1 n1 c1, .slice A2 n2 c2], .int .i64 id] w fun e w' => ∃ k : Nat, e = .returned (.tuple #[.int .i64 k, .bool (hasId n1 f1 id)]) ∧ Below w.heap.size w w' := by
  have H := Lib.hid h
  clear h
  have hb := (Below.refl _ w).alloc (Nat.le_refl _) (.cells #[.int .i64 cap, .slice A1 n1 c1, .slice A2 n2 c2] 34)
  have HB := Lib.hid hb
  have H1 := Lib.hid (H.out.keep hb)
  clear hb
  go_enter Try.func79, Try.ntmps79
  go_wp2_with (first | (go_at_call 116; refine (c_BinG _ _ _ _ _ _ H1.out hn hr).mono ?_; rintro e w2 ⟨k, rfl, hb2⟩; have HB2 := Lib.hid (HB.out.trans (hb2.mono (by simp))); clear hb2) | fail)
  exact bodyPost_ret (v := .tuple #[.int .i64 k, .bool (hasId n1 f1 id)]) (by simp [results, Try.results79, go_sem]) rfl ⟨k, rfl, HB2.out⟩
theorem c_hasGroup (cap : Int) (A1 A2 : Option Addr) (n1 c1 n2 c2 : Nat) (f1 : Nat → Nat → Int) (id : Int) (w : World) (h : Tab 4 w A1 n1 f1) (hn : n1 ≤ 1000) (hr : Rises n1 f1) :
    Calls Try.prog 83 #[.agg #[.int .i64 cap, .slice A1 n1 c1, .slice A2 n2 c2], .int .i64 id] w fun e w' => e = .returned (.bool (hasId n1 f1 id || id == 0)) ∧ Below w.heap.size w w' := by
  have H := Lib.hid h
  clear h
  have hb := (Below.refl _ w).alloc (Nat.le_refl _) (.cells #[.int .i64 cap, .slice A1 n1 c1, .slice A2 n2 c2] 34)
  have HB := Lib.hid hb
  have H1 := Lib.hid (H.out.keep hb)
  clear hb
  obtain ⟨r, hr'⟩ : ∃ r, hasId n1 f1 id = r := ⟨_, rfl⟩
  have HR := Lib.hid hr'
  cases r <;> (
    go_enter Try.func83, Try.ntmps83
    go_wp2_with (first | (go_at_call 79; refine (c_group _ _ _ _ _ _ _ _ _ _ H1.out hn hr).mono ?_; rintro e w2 ⟨k, rfl, hb2⟩; rw [HR.out]; have HB2 := Lib.hid (HB.out.trans (hb2.mono (by simp))); clear hb2) | fail)
    go_ret
    exact ⟨ret_bool (by rw [HR.out]; simp), HB2.out⟩)
end Go.Proofs.Ytipkbapnhgdpeaa.C
