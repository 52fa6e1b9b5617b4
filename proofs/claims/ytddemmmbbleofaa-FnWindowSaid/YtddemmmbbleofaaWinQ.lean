/- The most of a history, by both forms: the greatest capacity whose end is behind the time less the span. No condition. -/
import Derived.Test.YtddemmmbbleofaaWinM
namespace Go.Proofs.Ytddemmmbbleofaa.C
open Go.RowKit
set_option maxRecDepth 100000
set_option linter.unusedVariables false
set_option linter.unusedSimpArgs false
attribute [local go_sem ↓] Go.wp_at_zero Go.wp_at_succ
/-- What the first i marks of a history give. -/
def accP (t : Int) (ms : List Mk) : Nat → Int
  | 0 => 0
  | i + 1 => if i + 1 = ms.length ∨ (mat ms (i + 1)).1 - 1 > t then max (accP t ms i) (mat ms i).2 else accP t ms i
theorem acc_nonneg (t : Int) (ms : List Mk) : ∀ i, 0 ≤ accP t ms i
  | 0 => Int.le_refl _
  | i + 1 => by
    have := acc_nonneg t ms i
    unfold accP
    split <;> omega
theorem acc_cons (t : Int) (a : Mk) (l : List Mk) (ha : 0 ≤ a.2) : ∀ i, i ≤ l.length → accP t (a :: l) (i + 1) = max (if l.length = 0 ∨ (mat l 0).1 - 1 > t then a.2 else 0) (accP t l i)
  | 0, _ => by
    show (if 0 + 1 = (a :: l).length ∨ (mat l 0).1 - 1 > t then max 0 a.2 else 0) = _
    have e : (0 + 1 = (a :: l).length) = (l.length = 0) := by simp [eq_comm]
    simp only [e]
    show _ = max (if l.length = 0 ∨ (mat l 0).1 - 1 > t then a.2 else 0) 0
    split <;> omega
  | i + 1, h => by
    have ih := acc_cons t a l ha i (by omega)
    show (if i + 1 + 1 = (a :: l).length ∨ (mat l (i + 1)).1 - 1 > t then max (accP t (a :: l) (i + 1)) (mat l i).2 else accP t (a :: l) (i + 1)) = _
    have e : (i + 1 + 1 = (a :: l).length) = (i + 1 = l.length) := by simp
    simp only [e, ih]
    show _ = max (if l.length = 0 ∨ (mat l 0).1 - 1 > t then a.2 else 0) (if i + 1 = l.length ∨ (mat l (i + 1)).1 - 1 > t then max (accP t l i) (mat l i).2 else accP t l i)
    split <;> omega
theorem acc_sup (t : Int) : ∀ ms : List Mk, (∀ x ∈ ms, 0 ≤ x.2) → accP t ms ms.length = sup t ms
  | [], _ => rfl
  | [a], h => by
    have := h a (by simp)
    show (if 0 + 1 = 1 ∨ _ then max 0 a.2 else 0) = max 0 a.2
    rw [if_pos (.inl rfl)]
  | a :: b :: l, h => by
    have ha := h a (by simp)
    have ih := acc_sup t (b :: l) (fun x hx => h x (List.mem_cons_of_mem _ hx))
    have n := sup_nonneg t (b :: l)
    show accP t (a :: b :: l) ((b :: l).length + 1) = _
    rw [acc_cons t a (b :: l) ha _ (Nat.le_refl _), ih]
    show max (if l.length + 1 = 0 ∨ b.1 - 1 > t then a.2 else 0) _ = if b.1 - 1 > t then max a.2 (sup t (b :: l)) else sup t (b :: l)
    by_cases hb : b.1 - 1 > t
    · rw [if_pos (.inr hb), if_pos hb]
    · rw [if_neg (by simp; omega), if_neg hb]; omega
/-- What a right history gives. -/
theorem hist_of {ms : List Mk} (h : histB ms = true) : ms.length ≤ 200 ∧ (∀ i, i < ms.length → 0 ≤ (mat ms i).1 ∧ (mat ms i).1 ≤ 1000000 ∧ 0 ≤ (mat ms i).2 ∧ (mat ms i).2 ≤ 1125899906842624) ∧ ∀ i, i + 1 < ms.length → (mat ms i).1 < (mat ms (i + 1)).1 := by
  unfold histB at h
  rw [Bool.and_eq_true] at h
  have h2 : ∀ i, i < ms.length → okAt ms i = true := fun i hi => List.all_eq_true.1 h.2 i (List.mem_range.2 hi)
  refine ⟨of_decide_eq_true h.1, fun i hi => ?_, fun i hi => ?_⟩
  · have := h2 i hi
    unfold okAt at this
    rw [Bool.and_eq_true, Bool.and_eq_true, bIn_true, bIn_true] at this
    omega
  · have := h2 (i + 1) hi
    unfold okAt at this
    rw [Bool.and_eq_true, Bool.and_eq_true, Bool.or_eq_true] at this
    rcases this.2.2 with h | h
    · simp at h
    · simpa using h
theorem hist_rise {ms : List Mk} (h : histB ms = true) : ms.Pairwise (fun a b => a.1 < b.1) := by
  obtain ⟨_, _, h3⟩ := hist_of h
  rw [List.pairwise_iff_getElem]
  intro i j hi hj hij
  rw [← mat_eq hi, ← mat_eq hj]
  obtain ⟨d, rfl⟩ : ∃ d, j = i + 1 + d := ⟨j - i - 1, by omega⟩
  clear hij
  induction d with
  | zero => exact h3 i hj
  | succ d ih => exact Int.lt_trans (ih (by omega)) (h3 _ hj)
theorem hist_last {ms : List Mk} (h : histB ms = true) {i : Nat} (hi : i < ms.length) : (mat ms i).1 ≤ (mat ms (ms.length - 1)).1 := by
  rcases Nat.lt_or_ge i (ms.length - 1) with h1 | h1
  · have := List.pairwise_iff_getElem.1 (hist_rise h) i (ms.length - 1) hi (by omega) h1
    rw [← mat_eq hi, ← mat_eq (by omega)] at this
    omega
  · rw [show i = ms.length - 1 by omega]
    exact Int.le_refl _
theorem max_int (a b : Int) : (if a ≤ b then b else a) = max a b := by split <;> omega
set_option maxHeartbeats 4000000 in
theorem c_MostOf (A : Option Addr) (ms : List Mk) (c : Nat) (sp now : Int) (w : World) (h : Mks w A ms) (hh : histB ms = true) (s0 : 1 ≤ sp) (s1 : sp ≤ 1000000) (n1 : now ≤ 10000000) (hp0 : 0 ≤ now) (hn : ∀ i, i < ms.length → (mat ms i).1 ≤ now) :
    Calls Try.prog 34 #[.slice A ms.length c, .int .i64 sp, .int .i64 now] w fun e w' => e = .returned (.int .i64 (accP (now - sp) ms ms.length)) ∧ Below w.heap.size w w' := by
  have hlen := (hist_of hh).1
  have HH := Lib.hid (hist_of hh).2.1
  have HM := Lib.hid h
  have HN := Lib.hid hn
  have HHB := Lib.hid hh
  have e1 : bIn sp 1 1000000 = true := bIn_true.2 ⟨s0, s1⟩
  have b0 : decide (now < 0) = false := decide_eq_false (by omega)
  have hwr : IntKind.i64.wrap (now - sp) = now - sp := by rw [IntKind.wrap_i64]; omega
  clear h hn hh
  go_enter Try.func34, Try.ntmps34
  go_wp2_with (first | (go_at_call 71; refine (c_hist _ _ _ _ HM.out (by omega)).mono ?_; rintro e w1 ⟨rfl, hb1⟩; rw [HHB.out]) | (go_at_call 50; refine (c_in_v e1 _).mono ?_; rintro e w' ⟨rfl, rfl⟩) | fail)
  have HM1 := Lib.hid (HM.out.keep hb1)
  have HB := Lib.hid hb1
  have hz := hb1.size
  have HZ := Lib.hid hz
  clear HM hb1 hz
  go_loopw [7, 24] (fun v7 v24 wr => ∃ i : Nat, i ≤ ms.length ∧ v24 = .int .i64 i ∧ v7 = .int .i64 (accP (now - sp) ms i) ∧ Hid (Below w1.heap.size w1 wr)) (fun _ v24 _ => ms.length - (intOf v24).toNat)
  case atStart => exact ⟨0, by omega, rfl, rfl, Lib.hid (Below.refl _ _)⟩
  case round =>
    obtain ⟨i, hi, rfl, rfl, KB⟩ := hrel
    by_cases h5 : i < ms.length
    · have b1 : decide ((i : Int) < (ms.length : Int)) = true := decide_eq_true (by omega)
      obtain ⟨g, off, rfl, hg, hx⟩ := (HM1.out.keep KB.out).at h5
      obtain ⟨x0, x1⟩ := hx i h5
      have b2 : decide ((mat ms i).1 ≤ now) = true := decide_eq_true (HN.out i h5)
      go_upto_region 7 with fail
      have hB2 := Lib.hid (btrans KB.out ((Below.refl wr.heap.size wr).alloc (Nat.le_refl _) (.cells #[.int .i64 (mat ms i).1, .int .i64 (mat ms i).2] 59)))
      have hxx : ∀ j, j < ms.length → (wr.alloc (.cells #[.int .i64 (mat ms i).1, .int .i64 (mat ms i).2] 59)).cell? ⟨g, off + j * 2, none⟩ = some (.int .i64 (mat ms j).1) := fun j hj => Lib.cell?_alloc_some _ (hx j hj).1
      have z0 := ((Blk.new (Nat.zero_le wr.heap.size) #[.int .i64 (mat ms i).1, .int .i64 (mat ms i).2] 59).cell 0).trans (by rfl)
      have z1 := ((Blk.new (Nat.zero_le wr.heap.size) #[.int .i64 (mat ms i).1, .int .i64 (mat ms i).2] 59).cell 1).trans (by rfl)
      have hacc := Lib.hid (show accP (now - sp) ms (i + 1) = if i + 1 = ms.length ∨ (mat ms (i + 1)).1 - 1 > now - sp then max (accP (now - sp) ms i) (mat ms i).2 else accP (now - sp) ms i from rfl)
      generalize hp : (mat ms i).1 = p at *
      generalize hq : (mat ms i).2 = q at *
      generalize hw1 : wr.alloc (.cells #[.int .i64 p, .int .i64 q] 59) = w2 at *
      generalize wr.heap.size = g2 at *
      generalize hac : accP (now - sp) ms i = ac at *
      clear hx x0 x1 hw1 KB
      by_cases h6 : i + 1 = ms.length
      · have b3 : ((i : Int) == (ms.length : Int) - 1) = true := by simp; omega
        rw [if_pos (.inl h6)] at hacc
        go_wp2_with fail
        go_roundw
        case rel => exact ⟨i + 1, by omega, by go_num, by rw [hacc.out]; exact congrArg _ (by split <;> omega), hB2⟩
        case measure => simp [intOf]; omega
      · have b3 : ((i : Int) == (ms.length : Int) - 1) = false := by simp; omega
        have y0 := hxx (i + 1) (by omega)
        obtain ⟨r0, r1, _⟩ := HH.out (i + 1) (by omega)
        generalize hp' : (mat ms (i + 1)).1 = p' at *
        rcases b4 : decide (p' - 1 > now - sp) with _ | _
        · rw [if_neg (by have := of_decide_eq_false b4; omega)] at hacc
          go_wp2_with fail
          go_roundw
          case rel => exact ⟨i + 1, by omega, by go_num, by rw [hacc.out], hB2⟩
          case measure => simp [intOf]; omega
        · rw [if_pos (.inr (of_decide_eq_true b4))] at hacc
          go_wp2_with fail
          go_roundw
          case rel => exact ⟨i + 1, by omega, by go_num, by rw [hacc.out]; exact congrArg _ (by split <;> omega), hB2⟩
          case measure => simp [intOf]; omega
    · obtain rfl : i = ms.length := by omega
      have b1 : decide ((ms.length : Int) < (ms.length : Int)) = false := decide_eq_false (by omega)
      go_wp2_with fail
      go_ret
      exact ⟨rfl, HB.out.trans (KB.out.mono HZ.out)⟩
theorem s_min_k (a b : Int) (w : World) : Calls Try.prog 45 #[.int .i64 a, .int .i64 b] w fun e w' => e = .returned (.int .i64 (min a b)) ∧ w = w' := by
  by_cases h : a < b
  · have b1 : decide (a < b) = true := decide_eq_true h
    go_enter Try.func45, Try.ntmps45
    go_wp2
    go_ret
    exact ⟨ret_int (by omega), rfl⟩
  · have b1 : decide (a < b) = false := decide_eq_false h
    go_enter Try.func45, Try.ntmps45
    go_wp2
    go_ret
    exact ⟨ret_int (by omega), rfl⟩
theorem s_max_k (a b : Int) (w : World) : Calls Try.prog 73 #[.int .i64 a, .int .i64 b] w fun e w' => e = .returned (.int .i64 (max a b)) ∧ w = w' := by
  by_cases h : a > b
  · have b1 : decide (a > b) = true := decide_eq_true h
    go_enter Try.func73, Try.ntmps73
    go_wp2
    go_ret
    exact ⟨ret_int (by omega), rfl⟩
  · have b1 : decide (a > b) = false := decide_eq_false h
    go_enter Try.func73, Try.ntmps73
    go_wp2
    go_ret
    exact ⟨ret_int (by omega), rfl⟩
set_option maxHeartbeats 4000000 in
theorem s_MostOf (A : Option Addr) (ms : List Mk) (c : Nat) (sp now : Int) (w : World) (h : Mks w A ms) (hh : histB ms = true) (s0 : 1 ≤ sp) (s1 : sp ≤ 1000000) (n1 : now ≤ 10000000) (hp0 : 0 ≤ now) (hn : ∀ i, i < ms.length → (mat ms i).1 ≤ now) :
    Calls Try.prog 35 #[.slice A ms.length c, .int .i64 sp, .int .i64 now] w fun e w' => e = .returned (.int .i64 (accP (now - sp) ms ms.length)) ∧ Below w.heap.size w w' := by
  have hlen := (hist_of hh).1
  have HH := Lib.hid (hist_of hh).2.1
  have HM := Lib.hid h
  have HN := Lib.hid hn
  have HHB := Lib.hid hh
  have b0 : decide (sp < 1) = false := decide_eq_false (by omega)
  have b00 : decide (sp > 1000000) = false := decide_eq_false (by omega)
  clear h hn hh
  go_enter Try.func35, Try.ntmps35
  go_wp2_with (first | (go_at_call 69; refine (s_hist _ _ _ _ HM.out (by omega)).mono ?_; rintro e w1 ⟨rfl, hb1⟩; rw [HHB.out]) | fail)
  have HM1 := Lib.hid (HM.out.keep hb1)
  have HB := Lib.hid hb1
  have hz := hb1.size
  have HZ := Lib.hid hz
  clear HM hb1 hz
  go_loopw [7, 8] (fun v7 v8 wr => ∃ i : Nat, i ≤ ms.length ∧ v8 = .int .i64 i ∧ v7 = .int .i64 (accP (now - sp) ms i) ∧ Hid (Below w1.heap.size w1 wr)) (fun _ v8 _ => ms.length - (intOf v8).toNat)
  case atStart => exact ⟨0, by omega, rfl, rfl, Lib.hid (Below.refl _ _)⟩
  case round =>
    obtain ⟨i, hi, rfl, rfl, KB⟩ := hrel
    by_cases h5 : i < ms.length
    · have b1 : decide ((i : Int) < (ms.length : Int)) = true := decide_eq_true (by omega)
      obtain ⟨g, off, rfl, hg, hx⟩ := (HM1.out.keep KB.out).at h5
      obtain ⟨x0, x1⟩ := hx i h5
      have b2 : decide ((mat ms i).1 > now) = false := decide_eq_false (by have := HN.out i h5; omega)
      have hacc := Lib.hid (show accP (now - sp) ms (i + 1) = if i + 1 = ms.length ∨ (mat ms (i + 1)).1 - 1 > now - sp then max (accP (now - sp) ms i) (mat ms i).2 else accP (now - sp) ms i from rfl)
      generalize hp : (mat ms i).1 = p at *
      generalize hq : (mat ms i).2 = q at *
      generalize hac : accP (now - sp) ms i = ac at *
      by_cases h6 : i + 1 = ms.length
      · have b3 : decide ((i : Int) + 1 < (ms.length : Int)) = false := decide_eq_false (by omega)
        have b5 : decide (now - now < sp) = true := decide_eq_true (by omega)
        have b6 : decide (0 < sp) = true := decide_eq_true (by omega)
        rw [if_pos (.inl h6)] at hacc
        clear hx
        go_wp2_with ((first | (go_at_call 45; refine (s_min_k _ _ _).mono ?_; rintro e w' ⟨rfl, rfl⟩) | (go_at_call 73; refine (s_max_k _ _ _).mono ?_; rintro e w' ⟨rfl, rfl⟩) | fail))
        go_roundw
        case rel => exact ⟨i + 1, by omega, by go_num, by rw [hacc.out], KB⟩
        case measure => simp [intOf]; omega
      · have b3 : decide ((i : Int) + 1 < (ms.length : Int)) = true := decide_eq_true (by omega)
        have y0 := (hx (i + 1) (by omega)).1
        obtain ⟨r0, r1, _⟩ := HH.out (i + 1) (by omega)
        generalize hp' : (mat ms (i + 1)).1 = p' at *
        have hwr : IntKind.i64.wrap (now - min now (p' - 1)) = now - min now (p' - 1) := by rw [IntKind.wrap_i64]; omega
        clear hx
        by_cases b4 : p' - 1 > now - sp
        · have b7 : decide (now - min now (p' - 1) < sp) = true := decide_eq_true (by omega)
          rw [if_pos (.inr b4)] at hacc
          clear b4
          go_wp2_with ((first | (go_at_call 45; refine (s_min_k _ _ _).mono ?_; rintro e w' ⟨rfl, rfl⟩) | (go_at_call 73; refine (s_max_k _ _ _).mono ?_; rintro e w' ⟨rfl, rfl⟩) | fail))
          go_roundw
          case rel => exact ⟨i + 1, by omega, by go_num, by rw [hacc.out], KB⟩
          case measure => simp [intOf]; omega
        · have b7 : decide (now - min now (p' - 1) < sp) = false := decide_eq_false (by omega)
          rw [if_neg (by omega)] at hacc
          clear b4
          go_wp2_with ((first | (go_at_call 45; refine (s_min_k _ _ _).mono ?_; rintro e w' ⟨rfl, rfl⟩) | (go_at_call 73; refine (s_max_k _ _ _).mono ?_; rintro e w' ⟨rfl, rfl⟩) | fail))
          go_roundw
          case rel => exact ⟨i + 1, by omega, by go_num, by rw [hacc.out], KB⟩
          case measure => simp [intOf]; omega
    · obtain rfl : i = ms.length := by omega
      have b1 : decide ((ms.length : Int) < (ms.length : Int)) = false := decide_eq_false (by omega)
      go_wp2_with fail
      go_ret
      exact ⟨rfl, HB.out.trans (KB.out.mono HZ.out)⟩
end Go.Proofs.Ytddemmmbbleofaa.C
