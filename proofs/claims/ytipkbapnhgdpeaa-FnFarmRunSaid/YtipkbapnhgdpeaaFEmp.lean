/- Is nothing below a group? No condition. -/
import Derived.Test.YtipkbapnhgdpeaaFind2
namespace Go.Proofs.Ytipkbapnhgdpeaa.C
open Go.RowKit
set_option maxRecDepth 100000
set_option linter.unusedVariables false
set_option linter.unusedSimpArgs false
attribute [local go_sem ↓] Go.wp_at_zero Go.wp_at_succ
def upIdx (f : Nat → Nat → Int) (id : Int) : Nat → Nat → Int
  | _, 0 => -1
  | i, k + 1 => if f i 1 = id then i else upIdx f id (i + 1) k
theorem upIdx_ge (f : Nat → Nat → Int) (id : Int) : ∀ k i, upIdx f id i k ≥ 0 ↔ ∃ j, i ≤ j ∧ j < i + k ∧ f j 1 = id
  | 0, i => ⟨fun h => absurd h (by unfold upIdx; omega), fun ⟨j, h1, h2, _⟩ => by omega⟩
  | k + 1, i => by
    unfold upIdx
    by_cases h : f i 1 = id
    · rw [if_pos h]
      exact ⟨fun _ => ⟨i, Nat.le_refl _, by omega, h⟩, fun _ => by omega⟩
    · rw [if_neg h, upIdx_ge f id k (i + 1)]
      constructor
      · rintro ⟨j, h1, h2, h3⟩; exact ⟨j, by omega, by omega, h3⟩
      · rintro ⟨j, h1, h2, h3⟩
        rcases Nat.lt_or_ge i j with h4 | h4
        · exact ⟨j, h4, by omega, h3⟩
        · exact absurd (by rw [show i = j by omega]; exact h3) h
theorem upIdx_busy (f : Nat → Nat → Int) (id : Int) (n : Nat) : decide (upIdx f id 0 n ≥ 0) = busyB n f id := by
  rcases h : busyB n f id with _ | _
  · refine decide_eq_false fun h2 => ?_
    obtain ⟨j, _, h3, h4⟩ := (upIdx_ge f id n 0).1 h2
    exact busy_no h (by omega : j < n) h4
  · unfold busyB at h
    rw [List.any_eq_true] at h
    obtain ⟨j, hj, he⟩ := h
    exact decide_eq_true ((upIdx_ge f id n 0).2 ⟨j, Nat.zero_le _, by have := List.mem_range.1 hj; omega, by simpa using he⟩)
theorem c_empG1 (a0 a1 a2 a3 id : Int) (pb : Nat) (w : World) (hid : w.cell? ⟨pb, 0, none⟩ = some (.int .i64 id)) (hp : pb < w.heap.size) : Calls Try.prog 138 #[.agg #[.int .i64 a0, .int .i64 a1, .int .i64 a2, .int .i64 a3], .pointer (some ⟨pb, 0, none⟩)] w fun e w' => e = .returned (.bool (a1 == id)) ∧ Below w.heap.size w w' := by
  go_enter Try.func138, Try.ntmps138
  go_wp2
  go_ret
  exact ⟨rfl, (Below.refl _ _).alloc (Nat.le_refl _) _⟩
set_option maxHeartbeats 4000000 in
theorem c_IdxG (A : Option Addr) (n c : Nat) (f : Nat → Nat → Int) (id : Int) (pb : Nat) (w : World) (h : Tab 4 w A n f) (hn : n ≤ 1000) (hid : w.cell? ⟨pb, 0, none⟩ = some (.int .i64 id)) (hp : pb < w.heap.size) :
    Calls Try.prog 145 #[.slice A n c, .func (.func 138) #[] #[.pointer (some ⟨pb, 0, none⟩)]] w fun e w' => e = .returned (.int .i64 (upIdx f id 0 n)) ∧ Below w.heap.size w w' := by
  have H := Lib.hid h
  have HI := Lib.hid hid
  clear h hid
  have hb := Below.refl w.heap.size w
  go_enter Try.func145, Try.ntmps145
  go_wp2_with fail
  go_loopw [8] (fun v8 wr => ∃ i : Nat, i ≤ n ∧ v8 = .int .i64 i ∧ Hid (upIdx f id 0 n = upIdx f id i (n - i)) ∧ Hid (Below w.heap.size w wr)) (fun v8 _ => n - (intOf v8).toNat)
  case atStart => exact ⟨0, by omega, rfl, Lib.hid rfl, Lib.hid hb⟩
  case round =>
    obtain ⟨i, hi, rfl, KI, KB⟩ := hrel
    clear hb
    by_cases h5 : i < n
    · have b1 : decide ((i : Int) < (n : Int)) = true := decide_eq_true (by omega)
      obtain ⟨g, off, rfl, hg, hx⟩ := (H.out.keep KB.out).at (by omega)
      have x0 := hx i 0 h5 (by omega)
      have x1 := hx i 1 h5 (by omega)
      have x2 := hx i 2 h5 (by omega)
      have x3 := hx i 3 h5 (by omega)
      rw [Nat.add_zero] at x0
      clear hx
      have HC := Lib.hid fun (b : Bool) (hbb : (f i 1 == id) = b) => hbb ▸ c_empG1 (f i 0) (f i 1) (f i 2) (f i 3) id pb wr ((KB.out.cell (p := ⟨pb, 0, none⟩) hp).trans HI.out) (Nat.lt_of_lt_of_le hp KB.out.size)
      have e1 : upIdx f id i (n - i) = if f i 1 = id then (i : Int) else upIdx f id (i + 1) (n - (i + 1)) := by
        rw [show n - i = (n - (i + 1)) + 1 by omega]; rfl
      by_cases h6 : f i 1 = id
      · have HC2 := Lib.hid (HC.out true (by simpa using h6))
        have e2 := Lib.hid (KI.out.trans (e1.trans (if_pos h6)))
        clear HC e1 h6
        generalize f i 0 = a0 at *
        generalize f i 1 = a1 at *
        generalize f i 2 = a2 at *
        generalize f i 3 = a3 at *
        go_wp2_with (first | (go_at_call 138; (with_reducible refine HC2.out.mono ?_); rintro e w2 ⟨rfl, hb2⟩; have KB2 := Lib.hid (btrans KB.out hb2); clear hb2) | fail)
        go_ret
        exact ⟨ret_int e2.out.symm, KB2.out⟩
      · have HC2 := Lib.hid (HC.out false (by simpa using h6))
        have e2 := Lib.hid (KI.out.trans (e1.trans (if_neg h6)))
        clear HC e1 h6
        generalize f i 0 = a0 at *
        generalize f i 1 = a1 at *
        generalize f i 2 = a2 at *
        generalize f i 3 = a3 at *
        go_wp2_with (first | (go_at_call 138; (with_reducible refine HC2.out.mono ?_); rintro e w2 ⟨rfl, hb2⟩; have KB2 := Lib.hid (btrans KB.out hb2); clear hb2) | fail)
        go_roundw
        case rel => exact ⟨i + 1, by omega, by go_num, e2, KB2⟩
        case measure => simp [intOf]; omega
    · obtain rfl : i = n := by omega
      have b1 : decide ((i : Int) < (i : Int)) = false := decide_eq_false (by omega)
      go_wp2_with fail
      go_ret
      exact ⟨ret_int (by rw [KI.out, Nat.sub_self]; rfl), KB.out⟩
theorem c_HasUpG (A : Option Addr) (n c : Nat) (f : Nat → Nat → Int) (id : Int) (pb : Nat) (w : World) (h : Tab 4 w A n f) (hn : n ≤ 1000) (hid : w.cell? ⟨pb, 0, none⟩ = some (.int .i64 id)) (hp : pb < w.heap.size) :
    Calls Try.prog 137 #[.slice A n c, .func (.func 138) #[] #[.pointer (some ⟨pb, 0, none⟩)]] w fun e w' => e = .returned (.bool (busyB n f id)) ∧ Below w.heap.size w w' := by
  have e1 := Lib.hid (upIdx_busy f id n)
  have H := Lib.hid (c_IdxG A n c f id pb w h hn hid hp)
  clear h hid
  go_enter Try.func137, Try.ntmps137
  go_wp2_with (first | (go_at_call 145; (with_reducible refine H.out.mono ?_); rintro e w2 ⟨rfl, hb2⟩; have KB2 := Lib.hid hb2; clear hb2) | fail)
  go_ret
  exact ⟨ret_bool e1.out, KB2.out⟩
theorem c_empM1 (a0 a1 a2 a3 id : Int) (pb : Nat) (w : World) (hid : w.cell? ⟨pb, 0, none⟩ = some (.int .i64 id)) (hp : pb < w.heap.size) : Calls Try.prog 140 #[.agg #[.int .i64 a0, .int .i64 a1, .int .i64 a2, .int .i64 a3], .pointer (some ⟨pb, 0, none⟩)] w fun e w' => e = .returned (.bool (a1 == id)) ∧ Below w.heap.size w w' := by
  go_enter Try.func140, Try.ntmps140
  go_wp2
  go_ret
  exact ⟨rfl, (Below.refl _ _).alloc (Nat.le_refl _) _⟩
set_option maxHeartbeats 4000000 in
theorem c_IdxM (A : Option Addr) (n c : Nat) (f : Nat → Nat → Int) (id : Int) (pb : Nat) (w : World) (h : Tab 4 w A n f) (hn : n ≤ 1000) (hid : w.cell? ⟨pb, 0, none⟩ = some (.int .i64 id)) (hp : pb < w.heap.size) :
    Calls Try.prog 146 #[.slice A n c, .func (.func 140) #[] #[.pointer (some ⟨pb, 0, none⟩)]] w fun e w' => e = .returned (.int .i64 (upIdx f id 0 n)) ∧ Below w.heap.size w w' := by
  have H := Lib.hid h
  have HI := Lib.hid hid
  clear h hid
  have hb := Below.refl w.heap.size w
  go_enter Try.func146, Try.ntmps146
  go_wp2_with fail
  go_loopw [8] (fun v8 wr => ∃ i : Nat, i ≤ n ∧ v8 = .int .i64 i ∧ Hid (upIdx f id 0 n = upIdx f id i (n - i)) ∧ Hid (Below w.heap.size w wr)) (fun v8 _ => n - (intOf v8).toNat)
  case atStart => exact ⟨0, by omega, rfl, Lib.hid rfl, Lib.hid hb⟩
  case round =>
    obtain ⟨i, hi, rfl, KI, KB⟩ := hrel
    clear hb
    by_cases h5 : i < n
    · have b1 : decide ((i : Int) < (n : Int)) = true := decide_eq_true (by omega)
      obtain ⟨g, off, rfl, hg, hx⟩ := (H.out.keep KB.out).at (by omega)
      have x0 := hx i 0 h5 (by omega)
      have x1 := hx i 1 h5 (by omega)
      have x2 := hx i 2 h5 (by omega)
      have x3 := hx i 3 h5 (by omega)
      rw [Nat.add_zero] at x0
      clear hx
      have HC := Lib.hid fun (b : Bool) (hbb : (f i 1 == id) = b) => hbb ▸ c_empM1 (f i 0) (f i 1) (f i 2) (f i 3) id pb wr ((KB.out.cell (p := ⟨pb, 0, none⟩) hp).trans HI.out) (Nat.lt_of_lt_of_le hp KB.out.size)
      have e1 : upIdx f id i (n - i) = if f i 1 = id then (i : Int) else upIdx f id (i + 1) (n - (i + 1)) := by
        rw [show n - i = (n - (i + 1)) + 1 by omega]; rfl
      by_cases h6 : f i 1 = id
      · have HC2 := Lib.hid (HC.out true (by simpa using h6))
        have e2 := Lib.hid (KI.out.trans (e1.trans (if_pos h6)))
        clear HC e1 h6
        generalize f i 0 = a0 at *
        generalize f i 1 = a1 at *
        generalize f i 2 = a2 at *
        generalize f i 3 = a3 at *
        go_wp2_with (first | (go_at_call 140; (with_reducible refine HC2.out.mono ?_); rintro e w2 ⟨rfl, hb2⟩; have KB2 := Lib.hid (btrans KB.out hb2); clear hb2) | fail)
        go_ret
        exact ⟨ret_int e2.out.symm, KB2.out⟩
      · have HC2 := Lib.hid (HC.out false (by simpa using h6))
        have e2 := Lib.hid (KI.out.trans (e1.trans (if_neg h6)))
        clear HC e1 h6
        generalize f i 0 = a0 at *
        generalize f i 1 = a1 at *
        generalize f i 2 = a2 at *
        generalize f i 3 = a3 at *
        go_wp2_with (first | (go_at_call 140; (with_reducible refine HC2.out.mono ?_); rintro e w2 ⟨rfl, hb2⟩; have KB2 := Lib.hid (btrans KB.out hb2); clear hb2) | fail)
        go_roundw
        case rel => exact ⟨i + 1, by omega, by go_num, e2, KB2⟩
        case measure => simp [intOf]; omega
    · obtain rfl : i = n := by omega
      have b1 : decide ((i : Int) < (i : Int)) = false := decide_eq_false (by omega)
      go_wp2_with fail
      go_ret
      exact ⟨ret_int (by rw [KI.out, Nat.sub_self]; rfl), KB.out⟩
theorem c_HasUpM (A : Option Addr) (n c : Nat) (f : Nat → Nat → Int) (id : Int) (pb : Nat) (w : World) (h : Tab 4 w A n f) (hn : n ≤ 1000) (hid : w.cell? ⟨pb, 0, none⟩ = some (.int .i64 id)) (hp : pb < w.heap.size) :
    Calls Try.prog 139 #[.slice A n c, .func (.func 140) #[] #[.pointer (some ⟨pb, 0, none⟩)]] w fun e w' => e = .returned (.bool (busyB n f id)) ∧ Below w.heap.size w w' := by
  have e1 := Lib.hid (upIdx_busy f id n)
  have H := Lib.hid (c_IdxM A n c f id pb w h hn hid hp)
  clear h hid
  go_enter Try.func139, Try.ntmps139
  go_wp2_with (first | (go_at_call 146; (with_reducible refine H.out.mono ?_); rintro e w2 ⟨rfl, hb2⟩; have KB2 := Lib.hid hb2; clear hb2) | fail)
  go_ret
  exact ⟨ret_bool e1.out, KB2.out⟩
theorem c_isEmpty (cap : Int) (A1 A2 : Option Addr) (n1 c1 n2 c2 : Nat) (f1 f2 : Nat → Nat → Int) (id : Int) (w : World) (h : FarmAt w A1 n1 f1 A2 n2 f2) (h1 : n1 ≤ 1000) (h2 : n2 ≤ 1000) :
    Calls Try.prog 131 #[.agg #[.int .i64 cap, .slice A1 n1 c1, .slice A2 n2 c2], .int .i64 id] w fun e w' => e = .returned (.bool (!(busyB n1 f1 id || busyB n2 f2 id))) ∧ Below w.heap.size w w' := by
  have hb := ((Below.refl _ w).alloc (Nat.le_refl _) (.cells #[.int .i64 cap, .slice A1 n1 c1, .slice A2 n2 c2] 34)).alloc (by simp) (.cells #[.int .i64 id] 2)
  have B1 := (Blk.new (w := w) (B := 0) (Nat.zero_le _) #[.int .i64 cap, .slice A1 n1 c1, .slice A2 n2 c2] 34).keep ((Below.refl _ _).alloc (Nat.le_refl _) (.cells #[.int .i64 id] 2))
  have B2 := Blk.new (w := w.alloc (.cells #[.int .i64 cap, .slice A1 n1 c1, .slice A2 n2 c2] 34)) (B := 0) (Nat.zero_le _) #[.int .i64 id] 2
  simp only [World.size_alloc] at B2
  have H := Lib.hid (h.keep hb)
  have HB := Lib.hid hb
  have K1 := Lib.hid B1
  have K2 := Lib.hid B2
  have HZ : Hid (((w.alloc (.cells #[.int .i64 cap, .slice A1 n1 c1, .slice A2 n2 c2] 34)).alloc (.cells #[.int .i64 id] 2)).heap.size = w.heap.size + 1 + 1) := Lib.hid (by simp)
  clear h hb B1 B2
  rcases e1 : busyB n1 f1 id with _ | _
  · have E1 := Lib.hid e1
    clear e1
    go_enter Try.func131, Try.ntmps131
    go_upto_region 1 with fail
    generalize ((w.alloc (.cells #[.int .i64 cap, .slice A1 n1 c1, .slice A2 n2 c2] 34)).alloc (.cells #[.int .i64 id] 2)) = w1 at *
    obtain ⟨b, hbb⟩ : ∃ b, w.heap.size = b := ⟨_, rfl⟩
    rw [hbb] at K1 K2 HZ ⊢
    have x1 := (K1.out.cell 1).trans rfl
    go_wp2_with (first
      | (go_at_call 137; refine (c_HasUpG A1 n1 c1 f1 id (b + 1) w1 H.out.g h1 ((K2.out.cell 0).trans rfl) K2.out.lt).mono ?_; rintro e w2 ⟨rfl, hb2⟩; rw [E1.out]; have HB2 := Lib.hid hb2; have y2 := ((K1.out.keep hb2).cell 2).trans rfl; clear hb2)
      | (go_at_call 139; refine (c_HasUpM A2 n2 c2 f2 id (b + 1) w2 (H.out.m.keep HB2.out) h2 (((K2.out.keep HB2.out).cell 0).trans rfl) (K2.out.keep HB2.out).lt).mono ?_; rintro e w3 ⟨rfl, hb3⟩; have HB3 := Lib.hid (btrans HB2.out hb3); clear hb3)
      | fail)
    go_ret
    exact ⟨rfl, hbb ▸ HB.out.trans (HB3.out.mono (by rw [HZ.out]; omega))⟩
  · have E1 := Lib.hid e1
    clear e1
    go_enter Try.func131, Try.ntmps131
    go_upto_region 1 with fail
    generalize ((w.alloc (.cells #[.int .i64 cap, .slice A1 n1 c1, .slice A2 n2 c2] 34)).alloc (.cells #[.int .i64 id] 2)) = w1 at *
    obtain ⟨b, hbb⟩ : ∃ b, w.heap.size = b := ⟨_, rfl⟩
    rw [hbb] at K1 K2 HZ ⊢
    have x1 := (K1.out.cell 1).trans rfl
    go_wp2_with (first
      | (go_at_call 137; refine (c_HasUpG A1 n1 c1 f1 id (b + 1) w1 H.out.g h1 ((K2.out.cell 0).trans rfl) K2.out.lt).mono ?_; rintro e w2 ⟨rfl, hb2⟩; rw [E1.out]; have HB2 := Lib.hid hb2; clear hb2)
      | fail)
    go_ret
    exact ⟨rfl, hbb ▸ HB.out.trans (HB2.out.mono (by rw [HZ.out]; omega))⟩
end Go.Proofs.Ytipkbapnhgdpeaa.C
