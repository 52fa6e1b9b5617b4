/- WorldUsed of both. No condition. -/
import Derived.Test.YtipkbapnhgdpeaaWorR
namespace Go.Proofs.Ytipkbapnhgdpeaa.C
open Go.RowKit
set_option maxRecDepth 100000
set_option linter.unusedVariables false
set_option linter.unusedSimpArgs false
attribute [local go_sem ↓] Go.wp_at_zero Go.wp_at_succ
/-- What the first n clients use. -/
def usW (now : Int) (f : Nat → Nat → Int) : Nat → Int
  | 0 => 0
  | n + 1 => usW now f n + if f n 5 > now then f n 4 else 0
theorem wld_ok {len born clock cap : Int} {n1 n2 n3 n4 : Nat} {f1 f2 f3 f4 : Nat → Nat → Int} (h : wldB len born clock cap n1 f1 n2 f2 n3 f3 n4 f4 = true) : n4 ≤ 20 ∧ ∀ i, i < n4 → clB (f4 i 0) (f4 i 1) (f4 i 2) (f4 i 3) (f4 i 4) (f4 i 5) (f4 i 6) (f4 i 7) (f4 i 8) (f4 i 9) = true := by
  unfold wldB at h
  rw [Bool.and_eq_true, Bool.and_eq_true] at h
  refine ⟨of_decide_eq_true h.1, fun i hi => ?_⟩
  have := List.all_eq_true.1 h.2.2 i (List.mem_range.2 hi)
  unfold okC at this
  rw [Bool.and_eq_true] at this
  exact this.1
theorem clB_four {a0 a1 a2 a3 a4 a5 a6 a7 a8 a9 : Int} (h : clB a0 a1 a2 a3 a4 a5 a6 a7 a8 a9 = true) : 0 ≤ a4 ∧ a4 ≤ 1125899906842624 := by
  unfold clB at h
  simp only [Bool.and_eq_true] at h
  exact bIn_true.1 h.2.2.2.2.1
theorem usW_bound {now : Int} {f : Nat → Nat → Int} {n : Nat} (h : ∀ i, i < n → 0 ≤ f i 4 ∧ f i 4 ≤ 1125899906842624) : 0 ≤ usW now f n ∧ usW now f n ≤ (n : Int) * 1125899906842624 := by
  induction n with
  | zero => exact ⟨Int.le_refl _, by simp [usW]⟩
  | succ n ih =>
    have hi := ih fun j hj => h j (by omega)
    have h1 := h n (by omega)
    unfold usW
    have e : ((n + 1 : Nat) : Int) * 1125899906842624 = (n : Int) * 1125899906842624 + 1125899906842624 := by
      rw [Int.natCast_add, Int.add_mul]; rfl
    rw [e]
    split <;> omega
theorem usW_small {len born clock cap now : Int} {n1 n2 n3 n4 i : Nat} {f1 f2 f3 f4 : Nat → Nat → Int} (h : wldB len born clock cap n1 f1 n2 f2 n3 f3 n4 f4 = true) (hi : i ≤ n4) : 0 ≤ usW now f4 i ∧ usW now f4 i ≤ 22517998136852480 := by
  have ho := wld_ok h
  have hb := usW_bound (now := now) (f := f4) (n := i) fun j hj => clB_four (ho.2 j (by omega))
  have := ho.1
  omega
def usedV (len born clock cap : Int) (n1 : Nat) (f1 : Nat → Nat → Int) (n2 : Nat) (f2 : Nat → Nat → Int) (n3 : Nat) (f3 : Nat → Nat → Int) (n4 : Nat) (f4 : Nat → Nat → Int) : Int :=
  if wldB len born clock cap n1 f1 n2 f2 n3 f3 n4 f4 then usW clock f4 n4 else 0
theorem s_ClientUses (a0 a1 a2 a3 a4 a5 a6 a7 a8 a9 now u : Int) (w : World) (hu : (if a5 > now then a4 else 0) = u) (h : clB a0 a1 a2 a3 a4 a5 a6 a7 a8 a9 = true) :
    Calls Try.prog 65 #[.agg #[.int .i64 a0, .int .i64 a1, .int .i64 a2, .int .i64 a3, .int .i64 a4, .int .i64 a5, .int .i64 a6, .int .i64 a7, .int .i64 a8, .int .i64 a9], .int .i64 now] w fun e w' => e = .returned (.int .i64 u) ∧ Below w.heap.size w w' := by
  have h1 := (Below.refl _ w).alloc (Nat.le_refl _) (.cells #[.int .i64 a0, .int .i64 a1, .int .i64 a2, .int .i64 a3, .int .i64 a4, .int .i64 a5, .int .i64 a6, .int .i64 a7, .int .i64 a8, .int .i64 a9] 101)
  have BK := Lib.hid (Blk.new (w := w) (B := 0) (Nat.zero_le _) #[.int .i64 a0, .int .i64 a1, .int .i64 a2, .int .i64 a3, .int .i64 a4, .int .i64 a5, .int .i64 a6, .int .i64 a7, .int .i64 a8, .int .i64 a9] 101)
  have HB := Lib.hid h1
  have hz := h1.size
  have HZ := Lib.hid hz
  have HC := Lib.hid h
  clear h1 hz h
  by_cases h : a5 > now
  · have b1 : decide (a5 ≤ now) = false := decide_eq_false (by omega)
    rw [if_pos h] at hu; subst hu
    clear h
    go_enter Try.func65, Try.ntmps65
    go_upto_region 1 with fail
    generalize w.alloc (.cells #[.int .i64 a0, .int .i64 a1, .int .i64 a2, .int .i64 a3, .int .i64 a4, .int .i64 a5, .int .i64 a6, .int .i64 a7, .int .i64 a8, .int .i64 a9] 101) = w1 at *
    have z0 := (BK.out.cell 0).trans rfl
    have z1 := (BK.out.cell 1).trans rfl
    have z2 := (BK.out.cell 2).trans rfl
    have z3 := (BK.out.cell 3).trans rfl
    have z4 := (BK.out.cell 4).trans rfl
    have z5 := (BK.out.cell 5).trans rfl
    have z6 := (BK.out.cell 6).trans rfl
    have z7 := (BK.out.cell 7).trans rfl
    have z8 := (BK.out.cell 8).trans rfl
    have z9 := (BK.out.cell 9).trans rfl
    go_wp2_with (first | (go_at_call 61; refine (s_CR_v HC.out _).mono ?_; rintro e w2 ⟨rfl, hb2⟩; have x4 := ((BK.out.keep hb2).cell 4).trans rfl; have x5 := ((BK.out.keep hb2).cell 5).trans rfl; have HB2 := Lib.hid hb2; clear hb2) | fail)
    go_ret
    exact ⟨rfl, HB.out.trans (HB2.out.mono HZ.out)⟩
  · have b1 : decide (a5 ≤ now) = true := decide_eq_true (by omega)
    rw [if_neg h] at hu; subst hu
    clear h
    go_enter Try.func65, Try.ntmps65
    go_upto_region 1 with fail
    generalize w.alloc (.cells #[.int .i64 a0, .int .i64 a1, .int .i64 a2, .int .i64 a3, .int .i64 a4, .int .i64 a5, .int .i64 a6, .int .i64 a7, .int .i64 a8, .int .i64 a9] 101) = w1 at *
    have z0 := (BK.out.cell 0).trans rfl
    have z1 := (BK.out.cell 1).trans rfl
    have z2 := (BK.out.cell 2).trans rfl
    have z3 := (BK.out.cell 3).trans rfl
    have z4 := (BK.out.cell 4).trans rfl
    have z5 := (BK.out.cell 5).trans rfl
    have z6 := (BK.out.cell 6).trans rfl
    have z7 := (BK.out.cell 7).trans rfl
    have z8 := (BK.out.cell 8).trans rfl
    have z9 := (BK.out.cell 9).trans rfl
    go_wp2_with (first | (go_at_call 61; refine (s_CR_v HC.out _).mono ?_; rintro e w2 ⟨rfl, hb2⟩; have x4 := ((BK.out.keep hb2).cell 4).trans rfl; have x5 := ((BK.out.keep hb2).cell 5).trans rfl; have HB2 := Lib.hid hb2; clear hb2) | fail)
    go_ret
    exact ⟨rfl, HB.out.trans (HB2.out.mono HZ.out)⟩
theorem c_uses (a0 a1 a2 a3 a4 a5 a6 a7 a8 a9 now u : Int) (w : World) (hu : (if a5 > now then a4 else 0) = u) :
    Calls Try.prog 109 #[.agg #[.int .i64 a0, .int .i64 a1, .int .i64 a2, .int .i64 a3, .int .i64 a4, .int .i64 a5, .int .i64 a6, .int .i64 a7, .int .i64 a8, .int .i64 a9], .int .i64 now] w fun e w' => e = .returned (.int .i64 u) ∧ Below w.heap.size w w' := by
  by_cases h : a5 > now
  · have b1 : decide (a5 > now) = true := decide_eq_true h
    rw [if_pos h] at hu; subst hu
    clear h
    go_enter Try.func109, Try.ntmps109
    go_wp2
    go_ret
    exact ⟨rfl, (Below.refl _ _).alloc (Nat.le_refl _) _⟩
  · have b1 : decide (a5 > now) = false := decide_eq_false h
    rw [if_neg h] at hu; subst hu
    clear h
    go_enter Try.func109, Try.ntmps109
    go_wp2
    go_ret
    exact ⟨rfl, (Below.refl _ _).alloc (Nat.le_refl _) _⟩
set_option maxHeartbeats 8000000 in
theorem c_used (len born clock cap : Int) (A1 A2 A3 A4 : Option Addr) (n1 c1 n2 c2 n3 c3 n4 c4 : Nat) (f1 f2 f3 f4 : Nat → Nat → Int) (w : World) (h : WldAt w A1 n1 f1 A2 n2 f2 A3 n3 f3 A4 n4 f4) (hc1 : n1 ≤ c1) (hn3 : n3 ≤ 2000000) (hn4 : n4 ≤ 2000000) (hr : wldB len born clock cap n1 f1 n2 f2 n3 f3 n4 f4 = true) :
    Calls Try.prog 66 #[.agg #[.int .i64 len, .int .i64 born, .int .i64 clock, .int .i64 cap, .slice A1 n1 c1, .slice A2 n2 c2, .slice A3 n3 c3, .slice A4 n4 c4]] w fun e w' => e = .returned (.int .i64 (usW clock f4 n4)) ∧ Below w.heap.size w w' := by
  have R := Lib.hid hr
  clear hr
  have hb := (Below.refl _ w).alloc (Nat.le_refl _) (.cells #[.int .i64 len, .int .i64 born, .int .i64 clock, .int .i64 cap, .slice A1 n1 c1, .slice A2 n2 c2, .slice A3 n3 c3, .slice A4 n4 c4] 49)
  have BK := Lib.hid (Blk.new (w := w) (B := 0) (Nat.zero_le _) #[.int .i64 len, .int .i64 born, .int .i64 clock, .int .i64 cap, .slice A1 n1 c1, .slice A2 n2 c2, .slice A3 n3 c3, .slice A4 n4 c4] 49)
  have H := Lib.hid (h.keep hb)
  have HB := Lib.hid hb
  have hz : w.heap.size ≤ (w.alloc (.cells #[.int .i64 len, .int .i64 born, .int .i64 clock, .int .i64 cap, .slice A1 n1 c1, .slice A2 n2 c2, .slice A3 n3 c3, .slice A4 n4 c4] 49)).heap.size := hb.size
  have HZ := Lib.hid hz
  clear h hb hz
  go_enter Try.func66, Try.ntmps66
  go_upto_region 1 with fail
  generalize w.alloc (.cells #[.int .i64 len, .int .i64 born, .int .i64 clock, .int .i64 cap, .slice A1 n1 c1, .slice A2 n2 c2, .slice A3 n3 c3, .slice A4 n4 c4] 49) = w1 at *
  obtain ⟨b, hbb⟩ : ∃ b, w.heap.size = b := ⟨_, rfl⟩
  rw [hbb] at BK ⊢
  have T1 : Hid (∀ w', Below w1.heap.size w1 w' → w'.cell? ⟨b, 0, none⟩ = some (.int .i64 len) ∧ w'.cell? ⟨b, 1, none⟩ = some (.int .i64 born) ∧ w'.cell? ⟨b, 2, none⟩ = some (.int .i64 clock) ∧ w'.cell? ⟨b, 3, none⟩ = some (.int .i64 cap) ∧ w'.cell? ⟨b, 4, none⟩ = some (.slice A1 n1 c1) ∧ w'.cell? ⟨b, 5, none⟩ = some (.slice A2 n2 c2) ∧ w'.cell? ⟨b, 6, none⟩ = some (.slice A3 n3 c3) ∧ w'.cell? ⟨b, 7, none⟩ = some (.slice A4 n4 c4)) := Lib.hid fun w' hb => ⟨((BK.out.keep hb).cell 0).trans rfl, ((BK.out.keep hb).cell 1).trans rfl, ((BK.out.keep hb).cell 2).trans rfl, ((BK.out.keep hb).cell 3).trans rfl, ((BK.out.keep hb).cell 4).trans rfl, ((BK.out.keep hb).cell 5).trans rfl, ((BK.out.keep hb).cell 6).trans rfl, ((BK.out.keep hb).cell 7).trans rfl⟩
  obtain ⟨z0, z1, z2, z3, z4, z5, z6, z7⟩ := T1.out w1 (Below.refl _ _)
  go_wp2_with fail
  clear z0 z1 z2 z3 z4 z5 z6 z7
  go_loopw [3, 9] (fun v3 v9 wr => ∃ i : Nat, i ≤ n4 ∧ v3 = .int .i64 (usW clock f4 i) ∧ v9 = .int .i64 i ∧ Hid (Below w1.heap.size w1 wr)) (fun _ v9 _ => n4 - (intOf v9).toNat)
  case atStart => exact ⟨0, by omega, rfl, rfl, Lib.hid (Below.refl _ _)⟩
  case round =>
    obtain ⟨i, hi, rfl, rfl, KB⟩ := hrel
    by_cases h5 : i < n4
    · have b1 : decide ((i : Int) < (n4 : Int)) = true := decide_eq_true (by omega)
      obtain ⟨g, off, rfl, hg, hx⟩ := (H.out.c.keep KB.out).at (by omega)
      have x0 := hx i 0 h5 (by omega)
      have x1 := hx i 1 h5 (by omega)
      have x2 := hx i 2 h5 (by omega)
      have x3 := hx i 3 h5 (by omega)
      have x4 := hx i 4 h5 (by omega)
      have x5 := hx i 5 h5 (by omega)
      have x6 := hx i 6 h5 (by omega)
      have x7 := hx i 7 h5 (by omega)
      have x8 := hx i 8 h5 (by omega)
      have x9 := hx i 9 h5 (by omega)
      rw [Nat.add_zero] at x0
      have E : Hid (usW clock f4 (i + 1) = usW clock f4 i + if f4 i 5 > clock then f4 i 4 else 0) := Lib.hid rfl
      have HC := Lib.hid ((wld_ok R.out).2 i h5)
      have e1 := usW_small (now := clock) R.out (Nat.le_of_lt h5)
      have e2 := clB_four ((wld_ok R.out).2 i h5)
      generalize f4 i 0 = a0 at *
      generalize f4 i 1 = a1 at *
      generalize f4 i 2 = a2 at *
      generalize f4 i 3 = a3 at *
      generalize f4 i 4 = a4 at *
      generalize f4 i 5 = a5 at *
      generalize f4 i 6 = a6 at *
      generalize f4 i 7 = a7 at *
      generalize f4 i 8 = a8 at *
      generalize f4 i 9 = a9 at *
      obtain ⟨u, hu⟩ : ∃ u : Int, (if a5 > clock then a4 else 0) = u := ⟨_, rfl⟩
      have hub : 0 ≤ u ∧ u ≤ 1125899906842624 := by rw [← hu]; split <;> omega
      have HU := Lib.hid hu
      rw [hu] at E
      generalize usW clock f4 i = s at *
      have wr1 : IntKind.i64.wrap (s + u) = s + u := by rw [IntKind.wrap_i64]; omega
      have EB := Lib.hid (And.intro e1 (And.intro e2 hub))
      clear hx hu e1 e2 hub
      go_upto_region 5 with fail
      have hal := (Below.refl wr.heap.size wr).alloc (Nat.le_refl _) (.cells #[.int .i64 a0, .int .i64 a1, .int .i64 a2, .int .i64 a3, .int .i64 a4, .int .i64 a5, .int .i64 a6, .int .i64 a7, .int .i64 a8, .int .i64 a9] 101)
      have Q4 := Blk.new (w := wr) (B := 0) (Nat.zero_le _) #[.int .i64 a0, .int .i64 a1, .int .i64 a2, .int .i64 a3, .int .i64 a4, .int .i64 a5, .int .i64 a6, .int .i64 a7, .int .i64 a8, .int .i64 a9] 101
      have QW := Lib.hid (btrans KB.out hal)
      have t0 := (Q4.cell 0).trans rfl
      have t1 := (Q4.cell 1).trans rfl
      have t2 := (Q4.cell 2).trans rfl
      have t3 := (Q4.cell 3).trans rfl
      have t4 := (Q4.cell 4).trans rfl
      have t5 := (Q4.cell 5).trans rfl
      have t6 := (Q4.cell 6).trans rfl
      have t7 := (Q4.cell 7).trans rfl
      have t8 := (Q4.cell 8).trans rfl
      have t9 := (Q4.cell 9).trans rfl
      obtain ⟨-, -, z2, -, -, -, -, -⟩ := T1.out _ QW.out
      clear hal Q4 x0 x1 x2 x3 x4 x5 x6 x7 x8 x9
      generalize hb4 : wr.heap.size = b4 at *
      generalize wr.alloc (.cells #[.int .i64 a0, .int .i64 a1, .int .i64 a2, .int .i64 a3, .int .i64 a4, .int .i64 a5, .int .i64 a6, .int .i64 a7, .int .i64 a8, .int .i64 a9] 101) = w2 at *
      clear hb4
      go_wp2_with (first | (go_at_call 109; refine (c_uses _ _ _ _ _ _ _ _ _ _ _ _ _ HU.out).mono ?_; rintro e w3 ⟨rfl, hb3⟩; have KB5 := Lib.hid (btrans QW.out hb3); clear hb3) | fail)
      go_roundw
      case rel => exact ⟨i + 1, by omega, by rw [E.out], by go_num, KB5⟩
      case measure => simp [intOf]; omega
    · obtain rfl : n4 = i := by omega
      have b1 : decide ((n4 : Int) < (n4 : Int)) = false := decide_eq_false (by omega)
      go_wp2_with fail
      go_ret
      exact ⟨rfl, by first | exact HB.out.trans (KB.out.mono HZ.out) | (rw [← hbb]; exact HB.out.trans (KB.out.mono HZ.out))⟩
set_option maxHeartbeats 8000000 in
theorem s_WorldUsed (len born clock cap : Int) (A1 A2 A3 A4 : Option Addr) (n1 c1 n2 c2 n3 c3 n4 c4 : Nat) (f1 f2 f3 f4 : Nat → Nat → Int) (w : World) (h : WldAt w A1 n1 f1 A2 n2 f2 A3 n3 f3 A4 n4 f4) (hc1 : n1 ≤ c1) (hn3 : n3 ≤ 2000000) (hn4 : n4 ≤ 2000000) :
    Calls Try.prog 24 #[.agg #[.int .i64 len, .int .i64 born, .int .i64 clock, .int .i64 cap, .slice A1 n1 c1, .slice A2 n2 c2, .slice A3 n3 c3, .slice A4 n4 c4]] w fun e w' => e = .returned (.int .i64 (usedV len born clock cap n1 f1 n2 f2 n3 f3 n4 f4)) ∧ Below w.heap.size w w' := by
  have hb := (Below.refl _ w).alloc (Nat.le_refl _) (.cells #[.int .i64 len, .int .i64 born, .int .i64 clock, .int .i64 cap, .slice A1 n1 c1, .slice A2 n2 c2, .slice A3 n3 c3, .slice A4 n4 c4] 49)
  have BK := Lib.hid (Blk.new (w := w) (B := 0) (Nat.zero_le _) #[.int .i64 len, .int .i64 born, .int .i64 clock, .int .i64 cap, .slice A1 n1 c1, .slice A2 n2 c2, .slice A3 n3 c3, .slice A4 n4 c4] 49)
  have H := Lib.hid (h.keep hb)
  have HB := Lib.hid hb
  have hz : w.heap.size ≤ (w.alloc (.cells #[.int .i64 len, .int .i64 born, .int .i64 clock, .int .i64 cap, .slice A1 n1 c1, .slice A2 n2 c2, .slice A3 n3 c3, .slice A4 n4 c4] 49)).heap.size := hb.size
  have HZ := Lib.hid hz
  clear h hb hz
  go_enter Try.func24, Try.ntmps24
  go_upto_region 1 with fail
  generalize w.alloc (.cells #[.int .i64 len, .int .i64 born, .int .i64 clock, .int .i64 cap, .slice A1 n1 c1, .slice A2 n2 c2, .slice A3 n3 c3, .slice A4 n4 c4] 49) = w1 at *
  obtain ⟨b, hbb⟩ : ∃ b, w.heap.size = b := ⟨_, rfl⟩
  rw [hbb] at BK ⊢
  have T1 : Hid (∀ w', Below w1.heap.size w1 w' → w'.cell? ⟨b, 0, none⟩ = some (.int .i64 len) ∧ w'.cell? ⟨b, 1, none⟩ = some (.int .i64 born) ∧ w'.cell? ⟨b, 2, none⟩ = some (.int .i64 clock) ∧ w'.cell? ⟨b, 3, none⟩ = some (.int .i64 cap) ∧ w'.cell? ⟨b, 4, none⟩ = some (.slice A1 n1 c1) ∧ w'.cell? ⟨b, 5, none⟩ = some (.slice A2 n2 c2) ∧ w'.cell? ⟨b, 6, none⟩ = some (.slice A3 n3 c3) ∧ w'.cell? ⟨b, 7, none⟩ = some (.slice A4 n4 c4)) := Lib.hid fun w' hb => ⟨((BK.out.keep hb).cell 0).trans rfl, ((BK.out.keep hb).cell 1).trans rfl, ((BK.out.keep hb).cell 2).trans rfl, ((BK.out.keep hb).cell 3).trans rfl, ((BK.out.keep hb).cell 4).trans rfl, ((BK.out.keep hb).cell 5).trans rfl, ((BK.out.keep hb).cell 6).trans rfl, ((BK.out.keep hb).cell 7).trans rfl⟩
  obtain ⟨z0, z1, z2, z3, z4, z5, z6, z7⟩ := T1.out w1 (Below.refl _ _)
  rcases hr : wldB len born clock cap n1 f1 n2 f2 n3 f3 n4 f4 with _ | _
  · have R := Lib.hid hr
    clear hr
    go_wp2_with (first | (go_at_call 20; refine (s_WorldRight _ _ _ _ _ _ _ _ _ _ _ _ _ _ _ _ _ _ _ _ _ H.out hc1 hn3 hn4).mono ?_; rw [R.out]; rintro e w2 ⟨rfl, hb2⟩; have HB2 := Lib.hid hb2; clear hb2) | fail)
    go_ret
    exact ⟨by rw [usedV, R.out]; rfl, by first | exact HB.out.trans (HB2.out.mono HZ.out) | (rw [← hbb]; exact HB.out.trans (HB2.out.mono HZ.out))⟩
  have R := Lib.hid hr
  clear hr
  go_wp2_with (first | (go_at_call 20; refine (s_WorldRight _ _ _ _ _ _ _ _ _ _ _ _ _ _ _ _ _ _ _ _ _ H.out hc1 hn3 hn4).mono ?_; rw [R.out]; rintro e w2 ⟨rfl, hb2⟩; have HB2 := Lib.hid hb2; clear hb2) | fail)
  clear z0 z1 z2 z3 z4 z5 z6 z7
  go_loopw [3, 4] (fun v3 v9 wr => ∃ i : Nat, i ≤ n4 ∧ v3 = .int .i64 (usW clock f4 i) ∧ v9 = .int .i64 i ∧ Hid (Below w1.heap.size w1 wr)) (fun _ v9 _ => n4 - (intOf v9).toNat)
  case atStart => exact ⟨0, by omega, rfl, rfl, HB2⟩
  case round =>
    obtain ⟨i, hi, rfl, rfl, KB⟩ := hrel
    clear HB2
    obtain ⟨-, -, -, -, -, -, -, z7⟩ := T1.out wr KB.out
    by_cases h5 : i < n4
    · have b1 : decide ((i : Int) < (n4 : Int)) = true := decide_eq_true (by omega)
      obtain ⟨g, off, rfl, hg, hx⟩ := (H.out.c.keep KB.out).at (by omega)
      have x0 := hx i 0 h5 (by omega)
      have x1 := hx i 1 h5 (by omega)
      have x2 := hx i 2 h5 (by omega)
      have x3 := hx i 3 h5 (by omega)
      have x4 := hx i 4 h5 (by omega)
      have x5 := hx i 5 h5 (by omega)
      have x6 := hx i 6 h5 (by omega)
      have x7 := hx i 7 h5 (by omega)
      have x8 := hx i 8 h5 (by omega)
      have x9 := hx i 9 h5 (by omega)
      rw [Nat.add_zero] at x0
      have E : Hid (usW clock f4 (i + 1) = usW clock f4 i + if f4 i 5 > clock then f4 i 4 else 0) := Lib.hid rfl
      have HC := Lib.hid ((wld_ok R.out).2 i h5)
      have e1 := usW_small (now := clock) R.out (Nat.le_of_lt h5)
      have e2 := clB_four ((wld_ok R.out).2 i h5)
      generalize f4 i 0 = a0 at *
      generalize f4 i 1 = a1 at *
      generalize f4 i 2 = a2 at *
      generalize f4 i 3 = a3 at *
      generalize f4 i 4 = a4 at *
      generalize f4 i 5 = a5 at *
      generalize f4 i 6 = a6 at *
      generalize f4 i 7 = a7 at *
      generalize f4 i 8 = a8 at *
      generalize f4 i 9 = a9 at *
      obtain ⟨u, hu⟩ : ∃ u : Int, (if a5 > clock then a4 else 0) = u := ⟨_, rfl⟩
      have hub : 0 ≤ u ∧ u ≤ 1125899906842624 := by rw [← hu]; split <;> omega
      have HU := Lib.hid hu
      rw [hu] at E
      generalize usW clock f4 i = s at *
      have wr1 : IntKind.i64.wrap (s + u) = s + u := by rw [IntKind.wrap_i64]; omega
      have EB := Lib.hid (And.intro e1 (And.intro e2 hub))
      clear hx hu e1 e2 hub
      go_upto_region 7 with fail
      have QL := Lib.hid hg
      have QX0 := Lib.hid x0
      have QX1 := Lib.hid x1
      have QX2 := Lib.hid x2
      have QX3 := Lib.hid x3
      have QX4 := Lib.hid x4
      have QX5 := Lib.hid x5
      have QX6 := Lib.hid x6
      have QX7 := Lib.hid x7
      have QX8 := Lib.hid x8
      have QX9 := Lib.hid x9
      clear x0 x1 x2 x3 x4 x5 x6 x7 x8 x9 z7
      have t0 : ∀ p : BehW wr, p.w.cell? ⟨g, off + i * 10, none⟩ = some (.int .i64 a0) := fun p => (p.h.cell (p := ⟨g, off + i * 10, none⟩) QL.out).trans QX0.out
      have t1 : ∀ p : BehW wr, p.w.cell? ⟨g, off + i * 10 + 1, none⟩ = some (.int .i64 a1) := fun p => (p.h.cell (p := ⟨g, off + i * 10 + 1, none⟩) QL.out).trans QX1.out
      have t2 : ∀ p : BehW wr, p.w.cell? ⟨g, off + i * 10 + 2, none⟩ = some (.int .i64 a2) := fun p => (p.h.cell (p := ⟨g, off + i * 10 + 2, none⟩) QL.out).trans QX2.out
      have t3 : ∀ p : BehW wr, p.w.cell? ⟨g, off + i * 10 + 3, none⟩ = some (.int .i64 a3) := fun p => (p.h.cell (p := ⟨g, off + i * 10 + 3, none⟩) QL.out).trans QX3.out
      have t4 : ∀ p : BehW wr, p.w.cell? ⟨g, off + i * 10 + 4, none⟩ = some (.int .i64 a4) := fun p => (p.h.cell (p := ⟨g, off + i * 10 + 4, none⟩) QL.out).trans QX4.out
      have t5 : ∀ p : BehW wr, p.w.cell? ⟨g, off + i * 10 + 5, none⟩ = some (.int .i64 a5) := fun p => (p.h.cell (p := ⟨g, off + i * 10 + 5, none⟩) QL.out).trans QX5.out
      have t6 : ∀ p : BehW wr, p.w.cell? ⟨g, off + i * 10 + 6, none⟩ = some (.int .i64 a6) := fun p => (p.h.cell (p := ⟨g, off + i * 10 + 6, none⟩) QL.out).trans QX6.out
      have t7 : ∀ p : BehW wr, p.w.cell? ⟨g, off + i * 10 + 7, none⟩ = some (.int .i64 a7) := fun p => (p.h.cell (p := ⟨g, off + i * 10 + 7, none⟩) QL.out).trans QX7.out
      have t8 : ∀ p : BehW wr, p.w.cell? ⟨g, off + i * 10 + 8, none⟩ = some (.int .i64 a8) := fun p => (p.h.cell (p := ⟨g, off + i * 10 + 8, none⟩) QL.out).trans QX8.out
      have t9 : ∀ p : BehW wr, p.w.cell? ⟨g, off + i * 10 + 9, none⟩ = some (.int .i64 a9) := fun p => (p.h.cell (p := ⟨g, off + i * 10 + 9, none⟩) QL.out).trans QX9.out
      have t10 : ∀ p : BehW wr, p.w.cell? ⟨b, 2, none⟩ = some (.int .i64 clock) := fun p => (T1.out _ (btrans KB.out p.h)).2.2.1
      have t11 : ∀ p : BehW wr, p.w.cell? ⟨b, 7, none⟩ = some (.slice (some ⟨g, off, none⟩) n4 c4) := fun p => (T1.out _ (btrans KB.out p.h)).2.2.2.2.2.2.2
      have HCU := Lib.hid fun (p : BehW wr) => s_ClientUses a0 a1 a2 a3 a4 a5 a6 a7 a8 a9 clock u p.w HU.out HC.out
      refine wp_region_beh (by kernel_rfl) (by kernel_rfl) ?_
      repeat (go_big_quiet_step (first | (go_at_call 65; exact beh_below (HCU.out _)) | fail))
      refine wpQuiet_nil ?_
      intro _ hw'
      obtain ⟨qb, hw''⟩ := hw'
      subst hw''
      have KB5 := Lib.hid (btrans KB.out qb.h)
      clear HCU t0 t1 t2 t3 t4 t5 t6 t7 t8 t9 t10 t11
      go_wp2_with fail
      go_roundw
      case rel => exact ⟨i + 1, by omega, by rw [E.out], by go_num, KB5⟩
      case measure => simp [intOf]; omega
    · obtain rfl : n4 = i := by omega
      have b1 : decide ((n4 : Int) < (n4 : Int)) = false := decide_eq_false (by omega)
      go_wp2_with fail
      go_ret
      exact ⟨by rw [usedV, R.out]; rfl, by first | exact HB.out.trans (KB.out.mono HZ.out) | (rw [← hbb]; exact HB.out.trans (KB.out.mono HZ.out))⟩
set_option maxHeartbeats 8000000 in
theorem c_WorldUsed (len born clock cap : Int) (A1 A2 A3 A4 : Option Addr) (n1 c1 n2 c2 n3 c3 n4 c4 : Nat) (f1 f2 f3 f4 : Nat → Nat → Int) (w : World) (h : WldAt w A1 n1 f1 A2 n2 f2 A3 n3 f3 A4 n4 f4) (hc1 : n1 ≤ c1) (hn3 : n3 ≤ 2000000) (hn4 : n4 ≤ 2000000) :
    Calls Try.prog 25 #[.agg #[.int .i64 len, .int .i64 born, .int .i64 clock, .int .i64 cap, .slice A1 n1 c1, .slice A2 n2 c2, .slice A3 n3 c3, .slice A4 n4 c4]] w fun e w' => e = .returned (.int .i64 (usedV len born clock cap n1 f1 n2 f2 n3 f3 n4 f4)) ∧ Below w.heap.size w w' := by
  have hb := (Below.refl _ w).alloc (Nat.le_refl _) (.cells #[.int .i64 len, .int .i64 born, .int .i64 clock, .int .i64 cap, .slice A1 n1 c1, .slice A2 n2 c2, .slice A3 n3 c3, .slice A4 n4 c4] 49)
  have BK := Lib.hid (Blk.new (w := w) (B := 0) (Nat.zero_le _) #[.int .i64 len, .int .i64 born, .int .i64 clock, .int .i64 cap, .slice A1 n1 c1, .slice A2 n2 c2, .slice A3 n3 c3, .slice A4 n4 c4] 49)
  have H := Lib.hid (h.keep hb)
  have HB := Lib.hid hb
  have hz : w.heap.size ≤ (w.alloc (.cells #[.int .i64 len, .int .i64 born, .int .i64 clock, .int .i64 cap, .slice A1 n1 c1, .slice A2 n2 c2, .slice A3 n3 c3, .slice A4 n4 c4] 49)).heap.size := hb.size
  have HZ := Lib.hid hz
  clear h hb hz
  go_enter Try.func25, Try.ntmps25
  go_upto_region 1 with fail
  generalize w.alloc (.cells #[.int .i64 len, .int .i64 born, .int .i64 clock, .int .i64 cap, .slice A1 n1 c1, .slice A2 n2 c2, .slice A3 n3 c3, .slice A4 n4 c4] 49) = w1 at *
  obtain ⟨b, hbb⟩ : ∃ b, w.heap.size = b := ⟨_, rfl⟩
  rw [hbb] at BK ⊢
  have T1 : Hid (∀ w', Below w1.heap.size w1 w' → w'.cell? ⟨b, 0, none⟩ = some (.int .i64 len) ∧ w'.cell? ⟨b, 1, none⟩ = some (.int .i64 born) ∧ w'.cell? ⟨b, 2, none⟩ = some (.int .i64 clock) ∧ w'.cell? ⟨b, 3, none⟩ = some (.int .i64 cap) ∧ w'.cell? ⟨b, 4, none⟩ = some (.slice A1 n1 c1) ∧ w'.cell? ⟨b, 5, none⟩ = some (.slice A2 n2 c2) ∧ w'.cell? ⟨b, 6, none⟩ = some (.slice A3 n3 c3) ∧ w'.cell? ⟨b, 7, none⟩ = some (.slice A4 n4 c4)) := Lib.hid fun w' hb => ⟨((BK.out.keep hb).cell 0).trans rfl, ((BK.out.keep hb).cell 1).trans rfl, ((BK.out.keep hb).cell 2).trans rfl, ((BK.out.keep hb).cell 3).trans rfl, ((BK.out.keep hb).cell 4).trans rfl, ((BK.out.keep hb).cell 5).trans rfl, ((BK.out.keep hb).cell 6).trans rfl, ((BK.out.keep hb).cell 7).trans rfl⟩
  obtain ⟨z0, z1, z2, z3, z4, z5, z6, z7⟩ := T1.out w1 (Below.refl _ _)
  rcases hr : wldB len born clock cap n1 f1 n2 f2 n3 f3 n4 f4 with _ | _
  · have R := Lib.hid hr
    clear hr
    go_wp2_with (first | (go_at_call 22; refine (c_WorldRight _ _ _ _ _ _ _ _ _ _ _ _ _ _ _ _ _ _ _ _ _ H.out hc1 hn3 hn4).mono ?_; rw [R.out]; rintro e w2 ⟨rfl, hb2⟩; have HB2 := Lib.hid hb2; clear hb2; obtain ⟨y0, y1, y2, y3, y4, y5, y6, y7⟩ := T1.out w2 HB2.out) | fail)
    go_ret
    exact ⟨by rw [usedV, R.out]; rfl, by first | exact HB.out.trans (HB2.out.mono HZ.out) | (rw [← hbb]; exact HB.out.trans (HB2.out.mono HZ.out))⟩
  have R := Lib.hid hr
  clear hr
  go_wp2_with (first | (go_at_call 22; refine (c_WorldRight _ _ _ _ _ _ _ _ _ _ _ _ _ _ _ _ _ _ _ _ _ H.out hc1 hn3 hn4).mono ?_; rw [R.out]; rintro e w2 ⟨rfl, hb2⟩; have HB2 := Lib.hid hb2; clear hb2; obtain ⟨y0, y1, y2, y3, y4, y5, y6, y7⟩ := T1.out w2 HB2.out) | (go_at_call 66; refine (c_used _ _ _ _ _ _ _ _ _ _ _ _ _ _ _ _ _ _ _ _ _ (H.out.keep HB2.out) hc1 hn3 hn4 R.out).mono ?_; rintro e w3 ⟨rfl, hb3⟩; have HB3 := Lib.hid (btrans HB2.out hb3); clear hb3) | fail)
  go_ret
  exact ⟨by rw [usedV, R.out]; rfl, by first | exact HB.out.trans (HB3.out.mono HZ.out) | (rw [← hbb]; exact HB.out.trans (HB3.out.mono HZ.out))⟩
end Go.Proofs.Ytipkbapnhgdpeaa.C
