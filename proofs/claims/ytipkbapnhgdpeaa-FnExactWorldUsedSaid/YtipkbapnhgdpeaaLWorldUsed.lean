/- The law FnExactWorldUsed, walked. No condition. -/
import Derived.Test.YtipkbapnhgdpeaaWorU
import Derived.Test.YtipkbapnhgdpeaaTabK
import Derived.Test.YtipkbapnhgdpeaaOFnExactWorldUsed
namespace Go.Proofs.Ytipkbapnhgdpeaa.C
open Go.RowKit Go.Proofs.Ytipkbapnhgdpeaa.Rd
set_option maxRecDepth 100000
set_option linter.unusedVariables false
set_option linter.unusedSimpArgs false
attribute [local go_sem ↓] Go.wp_at_zero Go.wp_at_succ
set_option maxHeartbeats 8000000 in
theorem law_ExactWorldUsed (len born clock cap : Int) (A1 A2 A3 A4 : Option Addr) (n1 c1 n2 c2 n3 c3 n4 c4 : Nat) (f1 f2 f3 f4 : Nat → Nat → Int) (w : World) (h1 : TabA 4 w A1 n1 f1) (h2 : TabA 4 w A2 n2 f2) (h3 : TabA 3 w A3 n3 f3) (h4 : TabA 10 w A4 n4 f4) (m1 : n1 ≤ 9223372036854775807) (m2 : n2 ≤ 9223372036854775807) (m3 : n3 ≤ 9223372036854775807) (m4 : n4 ≤ 9223372036854775807) :
    Calls Try.prog 6 #[.agg #[.int .i64 len, .int .i64 born, .int .i64 clock, .int .i64 cap, .slice A1 n1 c1, .slice A2 n2 c2, .slice A3 n3 c3, .slice A4 n4 c4]] w fun e w' => e = .returned (.bool true) ∧ Below w.heap.size w w' := by
  have hb := (Below.refl _ w).alloc (Nat.le_refl _) (.cells #[.int .i64 len, .int .i64 born, .int .i64 clock, .int .i64 cap, .slice A1 n1 c1, .slice A2 n2 c2, .slice A3 n3 c3, .slice A4 n4 c4] 44)
  have BK := Lib.hid (Blk.new (w := w) (B := 0) (Nat.zero_le _) #[.int .i64 len, .int .i64 born, .int .i64 clock, .int .i64 cap, .slice A1 n1 c1, .slice A2 n2 c2, .slice A3 n3 c3, .slice A4 n4 c4] 44)
  have H1 := Lib.hid (h1.keep hb)
  have H2 := Lib.hid (h2.keep hb)
  have H3 := Lib.hid (h3.keep hb)
  have H4 := Lib.hid (h4.keep hb)
  have HB := Lib.hid hb
  have hz : w.heap.size ≤ (w.alloc (.cells #[.int .i64 len, .int .i64 born, .int .i64 clock, .int .i64 cap, .slice A1 n1 c1, .slice A2 n2 c2, .slice A3 n3 c3, .slice A4 n4 c4] 44)).heap.size := hb.size
  have HZ := Lib.hid hz
  clear h1 h2 h3 h4 hb hz
  go_enter Try.func6, Try.ntmps6
  go_upto_region 1 with fail
  generalize w.alloc (.cells #[.int .i64 len, .int .i64 born, .int .i64 clock, .int .i64 cap, .slice A1 n1 c1, .slice A2 n2 c2, .slice A3 n3 c3, .slice A4 n4 c4] 44) = w1 at *
  obtain ⟨b, hbb⟩ : ∃ b, w.heap.size = b := ⟨_, rfl⟩
  rw [hbb] at BK ⊢
  have T1 : Hid (∀ w', Below w1.heap.size w1 w' → w'.cell? ⟨b, 0, none⟩ = some (.int .i64 len) ∧ w'.cell? ⟨b, 1, none⟩ = some (.int .i64 born) ∧ w'.cell? ⟨b, 2, none⟩ = some (.int .i64 clock) ∧ w'.cell? ⟨b, 3, none⟩ = some (.int .i64 cap) ∧ w'.cell? ⟨b, 4, none⟩ = some (.slice A1 n1 c1) ∧ w'.cell? ⟨b, 5, none⟩ = some (.slice A2 n2 c2) ∧ w'.cell? ⟨b, 6, none⟩ = some (.slice A3 n3 c3) ∧ w'.cell? ⟨b, 7, none⟩ = some (.slice A4 n4 c4)) := Lib.hid fun w' hb => ⟨((BK.out.keep hb).cell 0).trans rfl, ((BK.out.keep hb).cell 1).trans rfl, ((BK.out.keep hb).cell 2).trans rfl, ((BK.out.keep hb).cell 3).trans rfl, ((BK.out.keep hb).cell 4).trans rfl, ((BK.out.keep hb).cell 5).trans rfl, ((BK.out.keep hb).cell 6).trans rfl, ((BK.out.keep hb).cell 7).trans rfl⟩
  obtain ⟨z0, z1, z2, z3, z4, z5, z6, z7⟩ := T1.out w1 (Below.refl _ _)
  by_cases hs : szW 1048576 n1 n2 n3 n4 < 0
  case pos =>
    have u1 : decide (szW 1048576 n1 n2 n3 n4 < 0) = true := decide_eq_true hs
    clear hs
    go_wp2_with (first | (go_at_call 19; refine (c_szWorld _ _ _ _ _ _ _ _ _ _ _ _ _ _ _ _ _ _ (by omega) (by omega) m1 m2 m3 m4).mono ?_; rintro e w2 ⟨rfl, hb2⟩; have HB2 := Lib.hid (HB.out.trans (hb2.mono HZ.out)); clear hb2) | fail)
    go_ret
    exact ⟨rfl, HB2.out⟩
  have u1 : decide (szW 1048576 n1 n2 n3 n4 < 0) = false := decide_eq_false hs
  have hsum : n1 ≤ 1048576 ∧ n2 ≤ 1048576 ∧ n3 ≤ 1048576 ∧ n4 ≤ 1048576 := by
    unfold szW at hs
    by_cases hq : (1048576 : Int) - n1 - n2 - n3 - n4 < 0
    · rw [if_pos hq] at hs; omega
    · omega
  obtain ⟨l1, l2, l3, l4⟩ := hsum
  clear hs
  have HTS := Lib.hid fun (w' : World) (hb : Below w1.heap.size w1 w') => c_toWorld len born clock cap A1 A2 A3 A4 n1 c1 n2 c2 n3 c3 n4 c4 f1 f2 f3 f4 w' (H1.out.keep hb) (H2.out.keep hb) (H3.out.keep hb) (H4.out.keep hb) (by omega) (by omega) (by omega) (by omega)
  obtain ⟨rr, hrr⟩ : ∃ rr, usedV len born clock cap n1 f1 n2 f2 n3 f3 n4 f4 = rr := ⟨_, rfl⟩
  have HRR := Lib.hid hrr
  clear hrr
  have bq : (rr != rr) = false := by simp
  go_upto_region 10 with (first
    | (go_at_call 19; refine (c_szWorld _ _ _ _ _ _ _ _ _ _ _ _ _ _ _ _ _ _ (by omega) (by omega) m1 m2 m3 m4).mono ?_; rintro e w2 ⟨rfl, hb2⟩; have HB2 := Lib.hid hb2; obtain ⟨y0, y1, y2, y3, y4, y5, y6, y7⟩ := T1.out w2 HB2.out; clear hb2)
    | (go_at_call 21; (with_reducible refine (HTS.out _ HB4.out).mono ?_); rintro e w5 ⟨E1, e1, E2, e2, E3, e3, E4, e4, rfl, he1, he2, he3, he4, hS2, hb5⟩; have HB5 := Lib.hid (btrans HB4.out hb5); have S2 := Lib.hid hS2; clear hb5 hS2)
    | (go_at_call 21; (with_reducible refine (HTS.out _ HB2.out).mono ?_); rintro e w3 ⟨B1, d1, B2, d2, B3, d3, B4, d4, rfl, hd1, hd2, hd3, hd4, hS1, hb3⟩; have HB3 := Lib.hid (btrans HB2.out hb3); have S1 := Lib.hid hS1; clear hb3 hS1)
    | (go_at_call 24; refine (s_WorldUsed _ _ _ _ _ _ _ _ _ _ _ _ _ _ _ _ _ _ _ _ _ S1.out hd1 (by omega) (by omega)).mono ?_; rintro e w4 ⟨rfl, hb4⟩; rw [HRR.out]; have HB4 := Lib.hid (btrans HB3.out hb4); obtain ⟨x0, x1, x2, x3, x4, x5, x6, x7⟩ := T1.out w4 HB4.out; clear hb4)
    | (go_at_call 25; have hal5 := (Below.refl w5.heap.size w5).alloc (Nat.le_refl _) (.cells #[.int .i64 len, .int .i64 born, .int .i64 clock, .int .i64 cap, .slice E1 n1 e1, .slice E2 n2 e2, .slice E3 n3 e3, .slice E4 n4 e4] 49); have Q5 := Lib.hid (Blk.new (w := w5) (B := 0) (Nat.zero_le _) #[.int .i64 len, .int .i64 born, .int .i64 clock, .int .i64 cap, .slice E1 n1 e1, .slice E2 n2 e2, .slice E3 n3 e3, .slice E4 n4 e4] 49); have S3 := Lib.hid (S2.out.keep hal5); have HB6 := Lib.hid (btrans HB5.out hal5); refine (c_WorldUsed _ _ _ _ _ _ _ _ _ _ _ _ _ _ _ _ _ _ _ _ _ S3.out he1 (by omega) (by omega)).mono ?_; rintro e w7 ⟨rfl, hb7⟩; rw [HRR.out]; have HB7 := Lib.hid (btrans HB6.out hb7); have Q7 := Lib.hid (Q5.out.keep hb7); have S7 := Lib.hid (S3.out.keep hb7); clear hb7 hal5)
    | fail)
  clear x0 x1 x2 x3 x4 x5 x6 x7 y0 y1 y2 y3 y4 y5 y6 y7 z0 z1 z2 z3 z4 z5 z6 z7
  generalize w5.heap.size = g5 at *
  obtain ⟨z0, z1, z2, z3, z4, z5, z6, z7⟩ := T1.out w7 HB7.out
  have q0 := (Q7.out.cell 0).trans rfl
  have q1 := (Q7.out.cell 1).trans rfl
  have q2 := (Q7.out.cell 2).trans rfl
  have q3 := (Q7.out.cell 3).trans rfl
  have q4 := (Q7.out.cell 4).trans rfl
  have q5 := (Q7.out.cell 5).trans rfl
  have q6 := (Q7.out.cell 6).trans rfl
  have q7 := (Q7.out.cell 7).trans rfl
  go_region_law (first
    | (go_simp; go_at_call 21; (with_reducible refine (HTS.out _ HB7.out.drew).mono ?_); rintro e w8 ⟨B1', d1', B2', d2', B3', d3', B4', d4', rfl, -, -, -, -, hS8, hb8⟩; have HB8 := Lib.hid (btrans HB7.out.drew hb8); have S8 := Lib.hid hS8; have S9 := Lib.hid (S7.out.keep (Below.trans (Below.refl _ _).drew hb8)); have Q8 := Q7.out.keep (Below.trans (Below.refl _ _).drew hb8); have r0 := (Q8.cell 0).trans rfl; have r1 := (Q8.cell 1).trans rfl; have r2 := (Q8.cell 2).trans rfl; have r3 := (Q8.cell 3).trans rfl; have r4 := (Q8.cell 4).trans rfl; have r5 := (Q8.cell 5).trans rfl; have r6 := (Q8.cell 6).trans rfl; have r7 := (Q8.cell 7).trans rfl; clear hb8 hS8 Q8)
    | (go_simp; go_at_call 23; refine (c_eqWorld _ _ _ _ _ _ _ _ _ _ _ _ _ _ _ _ _ _ _ _ _ _ _ _ _ _ _ _ _ S9.out S8.out (by omega) (by omega) (by omega) (by omega)).mono ?_; rintro e w9 ⟨rfl, hb9⟩; have HB9 := Lib.hid (btrans HB8.out hb9); clear hb9)
    | fail)
  all_goals (go_wp2_with fail; go_ret; exact ⟨rfl, HB.out.trans (HB9.out.mono HZ.out)⟩)
theorem l_FnExactWorldUsed : OFnExactWorldUsed.Walks := by
  rintro y0 A4 c4 A5 c5 A6 c6 A7 c7 w - - h1 - h2 - h3 - h4
  exact law_ExactWorldUsed _ _ _ _ _ _ _ _ _ _ _ _ _ _ _ _ _ _ _ _ w (tabA4 h1) (tabA4 h2) (tabA3 h3) (tabA10 h4) h1.2.1 h2.2.1 h3.2.1 h4.2.1
end Go.Proofs.Ytipkbapnhgdpeaa.C
