/- OpRight of both: is an op right? No condition. -/
import Derived.Test.YtlnmpaigojmahaaEdit
namespace Go.Proofs.Ytlnmpaigojmahaa.C
open Go.RowKit
set_option maxRecDepth 100000
set_option linter.unusedVariables false
set_option linter.unusedSimpArgs false
/-- The kind of an op's edit. -/
def edK (k : Int) : Int := if k = 3 then 8 else if k = 6 then 6 else if k = 7 then 7 else 0
/-- Is an edit right, and its group below its id? -/
def isEdB (k id g a b : Int) : Bool := edB k id g a b && (!(k == 6) || decide (g < id))
/-- Is an op right? -/
def opB (k id g a b : Int) : Bool :=
  if k = 1 then bIn id 1 1000000 && ((g == 0 || bIn g 1 1000000) && (bIn a 0 1125899906842624 && bIn b 1 1073741824))
  else if k = 2 then bIn id 1 1000000 && (g == 0 && (a == 0 && b == 0))
  else if k = 4 ∨ k = 5 then id == 0 && (g == 0 && (a == 0 && b == 0))
  else isEdB (edK k) id g a b
theorem edB_none (k id g a b : Int) (h : k = 0) : edB k id g a b = false := by subst h; simp [edB]
theorem c_edit (k id g a b : Int) (w : World) :
    Calls Try.prog 63 #[.agg #[.int .i64 k, .int .i64 id, .int .i64 g, .int .i64 a, .int .i64 b]] w fun e w' => e = .returned (.agg #[.int .i64 (edK k), .int .i64 id, .int .i64 g, .int .i64 a, .int .i64 b]) ∧ Below w.heap.size w w' := by
  have hu := Try.underlying77
  have hu2 := Try.underlying48
  by_cases k3 : k = 3
  · subst k3
    go_enter Try.func63, Try.ntmps63
    go_wp2
    exact bodyPost_ret (v := .agg #[.int .i64 8, .int .i64 id, .int .i64 g, .int .i64 a, .int .i64 b]) (by simp [results, Try.results63, go_sem]) rfl ⟨rfl, by (repeat (first | exact Below.refl _ _ | apply Below.drew | refine Below.alloc ?_ (by first | (simp; done) | (simp; omega)) _ | refine Below.setCell ?_ (by first | (simp; done) | (simp; omega)) _))⟩
  · by_cases k6 : k = 6
    · subst k6
      clear k3
      go_enter Try.func63, Try.ntmps63
      go_wp2
      exact bodyPost_ret (v := .agg #[.int .i64 6, .int .i64 id, .int .i64 g, .int .i64 a, .int .i64 b]) (by simp [results, Try.results63, go_sem]) rfl ⟨rfl, by (repeat (first | exact Below.refl _ _ | apply Below.drew | refine Below.alloc ?_ (by first | (simp; done) | (simp; omega)) _ | refine Below.setCell ?_ (by first | (simp; done) | (simp; omega)) _))⟩
    · by_cases k7 : k = 7
      · subst k7
        clear k3 k6
        go_enter Try.func63, Try.ntmps63
        go_wp2
        exact bodyPost_ret (v := .agg #[.int .i64 7, .int .i64 id, .int .i64 g, .int .i64 a, .int .i64 b]) (by simp [results, Try.results63, go_sem]) rfl ⟨rfl, by (repeat (first | exact Below.refl _ _ | apply Below.drew | refine Below.alloc ?_ (by first | (simp; done) | (simp; omega)) _ | refine Below.setCell ?_ (by first | (simp; done) | (simp; omega)) _))⟩
      · have b3 : (k == 3) = false := beq_eq_false_iff_ne.mpr k3
        have b6 : (k == 6) = false := beq_eq_false_iff_ne.mpr k6
        have b7 : (k == 7) = false := beq_eq_false_iff_ne.mpr k7
        have E := Lib.hid (show edK k = 0 from by simp [edK, k3, k6, k7])
        clear k3 k6 k7
        go_enter Try.func63, Try.ntmps63
        go_wp2
        exact bodyPost_ret (v := .agg #[.int .i64 0, .int .i64 id, .int .i64 g, .int .i64 a, .int .i64 b]) (by simp [results, Try.results63, go_sem]) rfl ⟨by rw [E.out], by (repeat (first | exact Below.refl _ _ | apply Below.drew | refine Below.alloc ?_ (by first | (simp; done) | (simp; omega)) _ | refine Below.setCell ?_ (by first | (simp; done) | (simp; omega)) _))⟩
theorem s_edit (k id g a b : Int) (w : World) :
    Calls Try.prog 79 #[.agg #[.int .i64 k, .int .i64 id, .int .i64 g, .int .i64 a, .int .i64 b]] w fun e w' => e = .returned (.agg #[.int .i64 (edK k), .int .i64 id, .int .i64 g, .int .i64 a, .int .i64 b]) ∧ Below w.heap.size w w' := by
  have hu := Try.underlying77
  have hu2 := Try.underlying48
  by_cases k3 : k = 3
  · subst k3
    go_enter Try.func79, Try.ntmps79
    go_wp2
    exact bodyPost_ret (v := .agg #[.int .i64 8, .int .i64 id, .int .i64 g, .int .i64 a, .int .i64 b]) (by simp [results, Try.results79, go_sem]) rfl ⟨rfl, by (repeat (first | exact Below.refl _ _ | apply Below.drew | refine Below.alloc ?_ (by first | (simp; done) | (simp; omega)) _ | refine Below.setCell ?_ (by first | (simp; done) | (simp; omega)) _))⟩
  · by_cases k6 : k = 6
    · subst k6
      clear k3
      go_enter Try.func79, Try.ntmps79
      go_wp2
      exact bodyPost_ret (v := .agg #[.int .i64 6, .int .i64 id, .int .i64 g, .int .i64 a, .int .i64 b]) (by simp [results, Try.results79, go_sem]) rfl ⟨rfl, by (repeat (first | exact Below.refl _ _ | apply Below.drew | refine Below.alloc ?_ (by first | (simp; done) | (simp; omega)) _ | refine Below.setCell ?_ (by first | (simp; done) | (simp; omega)) _))⟩
    · by_cases k7 : k = 7
      · subst k7
        clear k3 k6
        go_enter Try.func79, Try.ntmps79
        go_wp2
        exact bodyPost_ret (v := .agg #[.int .i64 7, .int .i64 id, .int .i64 g, .int .i64 a, .int .i64 b]) (by simp [results, Try.results79, go_sem]) rfl ⟨rfl, by (repeat (first | exact Below.refl _ _ | apply Below.drew | refine Below.alloc ?_ (by first | (simp; done) | (simp; omega)) _ | refine Below.setCell ?_ (by first | (simp; done) | (simp; omega)) _))⟩
      · have b3 : (k == 3) = false := beq_eq_false_iff_ne.mpr k3
        have b6 : (k == 6) = false := beq_eq_false_iff_ne.mpr k6
        have b7 : (k == 7) = false := beq_eq_false_iff_ne.mpr k7
        have E := Lib.hid (show edK k = 0 from by simp [edK, k3, k6, k7])
        clear k3 k6 k7
        go_enter Try.func79, Try.ntmps79
        go_wp2
        exact bodyPost_ret (v := .agg #[.int .i64 0, .int .i64 id, .int .i64 g, .int .i64 a, .int .i64 b]) (by simp [results, Try.results79, go_sem]) rfl ⟨by rw [E.out], by (repeat (first | exact Below.refl _ _ | apply Below.drew | refine Below.alloc ?_ (by first | (simp; done) | (simp; omega)) _ | refine Below.setCell ?_ (by first | (simp; done) | (simp; omega)) _))⟩
set_option maxHeartbeats 1000000 in
theorem c_isEdit (k id g a b : Int) (w : World) :
    Calls Try.prog 62 #[.agg #[.int .i64 k, .int .i64 id, .int .i64 g, .int .i64 a, .int .i64 b]] w fun e w' => e = .returned (.bool (isEdB k id g a b)) ∧ Below w.heap.size w w' := by
  have hu := Try.underlying77
  by_cases k6 : k = 6
  · subst k6
    go_enter Try.func62, Try.ntmps62
    go_wp2_with (go_at_call 80; refine (c_EditRight _ _ _ _ _ _).mono ?_; rintro e w' ⟨rfl, hb⟩; obtain ⟨hcc, hff⟩ := bcell hb)
    all_goals go_ret
    all_goals (refine ⟨ret_bool ?_, balloc (Below.refl _ w) hb⟩; clear hu hcc hff; first | (simp [isEdB, *]; done) | (simp_all [isEdB]; done))
  · have b6 : (k == 6) = false := beq_eq_false_iff_ne.mpr k6
    have b6' : (k != 6) = true := bne_iff_ne.mpr k6
    go_enter Try.func62, Try.ntmps62
    go_wp2_with (go_at_call 80; refine (c_EditRight _ _ _ _ _ _).mono ?_; rintro e w' ⟨rfl, hb⟩; obtain ⟨hcc, hff⟩ := bcell hb)
    all_goals go_ret
    all_goals (refine ⟨ret_bool ?_, balloc (Below.refl _ w) hb⟩; clear hu hcc hff; first | (simp [isEdB, *]; done) | (simp_all [isEdB]; done))
set_option maxHeartbeats 8000000 in
theorem s_l10Op (k id g a b : Int) (w : World) :
    Calls Try.prog 61 #[.agg #[.int .i64 k, .int .i64 id, .int .i64 g, .int .i64 a, .int .i64 b]] w fun e w' => e = .returned (.bool (opB k id g a b)) ∧ Below w.heap.size w w' := by
  have hu := Try.underlying48
  by_cases k1 : k = 1
  · subst k1
    go_enter Try.func61, Try.ntmps61
    go_wp2_with (first | (go_at_call 49; refine (s_id _ _).mono ?_; rintro e w' ⟨rfl, rfl⟩) | (go_at_call 50; refine (s_want _ _).mono ?_; rintro e w' ⟨rfl, rfl⟩) | (go_at_call 51; refine (s_weight _ _).mono ?_; rintro e w' ⟨rfl, rfl⟩) | (go_at_call 79; refine (s_edit _ _ _ _ _ _).mono ?_; rintro e w' ⟨rfl, hb⟩; have hB := balloc (Below.refl _ w) hb; obtain ⟨hcc, hff⟩ := bcell hb) | (go_at_call 78; refine (s_EditRight _ _ _ _ _ _).mono ?_; rintro e w' ⟨rfl, hb2⟩; have hB2 := btrans hB hb2; have hb3 := btrans hb hb2; clear hcc hff; obtain ⟨hcc, hff⟩ := bcell hb3))
    all_goals go_ret
    all_goals (refine ⟨ret_bool ?_, by first | exact hB2 | exact (Below.refl _ _).alloc (Nat.le_refl _) _⟩; clear hu; (try clear hcc hff); first | (simp [opB, isEdB, edK, *]; done) | (simp_all [opB, isEdB, edK]; done))
  by_cases k2 : k = 2
  · subst k2
    clear k1
    go_enter Try.func61, Try.ntmps61
    go_wp2_with (first | (go_at_call 49; refine (s_id _ _).mono ?_; rintro e w' ⟨rfl, rfl⟩) | (go_at_call 50; refine (s_want _ _).mono ?_; rintro e w' ⟨rfl, rfl⟩) | (go_at_call 51; refine (s_weight _ _).mono ?_; rintro e w' ⟨rfl, rfl⟩) | (go_at_call 79; refine (s_edit _ _ _ _ _ _).mono ?_; rintro e w' ⟨rfl, hb⟩; have hB := balloc (Below.refl _ w) hb; obtain ⟨hcc, hff⟩ := bcell hb) | (go_at_call 78; refine (s_EditRight _ _ _ _ _ _).mono ?_; rintro e w' ⟨rfl, hb2⟩; have hB2 := btrans hB hb2; have hb3 := btrans hb hb2; clear hcc hff; obtain ⟨hcc, hff⟩ := bcell hb3))
    all_goals go_ret
    all_goals (refine ⟨ret_bool ?_, by first | exact hB2 | exact (Below.refl _ _).alloc (Nat.le_refl _) _⟩; clear hu; (try clear hcc hff); first | (simp [opB, isEdB, edK, *]; done) | (simp_all [opB, isEdB, edK]; done))
  by_cases k3 : k = 3
  · subst k3
    clear k1 k2
    go_enter Try.func61, Try.ntmps61
    go_wp2_with (first | (go_at_call 49; refine (s_id _ _).mono ?_; rintro e w' ⟨rfl, rfl⟩) | (go_at_call 50; refine (s_want _ _).mono ?_; rintro e w' ⟨rfl, rfl⟩) | (go_at_call 51; refine (s_weight _ _).mono ?_; rintro e w' ⟨rfl, rfl⟩) | (go_at_call 79; refine (s_edit _ _ _ _ _ _).mono ?_; rintro e w' ⟨rfl, hb⟩; have hB := balloc (Below.refl _ w) hb; obtain ⟨hcc, hff⟩ := bcell hb) | (go_at_call 78; refine (s_EditRight _ _ _ _ _ _).mono ?_; rintro e w' ⟨rfl, hb2⟩; have hB2 := btrans hB hb2; have hb3 := btrans hb hb2; clear hcc hff; obtain ⟨hcc, hff⟩ := bcell hb3))
    all_goals go_ret
    all_goals (refine ⟨ret_bool ?_, by first | exact hB2 | exact (Below.refl _ _).alloc (Nat.le_refl _) _⟩; clear hu; (try clear hcc hff); first | (simp [opB, isEdB, edK, *]; done) | (simp_all [opB, isEdB, edK]; done))
  by_cases k4 : k = 4
  · subst k4
    clear k1 k2 k3
    go_enter Try.func61, Try.ntmps61
    go_wp2_with (first | (go_at_call 49; refine (s_id _ _).mono ?_; rintro e w' ⟨rfl, rfl⟩) | (go_at_call 50; refine (s_want _ _).mono ?_; rintro e w' ⟨rfl, rfl⟩) | (go_at_call 51; refine (s_weight _ _).mono ?_; rintro e w' ⟨rfl, rfl⟩) | (go_at_call 79; refine (s_edit _ _ _ _ _ _).mono ?_; rintro e w' ⟨rfl, hb⟩; have hB := balloc (Below.refl _ w) hb; obtain ⟨hcc, hff⟩ := bcell hb) | (go_at_call 78; refine (s_EditRight _ _ _ _ _ _).mono ?_; rintro e w' ⟨rfl, hb2⟩; have hB2 := btrans hB hb2; have hb3 := btrans hb hb2; clear hcc hff; obtain ⟨hcc, hff⟩ := bcell hb3))
    all_goals go_ret
    all_goals (refine ⟨ret_bool ?_, by first | exact hB2 | exact (Below.refl _ _).alloc (Nat.le_refl _) _⟩; clear hu; (try clear hcc hff); first | (simp [opB, isEdB, edK, *]; done) | (simp_all [opB, isEdB, edK]; done))
  by_cases k5 : k = 5
  · subst k5
    clear k1 k2 k3 k4
    go_enter Try.func61, Try.ntmps61
    go_wp2_with (first | (go_at_call 49; refine (s_id _ _).mono ?_; rintro e w' ⟨rfl, rfl⟩) | (go_at_call 50; refine (s_want _ _).mono ?_; rintro e w' ⟨rfl, rfl⟩) | (go_at_call 51; refine (s_weight _ _).mono ?_; rintro e w' ⟨rfl, rfl⟩) | (go_at_call 79; refine (s_edit _ _ _ _ _ _).mono ?_; rintro e w' ⟨rfl, hb⟩; have hB := balloc (Below.refl _ w) hb; obtain ⟨hcc, hff⟩ := bcell hb) | (go_at_call 78; refine (s_EditRight _ _ _ _ _ _).mono ?_; rintro e w' ⟨rfl, hb2⟩; have hB2 := btrans hB hb2; have hb3 := btrans hb hb2; clear hcc hff; obtain ⟨hcc, hff⟩ := bcell hb3))
    all_goals go_ret
    all_goals (refine ⟨ret_bool ?_, by first | exact hB2 | exact (Below.refl _ _).alloc (Nat.le_refl _) _⟩; clear hu; (try clear hcc hff); first | (simp [opB, isEdB, edK, *]; done) | (simp_all [opB, isEdB, edK]; done))
  by_cases k6 : k = 6
  · subst k6
    clear k1 k2 k3 k4 k5
    go_enter Try.func61, Try.ntmps61
    go_wp2_with (first | (go_at_call 49; refine (s_id _ _).mono ?_; rintro e w' ⟨rfl, rfl⟩) | (go_at_call 50; refine (s_want _ _).mono ?_; rintro e w' ⟨rfl, rfl⟩) | (go_at_call 51; refine (s_weight _ _).mono ?_; rintro e w' ⟨rfl, rfl⟩) | (go_at_call 79; refine (s_edit _ _ _ _ _ _).mono ?_; rintro e w' ⟨rfl, hb⟩; have hB := balloc (Below.refl _ w) hb; obtain ⟨hcc, hff⟩ := bcell hb) | (go_at_call 78; refine (s_EditRight _ _ _ _ _ _).mono ?_; rintro e w' ⟨rfl, hb2⟩; have hB2 := btrans hB hb2; have hb3 := btrans hb hb2; clear hcc hff; obtain ⟨hcc, hff⟩ := bcell hb3))
    all_goals go_ret
    all_goals (refine ⟨ret_bool ?_, by first | exact hB2 | exact (Below.refl _ _).alloc (Nat.le_refl _) _⟩; clear hu; (try clear hcc hff); first | (simp [opB, isEdB, edK, *]; done) | (simp_all [opB, isEdB, edK]; done))
  by_cases k7 : k = 7
  · subst k7
    clear k1 k2 k3 k4 k5 k6
    go_enter Try.func61, Try.ntmps61
    go_wp2_with (first | (go_at_call 49; refine (s_id _ _).mono ?_; rintro e w' ⟨rfl, rfl⟩) | (go_at_call 50; refine (s_want _ _).mono ?_; rintro e w' ⟨rfl, rfl⟩) | (go_at_call 51; refine (s_weight _ _).mono ?_; rintro e w' ⟨rfl, rfl⟩) | (go_at_call 79; refine (s_edit _ _ _ _ _ _).mono ?_; rintro e w' ⟨rfl, hb⟩; have hB := balloc (Below.refl _ w) hb; obtain ⟨hcc, hff⟩ := bcell hb) | (go_at_call 78; refine (s_EditRight _ _ _ _ _ _).mono ?_; rintro e w' ⟨rfl, hb2⟩; have hB2 := btrans hB hb2; have hb3 := btrans hb hb2; clear hcc hff; obtain ⟨hcc, hff⟩ := bcell hb3))
    all_goals go_ret
    all_goals (refine ⟨ret_bool ?_, by first | exact hB2 | exact (Below.refl _ _).alloc (Nat.le_refl _) _⟩; clear hu; (try clear hcc hff); first | (simp [opB, isEdB, edK, *]; done) | (simp_all [opB, isEdB, edK]; done))
  have b1 : (k == 1) = false := beq_eq_false_iff_ne.mpr k1
  have b2 : (k == 2) = false := beq_eq_false_iff_ne.mpr k2
  have b3 : (k == 3) = false := beq_eq_false_iff_ne.mpr k3
  have b4 : (k == 4) = false := beq_eq_false_iff_ne.mpr k4
  have b5 : (k == 5) = false := beq_eq_false_iff_ne.mpr k5
  have b6 : (k == 6) = false := beq_eq_false_iff_ne.mpr k6
  have b7 : (k == 7) = false := beq_eq_false_iff_ne.mpr k7
  have HK : opB k id g a b = false := by simp [opB, isEdB, edK, k1, k2, k3, k4, k5, k6, k7, edB_none]
  have H0 : isEdB (edK k) id g a b = false := by simp [isEdB, edK, k3, k6, k7, edB_none]
  have HKK := Lib.hid HK
  have HK0 := Lib.hid H0
  clear HK H0 k1 k2 k3 k4 k5 k6 k7
  go_enter Try.func61, Try.ntmps61
  go_wp2_with (first | (go_at_call 49; refine (s_id _ _).mono ?_; rintro e w' ⟨rfl, rfl⟩) | (go_at_call 50; refine (s_want _ _).mono ?_; rintro e w' ⟨rfl, rfl⟩) | (go_at_call 51; refine (s_weight _ _).mono ?_; rintro e w' ⟨rfl, rfl⟩) | (go_at_call 79; refine (s_edit _ _ _ _ _ _).mono ?_; rintro e w' ⟨rfl, hb⟩; have hB := balloc (Below.refl _ w) hb; obtain ⟨hcc, hff⟩ := bcell hb) | (go_at_call 78; refine (s_EditRight _ _ _ _ _ _).mono ?_; rintro e w' ⟨rfl, hb2⟩; have hB2 := btrans hB hb2; have hb3 := btrans hb hb2; clear hcc hff; obtain ⟨hcc, hff⟩ := bcell hb3))
  all_goals go_ret
  all_goals (refine ⟨ret_bool ?_, by first | exact hB2 | exact (Below.refl _ _).alloc (Nat.le_refl _) _⟩; first | exact HKK.out.symm | (rw [HKK.out]; exact HK0.out))
set_option maxHeartbeats 8000000 in
theorem c_OpRight (k id g a b : Int) (w : World) :
    Calls Try.prog 35 #[.agg #[.int .i64 k, .int .i64 id, .int .i64 g, .int .i64 a, .int .i64 b]] w fun e w' => e = .returned (.bool (opB k id g a b)) ∧ Below w.heap.size w w' := by
  have hu := Try.underlying48
  by_cases k1 : k = 1
  · subst k1
    go_enter Try.func35, Try.ntmps35
    go_wp2_with (first | (go_at_call 53; refine (c_isId _ _).mono ?_; rintro e w' ⟨rfl, rfl⟩) | (go_at_call 54; refine (c_isWant _ _).mono ?_; rintro e w' ⟨rfl, rfl⟩) | (go_at_call 55; refine (c_isWeight _ _).mono ?_; rintro e w' ⟨rfl, rfl⟩) | (go_at_call 63; refine (c_edit _ _ _ _ _ _).mono ?_; rintro e w' ⟨rfl, hb⟩; have hB := balloc (Below.refl _ w) hb) | (go_at_call 62; refine (c_isEdit _ _ _ _ _ _).mono ?_; rintro e w' ⟨rfl, hb2⟩; have hB2 := btrans hB hb2))
    all_goals go_ret
    all_goals (refine ⟨ret_bool ?_, by first | exact hB2 | exact (Below.refl _ _).alloc (Nat.le_refl _) _⟩; clear hu; (try clear hcc hff); first | (simp [opB, isEdB, edK, *]; done) | (simp_all [opB, isEdB, edK]; done))
  by_cases k2 : k = 2
  · subst k2
    clear k1
    go_enter Try.func35, Try.ntmps35
    go_wp2_with (first | (go_at_call 53; refine (c_isId _ _).mono ?_; rintro e w' ⟨rfl, rfl⟩) | (go_at_call 54; refine (c_isWant _ _).mono ?_; rintro e w' ⟨rfl, rfl⟩) | (go_at_call 55; refine (c_isWeight _ _).mono ?_; rintro e w' ⟨rfl, rfl⟩) | (go_at_call 63; refine (c_edit _ _ _ _ _ _).mono ?_; rintro e w' ⟨rfl, hb⟩; have hB := balloc (Below.refl _ w) hb) | (go_at_call 62; refine (c_isEdit _ _ _ _ _ _).mono ?_; rintro e w' ⟨rfl, hb2⟩; have hB2 := btrans hB hb2))
    all_goals go_ret
    all_goals (refine ⟨ret_bool ?_, by first | exact hB2 | exact (Below.refl _ _).alloc (Nat.le_refl _) _⟩; clear hu; (try clear hcc hff); first | (simp [opB, isEdB, edK, *]; done) | (simp_all [opB, isEdB, edK]; done))
  by_cases k3 : k = 3
  · subst k3
    clear k1 k2
    go_enter Try.func35, Try.ntmps35
    go_wp2_with (first | (go_at_call 53; refine (c_isId _ _).mono ?_; rintro e w' ⟨rfl, rfl⟩) | (go_at_call 54; refine (c_isWant _ _).mono ?_; rintro e w' ⟨rfl, rfl⟩) | (go_at_call 55; refine (c_isWeight _ _).mono ?_; rintro e w' ⟨rfl, rfl⟩) | (go_at_call 63; refine (c_edit _ _ _ _ _ _).mono ?_; rintro e w' ⟨rfl, hb⟩; have hB := balloc (Below.refl _ w) hb) | (go_at_call 62; refine (c_isEdit _ _ _ _ _ _).mono ?_; rintro e w' ⟨rfl, hb2⟩; have hB2 := btrans hB hb2))
    all_goals go_ret
    all_goals (refine ⟨ret_bool ?_, by first | exact hB2 | exact (Below.refl _ _).alloc (Nat.le_refl _) _⟩; clear hu; (try clear hcc hff); first | (simp [opB, isEdB, edK, *]; done) | (simp_all [opB, isEdB, edK]; done))
  by_cases k4 : k = 4
  · subst k4
    clear k1 k2 k3
    go_enter Try.func35, Try.ntmps35
    go_wp2_with (first | (go_at_call 53; refine (c_isId _ _).mono ?_; rintro e w' ⟨rfl, rfl⟩) | (go_at_call 54; refine (c_isWant _ _).mono ?_; rintro e w' ⟨rfl, rfl⟩) | (go_at_call 55; refine (c_isWeight _ _).mono ?_; rintro e w' ⟨rfl, rfl⟩) | (go_at_call 63; refine (c_edit _ _ _ _ _ _).mono ?_; rintro e w' ⟨rfl, hb⟩; have hB := balloc (Below.refl _ w) hb) | (go_at_call 62; refine (c_isEdit _ _ _ _ _ _).mono ?_; rintro e w' ⟨rfl, hb2⟩; have hB2 := btrans hB hb2))
    all_goals go_ret
    all_goals (refine ⟨ret_bool ?_, by first | exact hB2 | exact (Below.refl _ _).alloc (Nat.le_refl _) _⟩; clear hu; (try clear hcc hff); first | (simp [opB, isEdB, edK, *]; done) | (simp_all [opB, isEdB, edK]; done))
  by_cases k5 : k = 5
  · subst k5
    clear k1 k2 k3 k4
    go_enter Try.func35, Try.ntmps35
    go_wp2_with (first | (go_at_call 53; refine (c_isId _ _).mono ?_; rintro e w' ⟨rfl, rfl⟩) | (go_at_call 54; refine (c_isWant _ _).mono ?_; rintro e w' ⟨rfl, rfl⟩) | (go_at_call 55; refine (c_isWeight _ _).mono ?_; rintro e w' ⟨rfl, rfl⟩) | (go_at_call 63; refine (c_edit _ _ _ _ _ _).mono ?_; rintro e w' ⟨rfl, hb⟩; have hB := balloc (Below.refl _ w) hb) | (go_at_call 62; refine (c_isEdit _ _ _ _ _ _).mono ?_; rintro e w' ⟨rfl, hb2⟩; have hB2 := btrans hB hb2))
    all_goals go_ret
    all_goals (refine ⟨ret_bool ?_, by first | exact hB2 | exact (Below.refl _ _).alloc (Nat.le_refl _) _⟩; clear hu; (try clear hcc hff); first | (simp [opB, isEdB, edK, *]; done) | (simp_all [opB, isEdB, edK]; done))
  by_cases k6 : k = 6
  · subst k6
    clear k1 k2 k3 k4 k5
    go_enter Try.func35, Try.ntmps35
    go_wp2_with (first | (go_at_call 53; refine (c_isId _ _).mono ?_; rintro e w' ⟨rfl, rfl⟩) | (go_at_call 54; refine (c_isWant _ _).mono ?_; rintro e w' ⟨rfl, rfl⟩) | (go_at_call 55; refine (c_isWeight _ _).mono ?_; rintro e w' ⟨rfl, rfl⟩) | (go_at_call 63; refine (c_edit _ _ _ _ _ _).mono ?_; rintro e w' ⟨rfl, hb⟩; have hB := balloc (Below.refl _ w) hb) | (go_at_call 62; refine (c_isEdit _ _ _ _ _ _).mono ?_; rintro e w' ⟨rfl, hb2⟩; have hB2 := btrans hB hb2))
    all_goals go_ret
    all_goals (refine ⟨ret_bool ?_, by first | exact hB2 | exact (Below.refl _ _).alloc (Nat.le_refl _) _⟩; clear hu; (try clear hcc hff); first | (simp [opB, isEdB, edK, *]; done) | (simp_all [opB, isEdB, edK]; done))
  by_cases k7 : k = 7
  · subst k7
    clear k1 k2 k3 k4 k5 k6
    go_enter Try.func35, Try.ntmps35
    go_wp2_with (first | (go_at_call 53; refine (c_isId _ _).mono ?_; rintro e w' ⟨rfl, rfl⟩) | (go_at_call 54; refine (c_isWant _ _).mono ?_; rintro e w' ⟨rfl, rfl⟩) | (go_at_call 55; refine (c_isWeight _ _).mono ?_; rintro e w' ⟨rfl, rfl⟩) | (go_at_call 63; refine (c_edit _ _ _ _ _ _).mono ?_; rintro e w' ⟨rfl, hb⟩; have hB := balloc (Below.refl _ w) hb) | (go_at_call 62; refine (c_isEdit _ _ _ _ _ _).mono ?_; rintro e w' ⟨rfl, hb2⟩; have hB2 := btrans hB hb2))
    all_goals go_ret
    all_goals (refine ⟨ret_bool ?_, by first | exact hB2 | exact (Below.refl _ _).alloc (Nat.le_refl _) _⟩; clear hu; (try clear hcc hff); first | (simp [opB, isEdB, edK, *]; done) | (simp_all [opB, isEdB, edK]; done))
  have b1 : (k == 1) = false := beq_eq_false_iff_ne.mpr k1
  have b2 : (k == 2) = false := beq_eq_false_iff_ne.mpr k2
  have b3 : (k == 3) = false := beq_eq_false_iff_ne.mpr k3
  have b4 : (k == 4) = false := beq_eq_false_iff_ne.mpr k4
  have b5 : (k == 5) = false := beq_eq_false_iff_ne.mpr k5
  have b6 : (k == 6) = false := beq_eq_false_iff_ne.mpr k6
  have b7 : (k == 7) = false := beq_eq_false_iff_ne.mpr k7
  have HK : opB k id g a b = false := by simp [opB, isEdB, edK, k1, k2, k3, k4, k5, k6, k7, edB_none]
  have H0 : isEdB (edK k) id g a b = false := by simp [isEdB, edK, k3, k6, k7, edB_none]
  have HKK := Lib.hid HK
  have HK0 := Lib.hid H0
  clear HK H0 k1 k2 k3 k4 k5 k6 k7
  go_enter Try.func35, Try.ntmps35
  go_wp2_with (first | (go_at_call 53; refine (c_isId _ _).mono ?_; rintro e w' ⟨rfl, rfl⟩) | (go_at_call 54; refine (c_isWant _ _).mono ?_; rintro e w' ⟨rfl, rfl⟩) | (go_at_call 55; refine (c_isWeight _ _).mono ?_; rintro e w' ⟨rfl, rfl⟩) | (go_at_call 63; refine (c_edit _ _ _ _ _ _).mono ?_; rintro e w' ⟨rfl, hb⟩; have hB := balloc (Below.refl _ w) hb) | (go_at_call 62; refine (c_isEdit _ _ _ _ _ _).mono ?_; rintro e w' ⟨rfl, hb2⟩; have hB2 := btrans hB hb2))
  all_goals go_ret
  all_goals (refine ⟨ret_bool ?_, by first | exact hB2 | exact (Below.refl _ _).alloc (Nat.le_refl _) _⟩; first | exact HKK.out.symm | (rw [HKK.out]; exact HK0.out))
theorem s_OpRight (k id g a b : Int) (w : World) :
    Calls Try.prog 33 #[.agg #[.int .i64 k, .int .i64 id, .int .i64 g, .int .i64 a, .int .i64 b]] w fun e w' => e = .returned (.bool (opB k id g a b)) ∧ Below w.heap.size w w' := by
  have hu := Try.underlying48
  go_enter Try.func33, Try.ntmps33
  go_wp2_with (go_at_call 61; refine (s_l10Op _ _ _ _ _ _).mono ?_; rintro e w' ⟨rfl, hb⟩)
  go_ret
  exact ⟨rfl, balloc (Below.refl _ w) hb⟩
end Go.Proofs.Ytlnmpaigojmahaa.C
