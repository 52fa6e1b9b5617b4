/- OpRight of both: is an op right? No condition. -/
import Derived.Test.YtipkbapnhgdpeaaEdit
namespace Go.Proofs.Ytipkbapnhgdpeaa.C
open Go.RowKit
set_option maxRecDepth 100000
set_option linter.unusedVariables false
set_option linter.unusedSimpArgs false
/-- The kind of an op's edit. -/
def edK (k : Int) : Int := if k = 3 then 8 else if k = 6 then 6 else if k = 7 then 7 else 0
/-- Is an edit right, and its group below its id? -/
def isEdB (k id g a b : Int) : Bool := edB k id g a b && (!(k == 6) || decide (g < id))
/-- Is an op right? -/
def opB (k id g a b : Int) : Bool :=
  if k = 1 then bIn id 1 1000000 && ((g == 0 || bIn g 1 1000000) && (bIn a 0 1125899906842624 && bIn b 1 1073741824))
  else if k = 2 then bIn id 1 1000000 && (g == 0 && (a == 0 && b == 0))
  else if k = 4 ∨ k = 5 then id == 0 && (g == 0 && (a == 0 && b == 0))
  else isEdB (edK k) id g a b
theorem edB_none (k id g a b : Int) (h : k = 0) : edB k id g a b = false := by subst h; simp [edB]
set_option maxHeartbeats 1000000 in
theorem c_isEdit (k id g a b : Int) (w : World) :
    Calls Try.prog 114 #[.agg #[.int .i64 k, .int .i64 id, .int .i64 g, .int .i64 a, .int .i64 b]] w fun e w' => e = .returned (.bool (isEdB k id g a b)) ∧ Below w.heap.size w w' := by
  have hu := Try.underlying56
  by_cases k6 : k = 6
  · subst k6
    go_enter Try.func114, Try.ntmps114
    go_wp2_with (go_at_call 129; refine (c_EditRight _ _ _ _ _ _).mono ?_; rintro e w' ⟨rfl, hb⟩; obtain ⟨hcc, hff⟩ := bcell hb)
    all_goals go_ret
    all_goals (refine ⟨ret_bool ?_, balloc (Below.refl _ w) hb⟩; clear hu hcc hff; first | (simp [isEdB, *]; done) | (simp_all [isEdB]; done))
  · have b6 : (k == 6) = false := beq_eq_false_iff_ne.mpr k6
    have b6' : (k != 6) = true := bne_iff_ne.mpr k6
    go_enter Try.func114, Try.ntmps114
    go_wp2_with (go_at_call 129; refine (c_EditRight _ _ _ _ _ _).mono ?_; rintro e w' ⟨rfl, hb⟩; obtain ⟨hcc, hff⟩ := bcell hb)
    all_goals go_ret
    all_goals (refine ⟨ret_bool ?_, balloc (Below.refl _ w) hb⟩; clear hu hcc hff; first | (simp [isEdB, *]; done) | (simp_all [isEdB]; done))
end Go.Proofs.Ytipkbapnhgdpeaa.C
