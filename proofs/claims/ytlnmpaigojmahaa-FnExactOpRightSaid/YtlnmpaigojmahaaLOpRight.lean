/- The law FnExactOpRight, walked: both tell the same of an op. No condition. -/
import Derived.Test.YtlnmpaigojmahaaOp
import Derived.Test.YtlnmpaigojmahaaOFnExactOpRight
namespace Go.Proofs.Ytlnmpaigojmahaa.C
open Go.RowKit Go.Proofs.Ytlnmpaigojmahaa.Rd
set_option maxRecDepth 100000
set_option linter.unusedVariables false
theorem c_toOp (k id g a b : Int) (w : World) :
    Calls Try.prog 34 #[.agg #[.int .i64 k, .int .i64 id, .int .i64 g, .int .i64 a, .int .i64 b]] w fun e w' => e = .returned (.agg #[.int .i64 k, .int .i64 id, .int .i64 g, .int .i64 a, .int .i64 b]) ∧ Below w.heap.size w w' := by
  have hu := Try.underlying46
  have hu2 := Try.underlying48
  go_enter Try.func34, Try.ntmps34
  go_wp2
  refine bodyPost_ret (v := .agg #[.int .i64 k, .int .i64 id, .int .i64 g, .int .i64 a, .int .i64 b]) (by simp [results, Try.results34, go_sem]) rfl ⟨rfl, ?_⟩
  repeat (first | exact Below.refl _ _ | apply Below.drew | refine Below.alloc ?_ (by first | (simp; done) | (simp; omega)) _ | refine Below.setCell ?_ (by first | (simp; done) | (simp; omega)) _)
theorem l_FnExactOpRight : OFnExactOpRight.Walks := by
  rintro ⟨k, id, g, a, b⟩ w -
  show Calls Try.prog 10 #[.agg #[.int .i64 k, .int .i64 id, .int .i64 g, .int .i64 a, .int .i64 b]] w fun e w' => e = .returned (.bool true) ∧ Below w.heap.size w w'
  have hu := Try.underlying46
  go_enter Try.func10, Try.ntmps10
  go_wp2_with fail
  refine (c_toOp _ _ _ _ _ _).mono ?_
  rintro e w1 ⟨rfl, b1⟩
  go_wp2_with fail
  refine (s_OpRight _ _ _ _ _ _).mono ?_
  rintro e w2 ⟨rfl, h2⟩
  have b2 := btrans b1 h2
  obtain ⟨hc, hf⟩ := bcell b2
  go_wp2_with fail
  refine (c_toOp _ _ _ _ _ _).mono ?_
  rintro e w3 ⟨rfl, h3⟩
  have b3 := btrans b2 h3
  clear hc hf
  go_wp2_with fail
  refine (c_OpRight _ _ _ _ _ _).mono ?_
  rintro e w4 ⟨rfl, h4⟩
  have b4 := btrans b3 h4
  go_wp2
  all_goals go_ret
  all_goals exact ⟨by simp, balloc (Below.refl _ w) b4⟩
end Go.Proofs.Ytlnmpaigojmahaa.C
