/- The law FnExactRatioFits, walked: both tell the same. No condition. -/
import Derived.Test.YtddemmmbbleofaaWideC
import Derived.Test.YtddemmmbbleofaaOFnExactRatioFits
namespace Go.Proofs.Ytddemmmbbleofaa.C
open Go.RowKit Go.Proofs.Ytddemmmbbleofaa.Rd
set_option maxRecDepth 100000
set_option linter.unusedVariables false
theorem c_toItem (i wa we : Int) (w : World) : Calls Try.prog 37 #[.agg #[.int .i64 i, .int .i64 wa, .int .i64 we]] w fun e w' => e = .returned (.agg #[.int .i64 i, .int .i64 wa, .int .i64 we]) ∧ Below w.heap.size w w' := by
  have hu := Try.underlying64
  have hu2 := Try.underlying66
  go_enter Try.func37, Try.ntmps37
  go_wp2
  refine bodyPost_ret (v := .agg #[.int .i64 i, .int .i64 wa, .int .i64 we]) (by simp [results, Try.results37, go_sem]) rfl ⟨rfl, ?_⟩
  repeat (first | exact Below.refl _ _ | apply Below.drew | refine Below.alloc ?_ (by first | (simp; done) | (simp; omega)) _ | refine Below.setCell ?_ (by first | (simp; done) | (simp; omega)) _)
theorem l_FnExactRatioFits : OFnExactRatioFits.Walks := by
  rintro ⟨i, wa, we⟩ am al w - - -
  show Calls Try.prog 9 #[.agg #[.int .i64 i, .int .i64 wa, .int .i64 we], .int .i64 am, .int .i64 al] w fun e w' => e = .returned (.bool true) ∧ Below w.heap.size w w'
  have hu := Try.underlying64
  go_enter Try.func9, Try.ntmps9
  go_wp2_with fail
  refine (c_toItem _ _ _ _).mono ?_
  rintro e w1 ⟨rfl, b1⟩
  go_wp2_with fail
  refine (s_RatioFits _ _ _ _ _ _).mono ?_
  rintro e w2 ⟨rfl, h2⟩
  have b2 := btrans b1 h2
  obtain ⟨hc, hf⟩ := bcell b2
  go_wp2_with fail
  refine (c_toItem _ _ _ _).mono ?_
  rintro e w3 ⟨rfl, h3⟩
  have b3 := btrans b2 h3
  clear hc hf
  go_wp2_with fail
  refine (c_RatioFits _ _ _ _ _ _).mono ?_
  rintro e w4 ⟨rfl, h4⟩
  have b4 := btrans b3 h4
  go_wp2
  all_goals go_ret
  all_goals exact ⟨by simp, balloc (Below.refl _ w) b4⟩
end Go.Proofs.Ytddemmmbbleofaa.C
