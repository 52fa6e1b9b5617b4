/- The law FnExactMsgRight, walked: both tell of a message whether it is right, and they tell the same. No condition. -/
import Derived.Test.YtlnmpaigojmahaaMsgR
import Derived.Test.YtlnmpaigojmahaaOFnExactMsgRight
namespace Go.Proofs.Ytlnmpaigojmahaa.C
open Go.RowKit Go.Proofs.Ytlnmpaigojmahaa.Rd
set_option maxRecDepth 100000
set_option linter.unusedVariables false
theorem c_szMsg (k id seq g wa we am un co left : Int) (s : ByteArray) (w : World) (hs : s.size ≤ 9223372036854775807) (hl : 0 ≤ left) (hl2 : left ≤ 1048576) :
    Calls Try.prog 27 #[.agg #[.int .i64 k, .int .i64 id, .int .i64 seq, .int .i64 g, .int .i64 wa, .int .i64 we, .int .i64 am, .int .i64 un, .int .i64 co, .string s], .int .i64 left] w fun e w' =>
      (∃ n : Int, e = .returned (.int .i64 n)) ∧ Below w.heap.size w w' := by
  have hu := Try.underlying38
  go_enter Try.func27, Try.ntmps27
  go_wp2
  all_goals go_ret
  all_goals exact ⟨⟨_, rfl⟩, (Below.refl _ _).alloc (Nat.le_refl _) _⟩
theorem c_toMsg (k id seq g wa we am un co : Int) (s : ByteArray) (w : World) :
    Calls Try.prog 29 #[.agg #[.int .i64 k, .int .i64 id, .int .i64 seq, .int .i64 g, .int .i64 wa, .int .i64 we, .int .i64 am, .int .i64 un, .int .i64 co, .string s]] w fun e w' =>
      e = .returned (.agg #[.int .i64 k, .int .i64 id, .int .i64 seq, .int .i64 g, .int .i64 wa, .int .i64 we, .int .i64 am, .int .i64 un, .int .i64 co, .string s]) ∧ Below w.heap.size w w' := by
  have hu := Try.underlying38
  have hu2 := Try.underlying41
  go_enter Try.func29, Try.ntmps29
  go_wp2
  refine bodyPost_ret (v := .agg #[.int .i64 k, .int .i64 id, .int .i64 seq, .int .i64 g, .int .i64 wa, .int .i64 we, .int .i64 am, .int .i64 un, .int .i64 co, .string s]) (by simp [results, Try.results29, go_sem]) rfl ⟨rfl, ?_⟩
  repeat (first | exact Below.refl _ _ | apply Below.drew | refine Below.alloc ?_ (by first | (simp; done) | (simp; omega)) _ | refine Below.setCell ?_ (by first | (simp; done) | (simp; omega)) _)
theorem l_FnExactMsgRight : OFnExactMsgRight.Walks := by
  rintro ⟨k, id, seq, g, wa, we, am, un, co, s⟩ w ⟨_, _, _, _, _, _, _, _, _, hs⟩
  have hs' : s.size ≤ 9223372036854775807 := hs
  clear hs
  have hu := Try.underlying38
  go_enter Try.func8, Try.ntmps8
  go_wp2_with fail
  refine (c_szMsg _ _ _ _ _ _ _ _ _ _ _ _ hs' (by omega) (by omega)).mono ?_
  rintro e w1 ⟨⟨n, rfl⟩, b1⟩
  obtain ⟨hc, hf⟩ := bcell b1
  by_cases hn : n < 0
  · go_wp2
    go_ret
    exact ⟨rfl, balloc (Below.refl _ w) b1⟩
  · go_wp2_with fail
    refine (c_toMsg _ _ _ _ _ _ _ _ _ _ _).mono ?_
    rintro e w2 ⟨rfl, h2⟩
    have b2 := btrans b1 h2
    clear hc hf
    obtain ⟨hc, hf⟩ := bcell b2
    go_wp2_with fail
    refine (s_MsgRight _ _ _ _ _ _ _ _ _ _ _ hs').mono ?_
    rintro e w3 ⟨rfl, h3⟩
    have b3 := btrans b2 h3
    clear hc hf
    obtain ⟨hc, hf⟩ := bcell b3
    go_wp2_with fail
    refine (c_toMsg _ _ _ _ _ _ _ _ _ _ _).mono ?_
    rintro e w4 ⟨rfl, h4⟩
    have b4 := btrans b3 h4
    clear hc hf
    go_wp2_with fail
    refine (c_MsgRight _ _ _ _ _ _ _ _ _ _ _ hs').mono ?_
    rintro e w5 ⟨rfl, h5⟩
    have b5 := btrans b4 h5
    go_wp2
    all_goals go_ret
    all_goals exact ⟨by simp, balloc (Below.refl _ w) b5⟩
end Go.Proofs.Ytlnmpaigojmahaa.C
