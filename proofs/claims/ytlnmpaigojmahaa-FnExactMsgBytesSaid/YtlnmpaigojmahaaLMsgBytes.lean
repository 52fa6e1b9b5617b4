/- The law FnExactMsgBytes, walked: both tell of a message the same bytes. No condition. -/
import Derived.Test.YtlnmpaigojmahaaLMsgRight
import Derived.Test.YtlnmpaigojmahaaMsgBS
import Derived.Test.YtlnmpaigojmahaaOFnExactMsgBytes
namespace Go.Proofs.Ytlnmpaigojmahaa.C
open Go.RowKit Go.Proofs.Ytlnmpaigojmahaa.Rd
set_option maxRecDepth 100000
set_option linter.unusedVariables false
theorem l_FnExactMsgBytes : OFnExactMsgBytes.Walks := by
  rintro ⟨k, id, seq, g, wa, we, am, un, co, s⟩ w ⟨_, _, _, _, _, _, _, _, _, hs⟩
  have hs' : s.size ≤ 9223372036854775807 := hs
  clear hs
  have hu := Try.underlying38
  go_enter Try.func11, Try.ntmps11
  go_wp2_with fail
  refine (c_szMsg _ _ _ _ _ _ _ _ _ _ _ _ hs' (by omega) (by omega)).mono ?_
  rintro e w1 ⟨⟨n, rfl⟩, b1⟩
  obtain ⟨hc, hf⟩ := bcell b1
  by_cases hn : n < 0
  · go_wp2
    go_ret
    exact ⟨rfl, balloc (Below.refl _ w) b1⟩
  · go_wp2_with fail
    refine (c_toMsg _ _ _ _ _ _ _ _ _ _ _).mono ?_
    rintro e w2 ⟨rfl, h2⟩
    have b2 := btrans b1 h2
    clear hc hf
    obtain ⟨hc, hf⟩ := bcell b2
    go_wp2_with fail
    refine (s_MsgBytes _ _ _ _ _ _ _ _ _ _ _ hs').mono ?_
    rintro e w3 ⟨rfl, h3⟩
    have b3 := btrans b2 h3
    clear hc hf
    obtain ⟨hc, hf⟩ := bcell b3
    go_wp2_with fail
    refine (c_toMsg _ _ _ _ _ _ _ _ _ _ _).mono ?_
    rintro e w4 ⟨rfl, h4⟩
    have b4 := btrans b3 h4
    clear hc hf
    go_wp2_with fail
    refine (c_MsgBytes _ _ _ _ _ _ _ _ _ _ _ hs').mono ?_
    rintro e w5 ⟨rfl, h5⟩
    have b5 := btrans b4 h5
    go_wp2
    all_goals go_ret
    all_goals exact ⟨by simp, balloc (Below.refl _ w) b5⟩
end Go.Proofs.Ytlnmpaigojmahaa.C
