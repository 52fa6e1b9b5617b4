/- The program's MsgSum answers what the reference's answers, for every text. No condition. -/
import Derived.Test.YtlnmpaigojmahaaPFnExactMsgSumx1
namespace Go.Proofs.Ytlnmpaigojmahaa.Pure
open Go.RowKit Go.Proofs.Ytlnmpaigojmahaa.PFnExactMsgSum Go.Proofs.YtlnmpaigojmahaaW.PrintWords Go.Proofs.YtlnmpaigojmahaaW.PrintLast

theorem ms_same (s : ByteArray) (hs : s.size ≤ 20000) (d : Nat) : ∀ (k : Nat) (v i : Int), 0 ≤ i → i ≤ s.size → (s.size : Int) - i = d → d < k →
    ∃ r, spec_l11Sum.l0 k s v i = some r ∧ impl_MsgSum.l0 k s v s.size i = some r := by
  induction d with
  | zero =>
    intro k v i h0 h1 hd hk
    obtain ⟨k, rfl⟩ : ∃ m, k = m + 1 := ⟨k - 1, by omega⟩
    refine ⟨v, ?_, ?_⟩
    · rw [spec_l11Sum.l0, if_neg (by omega)]
    · rw [impl_MsgSum.l0, if_neg (by omega)]
  | succ d ih =>
    intro k v i h0 h1 hd hk
    obtain ⟨k, rfl⟩ : ∃ m, k = m + 1 := ⟨k - 1, by omega⟩
    have hw : wrap64 (i + 1) = i + 1 := by unfold wrap64; omega
    obtain ⟨r, h2, h3⟩ := ih k (Int.tmod (wrap64 ((wrap64 (33 * v)) + (wrap64 (bt s i)))) 4294967291) (i + 1) (by omega) (by omega) (by omega) (by omega)
    refine ⟨r, ?_, ?_⟩
    · rw [spec_l11Sum.l0, if_pos (by omega), if_pos h0, hw]; exact h2
    · rw [impl_MsgSum.l0, if_pos (by omega), if_pos h0, if_pos (by omega), hw]; exact h3

theorem FnExactMsgSum : laws_FnExactMsgSum.Pure := by
  intro s hs
  by_cases h : (s.size : Int) > 20000
  · refine ⟨0, ?_⟩
    unfold laws_FnExactMsgSum.f spec_MsgSum.f impl_MsgSum.f
    rw [if_pos h, if_pos h]
    simp
  · obtain ⟨r, h1, h2⟩ := ms_same s (by omega) s.size (s.size + 1) 1 0 (by omega) (by omega) (by omega) (by omega)
    refine ⟨s.size + 1, ?_⟩
    unfold laws_FnExactMsgSum.f spec_MsgSum.f impl_MsgSum.f spec_l11Sum.f
    rw [if_neg h, if_neg h, if_neg (by omega), h1, h2]
    simp

end Go.Proofs.Ytlnmpaigojmahaa.Pure
