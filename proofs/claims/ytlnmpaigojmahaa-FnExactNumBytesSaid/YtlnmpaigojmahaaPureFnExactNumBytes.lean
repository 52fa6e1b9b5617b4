/- The program's NumBytes answers what the reference's answers, for every number. No condition. -/
import Derived.Test.YtlnmpaigojmahaaPFnExactNumBytesx1
namespace Go.Proofs.Ytlnmpaigojmahaa.Pure
open Go.RowKit Go.Proofs.Ytlnmpaigojmahaa.PFnExactNumBytes Go.Proofs.YtlnmpaigojmahaaW.PrintWords Go.Proofs.YtlnmpaigojmahaaW.PrintLast

theorem nb_same (k : Nat) : ∀ (x : Int) (l : List Int), impl_NumBytes.l0 k x l = spec_NumBytes.l0 k x l := by
  induction k with
  | zero => intro x l; simp only [impl_NumBytes.l0, spec_NumBytes.l0]
  | succ k ih => intro x l; simp only [impl_NumBytes.l0, spec_NumBytes.l0, ih]

theorem nb_step {x : Int} (h : 128 ≤ x) (h2 : x ≤ 9223372036854775807) : wrap64 (Int.tdiv x 128) = x / 128 := by
  rw [Int.tdiv_eq_ediv_of_nonneg (by omega)]
  unfold wrap64
  omega

theorem nb_ends (d : Nat) : ∀ (x : Int) (l : List Int), 0 ≤ x → x ≤ 9223372036854775807 → x < 128 ^ d → l.length + d < 140737488355328 → ∃ r, spec_NumBytes.l0 (d + 1) x l = some r := by
  induction d with
  | zero =>
    intro x l h0 hx hd hl
    have : x = 0 := by simp at hd; omega
    subst this
    refine ⟨strOfNums (l ++ [0 % 256]), ?_⟩
    rw [spec_NumBytes.l0]
    rw [if_neg (by omega), if_pos (by omega)]
  | succ d ih =>
    intro x l h0 hx hd hl
    by_cases h : x ≥ 128
    · obtain ⟨r, hr⟩ := ih (x / 128) (l ++ [(wrap64 ((Int.tmod x 128) + 128)) % 256]) (by omega) (by omega) (by rw [Int.pow_succ] at hd; omega) (by simp; omega)
      refine ⟨r, ?_⟩
      rw [spec_NumBytes.l0]
      rw [if_pos h, if_pos (by omega), nb_step h hx]
      exact hr
    · refine ⟨strOfNums (l ++ [x % 256]), ?_⟩
      rw [spec_NumBytes.l0]
      rw [if_neg h, if_pos (by omega)]

theorem FnExactNumBytes : laws_FnExactNumBytes.Pure := by
  intro a0 h0
  have hb : a0 ≤ 9223372036854775807 := by
    simp only [Lit.wf, IntKind.min, IntKind.max, IntKind.signed, IntKind.bits, Bool.and_eq_true, decide_eq_true_eq, if_true] at h0
    omega
  refine ⟨11, ?_⟩
  unfold laws_FnExactNumBytes.f spec_NumBytes.f impl_NumBytes.f
  by_cases hn : a0 < 0
  · rw [if_pos hn, if_pos hn]; simp
  · obtain ⟨r, hr⟩ := nb_ends 10 a0 [] (by omega) hb (by omega) (by simp)
    rw [if_neg hn, if_neg hn, nb_same, hr]
    simp

end Go.Proofs.Ytlnmpaigojmahaa.Pure
