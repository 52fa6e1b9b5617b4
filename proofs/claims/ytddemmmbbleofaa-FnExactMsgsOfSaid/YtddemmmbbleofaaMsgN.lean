/- Reading numbers: the reference's reader. No condition. -/
import Derived.Test.YtddemmmbbleofaaMsgBS
import Derived.Test.YtddemmmbbleofaaLaw
import Derived.LoopTactic
namespace Go.Proofs.Ytddemmmbbleofaa.C
open Go.RowKit
set_option maxRecDepth 100000
set_option linter.unusedVariables false
set_option linter.unusedSimpArgs false
attribute [local go_sem ↓] Go.wp_at_zero Go.wp_at_succ
open Go.Proofs.YtddemmmbbleofaaW.PrintWords (bt bt_range bt_at)
/-- What the reference reads: the number, the rest, whether it was wrong. -/
def numF : Nat → ByteArray → Int → Nat → Int × ByteArray × Bool
  | 0, t, _, _ => (0, t, true)
  | k + 1, t, n, i =>
    if i < t.size then
      (if bt t i < 128 then (n + bt t i % 128 * 128 ^ i, t.extract (i + 1) t.size, decide (nb (n + bt t i % 128 * 128 ^ i) ≠ t.extract 0 (i + 1)))
       else numF k t (n + bt t i % 128 * 128 ^ i) (i + 1))
    else (0, t, true)
theorem pow128 (i : Nat) (h : i < 9) : (1 : Int) ≤ 128 ^ i ∧ (128 : Int) ^ i ≤ 72057594037927936 ∧ (128 : Int) ^ (i + 1) = 128 ^ i * 128 := by
  refine ⟨?_, ?_, Int.pow_succ ..⟩ <;> (have : i = 0 ∨ i = 1 ∨ i = 2 ∨ i = 3 ∨ i = 4 ∨ i = 5 ∨ i = 6 ∨ i = 7 ∨ i = 8 := by omega) <;> rcases this with h | h | h | h | h | h | h | h | h <;> subst h <;> decide
theorem bl_eq (y z : ByteArray) : (y.toList == z.toList) = decide (y = z) := by
  by_cases h : y = z
  · subst h; simp
  · rw [decide_eq_false h]
    refine beq_eq_false_iff_ne.mpr fun e => h ?_
    rw [ByteArray.toList_eq, ByteArray.toList_eq] at e
    cases y; cases z
    exact congrArg ByteArray.mk (Array.toList_inj.mp e)
def NumP (B g : Nat) (t : ByteArray) (b : Bool) (w : World) (e : Ending) (w' : World) : Prop :=
  e = .returned (.int .i64 (numF 9 t 0 0).1) ∧ Blk w' B g #[.string (numF 9 t 0 0).2.1, .bool (b || (numF 9 t 0 0).2.2)] 112 ∧ w.grownBy w' (some g)
set_option maxHeartbeats 2000000 in
theorem s_num (B g : Nat) (t : ByteArray) (b : Bool) (w : World) (hB : Blk w B g #[.string t, .bool b] 112) (ht : t.size ≤ 20000) :
    Calls Try.prog 92 #[.pointer (some ⟨g, 0, none⟩)] w (NumP B g t b w) := by
  have hu := Try.underlying112
  have HB := Lib.hid hB
  clear hB
  have e0 := (HB.out.cell 0).trans (by rfl)
  go_enter Try.func92, Try.ntmps92
  go_wp2_with fail
  go_loopw [3, 4, 5] (fun n' m' i' wr => ∃ (i : Nat) (n m : Int), i ≤ 9 ∧ i' = .int .i64 i ∧ n' = .int .i64 n ∧ m' = .int .i64 m ∧ (i < 9 → m = 128 ^ i) ∧ 0 ≤ n ∧ n < 128 ^ i ∧ numF 9 t 0 0 = numF (9 - i) t n i ∧ wr = w) (fun _ _ i' _ => 9 - (intOf i').toNat)
  case atStart => exact ⟨0, 0, 1, by omega, rfl, rfl, rfl, fun _ => rfl, by omega, by decide, rfl, rfl⟩
  case round =>
    obtain ⟨i, n, m, hi, rfl, rfl, rfl, hm, n0, n1, hF, rfl⟩ := hrel
    by_cases hlt : i < t.size
    · by_cases h9 : i < 9
      · have b1 : decide ((i : Int) < (t.size : Int)) = true := decide_eq_true (by omega)
        have b2 : decide ((i : Int) < 9) = true := decide_eq_true (by omega)
        obtain rfl := hm h9
        obtain ⟨p0, p1, p2⟩ := pow128 i h9
        have hc : ((t[i]'hlt).toNat : Int) = bt t i := bt_at t i (by simpa using hlt)
        obtain ⟨c0, c1⟩ := bt_range t i
        have hw : wrap64 (bt t i) = bt t i := by unfold wrap64; omega
        generalize hcc : bt t i = c at hc c0 c1 hw
        generalize hp : (128 : Int) ^ i = p at *
        have hm1 : c % 128 * p ≤ 127 * p := Int.mul_le_mul_of_nonneg_right (by omega) (by omega)
        have hm0 : 0 ≤ c % 128 * p := Int.mul_nonneg (by omega) (by omega)
        have w1 : wrap64 (c % 128 * p) = c % 128 * p := by unfold wrap64; omega
        have w2 : wrap64 (n + c % 128 * p) = n + c % 128 * p := by unfold wrap64; omega
        have w3 : Int.tmod c 128 = c % 128 := Int.tmod_eq_emod_of_nonneg c0
        by_cases h128 : c < 128
        · have b3 : decide (c < 128) = true := decide_eq_true h128
          have hz : numF 9 t 0 0 = (n + c % 128 * p, t.extract (i + 1) t.size, decide (nb (n + c % 128 * p) ≠ t.extract 0 (i + 1))) := by
            rw [hF, show 9 - i = (8 - i) + 1 from by omega, numF, if_pos hlt, hcc, if_pos h128, hp]
          unfold NumP
          rw [hz]
          clear hF hz hm
          have e1 := (HB.out.cell 1).trans (by rfl)
          have f1 := HB.out.frozen 1
          have x63 : n + c % 128 * p ≤ 9223372036854775807 := by omega
          have x0 : 0 ≤ n + c % 128 * p := by omega
          go_wp2_with fail
          generalize hx : n + c % 128 * p = x at *
          have sl : (i : Int) + 1 ≤ (t.size : Int) := by omega
          have sw : IntKind.i64.wrap ((i : Int) + 1) = (i : Int) + 1 := by rw [IntKind.wrap_i64]; omega
          have sn : ((i : Int) + 1).toNat = i + 1 := by omega
          have HN := Lib.hid (fun w => s_NumBytes x w x0 x63)
          generalize hy : nb x = y at *
          go_cut [] (fun wc => Blk wc B g #[.string t, .bool (b || decide (y ≠ t.extract 0 (i + 1)))] 112 ∧ wr.grownBy wc (some g))
          case first =>
            cases b
            · go_region_with (first
                | (go_at_call 62; refine (HN.out _).mono ?_; rintro e w' ⟨rfl, hb⟩; have KB := HB.out.drew.keep hb; have e0' := (KB.cell 0).trans (by rfl); have e1' := (KB.cell 1).trans (by rfl); have f1' := KB.frozen 1)
                | fail)
              all_goals (go_wp2_with fail; go_meet)
              all_goals (rw [bl_eq]; exact ⟨(KB.setc 1 _).cast (by simp), only_setCell (only_below ((Below.refl _ wr).drew.trans hb) _) (.inl rfl) _⟩)
            · go_region
              all_goals (go_wp2_with fail; go_meet; exact ⟨((HB.out.drewN _).setc 1 _).cast (by simp), only_setCell (only_drewN (World.grownBy.refl wr _) _) (.inl rfl) _⟩)
          case rest =>
            obtain ⟨hB2, hG2⟩ := hcut
            clear e0 e1 f1 HB
            have e0 := (hB2.cell 0).trans (by rfl)
            have f0 := hB2.frozen 0
            have HB2 := Lib.hid hB2
            have HG2 := Lib.hid hG2
            clear hB2 hG2
            go_wp2_with fail
            go_ret
            subst hy
            subst hx
            exact ⟨rfl, (HB2.out.setc 0 _).cast (by simp), only_setCell HG2.out (.inl rfl) _⟩
        · have b3 : decide (c < 128) = false := decide_eq_false h128
          go_wp2_with fail
          refine ⟨⟨i + 1, _, _, by omega, by go_num, rfl, rfl, fun h => ?_, by omega, by rw [p2]; omega, ?_, trivial⟩, by simp [intOf]; omega⟩
          · have := pow128 (i + 1) h
            rw [p2] at this ⊢
            unfold wrap64; omega
          · rw [hF, show 9 - i = (9 - (i + 1)) + 1 from by omega, numF, if_pos hlt, hcc, if_neg h128, hp]
      · have b1 : decide ((i : Int) < (t.size : Int)) = true := decide_eq_true (by omega)
        have b2 : decide ((i : Int) < 9) = false := decide_eq_false (by omega)
        have e1 := (HB.out.cell 1).trans (by rfl)
        have f1 := HB.out.frozen 1
        go_wp2_with fail
        go_ret
        have hz : numF 9 t 0 0 = (0, t, true) := by rw [hF, show 9 - i = 0 from by omega]; rfl
        unfold NumP
        rw [hz]
        exact ⟨rfl, (HB.out.setc 1 _).cast (by simp), only_setCell (World.grownBy.refl _ _) (.inl rfl) _⟩
    · have b1 : decide ((i : Int) < (t.size : Int)) = false := decide_eq_false (by omega)
      have e1 := (HB.out.cell 1).trans (by rfl)
      have f1 := HB.out.frozen 1
      go_wp2_with fail
      go_ret
      have hz : numF 9 t 0 0 = (0, t, true) := by
        rw [hF]
        rcases h : 9 - i with _ | k
        · rfl
        · rw [numF, if_neg hlt]
      unfold NumP
      rw [hz]
      exact ⟨rfl, (HB.out.setc 1 _).cast (by simp), only_setCell (World.grownBy.refl _ _) (.inl rfl) _⟩
end Go.Proofs.Ytddemmmbbleofaa.C
