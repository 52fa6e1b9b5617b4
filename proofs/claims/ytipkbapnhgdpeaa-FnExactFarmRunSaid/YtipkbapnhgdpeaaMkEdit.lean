/- Slices of Edits are marked, and their marks are found. No condition. -/
import Derived.Test.YtipkbapnhgdpeaaMkP
namespace Go.Proofs.Ytipkbapnhgdpeaa.C
open Go.RowKit
set_option maxRecDepth 100000
set_option linter.unusedVariables false
set_option linter.unusedSimpArgs false
attribute [local go_sem ↓] Go.wp_at_zero Go.wp_at_succ
set_option maxHeartbeats 4000000 in
theorem c_markEditS (g n c B : Nat) (k : Int) (F : Nat → Int) (w : World) (h : FlatP w B g (n * 5) F 56) (hn : n ≤ 2000000) (h0 : 0 ≤ k) (h1 : k ≤ 100000000) :
    Calls Try.prog 49 #[.slice (some ⟨g, 0, none⟩) n c, .int .i64 k] w fun e w' => e = .returned (.int .i64 (k + n * 5)) ∧ FlatP w' B g (n * 5) (fun p => k + p) 56 ∧ w.grownBy w' (some g) := by
  have H := Lib.hid h
  clear h
  have hg0 := Lib.hid (World.grownBy.refl w (some g))
  go_enter Try.func49, Try.ntmps49
  go_wp2_with fail
  go_loopw [1, 5] (fun v1 v5 wr => ∃ (i : Nat) (F' : Nat → Int), i ≤ n ∧ v1 = .int .i64 (k + i * 5) ∧ v5 = .int .i64 i ∧ Hid (FlatP wr B g (n * 5) F' 56) ∧ Hid (∀ p, p < i * 5 → F' p = k + p) ∧ Hid (w.grownBy wr (some g))) (fun v1 v5 _ => n - (intOf v5).toNat)
  case atStart => exact ⟨0, F, by omega, int_eq (by omega), rfl, H, Lib.hid (by intro p hp; omega), hg0⟩
  case round =>
    obtain ⟨i, F', hi, rfl, rfl, KF, KO, KG⟩ := hrel
    clear hg0
    by_cases h5 : i < n
    · have b1 : decide ((i : Int) < (n : Int)) = true := decide_eq_true (by omega)
      have y0 := KF.out.cell (p := i * 5) (by omega)
      have f0 := KF.out.frozen (i * 5)
      have y1 := KF.out.cell (p := i * 5 + 1) (by omega)
      have f1 := KF.out.frozen (i * 5 + 1)
      have y2 := KF.out.cell (p := i * 5 + 2) (by omega)
      have f2 := KF.out.frozen (i * 5 + 2)
      have y3 := KF.out.cell (p := i * 5 + 3) (by omega)
      have f3 := KF.out.frozen (i * 5 + 3)
      have y4 := KF.out.cell (p := i * 5 + 4) (by omega)
      have f4 := KF.out.frozen (i * 5 + 4)
      go_wp2_with fail
      go_roundw
      case rel =>
        refine ⟨i + 1, _, by omega, int_eq (by omega), by go_num, Lib.hid (((((KF.out.set (p0 := i * 5) (by omega) (k + i * 5)).set (p0 := i * 5 + 1) (by omega) (k + i * 5 + 1)).set (p0 := i * 5 + 2) (by omega) (k + i * 5 + 1 + 1)).set (p0 := i * 5 + 3) (by omega) (k + i * 5 + 1 + 1 + 1)).set (p0 := i * 5 + 4) (by omega) (k + i * 5 + 1 + 1 + 1 + 1)), Lib.hid ?_, Lib.hid (only_setCell (only_setCell (only_setCell (only_setCell (only_setCell KG.out (p := ⟨g, i * 5, none⟩) (.inl rfl) (.int .i64 (k + i * 5))) (p := ⟨g, i * 5 + 1, none⟩) (.inl rfl) (.int .i64 (k + i * 5 + 1))) (p := ⟨g, i * 5 + 2, none⟩) (.inl rfl) (.int .i64 (k + i * 5 + 1 + 1))) (p := ⟨g, i * 5 + 3, none⟩) (.inl rfl) (.int .i64 (k + i * 5 + 1 + 1 + 1))) (p := ⟨g, i * 5 + 4, none⟩) (.inl rfl) (.int .i64 (k + i * 5 + 1 + 1 + 1 + 1)))⟩
        intro p hp
        try dsimp only
        repeat' split
        all_goals first | omega | (exact KO.out p (by omega))
      case measure => simp [intOf]; omega
    · obtain rfl : i = n := by omega
      have b1 : decide ((i : Int) < (i : Int)) = false := decide_eq_false (by omega)
      go_wp2_with fail
      go_ret
      exact ⟨rfl, KF.out.congr KO.out, KG.out⟩
theorem c_markEditS0 (A : Option Addr) (c : Nat) (k : Int) (w : World) : Calls Try.prog 49 #[.slice A 0 c, .int .i64 k] w fun e w' => e = .returned (.int .i64 k) ∧ w = w' := by
  go_enter Try.func49, Try.ntmps49
  go_wp2_with fail
  refine wp_loop_rounds 1 ?_
  rw [rounds_succ]
  go_wp2
  go_ret
  exact ⟨rfl, rfl⟩
end Go.Proofs.Ytipkbapnhgdpeaa.C
