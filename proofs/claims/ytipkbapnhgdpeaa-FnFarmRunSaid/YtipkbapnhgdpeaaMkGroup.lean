/- Slices of Groups are marked, and their marks are found. No condition. -/
import Derived.Test.YtipkbapnhgdpeaaMkP
namespace Go.Proofs.Ytipkbapnhgdpeaa.C
open Go.RowKit
set_option maxRecDepth 100000
set_option linter.unusedVariables false
set_option linter.unusedSimpArgs false
attribute [local go_sem ↓] Go.wp_at_zero Go.wp_at_succ
set_option maxHeartbeats 4000000 in
theorem c_markGroupS (g n c B : Nat) (k : Int) (F : Nat → Int) (w : World) (h : FlatP w B g (n * 4) F 114) (hn : n ≤ 2000000) (h0 : 0 ≤ k) (h1 : k ≤ 100000000) :
    Calls Try.prog 96 #[.slice (some ⟨g, 0, none⟩) n c, .int .i64 k] w fun e w' => e = .returned (.int .i64 (k + n * 4)) ∧ FlatP w' B g (n * 4) (fun p => k + p) 114 ∧ w.grownBy w' (some g) := by
  have H := Lib.hid h
  clear h
  have hg0 := Lib.hid (World.grownBy.refl w (some g))
  go_enter Try.func96, Try.ntmps96
  go_wp2_with fail
  go_loopw [1, 5] (fun v1 v5 wr => ∃ (i : Nat) (F' : Nat → Int), i ≤ n ∧ v1 = .int .i64 (k + i * 4) ∧ v5 = .int .i64 i ∧ Hid (FlatP wr B g (n * 4) F' 114) ∧ Hid (∀ p, p < i * 4 → F' p = k + p) ∧ Hid (w.grownBy wr (some g))) (fun v1 v5 _ => n - (intOf v5).toNat)
  case atStart => exact ⟨0, F, by omega, int_eq (by omega), rfl, H, Lib.hid (by intro p hp; omega), hg0⟩
  case round =>
    obtain ⟨i, F', hi, rfl, rfl, KF, KO, KG⟩ := hrel
    clear hg0
    by_cases h5 : i < n
    · have b1 : decide ((i : Int) < (n : Int)) = true := decide_eq_true (by omega)
      have y0 := KF.out.cell (p := i * 4) (by omega)
      have f0 := KF.out.frozen (i * 4)
      have y1 := KF.out.cell (p := i * 4 + 1) (by omega)
      have f1 := KF.out.frozen (i * 4 + 1)
      have y2 := KF.out.cell (p := i * 4 + 2) (by omega)
      have f2 := KF.out.frozen (i * 4 + 2)
      have y3 := KF.out.cell (p := i * 4 + 3) (by omega)
      have f3 := KF.out.frozen (i * 4 + 3)
      go_wp2_with fail
      go_roundw
      case rel =>
        refine ⟨i + 1, _, by omega, int_eq (by omega), by go_num, Lib.hid ((((KF.out.set (p0 := i * 4) (by omega) (k + i * 4)).set (p0 := i * 4 + 1) (by omega) (k + i * 4 + 1)).set (p0 := i * 4 + 2) (by omega) (k + i * 4 + 1 + 1)).set (p0 := i * 4 + 3) (by omega) (k + i * 4 + 1 + 1 + 1)), Lib.hid ?_, Lib.hid (only_setCell (only_setCell (only_setCell (only_setCell KG.out (p := ⟨g, i * 4, none⟩) (.inl rfl) (.int .i64 (k + i * 4))) (p := ⟨g, i * 4 + 1, none⟩) (.inl rfl) (.int .i64 (k + i * 4 + 1))) (p := ⟨g, i * 4 + 2, none⟩) (.inl rfl) (.int .i64 (k + i * 4 + 1 + 1))) (p := ⟨g, i * 4 + 3, none⟩) (.inl rfl) (.int .i64 (k + i * 4 + 1 + 1 + 1)))⟩
        intro p hp
        try dsimp only
        repeat' split
        all_goals first | omega | (exact KO.out p (by omega))
      case measure => simp [intOf]; omega
    · obtain rfl : i = n := by omega
      have b1 : decide ((i : Int) < (i : Int)) = false := decide_eq_false (by omega)
      go_wp2_with fail
      go_ret
      exact ⟨rfl, KF.out.congr KO.out, KG.out⟩
theorem c_markGroupS0 (A : Option Addr) (c : Nat) (k : Int) (w : World) : Calls Try.prog 96 #[.slice A 0 c, .int .i64 k] w fun e w' => e = .returned (.int .i64 k) ∧ w = w' := by
  go_enter Try.func96, Try.ntmps96
  go_wp2_with fail
  refine wp_loop_rounds 1 ?_
  rw [rounds_succ]
  go_wp2
  go_ret
  exact ⟨rfl, rfl⟩
set_option maxHeartbeats 4000000 in
theorem c_heldGroupS (A : Option Addr) (n c : Nat) (k : Int) (w : World) (h : Tab 4 w A n (fun i j => k + (i * 4 + j : Nat))) (hn : n ≤ 2000000) (h0 : 0 ≤ k) (h1 : k ≤ 100000000) :
    Calls Try.prog 127 #[.slice A n c, .int .i64 k] w fun e w' => e = .returned (.int .i64 (k + n * 4)) ∧ Below w.heap.size w w' := by
  have H := Lib.hid h
  clear h
  have hb0 := Lib.hid (Below.refl w.heap.size w)
  go_enter Try.func127, Try.ntmps127
  go_wp2_with fail
  go_loopw [1, 5] (fun v1 v5 wr => ∃ i : Nat, i ≤ n ∧ v1 = .int .i64 (k + i * 4) ∧ v5 = .int .i64 i ∧ Hid (Below w.heap.size w wr)) (fun v1 v5 _ => n - (intOf v5).toNat)
  case atStart => exact ⟨0, by omega, int_eq (by omega), rfl, hb0⟩
  case round =>
    obtain ⟨i, hi, rfl, rfl, KB⟩ := hrel
    clear hb0
    by_cases h5 : i < n
    · have b1 : decide ((i : Int) < (n : Int)) = true := decide_eq_true (by omega)
      obtain ⟨g1, o1, rfl, hg1, hx⟩ := (H.out.keep KB.out).at (by omega)
      have x0 := (hx i 0 h5 (by omega)).trans (congrArg some (int_eq (show k + ((i * 4 + 0 : Nat) : Int) = k + i * 4 by omega)))
      rw [Nat.add_zero] at x0
      have x1 := (hx i 1 h5 (by omega)).trans (congrArg some (int_eq (show k + ((i * 4 + 1 : Nat) : Int) = k + i * 4 + 1 by omega)))
      have x2 := (hx i 2 h5 (by omega)).trans (congrArg some (int_eq (show k + ((i * 4 + 2 : Nat) : Int) = k + i * 4 + 1 + 1 by omega)))
      have x3 := (hx i 3 h5 (by omega)).trans (congrArg some (int_eq (show k + ((i * 4 + 3 : Nat) : Int) = k + i * 4 + 1 + 1 + 1 by omega)))
      clear hx
      go_wp2_with fail
      go_roundw
      case rel => exact ⟨i + 1, by omega, int_eq (by omega), by go_num, KB⟩
      case measure => simp [intOf]; omega
    · obtain rfl : i = n := by omega
      have b1 : decide ((i : Int) < (i : Int)) = false := decide_eq_false (by omega)
      go_wp2_with fail
      go_ret
      exact ⟨rfl, KB.out⟩
end Go.Proofs.Ytipkbapnhgdpeaa.C
