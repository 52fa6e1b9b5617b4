/- Lists of messages in outcomes: long texts, comparison, marks. No condition. -/
import Derived.Test.YtddemmmbbleofaaMsgV
namespace Go.Proofs.Ytddemmmbbleofaa.C
open Go.RowKit
set_option maxRecDepth 100000
set_option linter.unusedVariables false
set_option linter.unusedSimpArgs false
attribute [local go_sem ↓] Go.wp_at_zero Go.wp_at_succ
theorem c_MsgsBig (T : ByteArray) (w : World) (hT : 20000 < T.size) : Calls Try.prog 20 #[.string T] w fun e w' => e = .returned (.agg #[.slice none 0 0, .int .i64 0, .int .i64 2]) ∧ Below w.heap.size w w' := by
  have hu := Try.underlying42
  have b1 : decide ((20000 : Int) < T.size) = true := decide_eq_true (by omega)
  go_enter Try.func20, Try.ntmps20
  have R0 := Lib.hid (Room.new (w := w) (B := w.heap.size) (Nat.le_refl _) (cs := #[.slice none 0 0, .int .i64 0, .int .i64 0]) (t := 42) (n := 3) rfl)
  go_wp2_with ((with_reducible refine at_store (ty := 42) (y := .tmp 8) ?_); refine wpl_store_row rfl 42 (.tmp 2) (.tmp 8) rfl w.heap.size #[.slice none 0 0, .int .i64 0, .int .i64 2] rfl rfl R0.out rfl (by kernel_rfl) (by simp [Value.oneCell']) ?_; intro hout)
  exact bodyPost_ret (v := .agg #[.slice none 0 0, .int .i64 0, .int .i64 2]) (results_cell_row rfl _ _ _ _ _ _ _ rfl hout.2 hu rfl (by kernel_rfl)) rfl ⟨rfl, below_setRow ((Below.refl w.heap.size w).alloc (Nat.le_refl _) _) (by omega) _⟩
theorem s_MsgsBig (T : ByteArray) (w : World) (hT : 20000 < T.size) : Calls Try.prog 25 #[.string T] w fun e w' => e = .returned (.agg #[.slice none 0 0, .int .i64 0, .int .i64 2]) ∧ Below w.heap.size w w' := by
  have hu := Try.underlying42
  have b1 : decide ((20000 : Int) < T.size) = true := decide_eq_true (by omega)
  go_enter Try.func25, Try.ntmps25
  have R0 := Lib.hid (Room.new (w := w) (B := w.heap.size) (Nat.le_refl _) (cs := #[.slice none 0 0, .int .i64 0, .int .i64 0]) (t := 42) (n := 3) rfl)
  go_wp2_with ((with_reducible refine at_store (ty := 42) (y := .tmp 9) ?_); refine wpl_store_row rfl 42 (.tmp 2) (.tmp 9) rfl w.heap.size #[.slice none 0 0, .int .i64 0, .int .i64 2] rfl rfl R0.out rfl (by kernel_rfl) (by simp [Value.oneCell']) ?_; intro hout)
  exact bodyPost_ret (v := .agg #[.slice none 0 0, .int .i64 0, .int .i64 2]) (results_cell_row rfl _ _ _ _ _ _ _ rfl hout.2 hu rfl (by kernel_rfl)) rfl ⟨rfl, below_setRow ((Below.refl w.heap.size w).alloc (Nat.le_refl _) _) (by omega) _⟩
theorem c_eqMsgsOut (B1 B2 : Nat) (A1 A2 : Option Addr) (cap1 cap2 : Nat) (ms : List M) (r c : Int) (w : World) (hn : ms.length ≤ 20000) (h1 : OwnMs w B1 (.slice A1 ms.length cap1) ms) (h2 : OwnMs w B2 (.slice A2 ms.length cap2) ms) :
    Calls Try.prog 26 #[.agg #[.slice A1 ms.length cap1, .int .i64 r, .int .i64 c], .agg #[.slice A2 ms.length cap2, .int .i64 r, .int .i64 c]] w fun e w' => e = .returned (.bool true) ∧ Below w.heap.size w w' := by
  have hu := Try.underlying42
  have hal := ((Below.refl w.heap.size w).alloc (Nat.le_refl _) (.cells #[.slice A1 ms.length cap1, .int .i64 r, .int .i64 c] 42)).alloc (by simp) (.cells #[.slice A2 ms.length cap2, .int .i64 r, .int .i64 c] 42)
  have K1 := Lib.hid (h1.keep hal)
  have K2 := Lib.hid (h2.keep hal)
  have KH := Lib.hid hal
  have b1 : (r != r) = false := by simp
  have b2 : (c != c) = false := by simp
  clear h1 h2 hal
  go_enter Try.func26, Try.ntmps26
  go_wp2_with fail
  refine (c_eqMsgS _ _ _ _ _ _ _ _ hn K1.out K2.out).mono ?_
  rintro e w1 ⟨rfl, b⟩
  have KB := Lib.hid (btrans KH.out b)
  obtain ⟨hc, hf⟩ := bcell b
  go_wp2
  go_ret
  exact ⟨rfl, KB.out⟩
theorem c_heldMsgsOut (B : Nat) (A : Option Addr) (cap n : Nat) (r c : Int) (w : World) (hn : n ≤ 20000) (h : OwnMs w B (.slice A n cap) (marked n)) :
    Calls Try.prog 28 #[.agg #[.slice A n cap, .int .i64 r, .int .i64 c], .int .i64 1] w fun e w' => e = .returned (.int .i64 (10 * (n : Int) + 1)) ∧ Below w.heap.size w w' := by
  have hu := Try.underlying42
  have hal := (Below.refl w.heap.size w).alloc (Nat.le_refl _) (.cells #[.slice A n cap, .int .i64 r, .int .i64 c] 42)
  have K1 := Lib.hid (h.keep hal)
  have KH := Lib.hid hal
  have b1 : decide (10 * (n : Int) + 1 < 0) = false := decide_eq_false (by omega)
  clear h hal
  go_enter Try.func28, Try.ntmps28
  go_wp2_with fail
  refine (c_heldMsgS _ _ _ _ _ hn K1.out).mono ?_
  rintro e w1 ⟨rfl, b⟩
  have KB := Lib.hid (btrans KH.out b)
  go_wp2
  go_ret
  exact ⟨rfl, KB.out⟩
theorem c_markMsgS (B : Nat) (A : Option Addr) (cap : Nat) (ms : List M) (w : World) (hn : ms.length ≤ 20000) (h : OwnMs w B (.slice A ms.length cap) ms) :
    Calls Try.prog 65 #[.slice A ms.length cap, .int .i64 1] w fun e w' => e = .returned (.int .i64 (10 * (ms.length : Int) + 1)) ∧ OwnMs w' B (.slice A ms.length cap) (marked ms.length) ∧ w.grownBy w' (Value.slice A ms.length cap).ownBlock := by
  obtain ⟨hl, ⟨e, hn0⟩ | ⟨g, cap', cur, e, hx⟩⟩ := id h
  · obtain rfl : ms = [] := List.eq_nil_of_length_eq_zero hn0
    cases e
    clear h
    have hb := Below.refl w.heap.size w
    go_enter Try.func65, Try.ntmps65
    go_wp2_with fail
    go_loopw [1, 5] (fun v1 v5 wr => v5 = .int .i64 0 ∧ v1 = .int .i64 1 ∧ wr = w) (fun _ _ _ => 0)
    case atStart => exact ⟨rfl, rfl, rfl⟩
    case round =>
      obtain ⟨rfl, rfl, rfl⟩ := hrel
      go_wp2_with fail
      go_ret
      exact ⟨rfl, World.ownsRow_nil _ _ _ _, only_below hb _⟩
  · cases e
    exact c_markMsgS1 B g cap ms w hn h
theorem c_markMsgsOut (B : Nat) (A : Option Addr) (cap : Nat) (ms : List M) (r c : Int) (w : World) (hn : ms.length ≤ 20000) (h : OwnMs w B (.slice A ms.length cap) ms) :
    Calls Try.prog 27 #[.agg #[.slice A ms.length cap, .int .i64 r, .int .i64 c], .int .i64 1] w fun e w' => e = .returned (.int .i64 (10 * (ms.length : Int) + 1)) ∧ OwnMs w' B (.slice A ms.length cap) (marked ms.length) ∧ w.grownBy w' (Value.slice A ms.length cap).ownBlock := by
  have hu := Try.underlying42
  have hal := (Below.refl w.heap.size w).alloc (Nat.le_refl _) (.cells #[.slice A ms.length cap, .int .i64 r, .int .i64 c] 42)
  have K1 := Lib.hid (h.keep hal)
  have KH := Lib.hid (only_below hal (Value.slice A ms.length cap).ownBlock)
  clear h hal
  go_enter Try.func27, Try.ntmps27
  go_wp2_with fail
  refine (c_markMsgS _ _ _ _ _ hn K1.out).mono ?_
  rintro e w1 ⟨rfl, hO, hg⟩
  have KB := Lib.hid (KH.out.trans hg)
  have KO := Lib.hid hO
  clear hO hg
  go_wp2
  go_ret
  exact ⟨rfl, KO.out, KB.out⟩
end Go.Proofs.Ytddemmmbbleofaa.C
