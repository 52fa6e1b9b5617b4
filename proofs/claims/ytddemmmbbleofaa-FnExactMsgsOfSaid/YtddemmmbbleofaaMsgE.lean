/- Messages read: MsgRead of both, and the comparison of outcomes. No condition. -/
import Derived.Test.YtddemmmbbleofaaMsgI
namespace Go.Proofs.Ytddemmmbbleofaa.C
open Go.RowKit
set_option maxRecDepth 100000
set_option linter.unusedVariables false
set_option linter.unusedSimpArgs false
attribute [local go_sem ↓] Go.wp_at_zero Go.wp_at_succ
theorem tailO_form (t : ByteArray) (u : Nat) : ∃ m n c, tailO t u = outC m n c := by
  unfold tailO
  split
  · exact ⟨_, _, _, rfl⟩
  · exact ⟨_, _, _, rfl⟩
theorem outF_form (t : ByteArray) : ∃ m n c, outF t = outC m n c := by
  unfold outF
  split
  · exact ⟨_, _, _, rfl⟩
  · split
    · exact ⟨_, _, _, rfl⟩
    · simp only []
      split
      · exact ⟨_, _, _, rfl⟩
      · split
        · exact ⟨_, _, _, rfl⟩
        · split
          · exact tailO_form _ _
          · exact ⟨_, _, _, rfl⟩
/-- What MsgRead answers. -/
noncomputable def readF (t : ByteArray) : Array Value := if 20000 < t.size then outC M0 0 2 else outF t
theorem readF_form (t : ByteArray) : ∃ m n c, readF t = outC m n c := by
  unfold readF
  split
  · exact ⟨_, _, _, rfl⟩
  · exact outF_form t
theorem s_MsgRead (t : ByteArray) (w : World) (ht : t.size ≤ 1048576) : Calls Try.prog 21 #[.string t] w fun e w' => e = .returned (.agg (readF t)) ∧ Below w.heap.size w w' := by
  have hu := Try.underlying46
  by_cases h : 20000 < t.size
  · rw [readF, if_pos h]
    have b1 : decide ((20000 : Int) < t.size) = true := decide_eq_true (by omega)
    clear h
    go_enter Try.func21, Try.ntmps21
    go_wp2_with fail
    exact bodyPost_ret (v := .agg (outC M0 0 2)) (results_cell_row rfl _ _ _ _ _ _ _ rfl (heap_alloc_new _ _) hu rfl (by kernel_rfl)) rfl ⟨rfl, (Below.refl _ w).alloc (Nat.le_refl _) _⟩
  · rw [readF, if_neg h]
    have b1 : decide ((20000 : Int) < t.size) = false := decide_eq_false (by omega)
    have R0 : Room (w.alloc (.cells #[.int .i64 0, .int .i64 0, .int .i64 0, .int .i64 0, .int .i64 0, .int .i64 0, .int .i64 0, .int .i64 0, .int .i64 0, .string ⟨#[]⟩, .int .i64 0, .int .i64 0] 46)) w.heap.size w.heap.size 12 46 := Room.new (Nat.le_refl _) rfl
    have hs : t.size ≤ 20000 := by omega
    clear h ht
    go_enter Try.func21, Try.ntmps21
    go_wp2_with fail
    refine (s_l11Read _ _ hs).mono ?_
    rintro e w1 ⟨rfl, b⟩
    have R1 := Lib.hid (R0.keep b)
    obtain ⟨m, n, c, e⟩ := outF_form t
    rw [e]
    have HE := Lib.hid e
    clear e R0
    go_wp2_with ((with_reducible refine at_store (ty := 46) (y := .tmp 8) ?_); refine wpl_store_row rfl 46 (.tmp 2) (.tmp 8) rfl w.heap.size #[.int .i64 m.k, .int .i64 m.id, .int .i64 m.seq, .int .i64 m.g, .int .i64 m.wa, .int .i64 m.we, .int .i64 m.am, .int .i64 m.un, .int .i64 m.co, .string m.note, .int .i64 n, .int .i64 c] rfl rfl R1.out rfl (by kernel_rfl) (by simp [Value.oneCell']) ?_; intro hout)
    exact bodyPost_ret (v := .agg (outC m n c)) (results_cell_row rfl _ _ _ _ _ _ _ rfl hout.2 hu rfl (by kernel_rfl)) rfl ⟨by rw [HE.out], below_setRow (balloc (Below.refl _ w) b) (by omega) _⟩
theorem c_MsgRead (t : ByteArray) (w : World) (ht : t.size ≤ 1048576) : Calls Try.prog 22 #[.string t] w fun e w' => e = .returned (.agg (readF t)) ∧ Below w.heap.size w w' := by
  have hu := Try.underlying46
  by_cases h : 20000 < t.size
  · rw [readF, if_pos h]
    have b1 : decide ((20000 : Int) < t.size) = true := decide_eq_true (by omega)
    clear h
    go_enter Try.func22, Try.ntmps22
    go_wp2_with fail
    exact bodyPost_ret (v := .agg (outC M0 0 2)) (results_cell_row rfl _ _ _ _ _ _ _ rfl (heap_alloc_new _ _) hu rfl (by kernel_rfl)) rfl ⟨rfl, (Below.refl _ w).alloc (Nat.le_refl _) _⟩
  · rw [readF, if_neg h]
    have b1 : decide ((20000 : Int) < t.size) = false := decide_eq_false (by omega)
    have R0 : Room (w.alloc (.cells #[.int .i64 0, .int .i64 0, .int .i64 0, .int .i64 0, .int .i64 0, .int .i64 0, .int .i64 0, .int .i64 0, .int .i64 0, .string ⟨#[]⟩, .int .i64 0, .int .i64 0] 46)) w.heap.size w.heap.size 12 46 := Room.new (Nat.le_refl _) rfl
    have hs : t.size ≤ 20000 := by omega
    clear h ht
    go_enter Try.func22, Try.ntmps22
    go_wp2_with fail
    refine (c_msgRead _ _ hs).mono ?_
    rintro e w1 ⟨rfl, b⟩
    have R1 := Lib.hid (R0.keep b)
    obtain ⟨m, n, c, e⟩ := outF_form t
    rw [e]
    have HE := Lib.hid e
    clear e R0
    go_wp2_with ((with_reducible refine at_store (ty := 46) (y := .tmp 8) ?_); refine wpl_store_row rfl 46 (.tmp 2) (.tmp 8) rfl w.heap.size #[.int .i64 m.k, .int .i64 m.id, .int .i64 m.seq, .int .i64 m.g, .int .i64 m.wa, .int .i64 m.we, .int .i64 m.am, .int .i64 m.un, .int .i64 m.co, .string m.note, .int .i64 n, .int .i64 c] rfl rfl R1.out rfl (by kernel_rfl) (by simp [Value.oneCell']) ?_; intro hout)
    exact bodyPost_ret (v := .agg (outC m n c)) (results_cell_row rfl _ _ _ _ _ _ _ rfl hout.2 hu rfl (by kernel_rfl)) rfl ⟨by rw [HE.out], below_setRow (balloc (Below.refl _ w) b) (by omega) _⟩
theorem c_eqMsg (a0 a1 a2 a3 a4 a5 a6 a7 a8 : Int) (s : ByteArray) (w : World) :
    Calls Try.prog 61 #[.agg #[.int .i64 a0, .int .i64 a1, .int .i64 a2, .int .i64 a3, .int .i64 a4, .int .i64 a5, .int .i64 a6, .int .i64 a7, .int .i64 a8, .string s], .agg #[.int .i64 a0, .int .i64 a1, .int .i64 a2, .int .i64 a3, .int .i64 a4, .int .i64 a5, .int .i64 a6, .int .i64 a7, .int .i64 a8, .string s]] w fun e w' =>
      e = .returned (.bool true) ∧ Below w.heap.size w w' := by
  have hu2 := Try.underlying28
  go_enter Try.func61, Try.ntmps61
  go_wp2
  go_ret
  exact ⟨rfl, ((Below.refl _ _).alloc (Nat.le_refl _) _).alloc (by simp) _⟩
theorem c_eqMsgOut (m : M) (n c : Int) (w : World) : Calls Try.prog 23 #[.agg (outC m n c), .agg (outC m n c)] w fun e w' => e = .returned (.bool true) ∧ Below w.heap.size w w' := by
  have hu := Try.underlying46
  have hu3 := Try.underlying28
  unfold outC
  go_enter Try.func23, Try.ntmps23
  go_wp2_with fail
  refine (c_eqMsg _ _ _ _ _ _ _ _ _ _ _).mono ?_
  rintro e w1 ⟨rfl, b1⟩
  obtain ⟨hc, hf⟩ := bcell b1
  go_wp2
  go_ret
  exact ⟨rfl, (((Below.refl _ w).alloc (Nat.le_refl _) _).alloc (by simp) _).trans (b1.mono (by simp; omega))⟩
end Go.Proofs.Ytddemmmbbleofaa.C
