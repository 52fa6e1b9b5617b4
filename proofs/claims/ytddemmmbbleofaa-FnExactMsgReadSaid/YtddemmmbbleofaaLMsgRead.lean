/- The law FnExactMsgRead, walked: both read of a text the same. No condition. -/
import Derived.Test.YtddemmmbbleofaaMsgE
import Derived.Test.YtddemmmbbleofaaOFnExactMsgRead
namespace Go.Proofs.Ytddemmmbbleofaa.C
open Go.RowKit Go.Proofs.Ytddemmmbbleofaa.Rd
set_option maxRecDepth 100000
set_option linter.unusedVariables false
attribute [local go_sem ↓] Go.wp_at_zero Go.wp_at_succ
theorem l_FnExactMsgRead : OFnExactMsgRead.Walks := by
  intro t w ht
  have ht' : t.size ≤ 9223372036854775807 := ht
  clear ht
  have hu := Try.underlying46
  by_cases h : t.size ≤ 1048576
  · have b1 : decide ((1048576 : Int) < t.size) = false := decide_eq_false (by omega)
    obtain ⟨m, n, c, e⟩ := readF_form t
    have HE : Hid (readF t = #[.int .i64 m.k, .int .i64 m.id, .int .i64 m.seq, .int .i64 m.g, .int .i64 m.wa, .int .i64 m.we, .int .i64 m.am, .int .i64 m.un, .int .i64 m.co, .string m.note, .int .i64 n, .int .i64 c]) := Lib.hid e
    clear e
    go_enter Try.func5, Try.ntmps5
    go_wp2_with fail
    refine (s_MsgRead _ _ h).mono ?_
    rintro e w1 ⟨rfl, h1⟩
    rw [HE.out]
    go_wp2_with fail
    refine (c_MsgRead _ _ h).mono ?_
    rintro e w2 ⟨rfl, h2⟩
    rw [HE.out]
    have B1 := (Blk.new (Nat.zero_le _) #[.int .i64 m.k, .int .i64 m.id, .int .i64 m.seq, .int .i64 m.g, .int .i64 m.wa, .int .i64 m.we, .int .i64 m.am, .int .i64 m.un, .int .i64 m.co, .string m.note, .int .i64 n, .int .i64 c] 46).keep h2
    have b2 := ((h1.alloc h1.size (.cells #[.int .i64 m.k, .int .i64 m.id, .int .i64 m.seq, .int .i64 m.g, .int .i64 m.wa, .int .i64 m.we, .int .i64 m.am, .int .i64 m.un, .int .i64 m.co, .string m.note, .int .i64 n, .int .i64 c] 46))).trans (h2.mono (by have := h1.size; simp; omega))
    have HB := Lib.hid B1
    clear B1
    go_wp2_with ((with_reducible refine at_load (ty := 46) (x := .tmp 3) ?_); refine wpl_load_row rfl 46 (.tmp 3) rfl w1.heap.size rfl (HB.out.keep ((Below.refl _ _).alloc (Nat.le_refl _) _)) rfl (by kernel_rfl) hu rfl ?_)
    refine (c_eqMsgOut m n c _).mono ?_
    rintro e w3 ⟨rfl, h3⟩
    go_wp2
    go_ret
    exact ⟨rfl, (b2.alloc b2.size _).trans (h3.mono (by have := b2.size; simp; omega))⟩
  · have b1 : decide ((1048576 : Int) < t.size) = true := decide_eq_true (by omega)
    go_enter Try.func5, Try.ntmps5
    go_wp2
    go_ret
    exact ⟨rfl, Below.refl _ _⟩
end Go.Proofs.Ytddemmmbbleofaa.C
