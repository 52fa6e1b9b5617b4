/- The kinds of the parameters of the law FnExactMsgRight, and what its walk is to say. -/
import Derived.Test.YtlnmpaigojmahaaKind
namespace Go.Proofs.Ytlnmpaigojmahaa.OFnExactMsgRight
open Go.RowKit Go.Proofs.Ytlnmpaigojmahaa.Rd
set_option linter.unusedVariables false
theorem op2 : Opens Try.prog 2 (Kd.int .i64) (Fits .i64) := Opens.int Try.underlying2 (by kernel_rfl)
theorem op9 : Opens Try.prog 9 Kd.string FitsS := Opens.string Try.underlying9 (by kernel_rfl)
theorem op38 : Opens Try.prog 38 (Kd.pair (Kd.int .i64) (Kd.pair (Kd.int .i64) (Kd.pair (Kd.int .i64) (Kd.pair (Kd.int .i64) (Kd.pair (Kd.int .i64) (Kd.pair (Kd.int .i64) (Kd.pair (Kd.int .i64) (Kd.pair (Kd.int .i64) (Kd.pair (Kd.int .i64) Kd.string))))))))) (And2 (Fits .i64) (And2 (Fits .i64) (And2 (Fits .i64) (And2 (Fits .i64) (And2 (Fits .i64) (And2 (Fits .i64) (And2 (Fits .i64) (And2 (Fits .i64) (And2 (Fits .i64) FitsS))))))))) :=
  Opens.struct (sh := [(2, 0), (2, 1), (2, 2), (2, 3), (2, 4), (2, 5), (2, 6), (2, 7), (2, 8), (9, 9)]) Try.underlying38 (by kernel_rfl) rfl (.cons op2 (.cons op2 (.cons op2 (.cons op2 (.cons op2 (.cons op2 (.cons op2 (.cons op2 (.cons op2 (.one op9) rfl) rfl) rfl) rfl) rfl) rfl) rfl) rfl) rfl)
theorem opened38 {w : World} {y0 : Int × Int × Int × Int × Int × Int × Int × Int × Int × ByteArray} {cs : List Value} (h : (Kd.pair (Kd.int .i64) (Kd.pair (Kd.int .i64) (Kd.pair (Kd.int .i64) (Kd.pair (Kd.int .i64) (Kd.pair (Kd.int .i64) (Kd.pair (Kd.int .i64) (Kd.pair (Kd.int .i64) (Kd.pair (Kd.int .i64) (Kd.pair (Kd.int .i64) Kd.string))))))))).K w y0 cs) : cs = [.int .i64 y0.1, .int .i64 y0.2.1, .int .i64 y0.2.2.1, .int .i64 y0.2.2.2.1, .int .i64 y0.2.2.2.2.1, .int .i64 y0.2.2.2.2.2.1, .int .i64 y0.2.2.2.2.2.2.1, .int .i64 y0.2.2.2.2.2.2.2.1, .int .i64 y0.2.2.2.2.2.2.2.2.1, .string y0.2.2.2.2.2.2.2.2.2] := by
  obtain ⟨_, _, rfl, rfl, _, _, rfl, rfl, _, _, rfl, rfl, _, _, rfl, rfl, _, _, rfl, rfl, _, _, rfl, rfl, _, _, rfl, rfl, _, _, rfl, rfl, _, _, rfl, rfl, rfl⟩ := h
  rfl
/-- The walk: whatever the arguments, the law returns true, and what lay in memory lies as it lay. -/
def Walks : Prop := ∀ (y0 : Int × Int × Int × Int × Int × Int × Int × Int × Int × ByteArray)  (w : World), (And2 (Fits .i64) (And2 (Fits .i64) (And2 (Fits .i64) (And2 (Fits .i64) (And2 (Fits .i64) (And2 (Fits .i64) (And2 (Fits .i64) (And2 (Fits .i64) (And2 (Fits .i64) FitsS))))))))) y0 → Calls Try.prog 8 #[.agg #[.int .i64 y0.1, .int .i64 y0.2.1, .int .i64 y0.2.2.1, .int .i64 y0.2.2.2.1, .int .i64 y0.2.2.2.2.1, .int .i64 y0.2.2.2.2.2.1, .int .i64 y0.2.2.2.2.2.2.1, .int .i64 y0.2.2.2.2.2.2.2.1, .int .i64 y0.2.2.2.2.2.2.2.2.1, .string y0.2.2.2.2.2.2.2.2.2]] w fun e w' => e = .returned (.bool true) ∧ Below w.heap.size w w'
end Go.Proofs.Ytlnmpaigojmahaa.OFnExactMsgRight
