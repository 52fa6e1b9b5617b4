/- The kinds of the parameters of the law FnExactRatioFits, and what its walk is to say. -/
import Derived.Test.YtddemmmbbleofaaKind
namespace Go.Proofs.Ytddemmmbbleofaa.OFnExactRatioFits
open Go.RowKit Go.Proofs.Ytddemmmbbleofaa.Rd
set_option linter.unusedVariables false
theorem op2 : Opens Try.prog 2 (Kd.int .i64) (Fits .i64) := Opens.int Try.underlying2 (by kernel_rfl)
theorem op64 : Opens Try.prog 64 (Kd.pair (Kd.int .i64) (Kd.pair (Kd.int .i64) (Kd.int .i64))) (And2 (Fits .i64) (And2 (Fits .i64) (Fits .i64))) :=
  Opens.struct (sh := [(2, 0), (2, 1), (2, 2)]) Try.underlying64 (by kernel_rfl) rfl (.cons op2 (.cons op2 (.one op2) rfl) rfl)
theorem opened64 {w : World} {y0 : Int × Int × Int} {cs : List Value} (h : (Kd.pair (Kd.int .i64) (Kd.pair (Kd.int .i64) (Kd.int .i64))).K w y0 cs) : cs = [.int .i64 y0.1, .int .i64 y0.2.1, .int .i64 y0.2.2] := by
  obtain ⟨_, _, rfl, rfl, _, _, rfl, rfl, rfl⟩ := h
  rfl
/-- The walk: whatever the arguments, the law returns true, and what lay in memory lies as it lay. -/
def Walks : Prop := ∀ (y0 : Int × Int × Int) (y1 : Int) (y2 : Int)  (w : World), (And2 (Fits .i64) (And2 (Fits .i64) (Fits .i64))) y0 → (Fits .i64) y1 → (Fits .i64) y2 → Calls Try.prog 9 #[.agg #[.int .i64 y0.1, .int .i64 y0.2.1, .int .i64 y0.2.2], .int .i64 y1, .int .i64 y2] w fun e w' => e = .returned (.bool true) ∧ Below w.heap.size w w'
end Go.Proofs.Ytddemmmbbleofaa.OFnExactRatioFits
