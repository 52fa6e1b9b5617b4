/- The kinds of the parameters of the law FnExactClientWant, and its pure statement. -/
import Derived.Test.YtlnmpaigojmahaaPFnExactClientWantx3
import Derived.Test.YtlnmpaigojmahaaOpen
namespace Go.Proofs.Ytlnmpaigojmahaa.OFnExactClientWant
open Go.RowKit Go.Proofs.YtlnmpaigojmahaaW.PrintWords Go.Proofs.Ytlnmpaigojmahaa.Opn Go.Proofs.Ytlnmpaigojmahaa.PFnExactClientWant
set_option linter.unusedVariables false
theorem op2 : Opens Try.prog 2 (Kd.int .i64) (Fits .i64) := Opens.int Try.underlying2 (by kernel_rfl)
theorem op27 : Opens Try.prog 27 (Kd.pair (Kd.int .i64) (Kd.pair (Kd.int .i64) (Kd.pair (Kd.int .i64) (Kd.pair (Kd.int .i64) (Kd.pair (Kd.int .i64) (Kd.pair (Kd.int .i64) (Kd.pair (Kd.int .i64) (Kd.pair (Kd.int .i64) (Kd.pair (Kd.int .i64) (Kd.int .i64)))))))))) (And2 (Fits .i64) (And2 (Fits .i64) (And2 (Fits .i64) (And2 (Fits .i64) (And2 (Fits .i64) (And2 (Fits .i64) (And2 (Fits .i64) (And2 (Fits .i64) (And2 (Fits .i64) (Fits .i64)))))))))) :=
  Opens.struct (sh := [(2, 0), (2, 1), (2, 2), (2, 3), (2, 4), (2, 5), (2, 6), (2, 7), (2, 8), (2, 9)]) Try.underlying27 (by kernel_rfl) rfl (.cons op2 (.cons op2 (.cons op2 (.cons op2 (.cons op2 (.cons op2 (.cons op2 (.cons op2 (.cons op2 (.one op2) rfl) rfl) rfl) rfl) rfl) rfl) rfl) rfl) rfl)
theorem opened27 {w : World} {y0 : Int × Int × Int × Int × Int × Int × Int × Int × Int × Int} {cs : List Value} (h : (Kd.pair (Kd.int .i64) (Kd.pair (Kd.int .i64) (Kd.pair (Kd.int .i64) (Kd.pair (Kd.int .i64) (Kd.pair (Kd.int .i64) (Kd.pair (Kd.int .i64) (Kd.pair (Kd.int .i64) (Kd.pair (Kd.int .i64) (Kd.pair (Kd.int .i64) (Kd.int .i64)))))))))).K w y0 cs) : cs = [.int .i64 y0.1, .int .i64 y0.2.1, .int .i64 y0.2.2.1, .int .i64 y0.2.2.2.1, .int .i64 y0.2.2.2.2.1, .int .i64 y0.2.2.2.2.2.1, .int .i64 y0.2.2.2.2.2.2.1, .int .i64 y0.2.2.2.2.2.2.2.1, .int .i64 y0.2.2.2.2.2.2.2.2.1, .int .i64 y0.2.2.2.2.2.2.2.2.2] := by
  obtain ⟨_, _, rfl, rfl, _, _, rfl, rfl, _, _, rfl, rfl, _, _, rfl, rfl, _, _, rfl, rfl, _, _, rfl, rfl, _, _, rfl, rfl, _, _, rfl, rfl, _, _, rfl, rfl, rfl⟩ := h
  rfl
/-- What is to be proved of plain values. -/
def Pure : Prop := ∀ (y0 : Int × Int × Int × Int × Int × Int × Int × Int × Int × Int) (y1 : Int), (And2 (Fits .i64) (And2 (Fits .i64) (And2 (Fits .i64) (And2 (Fits .i64) (And2 (Fits .i64) (And2 (Fits .i64) (And2 (Fits .i64) (And2 (Fits .i64) (And2 (Fits .i64) (Fits .i64)))))))))) y0 → (Fits .i64) y1 → ∃ k, laws_FnExactClientWant.f k y0.1 y0.2.1 y0.2.2.1 y0.2.2.2.1 y0.2.2.2.2.1 y0.2.2.2.2.2.1 y0.2.2.2.2.2.2.1 y0.2.2.2.2.2.2.2.1 y0.2.2.2.2.2.2.2.2.1 y0.2.2.2.2.2.2.2.2.2 y1 = some true
end Go.Proofs.Ytlnmpaigojmahaa.OFnExactClientWant
