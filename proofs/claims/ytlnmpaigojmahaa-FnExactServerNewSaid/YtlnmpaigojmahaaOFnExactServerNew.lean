/- The kinds of the parameters of the law FnExactServerNew, and what its walk is to say. -/
import Derived.Test.YtlnmpaigojmahaaKind
namespace Go.Proofs.Ytlnmpaigojmahaa.OFnExactServerNew
open Go.RowKit Go.Proofs.Ytlnmpaigojmahaa.Rd
set_option linter.unusedVariables false
theorem op2 : Opens Try.prog 2 (Kd.int .i64) (Fits .i64) := Opens.int Try.underlying2 (by kernel_rfl)
/-- The walk: whatever the arguments, the law returns true, and what lay in memory lies as it lay. -/
def Walks : Prop := ∀ (y0 : Int) (y1 : Int)  (w : World), (Fits .i64) y0 → (Fits .i64) y1 → Calls Try.prog 14 #[.int .i64 y0, .int .i64 y1] w fun e w' => e = .returned (.bool true) ∧ Below w.heap.size w w'
end Go.Proofs.Ytlnmpaigojmahaa.OFnExactServerNew
