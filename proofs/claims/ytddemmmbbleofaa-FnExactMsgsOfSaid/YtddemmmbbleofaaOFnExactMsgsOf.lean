/- The kinds of the parameters of the law FnExactMsgsOf, and what its walk is to say. -/
import Derived.Test.YtddemmmbbleofaaKind
namespace Go.Proofs.Ytddemmmbbleofaa.OFnExactMsgsOf
open Go.RowKit Go.Proofs.Ytddemmmbbleofaa.Rd
set_option linter.unusedVariables false
theorem op9 : Opens Try.prog 9 Kd.string FitsS := Opens.string Try.underlying9 (by kernel_rfl)
/-- The walk: whatever the arguments, the law returns true, and what lay in memory lies as it lay. -/
def Walks : Prop := ∀ (y0 : ByteArray)  (w : World), FitsS y0 → Calls Try.prog 7 #[.string y0] w fun e w' => e = .returned (.bool true) ∧ Below w.heap.size w w'
end Go.Proofs.Ytddemmmbbleofaa.OFnExactMsgsOf
