/- The kinds of the parameters of the law FnFarmRun, and what its walk is to say. -/
import Derived.Test.YtipkbapnhgdpeaaKind
namespace Go.Proofs.Ytipkbapnhgdpeaa.OFnFarmRun
open Go.RowKit Go.Proofs.Ytipkbapnhgdpeaa.Rd
set_option linter.unusedVariables false
theorem op5 : Opens Try.prog 5 (Kd.int .u8) (Fits .u8) := Opens.int Try.underlying5 (by kernel_rfl)
theorem op54 : Opens Try.prog 54 (Kd.slice 5 (Kd.int .u8)) (AllOk (Fits .u8)) := Opens.slice Try.underlying54 (by kernel_rfl) op5
/-- The walk: whatever the arguments, the law returns true, and what lay in memory lies as it lay. -/
def Walks : Prop := ∀ (y0 : List Int) (A0 : Option Addr) (c0 : Nat) (w : World), (AllOk (Fits .u8)) y0 → y0.length ≤ c0 → (Kd.int .u8).C w A0 y0.length y0 → Calls Try.prog 9 #[.slice A0 y0.length c0] w fun e w' => e = .returned (.bool true) ∧ Below w.heap.size w w'
end Go.Proofs.Ytipkbapnhgdpeaa.OFnFarmRun
