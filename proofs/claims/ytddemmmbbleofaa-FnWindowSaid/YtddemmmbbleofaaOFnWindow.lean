/- The kinds of the parameters of the law FnWindow, and what its walk is to say. -/
import Derived.Test.YtddemmmbbleofaaKind
namespace Go.Proofs.Ytddemmmbbleofaa.OFnWindow
open Go.RowKit Go.Proofs.Ytddemmmbbleofaa.Rd
set_option linter.unusedVariables false
theorem op5 : Opens Try.prog 5 (Kd.int .u8) (Fits .u8) := Opens.int Try.underlying5 (by kernel_rfl)
theorem op22 : Opens Try.prog 22 (Kd.slice 5 (Kd.int .u8)) (AllOk (Fits .u8)) := Opens.slice Try.underlying22 (by kernel_rfl) op5
/-- The walk: whatever the arguments, the law returns true, and what lay in memory lies as it lay. -/
def Walks : Prop := ∀ (y0 : List Int) (y1 : List Int) (A0 : Option Addr) (c0 : Nat) (A1 : Option Addr) (c1 : Nat) (w : World), (AllOk (Fits .u8)) y0 → (AllOk (Fits .u8)) y1 → y0.length ≤ c0 → (Kd.int .u8).C w A0 y0.length y0 → y1.length ≤ c1 → (Kd.int .u8).C w A1 y1.length y1 → Calls Try.prog 8 #[.slice A0 y0.length c0, .slice A1 y1.length c1] w fun e w' => e = .returned (.bool true) ∧ Below w.heap.size w w'
end Go.Proofs.Ytddemmmbbleofaa.OFnWindow
