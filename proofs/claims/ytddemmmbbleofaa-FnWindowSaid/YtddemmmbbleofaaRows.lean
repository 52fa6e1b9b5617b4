/-
  No cell of these rows narrows 'for every input' (looked for: loops, veiled, ifaces, maps, wideKeys, modest, calm, conditions, laid).
  DERIVED. THE GIVEN ROWS OF THIS SEAT. 7 by the template 'for every input the law returns true; each argument reads behind the call as it read before'; 0 by the template 'total and deterministic' (their statements: YtddemmmbbleofaaTotals.lean).
  GIVEN WITH THE SEED: the statements are not yours to turn. If you find one false, say at which input.
  Laid BY PROGRAM, IN A SANDBOX (cutbox-rows.mjs): the forced cells as the released guide's own fill.sh prints them over the translation 5b788979726cb682… (all of the seat's roots in one cut). By AI agents, Wed Nov 11 2026. No macro, syntax, notation, axiom, sorry.
-/
import Derived.Test.YtddemmmbbleofaaChecked
import GoSem.Claim
import GoSem.ClaimJoined
import GoSem.ClaimMapViews
import Derived.JoinedTies
import Derived.KernelRfl
namespace Go.Proofs.Ytddemmmbbleofaa
/- THE CELL 'sum', in the pinned program and in every row, IS THE sha256 OF THE DUMP (.gsa) THAT YtddemmmbbleofaaProg.lean LOADS. Nothing in Lean hashes anything: it is a label: what it is worth is what the hold of that sum in a sandbox is worth. -/
noncomputable def Try.pinned : Pinned := { name := "ytddemmmbbleofaa", sum := "5b788979726cb6825b86e717297c4cdd6802fa034b6e5f38b9ea149924bbc208", checked := Try.checked }
namespace Rows
def none {H : Type} : Left H := { results := [], args := [] }

/-- 'laws.FnClient': WHATEVER THE INPUT: true; the input reads as it did. -/
def fnClientSpec : ChangeSpec := { name := "fnClient", fn := fun _ => fun
  | [d1, d2] => { results := [.lit (.bool true)], args := [d1, d2] }
  | _ => none }
def fnClientRow : OpenClaim := { program := "ytddemmmbbleofaa", sum := "5b788979726cb6825b86e717297c4cdd6802fa034b6e5f38b9ea149924bbc208", func := "loop.example/g00095/laws.FnClient", spec := "fnClient", apart := false }
def FnClientSaid : Prop := fnClientRow.holds Try.pinned (OpenSpec.ofChange fnClientSpec)

/-- ITS FALSE NEIGHBOUR: 'it returns false'. Refute it at one input. -/
def fnClientWrong : ChangeSpec := { name := "fnClient", fn := fun _ => fun
  | [d1, d2] => { results := [.lit (.bool false)], args := [d1, d2] }
  | _ => none }
def FnClientWrongFalsely : Prop := fnClientRow.holds Try.pinned (OpenSpec.ofChange fnClientWrong)

/-- 'laws.FnMsgBack': WHATEVER THE INPUT: true; the input reads as it did. -/
def fnMsgBackSpec : ChangeSpec := { name := "fnMsgBack", fn := fun _ => fun
  | [d] => { results := [.lit (.bool true)], args := [d] }
  | _ => none }
def fnMsgBackRow : OpenClaim := { program := "ytddemmmbbleofaa", sum := "5b788979726cb6825b86e717297c4cdd6802fa034b6e5f38b9ea149924bbc208", func := "loop.example/g00095/laws.FnMsgBack", spec := "fnMsgBack", apart := false }
def FnMsgBackSaid : Prop := fnMsgBackRow.holds Try.pinned (OpenSpec.ofChange fnMsgBackSpec)

/-- ITS FALSE NEIGHBOUR: 'it returns false'. Refute it at one input. -/
def fnMsgBackWrong : ChangeSpec := { name := "fnMsgBack", fn := fun _ => fun
  | [d] => { results := [.lit (.bool false)], args := [d] }
  | _ => none }
def FnMsgBackWrongFalsely : Prop := fnMsgBackRow.holds Try.pinned (OpenSpec.ofChange fnMsgBackWrong)

/-- 'laws.FnExactMsgRead': WHATEVER THE INPUT: true; the input reads as it did. -/
def fnExactMsgReadSpec : ChangeSpec := { name := "fnExactMsgRead", fn := fun _ => fun
  | [d] => { results := [.lit (.bool true)], args := [d] }
  | _ => none }
def fnExactMsgReadRow : OpenClaim := { program := "ytddemmmbbleofaa", sum := "5b788979726cb6825b86e717297c4cdd6802fa034b6e5f38b9ea149924bbc208", func := "loop.example/g00095/laws.FnExactMsgRead", spec := "fnExactMsgRead", apart := false }
def FnExactMsgReadSaid : Prop := fnExactMsgReadRow.holds Try.pinned (OpenSpec.ofChange fnExactMsgReadSpec)

/-- ITS FALSE NEIGHBOUR: 'it returns false'. Refute it at one input. -/
def fnExactMsgReadWrong : ChangeSpec := { name := "fnExactMsgRead", fn := fun _ => fun
  | [d] => { results := [.lit (.bool false)], args := [d] }
  | _ => none }
def FnExactMsgReadWrongFalsely : Prop := fnExactMsgReadRow.holds Try.pinned (OpenSpec.ofChange fnExactMsgReadWrong)

/-- 'laws.FnMsgTurned': WHATEVER THE INPUT: true; the input reads as it did. -/
def fnMsgTurnedSpec : ChangeSpec := { name := "fnMsgTurned", fn := fun _ => fun
  | [d] => { results := [.lit (.bool true)], args := [d] }
  | _ => none }
def fnMsgTurnedRow : OpenClaim := { program := "ytddemmmbbleofaa", sum := "5b788979726cb6825b86e717297c4cdd6802fa034b6e5f38b9ea149924bbc208", func := "loop.example/g00095/laws.FnMsgTurned", spec := "fnMsgTurned", apart := false }
def FnMsgTurnedSaid : Prop := fnMsgTurnedRow.holds Try.pinned (OpenSpec.ofChange fnMsgTurnedSpec)

/-- ITS FALSE NEIGHBOUR: 'it returns false'. Refute it at one input. -/
def fnMsgTurnedWrong : ChangeSpec := { name := "fnMsgTurned", fn := fun _ => fun
  | [d] => { results := [.lit (.bool false)], args := [d] }
  | _ => none }
def FnMsgTurnedWrongFalsely : Prop := fnMsgTurnedRow.holds Try.pinned (OpenSpec.ofChange fnMsgTurnedWrong)

/-- 'laws.FnExactMsgsOf': WHATEVER THE INPUT: true; the input reads as it did. -/
def fnExactMsgsOfSpec : ChangeSpec := { name := "fnExactMsgsOf", fn := fun _ => fun
  | [d] => { results := [.lit (.bool true)], args := [d] }
  | _ => none }
def fnExactMsgsOfRow : OpenClaim := { program := "ytddemmmbbleofaa", sum := "5b788979726cb6825b86e717297c4cdd6802fa034b6e5f38b9ea149924bbc208", func := "loop.example/g00095/laws.FnExactMsgsOf", spec := "fnExactMsgsOf", apart := false }
def FnExactMsgsOfSaid : Prop := fnExactMsgsOfRow.holds Try.pinned (OpenSpec.ofChange fnExactMsgsOfSpec)

/-- ITS FALSE NEIGHBOUR: 'it returns false'. Refute it at one input. -/
def fnExactMsgsOfWrong : ChangeSpec := { name := "fnExactMsgsOf", fn := fun _ => fun
  | [d] => { results := [.lit (.bool false)], args := [d] }
  | _ => none }
def FnExactMsgsOfWrongFalsely : Prop := fnExactMsgsOfRow.holds Try.pinned (OpenSpec.ofChange fnExactMsgsOfWrong)

/-- 'laws.FnWindow': WHATEVER THE INPUT: true; the input reads as it did. -/
def fnWindowSpec : ChangeSpec := { name := "fnWindow", fn := fun _ => fun
  | [d1, d2] => { results := [.lit (.bool true)], args := [d1, d2] }
  | _ => none }
def fnWindowRow : OpenClaim := { program := "ytddemmmbbleofaa", sum := "5b788979726cb6825b86e717297c4cdd6802fa034b6e5f38b9ea149924bbc208", func := "loop.example/g00095/laws.FnWindow", spec := "fnWindow", apart := false }
def FnWindowSaid : Prop := fnWindowRow.holds Try.pinned (OpenSpec.ofChange fnWindowSpec)

/-- ITS FALSE NEIGHBOUR: 'it returns false'. Refute it at one input. -/
def fnWindowWrong : ChangeSpec := { name := "fnWindow", fn := fun _ => fun
  | [d1, d2] => { results := [.lit (.bool false)], args := [d1, d2] }
  | _ => none }
def FnWindowWrongFalsely : Prop := fnWindowRow.holds Try.pinned (OpenSpec.ofChange fnWindowWrong)

/-- 'laws.FnExactRatioFits': WHATEVER THE INPUT: true; the input reads as it did. -/
def fnExactRatioFitsSpec : ChangeSpec := { name := "fnExactRatioFits", fn := fun _ => fun
  | [d1, d2, d3] => { results := [.lit (.bool true)], args := [d1, d2, d3] }
  | _ => none }
def fnExactRatioFitsRow : OpenClaim := { program := "ytddemmmbbleofaa", sum := "5b788979726cb6825b86e717297c4cdd6802fa034b6e5f38b9ea149924bbc208", func := "loop.example/g00095/laws.FnExactRatioFits", spec := "fnExactRatioFits", apart := false }
def FnExactRatioFitsSaid : Prop := fnExactRatioFitsRow.holds Try.pinned (OpenSpec.ofChange fnExactRatioFitsSpec)

/-- ITS FALSE NEIGHBOUR: 'it returns false'. Refute it at one input. -/
def fnExactRatioFitsWrong : ChangeSpec := { name := "fnExactRatioFits", fn := fun _ => fun
  | [d1, d2, d3] => { results := [.lit (.bool false)], args := [d1, d2, d3] }
  | _ => none }
def FnExactRatioFitsWrongFalsely : Prop := fnExactRatioFitsRow.holds Try.pinned (OpenSpec.ofChange fnExactRatioFitsWrong)

/- THE SECOND FORM. 'bulk': how many values and letters a reading holds, each counted each time it is reached (what is shared counts as often as it is met; a slice's spare places count too). A statement '..UptoSaid' is the law's where the arguments, and the package variables that the reading takes, are together of bulk at most 1048576: NARROWER than '..Said'. Prove '..Said' where nothing that the law and all that it calls make is longer than what came in: it says more and counts as full. Else prove '..UptoSaid'. A law counts once. -/
mutual
def uptoBulk {H : Type} : DataW H → Nat
  | .lit (.string bytes) => bytes.length + 1
  | .lit _ => 1
  | .nil => 1
  | .ptr d => uptoBulk d + 1
  | .slice elems spare => uptoBulkAll elems + uptoBulkAll spare + 1
  | .agg parts => uptoBulkAll parts + 1
  | .iface _ d => uptoBulk d + 1
  | .map entries => uptoBulkEntries entries + 1
  | .held _ => 1
def uptoBulkAll {H : Type} : List (DataW H) → Nat
  | [] => 0
  | d :: r => uptoBulk d + uptoBulkAll r
def uptoBulkEntries {H : Type} : List (Lit × DataW H) → Nat
  | [] => 0
  | x :: r => uptoBulkEntry x + uptoBulkEntries r
def uptoBulkEntry {H : Type} : Lit × DataW H → Nat
  | (.string bytes, d) => bytes.length + uptoBulk d + 1
  | (_, d) => uptoBulk d + 1
 end
def uptoSmall : (H : Type) → List (DataW H) → Bool := fun _ ds => decide (uptoBulkAll ds ≤ 1048576)
def OpenSpec.upto (s : _root_.Go.ChangeSpec) : _root_.Go.OpenSpec := { _root_.Go.OpenSpec.ofChange s with cond := some uptoSmall }

/-- 'laws.FnClient', WHERE WHAT IT READS IS OF BULK AT MOST 1048576: true; the input reads as it did. -/
def fnClientUptoRow : OpenClaim := { program := "ytddemmmbbleofaa", sum := "5b788979726cb6825b86e717297c4cdd6802fa034b6e5f38b9ea149924bbc208", func := "loop.example/g00095/laws.FnClient", spec := "fnClient", apart := false, narrowed := true }
def FnClientUptoSaid : Prop := fnClientUptoRow.holds Try.pinned (OpenSpec.upto fnClientSpec)

/-- 'laws.FnMsgBack', WHERE WHAT IT READS IS OF BULK AT MOST 1048576: true; the input reads as it did. -/
def fnMsgBackUptoRow : OpenClaim := { program := "ytddemmmbbleofaa", sum := "5b788979726cb6825b86e717297c4cdd6802fa034b6e5f38b9ea149924bbc208", func := "loop.example/g00095/laws.FnMsgBack", spec := "fnMsgBack", apart := false, narrowed := true }
def FnMsgBackUptoSaid : Prop := fnMsgBackUptoRow.holds Try.pinned (OpenSpec.upto fnMsgBackSpec)

/-- 'laws.FnExactMsgRead', WHERE WHAT IT READS IS OF BULK AT MOST 1048576: true; the input reads as it did. -/
def fnExactMsgReadUptoRow : OpenClaim := { program := "ytddemmmbbleofaa", sum := "5b788979726cb6825b86e717297c4cdd6802fa034b6e5f38b9ea149924bbc208", func := "loop.example/g00095/laws.FnExactMsgRead", spec := "fnExactMsgRead", apart := false, narrowed := true }
def FnExactMsgReadUptoSaid : Prop := fnExactMsgReadUptoRow.holds Try.pinned (OpenSpec.upto fnExactMsgReadSpec)

/-- 'laws.FnMsgTurned', WHERE WHAT IT READS IS OF BULK AT MOST 1048576: true; the input reads as it did. -/
def fnMsgTurnedUptoRow : OpenClaim := { program := "ytddemmmbbleofaa", sum := "5b788979726cb6825b86e717297c4cdd6802fa034b6e5f38b9ea149924bbc208", func := "loop.example/g00095/laws.FnMsgTurned", spec := "fnMsgTurned", apart := false, narrowed := true }
def FnMsgTurnedUptoSaid : Prop := fnMsgTurnedUptoRow.holds Try.pinned (OpenSpec.upto fnMsgTurnedSpec)

/-- 'laws.FnExactMsgsOf', WHERE WHAT IT READS IS OF BULK AT MOST 1048576: true; the input reads as it did. -/
def fnExactMsgsOfUptoRow : OpenClaim := { program := "ytddemmmbbleofaa", sum := "5b788979726cb6825b86e717297c4cdd6802fa034b6e5f38b9ea149924bbc208", func := "loop.example/g00095/laws.FnExactMsgsOf", spec := "fnExactMsgsOf", apart := false, narrowed := true }
def FnExactMsgsOfUptoSaid : Prop := fnExactMsgsOfUptoRow.holds Try.pinned (OpenSpec.upto fnExactMsgsOfSpec)

/-- 'laws.FnWindow', WHERE WHAT IT READS IS OF BULK AT MOST 1048576: true; the input reads as it did. -/
def fnWindowUptoRow : OpenClaim := { program := "ytddemmmbbleofaa", sum := "5b788979726cb6825b86e717297c4cdd6802fa034b6e5f38b9ea149924bbc208", func := "loop.example/g00095/laws.FnWindow", spec := "fnWindow", apart := false, narrowed := true }
def FnWindowUptoSaid : Prop := fnWindowUptoRow.holds Try.pinned (OpenSpec.upto fnWindowSpec)

/-- 'laws.FnExactRatioFits', WHERE WHAT IT READS IS OF BULK AT MOST 1048576: true; the input reads as it did. -/
def fnExactRatioFitsUptoRow : OpenClaim := { program := "ytddemmmbbleofaa", sum := "5b788979726cb6825b86e717297c4cdd6802fa034b6e5f38b9ea149924bbc208", func := "loop.example/g00095/laws.FnExactRatioFits", spec := "fnExactRatioFits", apart := false, narrowed := true }
def FnExactRatioFitsUptoSaid : Prop := fnExactRatioFitsUptoRow.holds Try.pinned (OpenSpec.upto fnExactRatioFitsSpec)

end Rows
end Go.Proofs.Ytddemmmbbleofaa
