/-
  No cell of these rows narrows 'for every input' (looked for: loops, veiled, ifaces, maps, wideKeys, modest, calm, conditions, laid).
  DERIVED. THE GIVEN ROWS OF THIS SEAT. 12 by the template 'for every input the law returns true; each argument reads behind the call as it read before'; 0 by the template 'total and deterministic' (their statements: YtlnmpaigojmahaaTotals.lean).
  GIVEN WITH THE SEED: the statements are not yours to turn. If you find one false, say at which input.
  Laid BY PROGRAM, IN A SANDBOX (cutbox-rows.mjs): the forced cells as the released guide's own fill.sh prints them over the translation 32abb6f777a75e10… (all of the seat's roots in one cut). By AI agents, Wed Nov 11 2026. No macro, syntax, notation, axiom, sorry.
-/
import Derived.Test.YtlnmpaigojmahaaChecked
import GoSem.Claim
import GoSem.ClaimJoined
import GoSem.ClaimMapViews
import Derived.JoinedTies
import Derived.KernelRfl
namespace Go.Proofs.Ytlnmpaigojmahaa
/- THE CELL 'sum', in the pinned program and in every row, IS THE sha256 OF THE DUMP (.gsa) THAT YtlnmpaigojmahaaProg.lean LOADS. Nothing in Lean hashes anything: it is a label: what it is worth is what the hold of that sum in a sandbox is worth. -/
noncomputable def Try.pinned : Pinned := { name := "ytlnmpaigojmahaa", sum := "32abb6f777a75e1085efff76dedd920ecb3c915ef5e807b4a3a483f056dd2d2e", checked := Try.checked }
namespace Rows
def none {H : Type} : Left H := { results := [], args := [] }

/-- 'laws.FnExactNumBytes': WHATEVER THE INPUT: true; the input reads as it did. -/
def fnExactNumBytesSpec : ChangeSpec := { name := "fnExactNumBytes", fn := fun _ => fun
  | [d] => { results := [.lit (.bool true)], args := [d] }
  | _ => none }
def fnExactNumBytesRow : OpenClaim := { program := "ytlnmpaigojmahaa", sum := "32abb6f777a75e1085efff76dedd920ecb3c915ef5e807b4a3a483f056dd2d2e", func := "loop.example/g00095/laws.FnExactNumBytes", spec := "fnExactNumBytes", apart := false }
def FnExactNumBytesSaid : Prop := fnExactNumBytesRow.holds Try.pinned (OpenSpec.ofChange fnExactNumBytesSpec)

/-- ITS FALSE NEIGHBOUR: 'it returns false'. Refute it at one input. -/
def fnExactNumBytesWrong : ChangeSpec := { name := "fnExactNumBytes", fn := fun _ => fun
  | [d] => { results := [.lit (.bool false)], args := [d] }
  | _ => none }
def FnExactNumBytesWrongFalsely : Prop := fnExactNumBytesRow.holds Try.pinned (OpenSpec.ofChange fnExactNumBytesWrong)

/-- 'laws.FnExactMsgSum': WHATEVER THE INPUT: true; the input reads as it did. -/
def fnExactMsgSumSpec : ChangeSpec := { name := "fnExactMsgSum", fn := fun _ => fun
  | [d] => { results := [.lit (.bool true)], args := [d] }
  | _ => none }
def fnExactMsgSumRow : OpenClaim := { program := "ytlnmpaigojmahaa", sum := "32abb6f777a75e1085efff76dedd920ecb3c915ef5e807b4a3a483f056dd2d2e", func := "loop.example/g00095/laws.FnExactMsgSum", spec := "fnExactMsgSum", apart := false }
def FnExactMsgSumSaid : Prop := fnExactMsgSumRow.holds Try.pinned (OpenSpec.ofChange fnExactMsgSumSpec)

/-- ITS FALSE NEIGHBOUR: 'it returns false'. Refute it at one input. -/
def fnExactMsgSumWrong : ChangeSpec := { name := "fnExactMsgSum", fn := fun _ => fun
  | [d] => { results := [.lit (.bool false)], args := [d] }
  | _ => none }
def FnExactMsgSumWrongFalsely : Prop := fnExactMsgSumRow.holds Try.pinned (OpenSpec.ofChange fnExactMsgSumWrong)

/-- 'laws.FnExactClientRight': WHATEVER THE INPUT: true; the input reads as it did. -/
def fnExactClientRightSpec : ChangeSpec := { name := "fnExactClientRight", fn := fun _ => fun
  | [d] => { results := [.lit (.bool true)], args := [d] }
  | _ => none }
def fnExactClientRightRow : OpenClaim := { program := "ytlnmpaigojmahaa", sum := "32abb6f777a75e1085efff76dedd920ecb3c915ef5e807b4a3a483f056dd2d2e", func := "loop.example/g00095/laws.FnExactClientRight", spec := "fnExactClientRight", apart := false }
def FnExactClientRightSaid : Prop := fnExactClientRightRow.holds Try.pinned (OpenSpec.ofChange fnExactClientRightSpec)

/-- ITS FALSE NEIGHBOUR: 'it returns false'. Refute it at one input. -/
def fnExactClientRightWrong : ChangeSpec := { name := "fnExactClientRight", fn := fun _ => fun
  | [d] => { results := [.lit (.bool false)], args := [d] }
  | _ => none }
def FnExactClientRightWrongFalsely : Prop := fnExactClientRightRow.holds Try.pinned (OpenSpec.ofChange fnExactClientRightWrong)

/-- 'laws.FnExactClientUses': WHATEVER THE INPUT: true; the input reads as it did. -/
def fnExactClientUsesSpec : ChangeSpec := { name := "fnExactClientUses", fn := fun _ => fun
  | [d1, d2] => { results := [.lit (.bool true)], args := [d1, d2] }
  | _ => none }
def fnExactClientUsesRow : OpenClaim := { program := "ytlnmpaigojmahaa", sum := "32abb6f777a75e1085efff76dedd920ecb3c915ef5e807b4a3a483f056dd2d2e", func := "loop.example/g00095/laws.FnExactClientUses", spec := "fnExactClientUses", apart := false }
def FnExactClientUsesSaid : Prop := fnExactClientUsesRow.holds Try.pinned (OpenSpec.ofChange fnExactClientUsesSpec)

/-- ITS FALSE NEIGHBOUR: 'it returns false'. Refute it at one input. -/
def fnExactClientUsesWrong : ChangeSpec := { name := "fnExactClientUses", fn := fun _ => fun
  | [d1, d2] => { results := [.lit (.bool false)], args := [d1, d2] }
  | _ => none }
def FnExactClientUsesWrongFalsely : Prop := fnExactClientUsesRow.holds Try.pinned (OpenSpec.ofChange fnExactClientUsesWrong)

/-- 'laws.FnExactClientNew': WHATEVER THE INPUT: true; the input reads as it did. -/
def fnExactClientNewSpec : ChangeSpec := { name := "fnExactClientNew", fn := fun _ => fun
  | [d1, d2, d3, d4] => { results := [.lit (.bool true)], args := [d1, d2, d3, d4] }
  | _ => none }
def fnExactClientNewRow : OpenClaim := { program := "ytlnmpaigojmahaa", sum := "32abb6f777a75e1085efff76dedd920ecb3c915ef5e807b4a3a483f056dd2d2e", func := "loop.example/g00095/laws.FnExactClientNew", spec := "fnExactClientNew", apart := false }
def FnExactClientNewSaid : Prop := fnExactClientNewRow.holds Try.pinned (OpenSpec.ofChange fnExactClientNewSpec)

/-- ITS FALSE NEIGHBOUR: 'it returns false'. Refute it at one input. -/
def fnExactClientNewWrong : ChangeSpec := { name := "fnExactClientNew", fn := fun _ => fun
  | [d1, d2, d3, d4] => { results := [.lit (.bool false)], args := [d1, d2, d3, d4] }
  | _ => none }
def FnExactClientNewWrongFalsely : Prop := fnExactClientNewRow.holds Try.pinned (OpenSpec.ofChange fnExactClientNewWrong)

/-- 'laws.FnExactMsgRight': WHATEVER THE INPUT: true; the input reads as it did. -/
def fnExactMsgRightSpec : ChangeSpec := { name := "fnExactMsgRight", fn := fun _ => fun
  | [d] => { results := [.lit (.bool true)], args := [d] }
  | _ => none }
def fnExactMsgRightRow : OpenClaim := { program := "ytlnmpaigojmahaa", sum := "32abb6f777a75e1085efff76dedd920ecb3c915ef5e807b4a3a483f056dd2d2e", func := "loop.example/g00095/laws.FnExactMsgRight", spec := "fnExactMsgRight", apart := false }
def FnExactMsgRightSaid : Prop := fnExactMsgRightRow.holds Try.pinned (OpenSpec.ofChange fnExactMsgRightSpec)

/-- ITS FALSE NEIGHBOUR: 'it returns false'. Refute it at one input. -/
def fnExactMsgRightWrong : ChangeSpec := { name := "fnExactMsgRight", fn := fun _ => fun
  | [d] => { results := [.lit (.bool false)], args := [d] }
  | _ => none }
def FnExactMsgRightWrongFalsely : Prop := fnExactMsgRightRow.holds Try.pinned (OpenSpec.ofChange fnExactMsgRightWrong)

/-- 'laws.FnExactClientWant': WHATEVER THE INPUT: true; the input reads as it did. -/
def fnExactClientWantSpec : ChangeSpec := { name := "fnExactClientWant", fn := fun _ => fun
  | [d1, d2] => { results := [.lit (.bool true)], args := [d1, d2] }
  | _ => none }
def fnExactClientWantRow : OpenClaim := { program := "ytlnmpaigojmahaa", sum := "32abb6f777a75e1085efff76dedd920ecb3c915ef5e807b4a3a483f056dd2d2e", func := "loop.example/g00095/laws.FnExactClientWant", spec := "fnExactClientWant", apart := false }
def FnExactClientWantSaid : Prop := fnExactClientWantRow.holds Try.pinned (OpenSpec.ofChange fnExactClientWantSpec)

/-- ITS FALSE NEIGHBOUR: 'it returns false'. Refute it at one input. -/
def fnExactClientWantWrong : ChangeSpec := { name := "fnExactClientWant", fn := fun _ => fun
  | [d1, d2] => { results := [.lit (.bool false)], args := [d1, d2] }
  | _ => none }
def FnExactClientWantWrongFalsely : Prop := fnExactClientWantRow.holds Try.pinned (OpenSpec.ofChange fnExactClientWantWrong)

/-- 'laws.FnExactOpRight': WHATEVER THE INPUT: true; the input reads as it did. -/
def fnExactOpRightSpec : ChangeSpec := { name := "fnExactOpRight", fn := fun _ => fun
  | [d] => { results := [.lit (.bool true)], args := [d] }
  | _ => none }
def fnExactOpRightRow : OpenClaim := { program := "ytlnmpaigojmahaa", sum := "32abb6f777a75e1085efff76dedd920ecb3c915ef5e807b4a3a483f056dd2d2e", func := "loop.example/g00095/laws.FnExactOpRight", spec := "fnExactOpRight", apart := false }
def FnExactOpRightSaid : Prop := fnExactOpRightRow.holds Try.pinned (OpenSpec.ofChange fnExactOpRightSpec)

/-- ITS FALSE NEIGHBOUR: 'it returns false'. Refute it at one input. -/
def fnExactOpRightWrong : ChangeSpec := { name := "fnExactOpRight", fn := fun _ => fun
  | [d] => { results := [.lit (.bool false)], args := [d] }
  | _ => none }
def FnExactOpRightWrongFalsely : Prop := fnExactOpRightRow.holds Try.pinned (OpenSpec.ofChange fnExactOpRightWrong)

/-- 'laws.FnExactMsgBytes': WHATEVER THE INPUT: true; the input reads as it did. -/
def fnExactMsgBytesSpec : ChangeSpec := { name := "fnExactMsgBytes", fn := fun _ => fun
  | [d] => { results := [.lit (.bool true)], args := [d] }
  | _ => none }
def fnExactMsgBytesRow : OpenClaim := { program := "ytlnmpaigojmahaa", sum := "32abb6f777a75e1085efff76dedd920ecb3c915ef5e807b4a3a483f056dd2d2e", func := "loop.example/g00095/laws.FnExactMsgBytes", spec := "fnExactMsgBytes", apart := false }
def FnExactMsgBytesSaid : Prop := fnExactMsgBytesRow.holds Try.pinned (OpenSpec.ofChange fnExactMsgBytesSpec)

/-- ITS FALSE NEIGHBOUR: 'it returns false'. Refute it at one input. -/
def fnExactMsgBytesWrong : ChangeSpec := { name := "fnExactMsgBytes", fn := fun _ => fun
  | [d] => { results := [.lit (.bool false)], args := [d] }
  | _ => none }
def FnExactMsgBytesWrongFalsely : Prop := fnExactMsgBytesRow.holds Try.pinned (OpenSpec.ofChange fnExactMsgBytesWrong)

/-- 'laws.FnExactClientAsk': WHATEVER THE INPUT: true; the input reads as it did. -/
def fnExactClientAskSpec : ChangeSpec := { name := "fnExactClientAsk", fn := fun _ => fun
  | [d1, d2] => { results := [.lit (.bool true)], args := [d1, d2] }
  | _ => none }
def fnExactClientAskRow : OpenClaim := { program := "ytlnmpaigojmahaa", sum := "32abb6f777a75e1085efff76dedd920ecb3c915ef5e807b4a3a483f056dd2d2e", func := "loop.example/g00095/laws.FnExactClientAsk", spec := "fnExactClientAsk", apart := false }
def FnExactClientAskSaid : Prop := fnExactClientAskRow.holds Try.pinned (OpenSpec.ofChange fnExactClientAskSpec)

/-- ITS FALSE NEIGHBOUR: 'it returns false'. Refute it at one input. -/
def fnExactClientAskWrong : ChangeSpec := { name := "fnExactClientAsk", fn := fun _ => fun
  | [d1, d2] => { results := [.lit (.bool false)], args := [d1, d2] }
  | _ => none }
def FnExactClientAskWrongFalsely : Prop := fnExactClientAskRow.holds Try.pinned (OpenSpec.ofChange fnExactClientAskWrong)

/-- 'laws.FnExactClientHear': WHATEVER THE INPUT: true; the input reads as it did. -/
def fnExactClientHearSpec : ChangeSpec := { name := "fnExactClientHear", fn := fun _ => fun
  | [d1, d2, d3] => { results := [.lit (.bool true)], args := [d1, d2, d3] }
  | _ => none }
def fnExactClientHearRow : OpenClaim := { program := "ytlnmpaigojmahaa", sum := "32abb6f777a75e1085efff76dedd920ecb3c915ef5e807b4a3a483f056dd2d2e", func := "loop.example/g00095/laws.FnExactClientHear", spec := "fnExactClientHear", apart := false }
def FnExactClientHearSaid : Prop := fnExactClientHearRow.holds Try.pinned (OpenSpec.ofChange fnExactClientHearSpec)

/-- ITS FALSE NEIGHBOUR: 'it returns false'. Refute it at one input. -/
def fnExactClientHearWrong : ChangeSpec := { name := "fnExactClientHear", fn := fun _ => fun
  | [d1, d2, d3] => { results := [.lit (.bool false)], args := [d1, d2, d3] }
  | _ => none }
def FnExactClientHearWrongFalsely : Prop := fnExactClientHearRow.holds Try.pinned (OpenSpec.ofChange fnExactClientHearWrong)

/-- 'laws.FnExactServerNew': WHATEVER THE INPUT: true; the input reads as it did. -/
def fnExactServerNewSpec : ChangeSpec := { name := "fnExactServerNew", fn := fun _ => fun
  | [d1, d2] => { results := [.lit (.bool true)], args := [d1, d2] }
  | _ => none }
def fnExactServerNewRow : OpenClaim := { program := "ytlnmpaigojmahaa", sum := "32abb6f777a75e1085efff76dedd920ecb3c915ef5e807b4a3a483f056dd2d2e", func := "loop.example/g00095/laws.FnExactServerNew", spec := "fnExactServerNew", apart := false }
def FnExactServerNewSaid : Prop := fnExactServerNewRow.holds Try.pinned (OpenSpec.ofChange fnExactServerNewSpec)

/-- ITS FALSE NEIGHBOUR: 'it returns false'. Refute it at one input. -/
def fnExactServerNewWrong : ChangeSpec := { name := "fnExactServerNew", fn := fun _ => fun
  | [d1, d2] => { results := [.lit (.bool false)], args := [d1, d2] }
  | _ => none }
def FnExactServerNewWrongFalsely : Prop := fnExactServerNewRow.holds Try.pinned (OpenSpec.ofChange fnExactServerNewWrong)

/- THE SECOND FORM. 'bulk': how many values and letters a reading holds, each counted each time it is reached (what is shared counts as often as it is met; a slice's spare places count too). A statement '..UptoSaid' is the law's where the arguments, and the package variables that the reading takes, are together of bulk at most 1048576: NARROWER than '..Said'. Prove '..Said' where nothing that the law and all that it calls make is longer than what came in: it says more and counts as full. Else prove '..UptoSaid'. A law counts once. -/
mutual
def uptoBulk {H : Type} : DataW H → Nat
  | .lit (.string bytes) => bytes.length + 1
  | .lit _ => 1
  | .nil => 1
  | .ptr d => uptoBulk d + 1
  | .slice elems spare => uptoBulkAll elems + uptoBulkAll spare + 1
  | .agg parts => uptoBulkAll parts + 1
  | .iface _ d => uptoBulk d + 1
  | .map entries => uptoBulkEntries entries + 1
  | .held _ => 1
def uptoBulkAll {H : Type} : List (DataW H) → Nat
  | [] => 0
  | d :: r => uptoBulk d + uptoBulkAll r
def uptoBulkEntries {H : Type} : List (Lit × DataW H) → Nat
  | [] => 0
  | x :: r => uptoBulkEntry x + uptoBulkEntries r
def uptoBulkEntry {H : Type} : Lit × DataW H → Nat
  | (.string bytes, d) => bytes.length + uptoBulk d + 1
  | (_, d) => uptoBulk d + 1
 end
def uptoSmall : (H : Type) → List (DataW H) → Bool := fun _ ds => decide (uptoBulkAll ds ≤ 1048576)
def OpenSpec.upto (s : _root_.Go.ChangeSpec) : _root_.Go.OpenSpec := { _root_.Go.OpenSpec.ofChange s with cond := some uptoSmall }

/-- 'laws.FnExactNumBytes', WHERE WHAT IT READS IS OF BULK AT MOST 1048576: true; the input reads as it did. -/
def fnExactNumBytesUptoRow : OpenClaim := { program := "ytlnmpaigojmahaa", sum := "32abb6f777a75e1085efff76dedd920ecb3c915ef5e807b4a3a483f056dd2d2e", func := "loop.example/g00095/laws.FnExactNumBytes", spec := "fnExactNumBytes", apart := false, narrowed := true }
def FnExactNumBytesUptoSaid : Prop := fnExactNumBytesUptoRow.holds Try.pinned (OpenSpec.upto fnExactNumBytesSpec)

/-- 'laws.FnExactMsgSum', WHERE WHAT IT READS IS OF BULK AT MOST 1048576: true; the input reads as it did. -/
def fnExactMsgSumUptoRow : OpenClaim := { program := "ytlnmpaigojmahaa", sum := "32abb6f777a75e1085efff76dedd920ecb3c915ef5e807b4a3a483f056dd2d2e", func := "loop.example/g00095/laws.FnExactMsgSum", spec := "fnExactMsgSum", apart := false, narrowed := true }
def FnExactMsgSumUptoSaid : Prop := fnExactMsgSumUptoRow.holds Try.pinned (OpenSpec.upto fnExactMsgSumSpec)

/-- 'laws.FnExactClientRight', WHERE WHAT IT READS IS OF BULK AT MOST 1048576: true; the input reads as it did. -/
def fnExactClientRightUptoRow : OpenClaim := { program := "ytlnmpaigojmahaa", sum := "32abb6f777a75e1085efff76dedd920ecb3c915ef5e807b4a3a483f056dd2d2e", func := "loop.example/g00095/laws.FnExactClientRight", spec := "fnExactClientRight", apart := false, narrowed := true }
def FnExactClientRightUptoSaid : Prop := fnExactClientRightUptoRow.holds Try.pinned (OpenSpec.upto fnExactClientRightSpec)

/-- 'laws.FnExactClientUses', WHERE WHAT IT READS IS OF BULK AT MOST 1048576: true; the input reads as it did. -/
def fnExactClientUsesUptoRow : OpenClaim := { program := "ytlnmpaigojmahaa", sum := "32abb6f777a75e1085efff76dedd920ecb3c915ef5e807b4a3a483f056dd2d2e", func := "loop.example/g00095/laws.FnExactClientUses", spec := "fnExactClientUses", apart := false, narrowed := true }
def FnExactClientUsesUptoSaid : Prop := fnExactClientUsesUptoRow.holds Try.pinned (OpenSpec.upto fnExactClientUsesSpec)

/-- 'laws.FnExactClientNew', WHERE WHAT IT READS IS OF BULK AT MOST 1048576: true; the input reads as it did. -/
def fnExactClientNewUptoRow : OpenClaim := { program := "ytlnmpaigojmahaa", sum := "32abb6f777a75e1085efff76dedd920ecb3c915ef5e807b4a3a483f056dd2d2e", func := "loop.example/g00095/laws.FnExactClientNew", spec := "fnExactClientNew", apart := false, narrowed := true }
def FnExactClientNewUptoSaid : Prop := fnExactClientNewUptoRow.holds Try.pinned (OpenSpec.upto fnExactClientNewSpec)

/-- 'laws.FnExactMsgRight', WHERE WHAT IT READS IS OF BULK AT MOST 1048576: true; the input reads as it did. -/
def fnExactMsgRightUptoRow : OpenClaim := { program := "ytlnmpaigojmahaa", sum := "32abb6f777a75e1085efff76dedd920ecb3c915ef5e807b4a3a483f056dd2d2e", func := "loop.example/g00095/laws.FnExactMsgRight", spec := "fnExactMsgRight", apart := false, narrowed := true }
def FnExactMsgRightUptoSaid : Prop := fnExactMsgRightUptoRow.holds Try.pinned (OpenSpec.upto fnExactMsgRightSpec)

/-- 'laws.FnExactClientWant', WHERE WHAT IT READS IS OF BULK AT MOST 1048576: true; the input reads as it did. -/
def fnExactClientWantUptoRow : OpenClaim := { program := "ytlnmpaigojmahaa", sum := "32abb6f777a75e1085efff76dedd920ecb3c915ef5e807b4a3a483f056dd2d2e", func := "loop.example/g00095/laws.FnExactClientWant", spec := "fnExactClientWant", apart := false, narrowed := true }
def FnExactClientWantUptoSaid : Prop := fnExactClientWantUptoRow.holds Try.pinned (OpenSpec.upto fnExactClientWantSpec)

/-- 'laws.FnExactOpRight', WHERE WHAT IT READS IS OF BULK AT MOST 1048576: true; the input reads as it did. -/
def fnExactOpRightUptoRow : OpenClaim := { program := "ytlnmpaigojmahaa", sum := "32abb6f777a75e1085efff76dedd920ecb3c915ef5e807b4a3a483f056dd2d2e", func := "loop.example/g00095/laws.FnExactOpRight", spec := "fnExactOpRight", apart := false, narrowed := true }
def FnExactOpRightUptoSaid : Prop := fnExactOpRightUptoRow.holds Try.pinned (OpenSpec.upto fnExactOpRightSpec)

/-- 'laws.FnExactMsgBytes', WHERE WHAT IT READS IS OF BULK AT MOST 1048576: true; the input reads as it did. -/
def fnExactMsgBytesUptoRow : OpenClaim := { program := "ytlnmpaigojmahaa", sum := "32abb6f777a75e1085efff76dedd920ecb3c915ef5e807b4a3a483f056dd2d2e", func := "loop.example/g00095/laws.FnExactMsgBytes", spec := "fnExactMsgBytes", apart := false, narrowed := true }
def FnExactMsgBytesUptoSaid : Prop := fnExactMsgBytesUptoRow.holds Try.pinned (OpenSpec.upto fnExactMsgBytesSpec)

/-- 'laws.FnExactClientAsk', WHERE WHAT IT READS IS OF BULK AT MOST 1048576: true; the input reads as it did. -/
def fnExactClientAskUptoRow : OpenClaim := { program := "ytlnmpaigojmahaa", sum := "32abb6f777a75e1085efff76dedd920ecb3c915ef5e807b4a3a483f056dd2d2e", func := "loop.example/g00095/laws.FnExactClientAsk", spec := "fnExactClientAsk", apart := false, narrowed := true }
def FnExactClientAskUptoSaid : Prop := fnExactClientAskUptoRow.holds Try.pinned (OpenSpec.upto fnExactClientAskSpec)

/-- 'laws.FnExactClientHear', WHERE WHAT IT READS IS OF BULK AT MOST 1048576: true; the input reads as it did. -/
def fnExactClientHearUptoRow : OpenClaim := { program := "ytlnmpaigojmahaa", sum := "32abb6f777a75e1085efff76dedd920ecb3c915ef5e807b4a3a483f056dd2d2e", func := "loop.example/g00095/laws.FnExactClientHear", spec := "fnExactClientHear", apart := false, narrowed := true }
def FnExactClientHearUptoSaid : Prop := fnExactClientHearUptoRow.holds Try.pinned (OpenSpec.upto fnExactClientHearSpec)

/-- 'laws.FnExactServerNew', WHERE WHAT IT READS IS OF BULK AT MOST 1048576: true; the input reads as it did. -/
def fnExactServerNewUptoRow : OpenClaim := { program := "ytlnmpaigojmahaa", sum := "32abb6f777a75e1085efff76dedd920ecb3c915ef5e807b4a3a483f056dd2d2e", func := "loop.example/g00095/laws.FnExactServerNew", spec := "fnExactServerNew", apart := false, narrowed := true }
def FnExactServerNewUptoSaid : Prop := fnExactServerNewUptoRow.holds Try.pinned (OpenSpec.upto fnExactServerNewSpec)

end Rows
end Go.Proofs.Ytlnmpaigojmahaa
