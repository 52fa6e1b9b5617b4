/-
  No cell of these rows narrows 'for every input' (looked for: loops, veiled, ifaces, maps, wideKeys, modest, calm, conditions, laid).
  DERIVED. THE GIVEN ROWS OF THIS SEAT. 9 by the template 'for every input the law returns true; each argument reads behind the call as it read before'; 0 by the template 'total and deterministic' (their statements: YtipkbapnhgdpeaaTotals.lean).
  GIVEN WITH THE SEED: the statements are not yours to turn. If you find one false, say at which input.
  Laid BY PROGRAM, IN A SANDBOX (cutbox-rows.mjs): the forced cells as the released guide's own fill.sh prints them over the translation 5ef261e4ede4b88d… (all of the seat's roots in one cut). By AI agents, Wed Nov 11 2026. No macro, syntax, notation, axiom, sorry.
-/
import Derived.Test.YtipkbapnhgdpeaaChecked
import GoSem.Claim
import GoSem.ClaimJoined
import GoSem.ClaimMapViews
import Derived.JoinedTies
import Derived.KernelRfl
namespace Go.Proofs.Ytipkbapnhgdpeaa
/- THE CELL 'sum', in the pinned program and in every row, IS THE sha256 OF THE DUMP (.gsa) THAT YtipkbapnhgdpeaaProg.lean LOADS. Nothing in Lean hashes anything: it is a label: what it is worth is what the hold of that sum in a sandbox is worth. -/
noncomputable def Try.pinned : Pinned := { name := "ytipkbapnhgdpeaa", sum := "5ef261e4ede4b88d91eaa1e2376592e00dfedee77c149af3ed89cca67daf1b46", checked := Try.checked }
namespace Rows
def none {H : Type} : Left H := { results := [], args := [] }

/-- 'laws.FnExactServerRight': WHATEVER THE INPUT: true; the input reads as it did. -/
def fnExactServerRightSpec : ChangeSpec := { name := "fnExactServerRight", fn := fun _ => fun
  | [d] => { results := [.lit (.bool true)], args := [d] }
  | _ => none }
def fnExactServerRightRow : OpenClaim := { program := "ytipkbapnhgdpeaa", sum := "5ef261e4ede4b88d91eaa1e2376592e00dfedee77c149af3ed89cca67daf1b46", func := "loop.example/g00095/laws.FnExactServerRight", spec := "fnExactServerRight", unfollowed := true, recurses := true, apart := false }
def FnExactServerRightSaid : Prop := fnExactServerRightRow.holds Try.pinned (OpenSpec.ofChange fnExactServerRightSpec)

/-- ITS FALSE NEIGHBOUR: 'it returns false'. Refute it at one input. -/
def fnExactServerRightWrong : ChangeSpec := { name := "fnExactServerRight", fn := fun _ => fun
  | [d] => { results := [.lit (.bool false)], args := [d] }
  | _ => none }
def FnExactServerRightWrongFalsely : Prop := fnExactServerRightRow.holds Try.pinned (OpenSpec.ofChange fnExactServerRightWrong)

/-- 'laws.FnExactServerFree': WHATEVER THE INPUT: true; the input reads as it did. -/
def fnExactServerFreeSpec : ChangeSpec := { name := "fnExactServerFree", fn := fun _ => fun
  | [d] => { results := [.lit (.bool true)], args := [d] }
  | _ => none }
def fnExactServerFreeRow : OpenClaim := { program := "ytipkbapnhgdpeaa", sum := "5ef261e4ede4b88d91eaa1e2376592e00dfedee77c149af3ed89cca67daf1b46", func := "loop.example/g00095/laws.FnExactServerFree", spec := "fnExactServerFree", unfollowed := true, recurses := true, apart := false }
def FnExactServerFreeSaid : Prop := fnExactServerFreeRow.holds Try.pinned (OpenSpec.ofChange fnExactServerFreeSpec)

/-- ITS FALSE NEIGHBOUR: 'it returns false'. Refute it at one input. -/
def fnExactServerFreeWrong : ChangeSpec := { name := "fnExactServerFree", fn := fun _ => fun
  | [d] => { results := [.lit (.bool false)], args := [d] }
  | _ => none }
def FnExactServerFreeWrongFalsely : Prop := fnExactServerFreeRow.holds Try.pinned (OpenSpec.ofChange fnExactServerFreeWrong)

/-- 'laws.FnExactWorldRight': WHATEVER THE INPUT: true; the input reads as it did. -/
def fnExactWorldRightSpec : ChangeSpec := { name := "fnExactWorldRight", fn := fun _ => fun
  | [d] => { results := [.lit (.bool true)], args := [d] }
  | _ => none }
def fnExactWorldRightRow : OpenClaim := { program := "ytipkbapnhgdpeaa", sum := "5ef261e4ede4b88d91eaa1e2376592e00dfedee77c149af3ed89cca67daf1b46", func := "loop.example/g00095/laws.FnExactWorldRight", spec := "fnExactWorldRight", unfollowed := true, recurses := true, apart := false }
def FnExactWorldRightSaid : Prop := fnExactWorldRightRow.holds Try.pinned (OpenSpec.ofChange fnExactWorldRightSpec)

/-- ITS FALSE NEIGHBOUR: 'it returns false'. Refute it at one input. -/
def fnExactWorldRightWrong : ChangeSpec := { name := "fnExactWorldRight", fn := fun _ => fun
  | [d] => { results := [.lit (.bool false)], args := [d] }
  | _ => none }
def FnExactWorldRightWrongFalsely : Prop := fnExactWorldRightRow.holds Try.pinned (OpenSpec.ofChange fnExactWorldRightWrong)

/-- 'laws.FnExactWorldUsed': WHATEVER THE INPUT: true; the input reads as it did. -/
def fnExactWorldUsedSpec : ChangeSpec := { name := "fnExactWorldUsed", fn := fun _ => fun
  | [d] => { results := [.lit (.bool true)], args := [d] }
  | _ => none }
def fnExactWorldUsedRow : OpenClaim := { program := "ytipkbapnhgdpeaa", sum := "5ef261e4ede4b88d91eaa1e2376592e00dfedee77c149af3ed89cca67daf1b46", func := "loop.example/g00095/laws.FnExactWorldUsed", spec := "fnExactWorldUsed", unfollowed := true, recurses := true, apart := false }
def FnExactWorldUsedSaid : Prop := fnExactWorldUsedRow.holds Try.pinned (OpenSpec.ofChange fnExactWorldUsedSpec)

/-- ITS FALSE NEIGHBOUR: 'it returns false'. Refute it at one input. -/
def fnExactWorldUsedWrong : ChangeSpec := { name := "fnExactWorldUsed", fn := fun _ => fun
  | [d] => { results := [.lit (.bool false)], args := [d] }
  | _ => none }
def FnExactWorldUsedWrongFalsely : Prop := fnExactWorldUsedRow.holds Try.pinned (OpenSpec.ofChange fnExactWorldUsedWrong)

/-- 'laws.FnFarmBack': WHATEVER THE INPUT: true; the input reads as it did. -/
def fnFarmBackSpec : ChangeSpec := { name := "fnFarmBack", fn := fun _ => fun
  | [d] => { results := [.lit (.bool true)], args := [d] }
  | _ => none }
def fnFarmBackRow : OpenClaim := { program := "ytipkbapnhgdpeaa", sum := "5ef261e4ede4b88d91eaa1e2376592e00dfedee77c149af3ed89cca67daf1b46", func := "loop.example/g00095/laws.FnFarmBack", spec := "fnFarmBack", inPlace := ["slices.overlaps[loop.example/g00095/impl.Member]", "slices.overlaps[loop.example/g00095/impl.Group]"], unfollowed := true, recurses := true, apart := false }
def FnFarmBackSaid : Prop := fnFarmBackRow.holds Try.pinned (OpenSpec.ofChange fnFarmBackSpec)

/-- ITS FALSE NEIGHBOUR: 'it returns false'. Refute it at one input. -/
def fnFarmBackWrong : ChangeSpec := { name := "fnFarmBack", fn := fun _ => fun
  | [d] => { results := [.lit (.bool false)], args := [d] }
  | _ => none }
def FnFarmBackWrongFalsely : Prop := fnFarmBackRow.holds Try.pinned (OpenSpec.ofChange fnFarmBackWrong)

/-- 'laws.FnExactFarmBack': WHATEVER THE INPUT: true; the input reads as it did. -/
def fnExactFarmBackSpec : ChangeSpec := { name := "fnExactFarmBack", fn := fun _ => fun
  | [d1, d2] => { results := [.lit (.bool true)], args := [d1, d2] }
  | _ => none }
def fnExactFarmBackRow : OpenClaim := { program := "ytipkbapnhgdpeaa", sum := "5ef261e4ede4b88d91eaa1e2376592e00dfedee77c149af3ed89cca67daf1b46", func := "loop.example/g00095/laws.FnExactFarmBack", spec := "fnExactFarmBack", inPlace := ["slices.overlaps[loop.example/g00095/impl.Member]", "slices.overlaps[loop.example/g00095/impl.Group]"], unfollowed := true, recurses := true, apart := false }
def FnExactFarmBackSaid : Prop := fnExactFarmBackRow.holds Try.pinned (OpenSpec.ofChange fnExactFarmBackSpec)

/-- ITS FALSE NEIGHBOUR: 'it returns false'. Refute it at one input. -/
def fnExactFarmBackWrong : ChangeSpec := { name := "fnExactFarmBack", fn := fun _ => fun
  | [d1, d2] => { results := [.lit (.bool false)], args := [d1, d2] }
  | _ => none }
def FnExactFarmBackWrongFalsely : Prop := fnExactFarmBackRow.holds Try.pinned (OpenSpec.ofChange fnExactFarmBackWrong)

/-- 'laws.FnFarmRun': WHATEVER THE INPUT: true; the input reads as it did. -/
def fnFarmRunSpec : ChangeSpec := { name := "fnFarmRun", fn := fun _ => fun
  | [d] => { results := [.lit (.bool true)], args := [d] }
  | _ => none }
def fnFarmRunRow : OpenClaim := { program := "ytipkbapnhgdpeaa", sum := "5ef261e4ede4b88d91eaa1e2376592e00dfedee77c149af3ed89cca67daf1b46", func := "loop.example/g00095/laws.FnFarmRun", spec := "fnFarmRun", inPlace := ["slices.overlaps[loop.example/g00095/impl.Member]", "slices.overlaps[loop.example/g00095/impl.Group]"], unfollowed := true, recurses := true, apart := false }
def FnFarmRunSaid : Prop := fnFarmRunRow.holds Try.pinned (OpenSpec.ofChange fnFarmRunSpec)

/-- ITS FALSE NEIGHBOUR: 'it returns false'. Refute it at one input. -/
def fnFarmRunWrong : ChangeSpec := { name := "fnFarmRun", fn := fun _ => fun
  | [d] => { results := [.lit (.bool false)], args := [d] }
  | _ => none }
def FnFarmRunWrongFalsely : Prop := fnFarmRunRow.holds Try.pinned (OpenSpec.ofChange fnFarmRunWrong)

/-- 'laws.FnExactFarmEdit': WHATEVER THE INPUT: true; the input reads as it did. -/
def fnExactFarmEditSpec : ChangeSpec := { name := "fnExactFarmEdit", fn := fun _ => fun
  | [d1, d2] => { results := [.lit (.bool true)], args := [d1, d2] }
  | _ => none }
def fnExactFarmEditRow : OpenClaim := { program := "ytipkbapnhgdpeaa", sum := "5ef261e4ede4b88d91eaa1e2376592e00dfedee77c149af3ed89cca67daf1b46", func := "loop.example/g00095/laws.FnExactFarmEdit", spec := "fnExactFarmEdit", inPlace := ["slices.overlaps[loop.example/g00095/impl.Member]", "slices.overlaps[loop.example/g00095/impl.Group]"], unfollowed := true, recurses := true, apart := false }
def FnExactFarmEditSaid : Prop := fnExactFarmEditRow.holds Try.pinned (OpenSpec.ofChange fnExactFarmEditSpec)

/-- ITS FALSE NEIGHBOUR: 'it returns false'. Refute it at one input. -/
def fnExactFarmEditWrong : ChangeSpec := { name := "fnExactFarmEdit", fn := fun _ => fun
  | [d1, d2] => { results := [.lit (.bool false)], args := [d1, d2] }
  | _ => none }
def FnExactFarmEditWrongFalsely : Prop := fnExactFarmEditRow.holds Try.pinned (OpenSpec.ofChange fnExactFarmEditWrong)

/-- 'laws.FnExactFarmRun': WHATEVER THE INPUT: true; the input reads as it did. -/
def fnExactFarmRunSpec : ChangeSpec := { name := "fnExactFarmRun", fn := fun _ => fun
  | [d1, d2] => { results := [.lit (.bool true)], args := [d1, d2] }
  | _ => none }
def fnExactFarmRunRow : OpenClaim := { program := "ytipkbapnhgdpeaa", sum := "5ef261e4ede4b88d91eaa1e2376592e00dfedee77c149af3ed89cca67daf1b46", func := "loop.example/g00095/laws.FnExactFarmRun", spec := "fnExactFarmRun", inPlace := ["slices.overlaps[loop.example/g00095/impl.Member]", "slices.overlaps[loop.example/g00095/impl.Group]"], unfollowed := true, recurses := true, apart := false }
def FnExactFarmRunSaid : Prop := fnExactFarmRunRow.holds Try.pinned (OpenSpec.ofChange fnExactFarmRunSpec)

/-- ITS FALSE NEIGHBOUR: 'it returns false'. Refute it at one input. -/
def fnExactFarmRunWrong : ChangeSpec := { name := "fnExactFarmRun", fn := fun _ => fun
  | [d1, d2] => { results := [.lit (.bool false)], args := [d1, d2] }
  | _ => none }
def FnExactFarmRunWrongFalsely : Prop := fnExactFarmRunRow.holds Try.pinned (OpenSpec.ofChange fnExactFarmRunWrong)

/- THE SECOND FORM. 'bulk': how many values and letters a reading holds, each counted each time it is reached (what is shared counts as often as it is met; a slice's spare places count too). A statement '..UptoSaid' is the law's where the arguments, and the package variables that the reading takes, are together of bulk at most 1048576: NARROWER than '..Said'. Prove '..Said' where nothing that the law and all that it calls make is longer than what came in: it says more and counts as full. Else prove '..UptoSaid'. A law counts once. -/
mutual
def uptoBulk {H : Type} : DataW H → Nat
  | .lit (.string bytes) => bytes.length + 1
  | .lit _ => 1
  | .nil => 1
  | .ptr d => uptoBulk d + 1
  | .slice elems spare => uptoBulkAll elems + uptoBulkAll spare + 1
  | .agg parts => uptoBulkAll parts + 1
  | .iface _ d => uptoBulk d + 1
  | .map entries => uptoBulkEntries entries + 1
  | .held _ => 1
def uptoBulkAll {H : Type} : List (DataW H) → Nat
  | [] => 0
  | d :: r => uptoBulk d + uptoBulkAll r
def uptoBulkEntries {H : Type} : List (Lit × DataW H) → Nat
  | [] => 0
  | x :: r => uptoBulkEntry x + uptoBulkEntries r
def uptoBulkEntry {H : Type} : Lit × DataW H → Nat
  | (.string bytes, d) => bytes.length + uptoBulk d + 1
  | (_, d) => uptoBulk d + 1
 end
def uptoSmall : (H : Type) → List (DataW H) → Bool := fun _ ds => decide (uptoBulkAll ds ≤ 1048576)
def OpenSpec.upto (s : _root_.Go.ChangeSpec) : _root_.Go.OpenSpec := { _root_.Go.OpenSpec.ofChange s with cond := some uptoSmall }

/-- 'laws.FnExactServerRight', WHERE WHAT IT READS IS OF BULK AT MOST 1048576: true; the input reads as it did. -/
def fnExactServerRightUptoRow : OpenClaim := { program := "ytipkbapnhgdpeaa", sum := "5ef261e4ede4b88d91eaa1e2376592e00dfedee77c149af3ed89cca67daf1b46", func := "loop.example/g00095/laws.FnExactServerRight", spec := "fnExactServerRight", unfollowed := true, recurses := true, apart := false, narrowed := true }
def FnExactServerRightUptoSaid : Prop := fnExactServerRightUptoRow.holds Try.pinned (OpenSpec.upto fnExactServerRightSpec)

/-- 'laws.FnExactServerFree', WHERE WHAT IT READS IS OF BULK AT MOST 1048576: true; the input reads as it did. -/
def fnExactServerFreeUptoRow : OpenClaim := { program := "ytipkbapnhgdpeaa", sum := "5ef261e4ede4b88d91eaa1e2376592e00dfedee77c149af3ed89cca67daf1b46", func := "loop.example/g00095/laws.FnExactServerFree", spec := "fnExactServerFree", unfollowed := true, recurses := true, apart := false, narrowed := true }
def FnExactServerFreeUptoSaid : Prop := fnExactServerFreeUptoRow.holds Try.pinned (OpenSpec.upto fnExactServerFreeSpec)

/-- 'laws.FnExactWorldRight', WHERE WHAT IT READS IS OF BULK AT MOST 1048576: true; the input reads as it did. -/
def fnExactWorldRightUptoRow : OpenClaim := { program := "ytipkbapnhgdpeaa", sum := "5ef261e4ede4b88d91eaa1e2376592e00dfedee77c149af3ed89cca67daf1b46", func := "loop.example/g00095/laws.FnExactWorldRight", spec := "fnExactWorldRight", unfollowed := true, recurses := true, apart := false, narrowed := true }
def FnExactWorldRightUptoSaid : Prop := fnExactWorldRightUptoRow.holds Try.pinned (OpenSpec.upto fnExactWorldRightSpec)

/-- 'laws.FnExactWorldUsed', WHERE WHAT IT READS IS OF BULK AT MOST 1048576: true; the input reads as it did. -/
def fnExactWorldUsedUptoRow : OpenClaim := { program := "ytipkbapnhgdpeaa", sum := "5ef261e4ede4b88d91eaa1e2376592e00dfedee77c149af3ed89cca67daf1b46", func := "loop.example/g00095/laws.FnExactWorldUsed", spec := "fnExactWorldUsed", unfollowed := true, recurses := true, apart := false, narrowed := true }
def FnExactWorldUsedUptoSaid : Prop := fnExactWorldUsedUptoRow.holds Try.pinned (OpenSpec.upto fnExactWorldUsedSpec)

/-- 'laws.FnFarmBack', WHERE WHAT IT READS IS OF BULK AT MOST 1048576: true; the input reads as it did. -/
def fnFarmBackUptoRow : OpenClaim := { program := "ytipkbapnhgdpeaa", sum := "5ef261e4ede4b88d91eaa1e2376592e00dfedee77c149af3ed89cca67daf1b46", func := "loop.example/g00095/laws.FnFarmBack", spec := "fnFarmBack", inPlace := ["slices.overlaps[loop.example/g00095/impl.Member]", "slices.overlaps[loop.example/g00095/impl.Group]"], unfollowed := true, recurses := true, apart := false, narrowed := true }
def FnFarmBackUptoSaid : Prop := fnFarmBackUptoRow.holds Try.pinned (OpenSpec.upto fnFarmBackSpec)

/-- 'laws.FnExactFarmBack', WHERE WHAT IT READS IS OF BULK AT MOST 1048576: true; the input reads as it did. -/
def fnExactFarmBackUptoRow : OpenClaim := { program := "ytipkbapnhgdpeaa", sum := "5ef261e4ede4b88d91eaa1e2376592e00dfedee77c149af3ed89cca67daf1b46", func := "loop.example/g00095/laws.FnExactFarmBack", spec := "fnExactFarmBack", inPlace := ["slices.overlaps[loop.example/g00095/impl.Member]", "slices.overlaps[loop.example/g00095/impl.Group]"], unfollowed := true, recurses := true, apart := false, narrowed := true }
def FnExactFarmBackUptoSaid : Prop := fnExactFarmBackUptoRow.holds Try.pinned (OpenSpec.upto fnExactFarmBackSpec)

/-- 'laws.FnFarmRun', WHERE WHAT IT READS IS OF BULK AT MOST 1048576: true; the input reads as it did. -/
def fnFarmRunUptoRow : OpenClaim := { program := "ytipkbapnhgdpeaa", sum := "5ef261e4ede4b88d91eaa1e2376592e00dfedee77c149af3ed89cca67daf1b46", func := "loop.example/g00095/laws.FnFarmRun", spec := "fnFarmRun", inPlace := ["slices.overlaps[loop.example/g00095/impl.Member]", "slices.overlaps[loop.example/g00095/impl.Group]"], unfollowed := true, recurses := true, apart := false, narrowed := true }
def FnFarmRunUptoSaid : Prop := fnFarmRunUptoRow.holds Try.pinned (OpenSpec.upto fnFarmRunSpec)

/-- 'laws.FnExactFarmEdit', WHERE WHAT IT READS IS OF BULK AT MOST 1048576: true; the input reads as it did. -/
def fnExactFarmEditUptoRow : OpenClaim := { program := "ytipkbapnhgdpeaa", sum := "5ef261e4ede4b88d91eaa1e2376592e00dfedee77c149af3ed89cca67daf1b46", func := "loop.example/g00095/laws.FnExactFarmEdit", spec := "fnExactFarmEdit", inPlace := ["slices.overlaps[loop.example/g00095/impl.Member]", "slices.overlaps[loop.example/g00095/impl.Group]"], unfollowed := true, recurses := true, apart := false, narrowed := true }
def FnExactFarmEditUptoSaid : Prop := fnExactFarmEditUptoRow.holds Try.pinned (OpenSpec.upto fnExactFarmEditSpec)

/-- 'laws.FnExactFarmRun', WHERE WHAT IT READS IS OF BULK AT MOST 1048576: true; the input reads as it did. -/
def fnExactFarmRunUptoRow : OpenClaim := { program := "ytipkbapnhgdpeaa", sum := "5ef261e4ede4b88d91eaa1e2376592e00dfedee77c149af3ed89cca67daf1b46", func := "loop.example/g00095/laws.FnExactFarmRun", spec := "fnExactFarmRun", inPlace := ["slices.overlaps[loop.example/g00095/impl.Member]", "slices.overlaps[loop.example/g00095/impl.Group]"], unfollowed := true, recurses := true, apart := false, narrowed := true }
def FnExactFarmRunUptoSaid : Prop := fnExactFarmRunUptoRow.holds Try.pinned (OpenSpec.upto fnExactFarmRunSpec)

end Rows
end Go.Proofs.Ytipkbapnhgdpeaa
