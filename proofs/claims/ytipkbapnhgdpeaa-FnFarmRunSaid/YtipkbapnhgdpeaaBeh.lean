/- A region that draws its order, whose operations only read and whose callees leave all that lay: walked once, in the order of the text. No condition. -/
import Derived.Test.YtipkbapnhgdpeaaLaw
namespace Go.Proofs.Ytipkbapnhgdpeaa.C
open Go.RowKit
/-- A world behind w0. -/
structure BehW (w0 : World) where
  w : World
  h : Below w0.heap.size w0 w
instance {w0 : World} : Nonempty (BehW w0) := ⟨⟨w0, Below.refl _ _⟩⟩
theorem wp_region_beh {P : Program} {id : Nat} {Q : Exit → Act → World → Prop} {a : Act} {w : World} {l : List Oper} (hm : P.follows .mixedOrders = true) (hB : Region.lexB .any l.toArray = true)
    (h : wpQuiet P l.toArray (fun w' => ∃ p : BehW w, w' = p.w) (fun a' => ∀ w', (∃ p : BehW w, w' = p.w) → Q .normal a' w') l a) : (Code.region id l.toArray true).wp P Q a w :=
  wp_region_quiet (C := fun w' => ∃ p : BehW w, w' = p.w) hm hB ⟨⟨_, (Below.refl _ _).drew⟩, rfl⟩ (by simpa using h)
theorem beh_same {P : Program} {f : FuncId} {args : Array Value} {w0 : World} {p : BehW w0} {v : Value} (h : Calls P f args p.w fun e w' => e = .returned v ∧ p.w = w') : Calls P f args p.w fun e w'' => e = .returned v ∧ ∃ q : BehW w0, w'' = q.w :=
  h.mono fun _ _ ⟨he, hm⟩ => ⟨he, p, hm.symm⟩
theorem beh_below {P : Program} {f : FuncId} {args : Array Value} {w0 : World} {p : BehW w0} {v : Value} (h : Calls P f args p.w fun e w' => e = .returned v ∧ Below p.w.heap.size p.w w') : Calls P f args p.w fun e w'' => e = .returned v ∧ ∃ q : BehW w0, w'' = q.w :=
  h.mono fun _ _ ⟨he, hm⟩ => ⟨he, ⟨_, p.h.trans (hm.mono p.h.size)⟩, rfl⟩
end Go.Proofs.Ytipkbapnhgdpeaa.C
