/- The head of a block of whole numbers of a call's own, to be marked. No condition. -/
import Derived.Test.YtipkbapnhgdpeaaTab
namespace Go.Proofs.Ytipkbapnhgdpeaa.C
open Go.RowKit
set_option linter.unusedVariables false
theorem int_eq {a b : Int} (h : a = b) : Value.int .i64 a = Value.int .i64 b := by rw [h]
/-- The first N cells of block g are whole numbers: F p at place p. -/
def FlatP (w : World) (B g N : Nat) (F : Nat → Int) (t : Nat) : Prop := ∃ cs : Array Value, Blk w B g cs t ∧ N ≤ cs.size ∧ ∀ p, p < N → cs[p]? = some (.int .i64 (F p))
theorem FlatP.keep {w w' : World} {B g N t : Nat} {F : Nat → Int} (h : FlatP w B g N F t) (hb : Below w.heap.size w w') : FlatP w' B g N F t := let ⟨cs, h1, h2, h3⟩ := h; ⟨cs, h1.keep hb, h2, h3⟩
theorem FlatP.cell {w : World} {B g N t : Nat} {F : Nat → Int} (h : FlatP w B g N F t) {p : Nat} (hp : p < N) : w.cell? ⟨g, p, none⟩ = some (.int .i64 (F p)) := let ⟨cs, h1, _, h3⟩ := h; (h1.cell p).trans (h3 p hp)
theorem FlatP.frozen {w : World} {B g N t : Nat} {F : Nat → Int} (h : FlatP w B g N F t) (p : Nat) : w.frozen? ⟨g, p, none⟩ = false := let ⟨_, h1, _⟩ := h; h1.frozen p
theorem FlatP.lt {w : World} {B g N t : Nat} {F : Nat → Int} (h : FlatP w B g N F t) : g < w.heap.size := let ⟨_, h1, _⟩ := h; h1.lt
theorem FlatP.congr {w : World} {B g N t : Nat} {F F' : Nat → Int} (h : FlatP w B g N F t) (e : ∀ p, p < N → F p = F' p) : FlatP w B g N F' t := let ⟨cs, h1, h2, h3⟩ := h; ⟨cs, h1, h2, fun p hp => by rw [← e p hp]; exact h3 p hp⟩
theorem FlatP.set {w : World} {B g N t : Nat} {F : Nat → Int} (h : FlatP w B g N F t) {p0 : Nat} (hp : p0 < N) (v : Int) : FlatP (w.setCell ⟨g, p0, none⟩ (.int .i64 v)) B g N (fun p => if p = p0 then v else F p) t := by
  obtain ⟨cs, h1, h2, h3⟩ := h
  refine ⟨_, h1.setc p0 (.int .i64 v), by simpa using h2, fun p hpN => ?_⟩
  rw [Array.getElem?_setIfInBounds]
  by_cases e : p0 = p
  · subst e
    have e2 : p0 < cs.size := by omega
    simp [e2]
  · have e2 : ¬ p = p0 := fun h => e h.symm
    simp only [e, e2, if_false]
    exact h3 p hpN
theorem FlatP.tab {w : World} {B g n t k : Nat} {F : Nat → Int} {f : Nat → Nat → Int} (h : FlatP w B g (n * k) F t) (hf : ∀ i j, i < n → j < k → F (i * k + j) = f i j) : Tab k w (some ⟨g, 0, none⟩) n f :=
  .inr ⟨g, 0, rfl, h.lt, fun i j hi hj => by
    rw [Nat.zero_add, h.cell (p := i * k + j) (by
      have := Nat.mul_le_mul_right k (show i + 1 ≤ n from hi)
      rw [Nat.add_mul, Nat.one_mul] at this
      omega), hf i j hi hj]⟩
end Go.Proofs.Ytipkbapnhgdpeaa.C
