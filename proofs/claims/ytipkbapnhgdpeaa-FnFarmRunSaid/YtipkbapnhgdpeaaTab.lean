/- Tables in memory: rows of k whole numbers, one behind the other. No condition. -/
import Derived.Test.YtipkbapnhgdpeaaLaw
import Derived.LoopTactic
import Derived.Laws.MakeOwn
namespace Go.Proofs.Ytipkbapnhgdpeaa.C
open Go.RowKit
set_option linter.unusedVariables false
/-- n rows of k numbers lie at A: f i j is the number j of row i. -/
def Tab (k : Nat) (w : World) (A : Option Addr) (n : Nat) (f : Nat → Nat → Int) : Prop :=
  (A = none ∧ n = 0) ∨ ∃ g off, A = some ⟨g, off, none⟩ ∧ g < w.heap.size ∧ ∀ i j, i < n → j < k → w.cell? ⟨g, off + i * k + j, none⟩ = some (.int .i64 (f i j))
theorem Tab.keep {k n : Nat} {w w' : World} {A : Option Addr} {f : Nat → Nat → Int} (h : Tab k w A n f) (hb : Below w.heap.size w w') : Tab k w' A n f := by
  rcases h with h | ⟨g, off, e, hg, hx⟩
  · exact .inl h
  · exact .inr ⟨g, off, e, Nat.lt_of_lt_of_le hg hb.size, fun i j hi hj => (hb.cell (p := ⟨g, off + i * k + j, none⟩) hg).trans (hx i j hi hj)⟩
theorem Tab.at {k n : Nat} {w : World} {A : Option Addr} {f : Nat → Nat → Int} (h : Tab k w A n f) (hn : 0 < n) :
    ∃ g off, A = some ⟨g, off, none⟩ ∧ g < w.heap.size ∧ ∀ i j, i < n → j < k → w.cell? ⟨g, off + i * k + j, none⟩ = some (.int .i64 (f i j)) := by
  rcases h with ⟨_, rfl⟩ | h
  · omega
  · exact h
theorem Tab.less {k n m : Nat} {w : World} {A : Option Addr} {f : Nat → Nat → Int} (h : Tab k w A n f) (hm : m ≤ n) : Tab k w A m f := by
  rcases h with ⟨e, rfl⟩ | ⟨g, off, e, hg, hx⟩
  · exact .inl ⟨e, by omega⟩
  · exact .inr ⟨g, off, e, hg, fun i j hi hj => hx i j (by omega) hj⟩
/-- The same of a parameter's rows, whose place may be any. -/
def TabA (k : Nat) (w : World) (A : Option Addr) (n : Nat) (f : Nat → Nat → Int) : Prop :=
  ∀ i, i < n → ∃ ad : Addr, A = some ad ∧ ad.block < w.heap.size ∧ w.cell? (ad.add (i * k)) = some (.int .i64 (f i 0)) ∧ ∀ j, 0 < j → j < k → w.cell? ⟨(ad.add (i * k)).block, (ad.add (i * k)).off + j, none⟩ = some (.int .i64 (f i j))
theorem add_block (a : Addr) (n : Nat) : (a.add n).block = a.block := by rw [Addr.add]; split <;> rfl
theorem TabA.keep {k n : Nat} {w w' : World} {A : Option Addr} {f : Nat → Nat → Int} (h : TabA k w A n f) (hb : Below w.heap.size w w') : TabA k w' A n f := fun i hi =>
  let ⟨ad, e, hl, h0, hx⟩ := h i hi
  ⟨ad, e, Nat.lt_of_lt_of_le hl hb.size, (hb.cell (by rw [add_block]; exact hl)).trans h0, fun j hj hk => (hb.cell (p := ⟨(ad.add (i * k)).block, (ad.add (i * k)).off + j, none⟩) (by show (ad.add (i * k)).block < _; rw [add_block]; exact hl)).trans (hx j hj hk)⟩
/-- A block of whole numbers of a call's own: F p is the number at place p. -/
def FlatW (w : World) (B g N : Nat) (F : Nat → Int) (t : Nat) : Prop := ∃ cs : Array Value, Blk w B g cs t ∧ cs.size = N ∧ ∀ p, p < N → cs[p]? = some (.int .i64 (F p))
theorem FlatW.keep {w w' : World} {B g N t : Nat} {F : Nat → Int} (h : FlatW w B g N F t) (hb : Below w.heap.size w w') : FlatW w' B g N F t := let ⟨cs, h1, h2, h3⟩ := h; ⟨cs, h1.keep hb, h2, h3⟩
theorem FlatW.cell {w : World} {B g N t : Nat} {F : Nat → Int} (h : FlatW w B g N F t) {p : Nat} (hp : p < N) : w.cell? ⟨g, p, none⟩ = some (.int .i64 (F p)) := let ⟨cs, h1, _, h3⟩ := h; (h1.cell p).trans (h3 p hp)
theorem FlatW.frozen {w : World} {B g N t : Nat} {F : Nat → Int} (h : FlatW w B g N F t) (p : Nat) : w.frozen? ⟨g, p, none⟩ = false := let ⟨_, h1, _⟩ := h; h1.frozen p
theorem FlatW.lt {w : World} {B g N t : Nat} {F : Nat → Int} (h : FlatW w B g N F t) : g < w.heap.size := let ⟨_, h1, _⟩ := h; h1.lt
theorem FlatW.ge {w : World} {B g N t : Nat} {F : Nat → Int} (h : FlatW w B g N F t) : B ≤ g := let ⟨_, h1, _⟩ := h; h1.1
theorem FlatW.set {w : World} {B g N t : Nat} {F : Nat → Int} (h : FlatW w B g N F t) {p0 : Nat} (hp : p0 < N) (v : Int) : FlatW (w.setCell ⟨g, p0, none⟩ (.int .i64 v)) B g N (fun p => if p = p0 then v else F p) t := by
  obtain ⟨cs, h1, h2, h3⟩ := h
  refine ⟨_, h1.setc p0 (.int .i64 v), by simpa using h2, fun p hpN => ?_⟩
  rw [Array.getElem?_setIfInBounds]
  by_cases e : p0 = p
  · subst e
    have e2 : p0 < cs.size := by omega
    simp [e2]
  · have e2 : ¬ p = p0 := fun h => e h.symm
    simp only [e, e2, if_false]
    exact h3 p hpN
theorem made_at (zc : Array Value) (m p : Nat) (hz : ∀ q, q < zc.size → zc[q]? = some (.int .i64 0)) (h0 : 0 < zc.size) (hp : p < m) : (madeCells zc m)[p]? = some (.int .i64 0) := by
  have h := hz (p % zc.size) (Nat.mod_lt _ h0)
  have h2 := (Array.getElem?_eq_some_iff.1 h).2
  have h3 := Nat.mod_lt p h0
  simp [madeCells, hp]
  rw [getElem!_pos zc (p % zc.size) h3]
  exact h2
theorem FlatW.made (w : World) (zc : Array Value) (N t : Nat) (hz : ∀ q, q < zc.size → zc[q]? = some (.int .i64 0)) (h0 : 0 < zc.size) : FlatW (w.alloc (.cells (madeCells zc N) t)) w.heap.size w.heap.size N (fun _ => 0) t :=
  ⟨_, Blk.new (Nat.le_refl _) _ _, by simp [madeCells], fun p hp => made_at zc N p hz h0 hp⟩
theorem FlatW.tab {w : World} {B g n t k : Nat} {F : Nat → Int} {f : Nat → Nat → Int} (h : FlatW w B g (n * k) F t) (hf : ∀ i j, i < n → j < k → F (i * k + j) = f i j) : Tab k w (some ⟨g, 0, none⟩) n f :=
  .inr ⟨g, 0, rfl, h.lt, fun i j hi hj => by
    rw [Nat.zero_add, h.cell (p := i * k + j) (by
      have := Nat.mul_le_mul_right k (show i + 1 ≤ n from hi)
      rw [Nat.add_mul, Nat.one_mul] at this
      omega), hf i j hi hj]⟩
end Go.Proofs.Ytipkbapnhgdpeaa.C
