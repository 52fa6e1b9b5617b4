/- Tables of four whole numbers a row, of a call's own: rows put in, taken out, written into. No condition. -/
import Derived.Test.YtipkbapnhgdpeaaFarmC
import Derived.Laws.OwnMore
import Derived.Laws.IdiomCopy
import Derived.Laws.CopyRow
import Derived.Laws.Externs
import Derived.Lib.Overlaps
import Derived.Lib.AppendZerosOnto
import Derived.Shelf.Spec.SlicesInsert
namespace Go.Proofs.Ytipkbapnhgdpeaa.C
open Go.RowKit
set_option maxRecDepth 100000
set_option linter.unusedVariables false
set_option linter.unusedSimpArgs false
/-- The cells of n rows. -/
def tr (n : Nat) (f : Nat → Nat → Int) : List Value := (List.range (n * 4)).map fun p => .int .i64 (f (p / 4) (p % 4))
theorem tr_len (n : Nat) (f : Nat → Nat → Int) : (tr n f).length = n * 4 := by simp [tr]
theorem tr_get {n : Nat} {f : Nat → Nat → Int} {p : Nat} (h : p < n * 4) : (tr n f)[p]? = some (.int .i64 (f (p / 4) (p % 4))) := by simp [tr, h]
theorem tr_at {n : Nat} {f : Nat → Nat → Int} {i j : Nat} (hi : i < n) (hj : j < 4) : (tr n f)[i * 4 + j]? = some (.int .i64 (f i j)) := by
  rw [tr_get (by omega), show (i * 4 + j) / 4 = i by omega, show (i * 4 + j) % 4 = j by omega]
theorem tr_none {n : Nat} {f : Nat → Nat → Int} {p : Nat} (h : n * 4 ≤ p) : (tr n f)[p]? = none := List.getElem?_eq_none (by rw [tr_len]; exact h)
theorem tr_one (n : Nat) (f : Nat → Nat → Int) : ∀ u ∈ tr n f, u.oneCell' = true := by
  intro u hu
  obtain ⟨p, _, rfl⟩ := List.mem_map.1 hu
  rfl
theorem tr_ext {n : Nat} {f : Nat → Nat → Int} {xs : List Value} (hl : xs.length = n * 4) (h : ∀ p, p < n * 4 → xs[p]? = some (.int .i64 (f (p / 4) (p % 4)))) : xs = tr n f := by
  apply List.ext_getElem?
  intro p
  by_cases hp : p < n * 4
  · rw [h p hp, tr_get hp]
  · rw [List.getElem?_eq_none (by omega), tr_none (by omega)]
theorem tr_congr {n : Nat} {f f' : Nat → Nat → Int} (h : ∀ i j, i < n → j < 4 → f i j = f' i j) : tr n f = tr n f' :=
  tr_ext (tr_len n f) fun p hp => by rw [tr_get hp, h _ _ (by omega) (by omega)]
theorem tr_zero (f : Nat → Nat → Int) : tr 0 f = [] := by simp [tr]
/-- A row is put in at place i. -/
def insT (i : Nat) (r : Nat → Int) (f : Nat → Nat → Int) (p j : Nat) : Int := if p < i then f p j else if p = i then r j else f (p - 1) j
/-- The row at place i is taken out. -/
def delT (i : Nat) (f : Nat → Nat → Int) (p j : Nat) : Int := if p < i then f p j else f (p + 1) j
/-- A number is written into the row at place i. -/
def setT (i j0 : Nat) (x : Int) (f : Nat → Nat → Int) (p j : Nat) : Int := if p = i ∧ j = j0 then x else f p j
theorem tr_end (n : Nat) (r : Nat → Int) (f : Nat → Nat → Int) : tr n f ++ tr 1 (fun _ => r) = tr (n + 1) (insT n r f) := by
  refine tr_ext (by rw [List.length_append, tr_len, tr_len]; omega) fun p hp => ?_
  unfold insT
  by_cases h : p < n * 4
  · rw [List.getElem?_append_left (by rw [tr_len]; exact h), tr_get h, if_pos (by omega)]
  · rw [List.getElem?_append_right (by rw [tr_len]; omega), tr_len, tr_get (by omega), if_neg (by omega), if_pos (by omega), show (p - n * 4) % 4 = p % 4 by omega]
theorem tr_app (n m : Nat) (f f' : Nat → Nat → Int) : tr n f ++ tr m f' = tr (n + m) (fun p j => if p < n then f p j else f' (p - n) j) := by
  refine tr_ext (by rw [List.length_append, tr_len, tr_len]; omega) fun p hp => ?_
  by_cases h : p < n * 4
  · rw [List.getElem?_append_left (by rw [tr_len]; exact h), tr_get h, if_pos (by omega)]
  · rw [List.getElem?_append_right (by rw [tr_len]; omega), tr_len, tr_get (by omega), if_neg (by omega), show (p - n * 4) % 4 = p % 4 by omega, show (p - n * 4) / 4 = p / 4 - n by omega]
theorem tr_take {n m : Nat} (h : m ≤ n) (f : Nat → Nat → Int) : (tr n f).take (m * 4) = tr m f :=
  tr_ext (by rw [List.length_take, tr_len]; omega) fun p hp => by rw [List.getElem?_take, if_pos hp, tr_get (by omega)]
theorem tr_drop (n i : Nat) (f : Nat → Nat → Int) : (tr n f).drop (i * 4) = tr (n - i) (fun p j => f (i + p) j) :=
  tr_ext (by rw [List.length_drop, tr_len]; omega) fun p hp => by rw [List.getElem?_drop, tr_get (by omega), show (i * 4 + p) / 4 = i + p / 4 by omega, show (i * 4 + p) % 4 = p % 4 by omega]
theorem tr_del {n i : Nat} (hi : i < n) (f : Nat → Nat → Int) : tr i f ++ tr (n - (i + 1)) (fun p j => f (i + 1 + p) j) = tr (n - 1) (delT i f) := by
  rw [tr_app, show i + (n - (i + 1)) = n - 1 by omega]
  refine tr_congr fun p j hp hj => ?_
  unfold delT
  by_cases h : p < i
  · rw [if_pos h, if_pos h]
  · rw [if_neg h, if_neg h, show i + 1 + (p - i) = p + 1 by omega]
theorem tr_set {n i j0 : Nat} (hi : i < n) (hj : j0 < 4) (x : Int) (f : Nat → Nat → Int) : (tr n f).set (i * 4 + j0) (.int .i64 x) = tr n (setT i j0 x f) := by
  refine tr_ext (by rw [List.length_set, tr_len]) fun p hp => ?_
  unfold setT
  rw [List.getElem?_set]
  by_cases h : i * 4 + j0 = p
  · rw [if_pos h, if_pos (by rw [tr_len]; omega), if_pos (by omega)]
  · rw [if_neg h, tr_get hp, if_neg (by omega)]
/-- A table of the call's own: rows of elements of type t. -/
def OwnT (t : TypeId) (w : World) (B : Nat) (v : Value) (n : Nat) (f : Nat → Nat → Int) : Prop := w.ownsRow B t 4 v n (tr n f)
theorem OwnT.keep {t : TypeId} {w w' : World} {B n : Nat} {v : Value} {f : Nat → Nat → Int} (h : OwnT t w B v n f) (hb : Below w.heap.size w w') : OwnT t w' B v n f :=
  World.ownsRow.kept h (only_below hb none) (by cases v.ownBlock; exact .inl rfl; exact .inr (by simp))
theorem OwnT.grown {t : TypeId} {w w' : World} {B n : Nat} {v : Value} {f : Nat → Nat → Int} (h : OwnT t w B v n f) {row : Option Nat} (hg : w.grownBy w' row) (hne : ∀ k, v.ownBlock = some k → row ≠ some k) : OwnT t w' B v n f := by
  refine World.ownsRow.kept h hg ?_
  cases hv : v.ownBlock with
  | none => exact .inl rfl
  | some k => exact .inr fun e => hne k hv e.symm
theorem OwnT.base {t : TypeId} {w : World} {B B' n : Nat} {v : Value} {f : Nat → Nat → Int} (h : OwnT t w B v n f) (hB : ∀ k, v.ownBlock = some k → B' ≤ k) : OwnT t w B' v n f := by
  obtain ⟨hl, h | ⟨g, cap, cur, rfl, hb, hr⟩⟩ := h
  · exact ⟨hl, .inl h⟩
  · exact ⟨hl, .inr ⟨g, cap, cur, rfl, hB g rfl, hr⟩⟩
/-- The type of the block tells the tables apart. -/
theorem OwnT.block {t : TypeId} {w : World} {B n : Nat} {v : Value} {f : Nat → Nat → Int} (h : OwnT t w B v n f) {k : Nat} (hk : v.ownBlock = some k) : ∃ cur, w.heap[k]? = some (.cells cur t (0, 0)) := by
  obtain ⟨hl, ⟨rfl, _⟩ | ⟨g, cap, cur, rfl, hb, hr, _⟩⟩ := h
  · cases hk
  · obtain rfl : g = k := by simpa [Value.ownBlock] using hk
    exact ⟨cur, hr⟩
theorem OwnT.ne {t t' : TypeId} {w : World} {B B' n n' : Nat} {v v' : Value} {f f' : Nat → Nat → Int} (h : OwnT t w B v n f) (h' : OwnT t' w B' v' n' f') (ht : t ≠ t') {k : Nat} (hk : v.ownBlock = some k) : v'.ownBlock ≠ some k := by
  intro hk'
  obtain ⟨c, e⟩ := h.block hk
  obtain ⟨c', e'⟩ := h'.block hk'
  rw [e] at e'
  simp at e'
  exact ht e'.2
theorem OwnT.neBlk {t t' : TypeId} {w : World} {B B' n b : Nat} {v : Value} {f : Nat → Nat → Int} {cs : Array Value} (h : OwnT t w B v n f) (h' : Blk w B' b cs t') (ht : t ≠ t') : v.ownBlock ≠ some b := by
  intro hk
  obtain ⟨c, e⟩ := h.block hk
  rw [h'.2] at e
  simp at e
  exact ht e.2.symm
theorem OwnT.form {t : TypeId} {w : World} {B n : Nat} {v : Value} {f : Nat → Nat → Int} (h : OwnT t w B v n f) :
    (v = .slice none 0 0 ∧ n = 0) ∨ ∃ g c cur, v = .slice (some ⟨g, 0, none⟩) n c ∧ B ≤ g ∧ g < w.heap.size ∧ w.heap[g]? = some (.cells cur t (0, 0)) ∧ n ≤ c ∧ c ≤ maxLen ∧ cur.size = c * 4 ∧ cur.toList.take (n * 4) = tr n f := by
  have h0 := h
  obtain ⟨hl, h | ⟨g, cap, cur, rfl, hb, hg, h1, h2, h3, h4⟩⟩ := h
  · exact .inl h
  · exact .inr ⟨g, cap, cur, rfl, hb, (World.ownsRow.lt h0 g rfl).2, hg, h1, h2, h3, h4⟩
theorem OwnT.tab {t : TypeId} {w : World} {B n : Nat} {v : Value} {f : Nat → Nat → Int} (h : OwnT t w B v n f) : ∃ A c, v = .slice A n c ∧ n ≤ c ∧ Tab 4 w A n f := by
  have h0 := h
  rcases h.form with ⟨rfl, rfl⟩ | ⟨g, c, cur, rfl, hb, hl, hg, h1, h2, h3, h4⟩
  · exact ⟨none, 0, rfl, Nat.le_refl _, .inl ⟨rfl, rfl⟩⟩
  · refine ⟨_, c, rfl, h1, .inr ⟨g, 0, rfl, hl, fun i j hi hj => ?_⟩⟩
    have hc := World.ownsRow.cells h0 (g := g) rfl _ _ (tr_at (f := f) hi hj)
    rw [Addr.add_lit] at hc
    rw [Nat.zero_add] at hc ⊢
    exact hc
theorem OwnT.of {t : TypeId} {w : World} {B n g c : Nat} {f : Nat → Nat → Int} {cur : Array Value} (hB : B ≤ g) (hg : w.heap[g]? = some (.cells cur t (0, 0))) (h1 : n ≤ c) (h2 : c ≤ maxLen) (h3 : cur.size = c * 4)
    (h : ∀ p, p < n * 4 → cur[p]? = some (.int .i64 (f (p / 4) (p % 4)))) : OwnT t w B (.slice (some ⟨g, 0, none⟩) n c) n f :=
  ⟨tr_len n f, .inr ⟨g, c, cur, rfl, hB, hg, h1, h2, h3, tr_ext (by rw [List.length_take, Array.length_toList, h3]; omega) fun p hp => by
    rw [List.getElem?_take, if_pos hp, Array.getElem?_toList]; exact h p hp⟩⟩
theorem OwnT.nil (t : TypeId) (w : World) (B : Nat) (f : Nat → Nat → Int) : OwnT t w B (.slice none 0 0) 0 f := by
  unfold OwnT
  rw [tr_zero]
  exact World.ownsRow_nil w B t 4
theorem OwnT.cell {t : TypeId} {w : World} {B n g c : Nat} {f : Nat → Nat → Int} (h : OwnT t w B (.slice (some ⟨g, 0, none⟩) n c) n f) {i j : Nat} (hi : i < n) (hj : j < 4) : w.cell? ⟨g, i * 4 + j, none⟩ = some (.int .i64 (f i j)) :=
  (World.ownsRow.cellAt h _ (by omega)).trans (tr_at hi hj)
/-- copy, at rows of k cells. -/
theorem run_copy_rowk {P : Program} (w : World) (dT sT ty elem : TypeId) (k : Nat) (g o dLen dCap : Nat) (a : Addr) (sLen sCap : Nat) (cur : Array Value) (t : TypeId) (cs : List Value)
    (hu : P.underlying dT = some (.slice elem)) (hs : (P.info? elem).map (·.size) = some k)
    (hg : w.heap[g]? = some (.cells cur t (0, 0))) (hn : cs.length = Nat.min sLen dLen * k)
    (hsrc : ∀ j v, cs[j]? = some v → w.cell? (a.add j) = some v) (hfit : o + cs.length ≤ cur.size) (h1 : ∀ v ∈ cs, v.oneCell' = true) :
    (Builtin.copy_ #[dT, sT] ty #[.slice (some ⟨g, o, none⟩) dLen dCap, .slice (some a) sLen sCap]).run P w =
      .ok (goInt (Nat.min sLen dLen)) (w.setRow g (cur.toList.take o ++ cs ++ cur.toList.drop (o + cs.length)).toArray) := by
  have hl := run_loadCells_list (P := P) w a cs hsrc
  have hst := run_storeCells_at P g o t cs 0 cur w hg (by simpa using hfit) h1
  cases hq : P.info? elem with
  | none => simp [hq] at hs
  | some i =>
    have hi : i.size = k := by simpa [hq] using hs
    simp [Builtin.copy_, run_underlying hu, Builtin.lenOf, Builtin.firstCells, sizeOf, typeInfo, hq, hi, ← hn, hl, hst]
/-- clear, at one row of cells. -/
theorem run_clear_rowk {P : Program} (w : World) (t0 elem ty : TypeId) (z : Value) (g o n c : Nat) (cur : Array Value) (t : TypeId) (hu : P.underlying t0 = some (.slice elem)) (hv : ∀ w, (zeroValue elem).run P w = .ok z w)
    (hg : w.heap[g]? = some (.cells cur t (0, 0))) (hn : 0 < n) (hfit : o + (Builtin.zeroCells z.cells n).size ≤ cur.size) (h1 : ∀ v ∈ (Builtin.zeroCells z.cells n).toList, v.oneCell' = true) :
    (Builtin.clear_ #[t0] ty #[.slice (some ⟨g, o, none⟩) n c]).run P w = .ok (.tuple #[]) (w.setRow g (cur.toList.take o ++ (Builtin.zeroCells z.cells n).toList ++ cur.toList.drop (o + (Builtin.zeroCells z.cells n).toList.length)).toArray) := by
  have hst := run_storeCells_at P g o t (Builtin.zeroCells z.cells n).toList 0 cur w hg (by simpa using hfit) h1
  obtain ⟨m, rfl⟩ : ∃ m, n = m + 1 := ⟨n - 1, by omega⟩
  simp only [Nat.add_zero] at hst
  simp [Builtin.clear_, run_underlying hu, hv, hst]
end Go.Proofs.Ytipkbapnhgdpeaa.C
