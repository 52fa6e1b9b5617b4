/- What a parameter that is read as data is: a value of its kind, each number in its range. Any type of whole numbers, bools, texts, structs, slices. No condition. -/
import Derived.Test.YtipkbapnhgdpeaaProg
import Derived.Below
import Derived.WalkKit
import Derived.Deep.Slices
import Derived.Deep.Fields
import Derived.Lib.SmallJoins
import Derived.ChangeSame
import Derived.Carry
namespace Go.Proofs.Ytipkbapnhgdpeaa.Rd
open Go.RowKit Go.ChangeShapes Go.WideShapes Go.Deep Go.Joins

/-- A kind of values: how many cells, and what the cells are that hold a value. -/
structure Kd (α : Type) where
  sz : Nat
  K : World → α → List Value → Prop
  keep : ∀ {w w1 : World} {x cs}, Below w.heap.size w w1 → K w x cs → K w1 x cs
namespace Kd
def scalar {α : Type} (enc : α → Value) : Kd α := ⟨1, fun _ x cs => cs = [enc x], fun _ h => h⟩
def int (k : IntKind) : Kd Int := scalar (Value.int k)
def bool : Kd Bool := scalar Value.bool
def string : Kd ByteArray := scalar Value.string
/-- n elements of the kind lie from A on. -/
def C {α : Type} (d : Kd α) (w : World) (A : Option Addr) (n : Nat) (xs : List α) : Prop :=
  xs.length = n ∧ n ≤ 9223372036854775807 ∧ (0 < n → ∃ ad : Addr, A = some ad ∧ ad.block < w.heap.size ∧ ∀ j p, xs[j]? = some p → ∃ c : List Value, c.length = d.sz ∧ d.K w p c ∧ ∀ i u, c[i]? = some u → w.cell? (ad.add (j * d.sz + i)) = some u)
theorem C.keep {α : Type} {d : Kd α} {w w1 : World} {A : Option Addr} {n : Nat} {xs : List α} (h : d.C w A n xs) (hb : Below w.heap.size w w1) : d.C w1 A n xs := by
  refine ⟨h.1, h.2.1, fun hn => ?_⟩
  obtain ⟨ad, e, hl, hc⟩ := h.2.2 hn
  refine ⟨ad, e, Nat.lt_of_lt_of_le hl hb.size, fun j p hj => ?_⟩
  obtain ⟨c, h1, h2, h3⟩ := hc j p hj
  refine ⟨c, h1, d.keep hb h2, fun i u hi => ?_⟩
  rw [hb.cell (by rw [Addr.add]; split <;> simpa using hl)]
  exact h3 i u hi
def slice {α : Type} (_e : Nat) (d : Kd α) : Kd (List α) :=
  ⟨1, fun w xs cs => ∃ A c, cs = [.slice A xs.length c] ∧ xs.length ≤ c ∧ d.C w A xs.length xs, fun hb ⟨A, c, h1, h2, h3⟩ => ⟨A, c, h1, h2, h3.keep hb⟩⟩
def pair {α β : Type} (a : Kd α) (b : Kd β) : Kd (α × β) :=
  ⟨a.sz + b.sz, fun w x cs => ∃ c0 c1, cs = c0 ++ c1 ∧ a.K w x.1 c0 ∧ b.K w x.2 c1, fun hb ⟨c0, c1, h1, h2, h3⟩ => ⟨c0, c1, h1, a.keep hb h2, b.keep hb h3⟩⟩
/-- An element that is read. -/
theorem C.get {α : Type} {d : Kd α} {w : World} {A : Option Addr} {n : Nat} {xs : List α} (h : d.C w A n xs) {j : Nat} {p : α} (hj : xs[j]? = some p) :
    ∃ (ad : Addr) (c : List Value), A = some ad ∧ ad.block < w.heap.size ∧ c.length = d.sz ∧ d.K w p c ∧ ∀ i u, c[i]? = some u → w.cell? (ad.add (j * d.sz + i)) = some u := by
  have hl := (List.getElem?_eq_some_iff.1 hj).1
  obtain ⟨ad, e, hb, hc⟩ := h.2.2 (by have := h.1; omega)
  obtain ⟨c, h1, h2, h3⟩ := hc j p hj
  exact ⟨ad, c, e, hb, h1, h2, h3⟩
theorem C.nil {α : Type} (d : Kd α) (w : World) (A : Option Addr) : d.C w A 0 ([] : List α) := ⟨rfl, by omega, fun h => absurd h (Nat.lt_irrefl 0)⟩
end Kd
/-- Whatever reads as data of type t is a value of kind d with Ok. -/
def Opens {α : Type} (P : Program) (t : TypeId) (d : Kd α) (Ok : α → Prop) : Prop :=
  P.cellsOf t = d.sz ∧ ∀ (H : Type) (enc : TypeId × Value → H) (w : World) (base : Nat) (spare : Nat → Bool) (held : Bool) (fuel : Nat) (cs : List Value) (x : DataW H × List MemPlace),
    DataW.trod enc P w base spare held fuel t cs = some x → ∃ y, d.K w y cs ∧ Ok y

/-- The same for fields (their types and offsets) that stand in line from cell o on. -/
def OpensF {α : Type} (P : Program) (fs : List (Nat × Nat)) (o : Nat) (d : Kd α) (Ok : α → Prop) : Prop :=
  ∀ (H : Type) (enc : TypeId × Value → H) (w : World) (base : Nat) (spare : Nat → Bool) (held : Bool) (fuel : Nat) (cs : List Value),
    (∀ f ∈ fs, ∃ z, DataW.trod enc P w base spare held fuel f.1 ((cs.drop f.2).take (P.cellsOf f.1)) = some z) → ∃ y, d.K w y ((cs.drop o).take d.sz) ∧ Ok y
/-- Both of a pair; all of a list. -/
def And2 {α β : Type} (A : α → Prop) (B : β → Prop) (y : α × β) : Prop := A y.1 ∧ B y.2
def AllOk {α : Type} (A : α → Prop) (xs : List α) : Prop := ∀ y ∈ xs, A y
def Fits (k : IntKind) (n : Int) : Prop := (Lit.int k n).wf = true
def FitsS (s : ByteArray) : Prop := s.size ≤ maxLen
def Any (_ : Bool) : Prop := True

section
variable {P : Program}
theorem Opens.int {t : TypeId} {k : IntKind} (hu : P.underlying t = some (.int k)) (hc : P.cellsOf t = 1) : Opens P t (Kd.int k) (Fits k) :=
  ⟨hc, fun H enc w base spare held fuel cs x h => by
    obtain ⟨n, rfl, _, hw⟩ := DataW.trod_int hu h
    exact ⟨n, rfl, hw⟩⟩
theorem Opens.bool {t : TypeId} (hu : P.underlying t = some .bool) (hc : P.cellsOf t = 1) : Opens P t Kd.bool Any :=
  ⟨hc, fun H enc w base spare held fuel cs x h => by
    obtain ⟨n, rfl, _⟩ := DataW.trod_bool hu h
    exact ⟨n, rfl, trivial⟩⟩
theorem Opens.string {t : TypeId} (hu : P.underlying t = some .string) (hc : P.cellsOf t = 1) : Opens P t Kd.string FitsS :=
  ⟨hc, fun H enc w base spare held fuel cs x h => by
    obtain ⟨n, rfl, _, hw⟩ := DataW.trod_string hu h
    exact ⟨n, rfl, hw⟩⟩

theorem pick_list {α : Type} {p : Nat → α → Prop} : ∀ n, (∀ i, i < n → ∃ y, p i y) → ∃ ys : List α, ys.length = n ∧ ∀ (i : Nat) (y : α), ys[i]? = some y → p i y := by
  intro n
  induction n with
  | zero => exact fun _ => ⟨[], rfl, fun i y h => by simp at h⟩
  | succ n ih =>
    intro h
    obtain ⟨ys, hl, hy⟩ := ih (fun i hi => h i (by omega))
    obtain ⟨y, hp⟩ := h n (by omega)
    refine ⟨ys ++ [y], by simp [hl], fun i z hz => ?_⟩
    rcases Nat.lt_or_ge i n with hi | hi
    · rw [List.getElem?_append_left (by omega)] at hz
      exact hy i z hz
    · rw [List.getElem?_append_right (by omega)] at hz
      have : i - ys.length = 0 := by
        have := (List.getElem?_eq_some_iff.1 hz).1
        simp at this
        omega
      rw [this] at hz
      simp at hz
      subst hz
      obtain rfl : i = n := by omega
      exact hp

theorem cell_block {w : World} {a : Addr} {n : Nat} {v : Value} (h : w.cell? (a.add n) = some v) : a.block < w.heap.size := by
  rcases Nat.lt_or_ge a.block w.heap.size with hl | hl
  · exact hl
  · have e : (a.add n).block = a.block := by rw [Addr.add]; split <;> rfl
    simp [World.cell?, e, hl] at h
theorem Opens.slice {α : Type} {d : Kd α} {Ok : α → Prop} {t e : TypeId} (hu : P.underlying t = some (.slice e)) (hc : P.cellsOf t = 1) (he : Opens P e d Ok) (hsz : d.sz ≠ 0 := by decide) :
    Opens P t (Kd.slice e d) (AllOk Ok) :=
  ⟨hc, fun H enc w base spare held fuel cs x h => by
    rcases open_slice hu h with ⟨rfl, _⟩ | ⟨a, len, cap, m, n, D, Pl, rfl, _, hl, hm, hmm, _, hi⟩
    · exact ⟨[], ⟨none, 0, rfl, Nat.le_refl _, Kd.C.nil _ _ _⟩, fun y hy => by simp at hy⟩
    · have hlm : len ≤ m := by rw [hmm]; split <;> omega
      obtain ⟨ys, hyl, hy⟩ := pick_list (p := fun i y => (∃ c : List Value, c.length = d.sz ∧ d.K w y c ∧ ∀ j u, c[j]? = some u → w.cell? (a.add (i * d.sz + j)) = some u) ∧ Ok y) len (fun i hil => by
        obtain ⟨cs', h1, h2⟩ := hi i (by omega)
        obtain ⟨y, hk, hok⟩ := he.2 H enc w base spare held n cs' _ h2
        obtain ⟨_, hcl, hat⟩ := World.cells?_some h1
        rw [he.1] at hcl hat
        refine ⟨y, ⟨cs', hcl, hk, fun j u hj => ?_⟩, hok⟩
        have hjl : j < d.sz := by
          have := (List.getElem?_eq_some_iff.1 hj).1
          omega
        rw [← Go.Deep.add_add, hat j hjl, hj])
      refine ⟨ys, ⟨some a, cap, by rw [hyl], by omega, rfl, ?_, fun hn => ⟨a, rfl, ?_, fun j p hj => (hy j p hj).1⟩⟩, fun y hm => ?_⟩
      · unfold maxLen at hm
        omega
      · obtain ⟨c, hcl, _, hcell⟩ := (hy 0 _ (List.getElem?_eq_getElem hn)).1
        rcases Nat.eq_zero_or_pos d.sz with hz | hz
        · exact absurd hz hsz
        · exact cell_block (hcell 0 _ (List.getElem?_eq_getElem (by omega)))
      · obtain ⟨j, hj⟩ := List.mem_iff_getElem?.1 hm
        exact (hy j y hj).2⟩

theorem OpensF.one {α : Type} {d : Kd α} {Ok : α → Prop} {t o : Nat} (h : Opens P t d Ok) : OpensF P [(t, o)] o d Ok :=
  fun H enc w base spare held fuel cs hz => by
    obtain ⟨z, hz⟩ := hz (t, o) List.mem_cons_self
    rw [h.1] at hz
    exact h.2 H enc w base spare held fuel _ z hz
theorem OpensF.cons {α β : Type} {a : Kd α} {b : Kd β} {OkA : α → Prop} {OkB : β → Prop} {t o o' : Nat} {fs : List (Nat × Nat)} (h : Opens P t a OkA) (hr : OpensF P fs o' b OkB) (ho : o' = o + a.sz) :
    OpensF P ((t, o) :: fs) o (Kd.pair a b) (And2 OkA OkB) :=
  fun H enc w base spare held fuel cs hz => by
    subst ho
    obtain ⟨y1, k1, q1⟩ := OpensF.one h H enc w base spare held fuel cs (fun g hg => hz g (by rw [List.mem_singleton.1 hg]; exact List.mem_cons_self))
    obtain ⟨y2, k2, q2⟩ := hr H enc w base spare held fuel cs (fun g hg => hz g (List.mem_cons_of_mem _ hg))
    refine ⟨(y1, y2), ⟨(cs.drop o).take a.sz, (cs.drop (o + a.sz)).take b.sz, ?_, k1, k2⟩, q1, q2⟩
    show (cs.drop o).take (a.sz + b.sz) = _
    rw [List.take_add, List.drop_drop]
theorem Opens.struct {α : Type} {d : Kd α} {Ok : α → Prop} {t : TypeId} {fs : Array Field} {sh : List (Nat × Nat)} (hu : P.underlying t = some (.struct fs)) (hc : P.cellsOf t = d.sz) (hs : fs.toList.map (fun f => (f.type, f.offset)) = sh) (h : OpensF P sh 0 d Ok) : Opens P t d Ok :=
  ⟨hc, fun H enc w base spare held fuel cs x hx => by
    obtain ⟨xs, n, _, _, hl, hxl, hf⟩ := DataW.trod_struct hu hx
    obtain ⟨y, hk, hok⟩ := h H enc w base spare held n cs (fun f hm => by
      rw [← hs] at hm
      obtain ⟨f, hm2, rfl⟩ := List.mem_map.1 hm
      obtain ⟨i, hi⟩ := List.mem_iff_getElem?.1 hm2
      have hi' : fs[i]? = some f := by rw [← Array.getElem?_toList]; exact hi
      have hlt : i < fs.size := (Array.getElem?_eq_some_iff.1 hi').1
      exact ⟨xs[i]'(by omega), by rw [hf i f hi', List.getElem?_eq_getElem (by omega)]⟩)
    refine ⟨y, ?_, hok⟩
    rw [List.drop_zero, List.take_of_length_le (by omega)] at hk
    exact hk⟩
theorem Opens.imp {α : Type} {d : Kd α} {Ok Ok' : α → Prop} {t : TypeId} (h : Opens P t d Ok) (hi : ∀ y, Ok y → Ok' y) : Opens P t d Ok' :=
  ⟨h.1, fun H enc w base spare held fuel cs x hx => by
    obtain ⟨y, hk, hok⟩ := h.2 H enc w base spare held fuel cs x hx
    exact ⟨y, hk, hi y hok⟩⟩

section
variable {H : Type} {enc : TypeId × Value → H} {w : World} {base : Nat} {spare : Nat → Bool} {held : Bool} {r : Reach} {b0 : Nat} {t : TypeId} {v : Value} {dd : DataW H} {ps : List MemPlace}
/-- A parameter that is a struct. -/
theorem Opens.agg {α : Type} {d : Kd α} {Ok : α → Prop} (h : Opens P t d Ok) {fs : Array Field} (hu : P.underlying t = some (.struct fs)) (hv : Value.okWide P w r b0 t v) (ht : DataW.Trod enc P w base spare held t v dd ps) :
    ∃ y cs, v = .agg cs ∧ d.K w y cs.toList ∧ Ok y := by
  obtain ⟨cs, rfl, _⟩ := okWide_struct hu hv
  obtain ⟨fuel, hf⟩ := ht
  obtain ⟨y, hk, hok⟩ := h.2 H enc w base spare held fuel _ _ hf
  exact ⟨y, cs, rfl, hk, hok⟩
/-- A parameter that is a slice. -/
theorem Opens.row {α : Type} {d : Kd α} {Ok : List α → Prop} {e : TypeId} (h : Opens P t (Kd.slice e d) Ok) (hu : P.underlying t = some (.slice e)) (hv : Value.okWide P w r b0 t v) (ht : DataW.Trod enc P w base spare held t v dd ps) :
    ∃ (y : List α) (A : Option Addr) (c : Nat), v = .slice A y.length c ∧ y.length ≤ c ∧ d.C w A y.length y ∧ Ok y := by
  obtain ⟨a, len, cap, rfl⟩ := okWide_slice hu hv
  obtain ⟨fuel, hf⟩ := ht
  obtain ⟨y, ⟨A, c, he, hl, hc⟩, hok⟩ := h.2 H enc w base spare held fuel _ _ hf
  simp only [Value.cells, List.cons.injEq, Value.slice.injEq, and_true] at he
  obtain ⟨rfl, rfl, rfl⟩ := he
  exact ⟨y, a, cap, rfl, hl, hc, hok⟩
end
end
end Go.Proofs.Ytipkbapnhgdpeaa.Rd
