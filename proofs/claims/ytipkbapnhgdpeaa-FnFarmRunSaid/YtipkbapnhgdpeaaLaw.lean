/- Rows in memory for the walks of laws: what lies in a block, kept over calls; a row stored by a drawn region. No condition. -/
import Derived.Test.YtipkbapnhgdpeaaBase
import Derived.Laws.Tables
import Derived.Laws.CopyOwn
import Derived.Laws.Rows
import Derived.RegionTactic
import Derived.BigRegion
import Derived.BigQuiet
import Derived.BigGuardPart
import Derived.Deep.DeepCutAuto
import Derived.Deep.QuietTactic
import Derived.Deep.RegionHeld3
import Derived.Deep.DrawnRows
import Derived.WalkLawsBesides
import Derived.WalkSpells
import Derived.LoopN
import Derived.Outline
namespace Go.Proofs.Ytipkbapnhgdpeaa.C
open Go.RowKit
/-- A row of cells lies in block b. -/
def RowAt (w : World) (b : Nat) (cs : List Value) : Prop := b < w.heap.size ∧ ∀ i v, cs[i]? = some v → w.cell? ⟨b, i, none⟩ = some v
theorem RowAt.keep {w w1 : World} {b : Nat} {cs : List Value} (h : RowAt w b cs) (hb : Below w.heap.size w w1) : RowAt w1 b cs :=
  ⟨Nat.lt_of_lt_of_le h.1 hb.size, fun i v hi => (hb.cell (p := ⟨b, i, none⟩) h.1).trans (h.2 i v hi)⟩
theorem RowAt.of {w : World} {b : Nat} {cs : List Value} {t : Nat} {fr : Nat × Nat} (h : w.heap[b]? = some (.cells cs.toArray t fr)) : RowAt w b cs := by
  have hl : b < w.heap.size := by
    rcases Nat.lt_or_ge b w.heap.size with hl | hl
    · exact hl
    · rw [Array.getElem?_eq_none hl] at h; cases h
  refine ⟨hl, fun i v hi => ?_⟩
  rw [cell_of_row w b i cs.toArray t fr h]
  simpa using hi
/-- A block that is known whole and lies at or behind B. -/
def Blk (w : World) (B b : Nat) (cs : Array Value) (t : TypeId) : Prop := B ≤ b ∧ w.heap[b]? = some (.cells cs t (0, 0))
/-- A block of so many cells that may be written, at or behind B. -/
def Room (w : World) (B b n : Nat) (t : TypeId) : Prop := ∃ cs, Blk w B b cs t ∧ cs.size = n
theorem Blk.lt {w : World} {B b : Nat} {cs : Array Value} {t : TypeId} (h : Blk w B b cs t) : b < w.heap.size := by
  rcases Nat.lt_or_ge b w.heap.size with hl | hl
  · exact hl
  · have := h.2; rw [Array.getElem?_eq_none hl] at this; cases this
theorem Blk.keep {w w1 : World} {B b : Nat} {cs : Array Value} {t : TypeId} (h : Blk w B b cs t) (hb : Below w.heap.size w w1) : Blk w1 B b cs t := ⟨h.1, (hb.block b h.lt).trans h.2⟩
theorem Blk.row {w : World} {B b : Nat} {cs : List Value} {t : TypeId} (h : Blk w B b cs.toArray t) : RowAt w b cs := RowAt.of h.2
theorem Blk.new {w : World} {B : Nat} (h : B ≤ w.heap.size) (cs : Array Value) (t : TypeId) : Blk (w.alloc (.cells cs t)) B w.heap.size cs t := ⟨h, heap_alloc_new _ _⟩
theorem Blk.drew {w : World} {B b : Nat} {cs : Array Value} {t : TypeId} (h : Blk w B b cs t) : Blk w.drew B b cs t := h.keep (Below.refl _ _).drew
theorem Blk.set {w : World} {B b : Nat} {cs : Array Value} {t : TypeId} (h : Blk w B b cs t) (ds : Array Value) : Blk (w.setRow b ds) B b ds t := ⟨h.1, setRow_heap _ _ _ _ _ _ h.2⟩
theorem Blk.far {w : World} {B b c : Nat} {cs : Array Value} {t : TypeId} (h : Blk w B b cs t) (hne : b ≠ c) (ds : Array Value) : Blk (w.setRow c ds) B b cs t := ⟨h.1, (setRow_other _ _ _ _ hne).trans h.2⟩
theorem Room.new {w : World} {B : Nat} (h : B ≤ w.heap.size) {cs : Array Value} {t : TypeId} {n : Nat} (hn : cs.size = n) : Room (w.alloc (.cells cs t)) B w.heap.size n t := ⟨cs, Blk.new h cs t, hn⟩
theorem Room.keep {w w1 : World} {B b n : Nat} {t : TypeId} (h : Room w B b n t) (hb : Below w.heap.size w w1) : Room w1 B b n t := let ⟨cs, h1, h2⟩ := h; ⟨cs, h1.keep hb, h2⟩
theorem Room.drew {w : World} {B b n : Nat} {t : TypeId} (h : Room w B b n t) : Room w.drew B b n t := h.keep (Below.refl _ _).drew
theorem Room.blk {w : World} {B b n : Nat} {t : TypeId} (h : Room w B b n t) (r : Array Value) : Blk (w.setRow b r) B b r t := let ⟨_, h1, _⟩ := h; h1.set r
theorem Room.ge {w : World} {B b n : Nat} {t : TypeId} (h : Room w B b n t) : B ≤ b := let ⟨_, h1, _⟩ := h; h1.1
/-- The walk of a drawn region stands at the cells of a store: they are stored as one row. -/
theorem upon_store_cells {P : Program} {o : Oper} {a : Act} {K : Act → World → Prop} {Q : Exit → Act → World → Prop} {w : World} {B b n : Nat} {t : TypeId} {r : Array Value}
    (hr : Room w B b n t) (hn : r.size = n) (h1 : r.all (·.oneCell') = true) (h : Blk (w.setRow b r) B b r t → B ≤ b → K (a.put o.dst undef) (w.setRow b r)) :
    Oper.upon P o a K Q ((Sem.run P (storeCells ⟨b, 0, none⟩ r.toList) w).andThen fun _ w' => Result.ok Next.skip w') := by
  have hk := h (hr.blk r) hr.ge
  obtain ⟨cs, hb, hs⟩ := hr
  have := run_storeCells_from (P := P) b t r.toList 0 cs w hb.2 (by simp; omega) (fun v hv => (Array.all_eq_true_iff_forall_mem.1 h1) v (by simpa using hv))
  have e : (cs.toList.take 0 ++ r.toList).toArray = r := by simp
  rw [this, e]
  exact hk
theorem keep_blk {w w1 : World} {b : Nat} {o : Obj} (hb : Below w.heap.size w w1) (h : w.heap[b]? = some o) : w1.heap[b]? = some o := by
  have hl : b < w.heap.size := by
    rcases Nat.lt_or_ge b w.heap.size with hl | hl
    · exact hl
    · rw [Array.getElem?_eq_none hl] at h; cases h
  exact (hb.block b hl).trans h
theorem c_set {w : World} {p q : Addr} {v u : Value} (hne : p ≠ q) (h : w.cell? q = some u) : (w.setCell p v).cell? q = some u := (World.cell?_setCell_other w p q v hne).trans h
theorem c_drew {w : World} {q : Addr} {u : Value} (h : w.cell? q = some u) : w.drew.cell? q = some u := h
theorem hg_set {w : World} {b : Nat} {p : Addr} {u : Value} {x : Option Obj} (hne : b ≠ p.block) (h : w.heap[b]? = x) : (w.setCell p u).heap[b]? = x := (Below.heap_setCell _ _ _ _ hne).trans h
theorem hg_drew {w : World} {b : Nat} {x : Option Obj} (h : w.heap[b]? = x) : w.drew.heap[b]? = x := h
theorem Room.set_far {w : World} {B b n : Nat} {t : TypeId} (h : Room w B b n t) {p : Addr} (hp : b ≠ p.block) (u : Value) : Room (w.setCell p u) B b n t := let ⟨cs, h1, h2⟩ := h; ⟨cs, ⟨h1.1, hg_set hp h1.2⟩, h2⟩
theorem Room.of {w : World} {B b n : Nat} {t : TypeId} {cs : Array Value} (hB : B ≤ b) (h : w.heap[b]? = some (.cells cs t (0, 0))) (hn : cs.size = n) : Room w B b n t := ⟨cs, ⟨hB, h⟩, hn⟩
theorem Blk.setc {w : World} {B b : Nat} {cs : Array Value} {t : TypeId} (h : Blk w B b cs t) (i : Nat) (u : Value) : Blk (w.setCell ⟨b, i, none⟩ u) B b (cs.setIfInBounds i u) t := by
  refine ⟨h.1, ?_⟩
  have := h.2
  simp [World.setCell, Array.getElem?_modify, this]
theorem Blk.cell {w : World} {B b : Nat} {cs : Array Value} {t : TypeId} (h : Blk w B b cs t) (i : Nat) : w.cell? ⟨b, i, none⟩ = cs[i]? := cell_of_row w b i cs t (0, 0) h.2
theorem Blk.frozen {w : World} {B b : Nat} {cs : Array Value} {t : TypeId} (h : Blk w B b cs t) (i : Nat) : w.frozen? ⟨b, i, none⟩ = false := by
  have := h.2
  simp [World.frozen?, this]
theorem Blk.room {w : World} {B b : Nat} {cs : Array Value} {t : TypeId} {n : Nat} (h : Blk w B b cs t) (hn : cs.size = n) : Room w B b n t := ⟨cs, h, hn⟩
theorem Blk.base {w : World} {B C b : Nat} {cs : Array Value} {t : TypeId} (h : Blk w B b cs t) (hC : C ≤ b) : Blk w C b cs t := ⟨hC, h.2⟩
theorem Blk.cast {w : World} {B b : Nat} {cs ds : Array Value} {t : TypeId} (h : Blk w B b cs t) (e : cs = ds) : Blk w B b ds t := e ▸ h
theorem Blk.setf {w : World} {B b : Nat} {cs : Array Value} {t : TypeId} (h : Blk w B b cs t) {p : Addr} (hp : b ≠ p.block) (u : Value) : Blk (w.setCell p u) B b cs t := ⟨h.1, hg_set hp h.2⟩
/-- A row loaded out of a block that is known whole. -/
theorem wpl_load_row {P : Program} {ops : Array Oper} {rest : List Oper} {o : Oper} {a : Act} {w : World} {Q : Exit → Act → World → Prop} (hgd : o.guard = none) (ty : TypeId) (x : Operand) (ho : o.op = .load ty x)
    (g : Nat) (hx : a.eval x = .pointer (some ⟨g, 0, none⟩)) {B n : Nat} {t : TypeId} {cs : Array Value} {d : TypeDesc} (hb : Blk w B g cs t) (hn : cs.size = n) (hi : (P.info? ty).map (·.size) = some n)
    (hu : P.underlying ty = some d) (hd : (match d with | .struct _ | .array _ _ => true | _ => false) = true)
    (h : wpList P ops Q rest (a.put o.dst (.agg cs)) w) : wpList P ops Q (o :: rest) a w :=
  wpList_load_row hgd ty x ho g hx t cs (0, 0) d hb.2 hu hd (by rw [hn]; exact hi) h
/-- A row stored into a block that has room for it. -/
theorem wpl_store_row {P : Program} {ops : Array Oper} {rest : List Oper} {o : Oper} {a : Act} {w : World} {Q : Exit → Act → World → Prop} (hgd : o.guard = none) (ty : TypeId) (x y : Operand) (ho : o.op = .store ty x y)
    (g : Nat) (cells : Array Value) (hx : a.eval x = .pointer (some ⟨g, 0, none⟩)) (hy : a.eval y = .agg cells) {B n : Nat} {t : TypeId} (hr : Room w B g n t) (hn : cells.size = n) (hi : (P.info? ty).map (·.size) = some n)
    (h1 : cells.all (·.oneCell') = true) (h : Blk (w.setRow g cells) B g cells t → wpList P ops Q rest (a.put o.dst undef) (w.setRow g cells)) : wpList P ops Q (o :: rest) a w := by
  have hk := h (hr.blk cells)
  obtain ⟨cs, hb, hs⟩ := hr
  exact wpList_store_row hgd ty x y ho g cells hx hy t cs hb.2 (by rw [hn]; exact hi) (by omega) h1 hk
theorem quiet_add_left {P : Program} {f : FuncId} {args : Array Value} {w : World} {a n : Nat} {v : Value}
    (h : Calls P f args (w.drewN (a + n)) fun e w' => e = .returned v ∧ w.drewN (a + n) = w') :
    Calls P f args (w.drewN (a + n)) fun e w'' => e = .returned v ∧ ∃ m, w'' = w.drewN (a + m) :=
  h.mono fun _ _ ⟨he, hm⟩ => ⟨he, n, hm.symm⟩
theorem quiet_left {P : Program} {f : FuncId} {args : Array Value} {w : World} {n : Nat} {v : Value}
    (h : Calls P f args (w.drewN n) fun e w' => e = .returned v ∧ w.drewN n = w') : Calls P f args (w.drewN n) fun e w'' => e = .returned v ∧ ∃ m, w'' = w.drewN m :=
  h.mono fun _ _ ⟨he, hm⟩ => ⟨he, n, hm.symm⟩
theorem below_drewN {B : Nat} {a w : World} (h : Below B a w) (n : Nat) : Below B a (w.drewN n) := ⟨h.os, h.tape, h.output, h.size, h.block⟩
theorem cell_third (w : World) (A B : Obj) (cs : Array Value) (t : TypeId) (i : Nat) : (((w.alloc A).alloc B).alloc (.cells cs t)).cell? ⟨w.heap.size + 1 + 1, i, none⟩ = cs[i]? := by
  have h := (Blk.new (w := (w.alloc A).alloc B) (Nat.zero_le _) cs t).cell i
  simpa using h
theorem only_drewN {a w : World} {row : Option Nat} (h : a.grownBy w row) (n : Nat) : a.grownBy (w.drewN n) row := ⟨h.os, h.tape, h.output, h.size, h.block⟩
theorem only_drew {a w : World} {row : Option Nat} (h : a.grownBy w row) : a.grownBy w.drew row := ⟨h.os, h.tape, h.output, h.size, h.block⟩
theorem only_alloc {a w : World} {row : Option Nat} (h : a.grownBy w row) (o : Obj) : a.grownBy (w.alloc o) row :=
  ⟨h.os, h.tape, h.output, Nat.le_trans h.size (by simp), fun i hi hne => (Below.heap_alloc w o i (Nat.lt_of_lt_of_le hi h.size)).trans (h.block i hi hne)⟩
theorem only_setCell {a w : World} {g : Nat} (h : a.grownBy w (some g)) {p : Addr} (hp : p.block = g ∨ a.heap.size ≤ p.block) (u : Value) : a.grownBy (w.setCell p u) (some g) :=
  ⟨h.os, h.tape, h.output, by simpa [World.setCell] using h.size, fun i hi hne => (Below.heap_setCell w p u i (by
    rintro rfl
    rcases hp with hp | hp
    · exact hne (by rw [hp])
    · omega)).trans (h.block i hi hne)⟩
theorem only_below {a w : World} (h : Below a.heap.size a w) (row : Option Nat) : a.grownBy w row := ⟨h.os, h.tape, h.output, h.size, fun i hi _ => h.block i hi⟩
theorem only_trans {a b c : World} {g : Nat} (h : a.grownBy b (some g)) (k : b.grownBy c (some g)) : a.grownBy c (some g) :=
  ⟨k.os.trans h.os, k.tape.trans h.tape, k.output.trans h.output, Nat.le_trans h.size k.size, fun i hi hne => (k.block i (Nat.lt_of_lt_of_le hi h.size) hne).trans (h.block i hi hne)⟩
theorem Blk.drewN {w : World} {B b : Nat} {cs : Array Value} {t : TypeId} (h : Blk w B b cs t) (n : Nat) : Blk (w.drewN n) B b cs t := h
theorem Blk.grown {w w1 : World} {B b g : Nat} {cs : Array Value} {t : TypeId} (h : Blk w B b cs t) (hb : w.grownBy w1 (some g)) (hne : b ≠ g) : Blk w1 B b cs t := ⟨h.1, (hb.block b h.lt (by simpa using hne)).trans h.2⟩
/-- Two rows, and all that lay when they had been laid. -/
structure Two (b c : Nat) (x y : List Value) (w0 w : World) : Prop where
  a : RowAt w b x
  b : RowAt w c y
  bel : Below w0.heap.size w0 w
theorem Two.keep {b c : Nat} {x y : List Value} {w0 w w1 : World} (h : Two b c x y w0 w) (hb : Below w.heap.size w w1) : Two b c x y w0 w1 := ⟨h.a.keep hb, h.b.keep hb, btrans h.bel hb⟩
theorem Two.alloc {b c : Nat} {x y : List Value} {w0 w : World} (h : Two b c x y w0 w) (o : Obj) : Two b c x y w0 (w.alloc o) := h.keep ((Below.refl _ _).alloc (Nat.le_refl _) _)
theorem Two.drew {b c : Nat} {x y : List Value} {w0 w : World} (h : Two b c x y w0 w) : Two b c x y w0 w.drew := h.keep (Below.refl _ _).drew
theorem Two.setRow {b c : Nat} {x y : List Value} {w0 w : World} (h : Two b c x y w0 w) {d : Nat} (hd : w0.heap.size ≤ d) (hb : b < w0.heap.size) (hc : c < w0.heap.size) (r : Array Value) : Two b c x y w0 (w.setRow d r) :=
  ⟨⟨by simpa using h.a.1, fun i v hi => (cell_setRow_other _ _ _ _ (by show b ≠ d; omega)).trans (h.a.2 i v hi)⟩, ⟨by simpa using h.b.1, fun i v hi => (cell_setRow_other _ _ _ _ (by show c ≠ d; omega)).trans (h.b.2 i v hi)⟩, below_setRow h.bel hd _⟩
theorem Two.anew {b c : Nat} {x y : List Value} {w0 w : World} (h : Two b c x y w0 w) : Two b c x y w w := ⟨h.a, h.b, Below.refl _ _⟩
/-- Two rows and a third block that is known whole. -/
structure TwoB (b c : Nat) (x y : List Value) (g : Nat) (r : Array Value) (t : TypeId) (w0 w : World) : Prop where
  two : Two b c x y w0 w
  blk : Blk w 0 g r t
  lt : g < w0.heap.size
theorem TwoB.keep {b c : Nat} {x y : List Value} {g : Nat} {r : Array Value} {t : TypeId} {w0 w w1 : World} (h : TwoB b c x y g r t w0 w) (hb : Below w.heap.size w w1) : TwoB b c x y g r t w0 w1 := ⟨h.two.keep hb, h.blk.keep hb, h.lt⟩
theorem TwoB.alloc {b c : Nat} {x y : List Value} {g : Nat} {r : Array Value} {t : TypeId} {w0 w : World} (h : TwoB b c x y g r t w0 w) (o : Obj) : TwoB b c x y g r t w0 (w.alloc o) := h.keep ((Below.refl _ _).alloc (Nat.le_refl _) _)
theorem TwoB.drew {b c : Nat} {x y : List Value} {g : Nat} {r : Array Value} {t : TypeId} {w0 w : World} (h : TwoB b c x y g r t w0 w) : TwoB b c x y g r t w0 w.drew := h.keep (Below.refl _ _).drew
theorem TwoB.setRow {b c : Nat} {x y : List Value} {g : Nat} {r : Array Value} {t : TypeId} {w0 w : World} (h : TwoB b c x y g r t w0 w) {d : Nat} (hd : w0.heap.size ≤ d) (hb : b < w0.heap.size) (hc : c < w0.heap.size) (q : Array Value) : TwoB b c x y g r t w0 (w.setRow d q) :=
  ⟨h.two.setRow hd hb hc q, h.blk.far (by have := h.lt; omega) q, h.lt⟩
end Go.Proofs.Ytipkbapnhgdpeaa.C
