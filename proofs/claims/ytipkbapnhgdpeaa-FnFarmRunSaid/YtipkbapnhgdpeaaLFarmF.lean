/- The frame of the farm laws: the arguments, boxed, and what the program was given. No condition. -/
import Derived.Test.YtipkbapnhgdpeaaLFarmC
import Derived.Test.YtipkbapnhgdpeaaTabK
namespace Go.Proofs.Ytipkbapnhgdpeaa.C
open Go.RowKit Go.Proofs.Ytipkbapnhgdpeaa.Rd
set_option maxRecDepth 100000
set_option linter.unusedVariables false
set_option linter.unusedSimpArgs false
attribute [local go_sem ↓] Go.wp_at_zero Go.wp_at_succ
/-- The law's arguments, boxed, and all that lies behind. -/
structure LwIn (b : Nat) (w1 : World) (F : Fm) (A1 A2 : Option Addr) (c1 c2 : Nat) (k id g a c : Int) (w' : World) : Prop where
  f : Blk w' 0 b #[.int .i64 F.cap, .slice A1 F.n1 c1, .slice A2 F.n2 c2] 25
  e : Blk w' 0 (b + 1) #[.int .i64 k, .int .i64 id, .int .i64 g, .int .i64 a, .int .i64 c] 66
  t1 : TabA 4 w' A1 F.n1 F.f1
  t2 : TabA 4 w' A2 F.n2 F.f2
  bel : Below w1.heap.size w1 w'
theorem LwIn.keep {b : Nat} {w1 w' w'' : World} {F : Fm} {A1 A2 : Option Addr} {c1 c2 : Nat} {k id g a c : Int} (h : LwIn b w1 F A1 A2 c1 c2 k id g a c w') (hb : Below w'.heap.size w' w'') : LwIn b w1 F A1 A2 c1 c2 k id g a c w'' :=
  ⟨h.f.keep hb, h.e.keep hb, h.t1.keep hb, h.t2.keep hb, btrans h.bel hb⟩
theorem LwIn.cells {b : Nat} {w1 w' : World} {F : Fm} {A1 A2 : Option Addr} {c1 c2 : Nat} {k id g a c : Int} (h : LwIn b w1 F A1 A2 c1 c2 k id g a c w') : w'.cell? ⟨b, 0, none⟩ = some (.int .i64 F.cap) ∧ w'.cell? ⟨b, 1, none⟩ = some (.slice A1 F.n1 c1) ∧ w'.cell? ⟨b, 2, none⟩ = some (.slice A2 F.n2 c2) ∧ w'.cell? ⟨b + 1, 0, none⟩ = some (.int .i64 k) ∧ w'.cell? ⟨b + 1, 1, none⟩ = some (.int .i64 id) ∧ w'.cell? ⟨b + 1, 2, none⟩ = some (.int .i64 g) ∧ w'.cell? ⟨b + 1, 3, none⟩ = some (.int .i64 a) ∧ w'.cell? ⟨b + 1, 4, none⟩ = some (.int .i64 c) :=
  ⟨(h.f.cell 0).trans rfl, (h.f.cell 1).trans rfl, (h.f.cell 2).trans rfl, (h.e.cell 0).trans rfl, (h.e.cell 1).trans rfl, (h.e.cell 2).trans rfl, (h.e.cell 3).trans rfl, (h.e.cell 4).trans rfl⟩
theorem LwIn.new (F : Fm) (A1 A2 : Option Addr) (c1 c2 : Nat) (k id g a c : Int) (w : World) (h1 : TabA 4 w A1 F.n1 F.f1) (h2 : TabA 4 w A2 F.n2 F.f2) : LwIn w.heap.size ((w.alloc (.cells #[.int .i64 F.cap, .slice A1 F.n1 c1, .slice A2 F.n2 c2] 25)).alloc (.cells #[.int .i64 k, .int .i64 id, .int .i64 g, .int .i64 a, .int .i64 c] 66)) F A1 A2 c1 c2 k id g a c ((w.alloc (.cells #[.int .i64 F.cap, .slice A1 F.n1 c1, .slice A2 F.n2 c2] 25)).alloc (.cells #[.int .i64 k, .int .i64 id, .int .i64 g, .int .i64 a, .int .i64 c] 66)) := by
  have hal : Below w.heap.size w ((w.alloc (.cells #[.int .i64 F.cap, .slice A1 F.n1 c1, .slice A2 F.n2 c2] 25)).alloc (.cells #[.int .i64 k, .int .i64 id, .int .i64 g, .int .i64 a, .int .i64 c] 66)) := ((Below.refl w.heap.size w).alloc (Nat.le_refl _) _).alloc (by simp) _
  have hb2 := Blk.new (w := w.alloc (.cells #[.int .i64 F.cap, .slice A1 F.n1 c1, .slice A2 F.n2 c2] 25)) (B := 0) (Nat.zero_le _) #[.int .i64 k, .int .i64 id, .int .i64 g, .int .i64 a, .int .i64 c] 66
  simp only [World.size_alloc] at hb2
  exact ⟨(Blk.new (w := w) (B := 0) (Nat.zero_le _) #[.int .i64 F.cap, .slice A1 F.n1 c1, .slice A2 F.n2 c2] 25).keep ((Below.refl _ _).alloc (Nat.le_refl _) (.cells #[.int .i64 k, .int .i64 id, .int .i64 g, .int .i64 a, .int .i64 c] 66)), hb2, h1.keep hal, h2.keep hal, Below.refl _ _⟩
/-- An answer in a block, with its tables. -/
def AnsIn (w : World) (B b : Nat) (C : Int) (G : Fm) (vg vm : Value) : Prop := Blk w 0 b #[.int .i64 G.cap, vg, vm, .int .i64 0, .int .i64 C] 60 ∧ FarmV w B G vg vm
theorem AnsIn.keep {w w' : World} {B b : Nat} {C : Int} {G : Fm} {vg vm : Value} (h : AnsIn w B b C G vg vm) (hb : Below w.heap.size w w') : AnsIn w' B b C G vg vm := ⟨h.1.keep hb, h.2.keep hb⟩
theorem FarmV.low {w w' : World} {B C : Nat} {G : Fm} {vg vm : Value} (h : FarmV w B G vg vm) (hb : Below C w w') (h1 : ∀ k, vg.ownBlock = some k → k < C) (h2 : ∀ k, vm.ownBlock = some k → k < C) : FarmV w' B G vg vm := ⟨h.1.low hb h1, h.2.low hb h2⟩
theorem FarmV.lt {w : World} {B : Nat} {G : Fm} {vg vm : Value} (h : FarmV w B G vg vm) : (∀ k, vg.ownBlock = some k → B ≤ k ∧ k < w.heap.size) ∧ ∀ k, vm.ownBlock = some k → B ≤ k ∧ k < w.heap.size := ⟨fun k e => World.ownsRow.lt h.1 k e, fun k e => World.ownsRow.lt h.2 k e⟩
theorem FarmV.at {w : World} {B : Nat} {G : Fm} {A1 A2 : Option Addr} {c1 c2 : Nat} (h : FarmV w B G (.slice A1 G.n1 c1) (.slice A2 G.n2 c2)) : FarmAt w A1 G.n1 G.f1 A2 G.n2 G.f2 := by
  obtain ⟨X1, d1, e1, -, t1⟩ := h.1.tab
  obtain ⟨X2, d2, e2, -, t2⟩ := h.2.tab
  cases e1
  cases e2
  exact ⟨t1, t2⟩
theorem FarmV.caps {w : World} {B : Nat} {G : Fm} {vg vm : Value} (h : FarmV w B G vg vm) : ∃ A1 c1 A2 c2, vg = .slice A1 G.n1 c1 ∧ vm = .slice A2 G.n2 c2 ∧ G.n1 ≤ c1 ∧ G.n2 ≤ c2 := by
  obtain ⟨X1, d1, e1, l1, -⟩ := h.1.tab
  obtain ⟨X2, d2, e2, l2, -⟩ := h.2.tab
  exact ⟨X1, d1, X2, d2, e1, e2, l1, l2⟩
theorem OwnT.grownH {t : TypeId} {w w' : World} {B n : Nat} {v : Value} {f : Nat → Nat → Int} (h : OwnT t w B v n f) {row : Option Nat} (hg : w.grownBy w' row) (hne : ∀ k, row = some k → k < B) : OwnT t w' B v n f :=
  h.grown hg fun k hk e => by have := hne k e; have := (World.ownsRow.lt h k hk).1; omega
theorem FarmV.grownH {w w' : World} {B : Nat} {G : Fm} {vg vm : Value} (h : FarmV w B G vg vm) {row : Option Nat} (hg : w.grownBy w' row) (hne : ∀ k, row = some k → k < B) : FarmV w' B G vg vm := ⟨h.1.grownH hg hne, h.2.grownH hg hne⟩
/-- The farm that an edit leaves is no greater than a right one. -/
theorem fe_small (F : Fm) (k id g a c : Int) : (feF F k id g a c).n1 ≤ 2000 ∧ (feF F k id g a c).n2 ≤ 2000 := by
  unfold feF
  by_cases h : feC F k id g a c = 0
  · rw [if_pos h]
    unfold feC at h
    by_cases h1 : fmB F = true
    · rw [if_pos h1] at h
      by_cases h2 : isEdB k id g a c = true
      · rw [if_pos h2] at h
        have := EdGo.right (Right.of h1) (EdGo.of (EdOk.of h2) h)
        exact ⟨Nat.le_trans this.l1 (by decide), Nat.le_trans this.l2 (by decide)⟩
      · rw [if_neg h2] at h; omega
    · rw [if_neg h1] at h; omega
  · rw [if_neg h]; exact ⟨by decide, by decide⟩
theorem LwIn.all {b : Nat} {w1 w' : World} {F : Fm} {A1 A2 : Option Addr} {c1 c2 : Nat} {k id g a c : Int} (h : LwIn b w1 F A1 A2 c1 c2 k id g a c w') : w'.cell? ⟨b, 0, none⟩ = some (.int .i64 F.cap) ∧ w'.cell? ⟨b, 1, none⟩ = some (.slice A1 F.n1 c1) ∧ w'.cell? ⟨b, 2, none⟩ = some (.slice A2 F.n2 c2) ∧ w'.cell? ⟨b + 1, 0, none⟩ = some (.int .i64 k) ∧ w'.cell? ⟨b + 1, 1, none⟩ = some (.int .i64 id) ∧ w'.cell? ⟨b + 1, 2, none⟩ = some (.int .i64 g) ∧ w'.cell? ⟨b + 1, 3, none⟩ = some (.int .i64 a) ∧ w'.cell? ⟨b + 1, 4, none⟩ = some (.int .i64 c) ∧ LwIn b w1 F A1 A2 c1 c2 k id g a c w' :=
  ⟨h.cells.1, h.cells.2.1, h.cells.2.2.1, h.cells.2.2.2.1, h.cells.2.2.2.2.1, h.cells.2.2.2.2.2.1, h.cells.2.2.2.2.2.2.1, h.cells.2.2.2.2.2.2.2, h⟩
theorem LwIn.pick {b : Nat} {w1 w' : World} {F : Fm} {A1 A2 : Option Addr} {c1 c2 : Nat} {k id g a c : Int} (h : w'.cell? ⟨b, 0, none⟩ = some (.int .i64 F.cap) ∧ w'.cell? ⟨b, 1, none⟩ = some (.slice A1 F.n1 c1) ∧ w'.cell? ⟨b, 2, none⟩ = some (.slice A2 F.n2 c2) ∧ w'.cell? ⟨b + 1, 0, none⟩ = some (.int .i64 k) ∧ w'.cell? ⟨b + 1, 1, none⟩ = some (.int .i64 id) ∧ w'.cell? ⟨b + 1, 2, none⟩ = some (.int .i64 g) ∧ w'.cell? ⟨b + 1, 3, none⟩ = some (.int .i64 a) ∧ w'.cell? ⟨b + 1, 4, none⟩ = some (.int .i64 c) ∧ LwIn b w1 F A1 A2 c1 c2 k id g a c w') : LwIn b w1 F A1 A2 c1 c2 k id g a c w' := h.2.2.2.2.2.2.2.2
theorem LwIn.alloc {b : Nat} {w1 w' : World} {F : Fm} {A1 A2 : Option Addr} {c1 c2 : Nat} {k id g a c : Int} (h : LwIn b w1 F A1 A2 c1 c2 k id g a c w') (o : Obj) : LwIn b w1 F A1 A2 c1 c2 k id g a c (w'.alloc o) := h.keep ((Below.refl _ _).alloc (Nat.le_refl _) _)
theorem LwIn.drew {b : Nat} {w1 w' : World} {F : Fm} {A1 A2 : Option Addr} {c1 c2 : Nat} {k id g a c : Int} (h : LwIn b w1 F A1 A2 c1 c2 k id g a c w') : LwIn b w1 F A1 A2 c1 c2 k id g a c w'.drew := h.keep (Below.refl _ _).drew
theorem below_setRowC {C : Nat} {w : World} {d : Nat} (hd : C ≤ d) (r : Array Value) : Below C w (w.setRow d r) := ⟨rfl, rfl, rfl, by simp, fun i hi => setRow_other _ _ _ _ (by omega)⟩
theorem LwIn.keepC {b : Nat} {w0 w1 w' w'' : World} {F : Fm} {A1 A2 : Option Addr} {c1 c2 : Nat} {k id g a c : Int} (h0 : LwIn b w1 F A1 A2 c1 c2 k id g a c w1) (h : LwIn b w1 F A1 A2 c1 c2 k id g a c w') {C : Nat} (hb : Below C w' w'') (hC : w1.heap.size ≤ C) : LwIn b w1 F A1 A2 c1 c2 k id g a c w'' :=
  h0.keep (h.bel.trans (hb.mono hC))
theorem FarmAt.alloc {w : World} {A1 A2 : Option Addr} {n1 n2 : Nat} {f1 f2 : Nat → Nat → Int} (h : FarmAt w A1 n1 f1 A2 n2 f2) (o : Obj) : FarmAt (w.alloc o) A1 n1 f1 A2 n2 f2 := h.keep ((Below.refl _ _).alloc (Nat.le_refl _) _)
theorem FarmAt.drew {w : World} {A1 A2 : Option Addr} {n1 n2 : Nat} {f1 f2 : Nat → Nat → Int} (h : FarmAt w A1 n1 f1 A2 n2 f2) : FarmAt w.drew A1 n1 f1 A2 n2 f2 := h.keep (Below.refl _ _).drew
theorem FarmV.alloc {w : World} {B : Nat} {F : Fm} {vg vm : Value} (h : FarmV w B F vg vm) (o : Obj) : FarmV (w.alloc o) B F vg vm := h.keep ((Below.refl _ _).alloc (Nat.le_refl _) _)
theorem FarmV.farRow {w : World} {B b : Nat} {F : Fm} {vg vm : Value} (h : FarmV w B F vg vm) (h1 : vg.ownBlock ≠ some b) (h2 : vm.ownBlock ≠ some b) (r : Array Value) : FarmV (w.setRow b r) B F vg vm := ⟨h.1.farRow h1 r, h.2.farRow h2 r⟩
theorem FarmV.room {w : World} {B C b n : Nat} {F : Fm} {vg vm : Value} (h : FarmV w B F vg vm) (hr : Room w C b n 60) (r : Array Value) : FarmV (w.setRow b r) B F vg vm := by
  obtain ⟨cs, hb, -⟩ := hr
  exact h.farRow (h.1.neBlk hb (by decide)) (h.2.neBlk hb (by decide)) r
theorem LwIn.anew {b : Nat} {w1 w' : World} {F : Fm} {A1 A2 : Option Addr} {c1 c2 : Nat} {k id g a c : Int} (h : LwIn b w1 F A1 A2 c1 c2 k id g a c w') : LwIn b w' F A1 A2 c1 c2 k id g a c w' := ⟨h.f, h.e, h.t1, h.t2, Below.refl _ _⟩
theorem LwIn.setRow {b : Nat} {w0 w' : World} {F : Fm} {A1 A2 : Option Addr} {c1 c2 : Nat} {k id g a c : Int} (h : LwIn b w0 F A1 A2 c1 c2 k id g a c w') (h0 : LwIn b w0 F A1 A2 c1 c2 k id g a c w0) {d : Nat} (hd : w0.heap.size ≤ d) (r : Array Value) : LwIn b w0 F A1 A2 c1 c2 k id g a c (w'.setRow d r) :=
  h0.keep (h.bel.trans (below_setRowC hd r))
/-- The law's arguments and the program's own farm. -/
structure LwX (b7 : Nat) (P1 P2 : Option Addr) (p1 p2 : Nat) (b : Nat) (w1 : World) (F : Fm) (A1 A2 : Option Addr) (c1 c2 : Nat) (k id g a c : Int) (w' : World) : Prop where
  l : LwIn b w1 F A1 A2 c1 c2 k id g a c w'
  x : Blk w' 0 b7 #[.int .i64 F.cap, .slice P1 F.n1 p1, .slice P2 F.n2 p2] 34
  lt : b7 < w1.heap.size
section
variable {b7 b p1 p2 c1 c2 : Nat} {P1 P2 A1 A2 : Option Addr} {w1 w' w'' : World} {F : Fm} {k id g a c : Int}
theorem LwX.keep (h : LwX b7 P1 P2 p1 p2 b w1 F A1 A2 c1 c2 k id g a c w') (hb : Below w'.heap.size w' w'') : LwX b7 P1 P2 p1 p2 b w1 F A1 A2 c1 c2 k id g a c w'' := ⟨h.l.keep hb, h.x.keep hb, h.lt⟩
theorem LwX.all (h : LwX b7 P1 P2 p1 p2 b w1 F A1 A2 c1 c2 k id g a c w') : w'.cell? ⟨b, 0, none⟩ = some (.int .i64 F.cap) ∧ w'.cell? ⟨b, 1, none⟩ = some (.slice A1 F.n1 c1) ∧ w'.cell? ⟨b, 2, none⟩ = some (.slice A2 F.n2 c2) ∧ w'.cell? ⟨b + 1, 0, none⟩ = some (.int .i64 k) ∧ w'.cell? ⟨b + 1, 1, none⟩ = some (.int .i64 id) ∧ w'.cell? ⟨b + 1, 2, none⟩ = some (.int .i64 g) ∧ w'.cell? ⟨b + 1, 3, none⟩ = some (.int .i64 a) ∧ w'.cell? ⟨b + 1, 4, none⟩ = some (.int .i64 c) ∧ w'.cell? ⟨b7, 0, none⟩ = some (.int .i64 F.cap) ∧ w'.cell? ⟨b7, 1, none⟩ = some (.slice P1 F.n1 p1) ∧ w'.cell? ⟨b7, 2, none⟩ = some (.slice P2 F.n2 p2) ∧ LwX b7 P1 P2 p1 p2 b w1 F A1 A2 c1 c2 k id g a c w' := by
  have e := h.l.cells
  exact ⟨e.1, e.2.1, e.2.2.1, e.2.2.2.1, e.2.2.2.2.1, e.2.2.2.2.2.1, e.2.2.2.2.2.2.1, e.2.2.2.2.2.2.2, (h.x.cell 0).trans rfl, (h.x.cell 1).trans rfl, (h.x.cell 2).trans rfl, h⟩
theorem LwX.pick (h : w'.cell? ⟨b, 0, none⟩ = some (.int .i64 F.cap) ∧ w'.cell? ⟨b, 1, none⟩ = some (.slice A1 F.n1 c1) ∧ w'.cell? ⟨b, 2, none⟩ = some (.slice A2 F.n2 c2) ∧ w'.cell? ⟨b + 1, 0, none⟩ = some (.int .i64 k) ∧ w'.cell? ⟨b + 1, 1, none⟩ = some (.int .i64 id) ∧ w'.cell? ⟨b + 1, 2, none⟩ = some (.int .i64 g) ∧ w'.cell? ⟨b + 1, 3, none⟩ = some (.int .i64 a) ∧ w'.cell? ⟨b + 1, 4, none⟩ = some (.int .i64 c) ∧ w'.cell? ⟨b7, 0, none⟩ = some (.int .i64 F.cap) ∧ w'.cell? ⟨b7, 1, none⟩ = some (.slice P1 F.n1 p1) ∧ w'.cell? ⟨b7, 2, none⟩ = some (.slice P2 F.n2 p2) ∧ LwX b7 P1 P2 p1 p2 b w1 F A1 A2 c1 c2 k id g a c w') : LwX b7 P1 P2 p1 p2 b w1 F A1 A2 c1 c2 k id g a c w' := h.2.2.2.2.2.2.2.2.2.2.2
theorem LwX.alloc (h : LwX b7 P1 P2 p1 p2 b w1 F A1 A2 c1 c2 k id g a c w') (o : Obj) : LwX b7 P1 P2 p1 p2 b w1 F A1 A2 c1 c2 k id g a c (w'.alloc o) := h.keep ((Below.refl _ _).alloc (Nat.le_refl _) _)
theorem LwX.drew (h : LwX b7 P1 P2 p1 p2 b w1 F A1 A2 c1 c2 k id g a c w') : LwX b7 P1 P2 p1 p2 b w1 F A1 A2 c1 c2 k id g a c w'.drew := h.keep (Below.refl _ _).drew
theorem LwX.setRow (h : LwX b7 P1 P2 p1 p2 b w1 F A1 A2 c1 c2 k id g a c w') (h0 : LwX b7 P1 P2 p1 p2 b w1 F A1 A2 c1 c2 k id g a c w1) {d : Nat} (hd : w1.heap.size ≤ d) (r : Array Value) : LwX b7 P1 P2 p1 p2 b w1 F A1 A2 c1 c2 k id g a c (w'.setRow d r) :=
  ⟨h.l.setRow h0.l hd r, h.x.far (by have := h0.lt; omega) r, h.lt⟩
end
end Go.Proofs.Ytipkbapnhgdpeaa.C
