/- The law FnExactFarmEdit, walked. No condition. -/
import Derived.Test.YtipkbapnhgdpeaaLFarmC
import Derived.Test.YtipkbapnhgdpeaaTabK
import Derived.Test.YtipkbapnhgdpeaaOFnExactFarmEdit
namespace Go.Proofs.Ytipkbapnhgdpeaa.C
open Go.RowKit Go.Proofs.Ytipkbapnhgdpeaa.Rd
set_option maxRecDepth 100000
set_option linter.unusedVariables false
set_option linter.unusedSimpArgs false
attribute [local go_sem ↓] Go.wp_at_zero Go.wp_at_succ
/-- The law's arguments, boxed, and all that lies behind. -/
structure LwIn (b : Nat) (w1 : World) (F : Fm) (A1 A2 : Option Addr) (c1 c2 : Nat) (k id g a c : Int) (w' : World) : Prop where
  f : Blk w' 0 b #[.int .i64 F.cap, .slice A1 F.n1 c1, .slice A2 F.n2 c2] 25
  e : Blk w' 0 (b + 1) #[.int .i64 k, .int .i64 id, .int .i64 g, .int .i64 a, .int .i64 c] 66
  t1 : TabA 4 w' A1 F.n1 F.f1
  t2 : TabA 4 w' A2 F.n2 F.f2
  bel : Below w1.heap.size w1 w'
theorem LwIn.keep {b : Nat} {w1 w' w'' : World} {F : Fm} {A1 A2 : Option Addr} {c1 c2 : Nat} {k id g a c : Int} (h : LwIn b w1 F A1 A2 c1 c2 k id g a c w') (hb : Below w'.heap.size w' w'') : LwIn b w1 F A1 A2 c1 c2 k id g a c w'' :=
  ⟨h.f.keep hb, h.e.keep hb, h.t1.keep hb, h.t2.keep hb, btrans h.bel hb⟩
theorem LwIn.cells {b : Nat} {w1 w' : World} {F : Fm} {A1 A2 : Option Addr} {c1 c2 : Nat} {k id g a c : Int} (h : LwIn b w1 F A1 A2 c1 c2 k id g a c w') : w'.cell? ⟨b, 0, none⟩ = some (.int .i64 F.cap) ∧ w'.cell? ⟨b, 1, none⟩ = some (.slice A1 F.n1 c1) ∧ w'.cell? ⟨b, 2, none⟩ = some (.slice A2 F.n2 c2) ∧ w'.cell? ⟨b + 1, 0, none⟩ = some (.int .i64 k) ∧ w'.cell? ⟨b + 1, 1, none⟩ = some (.int .i64 id) ∧ w'.cell? ⟨b + 1, 2, none⟩ = some (.int .i64 g) ∧ w'.cell? ⟨b + 1, 3, none⟩ = some (.int .i64 a) ∧ w'.cell? ⟨b + 1, 4, none⟩ = some (.int .i64 c) :=
  ⟨(h.f.cell 0).trans rfl, (h.f.cell 1).trans rfl, (h.f.cell 2).trans rfl, (h.e.cell 0).trans rfl, (h.e.cell 1).trans rfl, (h.e.cell 2).trans rfl, (h.e.cell 3).trans rfl, (h.e.cell 4).trans rfl⟩
theorem LwIn.new (F : Fm) (A1 A2 : Option Addr) (c1 c2 : Nat) (k id g a c : Int) (w : World) (h1 : TabA 4 w A1 F.n1 F.f1) (h2 : TabA 4 w A2 F.n2 F.f2) : LwIn w.heap.size ((w.alloc (.cells #[.int .i64 F.cap, .slice A1 F.n1 c1, .slice A2 F.n2 c2] 25)).alloc (.cells #[.int .i64 k, .int .i64 id, .int .i64 g, .int .i64 a, .int .i64 c] 66)) F A1 A2 c1 c2 k id g a c ((w.alloc (.cells #[.int .i64 F.cap, .slice A1 F.n1 c1, .slice A2 F.n2 c2] 25)).alloc (.cells #[.int .i64 k, .int .i64 id, .int .i64 g, .int .i64 a, .int .i64 c] 66)) := by
  have hal : Below w.heap.size w ((w.alloc (.cells #[.int .i64 F.cap, .slice A1 F.n1 c1, .slice A2 F.n2 c2] 25)).alloc (.cells #[.int .i64 k, .int .i64 id, .int .i64 g, .int .i64 a, .int .i64 c] 66)) := ((Below.refl w.heap.size w).alloc (Nat.le_refl _) _).alloc (by simp) _
  have hb2 := Blk.new (w := w.alloc (.cells #[.int .i64 F.cap, .slice A1 F.n1 c1, .slice A2 F.n2 c2] 25)) (B := 0) (Nat.zero_le _) #[.int .i64 k, .int .i64 id, .int .i64 g, .int .i64 a, .int .i64 c] 66
  simp only [World.size_alloc] at hb2
  exact ⟨(Blk.new (w := w) (B := 0) (Nat.zero_le _) #[.int .i64 F.cap, .slice A1 F.n1 c1, .slice A2 F.n2 c2] 25).keep ((Below.refl _ _).alloc (Nat.le_refl _) (.cells #[.int .i64 k, .int .i64 id, .int .i64 g, .int .i64 a, .int .i64 c] 66)), hb2, h1.keep hal, h2.keep hal, Below.refl _ _⟩
/-- An answer in a block, with its tables. -/
def AnsIn (w : World) (B b : Nat) (C : Int) (G : Fm) (vg vm : Value) : Prop := Blk w 0 b #[.int .i64 G.cap, vg, vm, .int .i64 0, .int .i64 C] 60 ∧ FarmV w B G vg vm
theorem AnsIn.keep {w w' : World} {B b : Nat} {C : Int} {G : Fm} {vg vm : Value} (h : AnsIn w B b C G vg vm) (hb : Below w.heap.size w w') : AnsIn w' B b C G vg vm := ⟨h.1.keep hb, h.2.keep hb⟩
theorem FarmV.low {w w' : World} {B C : Nat} {G : Fm} {vg vm : Value} (h : FarmV w B G vg vm) (hb : Below C w w') (h1 : ∀ k, vg.ownBlock = some k → k < C) (h2 : ∀ k, vm.ownBlock = some k → k < C) : FarmV w' B G vg vm := ⟨h.1.low hb h1, h.2.low hb h2⟩
theorem FarmV.lt {w : World} {B : Nat} {G : Fm} {vg vm : Value} (h : FarmV w B G vg vm) : (∀ k, vg.ownBlock = some k → B ≤ k ∧ k < w.heap.size) ∧ ∀ k, vm.ownBlock = some k → B ≤ k ∧ k < w.heap.size := ⟨fun k e => World.ownsRow.lt h.1 k e, fun k e => World.ownsRow.lt h.2 k e⟩
theorem FarmV.at {w : World} {B : Nat} {G : Fm} {A1 A2 : Option Addr} {c1 c2 : Nat} (h : FarmV w B G (.slice A1 G.n1 c1) (.slice A2 G.n2 c2)) : FarmAt w A1 G.n1 G.f1 A2 G.n2 G.f2 := by
  obtain ⟨X1, d1, e1, -, t1⟩ := h.1.tab
  obtain ⟨X2, d2, e2, -, t2⟩ := h.2.tab
  cases e1
  cases e2
  exact ⟨t1, t2⟩
theorem FarmV.caps {w : World} {B : Nat} {G : Fm} {vg vm : Value} (h : FarmV w B G vg vm) : ∃ A1 c1 A2 c2, vg = .slice A1 G.n1 c1 ∧ vm = .slice A2 G.n2 c2 ∧ G.n1 ≤ c1 ∧ G.n2 ≤ c2 := by
  obtain ⟨X1, d1, e1, l1, -⟩ := h.1.tab
  obtain ⟨X2, d2, e2, l2, -⟩ := h.2.tab
  exact ⟨X1, d1, X2, d2, e1, e2, l1, l2⟩
theorem OwnT.grownH {t : TypeId} {w w' : World} {B n : Nat} {v : Value} {f : Nat → Nat → Int} (h : OwnT t w B v n f) {row : Option Nat} (hg : w.grownBy w' row) (hne : ∀ k, row = some k → k < B) : OwnT t w' B v n f :=
  h.grown hg fun k hk e => by have := hne k e; have := (World.ownsRow.lt h k hk).1; omega
theorem FarmV.grownH {w w' : World} {B : Nat} {G : Fm} {vg vm : Value} (h : FarmV w B G vg vm) {row : Option Nat} (hg : w.grownBy w' row) (hne : ∀ k, row = some k → k < B) : FarmV w' B G vg vm := ⟨h.1.grownH hg hne, h.2.grownH hg hne⟩
/-- The farm that an edit leaves is no greater than a right one. -/
theorem fe_small (F : Fm) (k id g a c : Int) : (feF F k id g a c).n1 ≤ 2000 ∧ (feF F k id g a c).n2 ≤ 2000 := by
  unfold feF
  by_cases h : feC F k id g a c = 0
  · rw [if_pos h]
    unfold feC at h
    by_cases h1 : fmB F = true
    · rw [if_pos h1] at h
      by_cases h2 : isEdB k id g a c = true
      · rw [if_pos h2] at h
        have := EdGo.right (Right.of h1) (EdGo.of (EdOk.of h2) h)
        exact ⟨Nat.le_trans this.l1 (by decide), Nat.le_trans this.l2 (by decide)⟩
      · rw [if_neg h2] at h; omega
    · rw [if_neg h1] at h; omega
  · rw [if_neg h]; exact ⟨by decide, by decide⟩
theorem LwIn.all {b : Nat} {w1 w' : World} {F : Fm} {A1 A2 : Option Addr} {c1 c2 : Nat} {k id g a c : Int} (h : LwIn b w1 F A1 A2 c1 c2 k id g a c w') : w'.cell? ⟨b, 0, none⟩ = some (.int .i64 F.cap) ∧ w'.cell? ⟨b, 1, none⟩ = some (.slice A1 F.n1 c1) ∧ w'.cell? ⟨b, 2, none⟩ = some (.slice A2 F.n2 c2) ∧ w'.cell? ⟨b + 1, 0, none⟩ = some (.int .i64 k) ∧ w'.cell? ⟨b + 1, 1, none⟩ = some (.int .i64 id) ∧ w'.cell? ⟨b + 1, 2, none⟩ = some (.int .i64 g) ∧ w'.cell? ⟨b + 1, 3, none⟩ = some (.int .i64 a) ∧ w'.cell? ⟨b + 1, 4, none⟩ = some (.int .i64 c) ∧ LwIn b w1 F A1 A2 c1 c2 k id g a c w' :=
  ⟨h.cells.1, h.cells.2.1, h.cells.2.2.1, h.cells.2.2.2.1, h.cells.2.2.2.2.1, h.cells.2.2.2.2.2.1, h.cells.2.2.2.2.2.2.1, h.cells.2.2.2.2.2.2.2, h⟩
theorem LwIn.pick {b : Nat} {w1 w' : World} {F : Fm} {A1 A2 : Option Addr} {c1 c2 : Nat} {k id g a c : Int} (h : w'.cell? ⟨b, 0, none⟩ = some (.int .i64 F.cap) ∧ w'.cell? ⟨b, 1, none⟩ = some (.slice A1 F.n1 c1) ∧ w'.cell? ⟨b, 2, none⟩ = some (.slice A2 F.n2 c2) ∧ w'.cell? ⟨b + 1, 0, none⟩ = some (.int .i64 k) ∧ w'.cell? ⟨b + 1, 1, none⟩ = some (.int .i64 id) ∧ w'.cell? ⟨b + 1, 2, none⟩ = some (.int .i64 g) ∧ w'.cell? ⟨b + 1, 3, none⟩ = some (.int .i64 a) ∧ w'.cell? ⟨b + 1, 4, none⟩ = some (.int .i64 c) ∧ LwIn b w1 F A1 A2 c1 c2 k id g a c w') : LwIn b w1 F A1 A2 c1 c2 k id g a c w' := h.2.2.2.2.2.2.2.2
theorem LwIn.alloc {b : Nat} {w1 w' : World} {F : Fm} {A1 A2 : Option Addr} {c1 c2 : Nat} {k id g a c : Int} (h : LwIn b w1 F A1 A2 c1 c2 k id g a c w') (o : Obj) : LwIn b w1 F A1 A2 c1 c2 k id g a c (w'.alloc o) := h.keep ((Below.refl _ _).alloc (Nat.le_refl _) _)
theorem LwIn.drew {b : Nat} {w1 w' : World} {F : Fm} {A1 A2 : Option Addr} {c1 c2 : Nat} {k id g a c : Int} (h : LwIn b w1 F A1 A2 c1 c2 k id g a c w') : LwIn b w1 F A1 A2 c1 c2 k id g a c w'.drew := h.keep (Below.refl _ _).drew
theorem below_setRowC {C : Nat} {w : World} {d : Nat} (hd : C ≤ d) (r : Array Value) : Below C w (w.setRow d r) := ⟨rfl, rfl, rfl, by simp, fun i hi => setRow_other _ _ _ _ (by omega)⟩
theorem LwIn.keepC {b : Nat} {w0 w1 w' w'' : World} {F : Fm} {A1 A2 : Option Addr} {c1 c2 : Nat} {k id g a c : Int} (h0 : LwIn b w1 F A1 A2 c1 c2 k id g a c w1) (h : LwIn b w1 F A1 A2 c1 c2 k id g a c w') {C : Nat} (hb : Below C w' w'') (hC : w1.heap.size ≤ C) : LwIn b w1 F A1 A2 c1 c2 k id g a c w'' :=
  h0.keep (h.bel.trans (hb.mono hC))
theorem FarmAt.alloc {w : World} {A1 A2 : Option Addr} {n1 n2 : Nat} {f1 f2 : Nat → Nat → Int} (h : FarmAt w A1 n1 f1 A2 n2 f2) (o : Obj) : FarmAt (w.alloc o) A1 n1 f1 A2 n2 f2 := h.keep ((Below.refl _ _).alloc (Nat.le_refl _) _)
theorem FarmAt.drew {w : World} {A1 A2 : Option Addr} {n1 n2 : Nat} {f1 f2 : Nat → Nat → Int} (h : FarmAt w A1 n1 f1 A2 n2 f2) : FarmAt w.drew A1 n1 f1 A2 n2 f2 := h.keep (Below.refl _ _).drew
theorem FarmV.alloc {w : World} {B : Nat} {F : Fm} {vg vm : Value} (h : FarmV w B F vg vm) (o : Obj) : FarmV (w.alloc o) B F vg vm := h.keep ((Below.refl _ _).alloc (Nat.le_refl _) _)
theorem FarmV.farRow {w : World} {B b : Nat} {F : Fm} {vg vm : Value} (h : FarmV w B F vg vm) (h1 : vg.ownBlock ≠ some b) (h2 : vm.ownBlock ≠ some b) (r : Array Value) : FarmV (w.setRow b r) B F vg vm := ⟨h.1.farRow h1 r, h.2.farRow h2 r⟩
theorem FarmV.room {w : World} {B C b n : Nat} {F : Fm} {vg vm : Value} (h : FarmV w B F vg vm) (hr : Room w C b n 60) (r : Array Value) : FarmV (w.setRow b r) B F vg vm := by
  obtain ⟨cs, hb, -⟩ := hr
  exact h.farRow (h.1.neBlk hb (by decide)) (h.2.neBlk hb (by decide)) r
theorem LwIn.anew {b : Nat} {w1 w' : World} {F : Fm} {A1 A2 : Option Addr} {c1 c2 : Nat} {k id g a c : Int} (h : LwIn b w1 F A1 A2 c1 c2 k id g a c w') : LwIn b w' F A1 A2 c1 c2 k id g a c w' := ⟨h.f, h.e, h.t1, h.t2, Below.refl _ _⟩
theorem LwIn.setRow {b : Nat} {w0 w' : World} {F : Fm} {A1 A2 : Option Addr} {c1 c2 : Nat} {k id g a c : Int} (h : LwIn b w0 F A1 A2 c1 c2 k id g a c w') (h0 : LwIn b w0 F A1 A2 c1 c2 k id g a c w0) {d : Nat} (hd : w0.heap.size ≤ d) (r : Array Value) : LwIn b w0 F A1 A2 c1 c2 k id g a c (w'.setRow d r) :=
  h0.keep (h.bel.trans (below_setRowC hd r))
/-- The law's arguments and the program's own farm. -/
structure LwX (b7 : Nat) (P1 P2 : Option Addr) (p1 p2 : Nat) (b : Nat) (w1 : World) (F : Fm) (A1 A2 : Option Addr) (c1 c2 : Nat) (k id g a c : Int) (w' : World) : Prop where
  l : LwIn b w1 F A1 A2 c1 c2 k id g a c w'
  x : Blk w' 0 b7 #[.int .i64 F.cap, .slice P1 F.n1 p1, .slice P2 F.n2 p2] 34
  lt : b7 < w1.heap.size
section
variable {b7 b p1 p2 c1 c2 : Nat} {P1 P2 A1 A2 : Option Addr} {w1 w' w'' : World} {F : Fm} {k id g a c : Int}
theorem LwX.keep (h : LwX b7 P1 P2 p1 p2 b w1 F A1 A2 c1 c2 k id g a c w') (hb : Below w'.heap.size w' w'') : LwX b7 P1 P2 p1 p2 b w1 F A1 A2 c1 c2 k id g a c w'' := ⟨h.l.keep hb, h.x.keep hb, h.lt⟩
theorem LwX.all (h : LwX b7 P1 P2 p1 p2 b w1 F A1 A2 c1 c2 k id g a c w') : w'.cell? ⟨b, 0, none⟩ = some (.int .i64 F.cap) ∧ w'.cell? ⟨b, 1, none⟩ = some (.slice A1 F.n1 c1) ∧ w'.cell? ⟨b, 2, none⟩ = some (.slice A2 F.n2 c2) ∧ w'.cell? ⟨b + 1, 0, none⟩ = some (.int .i64 k) ∧ w'.cell? ⟨b + 1, 1, none⟩ = some (.int .i64 id) ∧ w'.cell? ⟨b + 1, 2, none⟩ = some (.int .i64 g) ∧ w'.cell? ⟨b + 1, 3, none⟩ = some (.int .i64 a) ∧ w'.cell? ⟨b + 1, 4, none⟩ = some (.int .i64 c) ∧ w'.cell? ⟨b7, 0, none⟩ = some (.int .i64 F.cap) ∧ w'.cell? ⟨b7, 1, none⟩ = some (.slice P1 F.n1 p1) ∧ w'.cell? ⟨b7, 2, none⟩ = some (.slice P2 F.n2 p2) ∧ LwX b7 P1 P2 p1 p2 b w1 F A1 A2 c1 c2 k id g a c w' := by
  have e := h.l.cells
  exact ⟨e.1, e.2.1, e.2.2.1, e.2.2.2.1, e.2.2.2.2.1, e.2.2.2.2.2.1, e.2.2.2.2.2.2.1, e.2.2.2.2.2.2.2, (h.x.cell 0).trans rfl, (h.x.cell 1).trans rfl, (h.x.cell 2).trans rfl, h⟩
theorem LwX.pick (h : w'.cell? ⟨b, 0, none⟩ = some (.int .i64 F.cap) ∧ w'.cell? ⟨b, 1, none⟩ = some (.slice A1 F.n1 c1) ∧ w'.cell? ⟨b, 2, none⟩ = some (.slice A2 F.n2 c2) ∧ w'.cell? ⟨b + 1, 0, none⟩ = some (.int .i64 k) ∧ w'.cell? ⟨b + 1, 1, none⟩ = some (.int .i64 id) ∧ w'.cell? ⟨b + 1, 2, none⟩ = some (.int .i64 g) ∧ w'.cell? ⟨b + 1, 3, none⟩ = some (.int .i64 a) ∧ w'.cell? ⟨b + 1, 4, none⟩ = some (.int .i64 c) ∧ w'.cell? ⟨b7, 0, none⟩ = some (.int .i64 F.cap) ∧ w'.cell? ⟨b7, 1, none⟩ = some (.slice P1 F.n1 p1) ∧ w'.cell? ⟨b7, 2, none⟩ = some (.slice P2 F.n2 p2) ∧ LwX b7 P1 P2 p1 p2 b w1 F A1 A2 c1 c2 k id g a c w') : LwX b7 P1 P2 p1 p2 b w1 F A1 A2 c1 c2 k id g a c w' := h.2.2.2.2.2.2.2.2.2.2.2
theorem LwX.alloc (h : LwX b7 P1 P2 p1 p2 b w1 F A1 A2 c1 c2 k id g a c w') (o : Obj) : LwX b7 P1 P2 p1 p2 b w1 F A1 A2 c1 c2 k id g a c (w'.alloc o) := h.keep ((Below.refl _ _).alloc (Nat.le_refl _) _)
theorem LwX.drew (h : LwX b7 P1 P2 p1 p2 b w1 F A1 A2 c1 c2 k id g a c w') : LwX b7 P1 P2 p1 p2 b w1 F A1 A2 c1 c2 k id g a c w'.drew := h.keep (Below.refl _ _).drew
theorem LwX.setRow (h : LwX b7 P1 P2 p1 p2 b w1 F A1 A2 c1 c2 k id g a c w') (h0 : LwX b7 P1 P2 p1 p2 b w1 F A1 A2 c1 c2 k id g a c w1) {d : Nat} (hd : w1.heap.size ≤ d) (r : Array Value) : LwX b7 P1 P2 p1 p2 b w1 F A1 A2 c1 c2 k id g a c (w'.setRow d r) :=
  ⟨h.l.setRow h0.l hd r, h.x.far (by have := h0.lt; omega) r, h.lt⟩
end
set_option maxHeartbeats 8000000 in
theorem farmEdit_law (F : Fm) (A1 A2 : Option Addr) (c1 c2 : Nat) (k id g a c : Int) (w : World) (h1 : TabA 4 w A1 F.n1 F.f1) (h2 : TabA 4 w A2 F.n2 F.f2) (m1 : F.n1 ≤ 9223372036854775807) (m2 : F.n2 ≤ 9223372036854775807) :
    Calls Try.prog 10 #[.agg #[.int .i64 F.cap, .slice A1 F.n1 c1, .slice A2 F.n2 c2], .agg #[.int .i64 k, .int .i64 id, .int .i64 g, .int .i64 a, .int .i64 c]] w fun e w' => e = .returned (.bool true) ∧ Below w.heap.size w w' := by
  have L1 := Lib.hid (LwIn.new F A1 A2 c1 c2 k id g a c w h1 h2)
  have HB : Hid (Below w.heap.size w ((w.alloc (.cells #[.int .i64 F.cap, .slice A1 F.n1 c1, .slice A2 F.n2 c2] 25)).alloc (.cells #[.int .i64 k, .int .i64 id, .int .i64 g, .int .i64 a, .int .i64 c] 66))) := Lib.hid (((Below.refl w.heap.size w).alloc (Nat.le_refl _) _).alloc (by simp) _)
  have HZ : Hid (((w.alloc (.cells #[.int .i64 F.cap, .slice A1 F.n1 c1, .slice A2 F.n2 c2] 25)).alloc (.cells #[.int .i64 k, .int .i64 id, .int .i64 g, .int .i64 a, .int .i64 c] 66)).heap.size = w.heap.size + 1 + 1) := Lib.hid (by simp)
  clear h1 h2
  go_enter Try.func10, Try.ntmps10
  go_upto_region 2 with fail
  generalize ((w.alloc (.cells #[.int .i64 F.cap, .slice A1 F.n1 c1, .slice A2 F.n2 c2] 25)).alloc (.cells #[.int .i64 k, .int .i64 id, .int .i64 g, .int .i64 a, .int .i64 c] 66)) = w1 at *
  obtain ⟨b, hbb⟩ : ∃ b, w.heap.size = b := ⟨_, rfl⟩
  have HBB := Lib.hid hbb
  rw [hbb] at L1 HZ ⊢
  clear hbb
  obtain ⟨u0, u1, u2, v0, v1, v2, v3, v4⟩ := L1.out.cells
  have HSZ := Lib.hid fun (w' : World) => c_szFarm F.cap A1 A2 F.n1 c1 F.n2 c2 1048576 w' (by omega) (by omega) m1 m2
  by_cases hs : (if 1048576 - (F.n1 : Int) - F.n2 < 0 then (-1 : Int) else 1048576 - F.n1 - F.n2) < 0
  case pos =>
    have bs : decide ((if 1048576 - (F.n1 : Int) - F.n2 < 0 then (-1 : Int) else 1048576 - F.n1 - F.n2) < 0) = true := decide_eq_true hs
    generalize (if 1048576 - (F.n1 : Int) - F.n2 < 0 then (-1 : Int) else 1048576 - F.n1 - F.n2) = sz at *
    go_wp2_with (first | (go_at_call 32; (with_reducible refine (HSZ.out w1).mono ?_); rintro e w2 ⟨rfl, hb2⟩; have HB2 := Lib.hid hb2; clear hb2) | fail)
    go_ret
    exact ⟨rfl, HB.out.trans (HB2.out.mono (by have := HZ.out; have := HBB.out; omega))⟩
  have bs : decide ((if 1048576 - (F.n1 : Int) - F.n2 < 0 then (-1 : Int) else 1048576 - F.n1 - F.n2) < 0) = false := decide_eq_false hs
  have hn : F.n1 ≤ 1048576 ∧ F.n2 ≤ 1048576 := by
    by_cases hq : 1048576 - (F.n1 : Int) - F.n2 < 0
    · rw [if_pos hq] at hs; omega
    · omega
  obtain ⟨hn1, hn2⟩ := hn
  clear hs
  generalize (if 1048576 - (F.n1 : Int) - F.n2 < 0 then (-1 : Int) else 1048576 - F.n1 - F.n2) = sz at *
  have HSF := Lib.hid fun (w' : World) (X1 X2 : Option Addr) (d1 d2 : Nat) (h : FarmAt w' X1 F.n1 F.f1 X2 F.n2 F.f2) (l1 : F.n1 ≤ d1) (l2 : F.n2 ≤ d2) => s_FarmEdit F X1 X2 d1 d2 k id g a c w' h l1 l2
  obtain ⟨C, hC⟩ : ∃ C, feC F k id g a c = C := ⟨_, rfl⟩
  obtain ⟨G, hG⟩ : ∃ G, feF F k id g a c = G := ⟨_, rfl⟩
  have HIF := Lib.hid fun (w' : World) (X1 X2 : Option Addr) (d1 d2 : Nat) (h : FarmAt w' X1 F.n1 F.f1 X2 F.n2 F.f2) (l1 : F.n1 ≤ d1) => c_FarmEdit F X1 X2 d1 d2 k id g a c w' h l1
  unfold FeOut at HIF
  unfold OutV at HSF
  rw [hC, hG] at HIF HSF
  have hsm := fe_small F k id g a c
  rw [hG] at hsm
  obtain ⟨hs1, hs2⟩ := hsm
  clear hC hG
  have HTF := Lib.hid fun (wb w' : World) (h : LwIn b wb F A1 A2 c1 c2 k id g a c w') => c_toFarmO F.cap A1 A2 F.n1 c1 F.n2 c2 F.f1 F.f2 w' h.t1 h.t2 (by omega) (by omega)
  go_upto_region 5 with (first | (go_at_call 32; (with_reducible refine (HSZ.out w1).mono ?_); rintro e w2 ⟨rfl, hb2⟩; have L2 := Lib.hid (L1.out.keep hb2); clear hb2) | fail)
  clear u0 u1 u2 v0 v1 v2 v3 v4 bs
  have hz := L2.out.bel.size
  have hz12 := Lib.hid hz
  have L1B := Lib.hid L2.out.bel
  have N2 := Lib.hid L2.out.anew
  go_cut [6] (fun v6 wc => ∃ (wx : World) (b6 : Nat) (X1 X2 : Option Addr) (d1 d2 : Nat), wx = wc ∧ v6 = .pointer (some ⟨b6, 0, none⟩) ∧ Hid (AnsIn wx w2.heap.size b6 C G (.slice X1 G.n1 d1) (.slice X2 G.n2 d2)) ∧ Hid (LwIn b w2 F A1 A2 c1 c2 k id g a c wx))
  case first =>
    go_region_held3 (fun w' => w'.cell? ⟨b, 0, none⟩ = some (.int .i64 F.cap) ∧ w'.cell? ⟨b, 1, none⟩ = some (.slice A1 F.n1 c1) ∧ w'.cell? ⟨b, 2, none⟩ = some (.slice A2 F.n2 c2) ∧ w'.cell? ⟨b + 1, 0, none⟩ = some (.int .i64 k) ∧ w'.cell? ⟨b + 1, 1, none⟩ = some (.int .i64 id) ∧ w'.cell? ⟨b + 1, 2, none⟩ = some (.int .i64 g) ∧ w'.cell? ⟨b + 1, 3, none⟩ = some (.int .i64 a) ∧ w'.cell? ⟨b + 1, 4, none⟩ = some (.int .i64 c) ∧ LwIn b w2 F A1 A2 c1 c2 k id g a c w') (first | exact N2.out.drew.all | exact hB.all | exact (LwIn.setRow (LwIn.pick (by assumption)) N2.out hge _).all | exact (LwIn.alloc (LwIn.pick (by assumption)) _).all) (first | (go_at_call 34; refine (HTF.out _ _ (LwIn.pick (by assumption))).mono ?_; rintro e wf ⟨vg, vm, rfl, hO1, hO2, hbf⟩; have hB := (LwIn.pick (by assumption)).keep hbf; have hz := hB.bel.size; obtain ⟨Y1, e1, rfl, hd1, hT1⟩ := hO1.tab; obtain ⟨Y2, e2, rfl, hd2, hT2⟩ := hO2.tab; have HFA := Lib.hid (show FarmAt wf Y1 F.n1 F.f1 Y2 F.n2 F.f2 from ⟨hT1, hT2⟩); clear hO1 hO2 hT1 hT2) | (go_at_call 35; refine (c_toEdit _ _ _ _ _ _).mono ?_; rintro e we ⟨rfl, hbe⟩; have hB := (LwIn.pick (by assumption)).keep hbe; have hz := hB.bel.size) | (go_at_call 27; refine (HSF.out _ _ _ _ _ (by (repeat (first | exact HFA.out | (with_reducible refine FarmAt.alloc ?_ _) | (with_reducible refine FarmAt.drew ?_) | refine FarmAt.keep ?_ (by assumption)))) hd1 hd2).mono ?_; rintro e w5 ⟨vg, vm, rfl, hV, hb5⟩; have HFV := Lib.hid (hV.mono (B' := w2.heap.size) (by first | exact hz | (simp; omega))); have hB := (LwIn.pick (by assumption)).keep hb5; have hz := hB.bel.size; obtain ⟨X1, d1, X2, d2, rfl, rfl, -, -⟩ := hV.caps; obtain ⟨r, hr⟩ : ∃ r, #[Value.int .i64 G.cap, .slice X1 G.n1 d1, .slice X2 G.n2 d2, .int .i64 0, .int .i64 C] = r := ⟨_, rfl⟩; rw [hr]; have HRW := Lib.hid hr; have hsz : r.size = 5 := (by rw [← hr]; rfl); have HON := Lib.hid (show r.all (·.oneCell') = true by rw [← hr]; simp [Value.oneCell']); clear hr hV) | ((with_reducible refine upon_store_cells (B := w2.heap.size) (n := 5) (t := 60) ?_ hsz HON.out (fun hblk hge => ?_)); focus ((repeat (first | exact Room.new (by first | omega | (simp; done) | (simp; omega)) rfl | (with_reducible refine Room.drew ?_) | refine Room.keep ?_ (by assumption))))))
    all_goals (go_wp2_with fail; go_meet; exact ⟨_, _, _, _, _, _, rfl, rfl, Lib.hid ⟨(hblk.base (Nat.zero_le _)).cast HRW.out.symm, by (repeat (first | exact HFV.out | (with_reducible refine FarmV.alloc ?_ _) | refine FarmV.room (C := 0) (n := 5) ?_ (by (repeat (first | exact Room.new (by first | omega | (simp; done) | (simp; omega)) rfl | (with_reducible refine Room.drew ?_) | refine Room.keep ?_ (by assumption)))) _))⟩, Lib.hid (LwIn.pick (by assumption))⟩)
  case rest =>
    obtain ⟨w3, b6, X1, X2, d1, d2, rfl, rfl, HA3, HL3⟩ := hcut
    clear N2 L2 hz
    have L3 := Lib.hid (LwIn.anew HL3.out)
    have B3 := Lib.hid HL3.out.bel
    obtain ⟨u0, u1, u2, v0, v1, v2, v3, v4⟩ := L3.out.cells
    go_upto_region 7 with (first
      | (go_at_call 34; refine (HTF.out _ _ L3.out).mono ?_; rintro e wf ⟨vg, vm, rfl, hO1, hO2, hbf⟩; obtain ⟨P1, p1, rfl, hp1, -⟩ := hO1.tab; obtain ⟨P2, p2, rfl, hp2, -⟩ := hO2.tab; have O1 := Lib.hid hO1; have O2 := Lib.hid hO2; have HBF := Lib.hid hbf; clear hO1 hO2 hbf)
      | fail)
    have al := (Below.refl wf.heap.size wf).alloc (Nat.le_refl _) (.cells #[.int .i64 F.cap, .slice P1 F.n1 p1, .slice P2 F.n2 p2] 34)
    have K7 := Lib.hid (Blk.new (w := wf) (B := 0) (Nat.zero_le _) #[.int .i64 F.cap, .slice P1 F.n1 p1, .slice P2 F.n2 p2] 34)
    have Q1 := Lib.hid (O1.out.keep al)
    have Q2 := Lib.hid (O2.out.keep al)
    have B4 := Lib.hid (btrans HBF.out al)
    have l7 : wf.heap.size < (wf.alloc (.cells #[.int .i64 F.cap, .slice P1 F.n1 p1, .slice P2 F.n2 p2] 34)).heap.size := K7.out.lt
    have L7 := Lib.hid l7
    clear l7 al O1 O2 HBF u0 u1 u2 v0 v1 v2 v3 v4
    generalize (wf.alloc (.cells #[.int .i64 F.cap, .slice P1 F.n1 p1, .slice P2 F.n2 p2] 34)) = w4 at *
    generalize wf.heap.size = b7 at *
    have LX4 := Lib.hid (show LwX b7 P1 P2 p1 p2 b w4 F A1 A2 c1 c2 k id g a c w4 from ⟨(L3.out.keep B4.out).anew, K7.out, L7.out⟩)
    have HFA := Lib.hid (show FarmAt w4 P1 F.n1 F.f1 P2 F.n2 F.f2 from FarmV.at (G := F) ⟨Q1.out, Q2.out⟩)
    have hz := Nat.le_refl w4.heap.size
    go_cut [8] (fun v8 wc => ∃ (wx : World) (b6 : Nat) (X1 X2 : Option Addr) (d1 d2 : Nat), wx = wc ∧ v8 = .pointer (some ⟨b6, 0, none⟩) ∧ Hid (AnsIn wx w4.heap.size b6 C G (.slice X1 G.n1 d1) (.slice X2 G.n2 d2)) ∧ Hid (LwX b7 P1 P2 p1 p2 b w4 F A1 A2 c1 c2 k id g a c wx))
    case first =>
      go_region_held3 (fun w' => w'.cell? ⟨b, 0, none⟩ = some (.int .i64 F.cap) ∧ w'.cell? ⟨b, 1, none⟩ = some (.slice A1 F.n1 c1) ∧ w'.cell? ⟨b, 2, none⟩ = some (.slice A2 F.n2 c2) ∧ w'.cell? ⟨b + 1, 0, none⟩ = some (.int .i64 k) ∧ w'.cell? ⟨b + 1, 1, none⟩ = some (.int .i64 id) ∧ w'.cell? ⟨b + 1, 2, none⟩ = some (.int .i64 g) ∧ w'.cell? ⟨b + 1, 3, none⟩ = some (.int .i64 a) ∧ w'.cell? ⟨b + 1, 4, none⟩ = some (.int .i64 c) ∧ w'.cell? ⟨b7, 0, none⟩ = some (.int .i64 F.cap) ∧ w'.cell? ⟨b7, 1, none⟩ = some (.slice P1 F.n1 p1) ∧ w'.cell? ⟨b7, 2, none⟩ = some (.slice P2 F.n2 p2) ∧ LwX b7 P1 P2 p1 p2 b w4 F A1 A2 c1 c2 k id g a c w') (first | exact LX4.out.drew.all | exact hB.all | exact (LwX.setRow (LwX.pick (by assumption)) LX4.out hge _).all | exact (LwX.alloc (LwX.pick (by assumption)) _).all) (first
        | (go_at_call 35; refine (c_toEdit _ _ _ _ _ _).mono ?_; rintro e we ⟨rfl, hbe⟩; have hB := (LwX.pick (by assumption)).keep hbe; have hz := hB.l.bel.size)
        | (go_at_call 28; refine (HIF.out _ _ _ _ _ (by (repeat (first | exact HFA.out | (with_reducible refine FarmAt.alloc ?_ _) | (with_reducible refine FarmAt.drew ?_) | refine FarmAt.keep ?_ (by assumption)))) hp1).mono ?_; rintro e w5 ⟨vg, vm, rfl, hV, hb5⟩; have HFV := Lib.hid (hV.mono (B' := w4.heap.size) (by first | exact hz | (simp; omega))); have hB := (LwX.pick (by assumption)).keep hb5; have hz := hB.l.bel.size; obtain ⟨X3, d3, X4, d4, rfl, rfl, -, -⟩ := hV.caps; obtain ⟨r, hr⟩ : ∃ r, #[Value.int .i64 G.cap, .slice X3 G.n1 d3, .slice X4 G.n2 d4, .int .i64 0, .int .i64 C] = r := ⟨_, rfl⟩; rw [hr]; have HRW := Lib.hid hr; have hsz : r.size = 5 := (by rw [← hr]; rfl); have HON := Lib.hid (show r.all (·.oneCell') = true by rw [← hr]; simp [Value.oneCell']); clear hr hV)
        | ((with_reducible refine upon_store_cells (B := w4.heap.size) (n := 5) (t := 60) ?_ hsz HON.out (fun hblk hge => ?_)); focus ((repeat (first | exact Room.new (by first | omega | (simp; done) | (simp; omega)) rfl | (with_reducible refine Room.drew ?_) | refine Room.keep ?_ (by assumption))))))
      all_goals (go_wp2_with fail; go_meet; exact ⟨_, _, _, _, _, _, rfl, rfl, Lib.hid ⟨(hblk.base (Nat.zero_le _)).cast HRW.out.symm, by (repeat (first | exact HFV.out | (with_reducible refine FarmV.alloc ?_ _) | refine FarmV.room (C := 0) (n := 5) ?_ (by (repeat (first | exact Room.new (by first | omega | (simp; done) | (simp; omega)) rfl | (with_reducible refine Room.drew ?_) | refine Room.keep ?_ (by assumption)))) _))⟩, Lib.hid (LwX.pick (by assumption))⟩)
    case rest =>
      obtain ⟨w5, b8, X3, X4, d3, d4, rfl, rfl, HA5, HX5⟩ := hcut
      clear hz HFA
      have B5 := Lib.hid HX5.out.l.bel
      have B35 := Lib.hid (btrans B4.out B5.out)
      have A35 := Lib.hid (HA3.out.keep B35.out)
      have LP1 := Lib.hid (show ∀ k, (.slice P1 F.n1 p1 : Value).ownBlock = some k → w3.heap.size ≤ k ∧ k < w4.heap.size from fun k e => World.ownsRow.lt Q1.out k e)
      have LP2 := Lib.hid (show ∀ k, (.slice P2 F.n2 p2 : Value).ownBlock = some k → w3.heap.size ≤ k ∧ k < w4.heap.size from fun k e => World.ownsRow.lt Q2.out k e)
      have H34 := Lib.hid B4.out.size
      have z0 := (HA5.out.1.cell 0).trans rfl
      have z1 := (HA5.out.1.cell 1).trans rfl
      have z2 := (HA5.out.1.cell 2).trans rfl
      have z3 := (HA5.out.1.cell 3).trans rfl
      have z4 := (HA5.out.1.cell 4).trans rfl
      have y0 := (A35.out.1.cell 0).trans rfl
      have y1 := (A35.out.1.cell 1).trans rfl
      have y2 := (A35.out.1.cell 2).trans rfl
      have y3 := (A35.out.1.cell 3).trans rfl
      have y4 := (A35.out.1.cell 4).trans rfl
      go_upto_region 10 with (first
        | (go_at_call 42; refine (c_eqFarmOut G.cap 0 C X3 X4 X1 X2 G.n1 d3 G.n2 d4 d1 d2 G.f1 G.f2 _ HA5.out.2.at A35.out.2.at (by omega) (by omega)).mono ?_; rintro e w6 ⟨rfl, hb6⟩; have HB6 := Lib.hid hb6; clear hb6)
        | fail)
      clear z0 z1 z2 z3 z4 y0 y1 y2 y3 y4
      have B46 := Lib.hid (btrans B5.out HB6.out)
      have LX6 := Lib.hid (show LwX b7 P1 P2 p1 p2 b w6 F A1 A2 c1 c2 k id g a c w6 from ⟨(HX5.out.keep HB6.out).l.anew, (HX5.out.keep HB6.out).x, (HX5.out.keep HB6.out).x.lt⟩)
      have FX6 := Lib.hid (show FarmAt w6 P1 F.n1 F.f1 P2 F.n2 F.f2 from FarmAt.keep (FarmV.at (G := F) ⟨Q1.out, Q2.out⟩) B46.out)
      go_cut [37] (fun v37 wc => ∃ wx : World, wx = wc ∧ v37 = .bool false ∧ Hid (LwX b7 P1 P2 p1 p2 b w6 F A1 A2 c1 c2 k id g a c wx))
      case first =>
        go_region_held3 (fun w' => w'.cell? ⟨b, 0, none⟩ = some (.int .i64 F.cap) ∧ w'.cell? ⟨b, 1, none⟩ = some (.slice A1 F.n1 c1) ∧ w'.cell? ⟨b, 2, none⟩ = some (.slice A2 F.n2 c2) ∧ w'.cell? ⟨b + 1, 0, none⟩ = some (.int .i64 k) ∧ w'.cell? ⟨b + 1, 1, none⟩ = some (.int .i64 id) ∧ w'.cell? ⟨b + 1, 2, none⟩ = some (.int .i64 g) ∧ w'.cell? ⟨b + 1, 3, none⟩ = some (.int .i64 a) ∧ w'.cell? ⟨b + 1, 4, none⟩ = some (.int .i64 c) ∧ w'.cell? ⟨b7, 0, none⟩ = some (.int .i64 F.cap) ∧ w'.cell? ⟨b7, 1, none⟩ = some (.slice P1 F.n1 p1) ∧ w'.cell? ⟨b7, 2, none⟩ = some (.slice P2 F.n2 p2) ∧ LwX b7 P1 P2 p1 p2 b w6 F A1 A2 c1 c2 k id g a c w') (first | exact LX6.out.drew.all | exact hB.all) (first
          | (go_at_call 34; refine (HTF.out _ _ (LwX.pick (by assumption)).l).mono ?_; rintro e wf ⟨vg, vm, rfl, hO1, hO2, hbf⟩; have hB := (LwX.pick (by assumption)).keep hbf; obtain ⟨Y1, e1, rfl, hd1, hT1⟩ := hO1.tab; obtain ⟨Y2, e2, rfl, hd2, hT2⟩ := hO2.tab; have HFA := Lib.hid (show FarmAt wf Y1 F.n1 F.f1 Y2 F.n2 F.f2 from ⟨hT1, hT2⟩); clear hO1 hO2 hT1 hT2)
          | (go_at_call 37; refine (c_eqFarm F.cap P1 P2 Y1 Y2 F.n1 p1 F.n2 p2 e1 e2 F.f1 F.f2 _ (FX6.out.keep hB.l.bel) HFA.out (by omega) (by omega)).mono ?_; rintro e w7 ⟨rfl, hb7⟩; have hB := (LwX.pick (by assumption)).keep hb7)
          | fail)
        all_goals (go_wp2_with fail; go_meet; exact ⟨_, rfl, rfl, Lib.hid (LwX.pick (by assumption))⟩)
      case rest =>
        obtain ⟨w7, rfl, rfl, HX7⟩ := hcut
        have B47 := Lib.hid (btrans B46.out HX7.out.l.bel)
        have B37 := Lib.hid (btrans B4.out B47.out)
        have B57 := Lib.hid (btrans HB6.out HX7.out.l.bel)
        have P17 := Lib.hid (Q1.out.keep B47.out)
        have P27 := Lib.hid (Q2.out.keep B47.out)
        have A57 := Lib.hid (HA5.out.keep B57.out)
        have x0 := (HX7.out.x.cell 0).trans rfl
        have x1 := (HX7.out.x.cell 1).trans rfl
        have x2 := (HX7.out.x.cell 2).trans rfl
        have bk : decide (1 + (F.n1 : Int) * 4 + (F.n2 : Int) * 4 < 0) = false := decide_eq_false (by omega)
        go_upto_region 14 with (first
          | (go_at_call 43; refine (c_markFarm P17.out P27.out (by omega) (by omega) (by omega) (by omega)).mono ?_; rintro e w8 ⟨rfl, -, wm, hg1, hg2⟩; have G1 := Lib.hid hg1; have G2 := Lib.hid hg2; clear hg1 hg2)
          | fail)
        clear x0 x1 x2
        have H37 := Lib.hid B37.out.size
        have H47 := Lib.hid B47.out.size
        have BM := Lib.hid (show Below w3.heap.size w7 w8 from ((Below.refl w3.heap.size w7).grown G1.out H37.out (fun k e => (LP1.out k e).1)).grown G2.out (Nat.le_trans H37.out G1.out.size) (fun k e => (LP2.out k e).1))
        have B38 := Lib.hid (B37.out.trans BM.out)
        have A38 := Lib.hid (HA3.out.keep B38.out)
        have K8m := Lib.hid (A57.out.1.grownO G1.out (P17.out.neBlk A57.out.1 (by decide)))
        have P2m := Lib.hid (P27.out.grown G1.out (fun k e h => P27.out.ne P17.out (by decide) e h))
        have A58 := Lib.hid (show AnsIn w8 w4.heap.size b8 C G (.slice X3 G.n1 d3) (.slice X4 G.n2 d4) from ⟨K8m.out.grownO G2.out (P2m.out.neBlk K8m.out (by decide)), (A57.out.2.grownH G1.out (fun k e => (LP1.out k e).2)).grownH G2.out (fun k e => (LP2.out k e).2)⟩)
        clear K8m P2m
        have z0 := (A58.out.1.cell 0).trans rfl
        have z1 := (A58.out.1.cell 1).trans rfl
        have z2 := (A58.out.1.cell 2).trans rfl
        have z3 := (A58.out.1.cell 3).trans rfl
        have z4 := (A58.out.1.cell 4).trans rfl
        have y0 := (A38.out.1.cell 0).trans rfl
        have y1 := (A38.out.1.cell 1).trans rfl
        have y2 := (A38.out.1.cell 2).trans rfl
        have y3 := (A38.out.1.cell 3).trans rfl
        have y4 := (A38.out.1.cell 4).trans rfl
        go_upto_region 17 with (first
          | (go_at_call 42; refine (c_eqFarmOut G.cap 0 C X3 X4 X1 X2 G.n1 d3 G.n2 d4 d1 d2 G.f1 G.f2 _ A58.out.2.at A38.out.2.at (by omega) (by omega)).mono ?_; rintro e w9 ⟨rfl, hb9⟩; have HB9 := Lib.hid hb9; clear hb9)
          | fail)
        clear z0 z1 z2 z3 z4 y0 y1 y2 y3 y4 bk
        have A59 := Lib.hid (A58.out.keep HB9.out)
        have B39 := Lib.hid (btrans B38.out HB9.out)
        have z0 := (A59.out.1.cell 0).trans rfl
        have z1 := (A59.out.1.cell 1).trans rfl
        have z2 := (A59.out.1.cell 2).trans rfl
        have z3 := (A59.out.1.cell 3).trans rfl
        have z4 := (A59.out.1.cell 4).trans rfl
        go_upto_region 18 with (first
          | (go_at_call 44; refine (c_markFarmOut A59.out.2.1 A59.out.2.2 (by omega) (by omega) (by omega) (by omega)).mono ?_; rintro e w10 ⟨rfl, hT, wn, hg3, hg4⟩; have T10 := Lib.hid hT; have G3 := Lib.hid hg3; have G4 := Lib.hid hg4; clear hT hg3 hg4)
          | fail)
        clear z0 z1 z2 z3 z4
        have BN := Lib.hid (show Below w3.heap.size w9 w10 from ((Below.refl w3.heap.size w9).grown G3.out B39.out.size (fun k e => Nat.le_trans H34.out (A59.out.2.lt.1 k e).1)).grown G4.out (Nat.le_trans B39.out.size G3.out.size) (fun k e => Nat.le_trans H34.out (A59.out.2.lt.2 k e).1))
        have B310 := Lib.hid (B39.out.trans BN.out)
        have K8n := Lib.hid (A59.out.1.grownO G3.out (A59.out.2.1.neBlk A59.out.1 (by decide)))
        have P4n := Lib.hid (A59.out.2.2.grown G3.out (fun k e h => A59.out.2.2.ne A59.out.2.1 (by decide) e h))
        have K8 := Lib.hid (K8n.out.grownO G4.out (P4n.out.neBlk K8n.out (by decide)))
        clear K8n P4n
        have z0 := (K8.out.cell 0).trans rfl
        have z1 := (K8.out.cell 1).trans rfl
        have z2 := (K8.out.cell 2).trans rfl
        have z3 := (K8.out.cell 3).trans rfl
        have z4 := (K8.out.cell 4).trans rfl
        have bq : decide (1 + (G.n1 : Int) * 4 + (G.n2 : Int) * 4 < 0) = false := decide_eq_false (by omega)
        have bm : ((1 + (G.n1 : Int) * 4 + (G.n2 : Int) * 4) != (1 + (G.n1 : Int) * 4 + (G.n2 : Int) * 4)) = false := by simp
        have HHF := Lib.hid fun (w' : World) (h : FarmAt w' X3 G.n1 (mkf 1) X4 G.n2 (mkf (1 + G.n1 * 4))) => c_heldFarmOut (cap := G.cap) (at_ := 0) (code := C) (c1 := d3) (c2 := d4) h (by omega) (by omega) (by omega) (by omega)
        generalize hmm : 1 + (G.n1 : Int) * 4 + (G.n2 : Int) * 4 = mm at *
        clear hmm
        go_upto_region 24 with (first
          | (go_at_call 45; refine (HHF.out _ T10.out).mono ?_; rintro e w11 ⟨rfl, hb11⟩; have HB11 := Lib.hid hb11; clear hb11)
          | fail)
        clear z0 z1 z2 z3 z4
        have B311 := Lib.hid (btrans B310.out HB11.out)
        have N11 := Lib.hid (show LwIn b w11 F A1 A2 c1 c2 k id g a c w11 from (L3.out.keep B311.out).anew)
        have hz := Nat.le_refl w11.heap.size
        go_cut [12] (fun v12 wc => ∃ (wx : World) (b6 : Nat) (X1 X2 : Option Addr) (d1 d2 : Nat), wx = wc ∧ v12 = .pointer (some ⟨b6, 0, none⟩) ∧ Hid (AnsIn wx w11.heap.size b6 C G (.slice X1 G.n1 d1) (.slice X2 G.n2 d2)) ∧ Hid (LwIn b w11 F A1 A2 c1 c2 k id g a c wx))
        case first =>
          go_region_held3 (fun w' => w'.cell? ⟨b, 0, none⟩ = some (.int .i64 F.cap) ∧ w'.cell? ⟨b, 1, none⟩ = some (.slice A1 F.n1 c1) ∧ w'.cell? ⟨b, 2, none⟩ = some (.slice A2 F.n2 c2) ∧ w'.cell? ⟨b + 1, 0, none⟩ = some (.int .i64 k) ∧ w'.cell? ⟨b + 1, 1, none⟩ = some (.int .i64 id) ∧ w'.cell? ⟨b + 1, 2, none⟩ = some (.int .i64 g) ∧ w'.cell? ⟨b + 1, 3, none⟩ = some (.int .i64 a) ∧ w'.cell? ⟨b + 1, 4, none⟩ = some (.int .i64 c) ∧ LwIn b w11 F A1 A2 c1 c2 k id g a c w') (first | exact N11.out.drew.all | exact hB.all | exact (LwIn.setRow (LwIn.pick (by assumption)) N11.out hge _).all | exact (LwIn.alloc (LwIn.pick (by assumption)) _).all) (first | (go_at_call 34; refine (HTF.out _ _ (LwIn.pick (by assumption))).mono ?_; rintro e wf ⟨vg, vm, rfl, hO1, hO2, hbf⟩; have hB := (LwIn.pick (by assumption)).keep hbf; have hz := hB.bel.size; obtain ⟨Y1, e1, rfl, hd1, hT1⟩ := hO1.tab; obtain ⟨Y2, e2, rfl, hd2, hT2⟩ := hO2.tab; have HFA := Lib.hid (show FarmAt wf Y1 F.n1 F.f1 Y2 F.n2 F.f2 from ⟨hT1, hT2⟩); clear hO1 hO2 hT1 hT2) | (go_at_call 35; refine (c_toEdit _ _ _ _ _ _).mono ?_; rintro e we ⟨rfl, hbe⟩; have hB := (LwIn.pick (by assumption)).keep hbe; have hz := hB.bel.size) | (go_at_call 28; refine (HIF.out _ _ _ _ _ (by (repeat (first | exact HFA.out | (with_reducible refine FarmAt.alloc ?_ _) | (with_reducible refine FarmAt.drew ?_) | refine FarmAt.keep ?_ (by assumption)))) hd1).mono ?_; rintro e w5 ⟨vg, vm, rfl, hV, hb5⟩; have HFV := Lib.hid (hV.mono (B' := w11.heap.size) (by first | exact hz | (simp; omega))); have hB := (LwIn.pick (by assumption)).keep hb5; have hz := hB.bel.size; obtain ⟨X1, d1, X2, d2, rfl, rfl, -, -⟩ := hV.caps; obtain ⟨r, hr⟩ : ∃ r, #[Value.int .i64 G.cap, .slice X1 G.n1 d1, .slice X2 G.n2 d2, .int .i64 0, .int .i64 C] = r := ⟨_, rfl⟩; rw [hr]; have HRW := Lib.hid hr; have hsz : r.size = 5 := (by rw [← hr]; rfl); have HON := Lib.hid (show r.all (·.oneCell') = true by rw [← hr]; simp [Value.oneCell']); clear hr hV) | ((with_reducible refine upon_store_cells (B := w11.heap.size) (n := 5) (t := 60) ?_ hsz HON.out (fun hblk hge => ?_)); focus ((repeat (first | exact Room.new (by first | omega | (simp; done) | (simp; omega)) rfl | (with_reducible refine Room.drew ?_) | refine Room.keep ?_ (by assumption))))))
          all_goals (go_wp2_with fail; go_meet; exact ⟨_, _, _, _, _, _, rfl, rfl, Lib.hid ⟨(hblk.base (Nat.zero_le _)).cast HRW.out.symm, by (repeat (first | exact HFV.out | (with_reducible refine FarmV.alloc ?_ _) | refine FarmV.room (C := 0) (n := 5) ?_ (by (repeat (first | exact Room.new (by first | omega | (simp; done) | (simp; omega)) rfl | (with_reducible refine Room.drew ?_) | refine Room.keep ?_ (by assumption)))) _))⟩, Lib.hid (LwIn.pick (by assumption))⟩)
        case rest =>
          obtain ⟨w12, b12, X5, X6, d5, d6, rfl, rfl, HA12, HL12⟩ := hcut
          clear hz
          have B1112 := Lib.hid HL12.out.bel
          have B312 := Lib.hid (btrans B311.out B1112.out)
          have A312 := Lib.hid (HA3.out.keep B312.out)
          have K812 := Lib.hid ((K8.out.keep HB11.out).keep B1112.out)
          have T12 := Lib.hid ((T10.out.keep HB11.out).keep B1112.out)
          have y0 := (A312.out.1.cell 0).trans rfl
          have y1 := (A312.out.1.cell 1).trans rfl
          have y2 := (A312.out.1.cell 2).trans rfl
          have y3 := (A312.out.1.cell 3).trans rfl
          have y4 := (A312.out.1.cell 4).trans rfl
          have z0 := (HA12.out.1.cell 0).trans rfl
          have z1 := (HA12.out.1.cell 1).trans rfl
          have z2 := (HA12.out.1.cell 2).trans rfl
          have z3 := (HA12.out.1.cell 3).trans rfl
          have z4 := (HA12.out.1.cell 4).trans rfl
          go_upto_region 28 with (first
            | (go_at_call 42; refine (c_eqFarmOut G.cap 0 C X5 X6 X1 X2 G.n1 d5 G.n2 d6 d1 d2 G.f1 G.f2 _ HA12.out.2.at A312.out.2.at (by omega) (by omega)).mono ?_; rintro e w13 ⟨rfl, hb13⟩; have HB13 := Lib.hid hb13; clear hb13)
            | fail)
          clear y0 y1 y2 y3 y4 z0 z1 z2 z3 z4
          have K813 := Lib.hid (K812.out.keep HB13.out)
          have z0 := (K813.out.cell 0).trans rfl
          have z1 := (K813.out.cell 1).trans rfl
          have z2 := (K813.out.cell 2).trans rfl
          have z3 := (K813.out.cell 3).trans rfl
          have z4 := (K813.out.cell 4).trans rfl
          go_wp2_with (first
            | (go_at_call 45; refine (HHF.out _ (T12.out.keep HB13.out)).mono ?_; rintro e w14 ⟨rfl, hb14⟩; have HB14 := Lib.hid hb14; clear hb14)
            | fail)
          go_ret
          have e3 : w.heap.size ≤ w3.heap.size := by
            have h1 := L3.out.f.lt
            have h2 := HBB.out
            omega
          have bw3 : Below w.heap.size w w3 := HB.out.trans ((L1B.out.trans (B3.out.mono hz12.out)).mono (by have := HZ.out; have := HBB.out; omega))
          exact ⟨rfl, bw3.trans ((btrans (btrans B312.out HB13.out) HB14.out).mono e3)⟩
theorem l_FnExactFarmEdit : OFnExactFarmEdit.Walks := by
  rintro y0 y1 A4 c4 A5 c5 w - - - h1 - h2
  exact farmEdit_law ⟨y0.1, y0.2.1.length, col4 y0.2.1, y0.2.2.length, col4 y0.2.2⟩ _ _ _ _ _ _ _ _ _ w (tabA4 h1) (tabA4 h2) h1.2.1 h2.2.1
end Go.Proofs.Ytipkbapnhgdpeaa.C
