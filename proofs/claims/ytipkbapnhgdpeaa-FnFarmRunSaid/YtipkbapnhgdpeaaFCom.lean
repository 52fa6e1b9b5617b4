/- A member, or a group, comes into a farm of the call's own: comes. No condition. -/
import Derived.Test.YtipkbapnhgdpeaaFEmp
import Derived.Test.YtipkbapnhgdpeaaFCpyS
namespace Go.Proofs.Ytipkbapnhgdpeaa.C
open Go.RowKit
set_option maxRecDepth 100000
set_option linter.unusedVariables false
set_option linter.unusedSimpArgs false
attribute [local go_sem ↓] Go.wp_at_zero Go.wp_at_succ
/-- A farm in the block fb, whose tables are of the call's own. -/
def FarmIn (w : World) (B fb : Nat) (F : Fm) : Prop := ∃ vg vm, Blk w B fb #[.int .i64 F.cap, vg, vm] 34 ∧ OwnT 114 w B vg F.n1 F.f1 ∧ OwnT 91 w B vm F.n2 F.f2
theorem FarmIn.keep {w w' : World} {B fb : Nat} {F : Fm} (h : FarmIn w B fb F) (hb : Below w.heap.size w w') : FarmIn w' B fb F :=
  let ⟨vg, vm, h1, h2, h3⟩ := h; ⟨vg, vm, h1.keep hb, h2.keep hb, h3.keep hb⟩
theorem wp_region_behq {P : Program} {id : Nat} {Q : Exit → Act → World → Prop} {a : Act} {w0 : World} {l : List Oper} (q : BehW w0) (hm : P.follows .mixedOrders = true) (hB : Region.lexB .any l.toArray = true)
    (h : wpQuiet P l.toArray (fun w' => ∃ p : BehW w0, w' = p.w) (fun a' => ∀ w', (∃ p : BehW w0, w' = p.w) → Q .normal a' w') l a) : (Code.region id l.toArray true).wp P Q a q.w :=
  wp_region_quiet (C := fun w' => ∃ p : BehW w0, w' = p.w) hm hB ⟨⟨_, q.h.drew⟩, rfl⟩ (by simpa using h)
def cv (g i : Nat) (w : World) : Value := (w.cell? ⟨g, i, none⟩).getD undef
theorem cv_of {w : World} {g i : Nat} {v : Value} (h : w.cell? ⟨g, i, none⟩ = some v) : cv g i w = v := by unfold cv; rw [h]; rfl
/-- An edit's cells, and a farm's cell that may be written into. -/
def InS (b fb : Nat) (k id g a c : Int) (w : World) : Prop := b ≠ fb ∧ Blk w 0 b #[.int .i64 k, .int .i64 id, .int .i64 g, .int .i64 a, .int .i64 c] 56 ∧ ∃ x y z, Blk w 0 fb #[x, y, z] 34
theorem InS.keep {b fb : Nat} {k id g a c : Int} {w w' : World} (h : InS b fb k id g a c w) (hb : Below w.heap.size w w') : InS b fb k id g a c w' :=
  let ⟨hn, h1, x, y, z, h2⟩ := h; ⟨hn, h1.keep hb, x, y, z, h2.keep hb⟩
theorem Blk.grownO {w w' : World} {B b : Nat} {cs : Array Value} {t : TypeId} {row : Option Nat} (h : Blk w B b cs t) (hg : w.grownBy w' row) (hne : row ≠ some b) : Blk w' B b cs t := ⟨h.1, (hg.block b h.lt (by intro e; exact hne e.symm)).trans h.2⟩
theorem InS.grown {b fb : Nat} {k id g a c : Int} {w w' : World} {row : Option Nat} (h : InS b fb k id g a c w) (hg : w.grownBy w' row) (h1 : row ≠ some b) (h2 : row ≠ some fb) : InS b fb k id g a c w' :=
  let ⟨hn, k1, x, y, z, k2⟩ := h; ⟨hn, k1.grownO hg h1, x, y, z, k2.grownO hg h2⟩
theorem InS.set {b fb : Nat} {k id g a c : Int} {w : World} (h : InS b fb k id g a c w) (i : Nat) (v : Value) : InS b fb k id g a c (w.setCell ⟨fb, i, none⟩ v) := by
  obtain ⟨hn, k1, x, y, z, k2⟩ := h
  refine ⟨hn, k1.setf (p := ⟨fb, i, none⟩) hn v, ?_⟩
  have k3 := k2.setc i v
  rcases i with _ | _ | _ | i
  · exact ⟨v, y, z, k3.cast (by simp only [List.setIfInBounds_toArray, List.set_cons_zero, List.set_cons_succ])⟩
  · exact ⟨x, v, z, k3.cast (by simp only [List.setIfInBounds_toArray, List.set_cons_zero, List.set_cons_succ])⟩
  · exact ⟨x, y, v, k3.cast (by simp only [List.setIfInBounds_toArray, List.set_cons_zero, List.set_cons_succ])⟩
  · exact ⟨x, y, z, k3.cast (by simp [Array.setIfInBounds])⟩
theorem InS.all {b fb : Nat} {k id g a c : Int} {w' : World} (h : InS b fb k id g a c w') : (w'.cell? ⟨b, 1, none⟩ = some (.int .i64 id) ∧ w'.cell? ⟨b, 2, none⟩ = some (.int .i64 g) ∧ w'.cell? ⟨b, 3, none⟩ = some (.int .i64 a) ∧ w'.cell? ⟨b, 4, none⟩ = some (.int .i64 c) ∧ w'.cell? ⟨fb, 1, none⟩ = some (cv fb 1 w') ∧ w'.frozen? ⟨fb, 1, none⟩ = false) ∧ (w'.cell? ⟨b, 1, none⟩ = some (.int .i64 id) ∧ w'.cell? ⟨b, 2, none⟩ = some (.int .i64 g) ∧ w'.cell? ⟨b, 3, none⟩ = some (.int .i64 a) ∧ w'.cell? ⟨b, 4, none⟩ = some (.int .i64 c) ∧ w'.cell? ⟨fb, 2, none⟩ = some (cv fb 2 w') ∧ w'.frozen? ⟨fb, 2, none⟩ = false) := by
  obtain ⟨hn, k1, x, y, z, k2⟩ := h
  have e1 := (k2.cell 1).trans rfl
  have e2 := (k2.cell 2).trans rfl
  refine ⟨⟨(k1.cell 1).trans rfl, (k1.cell 2).trans rfl, (k1.cell 3).trans rfl, (k1.cell 4).trans rfl, ?_, k2.frozen 1⟩, (k1.cell 1).trans rfl, (k1.cell 2).trans rfl, (k1.cell 3).trans rfl, (k1.cell 4).trans rfl, ?_, k2.frozen 2⟩
  · rw [cv_of e1]; exact e1
  · rw [cv_of e2]; exact e2
/-- What an edit in place leaves. -/
def EdOut (F : Fm) (k id g a c : Int) (B fb : Nat) (w : World) (e : Ending) (w' : World) : Prop :=
  e = .returned (.int .i64 (edC F k id g a c)) ∧ Below B w w' ∧ (edC F k id g a c = 0 → FarmIn w' B fb (edF F k id g a c))
theorem EdOut.no {F : Fm} {k id g a c x : Int} {B fb : Nat} {w w' : World} (hB : B ≤ w.heap.size) (hx : edC F k id g a c = x) (h0 : x ≠ 0) (hb : Below w.heap.size w w') : EdOut F k id g a c B fb w (.returned (.int .i64 x)) w' :=
  ⟨by rw [hx], hb.mono hB, fun e => absurd (hx.symm.trans e) h0⟩
end Go.Proofs.Ytipkbapnhgdpeaa.C
