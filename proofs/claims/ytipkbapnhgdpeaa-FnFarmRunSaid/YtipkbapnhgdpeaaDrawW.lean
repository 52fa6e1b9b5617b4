/- Drawn wants and weights. No condition. -/
import Derived.Test.YtipkbapnhgdpeaaDraw
import Derived.Laws.AppendOwn
namespace Go.Proofs.Ytipkbapnhgdpeaa.C
open Go.RowKit
set_option maxRecDepth 100000
set_option linter.unusedVariables false
set_option linter.unusedSimpArgs false
attribute [local go_sem ↓] Go.wp_at_zero Go.wp_at_succ
/-- Behind an append to a row of the call's own: what lay before the call lies as it lay, but block g. -/
theorem only_own {w a b : World} {g : Nat} {row : Option Nat} (h : w.grownBy a (some g)) (k : a.grownBy b row) (hr : ∀ i, row = some i → w.heap.size ≤ i) : w.grownBy b (some g) :=
  ⟨k.os.trans h.os, k.tape.trans h.tape, k.output.trans h.output, Nat.le_trans h.size k.size, fun i hi hne => (k.block i (Nat.lt_of_lt_of_le hi h.size) (fun e => by have := hr i e.symm; omega)).trans (h.block i hi hne)⟩
theorem below_own {B : Nat} {w a b : World} {row : Option Nat} (h : Below B w a) (k : a.grownBy b row) (hw : B ≤ w.heap.size) (hr : ∀ i, row = some i → B ≤ i) : Below B w b :=
  ⟨k.os.trans h.os, k.tape.trans h.tape, k.output.trans h.output, Nat.le_trans h.size k.size, fun i hi => (k.block i (Nat.lt_of_lt_of_le hi (Nat.le_trans hw h.size)) (fun e => by have := hr i e.symm; omega)).trans (h.block i hi)⟩
/-- A source stays where a row of the call's own grows. -/
theorem Src.own {w w' : World} {g n B : Nat} {A : Option Addr} {row : Option Nat} (h : Src w g A n) (hg : w.grownBy w' row) (hr : ∀ i, row = some i → B ≤ i) (hgB : g < B) (hA : ∀ j, j < n → ∀ ad, A = some ad → ad.block < B) : Src w' g A n := by
  obtain ⟨c, a, m, s, hB, a0, a1, m0, m1, s0, s1⟩ := h.ex
  have hne : ∀ b, b < B → some b ≠ row := fun b hb e => by have := hr b e.symm; omega
  refine ⟨h.len, fun j hj => ?_, ⟨c, a, m, s, ⟨hB.1, (hg.block g hB.lt (hne g hgB)).trans hB.2⟩, a0, a1, m0, m1, s0, s1⟩⟩
  obtain ⟨ad, x, e, hne', hlt, x0, x1, hx⟩ := h.bytes j hj
  refine ⟨ad, x, e, hne', Nat.lt_of_lt_of_le hlt hg.size, x0, x1, ?_⟩
  exact hg.cell hx (by rw [show (ad.add j).block = ad.block from by rw [Addr.add]; split <;> rfl]; exact hne _ (hA j hj ad e))
theorem Src.lt' {w : World} {g : Nat} {A : Option Addr} {n : Nat} (h : Src w g A n) : g < w.heap.size := let ⟨_, _, _, _, hB, _⟩ := h.ex; hB.lt
theorem Src.blocks {w : World} {g : Nat} {A : Option Addr} {n : Nat} (h : Src w g A n) : ∀ j, j < n → ∀ ad, A = some ad → ad.block < w.heap.size := fun j hj ad e => by
  obtain ⟨ad', x, e', _, hlt, _⟩ := h.bytes j hj
  rw [e] at e'
  cases e'
  exact hlt
theorem Src.setf {w : World} {g : Nat} {A : Option Addr} {n B : Nat} (h : Src w g A n) {p : Addr} (hp : B ≤ p.block) (hgB : g < B) (hA : ∀ j, j < n → ∀ ad, A = some ad → ad.block < B) (u : Value) : Src (w.setCell p u) g A n :=
  h.own (row := some p.block) ⟨rfl, rfl, rfl, by simp, fun k _ hne => Below.heap_setCell w p u k (fun e => hne (by rw [e]))⟩ (B := B) (fun i e => by cases e; exact hp) hgB hA
theorem Room.grownD {w w1 : World} {B b n g : Nat} {t : TypeId} (h : Room w B b n t) (hb : w.grownBy w1 (some g)) (hne : b ≠ g) : Room w1 B b n t := let ⟨cs, h1, h2⟩ := h; ⟨cs, h1.grown hb hne, h2⟩
def RndU (g : Nat) (A : Option Addr) (n : Nat) (w : World) (e : Ending) (w' : World) : Prop := ∃ r : Int, e = .returned (.int .i64 r) ∧ 0 ≤ r ∧ r ≤ 1125899906842625 ∧ Src w' g A n ∧ w.grownBy w' (some g)
theorem s_l02WantOf (g : Nat) (A : Option Addr) (n : Nat) (w : World) (h : Src w g A n) : Calls Try.prog 112 #[.pointer (some ⟨g, 0, none⟩)] w (RndU g A n w) := by
  have H := Lib.hid h
  clear h
  go_enter Try.func112, Try.ntmps112
  go_wp2_with fail
  refine (s_n _ _ _ _ _ H.out (by omega)).mono ?_
  rintro e w1 ⟨r, rfl, r0, r1, r2, hS, hG⟩
  have HS := Lib.hid hS
  have HG := Lib.hid hG
  clear hS hG r1 r2
  by_cases k0 : r = 0
  · subst k0
    go_wp2_with fail
    go_ret
    exact ⟨0, rfl, by omega, by omega, HS.out, HG.out⟩
  · have b0 : (r == 0) = false := beq_eq_false_iff_ne.mpr k0
    by_cases k1 : r = 1
    · subst k1
      go_wp2_with fail
      refine (s_n _ _ _ _ _ HS.out (by omega)).mono ?_
      rintro e w2 ⟨q, rfl, q0, q1, q2, hS, hG⟩
      have q3 := q1 (by omega)
      clear q1 q2
      go_wp2_with fail
      go_ret
      exact ⟨q, rfl, by omega, by omega, hS, only_trans HG.out hG⟩
    · have b1 : (r == 1) = false := beq_eq_false_iff_ne.mpr k1
      by_cases k2 : r = 2
      · subst k2
        go_wp2_with fail
        go_ret
        exact ⟨_, rfl, by omega, by omega, HS.out, HG.out⟩
      · have b2 : (r == 2) = false := beq_eq_false_iff_ne.mpr k2
        clear k0 k1 k2
        go_wp2_with fail
        refine (s_n _ _ _ _ _ HS.out (by omega)).mono ?_
        rintro e w2 ⟨q, rfl, q0, q1, q2, hS, hG⟩
        have q3 := q1 (by omega)
        clear q1 q2
        go_wp2_with fail
        go_ret
        exact ⟨q, rfl, by omega, by omega, hS, only_trans HG.out hG⟩
theorem s_l02WeightOf (g : Nat) (A : Option Addr) (n : Nat) (w : World) (h : Src w g A n) : Calls Try.prog 113 #[.pointer (some ⟨g, 0, none⟩)] w (RndU g A n w) := by
  have H := Lib.hid h
  clear h
  go_enter Try.func113, Try.ntmps113
  go_wp2_with fail
  refine (s_n _ _ _ _ _ H.out (by omega)).mono ?_
  rintro e w1 ⟨r, rfl, r0, r1, r2, hS, hG⟩
  have HS := Lib.hid hS
  have HG := Lib.hid hG
  clear hS hG r1 r2
  by_cases k0 : r = 0
  · subst k0
    go_wp2_with fail
    refine (s_n _ _ _ _ _ HS.out (by omega)).mono ?_
    rintro e w2 ⟨q, rfl, q0, q1, q2, hS, hG⟩
    have q3 := q1 (by omega)
    clear q1 q2
    go_wp2_with fail
    go_ret
    exact ⟨_, rfl, by omega, by omega, hS, only_trans HG.out hG⟩
  · have b0 : (r == 0) = false := beq_eq_false_iff_ne.mpr k0
    by_cases k1 : r = 1
    · subst k1
      go_wp2_with fail
      go_ret
      exact ⟨_, rfl, by omega, by omega, HS.out, HG.out⟩
    · have b1 : (r == 1) = false := beq_eq_false_iff_ne.mpr k1
      clear k0 k1
      go_wp2_with fail
      refine (s_n _ _ _ _ _ HS.out (by omega)).mono ?_
      rintro e w2 ⟨q, rfl, q0, q1, q2, hS, hG⟩
      have q3 := q1 (by omega)
      clear q1 q2
      go_wp2_with fail
      go_ret
      exact ⟨_, rfl, by omega, by omega, hS, only_trans HG.out hG⟩
theorem s_l01Max (a b : Int) (w : World) : Calls Try.prog 57 #[.int .i64 a, .int .i64 b] w fun e w' => e = .returned (.int .i64 (if a > b then a else b)) ∧ w' = w := by
  by_cases h : a > b
  · have b1 : decide (a > b) = true := decide_eq_true h
    go_enter Try.func57, Try.ntmps57
    go_wp2_with fail
    go_ret
    exact ⟨rfl, rfl⟩
  · have b1 : decide (a > b) = false := decide_eq_false h
    go_enter Try.func57, Try.ntmps57
    go_wp2_with fail
    go_ret
    exact ⟨rfl, rfl⟩
end Go.Proofs.Ytipkbapnhgdpeaa.C
