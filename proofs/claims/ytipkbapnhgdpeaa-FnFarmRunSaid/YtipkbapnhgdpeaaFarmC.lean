/- Copies and comparisons of farms and servers in the laws. No condition. -/
import Derived.Test.YtipkbapnhgdpeaaTabG
import Derived.Test.YtipkbapnhgdpeaaTabM
import Derived.Test.YtipkbapnhgdpeaaTabL
namespace Go.Proofs.Ytipkbapnhgdpeaa.C
open Go.RowKit
set_option maxRecDepth 100000
set_option linter.unusedVariables false
set_option linter.unusedSimpArgs false
attribute [local go_sem ↓] Go.wp_at_zero Go.wp_at_succ
/-- A farm's cells. -/
structure FarmAt (w : World) (A1 : Option Addr) (n1 : Nat) (f1 : Nat → Nat → Int) (A2 : Option Addr) (n2 : Nat) (f2 : Nat → Nat → Int) : Prop where
  g : Tab 4 w A1 n1 f1
  m : Tab 4 w A2 n2 f2
theorem FarmAt.keep {w w' : World} {A1 A2 : Option Addr} {n1 n2 : Nat} {f1 f2 : Nat → Nat → Int} (h : FarmAt w A1 n1 f1 A2 n2 f2) (hb : Below w.heap.size w w') : FarmAt w' A1 n1 f1 A2 n2 f2 := ⟨h.g.keep hb, h.m.keep hb⟩
theorem Tab.far {k n : Nat} {w w' : World} {A : Option Addr} {f : Nat → Nat → Int} {row : Option Nat} (h : Tab k w A n f) (hg : w.grownBy w' row) (hne : ∀ g off, A = some ⟨g, off, none⟩ → some g ≠ row) : Tab k w' A n f := by
  rcases h with h | ⟨g, off, e, hl, hx⟩
  · exact .inl h
  · exact .inr ⟨g, off, e, Nat.lt_of_lt_of_le hl hg.size, fun i j hi hj => hg.cell (hx i j hi hj) (hne g off e)⟩
theorem Tab.farRow {k n : Nat} {w : World} {A : Option Addr} {f : Nat → Nat → Int} (h : Tab k w A n f) (b : Nat) (r : Array Value) (hne : ∀ g off, A = some ⟨g, off, none⟩ → g ≠ b) : Tab k (w.setRow b r) A n f :=
  h.far (row := some b) ⟨rfl, rfl, rfl, by simp, fun i hi hn => setRow_other _ _ _ _ (by simpa using hn)⟩ (fun g off e e2 => hne g off e (by simpa using e2))
def FarmOut (cap : Int) (n1 : Nat) (f1 : Nat → Nat → Int) (n2 : Nat) (f2 : Nat → Nat → Int) (w : World) (e : Ending) (w' : World) : Prop :=
  ∃ B1 d1 B2 d2, e = .returned (.agg #[.int .i64 cap, .slice B1 n1 d1, .slice B2 n2 d2]) ∧ n1 ≤ d1 ∧ n2 ≤ d2 ∧ FarmAt w' B1 n1 f1 B2 n2 f2 ∧ Below w.heap.size w w' ∧ (∀ g off, B1 = some ⟨g, off, none⟩ → w.heap.size ≤ g) ∧ ∀ g off, B2 = some ⟨g, off, none⟩ → w.heap.size ≤ g
set_option maxHeartbeats 4000000 in
theorem c_toFarm (cap : Int) (A1 A2 : Option Addr) (n1 c1 n2 c2 : Nat) (f1 f2 : Nat → Nat → Int) (w : World) (h1 : TabA 4 w A1 n1 f1) (h2 : TabA 4 w A2 n2 f2) (hn1 : n1 ≤ 2000000) (hn2 : n2 ≤ 2000000) :
    Calls Try.prog 34 #[.agg #[.int .i64 cap, .slice A1 n1 c1, .slice A2 n2 c2]] w (FarmOut cap n1 f1 n2 f2 w) := by
  have hu := Try.underlying34
  have H1 := Lib.hid h1
  have H2 := Lib.hid h2
  clear h1 h2
  go_enter Try.func34, Try.ntmps34
  go_wp2_with fail
  have b1 := ((Blk.new (w := w) (B := 0) (Nat.zero_le _) #[.int .i64 cap, .slice A1 n1 c1, .slice A2 n2 c2] 25).keep ((Below.refl _ _).alloc (Nat.le_refl _) (.cells #[.int .i64 0, .slice none 0 0, .slice none 0 0] 34))).keep ((Below.refl _ _).alloc (Nat.le_refl _) (.cells #[.int .i64 cap, .slice none 0 0, .slice none 0 0] 34))
  have b2 := (Blk.new (w := w.alloc (.cells #[.int .i64 cap, .slice A1 n1 c1, .slice A2 n2 c2] 25)) (B := 0) (Nat.zero_le _) #[.int .i64 0, .slice none 0 0, .slice none 0 0] 34).keep ((Below.refl _ _).alloc (Nat.le_refl _) (.cells #[.int .i64 cap, .slice none 0 0, .slice none 0 0] 34))
  have b3 := Blk.new (w := (w.alloc (.cells #[.int .i64 cap, .slice A1 n1 c1, .slice A2 n2 c2] 25)).alloc (.cells #[.int .i64 0, .slice none 0 0, .slice none 0 0] 34)) (B := 0) (Nat.zero_le _) #[.int .i64 cap, .slice none 0 0, .slice none 0 0] 34
  have hb := (((Below.refl _ w).alloc (Nat.le_refl _) (.cells #[.int .i64 cap, .slice A1 n1 c1, .slice A2 n2 c2] 25)).alloc (by simp) (.cells #[.int .i64 0, .slice none 0 0, .slice none 0 0] 34)).alloc (by simp; omega) (.cells #[.int .i64 cap, .slice none 0 0, .slice none 0 0] 34)
  have hz : (((w.alloc (.cells #[.int .i64 cap, .slice A1 n1 c1, .slice A2 n2 c2] 25)).alloc (.cells #[.int .i64 0, .slice none 0 0, .slice none 0 0] 34)).alloc (.cells #[.int .i64 cap, .slice none 0 0, .slice none 0 0] 34)).heap.size = w.heap.size + 1 + 1 + 1 := by simp
  simp only [World.size_alloc] at b2 b3
  generalize (((w.alloc (.cells #[.int .i64 cap, .slice A1 n1 c1, .slice A2 n2 c2] 25)).alloc (.cells #[.int .i64 0, .slice none 0 0, .slice none 0 0] 34)).alloc (.cells #[.int .i64 cap, .slice none 0 0, .slice none 0 0] 34)) = w1 at *
  have K1 := Lib.hid (H1.out.keep hb)
  have HB := Lib.hid hb
  have HZ := Lib.hid hz
  have B1 := Lib.hid b1
  have B2 := Lib.hid b2
  have B3 := Lib.hid b3
  clear H1 hb hz b1 b2 b3
  refine (c_toGroupS _ _ _ _ _ K1.out hn1).mono ?_
  rintro e w2 ⟨A1', c1', rfl, hc1, hT1, hb2, hf1⟩
  have C1 := Lib.hid (B1.out.keep hb2)
  have C2 := Lib.hid (B2.out.keep hb2)
  have C3 := Lib.hid (B3.out.keep hb2)
  have HB2 := Lib.hid (HB.out.trans (hb2.mono (by rw [HZ.out]; omega)))
  have T1 := Lib.hid hT1
  have F1 := Lib.hid (show ∀ g off, A1' = some ⟨g, off, none⟩ → w.heap.size + 1 + 1 < g from fun g off e => by have := hf1 g off e; rw [HZ.out] at this; omega)
  have HZ2 := Lib.hid (show w.heap.size + 1 + 1 + 1 ≤ w2.heap.size from HZ.out ▸ hb2.size)
  clear hb2 hT1 hf1 K1 B1 B2 B3 HB
  have x1 := (C3.out.cell 1).trans rfl
  have f1' := C3.out.frozen 1
  have x2 := ((C1.out.setf (p := ⟨w.heap.size + 1 + 1, 1, none⟩) (by simp; omega) (.slice A1' n1 c1')).cell 2).trans rfl
  go_wp2_with fail
  have D1 := Lib.hid (C1.out.setf (p := ⟨w.heap.size + 1 + 1, 1, none⟩) (by simp; omega) (.slice A1' n1 c1'))
  have D2 := Lib.hid (C2.out.setf (p := ⟨w.heap.size + 1 + 1, 1, none⟩) (by simp) (.slice A1' n1 c1'))
  have D3 := Lib.hid ((C3.out.setc 1 (.slice A1' n1 c1')).cast (ds := #[.int .i64 cap, .slice A1' n1 c1', .slice none 0 0]) (by simp only [List.setIfInBounds_toArray, List.set_cons_zero, List.set_cons_succ]))
  have T2 := Lib.hid (T1.out.far (only_setCell (World.grownBy.refl w2 (some (w.heap.size + 1 + 1))) (p := ⟨w.heap.size + 1 + 1, 1, none⟩) (.inl rfl) (.slice A1' n1 c1')) (fun g off e h => by have := F1.out g off e; cases h; omega))
  have HB3 := Lib.hid (HB2.out.setCell (p := ⟨w.heap.size + 1 + 1, 1, none⟩) (by simp; omega) (.slice A1' n1 c1'))
  have HZ3 : Hid (w.heap.size + 1 + 1 + 1 ≤ (w2.setCell ⟨w.heap.size + 1 + 1, 1, none⟩ (.slice A1' n1 c1')).heap.size) := Lib.hid (by have := HZ2.out; simpa [World.setCell] using this)
  clear C1 C2 C3 T1 x1 f1' x2 HB2 HZ2
  generalize w2.setCell ⟨w.heap.size + 1 + 1, 1, none⟩ (.slice A1' n1 c1') = w3 at *
  refine (c_toMemberS _ _ _ _ _ (H2.out.keep HB3.out) hn2).mono ?_
  rintro e w4 ⟨A2', c2', rfl, hc2, hT2, hb4, hf2⟩
  have E2 := Lib.hid (D2.out.keep hb4)
  have E3 := Lib.hid (D3.out.keep hb4)
  have T3 := Lib.hid (T2.out.keep hb4)
  have hz3 := HZ3.out
  have HB4 := Lib.hid (HB3.out.trans (hb4.mono (by omega)))
  have F2 := Lib.hid (show ∀ g off, A2' = some ⟨g, off, none⟩ → w.heap.size + 1 + 1 < g from fun g off e => by have := hf2 g off e; omega)
  have T4 := Lib.hid hT2
  clear hb4 hT2 hf2 D1 D2 D3 T2 HB3 HZ3 H2 hz3
  have x2 := (E3.out.cell 2).trans rfl
  have g2 := E3.out.frozen 2
  have G2 := Lib.hid (E2.out.setf (p := ⟨w.heap.size + 1 + 1, 2, none⟩) (by simp) (.slice A2' n2 c2'))
  have G3 := Lib.hid ((E3.out.setc 2 (.slice A2' n2 c2')).cast (ds := #[.int .i64 cap, .slice A1' n1 c1', .slice A2' n2 c2']) (by simp only [List.setIfInBounds_toArray, List.set_cons_zero, List.set_cons_succ]))
  have HB5 := Lib.hid (HB4.out.setCell (p := ⟨w.heap.size + 1 + 1, 2, none⟩) (by simp; omega) (.slice A2' n2 c2'))
  have hgr := only_setCell (World.grownBy.refl w4 (some (w.heap.size + 1 + 1))) (p := ⟨w.heap.size + 1 + 1, 2, none⟩) (.inl rfl) (.slice A2' n2 c2')
  have S1 := Lib.hid (T3.out.far hgr (fun g off e h => by have := F1.out g off e; cases h; omega))
  have S2 := Lib.hid (T4.out.far hgr (fun g off e h => by have := F2.out g off e; cases h; omega))
  clear hgr T3 T4
  go_wp2_with (first
    | ((with_reducible refine at_load (ty := 34) (x := .tmp 3) ?_); refine wpl_load_row rfl 34 (.tmp 3) rfl (w.heap.size + 1 + 1) rfl G3.out rfl (by kernel_rfl) hu rfl ?_)
    | ((with_reducible refine at_store (ty := 34) (y := .tmp 15) ?_); refine wpl_store_row rfl 34 (.tmp 2) (.tmp 15) rfl (w.heap.size + 1) _ rfl rfl (G2.out.room (n := 3) rfl) rfl (by kernel_rfl) (by simp [Value.oneCell']) ?_; intro hout)
    | fail)
  exact bodyPost_ret (v := .agg #[.int .i64 cap, .slice A1' n1 c1', .slice A2' n2 c2']) (results_cell_row rfl _ _ _ _ _ _ _ rfl hout.2 hu rfl (by kernel_rfl)) rfl ⟨A1', c1', A2', c2', rfl, hc1, hc2, ⟨S1.out.farRow _ _ (fun g off e => by have := F1.out g off e; omega), S2.out.farRow _ _ (fun g off e => by have := F2.out g off e; omega)⟩, below_setRow HB5.out (by omega) _, fun g off e => by have := F1.out g off e; omega, fun g off e => by have := F2.out g off e; omega⟩
theorem c_szFarm (cap : Int) (A1 A2 : Option Addr) (n1 c1 n2 c2 : Nat) (left : Int) (w : World) (h0 : 0 ≤ left) (h1 : left ≤ 9223372036854775807) (hn1 : n1 ≤ 9223372036854775807) (hn2 : n2 ≤ 9223372036854775807) :
    Calls Try.prog 32 #[.agg #[.int .i64 cap, .slice A1 n1 c1, .slice A2 n2 c2], .int .i64 left] w fun e w' => e = .returned (.int .i64 (if left - n1 - n2 < 0 then -1 else left - n1 - n2)) ∧ Below w.heap.size w w' := by
  by_cases h : left < n1
  · have b1 : decide ((-1 : Int) < 0) = true := by decide
    go_enter Try.func32, Try.ntmps32
    go_wp2_with (first | (go_at_call 85; refine (c_szGroupS _ _ _ _ _ h0 h1 hn1).mono ?_; rintro e w1 ⟨rfl, rfl⟩; rw [if_pos (by omega)]) | fail)
    go_ret
    exact ⟨ret_int (by first | rfl | (split <;> omega)), (Below.refl _ _).alloc (Nat.le_refl _) _⟩
  · have b1 : decide (left - (n1 : Int) < 0) = false := decide_eq_false (by omega)
    by_cases h2 : left - n1 < n2
    · have h3 : left - (n1 : Int) - n2 < 0 := by omega
      have b2 : decide ((-1 : Int) < 0) = true := by decide
      go_enter Try.func32, Try.ntmps32
      go_wp2_with (first | (go_at_call 85; refine (c_szGroupS _ _ _ _ _ h0 h1 hn1).mono ?_; rintro e w1 ⟨rfl, rfl⟩; rw [if_neg (by omega)]) | (go_at_call 86; refine (c_szMemberS _ _ _ _ _ (by omega) (by omega) hn2).mono ?_; rintro e w1 ⟨rfl, rfl⟩; rw [if_pos (by omega)]) | fail)
      go_ret
      exact ⟨ret_int (by first | rfl | (split <;> omega)), (Below.refl _ _).alloc (Nat.le_refl _) _⟩
    · have b2 : decide (left - (n1 : Int) - (n2 : Int) < 0) = false := decide_eq_false (by omega)
      go_enter Try.func32, Try.ntmps32
      go_wp2_with (first | (go_at_call 85; refine (c_szGroupS _ _ _ _ _ h0 h1 hn1).mono ?_; rintro e w1 ⟨rfl, rfl⟩; rw [if_neg (by omega)]) | (go_at_call 86; refine (c_szMemberS _ _ _ _ _ (by omega) (by omega) hn2).mono ?_; rintro e w1 ⟨rfl, rfl⟩; rw [if_neg (by omega)]) | fail)
      go_ret
      exact ⟨ret_int (by first | rfl | (split <;> omega)), (Below.refl _ _).alloc (Nat.le_refl _) _⟩
theorem c_eqFarm (cap : Int) (A1 A2 B1 B2 : Option Addr) (n1 c1 n2 c2 d1 d2 : Nat) (f1 f2 : Nat → Nat → Int) (w : World) (h : FarmAt w A1 n1 f1 A2 n2 f2) (h' : FarmAt w B1 n1 f1 B2 n2 f2) (hn1 : n1 ≤ 2000000) (hn2 : n2 ≤ 2000000) :
    Calls Try.prog 37 #[.agg #[.int .i64 cap, .slice A1 n1 c1, .slice A2 n2 c2], .agg #[.int .i64 cap, .slice B1 n1 d1, .slice B2 n2 d2]] w fun e w' => e = .returned (.bool true) ∧ Below w.heap.size w w' := by
  have hb := ((Below.refl _ w).alloc (Nat.le_refl _) (.cells #[.int .i64 cap, .slice A1 n1 c1, .slice A2 n2 c2] 34)).alloc (by simp) (.cells #[.int .i64 cap, .slice B1 n1 d1, .slice B2 n2 d2] 34)
  have b1 := (Blk.new (w := w) (B := 0) (Nat.zero_le _) #[.int .i64 cap, .slice A1 n1 c1, .slice A2 n2 c2] 34).keep ((Below.refl _ _).alloc (Nat.le_refl _) (.cells #[.int .i64 cap, .slice B1 n1 d1, .slice B2 n2 d2] 34))
  have b2 := Blk.new (w := w.alloc (.cells #[.int .i64 cap, .slice A1 n1 c1, .slice A2 n2 c2] 34)) (B := 0) (Nat.zero_le _) #[.int .i64 cap, .slice B1 n1 d1, .slice B2 n2 d2] 34
  simp only [World.size_alloc] at b2
  have hz : w.heap.size ≤ ((w.alloc (.cells #[.int .i64 cap, .slice A1 n1 c1, .slice A2 n2 c2] 34)).alloc (.cells #[.int .i64 cap, .slice B1 n1 d1, .slice B2 n2 d2] 34)).heap.size := hb.size
  have G1 := Lib.hid (h.keep hb)
  have G2 := Lib.hid (h'.keep hb)
  have HB := Lib.hid hb
  have B1' := Lib.hid b1
  have B2' := Lib.hid b2
  have HZ := Lib.hid hz
  clear hb b1 b2 hz h h'
  go_enter Try.func37, Try.ntmps37
  go_wp2_with (first
    | (go_at_call 89; refine (c_eqGroupS _ _ _ _ _ _ _ G1.out.g G2.out.g hn1).mono ?_; rintro e w1 ⟨rfl, hb1⟩; have x2 := ((B1'.out.keep hb1).cell 2).trans rfl; have y2 := ((B2'.out.keep hb1).cell 2).trans rfl; have G3 := Lib.hid (G1.out.keep hb1); have G4 := Lib.hid (G2.out.keep hb1); have HB1 := Lib.hid (HB.out.trans (hb1.mono HZ.out)); have HZ1 := Lib.hid (Nat.le_trans HZ.out hb1.size); clear hb1)
    | (go_at_call 90; refine (c_eqMemberS _ _ _ _ _ _ _ G3.out.m G4.out.m hn2).mono ?_; rintro e w2 ⟨rfl, hb2⟩; have HB2 := Lib.hid (HB1.out.trans (hb2.mono HZ1.out)); clear hb2)
    | fail)
  go_ret
  exact ⟨rfl, HB2.out⟩
end Go.Proofs.Ytipkbapnhgdpeaa.C
