/- Copies and comparisons of worlds in the laws. No condition. -/
import Derived.Test.YtipkbapnhgdpeaaSrvC
import Derived.Test.YtipkbapnhgdpeaaTabC
namespace Go.Proofs.Ytipkbapnhgdpeaa.C
open Go.RowKit
set_option maxRecDepth 100000
set_option linter.unusedVariables false
set_option linter.unusedSimpArgs false
attribute [local go_sem ↓] Go.wp_at_zero Go.wp_at_succ
/-- A world's tables. -/
structure WldAt (w : World) (A1 : Option Addr) (n1 : Nat) (f1 : Nat → Nat → Int) (A2 : Option Addr) (n2 : Nat) (f2 : Nat → Nat → Int) (A3 : Option Addr) (n3 : Nat) (f3 : Nat → Nat → Int) (A4 : Option Addr) (n4 : Nat) (f4 : Nat → Nat → Int) : Prop where
  s : SrvAt w A1 n1 f1 A2 n2 f2 A3 n3 f3
  c : Tab 10 w A4 n4 f4
theorem WldAt.keep {w w' : World} {A1 A2 A3 A4 : Option Addr} {n1 n2 n3 n4 : Nat} {f1 f2 f3 f4 : Nat → Nat → Int} (h : WldAt w A1 n1 f1 A2 n2 f2 A3 n3 f3 A4 n4 f4) (hb : Below w.heap.size w w') : WldAt w' A1 n1 f1 A2 n2 f2 A3 n3 f3 A4 n4 f4 := ⟨h.s.keep hb, h.c.keep hb⟩
def WldOut (len born clock cap : Int) (n1 : Nat) (f1 : Nat → Nat → Int) (n2 : Nat) (f2 : Nat → Nat → Int) (n3 : Nat) (f3 : Nat → Nat → Int) (n4 : Nat) (f4 : Nat → Nat → Int) (w : World) (e : Ending) (w' : World) : Prop :=
  ∃ B1 d1 B2 d2 B3 d3 B4 d4, e = .returned (.agg #[.int .i64 len, .int .i64 born, .int .i64 clock, .int .i64 cap, .slice B1 n1 d1, .slice B2 n2 d2, .slice B3 n3 d3, .slice B4 n4 d4]) ∧ n1 ≤ d1 ∧ n2 ≤ d2 ∧ n3 ≤ d3 ∧ n4 ≤ d4 ∧ WldAt w' B1 n1 f1 B2 n2 f2 B3 n3 f3 B4 n4 f4 ∧ Below w.heap.size w w'
set_option maxHeartbeats 8000000 in
theorem c_toWorld (len born clock cap : Int) (A1 A2 A3 A4 : Option Addr) (n1 c1 n2 c2 n3 c3 n4 c4 : Nat) (f1 f2 f3 f4 : Nat → Nat → Int) (w : World) (h1 : TabA 4 w A1 n1 f1) (h2 : TabA 4 w A2 n2 f2) (h3 : TabA 3 w A3 n3 f3) (h4 : TabA 10 w A4 n4 f4) (hn1 : n1 ≤ 1200000) (hn2 : n2 ≤ 1200000) (hn3 : n3 ≤ 1200000) (hn4 : n4 ≤ 1200000) :
    Calls Try.prog 21 #[.agg #[.int .i64 len, .int .i64 born, .int .i64 clock, .int .i64 cap, .slice A1 n1 c1, .slice A2 n2 c2, .slice A3 n3 c3, .slice A4 n4 c4]] w (WldOut len born clock cap n1 f1 n2 f2 n3 f3 n4 f4 w) := by
  have hu := Try.underlying49
  have H1 := Lib.hid h1
  have H2 := Lib.hid h2
  have H3 := Lib.hid h3
  have H4 := Lib.hid h4
  clear h1 h2 h3 h4
  go_enter Try.func21, Try.ntmps21
  go_wp2_with fail
  have b1 := ((Blk.new (w := w) (B := 0) (Nat.zero_le _) #[.int .i64 len, .int .i64 born, .int .i64 clock, .int .i64 cap, .slice A1 n1 c1, .slice A2 n2 c2, .slice A3 n3 c3, .slice A4 n4 c4] 44).keep ((Below.refl _ _).alloc (Nat.le_refl _) (.cells #[.int .i64 0, .int .i64 0, .int .i64 0, .int .i64 0, .slice none 0 0, .slice none 0 0, .slice none 0 0, .slice none 0 0] 49))).keep ((Below.refl _ _).alloc (Nat.le_refl _) (.cells #[.int .i64 0, .int .i64 0, .int .i64 0, .int .i64 0, .slice none 0 0, .slice none 0 0, .slice none 0 0, .slice none 0 0] 49))
  have b2 := (Blk.new (w := w.alloc (.cells #[.int .i64 len, .int .i64 born, .int .i64 clock, .int .i64 cap, .slice A1 n1 c1, .slice A2 n2 c2, .slice A3 n3 c3, .slice A4 n4 c4] 44)) (B := 0) (Nat.zero_le _) #[.int .i64 0, .int .i64 0, .int .i64 0, .int .i64 0, .slice none 0 0, .slice none 0 0, .slice none 0 0, .slice none 0 0] 49).keep ((Below.refl _ _).alloc (Nat.le_refl _) (.cells #[.int .i64 0, .int .i64 0, .int .i64 0, .int .i64 0, .slice none 0 0, .slice none 0 0, .slice none 0 0, .slice none 0 0] 49))
  have b3 := Blk.new (w := (w.alloc (.cells #[.int .i64 len, .int .i64 born, .int .i64 clock, .int .i64 cap, .slice A1 n1 c1, .slice A2 n2 c2, .slice A3 n3 c3, .slice A4 n4 c4] 44)).alloc (.cells #[.int .i64 0, .int .i64 0, .int .i64 0, .int .i64 0, .slice none 0 0, .slice none 0 0, .slice none 0 0, .slice none 0 0] 49)) (B := 0) (Nat.zero_le _) #[.int .i64 0, .int .i64 0, .int .i64 0, .int .i64 0, .slice none 0 0, .slice none 0 0, .slice none 0 0, .slice none 0 0] 49
  have hb := (((Below.refl _ w).alloc (Nat.le_refl _) (.cells #[.int .i64 len, .int .i64 born, .int .i64 clock, .int .i64 cap, .slice A1 n1 c1, .slice A2 n2 c2, .slice A3 n3 c3, .slice A4 n4 c4] 44)).alloc (by simp) (.cells #[.int .i64 0, .int .i64 0, .int .i64 0, .int .i64 0, .slice none 0 0, .slice none 0 0, .slice none 0 0, .slice none 0 0] 49)).alloc (by simp; omega) (.cells #[.int .i64 0, .int .i64 0, .int .i64 0, .int .i64 0, .slice none 0 0, .slice none 0 0, .slice none 0 0, .slice none 0 0] 49)
  have hz : (((w.alloc (.cells #[.int .i64 len, .int .i64 born, .int .i64 clock, .int .i64 cap, .slice A1 n1 c1, .slice A2 n2 c2, .slice A3 n3 c3, .slice A4 n4 c4] 44)).alloc (.cells #[.int .i64 0, .int .i64 0, .int .i64 0, .int .i64 0, .slice none 0 0, .slice none 0 0, .slice none 0 0, .slice none 0 0] 49)).alloc (.cells #[.int .i64 0, .int .i64 0, .int .i64 0, .int .i64 0, .slice none 0 0, .slice none 0 0, .slice none 0 0, .slice none 0 0] 49)).heap.size = w.heap.size + 1 + 1 + 1 := by simp
  simp only [World.size_alloc] at b2 b3
  generalize (((w.alloc (.cells #[.int .i64 len, .int .i64 born, .int .i64 clock, .int .i64 cap, .slice A1 n1 c1, .slice A2 n2 c2, .slice A3 n3 c3, .slice A4 n4 c4] 44)).alloc (.cells #[.int .i64 0, .int .i64 0, .int .i64 0, .int .i64 0, .slice none 0 0, .slice none 0 0, .slice none 0 0, .slice none 0 0] 49)).alloc (.cells #[.int .i64 0, .int .i64 0, .int .i64 0, .int .i64 0, .slice none 0 0, .slice none 0 0, .slice none 0 0, .slice none 0 0] 49)) = w1 at *
  have K1 := Lib.hid (H1.out.keep hb)
  have K2 := Lib.hid (H2.out.keep hb)
  have K3 := Lib.hid (H3.out.keep hb)
  have HB := Lib.hid hb
  have HZ := Lib.hid hz
  have B1 := Lib.hid b1
  have B2 := Lib.hid b2
  have B3 := Lib.hid b3
  clear H1 H2 H3 hb hz b1 b2 b3
  refine (c_toServerF _ _ _ _ _ _ _ _ _ _ _ _ _ _ _ _ _ K1.out K2.out K3.out (by omega) (by omega) (by omega)).mono ?_
  rintro e w2 ⟨A1', c1', A2', c2', A3', c3', rfl, hc1, hc2, hc3, hF, hb2, hf1, hf2, hf3⟩
  have C1 := Lib.hid (B1.out.keep hb2)
  have C2 := Lib.hid (B2.out.keep hb2)
  have C3 := Lib.hid (B3.out.keep hb2)
  have HB2 := Lib.hid (HB.out.trans (hb2.mono (by rw [HZ.out]; omega)))
  have TF := Lib.hid hF
  have F1 := Lib.hid (show ∀ g off, A1' = some ⟨g, off, none⟩ → w.heap.size + 1 + 1 < g from fun g off e => by have := hf1 g off e; rw [HZ.out] at this; omega)
  have F2 := Lib.hid (show ∀ g off, A2' = some ⟨g, off, none⟩ → w.heap.size + 1 + 1 < g from fun g off e => by have := hf2 g off e; rw [HZ.out] at this; omega)
  have F3 := Lib.hid (show ∀ g off, A3' = some ⟨g, off, none⟩ → w.heap.size + 1 + 1 < g from fun g off e => by have := hf3 g off e; rw [HZ.out] at this; omega)
  have HZ2 := Lib.hid (show w.heap.size + 1 + 1 + 1 ≤ w2.heap.size from HZ.out ▸ hb2.size)
  clear hb2 hF hf1 hf2 hf3 K1 K2 K3 B1 B2 B3 HB
  have x0 := (C3.out.cell 0).trans rfl
  have g0 := C3.out.frozen 0
  have x1 := (C3.out.cell 1).trans rfl
  have g1 := C3.out.frozen 1
  have x2 := (C3.out.cell 2).trans rfl
  have g2 := C3.out.frozen 2
  have x3 := (C3.out.cell 3).trans rfl
  have g3 := C3.out.frozen 3
  have x4 := (C3.out.cell 4).trans rfl
  have g4 := C3.out.frozen 4
  have x5 := (C3.out.cell 5).trans rfl
  have g5 := C3.out.frozen 5
  have x6 := (C3.out.cell 6).trans rfl
  have g6 := C3.out.frozen 6
  have D1 := Lib.hid (((((((C1.out.setf (p := ⟨w.heap.size + 1 + 1, 0, none⟩) (by simp; omega) (.int .i64 len)).setf (p := ⟨w.heap.size + 1 + 1, 1, none⟩) (by simp; omega) (.int .i64 born)).setf (p := ⟨w.heap.size + 1 + 1, 2, none⟩) (by simp; omega) (.int .i64 clock)).setf (p := ⟨w.heap.size + 1 + 1, 3, none⟩) (by simp; omega) (.int .i64 cap)).setf (p := ⟨w.heap.size + 1 + 1, 4, none⟩) (by simp; omega) (.slice A1' n1 c1')).setf (p := ⟨w.heap.size + 1 + 1, 5, none⟩) (by simp; omega) (.slice A2' n2 c2')).setf (p := ⟨w.heap.size + 1 + 1, 6, none⟩) (by simp; omega) (.slice A3' n3 c3'))
  have D2 := Lib.hid (((((((C2.out.setf (p := ⟨w.heap.size + 1 + 1, 0, none⟩) (by simp) (.int .i64 len)).setf (p := ⟨w.heap.size + 1 + 1, 1, none⟩) (by simp) (.int .i64 born)).setf (p := ⟨w.heap.size + 1 + 1, 2, none⟩) (by simp) (.int .i64 clock)).setf (p := ⟨w.heap.size + 1 + 1, 3, none⟩) (by simp) (.int .i64 cap)).setf (p := ⟨w.heap.size + 1 + 1, 4, none⟩) (by simp) (.slice A1' n1 c1')).setf (p := ⟨w.heap.size + 1 + 1, 5, none⟩) (by simp) (.slice A2' n2 c2')).setf (p := ⟨w.heap.size + 1 + 1, 6, none⟩) (by simp) (.slice A3' n3 c3'))
  have D3 := Lib.hid ((((((((C3.out.setc 0 (.int .i64 len)).setc 1 (.int .i64 born)).setc 2 (.int .i64 clock)).setc 3 (.int .i64 cap)).setc 4 (.slice A1' n1 c1')).setc 5 (.slice A2' n2 c2')).setc 6 (.slice A3' n3 c3')).cast (ds := #[.int .i64 len, .int .i64 born, .int .i64 clock, .int .i64 cap, .slice A1' n1 c1', .slice A2' n2 c2', .slice A3' n3 c3', .slice none 0 0]) (by simp only [List.setIfInBounds_toArray, List.set_cons_zero, List.set_cons_succ]))
  have y7 := (D1.out.cell 7).trans rfl
  have hg := (only_setCell (only_setCell (only_setCell (only_setCell (only_setCell (only_setCell (only_setCell (World.grownBy.refl w2 (some (w.heap.size + 1 + 1))) (p := ⟨w.heap.size + 1 + 1, 0, none⟩) (.inl rfl) (.int .i64 len)) (p := ⟨w.heap.size + 1 + 1, 1, none⟩) (.inl rfl) (.int .i64 born)) (p := ⟨w.heap.size + 1 + 1, 2, none⟩) (.inl rfl) (.int .i64 clock)) (p := ⟨w.heap.size + 1 + 1, 3, none⟩) (.inl rfl) (.int .i64 cap)) (p := ⟨w.heap.size + 1 + 1, 4, none⟩) (.inl rfl) (.slice A1' n1 c1')) (p := ⟨w.heap.size + 1 + 1, 5, none⟩) (.inl rfl) (.slice A2' n2 c2')) (p := ⟨w.heap.size + 1 + 1, 6, none⟩) (.inl rfl) (.slice A3' n3 c3'))
  have T1 := Lib.hid (TF.out.f.g.far hg (fun g off e h => by have := F1.out g off e; cases h; omega))
  have T2 := Lib.hid (TF.out.f.m.far hg (fun g off e h => by have := F2.out g off e; cases h; omega))
  have T3 := Lib.hid (TF.out.l.far hg (fun g off e h => by have := F3.out g off e; cases h; omega))
  have HB3 := Lib.hid (((((((HB2.out.setCell (p := ⟨w.heap.size + 1 + 1, 0, none⟩) (by simp; omega) (.int .i64 len)).setCell (p := ⟨w.heap.size + 1 + 1, 1, none⟩) (by simp; omega) (.int .i64 born)).setCell (p := ⟨w.heap.size + 1 + 1, 2, none⟩) (by simp; omega) (.int .i64 clock)).setCell (p := ⟨w.heap.size + 1 + 1, 3, none⟩) (by simp; omega) (.int .i64 cap)).setCell (p := ⟨w.heap.size + 1 + 1, 4, none⟩) (by simp; omega) (.slice A1' n1 c1')).setCell (p := ⟨w.heap.size + 1 + 1, 5, none⟩) (by simp; omega) (.slice A2' n2 c2')).setCell (p := ⟨w.heap.size + 1 + 1, 6, none⟩) (by simp; omega) (.slice A3' n3 c3'))
  have HZ3 := Lib.hid (show w.heap.size + 1 + 1 + 1 ≤ (((((((w2.setCell ⟨w.heap.size + 1 + 1, 0, none⟩ (.int .i64 len)).setCell ⟨w.heap.size + 1 + 1, 1, none⟩ (.int .i64 born)).setCell ⟨w.heap.size + 1 + 1, 2, none⟩ (.int .i64 clock)).setCell ⟨w.heap.size + 1 + 1, 3, none⟩ (.int .i64 cap)).setCell ⟨w.heap.size + 1 + 1, 4, none⟩ (.slice A1' n1 c1')).setCell ⟨w.heap.size + 1 + 1, 5, none⟩ (.slice A2' n2 c2')).setCell ⟨w.heap.size + 1 + 1, 6, none⟩ (.slice A3' n3 c3')).heap.size by have := HZ2.out; simpa [World.setCell] using this)
  clear hg C1 C2 C3 TF HB2 HZ2
  go_wp2_with fail
  clear x0 x1 x2 x3 x4 x5 x6 g0 g1 g2 g3 g4 g5 g6 y7
  generalize (((((((w2.setCell ⟨w.heap.size + 1 + 1, 0, none⟩ (.int .i64 len)).setCell ⟨w.heap.size + 1 + 1, 1, none⟩ (.int .i64 born)).setCell ⟨w.heap.size + 1 + 1, 2, none⟩ (.int .i64 clock)).setCell ⟨w.heap.size + 1 + 1, 3, none⟩ (.int .i64 cap)).setCell ⟨w.heap.size + 1 + 1, 4, none⟩ (.slice A1' n1 c1')).setCell ⟨w.heap.size + 1 + 1, 5, none⟩ (.slice A2' n2 c2')).setCell ⟨w.heap.size + 1 + 1, 6, none⟩ (.slice A3' n3 c3')) = w3 at *
  refine (c_toClientS _ _ _ _ _ (H4.out.keep HB3.out) hn4).mono ?_
  rintro e w4 ⟨A4', c4', rfl, hc4, hT4, hb4, hf4⟩
  have E2 := Lib.hid (D2.out.keep hb4)
  have E3 := Lib.hid (D3.out.keep hb4)
  have U1 := Lib.hid (T1.out.keep hb4)
  have U2 := Lib.hid (T2.out.keep hb4)
  have U3 := Lib.hid (T3.out.keep hb4)
  have U4 := Lib.hid hT4
  have hz3 := HZ3.out
  have HB4 := Lib.hid (HB3.out.trans (hb4.mono (by omega)))
  have F4 := Lib.hid (show ∀ g off, A4' = some ⟨g, off, none⟩ → w.heap.size + 1 + 1 < g from fun g off e => by have := hf4 g off e; omega)
  clear hb4 hT4 hf4 D1 D2 D3 T1 T2 T3 HB3 HZ3 H4 hz3
  have x7 := (E3.out.cell 7).trans rfl
  have g7 := E3.out.frozen 7
  have G2 := Lib.hid (E2.out.setf (p := ⟨w.heap.size + 1 + 1, 7, none⟩) (by simp) (.slice A4' n4 c4'))
  have G3 := Lib.hid ((E3.out.setc 7 (.slice A4' n4 c4')).cast (ds := #[.int .i64 len, .int .i64 born, .int .i64 clock, .int .i64 cap, .slice A1' n1 c1', .slice A2' n2 c2', .slice A3' n3 c3', .slice A4' n4 c4']) (by simp only [List.setIfInBounds_toArray, List.set_cons_zero, List.set_cons_succ]))
  have HB5 := Lib.hid (HB4.out.setCell (p := ⟨w.heap.size + 1 + 1, 7, none⟩) (by simp; omega) (.slice A4' n4 c4'))
  have hgr := only_setCell (World.grownBy.refl w4 (some (w.heap.size + 1 + 1))) (p := ⟨w.heap.size + 1 + 1, 7, none⟩) (.inl rfl) (.slice A4' n4 c4')
  have S1 := Lib.hid (U1.out.far hgr (fun g off e h => by have := F1.out g off e; cases h; omega))
  have S2 := Lib.hid (U2.out.far hgr (fun g off e h => by have := F2.out g off e; cases h; omega))
  have S3 := Lib.hid (U3.out.far hgr (fun g off e h => by have := F3.out g off e; cases h; omega))
  have S4 := Lib.hid (U4.out.far hgr (fun g off e h => by have := F4.out g off e; cases h; omega))
  clear hgr U1 U2 U3 U4
  go_wp2_with (first
    | ((with_reducible refine at_load (ty := 49) (x := .tmp 3) ?_); refine wpl_load_row rfl 49 (.tmp 3) rfl (w.heap.size + 1 + 1) rfl G3.out rfl (by kernel_rfl) hu rfl ?_)
    | ((with_reducible refine at_store (ty := 49) (y := .tmp 12) ?_); refine wpl_store_row rfl 49 (.tmp 2) (.tmp 12) rfl (w.heap.size + 1) _ rfl rfl (G2.out.room (n := 8) rfl) rfl (by kernel_rfl) (by simp [Value.oneCell']) ?_; intro hout)
    | fail)
  exact bodyPost_ret (v := .agg #[.int .i64 len, .int .i64 born, .int .i64 clock, .int .i64 cap, .slice A1' n1 c1', .slice A2' n2 c2', .slice A3' n3 c3', .slice A4' n4 c4']) (results_cell_row rfl _ _ _ _ _ _ _ rfl hout.2 hu rfl (by kernel_rfl)) rfl ⟨A1', c1', A2', c2', A3', c3', A4', c4', rfl, hc1, hc2, hc3, hc4, ⟨⟨⟨S1.out.farRow _ _ (fun g off e => by have := F1.out g off e; omega), S2.out.farRow _ _ (fun g off e => by have := F2.out g off e; omega)⟩, S3.out.farRow _ _ (fun g off e => by have := F3.out g off e; omega)⟩, S4.out.farRow _ _ (fun g off e => by have := F4.out g off e; omega)⟩, below_setRow HB5.out (by omega) _⟩
/-- What is left of a size. -/
def szW (left : Int) (n1 n2 n3 n4 : Nat) : Int := if left - n1 - n2 - n3 - n4 < 0 then -1 else left - n1 - n2 - n3 - n4
theorem c_szWorld (len born clock cap : Int) (A1 A2 A3 A4 : Option Addr) (n1 c1 n2 c2 n3 c3 n4 c4 : Nat) (left : Int) (w : World) (h0 : 0 ≤ left) (h1 : left ≤ 9223372036854775807) (hn1 : n1 ≤ 9223372036854775807) (hn2 : n2 ≤ 9223372036854775807) (hn3 : n3 ≤ 9223372036854775807) (hn4 : n4 ≤ 9223372036854775807) :
    Calls Try.prog 19 #[.agg #[.int .i64 len, .int .i64 born, .int .i64 clock, .int .i64 cap, .slice A1 n1 c1, .slice A2 n2 c2, .slice A3 n3 c3, .slice A4 n4 c4], .int .i64 left] w fun e w' => e = .returned (.int .i64 (szW left n1 n2 n3 n4)) ∧ Below w.heap.size w w' := by
  by_cases h : left - n1 - n2 - n3 < 0
  · have e0 := Lib.hid (show szW left n1 n2 n3 n4 = -1 from if_pos (by omega))
    have e1 := Lib.hid (show szB left n1 n2 n3 = -1 from if_pos (by omega))
    have b1 : decide ((-1 : Int) < 0) = true := by decide
    go_enter Try.func19, Try.ntmps19
    go_wp2_with (first | (go_at_call 12; refine (c_szServer _ _ _ _ _ _ _ _ _ _ _ _ _ _ _ h0 h1 hn1 hn2 hn3).mono ?_; rintro e w1 ⟨rfl, hb1⟩; rw [e1.out]; have hB := balloc (Below.refl _ w) hb1) | fail)
    go_ret
    exact ⟨ret_int e0.out.symm, hB⟩
  · have b1 : decide (left - (n1 : Int) - (n2 : Int) - (n3 : Int) < 0) = false := decide_eq_false (by omega)
    have e1 := Lib.hid (show szB left n1 n2 n3 = left - n1 - n2 - n3 from if_neg (by omega))
    by_cases h2 : left - n1 - n2 - n3 < n4
    · have e0 := Lib.hid (show szW left n1 n2 n3 n4 = -1 from if_pos (by omega))
      have b2 : decide ((-1 : Int) < 0) = true := by decide
      go_enter Try.func19, Try.ntmps19
      go_wp2_with (first | (go_at_call 12; refine (c_szServer _ _ _ _ _ _ _ _ _ _ _ _ _ _ _ h0 h1 hn1 hn2 hn3).mono ?_; rintro e w1 ⟨rfl, hb1⟩; rw [e1.out]; have hB := balloc (Below.refl _ w) hb1; obtain ⟨hcc, -⟩ := bcell hb1) | (go_at_call 60; refine (c_szClientS _ _ _ _ _ (by omega) (by omega) hn4).mono ?_; rintro e w2 ⟨rfl, rfl⟩; rw [if_pos (by omega)]) | fail)
      go_ret
      exact ⟨ret_int e0.out.symm, hB⟩
    · have e0 := Lib.hid (show szW left n1 n2 n3 n4 = left - n1 - n2 - n3 - n4 from if_neg (by omega))
      have b2 : decide (left - (n1 : Int) - (n2 : Int) - (n3 : Int) - (n4 : Int) < 0) = false := decide_eq_false (by omega)
      go_enter Try.func19, Try.ntmps19
      go_wp2_with (first | (go_at_call 12; refine (c_szServer _ _ _ _ _ _ _ _ _ _ _ _ _ _ _ h0 h1 hn1 hn2 hn3).mono ?_; rintro e w1 ⟨rfl, hb1⟩; rw [e1.out]; have hB := balloc (Below.refl _ w) hb1; obtain ⟨hcc, -⟩ := bcell hb1) | (go_at_call 60; refine (c_szClientS _ _ _ _ _ (by omega) (by omega) hn4).mono ?_; rintro e w2 ⟨rfl, rfl⟩; rw [if_neg (by omega)]) | fail)
      go_ret
      exact ⟨ret_int e0.out.symm, hB⟩
theorem c_eqWorld (len born clock cap : Int) (A1 A2 A3 A4 B1 B2 B3 B4 : Option Addr) (n1 c1 n2 c2 n3 c3 n4 c4 d1 d2 d3 d4 : Nat) (f1 f2 f3 f4 : Nat → Nat → Int) (w : World) (h : WldAt w A1 n1 f1 A2 n2 f2 A3 n3 f3 A4 n4 f4) (h' : WldAt w B1 n1 f1 B2 n2 f2 B3 n3 f3 B4 n4 f4) (hn1 : n1 ≤ 1200000) (hn2 : n2 ≤ 1200000) (hn3 : n3 ≤ 1200000) (hn4 : n4 ≤ 1200000) :
    Calls Try.prog 23 #[.agg #[.int .i64 len, .int .i64 born, .int .i64 clock, .int .i64 cap, .slice A1 n1 c1, .slice A2 n2 c2, .slice A3 n3 c3, .slice A4 n4 c4], .agg #[.int .i64 len, .int .i64 born, .int .i64 clock, .int .i64 cap, .slice B1 n1 d1, .slice B2 n2 d2, .slice B3 n3 d3, .slice B4 n4 d4]] w fun e w' => e = .returned (.bool true) ∧ Below w.heap.size w w' := by
  have hb := ((Below.refl _ w).alloc (Nat.le_refl _) (.cells #[.int .i64 len, .int .i64 born, .int .i64 clock, .int .i64 cap, .slice A1 n1 c1, .slice A2 n2 c2, .slice A3 n3 c3, .slice A4 n4 c4] 49)).alloc (by simp) (.cells #[.int .i64 len, .int .i64 born, .int .i64 clock, .int .i64 cap, .slice B1 n1 d1, .slice B2 n2 d2, .slice B3 n3 d3, .slice B4 n4 d4] 49)
  have b1 := (Blk.new (w := w) (B := 0) (Nat.zero_le _) #[.int .i64 len, .int .i64 born, .int .i64 clock, .int .i64 cap, .slice A1 n1 c1, .slice A2 n2 c2, .slice A3 n3 c3, .slice A4 n4 c4] 49).keep ((Below.refl _ _).alloc (Nat.le_refl _) (.cells #[.int .i64 len, .int .i64 born, .int .i64 clock, .int .i64 cap, .slice B1 n1 d1, .slice B2 n2 d2, .slice B3 n3 d3, .slice B4 n4 d4] 49))
  have b2 := Blk.new (w := w.alloc (.cells #[.int .i64 len, .int .i64 born, .int .i64 clock, .int .i64 cap, .slice A1 n1 c1, .slice A2 n2 c2, .slice A3 n3 c3, .slice A4 n4 c4] 49)) (B := 0) (Nat.zero_le _) #[.int .i64 len, .int .i64 born, .int .i64 clock, .int .i64 cap, .slice B1 n1 d1, .slice B2 n2 d2, .slice B3 n3 d3, .slice B4 n4 d4] 49
  simp only [World.size_alloc] at b2
  have hz : w.heap.size ≤ ((w.alloc (.cells #[.int .i64 len, .int .i64 born, .int .i64 clock, .int .i64 cap, .slice A1 n1 c1, .slice A2 n2 c2, .slice A3 n3 c3, .slice A4 n4 c4] 49)).alloc (.cells #[.int .i64 len, .int .i64 born, .int .i64 clock, .int .i64 cap, .slice B1 n1 d1, .slice B2 n2 d2, .slice B3 n3 d3, .slice B4 n4 d4] 49)).heap.size := hb.size
  have G1 := Lib.hid (h.keep hb)
  have G2 := Lib.hid (h'.keep hb)
  have HB := Lib.hid hb
  have B1' := Lib.hid b1
  have B2' := Lib.hid b2
  have HZ := Lib.hid hz
  clear hb b1 b2 hz h h'
  go_enter Try.func23, Try.ntmps23
  go_wp2_with (first
    | (go_at_call 16; refine (c_eqServer _ _ _ _ _ _ _ _ _ _ _ _ _ _ _ _ _ _ _ _ _ _ _ G1.out.s G2.out.s (by omega) (by omega) (by omega)).mono ?_; rintro e w1 ⟨rfl, hb1⟩; have x2 := ((B1'.out.keep hb1).cell 7).trans rfl; have y2 := ((B2'.out.keep hb1).cell 7).trans rfl; have G3 := Lib.hid (G1.out.keep hb1); have G4 := Lib.hid (G2.out.keep hb1); have HB1 := Lib.hid (HB.out.trans (hb1.mono HZ.out)); have HZ1 := Lib.hid (Nat.le_trans HZ.out hb1.size); clear hb1)
    | (go_at_call 64; refine (c_eqClientS _ _ _ _ _ _ _ G3.out.c G4.out.c hn4).mono ?_; rintro e w2 ⟨rfl, hb2⟩; have HB2 := Lib.hid (HB1.out.trans (hb2.mono HZ1.out)); clear hb2)
    | fail)
  go_ret
  exact ⟨rfl, HB2.out⟩
end Go.Proofs.Ytipkbapnhgdpeaa.C
