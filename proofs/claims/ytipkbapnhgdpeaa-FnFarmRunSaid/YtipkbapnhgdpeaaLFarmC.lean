/- A farm of a law's argument, copied into tables of the call's own. No condition. -/
import Derived.Test.YtipkbapnhgdpeaaMkF
namespace Go.Proofs.Ytipkbapnhgdpeaa.C
open Go.RowKit
set_option maxRecDepth 100000
set_option linter.unusedVariables false
set_option linter.unusedSimpArgs false
attribute [local go_sem ↓] Go.wp_at_zero Go.wp_at_succ
set_option maxHeartbeats 4000000 in
theorem c_toFarmO (cap : Int) (A1 A2 : Option Addr) (n1 c1 n2 c2 : Nat) (f1 f2 : Nat → Nat → Int) (w : World) (h1 : TabA 4 w A1 n1 f1) (h2 : TabA 4 w A2 n2 f2) (hn1 : n1 ≤ 2000000) (hn2 : n2 ≤ 2000000) :
    Calls Try.prog 34 #[.agg #[.int .i64 cap, .slice A1 n1 c1, .slice A2 n2 c2]] w (CpOut cap n1 f1 n2 f2 w) := by
  have hu := Try.underlying34
  have H1 := Lib.hid h1
  have H2 := Lib.hid h2
  clear h1 h2
  go_enter Try.func34, Try.ntmps34
  go_wp2_with fail
  have b1 := ((Blk.new (w := w) (B := 0) (Nat.zero_le _) #[.int .i64 cap, .slice A1 n1 c1, .slice A2 n2 c2] 25).keep ((Below.refl _ _).alloc (Nat.le_refl _) (.cells #[.int .i64 0, .slice none 0 0, .slice none 0 0] 34))).keep ((Below.refl _ _).alloc (Nat.le_refl _) (.cells #[.int .i64 cap, .slice none 0 0, .slice none 0 0] 34))
  have b2 := (Blk.new (w := w.alloc (.cells #[.int .i64 cap, .slice A1 n1 c1, .slice A2 n2 c2] 25)) (B := 0) (Nat.zero_le _) #[.int .i64 0, .slice none 0 0, .slice none 0 0] 34).keep ((Below.refl _ _).alloc (Nat.le_refl _) (.cells #[.int .i64 cap, .slice none 0 0, .slice none 0 0] 34))
  have b3 := Blk.new (w := (w.alloc (.cells #[.int .i64 cap, .slice A1 n1 c1, .slice A2 n2 c2] 25)).alloc (.cells #[.int .i64 0, .slice none 0 0, .slice none 0 0] 34)) (B := 0) (Nat.zero_le _) #[.int .i64 cap, .slice none 0 0, .slice none 0 0] 34
  have hb := (((Below.refl _ w).alloc (Nat.le_refl _) (.cells #[.int .i64 cap, .slice A1 n1 c1, .slice A2 n2 c2] 25)).alloc (by simp) (.cells #[.int .i64 0, .slice none 0 0, .slice none 0 0] 34)).alloc (by simp; omega) (.cells #[.int .i64 cap, .slice none 0 0, .slice none 0 0] 34)
  have hz : (((w.alloc (.cells #[.int .i64 cap, .slice A1 n1 c1, .slice A2 n2 c2] 25)).alloc (.cells #[.int .i64 0, .slice none 0 0, .slice none 0 0] 34)).alloc (.cells #[.int .i64 cap, .slice none 0 0, .slice none 0 0] 34)).heap.size = w.heap.size + 1 + 1 + 1 := by simp
  simp only [World.size_alloc] at b2 b3
  generalize (((w.alloc (.cells #[.int .i64 cap, .slice A1 n1 c1, .slice A2 n2 c2] 25)).alloc (.cells #[.int .i64 0, .slice none 0 0, .slice none 0 0] 34)).alloc (.cells #[.int .i64 cap, .slice none 0 0, .slice none 0 0] 34)) = w1 at *
  have K1 := Lib.hid (H1.out.keep hb)
  have HB := Lib.hid hb
  have HZ := Lib.hid hz
  have B1 := Lib.hid b1
  have B2 := Lib.hid b2
  have B3 := Lib.hid b3
  clear H1 hb hz b1 b2 b3
  refine (c_toGroupF _ _ _ _ _ K1.out hn1).mono ?_
  rintro e w2 ⟨gg, FF, rfl, hFW, hFO, hb2⟩
  have hT1 := hFW.own hFO hn1
  clear hFW hFO
  have C1 := Lib.hid (B1.out.keep hb2)
  have C2 := Lib.hid (B2.out.keep hb2)
  have C3 := Lib.hid (B3.out.keep hb2)
  have HB2 := Lib.hid (HB.out.trans (hb2.mono (by rw [HZ.out]; omega)))
  have T1 := Lib.hid (hT1.mono (B' := w.heap.size) (by rw [HZ.out]; omega))
  have HZ2 := Lib.hid (show w.heap.size + 1 + 1 + 1 ≤ w2.heap.size from HZ.out ▸ hb2.size)
  clear hb2 hT1 K1 B1 B2 B3 HB
  have x1 := (C3.out.cell 1).trans rfl
  have f1' := C3.out.frozen 1
  have x2 := ((C1.out.setf (p := ⟨w.heap.size + 1 + 1, 1, none⟩) (by simp; omega) (.slice (some ⟨gg, 0, none⟩) n1 n1)).cell 2).trans rfl
  go_wp2_with fail
  have D1 := Lib.hid (C1.out.setf (p := ⟨w.heap.size + 1 + 1, 1, none⟩) (by simp; omega) (.slice (some ⟨gg, 0, none⟩) n1 n1))
  have D2 := Lib.hid (C2.out.setf (p := ⟨w.heap.size + 1 + 1, 1, none⟩) (by simp) (.slice (some ⟨gg, 0, none⟩) n1 n1))
  have D3 := Lib.hid ((C3.out.setc 1 (.slice (some ⟨gg, 0, none⟩) n1 n1)).cast (ds := #[.int .i64 cap, .slice (some ⟨gg, 0, none⟩) n1 n1, .slice none 0 0]) (by simp only [List.setIfInBounds_toArray, List.set_cons_zero, List.set_cons_succ]))
  have T2 := Lib.hid (T1.out.setf (p := ⟨w.heap.size + 1 + 1, 1, none⟩) (T1.out.neBlk C3.out (by decide)) (.slice (some ⟨gg, 0, none⟩) n1 n1))
  have HB3 := Lib.hid (HB2.out.setCell (p := ⟨w.heap.size + 1 + 1, 1, none⟩) (by simp; omega) (.slice (some ⟨gg, 0, none⟩) n1 n1))
  have HZ3 : Hid (w.heap.size + 1 + 1 + 1 ≤ (w2.setCell ⟨w.heap.size + 1 + 1, 1, none⟩ (.slice (some ⟨gg, 0, none⟩) n1 n1)).heap.size) := Lib.hid (by have := HZ2.out; simpa [World.setCell] using this)
  clear C1 C2 C3 T1 x1 f1' x2 HB2 HZ2
  generalize w2.setCell ⟨w.heap.size + 1 + 1, 1, none⟩ (.slice (some ⟨gg, 0, none⟩) n1 n1) = w3 at *
  refine (c_toMemberF _ _ _ _ _ (H2.out.keep HB3.out) hn2).mono ?_
  rintro e w4 ⟨gm, FF2, rfl, hFW, hFO, hb4⟩
  have hT2 := hFW.own hFO hn2
  clear hFW hFO
  have E2 := Lib.hid (D2.out.keep hb4)
  have E3 := Lib.hid (D3.out.keep hb4)
  have T3 := Lib.hid (T2.out.keep hb4)
  have hz3 := HZ3.out
  have HB4 := Lib.hid (HB3.out.trans (hb4.mono (by omega)))
  have T4 := Lib.hid (hT2.mono (B' := w.heap.size) (by omega))
  clear hb4 hT2 D1 D2 D3 T2 HB3 HZ3 H2 hz3
  have x2 := (E3.out.cell 2).trans rfl
  have g2 := E3.out.frozen 2
  have G2 := Lib.hid (E2.out.setf (p := ⟨w.heap.size + 1 + 1, 2, none⟩) (by simp) (.slice (some ⟨gm, 0, none⟩) n2 n2))
  have G3 := Lib.hid ((E3.out.setc 2 (.slice (some ⟨gm, 0, none⟩) n2 n2)).cast (ds := #[.int .i64 cap, .slice (some ⟨gg, 0, none⟩) n1 n1, .slice (some ⟨gm, 0, none⟩) n2 n2]) (by simp only [List.setIfInBounds_toArray, List.set_cons_zero, List.set_cons_succ]))
  have HB5 := Lib.hid (HB4.out.setCell (p := ⟨w.heap.size + 1 + 1, 2, none⟩) (by simp; omega) (.slice (some ⟨gm, 0, none⟩) n2 n2))
  have S1 := Lib.hid (T3.out.setf (p := ⟨w.heap.size + 1 + 1, 2, none⟩) (T3.out.neBlk E3.out (by decide)) (.slice (some ⟨gm, 0, none⟩) n2 n2))
  have S2 := Lib.hid (T4.out.setf (p := ⟨w.heap.size + 1 + 1, 2, none⟩) (T4.out.neBlk E3.out (by decide)) (.slice (some ⟨gm, 0, none⟩) n2 n2))
  have N1 := Lib.hid (S1.out.neBlk G2.out (by decide))
  have N2 := Lib.hid (S2.out.neBlk G2.out (by decide))
  clear T3 T4
  go_wp2_with (first
    | ((with_reducible refine at_load (ty := 34) (x := .tmp 3) ?_); refine wpl_load_row rfl 34 (.tmp 3) rfl (w.heap.size + 1 + 1) rfl G3.out rfl (by kernel_rfl) hu rfl ?_)
    | ((with_reducible refine at_store (ty := 34) (y := .tmp 15) ?_); refine wpl_store_row rfl 34 (.tmp 2) (.tmp 15) rfl (w.heap.size + 1) _ rfl rfl (G2.out.room (n := 3) rfl) rfl (by kernel_rfl) (by simp [Value.oneCell']) ?_; intro hout)
    | fail)
  exact bodyPost_ret (v := .agg #[.int .i64 cap, .slice (some ⟨gg, 0, none⟩) n1 n1, .slice (some ⟨gm, 0, none⟩) n2 n2]) (results_cell_row rfl _ _ _ _ _ _ _ rfl hout.2 hu rfl (by kernel_rfl)) rfl ⟨_, _, rfl, S1.out.farRow N1.out _, S2.out.farRow N2.out _, below_setRow HB5.out (by omega) _⟩
end Go.Proofs.Ytipkbapnhgdpeaa.C
