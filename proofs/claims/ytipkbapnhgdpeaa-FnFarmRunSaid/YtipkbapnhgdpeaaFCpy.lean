/- Copies of farms: copied (program), l06Copy (reference). No condition. -/
import Derived.Test.YtipkbapnhgdpeaaTApp
namespace Go.Proofs.Ytipkbapnhgdpeaa.C
open Go.RowKit
set_option maxRecDepth 100000
set_option linter.unusedVariables false
set_option linter.unusedSimpArgs false
attribute [local go_sem ↓] Go.wp_at_zero Go.wp_at_succ
/-- A farm of the call's own. -/
def CpOut (cap : Int) (n1 : Nat) (f1 : Nat → Nat → Int) (n2 : Nat) (f2 : Nat → Nat → Int) (w : World) (e : Ending) (w' : World) : Prop :=
  ∃ vg vm, e = .returned (.agg #[.int .i64 cap, vg, vm]) ∧ OwnT 114 w' w.heap.size vg n1 f1 ∧ OwnT 91 w' w.heap.size vm n2 f2 ∧ Below w.heap.size w w'
theorem below_grow_t {a x b : World} {row : Option Nat} (h : Below a.heap.size a x) (k : x.grownBy b row) (hr : ∀ q, row = some q → a.heap.size ≤ q) : Below a.heap.size a b :=
  h.grown k h.size hr
theorem OwnT.mono {t : TypeId} {w : World} {B B' n : Nat} {v : Value} {f : Nat → Nat → Int} (h : OwnT t w B v n f) (hB : B' ≤ B) : OwnT t w B' v n f := h.base fun k hk => Nat.le_trans hB (World.ownsRow.lt h k hk).1
theorem OwnT.setf {t : TypeId} {w : World} {B n : Nat} {v : Value} {f : Nat → Nat → Int} (h : OwnT t w B v n f) {p : Addr} (hne : v.ownBlock ≠ some p.block) (u : Value) : OwnT t (w.setCell p u) B v n f :=
  h.grown (only_setCell (World.grownBy.refl _ (some p.block)) (.inl rfl) u) fun k hk e => hne (hk.trans e.symm)
theorem OwnT.farRow {t : TypeId} {w : World} {B n : Nat} {v : Value} {f : Nat → Nat → Int} (h : OwnT t w B v n f) {b : Nat} (hne : v.ownBlock ≠ some b) (r : Array Value) : OwnT t (w.setRow b r) B v n f :=
  h.grown (row := some b) ⟨rfl, rfl, rfl, by simp, fun i hi hn => setRow_other _ _ _ _ (by simpa using hn)⟩ fun k hk e => hne (hk.trans e.symm)
set_option maxHeartbeats 8000000 in
theorem c_copied (cap : Int) (A1 A2 : Option Addr) (n1 c1 n2 c2 : Nat) (f1 f2 : Nat → Nat → Int) (w : World) (h : FarmAt w A1 n1 f1 A2 n2 f2) (h1 : n1 ≤ 90000) (h2 : n2 ≤ 90000) :
    Calls Try.prog 95 #[.agg #[.int .i64 cap, .slice A1 n1 c1, .slice A2 n2 c2]] w (CpOut cap n1 f1 n2 f2 w) := by
  have hu := Try.underlying34
  have hb := ((Below.refl _ w).alloc (Nat.le_refl _) (.cells #[.int .i64 cap, .slice A1 n1 c1, .slice A2 n2 c2] 34)).alloc (by simp) (.cells #[.int .i64 0, .slice none 0 0, .slice none 0 0] 34)
  have K1 := (Blk.new (w := w) (B := 0) (Nat.zero_le _) #[.int .i64 cap, .slice A1 n1 c1, .slice A2 n2 c2] 34).keep ((Below.refl _ _).alloc (Nat.le_refl _) (.cells #[.int .i64 0, .slice none 0 0, .slice none 0 0] 34))
  have K2 := Blk.new (w := w.alloc (.cells #[.int .i64 cap, .slice A1 n1 c1, .slice A2 n2 c2] 34)) (B := 0) (Nat.zero_le _) #[.int .i64 0, .slice none 0 0, .slice none 0 0] 34
  simp only [World.size_alloc] at K2
  have hz : ((w.alloc (.cells #[.int .i64 cap, .slice A1 n1 c1, .slice A2 n2 c2] 34)).alloc (.cells #[.int .i64 0, .slice none 0 0, .slice none 0 0] 34)).heap.size = w.heap.size + 1 + 1 := by simp
  have B1 := Lib.hid K1
  have B2 := Lib.hid K2
  have H := Lib.hid (h.keep hb)
  have HB := Lib.hid hb
  have HZ := Lib.hid hz
  clear h hb hz K1 K2
  go_enter Try.func95, Try.ntmps95
  go_upto_region 1 with fail
  generalize (w.alloc (.cells #[.int .i64 cap, .slice A1 n1 c1, .slice A2 n2 c2] 34)).alloc (.cells #[.int .i64 0, .slice none 0 0, .slice none 0 0] 34) = w1 at *
  obtain ⟨b, hbb⟩ : ∃ b, w.heap.size = b := ⟨_, rfl⟩
  rw [hbb] at B1 B2 HZ ⊢
  have HBB := Lib.hid hbb
  clear hbb
  have T1 : Hid (∀ w', Below w1.heap.size w1 w' → w'.cell? ⟨b, 0, none⟩ = some (.int .i64 cap) ∧ w'.cell? ⟨b, 1, none⟩ = some (.slice A1 n1 c1) ∧ w'.cell? ⟨b, 2, none⟩ = some (.slice A2 n2 c2) ∧ w'.cell? ⟨b + 1, 0, none⟩ = some (.int .i64 0) ∧ w'.cell? ⟨b + 1, 1, none⟩ = some (.slice none 0 0) ∧ w'.cell? ⟨b + 1, 2, none⟩ = some (.slice none 0 0) ∧ w'.frozen? ⟨b + 1, 0, none⟩ = false ∧ w'.frozen? ⟨b + 1, 1, none⟩ = false ∧ w'.frozen? ⟨b + 1, 2, none⟩ = false) := Lib.hid fun w' hb => ⟨((B1.out.keep hb).cell 0).trans rfl, ((B1.out.keep hb).cell 1).trans rfl, ((B1.out.keep hb).cell 2).trans rfl, ((B2.out.keep hb).cell 0).trans rfl, ((B2.out.keep hb).cell 1).trans rfl, ((B2.out.keep hb).cell 2).trans rfl, (B2.out.keep hb).frozen 0, (B2.out.keep hb).frozen 1, (B2.out.keep hb).frozen 2⟩
  obtain ⟨z0, z1, z2, z3, z4, z5, z6, z7, z8⟩ := T1.out w1 (Below.refl _ _)
  have HG := Lib.hid fun (w' : World) (hb : Below w1.heap.size w1 w') => c_CloneG A1 n1 c1 f1 w' (H.out.g.keep hb) h1
  have HM := Lib.hid fun (w' : World) (hb : Below w1.heap.size w1 w') => c_CloneM A2 n2 c2 f2 w' (H.out.m.keep hb) h2
  go_region_law (first
    | (go_simp; go_at_call 125; (with_reducible refine (HG.out _ HBm.out).mono ?_); rintro e w3 ⟨vg, rfl, hg3, hb3⟩; obtain ⟨Ag, cg, rfl, -, -⟩ := OwnT.tab hg3; have HBx := Lib.hid (btrans HBm.out hb3); have OG := Lib.hid (hg3.mono (B' := b) (by have := HBm.out.size; have := HZ.out; omega)); have OM2 := Lib.hid (OM.out.keep hb3); obtain ⟨x0, x1, x2, x3, x4, x5, x6, x7, x8⟩ := T1.out w3 HBx.out; clear hg3 hb3)
    | (go_simp; go_at_call 126; (with_reducible refine (HM.out _ HBg.out).mono ?_); rintro e w3 ⟨vm, rfl, hm3, hb3⟩; obtain ⟨Am, cm, rfl, -, -⟩ := OwnT.tab hm3; have HBx := Lib.hid (btrans HBg.out hb3); have OM2 := Lib.hid (hm3.mono (B' := b) (by have := HBg.out.size; have := HZ.out; omega)); have OG := Lib.hid (OGg.out.keep hb3); obtain ⟨x0, x1, x2, x3, x4, x5, x6, x7, x8⟩ := T1.out w3 HBx.out; clear hm3 hb3)
    | (go_simp; go_at_call 125; (with_reducible refine (HG.out _ (Below.refl _ _).drew).mono ?_); rintro e w2 ⟨vg, rfl, hg2, hb2⟩; obtain ⟨Ag, cg, rfl, -, -⟩ := OwnT.tab hg2; have HBg := Lib.hid (btrans (Below.refl _ _).drew hb2); have OGg := Lib.hid (hg2.mono (B' := b) (by show b ≤ w1.heap.size; have := HZ.out; omega)); obtain ⟨y0, y1, y2, y3, y4, y5, y6, y7, y8⟩ := T1.out w2 HBg.out; clear hg2 hb2)
    | (go_simp; go_at_call 126; (with_reducible refine (HM.out _ (Below.refl _ _).drew).mono ?_); rintro e w2 ⟨vm, rfl, hm2, hb2⟩; obtain ⟨Am, cm, rfl, -, -⟩ := OwnT.tab hm2; have HBm := Lib.hid (btrans (Below.refl _ _).drew hb2); have OM := Lib.hid (hm2.mono (B' := b) (by show b ≤ w1.heap.size; have := HZ.out; omega)); obtain ⟨y0, y1, y2, y3, y4, y5, y6, y7, y8⟩ := T1.out w2 HBm.out; clear hm2 hb2)
    | fail)
  all_goals (
    have BB := ((((B2.out.keep HBx.out).setc 0 (.int .i64 cap)).setc 1 (.slice Ag n1 cg)).setc 2 (.slice Am n2 cm)).cast (ds := #[.int .i64 cap, .slice Ag n1 cg, .slice Am n2 cm]) (by simp only [List.setIfInBounds_toArray, List.set_cons_zero, List.set_cons_succ])
    have ng := OG.out.neBlk (B2.out.keep HBx.out) (by decide)
    have nm := OM2.out.neBlk (B2.out.keep HBx.out) (by decide)
    have OG3 := Lib.hid (((OG.out.setf (p := ⟨b + 1, 0, none⟩) ng (.int .i64 cap)).setf (p := ⟨b + 1, 1, none⟩) ng (.slice Ag n1 cg)).setf (p := ⟨b + 1, 2, none⟩) ng (.slice Am n2 cm))
    have OM3 := Lib.hid (((OM2.out.setf (p := ⟨b + 1, 0, none⟩) nm (.int .i64 cap)).setf (p := ⟨b + 1, 1, none⟩) nm (.slice Ag n1 cg)).setf (p := ⟨b + 1, 2, none⟩) nm (.slice Am n2 cm))
    have HBF := Lib.hid ((((HB.out.trans (HBx.out.mono (by have := HZ.out; have := HBB.out; omega))).setCell (p := ⟨b + 1, 0, none⟩) (by have := HBB.out; show w.heap.size ≤ b + 1; omega) (.int .i64 cap)).setCell (p := ⟨b + 1, 1, none⟩) (by have := HBB.out; show w.heap.size ≤ b + 1; omega) (.slice Ag n1 cg)).setCell (p := ⟨b + 1, 2, none⟩) (by have := HBB.out; show w.heap.size ≤ b + 1; omega) (.slice Am n2 cm))
    clear x0 x1 x2 x3 x4 x5 x6 x7 x8 y0 y1 y2 y3 y4 y5 y6 y7 y8 z0 z1 z2 z3 z4 z5 z6 z7 z8 ng nm
    go_wp2_with fail
    exact bodyPost_ret (v := .agg #[.int .i64 cap, .slice Ag n1 cg, .slice Am n2 cm]) (results_cell_row rfl _ _ _ _ _ _ _ rfl BB.2 hu rfl (by kernel_rfl)) rfl ⟨_, _, rfl, HBB.out.symm ▸ OG3.out, HBB.out.symm ▸ OM3.out, HBF.out⟩)
end Go.Proofs.Ytipkbapnhgdpeaa.C
