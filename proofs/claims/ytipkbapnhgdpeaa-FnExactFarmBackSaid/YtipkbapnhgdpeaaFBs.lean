/- FarmBack of the reference, by kinds. No condition. -/
import Derived.Test.YtipkbapnhgdpeaaFBr
namespace Go.Proofs.Ytipkbapnhgdpeaa.C
open Go.RowKit
set_option maxRecDepth 100000
set_option linter.unusedVariables false
set_option linter.unusedSimpArgs false
attribute [local go_sem ↓] Go.wp_at_zero Go.wp_at_succ
set_option maxHeartbeats 4000000 in
theorem s_fb_join_true (F : Fm) (A1 A2 : Option Addr) (c1 c2 : Nat) (id g a c : Int) (w : World) (h : FarmAt w A1 F.n1 F.f1 A2 F.n2 F.f2) (hc1 : F.n1 ≤ c1) (hc2 : F.n2 ≤ c2) (hf : fmB F = true) (hC : feC F 1 id g a c = 0) (em : hasId F.n2 F.f2 id = false) (eg : hasId F.n1 F.f1 id = true) :
    Calls Try.prog 33 #[.agg #[.int .i64 F.cap, .slice A1 F.n1 c1, .slice A2 F.n2 c2], .agg #[.int .i64 1, .int .i64 id, .int .i64 g, .int .i64 a, .int .i64 c]] w (EdV 2 id 0 0 0 w) := by
  have HC1 := Lib.hid hc1
  have HC2 := Lib.hid hc2
  have HFC := Lib.hid hC
  have HR := Lib.hid (Right.of hf)
  have hl1 := HR.out.l1
  have hl2 := HR.out.l2
  clear hC hc1 hc2 hf
  have HEM := Lib.hid em
  have HEG := Lib.hid eg
  clear em eg
  have hu := Try.underlying56
  have hfl := fun (x y z p q : Value) (w : World) => out_code x y z p q w
  have S1 := Lib.hid (BkIn.new F A1 A2 c1 c2 1 id g a c w h)
  have HB : Hid (Below w.heap.size w (((w.alloc (.cells #[.int .i64 F.cap, .slice A1 F.n1 c1, .slice A2 F.n2 c2] 34)).alloc (.cells #[.int .i64 1, .int .i64 id, .int .i64 g, .int .i64 a, .int .i64 c] 56)).alloc (.cells #[.int .i64 0, .int .i64 0, .int .i64 0, .int .i64 0, .int .i64 0] 56))) := Lib.hid ((((Below.refl w.heap.size w).alloc (Nat.le_refl _) _).alloc (by simp) _).alloc (by simp; omega) _)
  have HZ : Hid ((((w.alloc (.cells #[.int .i64 F.cap, .slice A1 F.n1 c1, .slice A2 F.n2 c2] 34)).alloc (.cells #[.int .i64 1, .int .i64 id, .int .i64 g, .int .i64 a, .int .i64 c] 56)).alloc (.cells #[.int .i64 0, .int .i64 0, .int .i64 0, .int .i64 0, .int .i64 0] 56)).heap.size = w.heap.size + 1 + 1 + 1) := Lib.hid (by simp)
  clear h
  go_enter Try.func33, Try.ntmps33
  go_upto_region 1 with fail
  generalize (((w.alloc (.cells #[.int .i64 F.cap, .slice A1 F.n1 c1, .slice A2 F.n2 c2] 34)).alloc (.cells #[.int .i64 1, .int .i64 id, .int .i64 g, .int .i64 a, .int .i64 c] 56)).alloc (.cells #[.int .i64 0, .int .i64 0, .int .i64 0, .int .i64 0, .int .i64 0] 56)) = w1 at *
  obtain ⟨b, hbb⟩ : ∃ b, w.heap.size = b := ⟨_, rfl⟩
  have HBB := Lib.hid hbb
  rw [hbb] at S1 HZ ⊢
  clear hbb
  obtain ⟨u0, u1, u2, v0, v1, v2, v3, v4⟩ := S1.out.cells
  have HFE := Lib.hid (fun (w' : World) (h : FarmAt w' A1 F.n1 F.f1 A2 F.n2 F.f2) => s_FarmEdit F A1 A2 c1 c2 1 id g a c w' h HC1.out HC2.out)
  unfold OutV at HFE
  have L1 := Lib.hid (show w1.heap.size ≤ w1.heap.size from Nat.le_refl _)
  go_upto_region 4 with (first | (go_at_call 27; refine (HFE.out w1 S1.out.2.2.2.1).mono ?_; rintro e w2 ⟨vg, vm, rfl, -, hb2⟩; rw [HFC.out]; have S2 := Lib.hid (S1.out.keep hb2); obtain ⟨u02, u12, u22, v02, v12, v22, v32, v42⟩ := S2.out.cells; clear hb2) | fail)
  have al := (Below.refl w2.heap.size w2).alloc (Nat.le_refl _) (.cells #[.int .i64 0, .int .i64 0, .int .i64 0, .int .i64 0] 91)
  have K5 := Lib.hid (Blk.new (w := w2) (B := w1.heap.size) S2.out.2.2.2.2.size #[.int .i64 0, .int .i64 0, .int .i64 0, .int .i64 0] 91)
  have S3 := Lib.hid (S2.out.keep al)
  clear al u0 u1 u2 v0 v1 v2 v3 v4 u02 u12 u22 v02 v12 v22 v32 v42
  generalize (w2.alloc (.cells #[.int .i64 0, .int .i64 0, .int .i64 0, .int .i64 0] 91)) = w3 at *
  generalize w2.heap.size = b5 at *
  obtain ⟨u03, u13, u23, v03, v13, v23, v33, v43⟩ := S3.out.cells
  obtain ⟨xm, hxm⟩ : ∃ x, grpIdx F.f2 id 0 F.n2 = x := ⟨_, rfl⟩
  have HXm := Lib.hid hxm
  have bxm : decide (xm ≥ 0) = false := decide_eq_false (by have := grpIdx_no HEM.out; omega)
  clear hxm
  go_upto_region 6 with (first | (go_at_call 77; refine (s_l05Member F.cap _ _ F.n1 c1 F.n2 c2 F.f2 _ w3 S3.out.2.2.2.1.m (by omega)).mono ?_; rintro e wq ⟨rfl, hbq⟩; rw [HXm.out]; have HBQm := Lib.hid hbq; clear hbq) | fail)
  have S6 := Lib.hid (S3.out.keep HBQm.out)
  have K6 := Lib.hid (K5.out.keep HBQm.out)
  generalize wq = w6 at *
  clear u03 u13 u23 v03 v13 v23 v33 v43 bxm
  obtain ⟨u06, u16, u26, v06, v16, v26, v36, v46⟩ := S6.out.cells
  go_upto_region 7 with fail
  have al := (Below.refl w6.heap.size w6).alloc (Nat.le_refl _) (.cells #[.int .i64 0, .int .i64 0, .int .i64 F.cap, .int .i64 0] 114)
  have K8 := Lib.hid (Blk.new (w := w6) (B := w1.heap.size) S6.out.2.2.2.2.size #[.int .i64 0, .int .i64 0, .int .i64 F.cap, .int .i64 0] 114)
  have S8 := Lib.hid (S6.out.keep al)
  have K7 := Lib.hid (K6.out.keep al)
  have hne := Lib.hid (show b5 ≠ w6.heap.size by have := K6.out.lt; omega)
  clear al u06 u16 u26 v06 v16 v26 v36 v46
  generalize (w6.alloc (.cells #[.int .i64 0, .int .i64 0, .int .i64 F.cap, .int .i64 0] 114)) = w8 at *
  generalize w6.heap.size = b8 at *
  obtain ⟨u08, u18, u28, v08, v18, v28, v38, v48⟩ := S8.out.cells
  obtain ⟨xg, hxg⟩ : ∃ x, grpIdx F.f1 id 0 F.n1 = x := ⟨_, rfl⟩
  have hxp := hxg.symm.trans (grpIdx_pos HR.out.r1 HEG.out)
  obtain ⟨hpng, hpeg⟩ := has_at HR.out.r1 HEG.out
  generalize posT F.n1 F.f1 id = pg at *
  subst hxp
  have HXg := Lib.hid hxg
  have HPEg := Lib.hid hpeg
  clear hxg hpeg
  have bxg : decide ((pg : Int) ≥ 0) = true := decide_eq_true (by omega)
  go_upto_region 8 with (first | (go_at_call 76; refine (s_l05Group F.cap _ _ F.n1 c1 F.n2 c2 F.f1 _ w8 S8.out.2.2.2.1.g (by omega)).mono ?_; rintro e wrg ⟨rfl, hbq⟩; rw [HXg.out]; have HBRg := Lib.hid hbq; clear hbq) | fail)
  have SRg := Lib.hid (S8.out.keep HBRg.out)
  have KRg := Lib.hid (K8.out.keep HBRg.out)
  obtain ⟨gtg, offg, eA, -, -⟩ := SRg.out.2.2.2.1.g.at (by omega)
  subst eA
  have HSg := Lib.hid (show ∀ w' : World, BkIn b w1 F (some ⟨gtg, offg, none⟩) A2 c1 c2 1 id g a c w' → (w'.cell? ⟨b, 0, none⟩ = some (.int .i64 F.cap) ∧ w'.cell? ⟨b, 1, none⟩ = some (.slice (some ⟨gtg, offg, none⟩) F.n1 c1) ∧ w'.cell? ⟨b, 2, none⟩ = some (.slice A2 F.n2 c2) ∧ w'.cell? ⟨b + 1, 1, none⟩ = some (.int .i64 id) ∧ w'.cell? ⟨gtg, offg + pg * 4, none⟩ = some (.int .i64 (F.f1 pg 0)) ∧ w'.cell? ⟨gtg, offg + pg * 4 + 1, none⟩ = some (.int .i64 (F.f1 pg 1)) ∧ w'.cell? ⟨gtg, offg + pg * 4 + 2, none⟩ = some (.int .i64 (F.f1 pg 2)) ∧ w'.cell? ⟨gtg, offg + pg * 4 + 3, none⟩ = some (.int .i64 (F.f1 pg 3))) from fun w' h => by
    obtain ⟨g', o', e', _, hx'⟩ := h.2.2.2.1.g.at (by omega)
    cases e'
    have y0 := hx' pg 0 hpng (by decide)
    rw [Nat.add_zero] at y0
    exact ⟨h.cells.1, h.cells.2.1, h.cells.2.2.1, h.cells.2.2.2.2.1, y0, hx' pg 1 hpng (by decide), hx' pg 2 hpng (by decide), hx' pg 3 hpng (by decide)⟩)
  have S0g : Hid ((fun w' => w'.cell? ⟨b, 0, none⟩ = some (.int .i64 F.cap) ∧ w'.cell? ⟨b, 1, none⟩ = some (.slice (some ⟨gtg, offg, none⟩) F.n1 c1) ∧ w'.cell? ⟨b, 2, none⟩ = some (.slice A2 F.n2 c2) ∧ w'.cell? ⟨b + 1, 1, none⟩ = some (.int .i64 id) ∧ w'.cell? ⟨gtg, offg + pg * 4, none⟩ = some (.int .i64 (F.f1 pg 0)) ∧ w'.cell? ⟨gtg, offg + pg * 4 + 1, none⟩ = some (.int .i64 (F.f1 pg 1)) ∧ w'.cell? ⟨gtg, offg + pg * 4 + 2, none⟩ = some (.int .i64 (F.f1 pg 2)) ∧ w'.cell? ⟨gtg, offg + pg * 4 + 3, none⟩ = some (.int .i64 (F.f1 pg 3))) wrg.drew) := Lib.hid (HSg.out _ (SRg.out.keep (Below.refl _ _).drew))
  have hp0g : (0 : Int) ≤ (pg : Int) := by omega
  have hp1g : (pg : Int) < (F.n1 : Int) := by omega
  go_region_held3 (fun w' => w'.cell? ⟨b, 0, none⟩ = some (.int .i64 F.cap) ∧ w'.cell? ⟨b, 1, none⟩ = some (.slice (some ⟨gtg, offg, none⟩) F.n1 c1) ∧ w'.cell? ⟨b, 2, none⟩ = some (.slice A2 F.n2 c2) ∧ w'.cell? ⟨b + 1, 1, none⟩ = some (.int .i64 id) ∧ w'.cell? ⟨gtg, offg + pg * 4, none⟩ = some (.int .i64 (F.f1 pg 0)) ∧ w'.cell? ⟨gtg, offg + pg * 4 + 1, none⟩ = some (.int .i64 (F.f1 pg 1)) ∧ w'.cell? ⟨gtg, offg + pg * 4 + 2, none⟩ = some (.int .i64 (F.f1 pg 2)) ∧ w'.cell? ⟨gtg, offg + pg * 4 + 3, none⟩ = some (.int .i64 (F.f1 pg 3))) (first | exact S0g.out | exact S2g.out | exact S3g.out) (first | (go_at_call 76; refine (s_l05Group F.cap _ _ F.n1 c1 F.n2 c2 F.f1 _ _ (SRg.out.keep (Below.refl _ _).drew).2.2.2.1.g (by omega)).mono ?_; rintro e w5g ⟨rfl, hb5⟩; rw [HXg.out]; have HB5g := Lib.hid (show Below wrg.heap.size wrg w5g from (Below.refl _ _).drew.trans hb5); have K5g := Lib.hid (KRg.out.keep HB5g.out); have BZg := Lib.hid (show Below w1.heap.size w1 ((((w5g.setCell ⟨b8, 0, none⟩ (.int .i64 (F.f1 pg 0))).setCell ⟨b8, 1, none⟩ (.int .i64 (F.f1 pg 1))).setCell ⟨b8, 2, none⟩ (.int .i64 (F.f1 pg 2))).setCell ⟨b8, 3, none⟩ (.int .i64 (F.f1 pg 3))) from putR_below (SRg.out.keep HB5g.out).2.2.2.2 (K8.out.1) (F.f1 pg 0) (F.f1 pg 1) (F.f1 pg 2) (F.f1 pg 3)); have S2g : Hid ((fun w' => w'.cell? ⟨b, 0, none⟩ = some (.int .i64 F.cap) ∧ w'.cell? ⟨b, 1, none⟩ = some (.slice (some ⟨gtg, offg, none⟩) F.n1 c1) ∧ w'.cell? ⟨b, 2, none⟩ = some (.slice A2 F.n2 c2) ∧ w'.cell? ⟨b + 1, 1, none⟩ = some (.int .i64 id) ∧ w'.cell? ⟨gtg, offg + pg * 4, none⟩ = some (.int .i64 (F.f1 pg 0)) ∧ w'.cell? ⟨gtg, offg + pg * 4 + 1, none⟩ = some (.int .i64 (F.f1 pg 1)) ∧ w'.cell? ⟨gtg, offg + pg * 4 + 2, none⟩ = some (.int .i64 (F.f1 pg 2)) ∧ w'.cell? ⟨gtg, offg + pg * 4 + 3, none⟩ = some (.int .i64 (F.f1 pg 3))) w5g) := Lib.hid (HSg.out _ (SRg.out.keep HB5g.out)); have S3g : Hid ((fun w' => w'.cell? ⟨b, 0, none⟩ = some (.int .i64 F.cap) ∧ w'.cell? ⟨b, 1, none⟩ = some (.slice (some ⟨gtg, offg, none⟩) F.n1 c1) ∧ w'.cell? ⟨b, 2, none⟩ = some (.slice A2 F.n2 c2) ∧ w'.cell? ⟨b + 1, 1, none⟩ = some (.int .i64 id) ∧ w'.cell? ⟨gtg, offg + pg * 4, none⟩ = some (.int .i64 (F.f1 pg 0)) ∧ w'.cell? ⟨gtg, offg + pg * 4 + 1, none⟩ = some (.int .i64 (F.f1 pg 1)) ∧ w'.cell? ⟨gtg, offg + pg * 4 + 2, none⟩ = some (.int .i64 (F.f1 pg 2)) ∧ w'.cell? ⟨gtg, offg + pg * 4 + 3, none⟩ = some (.int .i64 (F.f1 pg 3))) ((((w5g.setCell ⟨b8, 0, none⟩ (.int .i64 (F.f1 pg 0))).setCell ⟨b8, 1, none⟩ (.int .i64 (F.f1 pg 1))).setCell ⟨b8, 2, none⟩ (.int .i64 (F.f1 pg 2))).setCell ⟨b8, 3, none⟩ (.int .i64 (F.f1 pg 3)))) := Lib.hid (HSg.out _ (S1.out.keep BZg.out)); have k0 := (K5g.out.cell 0).trans rfl; have k1 := (K5g.out.cell 1).trans rfl; have k2 := (K5g.out.cell 2).trans rfl; have k3 := (K5g.out.cell 3).trans rfl; have f0 := K5g.out.frozen 0; have f1 := K5g.out.frozen 1; have f2 := K5g.out.frozen 2; have f3 := K5g.out.frozen 3; clear hb5) | fail)
  have KZg := Lib.hid (show Blk ((((w5g.setCell ⟨b8, 0, none⟩ (.int .i64 (F.f1 pg 0))).setCell ⟨b8, 1, none⟩ (.int .i64 (F.f1 pg 1))).setCell ⟨b8, 2, none⟩ (.int .i64 (F.f1 pg 2))).setCell ⟨b8, 3, none⟩ (.int .i64 (F.f1 pg 3))) w1.heap.size b8 #[.int .i64 (F.f1 pg 0), .int .i64 (F.f1 pg 1), .int .i64 (F.f1 pg 2), .int .i64 (F.f1 pg 3)] 114 from putR_blk K5g.out (F.f1 pg 0) (F.f1 pg 1) (F.f1 pg 2) (F.f1 pg 3))
  clear S0g S2g S3g k0 k1 k2 k3 f0 f1 f2 f3 hp0g hp1g bxg
  go_upto_region 9 with fail
  have K9 := Lib.hid (show Blk ((((w5g.setCell ⟨b8, 0, none⟩ (.int .i64 (F.f1 pg 0))).setCell ⟨b8, 1, none⟩ (.int .i64 (F.f1 pg 1))).setCell ⟨b8, 2, none⟩ (.int .i64 (F.f1 pg 2))).setCell ⟨b8, 3, none⟩ (.int .i64 (F.f1 pg 3))) w1.heap.size b5 #[.int .i64 0, .int .i64 0, .int .i64 0, .int .i64 0] 91 from putR_far ((K7.out.keep HBRg.out).keep HB5g.out) hne.out (F.f1 pg 0) (F.f1 pg 1) (F.f1 pg 2) (F.f1 pg 3))
  generalize ((((w5g.setCell ⟨b8, 0, none⟩ (.int .i64 (F.f1 pg 0))).setCell ⟨b8, 1, none⟩ (.int .i64 (F.f1 pg 1))).setCell ⟨b8, 2, none⟩ (.int .i64 (F.f1 pg 2))).setCell ⟨b8, 3, none⟩ (.int .i64 (F.f1 pg 3))) = w9 at *
  have S9 := Lib.hid (S1.out.keep BZg.out)
  have K10 := KZg
  clear u08 u18 u28 v08 v18 v28 v38 v48
  obtain ⟨u09, u19, u29, v09, v19, v29, v39, v49⟩ := S9.out.cells
  have m0 := (K9.out.cell 0).trans rfl
  have m1 := (K9.out.cell 1).trans rfl
  have m2 := (K9.out.cell 2).trans rfl
  have m3 := (K9.out.cell 3).trans rfl
  have g0 := (K10.out.cell 0).trans rfl
  have g1 := (K10.out.cell 1).trans rfl
  have g2 := (K10.out.cell 2).trans rfl
  have g3 := (K10.out.cell 3).trans rfl
  obtain ⟨z0, z1, z2, z3, z4, y0, y1, y2, y3, y4⟩ := S9.out.out
  go_wp2_with fail
  exact bodyPost_ret (results_cell_row rfl _ _ _ _ _ _ _ rfl (S9.out.give 2 id 0 0 0).1 hu rfl (by kernel_rfl)) rfl ((S9.out.give 2 id 0 0 0).2 (by have := HBB.out; omega) (HB.out.trans (S9.out.2.2.2.2.mono (by have := HZ.out; have := HBB.out; omega))))
set_option maxHeartbeats 4000000 in
theorem s_fb_join_false (F : Fm) (A1 A2 : Option Addr) (c1 c2 : Nat) (id g a c : Int) (w : World) (h : FarmAt w A1 F.n1 F.f1 A2 F.n2 F.f2) (hc1 : F.n1 ≤ c1) (hc2 : F.n2 ≤ c2) (hf : fmB F = true) (hC : feC F 1 id g a c = 0) (em : hasId F.n2 F.f2 id = false) (eg : hasId F.n1 F.f1 id = false) :
    Calls Try.prog 33 #[.agg #[.int .i64 F.cap, .slice A1 F.n1 c1, .slice A2 F.n2 c2], .agg #[.int .i64 1, .int .i64 id, .int .i64 g, .int .i64 a, .int .i64 c]] w (EdV 2 id 0 0 0 w) := by
  have HC1 := Lib.hid hc1
  have HC2 := Lib.hid hc2
  have HFC := Lib.hid hC
  have HR := Lib.hid (Right.of hf)
  have hl1 := HR.out.l1
  have hl2 := HR.out.l2
  clear hC hc1 hc2 hf
  have HEM := Lib.hid em
  have HEG := Lib.hid eg
  clear em eg
  have hu := Try.underlying56
  have hfl := fun (x y z p q : Value) (w : World) => out_code x y z p q w
  have S1 := Lib.hid (BkIn.new F A1 A2 c1 c2 1 id g a c w h)
  have HB : Hid (Below w.heap.size w (((w.alloc (.cells #[.int .i64 F.cap, .slice A1 F.n1 c1, .slice A2 F.n2 c2] 34)).alloc (.cells #[.int .i64 1, .int .i64 id, .int .i64 g, .int .i64 a, .int .i64 c] 56)).alloc (.cells #[.int .i64 0, .int .i64 0, .int .i64 0, .int .i64 0, .int .i64 0] 56))) := Lib.hid ((((Below.refl w.heap.size w).alloc (Nat.le_refl _) _).alloc (by simp) _).alloc (by simp; omega) _)
  have HZ : Hid ((((w.alloc (.cells #[.int .i64 F.cap, .slice A1 F.n1 c1, .slice A2 F.n2 c2] 34)).alloc (.cells #[.int .i64 1, .int .i64 id, .int .i64 g, .int .i64 a, .int .i64 c] 56)).alloc (.cells #[.int .i64 0, .int .i64 0, .int .i64 0, .int .i64 0, .int .i64 0] 56)).heap.size = w.heap.size + 1 + 1 + 1) := Lib.hid (by simp)
  clear h
  go_enter Try.func33, Try.ntmps33
  go_upto_region 1 with fail
  generalize (((w.alloc (.cells #[.int .i64 F.cap, .slice A1 F.n1 c1, .slice A2 F.n2 c2] 34)).alloc (.cells #[.int .i64 1, .int .i64 id, .int .i64 g, .int .i64 a, .int .i64 c] 56)).alloc (.cells #[.int .i64 0, .int .i64 0, .int .i64 0, .int .i64 0, .int .i64 0] 56)) = w1 at *
  obtain ⟨b, hbb⟩ : ∃ b, w.heap.size = b := ⟨_, rfl⟩
  have HBB := Lib.hid hbb
  rw [hbb] at S1 HZ ⊢
  clear hbb
  obtain ⟨u0, u1, u2, v0, v1, v2, v3, v4⟩ := S1.out.cells
  have HFE := Lib.hid (fun (w' : World) (h : FarmAt w' A1 F.n1 F.f1 A2 F.n2 F.f2) => s_FarmEdit F A1 A2 c1 c2 1 id g a c w' h HC1.out HC2.out)
  unfold OutV at HFE
  have L1 := Lib.hid (show w1.heap.size ≤ w1.heap.size from Nat.le_refl _)
  go_upto_region 4 with (first | (go_at_call 27; refine (HFE.out w1 S1.out.2.2.2.1).mono ?_; rintro e w2 ⟨vg, vm, rfl, -, hb2⟩; rw [HFC.out]; have S2 := Lib.hid (S1.out.keep hb2); obtain ⟨u02, u12, u22, v02, v12, v22, v32, v42⟩ := S2.out.cells; clear hb2) | fail)
  have al := (Below.refl w2.heap.size w2).alloc (Nat.le_refl _) (.cells #[.int .i64 0, .int .i64 0, .int .i64 0, .int .i64 0] 91)
  have K5 := Lib.hid (Blk.new (w := w2) (B := w1.heap.size) S2.out.2.2.2.2.size #[.int .i64 0, .int .i64 0, .int .i64 0, .int .i64 0] 91)
  have S3 := Lib.hid (S2.out.keep al)
  clear al u0 u1 u2 v0 v1 v2 v3 v4 u02 u12 u22 v02 v12 v22 v32 v42
  generalize (w2.alloc (.cells #[.int .i64 0, .int .i64 0, .int .i64 0, .int .i64 0] 91)) = w3 at *
  generalize w2.heap.size = b5 at *
  obtain ⟨u03, u13, u23, v03, v13, v23, v33, v43⟩ := S3.out.cells
  obtain ⟨xm, hxm⟩ : ∃ x, grpIdx F.f2 id 0 F.n2 = x := ⟨_, rfl⟩
  have HXm := Lib.hid hxm
  have bxm : decide (xm ≥ 0) = false := decide_eq_false (by have := grpIdx_no HEM.out; omega)
  clear hxm
  go_upto_region 6 with (first | (go_at_call 77; refine (s_l05Member F.cap _ _ F.n1 c1 F.n2 c2 F.f2 _ w3 S3.out.2.2.2.1.m (by omega)).mono ?_; rintro e wq ⟨rfl, hbq⟩; rw [HXm.out]; have HBQm := Lib.hid hbq; clear hbq) | fail)
  have S6 := Lib.hid (S3.out.keep HBQm.out)
  have K6 := Lib.hid (K5.out.keep HBQm.out)
  generalize wq = w6 at *
  clear u03 u13 u23 v03 v13 v23 v33 v43 bxm
  obtain ⟨u06, u16, u26, v06, v16, v26, v36, v46⟩ := S6.out.cells
  go_upto_region 7 with fail
  have al := (Below.refl w6.heap.size w6).alloc (Nat.le_refl _) (.cells #[.int .i64 0, .int .i64 0, .int .i64 F.cap, .int .i64 0] 114)
  have K8 := Lib.hid (Blk.new (w := w6) (B := w1.heap.size) S6.out.2.2.2.2.size #[.int .i64 0, .int .i64 0, .int .i64 F.cap, .int .i64 0] 114)
  have S8 := Lib.hid (S6.out.keep al)
  have K7 := Lib.hid (K6.out.keep al)
  have hne := Lib.hid (show b5 ≠ w6.heap.size by have := K6.out.lt; omega)
  clear al u06 u16 u26 v06 v16 v26 v36 v46
  generalize (w6.alloc (.cells #[.int .i64 0, .int .i64 0, .int .i64 F.cap, .int .i64 0] 114)) = w8 at *
  generalize w6.heap.size = b8 at *
  obtain ⟨u08, u18, u28, v08, v18, v28, v38, v48⟩ := S8.out.cells
  obtain ⟨xg, hxg⟩ : ∃ x, grpIdx F.f1 id 0 F.n1 = x := ⟨_, rfl⟩
  have HXg := Lib.hid hxg
  have bxg : decide (xg ≥ 0) = false := decide_eq_false (by have := grpIdx_no HEG.out; omega)
  clear hxg
  go_upto_region 9 with (first | (go_at_call 76; refine (s_l05Group F.cap _ _ F.n1 c1 F.n2 c2 F.f1 _ w8 S8.out.2.2.2.1.g (by omega)).mono ?_; rintro e wq ⟨rfl, hbq⟩; rw [HXg.out]; have HBQg := Lib.hid hbq; clear hbq) | fail)
  have S9 := Lib.hid (S8.out.keep HBQg.out)
  have K9 := Lib.hid (K7.out.keep HBQg.out)
  have K10 := Lib.hid (K8.out.keep HBQg.out)
  generalize wq = w9 at *
  clear u08 u18 u28 v08 v18 v28 v38 v48 bxg
  obtain ⟨u09, u19, u29, v09, v19, v29, v39, v49⟩ := S9.out.cells
  have m0 := (K9.out.cell 0).trans rfl
  have m1 := (K9.out.cell 1).trans rfl
  have m2 := (K9.out.cell 2).trans rfl
  have m3 := (K9.out.cell 3).trans rfl
  have g0 := (K10.out.cell 0).trans rfl
  have g1 := (K10.out.cell 1).trans rfl
  have g2 := (K10.out.cell 2).trans rfl
  have g3 := (K10.out.cell 3).trans rfl
  obtain ⟨z0, z1, z2, z3, z4, y0, y1, y2, y3, y4⟩ := S9.out.out
  go_wp2_with fail
  exact bodyPost_ret (results_cell_row rfl _ _ _ _ _ _ _ rfl (S9.out.give 2 id 0 0 0).1 hu rfl (by kernel_rfl)) rfl ((S9.out.give 2 id 0 0 0).2 (by have := HBB.out; omega) (HB.out.trans (S9.out.2.2.2.2.mono (by have := HZ.out; have := HBB.out; omega))))
set_option maxHeartbeats 4000000 in
theorem s_fb_group_true (F : Fm) (A1 A2 : Option Addr) (c1 c2 : Nat) (id g a c : Int) (w : World) (h : FarmAt w A1 F.n1 F.f1 A2 F.n2 F.f2) (hc1 : F.n1 ≤ c1) (hc2 : F.n2 ≤ c2) (hf : fmB F = true) (hC : feC F 6 id g a c = 0) (em : hasId F.n2 F.f2 id = true) (eg : hasId F.n1 F.f1 id = false) :
    Calls Try.prog 33 #[.agg #[.int .i64 F.cap, .slice A1 F.n1 c1, .slice A2 F.n2 c2], .agg #[.int .i64 6, .int .i64 id, .int .i64 g, .int .i64 a, .int .i64 c]] w (EdV 7 id 0 0 0 w) := by
  have HC1 := Lib.hid hc1
  have HC2 := Lib.hid hc2
  have HFC := Lib.hid hC
  have HR := Lib.hid (Right.of hf)
  have hl1 := HR.out.l1
  have hl2 := HR.out.l2
  clear hC hc1 hc2 hf
  have HEM := Lib.hid em
  have HEG := Lib.hid eg
  clear em eg
  have hu := Try.underlying56
  have hfl := fun (x y z p q : Value) (w : World) => out_code x y z p q w
  have S1 := Lib.hid (BkIn.new F A1 A2 c1 c2 6 id g a c w h)
  have HB : Hid (Below w.heap.size w (((w.alloc (.cells #[.int .i64 F.cap, .slice A1 F.n1 c1, .slice A2 F.n2 c2] 34)).alloc (.cells #[.int .i64 6, .int .i64 id, .int .i64 g, .int .i64 a, .int .i64 c] 56)).alloc (.cells #[.int .i64 0, .int .i64 0, .int .i64 0, .int .i64 0, .int .i64 0] 56))) := Lib.hid ((((Below.refl w.heap.size w).alloc (Nat.le_refl _) _).alloc (by simp) _).alloc (by simp; omega) _)
  have HZ : Hid ((((w.alloc (.cells #[.int .i64 F.cap, .slice A1 F.n1 c1, .slice A2 F.n2 c2] 34)).alloc (.cells #[.int .i64 6, .int .i64 id, .int .i64 g, .int .i64 a, .int .i64 c] 56)).alloc (.cells #[.int .i64 0, .int .i64 0, .int .i64 0, .int .i64 0, .int .i64 0] 56)).heap.size = w.heap.size + 1 + 1 + 1) := Lib.hid (by simp)
  clear h
  go_enter Try.func33, Try.ntmps33
  go_upto_region 1 with fail
  generalize (((w.alloc (.cells #[.int .i64 F.cap, .slice A1 F.n1 c1, .slice A2 F.n2 c2] 34)).alloc (.cells #[.int .i64 6, .int .i64 id, .int .i64 g, .int .i64 a, .int .i64 c] 56)).alloc (.cells #[.int .i64 0, .int .i64 0, .int .i64 0, .int .i64 0, .int .i64 0] 56)) = w1 at *
  obtain ⟨b, hbb⟩ : ∃ b, w.heap.size = b := ⟨_, rfl⟩
  have HBB := Lib.hid hbb
  rw [hbb] at S1 HZ ⊢
  clear hbb
  obtain ⟨u0, u1, u2, v0, v1, v2, v3, v4⟩ := S1.out.cells
  have HFE := Lib.hid (fun (w' : World) (h : FarmAt w' A1 F.n1 F.f1 A2 F.n2 F.f2) => s_FarmEdit F A1 A2 c1 c2 6 id g a c w' h HC1.out HC2.out)
  unfold OutV at HFE
  have L1 := Lib.hid (show w1.heap.size ≤ w1.heap.size from Nat.le_refl _)
  go_upto_region 4 with (first | (go_at_call 27; refine (HFE.out w1 S1.out.2.2.2.1).mono ?_; rintro e w2 ⟨vg, vm, rfl, -, hb2⟩; rw [HFC.out]; have S2 := Lib.hid (S1.out.keep hb2); obtain ⟨u02, u12, u22, v02, v12, v22, v32, v42⟩ := S2.out.cells; clear hb2) | fail)
  have al := (Below.refl w2.heap.size w2).alloc (Nat.le_refl _) (.cells #[.int .i64 0, .int .i64 0, .int .i64 0, .int .i64 0] 91)
  have K5 := Lib.hid (Blk.new (w := w2) (B := w1.heap.size) S2.out.2.2.2.2.size #[.int .i64 0, .int .i64 0, .int .i64 0, .int .i64 0] 91)
  have S3 := Lib.hid (S2.out.keep al)
  clear al u0 u1 u2 v0 v1 v2 v3 v4 u02 u12 u22 v02 v12 v22 v32 v42
  generalize (w2.alloc (.cells #[.int .i64 0, .int .i64 0, .int .i64 0, .int .i64 0] 91)) = w3 at *
  generalize w2.heap.size = b5 at *
  obtain ⟨u03, u13, u23, v03, v13, v23, v33, v43⟩ := S3.out.cells
  obtain ⟨xm, hxm⟩ : ∃ x, grpIdx F.f2 id 0 F.n2 = x := ⟨_, rfl⟩
  have hxp := hxm.symm.trans (grpIdx_pos HR.out.r2 HEM.out)
  obtain ⟨hpnm, hpem⟩ := has_at HR.out.r2 HEM.out
  generalize posT F.n2 F.f2 id = pm at *
  subst hxp
  have HXm := Lib.hid hxm
  have HPEm := Lib.hid hpem
  clear hxm hpem
  have bxm : decide ((pm : Int) ≥ 0) = true := decide_eq_true (by omega)
  go_upto_region 5 with (first | (go_at_call 77; refine (s_l05Member F.cap _ _ F.n1 c1 F.n2 c2 F.f2 _ w3 S3.out.2.2.2.1.m (by omega)).mono ?_; rintro e wrm ⟨rfl, hbq⟩; rw [HXm.out]; have HBRm := Lib.hid hbq; clear hbq) | fail)
  have SRm := Lib.hid (S3.out.keep HBRm.out)
  have KRm := Lib.hid (K5.out.keep HBRm.out)
  obtain ⟨gtm, offm, eA, -, -⟩ := SRm.out.2.2.2.1.m.at (by omega)
  subst eA
  have HSm := Lib.hid (show ∀ w' : World, BkIn b w1 F A1 (some ⟨gtm, offm, none⟩) c1 c2 6 id g a c w' → (w'.cell? ⟨b, 0, none⟩ = some (.int .i64 F.cap) ∧ w'.cell? ⟨b, 1, none⟩ = some (.slice A1 F.n1 c1) ∧ w'.cell? ⟨b, 2, none⟩ = some (.slice (some ⟨gtm, offm, none⟩) F.n2 c2) ∧ w'.cell? ⟨b + 1, 1, none⟩ = some (.int .i64 id) ∧ w'.cell? ⟨gtm, offm + pm * 4, none⟩ = some (.int .i64 (F.f2 pm 0)) ∧ w'.cell? ⟨gtm, offm + pm * 4 + 1, none⟩ = some (.int .i64 (F.f2 pm 1)) ∧ w'.cell? ⟨gtm, offm + pm * 4 + 2, none⟩ = some (.int .i64 (F.f2 pm 2)) ∧ w'.cell? ⟨gtm, offm + pm * 4 + 3, none⟩ = some (.int .i64 (F.f2 pm 3))) from fun w' h => by
    obtain ⟨g', o', e', _, hx'⟩ := h.2.2.2.1.m.at (by omega)
    cases e'
    have y0 := hx' pm 0 hpnm (by decide)
    rw [Nat.add_zero] at y0
    exact ⟨h.cells.1, h.cells.2.1, h.cells.2.2.1, h.cells.2.2.2.2.1, y0, hx' pm 1 hpnm (by decide), hx' pm 2 hpnm (by decide), hx' pm 3 hpnm (by decide)⟩)
  have S0m : Hid ((fun w' => w'.cell? ⟨b, 0, none⟩ = some (.int .i64 F.cap) ∧ w'.cell? ⟨b, 1, none⟩ = some (.slice A1 F.n1 c1) ∧ w'.cell? ⟨b, 2, none⟩ = some (.slice (some ⟨gtm, offm, none⟩) F.n2 c2) ∧ w'.cell? ⟨b + 1, 1, none⟩ = some (.int .i64 id) ∧ w'.cell? ⟨gtm, offm + pm * 4, none⟩ = some (.int .i64 (F.f2 pm 0)) ∧ w'.cell? ⟨gtm, offm + pm * 4 + 1, none⟩ = some (.int .i64 (F.f2 pm 1)) ∧ w'.cell? ⟨gtm, offm + pm * 4 + 2, none⟩ = some (.int .i64 (F.f2 pm 2)) ∧ w'.cell? ⟨gtm, offm + pm * 4 + 3, none⟩ = some (.int .i64 (F.f2 pm 3))) wrm.drew) := Lib.hid (HSm.out _ (SRm.out.keep (Below.refl _ _).drew))
  have hp0m : (0 : Int) ≤ (pm : Int) := by omega
  have hp1m : (pm : Int) < (F.n2 : Int) := by omega
  go_region_held3 (fun w' => w'.cell? ⟨b, 0, none⟩ = some (.int .i64 F.cap) ∧ w'.cell? ⟨b, 1, none⟩ = some (.slice A1 F.n1 c1) ∧ w'.cell? ⟨b, 2, none⟩ = some (.slice (some ⟨gtm, offm, none⟩) F.n2 c2) ∧ w'.cell? ⟨b + 1, 1, none⟩ = some (.int .i64 id) ∧ w'.cell? ⟨gtm, offm + pm * 4, none⟩ = some (.int .i64 (F.f2 pm 0)) ∧ w'.cell? ⟨gtm, offm + pm * 4 + 1, none⟩ = some (.int .i64 (F.f2 pm 1)) ∧ w'.cell? ⟨gtm, offm + pm * 4 + 2, none⟩ = some (.int .i64 (F.f2 pm 2)) ∧ w'.cell? ⟨gtm, offm + pm * 4 + 3, none⟩ = some (.int .i64 (F.f2 pm 3))) (first | exact S0m.out | exact S2m.out | exact S3m.out) (first | (go_at_call 77; refine (s_l05Member F.cap _ _ F.n1 c1 F.n2 c2 F.f2 _ _ (SRm.out.keep (Below.refl _ _).drew).2.2.2.1.m (by omega)).mono ?_; rintro e w5m ⟨rfl, hb5⟩; rw [HXm.out]; have HB5m := Lib.hid (show Below wrm.heap.size wrm w5m from (Below.refl _ _).drew.trans hb5); have K5m := Lib.hid (KRm.out.keep HB5m.out); have BZm := Lib.hid (show Below w1.heap.size w1 ((((w5m.setCell ⟨b5, 0, none⟩ (.int .i64 (F.f2 pm 0))).setCell ⟨b5, 1, none⟩ (.int .i64 (F.f2 pm 1))).setCell ⟨b5, 2, none⟩ (.int .i64 (F.f2 pm 2))).setCell ⟨b5, 3, none⟩ (.int .i64 (F.f2 pm 3))) from putR_below (SRm.out.keep HB5m.out).2.2.2.2 (K5.out.1) (F.f2 pm 0) (F.f2 pm 1) (F.f2 pm 2) (F.f2 pm 3)); have S2m : Hid ((fun w' => w'.cell? ⟨b, 0, none⟩ = some (.int .i64 F.cap) ∧ w'.cell? ⟨b, 1, none⟩ = some (.slice A1 F.n1 c1) ∧ w'.cell? ⟨b, 2, none⟩ = some (.slice (some ⟨gtm, offm, none⟩) F.n2 c2) ∧ w'.cell? ⟨b + 1, 1, none⟩ = some (.int .i64 id) ∧ w'.cell? ⟨gtm, offm + pm * 4, none⟩ = some (.int .i64 (F.f2 pm 0)) ∧ w'.cell? ⟨gtm, offm + pm * 4 + 1, none⟩ = some (.int .i64 (F.f2 pm 1)) ∧ w'.cell? ⟨gtm, offm + pm * 4 + 2, none⟩ = some (.int .i64 (F.f2 pm 2)) ∧ w'.cell? ⟨gtm, offm + pm * 4 + 3, none⟩ = some (.int .i64 (F.f2 pm 3))) w5m) := Lib.hid (HSm.out _ (SRm.out.keep HB5m.out)); have S3m : Hid ((fun w' => w'.cell? ⟨b, 0, none⟩ = some (.int .i64 F.cap) ∧ w'.cell? ⟨b, 1, none⟩ = some (.slice A1 F.n1 c1) ∧ w'.cell? ⟨b, 2, none⟩ = some (.slice (some ⟨gtm, offm, none⟩) F.n2 c2) ∧ w'.cell? ⟨b + 1, 1, none⟩ = some (.int .i64 id) ∧ w'.cell? ⟨gtm, offm + pm * 4, none⟩ = some (.int .i64 (F.f2 pm 0)) ∧ w'.cell? ⟨gtm, offm + pm * 4 + 1, none⟩ = some (.int .i64 (F.f2 pm 1)) ∧ w'.cell? ⟨gtm, offm + pm * 4 + 2, none⟩ = some (.int .i64 (F.f2 pm 2)) ∧ w'.cell? ⟨gtm, offm + pm * 4 + 3, none⟩ = some (.int .i64 (F.f2 pm 3))) ((((w5m.setCell ⟨b5, 0, none⟩ (.int .i64 (F.f2 pm 0))).setCell ⟨b5, 1, none⟩ (.int .i64 (F.f2 pm 1))).setCell ⟨b5, 2, none⟩ (.int .i64 (F.f2 pm 2))).setCell ⟨b5, 3, none⟩ (.int .i64 (F.f2 pm 3)))) := Lib.hid (HSm.out _ (S1.out.keep BZm.out)); have k0 := (K5m.out.cell 0).trans rfl; have k1 := (K5m.out.cell 1).trans rfl; have k2 := (K5m.out.cell 2).trans rfl; have k3 := (K5m.out.cell 3).trans rfl; have f0 := K5m.out.frozen 0; have f1 := K5m.out.frozen 1; have f2 := K5m.out.frozen 2; have f3 := K5m.out.frozen 3; clear hb5) | fail)
  have KZm := Lib.hid (show Blk ((((w5m.setCell ⟨b5, 0, none⟩ (.int .i64 (F.f2 pm 0))).setCell ⟨b5, 1, none⟩ (.int .i64 (F.f2 pm 1))).setCell ⟨b5, 2, none⟩ (.int .i64 (F.f2 pm 2))).setCell ⟨b5, 3, none⟩ (.int .i64 (F.f2 pm 3))) w1.heap.size b5 #[.int .i64 (F.f2 pm 0), .int .i64 (F.f2 pm 1), .int .i64 (F.f2 pm 2), .int .i64 (F.f2 pm 3)] 91 from putR_blk K5m.out (F.f2 pm 0) (F.f2 pm 1) (F.f2 pm 2) (F.f2 pm 3))
  clear S0m S2m S3m k0 k1 k2 k3 f0 f1 f2 f3 hp0m hp1m bxm
  go_upto_region 6 with fail
  generalize ((((w5m.setCell ⟨b5, 0, none⟩ (.int .i64 (F.f2 pm 0))).setCell ⟨b5, 1, none⟩ (.int .i64 (F.f2 pm 1))).setCell ⟨b5, 2, none⟩ (.int .i64 (F.f2 pm 2))).setCell ⟨b5, 3, none⟩ (.int .i64 (F.f2 pm 3))) = w6 at *
  have S6 := Lib.hid (S1.out.keep BZm.out)
  have K6 := KZm
  clear u03 u13 u23 v03 v13 v23 v33 v43
  obtain ⟨u06, u16, u26, v06, v16, v26, v36, v46⟩ := S6.out.cells
  go_upto_region 7 with fail
  have al := (Below.refl w6.heap.size w6).alloc (Nat.le_refl _) (.cells #[.int .i64 0, .int .i64 0, .int .i64 F.cap, .int .i64 0] 114)
  have K8 := Lib.hid (Blk.new (w := w6) (B := w1.heap.size) S6.out.2.2.2.2.size #[.int .i64 0, .int .i64 0, .int .i64 F.cap, .int .i64 0] 114)
  have S8 := Lib.hid (S6.out.keep al)
  have K7 := Lib.hid (K6.out.keep al)
  have hne := Lib.hid (show b5 ≠ w6.heap.size by have := K6.out.lt; omega)
  clear al u06 u16 u26 v06 v16 v26 v36 v46
  generalize (w6.alloc (.cells #[.int .i64 0, .int .i64 0, .int .i64 F.cap, .int .i64 0] 114)) = w8 at *
  generalize w6.heap.size = b8 at *
  obtain ⟨u08, u18, u28, v08, v18, v28, v38, v48⟩ := S8.out.cells
  obtain ⟨xg, hxg⟩ : ∃ x, grpIdx F.f1 id 0 F.n1 = x := ⟨_, rfl⟩
  have HXg := Lib.hid hxg
  have bxg : decide (xg ≥ 0) = false := decide_eq_false (by have := grpIdx_no HEG.out; omega)
  clear hxg
  go_upto_region 9 with (first | (go_at_call 76; refine (s_l05Group F.cap _ _ F.n1 c1 F.n2 c2 F.f1 _ w8 S8.out.2.2.2.1.g (by omega)).mono ?_; rintro e wq ⟨rfl, hbq⟩; rw [HXg.out]; have HBQg := Lib.hid hbq; clear hbq) | fail)
  have S9 := Lib.hid (S8.out.keep HBQg.out)
  have K9 := Lib.hid (K7.out.keep HBQg.out)
  have K10 := Lib.hid (K8.out.keep HBQg.out)
  generalize wq = w9 at *
  clear u08 u18 u28 v08 v18 v28 v38 v48 bxg
  obtain ⟨u09, u19, u29, v09, v19, v29, v39, v49⟩ := S9.out.cells
  have m0 := (K9.out.cell 0).trans rfl
  have m1 := (K9.out.cell 1).trans rfl
  have m2 := (K9.out.cell 2).trans rfl
  have m3 := (K9.out.cell 3).trans rfl
  have g0 := (K10.out.cell 0).trans rfl
  have g1 := (K10.out.cell 1).trans rfl
  have g2 := (K10.out.cell 2).trans rfl
  have g3 := (K10.out.cell 3).trans rfl
  obtain ⟨z0, z1, z2, z3, z4, y0, y1, y2, y3, y4⟩ := S9.out.out
  go_wp2_with fail
  exact bodyPost_ret (results_cell_row rfl _ _ _ _ _ _ _ rfl (S9.out.give 7 id 0 0 0).1 hu rfl (by kernel_rfl)) rfl ((S9.out.give 7 id 0 0 0).2 (by have := HBB.out; omega) (HB.out.trans (S9.out.2.2.2.2.mono (by have := HZ.out; have := HBB.out; omega))))
set_option maxHeartbeats 4000000 in
theorem s_fb_group_false (F : Fm) (A1 A2 : Option Addr) (c1 c2 : Nat) (id g a c : Int) (w : World) (h : FarmAt w A1 F.n1 F.f1 A2 F.n2 F.f2) (hc1 : F.n1 ≤ c1) (hc2 : F.n2 ≤ c2) (hf : fmB F = true) (hC : feC F 6 id g a c = 0) (em : hasId F.n2 F.f2 id = false) (eg : hasId F.n1 F.f1 id = false) :
    Calls Try.prog 33 #[.agg #[.int .i64 F.cap, .slice A1 F.n1 c1, .slice A2 F.n2 c2], .agg #[.int .i64 6, .int .i64 id, .int .i64 g, .int .i64 a, .int .i64 c]] w (EdV 7 id 0 0 0 w) := by
  have HC1 := Lib.hid hc1
  have HC2 := Lib.hid hc2
  have HFC := Lib.hid hC
  have HR := Lib.hid (Right.of hf)
  have hl1 := HR.out.l1
  have hl2 := HR.out.l2
  clear hC hc1 hc2 hf
  have HEM := Lib.hid em
  have HEG := Lib.hid eg
  clear em eg
  have hu := Try.underlying56
  have hfl := fun (x y z p q : Value) (w : World) => out_code x y z p q w
  have S1 := Lib.hid (BkIn.new F A1 A2 c1 c2 6 id g a c w h)
  have HB : Hid (Below w.heap.size w (((w.alloc (.cells #[.int .i64 F.cap, .slice A1 F.n1 c1, .slice A2 F.n2 c2] 34)).alloc (.cells #[.int .i64 6, .int .i64 id, .int .i64 g, .int .i64 a, .int .i64 c] 56)).alloc (.cells #[.int .i64 0, .int .i64 0, .int .i64 0, .int .i64 0, .int .i64 0] 56))) := Lib.hid ((((Below.refl w.heap.size w).alloc (Nat.le_refl _) _).alloc (by simp) _).alloc (by simp; omega) _)
  have HZ : Hid ((((w.alloc (.cells #[.int .i64 F.cap, .slice A1 F.n1 c1, .slice A2 F.n2 c2] 34)).alloc (.cells #[.int .i64 6, .int .i64 id, .int .i64 g, .int .i64 a, .int .i64 c] 56)).alloc (.cells #[.int .i64 0, .int .i64 0, .int .i64 0, .int .i64 0, .int .i64 0] 56)).heap.size = w.heap.size + 1 + 1 + 1) := Lib.hid (by simp)
  clear h
  go_enter Try.func33, Try.ntmps33
  go_upto_region 1 with fail
  generalize (((w.alloc (.cells #[.int .i64 F.cap, .slice A1 F.n1 c1, .slice A2 F.n2 c2] 34)).alloc (.cells #[.int .i64 6, .int .i64 id, .int .i64 g, .int .i64 a, .int .i64 c] 56)).alloc (.cells #[.int .i64 0, .int .i64 0, .int .i64 0, .int .i64 0, .int .i64 0] 56)) = w1 at *
  obtain ⟨b, hbb⟩ : ∃ b, w.heap.size = b := ⟨_, rfl⟩
  have HBB := Lib.hid hbb
  rw [hbb] at S1 HZ ⊢
  clear hbb
  obtain ⟨u0, u1, u2, v0, v1, v2, v3, v4⟩ := S1.out.cells
  have HFE := Lib.hid (fun (w' : World) (h : FarmAt w' A1 F.n1 F.f1 A2 F.n2 F.f2) => s_FarmEdit F A1 A2 c1 c2 6 id g a c w' h HC1.out HC2.out)
  unfold OutV at HFE
  have L1 := Lib.hid (show w1.heap.size ≤ w1.heap.size from Nat.le_refl _)
  go_upto_region 4 with (first | (go_at_call 27; refine (HFE.out w1 S1.out.2.2.2.1).mono ?_; rintro e w2 ⟨vg, vm, rfl, -, hb2⟩; rw [HFC.out]; have S2 := Lib.hid (S1.out.keep hb2); obtain ⟨u02, u12, u22, v02, v12, v22, v32, v42⟩ := S2.out.cells; clear hb2) | fail)
  have al := (Below.refl w2.heap.size w2).alloc (Nat.le_refl _) (.cells #[.int .i64 0, .int .i64 0, .int .i64 0, .int .i64 0] 91)
  have K5 := Lib.hid (Blk.new (w := w2) (B := w1.heap.size) S2.out.2.2.2.2.size #[.int .i64 0, .int .i64 0, .int .i64 0, .int .i64 0] 91)
  have S3 := Lib.hid (S2.out.keep al)
  clear al u0 u1 u2 v0 v1 v2 v3 v4 u02 u12 u22 v02 v12 v22 v32 v42
  generalize (w2.alloc (.cells #[.int .i64 0, .int .i64 0, .int .i64 0, .int .i64 0] 91)) = w3 at *
  generalize w2.heap.size = b5 at *
  obtain ⟨u03, u13, u23, v03, v13, v23, v33, v43⟩ := S3.out.cells
  obtain ⟨xm, hxm⟩ : ∃ x, grpIdx F.f2 id 0 F.n2 = x := ⟨_, rfl⟩
  have HXm := Lib.hid hxm
  have bxm : decide (xm ≥ 0) = false := decide_eq_false (by have := grpIdx_no HEM.out; omega)
  clear hxm
  go_upto_region 6 with (first | (go_at_call 77; refine (s_l05Member F.cap _ _ F.n1 c1 F.n2 c2 F.f2 _ w3 S3.out.2.2.2.1.m (by omega)).mono ?_; rintro e wq ⟨rfl, hbq⟩; rw [HXm.out]; have HBQm := Lib.hid hbq; clear hbq) | fail)
  have S6 := Lib.hid (S3.out.keep HBQm.out)
  have K6 := Lib.hid (K5.out.keep HBQm.out)
  generalize wq = w6 at *
  clear u03 u13 u23 v03 v13 v23 v33 v43 bxm
  obtain ⟨u06, u16, u26, v06, v16, v26, v36, v46⟩ := S6.out.cells
  go_upto_region 7 with fail
  have al := (Below.refl w6.heap.size w6).alloc (Nat.le_refl _) (.cells #[.int .i64 0, .int .i64 0, .int .i64 F.cap, .int .i64 0] 114)
  have K8 := Lib.hid (Blk.new (w := w6) (B := w1.heap.size) S6.out.2.2.2.2.size #[.int .i64 0, .int .i64 0, .int .i64 F.cap, .int .i64 0] 114)
  have S8 := Lib.hid (S6.out.keep al)
  have K7 := Lib.hid (K6.out.keep al)
  have hne := Lib.hid (show b5 ≠ w6.heap.size by have := K6.out.lt; omega)
  clear al u06 u16 u26 v06 v16 v26 v36 v46
  generalize (w6.alloc (.cells #[.int .i64 0, .int .i64 0, .int .i64 F.cap, .int .i64 0] 114)) = w8 at *
  generalize w6.heap.size = b8 at *
  obtain ⟨u08, u18, u28, v08, v18, v28, v38, v48⟩ := S8.out.cells
  obtain ⟨xg, hxg⟩ : ∃ x, grpIdx F.f1 id 0 F.n1 = x := ⟨_, rfl⟩
  have HXg := Lib.hid hxg
  have bxg : decide (xg ≥ 0) = false := decide_eq_false (by have := grpIdx_no HEG.out; omega)
  clear hxg
  go_upto_region 9 with (first | (go_at_call 76; refine (s_l05Group F.cap _ _ F.n1 c1 F.n2 c2 F.f1 _ w8 S8.out.2.2.2.1.g (by omega)).mono ?_; rintro e wq ⟨rfl, hbq⟩; rw [HXg.out]; have HBQg := Lib.hid hbq; clear hbq) | fail)
  have S9 := Lib.hid (S8.out.keep HBQg.out)
  have K9 := Lib.hid (K7.out.keep HBQg.out)
  have K10 := Lib.hid (K8.out.keep HBQg.out)
  generalize wq = w9 at *
  clear u08 u18 u28 v08 v18 v28 v38 v48 bxg
  obtain ⟨u09, u19, u29, v09, v19, v29, v39, v49⟩ := S9.out.cells
  have m0 := (K9.out.cell 0).trans rfl
  have m1 := (K9.out.cell 1).trans rfl
  have m2 := (K9.out.cell 2).trans rfl
  have m3 := (K9.out.cell 3).trans rfl
  have g0 := (K10.out.cell 0).trans rfl
  have g1 := (K10.out.cell 1).trans rfl
  have g2 := (K10.out.cell 2).trans rfl
  have g3 := (K10.out.cell 3).trans rfl
  obtain ⟨z0, z1, z2, z3, z4, y0, y1, y2, y3, y4⟩ := S9.out.out
  go_wp2_with fail
  exact bodyPost_ret (results_cell_row rfl _ _ _ _ _ _ _ rfl (S9.out.give 7 id 0 0 0).1 hu rfl (by kernel_rfl)) rfl ((S9.out.give 7 id 0 0 0).2 (by have := HBB.out; omega) (HB.out.trans (S9.out.2.2.2.2.mono (by have := HZ.out; have := HBB.out; omega))))
set_option maxHeartbeats 4000000 in
theorem s_fb_drop_true (F : Fm) (A1 A2 : Option Addr) (c1 c2 : Nat) (id : Int) (w : World) (h : FarmAt w A1 F.n1 F.f1 A2 F.n2 F.f2) (hc1 : F.n1 ≤ c1) (hc2 : F.n2 ≤ c2) (hf : fmB F = true) (hC : feC F 7 id 0 0 0 = 0) (em : hasId F.n2 F.f2 id = true) (eg : hasId F.n1 F.f1 id = true) :
    Calls Try.prog 33 #[.agg #[.int .i64 F.cap, .slice A1 F.n1 c1, .slice A2 F.n2 c2], .agg #[.int .i64 7, .int .i64 id, .int .i64 0, .int .i64 0, .int .i64 0]] w (EdV 6 id (F.f1 (posT F.n1 F.f1 id) 1) (F.f1 (posT F.n1 F.f1 id) 2) (F.f1 (posT F.n1 F.f1 id) 3) w) := by
  have HC1 := Lib.hid hc1
  have HC2 := Lib.hid hc2
  have HFC := Lib.hid hC
  have HR := Lib.hid (Right.of hf)
  have hl1 := HR.out.l1
  have hl2 := HR.out.l2
  clear hC hc1 hc2 hf
  have HEM := Lib.hid em
  have HEG := Lib.hid eg
  clear em eg
  have hu := Try.underlying56
  have hfl := fun (x y z p q : Value) (w : World) => out_code x y z p q w
  have S1 := Lib.hid (BkIn.new F A1 A2 c1 c2 7 id 0 0 0 w h)
  have HB : Hid (Below w.heap.size w (((w.alloc (.cells #[.int .i64 F.cap, .slice A1 F.n1 c1, .slice A2 F.n2 c2] 34)).alloc (.cells #[.int .i64 7, .int .i64 id, .int .i64 0, .int .i64 0, .int .i64 0] 56)).alloc (.cells #[.int .i64 0, .int .i64 0, .int .i64 0, .int .i64 0, .int .i64 0] 56))) := Lib.hid ((((Below.refl w.heap.size w).alloc (Nat.le_refl _) _).alloc (by simp) _).alloc (by simp; omega) _)
  have HZ : Hid ((((w.alloc (.cells #[.int .i64 F.cap, .slice A1 F.n1 c1, .slice A2 F.n2 c2] 34)).alloc (.cells #[.int .i64 7, .int .i64 id, .int .i64 0, .int .i64 0, .int .i64 0] 56)).alloc (.cells #[.int .i64 0, .int .i64 0, .int .i64 0, .int .i64 0, .int .i64 0] 56)).heap.size = w.heap.size + 1 + 1 + 1) := Lib.hid (by simp)
  clear h
  go_enter Try.func33, Try.ntmps33
  go_upto_region 1 with fail
  generalize (((w.alloc (.cells #[.int .i64 F.cap, .slice A1 F.n1 c1, .slice A2 F.n2 c2] 34)).alloc (.cells #[.int .i64 7, .int .i64 id, .int .i64 0, .int .i64 0, .int .i64 0] 56)).alloc (.cells #[.int .i64 0, .int .i64 0, .int .i64 0, .int .i64 0, .int .i64 0] 56)) = w1 at *
  obtain ⟨b, hbb⟩ : ∃ b, w.heap.size = b := ⟨_, rfl⟩
  have HBB := Lib.hid hbb
  rw [hbb] at S1 HZ ⊢
  clear hbb
  obtain ⟨u0, u1, u2, v0, v1, v2, v3, v4⟩ := S1.out.cells
  have HFE := Lib.hid (fun (w' : World) (h : FarmAt w' A1 F.n1 F.f1 A2 F.n2 F.f2) => s_FarmEdit F A1 A2 c1 c2 7 id 0 0 0 w' h HC1.out HC2.out)
  unfold OutV at HFE
  have L1 := Lib.hid (show w1.heap.size ≤ w1.heap.size from Nat.le_refl _)
  go_upto_region 4 with (first | (go_at_call 27; refine (HFE.out w1 S1.out.2.2.2.1).mono ?_; rintro e w2 ⟨vg, vm, rfl, -, hb2⟩; rw [HFC.out]; have S2 := Lib.hid (S1.out.keep hb2); obtain ⟨u02, u12, u22, v02, v12, v22, v32, v42⟩ := S2.out.cells; clear hb2) | fail)
  have al := (Below.refl w2.heap.size w2).alloc (Nat.le_refl _) (.cells #[.int .i64 0, .int .i64 0, .int .i64 0, .int .i64 0] 91)
  have K5 := Lib.hid (Blk.new (w := w2) (B := w1.heap.size) S2.out.2.2.2.2.size #[.int .i64 0, .int .i64 0, .int .i64 0, .int .i64 0] 91)
  have S3 := Lib.hid (S2.out.keep al)
  clear al u0 u1 u2 v0 v1 v2 v3 v4 u02 u12 u22 v02 v12 v22 v32 v42
  generalize (w2.alloc (.cells #[.int .i64 0, .int .i64 0, .int .i64 0, .int .i64 0] 91)) = w3 at *
  generalize w2.heap.size = b5 at *
  obtain ⟨u03, u13, u23, v03, v13, v23, v33, v43⟩ := S3.out.cells
  obtain ⟨xm, hxm⟩ : ∃ x, grpIdx F.f2 id 0 F.n2 = x := ⟨_, rfl⟩
  have hxp := hxm.symm.trans (grpIdx_pos HR.out.r2 HEM.out)
  obtain ⟨hpnm, hpem⟩ := has_at HR.out.r2 HEM.out
  generalize posT F.n2 F.f2 id = pm at *
  subst hxp
  have HXm := Lib.hid hxm
  have HPEm := Lib.hid hpem
  clear hxm hpem
  have bxm : decide ((pm : Int) ≥ 0) = true := decide_eq_true (by omega)
  go_upto_region 5 with (first | (go_at_call 77; refine (s_l05Member F.cap _ _ F.n1 c1 F.n2 c2 F.f2 _ w3 S3.out.2.2.2.1.m (by omega)).mono ?_; rintro e wrm ⟨rfl, hbq⟩; rw [HXm.out]; have HBRm := Lib.hid hbq; clear hbq) | fail)
  have SRm := Lib.hid (S3.out.keep HBRm.out)
  have KRm := Lib.hid (K5.out.keep HBRm.out)
  obtain ⟨gtm, offm, eA, -, -⟩ := SRm.out.2.2.2.1.m.at (by omega)
  subst eA
  have HSm := Lib.hid (show ∀ w' : World, BkIn b w1 F A1 (some ⟨gtm, offm, none⟩) c1 c2 7 id 0 0 0 w' → (w'.cell? ⟨b, 0, none⟩ = some (.int .i64 F.cap) ∧ w'.cell? ⟨b, 1, none⟩ = some (.slice A1 F.n1 c1) ∧ w'.cell? ⟨b, 2, none⟩ = some (.slice (some ⟨gtm, offm, none⟩) F.n2 c2) ∧ w'.cell? ⟨b + 1, 1, none⟩ = some (.int .i64 id) ∧ w'.cell? ⟨gtm, offm + pm * 4, none⟩ = some (.int .i64 (F.f2 pm 0)) ∧ w'.cell? ⟨gtm, offm + pm * 4 + 1, none⟩ = some (.int .i64 (F.f2 pm 1)) ∧ w'.cell? ⟨gtm, offm + pm * 4 + 2, none⟩ = some (.int .i64 (F.f2 pm 2)) ∧ w'.cell? ⟨gtm, offm + pm * 4 + 3, none⟩ = some (.int .i64 (F.f2 pm 3))) from fun w' h => by
    obtain ⟨g', o', e', _, hx'⟩ := h.2.2.2.1.m.at (by omega)
    cases e'
    have y0 := hx' pm 0 hpnm (by decide)
    rw [Nat.add_zero] at y0
    exact ⟨h.cells.1, h.cells.2.1, h.cells.2.2.1, h.cells.2.2.2.2.1, y0, hx' pm 1 hpnm (by decide), hx' pm 2 hpnm (by decide), hx' pm 3 hpnm (by decide)⟩)
  have S0m : Hid ((fun w' => w'.cell? ⟨b, 0, none⟩ = some (.int .i64 F.cap) ∧ w'.cell? ⟨b, 1, none⟩ = some (.slice A1 F.n1 c1) ∧ w'.cell? ⟨b, 2, none⟩ = some (.slice (some ⟨gtm, offm, none⟩) F.n2 c2) ∧ w'.cell? ⟨b + 1, 1, none⟩ = some (.int .i64 id) ∧ w'.cell? ⟨gtm, offm + pm * 4, none⟩ = some (.int .i64 (F.f2 pm 0)) ∧ w'.cell? ⟨gtm, offm + pm * 4 + 1, none⟩ = some (.int .i64 (F.f2 pm 1)) ∧ w'.cell? ⟨gtm, offm + pm * 4 + 2, none⟩ = some (.int .i64 (F.f2 pm 2)) ∧ w'.cell? ⟨gtm, offm + pm * 4 + 3, none⟩ = some (.int .i64 (F.f2 pm 3))) wrm.drew) := Lib.hid (HSm.out _ (SRm.out.keep (Below.refl _ _).drew))
  have hp0m : (0 : Int) ≤ (pm : Int) := by omega
  have hp1m : (pm : Int) < (F.n2 : Int) := by omega
  go_region_held3 (fun w' => w'.cell? ⟨b, 0, none⟩ = some (.int .i64 F.cap) ∧ w'.cell? ⟨b, 1, none⟩ = some (.slice A1 F.n1 c1) ∧ w'.cell? ⟨b, 2, none⟩ = some (.slice (some ⟨gtm, offm, none⟩) F.n2 c2) ∧ w'.cell? ⟨b + 1, 1, none⟩ = some (.int .i64 id) ∧ w'.cell? ⟨gtm, offm + pm * 4, none⟩ = some (.int .i64 (F.f2 pm 0)) ∧ w'.cell? ⟨gtm, offm + pm * 4 + 1, none⟩ = some (.int .i64 (F.f2 pm 1)) ∧ w'.cell? ⟨gtm, offm + pm * 4 + 2, none⟩ = some (.int .i64 (F.f2 pm 2)) ∧ w'.cell? ⟨gtm, offm + pm * 4 + 3, none⟩ = some (.int .i64 (F.f2 pm 3))) (first | exact S0m.out | exact S2m.out | exact S3m.out) (first | (go_at_call 77; refine (s_l05Member F.cap _ _ F.n1 c1 F.n2 c2 F.f2 _ _ (SRm.out.keep (Below.refl _ _).drew).2.2.2.1.m (by omega)).mono ?_; rintro e w5m ⟨rfl, hb5⟩; rw [HXm.out]; have HB5m := Lib.hid (show Below wrm.heap.size wrm w5m from (Below.refl _ _).drew.trans hb5); have K5m := Lib.hid (KRm.out.keep HB5m.out); have BZm := Lib.hid (show Below w1.heap.size w1 ((((w5m.setCell ⟨b5, 0, none⟩ (.int .i64 (F.f2 pm 0))).setCell ⟨b5, 1, none⟩ (.int .i64 (F.f2 pm 1))).setCell ⟨b5, 2, none⟩ (.int .i64 (F.f2 pm 2))).setCell ⟨b5, 3, none⟩ (.int .i64 (F.f2 pm 3))) from putR_below (SRm.out.keep HB5m.out).2.2.2.2 (K5.out.1) (F.f2 pm 0) (F.f2 pm 1) (F.f2 pm 2) (F.f2 pm 3)); have S2m : Hid ((fun w' => w'.cell? ⟨b, 0, none⟩ = some (.int .i64 F.cap) ∧ w'.cell? ⟨b, 1, none⟩ = some (.slice A1 F.n1 c1) ∧ w'.cell? ⟨b, 2, none⟩ = some (.slice (some ⟨gtm, offm, none⟩) F.n2 c2) ∧ w'.cell? ⟨b + 1, 1, none⟩ = some (.int .i64 id) ∧ w'.cell? ⟨gtm, offm + pm * 4, none⟩ = some (.int .i64 (F.f2 pm 0)) ∧ w'.cell? ⟨gtm, offm + pm * 4 + 1, none⟩ = some (.int .i64 (F.f2 pm 1)) ∧ w'.cell? ⟨gtm, offm + pm * 4 + 2, none⟩ = some (.int .i64 (F.f2 pm 2)) ∧ w'.cell? ⟨gtm, offm + pm * 4 + 3, none⟩ = some (.int .i64 (F.f2 pm 3))) w5m) := Lib.hid (HSm.out _ (SRm.out.keep HB5m.out)); have S3m : Hid ((fun w' => w'.cell? ⟨b, 0, none⟩ = some (.int .i64 F.cap) ∧ w'.cell? ⟨b, 1, none⟩ = some (.slice A1 F.n1 c1) ∧ w'.cell? ⟨b, 2, none⟩ = some (.slice (some ⟨gtm, offm, none⟩) F.n2 c2) ∧ w'.cell? ⟨b + 1, 1, none⟩ = some (.int .i64 id) ∧ w'.cell? ⟨gtm, offm + pm * 4, none⟩ = some (.int .i64 (F.f2 pm 0)) ∧ w'.cell? ⟨gtm, offm + pm * 4 + 1, none⟩ = some (.int .i64 (F.f2 pm 1)) ∧ w'.cell? ⟨gtm, offm + pm * 4 + 2, none⟩ = some (.int .i64 (F.f2 pm 2)) ∧ w'.cell? ⟨gtm, offm + pm * 4 + 3, none⟩ = some (.int .i64 (F.f2 pm 3))) ((((w5m.setCell ⟨b5, 0, none⟩ (.int .i64 (F.f2 pm 0))).setCell ⟨b5, 1, none⟩ (.int .i64 (F.f2 pm 1))).setCell ⟨b5, 2, none⟩ (.int .i64 (F.f2 pm 2))).setCell ⟨b5, 3, none⟩ (.int .i64 (F.f2 pm 3)))) := Lib.hid (HSm.out _ (S1.out.keep BZm.out)); have k0 := (K5m.out.cell 0).trans rfl; have k1 := (K5m.out.cell 1).trans rfl; have k2 := (K5m.out.cell 2).trans rfl; have k3 := (K5m.out.cell 3).trans rfl; have f0 := K5m.out.frozen 0; have f1 := K5m.out.frozen 1; have f2 := K5m.out.frozen 2; have f3 := K5m.out.frozen 3; clear hb5) | fail)
  have KZm := Lib.hid (show Blk ((((w5m.setCell ⟨b5, 0, none⟩ (.int .i64 (F.f2 pm 0))).setCell ⟨b5, 1, none⟩ (.int .i64 (F.f2 pm 1))).setCell ⟨b5, 2, none⟩ (.int .i64 (F.f2 pm 2))).setCell ⟨b5, 3, none⟩ (.int .i64 (F.f2 pm 3))) w1.heap.size b5 #[.int .i64 (F.f2 pm 0), .int .i64 (F.f2 pm 1), .int .i64 (F.f2 pm 2), .int .i64 (F.f2 pm 3)] 91 from putR_blk K5m.out (F.f2 pm 0) (F.f2 pm 1) (F.f2 pm 2) (F.f2 pm 3))
  clear S0m S2m S3m k0 k1 k2 k3 f0 f1 f2 f3 hp0m hp1m bxm
  go_upto_region 6 with fail
  generalize ((((w5m.setCell ⟨b5, 0, none⟩ (.int .i64 (F.f2 pm 0))).setCell ⟨b5, 1, none⟩ (.int .i64 (F.f2 pm 1))).setCell ⟨b5, 2, none⟩ (.int .i64 (F.f2 pm 2))).setCell ⟨b5, 3, none⟩ (.int .i64 (F.f2 pm 3))) = w6 at *
  have S6 := Lib.hid (S1.out.keep BZm.out)
  have K6 := KZm
  clear u03 u13 u23 v03 v13 v23 v33 v43
  obtain ⟨u06, u16, u26, v06, v16, v26, v36, v46⟩ := S6.out.cells
  go_upto_region 7 with fail
  have al := (Below.refl w6.heap.size w6).alloc (Nat.le_refl _) (.cells #[.int .i64 0, .int .i64 0, .int .i64 F.cap, .int .i64 0] 114)
  have K8 := Lib.hid (Blk.new (w := w6) (B := w1.heap.size) S6.out.2.2.2.2.size #[.int .i64 0, .int .i64 0, .int .i64 F.cap, .int .i64 0] 114)
  have S8 := Lib.hid (S6.out.keep al)
  have K7 := Lib.hid (K6.out.keep al)
  have hne := Lib.hid (show b5 ≠ w6.heap.size by have := K6.out.lt; omega)
  clear al u06 u16 u26 v06 v16 v26 v36 v46
  generalize (w6.alloc (.cells #[.int .i64 0, .int .i64 0, .int .i64 F.cap, .int .i64 0] 114)) = w8 at *
  generalize w6.heap.size = b8 at *
  obtain ⟨u08, u18, u28, v08, v18, v28, v38, v48⟩ := S8.out.cells
  obtain ⟨xg, hxg⟩ : ∃ x, grpIdx F.f1 id 0 F.n1 = x := ⟨_, rfl⟩
  have hxp := hxg.symm.trans (grpIdx_pos HR.out.r1 HEG.out)
  obtain ⟨hpng, hpeg⟩ := has_at HR.out.r1 HEG.out
  generalize posT F.n1 F.f1 id = pg at *
  subst hxp
  have HXg := Lib.hid hxg
  have HPEg := Lib.hid hpeg
  clear hxg hpeg
  have bxg : decide ((pg : Int) ≥ 0) = true := decide_eq_true (by omega)
  go_upto_region 8 with (first | (go_at_call 76; refine (s_l05Group F.cap _ _ F.n1 c1 F.n2 c2 F.f1 _ w8 S8.out.2.2.2.1.g (by omega)).mono ?_; rintro e wrg ⟨rfl, hbq⟩; rw [HXg.out]; have HBRg := Lib.hid hbq; clear hbq) | fail)
  have SRg := Lib.hid (S8.out.keep HBRg.out)
  have KRg := Lib.hid (K8.out.keep HBRg.out)
  obtain ⟨gtg, offg, eA, -, -⟩ := SRg.out.2.2.2.1.g.at (by omega)
  subst eA
  have HSg := Lib.hid (show ∀ w' : World, BkIn b w1 F (some ⟨gtg, offg, none⟩) (some ⟨gtm, offm, none⟩) c1 c2 7 id 0 0 0 w' → (w'.cell? ⟨b, 0, none⟩ = some (.int .i64 F.cap) ∧ w'.cell? ⟨b, 1, none⟩ = some (.slice (some ⟨gtg, offg, none⟩) F.n1 c1) ∧ w'.cell? ⟨b, 2, none⟩ = some (.slice (some ⟨gtm, offm, none⟩) F.n2 c2) ∧ w'.cell? ⟨b + 1, 1, none⟩ = some (.int .i64 id) ∧ w'.cell? ⟨gtg, offg + pg * 4, none⟩ = some (.int .i64 (F.f1 pg 0)) ∧ w'.cell? ⟨gtg, offg + pg * 4 + 1, none⟩ = some (.int .i64 (F.f1 pg 1)) ∧ w'.cell? ⟨gtg, offg + pg * 4 + 2, none⟩ = some (.int .i64 (F.f1 pg 2)) ∧ w'.cell? ⟨gtg, offg + pg * 4 + 3, none⟩ = some (.int .i64 (F.f1 pg 3))) from fun w' h => by
    obtain ⟨g', o', e', _, hx'⟩ := h.2.2.2.1.g.at (by omega)
    cases e'
    have y0 := hx' pg 0 hpng (by decide)
    rw [Nat.add_zero] at y0
    exact ⟨h.cells.1, h.cells.2.1, h.cells.2.2.1, h.cells.2.2.2.2.1, y0, hx' pg 1 hpng (by decide), hx' pg 2 hpng (by decide), hx' pg 3 hpng (by decide)⟩)
  have S0g : Hid ((fun w' => w'.cell? ⟨b, 0, none⟩ = some (.int .i64 F.cap) ∧ w'.cell? ⟨b, 1, none⟩ = some (.slice (some ⟨gtg, offg, none⟩) F.n1 c1) ∧ w'.cell? ⟨b, 2, none⟩ = some (.slice (some ⟨gtm, offm, none⟩) F.n2 c2) ∧ w'.cell? ⟨b + 1, 1, none⟩ = some (.int .i64 id) ∧ w'.cell? ⟨gtg, offg + pg * 4, none⟩ = some (.int .i64 (F.f1 pg 0)) ∧ w'.cell? ⟨gtg, offg + pg * 4 + 1, none⟩ = some (.int .i64 (F.f1 pg 1)) ∧ w'.cell? ⟨gtg, offg + pg * 4 + 2, none⟩ = some (.int .i64 (F.f1 pg 2)) ∧ w'.cell? ⟨gtg, offg + pg * 4 + 3, none⟩ = some (.int .i64 (F.f1 pg 3))) wrg.drew) := Lib.hid (HSg.out _ (SRg.out.keep (Below.refl _ _).drew))
  have hp0g : (0 : Int) ≤ (pg : Int) := by omega
  have hp1g : (pg : Int) < (F.n1 : Int) := by omega
  go_region_held3 (fun w' => w'.cell? ⟨b, 0, none⟩ = some (.int .i64 F.cap) ∧ w'.cell? ⟨b, 1, none⟩ = some (.slice (some ⟨gtg, offg, none⟩) F.n1 c1) ∧ w'.cell? ⟨b, 2, none⟩ = some (.slice (some ⟨gtm, offm, none⟩) F.n2 c2) ∧ w'.cell? ⟨b + 1, 1, none⟩ = some (.int .i64 id) ∧ w'.cell? ⟨gtg, offg + pg * 4, none⟩ = some (.int .i64 (F.f1 pg 0)) ∧ w'.cell? ⟨gtg, offg + pg * 4 + 1, none⟩ = some (.int .i64 (F.f1 pg 1)) ∧ w'.cell? ⟨gtg, offg + pg * 4 + 2, none⟩ = some (.int .i64 (F.f1 pg 2)) ∧ w'.cell? ⟨gtg, offg + pg * 4 + 3, none⟩ = some (.int .i64 (F.f1 pg 3))) (first | exact S0g.out | exact S2g.out | exact S3g.out) (first | (go_at_call 76; refine (s_l05Group F.cap _ _ F.n1 c1 F.n2 c2 F.f1 _ _ (SRg.out.keep (Below.refl _ _).drew).2.2.2.1.g (by omega)).mono ?_; rintro e w5g ⟨rfl, hb5⟩; rw [HXg.out]; have HB5g := Lib.hid (show Below wrg.heap.size wrg w5g from (Below.refl _ _).drew.trans hb5); have K5g := Lib.hid (KRg.out.keep HB5g.out); have BZg := Lib.hid (show Below w1.heap.size w1 ((((w5g.setCell ⟨b8, 0, none⟩ (.int .i64 (F.f1 pg 0))).setCell ⟨b8, 1, none⟩ (.int .i64 (F.f1 pg 1))).setCell ⟨b8, 2, none⟩ (.int .i64 (F.f1 pg 2))).setCell ⟨b8, 3, none⟩ (.int .i64 (F.f1 pg 3))) from putR_below (SRg.out.keep HB5g.out).2.2.2.2 (K8.out.1) (F.f1 pg 0) (F.f1 pg 1) (F.f1 pg 2) (F.f1 pg 3)); have S2g : Hid ((fun w' => w'.cell? ⟨b, 0, none⟩ = some (.int .i64 F.cap) ∧ w'.cell? ⟨b, 1, none⟩ = some (.slice (some ⟨gtg, offg, none⟩) F.n1 c1) ∧ w'.cell? ⟨b, 2, none⟩ = some (.slice (some ⟨gtm, offm, none⟩) F.n2 c2) ∧ w'.cell? ⟨b + 1, 1, none⟩ = some (.int .i64 id) ∧ w'.cell? ⟨gtg, offg + pg * 4, none⟩ = some (.int .i64 (F.f1 pg 0)) ∧ w'.cell? ⟨gtg, offg + pg * 4 + 1, none⟩ = some (.int .i64 (F.f1 pg 1)) ∧ w'.cell? ⟨gtg, offg + pg * 4 + 2, none⟩ = some (.int .i64 (F.f1 pg 2)) ∧ w'.cell? ⟨gtg, offg + pg * 4 + 3, none⟩ = some (.int .i64 (F.f1 pg 3))) w5g) := Lib.hid (HSg.out _ (SRg.out.keep HB5g.out)); have S3g : Hid ((fun w' => w'.cell? ⟨b, 0, none⟩ = some (.int .i64 F.cap) ∧ w'.cell? ⟨b, 1, none⟩ = some (.slice (some ⟨gtg, offg, none⟩) F.n1 c1) ∧ w'.cell? ⟨b, 2, none⟩ = some (.slice (some ⟨gtm, offm, none⟩) F.n2 c2) ∧ w'.cell? ⟨b + 1, 1, none⟩ = some (.int .i64 id) ∧ w'.cell? ⟨gtg, offg + pg * 4, none⟩ = some (.int .i64 (F.f1 pg 0)) ∧ w'.cell? ⟨gtg, offg + pg * 4 + 1, none⟩ = some (.int .i64 (F.f1 pg 1)) ∧ w'.cell? ⟨gtg, offg + pg * 4 + 2, none⟩ = some (.int .i64 (F.f1 pg 2)) ∧ w'.cell? ⟨gtg, offg + pg * 4 + 3, none⟩ = some (.int .i64 (F.f1 pg 3))) ((((w5g.setCell ⟨b8, 0, none⟩ (.int .i64 (F.f1 pg 0))).setCell ⟨b8, 1, none⟩ (.int .i64 (F.f1 pg 1))).setCell ⟨b8, 2, none⟩ (.int .i64 (F.f1 pg 2))).setCell ⟨b8, 3, none⟩ (.int .i64 (F.f1 pg 3)))) := Lib.hid (HSg.out _ (S1.out.keep BZg.out)); have k0 := (K5g.out.cell 0).trans rfl; have k1 := (K5g.out.cell 1).trans rfl; have k2 := (K5g.out.cell 2).trans rfl; have k3 := (K5g.out.cell 3).trans rfl; have f0 := K5g.out.frozen 0; have f1 := K5g.out.frozen 1; have f2 := K5g.out.frozen 2; have f3 := K5g.out.frozen 3; clear hb5) | fail)
  have KZg := Lib.hid (show Blk ((((w5g.setCell ⟨b8, 0, none⟩ (.int .i64 (F.f1 pg 0))).setCell ⟨b8, 1, none⟩ (.int .i64 (F.f1 pg 1))).setCell ⟨b8, 2, none⟩ (.int .i64 (F.f1 pg 2))).setCell ⟨b8, 3, none⟩ (.int .i64 (F.f1 pg 3))) w1.heap.size b8 #[.int .i64 (F.f1 pg 0), .int .i64 (F.f1 pg 1), .int .i64 (F.f1 pg 2), .int .i64 (F.f1 pg 3)] 114 from putR_blk K5g.out (F.f1 pg 0) (F.f1 pg 1) (F.f1 pg 2) (F.f1 pg 3))
  clear S0g S2g S3g k0 k1 k2 k3 f0 f1 f2 f3 hp0g hp1g bxg
  go_upto_region 9 with fail
  have K9 := Lib.hid (show Blk ((((w5g.setCell ⟨b8, 0, none⟩ (.int .i64 (F.f1 pg 0))).setCell ⟨b8, 1, none⟩ (.int .i64 (F.f1 pg 1))).setCell ⟨b8, 2, none⟩ (.int .i64 (F.f1 pg 2))).setCell ⟨b8, 3, none⟩ (.int .i64 (F.f1 pg 3))) w1.heap.size b5 #[.int .i64 (F.f2 pm 0), .int .i64 (F.f2 pm 1), .int .i64 (F.f2 pm 2), .int .i64 (F.f2 pm 3)] 91 from putR_far ((K7.out.keep HBRg.out).keep HB5g.out) hne.out (F.f1 pg 0) (F.f1 pg 1) (F.f1 pg 2) (F.f1 pg 3))
  generalize ((((w5g.setCell ⟨b8, 0, none⟩ (.int .i64 (F.f1 pg 0))).setCell ⟨b8, 1, none⟩ (.int .i64 (F.f1 pg 1))).setCell ⟨b8, 2, none⟩ (.int .i64 (F.f1 pg 2))).setCell ⟨b8, 3, none⟩ (.int .i64 (F.f1 pg 3))) = w9 at *
  have S9 := Lib.hid (S1.out.keep BZg.out)
  have K10 := KZg
  clear u08 u18 u28 v08 v18 v28 v38 v48
  obtain ⟨u09, u19, u29, v09, v19, v29, v39, v49⟩ := S9.out.cells
  have m0 := (K9.out.cell 0).trans rfl
  have m1 := (K9.out.cell 1).trans rfl
  have m2 := (K9.out.cell 2).trans rfl
  have m3 := (K9.out.cell 3).trans rfl
  have g0 := (K10.out.cell 0).trans rfl
  have g1 := (K10.out.cell 1).trans rfl
  have g2 := (K10.out.cell 2).trans rfl
  have g3 := (K10.out.cell 3).trans rfl
  obtain ⟨z0, z1, z2, z3, z4, y0, y1, y2, y3, y4⟩ := S9.out.out
  go_wp2_with fail
  exact bodyPost_ret (results_cell_row rfl _ _ _ _ _ _ _ rfl (S9.out.give 6 id (F.f1 pg 1) (F.f1 pg 2) (F.f1 pg 3)).1 hu rfl (by kernel_rfl)) rfl ((S9.out.give 6 id (F.f1 pg 1) (F.f1 pg 2) (F.f1 pg 3)).2 (by have := HBB.out; omega) (HB.out.trans (S9.out.2.2.2.2.mono (by have := HZ.out; have := HBB.out; omega))))
set_option maxHeartbeats 4000000 in
theorem s_fb_drop_false (F : Fm) (A1 A2 : Option Addr) (c1 c2 : Nat) (id : Int) (w : World) (h : FarmAt w A1 F.n1 F.f1 A2 F.n2 F.f2) (hc1 : F.n1 ≤ c1) (hc2 : F.n2 ≤ c2) (hf : fmB F = true) (hC : feC F 7 id 0 0 0 = 0) (em : hasId F.n2 F.f2 id = false) (eg : hasId F.n1 F.f1 id = true) :
    Calls Try.prog 33 #[.agg #[.int .i64 F.cap, .slice A1 F.n1 c1, .slice A2 F.n2 c2], .agg #[.int .i64 7, .int .i64 id, .int .i64 0, .int .i64 0, .int .i64 0]] w (EdV 6 id (F.f1 (posT F.n1 F.f1 id) 1) (F.f1 (posT F.n1 F.f1 id) 2) (F.f1 (posT F.n1 F.f1 id) 3) w) := by
  have HC1 := Lib.hid hc1
  have HC2 := Lib.hid hc2
  have HFC := Lib.hid hC
  have HR := Lib.hid (Right.of hf)
  have hl1 := HR.out.l1
  have hl2 := HR.out.l2
  clear hC hc1 hc2 hf
  have HEM := Lib.hid em
  have HEG := Lib.hid eg
  clear em eg
  have hu := Try.underlying56
  have hfl := fun (x y z p q : Value) (w : World) => out_code x y z p q w
  have S1 := Lib.hid (BkIn.new F A1 A2 c1 c2 7 id 0 0 0 w h)
  have HB : Hid (Below w.heap.size w (((w.alloc (.cells #[.int .i64 F.cap, .slice A1 F.n1 c1, .slice A2 F.n2 c2] 34)).alloc (.cells #[.int .i64 7, .int .i64 id, .int .i64 0, .int .i64 0, .int .i64 0] 56)).alloc (.cells #[.int .i64 0, .int .i64 0, .int .i64 0, .int .i64 0, .int .i64 0] 56))) := Lib.hid ((((Below.refl w.heap.size w).alloc (Nat.le_refl _) _).alloc (by simp) _).alloc (by simp; omega) _)
  have HZ : Hid ((((w.alloc (.cells #[.int .i64 F.cap, .slice A1 F.n1 c1, .slice A2 F.n2 c2] 34)).alloc (.cells #[.int .i64 7, .int .i64 id, .int .i64 0, .int .i64 0, .int .i64 0] 56)).alloc (.cells #[.int .i64 0, .int .i64 0, .int .i64 0, .int .i64 0, .int .i64 0] 56)).heap.size = w.heap.size + 1 + 1 + 1) := Lib.hid (by simp)
  clear h
  go_enter Try.func33, Try.ntmps33
  go_upto_region 1 with fail
  generalize (((w.alloc (.cells #[.int .i64 F.cap, .slice A1 F.n1 c1, .slice A2 F.n2 c2] 34)).alloc (.cells #[.int .i64 7, .int .i64 id, .int .i64 0, .int .i64 0, .int .i64 0] 56)).alloc (.cells #[.int .i64 0, .int .i64 0, .int .i64 0, .int .i64 0, .int .i64 0] 56)) = w1 at *
  obtain ⟨b, hbb⟩ : ∃ b, w.heap.size = b := ⟨_, rfl⟩
  have HBB := Lib.hid hbb
  rw [hbb] at S1 HZ ⊢
  clear hbb
  obtain ⟨u0, u1, u2, v0, v1, v2, v3, v4⟩ := S1.out.cells
  have HFE := Lib.hid (fun (w' : World) (h : FarmAt w' A1 F.n1 F.f1 A2 F.n2 F.f2) => s_FarmEdit F A1 A2 c1 c2 7 id 0 0 0 w' h HC1.out HC2.out)
  unfold OutV at HFE
  have L1 := Lib.hid (show w1.heap.size ≤ w1.heap.size from Nat.le_refl _)
  go_upto_region 4 with (first | (go_at_call 27; refine (HFE.out w1 S1.out.2.2.2.1).mono ?_; rintro e w2 ⟨vg, vm, rfl, -, hb2⟩; rw [HFC.out]; have S2 := Lib.hid (S1.out.keep hb2); obtain ⟨u02, u12, u22, v02, v12, v22, v32, v42⟩ := S2.out.cells; clear hb2) | fail)
  have al := (Below.refl w2.heap.size w2).alloc (Nat.le_refl _) (.cells #[.int .i64 0, .int .i64 0, .int .i64 0, .int .i64 0] 91)
  have K5 := Lib.hid (Blk.new (w := w2) (B := w1.heap.size) S2.out.2.2.2.2.size #[.int .i64 0, .int .i64 0, .int .i64 0, .int .i64 0] 91)
  have S3 := Lib.hid (S2.out.keep al)
  clear al u0 u1 u2 v0 v1 v2 v3 v4 u02 u12 u22 v02 v12 v22 v32 v42
  generalize (w2.alloc (.cells #[.int .i64 0, .int .i64 0, .int .i64 0, .int .i64 0] 91)) = w3 at *
  generalize w2.heap.size = b5 at *
  obtain ⟨u03, u13, u23, v03, v13, v23, v33, v43⟩ := S3.out.cells
  obtain ⟨xm, hxm⟩ : ∃ x, grpIdx F.f2 id 0 F.n2 = x := ⟨_, rfl⟩
  have HXm := Lib.hid hxm
  have bxm : decide (xm ≥ 0) = false := decide_eq_false (by have := grpIdx_no HEM.out; omega)
  clear hxm
  go_upto_region 6 with (first | (go_at_call 77; refine (s_l05Member F.cap _ _ F.n1 c1 F.n2 c2 F.f2 _ w3 S3.out.2.2.2.1.m (by omega)).mono ?_; rintro e wq ⟨rfl, hbq⟩; rw [HXm.out]; have HBQm := Lib.hid hbq; clear hbq) | fail)
  have S6 := Lib.hid (S3.out.keep HBQm.out)
  have K6 := Lib.hid (K5.out.keep HBQm.out)
  generalize wq = w6 at *
  clear u03 u13 u23 v03 v13 v23 v33 v43 bxm
  obtain ⟨u06, u16, u26, v06, v16, v26, v36, v46⟩ := S6.out.cells
  go_upto_region 7 with fail
  have al := (Below.refl w6.heap.size w6).alloc (Nat.le_refl _) (.cells #[.int .i64 0, .int .i64 0, .int .i64 F.cap, .int .i64 0] 114)
  have K8 := Lib.hid (Blk.new (w := w6) (B := w1.heap.size) S6.out.2.2.2.2.size #[.int .i64 0, .int .i64 0, .int .i64 F.cap, .int .i64 0] 114)
  have S8 := Lib.hid (S6.out.keep al)
  have K7 := Lib.hid (K6.out.keep al)
  have hne := Lib.hid (show b5 ≠ w6.heap.size by have := K6.out.lt; omega)
  clear al u06 u16 u26 v06 v16 v26 v36 v46
  generalize (w6.alloc (.cells #[.int .i64 0, .int .i64 0, .int .i64 F.cap, .int .i64 0] 114)) = w8 at *
  generalize w6.heap.size = b8 at *
  obtain ⟨u08, u18, u28, v08, v18, v28, v38, v48⟩ := S8.out.cells
  obtain ⟨xg, hxg⟩ : ∃ x, grpIdx F.f1 id 0 F.n1 = x := ⟨_, rfl⟩
  have hxp := hxg.symm.trans (grpIdx_pos HR.out.r1 HEG.out)
  obtain ⟨hpng, hpeg⟩ := has_at HR.out.r1 HEG.out
  generalize posT F.n1 F.f1 id = pg at *
  subst hxp
  have HXg := Lib.hid hxg
  have HPEg := Lib.hid hpeg
  clear hxg hpeg
  have bxg : decide ((pg : Int) ≥ 0) = true := decide_eq_true (by omega)
  go_upto_region 8 with (first | (go_at_call 76; refine (s_l05Group F.cap _ _ F.n1 c1 F.n2 c2 F.f1 _ w8 S8.out.2.2.2.1.g (by omega)).mono ?_; rintro e wrg ⟨rfl, hbq⟩; rw [HXg.out]; have HBRg := Lib.hid hbq; clear hbq) | fail)
  have SRg := Lib.hid (S8.out.keep HBRg.out)
  have KRg := Lib.hid (K8.out.keep HBRg.out)
  obtain ⟨gtg, offg, eA, -, -⟩ := SRg.out.2.2.2.1.g.at (by omega)
  subst eA
  have HSg := Lib.hid (show ∀ w' : World, BkIn b w1 F (some ⟨gtg, offg, none⟩) A2 c1 c2 7 id 0 0 0 w' → (w'.cell? ⟨b, 0, none⟩ = some (.int .i64 F.cap) ∧ w'.cell? ⟨b, 1, none⟩ = some (.slice (some ⟨gtg, offg, none⟩) F.n1 c1) ∧ w'.cell? ⟨b, 2, none⟩ = some (.slice A2 F.n2 c2) ∧ w'.cell? ⟨b + 1, 1, none⟩ = some (.int .i64 id) ∧ w'.cell? ⟨gtg, offg + pg * 4, none⟩ = some (.int .i64 (F.f1 pg 0)) ∧ w'.cell? ⟨gtg, offg + pg * 4 + 1, none⟩ = some (.int .i64 (F.f1 pg 1)) ∧ w'.cell? ⟨gtg, offg + pg * 4 + 2, none⟩ = some (.int .i64 (F.f1 pg 2)) ∧ w'.cell? ⟨gtg, offg + pg * 4 + 3, none⟩ = some (.int .i64 (F.f1 pg 3))) from fun w' h => by
    obtain ⟨g', o', e', _, hx'⟩ := h.2.2.2.1.g.at (by omega)
    cases e'
    have y0 := hx' pg 0 hpng (by decide)
    rw [Nat.add_zero] at y0
    exact ⟨h.cells.1, h.cells.2.1, h.cells.2.2.1, h.cells.2.2.2.2.1, y0, hx' pg 1 hpng (by decide), hx' pg 2 hpng (by decide), hx' pg 3 hpng (by decide)⟩)
  have S0g : Hid ((fun w' => w'.cell? ⟨b, 0, none⟩ = some (.int .i64 F.cap) ∧ w'.cell? ⟨b, 1, none⟩ = some (.slice (some ⟨gtg, offg, none⟩) F.n1 c1) ∧ w'.cell? ⟨b, 2, none⟩ = some (.slice A2 F.n2 c2) ∧ w'.cell? ⟨b + 1, 1, none⟩ = some (.int .i64 id) ∧ w'.cell? ⟨gtg, offg + pg * 4, none⟩ = some (.int .i64 (F.f1 pg 0)) ∧ w'.cell? ⟨gtg, offg + pg * 4 + 1, none⟩ = some (.int .i64 (F.f1 pg 1)) ∧ w'.cell? ⟨gtg, offg + pg * 4 + 2, none⟩ = some (.int .i64 (F.f1 pg 2)) ∧ w'.cell? ⟨gtg, offg + pg * 4 + 3, none⟩ = some (.int .i64 (F.f1 pg 3))) wrg.drew) := Lib.hid (HSg.out _ (SRg.out.keep (Below.refl _ _).drew))
  have hp0g : (0 : Int) ≤ (pg : Int) := by omega
  have hp1g : (pg : Int) < (F.n1 : Int) := by omega
  go_region_held3 (fun w' => w'.cell? ⟨b, 0, none⟩ = some (.int .i64 F.cap) ∧ w'.cell? ⟨b, 1, none⟩ = some (.slice (some ⟨gtg, offg, none⟩) F.n1 c1) ∧ w'.cell? ⟨b, 2, none⟩ = some (.slice A2 F.n2 c2) ∧ w'.cell? ⟨b + 1, 1, none⟩ = some (.int .i64 id) ∧ w'.cell? ⟨gtg, offg + pg * 4, none⟩ = some (.int .i64 (F.f1 pg 0)) ∧ w'.cell? ⟨gtg, offg + pg * 4 + 1, none⟩ = some (.int .i64 (F.f1 pg 1)) ∧ w'.cell? ⟨gtg, offg + pg * 4 + 2, none⟩ = some (.int .i64 (F.f1 pg 2)) ∧ w'.cell? ⟨gtg, offg + pg * 4 + 3, none⟩ = some (.int .i64 (F.f1 pg 3))) (first | exact S0g.out | exact S2g.out | exact S3g.out) (first | (go_at_call 76; refine (s_l05Group F.cap _ _ F.n1 c1 F.n2 c2 F.f1 _ _ (SRg.out.keep (Below.refl _ _).drew).2.2.2.1.g (by omega)).mono ?_; rintro e w5g ⟨rfl, hb5⟩; rw [HXg.out]; have HB5g := Lib.hid (show Below wrg.heap.size wrg w5g from (Below.refl _ _).drew.trans hb5); have K5g := Lib.hid (KRg.out.keep HB5g.out); have BZg := Lib.hid (show Below w1.heap.size w1 ((((w5g.setCell ⟨b8, 0, none⟩ (.int .i64 (F.f1 pg 0))).setCell ⟨b8, 1, none⟩ (.int .i64 (F.f1 pg 1))).setCell ⟨b8, 2, none⟩ (.int .i64 (F.f1 pg 2))).setCell ⟨b8, 3, none⟩ (.int .i64 (F.f1 pg 3))) from putR_below (SRg.out.keep HB5g.out).2.2.2.2 (K8.out.1) (F.f1 pg 0) (F.f1 pg 1) (F.f1 pg 2) (F.f1 pg 3)); have S2g : Hid ((fun w' => w'.cell? ⟨b, 0, none⟩ = some (.int .i64 F.cap) ∧ w'.cell? ⟨b, 1, none⟩ = some (.slice (some ⟨gtg, offg, none⟩) F.n1 c1) ∧ w'.cell? ⟨b, 2, none⟩ = some (.slice A2 F.n2 c2) ∧ w'.cell? ⟨b + 1, 1, none⟩ = some (.int .i64 id) ∧ w'.cell? ⟨gtg, offg + pg * 4, none⟩ = some (.int .i64 (F.f1 pg 0)) ∧ w'.cell? ⟨gtg, offg + pg * 4 + 1, none⟩ = some (.int .i64 (F.f1 pg 1)) ∧ w'.cell? ⟨gtg, offg + pg * 4 + 2, none⟩ = some (.int .i64 (F.f1 pg 2)) ∧ w'.cell? ⟨gtg, offg + pg * 4 + 3, none⟩ = some (.int .i64 (F.f1 pg 3))) w5g) := Lib.hid (HSg.out _ (SRg.out.keep HB5g.out)); have S3g : Hid ((fun w' => w'.cell? ⟨b, 0, none⟩ = some (.int .i64 F.cap) ∧ w'.cell? ⟨b, 1, none⟩ = some (.slice (some ⟨gtg, offg, none⟩) F.n1 c1) ∧ w'.cell? ⟨b, 2, none⟩ = some (.slice A2 F.n2 c2) ∧ w'.cell? ⟨b + 1, 1, none⟩ = some (.int .i64 id) ∧ w'.cell? ⟨gtg, offg + pg * 4, none⟩ = some (.int .i64 (F.f1 pg 0)) ∧ w'.cell? ⟨gtg, offg + pg * 4 + 1, none⟩ = some (.int .i64 (F.f1 pg 1)) ∧ w'.cell? ⟨gtg, offg + pg * 4 + 2, none⟩ = some (.int .i64 (F.f1 pg 2)) ∧ w'.cell? ⟨gtg, offg + pg * 4 + 3, none⟩ = some (.int .i64 (F.f1 pg 3))) ((((w5g.setCell ⟨b8, 0, none⟩ (.int .i64 (F.f1 pg 0))).setCell ⟨b8, 1, none⟩ (.int .i64 (F.f1 pg 1))).setCell ⟨b8, 2, none⟩ (.int .i64 (F.f1 pg 2))).setCell ⟨b8, 3, none⟩ (.int .i64 (F.f1 pg 3)))) := Lib.hid (HSg.out _ (S1.out.keep BZg.out)); have k0 := (K5g.out.cell 0).trans rfl; have k1 := (K5g.out.cell 1).trans rfl; have k2 := (K5g.out.cell 2).trans rfl; have k3 := (K5g.out.cell 3).trans rfl; have f0 := K5g.out.frozen 0; have f1 := K5g.out.frozen 1; have f2 := K5g.out.frozen 2; have f3 := K5g.out.frozen 3; clear hb5) | fail)
  have KZg := Lib.hid (show Blk ((((w5g.setCell ⟨b8, 0, none⟩ (.int .i64 (F.f1 pg 0))).setCell ⟨b8, 1, none⟩ (.int .i64 (F.f1 pg 1))).setCell ⟨b8, 2, none⟩ (.int .i64 (F.f1 pg 2))).setCell ⟨b8, 3, none⟩ (.int .i64 (F.f1 pg 3))) w1.heap.size b8 #[.int .i64 (F.f1 pg 0), .int .i64 (F.f1 pg 1), .int .i64 (F.f1 pg 2), .int .i64 (F.f1 pg 3)] 114 from putR_blk K5g.out (F.f1 pg 0) (F.f1 pg 1) (F.f1 pg 2) (F.f1 pg 3))
  clear S0g S2g S3g k0 k1 k2 k3 f0 f1 f2 f3 hp0g hp1g bxg
  go_upto_region 9 with fail
  have K9 := Lib.hid (show Blk ((((w5g.setCell ⟨b8, 0, none⟩ (.int .i64 (F.f1 pg 0))).setCell ⟨b8, 1, none⟩ (.int .i64 (F.f1 pg 1))).setCell ⟨b8, 2, none⟩ (.int .i64 (F.f1 pg 2))).setCell ⟨b8, 3, none⟩ (.int .i64 (F.f1 pg 3))) w1.heap.size b5 #[.int .i64 0, .int .i64 0, .int .i64 0, .int .i64 0] 91 from putR_far ((K7.out.keep HBRg.out).keep HB5g.out) hne.out (F.f1 pg 0) (F.f1 pg 1) (F.f1 pg 2) (F.f1 pg 3))
  generalize ((((w5g.setCell ⟨b8, 0, none⟩ (.int .i64 (F.f1 pg 0))).setCell ⟨b8, 1, none⟩ (.int .i64 (F.f1 pg 1))).setCell ⟨b8, 2, none⟩ (.int .i64 (F.f1 pg 2))).setCell ⟨b8, 3, none⟩ (.int .i64 (F.f1 pg 3))) = w9 at *
  have S9 := Lib.hid (S1.out.keep BZg.out)
  have K10 := KZg
  clear u08 u18 u28 v08 v18 v28 v38 v48
  obtain ⟨u09, u19, u29, v09, v19, v29, v39, v49⟩ := S9.out.cells
  have m0 := (K9.out.cell 0).trans rfl
  have m1 := (K9.out.cell 1).trans rfl
  have m2 := (K9.out.cell 2).trans rfl
  have m3 := (K9.out.cell 3).trans rfl
  have g0 := (K10.out.cell 0).trans rfl
  have g1 := (K10.out.cell 1).trans rfl
  have g2 := (K10.out.cell 2).trans rfl
  have g3 := (K10.out.cell 3).trans rfl
  obtain ⟨z0, z1, z2, z3, z4, y0, y1, y2, y3, y4⟩ := S9.out.out
  go_wp2_with fail
  exact bodyPost_ret (results_cell_row rfl _ _ _ _ _ _ _ rfl (S9.out.give 6 id (F.f1 pg 1) (F.f1 pg 2) (F.f1 pg 3)).1 hu rfl (by kernel_rfl)) rfl ((S9.out.give 6 id (F.f1 pg 1) (F.f1 pg 2) (F.f1 pg 3)).2 (by have := HBB.out; omega) (HB.out.trans (S9.out.2.2.2.2.mono (by have := HZ.out; have := HBB.out; omega))))
end Go.Proofs.Ytipkbapnhgdpeaa.C
