/- The reference's Drop. No condition. -/
import Derived.Test.YtipkbapnhgdpeaaFEdT
namespace Go.Proofs.Ytipkbapnhgdpeaa.C
open Go.RowKit
set_option maxRecDepth 100000
set_option linter.unusedVariables false
set_option linter.unusedSimpArgs false
attribute [local go_sem ↓] Go.wp_at_zero Go.wp_at_succ
theorem OutV.as {C C' : Int} {G G' : Fm} {w w' : World} {e : Ending} (h : OutV C G w e w') (e1 : C' = C) (e2 : G' = G) : OutV C' G' w e w' := e1 ▸ e2 ▸ h
/-- The farm behind an edit, or none. -/
def xF (F : Fm) (k id g a c : Int) : Fm := if edC F k id g a c = 0 then edF F k id g a c else fm0
theorem app_del {n pp : Nat} (h : pp < n) (f : Nat → Nat → Int) (i j : Nat) (hi : i < n - 1) (hj : j < 4) : appT pp f (fun p j => f (pp + 1 + p) j) i j = delT pp f i j := by
  unfold appT delT
  by_cases h1 : i < pp
  · rw [if_pos h1, if_pos h1]
  · rw [if_neg h1, if_neg h1]
    show f (pp + 1 + (i - pp)) j = _
    rw [show pp + 1 + (i - pp) = i + 1 by omega]
theorem Tab.part {w : World} {g off n pp c : Nat} {f : Nat → Nat → Int} (h : Tab 4 w (some ⟨g, off, none⟩) n f) (hp : pp < n) : Tab 4 w (some ⟨g, off, none⟩) pp f ∧ Tab 4 w (some ⟨g, off + (pp + 1) * 4, none⟩) (n - (pp + 1)) (fun p j => f (pp + 1 + p) j) ∧ ∀ f', Tab 4 w (some ⟨g, off, none⟩) 0 f' := by
  obtain ⟨g', o', e, hl, hx⟩ := h.at (by omega)
  cases e
  refine ⟨.inr ⟨g, off, rfl, hl, fun i j hi hj => hx i j (by omega) hj⟩, .inr ⟨g, _, rfl, hl, fun i j hi hj => ?_⟩, fun f' => .inr ⟨g, off, rfl, hl, fun i j hi hj => by omega⟩⟩
  have := hx (pp + 1 + i) j (by omega) hj
  rw [show off + (pp + 1) * 4 + i * 4 + j = off + (pp + 1 + i) * 4 + j by omega]
  exact this
set_option maxHeartbeats 16000000 in
theorem s_l06Drop (F : Fm) (A1 A2 : Option Addr) (c1 c2 : Nat) (k id g a c : Int) (w : World) (h : FarmAt w A1 F.n1 F.f1 A2 F.n2 F.f2) (hr : Right F) (hc1 : F.n1 ≤ c1) :
    Calls Try.prog 75 #[.agg #[.int .i64 F.cap, .slice A1 F.n1 c1, .slice A2 F.n2 c2], .agg #[.int .i64 k, .int .i64 id, .int .i64 g, .int .i64 a, .int .i64 c]] w (OutV (edC F 7 id g a c) (xF F 7 id g a c) w) := by
  have he7 : Hid (edC F 7 id g a c = if hasId F.n1 F.f1 id = false then 4 else if (busyB F.n1 F.f1 id || busyB F.n2 F.f2 id) = true then 9 else 0) := Lib.hid rfl
  have HC1 := Lib.hid hc1
  clear hc1
  rcases e0 : hasId F.n1 F.f1 id with _ | _
  · have hc : Hid (edC F 7 id g a c = 4) := Lib.hid (he7.out.trans (if_pos e0))
    have hx : Hid (xF F 7 id g a c = fm0) := Lib.hid (by unfold xF; rw [hc.out]; rfl)
    have HE0 := Lib.hid e0
    clear e0
    have hu := Try.underlying60
    have S1 := Lib.hid (SpIn.new F A1 A2 c1 c2 k id g a c w h)
    have HB : Hid (Below w.heap.size w (((w.alloc (.cells #[.int .i64 F.cap, .slice A1 F.n1 c1, .slice A2 F.n2 c2] 34)).alloc (.cells #[.int .i64 k, .int .i64 id, .int .i64 g, .int .i64 a, .int .i64 c] 56)).alloc (.cells #[.int .i64 0, .slice none 0 0, .slice none 0 0, .int .i64 0, .int .i64 0] 60))) := Lib.hid ((((Below.refl w.heap.size w).alloc (Nat.le_refl _) _).alloc (by simp) _).alloc (by simp; omega) _)
    have HZ : Hid ((((w.alloc (.cells #[.int .i64 F.cap, .slice A1 F.n1 c1, .slice A2 F.n2 c2] 34)).alloc (.cells #[.int .i64 k, .int .i64 id, .int .i64 g, .int .i64 a, .int .i64 c] 56)).alloc (.cells #[.int .i64 0, .slice none 0 0, .slice none 0 0, .int .i64 0, .int .i64 0] 60)).heap.size = w.heap.size + 1 + 1 + 1) := Lib.hid (by simp)
    clear h
    have HR := Lib.hid hr
    have hl1 := hr.l1
    have hl2 := hr.l2
    clear hr
    go_enter Try.func75, Try.ntmps75
    go_upto_region 1 with fail
    generalize (((w.alloc (.cells #[.int .i64 F.cap, .slice A1 F.n1 c1, .slice A2 F.n2 c2] 34)).alloc (.cells #[.int .i64 k, .int .i64 id, .int .i64 g, .int .i64 a, .int .i64 c] 56)).alloc (.cells #[.int .i64 0, .slice none 0 0, .slice none 0 0, .int .i64 0, .int .i64 0] 60)) = w1 at *
    obtain ⟨b, hbb⟩ : ∃ b, w.heap.size = b := ⟨_, rfl⟩
    have HBB := Lib.hid hbb
    rw [hbb] at S1 HZ ⊢
    clear hbb
    obtain ⟨u0, u1, u2, v0, v1, v2, v3, v4⟩ := S1.out.cells
    obtain ⟨x, hx⟩ : ∃ x, grpIdx F.f1 id 0 F.n1 = x := ⟨_, rfl⟩
    have Hx := Lib.hid hx
    have bx : decide (x < 0) = true := decide_eq_true (by have := grpIdx_no HE0.out; omega)
    clear hx
    go_wp2_with (first | (go_at_call 76; refine (s_l05Group F.cap A1 A2 F.n1 c1 F.n2 c2 F.f1 _ w1 S1.out.2.2.2.1.g (by omega)).mono ?_; rintro e w2 ⟨rfl, hb2⟩; rw [Hx.out]; have S2 := Lib.hid (S1.out.keep hb2); obtain ⟨u02, u12, u22, v02, v12, v22, v32, v42⟩ := S2.out.cells; clear hb2) | (go_at_call 71; refine (s_l06Wrong _ _).mono ?_; rintro e wq ⟨rfl, hbq⟩; have SQ := Lib.hid (S2.out.keep hbq); obtain ⟨z0, z1, z2, z3, z4, y0, y1, y2, y3, y4⟩ := SQ.out.out; clear hbq) | fail)
    exact bodyPost_ret (v := .agg #[.int .i64 0, .slice none 0 0, .slice none 0 0, .int .i64 0, .int .i64 4]) (results_cell_row rfl _ _ _ _ _ _ _ rfl (SQ.out.wrong _).1 hu rfl (by kernel_rfl)) rfl (OutV.as ((SQ.out.wrong 4).2 (by have := HBB.out; omega) (HB.out.trans (SQ.out.2.2.2.2.mono (by have := HZ.out; have := HBB.out; omega)))) hc.out hx.out)
  · have HE0 := Lib.hid e0
    have he9 : Hid ((busyB F.n1 F.f1 id || busyB F.n2 F.f2 id) = true → edC F 7 id g a c = 9) := Lib.hid fun h => by rw [he7.out, if_neg (by rw [e0]; decide), if_pos h]
    have he0 : Hid ((busyB F.n1 F.f1 id || busyB F.n2 F.f2 id) = false → edC F 7 id g a c = 0) := Lib.hid fun h => by rw [he7.out, if_neg (by rw [e0]; decide), if_neg (by rw [h]; decide)]
    clear e0
    have hu := Try.underlying60
    have S1 := Lib.hid (SpIn.new F A1 A2 c1 c2 k id g a c w h)
    have HB : Hid (Below w.heap.size w (((w.alloc (.cells #[.int .i64 F.cap, .slice A1 F.n1 c1, .slice A2 F.n2 c2] 34)).alloc (.cells #[.int .i64 k, .int .i64 id, .int .i64 g, .int .i64 a, .int .i64 c] 56)).alloc (.cells #[.int .i64 0, .slice none 0 0, .slice none 0 0, .int .i64 0, .int .i64 0] 60))) := Lib.hid ((((Below.refl w.heap.size w).alloc (Nat.le_refl _) _).alloc (by simp) _).alloc (by simp; omega) _)
    have HZ : Hid ((((w.alloc (.cells #[.int .i64 F.cap, .slice A1 F.n1 c1, .slice A2 F.n2 c2] 34)).alloc (.cells #[.int .i64 k, .int .i64 id, .int .i64 g, .int .i64 a, .int .i64 c] 56)).alloc (.cells #[.int .i64 0, .slice none 0 0, .slice none 0 0, .int .i64 0, .int .i64 0] 60)).heap.size = w.heap.size + 1 + 1 + 1) := Lib.hid (by simp)
    clear h
    have HR := Lib.hid hr
    have hl1 := hr.l1
    have hl2 := hr.l2
    clear hr
    go_enter Try.func75, Try.ntmps75
    go_upto_region 1 with fail
    generalize (((w.alloc (.cells #[.int .i64 F.cap, .slice A1 F.n1 c1, .slice A2 F.n2 c2] 34)).alloc (.cells #[.int .i64 k, .int .i64 id, .int .i64 g, .int .i64 a, .int .i64 c] 56)).alloc (.cells #[.int .i64 0, .slice none 0 0, .slice none 0 0, .int .i64 0, .int .i64 0] 60)) = w1 at *
    obtain ⟨b, hbb⟩ : ∃ b, w.heap.size = b := ⟨_, rfl⟩
    have HBB := Lib.hid hbb
    rw [hbb] at S1 HZ ⊢
    clear hbb
    obtain ⟨u0, u1, u2, v0, v1, v2, v3, v4⟩ := S1.out.cells
    obtain ⟨x, hx⟩ : ∃ x, grpIdx F.f1 id 0 F.n1 = x := ⟨_, rfl⟩
    have hxp := hx.symm.trans (grpIdx_pos HR.out.r1 HE0.out)
    have hpn := (has_at HR.out.r1 HE0.out).1
    have hed := Lib.hid (show edF F 7 id g a c = { F with n1 := F.n1 - 1, f1 := delT (posT F.n1 F.f1 id) F.f1 } from rfl)
    generalize posT F.n1 F.f1 id = pp at *
    subst hxp
    have Hx := Lib.hid hx
    clear hx
    have bx : decide ((pp : Int) < 0) = false := decide_eq_false (by omega)
    go_wp2_with (first | (go_at_call 76; refine (s_l05Group F.cap A1 A2 F.n1 c1 F.n2 c2 F.f1 _ w1 S1.out.2.2.2.1.g (by omega)).mono ?_; rintro e w2 ⟨rfl, hb2⟩; rw [Hx.out]; have S2 := Lib.hid (S1.out.keep hb2); obtain ⟨u02, u12, u22, v02, v12, v22, v32, v42⟩ := S2.out.cells; clear hb2) | fail)
    clear u0 u1 u2 v0 v1 v2 v3 v4 bx
    try clear u02 u12 u22 v02 v12 v22 v32 v42
    go_loopw [6] (fun v6 wr => ∃ i : Nat, i ≤ F.n1 ∧ v6 = .int .i64 i ∧ Hid (∀ j, j < i → F.f1 j 1 ≠ id) ∧ Hid (Below w1.heap.size w1 wr)) (fun v6 _ => F.n1 - (intOf v6).toNat)
    case atStart => exact ⟨0, by omega, rfl, Lib.hid (by intro j hj; omega), Lib.hid S2.out.2.2.2.2⟩
    case round =>
      obtain ⟨i, hi, rfl, KI, KB⟩ := hrel
      have SR := Lib.hid (S1.out.keep KB.out)
      obtain ⟨u0, u1, u2, v0, v1, v2, v3, v4⟩ := SR.out.cells
      by_cases h5 : i < F.n1
      · have b1 : decide ((i : Int) < (F.n1 : Int)) = true := decide_eq_true (by omega)
        obtain ⟨gt, off, eA, hgl, hx⟩ := SR.out.2.2.2.1.g.at (by omega)
        subst eA
        have x1 := hx i 1 h5 (by omega)
        clear hx
        have FT : ∀ p : BehW wr, (SpIn b w1 F (some ⟨gt, off, none⟩) A2 c1 c2 k id g a c p.w) := fun p => SR.out.keep p.h
        have t2 : ∀ p : BehW wr, p.w.cell? ⟨b, 1, none⟩ = some (.slice (some ⟨gt, off, none⟩) F.n1 c1) := fun p => (FT p).cells.2.1
        have t3 : ∀ p : BehW wr, p.w.cell? ⟨b + 1, 1, none⟩ = some (.int .i64 id) := fun p => (FT p).cells.2.2.2.2.1
        have t4 : ∀ p : BehW wr, p.w.cell? ⟨gt, off + i * 4 + 1, none⟩ = some (.int .i64 (F.f1 i 1)) := fun p => (p.h.cell (p := ⟨gt, off + i * 4 + 1, none⟩) hgl).trans x1
        have hi0 : (0 : Int) ≤ (i : Int) := by omega
        have hi1 : (i : Int) < (F.n1 : Int) := by omega
        clear FT
        by_cases h6 : F.f1 i 1 = id
        · have bc : (F.f1 i 1 == id) = true := by simpa using h6
          have hbz : Hid (busyB F.n1 F.f1 id = true) := Lib.hid (by unfold busyB; exact List.any_eq_true.2 ⟨i, List.mem_range.2 h5, bc⟩)
          have hc : Hid (edC F 7 id g a c = 9) := Lib.hid (he9.out (by rw [hbz.out]; rfl))
          have hx : Hid (xF F 7 id g a c = fm0) := Lib.hid (by unfold xF; rw [hc.out]; rfl)
          clear h6
          go_upto_region 7 with fail
          refine wp_region_beh (by kernel_rfl) (by kernel_rfl) ?_
          repeat (go_big_quiet_step (fail))
          refine wpQuiet_nil ?_
          intro _ hw'
          obtain ⟨q1, hw''⟩ := hw'
          subst hw''
          have S3 := Lib.hid (SR.out.keep q1.h)
          go_wp2_with (first | (go_at_call 71; refine (s_l06Wrong _ _).mono ?_; rintro e wq ⟨rfl, hbq⟩; have SQ := Lib.hid (S3.out.keep hbq); obtain ⟨z0, z1, z2, z3, z4, y0, y1, y2, y3, y4⟩ := SQ.out.out; clear hbq) | fail)
          exact bodyPost_ret (v := .agg #[.int .i64 0, .slice none 0 0, .slice none 0 0, .int .i64 0, .int .i64 9]) (results_cell_row rfl _ _ _ _ _ _ _ rfl (SQ.out.wrong _).1 hu rfl (by kernel_rfl)) rfl (OutV.as ((SQ.out.wrong 9).2 (by have := HBB.out; omega) (HB.out.trans (SQ.out.2.2.2.2.mono (by have := HZ.out; have := HBB.out; omega)))) hc.out hx.out)
        · have bc : (F.f1 i 1 == id) = false := by simpa using h6
          have KI2 := Lib.hid (show ∀ j, j < i + 1 → F.f1 j 1 ≠ id from fun j hj => by rcases Nat.lt_succ_iff_lt_or_eq.1 hj with h | rfl; exact KI.out j h; exact h6)
          clear h6
          go_upto_region 7 with fail
          refine wp_region_beh (by kernel_rfl) (by kernel_rfl) ?_
          repeat (go_big_quiet_step (fail))
          refine wpQuiet_nil ?_
          intro _ hw'
          obtain ⟨q1, hw''⟩ := hw'
          subst hw''
          go_wp2_with fail
          go_roundw
          case rel => exact ⟨i + 1, by omega, by go_num, KI2, Lib.hid (btrans KB.out q1.h)⟩
          case measure => simp [intOf]; omega
      · have b1 : decide ((i : Int) < (F.n1 : Int)) = false := decide_eq_false (by omega)
        have HN1 : Hid (busyB F.n1 F.f1 id = false) := Lib.hid (by unfold busyB; exact List.any_eq_false.2 fun j hj => by have := KI.out j (by have := List.mem_range.1 hj; omega); simpa using this)
        go_wp2_with fail
        clear u0 u1 u2 v0 v1 v2 v3 v4 b1
        go_loopw [7] (fun v7 wx => ∃ i : Nat, i ≤ F.n2 ∧ v7 = .int .i64 i ∧ Hid (∀ j, j < i → F.f2 j 1 ≠ id) ∧ Hid (Below w1.heap.size w1 wx)) (fun v7 _ => F.n2 - (intOf v7).toNat)
        case atStart => exact ⟨0, by omega, rfl, Lib.hid (by intro j hj; omega), KB⟩
        case round =>
          clear KI hi h5 SR KB
          obtain ⟨i, hi, rfl, KI, KB⟩ := hrel
          have SR := Lib.hid (S1.out.keep KB.out)
          obtain ⟨u0, u1, u2, v0, v1, v2, v3, v4⟩ := SR.out.cells
          by_cases h5 : i < F.n2
          · have b1 : decide ((i : Int) < (F.n2 : Int)) = true := decide_eq_true (by omega)
            obtain ⟨gt, off, eA, hgl, hx⟩ := SR.out.2.2.2.1.m.at (by omega)
            subst eA
            have x1 := hx i 1 h5 (by omega)
            clear hx
            have FT : ∀ p : BehW wr, (SpIn b w1 F A1 (some ⟨gt, off, none⟩) c1 c2 k id g a c p.w) := fun p => SR.out.keep p.h
            have t2 : ∀ p : BehW wr, p.w.cell? ⟨b, 2, none⟩ = some (.slice (some ⟨gt, off, none⟩) F.n2 c2) := fun p => (FT p).cells.2.2.1
            have t3 : ∀ p : BehW wr, p.w.cell? ⟨b + 1, 1, none⟩ = some (.int .i64 id) := fun p => (FT p).cells.2.2.2.2.1
            have t4 : ∀ p : BehW wr, p.w.cell? ⟨gt, off + i * 4 + 1, none⟩ = some (.int .i64 (F.f2 i 1)) := fun p => (p.h.cell (p := ⟨gt, off + i * 4 + 1, none⟩) hgl).trans x1
            have hi0 : (0 : Int) ≤ (i : Int) := by omega
            have hi1 : (i : Int) < (F.n2 : Int) := by omega
            clear FT
            by_cases h6 : F.f2 i 1 = id
            · have bc : (F.f2 i 1 == id) = true := by simpa using h6
              have hbz : Hid (busyB F.n2 F.f2 id = true) := Lib.hid (by unfold busyB; exact List.any_eq_true.2 ⟨i, List.mem_range.2 h5, bc⟩)
              have hc : Hid (edC F 7 id g a c = 9) := Lib.hid (he9.out (by rw [hbz.out, Bool.or_true]))
              have hx : Hid (xF F 7 id g a c = fm0) := Lib.hid (by unfold xF; rw [hc.out]; rfl)
              clear h6
              go_upto_region 12 with fail
              refine wp_region_beh (by kernel_rfl) (by kernel_rfl) ?_
              repeat (go_big_quiet_step (fail))
              refine wpQuiet_nil ?_
              intro _ hw'
              obtain ⟨q1, hw''⟩ := hw'
              subst hw''
              have S3 := Lib.hid (SR.out.keep q1.h)
              go_wp2_with (first | (go_at_call 71; refine (s_l06Wrong _ _).mono ?_; rintro e wq ⟨rfl, hbq⟩; have SQ := Lib.hid (S3.out.keep hbq); obtain ⟨z0, z1, z2, z3, z4, y0, y1, y2, y3, y4⟩ := SQ.out.out; clear hbq) | fail)
              exact bodyPost_ret (v := .agg #[.int .i64 0, .slice none 0 0, .slice none 0 0, .int .i64 0, .int .i64 9]) (results_cell_row rfl _ _ _ _ _ _ _ rfl (SQ.out.wrong _).1 hu rfl (by kernel_rfl)) rfl (OutV.as ((SQ.out.wrong 9).2 (by have := HBB.out; omega) (HB.out.trans (SQ.out.2.2.2.2.mono (by have := HZ.out; have := HBB.out; omega)))) hc.out hx.out)
            · have bc : (F.f2 i 1 == id) = false := by simpa using h6
              have KI2 := Lib.hid (show ∀ j, j < i + 1 → F.f2 j 1 ≠ id from fun j hj => by rcases Nat.lt_succ_iff_lt_or_eq.1 hj with h | rfl; exact KI.out j h; exact h6)
              clear h6
              go_upto_region 12 with fail
              refine wp_region_beh (by kernel_rfl) (by kernel_rfl) ?_
              repeat (go_big_quiet_step (fail))
              refine wpQuiet_nil ?_
              intro _ hw'
              obtain ⟨q1, hw''⟩ := hw'
              subst hw''
              go_wp2_with fail
              go_roundw
              case rel => exact ⟨i + 1, by omega, by go_num, KI2, Lib.hid (btrans KB.out q1.h)⟩
              case measure => simp [intOf]; omega
          · have b1 : decide ((i : Int) < (F.n2 : Int)) = false := decide_eq_false (by omega)
            have HN2 : Hid (busyB F.n2 F.f2 id = false) := Lib.hid (by unfold busyB; exact List.any_eq_false.2 fun j hj => by have := KI.out j (by have := List.mem_range.1 hj; omega); simpa using this)
            have hc : Hid (edC F 7 id g a c = 0) := Lib.hid (he0.out (by rw [HN1.out, HN2.out]; rfl))
            have hx : Hid (xF F 7 id g a c = edF F 7 id g a c) := Lib.hid (by unfold xF; rw [if_pos hc.out])
            go_upto_region 15 with (first | (go_at_call 72; refine (s_l06Copy F.cap A1 A2 F.n1 c1 F.n2 c2 F.f1 F.f2 wr SR.out.2.2.2.1 (by omega) (by omega)).mono ?_; rintro e w4 ⟨vg, vm, rfl, hO1, hO2, hb4⟩; obtain ⟨G1', d1, rfl, -, -⟩ := hO1.tab; obtain ⟨G2', d2, rfl, -, -⟩ := hO2.tab; have O2 := Lib.hid hO2; have HBC := Lib.hid hb4; clear hO1 hO2 hb4) | fail)
            have O0 := Lib.hid (O2.out.mono (B' := b) (by have := SR.out.2.2.2.2.size; have := HZ.out; omega))
            clear O2 u0 u1 u2 v0 v1 v2 v3 v4 b1 KI hi h5
            have S4 := Lib.hid (SR.out.keep HBC.out)
            have al5 := (Below.refl w4.heap.size w4).alloc (Nat.le_refl _) (.cells #[.int .i64 F.cap, .slice G1' F.n1 d1, .slice G2' F.n2 d2] 34)
            have K5 := Lib.hid (Blk.new (w := w4) (B := w4.heap.size) (Nat.le_refl _) #[.int .i64 F.cap, .slice G1' F.n1 d1, .slice G2' F.n2 d2] 34)
            have S5 := Lib.hid (S4.out.keep al5)
            have O5 := Lib.hid (O0.out.keep al5)
            have L5 := Lib.hid (show b + 1 + 1 < w4.heap.size from S4.out.2.2.1.lt)
            have L6 := Lib.hid (show w1.heap.size ≤ w4.heap.size from S4.out.2.2.2.2.size)
            have NX := Lib.hid (show ∀ k, (.slice G2' F.n2 d2 : Value).ownBlock = some k → k < w4.heap.size from fun k e => (World.ownsRow.lt O0.out k e).2)
            clear al5 S4 O0 HBC SR KB
            generalize (w4.alloc (.cells #[.int .i64 F.cap, .slice G1' F.n1 d1, .slice G2' F.n2 d2] 34)) = w5 at *
            generalize hb5 : w4.heap.size = b5 at *
            clear hb5
            obtain ⟨gt, off, eA, -, -⟩ := S5.out.2.2.2.1.g.at (by omega)
            subst eA
            have hcc := HC1.out
            have HS := Lib.hid (show ∀ w' : World, Blk w' b5 b5 #[.int .i64 F.cap, (.slice G1' F.n1 d1), (.slice G2' F.n2 d2)] 34 → SpIn b w1 F (some ⟨gt, off, none⟩) A2 c1 c2 k id g a c w' → (w'.cell? ⟨b, 1, none⟩ = some (.slice (some ⟨gt, off, none⟩) F.n1 c1) ∧ w'.cell? ⟨b5, 1, none⟩ = some (.slice G1' F.n1 d1) ∧ w'.frozen? ⟨b5, 1, none⟩ = false) from fun w' h1 h2 => ⟨(h2.1.cell 1).trans rfl, (h1.cell 1).trans rfl, h1.frozen 1⟩)
            have al := (Below.refl w5.heap.size w5).drew.alloc (Nat.le_refl _) (.cells #[] 114)
            have KA := Lib.hid (K5.out.keep al)
            have SA := Lib.hid (S5.out.keep al)
            have S0 : Hid ((fun w' => w'.cell? ⟨b, 1, none⟩ = some (.slice (some ⟨gt, off, none⟩) F.n1 c1) ∧ w'.cell? ⟨b5, 1, none⟩ = some (.slice G1' F.n1 d1) ∧ w'.frozen? ⟨b5, 1, none⟩ = false) w5.drew) := Lib.hid (HS.out _ K5.out.drew (S5.out.keep (Below.refl _ _).drew))
            have S3 : Hid ((fun w' => w'.cell? ⟨b, 1, none⟩ = some (.slice (some ⟨gt, off, none⟩) F.n1 c1) ∧ w'.cell? ⟨b5, 1, none⟩ = some (.slice G1' F.n1 d1) ∧ w'.frozen? ⟨b5, 1, none⟩ = false) (w5.drew.alloc (.cells #[] 114))) := Lib.hid (HS.out _ KA.out SA.out)
            have hbo : b5 < w5.heap.size := K5.out.lt
            have HBO := Lib.hid hbo
            have hp0 : (0 : Int) ≤ (pp : Int) := by omega
            have hp1 : (pp : Int) ≤ (c1 : Int) := by omega
            have hp2 : IntKind.i64.wrap ((pp : Int) + 1) = (pp : Int) + 1 := by rw [IntKind.wrap_i64]; omega
            have hp3 : (0 : Int) ≤ (pp : Int) + 1 := by omega
            have hp4 : (pp : Int) + 1 ≤ (F.n1 : Int) := by omega
            have hp5 : (F.n1 : Int) ≤ (c1 : Int) := by omega
            have hp6 : ((pp : Int) + 1).toNat = pp + 1 := by omega
            have PT := Lib.hid (fun (w' : World) (h : SpIn b w1 F (some ⟨gt, off, none⟩) A2 c1 c2 k id g a c w') => Tab.part (c := 0) h.2.2.2.1.g (show pp < F.n1 by omega))
            clear al
            refine wp_region_fin (fun w' => w'.cell? ⟨b, 1, none⟩ = some (.slice (some ⟨gt, off, none⟩) F.n1 c1) ∧ w'.cell? ⟨b5, 1, none⟩ = some (.slice G1' F.n1 d1) ∧ w'.frozen? ⟨b5, 1, none⟩ = false) 13 (by kernel_rfl) S0.out (fun hHeld => ?_)
            refine wpFin_take (i := 1) (v := ?_) (by kernel_rfl) rfl (by decide) (by kernel_rfl) (by kernel_rfl) (by kernel_rfl) (fun _ _ _ h => h) (Or.inl ⟨by rfl, ?_⟩) (by assumption) ?_
            rotate_left 1
            · (intro w hSw; (try dsimp only at hSw); go_simp; first | done | with_reducible rfl)
            try simp only [Act.put, List.setIfInBounds_toArray, List.set_cons_zero, List.set_cons_succ]
            refine wpFin_take (i := 2) (v := ?_) (by kernel_rfl) rfl (by decide) (by kernel_rfl) (by kernel_rfl) (by kernel_rfl) (fun _ _ _ h => h) (Or.inl ⟨by rfl, ?_⟩) (by assumption) ?_
            rotate_left 1
            · (intro w hSw; (try dsimp only at hSw); go_simp; first | done | with_reducible rfl)
            try simp only [Act.put, List.setIfInBounds_toArray, List.set_cons_zero, List.set_cons_succ]
            refine wpFin_take (i := 3) (v := ?_) (by kernel_rfl) rfl (by decide) (by kernel_rfl) (by kernel_rfl) (by kernel_rfl) (fun _ _ _ h => h) (Or.inl ⟨by rfl, ?_⟩) (by assumption) ?_
            rotate_left 1
            · (intro w hSw; (try dsimp only at hSw); go_simp; first | done | with_reducible rfl)
            try simp only [Act.put, List.setIfInBounds_toArray, List.set_cons_zero, List.set_cons_succ]
            refine wpFin_take (i := 4) (v := ?_) (by kernel_rfl) rfl (by decide) (by kernel_rfl) (by kernel_rfl) (by kernel_rfl) (fun _ _ _ h => h) (Or.inl ⟨by rfl, ?_⟩) (by assumption) ?_
            rotate_left 1
            · (intro w hSw; (try dsimp only at hSw); go_simp; first | done | with_reducible rfl)
            try simp only [Act.put, List.setIfInBounds_toArray, List.set_cons_zero, List.set_cons_succ]
            refine wpFin_take (i := 6) (v := ?_) (by kernel_rfl) rfl (by decide) (by kernel_rfl) (by kernel_rfl) (by kernel_rfl) (fun _ _ _ h => h) (Or.inl ⟨by rfl, ?_⟩) (by assumption) ?_
            rotate_left 1
            · (intro w hSw; (try dsimp only at hSw); go_simp; first | done | with_reducible rfl)
            try simp only [Act.put, List.setIfInBounds_toArray, List.set_cons_zero, List.set_cons_succ]
            refine wpFin_take (i := 7) (v := ?_) (by kernel_rfl) rfl (by decide) (by kernel_rfl) (by kernel_rfl) (by kernel_rfl) (fun _ _ _ h => h) (Or.inl ⟨by rfl, ?_⟩) (by assumption) ?_
            rotate_left 1
            · (intro w hSw; (try dsimp only at hSw); go_simp; first | done | with_reducible rfl)
            try simp only [Act.put, List.setIfInBounds_toArray, List.set_cons_zero, List.set_cons_succ]
            refine wpFin_take (i := 8) (v := ?_) (by kernel_rfl) rfl (by decide) (by kernel_rfl) (by kernel_rfl) (by kernel_rfl) (fun _ _ _ h => h) (Or.inl ⟨by rfl, ?_⟩) (by assumption) ?_
            rotate_left 1
            · (intro w hSw; (try dsimp only at hSw); go_simp; first | done | with_reducible rfl)
            try simp only [Act.put, List.setIfInBounds_toArray, List.set_cons_zero, List.set_cons_succ]
            refine wpFin_take (i := 9) (v := ?_) (by kernel_rfl) rfl (by decide) (by kernel_rfl) (by kernel_rfl) (by kernel_rfl) (fun _ _ _ h => h) (Or.inl ⟨by rfl, ?_⟩) (by assumption) ?_
            rotate_left 1
            · (intro w hSw; (try dsimp only at hSw); go_simp; first | done | with_reducible rfl)
            try simp only [Act.put, List.setIfInBounds_toArray, List.set_cons_zero, List.set_cons_succ]
            refine wpFin_take (i := 10) (v := ?_) (by kernel_rfl) rfl (by decide) (by kernel_rfl) (by kernel_rfl) (by kernel_rfl) (fun _ _ _ h => h) (Or.inl ⟨by rfl, ?_⟩) (by assumption) ?_
            rotate_left 1
            · (intro w hSw; (try dsimp only at hSw); go_simp; first | done | with_reducible rfl)
            try simp only [Act.put, List.setIfInBounds_toArray, List.set_cons_zero, List.set_cons_succ]
            refine wpFin_one (i := 0) (by kernel_rfl) rfl (fun K hK => ?_)
            go_simp
            refine hK.out _ _ (fun _ => S3.out) (fun hS => ?_)
            have hHeld := hS (by decide)
            clear hK K hS
            try simp only [Act.put, List.setIfInBounds_toArray, List.set_cons_zero, List.set_cons_succ]
            clear hp2 hp6
            refine wpFin_one (i := 5) (by kernel_rfl) rfl (fun K hK => ?_)
            refine step_append0 ttG rfl (.tmp 52) (.tmp 56) rfl _ rfl (heap_alloc_new _ _) _ pp F.f1 _ rfl (PT.out _ SA.out).1 (by omega) (b5 + 1) (by have := HBO.out; simp; omega) ?_
            intro v' w3 hO hb3
            obtain ⟨A7, c7, rfl, -, -⟩ := OwnT.tab hO
            have O3 := Lib.hid hO
            have K3 := Lib.hid (KA.out.keep hb3)
            have SP3 := Lib.hid (SA.out.keep hb3)
            have B3 := Lib.hid (show Below w5.heap.size w5 w3 from ((Below.refl _ _).drew.alloc (Nat.le_refl _) _).trans (hb3.mono (by simp)))
            have S4 : Hid ((fun w' => w'.cell? ⟨b, 1, none⟩ = some (.slice (some ⟨gt, off, none⟩) F.n1 c1) ∧ w'.cell? ⟨b5, 1, none⟩ = some (.slice G1' F.n1 d1) ∧ w'.frozen? ⟨b5, 1, none⟩ = false) w3) := Lib.hid (HS.out _ K3.out SP3.out)
            clear hO hb3
            refine hK.out _ _ (fun _ => S4.out) (fun hS => ?_)
            have hHeld := hS (by decide)
            clear hK K hS
            try simp only [Act.put, List.setIfInBounds_toArray, List.set_cons_zero, List.set_cons_succ]
            refine wpFin_one (i := 11) (by kernel_rfl) rfl (fun K hK => ?_)
            refine step_append_t ttG rfl (.tmp 57) (.tmp 62) rfl (b5 + 1) _ pp F.f1 rfl O3.out _ (F.n1 - (pp + 1)) (fun p j => F.f1 (pp + 1 + p) j) _ (by rfl) (by (by_cases hq : c1 = pp + 1; exact (by rw [if_pos hq, show F.n1 - (pp + 1) = 0 by omega]; exact (PT.out _ SP3.out).2.2 _); exact (by rw [if_neg hq]; exact (PT.out _ SP3.out).2.1))) (by omega) (by have := HBO.out; have := B3.out.size; omega) ?_
            intro v' w4 hO hgr
            obtain ⟨Aw, cw, rfl, -, -⟩ := OwnT.tab hO
            have O4 := Lib.hid (show OwnT 114 w4 (b5 + 1) (.slice Aw (pp + (F.n1 - (pp + 1))) cw) (F.n1 - 1) (delT pp F.f1) from by have h := hO; rw [show pp + (F.n1 - (pp + 1)) = F.n1 - 1 by omega] at h ⊢; exact h.congr fun i j hi hj => app_del (show pp < F.n1 by omega) F.f1 i j hi hj)
            have NF := Lib.hid (O3.out.neBlk K3.out (by decide))
            have K4 := Lib.hid (K3.out.grownO hgr NF.out)
            have B4 := Lib.hid (show Below (b5 + 1) w5 w4 from (B3.out.mono hbo).grown hgr (by have := B3.out.size; omega) (fun k hk => (World.ownsRow.lt O3.out k hk).1))
            have sc := (K4.out.cell 1).trans rfl
            have sf := K4.out.frozen 1
            clear hO hgr
            have S5 : Hid ((fun w' => w'.cell? ⟨b, 1, none⟩ = some (.slice (some ⟨gt, off, none⟩) F.n1 c1) ∧ w'.cell? ⟨b5, 1, none⟩ = some (.slice G1' F.n1 d1) ∧ w'.frozen? ⟨b5, 1, none⟩ = false) w4) := Lib.hid ⟨by have := B4.out.cell (p := ⟨b, 1, none⟩) (by have := L5.out; show b < b5 + 1; omega); exact this.trans ((S5.out.1.cell 1).trans rfl), sc, sf⟩
            refine hK.out _ _ (fun _ => S5.out) (fun hS => ?_)
            have hHeld := hS (by decide)
            clear hK K hS
            try simp only [Act.put, List.setIfInBounds_toArray, List.set_cons_zero, List.set_cons_succ]
            refine wpFin_take (i := 12) (v := ?_) (by kernel_rfl) rfl (by decide) (by kernel_rfl) (by kernel_rfl) (by kernel_rfl) (fun _ _ _ h => h) (Or.inl ⟨by rfl, ?_⟩) (by assumption) ?_
            rotate_left 1
            · (intro w hSw; (try dsimp only at hSw); go_simp; first | done | with_reducible rfl)
            try simp only [Act.put, List.setIfInBounds_toArray, List.set_cons_zero, List.set_cons_succ]
            refine wpFin_one (i := 13) (by kernel_rfl) rfl (fun K hK => ?_)
            go_simp
            refine hK.out _ _ (fun h => absurd rfl h) (fun hS => ?_)
            clear hK K hS
            try simp only [Act.put, List.setIfInBounds_toArray, List.set_cons_zero, List.set_cons_succ]
            refine wpFin_done (by kernel_rfl) ?_ _
            have F9 := Lib.hid ((K4.out.setc 1 (.slice Aw (pp + (F.n1 - (pp + 1))) cw)).cast (ds := #[.int .i64 F.cap, (.slice Aw (pp + (F.n1 - (pp + 1))) cw), (.slice G2' F.n2 d2)]) (by simp only [List.setIfInBounds_toArray, List.set_cons_zero, List.set_cons_succ]))
            have O9 := Lib.hid (O4.out.setf (p := ⟨b5, 1, none⟩) (O4.out.neBlk K4.out (by decide)) (.slice Aw (pp + (F.n1 - (pp + 1))) cw))
            have B9 := Lib.hid (show Below b5 w5 (w4.setCell ⟨b5, 1, none⟩ (.slice Aw (pp + (F.n1 - (pp + 1))) cw)) from (B4.out.mono (Nat.le_succ _)).setCell (p := ⟨b5, 1, none⟩) (Nat.le_refl _) (.slice Aw (pp + (F.n1 - (pp + 1))) cw))
            clear S0 S3 S4 S5 sc sf hHeld
            have BE := Lib.hid (S5.out.2.2.2.2.trans (B9.out.mono L6.out))
            have SE := Lib.hid (S1.out.keep BE.out)
            obtain ⟨z0, z1, z2, z3, z4, y0, y1, y2, y3, y4⟩ := SE.out.out
            have k0 := (F9.out.cell 0).trans rfl
            have k1 := (F9.out.cell 1).trans rfl
            have k2 := (F9.out.cell 2).trans rfl
            have hne : b5 ≠ b + 1 + 1 := by have := L5.out; omega
            have OE := Lib.hid (O5.out.low B9.out NX.out)
            have hlo : w.heap.size ≤ b := by have := HBB.out; omega
            have FV : FarmV (w4.setCell ⟨b5, 1, none⟩ (.slice Aw (pp + (F.n1 - (pp + 1))) cw)) w.heap.size (edF F 7 id g a c) (.slice Aw (pp + (F.n1 - (pp + 1))) cw) (.slice G2' F.n2 d2) := by rw [hed.out]; exact ⟨O9.out.mono (by have := L5.out; omega), OE.out.mono hlo⟩
            go_wp2_with fail
            all_goals exact bodyPost_ret (v := .agg #[.int .i64 F.cap, (.slice Aw (pp + (F.n1 - (pp + 1))) cw), (.slice G2' F.n2 d2), .int .i64 0, .int .i64 0]) (results_cell_row rfl _ _ _ _ _ _ _ rfl (putOut_blk SE.out.2.2.1 rfl _ _ _ _ _).2 hu rfl (by kernel_rfl)) rfl (OutV.as ⟨_, _, by rw [hed.out], FV.putOut (FV.1.neBlk SE.out.2.2.1 (by decide)) (FV.2.neBlk SE.out.2.2.1 (by decide)) _ _ _ _ _, putOut_below (HB.out.trans (BE.out.mono (by have := HZ.out; have := HBB.out; omega))) (by omega) _ _ _ _ _⟩ hc.out hx.out)
end Go.Proofs.Ytipkbapnhgdpeaa.C
