/- The reference's Join and Group, when they go. No condition. -/
import Derived.Test.YtipkbapnhgdpeaaFEdS
namespace Go.Proofs.Ytipkbapnhgdpeaa.C
open Go.RowKit
set_option maxRecDepth 100000
set_option linter.unusedVariables false
set_option linter.unusedSimpArgs false
attribute [local go_sem ↓] Go.wp_at_zero Go.wp_at_succ
/-- How many rows stand when i have been looked at. -/
def cnt (pp i : Nat) : Nat := if pp < i then i + 1 else i
def dn (pp i : Nat) : Bool := decide (pp < i)
theorem cnt_le {pp i : Nat} (h : i ≤ pp) : cnt pp i = i := by unfold cnt; rw [if_neg (by omega)]
theorem cnt_gt {pp i : Nat} (h : pp < i) : cnt pp i = i + 1 := by unfold cnt; rw [if_pos h]
theorem dn_le {pp i : Nat} (h : i ≤ pp) : dn pp i = false := decide_eq_false (by omega)
theorem dn_gt {pp i : Nat} (h : pp < i) : dn pp i = true := decide_eq_true h
theorem app_same {n : Nat} {f : Nat → Nat → Int} {r : Nat → Int} (h : ∀ j, f n j = r j) (i j : Nat) (hi : i < n + 1) (hj : j < 4) : appT n f (fun _ => r) i j = f i j := by
  unfold appT
  by_cases h1 : i < n
  · rw [if_pos h1]
  · rw [if_neg h1, show i = n by omega, h j]
theorem OwnT.low {t : TypeId} {w w' : World} {B C n : Nat} {v : Value} {f : Nat → Nat → Int} (h : OwnT t w B v n f) (hb : Below C w w') (hk : ∀ k, v.ownBlock = some k → k < C) : OwnT t w' B v n f := by
  obtain ⟨hl, h | ⟨g, cap, cur, rfl, hB, hg, hr⟩⟩ := h
  · exact ⟨hl, .inl h⟩
  · exact ⟨hl, .inr ⟨g, cap, cur, rfl, hB, (hb.block g (hk g rfl)).trans hg, hr⟩⟩
theorem tab_new4 (tE : TypeId) (w : World) (x y z p : Int) : Tab 4 (w.alloc (.cells #[.int .i64 x, .int .i64 y, .int .i64 z, .int .i64 p] tE)) (some ⟨w.heap.size, 0, none⟩) 1 (fun _ => r4 x y z p) := tab_new tE w (r4 x y z p)
set_option maxHeartbeats 16000000 in
theorem s_join_go (F : Fm) (A1 A2 : Option Addr) (c1 c2 : Nat) (k id g a c : Int) (w : World) (h : FarmAt w A1 F.n1 F.f1 A2 F.n2 F.f2) (hr : Right F) (e0 : hasId F.n2 F.f2 id = false) (e1 : hasG F g = true) (e2 : F.n2 ≠ 60) :
    Calls Try.prog 73 #[.agg #[.int .i64 F.cap, .slice A1 F.n1 c1, .slice A2 F.n2 c2], .agg #[.int .i64 k, .int .i64 id, .int .i64 g, .int .i64 a, .int .i64 c]] w (OutV 0 (edF F 1 id g a c) w) := by
  have HE0 := Lib.hid e0
  have HE1 := Lib.hid e1
  have HE2 := Lib.hid e2
  clear e0 e1 e2
  by_cases hg0 : g = 0
  case' pos =>
    have HG0 := Lib.hid hg0
    clear hg0
    have hu := Try.underlying60
    have S1 := Lib.hid (SpIn.new F A1 A2 c1 c2 k id g a c w h)
    have HB : Hid (Below w.heap.size w (((w.alloc (.cells #[.int .i64 F.cap, .slice A1 F.n1 c1, .slice A2 F.n2 c2] 34)).alloc (.cells #[.int .i64 k, .int .i64 id, .int .i64 g, .int .i64 a, .int .i64 c] 56)).alloc (.cells #[.int .i64 0, .slice none 0 0, .slice none 0 0, .int .i64 0, .int .i64 0] 60))) := Lib.hid ((((Below.refl w.heap.size w).alloc (Nat.le_refl _) _).alloc (by simp) _).alloc (by simp; omega) _)
    have HZ : Hid ((((w.alloc (.cells #[.int .i64 F.cap, .slice A1 F.n1 c1, .slice A2 F.n2 c2] 34)).alloc (.cells #[.int .i64 k, .int .i64 id, .int .i64 g, .int .i64 a, .int .i64 c] 56)).alloc (.cells #[.int .i64 0, .slice none 0 0, .slice none 0 0, .int .i64 0, .int .i64 0] 60)).heap.size = w.heap.size + 1 + 1 + 1) := Lib.hid (by simp)
    clear h
    have HR := Lib.hid hr
    have hl1 := hr.l1
    have hl2 := hr.l2
    clear hr
    go_enter Try.func73, Try.ntmps73
    go_upto_region 1 with fail
    generalize (((w.alloc (.cells #[.int .i64 F.cap, .slice A1 F.n1 c1, .slice A2 F.n2 c2] 34)).alloc (.cells #[.int .i64 k, .int .i64 id, .int .i64 g, .int .i64 a, .int .i64 c] 56)).alloc (.cells #[.int .i64 0, .slice none 0 0, .slice none 0 0, .int .i64 0, .int .i64 0] 60)) = w1 at *
    obtain ⟨b, hbb⟩ : ∃ b, w.heap.size = b := ⟨_, rfl⟩
    have HBB := Lib.hid hbb
    rw [hbb] at S1 HZ ⊢
    clear hbb
    obtain ⟨u0, u1, u2, v0, v1, v2, v3, v4⟩ := S1.out.cells
    obtain ⟨x, hx⟩ : ∃ x, grpIdx F.f2 id 0 F.n2 = x := ⟨_, rfl⟩
    have Hx := Lib.hid hx
    have bx : decide (x ≥ 0) = false := decide_eq_false (by have := grpIdx_no HE0.out; omega)
    clear hx
    have bg : (g != 0) = false := by rw [HG0.out]; rfl
    have bn : decide ((F.n2 : Int) ≥ 60) = false := decide_eq_false (by have := HE2.out; omega)
    go_upto_region 7 with (first | (go_at_call 77; refine (s_l05Member F.cap A1 A2 F.n1 c1 F.n2 c2 F.f2 _ w1 S1.out.2.2.2.1.m (by omega)).mono ?_; rintro e w2 ⟨rfl, hb2⟩; rw [Hx.out]; have S2 := Lib.hid (S1.out.keep hb2); obtain ⟨u02, u12, u22, v02, v12, v22, v32, v42⟩ := S2.out.cells; clear hb2) | fail)
    generalize w2 = wX at *
    have SX := S2
    clear S2 bg HG0 u0 u1 u2 v0 v1 v2 v3 v4
  case' neg =>
    have HG0 := Lib.hid hg0
    clear hg0
    have hu := Try.underlying60
    have S1 := Lib.hid (SpIn.new F A1 A2 c1 c2 k id g a c w h)
    have HB : Hid (Below w.heap.size w (((w.alloc (.cells #[.int .i64 F.cap, .slice A1 F.n1 c1, .slice A2 F.n2 c2] 34)).alloc (.cells #[.int .i64 k, .int .i64 id, .int .i64 g, .int .i64 a, .int .i64 c] 56)).alloc (.cells #[.int .i64 0, .slice none 0 0, .slice none 0 0, .int .i64 0, .int .i64 0] 60))) := Lib.hid ((((Below.refl w.heap.size w).alloc (Nat.le_refl _) _).alloc (by simp) _).alloc (by simp; omega) _)
    have HZ : Hid ((((w.alloc (.cells #[.int .i64 F.cap, .slice A1 F.n1 c1, .slice A2 F.n2 c2] 34)).alloc (.cells #[.int .i64 k, .int .i64 id, .int .i64 g, .int .i64 a, .int .i64 c] 56)).alloc (.cells #[.int .i64 0, .slice none 0 0, .slice none 0 0, .int .i64 0, .int .i64 0] 60)).heap.size = w.heap.size + 1 + 1 + 1) := Lib.hid (by simp)
    clear h
    have HR := Lib.hid hr
    have hl1 := hr.l1
    have hl2 := hr.l2
    clear hr
    go_enter Try.func73, Try.ntmps73
    go_upto_region 1 with fail
    generalize (((w.alloc (.cells #[.int .i64 F.cap, .slice A1 F.n1 c1, .slice A2 F.n2 c2] 34)).alloc (.cells #[.int .i64 k, .int .i64 id, .int .i64 g, .int .i64 a, .int .i64 c] 56)).alloc (.cells #[.int .i64 0, .slice none 0 0, .slice none 0 0, .int .i64 0, .int .i64 0] 60)) = w1 at *
    obtain ⟨b, hbb⟩ : ∃ b, w.heap.size = b := ⟨_, rfl⟩
    have HBB := Lib.hid hbb
    rw [hbb] at S1 HZ ⊢
    clear hbb
    obtain ⟨u0, u1, u2, v0, v1, v2, v3, v4⟩ := S1.out.cells
    obtain ⟨x, hx⟩ : ∃ x, grpIdx F.f2 id 0 F.n2 = x := ⟨_, rfl⟩
    have Hx := Lib.hid hx
    have bx : decide (x ≥ 0) = false := decide_eq_false (by have := grpIdx_no HE0.out; omega)
    clear hx
    have bg : (g != 0) = true := by simpa using HG0.out
    have HG1 := Lib.hid (show hasId F.n1 F.f1 g = true from (hasG_iff.1 HE1.out).resolve_right HG0.out)
    obtain ⟨y, hy⟩ : ∃ x, grpIdx F.f1 g 0 F.n1 = x := ⟨_, rfl⟩
    have Hy := Lib.hid hy
    have by_ : decide (y < 0) = false := decide_eq_false (by rw [← hy, grpIdx_pos HR.out.r1 HG1.out]; omega)
    clear hy
    have bn : decide ((F.n2 : Int) ≥ 60) = false := decide_eq_false (by have := HE2.out; omega)
    go_upto_region 7 with (first | (go_at_call 76; refine (s_l05Group F.cap A1 A2 F.n1 c1 F.n2 c2 F.f1 _ w2 S2.out.2.2.2.1.g (by omega)).mono ?_; rintro e w3 ⟨rfl, hb3⟩; rw [Hy.out]; have S3 := Lib.hid (S2.out.keep hb3); obtain ⟨u03, u13, u23, v03, v13, v23, v33, v43⟩ := S3.out.cells; clear hb3) | (go_at_call 77; refine (s_l05Member F.cap A1 A2 F.n1 c1 F.n2 c2 F.f2 _ w1 S1.out.2.2.2.1.m (by omega)).mono ?_; rintro e w2 ⟨rfl, hb2⟩; rw [Hx.out]; have S2 := Lib.hid (S1.out.keep hb2); obtain ⟨u02, u12, u22, v02, v12, v22, v32, v42⟩ := S2.out.cells; clear hb2) | fail)
    generalize w3 = wX at *
    have SX := S3
    clear S3 bg HG0 HG1 Hy by_ u0 u1 u2 v0 v1 v2 v3 v4 u02 u12 u22 v02 v12 v22 v32 v42
  all_goals (
    clear Hx bx bn
    obtain ⟨p0, p1, p2, q0, q1, q2, q3, q4⟩ := SX.out.cells
    go_upto_region 8 with (first | (go_at_call 72; refine (s_l06Copy F.cap A1 A2 F.n1 c1 F.n2 c2 F.f1 F.f2 wX SX.out.2.2.2.1 (by omega) (by omega)).mono ?_; rintro e w4 ⟨vg, vm, rfl, hO1, hO2, hb4⟩; obtain ⟨G1', d1, rfl, -, -⟩ := hO1.tab; obtain ⟨G2', d2, rfl, -, -⟩ := hO2.tab; have O1 := Lib.hid hO1; have O2 := Lib.hid hO2; have HBC := Lib.hid hb4; clear hO1 hO2 hb4) | fail)
    have O0 := Lib.hid (O1.out.mono (B' := b) (by have := SX.out.2.2.2.2.size; have := HZ.out; omega))
    clear O1 O2 p0 p1 p2 q0 q1 q2 q3 q4
    have S4 := Lib.hid (SX.out.keep HBC.out)
    have al5 := (Below.refl w4.heap.size w4).alloc (Nat.le_refl _) (.cells #[.int .i64 F.cap, .slice G1' F.n1 d1, .slice G2' F.n2 d2] 34)
    have K5 := Lib.hid (Blk.new (w := w4) (B := w4.heap.size) (Nat.le_refl _) #[.int .i64 F.cap, .slice G1' F.n1 d1, .slice G2' F.n2 d2] 34)
    have S5 := Lib.hid (S4.out.keep al5)
    have O5 := Lib.hid (O0.out.keep al5)
    have L5 := Lib.hid (show b + 1 + 1 < w4.heap.size from S4.out.2.2.1.lt)
    have L6 := Lib.hid (show w1.heap.size ≤ w4.heap.size from S4.out.2.2.2.2.size)
    have NX := Lib.hid (show ∀ k, (.slice G1' F.n1 d1 : Value).ownBlock = some k → k < w4.heap.size from fun k e => (World.ownsRow.lt O0.out k e).2)
    clear al5 S4 O0 HBC SX
    generalize (w4.alloc (.cells #[.int .i64 F.cap, .slice G1' F.n1 d1, .slice G2' F.n2 d2] 34)) = w5 at *
    generalize hb5 : w4.heap.size = b5 at *
    clear hb5
    have k2 := (K5.out.cell 2).trans rfl
    have kf := K5.out.frozen 2
    have hb5 : b5 < w5.heap.size := K5.out.lt
    have kz : ((w5.alloc (.cells #[] 91)).cell? ⟨b5, 2, none⟩) = some (.slice G2' F.n2 d2) := (((K5.out.keep ((Below.refl _ _).alloc (Nat.le_refl _) (.cells #[] 91))).cell 2).trans rfl)
    go_wp2_with fail
    have K5' := Lib.hid ((K5.out.setc 2 (.slice (some ⟨w5.heap.size, 0, none⟩) 0 0)).cast (ds := #[.int .i64 F.cap, .slice G1' F.n1 d1, (.slice (some ⟨w5.heap.size, 0, none⟩) 0 0)]) (by simp only [List.setIfInBounds_toArray, List.set_cons_zero, List.set_cons_succ]))
    have O5' := Lib.hid (O5.out.setf (p := ⟨b5, 2, none⟩) (fun e => by have := NX.out b5 e; omega) (.slice (some ⟨w5.heap.size, 0, none⟩) 0 0))
    have B5' := Lib.hid (S5.out.2.2.2.2.setCell (p := ⟨b5, 2, none⟩) (by have := L6.out; exact this) (.slice (some ⟨w5.heap.size, 0, none⟩) 0 0))
    have z5 : (w5.setCell ⟨b5, 2, none⟩ (.slice (some ⟨w5.heap.size, 0, none⟩) 0 0)).heap.size = w5.heap.size := by simp [World.setCell]
    generalize hb6 : w5.heap.size = b6 at *
    generalize (w5.setCell ⟨b5, 2, none⟩ (.slice (some ⟨b6, 0, none⟩) 0 0)) = w5' at *
    have al6 := (Below.refl w5'.heap.size w5').alloc (Nat.le_refl _) (.cells #[] 91)
    have K6 := Lib.hid (K5'.out.keep al6)
    have O6 := Lib.hid (O5'.out.keep al6)
    have M6 := Lib.hid (show OwnT 91 (w5'.alloc (.cells #[] 91)) b5 (.slice (some ⟨b6, 0, none⟩) 0 0) 0 (insT (posT F.n2 F.f2 id) (r4 id g a c) F.f2) from by have := made_t 91 w5' (insT (posT F.n2 F.f2 id) (r4 id g a c) F.f2); rw [z5] at this; exact this.mono (Nat.le_of_lt hb5))
    have B6 := Lib.hid (B5'.out.trans (al6.mono B5'.out.size))
    clear k2 kf kz hb5 al6 K5 O5 S5 K5' O5' B5' z5 hb6
    generalize (w5'.alloc (.cells #[] 91)) = w6 at *
    have HP := Lib.hid (posT_pos HR.out.r2 id)
    have hpn := HP.out.1
    have hed := Lib.hid (show edF F 1 id g a c = { F with n2 := F.n2 + 1, f2 := insT (posT F.n2 F.f2 id) (r4 id g a c) F.f2 } from rfl)
    generalize posT F.n2 F.f2 id = pp at *
    go_loopw [6, 7] (fun v6 v7 wr => ∃ (i : Nat) (Av : Option Addr) (cv : Nat), i ≤ F.n2 ∧ v6 = .bool (dn pp i) ∧ v7 = .int .i64 i ∧ Hid (Blk wr b5 b5 #[.int .i64 F.cap, .slice G1' F.n1 d1, (.slice Av (cnt pp i) cv)] 34) ∧ Hid (OwnT 91 wr b5 (.slice Av (cnt pp i) cv) (cnt pp i) (insT pp (r4 id g a c) F.f2)) ∧ Hid (Below b5 w6 wr)) (fun v6 v7 _ => F.n2 - (intOf v7).toNat)
    case atStart => exact ⟨0, some ⟨b6, 0, none⟩, 0, by omega, by rw [dn_le (Nat.zero_le _)], rfl, by rw [cnt_le (Nat.zero_le _)]; exact K6, by rw [cnt_le (Nat.zero_le _)]; exact M6, Lib.hid (Below.refl _ _)⟩
    case round =>
      obtain ⟨i, Av, cv, hi, rfl, rfl, KB, KO, KW⟩ := hrel
      clear K6 M6
      have BR := Lib.hid (B6.out.trans (KW.out.mono (by have := L6.out; exact this)))
      have SR := Lib.hid (S1.out.keep BR.out)
      obtain ⟨u0, u1, u2, v0, v1, v2, v3, v4⟩ := SR.out.cells
      by_cases h5 : i < F.n2
      · have b1 : decide ((i : Int) < (F.n2 : Int)) = true := decide_eq_true (by omega)
        obtain ⟨gt, off, eA, hgl, hx⟩ := SR.out.2.2.2.1.m.at (by omega)
        subst eA
        have x0 := hx i 0 h5 (by omega)
        rw [Nat.add_zero] at x0
        clear hx
        by_cases h6 : i < pp
        · have bd : dn pp i = false := dn_le (by omega)
          have bc : decide (F.f2 i 0 > id) = false := decide_eq_false (by have := HP.out.2.1 i h6; omega)
          have hcn : cnt pp i = i := cnt_le (by omega)
          rw [hcn] at KB KO
          clear hcn
          rw [bd]
          have FT : ∀ p : BehW wr, (SpIn b w1 F A1 (some ⟨gt, off, none⟩) c1 c2 k id g a c p.w) := fun p => SR.out.keep p.h
          have t2 : ∀ p : BehW wr, p.w.cell? ⟨b, 2, none⟩ = some (.slice (some ⟨gt, off, none⟩) F.n2 c2) := fun p => (FT p).cells.2.2.1
          have t3 : ∀ p : BehW wr, p.w.cell? ⟨b + 1, 1, none⟩ = some (.int .i64 id) := fun p => (FT p).cells.2.2.2.2.1
          have t4 : ∀ p : BehW wr, p.w.cell? ⟨gt, off + i * 4, none⟩ = some (.int .i64 (F.f2 i 0)) := fun p => (p.h.cell (p := ⟨gt, off + i * 4, none⟩) hgl).trans x0
          have hi0 : (0 : Int) ≤ (i : Int) := by omega
          have hi1 : (i : Int) < (F.n2 : Int) := by omega
          clear FT
          go_upto_region 13 with fail
          refine wp_region_beh (by kernel_rfl) (by kernel_rfl) ?_
          repeat (go_big_quiet_step (fail))
          refine wpQuiet_nil ?_
          intro _ hw'
          obtain ⟨q1, hw''⟩ := hw'
          subst hw''
          go_upto_region 16 with fail
          have HQ := Lib.hid q1.h
          generalize q1.w = w2 at *
          clear t2 t3 t4 hi0 hi1 bc bd
          have K2 := Lib.hid (KB.out.keep HQ.out)
          have O2 := Lib.hid (KO.out.keep HQ.out)
          have Q2 := Lib.hid (show Below b5 wr w2 from HQ.out.mono (Nat.le_of_lt KB.out.lt))
          have HS := Lib.hid (show ∀ w' : World, Blk w' b5 b5 #[.int .i64 F.cap, .slice G1' F.n1 d1, (.slice Av i cv)] 34 → SpIn b w1 F A1 (some ⟨gt, off, none⟩) c1 c2 k id g a c w' → (w'.cell? ⟨b5, 2, none⟩ = some (.slice Av i cv) ∧ w'.frozen? ⟨b5, 2, none⟩ = false ∧ w'.cell? ⟨b, 2, none⟩ = some (.slice (some ⟨gt, off, none⟩) F.n2 c2) ∧ w'.cell? ⟨gt, off + i * 4, none⟩ = some (.int .i64 (F.f2 i 0)) ∧ w'.cell? ⟨gt, off + i * 4 + 1, none⟩ = some (.int .i64 (F.f2 i 1)) ∧ w'.cell? ⟨gt, off + i * 4 + 2, none⟩ = some (.int .i64 (F.f2 i 2)) ∧ w'.cell? ⟨gt, off + i * 4 + 3, none⟩ = some (.int .i64 (F.f2 i 3))) from fun w' h1 h2 => by
            obtain ⟨g', o', e', _, hx'⟩ := h2.2.2.2.1.m.at (by omega)
            cases e'
            have y0 := hx' i 0 h5 (by omega)
            rw [Nat.add_zero] at y0
            exact ⟨(h1.cell 2).trans rfl, h1.frozen 2, (h2.1.cell 2).trans rfl, y0, hx' i 1 h5 (by omega), hx' i 2 h5 (by omega), hx' i 3 h5 (by omega)⟩)
          have BD := Lib.hid (show Below w1.heap.size w1 w2 from BR.out.trans (Q2.out.mono L6.out))
          have al := (Below.refl w2.heap.size w2).drew.alloc (Nat.le_refl _) (.cells #[.int .i64 (F.f2 i 0), .int .i64 (F.f2 i 1), .int .i64 (F.f2 i 2), .int .i64 (F.f2 i 3)] 91)
          have KA := Lib.hid (K2.out.keep al)
          have OA := Lib.hid (O2.out.keep al)
          have BA := Lib.hid (BD.out.trans (al.mono BD.out.size))
          have S0 : Hid ((fun w' => w'.cell? ⟨b5, 2, none⟩ = some (.slice Av i cv) ∧ w'.frozen? ⟨b5, 2, none⟩ = false ∧ w'.cell? ⟨b, 2, none⟩ = some (.slice (some ⟨gt, off, none⟩) F.n2 c2) ∧ w'.cell? ⟨gt, off + i * 4, none⟩ = some (.int .i64 (F.f2 i 0)) ∧ w'.cell? ⟨gt, off + i * 4 + 1, none⟩ = some (.int .i64 (F.f2 i 1)) ∧ w'.cell? ⟨gt, off + i * 4 + 2, none⟩ = some (.int .i64 (F.f2 i 2)) ∧ w'.cell? ⟨gt, off + i * 4 + 3, none⟩ = some (.int .i64 (F.f2 i 3))) w2.drew) := Lib.hid (HS.out _ K2.out.drew (S1.out.keep BD.out.drew))
          have S3 : Hid ((fun w' => w'.cell? ⟨b5, 2, none⟩ = some (.slice Av i cv) ∧ w'.frozen? ⟨b5, 2, none⟩ = false ∧ w'.cell? ⟨b, 2, none⟩ = some (.slice (some ⟨gt, off, none⟩) F.n2 c2) ∧ w'.cell? ⟨gt, off + i * 4, none⟩ = some (.int .i64 (F.f2 i 0)) ∧ w'.cell? ⟨gt, off + i * 4 + 1, none⟩ = some (.int .i64 (F.f2 i 1)) ∧ w'.cell? ⟨gt, off + i * 4 + 2, none⟩ = some (.int .i64 (F.f2 i 2)) ∧ w'.cell? ⟨gt, off + i * 4 + 3, none⟩ = some (.int .i64 (F.f2 i 3))) (w2.drew.alloc (.cells #[.int .i64 (F.f2 i 0), .int .i64 (F.f2 i 1), .int .i64 (F.f2 i 2), .int .i64 (F.f2 i 3)] 91))) := Lib.hid (HS.out _ KA.out (S1.out.keep BA.out))
          have TN := Lib.hid (show Tab 4 (w2.drew.alloc (.cells #[.int .i64 (F.f2 i 0), .int .i64 (F.f2 i 1), .int .i64 (F.f2 i 2), .int .i64 (F.f2 i 3)] 91)) (some ⟨w2.heap.size, 0, none⟩) 1 (fun _ => F.f2 i) from tab_new 91 w2.drew (F.f2 i))
          have hWs : b5 ≤ w2.heap.size := Nat.le_of_lt K2.out.lt
          have hi0 : (0 : Int) ≤ (i : Int) := by omega
          have hi1 : (i : Int) < (F.n2 : Int) := by omega
          clear u0 u1 u2 v0 v1 v2 v3 v4 x0 al b1
          refine wp_region_fin (fun w' => w'.cell? ⟨b5, 2, none⟩ = some (.slice Av i cv) ∧ w'.frozen? ⟨b5, 2, none⟩ = false ∧ w'.cell? ⟨b, 2, none⟩ = some (.slice (some ⟨gt, off, none⟩) F.n2 c2) ∧ w'.cell? ⟨gt, off + i * 4, none⟩ = some (.int .i64 (F.f2 i 0)) ∧ w'.cell? ⟨gt, off + i * 4 + 1, none⟩ = some (.int .i64 (F.f2 i 1)) ∧ w'.cell? ⟨gt, off + i * 4 + 2, none⟩ = some (.int .i64 (F.f2 i 2)) ∧ w'.cell? ⟨gt, off + i * 4 + 3, none⟩ = some (.int .i64 (F.f2 i 3))) 10 (by kernel_rfl) S0.out (fun hHeld => ?_)
          refine wpFin_take (i := 0) (v := ?_) (by kernel_rfl) rfl (by decide) (by kernel_rfl) (by kernel_rfl) (by kernel_rfl) (fun _ _ _ h => h) (Or.inl ⟨by rfl, ?_⟩) (by assumption) ?_
          rotate_left 1
          · (intro w hSw; (try dsimp only at hSw); go_simp; first | done | with_reducible rfl)
          try simp only [Act.put, List.setIfInBounds_toArray, List.set_cons_zero, List.set_cons_succ]
          refine wpFin_take (i := 1) (v := ?_) (by kernel_rfl) rfl (by decide) (by kernel_rfl) (by kernel_rfl) (by kernel_rfl) (fun _ _ _ h => h) (Or.inl ⟨by rfl, ?_⟩) (by assumption) ?_
          rotate_left 1
          · (intro w hSw; (try dsimp only at hSw); go_simp; first | done | with_reducible rfl)
          try simp only [Act.put, List.setIfInBounds_toArray, List.set_cons_zero, List.set_cons_succ]
          refine wpFin_take (i := 2) (v := ?_) (by kernel_rfl) rfl (by decide) (by kernel_rfl) (by kernel_rfl) (by kernel_rfl) (fun _ _ _ h => h) (Or.inl ⟨by rfl, ?_⟩) (by assumption) ?_
          rotate_left 1
          · (intro w hSw; (try dsimp only at hSw); go_simp; first | done | with_reducible rfl)
          try simp only [Act.put, List.setIfInBounds_toArray, List.set_cons_zero, List.set_cons_succ]
          refine wpFin_take (i := 3) (v := ?_) (by kernel_rfl) rfl (by decide) (by kernel_rfl) (by kernel_rfl) (by kernel_rfl) (fun _ _ _ h => h) (Or.inl ⟨by rfl, ?_⟩) (by assumption) ?_
          rotate_left 1
          · (intro w hSw; (try dsimp only at hSw); go_simp; first | done | with_reducible rfl)
          try simp only [Act.put, List.setIfInBounds_toArray, List.set_cons_zero, List.set_cons_succ]
          refine wpFin_take (i := 4) (v := ?_) (by kernel_rfl) rfl (by decide) (by kernel_rfl) (by kernel_rfl) (by kernel_rfl) (fun _ _ _ h => h) (Or.inl ⟨by rfl, ?_⟩) (by assumption) ?_
          rotate_left 1
          · (intro w hSw; (try dsimp only at hSw); go_simp; first | done | with_reducible rfl)
          try simp only [Act.put, List.setIfInBounds_toArray, List.set_cons_zero, List.set_cons_succ]
          refine wpFin_take (i := 5) (v := ?_) (by kernel_rfl) rfl (by decide) (by kernel_rfl) (by kernel_rfl) (by kernel_rfl) (fun _ _ _ h => h) (Or.inl ⟨by rfl, ?_⟩) (by assumption) ?_
          rotate_left 1
          · (intro w hSw; (try dsimp only at hSw); go_simp; first | done | with_reducible rfl)
          try simp only [Act.put, List.setIfInBounds_toArray, List.set_cons_zero, List.set_cons_succ]
          refine wpFin_take (i := 6) (v := ?_) (by kernel_rfl) rfl (by decide) (by kernel_rfl) (by kernel_rfl) (by kernel_rfl) (fun _ _ _ h => h) (Or.inl ⟨by rfl, ?_⟩) (by assumption) ?_
          rotate_left 1
          · (intro w hSw; (try dsimp only at hSw); go_simp; first | done | with_reducible rfl)
          try simp only [Act.put, List.setIfInBounds_toArray, List.set_cons_zero, List.set_cons_succ]
          refine wpFin_one (i := 7) (by kernel_rfl) rfl (fun K hK => ?_)
          go_simp
          refine hK.out _ _ (fun _ => S3.out) (fun hS => ?_)
          have hHeld := hS (by decide)
          clear hK K hS
          try simp only [Act.put, List.setIfInBounds_toArray, List.set_cons_zero, List.set_cons_succ]
          refine wpFin_one (i := 8) (by kernel_rfl) rfl (fun K hK => ?_)
          refine step_append_t ttM rfl (.tmp 69) (.tmp 75) rfl b5 _ _ _ rfl OA.out _ 1 _ _ rfl TN.out (by skip; omega) (by simp; omega) ?_
          intro v' w3 hO hgr
          obtain ⟨Aw, cw, rfl, -, -⟩ := OwnT.tab hO
          have O3 := Lib.hid (hO.congr (app_same (show ∀ j, insT pp (r4 id g a c) F.f2 i j = F.f2 i j from fun j => by rw [ins_lt h6])))
          have G3 := Lib.hid hgr
          have NF := Lib.hid (OA.out.neBlk KA.out (by decide))
          have F3 := Lib.hid (KA.out.grownO hgr NF.out)
          have B3 := Lib.hid (BA.out.grown hgr BA.out.size (fun k hk => Nat.le_trans L6.out (World.ownsRow.lt OA.out k hk).1))
          have S4 : Hid ((fun w' => w'.cell? ⟨b5, 2, none⟩ = some (.slice Av i cv) ∧ w'.frozen? ⟨b5, 2, none⟩ = false ∧ w'.cell? ⟨b, 2, none⟩ = some (.slice (some ⟨gt, off, none⟩) F.n2 c2) ∧ w'.cell? ⟨gt, off + i * 4, none⟩ = some (.int .i64 (F.f2 i 0)) ∧ w'.cell? ⟨gt, off + i * 4 + 1, none⟩ = some (.int .i64 (F.f2 i 1)) ∧ w'.cell? ⟨gt, off + i * 4 + 2, none⟩ = some (.int .i64 (F.f2 i 2)) ∧ w'.cell? ⟨gt, off + i * 4 + 3, none⟩ = some (.int .i64 (F.f2 i 3))) w3) := Lib.hid (HS.out _ F3.out (S1.out.keep B3.out))
          clear hO hgr
          refine hK.out _ _ (fun _ => S4.out) (fun hS => ?_)
          have hHeld := hS (by decide)
          clear hK K hS
          try simp only [Act.put, List.setIfInBounds_toArray, List.set_cons_zero, List.set_cons_succ]
          refine wpFin_take (i := 9) (v := ?_) (by kernel_rfl) rfl (by decide) (by kernel_rfl) (by kernel_rfl) (by kernel_rfl) (fun _ _ _ h => h) (Or.inl ⟨by rfl, ?_⟩) (by assumption) ?_
          rotate_left 1
          · (intro w hSw; (try dsimp only at hSw); go_simp; first | done | with_reducible rfl)
          try simp only [Act.put, List.setIfInBounds_toArray, List.set_cons_zero, List.set_cons_succ]
          obtain ⟨sc, sf, -⟩ := S4.out
          refine wpFin_one (i := 10) (by kernel_rfl) rfl (fun K hK => ?_)
          go_simp
          refine hK.out _ _ (fun h => absurd rfl h) (fun hS => ?_)
          clear hK K hS
          try simp only [Act.put, List.setIfInBounds_toArray, List.set_cons_zero, List.set_cons_succ]
          refine wpFin_done (by kernel_rfl) ?_ _
          have F4 := Lib.hid ((F3.out.setc 2 (.slice Aw (i + 1) cw)).cast (ds := #[.int .i64 F.cap, .slice G1' F.n1 d1, (.slice Aw (i + 1) cw)]) (by simp only [List.setIfInBounds_toArray, List.set_cons_zero, List.set_cons_succ]))
          have O4 := Lib.hid (O3.out.setf (p := ⟨b5, 2, none⟩) (O3.out.neBlk F3.out (by decide)) (.slice Aw (i + 1) cw))
          have W4 := Lib.hid (show Below b5 w6 (w3.setCell ⟨b5, 2, none⟩ (.slice Aw (i + 1) cw)) from (KW.out.trans ((Q2.out.trans ((Below.refl b5 w2).drew.alloc hWs _)).grown G3.out (Nat.le_trans (Nat.le_of_lt KB.out.lt) (by have := Q2.out.size; first | (simp; done) | (simp; omega))) (fun k hk => (World.ownsRow.lt OA.out k hk).1))).setCell (p := ⟨b5, 2, none⟩) (Nat.le_refl _) (.slice Aw (i + 1) cw))
          clear S0 S3 S4 sc sf hHeld
          go_wp2_with fail
          go_roundw
          case rel => exact ⟨i + 1, Aw, cw, by omega, by rw [dn_le (show i + 1 ≤ pp from h6)], by go_num, by rw [cnt_le (show i + 1 ≤ pp from h6)]; exact F4, by rw [cnt_le (show i + 1 ≤ pp from h6)]; exact O4, W4⟩
          case measure => simp [intOf]; omega
        · rcases Nat.lt_or_ge pp i with h7 | h7
          · have bd : dn pp i = true := dn_gt h7
            have hcn : cnt pp i = i + 1 := cnt_gt h7
            rw [hcn] at KB KO
            clear hcn
            rw [bd]
            have FT : ∀ p : BehW wr, (SpIn b w1 F A1 (some ⟨gt, off, none⟩) c1 c2 k id g a c p.w) := fun p => SR.out.keep p.h
            have t2 : ∀ p : BehW wr, p.w.cell? ⟨b, 2, none⟩ = some (.slice (some ⟨gt, off, none⟩) F.n2 c2) := fun p => (FT p).cells.2.2.1
            have t3 : ∀ p : BehW wr, p.w.cell? ⟨b + 1, 1, none⟩ = some (.int .i64 id) := fun p => (FT p).cells.2.2.2.2.1
            have t4 : ∀ p : BehW wr, p.w.cell? ⟨gt, off + i * 4, none⟩ = some (.int .i64 (F.f2 i 0)) := fun p => (p.h.cell (p := ⟨gt, off + i * 4, none⟩) hgl).trans x0
            have hi0 : (0 : Int) ≤ (i : Int) := by omega
            have hi1 : (i : Int) < (F.n2 : Int) := by omega
            clear FT
            go_upto_region 13 with fail
            refine wp_region_beh (by kernel_rfl) (by kernel_rfl) ?_
            repeat (go_big_quiet_step (fail))
            refine wpQuiet_nil ?_
            intro _ hw'
            obtain ⟨q1, hw''⟩ := hw'
            subst hw''
            go_upto_region 16 with fail
            have HQ := Lib.hid q1.h
            generalize q1.w = w2 at *
            clear t2 t3 t4 hi0 hi1 bd
            have K2 := Lib.hid (KB.out.keep HQ.out)
            have O2 := Lib.hid (KO.out.keep HQ.out)
            have Q2 := Lib.hid (show Below b5 wr w2 from HQ.out.mono (Nat.le_of_lt KB.out.lt))
            have HS := Lib.hid (show ∀ w' : World, Blk w' b5 b5 #[.int .i64 F.cap, .slice G1' F.n1 d1, (.slice Av (i + 1) cv)] 34 → SpIn b w1 F A1 (some ⟨gt, off, none⟩) c1 c2 k id g a c w' → (w'.cell? ⟨b5, 2, none⟩ = some (.slice Av (i + 1) cv) ∧ w'.frozen? ⟨b5, 2, none⟩ = false ∧ w'.cell? ⟨b, 2, none⟩ = some (.slice (some ⟨gt, off, none⟩) F.n2 c2) ∧ w'.cell? ⟨gt, off + i * 4, none⟩ = some (.int .i64 (F.f2 i 0)) ∧ w'.cell? ⟨gt, off + i * 4 + 1, none⟩ = some (.int .i64 (F.f2 i 1)) ∧ w'.cell? ⟨gt, off + i * 4 + 2, none⟩ = some (.int .i64 (F.f2 i 2)) ∧ w'.cell? ⟨gt, off + i * 4 + 3, none⟩ = some (.int .i64 (F.f2 i 3))) from fun w' h1 h2 => by
              obtain ⟨g', o', e', _, hx'⟩ := h2.2.2.2.1.m.at (by omega)
              cases e'
              have y0 := hx' i 0 h5 (by omega)
              rw [Nat.add_zero] at y0
              exact ⟨(h1.cell 2).trans rfl, h1.frozen 2, (h2.1.cell 2).trans rfl, y0, hx' i 1 h5 (by omega), hx' i 2 h5 (by omega), hx' i 3 h5 (by omega)⟩)
            have BD := Lib.hid (show Below w1.heap.size w1 w2 from BR.out.trans (Q2.out.mono L6.out))
            have al := (Below.refl w2.heap.size w2).drew.alloc (Nat.le_refl _) (.cells #[.int .i64 (F.f2 i 0), .int .i64 (F.f2 i 1), .int .i64 (F.f2 i 2), .int .i64 (F.f2 i 3)] 91)
            have KA := Lib.hid (K2.out.keep al)
            have OA := Lib.hid (O2.out.keep al)
            have BA := Lib.hid (BD.out.trans (al.mono BD.out.size))
            have S0 : Hid ((fun w' => w'.cell? ⟨b5, 2, none⟩ = some (.slice Av (i + 1) cv) ∧ w'.frozen? ⟨b5, 2, none⟩ = false ∧ w'.cell? ⟨b, 2, none⟩ = some (.slice (some ⟨gt, off, none⟩) F.n2 c2) ∧ w'.cell? ⟨gt, off + i * 4, none⟩ = some (.int .i64 (F.f2 i 0)) ∧ w'.cell? ⟨gt, off + i * 4 + 1, none⟩ = some (.int .i64 (F.f2 i 1)) ∧ w'.cell? ⟨gt, off + i * 4 + 2, none⟩ = some (.int .i64 (F.f2 i 2)) ∧ w'.cell? ⟨gt, off + i * 4 + 3, none⟩ = some (.int .i64 (F.f2 i 3))) w2.drew) := Lib.hid (HS.out _ K2.out.drew (S1.out.keep BD.out.drew))
            have S3 : Hid ((fun w' => w'.cell? ⟨b5, 2, none⟩ = some (.slice Av (i + 1) cv) ∧ w'.frozen? ⟨b5, 2, none⟩ = false ∧ w'.cell? ⟨b, 2, none⟩ = some (.slice (some ⟨gt, off, none⟩) F.n2 c2) ∧ w'.cell? ⟨gt, off + i * 4, none⟩ = some (.int .i64 (F.f2 i 0)) ∧ w'.cell? ⟨gt, off + i * 4 + 1, none⟩ = some (.int .i64 (F.f2 i 1)) ∧ w'.cell? ⟨gt, off + i * 4 + 2, none⟩ = some (.int .i64 (F.f2 i 2)) ∧ w'.cell? ⟨gt, off + i * 4 + 3, none⟩ = some (.int .i64 (F.f2 i 3))) (w2.drew.alloc (.cells #[.int .i64 (F.f2 i 0), .int .i64 (F.f2 i 1), .int .i64 (F.f2 i 2), .int .i64 (F.f2 i 3)] 91))) := Lib.hid (HS.out _ KA.out (S1.out.keep BA.out))
            have TN := Lib.hid (show Tab 4 (w2.drew.alloc (.cells #[.int .i64 (F.f2 i 0), .int .i64 (F.f2 i 1), .int .i64 (F.f2 i 2), .int .i64 (F.f2 i 3)] 91)) (some ⟨w2.heap.size, 0, none⟩) 1 (fun _ => F.f2 i) from tab_new 91 w2.drew (F.f2 i))
            have hWs : b5 ≤ w2.heap.size := Nat.le_of_lt K2.out.lt
            have hi0 : (0 : Int) ≤ (i : Int) := by omega
            have hi1 : (i : Int) < (F.n2 : Int) := by omega
            clear u0 u1 u2 v0 v1 v2 v3 v4 x0 al b1
            refine wp_region_fin (fun w' => w'.cell? ⟨b5, 2, none⟩ = some (.slice Av (i + 1) cv) ∧ w'.frozen? ⟨b5, 2, none⟩ = false ∧ w'.cell? ⟨b, 2, none⟩ = some (.slice (some ⟨gt, off, none⟩) F.n2 c2) ∧ w'.cell? ⟨gt, off + i * 4, none⟩ = some (.int .i64 (F.f2 i 0)) ∧ w'.cell? ⟨gt, off + i * 4 + 1, none⟩ = some (.int .i64 (F.f2 i 1)) ∧ w'.cell? ⟨gt, off + i * 4 + 2, none⟩ = some (.int .i64 (F.f2 i 2)) ∧ w'.cell? ⟨gt, off + i * 4 + 3, none⟩ = some (.int .i64 (F.f2 i 3))) 10 (by kernel_rfl) S0.out (fun hHeld => ?_)
            refine wpFin_take (i := 0) (v := ?_) (by kernel_rfl) rfl (by decide) (by kernel_rfl) (by kernel_rfl) (by kernel_rfl) (fun _ _ _ h => h) (Or.inl ⟨by rfl, ?_⟩) (by assumption) ?_
            rotate_left 1
            · (intro w hSw; (try dsimp only at hSw); go_simp; first | done | with_reducible rfl)
            try simp only [Act.put, List.setIfInBounds_toArray, List.set_cons_zero, List.set_cons_succ]
            refine wpFin_take (i := 1) (v := ?_) (by kernel_rfl) rfl (by decide) (by kernel_rfl) (by kernel_rfl) (by kernel_rfl) (fun _ _ _ h => h) (Or.inl ⟨by rfl, ?_⟩) (by assumption) ?_
            rotate_left 1
            · (intro w hSw; (try dsimp only at hSw); go_simp; first | done | with_reducible rfl)
            try simp only [Act.put, List.setIfInBounds_toArray, List.set_cons_zero, List.set_cons_succ]
            refine wpFin_take (i := 2) (v := ?_) (by kernel_rfl) rfl (by decide) (by kernel_rfl) (by kernel_rfl) (by kernel_rfl) (fun _ _ _ h => h) (Or.inl ⟨by rfl, ?_⟩) (by assumption) ?_
            rotate_left 1
            · (intro w hSw; (try dsimp only at hSw); go_simp; first | done | with_reducible rfl)
            try simp only [Act.put, List.setIfInBounds_toArray, List.set_cons_zero, List.set_cons_succ]
            refine wpFin_take (i := 3) (v := ?_) (by kernel_rfl) rfl (by decide) (by kernel_rfl) (by kernel_rfl) (by kernel_rfl) (fun _ _ _ h => h) (Or.inl ⟨by rfl, ?_⟩) (by assumption) ?_
            rotate_left 1
            · (intro w hSw; (try dsimp only at hSw); go_simp; first | done | with_reducible rfl)
            try simp only [Act.put, List.setIfInBounds_toArray, List.set_cons_zero, List.set_cons_succ]
            refine wpFin_take (i := 4) (v := ?_) (by kernel_rfl) rfl (by decide) (by kernel_rfl) (by kernel_rfl) (by kernel_rfl) (fun _ _ _ h => h) (Or.inl ⟨by rfl, ?_⟩) (by assumption) ?_
            rotate_left 1
            · (intro w hSw; (try dsimp only at hSw); go_simp; first | done | with_reducible rfl)
            try simp only [Act.put, List.setIfInBounds_toArray, List.set_cons_zero, List.set_cons_succ]
            refine wpFin_take (i := 5) (v := ?_) (by kernel_rfl) rfl (by decide) (by kernel_rfl) (by kernel_rfl) (by kernel_rfl) (fun _ _ _ h => h) (Or.inl ⟨by rfl, ?_⟩) (by assumption) ?_
            rotate_left 1
            · (intro w hSw; (try dsimp only at hSw); go_simp; first | done | with_reducible rfl)
            try simp only [Act.put, List.setIfInBounds_toArray, List.set_cons_zero, List.set_cons_succ]
            refine wpFin_take (i := 6) (v := ?_) (by kernel_rfl) rfl (by decide) (by kernel_rfl) (by kernel_rfl) (by kernel_rfl) (fun _ _ _ h => h) (Or.inl ⟨by rfl, ?_⟩) (by assumption) ?_
            rotate_left 1
            · (intro w hSw; (try dsimp only at hSw); go_simp; first | done | with_reducible rfl)
            try simp only [Act.put, List.setIfInBounds_toArray, List.set_cons_zero, List.set_cons_succ]
            refine wpFin_one (i := 7) (by kernel_rfl) rfl (fun K hK => ?_)
            go_simp
            refine hK.out _ _ (fun _ => S3.out) (fun hS => ?_)
            have hHeld := hS (by decide)
            clear hK K hS
            try simp only [Act.put, List.setIfInBounds_toArray, List.set_cons_zero, List.set_cons_succ]
            refine wpFin_one (i := 8) (by kernel_rfl) rfl (fun K hK => ?_)
            refine step_append_t ttM rfl (.tmp 69) (.tmp 75) rfl b5 _ _ _ rfl OA.out _ 1 _ _ rfl TN.out (by skip; omega) (by simp; omega) ?_
            intro v' w3 hO hgr
            obtain ⟨Aw, cw, rfl, -, -⟩ := OwnT.tab hO
            have O3 := Lib.hid (hO.congr (app_same (show ∀ j, insT pp (r4 id g a c) F.f2 (i + 1) j = F.f2 i j from fun j => by rw [ins_gt (by omega), Nat.add_sub_cancel])))
            have G3 := Lib.hid hgr
            have NF := Lib.hid (OA.out.neBlk KA.out (by decide))
            have F3 := Lib.hid (KA.out.grownO hgr NF.out)
            have B3 := Lib.hid (BA.out.grown hgr BA.out.size (fun k hk => Nat.le_trans L6.out (World.ownsRow.lt OA.out k hk).1))
            have S4 : Hid ((fun w' => w'.cell? ⟨b5, 2, none⟩ = some (.slice Av (i + 1) cv) ∧ w'.frozen? ⟨b5, 2, none⟩ = false ∧ w'.cell? ⟨b, 2, none⟩ = some (.slice (some ⟨gt, off, none⟩) F.n2 c2) ∧ w'.cell? ⟨gt, off + i * 4, none⟩ = some (.int .i64 (F.f2 i 0)) ∧ w'.cell? ⟨gt, off + i * 4 + 1, none⟩ = some (.int .i64 (F.f2 i 1)) ∧ w'.cell? ⟨gt, off + i * 4 + 2, none⟩ = some (.int .i64 (F.f2 i 2)) ∧ w'.cell? ⟨gt, off + i * 4 + 3, none⟩ = some (.int .i64 (F.f2 i 3))) w3) := Lib.hid (HS.out _ F3.out (S1.out.keep B3.out))
            clear hO hgr
            refine hK.out _ _ (fun _ => S4.out) (fun hS => ?_)
            have hHeld := hS (by decide)
            clear hK K hS
            try simp only [Act.put, List.setIfInBounds_toArray, List.set_cons_zero, List.set_cons_succ]
            refine wpFin_take (i := 9) (v := ?_) (by kernel_rfl) rfl (by decide) (by kernel_rfl) (by kernel_rfl) (by kernel_rfl) (fun _ _ _ h => h) (Or.inl ⟨by rfl, ?_⟩) (by assumption) ?_
            rotate_left 1
            · (intro w hSw; (try dsimp only at hSw); go_simp; first | done | with_reducible rfl)
            try simp only [Act.put, List.setIfInBounds_toArray, List.set_cons_zero, List.set_cons_succ]
            obtain ⟨sc, sf, -⟩ := S4.out
            refine wpFin_one (i := 10) (by kernel_rfl) rfl (fun K hK => ?_)
            go_simp
            refine hK.out _ _ (fun h => absurd rfl h) (fun hS => ?_)
            clear hK K hS
            try simp only [Act.put, List.setIfInBounds_toArray, List.set_cons_zero, List.set_cons_succ]
            refine wpFin_done (by kernel_rfl) ?_ _
            have F4 := Lib.hid ((F3.out.setc 2 (.slice Aw ((i + 1) + 1) cw)).cast (ds := #[.int .i64 F.cap, .slice G1' F.n1 d1, (.slice Aw ((i + 1) + 1) cw)]) (by simp only [List.setIfInBounds_toArray, List.set_cons_zero, List.set_cons_succ]))
            have O4 := Lib.hid (O3.out.setf (p := ⟨b5, 2, none⟩) (O3.out.neBlk F3.out (by decide)) (.slice Aw ((i + 1) + 1) cw))
            have W4 := Lib.hid (show Below b5 w6 (w3.setCell ⟨b5, 2, none⟩ (.slice Aw ((i + 1) + 1) cw)) from (KW.out.trans ((Q2.out.trans ((Below.refl b5 w2).drew.alloc hWs _)).grown G3.out (Nat.le_trans (Nat.le_of_lt KB.out.lt) (by have := Q2.out.size; first | (simp; done) | (simp; omega))) (fun k hk => (World.ownsRow.lt OA.out k hk).1))).setCell (p := ⟨b5, 2, none⟩) (Nat.le_refl _) (.slice Aw ((i + 1) + 1) cw))
            clear S0 S3 S4 sc sf hHeld
            go_wp2_with fail
            go_roundw
            case rel => exact ⟨i + 1, Aw, cw, by omega, by rw [dn_gt (show pp < i + 1 by omega)], by go_num, by rw [cnt_gt (show pp < i + 1 by omega)]; exact F4, by rw [cnt_gt (show pp < i + 1 by omega)]; exact O4, W4⟩
            case measure => simp [intOf]; omega
          · obtain rfl : pp = i := by omega
            have bd : dn pp pp = false := dn_le (Nat.le_refl _)
            have bc : decide (F.f2 pp 0 > id) = true := decide_eq_true (by have := HP.out.2.2 pp (Nat.le_refl _) h5; have := has_no HE0.out h5; omega)
            have hcn : cnt pp pp = pp := cnt_le (Nat.le_refl _)
            rw [hcn] at KB KO
            clear hcn
            rw [bd]
            have FT : ∀ p : BehW wr, (SpIn b w1 F A1 (some ⟨gt, off, none⟩) c1 c2 k id g a c p.w) := fun p => SR.out.keep p.h
            have t2 : ∀ p : BehW wr, p.w.cell? ⟨b, 2, none⟩ = some (.slice (some ⟨gt, off, none⟩) F.n2 c2) := fun p => (FT p).cells.2.2.1
            have t3 : ∀ p : BehW wr, p.w.cell? ⟨b + 1, 1, none⟩ = some (.int .i64 id) := fun p => (FT p).cells.2.2.2.2.1
            have t4 : ∀ p : BehW wr, p.w.cell? ⟨gt, off + pp * 4, none⟩ = some (.int .i64 (F.f2 pp 0)) := fun p => (p.h.cell (p := ⟨gt, off + pp * 4, none⟩) hgl).trans x0
            have hi0 : (0 : Int) ≤ (pp : Int) := by omega
            have hi1 : (pp : Int) < (F.n2 : Int) := by omega
            clear FT
            go_upto_region 13 with fail
            refine wp_region_beh (by kernel_rfl) (by kernel_rfl) ?_
            repeat (go_big_quiet_step (fail))
            refine wpQuiet_nil ?_
            intro _ hw'
            obtain ⟨q1, hw''⟩ := hw'
            subst hw''
            go_upto_region 14 with fail
            have HQ := Lib.hid q1.h
            generalize q1.w = w2 at *
            clear t2 t3 t4 hi0 hi1 bc bd
            have K2 := Lib.hid (KB.out.keep HQ.out)
            have O2 := Lib.hid (KO.out.keep HQ.out)
            have Q2 := Lib.hid (show Below b5 wr w2 from HQ.out.mono (Nat.le_of_lt KB.out.lt))
            obtain ⟨e0', e1', e2', y0, y1, y2, y3, y4⟩ := (S1.out.keep (BR.out.trans (Q2.out.mono L6.out))).cells
            have aln := (Below.refl w2.heap.size w2).alloc (Nat.le_refl _) (.cells #[.int .i64 id, .int .i64 g, .int .i64 a, .int .i64 c] 91)
            have KN := Lib.hid (K2.out.keep aln)
            have ON := Lib.hid (O2.out.keep aln)
            have TN0 := Lib.hid (tab_new4 91 w2 id g a c)
            have NF0 := Lib.hid (ON.out.neBlk KN.out (by decide))
            have y5 := (K2.out.cell 2).trans rfl
            have hWn : b5 ≤ w2.heap.size := Nat.le_of_lt K2.out.lt
            clear aln
            go_upto_region 16 with (first | (at_builtin; refine wpl_append_t ttM rfl _ _ rfl b5 _ _ _ rfl ON.out (some ⟨w2.heap.size, 0, none⟩) 1 _ _ rfl TN0.out (by omega) (by simp; omega) ?_; intro v' w7 hO hgr; obtain ⟨Ax, cx, rfl, -, -⟩ := OwnT.tab hO; have O7 := Lib.hid (hO.congr (app_same (show ∀ j, insT pp (r4 id g a c) F.f2 pp j = r4 id g a c j from fun j => by rw [ins_eq]))); have G7 := Lib.hid hgr; have F7 := Lib.hid (KN.out.grownO hgr NF0.out); have z5 := (F7.out.cell 2).trans rfl; have z6 := F7.out.frozen 2; clear hO hgr) | fail)
            have F8 := Lib.hid ((F7.out.setc 2 (.slice Ax (pp + 1) cx)).cast (ds := #[.int .i64 F.cap, .slice G1' F.n1 d1, (.slice Ax (pp + 1) cx)]) (by simp only [List.setIfInBounds_toArray, List.set_cons_zero, List.set_cons_succ]))
            have O8 := Lib.hid (O7.out.setf (p := ⟨b5, 2, none⟩) (O7.out.neBlk F7.out (by decide)) (.slice Ax (pp + 1) cx))
            have Q8 := Lib.hid (show Below b5 wr (w7.setCell ⟨b5, 2, none⟩ (.slice Ax (pp + 1) cx)) from ((Q2.out.trans ((Below.refl b5 w2).alloc hWn _)).grown G7.out (Nat.le_trans (Nat.le_of_lt KB.out.lt) (by have := Q2.out.size; first | (simp; done) | (simp; omega))) (fun k hk => (World.ownsRow.lt ON.out k hk).1)).setCell (p := ⟨b5, 2, none⟩) (Nat.le_refl _) (.slice Ax (pp + 1) cx))
            clear e0' e1' e2' y0 y1 y2 y3 y4 y5 z5 z6 hWn F7 O7 G7 KN ON TN0 NF0
            generalize w7.setCell ⟨b5, 2, none⟩ (.slice Ax (pp + 1) cx) = w8 at *
            have HS := Lib.hid (show ∀ w' : World, Blk w' b5 b5 #[.int .i64 F.cap, .slice G1' F.n1 d1, (.slice Ax (pp + 1) cx)] 34 → SpIn b w1 F A1 (some ⟨gt, off, none⟩) c1 c2 k id g a c w' → (w'.cell? ⟨b5, 2, none⟩ = some (.slice Ax (pp + 1) cx) ∧ w'.frozen? ⟨b5, 2, none⟩ = false ∧ w'.cell? ⟨b, 2, none⟩ = some (.slice (some ⟨gt, off, none⟩) F.n2 c2) ∧ w'.cell? ⟨gt, off + pp * 4, none⟩ = some (.int .i64 (F.f2 pp 0)) ∧ w'.cell? ⟨gt, off + pp * 4 + 1, none⟩ = some (.int .i64 (F.f2 pp 1)) ∧ w'.cell? ⟨gt, off + pp * 4 + 2, none⟩ = some (.int .i64 (F.f2 pp 2)) ∧ w'.cell? ⟨gt, off + pp * 4 + 3, none⟩ = some (.int .i64 (F.f2 pp 3))) from fun w' h1 h2 => by
              obtain ⟨g', o', e', _, hx'⟩ := h2.2.2.2.1.m.at (by omega)
              cases e'
              have y0 := hx' pp 0 h5 (by omega)
              rw [Nat.add_zero] at y0
              exact ⟨(h1.cell 2).trans rfl, h1.frozen 2, (h2.1.cell 2).trans rfl, y0, hx' pp 1 h5 (by omega), hx' pp 2 h5 (by omega), hx' pp 3 h5 (by omega)⟩)
            have BD := Lib.hid (show Below w1.heap.size w1 w8 from BR.out.trans (Q8.out.mono L6.out))
            have al := (Below.refl w8.heap.size w8).drew.alloc (Nat.le_refl _) (.cells #[.int .i64 (F.f2 pp 0), .int .i64 (F.f2 pp 1), .int .i64 (F.f2 pp 2), .int .i64 (F.f2 pp 3)] 91)
            have KA := Lib.hid (F8.out.keep al)
            have OA := Lib.hid (O8.out.keep al)
            have BA := Lib.hid (BD.out.trans (al.mono BD.out.size))
            have S0 : Hid ((fun w' => w'.cell? ⟨b5, 2, none⟩ = some (.slice Ax (pp + 1) cx) ∧ w'.frozen? ⟨b5, 2, none⟩ = false ∧ w'.cell? ⟨b, 2, none⟩ = some (.slice (some ⟨gt, off, none⟩) F.n2 c2) ∧ w'.cell? ⟨gt, off + pp * 4, none⟩ = some (.int .i64 (F.f2 pp 0)) ∧ w'.cell? ⟨gt, off + pp * 4 + 1, none⟩ = some (.int .i64 (F.f2 pp 1)) ∧ w'.cell? ⟨gt, off + pp * 4 + 2, none⟩ = some (.int .i64 (F.f2 pp 2)) ∧ w'.cell? ⟨gt, off + pp * 4 + 3, none⟩ = some (.int .i64 (F.f2 pp 3))) w8.drew) := Lib.hid (HS.out _ F8.out.drew (S1.out.keep BD.out.drew))
            have S3 : Hid ((fun w' => w'.cell? ⟨b5, 2, none⟩ = some (.slice Ax (pp + 1) cx) ∧ w'.frozen? ⟨b5, 2, none⟩ = false ∧ w'.cell? ⟨b, 2, none⟩ = some (.slice (some ⟨gt, off, none⟩) F.n2 c2) ∧ w'.cell? ⟨gt, off + pp * 4, none⟩ = some (.int .i64 (F.f2 pp 0)) ∧ w'.cell? ⟨gt, off + pp * 4 + 1, none⟩ = some (.int .i64 (F.f2 pp 1)) ∧ w'.cell? ⟨gt, off + pp * 4 + 2, none⟩ = some (.int .i64 (F.f2 pp 2)) ∧ w'.cell? ⟨gt, off + pp * 4 + 3, none⟩ = some (.int .i64 (F.f2 pp 3))) (w8.drew.alloc (.cells #[.int .i64 (F.f2 pp 0), .int .i64 (F.f2 pp 1), .int .i64 (F.f2 pp 2), .int .i64 (F.f2 pp 3)] 91))) := Lib.hid (HS.out _ KA.out (S1.out.keep BA.out))
            have TN := Lib.hid (show Tab 4 (w8.drew.alloc (.cells #[.int .i64 (F.f2 pp 0), .int .i64 (F.f2 pp 1), .int .i64 (F.f2 pp 2), .int .i64 (F.f2 pp 3)] 91)) (some ⟨w8.heap.size, 0, none⟩) 1 (fun _ => F.f2 pp) from tab_new 91 w8.drew (F.f2 pp))
            have hWs : b5 ≤ w8.heap.size := Nat.le_of_lt F8.out.lt
            have hi0 : (0 : Int) ≤ (pp : Int) := by omega
            have hi1 : (pp : Int) < (F.n2 : Int) := by omega
            clear u0 u1 u2 v0 v1 v2 v3 v4 x0 al b1
            refine wp_region_fin (fun w' => w'.cell? ⟨b5, 2, none⟩ = some (.slice Ax (pp + 1) cx) ∧ w'.frozen? ⟨b5, 2, none⟩ = false ∧ w'.cell? ⟨b, 2, none⟩ = some (.slice (some ⟨gt, off, none⟩) F.n2 c2) ∧ w'.cell? ⟨gt, off + pp * 4, none⟩ = some (.int .i64 (F.f2 pp 0)) ∧ w'.cell? ⟨gt, off + pp * 4 + 1, none⟩ = some (.int .i64 (F.f2 pp 1)) ∧ w'.cell? ⟨gt, off + pp * 4 + 2, none⟩ = some (.int .i64 (F.f2 pp 2)) ∧ w'.cell? ⟨gt, off + pp * 4 + 3, none⟩ = some (.int .i64 (F.f2 pp 3))) 10 (by kernel_rfl) S0.out (fun hHeld => ?_)
            refine wpFin_take (i := 0) (v := ?_) (by kernel_rfl) rfl (by decide) (by kernel_rfl) (by kernel_rfl) (by kernel_rfl) (fun _ _ _ h => h) (Or.inl ⟨by rfl, ?_⟩) (by assumption) ?_
            rotate_left 1
            · (intro w hSw; (try dsimp only at hSw); go_simp; first | done | with_reducible rfl)
            try simp only [Act.put, List.setIfInBounds_toArray, List.set_cons_zero, List.set_cons_succ]
            refine wpFin_take (i := 1) (v := ?_) (by kernel_rfl) rfl (by decide) (by kernel_rfl) (by kernel_rfl) (by kernel_rfl) (fun _ _ _ h => h) (Or.inl ⟨by rfl, ?_⟩) (by assumption) ?_
            rotate_left 1
            · (intro w hSw; (try dsimp only at hSw); go_simp; first | done | with_reducible rfl)
            try simp only [Act.put, List.setIfInBounds_toArray, List.set_cons_zero, List.set_cons_succ]
            refine wpFin_take (i := 2) (v := ?_) (by kernel_rfl) rfl (by decide) (by kernel_rfl) (by kernel_rfl) (by kernel_rfl) (fun _ _ _ h => h) (Or.inl ⟨by rfl, ?_⟩) (by assumption) ?_
            rotate_left 1
            · (intro w hSw; (try dsimp only at hSw); go_simp; first | done | with_reducible rfl)
            try simp only [Act.put, List.setIfInBounds_toArray, List.set_cons_zero, List.set_cons_succ]
            refine wpFin_take (i := 3) (v := ?_) (by kernel_rfl) rfl (by decide) (by kernel_rfl) (by kernel_rfl) (by kernel_rfl) (fun _ _ _ h => h) (Or.inl ⟨by rfl, ?_⟩) (by assumption) ?_
            rotate_left 1
            · (intro w hSw; (try dsimp only at hSw); go_simp; first | done | with_reducible rfl)
            try simp only [Act.put, List.setIfInBounds_toArray, List.set_cons_zero, List.set_cons_succ]
            refine wpFin_take (i := 4) (v := ?_) (by kernel_rfl) rfl (by decide) (by kernel_rfl) (by kernel_rfl) (by kernel_rfl) (fun _ _ _ h => h) (Or.inl ⟨by rfl, ?_⟩) (by assumption) ?_
            rotate_left 1
            · (intro w hSw; (try dsimp only at hSw); go_simp; first | done | with_reducible rfl)
            try simp only [Act.put, List.setIfInBounds_toArray, List.set_cons_zero, List.set_cons_succ]
            refine wpFin_take (i := 5) (v := ?_) (by kernel_rfl) rfl (by decide) (by kernel_rfl) (by kernel_rfl) (by kernel_rfl) (fun _ _ _ h => h) (Or.inl ⟨by rfl, ?_⟩) (by assumption) ?_
            rotate_left 1
            · (intro w hSw; (try dsimp only at hSw); go_simp; first | done | with_reducible rfl)
            try simp only [Act.put, List.setIfInBounds_toArray, List.set_cons_zero, List.set_cons_succ]
            refine wpFin_take (i := 6) (v := ?_) (by kernel_rfl) rfl (by decide) (by kernel_rfl) (by kernel_rfl) (by kernel_rfl) (fun _ _ _ h => h) (Or.inl ⟨by rfl, ?_⟩) (by assumption) ?_
            rotate_left 1
            · (intro w hSw; (try dsimp only at hSw); go_simp; first | done | with_reducible rfl)
            try simp only [Act.put, List.setIfInBounds_toArray, List.set_cons_zero, List.set_cons_succ]
            refine wpFin_one (i := 7) (by kernel_rfl) rfl (fun K hK => ?_)
            go_simp
            refine hK.out _ _ (fun _ => S3.out) (fun hS => ?_)
            have hHeld := hS (by decide)
            clear hK K hS
            try simp only [Act.put, List.setIfInBounds_toArray, List.set_cons_zero, List.set_cons_succ]
            refine wpFin_one (i := 8) (by kernel_rfl) rfl (fun K hK => ?_)
            refine step_append_t ttM rfl (.tmp 69) (.tmp 75) rfl b5 _ _ _ rfl OA.out _ 1 _ _ rfl TN.out (by skip; omega) (by simp; omega) ?_
            intro v' w3 hO hgr
            obtain ⟨Aw, cw, rfl, -, -⟩ := OwnT.tab hO
            have O3 := Lib.hid (hO.congr (app_same (show ∀ j, insT pp (r4 id g a c) F.f2 (pp + 1) j = F.f2 pp j from fun j => by rw [ins_gt (by omega), Nat.add_sub_cancel])))
            have G3 := Lib.hid hgr
            have NF := Lib.hid (OA.out.neBlk KA.out (by decide))
            have F3 := Lib.hid (KA.out.grownO hgr NF.out)
            have B3 := Lib.hid (BA.out.grown hgr BA.out.size (fun k hk => Nat.le_trans L6.out (World.ownsRow.lt OA.out k hk).1))
            have S4 : Hid ((fun w' => w'.cell? ⟨b5, 2, none⟩ = some (.slice Ax (pp + 1) cx) ∧ w'.frozen? ⟨b5, 2, none⟩ = false ∧ w'.cell? ⟨b, 2, none⟩ = some (.slice (some ⟨gt, off, none⟩) F.n2 c2) ∧ w'.cell? ⟨gt, off + pp * 4, none⟩ = some (.int .i64 (F.f2 pp 0)) ∧ w'.cell? ⟨gt, off + pp * 4 + 1, none⟩ = some (.int .i64 (F.f2 pp 1)) ∧ w'.cell? ⟨gt, off + pp * 4 + 2, none⟩ = some (.int .i64 (F.f2 pp 2)) ∧ w'.cell? ⟨gt, off + pp * 4 + 3, none⟩ = some (.int .i64 (F.f2 pp 3))) w3) := Lib.hid (HS.out _ F3.out (S1.out.keep B3.out))
            clear hO hgr
            refine hK.out _ _ (fun _ => S4.out) (fun hS => ?_)
            have hHeld := hS (by decide)
            clear hK K hS
            try simp only [Act.put, List.setIfInBounds_toArray, List.set_cons_zero, List.set_cons_succ]
            refine wpFin_take (i := 9) (v := ?_) (by kernel_rfl) rfl (by decide) (by kernel_rfl) (by kernel_rfl) (by kernel_rfl) (fun _ _ _ h => h) (Or.inl ⟨by rfl, ?_⟩) (by assumption) ?_
            rotate_left 1
            · (intro w hSw; (try dsimp only at hSw); go_simp; first | done | with_reducible rfl)
            try simp only [Act.put, List.setIfInBounds_toArray, List.set_cons_zero, List.set_cons_succ]
            obtain ⟨sc, sf, -⟩ := S4.out
            refine wpFin_one (i := 10) (by kernel_rfl) rfl (fun K hK => ?_)
            go_simp
            refine hK.out _ _ (fun h => absurd rfl h) (fun hS => ?_)
            clear hK K hS
            try simp only [Act.put, List.setIfInBounds_toArray, List.set_cons_zero, List.set_cons_succ]
            refine wpFin_done (by kernel_rfl) ?_ _
            have F4 := Lib.hid ((F3.out.setc 2 (.slice Aw ((pp + 1) + 1) cw)).cast (ds := #[.int .i64 F.cap, .slice G1' F.n1 d1, (.slice Aw ((pp + 1) + 1) cw)]) (by simp only [List.setIfInBounds_toArray, List.set_cons_zero, List.set_cons_succ]))
            have O4 := Lib.hid (O3.out.setf (p := ⟨b5, 2, none⟩) (O3.out.neBlk F3.out (by decide)) (.slice Aw ((pp + 1) + 1) cw))
            have W4 := Lib.hid (show Below b5 w6 (w3.setCell ⟨b5, 2, none⟩ (.slice Aw ((pp + 1) + 1) cw)) from (KW.out.trans ((Q8.out.trans ((Below.refl b5 w8).drew.alloc hWs _)).grown G3.out (Nat.le_trans (Nat.le_of_lt KB.out.lt) (by have := Q8.out.size; first | (simp; done) | (simp; omega))) (fun k hk => (World.ownsRow.lt OA.out k hk).1))).setCell (p := ⟨b5, 2, none⟩) (Nat.le_refl _) (.slice Aw ((pp + 1) + 1) cw))
            clear S0 S3 S4 sc sf hHeld
            go_wp2_with fail
            go_roundw
            case rel => exact ⟨pp + 1, Aw, cw, by omega, by rw [dn_gt (show pp < pp + 1 by omega)], by go_num, by rw [cnt_gt (show pp < pp + 1 by omega)]; exact F4, by rw [cnt_gt (show pp < pp + 1 by omega)]; exact O4, W4⟩
            case measure => simp [intOf]; omega
      · have hin : i = F.n2 := by omega
        have b1 : decide ((i : Int) < (F.n2 : Int)) = false := decide_eq_false (by omega)
        rcases Nat.lt_or_ge pp i with h7 | h7
        · have bd : dn pp i = true := dn_gt h7
          have hcn : cnt pp i = F.n2 + 1 := by rw [cnt_gt h7, hin]
          rw [hcn] at KB KO
          clear hcn
          rw [bd]
          go_upto_region 19 with fail
          have R0 := Lib.hid (Below.refl b5 wr)
          clear b1 bd
          have BE := Lib.hid (BR.out.trans (R0.out.mono L6.out))
          have SE := Lib.hid (S1.out.keep BE.out)
          obtain ⟨z0, z1, z2, z3, z4, y0, y1, y2, y3, y4⟩ := SE.out.out
          have k0 := (KB.out.cell 0).trans rfl
          have k1 := (KB.out.cell 1).trans rfl
          have k2 := (KB.out.cell 2).trans rfl
          have hne : b5 ≠ b + 1 + 1 := by have := L5.out; omega
          have OE := Lib.hid (O6.out.low (KW.out.trans R0.out) (fun k hk => NX.out k hk))
          clear u0 u1 u2 v0 v1 v2 v3 v4
          go_wp2_with fail
          have hlo : w.heap.size ≤ b := by have := HBB.out; omega
          have FV : FarmV wr w.heap.size (edF F 1 id g a c) (.slice G1' F.n1 d1) (.slice Av (F.n2 + 1) cv) := by rw [hed.out]; exact ⟨OE.out.mono hlo, KO.out.mono (by have := L5.out; omega)⟩
          exact bodyPost_ret (v := .agg #[.int .i64 F.cap, (.slice G1' F.n1 d1), (.slice Av (F.n2 + 1) cv), .int .i64 0, .int .i64 0]) (results_cell_row rfl _ _ _ _ _ _ _ rfl (putOut_blk SE.out.2.2.1 rfl _ _ _ _ _).2 hu rfl (by kernel_rfl)) rfl ⟨_, _, by rw [hed.out], FV.putOut (FV.1.neBlk SE.out.2.2.1 (by decide)) (FV.2.neBlk SE.out.2.2.1 (by decide)) _ _ _ _ _, putOut_below (HB.out.trans (BE.out.mono (by have := HZ.out; have := HBB.out; omega))) (by omega) _ _ _ _ _⟩
        · have bd : dn pp i = false := dn_le h7
          have hpi : pp = F.n2 := by omega
          have hcn : cnt pp i = F.n2 := by rw [cnt_le h7, hin]
          rw [hcn] at KB KO
          clear hcn
          rw [bd]
          go_upto_region 18 with fail
          have R0 := Lib.hid (Below.refl b5 wr)
          clear b1 bd
          obtain ⟨e0', e1', e2', y0, y1, y2, y3, y4⟩ := (S1.out.keep (BR.out.trans (R0.out.mono L6.out))).cells
          have aln := (Below.refl wr.heap.size wr).alloc (Nat.le_refl _) (.cells #[.int .i64 id, .int .i64 g, .int .i64 a, .int .i64 c] 91)
          have KN := Lib.hid (KB.out.keep aln)
          have ON := Lib.hid (KO.out.keep aln)
          have TN0 := Lib.hid (tab_new4 91 wr id g a c)
          have NF0 := Lib.hid (ON.out.neBlk KN.out (by decide))
          have y5 := (KB.out.cell 2).trans rfl
          have hWn : b5 ≤ wr.heap.size := Nat.le_of_lt KB.out.lt
          clear aln
          go_upto_region 19 with (first | (at_builtin; refine wpl_append_t ttM rfl _ _ rfl b5 _ _ _ rfl ON.out (some ⟨wr.heap.size, 0, none⟩) 1 _ _ rfl TN0.out (by omega) (by simp; omega) ?_; intro v' w7 hO hgr; obtain ⟨Ax, cx, rfl, -, -⟩ := OwnT.tab hO; have O7 := Lib.hid (hO.congr (app_same (show ∀ j, insT pp (r4 id g a c) F.f2 F.n2 j = r4 id g a c j from fun j => by rw [← hpi, ins_eq]))); have G7 := Lib.hid hgr; have F7 := Lib.hid (KN.out.grownO hgr NF0.out); have z5 := (F7.out.cell 2).trans rfl; have z6 := F7.out.frozen 2; clear hO hgr) | fail)
          have F8 := Lib.hid ((F7.out.setc 2 (.slice Ax (F.n2 + 1) cx)).cast (ds := #[.int .i64 F.cap, .slice G1' F.n1 d1, (.slice Ax (F.n2 + 1) cx)]) (by simp only [List.setIfInBounds_toArray, List.set_cons_zero, List.set_cons_succ]))
          have O8 := Lib.hid (O7.out.setf (p := ⟨b5, 2, none⟩) (O7.out.neBlk F7.out (by decide)) (.slice Ax (F.n2 + 1) cx))
          have Q8 := Lib.hid (show Below b5 wr (w7.setCell ⟨b5, 2, none⟩ (.slice Ax (F.n2 + 1) cx)) from ((R0.out.trans ((Below.refl b5 wr).alloc hWn _)).grown G7.out (Nat.le_trans (Nat.le_of_lt KB.out.lt) (by have := R0.out.size; first | (simp; done) | (simp; omega))) (fun k hk => (World.ownsRow.lt ON.out k hk).1)).setCell (p := ⟨b5, 2, none⟩) (Nat.le_refl _) (.slice Ax (F.n2 + 1) cx))
          clear e0' e1' e2' y0 y1 y2 y3 y4 y5 z5 z6 hWn F7 O7 G7 KN ON TN0 NF0
          generalize w7.setCell ⟨b5, 2, none⟩ (.slice Ax (F.n2 + 1) cx) = w8 at *
          have BE := Lib.hid (BR.out.trans (Q8.out.mono L6.out))
          have SE := Lib.hid (S1.out.keep BE.out)
          obtain ⟨z0, z1, z2, z3, z4, y0, y1, y2, y3, y4⟩ := SE.out.out
          have k0 := (F8.out.cell 0).trans rfl
          have k1 := (F8.out.cell 1).trans rfl
          have k2 := (F8.out.cell 2).trans rfl
          have hne : b5 ≠ b + 1 + 1 := by have := L5.out; omega
          have OE := Lib.hid (O6.out.low (KW.out.trans Q8.out) (fun k hk => NX.out k hk))
          clear u0 u1 u2 v0 v1 v2 v3 v4
          go_wp2_with fail
          have hlo : w.heap.size ≤ b := by have := HBB.out; omega
          have FV : FarmV w8 w.heap.size (edF F 1 id g a c) (.slice G1' F.n1 d1) (.slice Ax (F.n2 + 1) cx) := by rw [hed.out]; exact ⟨OE.out.mono hlo, O8.out.mono (by have := L5.out; omega)⟩
          exact bodyPost_ret (v := .agg #[.int .i64 F.cap, (.slice G1' F.n1 d1), (.slice Ax (F.n2 + 1) cx), .int .i64 0, .int .i64 0]) (results_cell_row rfl _ _ _ _ _ _ _ rfl (putOut_blk SE.out.2.2.1 rfl _ _ _ _ _).2 hu rfl (by kernel_rfl)) rfl ⟨_, _, by rw [hed.out], FV.putOut (FV.1.neBlk SE.out.2.2.1 (by decide)) (FV.2.neBlk SE.out.2.2.1 (by decide)) _ _ _ _ _, putOut_below (HB.out.trans (BE.out.mono (by have := HZ.out; have := HBB.out; omega))) (by omega) _ _ _ _ _⟩)
set_option maxHeartbeats 16000000 in
theorem s_group_go (F : Fm) (A1 A2 : Option Addr) (c1 c2 : Nat) (k id g a c : Int) (w : World) (h : FarmAt w A1 F.n1 F.f1 A2 F.n2 F.f2) (hr : Right F) (e0 : hasId F.n1 F.f1 id = false) (e1 : hasG F g = true) (e2 : F.n1 ≠ 30) (e3 : g < id) :
    Calls Try.prog 74 #[.agg #[.int .i64 F.cap, .slice A1 F.n1 c1, .slice A2 F.n2 c2], .agg #[.int .i64 k, .int .i64 id, .int .i64 g, .int .i64 a, .int .i64 c]] w (OutV 0 (edF F 6 id g a c) w) := by
  have HE0 := Lib.hid e0
  have HE1 := Lib.hid e1
  have HE2 := Lib.hid e2
  have EG := Lib.hid e3
  clear e0 e1 e2 e3
  by_cases hg0 : g = 0
  case' pos =>
    have HG0 := Lib.hid hg0
    clear hg0
    have hu := Try.underlying60
    have S1 := Lib.hid (SpIn.new F A1 A2 c1 c2 k id g a c w h)
    have HB : Hid (Below w.heap.size w (((w.alloc (.cells #[.int .i64 F.cap, .slice A1 F.n1 c1, .slice A2 F.n2 c2] 34)).alloc (.cells #[.int .i64 k, .int .i64 id, .int .i64 g, .int .i64 a, .int .i64 c] 56)).alloc (.cells #[.int .i64 0, .slice none 0 0, .slice none 0 0, .int .i64 0, .int .i64 0] 60))) := Lib.hid ((((Below.refl w.heap.size w).alloc (Nat.le_refl _) _).alloc (by simp) _).alloc (by simp; omega) _)
    have HZ : Hid ((((w.alloc (.cells #[.int .i64 F.cap, .slice A1 F.n1 c1, .slice A2 F.n2 c2] 34)).alloc (.cells #[.int .i64 k, .int .i64 id, .int .i64 g, .int .i64 a, .int .i64 c] 56)).alloc (.cells #[.int .i64 0, .slice none 0 0, .slice none 0 0, .int .i64 0, .int .i64 0] 60)).heap.size = w.heap.size + 1 + 1 + 1) := Lib.hid (by simp)
    clear h
    have HR := Lib.hid hr
    have hl1 := hr.l1
    have hl2 := hr.l2
    clear hr
    go_enter Try.func74, Try.ntmps74
    go_upto_region 1 with fail
    generalize (((w.alloc (.cells #[.int .i64 F.cap, .slice A1 F.n1 c1, .slice A2 F.n2 c2] 34)).alloc (.cells #[.int .i64 k, .int .i64 id, .int .i64 g, .int .i64 a, .int .i64 c] 56)).alloc (.cells #[.int .i64 0, .slice none 0 0, .slice none 0 0, .int .i64 0, .int .i64 0] 60)) = w1 at *
    obtain ⟨b, hbb⟩ : ∃ b, w.heap.size = b := ⟨_, rfl⟩
    have HBB := Lib.hid hbb
    rw [hbb] at S1 HZ ⊢
    clear hbb
    obtain ⟨u0, u1, u2, v0, v1, v2, v3, v4⟩ := S1.out.cells
    have bg0 : decide (g ≥ id) = false := decide_eq_false (by have := EG.out; omega)
    obtain ⟨x, hx⟩ : ∃ x, grpIdx F.f1 id 0 F.n1 = x := ⟨_, rfl⟩
    have Hx := Lib.hid hx
    have bx : decide (x ≥ 0) = false := decide_eq_false (by have := grpIdx_no HE0.out; omega)
    clear hx
    have bg : (g != 0) = false := by rw [HG0.out]; rfl
    have bn : decide ((F.n1 : Int) ≥ 30) = false := decide_eq_false (by have := HE2.out; omega)
    go_upto_region 9 with (first | (go_at_call 76; refine (s_l05Group F.cap A1 A2 F.n1 c1 F.n2 c2 F.f1 _ w1 S1.out.2.2.2.1.g (by omega)).mono ?_; rintro e w2 ⟨rfl, hb2⟩; rw [Hx.out]; have S2 := Lib.hid (S1.out.keep hb2); obtain ⟨u02, u12, u22, v02, v12, v22, v32, v42⟩ := S2.out.cells; clear hb2) | fail)
    generalize w2 = wX at *
    have SX := S2
    clear S2 bg HG0 u0 u1 u2 v0 v1 v2 v3 v4
  case' neg =>
    have HG0 := Lib.hid hg0
    clear hg0
    have hu := Try.underlying60
    have S1 := Lib.hid (SpIn.new F A1 A2 c1 c2 k id g a c w h)
    have HB : Hid (Below w.heap.size w (((w.alloc (.cells #[.int .i64 F.cap, .slice A1 F.n1 c1, .slice A2 F.n2 c2] 34)).alloc (.cells #[.int .i64 k, .int .i64 id, .int .i64 g, .int .i64 a, .int .i64 c] 56)).alloc (.cells #[.int .i64 0, .slice none 0 0, .slice none 0 0, .int .i64 0, .int .i64 0] 60))) := Lib.hid ((((Below.refl w.heap.size w).alloc (Nat.le_refl _) _).alloc (by simp) _).alloc (by simp; omega) _)
    have HZ : Hid ((((w.alloc (.cells #[.int .i64 F.cap, .slice A1 F.n1 c1, .slice A2 F.n2 c2] 34)).alloc (.cells #[.int .i64 k, .int .i64 id, .int .i64 g, .int .i64 a, .int .i64 c] 56)).alloc (.cells #[.int .i64 0, .slice none 0 0, .slice none 0 0, .int .i64 0, .int .i64 0] 60)).heap.size = w.heap.size + 1 + 1 + 1) := Lib.hid (by simp)
    clear h
    have HR := Lib.hid hr
    have hl1 := hr.l1
    have hl2 := hr.l2
    clear hr
    go_enter Try.func74, Try.ntmps74
    go_upto_region 1 with fail
    generalize (((w.alloc (.cells #[.int .i64 F.cap, .slice A1 F.n1 c1, .slice A2 F.n2 c2] 34)).alloc (.cells #[.int .i64 k, .int .i64 id, .int .i64 g, .int .i64 a, .int .i64 c] 56)).alloc (.cells #[.int .i64 0, .slice none 0 0, .slice none 0 0, .int .i64 0, .int .i64 0] 60)) = w1 at *
    obtain ⟨b, hbb⟩ : ∃ b, w.heap.size = b := ⟨_, rfl⟩
    have HBB := Lib.hid hbb
    rw [hbb] at S1 HZ ⊢
    clear hbb
    obtain ⟨u0, u1, u2, v0, v1, v2, v3, v4⟩ := S1.out.cells
    have bg0 : decide (g ≥ id) = false := decide_eq_false (by have := EG.out; omega)
    obtain ⟨x, hx⟩ : ∃ x, grpIdx F.f1 id 0 F.n1 = x := ⟨_, rfl⟩
    have Hx := Lib.hid hx
    have bx : decide (x ≥ 0) = false := decide_eq_false (by have := grpIdx_no HE0.out; omega)
    clear hx
    have bg : (g != 0) = true := by simpa using HG0.out
    have HG1 := Lib.hid (show hasId F.n1 F.f1 g = true from (hasG_iff.1 HE1.out).resolve_right HG0.out)
    obtain ⟨y, hy⟩ : ∃ x, grpIdx F.f1 g 0 F.n1 = x := ⟨_, rfl⟩
    have Hy := Lib.hid hy
    have by_ : decide (y < 0) = false := decide_eq_false (by rw [← hy, grpIdx_pos HR.out.r1 HG1.out]; omega)
    clear hy
    have bn : decide ((F.n1 : Int) ≥ 30) = false := decide_eq_false (by have := HE2.out; omega)
    go_upto_region 9 with (first | (go_at_call 76; refine (s_l05Group F.cap A1 A2 F.n1 c1 F.n2 c2 F.f1 _ w2 S2.out.2.2.2.1.g (by omega)).mono ?_; rintro e w3 ⟨rfl, hb3⟩; rw [Hy.out]; have S3 := Lib.hid (S2.out.keep hb3); obtain ⟨u03, u13, u23, v03, v13, v23, v33, v43⟩ := S3.out.cells; clear hb3) | (go_at_call 76; refine (s_l05Group F.cap A1 A2 F.n1 c1 F.n2 c2 F.f1 _ w1 S1.out.2.2.2.1.g (by omega)).mono ?_; rintro e w2 ⟨rfl, hb2⟩; rw [Hx.out]; have S2 := Lib.hid (S1.out.keep hb2); obtain ⟨u02, u12, u22, v02, v12, v22, v32, v42⟩ := S2.out.cells; clear hb2) | fail)
    generalize w3 = wX at *
    have SX := S3
    clear S3 bg HG0 HG1 Hy by_ u0 u1 u2 v0 v1 v2 v3 v4 u02 u12 u22 v02 v12 v22 v32 v42
  all_goals (
    clear Hx bx bn
    clear bg0
    obtain ⟨p0, p1, p2, q0, q1, q2, q3, q4⟩ := SX.out.cells
    go_upto_region 10 with (first | (go_at_call 72; refine (s_l06Copy F.cap A1 A2 F.n1 c1 F.n2 c2 F.f1 F.f2 wX SX.out.2.2.2.1 (by omega) (by omega)).mono ?_; rintro e w4 ⟨vg, vm, rfl, hO1, hO2, hb4⟩; obtain ⟨G1', d1, rfl, -, -⟩ := hO1.tab; obtain ⟨G2', d2, rfl, -, -⟩ := hO2.tab; have O1 := Lib.hid hO1; have O2 := Lib.hid hO2; have HBC := Lib.hid hb4; clear hO1 hO2 hb4) | fail)
    have O0 := Lib.hid (O2.out.mono (B' := b) (by have := SX.out.2.2.2.2.size; have := HZ.out; omega))
    clear O1 O2 p0 p1 p2 q0 q1 q2 q3 q4
    have S4 := Lib.hid (SX.out.keep HBC.out)
    have al5 := (Below.refl w4.heap.size w4).alloc (Nat.le_refl _) (.cells #[.int .i64 F.cap, .slice G1' F.n1 d1, .slice G2' F.n2 d2] 34)
    have K5 := Lib.hid (Blk.new (w := w4) (B := w4.heap.size) (Nat.le_refl _) #[.int .i64 F.cap, .slice G1' F.n1 d1, .slice G2' F.n2 d2] 34)
    have S5 := Lib.hid (S4.out.keep al5)
    have O5 := Lib.hid (O0.out.keep al5)
    have L5 := Lib.hid (show b + 1 + 1 < w4.heap.size from S4.out.2.2.1.lt)
    have L6 := Lib.hid (show w1.heap.size ≤ w4.heap.size from S4.out.2.2.2.2.size)
    have NX := Lib.hid (show ∀ k, (.slice G2' F.n2 d2 : Value).ownBlock = some k → k < w4.heap.size from fun k e => (World.ownsRow.lt O0.out k e).2)
    clear al5 S4 O0 HBC SX
    generalize (w4.alloc (.cells #[.int .i64 F.cap, .slice G1' F.n1 d1, .slice G2' F.n2 d2] 34)) = w5 at *
    generalize hb5 : w4.heap.size = b5 at *
    clear hb5
    have k1 := (K5.out.cell 1).trans rfl
    have kf := K5.out.frozen 1
    have hb5 : b5 < w5.heap.size := K5.out.lt
    have kz : ((w5.alloc (.cells #[] 114)).cell? ⟨b5, 1, none⟩) = some (.slice G1' F.n1 d1) := (((K5.out.keep ((Below.refl _ _).alloc (Nat.le_refl _) (.cells #[] 114))).cell 1).trans rfl)
    go_wp2_with fail
    have K5' := Lib.hid ((K5.out.setc 1 (.slice (some ⟨w5.heap.size, 0, none⟩) 0 0)).cast (ds := #[.int .i64 F.cap, (.slice (some ⟨w5.heap.size, 0, none⟩) 0 0), .slice G2' F.n2 d2]) (by simp only [List.setIfInBounds_toArray, List.set_cons_zero, List.set_cons_succ]))
    have O5' := Lib.hid (O5.out.setf (p := ⟨b5, 1, none⟩) (fun e => by have := NX.out b5 e; omega) (.slice (some ⟨w5.heap.size, 0, none⟩) 0 0))
    have B5' := Lib.hid (S5.out.2.2.2.2.setCell (p := ⟨b5, 1, none⟩) (by have := L6.out; exact this) (.slice (some ⟨w5.heap.size, 0, none⟩) 0 0))
    have z5 : (w5.setCell ⟨b5, 1, none⟩ (.slice (some ⟨w5.heap.size, 0, none⟩) 0 0)).heap.size = w5.heap.size := by simp [World.setCell]
    generalize hb6 : w5.heap.size = b6 at *
    generalize (w5.setCell ⟨b5, 1, none⟩ (.slice (some ⟨b6, 0, none⟩) 0 0)) = w5' at *
    have al6 := (Below.refl w5'.heap.size w5').alloc (Nat.le_refl _) (.cells #[] 114)
    have K6 := Lib.hid (K5'.out.keep al6)
    have O6 := Lib.hid (O5'.out.keep al6)
    have M6 := Lib.hid (show OwnT 114 (w5'.alloc (.cells #[] 114)) b5 (.slice (some ⟨b6, 0, none⟩) 0 0) 0 (insT (posT F.n1 F.f1 id) (r4 id g a c) F.f1) from by have := made_t 114 w5' (insT (posT F.n1 F.f1 id) (r4 id g a c) F.f1); rw [z5] at this; exact this.mono (Nat.le_of_lt hb5))
    have B6 := Lib.hid (B5'.out.trans (al6.mono B5'.out.size))
    clear k1 kf kz hb5 al6 K5 O5 S5 K5' O5' B5' z5 hb6
    generalize (w5'.alloc (.cells #[] 114)) = w6 at *
    have HP := Lib.hid (posT_pos HR.out.r1 id)
    have hpn := HP.out.1
    have hed := Lib.hid (show edF F 6 id g a c = { F with n1 := F.n1 + 1, f1 := insT (posT F.n1 F.f1 id) (r4 id g a c) F.f1 } from rfl)
    generalize posT F.n1 F.f1 id = pp at *
    go_loopw [6, 7] (fun v6 v7 wr => ∃ (i : Nat) (Av : Option Addr) (cv : Nat), i ≤ F.n1 ∧ v6 = .bool (dn pp i) ∧ v7 = .int .i64 i ∧ Hid (Blk wr b5 b5 #[.int .i64 F.cap, (.slice Av (cnt pp i) cv), .slice G2' F.n2 d2] 34) ∧ Hid (OwnT 114 wr b5 (.slice Av (cnt pp i) cv) (cnt pp i) (insT pp (r4 id g a c) F.f1)) ∧ Hid (Below b5 w6 wr)) (fun v6 v7 _ => F.n1 - (intOf v7).toNat)
    case atStart => exact ⟨0, some ⟨b6, 0, none⟩, 0, by omega, by rw [dn_le (Nat.zero_le _)], rfl, by rw [cnt_le (Nat.zero_le _)]; exact K6, by rw [cnt_le (Nat.zero_le _)]; exact M6, Lib.hid (Below.refl _ _)⟩
    case round =>
      obtain ⟨i, Av, cv, hi, rfl, rfl, KB, KO, KW⟩ := hrel
      clear K6 M6
      have BR := Lib.hid (B6.out.trans (KW.out.mono (by have := L6.out; exact this)))
      have SR := Lib.hid (S1.out.keep BR.out)
      obtain ⟨u0, u1, u2, v0, v1, v2, v3, v4⟩ := SR.out.cells
      by_cases h5 : i < F.n1
      · have b1 : decide ((i : Int) < (F.n1 : Int)) = true := decide_eq_true (by omega)
        obtain ⟨gt, off, eA, hgl, hx⟩ := SR.out.2.2.2.1.g.at (by omega)
        subst eA
        have x0 := hx i 0 h5 (by omega)
        rw [Nat.add_zero] at x0
        clear hx
        by_cases h6 : i < pp
        · have bd : dn pp i = false := dn_le (by omega)
          have bc : decide (F.f1 i 0 > id) = false := decide_eq_false (by have := HP.out.2.1 i h6; omega)
          have hcn : cnt pp i = i := cnt_le (by omega)
          rw [hcn] at KB KO
          clear hcn
          rw [bd]
          have FT : ∀ p : BehW wr, (SpIn b w1 F (some ⟨gt, off, none⟩) A2 c1 c2 k id g a c p.w) := fun p => SR.out.keep p.h
          have t2 : ∀ p : BehW wr, p.w.cell? ⟨b, 1, none⟩ = some (.slice (some ⟨gt, off, none⟩) F.n1 c1) := fun p => (FT p).cells.2.1
          have t3 : ∀ p : BehW wr, p.w.cell? ⟨b + 1, 1, none⟩ = some (.int .i64 id) := fun p => (FT p).cells.2.2.2.2.1
          have t4 : ∀ p : BehW wr, p.w.cell? ⟨gt, off + i * 4, none⟩ = some (.int .i64 (F.f1 i 0)) := fun p => (p.h.cell (p := ⟨gt, off + i * 4, none⟩) hgl).trans x0
          have hi0 : (0 : Int) ≤ (i : Int) := by omega
          have hi1 : (i : Int) < (F.n1 : Int) := by omega
          clear FT
          go_upto_region 15 with fail
          refine wp_region_beh (by kernel_rfl) (by kernel_rfl) ?_
          repeat (go_big_quiet_step (fail))
          refine wpQuiet_nil ?_
          intro _ hw'
          obtain ⟨q1, hw''⟩ := hw'
          subst hw''
          go_upto_region 18 with fail
          have HQ := Lib.hid q1.h
          generalize q1.w = w2 at *
          clear t2 t3 t4 hi0 hi1 bc bd
          have K2 := Lib.hid (KB.out.keep HQ.out)
          have O2 := Lib.hid (KO.out.keep HQ.out)
          have Q2 := Lib.hid (show Below b5 wr w2 from HQ.out.mono (Nat.le_of_lt KB.out.lt))
          have HS := Lib.hid (show ∀ w' : World, Blk w' b5 b5 #[.int .i64 F.cap, (.slice Av i cv), .slice G2' F.n2 d2] 34 → SpIn b w1 F (some ⟨gt, off, none⟩) A2 c1 c2 k id g a c w' → (w'.cell? ⟨b5, 1, none⟩ = some (.slice Av i cv) ∧ w'.frozen? ⟨b5, 1, none⟩ = false ∧ w'.cell? ⟨b, 1, none⟩ = some (.slice (some ⟨gt, off, none⟩) F.n1 c1) ∧ w'.cell? ⟨gt, off + i * 4, none⟩ = some (.int .i64 (F.f1 i 0)) ∧ w'.cell? ⟨gt, off + i * 4 + 1, none⟩ = some (.int .i64 (F.f1 i 1)) ∧ w'.cell? ⟨gt, off + i * 4 + 2, none⟩ = some (.int .i64 (F.f1 i 2)) ∧ w'.cell? ⟨gt, off + i * 4 + 3, none⟩ = some (.int .i64 (F.f1 i 3))) from fun w' h1 h2 => by
            obtain ⟨g', o', e', _, hx'⟩ := h2.2.2.2.1.g.at (by omega)
            cases e'
            have y0 := hx' i 0 h5 (by omega)
            rw [Nat.add_zero] at y0
            exact ⟨(h1.cell 1).trans rfl, h1.frozen 1, (h2.1.cell 1).trans rfl, y0, hx' i 1 h5 (by omega), hx' i 2 h5 (by omega), hx' i 3 h5 (by omega)⟩)
          have BD := Lib.hid (show Below w1.heap.size w1 w2 from BR.out.trans (Q2.out.mono L6.out))
          have al := (Below.refl w2.heap.size w2).drew.alloc (Nat.le_refl _) (.cells #[.int .i64 (F.f1 i 0), .int .i64 (F.f1 i 1), .int .i64 (F.f1 i 2), .int .i64 (F.f1 i 3)] 114)
          have KA := Lib.hid (K2.out.keep al)
          have OA := Lib.hid (O2.out.keep al)
          have BA := Lib.hid (BD.out.trans (al.mono BD.out.size))
          have S0 : Hid ((fun w' => w'.cell? ⟨b5, 1, none⟩ = some (.slice Av i cv) ∧ w'.frozen? ⟨b5, 1, none⟩ = false ∧ w'.cell? ⟨b, 1, none⟩ = some (.slice (some ⟨gt, off, none⟩) F.n1 c1) ∧ w'.cell? ⟨gt, off + i * 4, none⟩ = some (.int .i64 (F.f1 i 0)) ∧ w'.cell? ⟨gt, off + i * 4 + 1, none⟩ = some (.int .i64 (F.f1 i 1)) ∧ w'.cell? ⟨gt, off + i * 4 + 2, none⟩ = some (.int .i64 (F.f1 i 2)) ∧ w'.cell? ⟨gt, off + i * 4 + 3, none⟩ = some (.int .i64 (F.f1 i 3))) w2.drew) := Lib.hid (HS.out _ K2.out.drew (S1.out.keep BD.out.drew))
          have S3 : Hid ((fun w' => w'.cell? ⟨b5, 1, none⟩ = some (.slice Av i cv) ∧ w'.frozen? ⟨b5, 1, none⟩ = false ∧ w'.cell? ⟨b, 1, none⟩ = some (.slice (some ⟨gt, off, none⟩) F.n1 c1) ∧ w'.cell? ⟨gt, off + i * 4, none⟩ = some (.int .i64 (F.f1 i 0)) ∧ w'.cell? ⟨gt, off + i * 4 + 1, none⟩ = some (.int .i64 (F.f1 i 1)) ∧ w'.cell? ⟨gt, off + i * 4 + 2, none⟩ = some (.int .i64 (F.f1 i 2)) ∧ w'.cell? ⟨gt, off + i * 4 + 3, none⟩ = some (.int .i64 (F.f1 i 3))) (w2.drew.alloc (.cells #[.int .i64 (F.f1 i 0), .int .i64 (F.f1 i 1), .int .i64 (F.f1 i 2), .int .i64 (F.f1 i 3)] 114))) := Lib.hid (HS.out _ KA.out (S1.out.keep BA.out))
          have TN := Lib.hid (show Tab 4 (w2.drew.alloc (.cells #[.int .i64 (F.f1 i 0), .int .i64 (F.f1 i 1), .int .i64 (F.f1 i 2), .int .i64 (F.f1 i 3)] 114)) (some ⟨w2.heap.size, 0, none⟩) 1 (fun _ => F.f1 i) from tab_new 114 w2.drew (F.f1 i))
          have hWs : b5 ≤ w2.heap.size := Nat.le_of_lt K2.out.lt
          have hi0 : (0 : Int) ≤ (i : Int) := by omega
          have hi1 : (i : Int) < (F.n1 : Int) := by omega
          clear u0 u1 u2 v0 v1 v2 v3 v4 x0 al b1
          refine wp_region_fin (fun w' => w'.cell? ⟨b5, 1, none⟩ = some (.slice Av i cv) ∧ w'.frozen? ⟨b5, 1, none⟩ = false ∧ w'.cell? ⟨b, 1, none⟩ = some (.slice (some ⟨gt, off, none⟩) F.n1 c1) ∧ w'.cell? ⟨gt, off + i * 4, none⟩ = some (.int .i64 (F.f1 i 0)) ∧ w'.cell? ⟨gt, off + i * 4 + 1, none⟩ = some (.int .i64 (F.f1 i 1)) ∧ w'.cell? ⟨gt, off + i * 4 + 2, none⟩ = some (.int .i64 (F.f1 i 2)) ∧ w'.cell? ⟨gt, off + i * 4 + 3, none⟩ = some (.int .i64 (F.f1 i 3))) 10 (by kernel_rfl) S0.out (fun hHeld => ?_)
          refine wpFin_take (i := 0) (v := ?_) (by kernel_rfl) rfl (by decide) (by kernel_rfl) (by kernel_rfl) (by kernel_rfl) (fun _ _ _ h => h) (Or.inl ⟨by rfl, ?_⟩) (by assumption) ?_
          rotate_left 1
          · (intro w hSw; (try dsimp only at hSw); go_simp; first | done | with_reducible rfl)
          try simp only [Act.put, List.setIfInBounds_toArray, List.set_cons_zero, List.set_cons_succ]
          refine wpFin_take (i := 1) (v := ?_) (by kernel_rfl) rfl (by decide) (by kernel_rfl) (by kernel_rfl) (by kernel_rfl) (fun _ _ _ h => h) (Or.inl ⟨by rfl, ?_⟩) (by assumption) ?_
          rotate_left 1
          · (intro w hSw; (try dsimp only at hSw); go_simp; first | done | with_reducible rfl)
          try simp only [Act.put, List.setIfInBounds_toArray, List.set_cons_zero, List.set_cons_succ]
          refine wpFin_take (i := 2) (v := ?_) (by kernel_rfl) rfl (by decide) (by kernel_rfl) (by kernel_rfl) (by kernel_rfl) (fun _ _ _ h => h) (Or.inl ⟨by rfl, ?_⟩) (by assumption) ?_
          rotate_left 1
          · (intro w hSw; (try dsimp only at hSw); go_simp; first | done | with_reducible rfl)
          try simp only [Act.put, List.setIfInBounds_toArray, List.set_cons_zero, List.set_cons_succ]
          refine wpFin_take (i := 3) (v := ?_) (by kernel_rfl) rfl (by decide) (by kernel_rfl) (by kernel_rfl) (by kernel_rfl) (fun _ _ _ h => h) (Or.inl ⟨by rfl, ?_⟩) (by assumption) ?_
          rotate_left 1
          · (intro w hSw; (try dsimp only at hSw); go_simp; first | done | with_reducible rfl)
          try simp only [Act.put, List.setIfInBounds_toArray, List.set_cons_zero, List.set_cons_succ]
          refine wpFin_take (i := 4) (v := ?_) (by kernel_rfl) rfl (by decide) (by kernel_rfl) (by kernel_rfl) (by kernel_rfl) (fun _ _ _ h => h) (Or.inl ⟨by rfl, ?_⟩) (by assumption) ?_
          rotate_left 1
          · (intro w hSw; (try dsimp only at hSw); go_simp; first | done | with_reducible rfl)
          try simp only [Act.put, List.setIfInBounds_toArray, List.set_cons_zero, List.set_cons_succ]
          refine wpFin_take (i := 5) (v := ?_) (by kernel_rfl) rfl (by decide) (by kernel_rfl) (by kernel_rfl) (by kernel_rfl) (fun _ _ _ h => h) (Or.inl ⟨by rfl, ?_⟩) (by assumption) ?_
          rotate_left 1
          · (intro w hSw; (try dsimp only at hSw); go_simp; first | done | with_reducible rfl)
          try simp only [Act.put, List.setIfInBounds_toArray, List.set_cons_zero, List.set_cons_succ]
          refine wpFin_take (i := 6) (v := ?_) (by kernel_rfl) rfl (by decide) (by kernel_rfl) (by kernel_rfl) (by kernel_rfl) (fun _ _ _ h => h) (Or.inl ⟨by rfl, ?_⟩) (by assumption) ?_
          rotate_left 1
          · (intro w hSw; (try dsimp only at hSw); go_simp; first | done | with_reducible rfl)
          try simp only [Act.put, List.setIfInBounds_toArray, List.set_cons_zero, List.set_cons_succ]
          refine wpFin_one (i := 7) (by kernel_rfl) rfl (fun K hK => ?_)
          go_simp
          refine hK.out _ _ (fun _ => S3.out) (fun hS => ?_)
          have hHeld := hS (by decide)
          clear hK K hS
          try simp only [Act.put, List.setIfInBounds_toArray, List.set_cons_zero, List.set_cons_succ]
          refine wpFin_one (i := 8) (by kernel_rfl) rfl (fun K hK => ?_)
          refine step_append_t ttG rfl (.tmp 75) (.tmp 81) rfl b5 _ _ _ rfl OA.out _ 1 _ _ rfl TN.out (by skip; omega) (by simp; omega) ?_
          intro v' w3 hO hgr
          obtain ⟨Aw, cw, rfl, -, -⟩ := OwnT.tab hO
          have O3 := Lib.hid (hO.congr (app_same (show ∀ j, insT pp (r4 id g a c) F.f1 i j = F.f1 i j from fun j => by rw [ins_lt h6])))
          have G3 := Lib.hid hgr
          have NF := Lib.hid (OA.out.neBlk KA.out (by decide))
          have F3 := Lib.hid (KA.out.grownO hgr NF.out)
          have B3 := Lib.hid (BA.out.grown hgr BA.out.size (fun k hk => Nat.le_trans L6.out (World.ownsRow.lt OA.out k hk).1))
          have S4 : Hid ((fun w' => w'.cell? ⟨b5, 1, none⟩ = some (.slice Av i cv) ∧ w'.frozen? ⟨b5, 1, none⟩ = false ∧ w'.cell? ⟨b, 1, none⟩ = some (.slice (some ⟨gt, off, none⟩) F.n1 c1) ∧ w'.cell? ⟨gt, off + i * 4, none⟩ = some (.int .i64 (F.f1 i 0)) ∧ w'.cell? ⟨gt, off + i * 4 + 1, none⟩ = some (.int .i64 (F.f1 i 1)) ∧ w'.cell? ⟨gt, off + i * 4 + 2, none⟩ = some (.int .i64 (F.f1 i 2)) ∧ w'.cell? ⟨gt, off + i * 4 + 3, none⟩ = some (.int .i64 (F.f1 i 3))) w3) := Lib.hid (HS.out _ F3.out (S1.out.keep B3.out))
          clear hO hgr
          refine hK.out _ _ (fun _ => S4.out) (fun hS => ?_)
          have hHeld := hS (by decide)
          clear hK K hS
          try simp only [Act.put, List.setIfInBounds_toArray, List.set_cons_zero, List.set_cons_succ]
          refine wpFin_take (i := 9) (v := ?_) (by kernel_rfl) rfl (by decide) (by kernel_rfl) (by kernel_rfl) (by kernel_rfl) (fun _ _ _ h => h) (Or.inl ⟨by rfl, ?_⟩) (by assumption) ?_
          rotate_left 1
          · (intro w hSw; (try dsimp only at hSw); go_simp; first | done | with_reducible rfl)
          try simp only [Act.put, List.setIfInBounds_toArray, List.set_cons_zero, List.set_cons_succ]
          obtain ⟨sc, sf, -⟩ := S4.out
          refine wpFin_one (i := 10) (by kernel_rfl) rfl (fun K hK => ?_)
          go_simp
          refine hK.out _ _ (fun h => absurd rfl h) (fun hS => ?_)
          clear hK K hS
          try simp only [Act.put, List.setIfInBounds_toArray, List.set_cons_zero, List.set_cons_succ]
          refine wpFin_done (by kernel_rfl) ?_ _
          have F4 := Lib.hid ((F3.out.setc 1 (.slice Aw (i + 1) cw)).cast (ds := #[.int .i64 F.cap, (.slice Aw (i + 1) cw), .slice G2' F.n2 d2]) (by simp only [List.setIfInBounds_toArray, List.set_cons_zero, List.set_cons_succ]))
          have O4 := Lib.hid (O3.out.setf (p := ⟨b5, 1, none⟩) (O3.out.neBlk F3.out (by decide)) (.slice Aw (i + 1) cw))
          have W4 := Lib.hid (show Below b5 w6 (w3.setCell ⟨b5, 1, none⟩ (.slice Aw (i + 1) cw)) from (KW.out.trans ((Q2.out.trans ((Below.refl b5 w2).drew.alloc hWs _)).grown G3.out (Nat.le_trans (Nat.le_of_lt KB.out.lt) (by have := Q2.out.size; first | (simp; done) | (simp; omega))) (fun k hk => (World.ownsRow.lt OA.out k hk).1))).setCell (p := ⟨b5, 1, none⟩) (Nat.le_refl _) (.slice Aw (i + 1) cw))
          clear S0 S3 S4 sc sf hHeld
          go_wp2_with fail
          go_roundw
          case rel => exact ⟨i + 1, Aw, cw, by omega, by rw [dn_le (show i + 1 ≤ pp from h6)], by go_num, by rw [cnt_le (show i + 1 ≤ pp from h6)]; exact F4, by rw [cnt_le (show i + 1 ≤ pp from h6)]; exact O4, W4⟩
          case measure => simp [intOf]; omega
        · rcases Nat.lt_or_ge pp i with h7 | h7
          · have bd : dn pp i = true := dn_gt h7
            have hcn : cnt pp i = i + 1 := cnt_gt h7
            rw [hcn] at KB KO
            clear hcn
            rw [bd]
            have FT : ∀ p : BehW wr, (SpIn b w1 F (some ⟨gt, off, none⟩) A2 c1 c2 k id g a c p.w) := fun p => SR.out.keep p.h
            have t2 : ∀ p : BehW wr, p.w.cell? ⟨b, 1, none⟩ = some (.slice (some ⟨gt, off, none⟩) F.n1 c1) := fun p => (FT p).cells.2.1
            have t3 : ∀ p : BehW wr, p.w.cell? ⟨b + 1, 1, none⟩ = some (.int .i64 id) := fun p => (FT p).cells.2.2.2.2.1
            have t4 : ∀ p : BehW wr, p.w.cell? ⟨gt, off + i * 4, none⟩ = some (.int .i64 (F.f1 i 0)) := fun p => (p.h.cell (p := ⟨gt, off + i * 4, none⟩) hgl).trans x0
            have hi0 : (0 : Int) ≤ (i : Int) := by omega
            have hi1 : (i : Int) < (F.n1 : Int) := by omega
            clear FT
            go_upto_region 15 with fail
            refine wp_region_beh (by kernel_rfl) (by kernel_rfl) ?_
            repeat (go_big_quiet_step (fail))
            refine wpQuiet_nil ?_
            intro _ hw'
            obtain ⟨q1, hw''⟩ := hw'
            subst hw''
            go_upto_region 18 with fail
            have HQ := Lib.hid q1.h
            generalize q1.w = w2 at *
            clear t2 t3 t4 hi0 hi1 bd
            have K2 := Lib.hid (KB.out.keep HQ.out)
            have O2 := Lib.hid (KO.out.keep HQ.out)
            have Q2 := Lib.hid (show Below b5 wr w2 from HQ.out.mono (Nat.le_of_lt KB.out.lt))
            have HS := Lib.hid (show ∀ w' : World, Blk w' b5 b5 #[.int .i64 F.cap, (.slice Av (i + 1) cv), .slice G2' F.n2 d2] 34 → SpIn b w1 F (some ⟨gt, off, none⟩) A2 c1 c2 k id g a c w' → (w'.cell? ⟨b5, 1, none⟩ = some (.slice Av (i + 1) cv) ∧ w'.frozen? ⟨b5, 1, none⟩ = false ∧ w'.cell? ⟨b, 1, none⟩ = some (.slice (some ⟨gt, off, none⟩) F.n1 c1) ∧ w'.cell? ⟨gt, off + i * 4, none⟩ = some (.int .i64 (F.f1 i 0)) ∧ w'.cell? ⟨gt, off + i * 4 + 1, none⟩ = some (.int .i64 (F.f1 i 1)) ∧ w'.cell? ⟨gt, off + i * 4 + 2, none⟩ = some (.int .i64 (F.f1 i 2)) ∧ w'.cell? ⟨gt, off + i * 4 + 3, none⟩ = some (.int .i64 (F.f1 i 3))) from fun w' h1 h2 => by
              obtain ⟨g', o', e', _, hx'⟩ := h2.2.2.2.1.g.at (by omega)
              cases e'
              have y0 := hx' i 0 h5 (by omega)
              rw [Nat.add_zero] at y0
              exact ⟨(h1.cell 1).trans rfl, h1.frozen 1, (h2.1.cell 1).trans rfl, y0, hx' i 1 h5 (by omega), hx' i 2 h5 (by omega), hx' i 3 h5 (by omega)⟩)
            have BD := Lib.hid (show Below w1.heap.size w1 w2 from BR.out.trans (Q2.out.mono L6.out))
            have al := (Below.refl w2.heap.size w2).drew.alloc (Nat.le_refl _) (.cells #[.int .i64 (F.f1 i 0), .int .i64 (F.f1 i 1), .int .i64 (F.f1 i 2), .int .i64 (F.f1 i 3)] 114)
            have KA := Lib.hid (K2.out.keep al)
            have OA := Lib.hid (O2.out.keep al)
            have BA := Lib.hid (BD.out.trans (al.mono BD.out.size))
            have S0 : Hid ((fun w' => w'.cell? ⟨b5, 1, none⟩ = some (.slice Av (i + 1) cv) ∧ w'.frozen? ⟨b5, 1, none⟩ = false ∧ w'.cell? ⟨b, 1, none⟩ = some (.slice (some ⟨gt, off, none⟩) F.n1 c1) ∧ w'.cell? ⟨gt, off + i * 4, none⟩ = some (.int .i64 (F.f1 i 0)) ∧ w'.cell? ⟨gt, off + i * 4 + 1, none⟩ = some (.int .i64 (F.f1 i 1)) ∧ w'.cell? ⟨gt, off + i * 4 + 2, none⟩ = some (.int .i64 (F.f1 i 2)) ∧ w'.cell? ⟨gt, off + i * 4 + 3, none⟩ = some (.int .i64 (F.f1 i 3))) w2.drew) := Lib.hid (HS.out _ K2.out.drew (S1.out.keep BD.out.drew))
            have S3 : Hid ((fun w' => w'.cell? ⟨b5, 1, none⟩ = some (.slice Av (i + 1) cv) ∧ w'.frozen? ⟨b5, 1, none⟩ = false ∧ w'.cell? ⟨b, 1, none⟩ = some (.slice (some ⟨gt, off, none⟩) F.n1 c1) ∧ w'.cell? ⟨gt, off + i * 4, none⟩ = some (.int .i64 (F.f1 i 0)) ∧ w'.cell? ⟨gt, off + i * 4 + 1, none⟩ = some (.int .i64 (F.f1 i 1)) ∧ w'.cell? ⟨gt, off + i * 4 + 2, none⟩ = some (.int .i64 (F.f1 i 2)) ∧ w'.cell? ⟨gt, off + i * 4 + 3, none⟩ = some (.int .i64 (F.f1 i 3))) (w2.drew.alloc (.cells #[.int .i64 (F.f1 i 0), .int .i64 (F.f1 i 1), .int .i64 (F.f1 i 2), .int .i64 (F.f1 i 3)] 114))) := Lib.hid (HS.out _ KA.out (S1.out.keep BA.out))
            have TN := Lib.hid (show Tab 4 (w2.drew.alloc (.cells #[.int .i64 (F.f1 i 0), .int .i64 (F.f1 i 1), .int .i64 (F.f1 i 2), .int .i64 (F.f1 i 3)] 114)) (some ⟨w2.heap.size, 0, none⟩) 1 (fun _ => F.f1 i) from tab_new 114 w2.drew (F.f1 i))
            have hWs : b5 ≤ w2.heap.size := Nat.le_of_lt K2.out.lt
            have hi0 : (0 : Int) ≤ (i : Int) := by omega
            have hi1 : (i : Int) < (F.n1 : Int) := by omega
            clear u0 u1 u2 v0 v1 v2 v3 v4 x0 al b1
            refine wp_region_fin (fun w' => w'.cell? ⟨b5, 1, none⟩ = some (.slice Av (i + 1) cv) ∧ w'.frozen? ⟨b5, 1, none⟩ = false ∧ w'.cell? ⟨b, 1, none⟩ = some (.slice (some ⟨gt, off, none⟩) F.n1 c1) ∧ w'.cell? ⟨gt, off + i * 4, none⟩ = some (.int .i64 (F.f1 i 0)) ∧ w'.cell? ⟨gt, off + i * 4 + 1, none⟩ = some (.int .i64 (F.f1 i 1)) ∧ w'.cell? ⟨gt, off + i * 4 + 2, none⟩ = some (.int .i64 (F.f1 i 2)) ∧ w'.cell? ⟨gt, off + i * 4 + 3, none⟩ = some (.int .i64 (F.f1 i 3))) 10 (by kernel_rfl) S0.out (fun hHeld => ?_)
            refine wpFin_take (i := 0) (v := ?_) (by kernel_rfl) rfl (by decide) (by kernel_rfl) (by kernel_rfl) (by kernel_rfl) (fun _ _ _ h => h) (Or.inl ⟨by rfl, ?_⟩) (by assumption) ?_
            rotate_left 1
            · (intro w hSw; (try dsimp only at hSw); go_simp; first | done | with_reducible rfl)
            try simp only [Act.put, List.setIfInBounds_toArray, List.set_cons_zero, List.set_cons_succ]
            refine wpFin_take (i := 1) (v := ?_) (by kernel_rfl) rfl (by decide) (by kernel_rfl) (by kernel_rfl) (by kernel_rfl) (fun _ _ _ h => h) (Or.inl ⟨by rfl, ?_⟩) (by assumption) ?_
            rotate_left 1
            · (intro w hSw; (try dsimp only at hSw); go_simp; first | done | with_reducible rfl)
            try simp only [Act.put, List.setIfInBounds_toArray, List.set_cons_zero, List.set_cons_succ]
            refine wpFin_take (i := 2) (v := ?_) (by kernel_rfl) rfl (by decide) (by kernel_rfl) (by kernel_rfl) (by kernel_rfl) (fun _ _ _ h => h) (Or.inl ⟨by rfl, ?_⟩) (by assumption) ?_
            rotate_left 1
            · (intro w hSw; (try dsimp only at hSw); go_simp; first | done | with_reducible rfl)
            try simp only [Act.put, List.setIfInBounds_toArray, List.set_cons_zero, List.set_cons_succ]
            refine wpFin_take (i := 3) (v := ?_) (by kernel_rfl) rfl (by decide) (by kernel_rfl) (by kernel_rfl) (by kernel_rfl) (fun _ _ _ h => h) (Or.inl ⟨by rfl, ?_⟩) (by assumption) ?_
            rotate_left 1
            · (intro w hSw; (try dsimp only at hSw); go_simp; first | done | with_reducible rfl)
            try simp only [Act.put, List.setIfInBounds_toArray, List.set_cons_zero, List.set_cons_succ]
            refine wpFin_take (i := 4) (v := ?_) (by kernel_rfl) rfl (by decide) (by kernel_rfl) (by kernel_rfl) (by kernel_rfl) (fun _ _ _ h => h) (Or.inl ⟨by rfl, ?_⟩) (by assumption) ?_
            rotate_left 1
            · (intro w hSw; (try dsimp only at hSw); go_simp; first | done | with_reducible rfl)
            try simp only [Act.put, List.setIfInBounds_toArray, List.set_cons_zero, List.set_cons_succ]
            refine wpFin_take (i := 5) (v := ?_) (by kernel_rfl) rfl (by decide) (by kernel_rfl) (by kernel_rfl) (by kernel_rfl) (fun _ _ _ h => h) (Or.inl ⟨by rfl, ?_⟩) (by assumption) ?_
            rotate_left 1
            · (intro w hSw; (try dsimp only at hSw); go_simp; first | done | with_reducible rfl)
            try simp only [Act.put, List.setIfInBounds_toArray, List.set_cons_zero, List.set_cons_succ]
            refine wpFin_take (i := 6) (v := ?_) (by kernel_rfl) rfl (by decide) (by kernel_rfl) (by kernel_rfl) (by kernel_rfl) (fun _ _ _ h => h) (Or.inl ⟨by rfl, ?_⟩) (by assumption) ?_
            rotate_left 1
            · (intro w hSw; (try dsimp only at hSw); go_simp; first | done | with_reducible rfl)
            try simp only [Act.put, List.setIfInBounds_toArray, List.set_cons_zero, List.set_cons_succ]
            refine wpFin_one (i := 7) (by kernel_rfl) rfl (fun K hK => ?_)
            go_simp
            refine hK.out _ _ (fun _ => S3.out) (fun hS => ?_)
            have hHeld := hS (by decide)
            clear hK K hS
            try simp only [Act.put, List.setIfInBounds_toArray, List.set_cons_zero, List.set_cons_succ]
            refine wpFin_one (i := 8) (by kernel_rfl) rfl (fun K hK => ?_)
            refine step_append_t ttG rfl (.tmp 75) (.tmp 81) rfl b5 _ _ _ rfl OA.out _ 1 _ _ rfl TN.out (by skip; omega) (by simp; omega) ?_
            intro v' w3 hO hgr
            obtain ⟨Aw, cw, rfl, -, -⟩ := OwnT.tab hO
            have O3 := Lib.hid (hO.congr (app_same (show ∀ j, insT pp (r4 id g a c) F.f1 (i + 1) j = F.f1 i j from fun j => by rw [ins_gt (by omega), Nat.add_sub_cancel])))
            have G3 := Lib.hid hgr
            have NF := Lib.hid (OA.out.neBlk KA.out (by decide))
            have F3 := Lib.hid (KA.out.grownO hgr NF.out)
            have B3 := Lib.hid (BA.out.grown hgr BA.out.size (fun k hk => Nat.le_trans L6.out (World.ownsRow.lt OA.out k hk).1))
            have S4 : Hid ((fun w' => w'.cell? ⟨b5, 1, none⟩ = some (.slice Av (i + 1) cv) ∧ w'.frozen? ⟨b5, 1, none⟩ = false ∧ w'.cell? ⟨b, 1, none⟩ = some (.slice (some ⟨gt, off, none⟩) F.n1 c1) ∧ w'.cell? ⟨gt, off + i * 4, none⟩ = some (.int .i64 (F.f1 i 0)) ∧ w'.cell? ⟨gt, off + i * 4 + 1, none⟩ = some (.int .i64 (F.f1 i 1)) ∧ w'.cell? ⟨gt, off + i * 4 + 2, none⟩ = some (.int .i64 (F.f1 i 2)) ∧ w'.cell? ⟨gt, off + i * 4 + 3, none⟩ = some (.int .i64 (F.f1 i 3))) w3) := Lib.hid (HS.out _ F3.out (S1.out.keep B3.out))
            clear hO hgr
            refine hK.out _ _ (fun _ => S4.out) (fun hS => ?_)
            have hHeld := hS (by decide)
            clear hK K hS
            try simp only [Act.put, List.setIfInBounds_toArray, List.set_cons_zero, List.set_cons_succ]
            refine wpFin_take (i := 9) (v := ?_) (by kernel_rfl) rfl (by decide) (by kernel_rfl) (by kernel_rfl) (by kernel_rfl) (fun _ _ _ h => h) (Or.inl ⟨by rfl, ?_⟩) (by assumption) ?_
            rotate_left 1
            · (intro w hSw; (try dsimp only at hSw); go_simp; first | done | with_reducible rfl)
            try simp only [Act.put, List.setIfInBounds_toArray, List.set_cons_zero, List.set_cons_succ]
            obtain ⟨sc, sf, -⟩ := S4.out
            refine wpFin_one (i := 10) (by kernel_rfl) rfl (fun K hK => ?_)
            go_simp
            refine hK.out _ _ (fun h => absurd rfl h) (fun hS => ?_)
            clear hK K hS
            try simp only [Act.put, List.setIfInBounds_toArray, List.set_cons_zero, List.set_cons_succ]
            refine wpFin_done (by kernel_rfl) ?_ _
            have F4 := Lib.hid ((F3.out.setc 1 (.slice Aw ((i + 1) + 1) cw)).cast (ds := #[.int .i64 F.cap, (.slice Aw ((i + 1) + 1) cw), .slice G2' F.n2 d2]) (by simp only [List.setIfInBounds_toArray, List.set_cons_zero, List.set_cons_succ]))
            have O4 := Lib.hid (O3.out.setf (p := ⟨b5, 1, none⟩) (O3.out.neBlk F3.out (by decide)) (.slice Aw ((i + 1) + 1) cw))
            have W4 := Lib.hid (show Below b5 w6 (w3.setCell ⟨b5, 1, none⟩ (.slice Aw ((i + 1) + 1) cw)) from (KW.out.trans ((Q2.out.trans ((Below.refl b5 w2).drew.alloc hWs _)).grown G3.out (Nat.le_trans (Nat.le_of_lt KB.out.lt) (by have := Q2.out.size; first | (simp; done) | (simp; omega))) (fun k hk => (World.ownsRow.lt OA.out k hk).1))).setCell (p := ⟨b5, 1, none⟩) (Nat.le_refl _) (.slice Aw ((i + 1) + 1) cw))
            clear S0 S3 S4 sc sf hHeld
            go_wp2_with fail
            go_roundw
            case rel => exact ⟨i + 1, Aw, cw, by omega, by rw [dn_gt (show pp < i + 1 by omega)], by go_num, by rw [cnt_gt (show pp < i + 1 by omega)]; exact F4, by rw [cnt_gt (show pp < i + 1 by omega)]; exact O4, W4⟩
            case measure => simp [intOf]; omega
          · obtain rfl : pp = i := by omega
            have bd : dn pp pp = false := dn_le (Nat.le_refl _)
            have bc : decide (F.f1 pp 0 > id) = true := decide_eq_true (by have := HP.out.2.2 pp (Nat.le_refl _) h5; have := has_no HE0.out h5; omega)
            have hcn : cnt pp pp = pp := cnt_le (Nat.le_refl _)
            rw [hcn] at KB KO
            clear hcn
            rw [bd]
            have FT : ∀ p : BehW wr, (SpIn b w1 F (some ⟨gt, off, none⟩) A2 c1 c2 k id g a c p.w) := fun p => SR.out.keep p.h
            have t2 : ∀ p : BehW wr, p.w.cell? ⟨b, 1, none⟩ = some (.slice (some ⟨gt, off, none⟩) F.n1 c1) := fun p => (FT p).cells.2.1
            have t3 : ∀ p : BehW wr, p.w.cell? ⟨b + 1, 1, none⟩ = some (.int .i64 id) := fun p => (FT p).cells.2.2.2.2.1
            have t4 : ∀ p : BehW wr, p.w.cell? ⟨gt, off + pp * 4, none⟩ = some (.int .i64 (F.f1 pp 0)) := fun p => (p.h.cell (p := ⟨gt, off + pp * 4, none⟩) hgl).trans x0
            have hi0 : (0 : Int) ≤ (pp : Int) := by omega
            have hi1 : (pp : Int) < (F.n1 : Int) := by omega
            clear FT
            go_upto_region 15 with fail
            refine wp_region_beh (by kernel_rfl) (by kernel_rfl) ?_
            repeat (go_big_quiet_step (fail))
            refine wpQuiet_nil ?_
            intro _ hw'
            obtain ⟨q1, hw''⟩ := hw'
            subst hw''
            go_upto_region 16 with fail
            have HQ := Lib.hid q1.h
            generalize q1.w = w2 at *
            clear t2 t3 t4 hi0 hi1 bc bd
            have K2 := Lib.hid (KB.out.keep HQ.out)
            have O2 := Lib.hid (KO.out.keep HQ.out)
            have Q2 := Lib.hid (show Below b5 wr w2 from HQ.out.mono (Nat.le_of_lt KB.out.lt))
            obtain ⟨e0', e1', e2', y0, y1, y2, y3, y4⟩ := (S1.out.keep (BR.out.trans (Q2.out.mono L6.out))).cells
            have aln := (Below.refl w2.heap.size w2).alloc (Nat.le_refl _) (.cells #[.int .i64 id, .int .i64 g, .int .i64 a, .int .i64 c] 114)
            have KN := Lib.hid (K2.out.keep aln)
            have ON := Lib.hid (O2.out.keep aln)
            have TN0 := Lib.hid (tab_new4 114 w2 id g a c)
            have NF0 := Lib.hid (ON.out.neBlk KN.out (by decide))
            have y5 := (K2.out.cell 1).trans rfl
            have hWn : b5 ≤ w2.heap.size := Nat.le_of_lt K2.out.lt
            clear aln
            go_upto_region 18 with (first | (at_builtin; refine wpl_append_t ttG rfl _ _ rfl b5 _ _ _ rfl ON.out (some ⟨w2.heap.size, 0, none⟩) 1 _ _ rfl TN0.out (by omega) (by simp; omega) ?_; intro v' w7 hO hgr; obtain ⟨Ax, cx, rfl, -, -⟩ := OwnT.tab hO; have O7 := Lib.hid (hO.congr (app_same (show ∀ j, insT pp (r4 id g a c) F.f1 pp j = r4 id g a c j from fun j => by rw [ins_eq]))); have G7 := Lib.hid hgr; have F7 := Lib.hid (KN.out.grownO hgr NF0.out); have z5 := (F7.out.cell 1).trans rfl; have z6 := F7.out.frozen 1; clear hO hgr) | fail)
            have F8 := Lib.hid ((F7.out.setc 1 (.slice Ax (pp + 1) cx)).cast (ds := #[.int .i64 F.cap, (.slice Ax (pp + 1) cx), .slice G2' F.n2 d2]) (by simp only [List.setIfInBounds_toArray, List.set_cons_zero, List.set_cons_succ]))
            have O8 := Lib.hid (O7.out.setf (p := ⟨b5, 1, none⟩) (O7.out.neBlk F7.out (by decide)) (.slice Ax (pp + 1) cx))
            have Q8 := Lib.hid (show Below b5 wr (w7.setCell ⟨b5, 1, none⟩ (.slice Ax (pp + 1) cx)) from ((Q2.out.trans ((Below.refl b5 w2).alloc hWn _)).grown G7.out (Nat.le_trans (Nat.le_of_lt KB.out.lt) (by have := Q2.out.size; first | (simp; done) | (simp; omega))) (fun k hk => (World.ownsRow.lt ON.out k hk).1)).setCell (p := ⟨b5, 1, none⟩) (Nat.le_refl _) (.slice Ax (pp + 1) cx))
            clear e0' e1' e2' y0 y1 y2 y3 y4 y5 z5 z6 hWn F7 O7 G7 KN ON TN0 NF0
            generalize w7.setCell ⟨b5, 1, none⟩ (.slice Ax (pp + 1) cx) = w8 at *
            have HS := Lib.hid (show ∀ w' : World, Blk w' b5 b5 #[.int .i64 F.cap, (.slice Ax (pp + 1) cx), .slice G2' F.n2 d2] 34 → SpIn b w1 F (some ⟨gt, off, none⟩) A2 c1 c2 k id g a c w' → (w'.cell? ⟨b5, 1, none⟩ = some (.slice Ax (pp + 1) cx) ∧ w'.frozen? ⟨b5, 1, none⟩ = false ∧ w'.cell? ⟨b, 1, none⟩ = some (.slice (some ⟨gt, off, none⟩) F.n1 c1) ∧ w'.cell? ⟨gt, off + pp * 4, none⟩ = some (.int .i64 (F.f1 pp 0)) ∧ w'.cell? ⟨gt, off + pp * 4 + 1, none⟩ = some (.int .i64 (F.f1 pp 1)) ∧ w'.cell? ⟨gt, off + pp * 4 + 2, none⟩ = some (.int .i64 (F.f1 pp 2)) ∧ w'.cell? ⟨gt, off + pp * 4 + 3, none⟩ = some (.int .i64 (F.f1 pp 3))) from fun w' h1 h2 => by
              obtain ⟨g', o', e', _, hx'⟩ := h2.2.2.2.1.g.at (by omega)
              cases e'
              have y0 := hx' pp 0 h5 (by omega)
              rw [Nat.add_zero] at y0
              exact ⟨(h1.cell 1).trans rfl, h1.frozen 1, (h2.1.cell 1).trans rfl, y0, hx' pp 1 h5 (by omega), hx' pp 2 h5 (by omega), hx' pp 3 h5 (by omega)⟩)
            have BD := Lib.hid (show Below w1.heap.size w1 w8 from BR.out.trans (Q8.out.mono L6.out))
            have al := (Below.refl w8.heap.size w8).drew.alloc (Nat.le_refl _) (.cells #[.int .i64 (F.f1 pp 0), .int .i64 (F.f1 pp 1), .int .i64 (F.f1 pp 2), .int .i64 (F.f1 pp 3)] 114)
            have KA := Lib.hid (F8.out.keep al)
            have OA := Lib.hid (O8.out.keep al)
            have BA := Lib.hid (BD.out.trans (al.mono BD.out.size))
            have S0 : Hid ((fun w' => w'.cell? ⟨b5, 1, none⟩ = some (.slice Ax (pp + 1) cx) ∧ w'.frozen? ⟨b5, 1, none⟩ = false ∧ w'.cell? ⟨b, 1, none⟩ = some (.slice (some ⟨gt, off, none⟩) F.n1 c1) ∧ w'.cell? ⟨gt, off + pp * 4, none⟩ = some (.int .i64 (F.f1 pp 0)) ∧ w'.cell? ⟨gt, off + pp * 4 + 1, none⟩ = some (.int .i64 (F.f1 pp 1)) ∧ w'.cell? ⟨gt, off + pp * 4 + 2, none⟩ = some (.int .i64 (F.f1 pp 2)) ∧ w'.cell? ⟨gt, off + pp * 4 + 3, none⟩ = some (.int .i64 (F.f1 pp 3))) w8.drew) := Lib.hid (HS.out _ F8.out.drew (S1.out.keep BD.out.drew))
            have S3 : Hid ((fun w' => w'.cell? ⟨b5, 1, none⟩ = some (.slice Ax (pp + 1) cx) ∧ w'.frozen? ⟨b5, 1, none⟩ = false ∧ w'.cell? ⟨b, 1, none⟩ = some (.slice (some ⟨gt, off, none⟩) F.n1 c1) ∧ w'.cell? ⟨gt, off + pp * 4, none⟩ = some (.int .i64 (F.f1 pp 0)) ∧ w'.cell? ⟨gt, off + pp * 4 + 1, none⟩ = some (.int .i64 (F.f1 pp 1)) ∧ w'.cell? ⟨gt, off + pp * 4 + 2, none⟩ = some (.int .i64 (F.f1 pp 2)) ∧ w'.cell? ⟨gt, off + pp * 4 + 3, none⟩ = some (.int .i64 (F.f1 pp 3))) (w8.drew.alloc (.cells #[.int .i64 (F.f1 pp 0), .int .i64 (F.f1 pp 1), .int .i64 (F.f1 pp 2), .int .i64 (F.f1 pp 3)] 114))) := Lib.hid (HS.out _ KA.out (S1.out.keep BA.out))
            have TN := Lib.hid (show Tab 4 (w8.drew.alloc (.cells #[.int .i64 (F.f1 pp 0), .int .i64 (F.f1 pp 1), .int .i64 (F.f1 pp 2), .int .i64 (F.f1 pp 3)] 114)) (some ⟨w8.heap.size, 0, none⟩) 1 (fun _ => F.f1 pp) from tab_new 114 w8.drew (F.f1 pp))
            have hWs : b5 ≤ w8.heap.size := Nat.le_of_lt F8.out.lt
            have hi0 : (0 : Int) ≤ (pp : Int) := by omega
            have hi1 : (pp : Int) < (F.n1 : Int) := by omega
            clear u0 u1 u2 v0 v1 v2 v3 v4 x0 al b1
            refine wp_region_fin (fun w' => w'.cell? ⟨b5, 1, none⟩ = some (.slice Ax (pp + 1) cx) ∧ w'.frozen? ⟨b5, 1, none⟩ = false ∧ w'.cell? ⟨b, 1, none⟩ = some (.slice (some ⟨gt, off, none⟩) F.n1 c1) ∧ w'.cell? ⟨gt, off + pp * 4, none⟩ = some (.int .i64 (F.f1 pp 0)) ∧ w'.cell? ⟨gt, off + pp * 4 + 1, none⟩ = some (.int .i64 (F.f1 pp 1)) ∧ w'.cell? ⟨gt, off + pp * 4 + 2, none⟩ = some (.int .i64 (F.f1 pp 2)) ∧ w'.cell? ⟨gt, off + pp * 4 + 3, none⟩ = some (.int .i64 (F.f1 pp 3))) 10 (by kernel_rfl) S0.out (fun hHeld => ?_)
            refine wpFin_take (i := 0) (v := ?_) (by kernel_rfl) rfl (by decide) (by kernel_rfl) (by kernel_rfl) (by kernel_rfl) (fun _ _ _ h => h) (Or.inl ⟨by rfl, ?_⟩) (by assumption) ?_
            rotate_left 1
            · (intro w hSw; (try dsimp only at hSw); go_simp; first | done | with_reducible rfl)
            try simp only [Act.put, List.setIfInBounds_toArray, List.set_cons_zero, List.set_cons_succ]
            refine wpFin_take (i := 1) (v := ?_) (by kernel_rfl) rfl (by decide) (by kernel_rfl) (by kernel_rfl) (by kernel_rfl) (fun _ _ _ h => h) (Or.inl ⟨by rfl, ?_⟩) (by assumption) ?_
            rotate_left 1
            · (intro w hSw; (try dsimp only at hSw); go_simp; first | done | with_reducible rfl)
            try simp only [Act.put, List.setIfInBounds_toArray, List.set_cons_zero, List.set_cons_succ]
            refine wpFin_take (i := 2) (v := ?_) (by kernel_rfl) rfl (by decide) (by kernel_rfl) (by kernel_rfl) (by kernel_rfl) (fun _ _ _ h => h) (Or.inl ⟨by rfl, ?_⟩) (by assumption) ?_
            rotate_left 1
            · (intro w hSw; (try dsimp only at hSw); go_simp; first | done | with_reducible rfl)
            try simp only [Act.put, List.setIfInBounds_toArray, List.set_cons_zero, List.set_cons_succ]
            refine wpFin_take (i := 3) (v := ?_) (by kernel_rfl) rfl (by decide) (by kernel_rfl) (by kernel_rfl) (by kernel_rfl) (fun _ _ _ h => h) (Or.inl ⟨by rfl, ?_⟩) (by assumption) ?_
            rotate_left 1
            · (intro w hSw; (try dsimp only at hSw); go_simp; first | done | with_reducible rfl)
            try simp only [Act.put, List.setIfInBounds_toArray, List.set_cons_zero, List.set_cons_succ]
            refine wpFin_take (i := 4) (v := ?_) (by kernel_rfl) rfl (by decide) (by kernel_rfl) (by kernel_rfl) (by kernel_rfl) (fun _ _ _ h => h) (Or.inl ⟨by rfl, ?_⟩) (by assumption) ?_
            rotate_left 1
            · (intro w hSw; (try dsimp only at hSw); go_simp; first | done | with_reducible rfl)
            try simp only [Act.put, List.setIfInBounds_toArray, List.set_cons_zero, List.set_cons_succ]
            refine wpFin_take (i := 5) (v := ?_) (by kernel_rfl) rfl (by decide) (by kernel_rfl) (by kernel_rfl) (by kernel_rfl) (fun _ _ _ h => h) (Or.inl ⟨by rfl, ?_⟩) (by assumption) ?_
            rotate_left 1
            · (intro w hSw; (try dsimp only at hSw); go_simp; first | done | with_reducible rfl)
            try simp only [Act.put, List.setIfInBounds_toArray, List.set_cons_zero, List.set_cons_succ]
            refine wpFin_take (i := 6) (v := ?_) (by kernel_rfl) rfl (by decide) (by kernel_rfl) (by kernel_rfl) (by kernel_rfl) (fun _ _ _ h => h) (Or.inl ⟨by rfl, ?_⟩) (by assumption) ?_
            rotate_left 1
            · (intro w hSw; (try dsimp only at hSw); go_simp; first | done | with_reducible rfl)
            try simp only [Act.put, List.setIfInBounds_toArray, List.set_cons_zero, List.set_cons_succ]
            refine wpFin_one (i := 7) (by kernel_rfl) rfl (fun K hK => ?_)
            go_simp
            refine hK.out _ _ (fun _ => S3.out) (fun hS => ?_)
            have hHeld := hS (by decide)
            clear hK K hS
            try simp only [Act.put, List.setIfInBounds_toArray, List.set_cons_zero, List.set_cons_succ]
            refine wpFin_one (i := 8) (by kernel_rfl) rfl (fun K hK => ?_)
            refine step_append_t ttG rfl (.tmp 75) (.tmp 81) rfl b5 _ _ _ rfl OA.out _ 1 _ _ rfl TN.out (by skip; omega) (by simp; omega) ?_
            intro v' w3 hO hgr
            obtain ⟨Aw, cw, rfl, -, -⟩ := OwnT.tab hO
            have O3 := Lib.hid (hO.congr (app_same (show ∀ j, insT pp (r4 id g a c) F.f1 (pp + 1) j = F.f1 pp j from fun j => by rw [ins_gt (by omega), Nat.add_sub_cancel])))
            have G3 := Lib.hid hgr
            have NF := Lib.hid (OA.out.neBlk KA.out (by decide))
            have F3 := Lib.hid (KA.out.grownO hgr NF.out)
            have B3 := Lib.hid (BA.out.grown hgr BA.out.size (fun k hk => Nat.le_trans L6.out (World.ownsRow.lt OA.out k hk).1))
            have S4 : Hid ((fun w' => w'.cell? ⟨b5, 1, none⟩ = some (.slice Ax (pp + 1) cx) ∧ w'.frozen? ⟨b5, 1, none⟩ = false ∧ w'.cell? ⟨b, 1, none⟩ = some (.slice (some ⟨gt, off, none⟩) F.n1 c1) ∧ w'.cell? ⟨gt, off + pp * 4, none⟩ = some (.int .i64 (F.f1 pp 0)) ∧ w'.cell? ⟨gt, off + pp * 4 + 1, none⟩ = some (.int .i64 (F.f1 pp 1)) ∧ w'.cell? ⟨gt, off + pp * 4 + 2, none⟩ = some (.int .i64 (F.f1 pp 2)) ∧ w'.cell? ⟨gt, off + pp * 4 + 3, none⟩ = some (.int .i64 (F.f1 pp 3))) w3) := Lib.hid (HS.out _ F3.out (S1.out.keep B3.out))
            clear hO hgr
            refine hK.out _ _ (fun _ => S4.out) (fun hS => ?_)
            have hHeld := hS (by decide)
            clear hK K hS
            try simp only [Act.put, List.setIfInBounds_toArray, List.set_cons_zero, List.set_cons_succ]
            refine wpFin_take (i := 9) (v := ?_) (by kernel_rfl) rfl (by decide) (by kernel_rfl) (by kernel_rfl) (by kernel_rfl) (fun _ _ _ h => h) (Or.inl ⟨by rfl, ?_⟩) (by assumption) ?_
            rotate_left 1
            · (intro w hSw; (try dsimp only at hSw); go_simp; first | done | with_reducible rfl)
            try simp only [Act.put, List.setIfInBounds_toArray, List.set_cons_zero, List.set_cons_succ]
            obtain ⟨sc, sf, -⟩ := S4.out
            refine wpFin_one (i := 10) (by kernel_rfl) rfl (fun K hK => ?_)
            go_simp
            refine hK.out _ _ (fun h => absurd rfl h) (fun hS => ?_)
            clear hK K hS
            try simp only [Act.put, List.setIfInBounds_toArray, List.set_cons_zero, List.set_cons_succ]
            refine wpFin_done (by kernel_rfl) ?_ _
            have F4 := Lib.hid ((F3.out.setc 1 (.slice Aw ((pp + 1) + 1) cw)).cast (ds := #[.int .i64 F.cap, (.slice Aw ((pp + 1) + 1) cw), .slice G2' F.n2 d2]) (by simp only [List.setIfInBounds_toArray, List.set_cons_zero, List.set_cons_succ]))
            have O4 := Lib.hid (O3.out.setf (p := ⟨b5, 1, none⟩) (O3.out.neBlk F3.out (by decide)) (.slice Aw ((pp + 1) + 1) cw))
            have W4 := Lib.hid (show Below b5 w6 (w3.setCell ⟨b5, 1, none⟩ (.slice Aw ((pp + 1) + 1) cw)) from (KW.out.trans ((Q8.out.trans ((Below.refl b5 w8).drew.alloc hWs _)).grown G3.out (Nat.le_trans (Nat.le_of_lt KB.out.lt) (by have := Q8.out.size; first | (simp; done) | (simp; omega))) (fun k hk => (World.ownsRow.lt OA.out k hk).1))).setCell (p := ⟨b5, 1, none⟩) (Nat.le_refl _) (.slice Aw ((pp + 1) + 1) cw))
            clear S0 S3 S4 sc sf hHeld
            go_wp2_with fail
            go_roundw
            case rel => exact ⟨pp + 1, Aw, cw, by omega, by rw [dn_gt (show pp < pp + 1 by omega)], by go_num, by rw [cnt_gt (show pp < pp + 1 by omega)]; exact F4, by rw [cnt_gt (show pp < pp + 1 by omega)]; exact O4, W4⟩
            case measure => simp [intOf]; omega
      · have hin : i = F.n1 := by omega
        have b1 : decide ((i : Int) < (F.n1 : Int)) = false := decide_eq_false (by omega)
        rcases Nat.lt_or_ge pp i with h7 | h7
        · have bd : dn pp i = true := dn_gt h7
          have hcn : cnt pp i = F.n1 + 1 := by rw [cnt_gt h7, hin]
          rw [hcn] at KB KO
          clear hcn
          rw [bd]
          go_upto_region 21 with fail
          have R0 := Lib.hid (Below.refl b5 wr)
          clear b1 bd
          have BE := Lib.hid (BR.out.trans (R0.out.mono L6.out))
          have SE := Lib.hid (S1.out.keep BE.out)
          obtain ⟨z0, z1, z2, z3, z4, y0, y1, y2, y3, y4⟩ := SE.out.out
          have k0 := (KB.out.cell 0).trans rfl
          have k1 := (KB.out.cell 1).trans rfl
          have k2 := (KB.out.cell 2).trans rfl
          have hne : b5 ≠ b + 1 + 1 := by have := L5.out; omega
          have OE := Lib.hid (O6.out.low (KW.out.trans R0.out) (fun k hk => NX.out k hk))
          clear u0 u1 u2 v0 v1 v2 v3 v4
          go_wp2_with fail
          have hlo : w.heap.size ≤ b := by have := HBB.out; omega
          have FV : FarmV wr w.heap.size (edF F 6 id g a c) (.slice Av (F.n1 + 1) cv) (.slice G2' F.n2 d2) := by rw [hed.out]; exact ⟨KO.out.mono (by have := L5.out; omega), OE.out.mono hlo⟩
          exact bodyPost_ret (v := .agg #[.int .i64 F.cap, (.slice Av (F.n1 + 1) cv), (.slice G2' F.n2 d2), .int .i64 0, .int .i64 0]) (results_cell_row rfl _ _ _ _ _ _ _ rfl (putOut_blk SE.out.2.2.1 rfl _ _ _ _ _).2 hu rfl (by kernel_rfl)) rfl ⟨_, _, by rw [hed.out], FV.putOut (FV.1.neBlk SE.out.2.2.1 (by decide)) (FV.2.neBlk SE.out.2.2.1 (by decide)) _ _ _ _ _, putOut_below (HB.out.trans (BE.out.mono (by have := HZ.out; have := HBB.out; omega))) (by omega) _ _ _ _ _⟩
        · have bd : dn pp i = false := dn_le h7
          have hpi : pp = F.n1 := by omega
          have hcn : cnt pp i = F.n1 := by rw [cnt_le h7, hin]
          rw [hcn] at KB KO
          clear hcn
          rw [bd]
          go_upto_region 20 with fail
          have R0 := Lib.hid (Below.refl b5 wr)
          clear b1 bd
          obtain ⟨e0', e1', e2', y0, y1, y2, y3, y4⟩ := (S1.out.keep (BR.out.trans (R0.out.mono L6.out))).cells
          have aln := (Below.refl wr.heap.size wr).alloc (Nat.le_refl _) (.cells #[.int .i64 id, .int .i64 g, .int .i64 a, .int .i64 c] 114)
          have KN := Lib.hid (KB.out.keep aln)
          have ON := Lib.hid (KO.out.keep aln)
          have TN0 := Lib.hid (tab_new4 114 wr id g a c)
          have NF0 := Lib.hid (ON.out.neBlk KN.out (by decide))
          have y5 := (KB.out.cell 1).trans rfl
          have hWn : b5 ≤ wr.heap.size := Nat.le_of_lt KB.out.lt
          clear aln
          go_upto_region 21 with (first | (at_builtin; refine wpl_append_t ttG rfl _ _ rfl b5 _ _ _ rfl ON.out (some ⟨wr.heap.size, 0, none⟩) 1 _ _ rfl TN0.out (by omega) (by simp; omega) ?_; intro v' w7 hO hgr; obtain ⟨Ax, cx, rfl, -, -⟩ := OwnT.tab hO; have O7 := Lib.hid (hO.congr (app_same (show ∀ j, insT pp (r4 id g a c) F.f1 F.n1 j = r4 id g a c j from fun j => by rw [← hpi, ins_eq]))); have G7 := Lib.hid hgr; have F7 := Lib.hid (KN.out.grownO hgr NF0.out); have z5 := (F7.out.cell 1).trans rfl; have z6 := F7.out.frozen 1; clear hO hgr) | fail)
          have F8 := Lib.hid ((F7.out.setc 1 (.slice Ax (F.n1 + 1) cx)).cast (ds := #[.int .i64 F.cap, (.slice Ax (F.n1 + 1) cx), .slice G2' F.n2 d2]) (by simp only [List.setIfInBounds_toArray, List.set_cons_zero, List.set_cons_succ]))
          have O8 := Lib.hid (O7.out.setf (p := ⟨b5, 1, none⟩) (O7.out.neBlk F7.out (by decide)) (.slice Ax (F.n1 + 1) cx))
          have Q8 := Lib.hid (show Below b5 wr (w7.setCell ⟨b5, 1, none⟩ (.slice Ax (F.n1 + 1) cx)) from ((R0.out.trans ((Below.refl b5 wr).alloc hWn _)).grown G7.out (Nat.le_trans (Nat.le_of_lt KB.out.lt) (by have := R0.out.size; first | (simp; done) | (simp; omega))) (fun k hk => (World.ownsRow.lt ON.out k hk).1)).setCell (p := ⟨b5, 1, none⟩) (Nat.le_refl _) (.slice Ax (F.n1 + 1) cx))
          clear e0' e1' e2' y0 y1 y2 y3 y4 y5 z5 z6 hWn F7 O7 G7 KN ON TN0 NF0
          generalize w7.setCell ⟨b5, 1, none⟩ (.slice Ax (F.n1 + 1) cx) = w8 at *
          have BE := Lib.hid (BR.out.trans (Q8.out.mono L6.out))
          have SE := Lib.hid (S1.out.keep BE.out)
          obtain ⟨z0, z1, z2, z3, z4, y0, y1, y2, y3, y4⟩ := SE.out.out
          have k0 := (F8.out.cell 0).trans rfl
          have k1 := (F8.out.cell 1).trans rfl
          have k2 := (F8.out.cell 2).trans rfl
          have hne : b5 ≠ b + 1 + 1 := by have := L5.out; omega
          have OE := Lib.hid (O6.out.low (KW.out.trans Q8.out) (fun k hk => NX.out k hk))
          clear u0 u1 u2 v0 v1 v2 v3 v4
          go_wp2_with fail
          have hlo : w.heap.size ≤ b := by have := HBB.out; omega
          have FV : FarmV w8 w.heap.size (edF F 6 id g a c) (.slice Ax (F.n1 + 1) cx) (.slice G2' F.n2 d2) := by rw [hed.out]; exact ⟨O8.out.mono (by have := L5.out; omega), OE.out.mono hlo⟩
          exact bodyPost_ret (v := .agg #[.int .i64 F.cap, (.slice Ax (F.n1 + 1) cx), (.slice G2' F.n2 d2), .int .i64 0, .int .i64 0]) (results_cell_row rfl _ _ _ _ _ _ _ rfl (putOut_blk SE.out.2.2.1 rfl _ _ _ _ _).2 hu rfl (by kernel_rfl)) rfl ⟨_, _, by rw [hed.out], FV.putOut (FV.1.neBlk SE.out.2.2.1 (by decide)) (FV.2.neBlk SE.out.2.2.1 (by decide)) _ _ _ _ _, putOut_below (HB.out.trans (BE.out.mono (by have := HZ.out; have := HBB.out; omega))) (by omega) _ _ _ _ _⟩)
end Go.Proofs.Ytipkbapnhgdpeaa.C
