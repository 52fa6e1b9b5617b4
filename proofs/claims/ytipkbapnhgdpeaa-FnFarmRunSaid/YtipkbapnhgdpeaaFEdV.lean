/- The reference's FarmEdit. No condition. -/
import Derived.Test.YtipkbapnhgdpeaaFEdU
namespace Go.Proofs.Ytipkbapnhgdpeaa.C
open Go.RowKit
set_option maxRecDepth 100000
set_option linter.unusedVariables false
set_option linter.unusedSimpArgs false
attribute [local go_sem ↓] Go.wp_at_zero Go.wp_at_succ
theorem xF_no {F : Fm} {k id g a c x : Int} (h : edC F k id g a c = x) (h0 : x ≠ 0) : xF F k id g a c = fm0 := by unfold xF; rw [if_neg (by rw [h]; exact h0)]
theorem xF_yes {F : Fm} {k id g a c : Int} (h : edC F k id g a c = 0) : xF F k id g a c = edF F k id g a c := by unfold xF; rw [if_pos h]
theorem s_l06Join (F : Fm) (A1 A2 : Option Addr) (c1 c2 : Nat) (k id g a c : Int) (w : World) (h : FarmAt w A1 F.n1 F.f1 A2 F.n2 F.f2) (hr : Right F) :
    Calls Try.prog 73 #[.agg #[.int .i64 F.cap, .slice A1 F.n1 c1, .slice A2 F.n2 c2], .agg #[.int .i64 k, .int .i64 id, .int .i64 g, .int .i64 a, .int .i64 c]] w (OutV (edC F 1 id g a c) (xF F 1 id g a c) w) := by
  have e : edC F 1 id g a c = if hasId F.n2 F.f2 id = true then 5 else if hasG F g = false then 4 else if F.n2 = 60 then 6 else 0 := rfl
  rcases e0 : hasId F.n2 F.f2 id with _ | _
  · rcases e1 : hasG F g with _ | _
    · have hc : edC F 1 id g a c = 4 := by rw [e, if_neg (by rw [e0]; decide), if_pos e1]
      exact (s_join_none F A1 A2 c1 c2 k id g a c w h hr e0 e1).mono fun _ _ h => h.as hc (xF_no hc (by decide))
    · by_cases e2 : F.n2 = 60
      · have hc : edC F 1 id g a c = 6 := by rw [e, if_neg (by rw [e0]; decide), if_neg (by rw [e1]; decide), if_pos e2]
        exact (s_join_full F A1 A2 c1 c2 k id g a c w h hr e0 e1 e2).mono fun _ _ h => h.as hc (xF_no hc (by decide))
      · have hc : edC F 1 id g a c = 0 := by rw [e, if_neg (by rw [e0]; decide), if_neg (by rw [e1]; decide), if_neg e2]
        exact (s_join_go F A1 A2 c1 c2 k id g a c w h hr e0 e1 e2).mono fun _ _ h => h.as hc (xF_yes hc)
  · have hc : edC F 1 id g a c = 5 := by rw [e, if_pos e0]
    exact (s_join_there F A1 A2 c1 c2 k id g a c w h hr e0).mono fun _ _ h => h.as hc (xF_no hc (by decide))
theorem s_l06Group (F : Fm) (A1 A2 : Option Addr) (c1 c2 : Nat) (k id g a c : Int) (w : World) (h : FarmAt w A1 F.n1 F.f1 A2 F.n2 F.f2) (hr : Right F) (hg : g < id) :
    Calls Try.prog 74 #[.agg #[.int .i64 F.cap, .slice A1 F.n1 c1, .slice A2 F.n2 c2], .agg #[.int .i64 k, .int .i64 id, .int .i64 g, .int .i64 a, .int .i64 c]] w (OutV (edC F 6 id g a c) (xF F 6 id g a c) w) := by
  have e : edC F 6 id g a c = if hasId F.n1 F.f1 id = true then 5 else if hasG F g = false then 4 else if F.n1 = 30 then 6 else 0 := rfl
  rcases e0 : hasId F.n1 F.f1 id with _ | _
  · rcases e1 : hasG F g with _ | _
    · have hc : edC F 6 id g a c = 4 := by rw [e, if_neg (by rw [e0]; decide), if_pos e1]
      exact (s_group_none F A1 A2 c1 c2 k id g a c w h hr e0 e1 hg).mono fun _ _ h => h.as hc (xF_no hc (by decide))
    · by_cases e2 : F.n1 = 30
      · have hc : edC F 6 id g a c = 6 := by rw [e, if_neg (by rw [e0]; decide), if_neg (by rw [e1]; decide), if_pos e2]
        exact (s_group_full F A1 A2 c1 c2 k id g a c w h hr e0 e1 e2 hg).mono fun _ _ h => h.as hc (xF_no hc (by decide))
      · have hc : edC F 6 id g a c = 0 := by rw [e, if_neg (by rw [e0]; decide), if_neg (by rw [e1]; decide), if_neg e2]
        exact (s_group_go F A1 A2 c1 c2 k id g a c w h hr e0 e1 e2 hg).mono fun _ _ h => h.as hc (xF_yes hc)
  · have hc : edC F 6 id g a c = 5 := by rw [e, if_pos e0]
    exact (s_group_there F A1 A2 c1 c2 k id g a c w h hr e0 hg).mono fun _ _ h => h.as hc (xF_no hc (by decide))
/-- An answer that a call gave is stored and returned. -/
theorem SpIn.give {b : Nat} {w1 w' : World} {F : Fm} {A1 A2 : Option Addr} {c1 c2 : Nat} {k id g a c : Int} (h : SpIn b w1 F A1 A2 c1 c2 k id g a c w') {G : Fm} {vg vm : Value} {B : Nat} (hV : FarmV w' B G vg vm) (C : Int) :
    (putOut w' (b + 1 + 1) (.int .i64 G.cap) vg vm (.int .i64 0) (.int .i64 C)).heap[b + 1 + 1]? = some (.cells #[.int .i64 G.cap, vg, vm, .int .i64 0, .int .i64 C] 60 (0, 0)) ∧
    ∀ {w : World}, w.heap.size ≤ b + 1 + 1 → w.heap.size ≤ B → Below w.heap.size w w' → OutV C G w (.returned (.agg #[.int .i64 G.cap, vg, vm, .int .i64 0, .int .i64 C])) (putOut w' (b + 1 + 1) (.int .i64 G.cap) vg vm (.int .i64 0) (.int .i64 C)) :=
  ⟨(putOut_blk h.2.2.1 rfl _ _ _ _ _).2, fun hl hB hb => ⟨_, _, rfl, (hV.mono hB).putOut (hV.1.neBlk h.2.2.1 (by decide)) (hV.2.neBlk h.2.2.1 (by decide)) _ _ _ _ _, putOut_below hb hl _ _ _ _ _⟩⟩
set_option maxHeartbeats 4000000 in
theorem s_fe_noform (F : Fm) (A1 A2 : Option Addr) (c1 c2 : Nat) (k id g a c : Int) (w : World) (h : FarmAt w A1 F.n1 F.f1 A2 F.n2 F.f2) (hc1 : F.n1 ≤ c1) (hc2 : F.n2 ≤ c2) (hf : fmB F = false) :
    Calls Try.prog 27 #[.agg #[.int .i64 F.cap, .slice A1 F.n1 c1, .slice A2 F.n2 c2], .agg #[.int .i64 k, .int .i64 id, .int .i64 g, .int .i64 a, .int .i64 c]] w (OutV 1 fm0 w) := by
  have HF := Lib.hid (show farmB F.cap F.n1 F.f1 F.n2 F.f2 = false from hf)
  have HC1 := Lib.hid hc1
  clear hf hc1 hc2
  have hu := Try.underlying60
  have S1 := Lib.hid (SpIn.new F A1 A2 c1 c2 k id g a c w h)
  have HB : Hid (Below w.heap.size w (((w.alloc (.cells #[.int .i64 F.cap, .slice A1 F.n1 c1, .slice A2 F.n2 c2] 34)).alloc (.cells #[.int .i64 k, .int .i64 id, .int .i64 g, .int .i64 a, .int .i64 c] 56)).alloc (.cells #[.int .i64 0, .slice none 0 0, .slice none 0 0, .int .i64 0, .int .i64 0] 60))) := Lib.hid ((((Below.refl w.heap.size w).alloc (Nat.le_refl _) _).alloc (by simp) _).alloc (by simp; omega) _)
  have HZ : Hid ((((w.alloc (.cells #[.int .i64 F.cap, .slice A1 F.n1 c1, .slice A2 F.n2 c2] 34)).alloc (.cells #[.int .i64 k, .int .i64 id, .int .i64 g, .int .i64 a, .int .i64 c] 56)).alloc (.cells #[.int .i64 0, .slice none 0 0, .slice none 0 0, .int .i64 0, .int .i64 0] 60)).heap.size = w.heap.size + 1 + 1 + 1) := Lib.hid (by simp)
  clear h
  go_enter Try.func27, Try.ntmps27
  go_upto_region 1 with fail
  generalize (((w.alloc (.cells #[.int .i64 F.cap, .slice A1 F.n1 c1, .slice A2 F.n2 c2] 34)).alloc (.cells #[.int .i64 k, .int .i64 id, .int .i64 g, .int .i64 a, .int .i64 c] 56)).alloc (.cells #[.int .i64 0, .slice none 0 0, .slice none 0 0, .int .i64 0, .int .i64 0] 60)) = w1 at *
  obtain ⟨b, hbb⟩ : ∃ b, w.heap.size = b := ⟨_, rfl⟩
  have HBB := Lib.hid hbb
  rw [hbb] at S1 HZ ⊢
  clear hbb
  obtain ⟨u0, u1, u2, v0, v1, v2, v3, v4⟩ := S1.out.cells
  have HFR := Lib.hid fun (w' : World) (hb : Below w1.heap.size w1 w') => HF.out ▸ s_FarmRight F.cap A1 A2 F.n1 c1 F.n2 c2 F.f1 F.f2 w' (S1.out.2.2.2.1.keep hb) HC1.out
  go_wp2_with (first | (go_at_call 39; (with_reducible refine (HFR.out w1 (Below.refl _ _)).mono ?_); rintro e w2 ⟨rfl, hb2⟩; have S2 := Lib.hid (S1.out.keep hb2); obtain ⟨u02, u12, u22, v02, v12, v22, v32, v42⟩ := S2.out.cells; clear hb2) | (go_at_call 71; refine (s_l06Wrong _ _).mono ?_; rintro e wq ⟨rfl, hbq⟩; have SQ := Lib.hid (S2.out.keep hbq); obtain ⟨z0, z1, z2, z3, z4, y0, y1, y2, y3, y4⟩ := SQ.out.out; clear hbq) | fail)
  exact bodyPost_ret (v := .agg #[.int .i64 0, .slice none 0 0, .slice none 0 0, .int .i64 0, .int .i64 1]) (results_cell_row rfl _ _ _ _ _ _ _ rfl (SQ.out.wrong _).1 hu rfl (by kernel_rfl)) rfl ((SQ.out.wrong 1).2 (by have := HBB.out; omega) (HB.out.trans (SQ.out.2.2.2.2.mono (by have := HZ.out; have := HBB.out; omega))))
set_option maxHeartbeats 4000000 in
theorem s_fe_noedit (F : Fm) (A1 A2 : Option Addr) (c1 c2 : Nat) (k id g a c : Int) (w : World) (h : FarmAt w A1 F.n1 F.f1 A2 F.n2 F.f2) (hc1 : F.n1 ≤ c1) (hc2 : F.n2 ≤ c2) (hf : fmB F = true) (he : edB k id g a c = false) :
    Calls Try.prog 27 #[.agg #[.int .i64 F.cap, .slice A1 F.n1 c1, .slice A2 F.n2 c2], .agg #[.int .i64 k, .int .i64 id, .int .i64 g, .int .i64 a, .int .i64 c]] w (OutV 1 fm0 w) := by
  have HF := Lib.hid (show farmB F.cap F.n1 F.f1 F.n2 F.f2 = true from hf)
  have HC1 := Lib.hid hc1
  have HER := Lib.hid he
  clear hf hc1 hc2 he
  have hu := Try.underlying60
  have S1 := Lib.hid (SpIn.new F A1 A2 c1 c2 k id g a c w h)
  have HB : Hid (Below w.heap.size w (((w.alloc (.cells #[.int .i64 F.cap, .slice A1 F.n1 c1, .slice A2 F.n2 c2] 34)).alloc (.cells #[.int .i64 k, .int .i64 id, .int .i64 g, .int .i64 a, .int .i64 c] 56)).alloc (.cells #[.int .i64 0, .slice none 0 0, .slice none 0 0, .int .i64 0, .int .i64 0] 60))) := Lib.hid ((((Below.refl w.heap.size w).alloc (Nat.le_refl _) _).alloc (by simp) _).alloc (by simp; omega) _)
  have HZ : Hid ((((w.alloc (.cells #[.int .i64 F.cap, .slice A1 F.n1 c1, .slice A2 F.n2 c2] 34)).alloc (.cells #[.int .i64 k, .int .i64 id, .int .i64 g, .int .i64 a, .int .i64 c] 56)).alloc (.cells #[.int .i64 0, .slice none 0 0, .slice none 0 0, .int .i64 0, .int .i64 0] 60)).heap.size = w.heap.size + 1 + 1 + 1) := Lib.hid (by simp)
  clear h
  go_enter Try.func27, Try.ntmps27
  go_upto_region 1 with fail
  generalize (((w.alloc (.cells #[.int .i64 F.cap, .slice A1 F.n1 c1, .slice A2 F.n2 c2] 34)).alloc (.cells #[.int .i64 k, .int .i64 id, .int .i64 g, .int .i64 a, .int .i64 c] 56)).alloc (.cells #[.int .i64 0, .slice none 0 0, .slice none 0 0, .int .i64 0, .int .i64 0] 60)) = w1 at *
  obtain ⟨b, hbb⟩ : ∃ b, w.heap.size = b := ⟨_, rfl⟩
  have HBB := Lib.hid hbb
  rw [hbb] at S1 HZ ⊢
  clear hbb
  obtain ⟨u0, u1, u2, v0, v1, v2, v3, v4⟩ := S1.out.cells
  have HFR := Lib.hid fun (w' : World) (hb : Below w1.heap.size w1 w') => HF.out ▸ s_FarmRight F.cap A1 A2 F.n1 c1 F.n2 c2 F.f1 F.f2 w' (S1.out.2.2.2.1.keep hb) HC1.out
  go_wp2_with (first | (go_at_call 39; (with_reducible refine (HFR.out w1 (Below.refl _ _)).mono ?_); rintro e w2 ⟨rfl, hb2⟩; have S2 := Lib.hid (S1.out.keep hb2); obtain ⟨u02, u12, u22, v02, v12, v22, v32, v42⟩ := S2.out.cells; clear hb2) | (go_at_call 70; refine (s_EditRight _ _ _ _ _ _).mono ?_; rintro e w3 ⟨rfl, hb3⟩; rw [HER.out]; have S3 := Lib.hid (S2.out.keep hb3); obtain ⟨u03, u13, u23, v03, v13, v23, v33, v43⟩ := S3.out.cells; clear hb3) | (go_at_call 71; refine (s_l06Wrong _ _).mono ?_; rintro e wq ⟨rfl, hbq⟩; have SQ := Lib.hid (S3.out.keep hbq); obtain ⟨z0, z1, z2, z3, z4, y0, y1, y2, y3, y4⟩ := SQ.out.out; clear hbq) | fail)
  exact bodyPost_ret (v := .agg #[.int .i64 0, .slice none 0 0, .slice none 0 0, .int .i64 0, .int .i64 1]) (results_cell_row rfl _ _ _ _ _ _ _ rfl (SQ.out.wrong _).1 hu rfl (by kernel_rfl)) rfl ((SQ.out.wrong 1).2 (by have := HBB.out; omega) (HB.out.trans (SQ.out.2.2.2.2.mono (by have := HZ.out; have := HBB.out; omega))))
set_option maxHeartbeats 8000000 in
theorem s_fe_join (F : Fm) (A1 A2 : Option Addr) (c1 c2 : Nat) (id g a c : Int) (w : World) (h : FarmAt w A1 F.n1 F.f1 A2 F.n2 F.f2) (hc1 : F.n1 ≤ c1) (hc2 : F.n2 ≤ c2) (hf : fmB F = true) (he : edB 1 id g a c = true)  :
    Calls Try.prog 27 #[.agg #[.int .i64 F.cap, .slice A1 F.n1 c1, .slice A2 F.n2 c2], .agg #[.int .i64 1, .int .i64 id, .int .i64 g, .int .i64 a, .int .i64 c]] w (OutV (edC F 1 id g a c) (xF F 1 id g a c) w) := by
  have HF := Lib.hid (show farmB F.cap F.n1 F.f1 F.n2 F.f2 = true from hf)
  have HR := Lib.hid (Right.of hf)
  have hl1 := HR.out.l1
  have hl2 := HR.out.l2
  have HC1 := Lib.hid hc1
  have HC2 := Lib.hid hc2
  have HER := Lib.hid he
  clear hf hc1 hc2 he
  have hu := Try.underlying60
  have S1 := Lib.hid (SpIn.new F A1 A2 c1 c2 1 id g a c w h)
  have HB : Hid (Below w.heap.size w (((w.alloc (.cells #[.int .i64 F.cap, .slice A1 F.n1 c1, .slice A2 F.n2 c2] 34)).alloc (.cells #[.int .i64 1, .int .i64 id, .int .i64 g, .int .i64 a, .int .i64 c] 56)).alloc (.cells #[.int .i64 0, .slice none 0 0, .slice none 0 0, .int .i64 0, .int .i64 0] 60))) := Lib.hid ((((Below.refl w.heap.size w).alloc (Nat.le_refl _) _).alloc (by simp) _).alloc (by simp; omega) _)
  have HZ : Hid ((((w.alloc (.cells #[.int .i64 F.cap, .slice A1 F.n1 c1, .slice A2 F.n2 c2] 34)).alloc (.cells #[.int .i64 1, .int .i64 id, .int .i64 g, .int .i64 a, .int .i64 c] 56)).alloc (.cells #[.int .i64 0, .slice none 0 0, .slice none 0 0, .int .i64 0, .int .i64 0] 60)).heap.size = w.heap.size + 1 + 1 + 1) := Lib.hid (by simp)
  clear h
  go_enter Try.func27, Try.ntmps27
  go_upto_region 1 with fail
  generalize (((w.alloc (.cells #[.int .i64 F.cap, .slice A1 F.n1 c1, .slice A2 F.n2 c2] 34)).alloc (.cells #[.int .i64 1, .int .i64 id, .int .i64 g, .int .i64 a, .int .i64 c] 56)).alloc (.cells #[.int .i64 0, .slice none 0 0, .slice none 0 0, .int .i64 0, .int .i64 0] 60)) = w1 at *
  obtain ⟨b, hbb⟩ : ∃ b, w.heap.size = b := ⟨_, rfl⟩
  have HBB := Lib.hid hbb
  rw [hbb] at S1 HZ ⊢
  clear hbb
  obtain ⟨u0, u1, u2, v0, v1, v2, v3, v4⟩ := S1.out.cells
  have HFR := Lib.hid fun (w' : World) (hb : Below w1.heap.size w1 w') => HF.out ▸ s_FarmRight F.cap A1 A2 F.n1 c1 F.n2 c2 F.f1 F.f2 w' (S1.out.2.2.2.1.keep hb) HC1.out
  go_upto_region 4 with (first | (go_at_call 39; (with_reducible refine (HFR.out w1 (Below.refl _ _)).mono ?_); rintro e w2 ⟨rfl, hb2⟩; have S2 := Lib.hid (S1.out.keep hb2); obtain ⟨u02, u12, u22, v02, v12, v22, v32, v42⟩ := S2.out.cells; clear hb2) | (go_at_call 70; refine (s_EditRight _ _ _ _ _ _).mono ?_; rintro e w3 ⟨rfl, hb3⟩; rw [HER.out]; have S3 := Lib.hid (S2.out.keep hb3); obtain ⟨u03, u13, u23, v03, v13, v23, v33, v43⟩ := S3.out.cells; clear hb3) | (go_at_call 72; refine (s_l06Copy F.cap A1 A2 F.n1 c1 F.n2 c2 F.f1 F.f2 w3 S3.out.2.2.2.1 (by omega) (by omega)).mono ?_; rintro e w4 ⟨vg, vm, rfl, hO1, hO2, hb4⟩; obtain ⟨G1', d1, rfl, -, -⟩ := hO1.tab; obtain ⟨G2', d2, rfl, -, -⟩ := hO2.tab; have O1 := Lib.hid hO1; have O2 := Lib.hid hO2; have HBC := Lib.hid hb4; clear hO1 hO2 hb4) | fail)
  clear u0 u1 u2 v0 v1 v2 v3 v4 u02 u12 u22 v02 v12 v22 v32 v42 u03 u13 u23 v03 v13 v23 v33 v43
  have P1 := Lib.hid (O1.out.mono (B' := w1.heap.size) S3.out.2.2.2.2.size)
  have P2 := Lib.hid (O2.out.mono (B' := w1.heap.size) S3.out.2.2.2.2.size)
  clear O1 O2
  have S4 := Lib.hid (S3.out.keep HBC.out)
  have al5 := (Below.refl w4.heap.size w4).alloc (Nat.le_refl _) (.cells #[.int .i64 F.cap, .slice G1' F.n1 d1, .slice G2' F.n2 d2] 34)
  have K5 := Lib.hid (Blk.new (w := w4) (B := w4.heap.size) (Nat.le_refl _) #[.int .i64 F.cap, .slice G1' F.n1 d1, .slice G2' F.n2 d2] 34)
  have S5 := Lib.hid (S4.out.keep al5)
  have O1 := Lib.hid (P1.out.keep al5)
  have O2 := Lib.hid (P2.out.keep al5)
  have L5 := Lib.hid (show b + 1 + 1 < w4.heap.size from S4.out.2.2.1.lt)
  have L6 := Lib.hid (show w1.heap.size ≤ w4.heap.size from S4.out.2.2.2.2.size)
  have NX1 := Lib.hid (show ∀ k, (.slice G1' F.n1 d1 : Value).ownBlock = some k → k < w4.heap.size from fun k e => (World.ownsRow.lt P1.out k e).2)
  have NX2 := Lib.hid (show ∀ k, (.slice G2' F.n2 d2 : Value).ownBlock = some k → k < w4.heap.size from fun k e => (World.ownsRow.lt P2.out k e).2)
  clear al5 S4 P1 P2 HBC S3 S2
  generalize (w4.alloc (.cells #[.int .i64 F.cap, .slice G1' F.n1 d1, .slice G2' F.n2 d2] 34)) = w5 at *
  generalize hb5 : w4.heap.size = b5 at *
  clear hb5
  obtain ⟨u0, u1, u2, v0, v1, v2, v3, v4⟩ := S5.out.cells
  skip
  go_wp2_with (first | (go_at_call 73; refine (s_l06Join F A1 A2 c1 c2 1 id g a c w5 S5.out.2.2.2.1 HR.out).mono ?_; rintro e w6 ⟨vg, vm, rfl, hV, hb6⟩; obtain ⟨J1, j1, rfl, -, -⟩ := hV.1.tab; obtain ⟨J2, j2, rfl, -, -⟩ := hV.2.tab; have HV := Lib.hid hV; have SQ := Lib.hid (S5.out.keep hb6); have HL6 := Lib.hid (show b + 1 + 1 ≤ w5.heap.size from Nat.le_of_lt S5.out.2.2.1.lt); obtain ⟨z0, z1, z2, z3, z4, y0, y1, y2, y3, y4⟩ := SQ.out.out; clear hV hb6) | fail)
  exact bodyPost_ret (results_cell_row rfl _ _ _ _ _ _ _ rfl (SQ.out.give HV.out _).1 hu rfl (by kernel_rfl)) rfl ((SQ.out.give HV.out _).2 (by have := HBB.out; omega) (by have := HL6.out; have := HBB.out; omega) (HB.out.trans (SQ.out.2.2.2.2.mono (by have := HZ.out; have := HBB.out; omega))))
set_option maxHeartbeats 8000000 in
theorem s_fe_group (F : Fm) (A1 A2 : Option Addr) (c1 c2 : Nat) (id g a c : Int) (w : World) (h : FarmAt w A1 F.n1 F.f1 A2 F.n2 F.f2) (hc1 : F.n1 ≤ c1) (hc2 : F.n2 ≤ c2) (hf : fmB F = true) (he : edB 6 id g a c = true) (hg : g < id) :
    Calls Try.prog 27 #[.agg #[.int .i64 F.cap, .slice A1 F.n1 c1, .slice A2 F.n2 c2], .agg #[.int .i64 6, .int .i64 id, .int .i64 g, .int .i64 a, .int .i64 c]] w (OutV (edC F 6 id g a c) (xF F 6 id g a c) w) := by
  have HGI := Lib.hid hg
  clear hg
  have HF := Lib.hid (show farmB F.cap F.n1 F.f1 F.n2 F.f2 = true from hf)
  have HR := Lib.hid (Right.of hf)
  have hl1 := HR.out.l1
  have hl2 := HR.out.l2
  have HC1 := Lib.hid hc1
  have HC2 := Lib.hid hc2
  have HER := Lib.hid he
  clear hf hc1 hc2 he
  have hu := Try.underlying60
  have S1 := Lib.hid (SpIn.new F A1 A2 c1 c2 6 id g a c w h)
  have HB : Hid (Below w.heap.size w (((w.alloc (.cells #[.int .i64 F.cap, .slice A1 F.n1 c1, .slice A2 F.n2 c2] 34)).alloc (.cells #[.int .i64 6, .int .i64 id, .int .i64 g, .int .i64 a, .int .i64 c] 56)).alloc (.cells #[.int .i64 0, .slice none 0 0, .slice none 0 0, .int .i64 0, .int .i64 0] 60))) := Lib.hid ((((Below.refl w.heap.size w).alloc (Nat.le_refl _) _).alloc (by simp) _).alloc (by simp; omega) _)
  have HZ : Hid ((((w.alloc (.cells #[.int .i64 F.cap, .slice A1 F.n1 c1, .slice A2 F.n2 c2] 34)).alloc (.cells #[.int .i64 6, .int .i64 id, .int .i64 g, .int .i64 a, .int .i64 c] 56)).alloc (.cells #[.int .i64 0, .slice none 0 0, .slice none 0 0, .int .i64 0, .int .i64 0] 60)).heap.size = w.heap.size + 1 + 1 + 1) := Lib.hid (by simp)
  clear h
  go_enter Try.func27, Try.ntmps27
  go_upto_region 1 with fail
  generalize (((w.alloc (.cells #[.int .i64 F.cap, .slice A1 F.n1 c1, .slice A2 F.n2 c2] 34)).alloc (.cells #[.int .i64 6, .int .i64 id, .int .i64 g, .int .i64 a, .int .i64 c] 56)).alloc (.cells #[.int .i64 0, .slice none 0 0, .slice none 0 0, .int .i64 0, .int .i64 0] 60)) = w1 at *
  obtain ⟨b, hbb⟩ : ∃ b, w.heap.size = b := ⟨_, rfl⟩
  have HBB := Lib.hid hbb
  rw [hbb] at S1 HZ ⊢
  clear hbb
  obtain ⟨u0, u1, u2, v0, v1, v2, v3, v4⟩ := S1.out.cells
  have HFR := Lib.hid fun (w' : World) (hb : Below w1.heap.size w1 w') => HF.out ▸ s_FarmRight F.cap A1 A2 F.n1 c1 F.n2 c2 F.f1 F.f2 w' (S1.out.2.2.2.1.keep hb) HC1.out
  go_upto_region 4 with (first | (go_at_call 39; (with_reducible refine (HFR.out w1 (Below.refl _ _)).mono ?_); rintro e w2 ⟨rfl, hb2⟩; have S2 := Lib.hid (S1.out.keep hb2); obtain ⟨u02, u12, u22, v02, v12, v22, v32, v42⟩ := S2.out.cells; clear hb2) | (go_at_call 70; refine (s_EditRight _ _ _ _ _ _).mono ?_; rintro e w3 ⟨rfl, hb3⟩; rw [HER.out]; have S3 := Lib.hid (S2.out.keep hb3); obtain ⟨u03, u13, u23, v03, v13, v23, v33, v43⟩ := S3.out.cells; clear hb3) | (go_at_call 72; refine (s_l06Copy F.cap A1 A2 F.n1 c1 F.n2 c2 F.f1 F.f2 w3 S3.out.2.2.2.1 (by omega) (by omega)).mono ?_; rintro e w4 ⟨vg, vm, rfl, hO1, hO2, hb4⟩; obtain ⟨G1', d1, rfl, -, -⟩ := hO1.tab; obtain ⟨G2', d2, rfl, -, -⟩ := hO2.tab; have O1 := Lib.hid hO1; have O2 := Lib.hid hO2; have HBC := Lib.hid hb4; clear hO1 hO2 hb4) | fail)
  clear u0 u1 u2 v0 v1 v2 v3 v4 u02 u12 u22 v02 v12 v22 v32 v42 u03 u13 u23 v03 v13 v23 v33 v43
  have P1 := Lib.hid (O1.out.mono (B' := w1.heap.size) S3.out.2.2.2.2.size)
  have P2 := Lib.hid (O2.out.mono (B' := w1.heap.size) S3.out.2.2.2.2.size)
  clear O1 O2
  have S4 := Lib.hid (S3.out.keep HBC.out)
  have al5 := (Below.refl w4.heap.size w4).alloc (Nat.le_refl _) (.cells #[.int .i64 F.cap, .slice G1' F.n1 d1, .slice G2' F.n2 d2] 34)
  have K5 := Lib.hid (Blk.new (w := w4) (B := w4.heap.size) (Nat.le_refl _) #[.int .i64 F.cap, .slice G1' F.n1 d1, .slice G2' F.n2 d2] 34)
  have S5 := Lib.hid (S4.out.keep al5)
  have O1 := Lib.hid (P1.out.keep al5)
  have O2 := Lib.hid (P2.out.keep al5)
  have L5 := Lib.hid (show b + 1 + 1 < w4.heap.size from S4.out.2.2.1.lt)
  have L6 := Lib.hid (show w1.heap.size ≤ w4.heap.size from S4.out.2.2.2.2.size)
  have NX1 := Lib.hid (show ∀ k, (.slice G1' F.n1 d1 : Value).ownBlock = some k → k < w4.heap.size from fun k e => (World.ownsRow.lt P1.out k e).2)
  have NX2 := Lib.hid (show ∀ k, (.slice G2' F.n2 d2 : Value).ownBlock = some k → k < w4.heap.size from fun k e => (World.ownsRow.lt P2.out k e).2)
  clear al5 S4 P1 P2 HBC S3 S2
  generalize (w4.alloc (.cells #[.int .i64 F.cap, .slice G1' F.n1 d1, .slice G2' F.n2 d2] 34)) = w5 at *
  generalize hb5 : w4.heap.size = b5 at *
  clear hb5
  obtain ⟨u0, u1, u2, v0, v1, v2, v3, v4⟩ := S5.out.cells
  skip
  go_wp2_with (first | (go_at_call 74; refine (s_l06Group F A1 A2 c1 c2 6 id g a c w5 S5.out.2.2.2.1 HR.out HGI.out).mono ?_; rintro e w6 ⟨vg, vm, rfl, hV, hb6⟩; obtain ⟨J1, j1, rfl, -, -⟩ := hV.1.tab; obtain ⟨J2, j2, rfl, -, -⟩ := hV.2.tab; have HV := Lib.hid hV; have SQ := Lib.hid (S5.out.keep hb6); have HL6 := Lib.hid (show b + 1 + 1 ≤ w5.heap.size from Nat.le_of_lt S5.out.2.2.1.lt); obtain ⟨z0, z1, z2, z3, z4, y0, y1, y2, y3, y4⟩ := SQ.out.out; clear hV hb6) | fail)
  exact bodyPost_ret (results_cell_row rfl _ _ _ _ _ _ _ rfl (SQ.out.give HV.out _).1 hu rfl (by kernel_rfl)) rfl ((SQ.out.give HV.out _).2 (by have := HBB.out; omega) (by have := HL6.out; have := HBB.out; omega) (HB.out.trans (SQ.out.2.2.2.2.mono (by have := HZ.out; have := HBB.out; omega))))
set_option maxHeartbeats 8000000 in
theorem s_fe_drop (F : Fm) (A1 A2 : Option Addr) (c1 c2 : Nat) (id g a c : Int) (w : World) (h : FarmAt w A1 F.n1 F.f1 A2 F.n2 F.f2) (hc1 : F.n1 ≤ c1) (hc2 : F.n2 ≤ c2) (hf : fmB F = true) (he : edB 7 id g a c = true)  :
    Calls Try.prog 27 #[.agg #[.int .i64 F.cap, .slice A1 F.n1 c1, .slice A2 F.n2 c2], .agg #[.int .i64 7, .int .i64 id, .int .i64 g, .int .i64 a, .int .i64 c]] w (OutV (edC F 7 id g a c) (xF F 7 id g a c) w) := by
  have HF := Lib.hid (show farmB F.cap F.n1 F.f1 F.n2 F.f2 = true from hf)
  have HR := Lib.hid (Right.of hf)
  have hl1 := HR.out.l1
  have hl2 := HR.out.l2
  have HC1 := Lib.hid hc1
  have HC2 := Lib.hid hc2
  have HER := Lib.hid he
  clear hf hc1 hc2 he
  have hu := Try.underlying60
  have S1 := Lib.hid (SpIn.new F A1 A2 c1 c2 7 id g a c w h)
  have HB : Hid (Below w.heap.size w (((w.alloc (.cells #[.int .i64 F.cap, .slice A1 F.n1 c1, .slice A2 F.n2 c2] 34)).alloc (.cells #[.int .i64 7, .int .i64 id, .int .i64 g, .int .i64 a, .int .i64 c] 56)).alloc (.cells #[.int .i64 0, .slice none 0 0, .slice none 0 0, .int .i64 0, .int .i64 0] 60))) := Lib.hid ((((Below.refl w.heap.size w).alloc (Nat.le_refl _) _).alloc (by simp) _).alloc (by simp; omega) _)
  have HZ : Hid ((((w.alloc (.cells #[.int .i64 F.cap, .slice A1 F.n1 c1, .slice A2 F.n2 c2] 34)).alloc (.cells #[.int .i64 7, .int .i64 id, .int .i64 g, .int .i64 a, .int .i64 c] 56)).alloc (.cells #[.int .i64 0, .slice none 0 0, .slice none 0 0, .int .i64 0, .int .i64 0] 60)).heap.size = w.heap.size + 1 + 1 + 1) := Lib.hid (by simp)
  clear h
  go_enter Try.func27, Try.ntmps27
  go_upto_region 1 with fail
  generalize (((w.alloc (.cells #[.int .i64 F.cap, .slice A1 F.n1 c1, .slice A2 F.n2 c2] 34)).alloc (.cells #[.int .i64 7, .int .i64 id, .int .i64 g, .int .i64 a, .int .i64 c] 56)).alloc (.cells #[.int .i64 0, .slice none 0 0, .slice none 0 0, .int .i64 0, .int .i64 0] 60)) = w1 at *
  obtain ⟨b, hbb⟩ : ∃ b, w.heap.size = b := ⟨_, rfl⟩
  have HBB := Lib.hid hbb
  rw [hbb] at S1 HZ ⊢
  clear hbb
  obtain ⟨u0, u1, u2, v0, v1, v2, v3, v4⟩ := S1.out.cells
  have HFR := Lib.hid fun (w' : World) (hb : Below w1.heap.size w1 w') => HF.out ▸ s_FarmRight F.cap A1 A2 F.n1 c1 F.n2 c2 F.f1 F.f2 w' (S1.out.2.2.2.1.keep hb) HC1.out
  go_upto_region 4 with (first | (go_at_call 39; (with_reducible refine (HFR.out w1 (Below.refl _ _)).mono ?_); rintro e w2 ⟨rfl, hb2⟩; have S2 := Lib.hid (S1.out.keep hb2); obtain ⟨u02, u12, u22, v02, v12, v22, v32, v42⟩ := S2.out.cells; clear hb2) | (go_at_call 70; refine (s_EditRight _ _ _ _ _ _).mono ?_; rintro e w3 ⟨rfl, hb3⟩; rw [HER.out]; have S3 := Lib.hid (S2.out.keep hb3); obtain ⟨u03, u13, u23, v03, v13, v23, v33, v43⟩ := S3.out.cells; clear hb3) | (go_at_call 72; refine (s_l06Copy F.cap A1 A2 F.n1 c1 F.n2 c2 F.f1 F.f2 w3 S3.out.2.2.2.1 (by omega) (by omega)).mono ?_; rintro e w4 ⟨vg, vm, rfl, hO1, hO2, hb4⟩; obtain ⟨G1', d1, rfl, -, -⟩ := hO1.tab; obtain ⟨G2', d2, rfl, -, -⟩ := hO2.tab; have O1 := Lib.hid hO1; have O2 := Lib.hid hO2; have HBC := Lib.hid hb4; clear hO1 hO2 hb4) | fail)
  clear u0 u1 u2 v0 v1 v2 v3 v4 u02 u12 u22 v02 v12 v22 v32 v42 u03 u13 u23 v03 v13 v23 v33 v43
  have P1 := Lib.hid (O1.out.mono (B' := w1.heap.size) S3.out.2.2.2.2.size)
  have P2 := Lib.hid (O2.out.mono (B' := w1.heap.size) S3.out.2.2.2.2.size)
  clear O1 O2
  have S4 := Lib.hid (S3.out.keep HBC.out)
  have al5 := (Below.refl w4.heap.size w4).alloc (Nat.le_refl _) (.cells #[.int .i64 F.cap, .slice G1' F.n1 d1, .slice G2' F.n2 d2] 34)
  have K5 := Lib.hid (Blk.new (w := w4) (B := w4.heap.size) (Nat.le_refl _) #[.int .i64 F.cap, .slice G1' F.n1 d1, .slice G2' F.n2 d2] 34)
  have S5 := Lib.hid (S4.out.keep al5)
  have O1 := Lib.hid (P1.out.keep al5)
  have O2 := Lib.hid (P2.out.keep al5)
  have L5 := Lib.hid (show b + 1 + 1 < w4.heap.size from S4.out.2.2.1.lt)
  have L6 := Lib.hid (show w1.heap.size ≤ w4.heap.size from S4.out.2.2.2.2.size)
  have NX1 := Lib.hid (show ∀ k, (.slice G1' F.n1 d1 : Value).ownBlock = some k → k < w4.heap.size from fun k e => (World.ownsRow.lt P1.out k e).2)
  have NX2 := Lib.hid (show ∀ k, (.slice G2' F.n2 d2 : Value).ownBlock = some k → k < w4.heap.size from fun k e => (World.ownsRow.lt P2.out k e).2)
  clear al5 S4 P1 P2 HBC S3 S2
  generalize (w4.alloc (.cells #[.int .i64 F.cap, .slice G1' F.n1 d1, .slice G2' F.n2 d2] 34)) = w5 at *
  generalize hb5 : w4.heap.size = b5 at *
  clear hb5
  obtain ⟨u0, u1, u2, v0, v1, v2, v3, v4⟩ := S5.out.cells
  skip
  go_wp2_with (first | (go_at_call 75; refine (s_l06Drop F A1 A2 c1 c2 7 id g a c w5 S5.out.2.2.2.1 HR.out HC1.out).mono ?_; rintro e w6 ⟨vg, vm, rfl, hV, hb6⟩; obtain ⟨J1, j1, rfl, -, -⟩ := hV.1.tab; obtain ⟨J2, j2, rfl, -, -⟩ := hV.2.tab; have HV := Lib.hid hV; have SQ := Lib.hid (S5.out.keep hb6); have HL6 := Lib.hid (show b + 1 + 1 ≤ w5.heap.size from Nat.le_of_lt S5.out.2.2.1.lt); obtain ⟨z0, z1, z2, z3, z4, y0, y1, y2, y3, y4⟩ := SQ.out.out; clear hV hb6) | fail)
  exact bodyPost_ret (results_cell_row rfl _ _ _ _ _ _ _ rfl (SQ.out.give HV.out _).1 hu rfl (by kernel_rfl)) rfl ((SQ.out.give HV.out _).2 (by have := HBB.out; omega) (by have := HL6.out; have := HBB.out; omega) (HB.out.trans (SQ.out.2.2.2.2.mono (by have := HZ.out; have := HBB.out; omega))))
set_option maxHeartbeats 4000000 in
theorem s_fe_form (F : Fm) (A1 A2 : Option Addr) (c1 c2 : Nat) (id g a c : Int) (w : World) (h : FarmAt w A1 F.n1 F.f1 A2 F.n2 F.f2) (hc1 : F.n1 ≤ c1) (hc2 : F.n2 ≤ c2) (hf : fmB F = true) (he : edB 6 id g a c = true) (hg : g ≥ id) :
    Calls Try.prog 27 #[.agg #[.int .i64 F.cap, .slice A1 F.n1 c1, .slice A2 F.n2 c2], .agg #[.int .i64 6, .int .i64 id, .int .i64 g, .int .i64 a, .int .i64 c]] w (OutV 1 fm0 w) := by
  have HGI := Lib.hid hg
  clear hg
  have HF := Lib.hid (show farmB F.cap F.n1 F.f1 F.n2 F.f2 = true from hf)
  have HR := Lib.hid (Right.of hf)
  have hl1 := HR.out.l1
  have hl2 := HR.out.l2
  have HC1 := Lib.hid hc1
  have HC2 := Lib.hid hc2
  have HER := Lib.hid he
  clear hf hc1 hc2 he
  have hu := Try.underlying60
  have S1 := Lib.hid (SpIn.new F A1 A2 c1 c2 6 id g a c w h)
  have HB : Hid (Below w.heap.size w (((w.alloc (.cells #[.int .i64 F.cap, .slice A1 F.n1 c1, .slice A2 F.n2 c2] 34)).alloc (.cells #[.int .i64 6, .int .i64 id, .int .i64 g, .int .i64 a, .int .i64 c] 56)).alloc (.cells #[.int .i64 0, .slice none 0 0, .slice none 0 0, .int .i64 0, .int .i64 0] 60))) := Lib.hid ((((Below.refl w.heap.size w).alloc (Nat.le_refl _) _).alloc (by simp) _).alloc (by simp; omega) _)
  have HZ : Hid ((((w.alloc (.cells #[.int .i64 F.cap, .slice A1 F.n1 c1, .slice A2 F.n2 c2] 34)).alloc (.cells #[.int .i64 6, .int .i64 id, .int .i64 g, .int .i64 a, .int .i64 c] 56)).alloc (.cells #[.int .i64 0, .slice none 0 0, .slice none 0 0, .int .i64 0, .int .i64 0] 60)).heap.size = w.heap.size + 1 + 1 + 1) := Lib.hid (by simp)
  clear h
  go_enter Try.func27, Try.ntmps27
  go_upto_region 1 with fail
  generalize (((w.alloc (.cells #[.int .i64 F.cap, .slice A1 F.n1 c1, .slice A2 F.n2 c2] 34)).alloc (.cells #[.int .i64 6, .int .i64 id, .int .i64 g, .int .i64 a, .int .i64 c] 56)).alloc (.cells #[.int .i64 0, .slice none 0 0, .slice none 0 0, .int .i64 0, .int .i64 0] 60)) = w1 at *
  obtain ⟨b, hbb⟩ : ∃ b, w.heap.size = b := ⟨_, rfl⟩
  have HBB := Lib.hid hbb
  rw [hbb] at S1 HZ ⊢
  clear hbb
  obtain ⟨u0, u1, u2, v0, v1, v2, v3, v4⟩ := S1.out.cells
  have HFR := Lib.hid fun (w' : World) (hb : Below w1.heap.size w1 w') => HF.out ▸ s_FarmRight F.cap A1 A2 F.n1 c1 F.n2 c2 F.f1 F.f2 w' (S1.out.2.2.2.1.keep hb) HC1.out
  go_upto_region 4 with (first | (go_at_call 39; (with_reducible refine (HFR.out w1 (Below.refl _ _)).mono ?_); rintro e w2 ⟨rfl, hb2⟩; have S2 := Lib.hid (S1.out.keep hb2); obtain ⟨u02, u12, u22, v02, v12, v22, v32, v42⟩ := S2.out.cells; clear hb2) | (go_at_call 70; refine (s_EditRight _ _ _ _ _ _).mono ?_; rintro e w3 ⟨rfl, hb3⟩; rw [HER.out]; have S3 := Lib.hid (S2.out.keep hb3); obtain ⟨u03, u13, u23, v03, v13, v23, v33, v43⟩ := S3.out.cells; clear hb3) | (go_at_call 72; refine (s_l06Copy F.cap A1 A2 F.n1 c1 F.n2 c2 F.f1 F.f2 w3 S3.out.2.2.2.1 (by omega) (by omega)).mono ?_; rintro e w4 ⟨vg, vm, rfl, hO1, hO2, hb4⟩; obtain ⟨G1', d1, rfl, -, -⟩ := hO1.tab; obtain ⟨G2', d2, rfl, -, -⟩ := hO2.tab; have O1 := Lib.hid hO1; have O2 := Lib.hid hO2; have HBC := Lib.hid hb4; clear hO1 hO2 hb4) | fail)
  clear u0 u1 u2 v0 v1 v2 v3 v4 u02 u12 u22 v02 v12 v22 v32 v42 u03 u13 u23 v03 v13 v23 v33 v43
  have P1 := Lib.hid (O1.out.mono (B' := w1.heap.size) S3.out.2.2.2.2.size)
  have P2 := Lib.hid (O2.out.mono (B' := w1.heap.size) S3.out.2.2.2.2.size)
  clear O1 O2
  have S4 := Lib.hid (S3.out.keep HBC.out)
  have al5 := (Below.refl w4.heap.size w4).alloc (Nat.le_refl _) (.cells #[.int .i64 F.cap, .slice G1' F.n1 d1, .slice G2' F.n2 d2] 34)
  have K5 := Lib.hid (Blk.new (w := w4) (B := w4.heap.size) (Nat.le_refl _) #[.int .i64 F.cap, .slice G1' F.n1 d1, .slice G2' F.n2 d2] 34)
  have S5 := Lib.hid (S4.out.keep al5)
  have O1 := Lib.hid (P1.out.keep al5)
  have O2 := Lib.hid (P2.out.keep al5)
  have L5 := Lib.hid (show b + 1 + 1 < w4.heap.size from S4.out.2.2.1.lt)
  have L6 := Lib.hid (show w1.heap.size ≤ w4.heap.size from S4.out.2.2.2.2.size)
  have NX1 := Lib.hid (show ∀ k, (.slice G1' F.n1 d1 : Value).ownBlock = some k → k < w4.heap.size from fun k e => (World.ownsRow.lt P1.out k e).2)
  have NX2 := Lib.hid (show ∀ k, (.slice G2' F.n2 d2 : Value).ownBlock = some k → k < w4.heap.size from fun k e => (World.ownsRow.lt P2.out k e).2)
  clear al5 S4 P1 P2 HBC S3 S2
  generalize (w4.alloc (.cells #[.int .i64 F.cap, .slice G1' F.n1 d1, .slice G2' F.n2 d2] 34)) = w5 at *
  generalize hb5 : w4.heap.size = b5 at *
  clear hb5
  obtain ⟨u0, u1, u2, v0, v1, v2, v3, v4⟩ := S5.out.cells
  go_wp2_with (first | (go_at_call 74; refine (s_group_form F A1 A2 c1 c2 6 id g a c w5 S5.out.2.2.2.1 HR.out HGI.out).mono ?_; rintro e w6 ⟨vg, vm, rfl, hV, hb6⟩; obtain ⟨J1, j1, rfl, -, -⟩ := hV.1.tab; obtain ⟨J2, j2, rfl, -, -⟩ := hV.2.tab; have HV := Lib.hid hV; have SQ := Lib.hid (S5.out.keep hb6); have HL6 := Lib.hid (show b + 1 + 1 ≤ w5.heap.size from Nat.le_of_lt S5.out.2.2.1.lt); obtain ⟨z0, z1, z2, z3, z4, y0, y1, y2, y3, y4⟩ := SQ.out.out; clear hV hb6) | fail)
  exact bodyPost_ret (results_cell_row rfl _ _ _ _ _ _ _ rfl (SQ.out.give HV.out _).1 hu rfl (by kernel_rfl)) rfl ((SQ.out.give HV.out _).2 (by have := HBB.out; omega) (by have := HL6.out; have := HBB.out; omega) (HB.out.trans (SQ.out.2.2.2.2.mono (by have := HZ.out; have := HBB.out; omega))))
set_option maxHeartbeats 8000000 in
theorem s_fe_cap0 (F : Fm) (A1 A2 : Option Addr) (c1 c2 : Nat) (g a c : Int) (w : World) (h : FarmAt w A1 F.n1 F.f1 A2 F.n2 F.f2) (hc1 : F.n1 ≤ c1) (hc2 : F.n2 ≤ c2) (hf : fmB F = true) (he : edB 8 0 g a c = true)  :
    Calls Try.prog 27 #[.agg #[.int .i64 F.cap, .slice A1 F.n1 c1, .slice A2 F.n2 c2], .agg #[.int .i64 8, .int .i64 0, .int .i64 g, .int .i64 a, .int .i64 c]] w (OutV 0 (edF F 8 0 g a c) w) := by
  have hed := Lib.hid (show edF F 8 0 g a c = { F with cap := a } from rfl)
  have HF := Lib.hid (show farmB F.cap F.n1 F.f1 F.n2 F.f2 = true from hf)
  have HR := Lib.hid (Right.of hf)
  have hl1 := HR.out.l1
  have hl2 := HR.out.l2
  have HC1 := Lib.hid hc1
  have HC2 := Lib.hid hc2
  have HER := Lib.hid he
  clear hf hc1 hc2 he
  have hu := Try.underlying60
  have S1 := Lib.hid (SpIn.new F A1 A2 c1 c2 8 0 g a c w h)
  have HB : Hid (Below w.heap.size w (((w.alloc (.cells #[.int .i64 F.cap, .slice A1 F.n1 c1, .slice A2 F.n2 c2] 34)).alloc (.cells #[.int .i64 8, .int .i64 0, .int .i64 g, .int .i64 a, .int .i64 c] 56)).alloc (.cells #[.int .i64 0, .slice none 0 0, .slice none 0 0, .int .i64 0, .int .i64 0] 60))) := Lib.hid ((((Below.refl w.heap.size w).alloc (Nat.le_refl _) _).alloc (by simp) _).alloc (by simp; omega) _)
  have HZ : Hid ((((w.alloc (.cells #[.int .i64 F.cap, .slice A1 F.n1 c1, .slice A2 F.n2 c2] 34)).alloc (.cells #[.int .i64 8, .int .i64 0, .int .i64 g, .int .i64 a, .int .i64 c] 56)).alloc (.cells #[.int .i64 0, .slice none 0 0, .slice none 0 0, .int .i64 0, .int .i64 0] 60)).heap.size = w.heap.size + 1 + 1 + 1) := Lib.hid (by simp)
  clear h
  go_enter Try.func27, Try.ntmps27
  go_upto_region 1 with fail
  generalize (((w.alloc (.cells #[.int .i64 F.cap, .slice A1 F.n1 c1, .slice A2 F.n2 c2] 34)).alloc (.cells #[.int .i64 8, .int .i64 0, .int .i64 g, .int .i64 a, .int .i64 c] 56)).alloc (.cells #[.int .i64 0, .slice none 0 0, .slice none 0 0, .int .i64 0, .int .i64 0] 60)) = w1 at *
  obtain ⟨b, hbb⟩ : ∃ b, w.heap.size = b := ⟨_, rfl⟩
  have HBB := Lib.hid hbb
  rw [hbb] at S1 HZ ⊢
  clear hbb
  obtain ⟨u0, u1, u2, v0, v1, v2, v3, v4⟩ := S1.out.cells
  have HFR := Lib.hid fun (w' : World) (hb : Below w1.heap.size w1 w') => HF.out ▸ s_FarmRight F.cap A1 A2 F.n1 c1 F.n2 c2 F.f1 F.f2 w' (S1.out.2.2.2.1.keep hb) HC1.out
  go_upto_region 4 with (first | (go_at_call 39; (with_reducible refine (HFR.out w1 (Below.refl _ _)).mono ?_); rintro e w2 ⟨rfl, hb2⟩; have S2 := Lib.hid (S1.out.keep hb2); obtain ⟨u02, u12, u22, v02, v12, v22, v32, v42⟩ := S2.out.cells; clear hb2) | (go_at_call 70; refine (s_EditRight _ _ _ _ _ _).mono ?_; rintro e w3 ⟨rfl, hb3⟩; rw [HER.out]; have S3 := Lib.hid (S2.out.keep hb3); obtain ⟨u03, u13, u23, v03, v13, v23, v33, v43⟩ := S3.out.cells; clear hb3) | (go_at_call 72; refine (s_l06Copy F.cap A1 A2 F.n1 c1 F.n2 c2 F.f1 F.f2 w3 S3.out.2.2.2.1 (by omega) (by omega)).mono ?_; rintro e w4 ⟨vg, vm, rfl, hO1, hO2, hb4⟩; obtain ⟨G1', d1, rfl, -, -⟩ := hO1.tab; obtain ⟨G2', d2, rfl, -, -⟩ := hO2.tab; have O1 := Lib.hid hO1; have O2 := Lib.hid hO2; have HBC := Lib.hid hb4; clear hO1 hO2 hb4) | fail)
  clear u0 u1 u2 v0 v1 v2 v3 v4 u02 u12 u22 v02 v12 v22 v32 v42 u03 u13 u23 v03 v13 v23 v33 v43
  have P1 := Lib.hid (O1.out.mono (B' := w1.heap.size) S3.out.2.2.2.2.size)
  have P2 := Lib.hid (O2.out.mono (B' := w1.heap.size) S3.out.2.2.2.2.size)
  clear O1 O2
  have S4 := Lib.hid (S3.out.keep HBC.out)
  have al5 := (Below.refl w4.heap.size w4).alloc (Nat.le_refl _) (.cells #[.int .i64 F.cap, .slice G1' F.n1 d1, .slice G2' F.n2 d2] 34)
  have K5 := Lib.hid (Blk.new (w := w4) (B := w4.heap.size) (Nat.le_refl _) #[.int .i64 F.cap, .slice G1' F.n1 d1, .slice G2' F.n2 d2] 34)
  have S5 := Lib.hid (S4.out.keep al5)
  have O1 := Lib.hid (P1.out.keep al5)
  have O2 := Lib.hid (P2.out.keep al5)
  have L5 := Lib.hid (show b + 1 + 1 < w4.heap.size from S4.out.2.2.1.lt)
  have L6 := Lib.hid (show w1.heap.size ≤ w4.heap.size from S4.out.2.2.2.2.size)
  have NX1 := Lib.hid (show ∀ k, (.slice G1' F.n1 d1 : Value).ownBlock = some k → k < w4.heap.size from fun k e => (World.ownsRow.lt P1.out k e).2)
  have NX2 := Lib.hid (show ∀ k, (.slice G2' F.n2 d2 : Value).ownBlock = some k → k < w4.heap.size from fun k e => (World.ownsRow.lt P2.out k e).2)
  clear al5 S4 P1 P2 HBC S3 S2
  generalize (w4.alloc (.cells #[.int .i64 F.cap, .slice G1' F.n1 d1, .slice G2' F.n2 d2] 34)) = w5 at *
  generalize hb5 : w4.heap.size = b5 at *
  clear hb5
  obtain ⟨u0, u1, u2, v0, v1, v2, v3, v4⟩ := S5.out.cells
  have x0 := (K5.out.cell 0).trans rfl
  have xf := K5.out.frozen 0
  go_upto_region 14 with fail
  clear u0 u1 u2 v0 v1 v2 v3 v4 x0 xf
  have K6 := Lib.hid ((K5.out.setc 0 (.int .i64 a)).cast (ds := #[.int .i64 a, .slice G1' F.n1 d1, .slice G2' F.n2 d2]) (by simp only [List.setIfInBounds_toArray, List.set_cons_zero, List.set_cons_succ]))
  have B6 := Lib.hid ((Below.refl b5 w5).setCell (p := ⟨b5, 0, none⟩) (Nat.le_refl _) (.int .i64 a))
  have Q1 := Lib.hid (O1.out.low B6.out NX1.out)
  have Q2 := Lib.hid (O2.out.low B6.out NX2.out)
  generalize w5.setCell ⟨b5, 0, none⟩ (.int .i64 a) = w6 at *
  have BE := Lib.hid (S5.out.2.2.2.2.trans (B6.out.mono L6.out))
  have SE := Lib.hid (S1.out.keep BE.out)
  obtain ⟨z0, z1, z2, z3, z4, y0, y1, y2, y3, y4⟩ := SE.out.out
  have k0 := (K6.out.cell 0).trans rfl
  have k1 := (K6.out.cell 1).trans rfl
  have k2 := (K6.out.cell 2).trans rfl
  have hne : b5 ≠ b + 1 + 1 := by have := L5.out; omega
  have FV := Lib.hid (show FarmV w6 w1.heap.size (edF F 8 0 g a c) (.slice G1' F.n1 d1) (.slice G2' F.n2 d2) from by rw [hed.out]; exact ⟨Q1.out, Q2.out⟩)
  go_wp2_with fail
  all_goals (have FV2 := FV.out; rw [hed.out] at FV2 ⊢; exact bodyPost_ret (results_cell_row rfl _ _ _ _ _ _ _ rfl (SE.out.give FV2 0).1 hu rfl (by kernel_rfl)) rfl ((SE.out.give FV2 0).2 (by have := HBB.out; omega) (by have := HBB.out; have := HZ.out; omega) (HB.out.trans (BE.out.mono (by have := HZ.out; have := HBB.out; omega)))))
set_option maxHeartbeats 8000000 in
theorem s_fe_cap_none (F : Fm) (A1 A2 : Option Addr) (c1 c2 : Nat) (id g a c : Int) (w : World) (h : FarmAt w A1 F.n1 F.f1 A2 F.n2 F.f2) (hc1 : F.n1 ≤ c1) (hc2 : F.n2 ≤ c2) (hf : fmB F = true) (he : edB 8 id g a c = true) (hn0 : id ≠ 0) (e0 : hasId F.n1 F.f1 id = false) :
    Calls Try.prog 27 #[.agg #[.int .i64 F.cap, .slice A1 F.n1 c1, .slice A2 F.n2 c2], .agg #[.int .i64 8, .int .i64 id, .int .i64 g, .int .i64 a, .int .i64 c]] w (OutV 4 fm0 w) := by
  have HE0 := Lib.hid e0
  clear e0
  have HN0 := Lib.hid hn0
  clear hn0
  have HF := Lib.hid (show farmB F.cap F.n1 F.f1 F.n2 F.f2 = true from hf)
  have HR := Lib.hid (Right.of hf)
  have hl1 := HR.out.l1
  have hl2 := HR.out.l2
  have HC1 := Lib.hid hc1
  have HC2 := Lib.hid hc2
  have HER := Lib.hid he
  clear hf hc1 hc2 he
  have hu := Try.underlying60
  have S1 := Lib.hid (SpIn.new F A1 A2 c1 c2 8 id g a c w h)
  have HB : Hid (Below w.heap.size w (((w.alloc (.cells #[.int .i64 F.cap, .slice A1 F.n1 c1, .slice A2 F.n2 c2] 34)).alloc (.cells #[.int .i64 8, .int .i64 id, .int .i64 g, .int .i64 a, .int .i64 c] 56)).alloc (.cells #[.int .i64 0, .slice none 0 0, .slice none 0 0, .int .i64 0, .int .i64 0] 60))) := Lib.hid ((((Below.refl w.heap.size w).alloc (Nat.le_refl _) _).alloc (by simp) _).alloc (by simp; omega) _)
  have HZ : Hid ((((w.alloc (.cells #[.int .i64 F.cap, .slice A1 F.n1 c1, .slice A2 F.n2 c2] 34)).alloc (.cells #[.int .i64 8, .int .i64 id, .int .i64 g, .int .i64 a, .int .i64 c] 56)).alloc (.cells #[.int .i64 0, .slice none 0 0, .slice none 0 0, .int .i64 0, .int .i64 0] 60)).heap.size = w.heap.size + 1 + 1 + 1) := Lib.hid (by simp)
  clear h
  go_enter Try.func27, Try.ntmps27
  go_upto_region 1 with fail
  generalize (((w.alloc (.cells #[.int .i64 F.cap, .slice A1 F.n1 c1, .slice A2 F.n2 c2] 34)).alloc (.cells #[.int .i64 8, .int .i64 id, .int .i64 g, .int .i64 a, .int .i64 c] 56)).alloc (.cells #[.int .i64 0, .slice none 0 0, .slice none 0 0, .int .i64 0, .int .i64 0] 60)) = w1 at *
  obtain ⟨b, hbb⟩ : ∃ b, w.heap.size = b := ⟨_, rfl⟩
  have HBB := Lib.hid hbb
  rw [hbb] at S1 HZ ⊢
  clear hbb
  obtain ⟨u0, u1, u2, v0, v1, v2, v3, v4⟩ := S1.out.cells
  have HFR := Lib.hid fun (w' : World) (hb : Below w1.heap.size w1 w') => HF.out ▸ s_FarmRight F.cap A1 A2 F.n1 c1 F.n2 c2 F.f1 F.f2 w' (S1.out.2.2.2.1.keep hb) HC1.out
  go_upto_region 4 with (first | (go_at_call 39; (with_reducible refine (HFR.out w1 (Below.refl _ _)).mono ?_); rintro e w2 ⟨rfl, hb2⟩; have S2 := Lib.hid (S1.out.keep hb2); obtain ⟨u02, u12, u22, v02, v12, v22, v32, v42⟩ := S2.out.cells; clear hb2) | (go_at_call 70; refine (s_EditRight _ _ _ _ _ _).mono ?_; rintro e w3 ⟨rfl, hb3⟩; rw [HER.out]; have S3 := Lib.hid (S2.out.keep hb3); obtain ⟨u03, u13, u23, v03, v13, v23, v33, v43⟩ := S3.out.cells; clear hb3) | (go_at_call 72; refine (s_l06Copy F.cap A1 A2 F.n1 c1 F.n2 c2 F.f1 F.f2 w3 S3.out.2.2.2.1 (by omega) (by omega)).mono ?_; rintro e w4 ⟨vg, vm, rfl, hO1, hO2, hb4⟩; obtain ⟨G1', d1, rfl, -, -⟩ := hO1.tab; obtain ⟨G2', d2, rfl, -, -⟩ := hO2.tab; have O1 := Lib.hid hO1; have O2 := Lib.hid hO2; have HBC := Lib.hid hb4; clear hO1 hO2 hb4) | fail)
  clear u0 u1 u2 v0 v1 v2 v3 v4 u02 u12 u22 v02 v12 v22 v32 v42 u03 u13 u23 v03 v13 v23 v33 v43
  have P1 := Lib.hid (O1.out.mono (B' := w1.heap.size) S3.out.2.2.2.2.size)
  have P2 := Lib.hid (O2.out.mono (B' := w1.heap.size) S3.out.2.2.2.2.size)
  clear O1 O2
  have S4 := Lib.hid (S3.out.keep HBC.out)
  have al5 := (Below.refl w4.heap.size w4).alloc (Nat.le_refl _) (.cells #[.int .i64 F.cap, .slice G1' F.n1 d1, .slice G2' F.n2 d2] 34)
  have K5 := Lib.hid (Blk.new (w := w4) (B := w4.heap.size) (Nat.le_refl _) #[.int .i64 F.cap, .slice G1' F.n1 d1, .slice G2' F.n2 d2] 34)
  have S5 := Lib.hid (S4.out.keep al5)
  have O1 := Lib.hid (P1.out.keep al5)
  have O2 := Lib.hid (P2.out.keep al5)
  have L5 := Lib.hid (show b + 1 + 1 < w4.heap.size from S4.out.2.2.1.lt)
  have L6 := Lib.hid (show w1.heap.size ≤ w4.heap.size from S4.out.2.2.2.2.size)
  have NX1 := Lib.hid (show ∀ k, (.slice G1' F.n1 d1 : Value).ownBlock = some k → k < w4.heap.size from fun k e => (World.ownsRow.lt P1.out k e).2)
  have NX2 := Lib.hid (show ∀ k, (.slice G2' F.n2 d2 : Value).ownBlock = some k → k < w4.heap.size from fun k e => (World.ownsRow.lt P2.out k e).2)
  clear al5 S4 P1 P2 HBC S3 S2
  generalize (w4.alloc (.cells #[.int .i64 F.cap, .slice G1' F.n1 d1, .slice G2' F.n2 d2] 34)) = w5 at *
  generalize hb5 : w4.heap.size = b5 at *
  clear hb5
  obtain ⟨u0, u1, u2, v0, v1, v2, v3, v4⟩ := S5.out.cells
  have bz : (id == 0) = false := beq_eq_false_iff_ne.2 HN0.out
  obtain ⟨x, hx⟩ : ∃ x, grpIdx F.f1 id 0 F.n1 = x := ⟨_, rfl⟩
  have Hx := Lib.hid hx
  have bx : decide (x < 0) = true := decide_eq_true (by have := grpIdx_no HE0.out; omega)
  clear hx
  go_wp2_with (first | (go_at_call 76; refine (s_l05Group F.cap A1 A2 F.n1 c1 F.n2 c2 F.f1 _ w5 S5.out.2.2.2.1.g (by omega)).mono ?_; rintro e w6 ⟨rfl, hb6⟩; rw [Hx.out]; have S6 := Lib.hid (S5.out.keep hb6); obtain ⟨u06, u16, u26, v06, v16, v26, v36, v46⟩ := S6.out.cells; clear hb6) | (go_at_call 71; refine (s_l06Wrong _ _).mono ?_; rintro e wq ⟨rfl, hbq⟩; have SQ := Lib.hid (S6.out.keep hbq); obtain ⟨z0, z1, z2, z3, z4, y0, y1, y2, y3, y4⟩ := SQ.out.out; clear hbq) | fail)
  exact bodyPost_ret (v := .agg #[.int .i64 0, .slice none 0 0, .slice none 0 0, .int .i64 0, .int .i64 4]) (results_cell_row rfl _ _ _ _ _ _ _ rfl (SQ.out.wrong _).1 hu rfl (by kernel_rfl)) rfl ((SQ.out.wrong 4).2 (by have := HBB.out; omega) (HB.out.trans (SQ.out.2.2.2.2.mono (by have := HZ.out; have := HBB.out; omega))))
set_option maxHeartbeats 8000000 in
theorem s_fe_cap_go (F : Fm) (A1 A2 : Option Addr) (c1 c2 : Nat) (id g a c : Int) (w : World) (h : FarmAt w A1 F.n1 F.f1 A2 F.n2 F.f2) (hc1 : F.n1 ≤ c1) (hc2 : F.n2 ≤ c2) (hf : fmB F = true) (he : edB 8 id g a c = true) (hn0 : id ≠ 0) (e0 : hasId F.n1 F.f1 id = true) :
    Calls Try.prog 27 #[.agg #[.int .i64 F.cap, .slice A1 F.n1 c1, .slice A2 F.n2 c2], .agg #[.int .i64 8, .int .i64 id, .int .i64 g, .int .i64 a, .int .i64 c]] w (OutV 0 (edF F 8 id g a c) w) := by
  have HE0 := Lib.hid e0
  clear e0
  have HN0 := Lib.hid hn0
  clear hn0
  have hed := Lib.hid (show edF F 8 id g a c = { F with f1 := setT (posT F.n1 F.f1 id) 2 a F.f1 } from if_neg HN0.out)
  have HF := Lib.hid (show farmB F.cap F.n1 F.f1 F.n2 F.f2 = true from hf)
  have HR := Lib.hid (Right.of hf)
  have hl1 := HR.out.l1
  have hl2 := HR.out.l2
  have HC1 := Lib.hid hc1
  have HC2 := Lib.hid hc2
  have HER := Lib.hid he
  clear hf hc1 hc2 he
  have hu := Try.underlying60
  have S1 := Lib.hid (SpIn.new F A1 A2 c1 c2 8 id g a c w h)
  have HB : Hid (Below w.heap.size w (((w.alloc (.cells #[.int .i64 F.cap, .slice A1 F.n1 c1, .slice A2 F.n2 c2] 34)).alloc (.cells #[.int .i64 8, .int .i64 id, .int .i64 g, .int .i64 a, .int .i64 c] 56)).alloc (.cells #[.int .i64 0, .slice none 0 0, .slice none 0 0, .int .i64 0, .int .i64 0] 60))) := Lib.hid ((((Below.refl w.heap.size w).alloc (Nat.le_refl _) _).alloc (by simp) _).alloc (by simp; omega) _)
  have HZ : Hid ((((w.alloc (.cells #[.int .i64 F.cap, .slice A1 F.n1 c1, .slice A2 F.n2 c2] 34)).alloc (.cells #[.int .i64 8, .int .i64 id, .int .i64 g, .int .i64 a, .int .i64 c] 56)).alloc (.cells #[.int .i64 0, .slice none 0 0, .slice none 0 0, .int .i64 0, .int .i64 0] 60)).heap.size = w.heap.size + 1 + 1 + 1) := Lib.hid (by simp)
  clear h
  go_enter Try.func27, Try.ntmps27
  go_upto_region 1 with fail
  generalize (((w.alloc (.cells #[.int .i64 F.cap, .slice A1 F.n1 c1, .slice A2 F.n2 c2] 34)).alloc (.cells #[.int .i64 8, .int .i64 id, .int .i64 g, .int .i64 a, .int .i64 c] 56)).alloc (.cells #[.int .i64 0, .slice none 0 0, .slice none 0 0, .int .i64 0, .int .i64 0] 60)) = w1 at *
  obtain ⟨b, hbb⟩ : ∃ b, w.heap.size = b := ⟨_, rfl⟩
  have HBB := Lib.hid hbb
  rw [hbb] at S1 HZ ⊢
  clear hbb
  obtain ⟨u0, u1, u2, v0, v1, v2, v3, v4⟩ := S1.out.cells
  have HFR := Lib.hid fun (w' : World) (hb : Below w1.heap.size w1 w') => HF.out ▸ s_FarmRight F.cap A1 A2 F.n1 c1 F.n2 c2 F.f1 F.f2 w' (S1.out.2.2.2.1.keep hb) HC1.out
  go_upto_region 4 with (first | (go_at_call 39; (with_reducible refine (HFR.out w1 (Below.refl _ _)).mono ?_); rintro e w2 ⟨rfl, hb2⟩; have S2 := Lib.hid (S1.out.keep hb2); obtain ⟨u02, u12, u22, v02, v12, v22, v32, v42⟩ := S2.out.cells; clear hb2) | (go_at_call 70; refine (s_EditRight _ _ _ _ _ _).mono ?_; rintro e w3 ⟨rfl, hb3⟩; rw [HER.out]; have S3 := Lib.hid (S2.out.keep hb3); obtain ⟨u03, u13, u23, v03, v13, v23, v33, v43⟩ := S3.out.cells; clear hb3) | (go_at_call 72; refine (s_l06Copy F.cap A1 A2 F.n1 c1 F.n2 c2 F.f1 F.f2 w3 S3.out.2.2.2.1 (by omega) (by omega)).mono ?_; rintro e w4 ⟨vg, vm, rfl, hO1, hO2, hb4⟩; obtain ⟨G1', d1, rfl, -, -⟩ := hO1.tab; obtain ⟨G2', d2, rfl, -, -⟩ := hO2.tab; have O1 := Lib.hid hO1; have O2 := Lib.hid hO2; have HBC := Lib.hid hb4; clear hO1 hO2 hb4) | fail)
  clear u0 u1 u2 v0 v1 v2 v3 v4 u02 u12 u22 v02 v12 v22 v32 v42 u03 u13 u23 v03 v13 v23 v33 v43
  have P1 := Lib.hid (O1.out.mono (B' := w1.heap.size) S3.out.2.2.2.2.size)
  have P2 := Lib.hid (O2.out.mono (B' := w1.heap.size) S3.out.2.2.2.2.size)
  clear O1 O2
  have S4 := Lib.hid (S3.out.keep HBC.out)
  have al5 := (Below.refl w4.heap.size w4).alloc (Nat.le_refl _) (.cells #[.int .i64 F.cap, .slice G1' F.n1 d1, .slice G2' F.n2 d2] 34)
  have K5 := Lib.hid (Blk.new (w := w4) (B := w4.heap.size) (Nat.le_refl _) #[.int .i64 F.cap, .slice G1' F.n1 d1, .slice G2' F.n2 d2] 34)
  have S5 := Lib.hid (S4.out.keep al5)
  have O1 := Lib.hid (P1.out.keep al5)
  have O2 := Lib.hid (P2.out.keep al5)
  have L5 := Lib.hid (show b + 1 + 1 < w4.heap.size from S4.out.2.2.1.lt)
  have L6 := Lib.hid (show w1.heap.size ≤ w4.heap.size from S4.out.2.2.2.2.size)
  have NX1 := Lib.hid (show ∀ k, (.slice G1' F.n1 d1 : Value).ownBlock = some k → k < w4.heap.size from fun k e => (World.ownsRow.lt P1.out k e).2)
  have NX2 := Lib.hid (show ∀ k, (.slice G2' F.n2 d2 : Value).ownBlock = some k → k < w4.heap.size from fun k e => (World.ownsRow.lt P2.out k e).2)
  clear al5 S4 P1 P2 HBC S3 S2
  generalize (w4.alloc (.cells #[.int .i64 F.cap, .slice G1' F.n1 d1, .slice G2' F.n2 d2] 34)) = w5 at *
  generalize hb5 : w4.heap.size = b5 at *
  clear hb5
  obtain ⟨u0, u1, u2, v0, v1, v2, v3, v4⟩ := S5.out.cells
  have bz : (id == 0) = false := beq_eq_false_iff_ne.2 HN0.out
  obtain ⟨x, hx⟩ : ∃ x, grpIdx F.f1 id 0 F.n1 = x := ⟨_, rfl⟩
  have hxp := hx.symm.trans (grpIdx_pos HR.out.r1 HE0.out)
  have hpn := (has_at HR.out.r1 HE0.out).1
  generalize posT F.n1 F.f1 id = pp at *
  subst hxp
  have Hx := Lib.hid hx
  clear hx
  have bx : decide ((pp : Int) < 0) = false := decide_eq_false (by omega)
  go_upto_region 18 with (first | (go_at_call 76; refine (s_l05Group F.cap A1 A2 F.n1 c1 F.n2 c2 F.f1 _ w5 S5.out.2.2.2.1.g (by omega)).mono ?_; rintro e w6 ⟨rfl, hb6⟩; have HB6 := Lib.hid hb6; rw [Hx.out]; have S6 := Lib.hid (S5.out.keep hb6); obtain ⟨u06, u16, u26, v06, v16, v26, v36, v46⟩ := S6.out.cells; clear hb6) | fail)
  clear u0 u1 u2 v0 v1 v2 v4 u06 u16 u26 v06 v16 v26 v46
  have BN := Lib.hid (show Below w5.heap.size w5 w6 from HB6.out)
  obtain ⟨h', _⟩ | ⟨gk, ck, cur, h', hgb, hgl, hgg, -⟩ := O1.out.form
  · simp only [Value.slice.injEq] at h'; omega
  simp only [Value.slice.injEq] at h'
  obtain ⟨rfl, -, rfl⟩ := h'
  have HNG := Lib.hid (show gk < b5 from NX1.out gk rfl)
  have NO := Lib.hid (show (.slice G2' F.n2 d2 : Value).ownBlock ≠ some gk from fun e => O1.out.ne O2.out (by decide) rfl e)
  have K7 := Lib.hid ((K5.out.keep BN.out).setf (p := ⟨gk, pp * 4 + 2, none⟩) (by have := HNG.out; simp; omega) (.int .i64 a))
  have T7 := Lib.hid ((O1.out.keep BN.out).setAt (j := 2) hpn (by decide) a)
  have U7 := Lib.hid ((O2.out.keep BN.out).setf (p := ⟨gk, pp * 4 + 2, none⟩) NO.out (.int .i64 a))
  have B7 := Lib.hid (show Below w1.heap.size w5 (w6.setCell ⟨gk, pp * 4 + 2, none⟩ (.int .i64 a)) from (BN.out.mono (by have := L6.out; have := K5.out.lt; omega)).setCell (p := ⟨gk, pp * 4 + 2, none⟩) hgb (.int .i64 a))
  have hp0 : (0 : Int) ≤ (pp : Int) := by omega
  have hp1 : (pp : Int) < (F.n1 : Int) := by omega
  have x1 := ((K5.out.keep BN.out).cell 1).trans rfl
  have x3 := (O1.out.keep BN.out).cell (i := pp) (j := 2) hpn (by decide)
  have f3 := ((show Blk w5 w1.heap.size gk cur 114 from ⟨hgb, hgg⟩).keep BN.out).frozen (pp * 4 + 2)
  clear hgg hgl hgb
  go_upto_region 19 with fail
  clear x1 x3 f3 hp0 hp1
  generalize (w6.setCell ⟨gk, pp * 4 + 2, none⟩ (.int .i64 a)) = w8 at *
  have BE := Lib.hid (S5.out.2.2.2.2.trans B7.out)
  have SE := Lib.hid (S1.out.keep BE.out)
  obtain ⟨z0, z1, z2, z3, z4, y0, y1, y2, y3, y4⟩ := SE.out.out
  have k0 := (K7.out.cell 0).trans rfl
  have k1 := (K7.out.cell 1).trans rfl
  have k2 := (K7.out.cell 2).trans rfl
  have hne : b5 ≠ b + 1 + 1 := by have := L5.out; omega
  have FV := Lib.hid (show FarmV w8 w1.heap.size (edF F 8 id g a c) (.slice (some ⟨gk, 0, none⟩) F.n1 d1) (.slice G2' F.n2 d2) from by rw [hed.out]; exact ⟨T7.out, U7.out⟩)
  go_wp2_with fail
  all_goals (have FV2 := FV.out; rw [hed.out] at FV2 ⊢; exact bodyPost_ret (results_cell_row rfl _ _ _ _ _ _ _ rfl (SE.out.give FV2 0).1 hu rfl (by kernel_rfl)) rfl ((SE.out.give FV2 0).2 (by have := HBB.out; omega) (by have := HBB.out; have := HZ.out; omega) (HB.out.trans (BE.out.mono (by have := HZ.out; have := HBB.out; omega)))))
set_option maxHeartbeats 8000000 in
theorem s_fe_leave_none (F : Fm) (A1 A2 : Option Addr) (c1 c2 : Nat) (id : Int) (w : World) (h : FarmAt w A1 F.n1 F.f1 A2 F.n2 F.f2) (hc1 : F.n1 ≤ c1) (hc2 : F.n2 ≤ c2) (hf : fmB F = true) (he : edB 2 id 0 0 0 = true) (e0 : hasId F.n2 F.f2 id = false) :
    Calls Try.prog 27 #[.agg #[.int .i64 F.cap, .slice A1 F.n1 c1, .slice A2 F.n2 c2], .agg #[.int .i64 2, .int .i64 id, .int .i64 0, .int .i64 0, .int .i64 0]] w (OutV 4 fm0 w) := by
  have HE0 := Lib.hid e0
  clear e0
  have HF := Lib.hid (show farmB F.cap F.n1 F.f1 F.n2 F.f2 = true from hf)
  have HR := Lib.hid (Right.of hf)
  have hl1 := HR.out.l1
  have hl2 := HR.out.l2
  have HC1 := Lib.hid hc1
  have HC2 := Lib.hid hc2
  have HER := Lib.hid he
  clear hf hc1 hc2 he
  have hu := Try.underlying60
  have S1 := Lib.hid (SpIn.new F A1 A2 c1 c2 2 id 0 0 0 w h)
  have HB : Hid (Below w.heap.size w (((w.alloc (.cells #[.int .i64 F.cap, .slice A1 F.n1 c1, .slice A2 F.n2 c2] 34)).alloc (.cells #[.int .i64 2, .int .i64 id, .int .i64 0, .int .i64 0, .int .i64 0] 56)).alloc (.cells #[.int .i64 0, .slice none 0 0, .slice none 0 0, .int .i64 0, .int .i64 0] 60))) := Lib.hid ((((Below.refl w.heap.size w).alloc (Nat.le_refl _) _).alloc (by simp) _).alloc (by simp; omega) _)
  have HZ : Hid ((((w.alloc (.cells #[.int .i64 F.cap, .slice A1 F.n1 c1, .slice A2 F.n2 c2] 34)).alloc (.cells #[.int .i64 2, .int .i64 id, .int .i64 0, .int .i64 0, .int .i64 0] 56)).alloc (.cells #[.int .i64 0, .slice none 0 0, .slice none 0 0, .int .i64 0, .int .i64 0] 60)).heap.size = w.heap.size + 1 + 1 + 1) := Lib.hid (by simp)
  clear h
  go_enter Try.func27, Try.ntmps27
  go_upto_region 1 with fail
  generalize (((w.alloc (.cells #[.int .i64 F.cap, .slice A1 F.n1 c1, .slice A2 F.n2 c2] 34)).alloc (.cells #[.int .i64 2, .int .i64 id, .int .i64 0, .int .i64 0, .int .i64 0] 56)).alloc (.cells #[.int .i64 0, .slice none 0 0, .slice none 0 0, .int .i64 0, .int .i64 0] 60)) = w1 at *
  obtain ⟨b, hbb⟩ : ∃ b, w.heap.size = b := ⟨_, rfl⟩
  have HBB := Lib.hid hbb
  rw [hbb] at S1 HZ ⊢
  clear hbb
  obtain ⟨u0, u1, u2, v0, v1, v2, v3, v4⟩ := S1.out.cells
  have HFR := Lib.hid fun (w' : World) (hb : Below w1.heap.size w1 w') => HF.out ▸ s_FarmRight F.cap A1 A2 F.n1 c1 F.n2 c2 F.f1 F.f2 w' (S1.out.2.2.2.1.keep hb) HC1.out
  go_upto_region 4 with (first | (go_at_call 39; (with_reducible refine (HFR.out w1 (Below.refl _ _)).mono ?_); rintro e w2 ⟨rfl, hb2⟩; have S2 := Lib.hid (S1.out.keep hb2); obtain ⟨u02, u12, u22, v02, v12, v22, v32, v42⟩ := S2.out.cells; clear hb2) | (go_at_call 70; refine (s_EditRight _ _ _ _ _ _).mono ?_; rintro e w3 ⟨rfl, hb3⟩; rw [HER.out]; have S3 := Lib.hid (S2.out.keep hb3); obtain ⟨u03, u13, u23, v03, v13, v23, v33, v43⟩ := S3.out.cells; clear hb3) | (go_at_call 72; refine (s_l06Copy F.cap A1 A2 F.n1 c1 F.n2 c2 F.f1 F.f2 w3 S3.out.2.2.2.1 (by omega) (by omega)).mono ?_; rintro e w4 ⟨vg, vm, rfl, hO1, hO2, hb4⟩; obtain ⟨G1', d1, rfl, -, -⟩ := hO1.tab; obtain ⟨G2', d2, rfl, -, -⟩ := hO2.tab; have O1 := Lib.hid hO1; have O2 := Lib.hid hO2; have HBC := Lib.hid hb4; clear hO1 hO2 hb4) | fail)
  clear u0 u1 u2 v0 v1 v2 v3 v4 u02 u12 u22 v02 v12 v22 v32 v42 u03 u13 u23 v03 v13 v23 v33 v43
  have P1 := Lib.hid (O1.out.mono (B' := w1.heap.size) S3.out.2.2.2.2.size)
  have P2 := Lib.hid (O2.out.mono (B' := w1.heap.size) S3.out.2.2.2.2.size)
  clear O1 O2
  have S4 := Lib.hid (S3.out.keep HBC.out)
  have al5 := (Below.refl w4.heap.size w4).alloc (Nat.le_refl _) (.cells #[.int .i64 F.cap, .slice G1' F.n1 d1, .slice G2' F.n2 d2] 34)
  have K5 := Lib.hid (Blk.new (w := w4) (B := w4.heap.size) (Nat.le_refl _) #[.int .i64 F.cap, .slice G1' F.n1 d1, .slice G2' F.n2 d2] 34)
  have S5 := Lib.hid (S4.out.keep al5)
  have O1 := Lib.hid (P1.out.keep al5)
  have O2 := Lib.hid (P2.out.keep al5)
  have L5 := Lib.hid (show b + 1 + 1 < w4.heap.size from S4.out.2.2.1.lt)
  have L6 := Lib.hid (show w1.heap.size ≤ w4.heap.size from S4.out.2.2.2.2.size)
  have NX1 := Lib.hid (show ∀ k, (.slice G1' F.n1 d1 : Value).ownBlock = some k → k < w4.heap.size from fun k e => (World.ownsRow.lt P1.out k e).2)
  have NX2 := Lib.hid (show ∀ k, (.slice G2' F.n2 d2 : Value).ownBlock = some k → k < w4.heap.size from fun k e => (World.ownsRow.lt P2.out k e).2)
  clear al5 S4 P1 P2 HBC S3 S2
  generalize (w4.alloc (.cells #[.int .i64 F.cap, .slice G1' F.n1 d1, .slice G2' F.n2 d2] 34)) = w5 at *
  generalize hb5 : w4.heap.size = b5 at *
  clear hb5
  obtain ⟨u0, u1, u2, v0, v1, v2, v3, v4⟩ := S5.out.cells
  obtain ⟨x, hx⟩ : ∃ x, grpIdx F.f2 id 0 F.n2 = x := ⟨_, rfl⟩
  have Hx := Lib.hid hx
  have bx : decide (x < 0) = true := decide_eq_true (by have := grpIdx_no HE0.out; omega)
  clear hx
  go_wp2_with (first | (go_at_call 77; refine (s_l05Member F.cap A1 A2 F.n1 c1 F.n2 c2 F.f2 _ w5 S5.out.2.2.2.1.m (by omega)).mono ?_; rintro e w6 ⟨rfl, hb6⟩; rw [Hx.out]; have S6 := Lib.hid (S5.out.keep hb6); obtain ⟨u06, u16, u26, v06, v16, v26, v36, v46⟩ := S6.out.cells; clear hb6) | (go_at_call 71; refine (s_l06Wrong _ _).mono ?_; rintro e wq ⟨rfl, hbq⟩; have SQ := Lib.hid (S6.out.keep hbq); obtain ⟨z0, z1, z2, z3, z4, y0, y1, y2, y3, y4⟩ := SQ.out.out; clear hbq) | fail)
  exact bodyPost_ret (v := .agg #[.int .i64 0, .slice none 0 0, .slice none 0 0, .int .i64 0, .int .i64 4]) (results_cell_row rfl _ _ _ _ _ _ _ rfl (SQ.out.wrong _).1 hu rfl (by kernel_rfl)) rfl ((SQ.out.wrong 4).2 (by have := HBB.out; omega) (HB.out.trans (SQ.out.2.2.2.2.mono (by have := HZ.out; have := HBB.out; omega))))
set_option maxHeartbeats 8000000 in
theorem s_fe_leave_go (F : Fm) (A1 A2 : Option Addr) (c1 c2 : Nat) (id : Int) (w : World) (h : FarmAt w A1 F.n1 F.f1 A2 F.n2 F.f2) (hc1 : F.n1 ≤ c1) (hc2 : F.n2 ≤ c2) (hf : fmB F = true) (he : edB 2 id 0 0 0 = true) (e0 : hasId F.n2 F.f2 id = true) :
    Calls Try.prog 27 #[.agg #[.int .i64 F.cap, .slice A1 F.n1 c1, .slice A2 F.n2 c2], .agg #[.int .i64 2, .int .i64 id, .int .i64 0, .int .i64 0, .int .i64 0]] w (OutV 0 (edF F 2 id 0 0 0) w) := by
  have HE0 := Lib.hid e0
  clear e0
  have hed := Lib.hid (show edF F 2 id 0 0 0 = { F with n2 := F.n2 - 1, f2 := delT (posT F.n2 F.f2 id) F.f2 } from rfl)
  have HF := Lib.hid (show farmB F.cap F.n1 F.f1 F.n2 F.f2 = true from hf)
  have HR := Lib.hid (Right.of hf)
  have hl1 := HR.out.l1
  have hl2 := HR.out.l2
  have HC1 := Lib.hid hc1
  have HC2 := Lib.hid hc2
  have HER := Lib.hid he
  clear hf hc1 hc2 he
  have hu := Try.underlying60
  have S1 := Lib.hid (SpIn.new F A1 A2 c1 c2 2 id 0 0 0 w h)
  have HB : Hid (Below w.heap.size w (((w.alloc (.cells #[.int .i64 F.cap, .slice A1 F.n1 c1, .slice A2 F.n2 c2] 34)).alloc (.cells #[.int .i64 2, .int .i64 id, .int .i64 0, .int .i64 0, .int .i64 0] 56)).alloc (.cells #[.int .i64 0, .slice none 0 0, .slice none 0 0, .int .i64 0, .int .i64 0] 60))) := Lib.hid ((((Below.refl w.heap.size w).alloc (Nat.le_refl _) _).alloc (by simp) _).alloc (by simp; omega) _)
  have HZ : Hid ((((w.alloc (.cells #[.int .i64 F.cap, .slice A1 F.n1 c1, .slice A2 F.n2 c2] 34)).alloc (.cells #[.int .i64 2, .int .i64 id, .int .i64 0, .int .i64 0, .int .i64 0] 56)).alloc (.cells #[.int .i64 0, .slice none 0 0, .slice none 0 0, .int .i64 0, .int .i64 0] 60)).heap.size = w.heap.size + 1 + 1 + 1) := Lib.hid (by simp)
  clear h
  go_enter Try.func27, Try.ntmps27
  go_upto_region 1 with fail
  generalize (((w.alloc (.cells #[.int .i64 F.cap, .slice A1 F.n1 c1, .slice A2 F.n2 c2] 34)).alloc (.cells #[.int .i64 2, .int .i64 id, .int .i64 0, .int .i64 0, .int .i64 0] 56)).alloc (.cells #[.int .i64 0, .slice none 0 0, .slice none 0 0, .int .i64 0, .int .i64 0] 60)) = w1 at *
  obtain ⟨b, hbb⟩ : ∃ b, w.heap.size = b := ⟨_, rfl⟩
  have HBB := Lib.hid hbb
  rw [hbb] at S1 HZ ⊢
  clear hbb
  obtain ⟨u0, u1, u2, v0, v1, v2, v3, v4⟩ := S1.out.cells
  have HFR := Lib.hid fun (w' : World) (hb : Below w1.heap.size w1 w') => HF.out ▸ s_FarmRight F.cap A1 A2 F.n1 c1 F.n2 c2 F.f1 F.f2 w' (S1.out.2.2.2.1.keep hb) HC1.out
  go_upto_region 4 with (first | (go_at_call 39; (with_reducible refine (HFR.out w1 (Below.refl _ _)).mono ?_); rintro e w2 ⟨rfl, hb2⟩; have S2 := Lib.hid (S1.out.keep hb2); obtain ⟨u02, u12, u22, v02, v12, v22, v32, v42⟩ := S2.out.cells; clear hb2) | (go_at_call 70; refine (s_EditRight _ _ _ _ _ _).mono ?_; rintro e w3 ⟨rfl, hb3⟩; rw [HER.out]; have S3 := Lib.hid (S2.out.keep hb3); obtain ⟨u03, u13, u23, v03, v13, v23, v33, v43⟩ := S3.out.cells; clear hb3) | (go_at_call 72; refine (s_l06Copy F.cap A1 A2 F.n1 c1 F.n2 c2 F.f1 F.f2 w3 S3.out.2.2.2.1 (by omega) (by omega)).mono ?_; rintro e w4 ⟨vg, vm, rfl, hO1, hO2, hb4⟩; obtain ⟨G1', d1, rfl, -, -⟩ := hO1.tab; obtain ⟨G2', d2, rfl, -, -⟩ := hO2.tab; have O1 := Lib.hid hO1; have O2 := Lib.hid hO2; have HBC := Lib.hid hb4; clear hO1 hO2 hb4) | fail)
  clear u0 u1 u2 v0 v1 v2 v3 v4 u02 u12 u22 v02 v12 v22 v32 v42 u03 u13 u23 v03 v13 v23 v33 v43
  have P1 := Lib.hid (O1.out.mono (B' := w1.heap.size) S3.out.2.2.2.2.size)
  have P2 := Lib.hid (O2.out.mono (B' := w1.heap.size) S3.out.2.2.2.2.size)
  clear O1 O2
  have S4 := Lib.hid (S3.out.keep HBC.out)
  have al5 := (Below.refl w4.heap.size w4).alloc (Nat.le_refl _) (.cells #[.int .i64 F.cap, .slice G1' F.n1 d1, .slice G2' F.n2 d2] 34)
  have K5 := Lib.hid (Blk.new (w := w4) (B := w4.heap.size) (Nat.le_refl _) #[.int .i64 F.cap, .slice G1' F.n1 d1, .slice G2' F.n2 d2] 34)
  have S5 := Lib.hid (S4.out.keep al5)
  have O1 := Lib.hid (P1.out.keep al5)
  have O2 := Lib.hid (P2.out.keep al5)
  have L5 := Lib.hid (show b + 1 + 1 < w4.heap.size from S4.out.2.2.1.lt)
  have L6 := Lib.hid (show w1.heap.size ≤ w4.heap.size from S4.out.2.2.2.2.size)
  have NX1 := Lib.hid (show ∀ k, (.slice G1' F.n1 d1 : Value).ownBlock = some k → k < w4.heap.size from fun k e => (World.ownsRow.lt P1.out k e).2)
  have NX2 := Lib.hid (show ∀ k, (.slice G2' F.n2 d2 : Value).ownBlock = some k → k < w4.heap.size from fun k e => (World.ownsRow.lt P2.out k e).2)
  clear al5 S4 P1 P2 HBC S3 S2
  generalize (w4.alloc (.cells #[.int .i64 F.cap, .slice G1' F.n1 d1, .slice G2' F.n2 d2] 34)) = w5 at *
  generalize hb5 : w4.heap.size = b5 at *
  clear hb5
  obtain ⟨u0, u1, u2, v0, v1, v2, v3, v4⟩ := S5.out.cells
  obtain ⟨x, hx⟩ : ∃ x, grpIdx F.f2 id 0 F.n2 = x := ⟨_, rfl⟩
  have hxp := hx.symm.trans (grpIdx_pos HR.out.r2 HE0.out)
  have hpn := (has_at HR.out.r2 HE0.out).1
  generalize posT F.n2 F.f2 id = pp at *
  subst hxp
  have Hx := Lib.hid hx
  clear hx
  have bx : decide ((pp : Int) < 0) = false := decide_eq_false (by omega)
  go_upto_region 26 with (first | (go_at_call 77; refine (s_l05Member F.cap A1 A2 F.n1 c1 F.n2 c2 F.f2 _ w5 S5.out.2.2.2.1.m (by omega)).mono ?_; rintro e w6 ⟨rfl, hb6⟩; have HB6 := Lib.hid hb6; rw [Hx.out]; have S6 := Lib.hid (S5.out.keep hb6); obtain ⟨u06, u16, u26, v06, v16, v26, v36, v46⟩ := S6.out.cells; clear hb6) | fail)
  clear u0 u1 u2 v0 v1 v2 v3 v4 u06 u16 u26 v06 v16 v26 v36 v46
  have K6 := Lib.hid (K5.out.keep HB6.out)
  have hcc := HC2.out
  obtain ⟨gt, off, eA, -, -⟩ := S6.out.2.2.2.1.m.at (by omega)
  subst eA
  have HS := Lib.hid (show ∀ w' : World, Blk w' b5 b5 #[.int .i64 F.cap, (.slice G1' F.n1 d1), (.slice G2' F.n2 d2)] 34 → SpIn b w1 F A1 (some ⟨gt, off, none⟩) c1 c2 2 id 0 0 0 w' → (w'.cell? ⟨b, 2, none⟩ = some (.slice (some ⟨gt, off, none⟩) F.n2 c2) ∧ w'.cell? ⟨b5, 2, none⟩ = some (.slice G2' F.n2 d2) ∧ w'.frozen? ⟨b5, 2, none⟩ = false) from fun w' h1 h2 => ⟨(h2.1.cell 2).trans rfl, (h1.cell 2).trans rfl, h1.frozen 2⟩)
  have al := (Below.refl w6.heap.size w6).drew.alloc (Nat.le_refl _) (.cells #[] 91)
  have KA := Lib.hid (K6.out.keep al)
  have SA := Lib.hid (S6.out.keep al)
  have S0 : Hid ((fun w' => w'.cell? ⟨b, 2, none⟩ = some (.slice (some ⟨gt, off, none⟩) F.n2 c2) ∧ w'.cell? ⟨b5, 2, none⟩ = some (.slice G2' F.n2 d2) ∧ w'.frozen? ⟨b5, 2, none⟩ = false) w6.drew) := Lib.hid (HS.out _ K6.out.drew (S6.out.keep (Below.refl _ _).drew))
  have S3 : Hid ((fun w' => w'.cell? ⟨b, 2, none⟩ = some (.slice (some ⟨gt, off, none⟩) F.n2 c2) ∧ w'.cell? ⟨b5, 2, none⟩ = some (.slice G2' F.n2 d2) ∧ w'.frozen? ⟨b5, 2, none⟩ = false) (w6.drew.alloc (.cells #[] 91))) := Lib.hid (HS.out _ KA.out SA.out)
  have hbo : b5 < w6.heap.size := K6.out.lt
  have HBO := Lib.hid hbo
  have hp0 : (0 : Int) ≤ (pp : Int) := by omega
  have hp1 : (pp : Int) ≤ (c2 : Int) := by omega
  have hp2 : IntKind.i64.wrap ((pp : Int) + 1) = (pp : Int) + 1 := by rw [IntKind.wrap_i64]; omega
  have hp3 : (0 : Int) ≤ (pp : Int) + 1 := by omega
  have hp4 : (pp : Int) + 1 ≤ (F.n2 : Int) := by omega
  have hp5 : (F.n2 : Int) ≤ (c2 : Int) := by omega
  have hp6 : ((pp : Int) + 1).toNat = pp + 1 := by omega
  have PT := Lib.hid (fun (w' : World) (h : SpIn b w1 F A1 (some ⟨gt, off, none⟩) c1 c2 2 id 0 0 0 w') => Tab.part (c := 0) h.2.2.2.1.m (show pp < F.n2 by omega))
  clear al
  refine wp_region_fin (fun w' => w'.cell? ⟨b, 2, none⟩ = some (.slice (some ⟨gt, off, none⟩) F.n2 c2) ∧ w'.cell? ⟨b5, 2, none⟩ = some (.slice G2' F.n2 d2) ∧ w'.frozen? ⟨b5, 2, none⟩ = false) 13 (by kernel_rfl) S0.out (fun hHeld => ?_)
  refine wpFin_take (i := 1) (v := ?_) (by kernel_rfl) rfl (by decide) (by kernel_rfl) (by kernel_rfl) (by kernel_rfl) (fun _ _ _ h => h) (Or.inl ⟨by rfl, ?_⟩) (by assumption) ?_
  rotate_left 1
  · (intro w hSw; (try dsimp only at hSw); go_simp; first | done | with_reducible rfl)
  try simp only [Act.put, List.setIfInBounds_toArray, List.set_cons_zero, List.set_cons_succ]
  refine wpFin_take (i := 2) (v := ?_) (by kernel_rfl) rfl (by decide) (by kernel_rfl) (by kernel_rfl) (by kernel_rfl) (fun _ _ _ h => h) (Or.inl ⟨by rfl, ?_⟩) (by assumption) ?_
  rotate_left 1
  · (intro w hSw; (try dsimp only at hSw); go_simp; first | done | with_reducible rfl)
  try simp only [Act.put, List.setIfInBounds_toArray, List.set_cons_zero, List.set_cons_succ]
  refine wpFin_take (i := 3) (v := ?_) (by kernel_rfl) rfl (by decide) (by kernel_rfl) (by kernel_rfl) (by kernel_rfl) (fun _ _ _ h => h) (Or.inl ⟨by rfl, ?_⟩) (by assumption) ?_
  rotate_left 1
  · (intro w hSw; (try dsimp only at hSw); go_simp; first | done | with_reducible rfl)
  try simp only [Act.put, List.setIfInBounds_toArray, List.set_cons_zero, List.set_cons_succ]
  refine wpFin_take (i := 4) (v := ?_) (by kernel_rfl) rfl (by decide) (by kernel_rfl) (by kernel_rfl) (by kernel_rfl) (fun _ _ _ h => h) (Or.inl ⟨by rfl, ?_⟩) (by assumption) ?_
  rotate_left 1
  · (intro w hSw; (try dsimp only at hSw); go_simp; first | done | with_reducible rfl)
  try simp only [Act.put, List.setIfInBounds_toArray, List.set_cons_zero, List.set_cons_succ]
  refine wpFin_take (i := 6) (v := ?_) (by kernel_rfl) rfl (by decide) (by kernel_rfl) (by kernel_rfl) (by kernel_rfl) (fun _ _ _ h => h) (Or.inl ⟨by rfl, ?_⟩) (by assumption) ?_
  rotate_left 1
  · (intro w hSw; (try dsimp only at hSw); go_simp; first | done | with_reducible rfl)
  try simp only [Act.put, List.setIfInBounds_toArray, List.set_cons_zero, List.set_cons_succ]
  refine wpFin_take (i := 7) (v := ?_) (by kernel_rfl) rfl (by decide) (by kernel_rfl) (by kernel_rfl) (by kernel_rfl) (fun _ _ _ h => h) (Or.inl ⟨by rfl, ?_⟩) (by assumption) ?_
  rotate_left 1
  · (intro w hSw; (try dsimp only at hSw); go_simp; first | done | with_reducible rfl)
  try simp only [Act.put, List.setIfInBounds_toArray, List.set_cons_zero, List.set_cons_succ]
  refine wpFin_take (i := 8) (v := ?_) (by kernel_rfl) rfl (by decide) (by kernel_rfl) (by kernel_rfl) (by kernel_rfl) (fun _ _ _ h => h) (Or.inl ⟨by rfl, ?_⟩) (by assumption) ?_
  rotate_left 1
  · (intro w hSw; (try dsimp only at hSw); go_simp; first | done | with_reducible rfl)
  try simp only [Act.put, List.setIfInBounds_toArray, List.set_cons_zero, List.set_cons_succ]
  refine wpFin_take (i := 9) (v := ?_) (by kernel_rfl) rfl (by decide) (by kernel_rfl) (by kernel_rfl) (by kernel_rfl) (fun _ _ _ h => h) (Or.inl ⟨by rfl, ?_⟩) (by assumption) ?_
  rotate_left 1
  · (intro w hSw; (try dsimp only at hSw); go_simp; first | done | with_reducible rfl)
  try simp only [Act.put, List.setIfInBounds_toArray, List.set_cons_zero, List.set_cons_succ]
  refine wpFin_take (i := 10) (v := ?_) (by kernel_rfl) rfl (by decide) (by kernel_rfl) (by kernel_rfl) (by kernel_rfl) (fun _ _ _ h => h) (Or.inl ⟨by rfl, ?_⟩) (by assumption) ?_
  rotate_left 1
  · (intro w hSw; (try dsimp only at hSw); go_simp; first | done | with_reducible rfl)
  try simp only [Act.put, List.setIfInBounds_toArray, List.set_cons_zero, List.set_cons_succ]
  refine wpFin_one (i := 0) (by kernel_rfl) rfl (fun K hK => ?_)
  go_simp
  refine hK.out _ _ (fun _ => S3.out) (fun hS => ?_)
  have hHeld := hS (by decide)
  clear hK K hS
  try simp only [Act.put, List.setIfInBounds_toArray, List.set_cons_zero, List.set_cons_succ]
  clear hp2 hp6
  refine wpFin_one (i := 5) (by kernel_rfl) rfl (fun K hK => ?_)
  refine step_append0 ttM rfl (.tmp 92) (.tmp 96) rfl _ rfl (heap_alloc_new _ _) _ pp F.f2 _ rfl (PT.out _ SA.out).1 (by omega) (b5 + 1) (by have := HBO.out; simp; omega) ?_
  intro v' w3 hO hb3
  obtain ⟨A7, c7, rfl, -, -⟩ := OwnT.tab hO
  have O3 := Lib.hid hO
  have K3 := Lib.hid (KA.out.keep hb3)
  have SP3 := Lib.hid (SA.out.keep hb3)
  have B3 := Lib.hid (show Below w6.heap.size w6 w3 from ((Below.refl _ _).drew.alloc (Nat.le_refl _) _).trans (hb3.mono (by simp)))
  have S4 : Hid ((fun w' => w'.cell? ⟨b, 2, none⟩ = some (.slice (some ⟨gt, off, none⟩) F.n2 c2) ∧ w'.cell? ⟨b5, 2, none⟩ = some (.slice G2' F.n2 d2) ∧ w'.frozen? ⟨b5, 2, none⟩ = false) w3) := Lib.hid (HS.out _ K3.out SP3.out)
  clear hO hb3
  refine hK.out _ _ (fun _ => S4.out) (fun hS => ?_)
  have hHeld := hS (by decide)
  clear hK K hS
  try simp only [Act.put, List.setIfInBounds_toArray, List.set_cons_zero, List.set_cons_succ]
  refine wpFin_one (i := 11) (by kernel_rfl) rfl (fun K hK => ?_)
  refine step_append_t ttM rfl (.tmp 97) (.tmp 102) rfl (b5 + 1) _ pp F.f2 rfl O3.out _ (F.n2 - (pp + 1)) (fun p j => F.f2 (pp + 1 + p) j) _ (by rfl) (by (by_cases hq : c2 = pp + 1; exact (by rw [if_pos hq, show F.n2 - (pp + 1) = 0 by omega]; exact (PT.out _ SP3.out).2.2 _); exact (by rw [if_neg hq]; exact (PT.out _ SP3.out).2.1))) (by omega) (by have := HBO.out; have := B3.out.size; omega) ?_
  intro v' w4 hO hgr
  obtain ⟨Aw, cw, rfl, -, -⟩ := OwnT.tab hO
  have O4 := Lib.hid (show OwnT 91 w4 (b5 + 1) (.slice Aw (pp + (F.n2 - (pp + 1))) cw) (F.n2 - 1) (delT pp F.f2) from by have h := hO; rw [show pp + (F.n2 - (pp + 1)) = F.n2 - 1 by omega] at h ⊢; exact h.congr fun i j hi hj => app_del (show pp < F.n2 by omega) F.f2 i j hi hj)
  have NF := Lib.hid (O3.out.neBlk K3.out (by decide))
  have K4 := Lib.hid (K3.out.grownO hgr NF.out)
  have B4 := Lib.hid (show Below (b5 + 1) w6 w4 from (B3.out.mono hbo).grown hgr (by have := B3.out.size; omega) (fun k hk => (World.ownsRow.lt O3.out k hk).1))
  have sc := (K4.out.cell 2).trans rfl
  have sf := K4.out.frozen 2
  clear hO hgr
  have S5 : Hid ((fun w' => w'.cell? ⟨b, 2, none⟩ = some (.slice (some ⟨gt, off, none⟩) F.n2 c2) ∧ w'.cell? ⟨b5, 2, none⟩ = some (.slice G2' F.n2 d2) ∧ w'.frozen? ⟨b5, 2, none⟩ = false) w4) := Lib.hid ⟨by have := B4.out.cell (p := ⟨b, 2, none⟩) (by have := L5.out; show b < b5 + 1; omega); exact this.trans ((S6.out.1.cell 2).trans rfl), sc, sf⟩
  refine hK.out _ _ (fun _ => S5.out) (fun hS => ?_)
  have hHeld := hS (by decide)
  clear hK K hS
  try simp only [Act.put, List.setIfInBounds_toArray, List.set_cons_zero, List.set_cons_succ]
  refine wpFin_take (i := 12) (v := ?_) (by kernel_rfl) rfl (by decide) (by kernel_rfl) (by kernel_rfl) (by kernel_rfl) (fun _ _ _ h => h) (Or.inl ⟨by rfl, ?_⟩) (by assumption) ?_
  rotate_left 1
  · (intro w hSw; (try dsimp only at hSw); go_simp; first | done | with_reducible rfl)
  try simp only [Act.put, List.setIfInBounds_toArray, List.set_cons_zero, List.set_cons_succ]
  refine wpFin_one (i := 13) (by kernel_rfl) rfl (fun K hK => ?_)
  go_simp
  refine hK.out _ _ (fun h => absurd rfl h) (fun hS => ?_)
  clear hK K hS
  try simp only [Act.put, List.setIfInBounds_toArray, List.set_cons_zero, List.set_cons_succ]
  refine wpFin_done (by kernel_rfl) ?_ _
  have F9 := Lib.hid ((K4.out.setc 2 (.slice Aw (pp + (F.n2 - (pp + 1))) cw)).cast (ds := #[.int .i64 F.cap, (.slice G1' F.n1 d1), (.slice Aw (pp + (F.n2 - (pp + 1))) cw)]) (by simp only [List.setIfInBounds_toArray, List.set_cons_zero, List.set_cons_succ]))
  have O9 := Lib.hid (O4.out.setf (p := ⟨b5, 2, none⟩) (O4.out.neBlk K4.out (by decide)) (.slice Aw (pp + (F.n2 - (pp + 1))) cw))
  have B9 := Lib.hid (show Below b5 w6 (w4.setCell ⟨b5, 2, none⟩ (.slice Aw (pp + (F.n2 - (pp + 1))) cw)) from (B4.out.mono (Nat.le_succ _)).setCell (p := ⟨b5, 2, none⟩) (Nat.le_refl _) (.slice Aw (pp + (F.n2 - (pp + 1))) cw))
  clear S0 S3 S4 S5 sc sf hHeld
  have Q1 := Lib.hid ((O1.out.keep HB6.out).low B9.out NX1.out)
  skip
  have BE := Lib.hid (S5.out.2.2.2.2.trans ((HB6.out.mono (Nat.le_trans L6.out (Nat.le_of_lt K5.out.lt))).trans (B9.out.mono L6.out)))
  have SE := Lib.hid (S1.out.keep BE.out)
  obtain ⟨z0, z1, z2, z3, z4, y0, y1, y2, y3, y4⟩ := SE.out.out
  have k0 := (F9.out.cell 0).trans rfl
  have k1 := (F9.out.cell 1).trans rfl
  have k2 := (F9.out.cell 2).trans rfl
  have hne : b5 ≠ b + 1 + 1 := by have := L5.out; omega
  have FV := Lib.hid (show FarmV (w4.setCell ⟨b5, 2, none⟩ (.slice Aw (pp + (F.n2 - (pp + 1))) cw)) w1.heap.size (edF F 2 id 0 0 0) (.slice G1' F.n1 d1) (.slice Aw (pp + (F.n2 - (pp + 1))) cw) from by rw [hed.out]; exact ⟨Q1.out, O9.out.mono (by have := L6.out; omega)⟩)
  go_wp2_with fail
  all_goals (have FV2 := FV.out; rw [hed.out] at FV2 ⊢; exact bodyPost_ret (results_cell_row rfl _ _ _ _ _ _ _ rfl (SE.out.give FV2 0).1 hu rfl (by kernel_rfl)) rfl ((SE.out.give FV2 0).2 (by have := HBB.out; omega) (by have := HBB.out; have := HZ.out; omega) (HB.out.trans (BE.out.mono (by have := HZ.out; have := HBB.out; omega)))))
set_option maxHeartbeats 8000000 in
theorem s_fe_want_none (F : Fm) (A1 A2 : Option Addr) (c1 c2 : Nat) (id a : Int) (w : World) (h : FarmAt w A1 F.n1 F.f1 A2 F.n2 F.f2) (hc1 : F.n1 ≤ c1) (hc2 : F.n2 ≤ c2) (hf : fmB F = true) (he : edB 3 id 0 a 0 = true) (e0 : hasId F.n2 F.f2 id = false) :
    Calls Try.prog 27 #[.agg #[.int .i64 F.cap, .slice A1 F.n1 c1, .slice A2 F.n2 c2], .agg #[.int .i64 3, .int .i64 id, .int .i64 0, .int .i64 a, .int .i64 0]] w (OutV 4 fm0 w) := by
  have HE0 := Lib.hid e0
  clear e0
  have HF := Lib.hid (show farmB F.cap F.n1 F.f1 F.n2 F.f2 = true from hf)
  have HR := Lib.hid (Right.of hf)
  have hl1 := HR.out.l1
  have hl2 := HR.out.l2
  have HC1 := Lib.hid hc1
  have HC2 := Lib.hid hc2
  have HER := Lib.hid he
  clear hf hc1 hc2 he
  have hu := Try.underlying60
  have S1 := Lib.hid (SpIn.new F A1 A2 c1 c2 3 id 0 a 0 w h)
  have HB : Hid (Below w.heap.size w (((w.alloc (.cells #[.int .i64 F.cap, .slice A1 F.n1 c1, .slice A2 F.n2 c2] 34)).alloc (.cells #[.int .i64 3, .int .i64 id, .int .i64 0, .int .i64 a, .int .i64 0] 56)).alloc (.cells #[.int .i64 0, .slice none 0 0, .slice none 0 0, .int .i64 0, .int .i64 0] 60))) := Lib.hid ((((Below.refl w.heap.size w).alloc (Nat.le_refl _) _).alloc (by simp) _).alloc (by simp; omega) _)
  have HZ : Hid ((((w.alloc (.cells #[.int .i64 F.cap, .slice A1 F.n1 c1, .slice A2 F.n2 c2] 34)).alloc (.cells #[.int .i64 3, .int .i64 id, .int .i64 0, .int .i64 a, .int .i64 0] 56)).alloc (.cells #[.int .i64 0, .slice none 0 0, .slice none 0 0, .int .i64 0, .int .i64 0] 60)).heap.size = w.heap.size + 1 + 1 + 1) := Lib.hid (by simp)
  clear h
  go_enter Try.func27, Try.ntmps27
  go_upto_region 1 with fail
  generalize (((w.alloc (.cells #[.int .i64 F.cap, .slice A1 F.n1 c1, .slice A2 F.n2 c2] 34)).alloc (.cells #[.int .i64 3, .int .i64 id, .int .i64 0, .int .i64 a, .int .i64 0] 56)).alloc (.cells #[.int .i64 0, .slice none 0 0, .slice none 0 0, .int .i64 0, .int .i64 0] 60)) = w1 at *
  obtain ⟨b, hbb⟩ : ∃ b, w.heap.size = b := ⟨_, rfl⟩
  have HBB := Lib.hid hbb
  rw [hbb] at S1 HZ ⊢
  clear hbb
  obtain ⟨u0, u1, u2, v0, v1, v2, v3, v4⟩ := S1.out.cells
  have HFR := Lib.hid fun (w' : World) (hb : Below w1.heap.size w1 w') => HF.out ▸ s_FarmRight F.cap A1 A2 F.n1 c1 F.n2 c2 F.f1 F.f2 w' (S1.out.2.2.2.1.keep hb) HC1.out
  go_upto_region 4 with (first | (go_at_call 39; (with_reducible refine (HFR.out w1 (Below.refl _ _)).mono ?_); rintro e w2 ⟨rfl, hb2⟩; have S2 := Lib.hid (S1.out.keep hb2); obtain ⟨u02, u12, u22, v02, v12, v22, v32, v42⟩ := S2.out.cells; clear hb2) | (go_at_call 70; refine (s_EditRight _ _ _ _ _ _).mono ?_; rintro e w3 ⟨rfl, hb3⟩; rw [HER.out]; have S3 := Lib.hid (S2.out.keep hb3); obtain ⟨u03, u13, u23, v03, v13, v23, v33, v43⟩ := S3.out.cells; clear hb3) | (go_at_call 72; refine (s_l06Copy F.cap A1 A2 F.n1 c1 F.n2 c2 F.f1 F.f2 w3 S3.out.2.2.2.1 (by omega) (by omega)).mono ?_; rintro e w4 ⟨vg, vm, rfl, hO1, hO2, hb4⟩; obtain ⟨G1', d1, rfl, -, -⟩ := hO1.tab; obtain ⟨G2', d2, rfl, -, -⟩ := hO2.tab; have O1 := Lib.hid hO1; have O2 := Lib.hid hO2; have HBC := Lib.hid hb4; clear hO1 hO2 hb4) | fail)
  clear u0 u1 u2 v0 v1 v2 v3 v4 u02 u12 u22 v02 v12 v22 v32 v42 u03 u13 u23 v03 v13 v23 v33 v43
  have P1 := Lib.hid (O1.out.mono (B' := w1.heap.size) S3.out.2.2.2.2.size)
  have P2 := Lib.hid (O2.out.mono (B' := w1.heap.size) S3.out.2.2.2.2.size)
  clear O1 O2
  have S4 := Lib.hid (S3.out.keep HBC.out)
  have al5 := (Below.refl w4.heap.size w4).alloc (Nat.le_refl _) (.cells #[.int .i64 F.cap, .slice G1' F.n1 d1, .slice G2' F.n2 d2] 34)
  have K5 := Lib.hid (Blk.new (w := w4) (B := w4.heap.size) (Nat.le_refl _) #[.int .i64 F.cap, .slice G1' F.n1 d1, .slice G2' F.n2 d2] 34)
  have S5 := Lib.hid (S4.out.keep al5)
  have O1 := Lib.hid (P1.out.keep al5)
  have O2 := Lib.hid (P2.out.keep al5)
  have L5 := Lib.hid (show b + 1 + 1 < w4.heap.size from S4.out.2.2.1.lt)
  have L6 := Lib.hid (show w1.heap.size ≤ w4.heap.size from S4.out.2.2.2.2.size)
  have NX1 := Lib.hid (show ∀ k, (.slice G1' F.n1 d1 : Value).ownBlock = some k → k < w4.heap.size from fun k e => (World.ownsRow.lt P1.out k e).2)
  have NX2 := Lib.hid (show ∀ k, (.slice G2' F.n2 d2 : Value).ownBlock = some k → k < w4.heap.size from fun k e => (World.ownsRow.lt P2.out k e).2)
  clear al5 S4 P1 P2 HBC S3 S2
  generalize (w4.alloc (.cells #[.int .i64 F.cap, .slice G1' F.n1 d1, .slice G2' F.n2 d2] 34)) = w5 at *
  generalize hb5 : w4.heap.size = b5 at *
  clear hb5
  obtain ⟨u0, u1, u2, v0, v1, v2, v3, v4⟩ := S5.out.cells
  obtain ⟨x, hx⟩ : ∃ x, grpIdx F.f2 id 0 F.n2 = x := ⟨_, rfl⟩
  have Hx := Lib.hid hx
  have bx : decide (x < 0) = true := decide_eq_true (by have := grpIdx_no HE0.out; omega)
  clear hx
  go_wp2_with (first | (go_at_call 77; refine (s_l05Member F.cap A1 A2 F.n1 c1 F.n2 c2 F.f2 _ w5 S5.out.2.2.2.1.m (by omega)).mono ?_; rintro e w6 ⟨rfl, hb6⟩; rw [Hx.out]; have S6 := Lib.hid (S5.out.keep hb6); obtain ⟨u06, u16, u26, v06, v16, v26, v36, v46⟩ := S6.out.cells; clear hb6) | (go_at_call 71; refine (s_l06Wrong _ _).mono ?_; rintro e wq ⟨rfl, hbq⟩; have SQ := Lib.hid (S6.out.keep hbq); obtain ⟨z0, z1, z2, z3, z4, y0, y1, y2, y3, y4⟩ := SQ.out.out; clear hbq) | fail)
  exact bodyPost_ret (v := .agg #[.int .i64 0, .slice none 0 0, .slice none 0 0, .int .i64 0, .int .i64 4]) (results_cell_row rfl _ _ _ _ _ _ _ rfl (SQ.out.wrong _).1 hu rfl (by kernel_rfl)) rfl ((SQ.out.wrong 4).2 (by have := HBB.out; omega) (HB.out.trans (SQ.out.2.2.2.2.mono (by have := HZ.out; have := HBB.out; omega))))
set_option maxHeartbeats 8000000 in
theorem s_fe_want_go (F : Fm) (A1 A2 : Option Addr) (c1 c2 : Nat) (id a : Int) (w : World) (h : FarmAt w A1 F.n1 F.f1 A2 F.n2 F.f2) (hc1 : F.n1 ≤ c1) (hc2 : F.n2 ≤ c2) (hf : fmB F = true) (he : edB 3 id 0 a 0 = true) (e0 : hasId F.n2 F.f2 id = true) :
    Calls Try.prog 27 #[.agg #[.int .i64 F.cap, .slice A1 F.n1 c1, .slice A2 F.n2 c2], .agg #[.int .i64 3, .int .i64 id, .int .i64 0, .int .i64 a, .int .i64 0]] w (OutV 0 (edF F 3 id 0 a 0) w) := by
  have HE0 := Lib.hid e0
  clear e0
  have hed := Lib.hid (show edF F 3 id 0 a 0 = { F with f2 := setT (posT F.n2 F.f2 id) 2 a F.f2 } from rfl)
  have HF := Lib.hid (show farmB F.cap F.n1 F.f1 F.n2 F.f2 = true from hf)
  have HR := Lib.hid (Right.of hf)
  have hl1 := HR.out.l1
  have hl2 := HR.out.l2
  have HC1 := Lib.hid hc1
  have HC2 := Lib.hid hc2
  have HER := Lib.hid he
  clear hf hc1 hc2 he
  have hu := Try.underlying60
  have S1 := Lib.hid (SpIn.new F A1 A2 c1 c2 3 id 0 a 0 w h)
  have HB : Hid (Below w.heap.size w (((w.alloc (.cells #[.int .i64 F.cap, .slice A1 F.n1 c1, .slice A2 F.n2 c2] 34)).alloc (.cells #[.int .i64 3, .int .i64 id, .int .i64 0, .int .i64 a, .int .i64 0] 56)).alloc (.cells #[.int .i64 0, .slice none 0 0, .slice none 0 0, .int .i64 0, .int .i64 0] 60))) := Lib.hid ((((Below.refl w.heap.size w).alloc (Nat.le_refl _) _).alloc (by simp) _).alloc (by simp; omega) _)
  have HZ : Hid ((((w.alloc (.cells #[.int .i64 F.cap, .slice A1 F.n1 c1, .slice A2 F.n2 c2] 34)).alloc (.cells #[.int .i64 3, .int .i64 id, .int .i64 0, .int .i64 a, .int .i64 0] 56)).alloc (.cells #[.int .i64 0, .slice none 0 0, .slice none 0 0, .int .i64 0, .int .i64 0] 60)).heap.size = w.heap.size + 1 + 1 + 1) := Lib.hid (by simp)
  clear h
  go_enter Try.func27, Try.ntmps27
  go_upto_region 1 with fail
  generalize (((w.alloc (.cells #[.int .i64 F.cap, .slice A1 F.n1 c1, .slice A2 F.n2 c2] 34)).alloc (.cells #[.int .i64 3, .int .i64 id, .int .i64 0, .int .i64 a, .int .i64 0] 56)).alloc (.cells #[.int .i64 0, .slice none 0 0, .slice none 0 0, .int .i64 0, .int .i64 0] 60)) = w1 at *
  obtain ⟨b, hbb⟩ : ∃ b, w.heap.size = b := ⟨_, rfl⟩
  have HBB := Lib.hid hbb
  rw [hbb] at S1 HZ ⊢
  clear hbb
  obtain ⟨u0, u1, u2, v0, v1, v2, v3, v4⟩ := S1.out.cells
  have HFR := Lib.hid fun (w' : World) (hb : Below w1.heap.size w1 w') => HF.out ▸ s_FarmRight F.cap A1 A2 F.n1 c1 F.n2 c2 F.f1 F.f2 w' (S1.out.2.2.2.1.keep hb) HC1.out
  go_upto_region 4 with (first | (go_at_call 39; (with_reducible refine (HFR.out w1 (Below.refl _ _)).mono ?_); rintro e w2 ⟨rfl, hb2⟩; have S2 := Lib.hid (S1.out.keep hb2); obtain ⟨u02, u12, u22, v02, v12, v22, v32, v42⟩ := S2.out.cells; clear hb2) | (go_at_call 70; refine (s_EditRight _ _ _ _ _ _).mono ?_; rintro e w3 ⟨rfl, hb3⟩; rw [HER.out]; have S3 := Lib.hid (S2.out.keep hb3); obtain ⟨u03, u13, u23, v03, v13, v23, v33, v43⟩ := S3.out.cells; clear hb3) | (go_at_call 72; refine (s_l06Copy F.cap A1 A2 F.n1 c1 F.n2 c2 F.f1 F.f2 w3 S3.out.2.2.2.1 (by omega) (by omega)).mono ?_; rintro e w4 ⟨vg, vm, rfl, hO1, hO2, hb4⟩; obtain ⟨G1', d1, rfl, -, -⟩ := hO1.tab; obtain ⟨G2', d2, rfl, -, -⟩ := hO2.tab; have O1 := Lib.hid hO1; have O2 := Lib.hid hO2; have HBC := Lib.hid hb4; clear hO1 hO2 hb4) | fail)
  clear u0 u1 u2 v0 v1 v2 v3 v4 u02 u12 u22 v02 v12 v22 v32 v42 u03 u13 u23 v03 v13 v23 v33 v43
  have P1 := Lib.hid (O1.out.mono (B' := w1.heap.size) S3.out.2.2.2.2.size)
  have P2 := Lib.hid (O2.out.mono (B' := w1.heap.size) S3.out.2.2.2.2.size)
  clear O1 O2
  have S4 := Lib.hid (S3.out.keep HBC.out)
  have al5 := (Below.refl w4.heap.size w4).alloc (Nat.le_refl _) (.cells #[.int .i64 F.cap, .slice G1' F.n1 d1, .slice G2' F.n2 d2] 34)
  have K5 := Lib.hid (Blk.new (w := w4) (B := w4.heap.size) (Nat.le_refl _) #[.int .i64 F.cap, .slice G1' F.n1 d1, .slice G2' F.n2 d2] 34)
  have S5 := Lib.hid (S4.out.keep al5)
  have O1 := Lib.hid (P1.out.keep al5)
  have O2 := Lib.hid (P2.out.keep al5)
  have L5 := Lib.hid (show b + 1 + 1 < w4.heap.size from S4.out.2.2.1.lt)
  have L6 := Lib.hid (show w1.heap.size ≤ w4.heap.size from S4.out.2.2.2.2.size)
  have NX1 := Lib.hid (show ∀ k, (.slice G1' F.n1 d1 : Value).ownBlock = some k → k < w4.heap.size from fun k e => (World.ownsRow.lt P1.out k e).2)
  have NX2 := Lib.hid (show ∀ k, (.slice G2' F.n2 d2 : Value).ownBlock = some k → k < w4.heap.size from fun k e => (World.ownsRow.lt P2.out k e).2)
  clear al5 S4 P1 P2 HBC S3 S2
  generalize (w4.alloc (.cells #[.int .i64 F.cap, .slice G1' F.n1 d1, .slice G2' F.n2 d2] 34)) = w5 at *
  generalize hb5 : w4.heap.size = b5 at *
  clear hb5
  obtain ⟨u0, u1, u2, v0, v1, v2, v3, v4⟩ := S5.out.cells
  obtain ⟨x, hx⟩ : ∃ x, grpIdx F.f2 id 0 F.n2 = x := ⟨_, rfl⟩
  have hxp := hx.symm.trans (grpIdx_pos HR.out.r2 HE0.out)
  have hpn := (has_at HR.out.r2 HE0.out).1
  generalize posT F.n2 F.f2 id = pp at *
  subst hxp
  have Hx := Lib.hid hx
  clear hx
  have bx : decide ((pp : Int) < 0) = false := decide_eq_false (by omega)
  go_upto_region 28 with (first | (go_at_call 77; refine (s_l05Member F.cap A1 A2 F.n1 c1 F.n2 c2 F.f2 _ w5 S5.out.2.2.2.1.m (by omega)).mono ?_; rintro e w6 ⟨rfl, hb6⟩; have HB6 := Lib.hid hb6; rw [Hx.out]; have S6 := Lib.hid (S5.out.keep hb6); obtain ⟨u06, u16, u26, v06, v16, v26, v36, v46⟩ := S6.out.cells; clear hb6) | fail)
  clear u0 u1 u2 v0 v1 v2 v4 u06 u16 u26 v06 v16 v26 v46
  have BN := Lib.hid (show Below w5.heap.size w5 w6 from HB6.out)
  obtain ⟨h', _⟩ | ⟨gk, ck, cur, h', hgb, hgl, hgg, -⟩ := O2.out.form
  · simp only [Value.slice.injEq] at h'; omega
  simp only [Value.slice.injEq] at h'
  obtain ⟨rfl, -, rfl⟩ := h'
  have HNG := Lib.hid (show gk < b5 from NX2.out gk rfl)
  have NO := Lib.hid (show (.slice G1' F.n1 d1 : Value).ownBlock ≠ some gk from fun e => O2.out.ne O1.out (by decide) rfl e)
  have K7 := Lib.hid ((K5.out.keep BN.out).setf (p := ⟨gk, pp * 4 + 2, none⟩) (by have := HNG.out; simp; omega) (.int .i64 a))
  have T7 := Lib.hid ((O2.out.keep BN.out).setAt (j := 2) hpn (by decide) a)
  have U7 := Lib.hid ((O1.out.keep BN.out).setf (p := ⟨gk, pp * 4 + 2, none⟩) NO.out (.int .i64 a))
  have B7 := Lib.hid (show Below w1.heap.size w5 (w6.setCell ⟨gk, pp * 4 + 2, none⟩ (.int .i64 a)) from (BN.out.mono (by have := L6.out; have := K5.out.lt; omega)).setCell (p := ⟨gk, pp * 4 + 2, none⟩) hgb (.int .i64 a))
  have hp0 : (0 : Int) ≤ (pp : Int) := by omega
  have hp1 : (pp : Int) < (F.n2 : Int) := by omega
  have x1 := ((K5.out.keep BN.out).cell 2).trans rfl
  have x3 := (O2.out.keep BN.out).cell (i := pp) (j := 2) hpn (by decide)
  have f3 := ((show Blk w5 w1.heap.size gk cur 91 from ⟨hgb, hgg⟩).keep BN.out).frozen (pp * 4 + 2)
  clear hgg hgl hgb
  go_upto_region 31 with fail
  clear x1 x3 f3 hp0 hp1
  generalize (w6.setCell ⟨gk, pp * 4 + 2, none⟩ (.int .i64 a)) = w8 at *
  have BE := Lib.hid (S5.out.2.2.2.2.trans B7.out)
  have SE := Lib.hid (S1.out.keep BE.out)
  obtain ⟨z0, z1, z2, z3, z4, y0, y1, y2, y3, y4⟩ := SE.out.out
  have k0 := (K7.out.cell 0).trans rfl
  have k1 := (K7.out.cell 1).trans rfl
  have k2 := (K7.out.cell 2).trans rfl
  have hne : b5 ≠ b + 1 + 1 := by have := L5.out; omega
  have FV := Lib.hid (show FarmV w8 w1.heap.size (edF F 3 id 0 a 0) (.slice G1' F.n1 d1) (.slice (some ⟨gk, 0, none⟩) F.n2 d2) from by rw [hed.out]; exact ⟨U7.out, T7.out⟩)
  go_wp2_with fail
  all_goals (have FV2 := FV.out; rw [hed.out] at FV2 ⊢; exact bodyPost_ret (results_cell_row rfl _ _ _ _ _ _ _ rfl (SE.out.give FV2 0).1 hu rfl (by kernel_rfl)) rfl ((SE.out.give FV2 0).2 (by have := HBB.out; omega) (by have := HBB.out; have := HZ.out; omega) (HB.out.trans (BE.out.mono (by have := HZ.out; have := HBB.out; omega)))))
set_option maxHeartbeats 8000000 in
theorem s_fe_weight_none (F : Fm) (A1 A2 : Option Addr) (c1 c2 : Nat) (id a : Int) (w : World) (h : FarmAt w A1 F.n1 F.f1 A2 F.n2 F.f2) (hc1 : F.n1 ≤ c1) (hc2 : F.n2 ≤ c2) (hf : fmB F = true) (he : edB 4 id 0 a 0 = true) (e0 : hasId F.n2 F.f2 id = false) :
    Calls Try.prog 27 #[.agg #[.int .i64 F.cap, .slice A1 F.n1 c1, .slice A2 F.n2 c2], .agg #[.int .i64 4, .int .i64 id, .int .i64 0, .int .i64 a, .int .i64 0]] w (OutV 4 fm0 w) := by
  have HE0 := Lib.hid e0
  clear e0
  have HF := Lib.hid (show farmB F.cap F.n1 F.f1 F.n2 F.f2 = true from hf)
  have HR := Lib.hid (Right.of hf)
  have hl1 := HR.out.l1
  have hl2 := HR.out.l2
  have HC1 := Lib.hid hc1
  have HC2 := Lib.hid hc2
  have HER := Lib.hid he
  clear hf hc1 hc2 he
  have hu := Try.underlying60
  have S1 := Lib.hid (SpIn.new F A1 A2 c1 c2 4 id 0 a 0 w h)
  have HB : Hid (Below w.heap.size w (((w.alloc (.cells #[.int .i64 F.cap, .slice A1 F.n1 c1, .slice A2 F.n2 c2] 34)).alloc (.cells #[.int .i64 4, .int .i64 id, .int .i64 0, .int .i64 a, .int .i64 0] 56)).alloc (.cells #[.int .i64 0, .slice none 0 0, .slice none 0 0, .int .i64 0, .int .i64 0] 60))) := Lib.hid ((((Below.refl w.heap.size w).alloc (Nat.le_refl _) _).alloc (by simp) _).alloc (by simp; omega) _)
  have HZ : Hid ((((w.alloc (.cells #[.int .i64 F.cap, .slice A1 F.n1 c1, .slice A2 F.n2 c2] 34)).alloc (.cells #[.int .i64 4, .int .i64 id, .int .i64 0, .int .i64 a, .int .i64 0] 56)).alloc (.cells #[.int .i64 0, .slice none 0 0, .slice none 0 0, .int .i64 0, .int .i64 0] 60)).heap.size = w.heap.size + 1 + 1 + 1) := Lib.hid (by simp)
  clear h
  go_enter Try.func27, Try.ntmps27
  go_upto_region 1 with fail
  generalize (((w.alloc (.cells #[.int .i64 F.cap, .slice A1 F.n1 c1, .slice A2 F.n2 c2] 34)).alloc (.cells #[.int .i64 4, .int .i64 id, .int .i64 0, .int .i64 a, .int .i64 0] 56)).alloc (.cells #[.int .i64 0, .slice none 0 0, .slice none 0 0, .int .i64 0, .int .i64 0] 60)) = w1 at *
  obtain ⟨b, hbb⟩ : ∃ b, w.heap.size = b := ⟨_, rfl⟩
  have HBB := Lib.hid hbb
  rw [hbb] at S1 HZ ⊢
  clear hbb
  obtain ⟨u0, u1, u2, v0, v1, v2, v3, v4⟩ := S1.out.cells
  have HFR := Lib.hid fun (w' : World) (hb : Below w1.heap.size w1 w') => HF.out ▸ s_FarmRight F.cap A1 A2 F.n1 c1 F.n2 c2 F.f1 F.f2 w' (S1.out.2.2.2.1.keep hb) HC1.out
  go_upto_region 4 with (first | (go_at_call 39; (with_reducible refine (HFR.out w1 (Below.refl _ _)).mono ?_); rintro e w2 ⟨rfl, hb2⟩; have S2 := Lib.hid (S1.out.keep hb2); obtain ⟨u02, u12, u22, v02, v12, v22, v32, v42⟩ := S2.out.cells; clear hb2) | (go_at_call 70; refine (s_EditRight _ _ _ _ _ _).mono ?_; rintro e w3 ⟨rfl, hb3⟩; rw [HER.out]; have S3 := Lib.hid (S2.out.keep hb3); obtain ⟨u03, u13, u23, v03, v13, v23, v33, v43⟩ := S3.out.cells; clear hb3) | (go_at_call 72; refine (s_l06Copy F.cap A1 A2 F.n1 c1 F.n2 c2 F.f1 F.f2 w3 S3.out.2.2.2.1 (by omega) (by omega)).mono ?_; rintro e w4 ⟨vg, vm, rfl, hO1, hO2, hb4⟩; obtain ⟨G1', d1, rfl, -, -⟩ := hO1.tab; obtain ⟨G2', d2, rfl, -, -⟩ := hO2.tab; have O1 := Lib.hid hO1; have O2 := Lib.hid hO2; have HBC := Lib.hid hb4; clear hO1 hO2 hb4) | fail)
  clear u0 u1 u2 v0 v1 v2 v3 v4 u02 u12 u22 v02 v12 v22 v32 v42 u03 u13 u23 v03 v13 v23 v33 v43
  have P1 := Lib.hid (O1.out.mono (B' := w1.heap.size) S3.out.2.2.2.2.size)
  have P2 := Lib.hid (O2.out.mono (B' := w1.heap.size) S3.out.2.2.2.2.size)
  clear O1 O2
  have S4 := Lib.hid (S3.out.keep HBC.out)
  have al5 := (Below.refl w4.heap.size w4).alloc (Nat.le_refl _) (.cells #[.int .i64 F.cap, .slice G1' F.n1 d1, .slice G2' F.n2 d2] 34)
  have K5 := Lib.hid (Blk.new (w := w4) (B := w4.heap.size) (Nat.le_refl _) #[.int .i64 F.cap, .slice G1' F.n1 d1, .slice G2' F.n2 d2] 34)
  have S5 := Lib.hid (S4.out.keep al5)
  have O1 := Lib.hid (P1.out.keep al5)
  have O2 := Lib.hid (P2.out.keep al5)
  have L5 := Lib.hid (show b + 1 + 1 < w4.heap.size from S4.out.2.2.1.lt)
  have L6 := Lib.hid (show w1.heap.size ≤ w4.heap.size from S4.out.2.2.2.2.size)
  have NX1 := Lib.hid (show ∀ k, (.slice G1' F.n1 d1 : Value).ownBlock = some k → k < w4.heap.size from fun k e => (World.ownsRow.lt P1.out k e).2)
  have NX2 := Lib.hid (show ∀ k, (.slice G2' F.n2 d2 : Value).ownBlock = some k → k < w4.heap.size from fun k e => (World.ownsRow.lt P2.out k e).2)
  clear al5 S4 P1 P2 HBC S3 S2
  generalize (w4.alloc (.cells #[.int .i64 F.cap, .slice G1' F.n1 d1, .slice G2' F.n2 d2] 34)) = w5 at *
  generalize hb5 : w4.heap.size = b5 at *
  clear hb5
  obtain ⟨u0, u1, u2, v0, v1, v2, v3, v4⟩ := S5.out.cells
  obtain ⟨x, hx⟩ : ∃ x, grpIdx F.f2 id 0 F.n2 = x := ⟨_, rfl⟩
  have Hx := Lib.hid hx
  have bx : decide (x < 0) = true := decide_eq_true (by have := grpIdx_no HE0.out; omega)
  clear hx
  go_wp2_with (first | (go_at_call 77; refine (s_l05Member F.cap A1 A2 F.n1 c1 F.n2 c2 F.f2 _ w5 S5.out.2.2.2.1.m (by omega)).mono ?_; rintro e w6 ⟨rfl, hb6⟩; rw [Hx.out]; have S6 := Lib.hid (S5.out.keep hb6); obtain ⟨u06, u16, u26, v06, v16, v26, v36, v46⟩ := S6.out.cells; clear hb6) | (go_at_call 71; refine (s_l06Wrong _ _).mono ?_; rintro e wq ⟨rfl, hbq⟩; have SQ := Lib.hid (S6.out.keep hbq); obtain ⟨z0, z1, z2, z3, z4, y0, y1, y2, y3, y4⟩ := SQ.out.out; clear hbq) | fail)
  exact bodyPost_ret (v := .agg #[.int .i64 0, .slice none 0 0, .slice none 0 0, .int .i64 0, .int .i64 4]) (results_cell_row rfl _ _ _ _ _ _ _ rfl (SQ.out.wrong _).1 hu rfl (by kernel_rfl)) rfl ((SQ.out.wrong 4).2 (by have := HBB.out; omega) (HB.out.trans (SQ.out.2.2.2.2.mono (by have := HZ.out; have := HBB.out; omega))))
set_option maxHeartbeats 8000000 in
theorem s_fe_weight_go (F : Fm) (A1 A2 : Option Addr) (c1 c2 : Nat) (id a : Int) (w : World) (h : FarmAt w A1 F.n1 F.f1 A2 F.n2 F.f2) (hc1 : F.n1 ≤ c1) (hc2 : F.n2 ≤ c2) (hf : fmB F = true) (he : edB 4 id 0 a 0 = true) (e0 : hasId F.n2 F.f2 id = true) :
    Calls Try.prog 27 #[.agg #[.int .i64 F.cap, .slice A1 F.n1 c1, .slice A2 F.n2 c2], .agg #[.int .i64 4, .int .i64 id, .int .i64 0, .int .i64 a, .int .i64 0]] w (OutV 0 (edF F 4 id 0 a 0) w) := by
  have HE0 := Lib.hid e0
  clear e0
  have hed := Lib.hid (show edF F 4 id 0 a 0 = { F with f2 := setT (posT F.n2 F.f2 id) 3 a F.f2 } from rfl)
  have HF := Lib.hid (show farmB F.cap F.n1 F.f1 F.n2 F.f2 = true from hf)
  have HR := Lib.hid (Right.of hf)
  have hl1 := HR.out.l1
  have hl2 := HR.out.l2
  have HC1 := Lib.hid hc1
  have HC2 := Lib.hid hc2
  have HER := Lib.hid he
  clear hf hc1 hc2 he
  have hu := Try.underlying60
  have S1 := Lib.hid (SpIn.new F A1 A2 c1 c2 4 id 0 a 0 w h)
  have HB : Hid (Below w.heap.size w (((w.alloc (.cells #[.int .i64 F.cap, .slice A1 F.n1 c1, .slice A2 F.n2 c2] 34)).alloc (.cells #[.int .i64 4, .int .i64 id, .int .i64 0, .int .i64 a, .int .i64 0] 56)).alloc (.cells #[.int .i64 0, .slice none 0 0, .slice none 0 0, .int .i64 0, .int .i64 0] 60))) := Lib.hid ((((Below.refl w.heap.size w).alloc (Nat.le_refl _) _).alloc (by simp) _).alloc (by simp; omega) _)
  have HZ : Hid ((((w.alloc (.cells #[.int .i64 F.cap, .slice A1 F.n1 c1, .slice A2 F.n2 c2] 34)).alloc (.cells #[.int .i64 4, .int .i64 id, .int .i64 0, .int .i64 a, .int .i64 0] 56)).alloc (.cells #[.int .i64 0, .slice none 0 0, .slice none 0 0, .int .i64 0, .int .i64 0] 60)).heap.size = w.heap.size + 1 + 1 + 1) := Lib.hid (by simp)
  clear h
  go_enter Try.func27, Try.ntmps27
  go_upto_region 1 with fail
  generalize (((w.alloc (.cells #[.int .i64 F.cap, .slice A1 F.n1 c1, .slice A2 F.n2 c2] 34)).alloc (.cells #[.int .i64 4, .int .i64 id, .int .i64 0, .int .i64 a, .int .i64 0] 56)).alloc (.cells #[.int .i64 0, .slice none 0 0, .slice none 0 0, .int .i64 0, .int .i64 0] 60)) = w1 at *
  obtain ⟨b, hbb⟩ : ∃ b, w.heap.size = b := ⟨_, rfl⟩
  have HBB := Lib.hid hbb
  rw [hbb] at S1 HZ ⊢
  clear hbb
  obtain ⟨u0, u1, u2, v0, v1, v2, v3, v4⟩ := S1.out.cells
  have HFR := Lib.hid fun (w' : World) (hb : Below w1.heap.size w1 w') => HF.out ▸ s_FarmRight F.cap A1 A2 F.n1 c1 F.n2 c2 F.f1 F.f2 w' (S1.out.2.2.2.1.keep hb) HC1.out
  go_upto_region 4 with (first | (go_at_call 39; (with_reducible refine (HFR.out w1 (Below.refl _ _)).mono ?_); rintro e w2 ⟨rfl, hb2⟩; have S2 := Lib.hid (S1.out.keep hb2); obtain ⟨u02, u12, u22, v02, v12, v22, v32, v42⟩ := S2.out.cells; clear hb2) | (go_at_call 70; refine (s_EditRight _ _ _ _ _ _).mono ?_; rintro e w3 ⟨rfl, hb3⟩; rw [HER.out]; have S3 := Lib.hid (S2.out.keep hb3); obtain ⟨u03, u13, u23, v03, v13, v23, v33, v43⟩ := S3.out.cells; clear hb3) | (go_at_call 72; refine (s_l06Copy F.cap A1 A2 F.n1 c1 F.n2 c2 F.f1 F.f2 w3 S3.out.2.2.2.1 (by omega) (by omega)).mono ?_; rintro e w4 ⟨vg, vm, rfl, hO1, hO2, hb4⟩; obtain ⟨G1', d1, rfl, -, -⟩ := hO1.tab; obtain ⟨G2', d2, rfl, -, -⟩ := hO2.tab; have O1 := Lib.hid hO1; have O2 := Lib.hid hO2; have HBC := Lib.hid hb4; clear hO1 hO2 hb4) | fail)
  clear u0 u1 u2 v0 v1 v2 v3 v4 u02 u12 u22 v02 v12 v22 v32 v42 u03 u13 u23 v03 v13 v23 v33 v43
  have P1 := Lib.hid (O1.out.mono (B' := w1.heap.size) S3.out.2.2.2.2.size)
  have P2 := Lib.hid (O2.out.mono (B' := w1.heap.size) S3.out.2.2.2.2.size)
  clear O1 O2
  have S4 := Lib.hid (S3.out.keep HBC.out)
  have al5 := (Below.refl w4.heap.size w4).alloc (Nat.le_refl _) (.cells #[.int .i64 F.cap, .slice G1' F.n1 d1, .slice G2' F.n2 d2] 34)
  have K5 := Lib.hid (Blk.new (w := w4) (B := w4.heap.size) (Nat.le_refl _) #[.int .i64 F.cap, .slice G1' F.n1 d1, .slice G2' F.n2 d2] 34)
  have S5 := Lib.hid (S4.out.keep al5)
  have O1 := Lib.hid (P1.out.keep al5)
  have O2 := Lib.hid (P2.out.keep al5)
  have L5 := Lib.hid (show b + 1 + 1 < w4.heap.size from S4.out.2.2.1.lt)
  have L6 := Lib.hid (show w1.heap.size ≤ w4.heap.size from S4.out.2.2.2.2.size)
  have NX1 := Lib.hid (show ∀ k, (.slice G1' F.n1 d1 : Value).ownBlock = some k → k < w4.heap.size from fun k e => (World.ownsRow.lt P1.out k e).2)
  have NX2 := Lib.hid (show ∀ k, (.slice G2' F.n2 d2 : Value).ownBlock = some k → k < w4.heap.size from fun k e => (World.ownsRow.lt P2.out k e).2)
  clear al5 S4 P1 P2 HBC S3 S2
  generalize (w4.alloc (.cells #[.int .i64 F.cap, .slice G1' F.n1 d1, .slice G2' F.n2 d2] 34)) = w5 at *
  generalize hb5 : w4.heap.size = b5 at *
  clear hb5
  obtain ⟨u0, u1, u2, v0, v1, v2, v3, v4⟩ := S5.out.cells
  obtain ⟨x, hx⟩ : ∃ x, grpIdx F.f2 id 0 F.n2 = x := ⟨_, rfl⟩
  have hxp := hx.symm.trans (grpIdx_pos HR.out.r2 HE0.out)
  have hpn := (has_at HR.out.r2 HE0.out).1
  generalize posT F.n2 F.f2 id = pp at *
  subst hxp
  have Hx := Lib.hid hx
  clear hx
  have bx : decide ((pp : Int) < 0) = false := decide_eq_false (by omega)
  go_upto_region 30 with (first | (go_at_call 77; refine (s_l05Member F.cap A1 A2 F.n1 c1 F.n2 c2 F.f2 _ w5 S5.out.2.2.2.1.m (by omega)).mono ?_; rintro e w6 ⟨rfl, hb6⟩; have HB6 := Lib.hid hb6; rw [Hx.out]; have S6 := Lib.hid (S5.out.keep hb6); obtain ⟨u06, u16, u26, v06, v16, v26, v36, v46⟩ := S6.out.cells; clear hb6) | fail)
  clear u0 u1 u2 v0 v1 v2 v4 u06 u16 u26 v06 v16 v26 v46
  have BN := Lib.hid (show Below w5.heap.size w5 w6 from HB6.out)
  obtain ⟨h', _⟩ | ⟨gk, ck, cur, h', hgb, hgl, hgg, -⟩ := O2.out.form
  · simp only [Value.slice.injEq] at h'; omega
  simp only [Value.slice.injEq] at h'
  obtain ⟨rfl, -, rfl⟩ := h'
  have HNG := Lib.hid (show gk < b5 from NX2.out gk rfl)
  have NO := Lib.hid (show (.slice G1' F.n1 d1 : Value).ownBlock ≠ some gk from fun e => O2.out.ne O1.out (by decide) rfl e)
  have K7 := Lib.hid ((K5.out.keep BN.out).setf (p := ⟨gk, pp * 4 + 3, none⟩) (by have := HNG.out; simp; omega) (.int .i64 a))
  have T7 := Lib.hid ((O2.out.keep BN.out).setAt (j := 3) hpn (by decide) a)
  have U7 := Lib.hid ((O1.out.keep BN.out).setf (p := ⟨gk, pp * 4 + 3, none⟩) NO.out (.int .i64 a))
  have B7 := Lib.hid (show Below w1.heap.size w5 (w6.setCell ⟨gk, pp * 4 + 3, none⟩ (.int .i64 a)) from (BN.out.mono (by have := L6.out; have := K5.out.lt; omega)).setCell (p := ⟨gk, pp * 4 + 3, none⟩) hgb (.int .i64 a))
  have hp0 : (0 : Int) ≤ (pp : Int) := by omega
  have hp1 : (pp : Int) < (F.n2 : Int) := by omega
  have x1 := ((K5.out.keep BN.out).cell 2).trans rfl
  have x3 := (O2.out.keep BN.out).cell (i := pp) (j := 3) hpn (by decide)
  have f3 := ((show Blk w5 w1.heap.size gk cur 91 from ⟨hgb, hgg⟩).keep BN.out).frozen (pp * 4 + 3)
  clear hgg hgl hgb
  go_upto_region 31 with fail
  clear x1 x3 f3 hp0 hp1
  generalize (w6.setCell ⟨gk, pp * 4 + 3, none⟩ (.int .i64 a)) = w8 at *
  have BE := Lib.hid (S5.out.2.2.2.2.trans B7.out)
  have SE := Lib.hid (S1.out.keep BE.out)
  obtain ⟨z0, z1, z2, z3, z4, y0, y1, y2, y3, y4⟩ := SE.out.out
  have k0 := (K7.out.cell 0).trans rfl
  have k1 := (K7.out.cell 1).trans rfl
  have k2 := (K7.out.cell 2).trans rfl
  have hne : b5 ≠ b + 1 + 1 := by have := L5.out; omega
  have FV := Lib.hid (show FarmV w8 w1.heap.size (edF F 4 id 0 a 0) (.slice G1' F.n1 d1) (.slice (some ⟨gk, 0, none⟩) F.n2 d2) from by rw [hed.out]; exact ⟨U7.out, T7.out⟩)
  go_wp2_with fail
  all_goals (have FV2 := FV.out; rw [hed.out] at FV2 ⊢; exact bodyPost_ret (results_cell_row rfl _ _ _ _ _ _ _ rfl (SE.out.give FV2 0).1 hu rfl (by kernel_rfl)) rfl ((SE.out.give FV2 0).2 (by have := HBB.out; omega) (by have := HBB.out; have := HZ.out; omega) (HB.out.trans (BE.out.mono (by have := HZ.out; have := HBB.out; omega)))))
set_option maxHeartbeats 8000000 in
theorem s_fe_move_none (F : Fm) (A1 A2 : Option Addr) (c1 c2 : Nat) (id g : Int) (w : World) (h : FarmAt w A1 F.n1 F.f1 A2 F.n2 F.f2) (hc1 : F.n1 ≤ c1) (hc2 : F.n2 ≤ c2) (hf : fmB F = true) (he : edB 5 id g 0 0 = true) (e0 : hasId F.n2 F.f2 id = false) :
    Calls Try.prog 27 #[.agg #[.int .i64 F.cap, .slice A1 F.n1 c1, .slice A2 F.n2 c2], .agg #[.int .i64 5, .int .i64 id, .int .i64 g, .int .i64 0, .int .i64 0]] w (OutV 4 fm0 w) := by
  have HE0 := Lib.hid e0
  clear e0
  have HF := Lib.hid (show farmB F.cap F.n1 F.f1 F.n2 F.f2 = true from hf)
  have HR := Lib.hid (Right.of hf)
  have hl1 := HR.out.l1
  have hl2 := HR.out.l2
  have HC1 := Lib.hid hc1
  have HC2 := Lib.hid hc2
  have HER := Lib.hid he
  clear hf hc1 hc2 he
  have hu := Try.underlying60
  have S1 := Lib.hid (SpIn.new F A1 A2 c1 c2 5 id g 0 0 w h)
  have HB : Hid (Below w.heap.size w (((w.alloc (.cells #[.int .i64 F.cap, .slice A1 F.n1 c1, .slice A2 F.n2 c2] 34)).alloc (.cells #[.int .i64 5, .int .i64 id, .int .i64 g, .int .i64 0, .int .i64 0] 56)).alloc (.cells #[.int .i64 0, .slice none 0 0, .slice none 0 0, .int .i64 0, .int .i64 0] 60))) := Lib.hid ((((Below.refl w.heap.size w).alloc (Nat.le_refl _) _).alloc (by simp) _).alloc (by simp; omega) _)
  have HZ : Hid ((((w.alloc (.cells #[.int .i64 F.cap, .slice A1 F.n1 c1, .slice A2 F.n2 c2] 34)).alloc (.cells #[.int .i64 5, .int .i64 id, .int .i64 g, .int .i64 0, .int .i64 0] 56)).alloc (.cells #[.int .i64 0, .slice none 0 0, .slice none 0 0, .int .i64 0, .int .i64 0] 60)).heap.size = w.heap.size + 1 + 1 + 1) := Lib.hid (by simp)
  clear h
  go_enter Try.func27, Try.ntmps27
  go_upto_region 1 with fail
  generalize (((w.alloc (.cells #[.int .i64 F.cap, .slice A1 F.n1 c1, .slice A2 F.n2 c2] 34)).alloc (.cells #[.int .i64 5, .int .i64 id, .int .i64 g, .int .i64 0, .int .i64 0] 56)).alloc (.cells #[.int .i64 0, .slice none 0 0, .slice none 0 0, .int .i64 0, .int .i64 0] 60)) = w1 at *
  obtain ⟨b, hbb⟩ : ∃ b, w.heap.size = b := ⟨_, rfl⟩
  have HBB := Lib.hid hbb
  rw [hbb] at S1 HZ ⊢
  clear hbb
  obtain ⟨u0, u1, u2, v0, v1, v2, v3, v4⟩ := S1.out.cells
  have HFR := Lib.hid fun (w' : World) (hb : Below w1.heap.size w1 w') => HF.out ▸ s_FarmRight F.cap A1 A2 F.n1 c1 F.n2 c2 F.f1 F.f2 w' (S1.out.2.2.2.1.keep hb) HC1.out
  go_upto_region 4 with (first | (go_at_call 39; (with_reducible refine (HFR.out w1 (Below.refl _ _)).mono ?_); rintro e w2 ⟨rfl, hb2⟩; have S2 := Lib.hid (S1.out.keep hb2); obtain ⟨u02, u12, u22, v02, v12, v22, v32, v42⟩ := S2.out.cells; clear hb2) | (go_at_call 70; refine (s_EditRight _ _ _ _ _ _).mono ?_; rintro e w3 ⟨rfl, hb3⟩; rw [HER.out]; have S3 := Lib.hid (S2.out.keep hb3); obtain ⟨u03, u13, u23, v03, v13, v23, v33, v43⟩ := S3.out.cells; clear hb3) | (go_at_call 72; refine (s_l06Copy F.cap A1 A2 F.n1 c1 F.n2 c2 F.f1 F.f2 w3 S3.out.2.2.2.1 (by omega) (by omega)).mono ?_; rintro e w4 ⟨vg, vm, rfl, hO1, hO2, hb4⟩; obtain ⟨G1', d1, rfl, -, -⟩ := hO1.tab; obtain ⟨G2', d2, rfl, -, -⟩ := hO2.tab; have O1 := Lib.hid hO1; have O2 := Lib.hid hO2; have HBC := Lib.hid hb4; clear hO1 hO2 hb4) | fail)
  clear u0 u1 u2 v0 v1 v2 v3 v4 u02 u12 u22 v02 v12 v22 v32 v42 u03 u13 u23 v03 v13 v23 v33 v43
  have P1 := Lib.hid (O1.out.mono (B' := w1.heap.size) S3.out.2.2.2.2.size)
  have P2 := Lib.hid (O2.out.mono (B' := w1.heap.size) S3.out.2.2.2.2.size)
  clear O1 O2
  have S4 := Lib.hid (S3.out.keep HBC.out)
  have al5 := (Below.refl w4.heap.size w4).alloc (Nat.le_refl _) (.cells #[.int .i64 F.cap, .slice G1' F.n1 d1, .slice G2' F.n2 d2] 34)
  have K5 := Lib.hid (Blk.new (w := w4) (B := w4.heap.size) (Nat.le_refl _) #[.int .i64 F.cap, .slice G1' F.n1 d1, .slice G2' F.n2 d2] 34)
  have S5 := Lib.hid (S4.out.keep al5)
  have O1 := Lib.hid (P1.out.keep al5)
  have O2 := Lib.hid (P2.out.keep al5)
  have L5 := Lib.hid (show b + 1 + 1 < w4.heap.size from S4.out.2.2.1.lt)
  have L6 := Lib.hid (show w1.heap.size ≤ w4.heap.size from S4.out.2.2.2.2.size)
  have NX1 := Lib.hid (show ∀ k, (.slice G1' F.n1 d1 : Value).ownBlock = some k → k < w4.heap.size from fun k e => (World.ownsRow.lt P1.out k e).2)
  have NX2 := Lib.hid (show ∀ k, (.slice G2' F.n2 d2 : Value).ownBlock = some k → k < w4.heap.size from fun k e => (World.ownsRow.lt P2.out k e).2)
  clear al5 S4 P1 P2 HBC S3 S2
  generalize (w4.alloc (.cells #[.int .i64 F.cap, .slice G1' F.n1 d1, .slice G2' F.n2 d2] 34)) = w5 at *
  generalize hb5 : w4.heap.size = b5 at *
  clear hb5
  obtain ⟨u0, u1, u2, v0, v1, v2, v3, v4⟩ := S5.out.cells
  obtain ⟨x, hx⟩ : ∃ x, grpIdx F.f2 id 0 F.n2 = x := ⟨_, rfl⟩
  have Hx := Lib.hid hx
  have bx : decide (x < 0) = true := decide_eq_true (by have := grpIdx_no HE0.out; omega)
  clear hx
  go_wp2_with (first | (go_at_call 77; refine (s_l05Member F.cap A1 A2 F.n1 c1 F.n2 c2 F.f2 _ w5 S5.out.2.2.2.1.m (by omega)).mono ?_; rintro e w6 ⟨rfl, hb6⟩; rw [Hx.out]; have S6 := Lib.hid (S5.out.keep hb6); obtain ⟨u06, u16, u26, v06, v16, v26, v36, v46⟩ := S6.out.cells; clear hb6) | (go_at_call 71; refine (s_l06Wrong _ _).mono ?_; rintro e wq ⟨rfl, hbq⟩; have SQ := Lib.hid (S6.out.keep hbq); obtain ⟨z0, z1, z2, z3, z4, y0, y1, y2, y3, y4⟩ := SQ.out.out; clear hbq) | fail)
  exact bodyPost_ret (v := .agg #[.int .i64 0, .slice none 0 0, .slice none 0 0, .int .i64 0, .int .i64 4]) (results_cell_row rfl _ _ _ _ _ _ _ rfl (SQ.out.wrong _).1 hu rfl (by kernel_rfl)) rfl ((SQ.out.wrong 4).2 (by have := HBB.out; omega) (HB.out.trans (SQ.out.2.2.2.2.mono (by have := HZ.out; have := HBB.out; omega))))
set_option maxHeartbeats 8000000 in
theorem s_fe_move_nogroup (F : Fm) (A1 A2 : Option Addr) (c1 c2 : Nat) (id g : Int) (w : World) (h : FarmAt w A1 F.n1 F.f1 A2 F.n2 F.f2) (hc1 : F.n1 ≤ c1) (hc2 : F.n2 ≤ c2) (hf : fmB F = true) (he : edB 5 id g 0 0 = true) (e0 : hasId F.n2 F.f2 id = true) (e1 : hasG F g = false) :
    Calls Try.prog 27 #[.agg #[.int .i64 F.cap, .slice A1 F.n1 c1, .slice A2 F.n2 c2], .agg #[.int .i64 5, .int .i64 id, .int .i64 g, .int .i64 0, .int .i64 0]] w (OutV 4 fm0 w) := by
  have HE0 := Lib.hid e0
  clear e0
  have HE1 := Lib.hid e1
  clear e1
  have HF := Lib.hid (show farmB F.cap F.n1 F.f1 F.n2 F.f2 = true from hf)
  have HR := Lib.hid (Right.of hf)
  have hl1 := HR.out.l1
  have hl2 := HR.out.l2
  have HC1 := Lib.hid hc1
  have HC2 := Lib.hid hc2
  have HER := Lib.hid he
  clear hf hc1 hc2 he
  have hu := Try.underlying60
  have S1 := Lib.hid (SpIn.new F A1 A2 c1 c2 5 id g 0 0 w h)
  have HB : Hid (Below w.heap.size w (((w.alloc (.cells #[.int .i64 F.cap, .slice A1 F.n1 c1, .slice A2 F.n2 c2] 34)).alloc (.cells #[.int .i64 5, .int .i64 id, .int .i64 g, .int .i64 0, .int .i64 0] 56)).alloc (.cells #[.int .i64 0, .slice none 0 0, .slice none 0 0, .int .i64 0, .int .i64 0] 60))) := Lib.hid ((((Below.refl w.heap.size w).alloc (Nat.le_refl _) _).alloc (by simp) _).alloc (by simp; omega) _)
  have HZ : Hid ((((w.alloc (.cells #[.int .i64 F.cap, .slice A1 F.n1 c1, .slice A2 F.n2 c2] 34)).alloc (.cells #[.int .i64 5, .int .i64 id, .int .i64 g, .int .i64 0, .int .i64 0] 56)).alloc (.cells #[.int .i64 0, .slice none 0 0, .slice none 0 0, .int .i64 0, .int .i64 0] 60)).heap.size = w.heap.size + 1 + 1 + 1) := Lib.hid (by simp)
  clear h
  go_enter Try.func27, Try.ntmps27
  go_upto_region 1 with fail
  generalize (((w.alloc (.cells #[.int .i64 F.cap, .slice A1 F.n1 c1, .slice A2 F.n2 c2] 34)).alloc (.cells #[.int .i64 5, .int .i64 id, .int .i64 g, .int .i64 0, .int .i64 0] 56)).alloc (.cells #[.int .i64 0, .slice none 0 0, .slice none 0 0, .int .i64 0, .int .i64 0] 60)) = w1 at *
  obtain ⟨b, hbb⟩ : ∃ b, w.heap.size = b := ⟨_, rfl⟩
  have HBB := Lib.hid hbb
  rw [hbb] at S1 HZ ⊢
  clear hbb
  obtain ⟨u0, u1, u2, v0, v1, v2, v3, v4⟩ := S1.out.cells
  have HFR := Lib.hid fun (w' : World) (hb : Below w1.heap.size w1 w') => HF.out ▸ s_FarmRight F.cap A1 A2 F.n1 c1 F.n2 c2 F.f1 F.f2 w' (S1.out.2.2.2.1.keep hb) HC1.out
  go_upto_region 4 with (first | (go_at_call 39; (with_reducible refine (HFR.out w1 (Below.refl _ _)).mono ?_); rintro e w2 ⟨rfl, hb2⟩; have S2 := Lib.hid (S1.out.keep hb2); obtain ⟨u02, u12, u22, v02, v12, v22, v32, v42⟩ := S2.out.cells; clear hb2) | (go_at_call 70; refine (s_EditRight _ _ _ _ _ _).mono ?_; rintro e w3 ⟨rfl, hb3⟩; rw [HER.out]; have S3 := Lib.hid (S2.out.keep hb3); obtain ⟨u03, u13, u23, v03, v13, v23, v33, v43⟩ := S3.out.cells; clear hb3) | (go_at_call 72; refine (s_l06Copy F.cap A1 A2 F.n1 c1 F.n2 c2 F.f1 F.f2 w3 S3.out.2.2.2.1 (by omega) (by omega)).mono ?_; rintro e w4 ⟨vg, vm, rfl, hO1, hO2, hb4⟩; obtain ⟨G1', d1, rfl, -, -⟩ := hO1.tab; obtain ⟨G2', d2, rfl, -, -⟩ := hO2.tab; have O1 := Lib.hid hO1; have O2 := Lib.hid hO2; have HBC := Lib.hid hb4; clear hO1 hO2 hb4) | fail)
  clear u0 u1 u2 v0 v1 v2 v3 v4 u02 u12 u22 v02 v12 v22 v32 v42 u03 u13 u23 v03 v13 v23 v33 v43
  have P1 := Lib.hid (O1.out.mono (B' := w1.heap.size) S3.out.2.2.2.2.size)
  have P2 := Lib.hid (O2.out.mono (B' := w1.heap.size) S3.out.2.2.2.2.size)
  clear O1 O2
  have S4 := Lib.hid (S3.out.keep HBC.out)
  have al5 := (Below.refl w4.heap.size w4).alloc (Nat.le_refl _) (.cells #[.int .i64 F.cap, .slice G1' F.n1 d1, .slice G2' F.n2 d2] 34)
  have K5 := Lib.hid (Blk.new (w := w4) (B := w4.heap.size) (Nat.le_refl _) #[.int .i64 F.cap, .slice G1' F.n1 d1, .slice G2' F.n2 d2] 34)
  have S5 := Lib.hid (S4.out.keep al5)
  have O1 := Lib.hid (P1.out.keep al5)
  have O2 := Lib.hid (P2.out.keep al5)
  have L5 := Lib.hid (show b + 1 + 1 < w4.heap.size from S4.out.2.2.1.lt)
  have L6 := Lib.hid (show w1.heap.size ≤ w4.heap.size from S4.out.2.2.2.2.size)
  have NX1 := Lib.hid (show ∀ k, (.slice G1' F.n1 d1 : Value).ownBlock = some k → k < w4.heap.size from fun k e => (World.ownsRow.lt P1.out k e).2)
  have NX2 := Lib.hid (show ∀ k, (.slice G2' F.n2 d2 : Value).ownBlock = some k → k < w4.heap.size from fun k e => (World.ownsRow.lt P2.out k e).2)
  clear al5 S4 P1 P2 HBC S3 S2
  generalize (w4.alloc (.cells #[.int .i64 F.cap, .slice G1' F.n1 d1, .slice G2' F.n2 d2] 34)) = w5 at *
  generalize hb5 : w4.heap.size = b5 at *
  clear hb5
  obtain ⟨u0, u1, u2, v0, v1, v2, v3, v4⟩ := S5.out.cells
  obtain ⟨x, hx⟩ : ∃ x, grpIdx F.f2 id 0 F.n2 = x := ⟨_, rfl⟩
  have hxp := hx.symm.trans (grpIdx_pos HR.out.r2 HE0.out)
  have hpn := (has_at HR.out.r2 HE0.out).1
  generalize posT F.n2 F.f2 id = pp at *
  subst hxp
  have Hx := Lib.hid hx
  clear hx
  have bx : decide ((pp : Int) < 0) = false := decide_eq_false (by omega)
  have bg : (g != 0) = true := by have := HE1.out; unfold hasG at this; simp at this; simpa using this.2
  have HG1 := Lib.hid (show hasId F.n1 F.f1 g = false by have := HE1.out; unfold hasG at this; simp at this; exact this.1)
  obtain ⟨y, hy⟩ : ∃ x, grpIdx F.f1 g 0 F.n1 = x := ⟨_, rfl⟩
  have Hy := Lib.hid hy
  have by_ : decide (y < 0) = true := decide_eq_true (by have := grpIdx_no HG1.out; omega)
  clear hy
  go_wp2_with (first | (go_at_call 76; refine (s_l05Group F.cap A1 A2 F.n1 c1 F.n2 c2 F.f1 _ w6 S6.out.2.2.2.1.g (by omega)).mono ?_; rintro e w7 ⟨rfl, hb7⟩; have HB7 := Lib.hid hb7; rw [Hy.out]; have S7 := Lib.hid (S6.out.keep hb7); obtain ⟨u07, u17, u27, v07, v17, v27, v37, v47⟩ := S7.out.cells; clear hb7) | (go_at_call 77; refine (s_l05Member F.cap A1 A2 F.n1 c1 F.n2 c2 F.f2 _ w5 S5.out.2.2.2.1.m (by omega)).mono ?_; rintro e w6 ⟨rfl, hb6⟩; rw [Hx.out]; have S6 := Lib.hid (S5.out.keep hb6); obtain ⟨u06, u16, u26, v06, v16, v26, v36, v46⟩ := S6.out.cells; clear hb6) | (go_at_call 71; refine (s_l06Wrong _ _).mono ?_; rintro e wq ⟨rfl, hbq⟩; have SQ := Lib.hid (S7.out.keep hbq); obtain ⟨z0, z1, z2, z3, z4, y0, y1, y2, y3, y4⟩ := SQ.out.out; clear hbq) | fail)
  exact bodyPost_ret (v := .agg #[.int .i64 0, .slice none 0 0, .slice none 0 0, .int .i64 0, .int .i64 4]) (results_cell_row rfl _ _ _ _ _ _ _ rfl (SQ.out.wrong _).1 hu rfl (by kernel_rfl)) rfl ((SQ.out.wrong 4).2 (by have := HBB.out; omega) (HB.out.trans (SQ.out.2.2.2.2.mono (by have := HZ.out; have := HBB.out; omega))))
set_option maxHeartbeats 8000000 in
theorem s_fe_move_go (F : Fm) (A1 A2 : Option Addr) (c1 c2 : Nat) (id g : Int) (w : World) (h : FarmAt w A1 F.n1 F.f1 A2 F.n2 F.f2) (hc1 : F.n1 ≤ c1) (hc2 : F.n2 ≤ c2) (hf : fmB F = true) (he : edB 5 id g 0 0 = true) (e0 : hasId F.n2 F.f2 id = true) (hg1 : hasId F.n1 F.f1 g = true) (hgn : g ≠ 0) :
    Calls Try.prog 27 #[.agg #[.int .i64 F.cap, .slice A1 F.n1 c1, .slice A2 F.n2 c2], .agg #[.int .i64 5, .int .i64 id, .int .i64 g, .int .i64 0, .int .i64 0]] w (OutV 0 (edF F 5 id g 0 0) w) := by
  have HE0 := Lib.hid e0
  clear e0
  have HG1 := Lib.hid hg1
  have HGN := Lib.hid hgn
  clear hg1 hgn
  have hed := Lib.hid (show edF F 5 id g 0 0 = { F with f2 := setT (posT F.n2 F.f2 id) 1 g F.f2 } from rfl)
  have HF := Lib.hid (show farmB F.cap F.n1 F.f1 F.n2 F.f2 = true from hf)
  have HR := Lib.hid (Right.of hf)
  have hl1 := HR.out.l1
  have hl2 := HR.out.l2
  have HC1 := Lib.hid hc1
  have HC2 := Lib.hid hc2
  have HER := Lib.hid he
  clear hf hc1 hc2 he
  have hu := Try.underlying60
  have S1 := Lib.hid (SpIn.new F A1 A2 c1 c2 5 id g 0 0 w h)
  have HB : Hid (Below w.heap.size w (((w.alloc (.cells #[.int .i64 F.cap, .slice A1 F.n1 c1, .slice A2 F.n2 c2] 34)).alloc (.cells #[.int .i64 5, .int .i64 id, .int .i64 g, .int .i64 0, .int .i64 0] 56)).alloc (.cells #[.int .i64 0, .slice none 0 0, .slice none 0 0, .int .i64 0, .int .i64 0] 60))) := Lib.hid ((((Below.refl w.heap.size w).alloc (Nat.le_refl _) _).alloc (by simp) _).alloc (by simp; omega) _)
  have HZ : Hid ((((w.alloc (.cells #[.int .i64 F.cap, .slice A1 F.n1 c1, .slice A2 F.n2 c2] 34)).alloc (.cells #[.int .i64 5, .int .i64 id, .int .i64 g, .int .i64 0, .int .i64 0] 56)).alloc (.cells #[.int .i64 0, .slice none 0 0, .slice none 0 0, .int .i64 0, .int .i64 0] 60)).heap.size = w.heap.size + 1 + 1 + 1) := Lib.hid (by simp)
  clear h
  go_enter Try.func27, Try.ntmps27
  go_upto_region 1 with fail
  generalize (((w.alloc (.cells #[.int .i64 F.cap, .slice A1 F.n1 c1, .slice A2 F.n2 c2] 34)).alloc (.cells #[.int .i64 5, .int .i64 id, .int .i64 g, .int .i64 0, .int .i64 0] 56)).alloc (.cells #[.int .i64 0, .slice none 0 0, .slice none 0 0, .int .i64 0, .int .i64 0] 60)) = w1 at *
  obtain ⟨b, hbb⟩ : ∃ b, w.heap.size = b := ⟨_, rfl⟩
  have HBB := Lib.hid hbb
  rw [hbb] at S1 HZ ⊢
  clear hbb
  obtain ⟨u0, u1, u2, v0, v1, v2, v3, v4⟩ := S1.out.cells
  have HFR := Lib.hid fun (w' : World) (hb : Below w1.heap.size w1 w') => HF.out ▸ s_FarmRight F.cap A1 A2 F.n1 c1 F.n2 c2 F.f1 F.f2 w' (S1.out.2.2.2.1.keep hb) HC1.out
  go_upto_region 4 with (first | (go_at_call 39; (with_reducible refine (HFR.out w1 (Below.refl _ _)).mono ?_); rintro e w2 ⟨rfl, hb2⟩; have S2 := Lib.hid (S1.out.keep hb2); obtain ⟨u02, u12, u22, v02, v12, v22, v32, v42⟩ := S2.out.cells; clear hb2) | (go_at_call 70; refine (s_EditRight _ _ _ _ _ _).mono ?_; rintro e w3 ⟨rfl, hb3⟩; rw [HER.out]; have S3 := Lib.hid (S2.out.keep hb3); obtain ⟨u03, u13, u23, v03, v13, v23, v33, v43⟩ := S3.out.cells; clear hb3) | (go_at_call 72; refine (s_l06Copy F.cap A1 A2 F.n1 c1 F.n2 c2 F.f1 F.f2 w3 S3.out.2.2.2.1 (by omega) (by omega)).mono ?_; rintro e w4 ⟨vg, vm, rfl, hO1, hO2, hb4⟩; obtain ⟨G1', d1, rfl, -, -⟩ := hO1.tab; obtain ⟨G2', d2, rfl, -, -⟩ := hO2.tab; have O1 := Lib.hid hO1; have O2 := Lib.hid hO2; have HBC := Lib.hid hb4; clear hO1 hO2 hb4) | fail)
  clear u0 u1 u2 v0 v1 v2 v3 v4 u02 u12 u22 v02 v12 v22 v32 v42 u03 u13 u23 v03 v13 v23 v33 v43
  have P1 := Lib.hid (O1.out.mono (B' := w1.heap.size) S3.out.2.2.2.2.size)
  have P2 := Lib.hid (O2.out.mono (B' := w1.heap.size) S3.out.2.2.2.2.size)
  clear O1 O2
  have S4 := Lib.hid (S3.out.keep HBC.out)
  have al5 := (Below.refl w4.heap.size w4).alloc (Nat.le_refl _) (.cells #[.int .i64 F.cap, .slice G1' F.n1 d1, .slice G2' F.n2 d2] 34)
  have K5 := Lib.hid (Blk.new (w := w4) (B := w4.heap.size) (Nat.le_refl _) #[.int .i64 F.cap, .slice G1' F.n1 d1, .slice G2' F.n2 d2] 34)
  have S5 := Lib.hid (S4.out.keep al5)
  have O1 := Lib.hid (P1.out.keep al5)
  have O2 := Lib.hid (P2.out.keep al5)
  have L5 := Lib.hid (show b + 1 + 1 < w4.heap.size from S4.out.2.2.1.lt)
  have L6 := Lib.hid (show w1.heap.size ≤ w4.heap.size from S4.out.2.2.2.2.size)
  have NX1 := Lib.hid (show ∀ k, (.slice G1' F.n1 d1 : Value).ownBlock = some k → k < w4.heap.size from fun k e => (World.ownsRow.lt P1.out k e).2)
  have NX2 := Lib.hid (show ∀ k, (.slice G2' F.n2 d2 : Value).ownBlock = some k → k < w4.heap.size from fun k e => (World.ownsRow.lt P2.out k e).2)
  clear al5 S4 P1 P2 HBC S3 S2
  generalize (w4.alloc (.cells #[.int .i64 F.cap, .slice G1' F.n1 d1, .slice G2' F.n2 d2] 34)) = w5 at *
  generalize hb5 : w4.heap.size = b5 at *
  clear hb5
  obtain ⟨u0, u1, u2, v0, v1, v2, v3, v4⟩ := S5.out.cells
  obtain ⟨x, hx⟩ : ∃ x, grpIdx F.f2 id 0 F.n2 = x := ⟨_, rfl⟩
  have hxp := hx.symm.trans (grpIdx_pos HR.out.r2 HE0.out)
  have hpn := (has_at HR.out.r2 HE0.out).1
  generalize posT F.n2 F.f2 id = pp at *
  subst hxp
  have Hx := Lib.hid hx
  clear hx
  have bx : decide ((pp : Int) < 0) = false := decide_eq_false (by omega)
  have bg : (g != 0) = true := by simpa using HGN.out
  obtain ⟨y, hy⟩ : ∃ x, grpIdx F.f1 g 0 F.n1 = x := ⟨_, rfl⟩
  have Hy := Lib.hid hy
  have by_ : decide (y < 0) = false := decide_eq_false (by rw [← hy, grpIdx_pos HR.out.r1 HG1.out]; omega)
  clear hy
  go_upto_region 24 with (first | (go_at_call 76; refine (s_l05Group F.cap A1 A2 F.n1 c1 F.n2 c2 F.f1 _ w6 S6.out.2.2.2.1.g (by omega)).mono ?_; rintro e w7 ⟨rfl, hb7⟩; have HB7 := Lib.hid hb7; rw [Hy.out]; have S7 := Lib.hid (S6.out.keep hb7); obtain ⟨u07, u17, u27, v07, v17, v27, v37, v47⟩ := S7.out.cells; clear hb7) | (go_at_call 77; refine (s_l05Member F.cap A1 A2 F.n1 c1 F.n2 c2 F.f2 _ w5 S5.out.2.2.2.1.m (by omega)).mono ?_; rintro e w6 ⟨rfl, hb6⟩; have HB6 := Lib.hid hb6; rw [Hx.out]; have S6 := Lib.hid (S5.out.keep hb6); obtain ⟨u06, u16, u26, v06, v16, v26, v36, v46⟩ := S6.out.cells; clear hb6) | fail)
  clear u0 u1 u2 v0 v1 v3 v4 u06 u16 u26 v06 v16 v36 v46 u07 u17 u27 v07 v17 v37 v47
  have BN := Lib.hid (show Below w5.heap.size w5 w7 from btrans HB6.out HB7.out)
  obtain ⟨h', _⟩ | ⟨gk, ck, cur, h', hgb, hgl, hgg, -⟩ := O2.out.form
  · simp only [Value.slice.injEq] at h'; omega
  simp only [Value.slice.injEq] at h'
  obtain ⟨rfl, -, rfl⟩ := h'
  have HNG := Lib.hid (show gk < b5 from NX2.out gk rfl)
  have NO := Lib.hid (show (.slice G1' F.n1 d1 : Value).ownBlock ≠ some gk from fun e => O2.out.ne O1.out (by decide) rfl e)
  have K7 := Lib.hid ((K5.out.keep BN.out).setf (p := ⟨gk, pp * 4 + 1, none⟩) (by have := HNG.out; simp; omega) (.int .i64 g))
  have T7 := Lib.hid ((O2.out.keep BN.out).setAt (j := 1) hpn (by decide) g)
  have U7 := Lib.hid ((O1.out.keep BN.out).setf (p := ⟨gk, pp * 4 + 1, none⟩) NO.out (.int .i64 g))
  have B7 := Lib.hid (show Below w1.heap.size w5 (w7.setCell ⟨gk, pp * 4 + 1, none⟩ (.int .i64 g)) from (BN.out.mono (by have := L6.out; have := K5.out.lt; omega)).setCell (p := ⟨gk, pp * 4 + 1, none⟩) hgb (.int .i64 g))
  have hp0 : (0 : Int) ≤ (pp : Int) := by omega
  have hp1 : (pp : Int) < (F.n2 : Int) := by omega
  have x1 := ((K5.out.keep BN.out).cell 2).trans rfl
  have x3 := (O2.out.keep BN.out).cell (i := pp) (j := 1) hpn (by decide)
  have f3 := ((show Blk w5 w1.heap.size gk cur 91 from ⟨hgb, hgg⟩).keep BN.out).frozen (pp * 4 + 1)
  clear hgg hgl hgb
  go_upto_region 31 with fail
  clear x1 x3 f3 hp0 hp1
  generalize (w7.setCell ⟨gk, pp * 4 + 1, none⟩ (.int .i64 g)) = w8 at *
  have BE := Lib.hid (S5.out.2.2.2.2.trans B7.out)
  have SE := Lib.hid (S1.out.keep BE.out)
  obtain ⟨z0, z1, z2, z3, z4, y0, y1, y2, y3, y4⟩ := SE.out.out
  have k0 := (K7.out.cell 0).trans rfl
  have k1 := (K7.out.cell 1).trans rfl
  have k2 := (K7.out.cell 2).trans rfl
  have hne : b5 ≠ b + 1 + 1 := by have := L5.out; omega
  have FV := Lib.hid (show FarmV w8 w1.heap.size (edF F 5 id g 0 0) (.slice G1' F.n1 d1) (.slice (some ⟨gk, 0, none⟩) F.n2 d2) from by rw [hed.out]; exact ⟨U7.out, T7.out⟩)
  go_wp2_with fail
  all_goals (have FV2 := FV.out; rw [hed.out] at FV2 ⊢; exact bodyPost_ret (results_cell_row rfl _ _ _ _ _ _ _ rfl (SE.out.give FV2 0).1 hu rfl (by kernel_rfl)) rfl ((SE.out.give FV2 0).2 (by have := HBB.out; omega) (by have := HBB.out; have := HZ.out; omega) (HB.out.trans (BE.out.mono (by have := HZ.out; have := HBB.out; omega)))))
set_option maxHeartbeats 8000000 in
theorem s_fe_move_go0 (F : Fm) (A1 A2 : Option Addr) (c1 c2 : Nat) (id : Int) (w : World) (h : FarmAt w A1 F.n1 F.f1 A2 F.n2 F.f2) (hc1 : F.n1 ≤ c1) (hc2 : F.n2 ≤ c2) (hf : fmB F = true) (he : edB 5 id 0 0 0 = true) (e0 : hasId F.n2 F.f2 id = true) :
    Calls Try.prog 27 #[.agg #[.int .i64 F.cap, .slice A1 F.n1 c1, .slice A2 F.n2 c2], .agg #[.int .i64 5, .int .i64 id, .int .i64 0, .int .i64 0, .int .i64 0]] w (OutV 0 (edF F 5 id 0 0 0) w) := by
  have HE0 := Lib.hid e0
  clear e0
  have hed := Lib.hid (show edF F 5 id 0 0 0 = { F with f2 := setT (posT F.n2 F.f2 id) 1 0 F.f2 } from rfl)
  have HF := Lib.hid (show farmB F.cap F.n1 F.f1 F.n2 F.f2 = true from hf)
  have HR := Lib.hid (Right.of hf)
  have hl1 := HR.out.l1
  have hl2 := HR.out.l2
  have HC1 := Lib.hid hc1
  have HC2 := Lib.hid hc2
  have HER := Lib.hid he
  clear hf hc1 hc2 he
  have hu := Try.underlying60
  have S1 := Lib.hid (SpIn.new F A1 A2 c1 c2 5 id 0 0 0 w h)
  have HB : Hid (Below w.heap.size w (((w.alloc (.cells #[.int .i64 F.cap, .slice A1 F.n1 c1, .slice A2 F.n2 c2] 34)).alloc (.cells #[.int .i64 5, .int .i64 id, .int .i64 0, .int .i64 0, .int .i64 0] 56)).alloc (.cells #[.int .i64 0, .slice none 0 0, .slice none 0 0, .int .i64 0, .int .i64 0] 60))) := Lib.hid ((((Below.refl w.heap.size w).alloc (Nat.le_refl _) _).alloc (by simp) _).alloc (by simp; omega) _)
  have HZ : Hid ((((w.alloc (.cells #[.int .i64 F.cap, .slice A1 F.n1 c1, .slice A2 F.n2 c2] 34)).alloc (.cells #[.int .i64 5, .int .i64 id, .int .i64 0, .int .i64 0, .int .i64 0] 56)).alloc (.cells #[.int .i64 0, .slice none 0 0, .slice none 0 0, .int .i64 0, .int .i64 0] 60)).heap.size = w.heap.size + 1 + 1 + 1) := Lib.hid (by simp)
  clear h
  go_enter Try.func27, Try.ntmps27
  go_upto_region 1 with fail
  generalize (((w.alloc (.cells #[.int .i64 F.cap, .slice A1 F.n1 c1, .slice A2 F.n2 c2] 34)).alloc (.cells #[.int .i64 5, .int .i64 id, .int .i64 0, .int .i64 0, .int .i64 0] 56)).alloc (.cells #[.int .i64 0, .slice none 0 0, .slice none 0 0, .int .i64 0, .int .i64 0] 60)) = w1 at *
  obtain ⟨b, hbb⟩ : ∃ b, w.heap.size = b := ⟨_, rfl⟩
  have HBB := Lib.hid hbb
  rw [hbb] at S1 HZ ⊢
  clear hbb
  obtain ⟨u0, u1, u2, v0, v1, v2, v3, v4⟩ := S1.out.cells
  have HFR := Lib.hid fun (w' : World) (hb : Below w1.heap.size w1 w') => HF.out ▸ s_FarmRight F.cap A1 A2 F.n1 c1 F.n2 c2 F.f1 F.f2 w' (S1.out.2.2.2.1.keep hb) HC1.out
  go_upto_region 4 with (first | (go_at_call 39; (with_reducible refine (HFR.out w1 (Below.refl _ _)).mono ?_); rintro e w2 ⟨rfl, hb2⟩; have S2 := Lib.hid (S1.out.keep hb2); obtain ⟨u02, u12, u22, v02, v12, v22, v32, v42⟩ := S2.out.cells; clear hb2) | (go_at_call 70; refine (s_EditRight _ _ _ _ _ _).mono ?_; rintro e w3 ⟨rfl, hb3⟩; rw [HER.out]; have S3 := Lib.hid (S2.out.keep hb3); obtain ⟨u03, u13, u23, v03, v13, v23, v33, v43⟩ := S3.out.cells; clear hb3) | (go_at_call 72; refine (s_l06Copy F.cap A1 A2 F.n1 c1 F.n2 c2 F.f1 F.f2 w3 S3.out.2.2.2.1 (by omega) (by omega)).mono ?_; rintro e w4 ⟨vg, vm, rfl, hO1, hO2, hb4⟩; obtain ⟨G1', d1, rfl, -, -⟩ := hO1.tab; obtain ⟨G2', d2, rfl, -, -⟩ := hO2.tab; have O1 := Lib.hid hO1; have O2 := Lib.hid hO2; have HBC := Lib.hid hb4; clear hO1 hO2 hb4) | fail)
  clear u0 u1 u2 v0 v1 v2 v3 v4 u02 u12 u22 v02 v12 v22 v32 v42 u03 u13 u23 v03 v13 v23 v33 v43
  have P1 := Lib.hid (O1.out.mono (B' := w1.heap.size) S3.out.2.2.2.2.size)
  have P2 := Lib.hid (O2.out.mono (B' := w1.heap.size) S3.out.2.2.2.2.size)
  clear O1 O2
  have S4 := Lib.hid (S3.out.keep HBC.out)
  have al5 := (Below.refl w4.heap.size w4).alloc (Nat.le_refl _) (.cells #[.int .i64 F.cap, .slice G1' F.n1 d1, .slice G2' F.n2 d2] 34)
  have K5 := Lib.hid (Blk.new (w := w4) (B := w4.heap.size) (Nat.le_refl _) #[.int .i64 F.cap, .slice G1' F.n1 d1, .slice G2' F.n2 d2] 34)
  have S5 := Lib.hid (S4.out.keep al5)
  have O1 := Lib.hid (P1.out.keep al5)
  have O2 := Lib.hid (P2.out.keep al5)
  have L5 := Lib.hid (show b + 1 + 1 < w4.heap.size from S4.out.2.2.1.lt)
  have L6 := Lib.hid (show w1.heap.size ≤ w4.heap.size from S4.out.2.2.2.2.size)
  have NX1 := Lib.hid (show ∀ k, (.slice G1' F.n1 d1 : Value).ownBlock = some k → k < w4.heap.size from fun k e => (World.ownsRow.lt P1.out k e).2)
  have NX2 := Lib.hid (show ∀ k, (.slice G2' F.n2 d2 : Value).ownBlock = some k → k < w4.heap.size from fun k e => (World.ownsRow.lt P2.out k e).2)
  clear al5 S4 P1 P2 HBC S3 S2
  generalize (w4.alloc (.cells #[.int .i64 F.cap, .slice G1' F.n1 d1, .slice G2' F.n2 d2] 34)) = w5 at *
  generalize hb5 : w4.heap.size = b5 at *
  clear hb5
  obtain ⟨u0, u1, u2, v0, v1, v2, v3, v4⟩ := S5.out.cells
  obtain ⟨x, hx⟩ : ∃ x, grpIdx F.f2 id 0 F.n2 = x := ⟨_, rfl⟩
  have hxp := hx.symm.trans (grpIdx_pos HR.out.r2 HE0.out)
  have hpn := (has_at HR.out.r2 HE0.out).1
  generalize posT F.n2 F.f2 id = pp at *
  subst hxp
  have Hx := Lib.hid hx
  clear hx
  have bx : decide ((pp : Int) < 0) = false := decide_eq_false (by omega)
  go_upto_region 24 with (first | (go_at_call 77; refine (s_l05Member F.cap A1 A2 F.n1 c1 F.n2 c2 F.f2 _ w5 S5.out.2.2.2.1.m (by omega)).mono ?_; rintro e w6 ⟨rfl, hb6⟩; have HB6 := Lib.hid hb6; rw [Hx.out]; have S6 := Lib.hid (S5.out.keep hb6); obtain ⟨u06, u16, u26, v06, v16, v26, v36, v46⟩ := S6.out.cells; clear hb6) | fail)
  clear u0 u1 u2 v0 v1 v3 v4 u06 u16 u26 v06 v16 v36 v46
  have BN := Lib.hid (show Below w5.heap.size w5 w6 from HB6.out)
  obtain ⟨h', _⟩ | ⟨gk, ck, cur, h', hgb, hgl, hgg, -⟩ := O2.out.form
  · simp only [Value.slice.injEq] at h'; omega
  simp only [Value.slice.injEq] at h'
  obtain ⟨rfl, -, rfl⟩ := h'
  have HNG := Lib.hid (show gk < b5 from NX2.out gk rfl)
  have NO := Lib.hid (show (.slice G1' F.n1 d1 : Value).ownBlock ≠ some gk from fun e => O2.out.ne O1.out (by decide) rfl e)
  have K7 := Lib.hid ((K5.out.keep BN.out).setf (p := ⟨gk, pp * 4 + 1, none⟩) (by have := HNG.out; simp; omega) (.int .i64 0))
  have T7 := Lib.hid ((O2.out.keep BN.out).setAt (j := 1) hpn (by decide) 0)
  have U7 := Lib.hid ((O1.out.keep BN.out).setf (p := ⟨gk, pp * 4 + 1, none⟩) NO.out (.int .i64 0))
  have B7 := Lib.hid (show Below w1.heap.size w5 (w6.setCell ⟨gk, pp * 4 + 1, none⟩ (.int .i64 0)) from (BN.out.mono (by have := L6.out; have := K5.out.lt; omega)).setCell (p := ⟨gk, pp * 4 + 1, none⟩) hgb (.int .i64 0))
  have hp0 : (0 : Int) ≤ (pp : Int) := by omega
  have hp1 : (pp : Int) < (F.n2 : Int) := by omega
  have x1 := ((K5.out.keep BN.out).cell 2).trans rfl
  have x3 := (O2.out.keep BN.out).cell (i := pp) (j := 1) hpn (by decide)
  have f3 := ((show Blk w5 w1.heap.size gk cur 91 from ⟨hgb, hgg⟩).keep BN.out).frozen (pp * 4 + 1)
  clear hgg hgl hgb
  go_upto_region 31 with fail
  clear x1 x3 f3 hp0 hp1
  generalize (w6.setCell ⟨gk, pp * 4 + 1, none⟩ (.int .i64 0)) = w8 at *
  have BE := Lib.hid (S5.out.2.2.2.2.trans B7.out)
  have SE := Lib.hid (S1.out.keep BE.out)
  obtain ⟨z0, z1, z2, z3, z4, y0, y1, y2, y3, y4⟩ := SE.out.out
  have k0 := (K7.out.cell 0).trans rfl
  have k1 := (K7.out.cell 1).trans rfl
  have k2 := (K7.out.cell 2).trans rfl
  have hne : b5 ≠ b + 1 + 1 := by have := L5.out; omega
  have FV := Lib.hid (show FarmV w8 w1.heap.size (edF F 5 id 0 0 0) (.slice G1' F.n1 d1) (.slice (some ⟨gk, 0, none⟩) F.n2 d2) from by rw [hed.out]; exact ⟨U7.out, T7.out⟩)
  go_wp2_with fail
  all_goals (have FV2 := FV.out; rw [hed.out] at FV2 ⊢; exact bodyPost_ret (results_cell_row rfl _ _ _ _ _ _ _ rfl (SE.out.give FV2 0).1 hu rfl (by kernel_rfl)) rfl ((SE.out.give FV2 0).2 (by have := HBB.out; omega) (by have := HBB.out; have := HZ.out; omega) (HB.out.trans (BE.out.mono (by have := HZ.out; have := HBB.out; omega)))))
end Go.Proofs.Ytipkbapnhgdpeaa.C
