/- The law FnExactFarmBack, walked. No condition. -/
import Derived.Test.YtipkbapnhgdpeaaLFarmF
import Derived.Test.YtipkbapnhgdpeaaFBs
import Derived.Test.YtipkbapnhgdpeaaFBt
import Derived.Test.YtipkbapnhgdpeaaFBu
import Derived.Test.YtipkbapnhgdpeaaOFnExactFarmBack
namespace Go.Proofs.Ytipkbapnhgdpeaa.C
open Go.RowKit Go.Proofs.Ytipkbapnhgdpeaa.Rd
set_option maxRecDepth 100000
set_option linter.unusedVariables false
set_option linter.unusedSimpArgs false
attribute [local go_sem ↓] Go.wp_at_zero Go.wp_at_succ
theorem fe_ok {F : Fm} {k id g a c : Int} (h : feC F k id g a c = 0) : fmB F = true ∧ isEdB k id g a c = true ∧ edC F k id g a c = 0 := by
  unfold feC at h
  by_cases h1 : fmB F = true
  · rw [if_pos h1] at h
    by_cases h2 : isEdB k id g a c = true
    · rw [if_pos h2] at h; exact ⟨h1, h2, h⟩
    · rw [if_neg h2] at h; omega
  · rw [if_neg h1] at h; omega
theorem both_back (F : Fm) (k id g a c : Int) : ∃ x y z p q : Int, (∀ (A1 A2 : Option Addr) (c1 c2 : Nat) (w : World), FarmAt w A1 F.n1 F.f1 A2 F.n2 F.f2 → F.n1 ≤ c1 → F.n2 ≤ c2 → Calls Try.prog 29 #[.agg #[.int .i64 F.cap, .slice A1 F.n1 c1, .slice A2 F.n2 c2], .agg #[.int .i64 k, .int .i64 id, .int .i64 g, .int .i64 a, .int .i64 c]] w (EdV x y z p q w)) ∧ (∀ (A1 A2 : Option Addr) (c1 c2 : Nat) (w : World), FarmAt w A1 F.n1 F.f1 A2 F.n2 F.f2 → F.n1 ≤ c1 → F.n2 ≤ c2 → Calls Try.prog 33 #[.agg #[.int .i64 F.cap, .slice A1 F.n1 c1, .slice A2 F.n2 c2], .agg #[.int .i64 k, .int .i64 id, .int .i64 g, .int .i64 a, .int .i64 c]] w (EdV x y z p q w)) := by
  by_cases h0 : feC F k id g a c = 0
  case neg => exact ⟨0, 0, 0, 0, 0, fun A1 A2 c1 c2 w h l1 l2 => c_fb_no F A1 A2 c1 c2 k id g a c w h l1 l2 h0, fun A1 A2 c1 c2 w h l1 l2 => s_fb_no F A1 A2 c1 c2 k id g a c w h l1 l2 h0⟩
  obtain ⟨hf, hi, hc⟩ := fe_ok h0
  have hgo := EdGo.of (EdOk.of hi) hc
  generalize edF F k id g a c = G at hgo
  have hr := Right.of hf
  have g0 : hasId F.n1 F.f1 0 = false := by
    rcases e : hasId F.n1 F.f1 0 with _ | _
    · rfl
    · exact absurd (has_at hr.r1 e).2 (by have := (hr.g _ (has_at hr.r1 e).1).1; omega)
  cases hgo with
  | join hi' hr' ha hb h1 h2 h3 =>
    refine ⟨_, _, _, _, _, fun A1 A2 c1 c2 w h l1 l2 => c_fb_join F A1 A2 c1 c2 id g a c w h l1 l2 hf h0, fun A1 A2 c1 c2 w h l1 l2 => ?_⟩
    rcases e : hasId F.n1 F.f1 id with _ | _
    · exact s_fb_join_false F A1 A2 c1 c2 id g a c w h l1 l2 hf h0 h1 e
    · exact s_fb_join_true F A1 A2 c1 c2 id g a c w h l1 l2 hf h0 h1 e
  | group hi' hr' ha hb hg h1 h2 h3 =>
    refine ⟨_, _, _, _, _, fun A1 A2 c1 c2 w h l1 l2 => c_fb_group F A1 A2 c1 c2 id g a c w h l1 l2 hf h0, fun A1 A2 c1 c2 w h l1 l2 => ?_⟩
    rcases e : hasId F.n2 F.f2 id with _ | _
    · exact s_fb_group_false F A1 A2 c1 c2 id g a c w h l1 l2 hf h0 e h1
    · exact s_fb_group_true F A1 A2 c1 c2 id g a c w h l1 l2 hf h0 e h1
  | drop hi' h1 h2 h3 =>
    refine ⟨_, _, _, _, _, fun A1 A2 c1 c2 w h l1 l2 => c_fb_drop F A1 A2 c1 c2 id w h l1 l2 hf h0 h1, fun A1 A2 c1 c2 w h l1 l2 => ?_⟩
    rcases e : hasId F.n2 F.f2 id with _ | _
    · exact s_fb_drop_false F A1 A2 c1 c2 id w h l1 l2 hf h0 e h1
    · exact s_fb_drop_true F A1 A2 c1 c2 id w h l1 l2 hf h0 e h1
  | cap0 ha =>
    refine ⟨_, _, _, _, _, fun A1 A2 c1 c2 w h l1 l2 => c_fb_cap0 F A1 A2 c1 c2 a w h l1 l2 hf h0, fun A1 A2 c1 c2 w h l1 l2 => ?_⟩
    rcases e : hasId F.n2 F.f2 0 with _ | _
    · exact s_fb_cap0_false F A1 A2 c1 c2 a w h l1 l2 hf h0 e g0
    · exact s_fb_cap0_true F A1 A2 c1 c2 a w h l1 l2 hf h0 e g0
  | cap hi' ha h1 =>
    refine ⟨_, _, _, _, _, fun A1 A2 c1 c2 w h l1 l2 => c_fb_cap F A1 A2 c1 c2 id a w h l1 l2 hf h0 h1, fun A1 A2 c1 c2 w h l1 l2 => ?_⟩
    rcases e : hasId F.n2 F.f2 id with _ | _
    · exact s_fb_cap_false F A1 A2 c1 c2 id a w h l1 l2 hf h0 e h1
    · exact s_fb_cap_true F A1 A2 c1 c2 id a w h l1 l2 hf h0 e h1
  | leave hi' h1 =>
    refine ⟨_, _, _, _, _, fun A1 A2 c1 c2 w h l1 l2 => c_fb_leave F A1 A2 c1 c2 id w h l1 l2 hf h0 h1, fun A1 A2 c1 c2 w h l1 l2 => ?_⟩
    rcases e : hasId F.n1 F.f1 id with _ | _
    · exact s_fb_leave_false F A1 A2 c1 c2 id w h l1 l2 hf h0 h1 e
    · exact s_fb_leave_true F A1 A2 c1 c2 id w h l1 l2 hf h0 h1 e
  | want hi' ha h1 =>
    refine ⟨_, _, _, _, _, fun A1 A2 c1 c2 w h l1 l2 => c_fb_want F A1 A2 c1 c2 id a w h l1 l2 hf h0 h1, fun A1 A2 c1 c2 w h l1 l2 => ?_⟩
    rcases e : hasId F.n1 F.f1 id with _ | _
    · exact s_fb_want_false F A1 A2 c1 c2 id a w h l1 l2 hf h0 h1 e
    · exact s_fb_want_true F A1 A2 c1 c2 id a w h l1 l2 hf h0 h1 e
  | weight hi' ha h1 =>
    refine ⟨_, _, _, _, _, fun A1 A2 c1 c2 w h l1 l2 => c_fb_weight F A1 A2 c1 c2 id a w h l1 l2 hf h0 h1, fun A1 A2 c1 c2 w h l1 l2 => ?_⟩
    rcases e : hasId F.n1 F.f1 id with _ | _
    · exact s_fb_weight_false F A1 A2 c1 c2 id a w h l1 l2 hf h0 h1 e
    · exact s_fb_weight_true F A1 A2 c1 c2 id a w h l1 l2 hf h0 h1 e
  | move hi' hr' h1 h2 =>
    refine ⟨_, _, _, _, _, fun A1 A2 c1 c2 w h l1 l2 => c_fb_move F A1 A2 c1 c2 id g w h l1 l2 hf h0 h1, fun A1 A2 c1 c2 w h l1 l2 => ?_⟩
    rcases e : hasId F.n1 F.f1 id with _ | _
    · exact s_fb_move_false F A1 A2 c1 c2 id g w h l1 l2 hf h0 h1 e
    · exact s_fb_move_true F A1 A2 c1 c2 id g w h l1 l2 hf h0 h1 e
set_option maxHeartbeats 8000000 in
theorem farmBack_law (F : Fm) (A1 A2 : Option Addr) (c1 c2 : Nat) (k id g a c : Int) (w : World) (h1 : TabA 4 w A1 F.n1 F.f1) (h2 : TabA 4 w A2 F.n2 F.f2) (m1 : F.n1 ≤ 9223372036854775807) (m2 : F.n2 ≤ 9223372036854775807) :
    Calls Try.prog 8 #[.agg #[.int .i64 F.cap, .slice A1 F.n1 c1, .slice A2 F.n2 c2], .agg #[.int .i64 k, .int .i64 id, .int .i64 g, .int .i64 a, .int .i64 c]] w fun e w' => e = .returned (.bool true) ∧ Below w.heap.size w w' := by
  have L1 := Lib.hid (LwIn.new F A1 A2 c1 c2 k id g a c w h1 h2)
  have HB : Hid (Below w.heap.size w ((w.alloc (.cells #[.int .i64 F.cap, .slice A1 F.n1 c1, .slice A2 F.n2 c2] 25)).alloc (.cells #[.int .i64 k, .int .i64 id, .int .i64 g, .int .i64 a, .int .i64 c] 66))) := Lib.hid (((Below.refl w.heap.size w).alloc (Nat.le_refl _) _).alloc (by simp) _)
  have HZ : Hid (((w.alloc (.cells #[.int .i64 F.cap, .slice A1 F.n1 c1, .slice A2 F.n2 c2] 25)).alloc (.cells #[.int .i64 k, .int .i64 id, .int .i64 g, .int .i64 a, .int .i64 c] 66)).heap.size = w.heap.size + 1 + 1) := Lib.hid (by simp)
  clear h1 h2
  go_enter Try.func8, Try.ntmps8
  go_upto_region 2 with fail
  generalize ((w.alloc (.cells #[.int .i64 F.cap, .slice A1 F.n1 c1, .slice A2 F.n2 c2] 25)).alloc (.cells #[.int .i64 k, .int .i64 id, .int .i64 g, .int .i64 a, .int .i64 c] 66)) = w1 at *
  obtain ⟨b, hbb⟩ : ∃ b, w.heap.size = b := ⟨_, rfl⟩
  have HBB := Lib.hid hbb
  rw [hbb] at L1 HZ ⊢
  clear hbb
  obtain ⟨u0, u1, u2, v0, v1, v2, v3, v4⟩ := L1.out.cells
  have HSZ := Lib.hid fun (w' : World) => c_szFarm F.cap A1 A2 F.n1 c1 F.n2 c2 1048576 w' (by omega) (by omega) m1 m2
  by_cases hs : (if 1048576 - (F.n1 : Int) - F.n2 < 0 then (-1 : Int) else 1048576 - F.n1 - F.n2) < 0
  case pos =>
    have bs : decide ((if 1048576 - (F.n1 : Int) - F.n2 < 0 then (-1 : Int) else 1048576 - F.n1 - F.n2) < 0) = true := decide_eq_true hs
    generalize (if 1048576 - (F.n1 : Int) - F.n2 < 0 then (-1 : Int) else 1048576 - F.n1 - F.n2) = sz at *
    go_wp2_with (first | (go_at_call 32; (with_reducible refine (HSZ.out w1).mono ?_); rintro e w2 ⟨rfl, hb2⟩; have HB2 := Lib.hid hb2; clear hb2) | fail)
    go_ret
    exact ⟨rfl, HB.out.trans (HB2.out.mono (by have := HZ.out; have := HBB.out; omega))⟩
  have bs : decide ((if 1048576 - (F.n1 : Int) - F.n2 < 0 then (-1 : Int) else 1048576 - F.n1 - F.n2) < 0) = false := decide_eq_false hs
  have hn : F.n1 ≤ 1048576 ∧ F.n2 ≤ 1048576 := by
    by_cases hq : 1048576 - (F.n1 : Int) - F.n2 < 0
    · rw [if_pos hq] at hs; omega
    · omega
  obtain ⟨hn1, hn2⟩ := hn
  clear hs
  generalize (if 1048576 - (F.n1 : Int) - F.n2 < 0 then (-1 : Int) else 1048576 - F.n1 - F.n2) = sz at *
  obtain ⟨x, y, z, p, q, hbi, hbs⟩ := both_back F k id g a c
  have HIF := Lib.hid hbi
  have HSF := Lib.hid hbs
  unfold EdV at HIF HSF
  clear hbi hbs
  have HTF := Lib.hid fun (wb w' : World) (h : LwIn b wb F A1 A2 c1 c2 k id g a c w') => c_toFarmO F.cap A1 A2 F.n1 c1 F.n2 c2 F.f1 F.f2 w' h.t1 h.t2 (by omega) (by omega)
  go_upto_region 5 with (first | (go_at_call 32; (with_reducible refine (HSZ.out w1).mono ?_); rintro e w2 ⟨rfl, hb2⟩; have L2 := Lib.hid (L1.out.keep hb2); clear hb2) | fail)
  clear u0 u1 u2 v0 v1 v2 v3 v4 bs
  have hz := L2.out.bel.size
  have hz12 := Lib.hid hz
  have L1B := Lib.hid L2.out.bel
  have N2 := Lib.hid L2.out.anew
  go_cut [6] (fun v6 wc => ∃ (wx : World) (b6 : Nat), wx = wc ∧ v6 = .pointer (some ⟨b6, 0, none⟩) ∧ Hid (Blk wx 0 b6 #[.int .i64 x, .int .i64 y, .int .i64 z, .int .i64 p, .int .i64 q] 56) ∧ Hid (LwIn b w2 F A1 A2 c1 c2 k id g a c wx))
  case first =>
    go_region_held3 (fun w' => w'.cell? ⟨b, 0, none⟩ = some (.int .i64 F.cap) ∧ w'.cell? ⟨b, 1, none⟩ = some (.slice A1 F.n1 c1) ∧ w'.cell? ⟨b, 2, none⟩ = some (.slice A2 F.n2 c2) ∧ w'.cell? ⟨b + 1, 0, none⟩ = some (.int .i64 k) ∧ w'.cell? ⟨b + 1, 1, none⟩ = some (.int .i64 id) ∧ w'.cell? ⟨b + 1, 2, none⟩ = some (.int .i64 g) ∧ w'.cell? ⟨b + 1, 3, none⟩ = some (.int .i64 a) ∧ w'.cell? ⟨b + 1, 4, none⟩ = some (.int .i64 c) ∧ LwIn b w2 F A1 A2 c1 c2 k id g a c w') (first | exact N2.out.drew.all | exact hB.all | exact (LwIn.setRow (LwIn.pick (by assumption)) N2.out hge _).all | exact (LwIn.alloc (LwIn.pick (by assumption)) _).all) (first | (go_at_call 34; refine (HTF.out _ _ (LwIn.pick (by assumption))).mono ?_; rintro e wf ⟨vg, vm, rfl, hO1, hO2, hbf⟩; have hB := (LwIn.pick (by assumption)).keep hbf; have hz := hB.bel.size; obtain ⟨Y1, e1, rfl, hd1, hT1⟩ := hO1.tab; obtain ⟨Y2, e2, rfl, hd2, hT2⟩ := hO2.tab; have HFA := Lib.hid (show FarmAt wf Y1 F.n1 F.f1 Y2 F.n2 F.f2 from ⟨hT1, hT2⟩); clear hO1 hO2 hT1 hT2) | (go_at_call 35; refine (c_toEdit _ _ _ _ _ _).mono ?_; rintro e we ⟨rfl, hbe⟩; have hB := (LwIn.pick (by assumption)).keep hbe; have hz := hB.bel.size) | (go_at_call 33; refine (HSF.out _ _ _ _ _ (by (repeat (first | exact HFA.out | (with_reducible refine FarmAt.alloc ?_ _) | (with_reducible refine FarmAt.drew ?_) | refine FarmAt.keep ?_ (by assumption)))) hd1 hd2).mono ?_; rintro e w5 ⟨rfl, hb5⟩; have hB := (LwIn.pick (by assumption)).keep hb5; have hz := hB.bel.size; obtain ⟨r, hr⟩ : ∃ r, #[Value.int .i64 x, .int .i64 y, .int .i64 z, .int .i64 p, .int .i64 q] = r := ⟨_, rfl⟩; rw [hr]; have HRW := Lib.hid hr; have hsz : r.size = 5 := (by rw [← hr]; rfl); have HON := Lib.hid (show r.all (·.oneCell') = true by rw [← hr]; simp [Value.oneCell']); clear hr) | ((with_reducible refine upon_store_cells (B := w2.heap.size) (n := 5) (t := 56) ?_ hsz HON.out (fun hblk hge => ?_)); focus ((repeat (first | exact Room.new (by first | omega | (simp; done) | (simp; omega)) rfl | (with_reducible refine Room.drew ?_) | refine Room.keep ?_ (by assumption))))))
    all_goals (go_wp2_with fail; go_meet; exact ⟨_, _, rfl, rfl, Lib.hid ((hblk.base (Nat.zero_le _)).cast HRW.out.symm), Lib.hid (LwIn.pick (by assumption))⟩)
  case rest =>
    obtain ⟨w3, b6, rfl, rfl, K6, HL3⟩ := hcut
    clear N2 L2 hz
    have L3 := Lib.hid (LwIn.anew HL3.out)
    have B3 := Lib.hid HL3.out.bel
    obtain ⟨u0, u1, u2, v0, v1, v2, v3, v4⟩ := L3.out.cells
    go_upto_region 7 with (first
      | (go_at_call 34; refine (HTF.out _ _ L3.out).mono ?_; rintro e wf ⟨vg, vm, rfl, hO1, hO2, hbf⟩; obtain ⟨P1, p1, rfl, hp1, -⟩ := hO1.tab; obtain ⟨P2, p2, rfl, hp2, -⟩ := hO2.tab; have O1 := Lib.hid hO1; have O2 := Lib.hid hO2; have HBF := Lib.hid hbf; clear hO1 hO2 hbf)
      | fail)
    have al := (Below.refl wf.heap.size wf).alloc (Nat.le_refl _) (.cells #[.int .i64 F.cap, .slice P1 F.n1 p1, .slice P2 F.n2 p2] 34)
    have K7 := Lib.hid (Blk.new (w := wf) (B := 0) (Nat.zero_le _) #[.int .i64 F.cap, .slice P1 F.n1 p1, .slice P2 F.n2 p2] 34)
    have Q1 := Lib.hid (O1.out.keep al)
    have Q2 := Lib.hid (O2.out.keep al)
    have B4 := Lib.hid (btrans HBF.out al)
    have l7 : wf.heap.size < (wf.alloc (.cells #[.int .i64 F.cap, .slice P1 F.n1 p1, .slice P2 F.n2 p2] 34)).heap.size := K7.out.lt
    have L7 := Lib.hid l7
    clear l7 al O1 O2 HBF u0 u1 u2 v0 v1 v2 v3 v4
    generalize (wf.alloc (.cells #[.int .i64 F.cap, .slice P1 F.n1 p1, .slice P2 F.n2 p2] 34)) = w4 at *
    generalize wf.heap.size = b7 at *
    have LX4 := Lib.hid (show LwX b7 P1 P2 p1 p2 b w4 F A1 A2 c1 c2 k id g a c w4 from ⟨(L3.out.keep B4.out).anew, K7.out, L7.out⟩)
    have HFA := Lib.hid (show FarmAt w4 P1 F.n1 F.f1 P2 F.n2 F.f2 from FarmV.at (G := F) ⟨Q1.out, Q2.out⟩)
    have hz := Nat.le_refl w4.heap.size
    go_cut [8] (fun v8 wc => ∃ (wx : World) (b6 : Nat), wx = wc ∧ v8 = .pointer (some ⟨b6, 0, none⟩) ∧ Hid (Blk wx 0 b6 #[.int .i64 x, .int .i64 y, .int .i64 z, .int .i64 p, .int .i64 q] 56) ∧ Hid (LwX b7 P1 P2 p1 p2 b w4 F A1 A2 c1 c2 k id g a c wx))
    case first =>
      go_region_held3 (fun w' => w'.cell? ⟨b, 0, none⟩ = some (.int .i64 F.cap) ∧ w'.cell? ⟨b, 1, none⟩ = some (.slice A1 F.n1 c1) ∧ w'.cell? ⟨b, 2, none⟩ = some (.slice A2 F.n2 c2) ∧ w'.cell? ⟨b + 1, 0, none⟩ = some (.int .i64 k) ∧ w'.cell? ⟨b + 1, 1, none⟩ = some (.int .i64 id) ∧ w'.cell? ⟨b + 1, 2, none⟩ = some (.int .i64 g) ∧ w'.cell? ⟨b + 1, 3, none⟩ = some (.int .i64 a) ∧ w'.cell? ⟨b + 1, 4, none⟩ = some (.int .i64 c) ∧ w'.cell? ⟨b7, 0, none⟩ = some (.int .i64 F.cap) ∧ w'.cell? ⟨b7, 1, none⟩ = some (.slice P1 F.n1 p1) ∧ w'.cell? ⟨b7, 2, none⟩ = some (.slice P2 F.n2 p2) ∧ LwX b7 P1 P2 p1 p2 b w4 F A1 A2 c1 c2 k id g a c w') (first | exact LX4.out.drew.all | exact hB.all | exact (LwX.setRow (LwX.pick (by assumption)) LX4.out hge _).all | exact (LwX.alloc (LwX.pick (by assumption)) _).all) (first | (go_at_call 35; refine (c_toEdit _ _ _ _ _ _).mono ?_; rintro e we ⟨rfl, hbe⟩; have hB := (LwX.pick (by assumption)).keep hbe; have hz := hB.l.bel.size) | (go_at_call 29; refine (HIF.out _ _ _ _ _ (by (repeat (first | exact HFA.out | (with_reducible refine FarmAt.alloc ?_ _) | (with_reducible refine FarmAt.drew ?_) | refine FarmAt.keep ?_ (by assumption)))) hp1 hp2).mono ?_; rintro e w5 ⟨rfl, hb5⟩; have hB := (LwX.pick (by assumption)).keep hb5; have hz := hB.l.bel.size; obtain ⟨r, hr⟩ : ∃ r, #[Value.int .i64 x, .int .i64 y, .int .i64 z, .int .i64 p, .int .i64 q] = r := ⟨_, rfl⟩; rw [hr]; have HRW := Lib.hid hr; have hsz : r.size = 5 := (by rw [← hr]; rfl); have HON := Lib.hid (show r.all (·.oneCell') = true by rw [← hr]; simp [Value.oneCell']); clear hr) | ((with_reducible refine upon_store_cells (B := w4.heap.size) (n := 5) (t := 56) ?_ hsz HON.out (fun hblk hge => ?_)); focus ((repeat (first | exact Room.new (by first | omega | (simp; done) | (simp; omega)) rfl | (with_reducible refine Room.drew ?_) | refine Room.keep ?_ (by assumption))))))
      all_goals (go_wp2_with fail; go_meet; exact ⟨_, _, rfl, rfl, Lib.hid ((hblk.base (Nat.zero_le _)).cast HRW.out.symm), Lib.hid (LwX.pick (by assumption))⟩)
    case rest =>
      obtain ⟨w5, b8, rfl, rfl, K8, HX5⟩ := hcut
      clear hz HFA
      have B5 := Lib.hid HX5.out.l.bel
      have B35 := Lib.hid (btrans B4.out B5.out)
      have K65 := Lib.hid (K6.out.keep B35.out)
      have z0 := (K8.out.cell 0).trans rfl
      have z1 := (K8.out.cell 1).trans rfl
      have z2 := (K8.out.cell 2).trans rfl
      have z3 := (K8.out.cell 3).trans rfl
      have z4 := (K8.out.cell 4).trans rfl
      have y0 := (K65.out.cell 0).trans rfl
      have y1 := (K65.out.cell 1).trans rfl
      have y2 := (K65.out.cell 2).trans rfl
      have y3 := (K65.out.cell 3).trans rfl
      have y4 := (K65.out.cell 4).trans rfl
      go_upto_region 10 with (first
        | (go_at_call 36; refine (c_eqEdit _ _ _ _ _ _).mono ?_; rintro e w6 ⟨rfl, hb6⟩; have HB6 := Lib.hid hb6; clear hb6)
        | fail)
      clear z0 z1 z2 z3 z4 y0 y1 y2 y3 y4
      have B46 := Lib.hid (btrans B5.out HB6.out)
      have LX6 := Lib.hid (show LwX b7 P1 P2 p1 p2 b w6 F A1 A2 c1 c2 k id g a c w6 from ⟨(HX5.out.keep HB6.out).l.anew, (HX5.out.keep HB6.out).x, (HX5.out.keep HB6.out).x.lt⟩)
      have FX6 := Lib.hid (show FarmAt w6 P1 F.n1 F.f1 P2 F.n2 F.f2 from FarmAt.keep (FarmV.at (G := F) ⟨Q1.out, Q2.out⟩) B46.out)
      go_cut [33] (fun v37 wc => ∃ wx : World, wx = wc ∧ v37 = .bool false ∧ Hid (LwX b7 P1 P2 p1 p2 b w6 F A1 A2 c1 c2 k id g a c wx))
      case first =>
        go_region_held3 (fun w' => w'.cell? ⟨b, 0, none⟩ = some (.int .i64 F.cap) ∧ w'.cell? ⟨b, 1, none⟩ = some (.slice A1 F.n1 c1) ∧ w'.cell? ⟨b, 2, none⟩ = some (.slice A2 F.n2 c2) ∧ w'.cell? ⟨b + 1, 0, none⟩ = some (.int .i64 k) ∧ w'.cell? ⟨b + 1, 1, none⟩ = some (.int .i64 id) ∧ w'.cell? ⟨b + 1, 2, none⟩ = some (.int .i64 g) ∧ w'.cell? ⟨b + 1, 3, none⟩ = some (.int .i64 a) ∧ w'.cell? ⟨b + 1, 4, none⟩ = some (.int .i64 c) ∧ w'.cell? ⟨b7, 0, none⟩ = some (.int .i64 F.cap) ∧ w'.cell? ⟨b7, 1, none⟩ = some (.slice P1 F.n1 p1) ∧ w'.cell? ⟨b7, 2, none⟩ = some (.slice P2 F.n2 p2) ∧ LwX b7 P1 P2 p1 p2 b w6 F A1 A2 c1 c2 k id g a c w') (first | exact LX6.out.drew.all | exact hB.all) (first
          | (go_at_call 34; refine (HTF.out _ _ (LwX.pick (by assumption)).l).mono ?_; rintro e wf ⟨vg, vm, rfl, hO1, hO2, hbf⟩; have hB := (LwX.pick (by assumption)).keep hbf; obtain ⟨Y1, e1, rfl, hd1, hT1⟩ := hO1.tab; obtain ⟨Y2, e2, rfl, hd2, hT2⟩ := hO2.tab; have HFA := Lib.hid (show FarmAt wf Y1 F.n1 F.f1 Y2 F.n2 F.f2 from ⟨hT1, hT2⟩); clear hO1 hO2 hT1 hT2)
          | (go_at_call 37; refine (c_eqFarm F.cap P1 P2 Y1 Y2 F.n1 p1 F.n2 p2 e1 e2 F.f1 F.f2 _ (FX6.out.keep hB.l.bel) HFA.out (by omega) (by omega)).mono ?_; rintro e w7 ⟨rfl, hb7⟩; have hB := (LwX.pick (by assumption)).keep hb7)
          | fail)
        all_goals (go_wp2_with fail; go_meet; exact ⟨_, rfl, rfl, Lib.hid (LwX.pick (by assumption))⟩)
      case rest =>
        obtain ⟨w7, rfl, rfl, HX7⟩ := hcut
        have B37 := Lib.hid (btrans B4.out (btrans B46.out HX7.out.l.bel))
        go_wp2_with fail
        go_ret
        have e3 : w.heap.size ≤ w3.heap.size := by
          have h1 := L3.out.f.lt
          have h2 := HBB.out
          omega
        have bw3 : Below w.heap.size w w3 := HB.out.trans ((L1B.out.trans (B3.out.mono hz12.out)).mono (by have := HZ.out; have := HBB.out; omega))
        exact ⟨rfl, bw3.trans (B37.out.mono e3)⟩
theorem l_FnExactFarmBack : OFnExactFarmBack.Walks := by
  rintro y0 y1 A4 c4 A5 c5 w - - - h1 - h2
  exact farmBack_law ⟨y0.1, y0.2.1.length, col4 y0.2.1, y0.2.2.length, col4 y0.2.2⟩ _ _ _ _ _ _ _ _ _ w (tabA4 h1) (tabA4 h2) h1.2.1 h2.2.1
end Go.Proofs.Ytipkbapnhgdpeaa.C
