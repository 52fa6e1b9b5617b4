/- The law FnFarmBack, walked: a drawn edit of a farm that goes is taken back by FarmBack, to the farm that was. No condition. -/
import Derived.Test.YtipkbapnhgdpeaaDrawQ
import Derived.Test.YtipkbapnhgdpeaaFBkG
import Derived.Test.YtipkbapnhgdpeaaOFnFarmBack
namespace Go.Proofs.Ytipkbapnhgdpeaa.C
open Go.RowKit Go.Proofs.Ytipkbapnhgdpeaa.Rd
set_option maxRecDepth 100000
set_option linter.unusedVariables false
set_option linter.unusedSimpArgs false
attribute [local go_sem ↓] Go.wp_at_zero Go.wp_at_succ
theorem setRow_keepC {C : Nat} {w w' : World} (h : Below C w w') {d : Nat} (hd : C ≤ d) (r : Array Value) : Below C w (w'.setRow d r) := h.trans (below_setRowC hd r)
theorem below_allocK {w w' : World} (h : Below w.heap.size w w') (o : Obj) : Below w.heap.size w (w'.alloc o) := h.alloc h.size o
theorem pick11 {w w' : World} {P0 P1 P2 P3 P4 P5 P6 P7 P8 P9 P10 : Prop} (h : P0 ∧ P1 ∧ P2 ∧ P3 ∧ P4 ∧ P5 ∧ P6 ∧ P7 ∧ P8 ∧ P9 ∧ P10 ∧ Below w.heap.size w w') : Below w.heap.size w w' := h.2.2.2.2.2.2.2.2.2.2.2
set_option maxHeartbeats 8000000 in
theorem farmBackD_law (A : Option Addr) (n c0 : Nat) (w : World) (h : BytesIn w A n) (hn : n ≤ 1048576) :
    Calls Try.prog 7 #[.slice A n c0] w fun e w' => e = .returned (.bool true) ∧ Below w.heap.size w w' := by
  have huF := Try.underlying34
  have huE := Try.underlying56
  have b0 : decide ((n : Int) > 1048576) = false := decide_eq_false (by omega)
  have H := Lib.hid h
  clear h
  go_enter Try.func7, Try.ntmps7
  go_upto_region 4 with (first
    | (go_at_call 26; refine (s_DrawFarmEdit _ _ _ _ H.out (by omega)).mono ?_; rintro e w1 ⟨F, vg, vm, k, id, g, a, c, hF1, hF2, rfl, hV, hb⟩; obtain ⟨A1, c1, A2, c2, rfl, rfl, k1, k2⟩ := hV.caps)
    | fail)
  have hal := ((Below.refl w1.heap.size w1).alloc (Nat.le_refl _) (.cells #[.int .i64 F.cap, .slice A1 F.n1 c1, .slice A2 F.n2 c2] 34)).alloc (by simp) (.cells #[.int .i64 k, .int .i64 id, .int .i64 g, .int .i64 a, .int .i64 c] 56)
  have B2 := Lib.hid (show Below w.heap.size w _ from hb.trans (hal.mono hb.size))
  have V2 := Lib.hid (hV.at.keep hal)
  have QF := Lib.hid ((Blk.new (w := w1) (B := 0) (Nat.zero_le _) #[.int .i64 F.cap, .slice A1 F.n1 c1, .slice A2 F.n2 c2] 34).keep ((Below.refl _ _).alloc (Nat.le_refl _) (.cells #[.int .i64 k, .int .i64 id, .int .i64 g, .int .i64 a, .int .i64 c] 56)))
  have he := Blk.new (w := w1.alloc (.cells #[.int .i64 F.cap, .slice A1 F.n1 c1, .slice A2 F.n2 c2] 34)) (B := 0) (Nat.zero_le _) #[.int .i64 k, .int .i64 id, .int .i64 g, .int .i64 a, .int .i64 c] 56
  simp only [World.size_alloc] at he
  have QE := Lib.hid he
  have K1 := Lib.hid k1
  have K2 := Lib.hid k2
  clear he hV hb hal H b0 k1 k2
  generalize (w1.alloc (.cells #[.int .i64 F.cap, .slice A1 F.n1 c1, .slice A2 F.n2 c2] 34)).alloc (.cells #[.int .i64 k, .int .i64 id, .int .i64 g, .int .i64 a, .int .i64 c] 56) = w2 at *
  generalize w1.heap.size = bF at *
  generalize hbE : bF + 1 = bE at *
  clear hbE
  obtain ⟨C, hC⟩ : ∃ C, feC F k id g a c = C := ⟨_, rfl⟩
  obtain ⟨G, hG⟩ : ∃ G, feF F k id g a c = G := ⟨_, rfl⟩
  have hsm := fe_small F k id g a c
  rw [hG] at hsm
  have HS := Lib.hid fun (w' : World) (h : FarmAt w' A1 F.n1 F.f1 A2 F.n2 F.f2) => s_FarmEdit F A1 A2 c1 c2 k id g a c w' h K1.out K2.out
  have HC := Lib.hid fun (w' : World) (h : FarmAt w' A1 F.n1 F.f1 A2 F.n2 F.f2) => c_FarmEdit F A1 A2 c1 c2 k id g a c w' h K1.out
  unfold FeOut at HC
  unfold OutV at HS
  rw [hC, hG] at HS HC
  have HCC := Lib.hid hC
  have HGG := Lib.hid hG
  clear hC hG
  have KB0 := Lib.hid (Below.refl w2.heap.size w2)
  go_cut [5] (fun v5 wc => ∃ (wx : World) (b5 : Nat) (P1 P2 : Option Addr) (p1 p2 : Nat), wx = wc ∧ v5 = .pointer (some ⟨b5, 0, none⟩) ∧ Hid (Blk wx 0 b5 #[.int .i64 G.cap, .slice P1 G.n1 p1, .slice P2 G.n2 p2, .int .i64 0, .int .i64 C] 60) ∧ Hid (Below w2.heap.size w2 wx))
  case first =>
    have f0 := ((QF.out.keep KB0.out).cell 0).trans rfl; have f1 := ((QF.out.keep KB0.out).cell 1).trans rfl; have f2 := ((QF.out.keep KB0.out).cell 2).trans rfl; have e0 := ((QE.out.keep KB0.out).cell 0).trans rfl; have e1 := ((QE.out.keep KB0.out).cell 1).trans rfl; have e2 := ((QE.out.keep KB0.out).cell 2).trans rfl; have e3 := ((QE.out.keep KB0.out).cell 3).trans rfl; have e4 := ((QE.out.keep KB0.out).cell 4).trans rfl
    go_wp2_with (first | (go_at_call 27; refine (HS.out _ V2.out).mono ?_; rintro e w3 ⟨ug, um, rfl, hV3, hb3⟩; obtain ⟨P1, p1, P2, p2, rfl, rfl, -, -⟩ := hV3.caps) | fail)
    go_meet
    exact ⟨_, _, P1, P2, p1, p2, rfl, rfl, Lib.hid (Blk.new (Nat.zero_le _) _ _), Lib.hid (hb3.alloc hb3.size _)⟩
  case rest =>
  obtain ⟨w3, b5, P1, P2, p1, p2, rfl, rfl, Q5, KB3⟩ := hcut
  rename_i hK; refine hK _ _ ?_; clear hK; go_step
  go_cut [6] (fun v6 wc => ∃ (wx : World) (b6 : Nat) (D1 D2 : Option Addr) (d1 d2 : Nat), wx = wc ∧ v6 = .pointer (some ⟨b6, 0, none⟩) ∧ Hid (Blk wx 0 b5 #[.int .i64 G.cap, .slice P1 G.n1 p1, .slice P2 G.n2 p2, .int .i64 0, .int .i64 C] 60) ∧ Hid (Blk wx 0 b6 #[.int .i64 G.cap, .slice D1 G.n1 d1, .slice D2 G.n2 d2, .int .i64 0, .int .i64 C] 60) ∧ Hid (FarmAt wx D1 G.n1 G.f1 D2 G.n2 G.f2) ∧ Hid (G.n1 ≤ d1) ∧ Hid (Below w2.heap.size w2 wx))
  case first =>
    have f0 := ((QF.out.keep KB3.out).cell 0).trans rfl; have f1 := ((QF.out.keep KB3.out).cell 1).trans rfl; have f2 := ((QF.out.keep KB3.out).cell 2).trans rfl; have e0 := ((QE.out.keep KB3.out).cell 0).trans rfl; have e1 := ((QE.out.keep KB3.out).cell 1).trans rfl; have e2 := ((QE.out.keep KB3.out).cell 2).trans rfl; have e3 := ((QE.out.keep KB3.out).cell 3).trans rfl; have e4 := ((QE.out.keep KB3.out).cell 4).trans rfl
    go_wp2_with (first | (go_at_call 28; refine (HC.out _ (V2.out.keep KB3.out)).mono ?_; rintro e w4 ⟨ug, um, rfl, hV4, hb4⟩; obtain ⟨D1, d1, D2, d2, rfl, rfl, hd1, -⟩ := hV4.caps) | fail)
    go_meet
    have hal := (Below.refl w4.heap.size w4).alloc (Nat.le_refl _) (.cells #[.int .i64 G.cap, .slice D1 G.n1 d1, .slice D2 G.n2 d2, .int .i64 0, .int .i64 C] 60)
    exact ⟨_, _, D1, D2, d1, d2, rfl, rfl, Lib.hid ((Q5.out.keep hb4).keep hal), Lib.hid (Blk.new (Nat.zero_le _) _ _), Lib.hid (hV4.at.keep hal), Lib.hid hd1, Lib.hid (btrans (btrans KB3.out hb4) hal)⟩
  case rest =>
  obtain ⟨w4, b6, D1, D2, d1, d2, rfl, rfl, Q54, Q6, VG, HD1, KB4⟩ := hcut
  clear Q5 KB3 KB0
  rename_i hK; refine hK _ _ ?_; clear hK; go_step
  have q5 := (Q54.out.cell 4).trans rfl
  have q6 := (Q6.out.cell 4).trans rfl
  by_cases h0 : C = 0
  case neg =>
    have bC : (C == 0) = false := beq_eq_false_iff_ne.mpr h0
    have HB := Lib.hid fun (w' : World) (h : FarmAt w' A1 F.n1 F.f1 A2 F.n2 F.f2) => c_fb_no F A1 A2 c1 c2 k id g a c w' h K1.out K2.out (by rw [HCC.out]; exact h0)
    unfold EdV at HB
    have f0 := ((QF.out.keep KB4.out).cell 0).trans rfl; have f1 := ((QF.out.keep KB4.out).cell 1).trans rfl; have f2 := ((QF.out.keep KB4.out).cell 2).trans rfl; have e0 := ((QE.out.keep KB4.out).cell 0).trans rfl; have e1 := ((QE.out.keep KB4.out).cell 1).trans rfl; have e2 := ((QE.out.keep KB4.out).cell 2).trans rfl; have e3 := ((QE.out.keep KB4.out).cell 3).trans rfl; have e4 := ((QE.out.keep KB4.out).cell 4).trans rfl
    go_wp2_with (first | (go_at_call 29; refine (HB.out _ (V2.out.keep KB4.out)).mono ?_; rintro e w5 ⟨rfl, hb5⟩) | fail)
    go_ret
    exact ⟨rfl, B2.out.trans ((btrans KB4.out hb5).mono B2.out.size)⟩
  case pos =>
  subst h0
  obtain ⟨hfg, x, y, z, p, q, hbk, hbe⟩ := back_all F k id g a c G HCC.out HGG.out
  have HBK := Lib.hid fun (w' : World) (h : FarmAt w' A1 F.n1 F.f1 A2 F.n2 F.f2) => hbk A1 A2 c1 c2 w' h K1.out K2.out
  have HBE := Lib.hid fun (w' : World) (h : FarmAt w' D1 G.n1 G.f1 D2 G.n2 G.f2) => hbe D1 D2 d1 d2 w' h HD1.out
  unfold EdV at HBK
  unfold BackOut at HBE
  have HFG := Lib.hid hfg
  clear hbk hbe hfg
  go_upto_region 10 with fail
  have VF4 := Lib.hid (V2.out.keep KB4.out)
  have HSX := Lib.hid (show ∀ w', Below w4.heap.size w4 w' → w'.cell? ⟨bF, 0, none⟩ = some (.int .i64 F.cap) ∧ w'.cell? ⟨bF, 1, none⟩ = some (.slice A1 F.n1 c1) ∧ w'.cell? ⟨bF, 2, none⟩ = some (.slice A2 F.n2 c2) ∧ w'.cell? ⟨bE, 0, none⟩ = some (.int .i64 k) ∧ w'.cell? ⟨bE, 1, none⟩ = some (.int .i64 id) ∧ w'.cell? ⟨bE, 2, none⟩ = some (.int .i64 g) ∧ w'.cell? ⟨bE, 3, none⟩ = some (.int .i64 a) ∧ w'.cell? ⟨bE, 4, none⟩ = some (.int .i64 c) ∧ w'.cell? ⟨b6, 0, none⟩ = some (.int .i64 G.cap) ∧ w'.cell? ⟨b6, 1, none⟩ = some (.slice D1 G.n1 d1) ∧ w'.cell? ⟨b6, 2, none⟩ = some (.slice D2 G.n2 d2) ∧ Below w4.heap.size w4 w' from fun w' hB => by
    have a := QF.out.keep (btrans KB4.out hB)
    have b := QE.out.keep (btrans KB4.out hB)
    have d := Q6.out.keep hB
    exact ⟨(a.cell 0).trans rfl, (a.cell 1).trans rfl, (a.cell 2).trans rfl, (b.cell 0).trans rfl, (b.cell 1).trans rfl, (b.cell 2).trans rfl, (b.cell 3).trans rfl, (b.cell 4).trans rfl, (d.cell 0).trans rfl, (d.cell 1).trans rfl, (d.cell 2).trans rfl, hB⟩)
  clear q5 q6
  have hz := Nat.le_refl w4.heap.size
  go_cut [7] (fun v7 wc => ∃ (wx : World) (b7 : Nat) (E1 E2 : Option Addr) (e1 e2 : Nat), wx = wc ∧ v7 = .pointer (some ⟨b7, 0, none⟩) ∧ Hid (Blk wx 0 b7 #[.int .i64 F.cap, .slice E1 F.n1 e1, .slice E2 F.n2 e2, .int .i64 0, .int .i64 0] 60) ∧ Hid (FarmV wx 0 F (.slice E1 F.n1 e1) (.slice E2 F.n2 e2)) ∧ Hid (Below w4.heap.size w4 wx))
  case first =>
    go_region_held3 (fun w' => w'.cell? ⟨bF, 0, none⟩ = some (.int .i64 F.cap) ∧ w'.cell? ⟨bF, 1, none⟩ = some (.slice A1 F.n1 c1) ∧ w'.cell? ⟨bF, 2, none⟩ = some (.slice A2 F.n2 c2) ∧ w'.cell? ⟨bE, 0, none⟩ = some (.int .i64 k) ∧ w'.cell? ⟨bE, 1, none⟩ = some (.int .i64 id) ∧ w'.cell? ⟨bE, 2, none⟩ = some (.int .i64 g) ∧ w'.cell? ⟨bE, 3, none⟩ = some (.int .i64 a) ∧ w'.cell? ⟨bE, 4, none⟩ = some (.int .i64 c) ∧ w'.cell? ⟨b6, 0, none⟩ = some (.int .i64 G.cap) ∧ w'.cell? ⟨b6, 1, none⟩ = some (.slice D1 G.n1 d1) ∧ w'.cell? ⟨b6, 2, none⟩ = some (.slice D2 G.n2 d2) ∧ Below w4.heap.size w4 w') (first | exact HSX.out _ (Below.refl _ _).drew | exact HSX.out _ hB.out | exact HSX.out _ (setRow_keepC (show Below w4.heap.size w4 _ from pick11 (by assumption)) hge _) | exact HSX.out _ (below_allocK (pick11 (by assumption)) _)) (first
      | (go_at_call 29; refine (HBK.out _ (VF4.out.keep (pick11 (by assumption)))).mono ?_; rintro e w5 ⟨rfl, hb5⟩; have hB := Lib.hid (btrans (show Below w4.heap.size w4 _ from pick11 (by assumption)) hb5); have hz := hB.out.size)
      | (go_at_call 28; refine (HBE.out _ (VG.out.keep (pick11 (by assumption)))).mono ?_; rintro e w6 ⟨E1, E2, e1, e2, rfl, hV6, hb6⟩; have hB := Lib.hid (btrans (show Below w4.heap.size w4 _ from pick11 (by assumption)) hb6); have hz := hB.out.size; have HFV := Lib.hid (hV6.mono (Nat.zero_le _)); obtain ⟨r, hr⟩ : ∃ r, #[Value.int .i64 F.cap, .slice E1 F.n1 e1, .slice E2 F.n2 e2, .int .i64 0, .int .i64 0] = r := ⟨_, rfl⟩; rw [hr]; have HRW := Lib.hid hr; have hsz : r.size = 5 := (by rw [← hr]; rfl); have HON := Lib.hid (show r.all (·.oneCell') = true by rw [← hr]; simp [Value.oneCell']); clear hr hV6)
      | ((with_reducible refine upon_store_cells (B := w4.heap.size) (n := 5) (t := 60) ?_ hsz HON.out (fun hblk hge => ?_)); focus ((repeat (first | exact Room.new (by first | omega | (simp; done) | (simp; omega)) rfl | (with_reducible refine Room.drew ?_) | (with_reducible refine Room.keep ?_ hb6) | (with_reducible refine Room.keep ?_ hb5)))))
      | fail)
    all_goals (go_wp2_with fail; go_meet; exact ⟨_, _, E1, E2, e1, e2, rfl, rfl, Lib.hid ((hblk.base (Nat.zero_le _)).cast HRW.out.symm), Lib.hid (by (repeat (first | exact HFV.out | (with_reducible refine FarmV.alloc ?_ _) | refine FarmV.room (C := 0) (n := 5) ?_ (by (repeat (first | exact Room.new (by first | omega | (simp; done) | (simp; omega)) rfl | (with_reducible refine Room.drew ?_) | (with_reducible refine Room.keep ?_ hb6) | (with_reducible refine Room.keep ?_ hb5)))) _))), Lib.hid (pick11 (by assumption))⟩)
  case rest =>
  obtain ⟨w5, b7, E1, E2, e1, e2, rfl, rfl, Q7, V7, KB5⟩ := hcut
  rename_i hK; refine hK _ _ ?_; clear hK; go_step
  have HFR := Lib.hid fun (w' : World) (h : FarmAt w' D1 G.n1 G.f1 D2 G.n2 G.f2) => (show Calls Try.prog 30 #[.agg #[.int .i64 G.cap, .slice D1 G.n1 d1, .slice D2 G.n2 d2]] w' fun e w'' => e = .returned (.bool true) ∧ Below w'.heap.size w' w'' from HFG.out ▸ c_FarmRight G.cap D1 D2 G.n1 d1 G.n2 d2 G.f1 G.f2 w' h HD1.out)
  have g0 := ((Q6.out.keep KB5.out).cell 0).trans rfl
  have g1 := ((Q6.out.keep KB5.out).cell 1).trans rfl
  have g2 := ((Q6.out.keep KB5.out).cell 2).trans rfl
  have QF5 := Lib.hid (QF.out.keep (btrans KB4.out KB5.out))
  have VF5 := Lib.hid (VF4.out.keep KB5.out)
  have VT5 := Lib.hid V7.out.at
  have VG5 := Lib.hid (VG.out.keep KB5.out)
  have B5 := Lib.hid (B2.out.trans ((btrans KB4.out KB5.out).mono B2.out.size))
  have BS := Lib.hid B5.out.size
  clear HSX VF4 V7 VG hz HBK HBE HC HS Q54 Q6 hsm
  go_wp2_with (first
    | (go_at_call 30; refine (HFR.out _ VG5.out).mono ?_; rintro e w6 ⟨rfl, hb6⟩; have x0 := ((Q7.out.keep hb6).cell 0).trans rfl; have x1 := ((Q7.out.keep hb6).cell 1).trans rfl; have x2 := ((Q7.out.keep hb6).cell 2).trans rfl; have x4 := ((Q7.out.keep hb6).cell 4).trans rfl; have y0 := ((QF5.out.keep hb6).cell 0).trans rfl; have y1 := ((QF5.out.keep hb6).cell 1).trans rfl; have y2 := ((QF5.out.keep hb6).cell 2).trans rfl)
    | (go_at_call 31; refine (l_lwFarm F E1 E2 A1 A2 e1 e2 c1 c2 _ (VT5.out.keep hb6) (VF5.out.keep hb6) (by omega) (by omega)).mono ?_; rintro e w7 ⟨rfl, hb7⟩)
    | fail)
  go_ret
  exact ⟨rfl, B5.out.trans ((btrans hb6 hb7).mono BS.out)⟩
theorem bytes_inE {w : World} {A : Option Addr} {ys : List Int} (h : (Kd.int .u8).C w A ys.length ys) (hy : AllOk (Fits .u8) ys) : BytesIn w A ys.length := by
  intro j hj
  obtain ⟨x, hx⟩ : ∃ x, ys[j]? = some x := ⟨ys[j], List.getElem?_eq_getElem hj⟩
  obtain ⟨ad, c, e, hb, -, hc, hr⟩ := h.get hx
  have hok := hy x (List.mem_of_getElem? hx)
  have h0 : c = [.int .u8 x] := hc
  subst h0
  have h1 := hr 0 _ rfl
  simp [Fits, Lit.wf] at hok
  refine ⟨ad, x, e, hb, ?_, ?_, by simpa [Kd.int, Kd.scalar] using h1⟩
  · exact hok.1
  · exact hok.2
theorem l_FnFarmBack : OFnFarmBack.Walks := by
  rintro y0 A0 c0 w f0 - h0
  have H0 := Lib.hid (bytes_inE h0 f0)
  clear h0 f0
  generalize y0.length = n0 at *
  by_cases g0 : n0 ≤ 1048576
  · exact farmBackD_law _ _ _ _ H0.out g0
  · have i0 : decide ((n0 : Int) > 1048576) = true := decide_eq_true (by omega)
    go_enter Try.func7, Try.ntmps7
    go_wp2
    go_ret
    exact ⟨rfl, Below.refl _ _⟩
end Go.Proofs.Ytipkbapnhgdpeaa.C
