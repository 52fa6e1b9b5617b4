/- FarmRun of the reference. No condition. -/
import Derived.Test.YtipkbapnhgdpeaaFRun
namespace Go.Proofs.Ytipkbapnhgdpeaa.C
open Go.RowKit
set_option maxRecDepth 100000
set_option linter.unusedVariables false
set_option linter.unusedSimpArgs false
attribute [local go_sem ↓] Go.wp_at_zero Go.wp_at_succ
theorem pick9 {P1 P2 P3 P4 P5 P6 P7 P8 P : Prop} (h : P1 ∧ P2 ∧ P3 ∧ P4 ∧ P5 ∧ P6 ∧ P7 ∧ P8 ∧ P) : P := h.2.2.2.2.2.2.2.2
theorem FarmV.cap_le {w : World} {B : Nat} {G : Fm} {A1 A2 : Option Addr} {c1 c2 : Nat} (h : FarmV w B G (.slice A1 G.n1 c1) (.slice A2 G.n2 c2)) : G.n1 ≤ c1 ∧ G.n2 ≤ c2 := by
  obtain ⟨X1, d1, X2, d2, e1, e2, l1, l2⟩ := h.caps
  cases e1
  cases e2
  exact ⟨l1, l2⟩
set_option maxHeartbeats 8000000 in
theorem s_FarmRun (F : Fm) (A1 A2 : Option Addr) (c1 c2 : Nat) (AE : Option Addr) (n cE : Nat) (E : Nat → Nat → Int) (w : World) (h : FarmAt w A1 F.n1 F.f1 A2 F.n2 F.f2) (hc1 : F.n1 ≤ c1) (hc2 : F.n2 ≤ c2) (hE : Tab 5 w AE n E) (hn : n ≤ 2000000) :
    Calls Try.prog 41 #[.agg #[.int .i64 F.cap, .slice A1 F.n1 c1, .slice A2 F.n2 c2], .slice AE n cE] w (OutA (rnA F E n) (rnC F E n) (rnF F E n) w) := by
  have hu := Try.underlying60
  have S1 := Lib.hid (RnIn.new F A1 A2 c1 c2 AE n E w h hE)
  have HB : Hid (Below w.heap.size w ((w.alloc (.cells #[.int .i64 F.cap, .slice A1 F.n1 c1, .slice A2 F.n2 c2] 34)).alloc (.cells #[.int .i64 0, .slice none 0 0, .slice none 0 0, .int .i64 0, .int .i64 0] 60))) := Lib.hid (((Below.refl w.heap.size w).alloc (Nat.le_refl _) _).alloc (by simp) _)
  have HZ : Hid (((w.alloc (.cells #[.int .i64 F.cap, .slice A1 F.n1 c1, .slice A2 F.n2 c2] 34)).alloc (.cells #[.int .i64 0, .slice none 0 0, .slice none 0 0, .int .i64 0, .int .i64 0] 60)).heap.size = w.heap.size + 1 + 1) := Lib.hid (by simp)
  have HC1 := Lib.hid hc1
  clear h hE hc1
  go_enter Try.func41, Try.ntmps41
  go_upto_region 1 with fail
  generalize ((w.alloc (.cells #[.int .i64 F.cap, .slice A1 F.n1 c1, .slice A2 F.n2 c2] 34)).alloc (.cells #[.int .i64 0, .slice none 0 0, .slice none 0 0, .int .i64 0, .int .i64 0] 60)) = w1 at *
  obtain ⟨b, hbb⟩ : ∃ b, w.heap.size = b := ⟨_, rfl⟩
  have HBB := Lib.hid hbb
  rw [hbb] at S1 HZ ⊢
  clear hbb
  obtain ⟨u0, u1, u2⟩ := S1.out.cells
  by_cases hlong : n > 200
  · have b1 : decide ((n : Int) > 200) = true := decide_eq_true (by omega)
    have HRN := Lib.hid (rn_long (F := F) (E := E) hlong)
    go_wp2_with (first | (go_at_call 71; refine (s_l06Wrong _ _).mono ?_; rintro e wq ⟨rfl, hbq⟩; have SQ := Lib.hid (S1.out.keep hbq); obtain ⟨z0, z1, z2, z3, z4, y0, y1, y2, y3, y4⟩ := SQ.out.out; clear hbq) | fail)
    exact bodyPost_ret (results_cell_row rfl _ _ _ _ _ _ _ rfl (SQ.out.give (FarmV.zero _ w1.heap.size) 0 2).1 hu rfl (by kernel_rfl)) rfl (OutA.as ((SQ.out.give (FarmV.zero _ w1.heap.size) 0 2).2 (by have := HBB.out; omega) (by have := HBB.out; have := HZ.out; omega) (HB.out.trans (SQ.out.bel.mono (by have := HZ.out; have := HBB.out; omega)))) HRN.out.2.1 HRN.out.1 HRN.out.2.2)
  have b1 : decide ((n : Int) > 200) = false := decide_eq_false (by omega)
  have HNL := Lib.hid hlong
  clear hlong
  obtain ⟨rr, hrr⟩ : ∃ rr, fmB F = rr := ⟨_, rfl⟩
  have HRR := Lib.hid hrr
  have HFR := Lib.hid (show Calls Try.prog 39 #[.agg #[.int .i64 F.cap, .slice A1 F.n1 c1, .slice A2 F.n2 c2]] w1 fun e w' => e = .returned (.bool rr) ∧ Below w1.heap.size w1 w' from hrr ▸ s_FarmRight F.cap A1 A2 F.n1 c1 F.n2 c2 F.f1 F.f2 w1 S1.out.t HC1.out)
  clear hrr
  cases rr
  · have HRN := Lib.hid (rn_form (E := E) HNL.out HRR.out)
    go_wp2_with (first
      | (go_at_call 39; (with_reducible refine HFR.out.mono ?_); rintro e w2 ⟨rfl, hb2⟩; have S2 := Lib.hid (S1.out.keep hb2); clear hb2)
      | (go_at_call 71; refine (s_l06Wrong _ _).mono ?_; rintro e wq ⟨rfl, hbq⟩; have SQ := Lib.hid (S2.out.keep hbq); obtain ⟨z0, z1, z2, z3, z4, y0, y1, y2, y3, y4⟩ := SQ.out.out; clear hbq)
      | fail)
    exact bodyPost_ret (results_cell_row rfl _ _ _ _ _ _ _ rfl (SQ.out.give (FarmV.zero _ w1.heap.size) 0 1).1 hu rfl (by kernel_rfl)) rfl (OutA.as ((SQ.out.give (FarmV.zero _ w1.heap.size) 0 1).2 (by have := HBB.out; omega) (by have := HBB.out; have := HZ.out; omega) (HB.out.trans (SQ.out.bel.mono (by have := HZ.out; have := HBB.out; omega)))) HRN.out.2.1 HRN.out.1 HRN.out.2.2)
  have HR := Lib.hid (Right.of HRR.out)
  have hl1 := HR.out.l1
  have hl2 := HR.out.l2
  go_upto_region 6 with (first
    | (go_at_call 39; (with_reducible refine HFR.out.mono ?_); rintro e w2 ⟨rfl, hb2⟩; have S2 := Lib.hid (S1.out.keep hb2); obtain ⟨u02, u12, u22⟩ := S2.out.cells; clear hb2)
    | (go_at_call 72; refine (s_l06Copy F.cap A1 A2 F.n1 c1 F.n2 c2 F.f1 F.f2 w2 S2.out.t (by omega) (by omega)).mono ?_; rintro e w3 ⟨vg, vm, rfl, hO1, hO2, hb3⟩; obtain ⟨G1', d1, rfl, -, -⟩ := hO1.tab; obtain ⟨G2', d2, rfl, -, -⟩ := hO2.tab; have O1 := Lib.hid (hO1.mono (B' := w1.heap.size) S2.out.bel.size); have O2 := Lib.hid (hO2.mono (B' := w1.heap.size) S2.out.bel.size); have S3 := Lib.hid (S2.out.keep hb3); clear hO1 hO2 hb3)
    | fail)
  clear u0 u1 u2 u02 u12 u22 b1
  have al5 := (Below.refl w3.heap.size w3).alloc (Nat.le_refl _) (.cells #[.int .i64 F.cap, .slice G1' F.n1 d1, .slice G2' F.n2 d2] 34)
  have K5 := Lib.hid (Blk.new (w := w3) (B := w1.heap.size) S3.out.bel.size #[.int .i64 F.cap, .slice G1' F.n1 d1, .slice G2' F.n2 d2] 34)
  have S5 := Lib.hid (S3.out.keep al5)
  have V5 := Lib.hid (show FarmV (w3.alloc (.cells #[.int .i64 F.cap, .slice G1' F.n1 d1, .slice G2' F.n2 d2] 34)) w1.heap.size F (.slice G1' F.n1 d1) (.slice G2' F.n2 d2) from ⟨O1.out.keep al5, O2.out.keep al5⟩)
  clear al5 O1 O2 S2 S3
  generalize (w3.alloc (.cells #[.int .i64 F.cap, .slice G1' F.n1 d1, .slice G2' F.n2 d2] 34)) = w5 at *
  generalize w3.heap.size = b5 at *
  go_wp2_with fail
  go_loopw [6] (fun v24 wr => ∃ (i : Nat) (J1 J2 : Option Addr) (j1 j2 : Nat), i ≤ n ∧ v24 = .int .i64 i ∧ Hid (∀ j, j < i → ecAt F E j = 0) ∧ Hid (Blk wr w1.heap.size b5 #[.int .i64 (runF F E i).cap, .slice J1 (runF F E i).n1 j1, .slice J2 (runF F E i).n2 j2] 34) ∧ Hid (FarmV wr w1.heap.size (runF F E i) (.slice J1 (runF F E i).n1 j1) (.slice J2 (runF F E i).n2 j2)) ∧ Hid (Below w1.heap.size w1 wr)) (fun v24 _ => n - (intOf v24).toNat)
  case atStart => exact ⟨0, G1', G2', d1, d2, by omega, rfl, Lib.hid (by intro j hj; omega), K5, V5, Lib.hid S5.out.bel⟩
  case round =>
    obtain ⟨i, J1, J2, j1, j2, hi, rfl, KI, KK, KV, KB⟩ := hrel
    clear K5 V5 S5
    have SR := Lib.hid (S1.out.keep KB.out)
    by_cases h5 : i < n
    · have b1 : decide ((i : Int) < (n : Int)) = true := decide_eq_true (by omega)
      obtain ⟨gt, off, eA, hgl, hx⟩ := SR.out.l.at (by omega)
      subst eA
      have x0 := hx i 0 h5 (by omega)
      have x1 := hx i 1 h5 (by omega)
      have x2 := hx i 2 h5 (by omega)
      have x3 := hx i 3 h5 (by omega)
      have x4 := hx i 4 h5 (by omega)
      rw [Nat.add_zero] at x0
      clear hx
      have HRi := Lib.hid (run_right HR.out i KI.out)
      have hec := Lib.hid (show ecAt F E i = ecC (runF F E i) (E i 0) (E i 1) (E i 2) (E i 3) (E i 4) from rfl)
      have hnx := Lib.hid (show runF F E (i + 1) = edF (runF F E i) (E i 0) (E i 1) (E i 2) (E i 3) (E i 4) from rfl)
      have hcf := Lib.hid (show ecF (runF F E i) (E i 0) (E i 1) (E i 2) (E i 3) (E i 4) = if ecAt F E i = 0 then runF F E (i + 1) else fm0 from rfl)
      generalize hR : runF F E i = R at *
      generalize hR1 : runF F E (i + 1) = R1 at *
      generalize hk0 : E i 0 = e0 at *
      generalize hk1 : E i 1 = e1 at *
      generalize hk2 : E i 2 = e2 at *
      generalize hk3 : E i 3 = e3 at *
      generalize hk4 : E i 4 = e4 at *
      have H1 := Lib.hid hR1
      clear hR hR1 hk0 hk1 hk2 hk3 hk4
      obtain ⟨cc, hcc⟩ : ∃ cc, ecAt F E i = cc := ⟨_, rfl⟩
      have HCC := Lib.hid hcc
      rw [hcc] at hec hcf
      have hi0 : (0 : Int) ≤ (i : Int) := by omega
      have hi1 : (i : Int) < (n : Int) := by omega
      clear hcc
      have HS := Lib.hid (show ∀ w' : World, Below wr.heap.size wr w' → (w'.cell? ⟨b5, 0, none⟩ = some (.int .i64 R.cap) ∧ w'.cell? ⟨b5, 1, none⟩ = some (.slice J1 R.n1 j1) ∧ w'.cell? ⟨b5, 2, none⟩ = some (.slice J2 R.n2 j2) ∧ w'.cell? ⟨gt, off + i * 5, none⟩ = some (.int .i64 e0) ∧ w'.cell? ⟨gt, off + i * 5 + 1, none⟩ = some (.int .i64 e1) ∧ w'.cell? ⟨gt, off + i * 5 + 2, none⟩ = some (.int .i64 e2) ∧ w'.cell? ⟨gt, off + i * 5 + 3, none⟩ = some (.int .i64 e3) ∧ w'.cell? ⟨gt, off + i * 5 + 4, none⟩ = some (.int .i64 e4) ∧ Below wr.heap.size wr w') from fun w' hb => ⟨((KK.out.keep hb).cell 0).trans rfl, ((KK.out.keep hb).cell 1).trans rfl, ((KK.out.keep hb).cell 2).trans rfl, (hb.cell (p := ⟨gt, off + i * 5, none⟩) hgl).trans x0, (hb.cell (p := ⟨gt, off + i * 5 + 1, none⟩) hgl).trans x1, (hb.cell (p := ⟨gt, off + i * 5 + 2, none⟩) hgl).trans x2, (hb.cell (p := ⟨gt, off + i * 5 + 3, none⟩) hgl).trans x3, (hb.cell (p := ⟨gt, off + i * 5 + 4, none⟩) hgl).trans x4, hb⟩)
      obtain ⟨hval, hvaf⟩ := fe_yes (k := e0) (id := e1) (g := e2) (a := e3) (c := e4) (Right.to HRi.out)
      obtain ⟨lj1, lj2⟩ := KV.out.cap_le
      obtain ⟨G, hG⟩ : ∃ G, (if cc = 0 then R1 else fm0) = G := ⟨_, rfl⟩
      have HSF := Lib.hid fun (w' : World) (h : FarmAt w' J1 R.n1 R.f1 J2 R.n2 R.f2) => (s_FarmEdit R J1 J2 j1 j2 e0 e1 e2 e3 e4 w' h lj1 lj2).mono fun _ _ x => OutV.as x (show cc = _ from hec.out.trans hval.symm) (show G = _ from (hG.symm.trans hcf.out.symm).trans hvaf.symm)
      unfold OutV at HSF
      have HGG := Lib.hid hG
      clear hval hvaf lj1 lj2 hG
      go_upto_region 9 with fail
      clear x0 x1 x2 x3 x4 b1
      have hz := Nat.le_refl wr.heap.size
      go_cut [7] (fun v7 wc => ∃ (wx : World) (b7 : Nat) (M1 M2 : Option Addr) (m1 m2 : Nat), wx = wc ∧ v7 = .pointer (some ⟨b7, 0, none⟩) ∧ Hid (Blk wx wr.heap.size b7 #[.int .i64 G.cap, .slice M1 G.n1 m1, .slice M2 G.n2 m2, .int .i64 0, .int .i64 cc] 60) ∧ Hid (FarmV wx w1.heap.size G (.slice M1 G.n1 m1) (.slice M2 G.n2 m2)) ∧ Hid (Below wr.heap.size wr wx))
      case first =>
        go_region_held3 (fun w' => w'.cell? ⟨b5, 0, none⟩ = some (.int .i64 R.cap) ∧ w'.cell? ⟨b5, 1, none⟩ = some (.slice J1 R.n1 j1) ∧ w'.cell? ⟨b5, 2, none⟩ = some (.slice J2 R.n2 j2) ∧ w'.cell? ⟨gt, off + i * 5, none⟩ = some (.int .i64 e0) ∧ w'.cell? ⟨gt, off + i * 5 + 1, none⟩ = some (.int .i64 e1) ∧ w'.cell? ⟨gt, off + i * 5 + 2, none⟩ = some (.int .i64 e2) ∧ w'.cell? ⟨gt, off + i * 5 + 3, none⟩ = some (.int .i64 e3) ∧ w'.cell? ⟨gt, off + i * 5 + 4, none⟩ = some (.int .i64 e4) ∧ Below wr.heap.size wr w') (first | exact HS.out _ (Below.refl _ _).drew | exact HS.out _ hB.out | exact HS.out _ (below_setRow (pick9 (by assumption)) hge _) | exact HS.out _ (below_row_t (pick9 (by assumption)) _)) (first
          | (go_at_call 27; refine (HSF.out _ (KV.out.keep (pick9 (by assumption))).at).mono ?_; rintro e w5 ⟨vg, vm, rfl, hV, hb5⟩; have HFV := Lib.hid (hV.mono (B' := w1.heap.size) (Nat.le_trans KB.out.size (by first | exact Nat.le_refl _ | (simp; done) | (simp; omega)))); have hB := Lib.hid (btrans (pick9 (by assumption)) hb5); have hz := hB.out.size; obtain ⟨M1, m1, M2, m2, rfl, rfl, -, -⟩ := hV.caps; obtain ⟨r, hr⟩ : ∃ r, #[Value.int .i64 G.cap, .slice M1 G.n1 m1, .slice M2 G.n2 m2, .int .i64 0, .int .i64 cc] = r := ⟨_, rfl⟩; rw [hr]; have HRW := Lib.hid hr; have hsz : r.size = 5 := (by rw [← hr]; rfl); have HON := Lib.hid (show r.all (·.oneCell') = true by rw [← hr]; simp [Value.oneCell']); clear hr hV)
          | ((with_reducible refine upon_store_cells (B := wr.heap.size) (n := 5) (t := 60) ?_ hsz HON.out (fun hblk hge => ?_)); focus (first | exact Room.new (w := w5) (by omega) rfl | exact Room.keep (Room.new (w := wr) (Nat.le_refl _) rfl) hb5 | exact Room.keep (Room.new (w := wr.drew) (Nat.le_refl _) rfl) hb5)))
        all_goals (go_wp2_with fail; go_meet; exact ⟨_, _, _, _, _, _, rfl, rfl, Lib.hid (hblk.cast HRW.out.symm), Lib.hid (by first | exact (HFV.out.alloc _).room (C := 0) (n := 5) (Room.new (w := w5) (Nat.zero_le _) rfl) _ | exact HFV.out.room (C := 0) (n := 5) (Room.keep (Room.new (w := wr) (Nat.zero_le _) rfl) hb5) _ | exact HFV.out.room (C := 0) (n := 5) (Room.keep (Room.new (w := wr.drew) (Nat.zero_le _) rfl) hb5) _), Lib.hid (pick9 (by assumption))⟩)
      case rest =>
        obtain ⟨w8, b7, M1, M2, m1, m2, rfl, rfl, K8, V8, B8⟩ := hcut
        clear hz
        have KK8 := Lib.hid (KK.out.keep B8.out)
        have BB8 := Lib.hid (btrans KB.out B8.out)
        have hne : b7 ≠ b5 := fun e => by have := KK.out.lt; have := K8.out.1; omega
        have k0 := (K8.out.cell 0).trans rfl
        have k1 := (K8.out.cell 1).trans rfl
        have k2 := (K8.out.cell 2).trans rfl
        have k4 := (K8.out.cell 4).trans rfl
        by_cases h0 : cc = 0
        · subst h0
          have hGR : G = R1 := HGG.out.symm.trans (if_pos rfl)
          subst hGR
          have q0 := (KK8.out.cell 0).trans rfl
          have q1 := (KK8.out.cell 1).trans rfl
          have q2 := (KK8.out.cell 2).trans rfl
          have f0 := KK8.out.frozen 0
          have f1 := KK8.out.frozen 1
          have f2 := KK8.out.frozen 2
          have N1 := Lib.hid (V8.out.1.neBlk KK8.out (by decide))
          have N2 := Lib.hid (V8.out.2.neBlk KK8.out (by decide))
          have hge := KK8.out.1
          have K9 := Lib.hid ((((KK8.out.setc 0 (.int .i64 G.cap)).setc 1 (.slice M1 G.n1 m1)).setc 2 (.slice M2 G.n2 m2)).cast (ds := #[.int .i64 G.cap, .slice M1 G.n1 m1, .slice M2 G.n2 m2]) (by simp only [List.setIfInBounds_toArray, List.set_cons_zero, List.set_cons_succ]))
          have V9 := Lib.hid (((V8.out.setf (p := ⟨b5, 0, none⟩) N1.out N2.out (.int .i64 G.cap)).setf (p := ⟨b5, 1, none⟩) N1.out N2.out (.slice M1 G.n1 m1)).setf (p := ⟨b5, 2, none⟩) N1.out N2.out (.slice M2 G.n2 m2))
          have B9 := Lib.hid (((BB8.out.setCell (p := ⟨b5, 0, none⟩) hge (.int .i64 G.cap)).setCell (p := ⟨b5, 1, none⟩) hge (.slice M1 G.n1 m1)).setCell (p := ⟨b5, 2, none⟩) hge (.slice M2 G.n2 m2))
          have KI2 := Lib.hid (show ∀ j, j < i + 1 → ecAt F E j = 0 from fun j hj => by rcases Nat.lt_succ_iff_lt_or_eq.1 hj with h | rfl; exact KI.out j h; exact HCC.out)
          clear hge hne
          go_wp2_with fail
          go_roundw
          case rel => exact ⟨i + 1, M1, M2, m1, m2, by omega, by go_num, KI2, by rw [H1.out]; exact K9, by rw [H1.out]; exact V9, B9⟩
          case measure => simp [intOf]; omega
        · have bne : (cc != 0) = true := by simpa using h0
          have HRN := Lib.hid (rn_bad (n := n) HNL.out HRR.out KI.out h5 (by rw [HCC.out]; exact h0))
          rw [HCC.out] at HRN
          have SQ := Lib.hid (S1.out.keep BB8.out)
          obtain ⟨z0, z1, z2, z3, z4, y0, y1, y2, y3, y4⟩ := SQ.out.out
          go_wp2_with fail
          exact bodyPost_ret (results_cell_row rfl _ _ _ _ _ _ _ rfl (SQ.out.give (FarmV.zero _ w1.heap.size) i cc).1 hu rfl (by kernel_rfl)) rfl (OutA.as ((SQ.out.give (FarmV.zero _ w1.heap.size) i cc).2 (by have := HBB.out; omega) (by have := HBB.out; have := HZ.out; omega) (HB.out.trans (SQ.out.bel.mono (by have := HZ.out; have := HBB.out; omega)))) HRN.out.2.1 HRN.out.1 HRN.out.2.2)
    · obtain rfl : i = n := by omega
      have b1 : decide ((i : Int) < (i : Int)) = false := decide_eq_false (by omega)
      have HRN := Lib.hid (rn_all HNL.out HRR.out KI.out)
      obtain ⟨z0, z1, z2, z3, z4, y0, y1, y2, y3, y4⟩ := SR.out.out
      have k0 := (KK.out.cell 0).trans rfl
      have k1 := (KK.out.cell 1).trans rfl
      have k2 := (KK.out.cell 2).trans rfl
      have hne : b5 ≠ b + 1 := fun e => by have := KK.out.1; have := HZ.out; omega
      go_wp2_with fail
      exact bodyPost_ret (results_cell_row rfl _ _ _ _ _ _ _ rfl (SR.out.give KV.out 0 0).1 hu rfl (by kernel_rfl)) rfl (OutA.as ((SR.out.give KV.out 0 0).2 (by have := HBB.out; omega) (by have := HBB.out; have := HZ.out; omega) (HB.out.trans (SR.out.bel.mono (by have := HZ.out; have := HBB.out; omega)))) HRN.out.2.1 HRN.out.1 HRN.out.2.2)
end Go.Proofs.Ytipkbapnhgdpeaa.C
