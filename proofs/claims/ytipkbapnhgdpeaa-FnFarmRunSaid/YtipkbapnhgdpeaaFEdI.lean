/- The program's edits of farms: edit, edited, FarmEdit. No condition. -/
import Derived.Test.YtipkbapnhgdpeaaFEdB
namespace Go.Proofs.Ytipkbapnhgdpeaa.C
open Go.RowKit
set_option maxRecDepth 100000
set_option linter.unusedVariables false
set_option linter.unusedSimpArgs false
attribute [local go_sem ↓] Go.wp_at_zero Go.wp_at_succ
theorem c_edit_farm {F : Fm} {k id g a c : Int} {B fb : Nat} {w : World} (h : FarmIn w B fb F) (hr : Right F) (hB : B ≤ w.heap.size) (he : EdOk k id g a c) :
    Calls Try.prog 115 #[.pointer (some ⟨fb, 0, none⟩), .agg #[.int .i64 k, .int .i64 id, .int .i64 g, .int .i64 a, .int .i64 c]] w (EdOut F k id g a c B fb w) := by
  obtain ⟨h1, h2, h3, h4⟩ := he
  rcases h3 with ⟨rfl | rfl, x⟩ | ⟨rfl | rfl, rfl, rfl, rfl⟩ | ⟨rfl | rfl, rfl, x, rfl⟩ | ⟨rfl, rfl, x, rfl⟩ | ⟨rfl, rfl, rfl⟩
  · exact c_edit_join h hr hB
  · exact c_edit_group h hr hB
  · rcases e0 : hasId F.n2 F.f2 id with _ | _
    · exact c_edit_leave_none h hr hB e0
    · exact c_edit_leave_go h hr hB e0
  · rcases e0 : hasId F.n1 F.f1 id with _ | _
    · exact c_edit_drop_none h hr hB e0
    · rcases e1 : (busyB F.n1 F.f1 id || busyB F.n2 F.f2 id) with _ | _
      · exact c_edit_drop_go h hr hB e0 e1
      · exact c_edit_drop_busy h hr hB e0 e1
  · rcases e0 : hasId F.n2 F.f2 id with _ | _
    · exact c_edit_want_none h hr hB e0
    · exact c_edit_want_go h hr hB e0
  · by_cases h0 : id = 0
    · subst h0
      exact c_edit_cap0 h hr hB
    · rcases e0 : hasId F.n1 F.f1 id with _ | _
      · exact c_edit_cap_none h hr hB h0 e0
      · exact c_edit_cap_go h hr hB h0 e0
  · rcases e0 : hasId F.n2 F.f2 id with _ | _
    · exact c_edit_weight_none h hr hB e0
    · exact c_edit_weight_go h hr hB e0
  · rcases e0 : hasId F.n2 F.f2 id with _ | _
    · exact c_edit_move_none h hr hB e0
    · rcases e1 : hasG F g with _ | _
      · exact c_edit_move_nogroup h hr hB e0 e1
      · exact c_edit_move_go h hr hB e0 e1
/-- A farm's tables, of a call's own. -/
def FarmV (w : World) (B : Nat) (F : Fm) (vg vm : Value) : Prop := OwnT 114 w B vg F.n1 F.f1 ∧ OwnT 91 w B vm F.n2 F.f2
theorem FarmV.zero (w : World) (B : Nat) : FarmV w B fm0 (.slice none 0 0) (.slice none 0 0) := ⟨OwnT.nil _ _ _ _, OwnT.nil _ _ _ _⟩
theorem FarmV.keep {w w' : World} {B : Nat} {F : Fm} {vg vm : Value} (h : FarmV w B F vg vm) (hb : Below w.heap.size w w') : FarmV w' B F vg vm := ⟨h.1.keep hb, h.2.keep hb⟩
theorem FarmV.mono {w : World} {B B' : Nat} {F : Fm} {vg vm : Value} (h : FarmV w B F vg vm) (hB : B' ≤ B) : FarmV w B' F vg vm := ⟨h.1.mono hB, h.2.mono hB⟩
theorem FarmV.setf {w : World} {B : Nat} {F : Fm} {vg vm : Value} (h : FarmV w B F vg vm) {p : Addr} (h1 : vg.ownBlock ≠ some p.block) (h2 : vm.ownBlock ≠ some p.block) (u : Value) : FarmV (w.setCell p u) B F vg vm := ⟨h.1.setf h1 u, h.2.setf h2 u⟩
/-- The code of an edit of a right farm, and the farm. -/
def ecC (F : Fm) (k id g a c : Int) : Int := if isEdB k id g a c = true then edC F k id g a c else 1
def ecF (F : Fm) (k id g a c : Int) : Fm := if ecC F k id g a c = 0 then edF F k id g a c else fm0
def EdtOut (F : Fm) (k id g a c : Int) (w : World) (e : Ending) (w' : World) : Prop :=
  ∃ vg vm, e = .returned (.tuple #[.agg #[.int .i64 (ecF F k id g a c).cap, vg, vm], .int .i64 (ecC F k id g a c)]) ∧ FarmV w' w.heap.size (ecF F k id g a c) vg vm ∧ Below w.heap.size w w'
theorem results_cell_tmp {P : Program} {fn : Func} {p s : Tmp} {ty : TypeId} (h : fn.results = #[.cell p ty, .tmp s]) (tmps : Array Value) (w : World) (g : Nat) (t : TypeId) (cs : Array Value) (fr : Nat × Nat) (d : TypeDesc)
    (hp : tmps.getD p undef = .pointer (some ⟨g, 0, none⟩)) (v : Value) (hv : tmps.getD s undef = v) (hg : w.heap[g]? = some (.cells cs t fr))
    (hu : P.underlying ty = some d) (hd : (match d with | .struct _ | .array _ _ => true | _ => false) = true) (hi : (P.info? ty).map (·.size) = some cs.size) :
    (results fn tmps).run P w = .ok (.tuple #[.agg cs, v]) w := by
  have hp' : tmps[p]?.getD undef = .pointer (some ⟨g, 0, none⟩) := by simpa using hp
  have hv' : tmps[s]?.getD undef = v := by simpa using hv
  simp [results, h, hp', hv', asAddr, run_loadVar_row w g t ty cs fr d hg hu hd hi]
set_option maxHeartbeats 4000000 in
theorem c_edited (F : Fm) (A1 A2 : Option Addr) (c1 c2 : Nat) (k id g a c : Int) (w : World) (h : FarmAt w A1 F.n1 F.f1 A2 F.n2 F.f2) (hr : Right F) :
    Calls Try.prog 78 #[.agg #[.int .i64 F.cap, .slice A1 F.n1 c1, .slice A2 F.n2 c2], .agg #[.int .i64 k, .int .i64 id, .int .i64 g, .int .i64 a, .int .i64 c]] w (EdtOut F k id g a c w) := by
  have hu := Try.underlying34
  have hal : Below w.heap.size w (((w.alloc (.cells #[.int .i64 F.cap, .slice A1 F.n1 c1, .slice A2 F.n2 c2] 34)).alloc (.cells #[.int .i64 k, .int .i64 id, .int .i64 g, .int .i64 a, .int .i64 c] 56)).alloc (.cells #[.int .i64 0, .slice none 0 0, .slice none 0 0] 34)) := (((Below.refl w.heap.size w).alloc (Nat.le_refl _) _).alloc (by simp) _).alloc (by simp; omega) _
  have B1 := Lib.hid (((Blk.new (w := w) (B := 0) (Nat.zero_le _) #[.int .i64 F.cap, .slice A1 F.n1 c1, .slice A2 F.n2 c2] 34).keep ((Below.refl _ _).alloc (Nat.le_refl _) (.cells #[.int .i64 k, .int .i64 id, .int .i64 g, .int .i64 a, .int .i64 c] 56))).keep ((Below.refl _ _).alloc (Nat.le_refl _) (.cells #[.int .i64 0, .slice none 0 0, .slice none 0 0] 34)))
  have hb2 := ((Blk.new (w := w.alloc (.cells #[.int .i64 F.cap, .slice A1 F.n1 c1, .slice A2 F.n2 c2] 34)) (B := 0) (Nat.zero_le _) #[.int .i64 k, .int .i64 id, .int .i64 g, .int .i64 a, .int .i64 c] 56).keep ((Below.refl _ _).alloc (Nat.le_refl _) (.cells #[.int .i64 0, .slice none 0 0, .slice none 0 0] 34)))
  have hb3 := Blk.new (w := (w.alloc (.cells #[.int .i64 F.cap, .slice A1 F.n1 c1, .slice A2 F.n2 c2] 34)).alloc (.cells #[.int .i64 k, .int .i64 id, .int .i64 g, .int .i64 a, .int .i64 c] 56)) (B := 0) (Nat.zero_le _) #[.int .i64 0, .slice none 0 0, .slice none 0 0] 34
  simp only [World.size_alloc] at hb2 hb3
  have B2 := Lib.hid hb2
  have B3 := Lib.hid hb3
  have H := Lib.hid (h.keep hal)
  have HB := Lib.hid hal
  have HZ : Hid ((((w.alloc (.cells #[.int .i64 F.cap, .slice A1 F.n1 c1, .slice A2 F.n2 c2] 34)).alloc (.cells #[.int .i64 k, .int .i64 id, .int .i64 g, .int .i64 a, .int .i64 c] 56)).alloc (.cells #[.int .i64 0, .slice none 0 0, .slice none 0 0] 34)).heap.size = w.heap.size + 1 + 1 + 1) := Lib.hid (by simp)
  have HR := Lib.hid hr
  have hl1 := hr.l1
  have hl2 := hr.l2
  clear h hal hb2 hb3 hr
  rcases hed : isEdB k id g a c with _ | _
  · have hc : Hid (ecC F k id g a c = 1) := Lib.hid (by unfold ecC; rw [hed]; rfl)
    have hf : Hid (ecF F k id g a c = fm0) := Lib.hid (by unfold ecF; rw [hc.out]; rfl)
    have HED := Lib.hid hed
    clear hed
    go_enter Try.func78, Try.ntmps78
    go_upto_region 1 with fail
    generalize (((w.alloc (.cells #[.int .i64 F.cap, .slice A1 F.n1 c1, .slice A2 F.n2 c2] 34)).alloc (.cells #[.int .i64 k, .int .i64 id, .int .i64 g, .int .i64 a, .int .i64 c] 56)).alloc (.cells #[.int .i64 0, .slice none 0 0, .slice none 0 0] 34)) = w1 at *
    obtain ⟨b, hbb⟩ : ∃ b, w.heap.size = b := ⟨_, rfl⟩
    have HBB := Lib.hid hbb
    rw [hbb] at B1 B2 B3 HZ ⊢
    clear hbb
    have s0 := (B2.out.cell 0).trans rfl
    have s1 := (B2.out.cell 1).trans rfl
    have s2 := (B2.out.cell 2).trans rfl
    have s3 := (B2.out.cell 3).trans rfl
    have s4 := (B2.out.cell 4).trans rfl
    go_wp2_with (first | (go_at_call 114; refine (c_isEdit _ _ _ _ _ _).mono ?_; rintro e w2 ⟨rfl, hb2⟩; rw [HED.out]; have HB2 := Lib.hid hb2; have x0 := ((B3.out.keep hb2).cell 0).trans rfl; have x1 := ((B3.out.keep hb2).cell 1).trans rfl; have x2 := ((B3.out.keep hb2).cell 2).trans rfl; have f0 := (B3.out.keep hb2).frozen 0; have f1 := (B3.out.keep hb2).frozen 1; have f2 := (B3.out.keep hb2).frozen 2; clear hb2) | fail)
    have BB := (((((B3.out.keep HB2.out).setc 0 (.int .i64 0)).setc 1 (.slice none 0 0)).setc 2 (.slice none 0 0)).cast (ds := #[.int .i64 0, .slice none 0 0, .slice none 0 0]) (by simp only [List.setIfInBounds_toArray, List.set_cons_zero, List.set_cons_succ]))
    refine bodyPost_ret (v := .tuple #[.agg #[.int .i64 0, .slice none 0 0, .slice none 0 0], .int .i64 1]) (results_cell_tmp Try.results78 _ _ _ _ _ _ _ rfl _ rfl BB.2 hu rfl (by kernel_rfl)) rfl ⟨.slice none 0 0, .slice none 0 0, by rw [hc.out, hf.out]; rfl, by rw [hf.out]; exact FarmV.zero _ _, ?_⟩
    have := HZ.out
    have := HBB.out
    exact (((HB.out.trans (HB2.out.mono (by omega))).setCell (p := ⟨b + 1 + 1, 0, none⟩) (by show w.heap.size ≤ b + 1 + 1; omega) _).setCell (p := ⟨b + 1 + 1, 1, none⟩) (by show w.heap.size ≤ b + 1 + 1; omega) _).setCell (p := ⟨b + 1 + 1, 2, none⟩) (by show w.heap.size ≤ b + 1 + 1; omega) _
  · have hok := Lib.hid (EdOk.of hed)
    have hc : Hid (ecC F k id g a c = edC F k id g a c) := Lib.hid (by unfold ecC; rw [if_pos hed])
    have HED := Lib.hid hed
    clear hed
    obtain ⟨cc, hcc⟩ : ∃ cc, edC F k id g a c = cc := ⟨_, rfl⟩
    have HCC := Lib.hid hcc
    clear hcc
    by_cases h0 : cc = 0
    all_goals (
      go_enter Try.func78, Try.ntmps78
      go_upto_region 1 with fail
      generalize (((w.alloc (.cells #[.int .i64 F.cap, .slice A1 F.n1 c1, .slice A2 F.n2 c2] 34)).alloc (.cells #[.int .i64 k, .int .i64 id, .int .i64 g, .int .i64 a, .int .i64 c] 56)).alloc (.cells #[.int .i64 0, .slice none 0 0, .slice none 0 0] 34)) = w1 at *
      obtain ⟨b, hbb⟩ : ∃ b, w.heap.size = b := ⟨_, rfl⟩
      have HBB := Lib.hid hbb
      rw [hbb] at B1 B2 B3 HZ ⊢
      clear hbb
      have s0 := (B2.out.cell 0).trans rfl
      have s1 := (B2.out.cell 1).trans rfl
      have s2 := (B2.out.cell 2).trans rfl
      have s3 := (B2.out.cell 3).trans rfl
      have s4 := (B2.out.cell 4).trans rfl
      go_upto_region 4 with (first
        | (go_at_call 114; refine (c_isEdit _ _ _ _ _ _).mono ?_; rintro e w2 ⟨rfl, hb2⟩; rw [HED.out]; have HB2 := Lib.hid hb2; have x0 := ((B1.out.keep hb2).cell 0).trans rfl; have x1 := ((B1.out.keep hb2).cell 1).trans rfl; have x2 := ((B1.out.keep hb2).cell 2).trans rfl; clear hb2)
        | (go_at_call 95; refine (c_copied F.cap A1 A2 F.n1 c1 F.n2 c2 F.f1 F.f2 w2 (H.out.keep HB2.out) (by omega) (by omega)).mono ?_; rintro e w3 ⟨vg, vm, rfl, hO1, hO2, hb3⟩; obtain ⟨G1', d1, rfl, hd1, -⟩ := hO1.tab; obtain ⟨G2', d2, rfl, hd2, -⟩ := hO2.tab; have O1 := Lib.hid hO1; have O2 := Lib.hid hO2; have HB3 := Lib.hid (btrans HB2.out hb3); have HS3 := Lib.hid hb3.size; clear hO1 hO2 hb3)
        | fail)
      have al4 := (Below.refl w3.heap.size w3).alloc (Nat.le_refl _) (.cells #[.int .i64 F.cap, .slice G1' F.n1 d1, .slice G2' F.n2 d2] 34)
      have FI := Lib.hid (show FarmIn (w3.alloc (.cells #[.int .i64 F.cap, .slice G1' F.n1 d1, .slice G2' F.n2 d2] 34)) w2.heap.size w3.heap.size F from ⟨_, _, Blk.new HS3.out _ _, O1.out.keep al4, O2.out.keep al4⟩)
      have HB4 := Lib.hid (btrans HB3.out al4)
      have HS4 := Lib.hid (Nat.le_trans HS3.out al4.size)
      have HS2 := Lib.hid HB2.out.size
      have E4 := B2.out.keep HB4.out
      have s0' := (E4.cell 0).trans rfl
      have s1' := (E4.cell 1).trans rfl
      have s2' := (E4.cell 2).trans rfl
      have s3' := (E4.cell 3).trans rfl
      have s4' := (E4.cell 4).trans rfl
      clear s0 s1 s2 s3 s4 x0 x1 x2 al4 E4
      generalize (w3.alloc (.cells #[.int .i64 F.cap, .slice G1' F.n1 d1, .slice G2' F.n2 d2] 34)) = w4 at *
      generalize w3.heap.size = fb at *
      generalize hB2 : w2.heap.size = B at *
      clear hB2)
    · subst h0
      go_wp2_with (first
        | (go_at_call 115; refine (c_edit_farm FI.out HR.out HS4.out hok.out).mono ?_; rintro e w5 ⟨rfl, hb5, hF⟩; rw [HCC.out]; obtain ⟨vg, vm, hK, hG, hM⟩ := hF HCC.out; obtain ⟨J1, j1, rfl, -, -⟩ := hG.tab; obtain ⟨J2, j2, rfl, -, -⟩ := hM.tab; have KK := Lib.hid hK; have KG := Lib.hid hG; have KM := Lib.hid hM; have R3 := Lib.hid (((B3.out.keep HB4.out).lowT hb5 (by have := HS2.out; have := HZ.out; omega))); have R0 := Lib.hid hb5; have z0 := (R3.out.cell 0).trans rfl; have z1 := (R3.out.cell 1).trans rfl; have z2 := (R3.out.cell 2).trans rfl; have f0 := R3.out.frozen 0; have f1 := R3.out.frozen 1; have f2 := R3.out.frozen 2; have y0 := (hK.cell 0).trans rfl; have y1 := (hK.cell 1).trans rfl; have y2 := (hK.cell 2).trans rfl; have hne : fb ≠ b + 1 + 1 := (by have := hK.1; have := HS2.out; have := HZ.out; omega); clear hb5 hF hK hG hM)
        | fail)
      have hce : ecC F k id g a c = 0 := hc.out.trans HCC.out
      have hfe : ecF F k id g a c = edF F k id g a c := by unfold ecF; rw [if_pos hce]
      have BB := (((R3.out.setc 0 (.int .i64 (edF F k id g a c).cap)).setc 1 (.slice J1 (edF F k id g a c).n1 j1)).setc 2 (.slice J2 (edF F k id g a c).n2 j2)).cast (ds := #[.int .i64 (edF F k id g a c).cap, .slice J1 (edF F k id g a c).n1 j1, .slice J2 (edF F k id g a c).n2 j2]) (by simp only [List.setIfInBounds_toArray, List.set_cons_zero, List.set_cons_succ])
      have ng := KG.out.neBlk R3.out (by decide)
      have nm := KM.out.neBlk R3.out (by decide)
      have hlo : w.heap.size ≤ B := by have := HS2.out; have := HZ.out; have := HBB.out; omega
      have hlo2 : w.heap.size ≤ b + 1 + 1 := by have := HBB.out; omega
      have FV : FarmV w5 w.heap.size (edF F k id g a c) (.slice J1 (edF F k id g a c).n1 j1) (.slice J2 (edF F k id g a c).n2 j2) := ⟨KG.out.mono hlo, KM.out.mono hlo⟩
      have BT : Below w.heap.size w w5 := (HB.out.trans (HB4.out.mono (by have := HZ.out; omega))).trans (R0.out.mono hlo)
      exact bodyPost_ret (v := .tuple #[.agg #[.int .i64 (edF F k id g a c).cap, .slice J1 (edF F k id g a c).n1 j1, .slice J2 (edF F k id g a c).n2 j2], .int .i64 0]) (results_cell_tmp Try.results78 _ _ _ _ _ _ _ rfl _ rfl BB.2 hu rfl (by kernel_rfl)) rfl ⟨_, _, by rw [hce, hfe], by rw [hfe]; exact ((FV.setf (p := ⟨b + 1 + 1, 0, none⟩) ng nm _).setf (p := ⟨b + 1 + 1, 1, none⟩) ng nm _).setf (p := ⟨b + 1 + 1, 2, none⟩) ng nm _, ((BT.setCell (p := ⟨b + 1 + 1, 0, none⟩) hlo2 _).setCell (p := ⟨b + 1 + 1, 1, none⟩) hlo2 _).setCell (p := ⟨b + 1 + 1, 2, none⟩) hlo2 _⟩
    · have bne : (cc != 0) = true := by simpa using h0
      go_wp2_with (first
        | (go_at_call 115; refine (c_edit_farm FI.out HR.out HS4.out hok.out).mono ?_; rintro e w5 ⟨rfl, hb5, -⟩; rw [HCC.out]; have R3 := Lib.hid (((B3.out.keep HB4.out).lowT hb5 (by have := HS2.out; have := HZ.out; omega))); have R0 := Lib.hid hb5; have z0 := (R3.out.cell 0).trans rfl; have z1 := (R3.out.cell 1).trans rfl; have z2 := (R3.out.cell 2).trans rfl; have f0 := R3.out.frozen 0; have f1 := R3.out.frozen 1; have f2 := R3.out.frozen 2; clear hb5)
        | fail)
      have hce : ecC F k id g a c = cc := hc.out.trans HCC.out
      have hfe : ecF F k id g a c = fm0 := by unfold ecF; rw [if_neg (by rw [hce]; exact h0)]
      have BB := (((R3.out.setc 0 (.int .i64 0)).setc 1 (.slice none 0 0)).setc 2 (.slice none 0 0)).cast (ds := #[.int .i64 0, .slice none 0 0, .slice none 0 0]) (by simp only [List.setIfInBounds_toArray, List.set_cons_zero, List.set_cons_succ])
      have hlo : w.heap.size ≤ B := by have := HS2.out; have := HZ.out; have := HBB.out; omega
      have hlo2 : w.heap.size ≤ b + 1 + 1 := by have := HBB.out; omega
      have BT : Below w.heap.size w w5 := (HB.out.trans (HB4.out.mono (by have := HZ.out; omega))).trans (R0.out.mono hlo)
      exact bodyPost_ret (v := .tuple #[.agg #[.int .i64 0, .slice none 0 0, .slice none 0 0], .int .i64 cc]) (results_cell_tmp Try.results78 _ _ _ _ _ _ _ rfl _ rfl BB.2 hu rfl (by kernel_rfl)) rfl ⟨_, _, by rw [hce, hfe]; rfl, by rw [hfe]; exact FarmV.zero _ _, ((BT.setCell (p := ⟨b + 1 + 1, 0, none⟩) hlo2 _).setCell (p := ⟨b + 1 + 1, 1, none⟩) hlo2 _).setCell (p := ⟨b + 1 + 1, 2, none⟩) hlo2 _⟩
/-- What FarmEdit answers. -/
def FeOut (F : Fm) (k id g a c : Int) (w : World) (e : Ending) (w' : World) : Prop :=
  ∃ vg vm, e = .returned (.agg #[.int .i64 (feF F k id g a c).cap, vg, vm, .int .i64 0, .int .i64 (feC F k id g a c)]) ∧ FarmV w' w.heap.size (feF F k id g a c) vg vm ∧ Below w.heap.size w w'
theorem fe_no {F : Fm} {k id g a c : Int} (h : fmB F = false) : feC F k id g a c = 1 ∧ feF F k id g a c = fm0 := by
  have e : feC F k id g a c = 1 := by unfold feC; rw [if_neg (by rw [h]; decide)]
  exact ⟨e, by unfold feF; rw [if_neg (by rw [e]; decide)]⟩
theorem fe_yes {F : Fm} {k id g a c : Int} (h : fmB F = true) : feC F k id g a c = ecC F k id g a c ∧ feF F k id g a c = ecF F k id g a c := by
  have e : feC F k id g a c = ecC F k id g a c := by unfold feC; rw [if_pos h]; rfl
  exact ⟨e, by unfold feF ecF; rw [e]⟩
set_option maxHeartbeats 4000000 in
theorem c_FarmEdit (F : Fm) (A1 A2 : Option Addr) (c1 c2 : Nat) (k id g a c : Int) (w : World) (h : FarmAt w A1 F.n1 F.f1 A2 F.n2 F.f2) (hc1 : F.n1 ≤ c1) :
    Calls Try.prog 28 #[.agg #[.int .i64 F.cap, .slice A1 F.n1 c1, .slice A2 F.n2 c2], .agg #[.int .i64 k, .int .i64 id, .int .i64 g, .int .i64 a, .int .i64 c]] w (FeOut F k id g a c w) := by
  have hu := Try.underlying60
  have hal : Below w.heap.size w (((w.alloc (.cells #[.int .i64 F.cap, .slice A1 F.n1 c1, .slice A2 F.n2 c2] 34)).alloc (.cells #[.int .i64 k, .int .i64 id, .int .i64 g, .int .i64 a, .int .i64 c] 56)).alloc (.cells #[.int .i64 0, .slice none 0 0, .slice none 0 0, .int .i64 0, .int .i64 0] 60)) := (((Below.refl w.heap.size w).alloc (Nat.le_refl _) _).alloc (by simp) _).alloc (by simp; omega) _
  have B1 := Lib.hid (((Blk.new (w := w) (B := 0) (Nat.zero_le _) #[.int .i64 F.cap, .slice A1 F.n1 c1, .slice A2 F.n2 c2] 34).keep ((Below.refl _ _).alloc (Nat.le_refl _) (.cells #[.int .i64 k, .int .i64 id, .int .i64 g, .int .i64 a, .int .i64 c] 56))).keep ((Below.refl _ _).alloc (Nat.le_refl _) (.cells #[.int .i64 0, .slice none 0 0, .slice none 0 0, .int .i64 0, .int .i64 0] 60)))
  have hb2 := ((Blk.new (w := w.alloc (.cells #[.int .i64 F.cap, .slice A1 F.n1 c1, .slice A2 F.n2 c2] 34)) (B := 0) (Nat.zero_le _) #[.int .i64 k, .int .i64 id, .int .i64 g, .int .i64 a, .int .i64 c] 56).keep ((Below.refl _ _).alloc (Nat.le_refl _) (.cells #[.int .i64 0, .slice none 0 0, .slice none 0 0, .int .i64 0, .int .i64 0] 60)))
  have hb3 := Blk.new (w := (w.alloc (.cells #[.int .i64 F.cap, .slice A1 F.n1 c1, .slice A2 F.n2 c2] 34)).alloc (.cells #[.int .i64 k, .int .i64 id, .int .i64 g, .int .i64 a, .int .i64 c] 56)) (B := 0) (Nat.zero_le _) #[.int .i64 0, .slice none 0 0, .slice none 0 0, .int .i64 0, .int .i64 0] 60
  simp only [World.size_alloc] at hb2 hb3
  have B2 := Lib.hid hb2
  have B3 := Lib.hid hb3
  have H := Lib.hid (h.keep hal)
  have HB := Lib.hid hal
  have HZ : Hid ((((w.alloc (.cells #[.int .i64 F.cap, .slice A1 F.n1 c1, .slice A2 F.n2 c2] 34)).alloc (.cells #[.int .i64 k, .int .i64 id, .int .i64 g, .int .i64 a, .int .i64 c] 56)).alloc (.cells #[.int .i64 0, .slice none 0 0, .slice none 0 0, .int .i64 0, .int .i64 0] 60)).heap.size = w.heap.size + 1 + 1 + 1) := Lib.hid (by simp)
  clear h hal hb2 hb3
  obtain ⟨rr, hrr⟩ : ∃ rr, fmB F = rr := ⟨_, rfl⟩
  have HRR := Lib.hid hrr
  go_enter Try.func28, Try.ntmps28
  go_upto_region 1 with fail
  generalize (((w.alloc (.cells #[.int .i64 F.cap, .slice A1 F.n1 c1, .slice A2 F.n2 c2] 34)).alloc (.cells #[.int .i64 k, .int .i64 id, .int .i64 g, .int .i64 a, .int .i64 c] 56)).alloc (.cells #[.int .i64 0, .slice none 0 0, .slice none 0 0, .int .i64 0, .int .i64 0] 60)) = w1 at *
  obtain ⟨b, hbb⟩ : ∃ b, w.heap.size = b := ⟨_, rfl⟩
  have HBB := Lib.hid hbb
  rw [hbb] at B1 B2 B3 HZ ⊢
  clear hbb
  have s0 := (B1.out.cell 0).trans rfl
  have s1 := (B1.out.cell 1).trans rfl
  have s2 := (B1.out.cell 2).trans rfl
  have HFR := Lib.hid (show Calls Try.prog 30 #[.agg #[.int .i64 F.cap, .slice A1 F.n1 c1, .slice A2 F.n2 c2]] w1 fun e w' => e = .returned (.bool rr) ∧ Below w1.heap.size w1 w' from hrr ▸ c_FarmRight F.cap A1 A2 F.n1 c1 F.n2 c2 F.f1 F.f2 w1 H.out hc1)
  clear hrr
  cases rr
  · go_wp2_with (first
      | (go_at_call 30; (with_reducible refine HFR.out.mono ?_); rintro e w2 ⟨rfl, hb2⟩; have HB2 := Lib.hid hb2; have K3 := Lib.hid (B3.out.keep hb2); have x0 := (K3.out.cell 0).trans rfl; have x1 := (K3.out.cell 1).trans rfl; have x2 := (K3.out.cell 2).trans rfl; have x3 := (K3.out.cell 3).trans rfl; have x4 := (K3.out.cell 4).trans rfl; have f0 := K3.out.frozen 0; have f1 := K3.out.frozen 1; have f2 := K3.out.frozen 2; have f3 := K3.out.frozen 3; have f4 := K3.out.frozen 4; clear hb2)
      | fail)
    obtain ⟨hce, hfe⟩ := fe_no (k := k) (id := id) (g := g) (a := a) (c := c) HRR.out
    have BB := (((((K3.out.setc 0 (.int .i64 0)).setc 1 (.slice none 0 0)).setc 2 (.slice none 0 0)).setc 3 (.int .i64 0)).setc 4 (.int .i64 1)).cast (ds := #[.int .i64 0, .slice none 0 0, .slice none 0 0, .int .i64 0, .int .i64 1]) (by simp only [List.setIfInBounds_toArray, List.set_cons_zero, List.set_cons_succ])
    have hlo2 : w.heap.size ≤ b + 1 + 1 := by have := HBB.out; omega
    have BT : Below w.heap.size w w2 := HB.out.trans (HB2.out.mono (by have := HZ.out; have := HBB.out; omega))
    exact bodyPost_ret (v := .agg #[.int .i64 0, .slice none 0 0, .slice none 0 0, .int .i64 0, .int .i64 1]) (results_cell_row rfl _ _ _ _ _ _ _ rfl BB.2 hu rfl (by kernel_rfl)) rfl ⟨_, _, by rw [hce, hfe]; rfl, by rw [hfe]; exact FarmV.zero _ _, ((((BT.setCell (p := ⟨b + 1 + 1, 0, none⟩) hlo2 _).setCell (p := ⟨b + 1 + 1, 1, none⟩) hlo2 _).setCell (p := ⟨b + 1 + 1, 2, none⟩) hlo2 _).setCell (p := ⟨b + 1 + 1, 3, none⟩) hlo2 _).setCell (p := ⟨b + 1 + 1, 4, none⟩) hlo2 _⟩
  · have HR := Lib.hid (Right.of HRR.out)
    obtain ⟨hce, hfe⟩ := fe_yes (k := k) (id := id) (g := g) (a := a) (c := c) HRR.out
    have HCE := Lib.hid hce
    have HFE := Lib.hid hfe
    clear hce hfe
    go_upto_region 4 with (first
      | (go_at_call 30; (with_reducible refine HFR.out.mono ?_); rintro e w2 ⟨rfl, hb2⟩; have HB2 := Lib.hid hb2; have K1 := Lib.hid (B1.out.keep hb2); have K2 := Lib.hid (B2.out.keep hb2); have x0 := (K1.out.cell 0).trans rfl; have x1 := (K1.out.cell 1).trans rfl; have x2 := (K1.out.cell 2).trans rfl; have y0 := (K2.out.cell 0).trans rfl; have y1 := (K2.out.cell 1).trans rfl; have y2 := (K2.out.cell 2).trans rfl; have y3 := (K2.out.cell 3).trans rfl; have y4 := (K2.out.cell 4).trans rfl; clear hb2)
      | (go_at_call 78; refine (c_edited F A1 A2 c1 c2 k id g a c w2 (H.out.keep HB2.out) HR.out).mono ?_; rintro e w3 ⟨vg, vm, rfl, hV, hb3⟩; obtain ⟨J1, j1, rfl, -, -⟩ := hV.1.tab; obtain ⟨J2, j2, rfl, -, -⟩ := hV.2.tab; have HV := Lib.hid hV; have HB3 := Lib.hid (btrans HB2.out hb3); have HS2 := Lib.hid HB2.out.size; clear hV hb3)
      | fail)
    clear s0 s1 s2 x0 x1 x2 y0 y1 y2 y3 y4
    generalize hF' : ecF F k id g a c = F' at *
    generalize ecC F k id g a c = cc at *
    have hal := (Below.refl w3.heap.size w3).alloc (Nat.le_refl _) (.cells #[.int .i64 F'.cap, .slice J1 F'.n1 j1, .slice J2 F'.n2 j2] 34)
    have K5 := Lib.hid (Blk.new (w := w3) (B := 0) (Nat.zero_le _) #[.int .i64 F'.cap, .slice J1 F'.n1 j1, .slice J2 F'.n2 j2] 34)
    have HV4 := Lib.hid (HV.out.keep hal)
    have HB4 := Lib.hid (btrans HB3.out hal)
    have K3 := Lib.hid (B3.out.keep HB4.out)
    have hs3 : b + 1 + 1 < w3.heap.size := by have := HB3.out.size; have := HZ.out; omega
    clear hal
    generalize (w3.alloc (.cells #[.int .i64 F'.cap, .slice J1 F'.n1 j1, .slice J2 F'.n2 j2] 34)) = w4 at *
    generalize w3.heap.size = b5 at *
    have x0 := (K3.out.cell 0).trans rfl
    have x1 := (K3.out.cell 1).trans rfl
    have x2 := (K3.out.cell 2).trans rfl
    have x3 := (K3.out.cell 3).trans rfl
    have x4 := (K3.out.cell 4).trans rfl
    have f0 := K3.out.frozen 0
    have f1 := K3.out.frozen 1
    have f2 := K3.out.frozen 2
    have f3 := K3.out.frozen 3
    have f4 := K3.out.frozen 4
    have y0 := (K5.out.cell 0).trans rfl
    have y1 := (K5.out.cell 1).trans rfl
    have y2 := (K5.out.cell 2).trans rfl
    go_wp2_with fail
    have BB := (((((K3.out.setc 0 (.int .i64 F'.cap)).setc 1 (.slice J1 F'.n1 j1)).setc 2 (.slice J2 F'.n2 j2)).setc 3 (.int .i64 0)).setc 4 (.int .i64 cc)).cast (ds := #[.int .i64 F'.cap, .slice J1 F'.n1 j1, .slice J2 F'.n2 j2, .int .i64 0, .int .i64 cc]) (by simp only [List.setIfInBounds_toArray, List.set_cons_zero, List.set_cons_succ])
    have hlo2 : w.heap.size ≤ b + 1 + 1 := by have := HBB.out; omega
    have BT : Below w.heap.size w w4 := HB.out.trans (HB4.out.mono (by have := HZ.out; have := HBB.out; omega))
    have ng := HV4.out.1.neBlk K3.out (by decide)
    have nm := HV4.out.2.neBlk K3.out (by decide)
    have FV : FarmV w4 w.heap.size F' (.slice J1 F'.n1 j1) (.slice J2 F'.n2 j2) := HV4.out.mono (by have := HS2.out; have := HZ.out; have := HBB.out; omega)
    exact bodyPost_ret (v := .agg #[.int .i64 F'.cap, .slice J1 F'.n1 j1, .slice J2 F'.n2 j2, .int .i64 0, .int .i64 cc]) (results_cell_row rfl _ _ _ _ _ _ _ rfl BB.2 hu rfl (by kernel_rfl)) rfl ⟨_, _, by rw [HCE.out, HFE.out], by rw [HFE.out]; exact ((((FV.setf (p := ⟨b + 1 + 1, 0, none⟩) ng nm _).setf (p := ⟨b + 1 + 1, 1, none⟩) ng nm _).setf (p := ⟨b + 1 + 1, 2, none⟩) ng nm _).setf (p := ⟨b + 1 + 1, 3, none⟩) ng nm _).setf (p := ⟨b + 1 + 1, 4, none⟩) ng nm _, ((((BT.setCell (p := ⟨b + 1 + 1, 0, none⟩) hlo2 _).setCell (p := ⟨b + 1 + 1, 1, none⟩) hlo2 _).setCell (p := ⟨b + 1 + 1, 2, none⟩) hlo2 _).setCell (p := ⟨b + 1 + 1, 3, none⟩) hlo2 _).setCell (p := ⟨b + 1 + 1, 4, none⟩) hlo2 _⟩
end Go.Proofs.Ytipkbapnhgdpeaa.C
