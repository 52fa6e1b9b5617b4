/- Drawn farms with an edit, with edits: of the call's own. No condition. -/
import Derived.Test.YtipkbapnhgdpeaaDrawR
namespace Go.Proofs.Ytipkbapnhgdpeaa.C
open Go.RowKit
set_option maxRecDepth 100000
set_option linter.unusedVariables false
set_option linter.unusedSimpArgs false
attribute [local go_sem ↓] Go.wp_at_zero Go.wp_at_succ
theorem results_cell_cell {P : Program} {fn : Func} {p q : Tmp} {ty tz : TypeId} (h : fn.results = #[.cell p ty, .cell q tz]) (tmps : Array Value) (w : World) (g g' : Nat) (t t' : TypeId) (cs cs' : Array Value) (fr fr' : Nat × Nat) (d d' : TypeDesc)
    (hp : tmps.getD p undef = .pointer (some ⟨g, 0, none⟩)) (hq : tmps.getD q undef = .pointer (some ⟨g', 0, none⟩)) (hg : w.heap[g]? = some (.cells cs t fr)) (hg' : w.heap[g']? = some (.cells cs' t' fr'))
    (hu : P.underlying ty = some d) (hd : (match d with | .struct _ | .array _ _ => true | _ => false) = true) (hi : (P.info? ty).map (·.size) = some cs.size)
    (hu' : P.underlying tz = some d') (hd' : (match d' with | .struct _ | .array _ _ => true | _ => false) = true) (hi' : (P.info? tz).map (·.size) = some cs'.size) :
    (results fn tmps).run P w = .ok (.tuple #[.agg cs, .agg cs']) w := by
  have hp' : tmps[p]?.getD undef = .pointer (some ⟨g, 0, none⟩) := by simpa using hp
  have hq' : tmps[q]?.getD undef = .pointer (some ⟨g', 0, none⟩) := by simpa using hq
  simp [results, h, hp', hq', asAddr, run_loadVar_row w g t ty cs fr d hg hu hd hi, run_loadVar_row w g' t' tz cs' fr' d' hg' hu' hd' hi']
/-- A farm of the call's own with a list of edits. -/
def DrFR (w : World) (e : Ending) (w' : World) : Prop :=
  ∃ (F : Fm) (vg vm v : Value) (m : Nat), F.n1 ≤ 41 ∧ F.n2 ≤ 91 ∧ m ≤ 300 ∧ e = .returned (.tuple #[.agg #[.int .i64 F.cap, vg, vm], v]) ∧ FarmV w' w.heap.size F vg vm ∧ OwnE w' w.heap.size v m ∧ Below w.heap.size w w'
theorem OwnE.mono {w : World} {B B' n : Nat} {v : Value} (h : OwnE w B v n) (hB : B' ≤ B) : OwnE w B' v n := by
  obtain ⟨xs, hl, h | ⟨g, cap, cur, rfl, hb, hr⟩⟩ := h
  · exact ⟨xs, hl, .inl h⟩
  · exact ⟨xs, hl, .inr ⟨g, cap, cur, rfl, Nat.le_trans hB hb, hr⟩⟩
def put3 (w : World) (b : Nat) (x y z : Value) : World := ((w.setCell ⟨b, 0, none⟩ x).setCell ⟨b, 1, none⟩ y).setCell ⟨b, 2, none⟩ z
theorem put3_blk {w : World} {B b : Nat} {t : TypeId} {x0 y0 z0 : Value} (h : Blk w B b #[x0, y0, z0] t) (x y z : Value) : Blk (put3 w b x y z) B b #[x, y, z] t := (((h.setc 0 x).setc 1 y).setc 2 z).cast rfl
theorem put3_only (w : World) (b : Nat) (x y z : Value) : w.grownBy (put3 w b x y z) (some b) := only_setCell (only_setCell (only_setCell (World.grownBy.refl w (some b)) (.inl rfl) x) (.inl rfl) y) (.inl rfl) z
/-- A farm of the call's own with an edit. -/
def DrFE (w : World) (e : Ending) (w' : World) : Prop :=
  ∃ (F : Fm) (vg vm : Value) (a0 a1 a2 a3 a4 : Int), F.n1 ≤ 41 ∧ F.n2 ≤ 91 ∧ e = .returned (.tuple #[.agg #[.int .i64 F.cap, vg, vm], .agg #[.int .i64 a0, .int .i64 a1, .int .i64 a2, .int .i64 a3, .int .i64 a4]]) ∧ FarmV w' w.heap.size F vg vm ∧ Below w.heap.size w w'
def put5 (w : World) (b : Nat) (x y z p q : Value) : World := ((((w.setCell ⟨b, 0, none⟩ x).setCell ⟨b, 1, none⟩ y).setCell ⟨b, 2, none⟩ z).setCell ⟨b, 3, none⟩ p).setCell ⟨b, 4, none⟩ q
theorem put5_blk {w : World} {B b : Nat} {t : TypeId} {x0 y0 z0 p0 q0 : Value} (h : Blk w B b #[x0, y0, z0, p0, q0] t) (x y z p q : Value) : Blk (put5 w b x y z p q) B b #[x, y, z, p, q] t := (((((h.setc 0 x).setc 1 y).setc 2 z).setc 3 p).setc 4 q).cast rfl
theorem put5_only (w : World) (b : Nat) (x y z p q : Value) : w.grownBy (put5 w b x y z p q) (some b) := only_setCell (only_setCell (only_setCell (only_setCell (only_setCell (World.grownBy.refl w (some b)) (.inl rfl) x) (.inl rfl) y) (.inl rfl) z) (.inl rfl) p) (.inl rfl) q
set_option maxHeartbeats 4000000 in
theorem s_DrawFarmRun (A : Option Addr) (n c : Nat) (w : World) (h : BytesIn w A n) (hn : n ≤ 1048600) : Calls Try.prog 38 #[.slice A n c] w (DrFR w) := by
  have hu := Try.underlying34
  have hb0 := (Below.refl w.heap.size w).alloc (Nat.le_refl _) (.cells #[.int .i64 0, .slice none 0 0, .slice none 0 0] 34)
  have H := Lib.hid (h.keep hb0)
  have R0 := Lib.hid (Blk.new (w := w) (B := w.heap.size) (Nat.le_refl _) #[.int .i64 0, .slice none 0 0, .slice none 0 0] 34)
  have B0 := Lib.hid hb0
  have Z0 : Hid ((w.alloc (.cells #[.int .i64 0, .slice none 0 0, .slice none 0 0] 34)).heap.size = w.heap.size + 1) := Lib.hid (by simp)
  clear h hb0
  go_enter Try.func38, Try.ntmps38
  go_upto_region 1 with fail
  generalize w.alloc (.cells #[.int .i64 0, .slice none 0 0, .slice none 0 0] 34) = w1 at *
  obtain ⟨B, hBB⟩ : ∃ B, w.heap.size = B := ⟨_, rfl⟩
  have HBB := Lib.hid hBB
  rw [hBB] at R0 B0 Z0 ⊢
  clear hBB
  go_wp2_with fail
  refine (s_Source _ _ _ _ H.out hn).mono ?_
  rintro e w2 ⟨g, rfl, hg0, hg1, hS, hb⟩
  have R1 := Lib.hid (R0.out.keep hb)
  have B1 := Lib.hid (B0.out.trans (hb.mono (by have := Z0.out; omega)))
  have GB := Lib.hid (show B < g by have := Z0.out; omega)
  have S1 := Lib.hid hS
  have G1 := Lib.hid hg1
  clear hg0 hg1 hS hb H R0 B0
  go_wp2_with fail
  refine (s_l05Farm _ _ _ _ S1.out).mono ?_
  rintro e w3 ⟨F, vg, vm, hF1, hF2, rfl, hV, hS, hG⟩
  obtain ⟨A1, c1, A2, c2, rfl, rfl, k1, k2⟩ := hV.caps
  have R2 := Lib.hid (R1.out.grown hG (by have := GB.out; omega))
  have B2 := Lib.hid (below_own B1.out hG (by have := HBB.out; omega) (fun i e => by cases e; have := GB.out; omega))
  have V2 := Lib.hid hV
  have Z2 := Lib.hid (show B ≤ w2.heap.size by have := B1.out.size; have := HBB.out; omega)
  have S2 := Lib.hid hS
  clear hV hS hG R1 B1 S1
  go_upto_region 3 with fail
  have hal := (Below.refl w3.heap.size w3).alloc (Nat.le_refl _) (.cells #[.int .i64 F.cap, .slice A1 F.n1 c1, .slice A2 F.n2 c2] 34)
  have R3 := Lib.hid (R2.out.keep hal)
  have B3 := Lib.hid (B2.out.trans (hal.mono (by have := B2.out.size; have := HBB.out; omega)))
  have V3 := Lib.hid (V2.out.keep hal)
  have S3 := Lib.hid (S2.out.keep hal)
  have K3 := Lib.hid (Blk.new (w := w3) (B := 0) (Nat.zero_le _) #[.int .i64 F.cap, .slice A1 F.n1 c1, .slice A2 F.n2 c2] 34)
  have Z3 := Lib.hid (show g < w3.heap.size from S2.out.lt')
  clear hal R2 B2 V2 S2
  generalize (w3.alloc (.cells #[.int .i64 F.cap, .slice A1 F.n1 c1, .slice A2 F.n2 c2] 34)) = w4 at *
  generalize w3.heap.size = b5 at *
  refine wp_region_fin (fun w' => w'.cell? ⟨b5, 0, none⟩ = some (.int .i64 F.cap) ∧ w'.cell? ⟨b5, 1, none⟩ = some (.slice A1 F.n1 c1) ∧ w'.cell? ⟨b5, 2, none⟩ = some (.slice A2 F.n2 c2)) 5 (by kernel_rfl) ⟨(K3.out.cell 0).trans rfl, (K3.out.cell 1).trans rfl, (K3.out.cell 2).trans rfl⟩ (fun hHeld => ?_)
  (refine wpFin_take (i := 0) (v := ?_) (by kernel_rfl) rfl (by decide) (by kernel_rfl) (by kernel_rfl) (by kernel_rfl) (fun _ _ _ h => h) (Or.inl ⟨by rfl, ?_⟩) (by assumption) ?_); rotate_left 1; (focus (intro w hSw; (try dsimp only at hSw); go_simp; first | done | with_reducible rfl)); (try simp only [Act.put, List.setIfInBounds_toArray, List.set_cons_zero, List.set_cons_succ])
  (refine wpFin_take (i := 1) (v := ?_) (by kernel_rfl) rfl (by decide) (by kernel_rfl) (by kernel_rfl) (by kernel_rfl) (fun _ _ _ h => h) (Or.inl ⟨by rfl, ?_⟩) (by assumption) ?_); rotate_left 1; (focus (intro w hSw; (try dsimp only at hSw); go_simp; first | done | with_reducible rfl)); (try simp only [Act.put, List.setIfInBounds_toArray, List.set_cons_zero, List.set_cons_succ])
  (refine wpFin_take (i := 2) (v := ?_) (by kernel_rfl) rfl (by decide) (by kernel_rfl) (by kernel_rfl) (by kernel_rfl) (fun _ _ _ h => h) (Or.inl ⟨by rfl, ?_⟩) (by assumption) ?_); rotate_left 1; (focus (intro w hSw; (try dsimp only at hSw); go_simp; first | done | with_reducible rfl)); (try simp only [Act.put, List.setIfInBounds_toArray, List.set_cons_zero, List.set_cons_succ])
  refine wpFin_one (i := 3) (by kernel_rfl) rfl (fun K hK => ?_)
  go_simp
  go_at_call 91
  refine (s_l06Edits g A n F (.slice A1 F.n1 c1) (.slice A2 F.n2 c2) _ (S3.out.keep (Below.refl _ _).drew) ((V3.out.mono (B' := g + 1) (by have := G1.out; omega)).keep (Below.refl _ _).drew) (by omega) (by omega)).mono ?_
  rintro e w5 ⟨v, m, hm, rfl, hO, hS, hG0⟩
  have hG : w4.grownBy w5 (some g) := only_trans (only_drew (World.grownBy.refl w4 _)) hG0
  have R5 := Lib.hid (R3.out.grown hG (by have := GB.out; omega))
  have B5 := Lib.hid (below_own B3.out hG (by have := HBB.out; omega) (fun i e => by cases e; have := GB.out; omega))
  have V5 := Lib.hid (V3.out.grownH hG (fun k e => by cases e; exact G1.out))
  have O5 := Lib.hid hO
  have ZB := Lib.hid (show B ≤ w4.drew.heap.size by have := B3.out.size; have := HBB.out; show B ≤ w4.heap.size; omega)
  have K5 := Lib.hid (K3.out.grown hG (show b5 ≠ g by have := Z3.out; omega))
  have NB := Lib.hid (show B ≠ b5 by have := Z3.out; have := GB.out; omega)
  have S0 : Hid ((fun w' : World => w'.cell? ⟨b5, 0, none⟩ = some (.int .i64 F.cap) ∧ w'.cell? ⟨b5, 1, none⟩ = some (.slice A1 F.n1 c1) ∧ w'.cell? ⟨b5, 2, none⟩ = some (.slice A2 F.n2 c2)) w5) := Lib.hid (by
    have k := K3.out.grown hG (show b5 ≠ g by have := Z3.out; omega)
    exact ⟨(k.cell 0).trans rfl, (k.cell 1).trans rfl, (k.cell 2).trans rfl⟩)
  clear hO hS hG hG0 hHeld R3 B3 V3 S3 K3
  go_wp2_with fail
  refine hK.out _ _ (fun _ => S0.out) (fun hS => ?_)
  clear hK K hS
  (try simp only [Act.put, List.setIfInBounds_toArray, List.set_cons_zero, List.set_cons_succ])
  have z0 := (R5.out.cell 0).trans rfl
  have z1 := (R5.out.cell 1).trans rfl
  have z2 := (R5.out.cell 2).trans rfl
  have y0 := R5.out.frozen 0
  have y1 := R5.out.frozen 1
  have y2 := R5.out.frozen 2
  refine wpFin_one (i := 4) (by kernel_rfl) rfl (fun K hK => ?_)
  go_simp
  have FF := Lib.hid (put3_blk R5.out (.int .i64 F.cap) (.slice A1 F.n1 c1) (.slice A2 F.n2 c2))
  have FG := Lib.hid (put3_only w5 B (.int .i64 F.cap) (.slice A1 F.n1 c1) (.slice A2 F.n2 c2))
  have VF := Lib.hid (show FarmV (put3 w5 B (.int .i64 F.cap) (.slice A1 F.n1 c1) (.slice A2 F.n2 c2)) w.heap.size F (.slice A1 F.n1 c1) (.slice A2 F.n2 c2) from by
    have hv := V5.out.mono (B' := w.heap.size) (by have := Z2.out; have := HBB.out; omega)
    exact ⟨OwnT.grown hv.1 FG.out (fun k e e2 => by cases e2; exact hv.1.neBlk R5.out (by decide) e), OwnT.grown hv.2 FG.out (fun k e e2 => by cases e2; exact hv.2.neBlk R5.out (by decide) e)⟩)
  have OF := Lib.hid ((O5.out.mono (B' := w.heap.size) (by have := ZB.out; have := HBB.out; omega)).kept FG.out (fun k e e2 => by cases e2; exact O5.out.neBlk R5.out (by decide) e))
  have BF := Lib.hid (below_own B5.out FG.out (by have := HBB.out; omega) (fun i e => by cases e; exact Nat.le_refl _))
  refine hK.out _ _ (fun _ => ?_) (fun hS => ?_)
  · have k := K5.out.grown FG.out (fun e => NB.out e.symm)
    exact ⟨(k.cell 0).trans rfl, (k.cell 1).trans rfl, (k.cell 2).trans rfl⟩
  clear hK K hS z0 z1 z2 y0 y1 y2
  (try simp only [Act.put, List.setIfInBounds_toArray, List.set_cons_zero, List.set_cons_succ])
  refine wpFin_one (i := 5) (by kernel_rfl) rfl (fun K hK => ?_)
  go_simp
  refine hK.out _ _ (fun h => absurd rfl h) (fun hS => ?_)
  clear hK K hS
  (try simp only [Act.put, List.setIfInBounds_toArray, List.set_cons_zero, List.set_cons_succ])
  refine wpFin_done (by kernel_rfl) ?_ _
  go_wp2_with fail
  obtain ⟨A', c', E', rfl, -⟩ := O5.out.tab
  exact bodyPost_ret (v := .tuple #[.agg #[.int .i64 F.cap, .slice A1 F.n1 c1, .slice A2 F.n2 c2], .slice A' m c']) (results_cell_tmp Try.results38 _ _ _ _ _ _ _ rfl _ rfl FF.out.2 hu rfl (by kernel_rfl)) rfl ⟨F, _, _, _, m, hF1, hF2, hm, rfl, VF.out, OF.out, by rw [HBB.out]; exact BF.out⟩
set_option maxHeartbeats 4000000 in
theorem s_DrawFarmEdit (A : Option Addr) (n c : Nat) (w : World) (h : BytesIn w A n) (hn : n ≤ 1048600) : Calls Try.prog 26 #[.slice A n c] w (DrFE w) := by
  have hu := Try.underlying34
  have hu5 := Try.underlying56
  have hb0 := ((Below.refl w.heap.size w).alloc (Nat.le_refl _) (.cells #[.int .i64 0, .slice none 0 0, .slice none 0 0] 34)).alloc (by simp) (.cells #[.int .i64 0, .int .i64 0, .int .i64 0, .int .i64 0, .int .i64 0] 56)
  have H := Lib.hid (h.keep hb0)
  have R0 := Lib.hid ((Blk.new (w := w) (B := w.heap.size) (Nat.le_refl _) #[.int .i64 0, .slice none 0 0, .slice none 0 0] 34).keep ((Below.refl _ _).alloc (Nat.le_refl _) (.cells #[.int .i64 0, .int .i64 0, .int .i64 0, .int .i64 0, .int .i64 0] 56)))
  have he0 := Blk.new (w := w.alloc (.cells #[.int .i64 0, .slice none 0 0, .slice none 0 0] 34)) (B := w.heap.size) (by simp) #[.int .i64 0, .int .i64 0, .int .i64 0, .int .i64 0, .int .i64 0] 56
  simp only [World.size_alloc] at he0
  have E0 := Lib.hid he0
  clear he0
  have B0 := Lib.hid hb0
  have Z0 : Hid (((w.alloc (.cells #[.int .i64 0, .slice none 0 0, .slice none 0 0] 34)).alloc (.cells #[.int .i64 0, .int .i64 0, .int .i64 0, .int .i64 0, .int .i64 0] 56)).heap.size = w.heap.size + 1 + 1) := Lib.hid (by simp)
  clear h hb0
  go_enter Try.func26, Try.ntmps26
  go_upto_region 1 with fail
  generalize (w.alloc (.cells #[.int .i64 0, .slice none 0 0, .slice none 0 0] 34)).alloc (.cells #[.int .i64 0, .int .i64 0, .int .i64 0, .int .i64 0, .int .i64 0] 56) = w1 at *
  obtain ⟨B, hBB⟩ : ∃ B, w.heap.size = B := ⟨_, rfl⟩
  have HBB := Lib.hid hBB
  rw [hBB] at R0 E0 B0 Z0 ⊢
  clear hBB
  go_wp2_with fail
  refine (s_Source _ _ _ _ H.out hn).mono ?_
  rintro e w2 ⟨g, rfl, hg0, hg1, hS, hb⟩
  have R1 := Lib.hid (R0.out.keep hb)
  have E1 := Lib.hid (E0.out.keep hb)
  have B1 := Lib.hid (B0.out.trans (hb.mono (by have := Z0.out; omega)))
  have GB := Lib.hid (show B + 1 < g by have := Z0.out; omega)
  have S1 := Lib.hid hS
  have G1 := Lib.hid hg1
  clear hg0 hg1 hS hb H R0 E0 B0
  go_wp2_with fail
  refine (s_l05Farm _ _ _ _ S1.out).mono ?_
  rintro e w3 ⟨F, vg, vm, hF1, hF2, rfl, hV, hS, hG⟩
  obtain ⟨A1, c1, A2, c2, rfl, rfl, k1, k2⟩ := hV.caps
  have R2 := Lib.hid (R1.out.grown hG (by have := GB.out; omega))
  have E2 := Lib.hid (E1.out.grown hG (by have := GB.out; omega))
  have B2 := Lib.hid (below_own B1.out hG (by have := HBB.out; omega) (fun i e => by cases e; have := GB.out; omega))
  have V2 := Lib.hid hV
  have Z2 := Lib.hid (show B ≤ w2.heap.size by have := B1.out.size; have := HBB.out; omega)
  have S2 := Lib.hid hS
  clear hV hS hG R1 E1 B1 S1
  go_upto_region 3 with fail
  have hal := (Below.refl w3.heap.size w3).alloc (Nat.le_refl _) (.cells #[.int .i64 F.cap, .slice A1 F.n1 c1, .slice A2 F.n2 c2] 34)
  have R3 := Lib.hid (R2.out.keep hal)
  have E3 := Lib.hid (E2.out.keep hal)
  have B3 := Lib.hid (B2.out.trans (hal.mono (by have := B2.out.size; have := HBB.out; omega)))
  have V3 := Lib.hid (V2.out.keep hal)
  have S3 := Lib.hid (S2.out.keep hal)
  have K3 := Lib.hid (Blk.new (w := w3) (B := 0) (Nat.zero_le _) #[.int .i64 F.cap, .slice A1 F.n1 c1, .slice A2 F.n2 c2] 34)
  have Z3 := Lib.hid (show g < w3.heap.size from S2.out.lt')
  clear hal R2 E2 B2 V2 S2
  generalize (w3.alloc (.cells #[.int .i64 F.cap, .slice A1 F.n1 c1, .slice A2 F.n2 c2] 34)) = w4 at *
  generalize w3.heap.size = b5 at *
  refine wp_region_fin (fun w' => w'.cell? ⟨b5, 0, none⟩ = some (.int .i64 F.cap) ∧ w'.cell? ⟨b5, 1, none⟩ = some (.slice A1 F.n1 c1) ∧ w'.cell? ⟨b5, 2, none⟩ = some (.slice A2 F.n2 c2)) 5 (by kernel_rfl) ⟨(K3.out.cell 0).trans rfl, (K3.out.cell 1).trans rfl, (K3.out.cell 2).trans rfl⟩ (fun hHeld => ?_)
  (refine wpFin_take (i := 0) (v := ?_) (by kernel_rfl) rfl (by decide) (by kernel_rfl) (by kernel_rfl) (by kernel_rfl) (fun _ _ _ h => h) (Or.inl ⟨by rfl, ?_⟩) (by assumption) ?_); rotate_left 1; (focus (intro w hSw; (try dsimp only at hSw); go_simp; first | done | with_reducible rfl)); (try simp only [Act.put, List.setIfInBounds_toArray, List.set_cons_zero, List.set_cons_succ])
  (refine wpFin_take (i := 1) (v := ?_) (by kernel_rfl) rfl (by decide) (by kernel_rfl) (by kernel_rfl) (by kernel_rfl) (fun _ _ _ h => h) (Or.inl ⟨by rfl, ?_⟩) (by assumption) ?_); rotate_left 1; (focus (intro w hSw; (try dsimp only at hSw); go_simp; first | done | with_reducible rfl)); (try simp only [Act.put, List.setIfInBounds_toArray, List.set_cons_zero, List.set_cons_succ])
  (refine wpFin_take (i := 2) (v := ?_) (by kernel_rfl) rfl (by decide) (by kernel_rfl) (by kernel_rfl) (by kernel_rfl) (fun _ _ _ h => h) (Or.inl ⟨by rfl, ?_⟩) (by assumption) ?_); rotate_left 1; (focus (intro w hSw; (try dsimp only at hSw); go_simp; first | done | with_reducible rfl)); (try simp only [Act.put, List.setIfInBounds_toArray, List.set_cons_zero, List.set_cons_succ])
  refine wpFin_one (i := 3) (by kernel_rfl) rfl (fun K hK => ?_)
  go_simp
  go_at_call 69
  refine (s_l06Edit g A n F A1 A2 c1 c2 _ (S3.out.keep (Below.refl _ _).drew) (V3.out.keep (Below.refl _ _).drew).at ?_ ?_ (by omega) (by omega)).mono ?_
  · intro k off e; subst e; have := World.ownsRow.lt V3.out.1 k rfl; have := G1.out; exact ⟨by simp; omega, (World.ownsRow.lt V3.out.1 k rfl).2⟩
  · intro k off e; subst e; have := World.ownsRow.lt V3.out.2 k rfl; have := G1.out; exact ⟨by simp; omega, (World.ownsRow.lt V3.out.2 k rfl).2⟩
  rintro e w5 ⟨a0, a1, a2, a3, a4, rfl, hS, hG0⟩
  have hG : w4.grownBy w5 (some g) := only_trans (only_drew (World.grownBy.refl w4 _)) hG0
  have R5 := Lib.hid (R3.out.grown hG (by have := GB.out; omega))
  have E5 := Lib.hid (E3.out.grown hG (by have := GB.out; omega))
  have B5 := Lib.hid (below_own B3.out hG (by have := HBB.out; omega) (fun i e => by cases e; have := GB.out; omega))
  have V5 := Lib.hid (V3.out.grownH hG (fun k e => by cases e; exact G1.out))
  have K5 := Lib.hid (K3.out.grown hG (show b5 ≠ g by have := Z3.out; omega))
  have NB := Lib.hid (show B ≠ b5 by have := Z3.out; have := GB.out; omega)
  have S0 : Hid ((fun w' : World => w'.cell? ⟨b5, 0, none⟩ = some (.int .i64 F.cap) ∧ w'.cell? ⟨b5, 1, none⟩ = some (.slice A1 F.n1 c1) ∧ w'.cell? ⟨b5, 2, none⟩ = some (.slice A2 F.n2 c2)) w5) := Lib.hid (by
    have k := K3.out.grown hG (show b5 ≠ g by have := Z3.out; omega)
    exact ⟨(k.cell 0).trans rfl, (k.cell 1).trans rfl, (k.cell 2).trans rfl⟩)
  clear hS hG hG0 hHeld R3 E3 B3 V3 S3 K3
  go_wp2_with fail
  refine hK.out _ _ (fun _ => S0.out) (fun hS => ?_)
  clear hK K hS
  (try simp only [Act.put, List.setIfInBounds_toArray, List.set_cons_zero, List.set_cons_succ])
  have z0 := (R5.out.cell 0).trans rfl
  have z1 := (R5.out.cell 1).trans rfl
  have z2 := (R5.out.cell 2).trans rfl
  have y0 := R5.out.frozen 0
  have y1 := R5.out.frozen 1
  have y2 := R5.out.frozen 2
  refine wpFin_one (i := 4) (by kernel_rfl) rfl (fun K hK => ?_)
  go_simp
  have FF := Lib.hid (put3_blk R5.out (.int .i64 F.cap) (.slice A1 F.n1 c1) (.slice A2 F.n2 c2))
  have FG := Lib.hid (put3_only w5 B (.int .i64 F.cap) (.slice A1 F.n1 c1) (.slice A2 F.n2 c2))
  have VF := Lib.hid (show FarmV (put3 w5 B (.int .i64 F.cap) (.slice A1 F.n1 c1) (.slice A2 F.n2 c2)) w.heap.size F (.slice A1 F.n1 c1) (.slice A2 F.n2 c2) from by
    have hv := V5.out.mono (B' := w.heap.size) (by have := Z2.out; have := HBB.out; omega)
    exact ⟨OwnT.grown hv.1 FG.out (fun k e e2 => by cases e2; exact hv.1.neBlk R5.out (by decide) e), OwnT.grown hv.2 FG.out (fun k e e2 => by cases e2; exact hv.2.neBlk R5.out (by decide) e)⟩)
  have EF := Lib.hid (E5.out.grown FG.out (by omega))
  have BF := Lib.hid (below_own B5.out FG.out (by have := HBB.out; omega) (fun i e => by cases e; exact Nat.le_refl _))
  refine hK.out _ _ (fun _ => ?_) (fun hS => ?_)
  · have k := K5.out.grown FG.out (fun e => NB.out e.symm)
    exact ⟨(k.cell 0).trans rfl, (k.cell 1).trans rfl, (k.cell 2).trans rfl⟩
  clear hK K hS z0 z1 z2 y0 y1 y2
  (try simp only [Act.put, List.setIfInBounds_toArray, List.set_cons_zero, List.set_cons_succ])
  have z0 := (EF.out.cell 0).trans rfl
  have z1 := (EF.out.cell 1).trans rfl
  have z2 := (EF.out.cell 2).trans rfl
  have z3 := (EF.out.cell 3).trans rfl
  have z4 := (EF.out.cell 4).trans rfl
  have y0 := EF.out.frozen 0
  have y1 := EF.out.frozen 1
  have y2 := EF.out.frozen 2
  have y3 := EF.out.frozen 3
  have y4 := EF.out.frozen 4
  refine wpFin_one (i := 5) (by kernel_rfl) rfl (fun K hK => ?_)
  have G5 := Lib.hid (put5_only (put3 w5 B (.int .i64 F.cap) (.slice A1 F.n1 c1) (.slice A2 F.n2 c2)) (B + 1) (.int .i64 a0) (.int .i64 a1) (.int .i64 a2) (.int .i64 a3) (.int .i64 a4))
  have EE := Lib.hid (put5_blk EF.out (.int .i64 a0) (.int .i64 a1) (.int .i64 a2) (.int .i64 a3) (.int .i64 a4))
  have FE := Lib.hid (FF.out.grown G5.out (by omega))
  have VE := Lib.hid (show FarmV _ w.heap.size F (.slice A1 F.n1 c1) (.slice A2 F.n2 c2) from ⟨OwnT.grown VF.out.1 G5.out (fun k e e2 => by cases e2; exact VF.out.1.neBlk EF.out (by decide) e), OwnT.grown VF.out.2 G5.out (fun k e e2 => by cases e2; exact VF.out.2.neBlk EF.out (by decide) e)⟩)
  have BE := Lib.hid (below_own BF.out G5.out (by have := HBB.out; omega) (fun i e => by cases e; omega))
  (try unfold put3 at *)
  go_simp
  refine hK.out _ _ (fun h => absurd rfl h) (fun hS => ?_)
  clear hK K hS
  (try simp only [Act.put, List.setIfInBounds_toArray, List.set_cons_zero, List.set_cons_succ])
  refine wpFin_done (by kernel_rfl) ?_ _
  go_wp2_with fail
  exact bodyPost_ret (v := .tuple #[.agg #[.int .i64 F.cap, .slice A1 F.n1 c1, .slice A2 F.n2 c2], .agg #[.int .i64 a0, .int .i64 a1, .int .i64 a2, .int .i64 a3, .int .i64 a4]]) (results_cell_cell Try.results26 _ _ _ _ _ _ _ _ _ _ _ _ rfl rfl FE.out.2 EE.out.2 hu rfl (by kernel_rfl) hu5 rfl (by kernel_rfl)) rfl ⟨F, _, _, a0, a1, a2, a3, a4, hF1, hF2, rfl, VE.out, by rw [HBB.out]; exact BE.out⟩
end Go.Proofs.Ytipkbapnhgdpeaa.C
