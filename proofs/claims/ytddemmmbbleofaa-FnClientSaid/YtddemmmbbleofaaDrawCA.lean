/- What the reference draws for a client that asks: some client, some time. No condition. -/
import Derived.Test.YtddemmmbbleofaaDrawC
namespace Go.Proofs.Ytddemmmbbleofaa.C
open Go.RowKit
set_option maxRecDepth 100000
set_option linter.unusedVariables false
set_option linter.unusedSimpArgs false
attribute [local go_sem ↓] Go.wp_at_zero Go.wp_at_succ
/-- Some number, and the source turned. -/
def RndA (g : Nat) (A : Option Addr) (n : Nat) (w : World) (e : Ending) (w' : World) : Prop := ∃ r : Int, e = .returned (.int .i64 r) ∧ Src w' g A n ∧ w.grownBy w' (some g)
theorem five_keep {w w1 w2 : World} {g n i : Nat} {A : Option Addr} {v : Value} (hgl : g < w.heap.size) (h : w1.cell? ⟨w.heap.size, i, none⟩ = some v ∧ (Src w1 g A n ∧ w.grownBy w1 (some g))) (hS : Src w2 g A n) (hG : w1.grownBy w2 (some g)) :
    w2.cell? ⟨w.heap.size, i, none⟩ = some v ∧ (Src w2 g A n ∧ w.grownBy w2 (some g)) :=
  ⟨(World.cell?_of_block (hG.block w.heap.size (World.block_lt_of_cell? w1 _ h.1) (by simp; omega))).trans h.1, hS, only_trans h.2.2 hG⟩
theorem s_l12Now (g : Nat) (A : Option Addr) (n : Nat) (a0 a1 a2 a3 a4 a5 a6 a7 a8 a9 : Int) (w : World) (h : Src w g A n) : Calls Try.prog 42 #[.pointer (some ⟨g, 0, none⟩), .agg #[.int .i64 a0, .int .i64 a1, .int .i64 a2, .int .i64 a3, .int .i64 a4, .int .i64 a5, .int .i64 a6, .int .i64 a7, .int .i64 a8, .int .i64 a9]] w (RndA g A n w) := by
  have hu := Try.underlying24
  have H := Lib.hid (h.keep ((Below.refl _ w).alloc (Nat.le_refl _) (.cells #[.int .i64 a0, .int .i64 a1, .int .i64 a2, .int .i64 a3, .int .i64 a4, .int .i64 a5, .int .i64 a6, .int .i64 a7, .int .i64 a8, .int .i64 a9] 24)))
  have hgl := h.lt
  clear h
  go_enter Try.func42, Try.ntmps42
  go_wp2_with fail
  refine (s_n _ _ _ _ _ H.out (by omega)).mono ?_
  rintro e w1 ⟨k, rfl, k0, k1, -, hS, hG⟩
  have k1' := k1 (by omega)
  have HS := Lib.hid hS
  have HG := Lib.hid (only_trans (only_alloc (World.grownBy.refl w _) _) hG)
  have HB := Lib.hid ((Blk.new (w := w) (Nat.zero_le _) #[.int .i64 a0, .int .i64 a1, .int .i64 a2, .int .i64 a3, .int .i64 a4, .int .i64 a5, .int .i64 a6, .int .i64 a7, .int .i64 a8, .int .i64 a9] 24).grown hG (Nat.ne_of_gt hgl))
  clear hS hG H k1
  by_cases q0 : k = 0
  · subst q0
    go_wp2_with fail
    refine (s_edge _ _ _ _ HS.out).mono ?_
    rintro e w2 ⟨r, rfl, r0, r1, hS, hG⟩
    go_wp2
    go_ret
    exact ⟨_, rfl, hS, only_trans HG.out hG⟩
  · by_cases q1 : k = 1
    · subst q1
      have e7 := (HB.out.cell 7).trans (by rfl)
      go_wp2
      go_ret
      exact ⟨_, rfl, HS.out, HG.out⟩
    · by_cases q2 : k = 2
      · subst q2
        have e7 := (HB.out.cell 7).trans (by rfl)
        go_wp2
        go_ret
        exact ⟨_, rfl, HS.out, HG.out⟩
      · by_cases q3 : k = 3
        · subst q3
          go_wp2
          go_ret
          exact ⟨_, rfl, HS.out, HG.out⟩
        · by_cases q4 : k = 4
          · subst q4
            go_wp2_with fail
            go_region_held3 (fun w' => w'.cell? ⟨w.heap.size, 5, none⟩ = some (.int .i64 a5) ∧ (Src w' g A n ∧ w.grownBy w' (some g))) (first | assumption | exact ⟨(HB.out.cell 5).trans (by rfl), HS.out.keep (Below.refl _ _).drew, only_drew HG.out⟩ | exact hB) (first
              | (go_at_call 41; refine (s_n _ _ _ _ _ (And.left (And.right (by assumption))) (by omega)).mono ?_; rintro e w' ⟨r1, rfl, r10, -, -, hS, hG⟩; have hB := five_keep hgl (by assumption) hS hG)
              | fail)
            all_goals (go_wp2; go_ret; rename_i hlast; exact ⟨_, rfl, hlast.2.1, hlast.2.2⟩)
          · have i0 : (k == 0) = false := beq_eq_false_iff_ne.mpr q0
            have i1 : (k == 1) = false := beq_eq_false_iff_ne.mpr q1
            have i2 : (k == 2) = false := beq_eq_false_iff_ne.mpr q2
            have i3 : (k == 3) = false := beq_eq_false_iff_ne.mpr q3
            have i4 : (k == 4) = false := beq_eq_false_iff_ne.mpr q4
            go_wp2_with fail
            refine (s_n _ _ _ _ _ HS.out (by omega)).mono ?_
            rintro e w2 ⟨r, rfl, -, -, -, hS, hG⟩
            go_wp2
            go_ret
            exact ⟨_, rfl, hS, only_trans HG.out hG⟩
theorem below_grown {w w1 w2 : World} {g B : Nat} (h : Below B w w1) (hG : w1.grownBy w2 (some g)) (hg : B ≤ g) (hB : B ≤ w1.heap.size) : Below B w w2 :=
  h.trans ⟨hG.os, hG.tape, hG.output, hG.size, fun i hi => hG.block i (Nat.lt_of_lt_of_le hi hB) (by simp; omega)⟩
theorem Src.own_row {w : World} {g : Nat} {A : Option Addr} {n d : Nat} {o : Obj} (h : Src w g A n) (hd : w.heap.size ≤ d) (r : Array Value) : Src ((w.alloc o).setRow d r) g A n :=
  Src.row h (only_alloc (World.grownBy.refl w _) o) (h.keep ((Below.refl _ _).alloc (Nat.le_refl _) _)) hd r
theorem results_cell_tmp {P : Program} {fn : Func} {p u : Tmp} {ty : TypeId} (h : fn.results = #[.cell p ty, .tmp u]) (tmps : Array Value) (w : World) (g : Nat) (t : TypeId) (cs : Array Value) (fr : Nat × Nat) (d : TypeDesc) {v : Value}
    (hp : tmps.getD p undef = .pointer (some ⟨g, 0, none⟩)) (hv : tmps.getD u undef = v) (hg : w.heap[g]? = some (.cells cs t fr))
    (hu : P.underlying ty = some d) (hd : (match d with | .struct _ | .array _ _ => true | _ => false) = true) (hi : (P.info? ty).map (·.size) = some cs.size) :
    (results fn tmps).run P w = .ok (.tuple #[.agg cs, v]) w := by
  have hp' : tmps[p]?.getD undef = .pointer (some ⟨g, 0, none⟩) := by simpa using hp
  have hv' : tmps[u]?.getD undef = v := by simpa using hv
  simp [results, h, hp', hv', asAddr, run_loadVar_row w g t ty cs fr d hg hu hd hi]
def ClNow (w : World) (e : Ending) (w' : World) : Prop := ∃ (r : Array Value) (now : Int), e = .returned (.tuple #[.agg r, .int .i64 now]) ∧ Ten r ∧ Below w.heap.size w w'
set_option maxHeartbeats 4000000 in
theorem s_DrawClientAsk (A : Option Addr) (n c : Nat) (w : World) (h : BytesIn w A n) (hn : n ≤ 1048576) : Calls Try.prog 10 #[.slice A n c] w (ClNow w) := by
  have hu := Try.underlying24
  have H := Lib.hid (h.keep ((Below.refl _ w).alloc (Nat.le_refl _) (.cells #[.int .i64 0, .int .i64 0, .int .i64 0, .int .i64 0, .int .i64 0, .int .i64 0, .int .i64 0, .int .i64 0, .int .i64 0, .int .i64 0] 24)))
  clear h
  go_enter Try.func10, Try.ntmps10
  go_wp2_with fail
  refine (s_Source _ _ _ _ H.out hn).mono ?_
  rintro e w1 ⟨g, rfl, g0, g1, hS, hW⟩
  have HS := Lib.hid hS
  simp at g0
  have R1 := (Blk.new (w := w) (Nat.le_refl _) #[.int .i64 0, .int .i64 0, .int .i64 0, .int .i64 0, .int .i64 0, .int .i64 0, .int .i64 0, .int .i64 0, .int .i64 0, .int .i64 0] 24).keep hW
  have B1 := ((Below.refl _ w).alloc (Nat.le_refl _) _).trans (hW.mono (by simp))
  clear hW hS H
  go_wp2_with fail
  refine (s_n _ _ _ _ _ HS.out (by omega)).mono ?_
  rintro e w2 ⟨r2, rfl, r20, r21, -, hS2, hG2⟩
  have r21' := r21 (by omega)
  have HS2 := Lib.hid hS2
  have R2 := R1.grown hG2 (by omega)
  have B2 := below_grown B1 hG2 (by omega) B1.size
  clear r21 hS2 hG2 HS R1 B1
  go_wp2_with fail
  refine (s_l12Client _ _ _ _ _ HS2.out).mono ?_
  rintro e w3 ⟨cl, rfl, ⟨a0, a1, a2, a3, a4, a5, a6, a7, a8, a9, rfl⟩, hS3, hG3⟩
  have HS3 := Lib.hid hS3
  have R3 := Lib.hid (R2.grown hG3 (by omega))
  have B3 := Lib.hid (below_grown B2 hG3 (by omega) B2.size)
  have l3 := B3.out.size
  have k3 := R3.out.lt
  clear hS3 hG3 HS2 R2 B2
  go_wp2_with ((with_reducible refine at_store (ty := 24) (y := .tmp 12) ?_); refine wpl_store_row rfl 24 (.tmp 5) (.tmp 12) rfl w3.heap.size _ rfl rfl (B := w.heap.size) (n := 10) (t := 24) (Room.new l3 rfl) rfl (by kernel_rfl) (by simp [Value.oneCell']) (fun hblk => ?_))
  have g3 := HS3.out.lt
  have HSd := Lib.hid (HS3.out.own_row (o := .cells #[.int .i64 0, .int .i64 0, .int .i64 0, .int .i64 0, .int .i64 0, .int .i64 0, .int .i64 0, .int .i64 0, .int .i64 0, .int .i64 0] 24) (Nat.le_refl w3.heap.size) #[.int .i64 a0, .int .i64 a1, .int .i64 a2, .int .i64 a3, .int .i64 a4, .int .i64 a5, .int .i64 a6, .int .i64 a7, .int .i64 a8, .int .i64 a9])
  have H5 := Lib.hid hblk
  have HR := Lib.hid ((R3.out.keep ((Below.refl _ w3).alloc (Nat.le_refl _) (.cells #[.int .i64 0, .int .i64 0, .int .i64 0, .int .i64 0, .int .i64 0, .int .i64 0, .int .i64 0, .int .i64 0, .int .i64 0, .int .i64 0] 24))).far (Nat.ne_of_lt k3) #[.int .i64 a0, .int .i64 a1, .int .i64 a2, .int .i64 a3, .int .i64 a4, .int .i64 a5, .int .i64 a6, .int .i64 a7, .int .i64 a8, .int .i64 a9])
  have HBd := Lib.hid (below_setRow (B3.out.alloc l3 (.cells #[.int .i64 0, .int .i64 0, .int .i64 0, .int .i64 0, .int .i64 0, .int .i64 0, .int .i64 0, .int .i64 0, .int .i64 0, .int .i64 0] 24)) l3 #[.int .i64 a0, .int .i64 a1, .int .i64 a2, .int .i64 a3, .int .i64 a4, .int .i64 a5, .int .i64 a6, .int .i64 a7, .int .i64 a8, .int .i64 a9])
  clear hblk HS3 R3 B3
  generalize (w3.alloc (.cells #[.int .i64 0, .int .i64 0, .int .i64 0, .int .i64 0, .int .i64 0, .int .i64 0, .int .i64 0, .int .i64 0, .int .i64 0, .int .i64 0] 24)).setRow w3.heap.size #[.int .i64 a0, .int .i64 a1, .int .i64 a2, .int .i64 a3, .int .i64 a4, .int .i64 a5, .int .i64 a6, .int .i64 a7, .int .i64 a8, .int .i64 a9] = wd at HSd H5 HR HBd ⊢
  have e0 := (H5.out.cell 0).trans (by rfl); have e1 := (H5.out.cell 1).trans (by rfl); have e2 := (H5.out.cell 2).trans (by rfl); have e3 := (H5.out.cell 3).trans (by rfl); have e4 := (H5.out.cell 4).trans (by rfl); have e5 := (H5.out.cell 5).trans (by rfl); have e6 := (H5.out.cell 6).trans (by rfl); have e7 := (H5.out.cell 7).trans (by rfl); have e8 := (H5.out.cell 8).trans (by rfl); have e9 := (H5.out.cell 9).trans (by rfl)
  have z0 := (HR.out.cell 0).trans (by rfl); have z1 := (HR.out.cell 1).trans (by rfl); have z2 := (HR.out.cell 2).trans (by rfl); have z3 := (HR.out.cell 3).trans (by rfl); have z4 := (HR.out.cell 4).trans (by rfl); have z5 := (HR.out.cell 5).trans (by rfl); have z6 := (HR.out.cell 6).trans (by rfl); have z7 := (HR.out.cell 7).trans (by rfl); have z8 := (HR.out.cell 8).trans (by rfl); have z9 := (HR.out.cell 9).trans (by rfl)
  have f0 := HR.out.frozen 0; have f1 := HR.out.frozen 1; have f2 := HR.out.frozen 2; have f3 := HR.out.frozen 3; have f4 := HR.out.frozen 4; have f5 := HR.out.frozen 5; have f6 := HR.out.frozen 6; have f7 := HR.out.frozen 7; have f8 := HR.out.frozen 8; have f9 := HR.out.frozen 9
  go_region_with (first
    | (go_at_call 42; refine (s_l12Now _ _ _ _ _ _ _ _ _ _ _ _ _ _ (HSd.out.keep (Below.refl _ _).drew)).mono ?_; rintro e w4 ⟨nw, rfl, hS4, hG4⟩; have K5 := H5.out.drew.grown hG4 (by omega); have KR := HR.out.drew.grown hG4 (by omega); have KB := below_grown HBd.out.drew hG4 (by omega) (Nat.le_of_lt HR.out.lt); have e0 := (K5.cell 0).trans (by rfl); have e1 := (K5.cell 1).trans (by rfl); have e2 := (K5.cell 2).trans (by rfl); have e3 := (K5.cell 3).trans (by rfl); have e4 := (K5.cell 4).trans (by rfl); have e5 := (K5.cell 5).trans (by rfl); have e6 := (K5.cell 6).trans (by rfl); have e7 := (K5.cell 7).trans (by rfl); have e8 := (K5.cell 8).trans (by rfl); have e9 := (K5.cell 9).trans (by rfl); have z0 := (KR.cell 0).trans (by rfl); have z1 := (KR.cell 1).trans (by rfl); have z2 := (KR.cell 2).trans (by rfl); have z3 := (KR.cell 3).trans (by rfl); have z4 := (KR.cell 4).trans (by rfl); have z5 := (KR.cell 5).trans (by rfl); have z6 := (KR.cell 6).trans (by rfl); have z7 := (KR.cell 7).trans (by rfl); have z8 := (KR.cell 8).trans (by rfl); have z9 := (KR.cell 9).trans (by rfl); have f0 := KR.frozen 0; have f1 := KR.frozen 1; have f2 := KR.frozen 2; have f3 := KR.frozen 3; have f4 := KR.frozen 4; have f5 := KR.frozen 5; have f6 := KR.frozen 6; have f7 := KR.frozen 7; have f8 := KR.frozen 8; have f9 := KR.frozen 9; clear K5)
    | fail)
  all_goals clear HSd H5 HR HBd
  all_goals go_wp2_with fail
  all_goals (have XB := Blk.cast (ds := #[.int .i64 a0, .int .i64 a1, .int .i64 a2, .int .i64 a3, .int .i64 a4, .int .i64 a5, .int .i64 a6, .int .i64 a7, .int .i64 a8, .int .i64 a9]) ((((((((((KR.setc 0 (.int .i64 a0)).setc 1 (.int .i64 a1)).setc 2 (.int .i64 a2)).setc 3 (.int .i64 a3)).setc 4 (.int .i64 a4)).setc 5 (.int .i64 a5)).setc 6 (.int .i64 a6)).setc 7 (.int .i64 a7)).setc 8 (.int .i64 a8)).setc 9 (.int .i64 a9)) (by simp only [List.setIfInBounds_toArray, List.set_cons_zero, List.set_cons_succ]); have XK := (Below.setCell (p := ⟨w.heap.size, 9, none⟩) (Below.setCell (p := ⟨w.heap.size, 8, none⟩) (Below.setCell (p := ⟨w.heap.size, 7, none⟩) (Below.setCell (p := ⟨w.heap.size, 6, none⟩) (Below.setCell (p := ⟨w.heap.size, 5, none⟩) (Below.setCell (p := ⟨w.heap.size, 4, none⟩) (Below.setCell (p := ⟨w.heap.size, 3, none⟩) (Below.setCell (p := ⟨w.heap.size, 2, none⟩) (Below.setCell (p := ⟨w.heap.size, 1, none⟩) (Below.setCell (p := ⟨w.heap.size, 0, none⟩) KB (Nat.le_refl _) (.int .i64 a0)) (Nat.le_refl _) (.int .i64 a1)) (Nat.le_refl _) (.int .i64 a2)) (Nat.le_refl _) (.int .i64 a3)) (Nat.le_refl _) (.int .i64 a4)) (Nat.le_refl _) (.int .i64 a5)) (Nat.le_refl _) (.int .i64 a6)) (Nat.le_refl _) (.int .i64 a7)) (Nat.le_refl _) (.int .i64 a8)) (Nat.le_refl _) (.int .i64 a9)); clear KR KB)
  all_goals refine bodyPost_ret (v := .tuple #[.agg #[.int .i64 a0, .int .i64 a1, .int .i64 a2, .int .i64 a3, .int .i64 a4, .int .i64 a5, .int .i64 a6, .int .i64 a7, .int .i64 a8, .int .i64 a9], .int .i64 nw]) (results_cell_tmp rfl _ _ w.heap.size 24 _ _ _ rfl rfl XB.2 Try.underlying24 rfl (by kernel_rfl)) rfl ⟨_, _, rfl, ⟨_, _, _, _, _, _, _, _, _, _, rfl⟩, XK⟩
end Go.Proofs.Ytddemmmbbleofaa.C
