/- FarmBack of the program and of the reference, by kinds. No condition. -/
import Derived.Test.YtipkbapnhgdpeaaFEdW
namespace Go.Proofs.Ytipkbapnhgdpeaa.C
open Go.RowKit
set_option maxRecDepth 100000
set_option linter.unusedVariables false
set_option linter.unusedSimpArgs false
attribute [local go_sem ↓] Go.wp_at_zero Go.wp_at_succ
/-- The cells of a farm, an edit and an answer, in the frame of a call. -/
def BkIn (b : Nat) (w1 : World) (F : Fm) (A1 A2 : Option Addr) (c1 c2 : Nat) (k id g a c : Int) (w' : World) : Prop :=
  Blk w' 0 b #[.int .i64 F.cap, .slice A1 F.n1 c1, .slice A2 F.n2 c2] 34 ∧ Blk w' 0 (b + 1) #[.int .i64 k, .int .i64 id, .int .i64 g, .int .i64 a, .int .i64 c] 56 ∧ Blk w' 0 (b + 1 + 1) #[.int .i64 0, .int .i64 0, .int .i64 0, .int .i64 0, .int .i64 0] 56 ∧ FarmAt w' A1 F.n1 F.f1 A2 F.n2 F.f2 ∧ Below w1.heap.size w1 w'
section
variable {b : Nat} {w1 w' : World} {F : Fm} {A1 A2 : Option Addr} {c1 c2 : Nat} {k id g a c : Int}
theorem BkIn.new (F : Fm) (A1 A2 : Option Addr) (c1 c2 : Nat) (k id g a c : Int) (w : World) (h : FarmAt w A1 F.n1 F.f1 A2 F.n2 F.f2) : BkIn w.heap.size (((w.alloc (.cells #[.int .i64 F.cap, .slice A1 F.n1 c1, .slice A2 F.n2 c2] 34)).alloc (.cells #[.int .i64 k, .int .i64 id, .int .i64 g, .int .i64 a, .int .i64 c] 56)).alloc (.cells #[.int .i64 0, .int .i64 0, .int .i64 0, .int .i64 0, .int .i64 0] 56)) F A1 A2 c1 c2 k id g a c (((w.alloc (.cells #[.int .i64 F.cap, .slice A1 F.n1 c1, .slice A2 F.n2 c2] 34)).alloc (.cells #[.int .i64 k, .int .i64 id, .int .i64 g, .int .i64 a, .int .i64 c] 56)).alloc (.cells #[.int .i64 0, .int .i64 0, .int .i64 0, .int .i64 0, .int .i64 0] 56)) := by
  have hal : Below w.heap.size w (((w.alloc (.cells #[.int .i64 F.cap, .slice A1 F.n1 c1, .slice A2 F.n2 c2] 34)).alloc (.cells #[.int .i64 k, .int .i64 id, .int .i64 g, .int .i64 a, .int .i64 c] 56)).alloc (.cells #[.int .i64 0, .int .i64 0, .int .i64 0, .int .i64 0, .int .i64 0] 56)) := (((Below.refl w.heap.size w).alloc (Nat.le_refl _) _).alloc (by simp) _).alloc (by simp; omega) _
  have hb1 := (((Blk.new (w := w) (B := 0) (Nat.zero_le _) #[.int .i64 F.cap, .slice A1 F.n1 c1, .slice A2 F.n2 c2] 34).keep ((Below.refl _ _).alloc (Nat.le_refl _) (.cells #[.int .i64 k, .int .i64 id, .int .i64 g, .int .i64 a, .int .i64 c] 56))).keep ((Below.refl _ _).alloc (Nat.le_refl _) (.cells #[.int .i64 0, .int .i64 0, .int .i64 0, .int .i64 0, .int .i64 0] 56)))
  have hb2 := ((Blk.new (w := w.alloc (.cells #[.int .i64 F.cap, .slice A1 F.n1 c1, .slice A2 F.n2 c2] 34)) (B := 0) (Nat.zero_le _) #[.int .i64 k, .int .i64 id, .int .i64 g, .int .i64 a, .int .i64 c] 56).keep ((Below.refl _ _).alloc (Nat.le_refl _) (.cells #[.int .i64 0, .int .i64 0, .int .i64 0, .int .i64 0, .int .i64 0] 56)))
  have hb3 := Blk.new (w := (w.alloc (.cells #[.int .i64 F.cap, .slice A1 F.n1 c1, .slice A2 F.n2 c2] 34)).alloc (.cells #[.int .i64 k, .int .i64 id, .int .i64 g, .int .i64 a, .int .i64 c] 56)) (B := 0) (Nat.zero_le _) #[.int .i64 0, .int .i64 0, .int .i64 0, .int .i64 0, .int .i64 0] 56
  simp only [World.size_alloc] at hb2 hb3
  exact ⟨hb1, hb2, hb3, h.keep hal, Below.refl _ _⟩
theorem BkIn.keep {w'' : World} (h : BkIn b w1 F A1 A2 c1 c2 k id g a c w') (hb : Below w'.heap.size w' w'') : BkIn b w1 F A1 A2 c1 c2 k id g a c w'' := ⟨h.1.keep hb, h.2.1.keep hb, h.2.2.1.keep hb, h.2.2.2.1.keep hb, btrans h.2.2.2.2 hb⟩
theorem BkIn.cells (h : BkIn b w1 F A1 A2 c1 c2 k id g a c w') : w'.cell? ⟨b, 0, none⟩ = some (.int .i64 F.cap) ∧ w'.cell? ⟨b, 1, none⟩ = some (.slice A1 F.n1 c1) ∧ w'.cell? ⟨b, 2, none⟩ = some (.slice A2 F.n2 c2) ∧ w'.cell? ⟨b + 1, 0, none⟩ = some (.int .i64 k) ∧ w'.cell? ⟨b + 1, 1, none⟩ = some (.int .i64 id) ∧ w'.cell? ⟨b + 1, 2, none⟩ = some (.int .i64 g) ∧ w'.cell? ⟨b + 1, 3, none⟩ = some (.int .i64 a) ∧ w'.cell? ⟨b + 1, 4, none⟩ = some (.int .i64 c) :=
  ⟨(h.1.cell 0).trans rfl, (h.1.cell 1).trans rfl, (h.1.cell 2).trans rfl, (h.2.1.cell 0).trans rfl, (h.2.1.cell 1).trans rfl, (h.2.1.cell 2).trans rfl, (h.2.1.cell 3).trans rfl, (h.2.1.cell 4).trans rfl⟩
theorem BkIn.out (h : BkIn b w1 F A1 A2 c1 c2 k id g a c w') : w'.cell? ⟨b + 1 + 1, 0, none⟩ = some (.int .i64 0) ∧ w'.cell? ⟨b + 1 + 1, 1, none⟩ = some (.int .i64 0) ∧ w'.cell? ⟨b + 1 + 1, 2, none⟩ = some (.int .i64 0) ∧ w'.cell? ⟨b + 1 + 1, 3, none⟩ = some (.int .i64 0) ∧ w'.cell? ⟨b + 1 + 1, 4, none⟩ = some (.int .i64 0) ∧ w'.frozen? ⟨b + 1 + 1, 0, none⟩ = false ∧ w'.frozen? ⟨b + 1 + 1, 1, none⟩ = false ∧ w'.frozen? ⟨b + 1 + 1, 2, none⟩ = false ∧ w'.frozen? ⟨b + 1 + 1, 3, none⟩ = false ∧ w'.frozen? ⟨b + 1 + 1, 4, none⟩ = false :=
  ⟨(h.2.2.1.cell 0).trans rfl, (h.2.2.1.cell 1).trans rfl, (h.2.2.1.cell 2).trans rfl, (h.2.2.1.cell 3).trans rfl, (h.2.2.1.cell 4).trans rfl, h.2.2.1.frozen 0, h.2.2.1.frozen 1, h.2.2.1.frozen 2, h.2.2.1.frozen 3, h.2.2.1.frozen 4⟩
theorem out_code (x y z p q : Value) (w : World) : (Instr.field 60 (.agg #[x, y, z, p, q]) 2).run Try.prog w = .ok q w := by kernel_rfl
def putE (w : World) (b : Nat) (x y z p q : Int) : World := ((((w.setCell ⟨b, 0, none⟩ (.int .i64 x)).setCell ⟨b, 1, none⟩ (.int .i64 y)).setCell ⟨b, 2, none⟩ (.int .i64 z)).setCell ⟨b, 3, none⟩ (.int .i64 p)).setCell ⟨b, 4, none⟩ (.int .i64 q)
/-- An edit is answered. -/
def EdV (x y z p q : Int) (w : World) (e : Ending) (w' : World) : Prop := e = .returned (.agg #[.int .i64 x, .int .i64 y, .int .i64 z, .int .i64 p, .int .i64 q]) ∧ Below w.heap.size w w'
theorem BkIn.give (h : BkIn b w1 F A1 A2 c1 c2 k id g a c w') (x y z p q : Int) : (putE w' (b + 1 + 1) x y z p q).heap[b + 1 + 1]? = some (.cells #[.int .i64 x, .int .i64 y, .int .i64 z, .int .i64 p, .int .i64 q] 56 (0, 0)) ∧
    ∀ {w : World}, w.heap.size ≤ b + 1 + 1 → Below w.heap.size w w' → EdV x y z p q w (.returned (.agg #[.int .i64 x, .int .i64 y, .int .i64 z, .int .i64 p, .int .i64 q])) (putE w' (b + 1 + 1) x y z p q) :=
  ⟨((((((h.2.2.1.setc 0 (.int .i64 x)).setc 1 (.int .i64 y)).setc 2 (.int .i64 z)).setc 3 (.int .i64 p)).setc 4 (.int .i64 q)).cast (ds := #[.int .i64 x, .int .i64 y, .int .i64 z, .int .i64 p, .int .i64 q]) (by simp only [List.setIfInBounds_toArray, List.set_cons_zero, List.set_cons_succ])).2, fun hl hb => ⟨rfl, ((((hb.setCell (p := ⟨b + 1 + 1, 0, none⟩) hl _).setCell (p := ⟨b + 1 + 1, 1, none⟩) hl _).setCell (p := ⟨b + 1 + 1, 2, none⟩) hl _).setCell (p := ⟨b + 1 + 1, 3, none⟩) hl _).setCell (p := ⟨b + 1 + 1, 4, none⟩) hl _⟩⟩
end
set_option maxHeartbeats 4000000 in
theorem c_fb_no (F : Fm) (A1 A2 : Option Addr) (c1 c2 : Nat) (k id g a c : Int) (w : World) (h : FarmAt w A1 F.n1 F.f1 A2 F.n2 F.f2) (hc1 : F.n1 ≤ c1) (hc2 : F.n2 ≤ c2) (h0 : feC F k id g a c ≠ 0) :
    Calls Try.prog 29 #[.agg #[.int .i64 F.cap, .slice A1 F.n1 c1, .slice A2 F.n2 c2], .agg #[.int .i64 k, .int .i64 id, .int .i64 g, .int .i64 a, .int .i64 c]] w (EdV 0 0 0 0 0 w) := by
  have HC1 := Lib.hid hc1
  have HC2 := Lib.hid hc2
  obtain ⟨C, hC⟩ : ∃ C, feC F k id g a c = C := ⟨_, rfl⟩
  rw [hC] at h0
  have HFC := Lib.hid hC
  have bn : (C != 0) = true := by simpa using h0
  clear hC hc1 hc2 h0
  have hu := Try.underlying56
  have hfl := fun (x y z p q : Value) (w : World) => out_code x y z p q w
  have S1 := Lib.hid (BkIn.new F A1 A2 c1 c2 k id g a c w h)
  have HB : Hid (Below w.heap.size w (((w.alloc (.cells #[.int .i64 F.cap, .slice A1 F.n1 c1, .slice A2 F.n2 c2] 34)).alloc (.cells #[.int .i64 k, .int .i64 id, .int .i64 g, .int .i64 a, .int .i64 c] 56)).alloc (.cells #[.int .i64 0, .int .i64 0, .int .i64 0, .int .i64 0, .int .i64 0] 56))) := Lib.hid ((((Below.refl w.heap.size w).alloc (Nat.le_refl _) _).alloc (by simp) _).alloc (by simp; omega) _)
  have HZ : Hid ((((w.alloc (.cells #[.int .i64 F.cap, .slice A1 F.n1 c1, .slice A2 F.n2 c2] 34)).alloc (.cells #[.int .i64 k, .int .i64 id, .int .i64 g, .int .i64 a, .int .i64 c] 56)).alloc (.cells #[.int .i64 0, .int .i64 0, .int .i64 0, .int .i64 0, .int .i64 0] 56)).heap.size = w.heap.size + 1 + 1 + 1) := Lib.hid (by simp)
  clear h
  go_enter Try.func29, Try.ntmps29
  go_upto_region 1 with fail
  generalize (((w.alloc (.cells #[.int .i64 F.cap, .slice A1 F.n1 c1, .slice A2 F.n2 c2] 34)).alloc (.cells #[.int .i64 k, .int .i64 id, .int .i64 g, .int .i64 a, .int .i64 c] 56)).alloc (.cells #[.int .i64 0, .int .i64 0, .int .i64 0, .int .i64 0, .int .i64 0] 56)) = w1 at *
  obtain ⟨b, hbb⟩ : ∃ b, w.heap.size = b := ⟨_, rfl⟩
  have HBB := Lib.hid hbb
  rw [hbb] at S1 HZ ⊢
  clear hbb
  obtain ⟨u0, u1, u2, v0, v1, v2, v3, v4⟩ := S1.out.cells
  have HFE := Lib.hid (fun (w' : World) (h : FarmAt w' A1 F.n1 F.f1 A2 F.n2 F.f2) => c_FarmEdit F A1 A2 c1 c2 k id g a c w' h HC1.out)
  unfold FeOut at HFE
  go_upto_region 2 with (first | (go_at_call 28; refine (HFE.out w1 S1.out.2.2.2.1).mono ?_; rintro e w2 ⟨vg, vm, rfl, -, hb2⟩; rw [HFC.out]; have S2 := Lib.hid (S1.out.keep hb2); obtain ⟨u02, u12, u22, v02, v12, v22, v32, v42⟩ := S2.out.cells; clear hb2) | fail)
  clear u0 u1 u2 v0 v1 v2 v3 v4 u02 u12 u22 v02 v12 v22 v32 v42 bn
  obtain ⟨z0, z1, z2, z3, z4, y0, y1, y2, y3, y4⟩ := S2.out.out
  go_wp2_with fail
  exact bodyPost_ret (results_cell_row rfl _ _ _ _ _ _ _ rfl (S2.out.give 0 0 0 0 0).1 hu rfl (by kernel_rfl)) rfl ((S2.out.give 0 0 0 0 0).2 (by have := HBB.out; omega) (HB.out.trans (S2.out.2.2.2.2.mono (by have := HZ.out; have := HBB.out; omega))))
set_option maxHeartbeats 4000000 in
theorem s_fb_no (F : Fm) (A1 A2 : Option Addr) (c1 c2 : Nat) (k id g a c : Int) (w : World) (h : FarmAt w A1 F.n1 F.f1 A2 F.n2 F.f2) (hc1 : F.n1 ≤ c1) (hc2 : F.n2 ≤ c2) (h0 : feC F k id g a c ≠ 0) :
    Calls Try.prog 33 #[.agg #[.int .i64 F.cap, .slice A1 F.n1 c1, .slice A2 F.n2 c2], .agg #[.int .i64 k, .int .i64 id, .int .i64 g, .int .i64 a, .int .i64 c]] w (EdV 0 0 0 0 0 w) := by
  have HC1 := Lib.hid hc1
  have HC2 := Lib.hid hc2
  obtain ⟨C, hC⟩ : ∃ C, feC F k id g a c = C := ⟨_, rfl⟩
  rw [hC] at h0
  have HFC := Lib.hid hC
  have bn : (C != 0) = true := by simpa using h0
  clear hC hc1 hc2 h0
  have hu := Try.underlying56
  have hfl := fun (x y z p q : Value) (w : World) => out_code x y z p q w
  have S1 := Lib.hid (BkIn.new F A1 A2 c1 c2 k id g a c w h)
  have HB : Hid (Below w.heap.size w (((w.alloc (.cells #[.int .i64 F.cap, .slice A1 F.n1 c1, .slice A2 F.n2 c2] 34)).alloc (.cells #[.int .i64 k, .int .i64 id, .int .i64 g, .int .i64 a, .int .i64 c] 56)).alloc (.cells #[.int .i64 0, .int .i64 0, .int .i64 0, .int .i64 0, .int .i64 0] 56))) := Lib.hid ((((Below.refl w.heap.size w).alloc (Nat.le_refl _) _).alloc (by simp) _).alloc (by simp; omega) _)
  have HZ : Hid ((((w.alloc (.cells #[.int .i64 F.cap, .slice A1 F.n1 c1, .slice A2 F.n2 c2] 34)).alloc (.cells #[.int .i64 k, .int .i64 id, .int .i64 g, .int .i64 a, .int .i64 c] 56)).alloc (.cells #[.int .i64 0, .int .i64 0, .int .i64 0, .int .i64 0, .int .i64 0] 56)).heap.size = w.heap.size + 1 + 1 + 1) := Lib.hid (by simp)
  clear h
  go_enter Try.func33, Try.ntmps33
  go_upto_region 1 with fail
  generalize (((w.alloc (.cells #[.int .i64 F.cap, .slice A1 F.n1 c1, .slice A2 F.n2 c2] 34)).alloc (.cells #[.int .i64 k, .int .i64 id, .int .i64 g, .int .i64 a, .int .i64 c] 56)).alloc (.cells #[.int .i64 0, .int .i64 0, .int .i64 0, .int .i64 0, .int .i64 0] 56)) = w1 at *
  obtain ⟨b, hbb⟩ : ∃ b, w.heap.size = b := ⟨_, rfl⟩
  have HBB := Lib.hid hbb
  rw [hbb] at S1 HZ ⊢
  clear hbb
  obtain ⟨u0, u1, u2, v0, v1, v2, v3, v4⟩ := S1.out.cells
  have HFE := Lib.hid (fun (w' : World) (h : FarmAt w' A1 F.n1 F.f1 A2 F.n2 F.f2) => s_FarmEdit F A1 A2 c1 c2 k id g a c w' h HC1.out HC2.out)
  unfold OutV at HFE
  go_upto_region 2 with (first | (go_at_call 27; refine (HFE.out w1 S1.out.2.2.2.1).mono ?_; rintro e w2 ⟨vg, vm, rfl, -, hb2⟩; rw [HFC.out]; have S2 := Lib.hid (S1.out.keep hb2); obtain ⟨u02, u12, u22, v02, v12, v22, v32, v42⟩ := S2.out.cells; clear hb2) | fail)
  clear u0 u1 u2 v0 v1 v2 v3 v4 u02 u12 u22 v02 v12 v22 v32 v42 bn
  obtain ⟨z0, z1, z2, z3, z4, y0, y1, y2, y3, y4⟩ := S2.out.out
  go_wp2_with fail
  exact bodyPost_ret (results_cell_row rfl _ _ _ _ _ _ _ rfl (S2.out.give 0 0 0 0 0).1 hu rfl (by kernel_rfl)) rfl ((S2.out.give 0 0 0 0 0).2 (by have := HBB.out; omega) (HB.out.trans (S2.out.2.2.2.2.mono (by have := HZ.out; have := HBB.out; omega))))
set_option maxHeartbeats 4000000 in
theorem c_fb_join (F : Fm) (A1 A2 : Option Addr) (c1 c2 : Nat) (id g a c : Int) (w : World) (h : FarmAt w A1 F.n1 F.f1 A2 F.n2 F.f2) (hc1 : F.n1 ≤ c1) (hc2 : F.n2 ≤ c2) (hf : fmB F = true) (hC : feC F 1 id g a c = 0) :
    Calls Try.prog 29 #[.agg #[.int .i64 F.cap, .slice A1 F.n1 c1, .slice A2 F.n2 c2], .agg #[.int .i64 1, .int .i64 id, .int .i64 g, .int .i64 a, .int .i64 c]] w (EdV 2 id 0 0 0 w) := by
  have HC1 := Lib.hid hc1
  have HC2 := Lib.hid hc2
  have HFC := Lib.hid hC
  have HR := Lib.hid (Right.of hf)
  have hl1 := HR.out.l1
  have hl2 := HR.out.l2
  clear hC hc1 hc2 hf
  have hu := Try.underlying56
  have hfl := fun (x y z p q : Value) (w : World) => out_code x y z p q w
  have S1 := Lib.hid (BkIn.new F A1 A2 c1 c2 1 id g a c w h)
  have HB : Hid (Below w.heap.size w (((w.alloc (.cells #[.int .i64 F.cap, .slice A1 F.n1 c1, .slice A2 F.n2 c2] 34)).alloc (.cells #[.int .i64 1, .int .i64 id, .int .i64 g, .int .i64 a, .int .i64 c] 56)).alloc (.cells #[.int .i64 0, .int .i64 0, .int .i64 0, .int .i64 0, .int .i64 0] 56))) := Lib.hid ((((Below.refl w.heap.size w).alloc (Nat.le_refl _) _).alloc (by simp) _).alloc (by simp; omega) _)
  have HZ : Hid ((((w.alloc (.cells #[.int .i64 F.cap, .slice A1 F.n1 c1, .slice A2 F.n2 c2] 34)).alloc (.cells #[.int .i64 1, .int .i64 id, .int .i64 g, .int .i64 a, .int .i64 c] 56)).alloc (.cells #[.int .i64 0, .int .i64 0, .int .i64 0, .int .i64 0, .int .i64 0] 56)).heap.size = w.heap.size + 1 + 1 + 1) := Lib.hid (by simp)
  clear h
  go_enter Try.func29, Try.ntmps29
  go_upto_region 1 with fail
  generalize (((w.alloc (.cells #[.int .i64 F.cap, .slice A1 F.n1 c1, .slice A2 F.n2 c2] 34)).alloc (.cells #[.int .i64 1, .int .i64 id, .int .i64 g, .int .i64 a, .int .i64 c] 56)).alloc (.cells #[.int .i64 0, .int .i64 0, .int .i64 0, .int .i64 0, .int .i64 0] 56)) = w1 at *
  obtain ⟨b, hbb⟩ : ∃ b, w.heap.size = b := ⟨_, rfl⟩
  have HBB := Lib.hid hbb
  rw [hbb] at S1 HZ ⊢
  clear hbb
  obtain ⟨u0, u1, u2, v0, v1, v2, v3, v4⟩ := S1.out.cells
  have HFE := Lib.hid (fun (w' : World) (h : FarmAt w' A1 F.n1 F.f1 A2 F.n2 F.f2) => c_FarmEdit F A1 A2 c1 c2 1 id g a c w' h HC1.out)
  unfold FeOut at HFE
  go_upto_region 5 with (first | (go_at_call 28; refine (HFE.out w1 S1.out.2.2.2.1).mono ?_; rintro e w2 ⟨vg, vm, rfl, -, hb2⟩; rw [HFC.out]; have S2 := Lib.hid (S1.out.keep hb2); obtain ⟨u02, u12, u22, v02, v12, v22, v32, v42⟩ := S2.out.cells; clear hb2) | (go_at_call 79; refine (c_groupP F.cap A1 A2 F.n1 c1 F.n2 c2 F.f1 _ w2 S2.out.2.2.2.1.g (by omega) HR.out.r1).mono ?_; rintro e w3 ⟨rfl, hb3⟩;  have S3 := Lib.hid (S2.out.keep hb3); obtain ⟨u03, u13, u23, v03, v13, v23, v33, v43⟩ := S3.out.cells; clear hb3) | (go_at_call 80; refine (c_memberP F.cap A1 A2 F.n1 c1 F.n2 c2 F.f2 _ w3 S3.out.2.2.2.1.m (by omega) HR.out.r2).mono ?_; rintro e w4 ⟨rfl, hb4⟩;  have S4 := Lib.hid (S3.out.keep hb4); obtain ⟨u04, u14, u24, v04, v14, v24, v34, v44⟩ := S4.out.cells; clear hb4) | fail)
  clear u0 u1 u2 v0 v1 v2 v3 v4 u02 u12 u22 v02 v12 v22 v32 v42 u03 u13 u23 v03 v13 v23 v33 v43
  obtain ⟨z0, z1, z2, z3, z4, y0, y1, y2, y3, y4⟩ := S4.out.out
  go_wp2_with fail
  exact bodyPost_ret (results_cell_row rfl _ _ _ _ _ _ _ rfl (S4.out.give 2 id 0 0 0).1 hu rfl (by kernel_rfl)) rfl ((S4.out.give 2 id 0 0 0).2 (by have := HBB.out; omega) (HB.out.trans (S4.out.2.2.2.2.mono (by have := HZ.out; have := HBB.out; omega))))
set_option maxHeartbeats 4000000 in
theorem c_fb_group (F : Fm) (A1 A2 : Option Addr) (c1 c2 : Nat) (id g a c : Int) (w : World) (h : FarmAt w A1 F.n1 F.f1 A2 F.n2 F.f2) (hc1 : F.n1 ≤ c1) (hc2 : F.n2 ≤ c2) (hf : fmB F = true) (hC : feC F 6 id g a c = 0) :
    Calls Try.prog 29 #[.agg #[.int .i64 F.cap, .slice A1 F.n1 c1, .slice A2 F.n2 c2], .agg #[.int .i64 6, .int .i64 id, .int .i64 g, .int .i64 a, .int .i64 c]] w (EdV 7 id 0 0 0 w) := by
  have HC1 := Lib.hid hc1
  have HC2 := Lib.hid hc2
  have HFC := Lib.hid hC
  have HR := Lib.hid (Right.of hf)
  have hl1 := HR.out.l1
  have hl2 := HR.out.l2
  clear hC hc1 hc2 hf
  have hu := Try.underlying56
  have hfl := fun (x y z p q : Value) (w : World) => out_code x y z p q w
  have S1 := Lib.hid (BkIn.new F A1 A2 c1 c2 6 id g a c w h)
  have HB : Hid (Below w.heap.size w (((w.alloc (.cells #[.int .i64 F.cap, .slice A1 F.n1 c1, .slice A2 F.n2 c2] 34)).alloc (.cells #[.int .i64 6, .int .i64 id, .int .i64 g, .int .i64 a, .int .i64 c] 56)).alloc (.cells #[.int .i64 0, .int .i64 0, .int .i64 0, .int .i64 0, .int .i64 0] 56))) := Lib.hid ((((Below.refl w.heap.size w).alloc (Nat.le_refl _) _).alloc (by simp) _).alloc (by simp; omega) _)
  have HZ : Hid ((((w.alloc (.cells #[.int .i64 F.cap, .slice A1 F.n1 c1, .slice A2 F.n2 c2] 34)).alloc (.cells #[.int .i64 6, .int .i64 id, .int .i64 g, .int .i64 a, .int .i64 c] 56)).alloc (.cells #[.int .i64 0, .int .i64 0, .int .i64 0, .int .i64 0, .int .i64 0] 56)).heap.size = w.heap.size + 1 + 1 + 1) := Lib.hid (by simp)
  clear h
  go_enter Try.func29, Try.ntmps29
  go_upto_region 1 with fail
  generalize (((w.alloc (.cells #[.int .i64 F.cap, .slice A1 F.n1 c1, .slice A2 F.n2 c2] 34)).alloc (.cells #[.int .i64 6, .int .i64 id, .int .i64 g, .int .i64 a, .int .i64 c] 56)).alloc (.cells #[.int .i64 0, .int .i64 0, .int .i64 0, .int .i64 0, .int .i64 0] 56)) = w1 at *
  obtain ⟨b, hbb⟩ : ∃ b, w.heap.size = b := ⟨_, rfl⟩
  have HBB := Lib.hid hbb
  rw [hbb] at S1 HZ ⊢
  clear hbb
  obtain ⟨u0, u1, u2, v0, v1, v2, v3, v4⟩ := S1.out.cells
  have HFE := Lib.hid (fun (w' : World) (h : FarmAt w' A1 F.n1 F.f1 A2 F.n2 F.f2) => c_FarmEdit F A1 A2 c1 c2 6 id g a c w' h HC1.out)
  unfold FeOut at HFE
  go_upto_region 5 with (first | (go_at_call 28; refine (HFE.out w1 S1.out.2.2.2.1).mono ?_; rintro e w2 ⟨vg, vm, rfl, -, hb2⟩; rw [HFC.out]; have S2 := Lib.hid (S1.out.keep hb2); obtain ⟨u02, u12, u22, v02, v12, v22, v32, v42⟩ := S2.out.cells; clear hb2) | (go_at_call 79; refine (c_groupP F.cap A1 A2 F.n1 c1 F.n2 c2 F.f1 _ w2 S2.out.2.2.2.1.g (by omega) HR.out.r1).mono ?_; rintro e w3 ⟨rfl, hb3⟩;  have S3 := Lib.hid (S2.out.keep hb3); obtain ⟨u03, u13, u23, v03, v13, v23, v33, v43⟩ := S3.out.cells; clear hb3) | (go_at_call 80; refine (c_memberP F.cap A1 A2 F.n1 c1 F.n2 c2 F.f2 _ w3 S3.out.2.2.2.1.m (by omega) HR.out.r2).mono ?_; rintro e w4 ⟨rfl, hb4⟩;  have S4 := Lib.hid (S3.out.keep hb4); obtain ⟨u04, u14, u24, v04, v14, v24, v34, v44⟩ := S4.out.cells; clear hb4) | fail)
  clear u0 u1 u2 v0 v1 v2 v3 v4 u02 u12 u22 v02 v12 v22 v32 v42 u03 u13 u23 v03 v13 v23 v33 v43
  obtain ⟨z0, z1, z2, z3, z4, y0, y1, y2, y3, y4⟩ := S4.out.out
  go_wp2_with fail
  exact bodyPost_ret (results_cell_row rfl _ _ _ _ _ _ _ rfl (S4.out.give 7 id 0 0 0).1 hu rfl (by kernel_rfl)) rfl ((S4.out.give 7 id 0 0 0).2 (by have := HBB.out; omega) (HB.out.trans (S4.out.2.2.2.2.mono (by have := HZ.out; have := HBB.out; omega))))
set_option maxHeartbeats 4000000 in
theorem c_fb_drop (F : Fm) (A1 A2 : Option Addr) (c1 c2 : Nat) (id : Int) (w : World) (h : FarmAt w A1 F.n1 F.f1 A2 F.n2 F.f2) (hc1 : F.n1 ≤ c1) (hc2 : F.n2 ≤ c2) (hf : fmB F = true) (hC : feC F 7 id 0 0 0 = 0) (e0 : hasId F.n1 F.f1 id = true) :
    Calls Try.prog 29 #[.agg #[.int .i64 F.cap, .slice A1 F.n1 c1, .slice A2 F.n2 c2], .agg #[.int .i64 7, .int .i64 id, .int .i64 0, .int .i64 0, .int .i64 0]] w (EdV 6 id (F.f1 (posT F.n1 F.f1 id) 1) (F.f1 (posT F.n1 F.f1 id) 2) (F.f1 (posT F.n1 F.f1 id) 3) w) := by
  have HC1 := Lib.hid hc1
  have HC2 := Lib.hid hc2
  have HFC := Lib.hid hC
  have HR := Lib.hid (Right.of hf)
  have hl1 := HR.out.l1
  have hl2 := HR.out.l2
  clear hC hc1 hc2 hf
  have HE0 := Lib.hid e0
  clear e0
  have hu := Try.underlying56
  have hfl := fun (x y z p q : Value) (w : World) => out_code x y z p q w
  have S1 := Lib.hid (BkIn.new F A1 A2 c1 c2 7 id 0 0 0 w h)
  have HB : Hid (Below w.heap.size w (((w.alloc (.cells #[.int .i64 F.cap, .slice A1 F.n1 c1, .slice A2 F.n2 c2] 34)).alloc (.cells #[.int .i64 7, .int .i64 id, .int .i64 0, .int .i64 0, .int .i64 0] 56)).alloc (.cells #[.int .i64 0, .int .i64 0, .int .i64 0, .int .i64 0, .int .i64 0] 56))) := Lib.hid ((((Below.refl w.heap.size w).alloc (Nat.le_refl _) _).alloc (by simp) _).alloc (by simp; omega) _)
  have HZ : Hid ((((w.alloc (.cells #[.int .i64 F.cap, .slice A1 F.n1 c1, .slice A2 F.n2 c2] 34)).alloc (.cells #[.int .i64 7, .int .i64 id, .int .i64 0, .int .i64 0, .int .i64 0] 56)).alloc (.cells #[.int .i64 0, .int .i64 0, .int .i64 0, .int .i64 0, .int .i64 0] 56)).heap.size = w.heap.size + 1 + 1 + 1) := Lib.hid (by simp)
  clear h
  go_enter Try.func29, Try.ntmps29
  go_upto_region 1 with fail
  generalize (((w.alloc (.cells #[.int .i64 F.cap, .slice A1 F.n1 c1, .slice A2 F.n2 c2] 34)).alloc (.cells #[.int .i64 7, .int .i64 id, .int .i64 0, .int .i64 0, .int .i64 0] 56)).alloc (.cells #[.int .i64 0, .int .i64 0, .int .i64 0, .int .i64 0, .int .i64 0] 56)) = w1 at *
  obtain ⟨b, hbb⟩ : ∃ b, w.heap.size = b := ⟨_, rfl⟩
  have HBB := Lib.hid hbb
  rw [hbb] at S1 HZ ⊢
  clear hbb
  obtain ⟨u0, u1, u2, v0, v1, v2, v3, v4⟩ := S1.out.cells
  have HFE := Lib.hid (fun (w' : World) (h : FarmAt w' A1 F.n1 F.f1 A2 F.n2 F.f2) => c_FarmEdit F A1 A2 c1 c2 7 id 0 0 0 w' h HC1.out)
  unfold FeOut at HFE
  go_upto_region 5 with (first | (go_at_call 28; refine (HFE.out w1 S1.out.2.2.2.1).mono ?_; rintro e w2 ⟨vg, vm, rfl, -, hb2⟩; rw [HFC.out]; have S2 := Lib.hid (S1.out.keep hb2); obtain ⟨u02, u12, u22, v02, v12, v22, v32, v42⟩ := S2.out.cells; clear hb2) | (go_at_call 79; refine (c_groupP F.cap A1 A2 F.n1 c1 F.n2 c2 F.f1 _ w2 S2.out.2.2.2.1.g (by omega) HR.out.r1).mono ?_; rintro e w3 ⟨rfl, hb3⟩; rw [HE0.out]; have S3 := Lib.hid (S2.out.keep hb3); obtain ⟨u03, u13, u23, v03, v13, v23, v33, v43⟩ := S3.out.cells; clear hb3) | (go_at_call 80; refine (c_memberP F.cap A1 A2 F.n1 c1 F.n2 c2 F.f2 _ w3 S3.out.2.2.2.1.m (by omega) HR.out.r2).mono ?_; rintro e w4 ⟨rfl, hb4⟩;  have S4 := Lib.hid (S3.out.keep hb4); obtain ⟨u04, u14, u24, v04, v14, v24, v34, v44⟩ := S4.out.cells; clear hb4) | fail)
  clear u0 u1 u2 v0 v1 v2 v3 v4 u02 u12 u22 v02 v12 v22 v32 v42 u03 u13 u23 v03 v13 v23 v33 v43
  obtain ⟨hpn, hpe⟩ := has_at HR.out.r1 HE0.out
  generalize posT F.n1 F.f1 id = pp at *
  have HPE := Lib.hid hpe
  clear hpe
  obtain ⟨gt, off, eA, hgl, hx⟩ := S4.out.2.2.2.1.g.at (by omega)
  subst eA
  have x0 := hx pp 0 hpn (by decide)
  have x1 := hx pp 1 hpn (by decide)
  have x2 := hx pp 2 hpn (by decide)
  have x3 := hx pp 3 hpn (by decide)
  rw [Nat.add_zero, HPE.out] at x0
  clear hx
  have hp0 : (0 : Int) ≤ (pp : Int) := by omega
  have hp1 : (pp : Int) < (F.n1 : Int) := by omega
  go_upto_region 12 with fail
  have al := (Below.refl w4.heap.size w4).alloc (Nat.le_refl _) (.cells #[.int .i64 id, .int .i64 (F.f1 pp 1), .int .i64 (F.f1 pp 2), .int .i64 (F.f1 pp 3)] 114)
  have K5 := Lib.hid (Blk.new (w := w4) (B := 0) (Nat.zero_le _) #[.int .i64 id, .int .i64 (F.f1 pp 1), .int .i64 (F.f1 pp 2), .int .i64 (F.f1 pp 3)] 114)
  have S5 := Lib.hid (S4.out.keep al)
  clear al x0 x1 x2 x3 hp0 hp1 u04 u14 u24 v04 v14 v24 v34 v44
  generalize (w4.alloc (.cells #[.int .i64 id, .int .i64 (F.f1 pp 1), .int .i64 (F.f1 pp 2), .int .i64 (F.f1 pp 3)] 114)) = w5 at *
  generalize w4.heap.size = b5 at *
  obtain ⟨u05, u15, u25, v05, v15, v25, v35, v45⟩ := S5.out.cells
  have x0 := (K5.out.cell 0).trans rfl
  have x1 := (K5.out.cell 1).trans rfl
  have x2 := (K5.out.cell 2).trans rfl
  have x3 := (K5.out.cell 3).trans rfl
  obtain ⟨z0, z1, z2, z3, z4, y0, y1, y2, y3, y4⟩ := S5.out.out
  go_wp2_with fail
  exact bodyPost_ret (results_cell_row rfl _ _ _ _ _ _ _ rfl (S5.out.give 6 id (F.f1 pp 1) (F.f1 pp 2) (F.f1 pp 3)).1 hu rfl (by kernel_rfl)) rfl ((S5.out.give 6 id (F.f1 pp 1) (F.f1 pp 2) (F.f1 pp 3)).2 (by have := HBB.out; omega) (HB.out.trans (S5.out.2.2.2.2.mono (by have := HZ.out; have := HBB.out; omega))))
set_option maxHeartbeats 4000000 in
theorem c_fb_cap0 (F : Fm) (A1 A2 : Option Addr) (c1 c2 : Nat) (a : Int) (w : World) (h : FarmAt w A1 F.n1 F.f1 A2 F.n2 F.f2) (hc1 : F.n1 ≤ c1) (hc2 : F.n2 ≤ c2) (hf : fmB F = true) (hC : feC F 8 0 0 a 0 = 0) :
    Calls Try.prog 29 #[.agg #[.int .i64 F.cap, .slice A1 F.n1 c1, .slice A2 F.n2 c2], .agg #[.int .i64 8, .int .i64 0, .int .i64 0, .int .i64 a, .int .i64 0]] w (EdV 8 0 0 F.cap 0 w) := by
  have HC1 := Lib.hid hc1
  have HC2 := Lib.hid hc2
  have HFC := Lib.hid hC
  have HR := Lib.hid (Right.of hf)
  have hl1 := HR.out.l1
  have hl2 := HR.out.l2
  clear hC hc1 hc2 hf
  have HE0 := Lib.hid (show hasId F.n1 F.f1 0 = false from by rcases h0 : hasId F.n1 F.f1 0 with _ | _; rfl; exact absurd (has_at HR.out.r1 h0).2 (by have := (HR.out.g _ (has_at HR.out.r1 h0).1).1; omega))
  have hu := Try.underlying56
  have hfl := fun (x y z p q : Value) (w : World) => out_code x y z p q w
  have S1 := Lib.hid (BkIn.new F A1 A2 c1 c2 8 0 0 a 0 w h)
  have HB : Hid (Below w.heap.size w (((w.alloc (.cells #[.int .i64 F.cap, .slice A1 F.n1 c1, .slice A2 F.n2 c2] 34)).alloc (.cells #[.int .i64 8, .int .i64 0, .int .i64 0, .int .i64 a, .int .i64 0] 56)).alloc (.cells #[.int .i64 0, .int .i64 0, .int .i64 0, .int .i64 0, .int .i64 0] 56))) := Lib.hid ((((Below.refl w.heap.size w).alloc (Nat.le_refl _) _).alloc (by simp) _).alloc (by simp; omega) _)
  have HZ : Hid ((((w.alloc (.cells #[.int .i64 F.cap, .slice A1 F.n1 c1, .slice A2 F.n2 c2] 34)).alloc (.cells #[.int .i64 8, .int .i64 0, .int .i64 0, .int .i64 a, .int .i64 0] 56)).alloc (.cells #[.int .i64 0, .int .i64 0, .int .i64 0, .int .i64 0, .int .i64 0] 56)).heap.size = w.heap.size + 1 + 1 + 1) := Lib.hid (by simp)
  clear h
  go_enter Try.func29, Try.ntmps29
  go_upto_region 1 with fail
  generalize (((w.alloc (.cells #[.int .i64 F.cap, .slice A1 F.n1 c1, .slice A2 F.n2 c2] 34)).alloc (.cells #[.int .i64 8, .int .i64 0, .int .i64 0, .int .i64 a, .int .i64 0] 56)).alloc (.cells #[.int .i64 0, .int .i64 0, .int .i64 0, .int .i64 0, .int .i64 0] 56)) = w1 at *
  obtain ⟨b, hbb⟩ : ∃ b, w.heap.size = b := ⟨_, rfl⟩
  have HBB := Lib.hid hbb
  rw [hbb] at S1 HZ ⊢
  clear hbb
  obtain ⟨u0, u1, u2, v0, v1, v2, v3, v4⟩ := S1.out.cells
  have HFE := Lib.hid (fun (w' : World) (h : FarmAt w' A1 F.n1 F.f1 A2 F.n2 F.f2) => c_FarmEdit F A1 A2 c1 c2 8 0 0 a 0 w' h HC1.out)
  unfold FeOut at HFE
  go_upto_region 5 with (first | (go_at_call 28; refine (HFE.out w1 S1.out.2.2.2.1).mono ?_; rintro e w2 ⟨vg, vm, rfl, -, hb2⟩; rw [HFC.out]; have S2 := Lib.hid (S1.out.keep hb2); obtain ⟨u02, u12, u22, v02, v12, v22, v32, v42⟩ := S2.out.cells; clear hb2) | (go_at_call 79; refine (c_groupP F.cap A1 A2 F.n1 c1 F.n2 c2 F.f1 _ w2 S2.out.2.2.2.1.g (by omega) HR.out.r1).mono ?_; rintro e w3 ⟨rfl, hb3⟩; rw [HE0.out]; have S3 := Lib.hid (S2.out.keep hb3); obtain ⟨u03, u13, u23, v03, v13, v23, v33, v43⟩ := S3.out.cells; clear hb3) | (go_at_call 80; refine (c_memberP F.cap A1 A2 F.n1 c1 F.n2 c2 F.f2 _ w3 S3.out.2.2.2.1.m (by omega) HR.out.r2).mono ?_; rintro e w4 ⟨rfl, hb4⟩;  have S4 := Lib.hid (S3.out.keep hb4); obtain ⟨u04, u14, u24, v04, v14, v24, v34, v44⟩ := S4.out.cells; clear hb4) | fail)
  clear u0 u1 u2 v0 v1 v2 v3 v4 u02 u12 u22 v02 v12 v22 v32 v42 u03 u13 u23 v03 v13 v23 v33 v43
  obtain ⟨z0, z1, z2, z3, z4, y0, y1, y2, y3, y4⟩ := S4.out.out
  go_wp2_with fail
  exact bodyPost_ret (results_cell_row rfl _ _ _ _ _ _ _ rfl (S4.out.give 8 0 0 F.cap 0).1 hu rfl (by kernel_rfl)) rfl ((S4.out.give 8 0 0 F.cap 0).2 (by have := HBB.out; omega) (HB.out.trans (S4.out.2.2.2.2.mono (by have := HZ.out; have := HBB.out; omega))))
set_option maxHeartbeats 4000000 in
theorem c_fb_cap (F : Fm) (A1 A2 : Option Addr) (c1 c2 : Nat) (id a : Int) (w : World) (h : FarmAt w A1 F.n1 F.f1 A2 F.n2 F.f2) (hc1 : F.n1 ≤ c1) (hc2 : F.n2 ≤ c2) (hf : fmB F = true) (hC : feC F 8 id 0 a 0 = 0) (e0 : hasId F.n1 F.f1 id = true) :
    Calls Try.prog 29 #[.agg #[.int .i64 F.cap, .slice A1 F.n1 c1, .slice A2 F.n2 c2], .agg #[.int .i64 8, .int .i64 id, .int .i64 0, .int .i64 a, .int .i64 0]] w (EdV 8 id 0 (F.f1 (posT F.n1 F.f1 id) 2) 0 w) := by
  have HC1 := Lib.hid hc1
  have HC2 := Lib.hid hc2
  have HFC := Lib.hid hC
  have HR := Lib.hid (Right.of hf)
  have hl1 := HR.out.l1
  have hl2 := HR.out.l2
  clear hC hc1 hc2 hf
  have HE0 := Lib.hid e0
  clear e0
  have hu := Try.underlying56
  have hfl := fun (x y z p q : Value) (w : World) => out_code x y z p q w
  have S1 := Lib.hid (BkIn.new F A1 A2 c1 c2 8 id 0 a 0 w h)
  have HB : Hid (Below w.heap.size w (((w.alloc (.cells #[.int .i64 F.cap, .slice A1 F.n1 c1, .slice A2 F.n2 c2] 34)).alloc (.cells #[.int .i64 8, .int .i64 id, .int .i64 0, .int .i64 a, .int .i64 0] 56)).alloc (.cells #[.int .i64 0, .int .i64 0, .int .i64 0, .int .i64 0, .int .i64 0] 56))) := Lib.hid ((((Below.refl w.heap.size w).alloc (Nat.le_refl _) _).alloc (by simp) _).alloc (by simp; omega) _)
  have HZ : Hid ((((w.alloc (.cells #[.int .i64 F.cap, .slice A1 F.n1 c1, .slice A2 F.n2 c2] 34)).alloc (.cells #[.int .i64 8, .int .i64 id, .int .i64 0, .int .i64 a, .int .i64 0] 56)).alloc (.cells #[.int .i64 0, .int .i64 0, .int .i64 0, .int .i64 0, .int .i64 0] 56)).heap.size = w.heap.size + 1 + 1 + 1) := Lib.hid (by simp)
  clear h
  go_enter Try.func29, Try.ntmps29
  go_upto_region 1 with fail
  generalize (((w.alloc (.cells #[.int .i64 F.cap, .slice A1 F.n1 c1, .slice A2 F.n2 c2] 34)).alloc (.cells #[.int .i64 8, .int .i64 id, .int .i64 0, .int .i64 a, .int .i64 0] 56)).alloc (.cells #[.int .i64 0, .int .i64 0, .int .i64 0, .int .i64 0, .int .i64 0] 56)) = w1 at *
  obtain ⟨b, hbb⟩ : ∃ b, w.heap.size = b := ⟨_, rfl⟩
  have HBB := Lib.hid hbb
  rw [hbb] at S1 HZ ⊢
  clear hbb
  obtain ⟨u0, u1, u2, v0, v1, v2, v3, v4⟩ := S1.out.cells
  have HFE := Lib.hid (fun (w' : World) (h : FarmAt w' A1 F.n1 F.f1 A2 F.n2 F.f2) => c_FarmEdit F A1 A2 c1 c2 8 id 0 a 0 w' h HC1.out)
  unfold FeOut at HFE
  go_upto_region 5 with (first | (go_at_call 28; refine (HFE.out w1 S1.out.2.2.2.1).mono ?_; rintro e w2 ⟨vg, vm, rfl, -, hb2⟩; rw [HFC.out]; have S2 := Lib.hid (S1.out.keep hb2); obtain ⟨u02, u12, u22, v02, v12, v22, v32, v42⟩ := S2.out.cells; clear hb2) | (go_at_call 79; refine (c_groupP F.cap A1 A2 F.n1 c1 F.n2 c2 F.f1 _ w2 S2.out.2.2.2.1.g (by omega) HR.out.r1).mono ?_; rintro e w3 ⟨rfl, hb3⟩; rw [HE0.out]; have S3 := Lib.hid (S2.out.keep hb3); obtain ⟨u03, u13, u23, v03, v13, v23, v33, v43⟩ := S3.out.cells; clear hb3) | (go_at_call 80; refine (c_memberP F.cap A1 A2 F.n1 c1 F.n2 c2 F.f2 _ w3 S3.out.2.2.2.1.m (by omega) HR.out.r2).mono ?_; rintro e w4 ⟨rfl, hb4⟩;  have S4 := Lib.hid (S3.out.keep hb4); obtain ⟨u04, u14, u24, v04, v14, v24, v34, v44⟩ := S4.out.cells; clear hb4) | fail)
  clear u0 u1 u2 v0 v1 v2 v3 v4 u02 u12 u22 v02 v12 v22 v32 v42 u03 u13 u23 v03 v13 v23 v33 v43
  obtain ⟨hpn, hpe⟩ := has_at HR.out.r1 HE0.out
  generalize posT F.n1 F.f1 id = pp at *
  have HPE := Lib.hid hpe
  clear hpe
  obtain ⟨gt, off, eA, hgl, hx⟩ := S4.out.2.2.2.1.g.at (by omega)
  subst eA
  have x0 := hx pp 0 hpn (by decide)
  have x1 := hx pp 1 hpn (by decide)
  have x2 := hx pp 2 hpn (by decide)
  have x3 := hx pp 3 hpn (by decide)
  rw [Nat.add_zero, HPE.out] at x0
  clear hx
  have hp0 : (0 : Int) ≤ (pp : Int) := by omega
  have hp1 : (pp : Int) < (F.n1 : Int) := by omega
  obtain ⟨z0, z1, z2, z3, z4, y0, y1, y2, y3, y4⟩ := S4.out.out
  have SD := Lib.hid (S4.out.keep (Below.refl _ _).drew)
  go_upto_region 16 with fail
  go_region
  go_wp2_with fail
  exact bodyPost_ret (results_cell_row rfl _ _ _ _ _ _ _ rfl (SD.out.give 8 id 0 (F.f1 pp 2) 0).1 hu rfl (by kernel_rfl)) rfl ((SD.out.give 8 id 0 (F.f1 pp 2) 0).2 (by have := HBB.out; omega) (HB.out.trans (SD.out.2.2.2.2.mono (by have := HZ.out; have := HBB.out; omega))))
set_option maxHeartbeats 4000000 in
theorem c_fb_leave (F : Fm) (A1 A2 : Option Addr) (c1 c2 : Nat) (id : Int) (w : World) (h : FarmAt w A1 F.n1 F.f1 A2 F.n2 F.f2) (hc1 : F.n1 ≤ c1) (hc2 : F.n2 ≤ c2) (hf : fmB F = true) (hC : feC F 2 id 0 0 0 = 0) (e0 : hasId F.n2 F.f2 id = true) :
    Calls Try.prog 29 #[.agg #[.int .i64 F.cap, .slice A1 F.n1 c1, .slice A2 F.n2 c2], .agg #[.int .i64 2, .int .i64 id, .int .i64 0, .int .i64 0, .int .i64 0]] w (EdV 1 id (F.f2 (posT F.n2 F.f2 id) 1) (F.f2 (posT F.n2 F.f2 id) 2) (F.f2 (posT F.n2 F.f2 id) 3) w) := by
  have HC1 := Lib.hid hc1
  have HC2 := Lib.hid hc2
  have HFC := Lib.hid hC
  have HR := Lib.hid (Right.of hf)
  have hl1 := HR.out.l1
  have hl2 := HR.out.l2
  clear hC hc1 hc2 hf
  have HE0 := Lib.hid e0
  clear e0
  have hu := Try.underlying56
  have hfl := fun (x y z p q : Value) (w : World) => out_code x y z p q w
  have S1 := Lib.hid (BkIn.new F A1 A2 c1 c2 2 id 0 0 0 w h)
  have HB : Hid (Below w.heap.size w (((w.alloc (.cells #[.int .i64 F.cap, .slice A1 F.n1 c1, .slice A2 F.n2 c2] 34)).alloc (.cells #[.int .i64 2, .int .i64 id, .int .i64 0, .int .i64 0, .int .i64 0] 56)).alloc (.cells #[.int .i64 0, .int .i64 0, .int .i64 0, .int .i64 0, .int .i64 0] 56))) := Lib.hid ((((Below.refl w.heap.size w).alloc (Nat.le_refl _) _).alloc (by simp) _).alloc (by simp; omega) _)
  have HZ : Hid ((((w.alloc (.cells #[.int .i64 F.cap, .slice A1 F.n1 c1, .slice A2 F.n2 c2] 34)).alloc (.cells #[.int .i64 2, .int .i64 id, .int .i64 0, .int .i64 0, .int .i64 0] 56)).alloc (.cells #[.int .i64 0, .int .i64 0, .int .i64 0, .int .i64 0, .int .i64 0] 56)).heap.size = w.heap.size + 1 + 1 + 1) := Lib.hid (by simp)
  clear h
  go_enter Try.func29, Try.ntmps29
  go_upto_region 1 with fail
  generalize (((w.alloc (.cells #[.int .i64 F.cap, .slice A1 F.n1 c1, .slice A2 F.n2 c2] 34)).alloc (.cells #[.int .i64 2, .int .i64 id, .int .i64 0, .int .i64 0, .int .i64 0] 56)).alloc (.cells #[.int .i64 0, .int .i64 0, .int .i64 0, .int .i64 0, .int .i64 0] 56)) = w1 at *
  obtain ⟨b, hbb⟩ : ∃ b, w.heap.size = b := ⟨_, rfl⟩
  have HBB := Lib.hid hbb
  rw [hbb] at S1 HZ ⊢
  clear hbb
  obtain ⟨u0, u1, u2, v0, v1, v2, v3, v4⟩ := S1.out.cells
  have HFE := Lib.hid (fun (w' : World) (h : FarmAt w' A1 F.n1 F.f1 A2 F.n2 F.f2) => c_FarmEdit F A1 A2 c1 c2 2 id 0 0 0 w' h HC1.out)
  unfold FeOut at HFE
  go_upto_region 5 with (first | (go_at_call 28; refine (HFE.out w1 S1.out.2.2.2.1).mono ?_; rintro e w2 ⟨vg, vm, rfl, -, hb2⟩; rw [HFC.out]; have S2 := Lib.hid (S1.out.keep hb2); obtain ⟨u02, u12, u22, v02, v12, v22, v32, v42⟩ := S2.out.cells; clear hb2) | (go_at_call 79; refine (c_groupP F.cap A1 A2 F.n1 c1 F.n2 c2 F.f1 _ w2 S2.out.2.2.2.1.g (by omega) HR.out.r1).mono ?_; rintro e w3 ⟨rfl, hb3⟩;  have S3 := Lib.hid (S2.out.keep hb3); obtain ⟨u03, u13, u23, v03, v13, v23, v33, v43⟩ := S3.out.cells; clear hb3) | (go_at_call 80; refine (c_memberP F.cap A1 A2 F.n1 c1 F.n2 c2 F.f2 _ w3 S3.out.2.2.2.1.m (by omega) HR.out.r2).mono ?_; rintro e w4 ⟨rfl, hb4⟩; rw [HE0.out]; have S4 := Lib.hid (S3.out.keep hb4); obtain ⟨u04, u14, u24, v04, v14, v24, v34, v44⟩ := S4.out.cells; clear hb4) | fail)
  clear u0 u1 u2 v0 v1 v2 v3 v4 u02 u12 u22 v02 v12 v22 v32 v42 u03 u13 u23 v03 v13 v23 v33 v43
  obtain ⟨hpn, hpe⟩ := has_at HR.out.r2 HE0.out
  generalize posT F.n2 F.f2 id = pp at *
  have HPE := Lib.hid hpe
  clear hpe
  obtain ⟨gt, off, eA, hgl, hx⟩ := S4.out.2.2.2.1.m.at (by omega)
  subst eA
  have x0 := hx pp 0 hpn (by decide)
  have x1 := hx pp 1 hpn (by decide)
  have x2 := hx pp 2 hpn (by decide)
  have x3 := hx pp 3 hpn (by decide)
  rw [Nat.add_zero, HPE.out] at x0
  clear hx
  have hp0 : (0 : Int) ≤ (pp : Int) := by omega
  have hp1 : (pp : Int) < (F.n2 : Int) := by omega
  go_upto_region 18 with fail
  have al := (Below.refl w4.heap.size w4).alloc (Nat.le_refl _) (.cells #[.int .i64 id, .int .i64 (F.f2 pp 1), .int .i64 (F.f2 pp 2), .int .i64 (F.f2 pp 3)] 91)
  have K5 := Lib.hid (Blk.new (w := w4) (B := 0) (Nat.zero_le _) #[.int .i64 id, .int .i64 (F.f2 pp 1), .int .i64 (F.f2 pp 2), .int .i64 (F.f2 pp 3)] 91)
  have S5 := Lib.hid (S4.out.keep al)
  clear al x0 x1 x2 x3 hp0 hp1 u04 u14 u24 v04 v14 v24 v34 v44
  generalize (w4.alloc (.cells #[.int .i64 id, .int .i64 (F.f2 pp 1), .int .i64 (F.f2 pp 2), .int .i64 (F.f2 pp 3)] 91)) = w5 at *
  generalize w4.heap.size = b5 at *
  obtain ⟨u05, u15, u25, v05, v15, v25, v35, v45⟩ := S5.out.cells
  have x0 := (K5.out.cell 0).trans rfl
  have x1 := (K5.out.cell 1).trans rfl
  have x2 := (K5.out.cell 2).trans rfl
  have x3 := (K5.out.cell 3).trans rfl
  obtain ⟨z0, z1, z2, z3, z4, y0, y1, y2, y3, y4⟩ := S5.out.out
  go_wp2_with fail
  exact bodyPost_ret (results_cell_row rfl _ _ _ _ _ _ _ rfl (S5.out.give 1 id (F.f2 pp 1) (F.f2 pp 2) (F.f2 pp 3)).1 hu rfl (by kernel_rfl)) rfl ((S5.out.give 1 id (F.f2 pp 1) (F.f2 pp 2) (F.f2 pp 3)).2 (by have := HBB.out; omega) (HB.out.trans (S5.out.2.2.2.2.mono (by have := HZ.out; have := HBB.out; omega))))
set_option maxHeartbeats 4000000 in
theorem c_fb_want (F : Fm) (A1 A2 : Option Addr) (c1 c2 : Nat) (id a : Int) (w : World) (h : FarmAt w A1 F.n1 F.f1 A2 F.n2 F.f2) (hc1 : F.n1 ≤ c1) (hc2 : F.n2 ≤ c2) (hf : fmB F = true) (hC : feC F 3 id 0 a 0 = 0) (e0 : hasId F.n2 F.f2 id = true) :
    Calls Try.prog 29 #[.agg #[.int .i64 F.cap, .slice A1 F.n1 c1, .slice A2 F.n2 c2], .agg #[.int .i64 3, .int .i64 id, .int .i64 0, .int .i64 a, .int .i64 0]] w (EdV 3 id 0 (F.f2 (posT F.n2 F.f2 id) 2) 0 w) := by
  have HC1 := Lib.hid hc1
  have HC2 := Lib.hid hc2
  have HFC := Lib.hid hC
  have HR := Lib.hid (Right.of hf)
  have hl1 := HR.out.l1
  have hl2 := HR.out.l2
  clear hC hc1 hc2 hf
  have HE0 := Lib.hid e0
  clear e0
  have hu := Try.underlying56
  have hfl := fun (x y z p q : Value) (w : World) => out_code x y z p q w
  have S1 := Lib.hid (BkIn.new F A1 A2 c1 c2 3 id 0 a 0 w h)
  have HB : Hid (Below w.heap.size w (((w.alloc (.cells #[.int .i64 F.cap, .slice A1 F.n1 c1, .slice A2 F.n2 c2] 34)).alloc (.cells #[.int .i64 3, .int .i64 id, .int .i64 0, .int .i64 a, .int .i64 0] 56)).alloc (.cells #[.int .i64 0, .int .i64 0, .int .i64 0, .int .i64 0, .int .i64 0] 56))) := Lib.hid ((((Below.refl w.heap.size w).alloc (Nat.le_refl _) _).alloc (by simp) _).alloc (by simp; omega) _)
  have HZ : Hid ((((w.alloc (.cells #[.int .i64 F.cap, .slice A1 F.n1 c1, .slice A2 F.n2 c2] 34)).alloc (.cells #[.int .i64 3, .int .i64 id, .int .i64 0, .int .i64 a, .int .i64 0] 56)).alloc (.cells #[.int .i64 0, .int .i64 0, .int .i64 0, .int .i64 0, .int .i64 0] 56)).heap.size = w.heap.size + 1 + 1 + 1) := Lib.hid (by simp)
  clear h
  go_enter Try.func29, Try.ntmps29
  go_upto_region 1 with fail
  generalize (((w.alloc (.cells #[.int .i64 F.cap, .slice A1 F.n1 c1, .slice A2 F.n2 c2] 34)).alloc (.cells #[.int .i64 3, .int .i64 id, .int .i64 0, .int .i64 a, .int .i64 0] 56)).alloc (.cells #[.int .i64 0, .int .i64 0, .int .i64 0, .int .i64 0, .int .i64 0] 56)) = w1 at *
  obtain ⟨b, hbb⟩ : ∃ b, w.heap.size = b := ⟨_, rfl⟩
  have HBB := Lib.hid hbb
  rw [hbb] at S1 HZ ⊢
  clear hbb
  obtain ⟨u0, u1, u2, v0, v1, v2, v3, v4⟩ := S1.out.cells
  have HFE := Lib.hid (fun (w' : World) (h : FarmAt w' A1 F.n1 F.f1 A2 F.n2 F.f2) => c_FarmEdit F A1 A2 c1 c2 3 id 0 a 0 w' h HC1.out)
  unfold FeOut at HFE
  go_upto_region 5 with (first | (go_at_call 28; refine (HFE.out w1 S1.out.2.2.2.1).mono ?_; rintro e w2 ⟨vg, vm, rfl, -, hb2⟩; rw [HFC.out]; have S2 := Lib.hid (S1.out.keep hb2); obtain ⟨u02, u12, u22, v02, v12, v22, v32, v42⟩ := S2.out.cells; clear hb2) | (go_at_call 79; refine (c_groupP F.cap A1 A2 F.n1 c1 F.n2 c2 F.f1 _ w2 S2.out.2.2.2.1.g (by omega) HR.out.r1).mono ?_; rintro e w3 ⟨rfl, hb3⟩;  have S3 := Lib.hid (S2.out.keep hb3); obtain ⟨u03, u13, u23, v03, v13, v23, v33, v43⟩ := S3.out.cells; clear hb3) | (go_at_call 80; refine (c_memberP F.cap A1 A2 F.n1 c1 F.n2 c2 F.f2 _ w3 S3.out.2.2.2.1.m (by omega) HR.out.r2).mono ?_; rintro e w4 ⟨rfl, hb4⟩; rw [HE0.out]; have S4 := Lib.hid (S3.out.keep hb4); obtain ⟨u04, u14, u24, v04, v14, v24, v34, v44⟩ := S4.out.cells; clear hb4) | fail)
  clear u0 u1 u2 v0 v1 v2 v3 v4 u02 u12 u22 v02 v12 v22 v32 v42 u03 u13 u23 v03 v13 v23 v33 v43
  obtain ⟨hpn, hpe⟩ := has_at HR.out.r2 HE0.out
  generalize posT F.n2 F.f2 id = pp at *
  have HPE := Lib.hid hpe
  clear hpe
  obtain ⟨gt, off, eA, hgl, hx⟩ := S4.out.2.2.2.1.m.at (by omega)
  subst eA
  have x0 := hx pp 0 hpn (by decide)
  have x1 := hx pp 1 hpn (by decide)
  have x2 := hx pp 2 hpn (by decide)
  have x3 := hx pp 3 hpn (by decide)
  rw [Nat.add_zero, HPE.out] at x0
  clear hx
  have hp0 : (0 : Int) ≤ (pp : Int) := by omega
  have hp1 : (pp : Int) < (F.n2 : Int) := by omega
  go_upto_region 18 with fail
  have al := (Below.refl w4.heap.size w4).alloc (Nat.le_refl _) (.cells #[.int .i64 id, .int .i64 (F.f2 pp 1), .int .i64 (F.f2 pp 2), .int .i64 (F.f2 pp 3)] 91)
  have K5 := Lib.hid (Blk.new (w := w4) (B := 0) (Nat.zero_le _) #[.int .i64 id, .int .i64 (F.f2 pp 1), .int .i64 (F.f2 pp 2), .int .i64 (F.f2 pp 3)] 91)
  have S5 := Lib.hid (S4.out.keep al)
  clear al x0 x1 x2 x3 hp0 hp1 u04 u14 u24 v04 v14 v24 v34 v44
  generalize (w4.alloc (.cells #[.int .i64 id, .int .i64 (F.f2 pp 1), .int .i64 (F.f2 pp 2), .int .i64 (F.f2 pp 3)] 91)) = w5 at *
  generalize w4.heap.size = b5 at *
  obtain ⟨u05, u15, u25, v05, v15, v25, v35, v45⟩ := S5.out.cells
  have x0 := (K5.out.cell 0).trans rfl
  have x1 := (K5.out.cell 1).trans rfl
  have x2 := (K5.out.cell 2).trans rfl
  have x3 := (K5.out.cell 3).trans rfl
  obtain ⟨z0, z1, z2, z3, z4, y0, y1, y2, y3, y4⟩ := S5.out.out
  go_wp2_with fail
  exact bodyPost_ret (results_cell_row rfl _ _ _ _ _ _ _ rfl (S5.out.give 3 id 0 (F.f2 pp 2) 0).1 hu rfl (by kernel_rfl)) rfl ((S5.out.give 3 id 0 (F.f2 pp 2) 0).2 (by have := HBB.out; omega) (HB.out.trans (S5.out.2.2.2.2.mono (by have := HZ.out; have := HBB.out; omega))))
set_option maxHeartbeats 4000000 in
theorem c_fb_weight (F : Fm) (A1 A2 : Option Addr) (c1 c2 : Nat) (id a : Int) (w : World) (h : FarmAt w A1 F.n1 F.f1 A2 F.n2 F.f2) (hc1 : F.n1 ≤ c1) (hc2 : F.n2 ≤ c2) (hf : fmB F = true) (hC : feC F 4 id 0 a 0 = 0) (e0 : hasId F.n2 F.f2 id = true) :
    Calls Try.prog 29 #[.agg #[.int .i64 F.cap, .slice A1 F.n1 c1, .slice A2 F.n2 c2], .agg #[.int .i64 4, .int .i64 id, .int .i64 0, .int .i64 a, .int .i64 0]] w (EdV 4 id 0 (F.f2 (posT F.n2 F.f2 id) 3) 0 w) := by
  have HC1 := Lib.hid hc1
  have HC2 := Lib.hid hc2
  have HFC := Lib.hid hC
  have HR := Lib.hid (Right.of hf)
  have hl1 := HR.out.l1
  have hl2 := HR.out.l2
  clear hC hc1 hc2 hf
  have HE0 := Lib.hid e0
  clear e0
  have hu := Try.underlying56
  have hfl := fun (x y z p q : Value) (w : World) => out_code x y z p q w
  have S1 := Lib.hid (BkIn.new F A1 A2 c1 c2 4 id 0 a 0 w h)
  have HB : Hid (Below w.heap.size w (((w.alloc (.cells #[.int .i64 F.cap, .slice A1 F.n1 c1, .slice A2 F.n2 c2] 34)).alloc (.cells #[.int .i64 4, .int .i64 id, .int .i64 0, .int .i64 a, .int .i64 0] 56)).alloc (.cells #[.int .i64 0, .int .i64 0, .int .i64 0, .int .i64 0, .int .i64 0] 56))) := Lib.hid ((((Below.refl w.heap.size w).alloc (Nat.le_refl _) _).alloc (by simp) _).alloc (by simp; omega) _)
  have HZ : Hid ((((w.alloc (.cells #[.int .i64 F.cap, .slice A1 F.n1 c1, .slice A2 F.n2 c2] 34)).alloc (.cells #[.int .i64 4, .int .i64 id, .int .i64 0, .int .i64 a, .int .i64 0] 56)).alloc (.cells #[.int .i64 0, .int .i64 0, .int .i64 0, .int .i64 0, .int .i64 0] 56)).heap.size = w.heap.size + 1 + 1 + 1) := Lib.hid (by simp)
  clear h
  go_enter Try.func29, Try.ntmps29
  go_upto_region 1 with fail
  generalize (((w.alloc (.cells #[.int .i64 F.cap, .slice A1 F.n1 c1, .slice A2 F.n2 c2] 34)).alloc (.cells #[.int .i64 4, .int .i64 id, .int .i64 0, .int .i64 a, .int .i64 0] 56)).alloc (.cells #[.int .i64 0, .int .i64 0, .int .i64 0, .int .i64 0, .int .i64 0] 56)) = w1 at *
  obtain ⟨b, hbb⟩ : ∃ b, w.heap.size = b := ⟨_, rfl⟩
  have HBB := Lib.hid hbb
  rw [hbb] at S1 HZ ⊢
  clear hbb
  obtain ⟨u0, u1, u2, v0, v1, v2, v3, v4⟩ := S1.out.cells
  have HFE := Lib.hid (fun (w' : World) (h : FarmAt w' A1 F.n1 F.f1 A2 F.n2 F.f2) => c_FarmEdit F A1 A2 c1 c2 4 id 0 a 0 w' h HC1.out)
  unfold FeOut at HFE
  go_upto_region 5 with (first | (go_at_call 28; refine (HFE.out w1 S1.out.2.2.2.1).mono ?_; rintro e w2 ⟨vg, vm, rfl, -, hb2⟩; rw [HFC.out]; have S2 := Lib.hid (S1.out.keep hb2); obtain ⟨u02, u12, u22, v02, v12, v22, v32, v42⟩ := S2.out.cells; clear hb2) | (go_at_call 79; refine (c_groupP F.cap A1 A2 F.n1 c1 F.n2 c2 F.f1 _ w2 S2.out.2.2.2.1.g (by omega) HR.out.r1).mono ?_; rintro e w3 ⟨rfl, hb3⟩;  have S3 := Lib.hid (S2.out.keep hb3); obtain ⟨u03, u13, u23, v03, v13, v23, v33, v43⟩ := S3.out.cells; clear hb3) | (go_at_call 80; refine (c_memberP F.cap A1 A2 F.n1 c1 F.n2 c2 F.f2 _ w3 S3.out.2.2.2.1.m (by omega) HR.out.r2).mono ?_; rintro e w4 ⟨rfl, hb4⟩; rw [HE0.out]; have S4 := Lib.hid (S3.out.keep hb4); obtain ⟨u04, u14, u24, v04, v14, v24, v34, v44⟩ := S4.out.cells; clear hb4) | fail)
  clear u0 u1 u2 v0 v1 v2 v3 v4 u02 u12 u22 v02 v12 v22 v32 v42 u03 u13 u23 v03 v13 v23 v33 v43
  obtain ⟨hpn, hpe⟩ := has_at HR.out.r2 HE0.out
  generalize posT F.n2 F.f2 id = pp at *
  have HPE := Lib.hid hpe
  clear hpe
  obtain ⟨gt, off, eA, hgl, hx⟩ := S4.out.2.2.2.1.m.at (by omega)
  subst eA
  have x0 := hx pp 0 hpn (by decide)
  have x1 := hx pp 1 hpn (by decide)
  have x2 := hx pp 2 hpn (by decide)
  have x3 := hx pp 3 hpn (by decide)
  rw [Nat.add_zero, HPE.out] at x0
  clear hx
  have hp0 : (0 : Int) ≤ (pp : Int) := by omega
  have hp1 : (pp : Int) < (F.n2 : Int) := by omega
  go_upto_region 18 with fail
  have al := (Below.refl w4.heap.size w4).alloc (Nat.le_refl _) (.cells #[.int .i64 id, .int .i64 (F.f2 pp 1), .int .i64 (F.f2 pp 2), .int .i64 (F.f2 pp 3)] 91)
  have K5 := Lib.hid (Blk.new (w := w4) (B := 0) (Nat.zero_le _) #[.int .i64 id, .int .i64 (F.f2 pp 1), .int .i64 (F.f2 pp 2), .int .i64 (F.f2 pp 3)] 91)
  have S5 := Lib.hid (S4.out.keep al)
  clear al x0 x1 x2 x3 hp0 hp1 u04 u14 u24 v04 v14 v24 v34 v44
  generalize (w4.alloc (.cells #[.int .i64 id, .int .i64 (F.f2 pp 1), .int .i64 (F.f2 pp 2), .int .i64 (F.f2 pp 3)] 91)) = w5 at *
  generalize w4.heap.size = b5 at *
  obtain ⟨u05, u15, u25, v05, v15, v25, v35, v45⟩ := S5.out.cells
  have x0 := (K5.out.cell 0).trans rfl
  have x1 := (K5.out.cell 1).trans rfl
  have x2 := (K5.out.cell 2).trans rfl
  have x3 := (K5.out.cell 3).trans rfl
  obtain ⟨z0, z1, z2, z3, z4, y0, y1, y2, y3, y4⟩ := S5.out.out
  go_wp2_with fail
  exact bodyPost_ret (results_cell_row rfl _ _ _ _ _ _ _ rfl (S5.out.give 4 id 0 (F.f2 pp 3) 0).1 hu rfl (by kernel_rfl)) rfl ((S5.out.give 4 id 0 (F.f2 pp 3) 0).2 (by have := HBB.out; omega) (HB.out.trans (S5.out.2.2.2.2.mono (by have := HZ.out; have := HBB.out; omega))))
set_option maxHeartbeats 4000000 in
theorem c_fb_move (F : Fm) (A1 A2 : Option Addr) (c1 c2 : Nat) (id g : Int) (w : World) (h : FarmAt w A1 F.n1 F.f1 A2 F.n2 F.f2) (hc1 : F.n1 ≤ c1) (hc2 : F.n2 ≤ c2) (hf : fmB F = true) (hC : feC F 5 id g 0 0 = 0) (e0 : hasId F.n2 F.f2 id = true) :
    Calls Try.prog 29 #[.agg #[.int .i64 F.cap, .slice A1 F.n1 c1, .slice A2 F.n2 c2], .agg #[.int .i64 5, .int .i64 id, .int .i64 g, .int .i64 0, .int .i64 0]] w (EdV 5 id (F.f2 (posT F.n2 F.f2 id) 1) 0 0 w) := by
  have HC1 := Lib.hid hc1
  have HC2 := Lib.hid hc2
  have HFC := Lib.hid hC
  have HR := Lib.hid (Right.of hf)
  have hl1 := HR.out.l1
  have hl2 := HR.out.l2
  clear hC hc1 hc2 hf
  have HE0 := Lib.hid e0
  clear e0
  have hu := Try.underlying56
  have hfl := fun (x y z p q : Value) (w : World) => out_code x y z p q w
  have S1 := Lib.hid (BkIn.new F A1 A2 c1 c2 5 id g 0 0 w h)
  have HB : Hid (Below w.heap.size w (((w.alloc (.cells #[.int .i64 F.cap, .slice A1 F.n1 c1, .slice A2 F.n2 c2] 34)).alloc (.cells #[.int .i64 5, .int .i64 id, .int .i64 g, .int .i64 0, .int .i64 0] 56)).alloc (.cells #[.int .i64 0, .int .i64 0, .int .i64 0, .int .i64 0, .int .i64 0] 56))) := Lib.hid ((((Below.refl w.heap.size w).alloc (Nat.le_refl _) _).alloc (by simp) _).alloc (by simp; omega) _)
  have HZ : Hid ((((w.alloc (.cells #[.int .i64 F.cap, .slice A1 F.n1 c1, .slice A2 F.n2 c2] 34)).alloc (.cells #[.int .i64 5, .int .i64 id, .int .i64 g, .int .i64 0, .int .i64 0] 56)).alloc (.cells #[.int .i64 0, .int .i64 0, .int .i64 0, .int .i64 0, .int .i64 0] 56)).heap.size = w.heap.size + 1 + 1 + 1) := Lib.hid (by simp)
  clear h
  go_enter Try.func29, Try.ntmps29
  go_upto_region 1 with fail
  generalize (((w.alloc (.cells #[.int .i64 F.cap, .slice A1 F.n1 c1, .slice A2 F.n2 c2] 34)).alloc (.cells #[.int .i64 5, .int .i64 id, .int .i64 g, .int .i64 0, .int .i64 0] 56)).alloc (.cells #[.int .i64 0, .int .i64 0, .int .i64 0, .int .i64 0, .int .i64 0] 56)) = w1 at *
  obtain ⟨b, hbb⟩ : ∃ b, w.heap.size = b := ⟨_, rfl⟩
  have HBB := Lib.hid hbb
  rw [hbb] at S1 HZ ⊢
  clear hbb
  obtain ⟨u0, u1, u2, v0, v1, v2, v3, v4⟩ := S1.out.cells
  have HFE := Lib.hid (fun (w' : World) (h : FarmAt w' A1 F.n1 F.f1 A2 F.n2 F.f2) => c_FarmEdit F A1 A2 c1 c2 5 id g 0 0 w' h HC1.out)
  unfold FeOut at HFE
  go_upto_region 5 with (first | (go_at_call 28; refine (HFE.out w1 S1.out.2.2.2.1).mono ?_; rintro e w2 ⟨vg, vm, rfl, -, hb2⟩; rw [HFC.out]; have S2 := Lib.hid (S1.out.keep hb2); obtain ⟨u02, u12, u22, v02, v12, v22, v32, v42⟩ := S2.out.cells; clear hb2) | (go_at_call 79; refine (c_groupP F.cap A1 A2 F.n1 c1 F.n2 c2 F.f1 _ w2 S2.out.2.2.2.1.g (by omega) HR.out.r1).mono ?_; rintro e w3 ⟨rfl, hb3⟩;  have S3 := Lib.hid (S2.out.keep hb3); obtain ⟨u03, u13, u23, v03, v13, v23, v33, v43⟩ := S3.out.cells; clear hb3) | (go_at_call 80; refine (c_memberP F.cap A1 A2 F.n1 c1 F.n2 c2 F.f2 _ w3 S3.out.2.2.2.1.m (by omega) HR.out.r2).mono ?_; rintro e w4 ⟨rfl, hb4⟩; rw [HE0.out]; have S4 := Lib.hid (S3.out.keep hb4); obtain ⟨u04, u14, u24, v04, v14, v24, v34, v44⟩ := S4.out.cells; clear hb4) | fail)
  clear u0 u1 u2 v0 v1 v2 v3 v4 u02 u12 u22 v02 v12 v22 v32 v42 u03 u13 u23 v03 v13 v23 v33 v43
  obtain ⟨hpn, hpe⟩ := has_at HR.out.r2 HE0.out
  generalize posT F.n2 F.f2 id = pp at *
  have HPE := Lib.hid hpe
  clear hpe
  obtain ⟨gt, off, eA, hgl, hx⟩ := S4.out.2.2.2.1.m.at (by omega)
  subst eA
  have x0 := hx pp 0 hpn (by decide)
  have x1 := hx pp 1 hpn (by decide)
  have x2 := hx pp 2 hpn (by decide)
  have x3 := hx pp 3 hpn (by decide)
  rw [Nat.add_zero, HPE.out] at x0
  clear hx
  have hp0 : (0 : Int) ≤ (pp : Int) := by omega
  have hp1 : (pp : Int) < (F.n2 : Int) := by omega
  go_upto_region 18 with fail
  have al := (Below.refl w4.heap.size w4).alloc (Nat.le_refl _) (.cells #[.int .i64 id, .int .i64 (F.f2 pp 1), .int .i64 (F.f2 pp 2), .int .i64 (F.f2 pp 3)] 91)
  have K5 := Lib.hid (Blk.new (w := w4) (B := 0) (Nat.zero_le _) #[.int .i64 id, .int .i64 (F.f2 pp 1), .int .i64 (F.f2 pp 2), .int .i64 (F.f2 pp 3)] 91)
  have S5 := Lib.hid (S4.out.keep al)
  clear al x0 x1 x2 x3 hp0 hp1 u04 u14 u24 v04 v14 v24 v34 v44
  generalize (w4.alloc (.cells #[.int .i64 id, .int .i64 (F.f2 pp 1), .int .i64 (F.f2 pp 2), .int .i64 (F.f2 pp 3)] 91)) = w5 at *
  generalize w4.heap.size = b5 at *
  obtain ⟨u05, u15, u25, v05, v15, v25, v35, v45⟩ := S5.out.cells
  have x0 := (K5.out.cell 0).trans rfl
  have x1 := (K5.out.cell 1).trans rfl
  have x2 := (K5.out.cell 2).trans rfl
  have x3 := (K5.out.cell 3).trans rfl
  obtain ⟨z0, z1, z2, z3, z4, y0, y1, y2, y3, y4⟩ := S5.out.out
  go_wp2_with fail
  exact bodyPost_ret (results_cell_row rfl _ _ _ _ _ _ _ rfl (S5.out.give 5 id (F.f2 pp 1) 0 0).1 hu rfl (by kernel_rfl)) rfl ((S5.out.give 5 id (F.f2 pp 1) 0 0).2 (by have := HBB.out; omega) (HB.out.trans (S5.out.2.2.2.2.mono (by have := HZ.out; have := HBB.out; omega))))
end Go.Proofs.Ytipkbapnhgdpeaa.C
