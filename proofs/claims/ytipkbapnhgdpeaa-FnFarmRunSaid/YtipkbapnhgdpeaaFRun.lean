/- FarmRun of the program. No condition. -/
import Derived.Test.YtipkbapnhgdpeaaLFarmF
import Derived.Test.YtipkbapnhgdpeaaTabE
namespace Go.Proofs.Ytipkbapnhgdpeaa.C
open Go.RowKit
set_option maxRecDepth 100000
set_option linter.unusedVariables false
set_option linter.unusedSimpArgs false
attribute [local go_sem ↓] Go.wp_at_zero Go.wp_at_succ
/-- The farm behind the first i edits. -/
def runF (F : Fm) (E : Nat → Nat → Int) : Nat → Fm
  | 0 => F
  | i + 1 => edF (runF F E i) (E i 0) (E i 1) (E i 2) (E i 3) (E i 4)
/-- The code of edit i. -/
def ecAt (F : Fm) (E : Nat → Nat → Int) (i : Nat) : Int := ecC (runF F E i) (E i 0) (E i 1) (E i 2) (E i 3) (E i 4)
/-- The first edit that is refused. -/
def runA (F : Fm) (E : Nat → Nat → Int) : Nat → Nat → Nat
  | i, 0 => i
  | i, k + 1 => if ecAt F E i = 0 then runA F E (i + 1) k else i
theorem runA_skip {F : Fm} {E : Nat → Nat → Int} : ∀ (k i : Nat), (∀ j, i ≤ j → j < i + k → ecAt F E j = 0) → ∀ m, runA F E i (k + m) = runA F E (i + k) m
  | 0, i, _, m => by rw [Nat.zero_add, Nat.add_zero]
  | k + 1, i, h, m => by
    rw [show k + 1 + m = (k + m) + 1 by omega]
    unfold runA
    rw [if_pos (h i (Nat.le_refl _) (by omega)), runA_skip k (i + 1) (fun j h1 h2 => h j (by omega) (by omega)) m, show i + 1 + k = i + (k + 1) by omega]
    cases m <;> rfl
theorem runA_bad {F : Fm} {E : Nat → Nat → Int} {i n : Nat} (h : ∀ j, j < i → ecAt F E j = 0) (hi : i < n) (hb : ecAt F E i ≠ 0) : runA F E 0 n = i := by
  rw [show n = i + (n - i) by omega, runA_skip i 0 (fun j _ h2 => h j (by omega)), Nat.zero_add, show n - i = (n - i - 1) + 1 by omega]
  unfold runA
  rw [if_neg hb]
theorem runA_all {F : Fm} {E : Nat → Nat → Int} {n : Nat} (h : ∀ j, j < n → ecAt F E j = 0) : runA F E 0 n = n := by
  have := runA_skip (F := F) (E := E) n 0 (fun j _ h2 => h j (by omega)) 0
  rw [Nat.add_zero, Nat.zero_add] at this
  rw [this]; rfl
/-- FarmRun: its code, its place, its farm. -/
def rnC (F : Fm) (E : Nat → Nat → Int) (n : Nat) : Int := if n > 200 then 2 else if fmB F = false then 1 else if runA F E 0 n < n then ecAt F E (runA F E 0 n) else 0
def rnA (F : Fm) (E : Nat → Nat → Int) (n : Nat) : Int := if n > 200 then 0 else if fmB F = false then 0 else if runA F E 0 n < n then (runA F E 0 n : Nat) else 0
def rnF (F : Fm) (E : Nat → Nat → Int) (n : Nat) : Fm := if n > 200 then fm0 else if fmB F = false then fm0 else if runA F E 0 n < n then fm0 else runF F E n
theorem run_right {F : Fm} {E : Nat → Nat → Int} (hr : Right F) : ∀ i, (∀ j, j < i → ecAt F E j = 0) → Right (runF F E i)
  | 0, _ => hr
  | i + 1, h => by
    have h1 := run_right hr i fun j hj => h j (by omega)
    have h2 : ecC (runF F E i) (E i 0) (E i 1) (E i 2) (E i 3) (E i 4) = 0 := h i (Nat.lt_succ_self _)
    show Right (edF (runF F E i) (E i 0) (E i 1) (E i 2) (E i 3) (E i 4))
    unfold ecC at h2
    by_cases h3 : isEdB (E i 0) (E i 1) (E i 2) (E i 3) (E i 4) = true
    · rw [if_pos h3] at h2
      exact EdGo.right h1 (EdGo.of (EdOk.of h3) h2)
    · rw [if_neg h3] at h2; omega
theorem rn_long {F : Fm} {E : Nat → Nat → Int} {n : Nat} (h : n > 200) : rnC F E n = 2 ∧ rnA F E n = 0 ∧ rnF F E n = fm0 := by unfold rnC rnA rnF; rw [if_pos h, if_pos h, if_pos h]; exact ⟨rfl, rfl, rfl⟩
theorem rn_form {F : Fm} {E : Nat → Nat → Int} {n : Nat} (h : ¬ n > 200) (hf : fmB F = false) : rnC F E n = 1 ∧ rnA F E n = 0 ∧ rnF F E n = fm0 := by unfold rnC rnA rnF; rw [if_neg h, if_neg h, if_neg h, if_pos hf, if_pos hf, if_pos hf]; exact ⟨rfl, rfl, rfl⟩
theorem rn_bad {F : Fm} {E : Nat → Nat → Int} {n i : Nat} (h : ¬ n > 200) (hf : fmB F = true) (ha : ∀ j, j < i → ecAt F E j = 0) (hi : i < n) (hb : ecAt F E i ≠ 0) : rnC F E n = ecAt F E i ∧ rnA F E n = i ∧ rnF F E n = fm0 := by
  have e := runA_bad ha hi hb
  have hf' : ¬ fmB F = false := by rw [hf]; decide
  unfold rnC rnA rnF
  rw [if_neg h, if_neg h, if_neg h, if_neg hf', if_neg hf', if_neg hf', e, if_pos hi, if_pos hi, if_pos hi]
  exact ⟨rfl, rfl, rfl⟩
theorem rn_all {F : Fm} {E : Nat → Nat → Int} {n : Nat} (h : ¬ n > 200) (hf : fmB F = true) (ha : ∀ j, j < n → ecAt F E j = 0) : rnC F E n = 0 ∧ rnA F E n = 0 ∧ rnF F E n = runF F E n := by
  have e := runA_all ha
  have hf' : ¬ fmB F = false := by rw [hf]; decide
  unfold rnC rnA rnF
  rw [if_neg h, if_neg h, if_neg h, if_neg hf', if_neg hf', if_neg hf', e, if_neg (Nat.lt_irrefl n), if_neg (Nat.lt_irrefl n), if_neg (Nat.lt_irrefl n)]
  exact ⟨rfl, rfl, rfl⟩
/-- An answer with a place. -/
def OutA (at_ C : Int) (G : Fm) (w : World) (e : Ending) (w' : World) : Prop :=
  ∃ vg vm, e = .returned (.agg #[.int .i64 G.cap, vg, vm, .int .i64 at_, .int .i64 C]) ∧ FarmV w' w.heap.size G vg vm ∧ Below w.heap.size w w'
theorem OutA.as {a a' C C' : Int} {G G' : Fm} {w w' : World} {e : Ending} (h : OutA a C G w e w') (e1 : a' = a) (e2 : C' = C) (e3 : G' = G) : OutA a' C' G' w e w' := e1 ▸ e2 ▸ e3 ▸ h
/-- The frame of FarmRun. -/
structure RnIn (b : Nat) (w1 : World) (F : Fm) (A1 A2 : Option Addr) (c1 c2 : Nat) (AE : Option Addr) (n : Nat) (E : Nat → Nat → Int) (w' : World) : Prop where
  f : Blk w' 0 b #[.int .i64 F.cap, .slice A1 F.n1 c1, .slice A2 F.n2 c2] 34
  o : Blk w' 0 (b + 1) #[.int .i64 0, .slice none 0 0, .slice none 0 0, .int .i64 0, .int .i64 0] 60
  t : FarmAt w' A1 F.n1 F.f1 A2 F.n2 F.f2
  l : Tab 5 w' AE n E
  bel : Below w1.heap.size w1 w'
section
variable {b : Nat} {w1 w' w'' : World} {F : Fm} {A1 A2 : Option Addr} {c1 c2 : Nat} {AE : Option Addr} {n : Nat} {E : Nat → Nat → Int}
theorem RnIn.keep (h : RnIn b w1 F A1 A2 c1 c2 AE n E w') (hb : Below w'.heap.size w' w'') : RnIn b w1 F A1 A2 c1 c2 AE n E w'' := ⟨h.f.keep hb, h.o.keep hb, h.t.keep hb, h.l.keep hb, btrans h.bel hb⟩
theorem RnIn.new (F : Fm) (A1 A2 : Option Addr) (c1 c2 : Nat) (AE : Option Addr) (n : Nat) (E : Nat → Nat → Int) (w : World) (h : FarmAt w A1 F.n1 F.f1 A2 F.n2 F.f2) (hE : Tab 5 w AE n E) : RnIn w.heap.size ((w.alloc (.cells #[.int .i64 F.cap, .slice A1 F.n1 c1, .slice A2 F.n2 c2] 34)).alloc (.cells #[.int .i64 0, .slice none 0 0, .slice none 0 0, .int .i64 0, .int .i64 0] 60)) F A1 A2 c1 c2 AE n E ((w.alloc (.cells #[.int .i64 F.cap, .slice A1 F.n1 c1, .slice A2 F.n2 c2] 34)).alloc (.cells #[.int .i64 0, .slice none 0 0, .slice none 0 0, .int .i64 0, .int .i64 0] 60)) := by
  have hal : Below w.heap.size w ((w.alloc (.cells #[.int .i64 F.cap, .slice A1 F.n1 c1, .slice A2 F.n2 c2] 34)).alloc (.cells #[.int .i64 0, .slice none 0 0, .slice none 0 0, .int .i64 0, .int .i64 0] 60)) := ((Below.refl w.heap.size w).alloc (Nat.le_refl _) _).alloc (by simp) _
  have hb2 := Blk.new (w := w.alloc (.cells #[.int .i64 F.cap, .slice A1 F.n1 c1, .slice A2 F.n2 c2] 34)) (B := 0) (Nat.zero_le _) #[.int .i64 0, .slice none 0 0, .slice none 0 0, .int .i64 0, .int .i64 0] 60
  simp only [World.size_alloc] at hb2
  exact ⟨(Blk.new (w := w) (B := 0) (Nat.zero_le _) #[.int .i64 F.cap, .slice A1 F.n1 c1, .slice A2 F.n2 c2] 34).keep ((Below.refl _ _).alloc (Nat.le_refl _) (.cells #[.int .i64 0, .slice none 0 0, .slice none 0 0, .int .i64 0, .int .i64 0] 60)), hb2, h.keep hal, hE.keep hal, Below.refl _ _⟩
theorem RnIn.cells (h : RnIn b w1 F A1 A2 c1 c2 AE n E w') : w'.cell? ⟨b, 0, none⟩ = some (.int .i64 F.cap) ∧ w'.cell? ⟨b, 1, none⟩ = some (.slice A1 F.n1 c1) ∧ w'.cell? ⟨b, 2, none⟩ = some (.slice A2 F.n2 c2) := ⟨(h.f.cell 0).trans rfl, (h.f.cell 1).trans rfl, (h.f.cell 2).trans rfl⟩
theorem RnIn.out (h : RnIn b w1 F A1 A2 c1 c2 AE n E w') : w'.cell? ⟨b + 1, 0, none⟩ = some (.int .i64 0) ∧ w'.cell? ⟨b + 1, 1, none⟩ = some (.slice none 0 0) ∧ w'.cell? ⟨b + 1, 2, none⟩ = some (.slice none 0 0) ∧ w'.cell? ⟨b + 1, 3, none⟩ = some (.int .i64 0) ∧ w'.cell? ⟨b + 1, 4, none⟩ = some (.int .i64 0) ∧ w'.frozen? ⟨b + 1, 0, none⟩ = false ∧ w'.frozen? ⟨b + 1, 1, none⟩ = false ∧ w'.frozen? ⟨b + 1, 2, none⟩ = false ∧ w'.frozen? ⟨b + 1, 3, none⟩ = false ∧ w'.frozen? ⟨b + 1, 4, none⟩ = false :=
  ⟨(h.o.cell 0).trans rfl, (h.o.cell 1).trans rfl, (h.o.cell 2).trans rfl, (h.o.cell 3).trans rfl, (h.o.cell 4).trans rfl, h.o.frozen 0, h.o.frozen 1, h.o.frozen 2, h.o.frozen 3, h.o.frozen 4⟩
theorem RnIn.give (h : RnIn b w1 F A1 A2 c1 c2 AE n E w') {G : Fm} {vg vm : Value} {B : Nat} (hV : FarmV w' B G vg vm) (at_ C : Int) :
    (putOut w' (b + 1) (.int .i64 G.cap) vg vm (.int .i64 at_) (.int .i64 C)).heap[b + 1]? = some (.cells #[.int .i64 G.cap, vg, vm, .int .i64 at_, .int .i64 C] 60 (0, 0)) ∧
    ∀ {w : World}, w.heap.size ≤ b + 1 → w.heap.size ≤ B → Below w.heap.size w w' → OutA at_ C G w (.returned (.agg #[.int .i64 G.cap, vg, vm, .int .i64 at_, .int .i64 C])) (putOut w' (b + 1) (.int .i64 G.cap) vg vm (.int .i64 at_) (.int .i64 C)) :=
  ⟨(putOut_blk h.o rfl _ _ _ _ _).2, fun hl hB hb => ⟨_, _, rfl, (hV.mono hB).putOut (hV.1.neBlk h.o (by decide)) (hV.2.neBlk h.o (by decide)) _ _ _ _ _, putOut_below hb hl _ _ _ _ _⟩⟩
end
set_option maxHeartbeats 8000000 in
theorem c_FarmRun (F : Fm) (A1 A2 : Option Addr) (c1 c2 : Nat) (AE : Option Addr) (n cE : Nat) (E : Nat → Nat → Int) (w : World) (h : FarmAt w A1 F.n1 F.f1 A2 F.n2 F.f2) (hc1 : F.n1 ≤ c1) (hE : Tab 5 w AE n E) (hn : n ≤ 2000000) :
    Calls Try.prog 40 #[.agg #[.int .i64 F.cap, .slice A1 F.n1 c1, .slice A2 F.n2 c2], .slice AE n cE] w (OutA (rnA F E n) (rnC F E n) (rnF F E n) w) := by
  have hu := Try.underlying60
  have S1 := Lib.hid (RnIn.new F A1 A2 c1 c2 AE n E w h hE)
  have HB : Hid (Below w.heap.size w ((w.alloc (.cells #[.int .i64 F.cap, .slice A1 F.n1 c1, .slice A2 F.n2 c2] 34)).alloc (.cells #[.int .i64 0, .slice none 0 0, .slice none 0 0, .int .i64 0, .int .i64 0] 60))) := Lib.hid (((Below.refl w.heap.size w).alloc (Nat.le_refl _) _).alloc (by simp) _)
  have HZ : Hid (((w.alloc (.cells #[.int .i64 F.cap, .slice A1 F.n1 c1, .slice A2 F.n2 c2] 34)).alloc (.cells #[.int .i64 0, .slice none 0 0, .slice none 0 0, .int .i64 0, .int .i64 0] 60)).heap.size = w.heap.size + 1 + 1) := Lib.hid (by simp)
  have HC1 := Lib.hid hc1
  clear h hE hc1
  go_enter Try.func40, Try.ntmps40
  go_upto_region 1 with fail
  generalize ((w.alloc (.cells #[.int .i64 F.cap, .slice A1 F.n1 c1, .slice A2 F.n2 c2] 34)).alloc (.cells #[.int .i64 0, .slice none 0 0, .slice none 0 0, .int .i64 0, .int .i64 0] 60)) = w1 at *
  obtain ⟨b, hbb⟩ : ∃ b, w.heap.size = b := ⟨_, rfl⟩
  have HBB := Lib.hid hbb
  rw [hbb] at S1 HZ ⊢
  clear hbb
  obtain ⟨u0, u1, u2⟩ := S1.out.cells
  by_cases hlong : n > 200
  · have b1 : decide ((n : Int) > 200) = true := decide_eq_true (by omega)
    have HRN := Lib.hid (rn_long (F := F) (E := E) hlong)
    have SQ := S1
    obtain ⟨z0, z1, z2, z3, z4, y0, y1, y2, y3, y4⟩ := SQ.out.out
    go_wp2_with fail
    exact bodyPost_ret (results_cell_row rfl _ _ _ _ _ _ _ rfl (SQ.out.give (FarmV.zero _ w1.heap.size) 0 2).1 hu rfl (by kernel_rfl)) rfl (OutA.as ((SQ.out.give (FarmV.zero _ w1.heap.size) 0 2).2 (by have := HBB.out; omega) (by have := HBB.out; have := HZ.out; omega) (HB.out.trans (SQ.out.bel.mono (by have := HZ.out; have := HBB.out; omega)))) HRN.out.2.1 HRN.out.1 HRN.out.2.2)
  have b1 : decide ((n : Int) > 200) = false := decide_eq_false (by omega)
  have HNL := Lib.hid hlong
  clear hlong
  obtain ⟨rr, hrr⟩ : ∃ rr, fmB F = rr := ⟨_, rfl⟩
  have HRR := Lib.hid hrr
  have HFR := Lib.hid (show Calls Try.prog 30 #[.agg #[.int .i64 F.cap, .slice A1 F.n1 c1, .slice A2 F.n2 c2]] w1 fun e w' => e = .returned (.bool rr) ∧ Below w1.heap.size w1 w' from hrr ▸ c_FarmRight F.cap A1 A2 F.n1 c1 F.n2 c2 F.f1 F.f2 w1 S1.out.t HC1.out)
  clear hrr
  cases rr
  · have HRN := Lib.hid (rn_form (E := E) HNL.out HRR.out)
    go_wp2_with (first
      | (go_at_call 30; (with_reducible refine HFR.out.mono ?_); rintro e w2 ⟨rfl, hb2⟩; have SQ := Lib.hid (S1.out.keep hb2); obtain ⟨z0, z1, z2, z3, z4, y0, y1, y2, y3, y4⟩ := SQ.out.out; clear hb2)
      | fail)
    exact bodyPost_ret (results_cell_row rfl _ _ _ _ _ _ _ rfl (SQ.out.give (FarmV.zero _ w1.heap.size) 0 1).1 hu rfl (by kernel_rfl)) rfl (OutA.as ((SQ.out.give (FarmV.zero _ w1.heap.size) 0 1).2 (by have := HBB.out; omega) (by have := HBB.out; have := HZ.out; omega) (HB.out.trans (SQ.out.bel.mono (by have := HZ.out; have := HBB.out; omega)))) HRN.out.2.1 HRN.out.1 HRN.out.2.2)
  have HR := Lib.hid (Right.of HRR.out)
  have hl1 := HR.out.l1
  have hl2 := HR.out.l2
  go_upto_region 6 with (first
    | (go_at_call 30; (with_reducible refine HFR.out.mono ?_); rintro e w2 ⟨rfl, hb2⟩; have S2 := Lib.hid (S1.out.keep hb2); obtain ⟨u02, u12, u22⟩ := S2.out.cells; clear hb2)
    | (go_at_call 95; refine (c_copied F.cap A1 A2 F.n1 c1 F.n2 c2 F.f1 F.f2 w2 S2.out.t (by omega) (by omega)).mono ?_; rintro e w3 ⟨vg, vm, rfl, hO1, hO2, hb3⟩; obtain ⟨G1', d1, rfl, -, -⟩ := hO1.tab; obtain ⟨G2', d2, rfl, -, -⟩ := hO2.tab; have O1 := Lib.hid (hO1.mono (B' := w1.heap.size) S2.out.bel.size); have O2 := Lib.hid (hO2.mono (B' := w1.heap.size) S2.out.bel.size); have S3 := Lib.hid (S2.out.keep hb3); clear hO1 hO2 hb3)
    | fail)
  clear u0 u1 u2 u02 u12 u22 b1
  have al5 := (Below.refl w3.heap.size w3).alloc (Nat.le_refl _) (.cells #[.int .i64 F.cap, .slice G1' F.n1 d1, .slice G2' F.n2 d2] 34)
  have K5 := Lib.hid (Blk.new (w := w3) (B := w1.heap.size) S3.out.bel.size #[.int .i64 F.cap, .slice G1' F.n1 d1, .slice G2' F.n2 d2] 34)
  have S5 := Lib.hid (S3.out.keep al5)
  have V5 := Lib.hid (show FarmV (w3.alloc (.cells #[.int .i64 F.cap, .slice G1' F.n1 d1, .slice G2' F.n2 d2] 34)) w1.heap.size F (.slice G1' F.n1 d1) (.slice G2' F.n2 d2) from ⟨O1.out.keep al5, O2.out.keep al5⟩)
  clear al5 O1 O2 S2 S3
  generalize (w3.alloc (.cells #[.int .i64 F.cap, .slice G1' F.n1 d1, .slice G2' F.n2 d2] 34)) = w5 at *
  generalize w3.heap.size = b5 at *
  go_wp2_with fail
  go_loopw [24] (fun v24 wr => ∃ (i : Nat) (J1 J2 : Option Addr) (j1 j2 : Nat), i ≤ n ∧ v24 = .int .i64 i ∧ Hid (∀ j, j < i → ecAt F E j = 0) ∧ Hid (Blk wr w1.heap.size b5 #[.int .i64 (runF F E i).cap, .slice J1 (runF F E i).n1 j1, .slice J2 (runF F E i).n2 j2] 34) ∧ Hid (FarmV wr w1.heap.size (runF F E i) (.slice J1 (runF F E i).n1 j1) (.slice J2 (runF F E i).n2 j2)) ∧ Hid (Below w1.heap.size w1 wr)) (fun v24 _ => n - (intOf v24).toNat)
  case atStart => exact ⟨0, G1', G2', d1, d2, by omega, rfl, Lib.hid (by intro j hj; omega), K5, V5, Lib.hid S5.out.bel⟩
  case round =>
    obtain ⟨i, J1, J2, j1, j2, hi, rfl, KI, KK, KV, KB⟩ := hrel
    clear K5 V5 S5
    have SR := Lib.hid (S1.out.keep KB.out)
    by_cases h5 : i < n
    · have b1 : decide ((i : Int) < (n : Int)) = true := decide_eq_true (by omega)
      obtain ⟨gt, off, eA, hgl, hx⟩ := SR.out.l.at (by omega)
      subst eA
      have x0 := hx i 0 h5 (by omega)
      have x1 := hx i 1 h5 (by omega)
      have x2 := hx i 2 h5 (by omega)
      have x3 := hx i 3 h5 (by omega)
      have x4 := hx i 4 h5 (by omega)
      rw [Nat.add_zero] at x0
      clear hx
      have HRi := Lib.hid (run_right HR.out i KI.out)
      have hec := Lib.hid (show ecAt F E i = ecC (runF F E i) (E i 0) (E i 1) (E i 2) (E i 3) (E i 4) from rfl)
      have hnx := Lib.hid (show runF F E (i + 1) = edF (runF F E i) (E i 0) (E i 1) (E i 2) (E i 3) (E i 4) from rfl)
      have hcf := Lib.hid (show ecF (runF F E i) (E i 0) (E i 1) (E i 2) (E i 3) (E i 4) = if ecAt F E i = 0 then runF F E (i + 1) else fm0 from rfl)
      generalize hR : runF F E i = R at *
      generalize hR1 : runF F E (i + 1) = R1 at *
      generalize hk0 : E i 0 = e0 at *
      generalize hk1 : E i 1 = e1 at *
      generalize hk2 : E i 2 = e2 at *
      generalize hk3 : E i 3 = e3 at *
      generalize hk4 : E i 4 = e4 at *
      have H1 := Lib.hid hR1
      clear hR hR1 hk0 hk1 hk2 hk3 hk4
      obtain ⟨cc, hcc⟩ : ∃ cc, ecAt F E i = cc := ⟨_, rfl⟩
      have HCC := Lib.hid hcc
      rw [hcc] at hec hcf
      have hi0 : (0 : Int) ≤ (i : Int) := by omega
      have hi1 : (i : Int) < (n : Int) := by omega
      clear hcc
      go_upto_region 9 with fail
      clear x0 x1 x2 x3 x4 b1
      have al := (Below.refl wr.heap.size wr).alloc (Nat.le_refl _) (.cells #[.int .i64 e0, .int .i64 e1, .int .i64 e2, .int .i64 e3, .int .i64 e4] 56)
      have KE := Lib.hid (Blk.new (w := wr) (B := 0) (Nat.zero_le _) #[.int .i64 e0, .int .i64 e1, .int .i64 e2, .int .i64 e3, .int .i64 e4] 56)
      have KA := Lib.hid (KK.out.keep al)
      have VA := Lib.hid (KV.out.keep al)
      have BA := Lib.hid (btrans KB.out al)
      clear al
      generalize (wr.alloc (.cells #[.int .i64 e0, .int .i64 e1, .int .i64 e2, .int .i64 e3, .int .i64 e4] 56)) = w6 at *
      generalize wr.heap.size = b7 at *
      have k0 := (KA.out.cell 0).trans rfl
      have k1 := (KA.out.cell 1).trans rfl
      have k2 := (KA.out.cell 2).trans rfl
      have q0 := (KE.out.cell 0).trans rfl
      have q1 := (KE.out.cell 1).trans rfl
      have q2 := (KE.out.cell 2).trans rfl
      have q3 := (KE.out.cell 3).trans rfl
      have q4 := (KE.out.cell 4).trans rfl
      by_cases h0 : cc = 0
      · subst h0
        go_upto_region 12 with (first
          | (go_at_call 78; refine (c_edited R J1 J2 j1 j2 e0 e1 e2 e3 e4 w6 (FarmV.at VA.out) HRi.out).mono ?_; rintro e w7 ⟨vg, vm, rfl, hV, hb7⟩; rw [← hec.out]; rw [hcf.out, if_pos rfl] at hV ⊢; obtain ⟨M1, m1, M2, m2, rfl, rfl, -, -⟩ := hV.caps; have HV := Lib.hid (hV.mono (B' := w1.heap.size) BA.out.size); have HB7 := Lib.hid hb7; clear hV hb7)
          | fail)
        have al8 := (Below.refl w7.heap.size w7).alloc (Nat.le_refl _) (.cells #[.int .i64 R1.cap, .slice M1 R1.n1 m1, .slice M2 R1.n2 m2] 34)
        have K8 := Lib.hid (Blk.new (w := w7) (B := 0) (Nat.zero_le _) #[.int .i64 R1.cap, .slice M1 R1.n1 m1, .slice M2 R1.n2 m2] 34)
        have V8 := Lib.hid (HV.out.keep al8)
        have KK8 := Lib.hid ((KA.out.keep HB7.out).keep al8)
        have B8 := Lib.hid (btrans (btrans BA.out HB7.out) al8)
        clear al8 k0 k1 k2 q0 q1 q2 q3 q4
        generalize (w7.alloc (.cells #[.int .i64 R1.cap, .slice M1 R1.n1 m1, .slice M2 R1.n2 m2] 34)) = w8 at *
        generalize hb8 : w7.heap.size = b8 at *
        have hne : b8 ≠ b5 := fun e => by have := KA.out.lt; have := HB7.out.size; omega
        have k0 := (K8.out.cell 0).trans rfl
        have k1 := (K8.out.cell 1).trans rfl
        have k2 := (K8.out.cell 2).trans rfl
        have q0 := (KK8.out.cell 0).trans rfl
        have q1 := (KK8.out.cell 1).trans rfl
        have q2 := (KK8.out.cell 2).trans rfl
        have f0 := KK8.out.frozen 0
        have f1 := KK8.out.frozen 1
        have f2 := KK8.out.frozen 2
        clear hb8
        have N1 := Lib.hid (V8.out.1.neBlk KK8.out (by decide))
        have N2 := Lib.hid (V8.out.2.neBlk KK8.out (by decide))
        have hge := KK8.out.1
        have K9 := Lib.hid ((((KK8.out.setc 0 (.int .i64 R1.cap)).setc 1 (.slice M1 R1.n1 m1)).setc 2 (.slice M2 R1.n2 m2)).cast (ds := #[.int .i64 R1.cap, .slice M1 R1.n1 m1, .slice M2 R1.n2 m2]) (by simp only [List.setIfInBounds_toArray, List.set_cons_zero, List.set_cons_succ]))
        have V9 := Lib.hid (((V8.out.setf (p := ⟨b5, 0, none⟩) N1.out N2.out (.int .i64 R1.cap)).setf (p := ⟨b5, 1, none⟩) N1.out N2.out (.slice M1 R1.n1 m1)).setf (p := ⟨b5, 2, none⟩) N1.out N2.out (.slice M2 R1.n2 m2))
        have B9 := Lib.hid (((B8.out.setCell (p := ⟨b5, 0, none⟩) hge (.int .i64 R1.cap)).setCell (p := ⟨b5, 1, none⟩) hge (.slice M1 R1.n1 m1)).setCell (p := ⟨b5, 2, none⟩) hge (.slice M2 R1.n2 m2))
        have KI2 := Lib.hid (show ∀ j, j < i + 1 → ecAt F E j = 0 from fun j hj => by rcases Nat.lt_succ_iff_lt_or_eq.1 hj with h | rfl; exact KI.out j h; exact HCC.out)
        clear hge hne
        go_wp2_with fail
        go_roundw
        case rel => exact ⟨i + 1, M1, M2, m1, m2, by omega, by go_num, KI2, by rw [H1.out]; exact K9, by rw [H1.out]; exact V9, B9⟩
        case measure => simp [intOf]; omega
      · have bne : (cc != 0) = true := by simpa using h0
        have HRN := Lib.hid (rn_bad (n := n) HNL.out HRR.out KI.out h5 (by rw [HCC.out]; exact h0))
        rw [HCC.out] at HRN
        go_upto_region 11 with (first
          | (go_at_call 78; refine (c_edited R J1 J2 j1 j2 e0 e1 e2 e3 e4 w6 (FarmV.at VA.out) HRi.out).mono ?_; rintro e w7 ⟨vg, vm, rfl, hV, hb7⟩; rw [← hec.out]; rw [hcf.out, if_neg h0] at hV ⊢; obtain ⟨M1, m1, M2, m2, rfl, rfl, -, -⟩ := hV.caps; have HB7 := Lib.hid hb7; clear hV hb7)
          | fail)
        have al8 := (Below.refl w7.heap.size w7).alloc (Nat.le_refl _) (.cells #[.int .i64 fm0.cap, .slice M1 fm0.n1 m1, .slice M2 fm0.n2 m2] 34)
        have SQ := Lib.hid (S1.out.keep (btrans (btrans BA.out HB7.out) al8))
        clear al8 k0 k1 k2 q0 q1 q2 q3 q4 bne
        generalize (w7.alloc (.cells #[.int .i64 fm0.cap, .slice M1 fm0.n1 m1, .slice M2 fm0.n2 m2] 34)) = w8 at *
        obtain ⟨z0, z1, z2, z3, z4, y0, y1, y2, y3, y4⟩ := SQ.out.out
        go_wp2_with fail
        exact bodyPost_ret (results_cell_row rfl _ _ _ _ _ _ _ rfl (SQ.out.give (FarmV.zero _ w1.heap.size) i cc).1 hu rfl (by kernel_rfl)) rfl (OutA.as ((SQ.out.give (FarmV.zero _ w1.heap.size) i cc).2 (by have := HBB.out; omega) (by have := HBB.out; have := HZ.out; omega) (HB.out.trans (SQ.out.bel.mono (by have := HZ.out; have := HBB.out; omega)))) HRN.out.2.1 HRN.out.1 HRN.out.2.2)
    · obtain rfl : i = n := by omega
      have b1 : decide ((i : Int) < (i : Int)) = false := decide_eq_false (by omega)
      have HRN := Lib.hid (rn_all HNL.out HRR.out KI.out)
      obtain ⟨z0, z1, z2, z3, z4, y0, y1, y2, y3, y4⟩ := SR.out.out
      have k0 := (KK.out.cell 0).trans rfl
      have k1 := (KK.out.cell 1).trans rfl
      have k2 := (KK.out.cell 2).trans rfl
      have hne : b5 ≠ b + 1 := fun e => by have := KK.out.1; have := HZ.out; omega
      go_wp2_with fail
      exact bodyPost_ret (results_cell_row rfl _ _ _ _ _ _ _ rfl (SR.out.give KV.out 0 0).1 hu rfl (by kernel_rfl)) rfl (OutA.as ((SR.out.give KV.out 0 0).2 (by have := HBB.out; omega) (by have := HBB.out; have := HZ.out; omega) (HB.out.trans (SR.out.bel.mono (by have := HZ.out; have := HBB.out; omega)))) HRN.out.2.1 HRN.out.1 HRN.out.2.2)
end Go.Proofs.Ytipkbapnhgdpeaa.C
