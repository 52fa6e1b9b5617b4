/- The reference's edits: places, refusals. No condition. -/
import Derived.Test.YtipkbapnhgdpeaaFEdI
import Derived.Test.YtipkbapnhgdpeaaFin
namespace Go.Proofs.Ytipkbapnhgdpeaa.C
open Go.RowKit
set_option maxRecDepth 100000
set_option linter.unusedVariables false
set_option linter.unusedSimpArgs false
attribute [local go_sem ↓] Go.wp_at_zero Go.wp_at_succ
theorem s_l05Member (cap : Int) (A1 A2 : Option Addr) (n1 c1 n2 c2 : Nat) (f2 : Nat → Nat → Int) (id : Int) (w : World) (h : Tab 4 w A2 n2 f2) (hn : n2 ≤ 1000) :
    Calls Try.prog 77 #[.agg #[.int .i64 cap, .slice A1 n1 c1, .slice A2 n2 c2], .int .i64 id] w fun e w' => e = .returned (.int .i64 (grpIdx f2 id 0 n2)) ∧ Below w.heap.size w w' := by
  have hb := (Below.refl _ w).alloc (Nat.le_refl _) (.cells #[.int .i64 cap, .slice A1 n1 c1, .slice A2 n2 c2] 34)
  have BK := Lib.hid (Blk.new (w := w) (B := 0) (Nat.zero_le _) #[.int .i64 cap, .slice A1 n1 c1, .slice A2 n2 c2] 34)
  have H := Lib.hid (h.keep hb)
  have HB := Lib.hid hb
  have hz : w.heap.size ≤ (w.alloc (.cells #[.int .i64 cap, .slice A1 n1 c1, .slice A2 n2 c2] 34)).heap.size := hb.size
  have HZ := Lib.hid hz
  clear h hb hz
  go_enter Try.func77, Try.ntmps77
  go_wp2_with fail
  generalize w.alloc (.cells #[.int .i64 cap, .slice A1 n1 c1, .slice A2 n2 c2] 34) = w1 at *
  go_loopw [5] (fun v5 wr => ∃ i : Nat, i ≤ n2 ∧ v5 = .int .i64 i ∧ Hid (grpIdx f2 id 0 n2 = grpIdx f2 id i (n2 - i)) ∧ Hid (Below w1.heap.size w1 wr)) (fun v5 _ => n2 - (intOf v5).toNat)
  case atStart => exact ⟨0, by omega, rfl, Lib.hid rfl, Lib.hid (Below.refl _ _)⟩
  case round =>
    obtain ⟨i, hi, rfl, KI, KB⟩ := hrel
    have c1' := ((BK.out.keep KB.out).cell 2).trans rfl
    by_cases h5 : i < n2
    · have b1 : decide ((i : Int) < (n2 : Int)) = true := decide_eq_true (by omega)
      obtain ⟨g, off, rfl, hg, hx⟩ := (H.out.keep KB.out).at (by omega)
      have x0 := hx i 0 h5 (by omega)
      rw [Nat.add_zero] at x0
      clear hx
      have KI2 := KI.out
      rw [show n2 - i = (n2 - (i + 1)) + 1 by omega, grpIdx] at KI2
      by_cases he : f2 i 0 = id
      · have b2 : (f2 i 0 == id) = true := by simpa using he
        rw [if_pos he] at KI2
        have KI3 := Lib.hid KI2
        clear KI2 he
        go_wp2_with fail
        go_ret
        exact ⟨ret_int KI3.out.symm, HB.out.trans (KB.out.mono HZ.out)⟩
      · have b2 : (f2 i 0 == id) = false := by simpa using he
        rw [if_neg he] at KI2
        have KI3 := Lib.hid KI2
        clear KI2 he
        go_wp2_with fail
        go_roundw
        case rel => exact ⟨i + 1, by omega, by go_num, KI3, KB⟩
        case measure => simp [intOf]; omega
    · obtain rfl : n2 = i := by omega
      have b1 : decide ((n2 : Int) < (n2 : Int)) = false := decide_eq_false (by omega)
      go_wp2_with fail
      go_ret
      exact ⟨ret_int (by rw [KI.out, Nat.sub_self]; rfl), HB.out.trans (KB.out.mono HZ.out)⟩
theorem s_l06Wrong (x : Int) (w : World) : Calls Try.prog 71 #[.int .i64 x] w fun e w' => e = .returned (.agg #[.int .i64 0, .slice none 0 0, .slice none 0 0, .int .i64 0, .int .i64 x]) ∧ Below w.heap.size w w' := by
  go_enter Try.func71, Try.ntmps71
  go_wp2
  exact bodyPost_ret (v := .agg #[.int .i64 0, .slice none 0 0, .slice none 0 0, .int .i64 0, .int .i64 x]) (by simp [results, Try.results71, go_sem]) rfl ⟨rfl, by (repeat (first | exact Below.refl _ _ | apply Below.drew | refine Below.alloc ?_ (by first | (simp; done) | (simp; omega)) _ | refine Below.setCell ?_ (by first | (simp; done) | (simp; omega)) _))⟩
/-- A farm's answer: its code, its farm. -/
def OutV (C : Int) (G : Fm) (w : World) (e : Ending) (w' : World) : Prop :=
  ∃ vg vm, e = .returned (.agg #[.int .i64 G.cap, vg, vm, .int .i64 0, .int .i64 C]) ∧ FarmV w' w.heap.size G vg vm ∧ Below w.heap.size w w'
/-- The cells of a farm, an edit and an answer, in the frame of a call. -/
def SpIn (b : Nat) (w1 : World) (F : Fm) (A1 A2 : Option Addr) (c1 c2 : Nat) (k id g a c : Int) (w' : World) : Prop :=
  Blk w' 0 b #[.int .i64 F.cap, .slice A1 F.n1 c1, .slice A2 F.n2 c2] 34 ∧ Blk w' 0 (b + 1) #[.int .i64 k, .int .i64 id, .int .i64 g, .int .i64 a, .int .i64 c] 56 ∧ Blk w' 0 (b + 1 + 1) #[.int .i64 0, .slice none 0 0, .slice none 0 0, .int .i64 0, .int .i64 0] 60 ∧ FarmAt w' A1 F.n1 F.f1 A2 F.n2 F.f2 ∧ Below w1.heap.size w1 w'
section
variable {b : Nat} {w1 w' : World} {F : Fm} {A1 A2 : Option Addr} {c1 c2 : Nat} {k id g a c : Int}
theorem SpIn.new (F : Fm) (A1 A2 : Option Addr) (c1 c2 : Nat) (k id g a c : Int) (w : World) (h : FarmAt w A1 F.n1 F.f1 A2 F.n2 F.f2) : SpIn w.heap.size (((w.alloc (.cells #[.int .i64 F.cap, .slice A1 F.n1 c1, .slice A2 F.n2 c2] 34)).alloc (.cells #[.int .i64 k, .int .i64 id, .int .i64 g, .int .i64 a, .int .i64 c] 56)).alloc (.cells #[.int .i64 0, .slice none 0 0, .slice none 0 0, .int .i64 0, .int .i64 0] 60)) F A1 A2 c1 c2 k id g a c (((w.alloc (.cells #[.int .i64 F.cap, .slice A1 F.n1 c1, .slice A2 F.n2 c2] 34)).alloc (.cells #[.int .i64 k, .int .i64 id, .int .i64 g, .int .i64 a, .int .i64 c] 56)).alloc (.cells #[.int .i64 0, .slice none 0 0, .slice none 0 0, .int .i64 0, .int .i64 0] 60)) := by
  have hal : Below w.heap.size w (((w.alloc (.cells #[.int .i64 F.cap, .slice A1 F.n1 c1, .slice A2 F.n2 c2] 34)).alloc (.cells #[.int .i64 k, .int .i64 id, .int .i64 g, .int .i64 a, .int .i64 c] 56)).alloc (.cells #[.int .i64 0, .slice none 0 0, .slice none 0 0, .int .i64 0, .int .i64 0] 60)) := (((Below.refl w.heap.size w).alloc (Nat.le_refl _) _).alloc (by simp) _).alloc (by simp; omega) _
  have hb1 := (((Blk.new (w := w) (B := 0) (Nat.zero_le _) #[.int .i64 F.cap, .slice A1 F.n1 c1, .slice A2 F.n2 c2] 34).keep ((Below.refl _ _).alloc (Nat.le_refl _) (.cells #[.int .i64 k, .int .i64 id, .int .i64 g, .int .i64 a, .int .i64 c] 56))).keep ((Below.refl _ _).alloc (Nat.le_refl _) (.cells #[.int .i64 0, .slice none 0 0, .slice none 0 0, .int .i64 0, .int .i64 0] 60)))
  have hb2 := ((Blk.new (w := w.alloc (.cells #[.int .i64 F.cap, .slice A1 F.n1 c1, .slice A2 F.n2 c2] 34)) (B := 0) (Nat.zero_le _) #[.int .i64 k, .int .i64 id, .int .i64 g, .int .i64 a, .int .i64 c] 56).keep ((Below.refl _ _).alloc (Nat.le_refl _) (.cells #[.int .i64 0, .slice none 0 0, .slice none 0 0, .int .i64 0, .int .i64 0] 60)))
  have hb3 := Blk.new (w := (w.alloc (.cells #[.int .i64 F.cap, .slice A1 F.n1 c1, .slice A2 F.n2 c2] 34)).alloc (.cells #[.int .i64 k, .int .i64 id, .int .i64 g, .int .i64 a, .int .i64 c] 56)) (B := 0) (Nat.zero_le _) #[.int .i64 0, .slice none 0 0, .slice none 0 0, .int .i64 0, .int .i64 0] 60
  simp only [World.size_alloc] at hb2 hb3
  exact ⟨hb1, hb2, hb3, h.keep hal, Below.refl _ _⟩
theorem SpIn.keep {w'' : World} (h : SpIn b w1 F A1 A2 c1 c2 k id g a c w') (hb : Below w'.heap.size w' w'') : SpIn b w1 F A1 A2 c1 c2 k id g a c w'' := ⟨h.1.keep hb, h.2.1.keep hb, h.2.2.1.keep hb, h.2.2.2.1.keep hb, btrans h.2.2.2.2 hb⟩
theorem SpIn.cells (h : SpIn b w1 F A1 A2 c1 c2 k id g a c w') : w'.cell? ⟨b, 0, none⟩ = some (.int .i64 F.cap) ∧ w'.cell? ⟨b, 1, none⟩ = some (.slice A1 F.n1 c1) ∧ w'.cell? ⟨b, 2, none⟩ = some (.slice A2 F.n2 c2) ∧ w'.cell? ⟨b + 1, 0, none⟩ = some (.int .i64 k) ∧ w'.cell? ⟨b + 1, 1, none⟩ = some (.int .i64 id) ∧ w'.cell? ⟨b + 1, 2, none⟩ = some (.int .i64 g) ∧ w'.cell? ⟨b + 1, 3, none⟩ = some (.int .i64 a) ∧ w'.cell? ⟨b + 1, 4, none⟩ = some (.int .i64 c) :=
  ⟨(h.1.cell 0).trans rfl, (h.1.cell 1).trans rfl, (h.1.cell 2).trans rfl, (h.2.1.cell 0).trans rfl, (h.2.1.cell 1).trans rfl, (h.2.1.cell 2).trans rfl, (h.2.1.cell 3).trans rfl, (h.2.1.cell 4).trans rfl⟩
theorem SpIn.out (h : SpIn b w1 F A1 A2 c1 c2 k id g a c w') : w'.cell? ⟨b + 1 + 1, 0, none⟩ = some (.int .i64 0) ∧ w'.cell? ⟨b + 1 + 1, 1, none⟩ = some (.slice none 0 0) ∧ w'.cell? ⟨b + 1 + 1, 2, none⟩ = some (.slice none 0 0) ∧ w'.cell? ⟨b + 1 + 1, 3, none⟩ = some (.int .i64 0) ∧ w'.cell? ⟨b + 1 + 1, 4, none⟩ = some (.int .i64 0) ∧ w'.frozen? ⟨b + 1 + 1, 0, none⟩ = false ∧ w'.frozen? ⟨b + 1 + 1, 1, none⟩ = false ∧ w'.frozen? ⟨b + 1 + 1, 2, none⟩ = false ∧ w'.frozen? ⟨b + 1 + 1, 3, none⟩ = false ∧ w'.frozen? ⟨b + 1 + 1, 4, none⟩ = false :=
  ⟨(h.2.2.1.cell 0).trans rfl, (h.2.2.1.cell 1).trans rfl, (h.2.2.1.cell 2).trans rfl, (h.2.2.1.cell 3).trans rfl, (h.2.2.1.cell 4).trans rfl, h.2.2.1.frozen 0, h.2.2.1.frozen 1, h.2.2.1.frozen 2, h.2.2.1.frozen 3, h.2.2.1.frozen 4⟩
def putOut (w : World) (b : Nat) (x y z p q : Value) : World := ((((w.setCell ⟨b, 0, none⟩ x).setCell ⟨b, 1, none⟩ y).setCell ⟨b, 2, none⟩ z).setCell ⟨b, 3, none⟩ p).setCell ⟨b, 4, none⟩ q
theorem putOut_blk {w : World} {B b : Nat} {cs : Array Value} {t : TypeId} (h : Blk w B b cs t) (hs : cs.size = 5) (x y z p q : Value) : Blk (putOut w b x y z p q) B b #[x, y, z, p, q] t := by
  obtain ⟨c0, c1, c2, c3, c4, rfl⟩ : ∃ c0 c1 c2 c3 c4, cs = #[c0, c1, c2, c3, c4] := by
    obtain ⟨l⟩ := cs
    match l, hs with
    | [c0, c1, c2, c3, c4], _ => exact ⟨c0, c1, c2, c3, c4, rfl⟩
  exact (((((h.setc 0 x).setc 1 y).setc 2 z).setc 3 p).setc 4 q).cast (by simp only [List.setIfInBounds_toArray, List.set_cons_zero, List.set_cons_succ])
theorem putOut_below {B : Nat} {w0 w : World} (h : Below B w0 w) {b : Nat} (hb : B ≤ b) (x y z p q : Value) : Below B w0 (putOut w b x y z p q) :=
  ((((h.setCell (p := ⟨b, 0, none⟩) hb x).setCell (p := ⟨b, 1, none⟩) hb y).setCell (p := ⟨b, 2, none⟩) hb z).setCell (p := ⟨b, 3, none⟩) hb p).setCell (p := ⟨b, 4, none⟩) hb q
theorem FarmV.putOut {w : World} {B : Nat} {F : Fm} {vg vm : Value} (h : FarmV w B F vg vm) {b : Nat} (h1 : vg.ownBlock ≠ some b) (h2 : vm.ownBlock ≠ some b) (x y z p q : Value) : FarmV (putOut w b x y z p q) B F vg vm :=
  ((((h.setf (p := ⟨b, 0, none⟩) h1 h2 x).setf (p := ⟨b, 1, none⟩) h1 h2 y).setf (p := ⟨b, 2, none⟩) h1 h2 z).setf (p := ⟨b, 3, none⟩) h1 h2 p).setf (p := ⟨b, 4, none⟩) h1 h2 q
theorem SpIn.wrong (h : SpIn b w1 F A1 A2 c1 c2 k id g a c w') (C : Int) : (putOut w' (b + 1 + 1) (.int .i64 0) (.slice none 0 0) (.slice none 0 0) (.int .i64 0) (.int .i64 C)).heap[b + 1 + 1]? = some (.cells #[.int .i64 0, .slice none 0 0, .slice none 0 0, .int .i64 0, .int .i64 C] 60 (0, 0)) ∧
    ∀ {w : World}, w.heap.size ≤ b + 1 + 1 → Below w.heap.size w w' → OutV C fm0 w (.returned (.agg #[.int .i64 0, .slice none 0 0, .slice none 0 0, .int .i64 0, .int .i64 C])) (putOut w' (b + 1 + 1) (.int .i64 0) (.slice none 0 0) (.slice none 0 0) (.int .i64 0) (.int .i64 C)) :=
  ⟨(putOut_blk h.2.2.1 rfl _ _ _ _ _).2, fun hl hb => ⟨_, _, rfl, FarmV.zero _ _, putOut_below hb hl _ _ _ _ _⟩⟩
end
set_option maxHeartbeats 1000000 in
theorem s_join_there (F : Fm) (A1 A2 : Option Addr) (c1 c2 : Nat) (k id g a c : Int) (w : World) (h : FarmAt w A1 F.n1 F.f1 A2 F.n2 F.f2) (hr : Right F) (e0 : hasId F.n2 F.f2 id = true) :
    Calls Try.prog 73 #[.agg #[.int .i64 F.cap, .slice A1 F.n1 c1, .slice A2 F.n2 c2], .agg #[.int .i64 k, .int .i64 id, .int .i64 g, .int .i64 a, .int .i64 c]] w (OutV 5 fm0 w) := by
  have HE0 := Lib.hid e0
  clear e0
  have hu := Try.underlying60
  have S1 := Lib.hid (SpIn.new F A1 A2 c1 c2 k id g a c w h)
  have HB : Hid (Below w.heap.size w (((w.alloc (.cells #[.int .i64 F.cap, .slice A1 F.n1 c1, .slice A2 F.n2 c2] 34)).alloc (.cells #[.int .i64 k, .int .i64 id, .int .i64 g, .int .i64 a, .int .i64 c] 56)).alloc (.cells #[.int .i64 0, .slice none 0 0, .slice none 0 0, .int .i64 0, .int .i64 0] 60))) := Lib.hid ((((Below.refl w.heap.size w).alloc (Nat.le_refl _) _).alloc (by simp) _).alloc (by simp; omega) _)
  have HZ : Hid ((((w.alloc (.cells #[.int .i64 F.cap, .slice A1 F.n1 c1, .slice A2 F.n2 c2] 34)).alloc (.cells #[.int .i64 k, .int .i64 id, .int .i64 g, .int .i64 a, .int .i64 c] 56)).alloc (.cells #[.int .i64 0, .slice none 0 0, .slice none 0 0, .int .i64 0, .int .i64 0] 60)).heap.size = w.heap.size + 1 + 1 + 1) := Lib.hid (by simp)
  clear h
  have HR := Lib.hid hr
  have hl1 := hr.l1
  have hl2 := hr.l2
  clear hr
  go_enter Try.func73, Try.ntmps73
  go_upto_region 1 with fail
  generalize (((w.alloc (.cells #[.int .i64 F.cap, .slice A1 F.n1 c1, .slice A2 F.n2 c2] 34)).alloc (.cells #[.int .i64 k, .int .i64 id, .int .i64 g, .int .i64 a, .int .i64 c] 56)).alloc (.cells #[.int .i64 0, .slice none 0 0, .slice none 0 0, .int .i64 0, .int .i64 0] 60)) = w1 at *
  obtain ⟨b, hbb⟩ : ∃ b, w.heap.size = b := ⟨_, rfl⟩
  have HBB := Lib.hid hbb
  rw [hbb] at S1 HZ ⊢
  clear hbb
  obtain ⟨u0, u1, u2, v0, v1, v2, v3, v4⟩ := S1.out.cells
  obtain ⟨x, hx⟩ : ∃ x, grpIdx F.f2 id 0 F.n2 = x := ⟨_, rfl⟩
  have Hx := Lib.hid hx
  have bx : decide (x ≥ 0) = true := decide_eq_true (by rw [← hx, grpIdx_pos HR.out.r2 HE0.out]; omega)
  clear hx
  go_wp2_with (first | (go_at_call 77; refine (s_l05Member F.cap A1 A2 F.n1 c1 F.n2 c2 F.f2 _ w1 S1.out.2.2.2.1.m (by omega)).mono ?_; rintro e w2 ⟨rfl, hb2⟩; rw [Hx.out]; have S2 := Lib.hid (S1.out.keep hb2); obtain ⟨u02, u12, u22, v02, v12, v22, v32, v42⟩ := S2.out.cells; clear hb2) | (go_at_call 71; refine (s_l06Wrong _ _).mono ?_; rintro e wq ⟨rfl, hbq⟩; have SQ := Lib.hid (S2.out.keep hbq); obtain ⟨z0, z1, z2, z3, z4, y0, y1, y2, y3, y4⟩ := SQ.out.out; clear hbq) | fail)
  exact bodyPost_ret (v := .agg #[.int .i64 0, .slice none 0 0, .slice none 0 0, .int .i64 0, .int .i64 5]) (results_cell_row rfl _ _ _ _ _ _ _ rfl (SQ.out.wrong _).1 hu rfl (by kernel_rfl)) rfl ((SQ.out.wrong 5).2 (by have := HBB.out; omega) (HB.out.trans (SQ.out.2.2.2.2.mono (by have := HZ.out; have := HBB.out; omega))))
set_option maxHeartbeats 1000000 in
theorem s_join_none (F : Fm) (A1 A2 : Option Addr) (c1 c2 : Nat) (k id g a c : Int) (w : World) (h : FarmAt w A1 F.n1 F.f1 A2 F.n2 F.f2) (hr : Right F) (e0 : hasId F.n2 F.f2 id = false) (e1 : hasG F g = false) :
    Calls Try.prog 73 #[.agg #[.int .i64 F.cap, .slice A1 F.n1 c1, .slice A2 F.n2 c2], .agg #[.int .i64 k, .int .i64 id, .int .i64 g, .int .i64 a, .int .i64 c]] w (OutV 4 fm0 w) := by
  have HE0 := Lib.hid e0
  have HE1 := Lib.hid e1
  clear e0 e1
  have hu := Try.underlying60
  have S1 := Lib.hid (SpIn.new F A1 A2 c1 c2 k id g a c w h)
  have HB : Hid (Below w.heap.size w (((w.alloc (.cells #[.int .i64 F.cap, .slice A1 F.n1 c1, .slice A2 F.n2 c2] 34)).alloc (.cells #[.int .i64 k, .int .i64 id, .int .i64 g, .int .i64 a, .int .i64 c] 56)).alloc (.cells #[.int .i64 0, .slice none 0 0, .slice none 0 0, .int .i64 0, .int .i64 0] 60))) := Lib.hid ((((Below.refl w.heap.size w).alloc (Nat.le_refl _) _).alloc (by simp) _).alloc (by simp; omega) _)
  have HZ : Hid ((((w.alloc (.cells #[.int .i64 F.cap, .slice A1 F.n1 c1, .slice A2 F.n2 c2] 34)).alloc (.cells #[.int .i64 k, .int .i64 id, .int .i64 g, .int .i64 a, .int .i64 c] 56)).alloc (.cells #[.int .i64 0, .slice none 0 0, .slice none 0 0, .int .i64 0, .int .i64 0] 60)).heap.size = w.heap.size + 1 + 1 + 1) := Lib.hid (by simp)
  clear h
  have HR := Lib.hid hr
  have hl1 := hr.l1
  have hl2 := hr.l2
  clear hr
  go_enter Try.func73, Try.ntmps73
  go_upto_region 1 with fail
  generalize (((w.alloc (.cells #[.int .i64 F.cap, .slice A1 F.n1 c1, .slice A2 F.n2 c2] 34)).alloc (.cells #[.int .i64 k, .int .i64 id, .int .i64 g, .int .i64 a, .int .i64 c] 56)).alloc (.cells #[.int .i64 0, .slice none 0 0, .slice none 0 0, .int .i64 0, .int .i64 0] 60)) = w1 at *
  obtain ⟨b, hbb⟩ : ∃ b, w.heap.size = b := ⟨_, rfl⟩
  have HBB := Lib.hid hbb
  rw [hbb] at S1 HZ ⊢
  clear hbb
  obtain ⟨u0, u1, u2, v0, v1, v2, v3, v4⟩ := S1.out.cells
  obtain ⟨x, hx⟩ : ∃ x, grpIdx F.f2 id 0 F.n2 = x := ⟨_, rfl⟩
  have Hx := Lib.hid hx
  have bx : decide (x ≥ 0) = false := decide_eq_false (by have := grpIdx_no HE0.out; omega)
  clear hx
  have bg : (g != 0) = true := by have := HE1.out; unfold hasG at this; simp at this; simpa using this.2
  have HG1 := Lib.hid (show hasId F.n1 F.f1 g = false by have := HE1.out; unfold hasG at this; simp at this; exact this.1)
  obtain ⟨y, hy⟩ : ∃ x, grpIdx F.f1 g 0 F.n1 = x := ⟨_, rfl⟩
  have Hy := Lib.hid hy
  have by_ : decide (y < 0) = true := decide_eq_true (by have := grpIdx_no HG1.out; omega)
  clear hy
  go_wp2_with (first | (go_at_call 76; refine (s_l05Group F.cap A1 A2 F.n1 c1 F.n2 c2 F.f1 _ w2 S2.out.2.2.2.1.g (by omega)).mono ?_; rintro e w3 ⟨rfl, hb3⟩; rw [Hy.out]; have S3 := Lib.hid (S2.out.keep hb3); obtain ⟨u03, u13, u23, v03, v13, v23, v33, v43⟩ := S3.out.cells; clear hb3) | (go_at_call 77; refine (s_l05Member F.cap A1 A2 F.n1 c1 F.n2 c2 F.f2 _ w1 S1.out.2.2.2.1.m (by omega)).mono ?_; rintro e w2 ⟨rfl, hb2⟩; rw [Hx.out]; have S2 := Lib.hid (S1.out.keep hb2); obtain ⟨u02, u12, u22, v02, v12, v22, v32, v42⟩ := S2.out.cells; clear hb2) | (go_at_call 71; refine (s_l06Wrong _ _).mono ?_; rintro e wq ⟨rfl, hbq⟩; have SQ := Lib.hid (S3.out.keep hbq); obtain ⟨z0, z1, z2, z3, z4, y0, y1, y2, y3, y4⟩ := SQ.out.out; clear hbq) | fail)
  exact bodyPost_ret (v := .agg #[.int .i64 0, .slice none 0 0, .slice none 0 0, .int .i64 0, .int .i64 4]) (results_cell_row rfl _ _ _ _ _ _ _ rfl (SQ.out.wrong _).1 hu rfl (by kernel_rfl)) rfl ((SQ.out.wrong 4).2 (by have := HBB.out; omega) (HB.out.trans (SQ.out.2.2.2.2.mono (by have := HZ.out; have := HBB.out; omega))))
set_option maxHeartbeats 1000000 in
theorem s_join_full (F : Fm) (A1 A2 : Option Addr) (c1 c2 : Nat) (k id g a c : Int) (w : World) (h : FarmAt w A1 F.n1 F.f1 A2 F.n2 F.f2) (hr : Right F) (e0 : hasId F.n2 F.f2 id = false) (e1 : hasG F g = true) (e2 : F.n2 = 60) :
    Calls Try.prog 73 #[.agg #[.int .i64 F.cap, .slice A1 F.n1 c1, .slice A2 F.n2 c2], .agg #[.int .i64 k, .int .i64 id, .int .i64 g, .int .i64 a, .int .i64 c]] w (OutV 6 fm0 w) := by
  by_cases hg0 : g = 0
  · have HE0 := Lib.hid e0
    have HE1 := Lib.hid e1
    have HE2 := Lib.hid e2
    clear e0 e1 e2
    have HG0 := Lib.hid hg0
    clear hg0
    have hu := Try.underlying60
    have S1 := Lib.hid (SpIn.new F A1 A2 c1 c2 k id g a c w h)
    have HB : Hid (Below w.heap.size w (((w.alloc (.cells #[.int .i64 F.cap, .slice A1 F.n1 c1, .slice A2 F.n2 c2] 34)).alloc (.cells #[.int .i64 k, .int .i64 id, .int .i64 g, .int .i64 a, .int .i64 c] 56)).alloc (.cells #[.int .i64 0, .slice none 0 0, .slice none 0 0, .int .i64 0, .int .i64 0] 60))) := Lib.hid ((((Below.refl w.heap.size w).alloc (Nat.le_refl _) _).alloc (by simp) _).alloc (by simp; omega) _)
    have HZ : Hid ((((w.alloc (.cells #[.int .i64 F.cap, .slice A1 F.n1 c1, .slice A2 F.n2 c2] 34)).alloc (.cells #[.int .i64 k, .int .i64 id, .int .i64 g, .int .i64 a, .int .i64 c] 56)).alloc (.cells #[.int .i64 0, .slice none 0 0, .slice none 0 0, .int .i64 0, .int .i64 0] 60)).heap.size = w.heap.size + 1 + 1 + 1) := Lib.hid (by simp)
    clear h
    have HR := Lib.hid hr
    have hl1 := hr.l1
    have hl2 := hr.l2
    clear hr
    go_enter Try.func73, Try.ntmps73
    go_upto_region 1 with fail
    generalize (((w.alloc (.cells #[.int .i64 F.cap, .slice A1 F.n1 c1, .slice A2 F.n2 c2] 34)).alloc (.cells #[.int .i64 k, .int .i64 id, .int .i64 g, .int .i64 a, .int .i64 c] 56)).alloc (.cells #[.int .i64 0, .slice none 0 0, .slice none 0 0, .int .i64 0, .int .i64 0] 60)) = w1 at *
    obtain ⟨b, hbb⟩ : ∃ b, w.heap.size = b := ⟨_, rfl⟩
    have HBB := Lib.hid hbb
    rw [hbb] at S1 HZ ⊢
    clear hbb
    obtain ⟨u0, u1, u2, v0, v1, v2, v3, v4⟩ := S1.out.cells
    obtain ⟨x, hx⟩ : ∃ x, grpIdx F.f2 id 0 F.n2 = x := ⟨_, rfl⟩
    have Hx := Lib.hid hx
    have bx : decide (x ≥ 0) = false := decide_eq_false (by have := grpIdx_no HE0.out; omega)
    clear hx
    have bg : (g != 0) = false := by rw [HG0.out]; rfl
    have bn : decide ((F.n2 : Int) ≥ 60) = true := decide_eq_true (by have := HE2.out; omega)
    go_wp2_with (first | (go_at_call 77; refine (s_l05Member F.cap A1 A2 F.n1 c1 F.n2 c2 F.f2 _ w1 S1.out.2.2.2.1.m (by omega)).mono ?_; rintro e w2 ⟨rfl, hb2⟩; rw [Hx.out]; have S2 := Lib.hid (S1.out.keep hb2); obtain ⟨u02, u12, u22, v02, v12, v22, v32, v42⟩ := S2.out.cells; clear hb2) | (go_at_call 71; refine (s_l06Wrong _ _).mono ?_; rintro e wq ⟨rfl, hbq⟩; have SQ := Lib.hid (S2.out.keep hbq); obtain ⟨z0, z1, z2, z3, z4, y0, y1, y2, y3, y4⟩ := SQ.out.out; clear hbq) | fail)
    exact bodyPost_ret (v := .agg #[.int .i64 0, .slice none 0 0, .slice none 0 0, .int .i64 0, .int .i64 6]) (results_cell_row rfl _ _ _ _ _ _ _ rfl (SQ.out.wrong _).1 hu rfl (by kernel_rfl)) rfl ((SQ.out.wrong 6).2 (by have := HBB.out; omega) (HB.out.trans (SQ.out.2.2.2.2.mono (by have := HZ.out; have := HBB.out; omega))))
  · have HE0 := Lib.hid e0
    have HE1 := Lib.hid e1
    have HE2 := Lib.hid e2
    clear e0 e1 e2
    have HG0 := Lib.hid hg0
    clear hg0
    have hu := Try.underlying60
    have S1 := Lib.hid (SpIn.new F A1 A2 c1 c2 k id g a c w h)
    have HB : Hid (Below w.heap.size w (((w.alloc (.cells #[.int .i64 F.cap, .slice A1 F.n1 c1, .slice A2 F.n2 c2] 34)).alloc (.cells #[.int .i64 k, .int .i64 id, .int .i64 g, .int .i64 a, .int .i64 c] 56)).alloc (.cells #[.int .i64 0, .slice none 0 0, .slice none 0 0, .int .i64 0, .int .i64 0] 60))) := Lib.hid ((((Below.refl w.heap.size w).alloc (Nat.le_refl _) _).alloc (by simp) _).alloc (by simp; omega) _)
    have HZ : Hid ((((w.alloc (.cells #[.int .i64 F.cap, .slice A1 F.n1 c1, .slice A2 F.n2 c2] 34)).alloc (.cells #[.int .i64 k, .int .i64 id, .int .i64 g, .int .i64 a, .int .i64 c] 56)).alloc (.cells #[.int .i64 0, .slice none 0 0, .slice none 0 0, .int .i64 0, .int .i64 0] 60)).heap.size = w.heap.size + 1 + 1 + 1) := Lib.hid (by simp)
    clear h
    have HR := Lib.hid hr
    have hl1 := hr.l1
    have hl2 := hr.l2
    clear hr
    go_enter Try.func73, Try.ntmps73
    go_upto_region 1 with fail
    generalize (((w.alloc (.cells #[.int .i64 F.cap, .slice A1 F.n1 c1, .slice A2 F.n2 c2] 34)).alloc (.cells #[.int .i64 k, .int .i64 id, .int .i64 g, .int .i64 a, .int .i64 c] 56)).alloc (.cells #[.int .i64 0, .slice none 0 0, .slice none 0 0, .int .i64 0, .int .i64 0] 60)) = w1 at *
    obtain ⟨b, hbb⟩ : ∃ b, w.heap.size = b := ⟨_, rfl⟩
    have HBB := Lib.hid hbb
    rw [hbb] at S1 HZ ⊢
    clear hbb
    obtain ⟨u0, u1, u2, v0, v1, v2, v3, v4⟩ := S1.out.cells
    obtain ⟨x, hx⟩ : ∃ x, grpIdx F.f2 id 0 F.n2 = x := ⟨_, rfl⟩
    have Hx := Lib.hid hx
    have bx : decide (x ≥ 0) = false := decide_eq_false (by have := grpIdx_no HE0.out; omega)
    clear hx
    have bg : (g != 0) = true := by simpa using HG0.out
    have HG1 := Lib.hid (show hasId F.n1 F.f1 g = true from (hasG_iff.1 HE1.out).resolve_right HG0.out)
    obtain ⟨y, hy⟩ : ∃ x, grpIdx F.f1 g 0 F.n1 = x := ⟨_, rfl⟩
    have Hy := Lib.hid hy
    have by_ : decide (y < 0) = false := decide_eq_false (by rw [← hy, grpIdx_pos HR.out.r1 HG1.out]; omega)
    clear hy
    have bn : decide ((F.n2 : Int) ≥ 60) = true := decide_eq_true (by have := HE2.out; omega)
    go_wp2_with (first | (go_at_call 76; refine (s_l05Group F.cap A1 A2 F.n1 c1 F.n2 c2 F.f1 _ w2 S2.out.2.2.2.1.g (by omega)).mono ?_; rintro e w3 ⟨rfl, hb3⟩; rw [Hy.out]; have S3 := Lib.hid (S2.out.keep hb3); obtain ⟨u03, u13, u23, v03, v13, v23, v33, v43⟩ := S3.out.cells; clear hb3) | (go_at_call 77; refine (s_l05Member F.cap A1 A2 F.n1 c1 F.n2 c2 F.f2 _ w1 S1.out.2.2.2.1.m (by omega)).mono ?_; rintro e w2 ⟨rfl, hb2⟩; rw [Hx.out]; have S2 := Lib.hid (S1.out.keep hb2); obtain ⟨u02, u12, u22, v02, v12, v22, v32, v42⟩ := S2.out.cells; clear hb2) | (go_at_call 71; refine (s_l06Wrong _ _).mono ?_; rintro e wq ⟨rfl, hbq⟩; have SQ := Lib.hid (S3.out.keep hbq); obtain ⟨z0, z1, z2, z3, z4, y0, y1, y2, y3, y4⟩ := SQ.out.out; clear hbq) | fail)
    exact bodyPost_ret (v := .agg #[.int .i64 0, .slice none 0 0, .slice none 0 0, .int .i64 0, .int .i64 6]) (results_cell_row rfl _ _ _ _ _ _ _ rfl (SQ.out.wrong _).1 hu rfl (by kernel_rfl)) rfl ((SQ.out.wrong 6).2 (by have := HBB.out; omega) (HB.out.trans (SQ.out.2.2.2.2.mono (by have := HZ.out; have := HBB.out; omega))))
set_option maxHeartbeats 1000000 in
theorem s_group_form (F : Fm) (A1 A2 : Option Addr) (c1 c2 : Nat) (k id g a c : Int) (w : World) (h : FarmAt w A1 F.n1 F.f1 A2 F.n2 F.f2) (hr : Right F) (e0 : g ≥ id) :
    Calls Try.prog 74 #[.agg #[.int .i64 F.cap, .slice A1 F.n1 c1, .slice A2 F.n2 c2], .agg #[.int .i64 k, .int .i64 id, .int .i64 g, .int .i64 a, .int .i64 c]] w (OutV 1 fm0 w) := by
  have HE0 := Lib.hid e0
  clear e0
  have hu := Try.underlying60
  have S1 := Lib.hid (SpIn.new F A1 A2 c1 c2 k id g a c w h)
  have HB : Hid (Below w.heap.size w (((w.alloc (.cells #[.int .i64 F.cap, .slice A1 F.n1 c1, .slice A2 F.n2 c2] 34)).alloc (.cells #[.int .i64 k, .int .i64 id, .int .i64 g, .int .i64 a, .int .i64 c] 56)).alloc (.cells #[.int .i64 0, .slice none 0 0, .slice none 0 0, .int .i64 0, .int .i64 0] 60))) := Lib.hid ((((Below.refl w.heap.size w).alloc (Nat.le_refl _) _).alloc (by simp) _).alloc (by simp; omega) _)
  have HZ : Hid ((((w.alloc (.cells #[.int .i64 F.cap, .slice A1 F.n1 c1, .slice A2 F.n2 c2] 34)).alloc (.cells #[.int .i64 k, .int .i64 id, .int .i64 g, .int .i64 a, .int .i64 c] 56)).alloc (.cells #[.int .i64 0, .slice none 0 0, .slice none 0 0, .int .i64 0, .int .i64 0] 60)).heap.size = w.heap.size + 1 + 1 + 1) := Lib.hid (by simp)
  clear h
  have HR := Lib.hid hr
  have hl1 := hr.l1
  have hl2 := hr.l2
  clear hr
  go_enter Try.func74, Try.ntmps74
  go_upto_region 1 with fail
  generalize (((w.alloc (.cells #[.int .i64 F.cap, .slice A1 F.n1 c1, .slice A2 F.n2 c2] 34)).alloc (.cells #[.int .i64 k, .int .i64 id, .int .i64 g, .int .i64 a, .int .i64 c] 56)).alloc (.cells #[.int .i64 0, .slice none 0 0, .slice none 0 0, .int .i64 0, .int .i64 0] 60)) = w1 at *
  obtain ⟨b, hbb⟩ : ∃ b, w.heap.size = b := ⟨_, rfl⟩
  have HBB := Lib.hid hbb
  rw [hbb] at S1 HZ ⊢
  clear hbb
  obtain ⟨u0, u1, u2, v0, v1, v2, v3, v4⟩ := S1.out.cells
  have bg0 : decide (g ≥ id) = true := decide_eq_true HE0.out
  go_wp2_with (first | (go_at_call 71; refine (s_l06Wrong _ _).mono ?_; rintro e wq ⟨rfl, hbq⟩; have SQ := Lib.hid (S1.out.keep hbq); obtain ⟨z0, z1, z2, z3, z4, y0, y1, y2, y3, y4⟩ := SQ.out.out; clear hbq) | fail)
  exact bodyPost_ret (v := .agg #[.int .i64 0, .slice none 0 0, .slice none 0 0, .int .i64 0, .int .i64 1]) (results_cell_row rfl _ _ _ _ _ _ _ rfl (SQ.out.wrong _).1 hu rfl (by kernel_rfl)) rfl ((SQ.out.wrong 1).2 (by have := HBB.out; omega) (HB.out.trans (SQ.out.2.2.2.2.mono (by have := HZ.out; have := HBB.out; omega))))
set_option maxHeartbeats 1000000 in
theorem s_group_there (F : Fm) (A1 A2 : Option Addr) (c1 c2 : Nat) (k id g a c : Int) (w : World) (h : FarmAt w A1 F.n1 F.f1 A2 F.n2 F.f2) (hr : Right F) (e0 : hasId F.n1 F.f1 id = true) (e1 : g < id) :
    Calls Try.prog 74 #[.agg #[.int .i64 F.cap, .slice A1 F.n1 c1, .slice A2 F.n2 c2], .agg #[.int .i64 k, .int .i64 id, .int .i64 g, .int .i64 a, .int .i64 c]] w (OutV 5 fm0 w) := by
  have HE0 := Lib.hid e0
  have EG := Lib.hid e1
  clear e0 e1
  have hu := Try.underlying60
  have S1 := Lib.hid (SpIn.new F A1 A2 c1 c2 k id g a c w h)
  have HB : Hid (Below w.heap.size w (((w.alloc (.cells #[.int .i64 F.cap, .slice A1 F.n1 c1, .slice A2 F.n2 c2] 34)).alloc (.cells #[.int .i64 k, .int .i64 id, .int .i64 g, .int .i64 a, .int .i64 c] 56)).alloc (.cells #[.int .i64 0, .slice none 0 0, .slice none 0 0, .int .i64 0, .int .i64 0] 60))) := Lib.hid ((((Below.refl w.heap.size w).alloc (Nat.le_refl _) _).alloc (by simp) _).alloc (by simp; omega) _)
  have HZ : Hid ((((w.alloc (.cells #[.int .i64 F.cap, .slice A1 F.n1 c1, .slice A2 F.n2 c2] 34)).alloc (.cells #[.int .i64 k, .int .i64 id, .int .i64 g, .int .i64 a, .int .i64 c] 56)).alloc (.cells #[.int .i64 0, .slice none 0 0, .slice none 0 0, .int .i64 0, .int .i64 0] 60)).heap.size = w.heap.size + 1 + 1 + 1) := Lib.hid (by simp)
  clear h
  have HR := Lib.hid hr
  have hl1 := hr.l1
  have hl2 := hr.l2
  clear hr
  go_enter Try.func74, Try.ntmps74
  go_upto_region 1 with fail
  generalize (((w.alloc (.cells #[.int .i64 F.cap, .slice A1 F.n1 c1, .slice A2 F.n2 c2] 34)).alloc (.cells #[.int .i64 k, .int .i64 id, .int .i64 g, .int .i64 a, .int .i64 c] 56)).alloc (.cells #[.int .i64 0, .slice none 0 0, .slice none 0 0, .int .i64 0, .int .i64 0] 60)) = w1 at *
  obtain ⟨b, hbb⟩ : ∃ b, w.heap.size = b := ⟨_, rfl⟩
  have HBB := Lib.hid hbb
  rw [hbb] at S1 HZ ⊢
  clear hbb
  obtain ⟨u0, u1, u2, v0, v1, v2, v3, v4⟩ := S1.out.cells
  have bg0 : decide (g ≥ id) = false := decide_eq_false (by have := EG.out; omega)
  obtain ⟨x, hx⟩ : ∃ x, grpIdx F.f1 id 0 F.n1 = x := ⟨_, rfl⟩
  have Hx := Lib.hid hx
  have bx : decide (x ≥ 0) = true := decide_eq_true (by rw [← hx, grpIdx_pos HR.out.r1 HE0.out]; omega)
  clear hx
  go_wp2_with (first | (go_at_call 76; refine (s_l05Group F.cap A1 A2 F.n1 c1 F.n2 c2 F.f1 _ w1 S1.out.2.2.2.1.g (by omega)).mono ?_; rintro e w2 ⟨rfl, hb2⟩; rw [Hx.out]; have S2 := Lib.hid (S1.out.keep hb2); obtain ⟨u02, u12, u22, v02, v12, v22, v32, v42⟩ := S2.out.cells; clear hb2) | (go_at_call 71; refine (s_l06Wrong _ _).mono ?_; rintro e wq ⟨rfl, hbq⟩; have SQ := Lib.hid (S2.out.keep hbq); obtain ⟨z0, z1, z2, z3, z4, y0, y1, y2, y3, y4⟩ := SQ.out.out; clear hbq) | fail)
  exact bodyPost_ret (v := .agg #[.int .i64 0, .slice none 0 0, .slice none 0 0, .int .i64 0, .int .i64 5]) (results_cell_row rfl _ _ _ _ _ _ _ rfl (SQ.out.wrong _).1 hu rfl (by kernel_rfl)) rfl ((SQ.out.wrong 5).2 (by have := HBB.out; omega) (HB.out.trans (SQ.out.2.2.2.2.mono (by have := HZ.out; have := HBB.out; omega))))
set_option maxHeartbeats 1000000 in
theorem s_group_none (F : Fm) (A1 A2 : Option Addr) (c1 c2 : Nat) (k id g a c : Int) (w : World) (h : FarmAt w A1 F.n1 F.f1 A2 F.n2 F.f2) (hr : Right F) (e0 : hasId F.n1 F.f1 id = false) (e1 : hasG F g = false) (e2 : g < id) :
    Calls Try.prog 74 #[.agg #[.int .i64 F.cap, .slice A1 F.n1 c1, .slice A2 F.n2 c2], .agg #[.int .i64 k, .int .i64 id, .int .i64 g, .int .i64 a, .int .i64 c]] w (OutV 4 fm0 w) := by
  have HE0 := Lib.hid e0
  have HE1 := Lib.hid e1
  have EG := Lib.hid e2
  clear e0 e1 e2
  have hu := Try.underlying60
  have S1 := Lib.hid (SpIn.new F A1 A2 c1 c2 k id g a c w h)
  have HB : Hid (Below w.heap.size w (((w.alloc (.cells #[.int .i64 F.cap, .slice A1 F.n1 c1, .slice A2 F.n2 c2] 34)).alloc (.cells #[.int .i64 k, .int .i64 id, .int .i64 g, .int .i64 a, .int .i64 c] 56)).alloc (.cells #[.int .i64 0, .slice none 0 0, .slice none 0 0, .int .i64 0, .int .i64 0] 60))) := Lib.hid ((((Below.refl w.heap.size w).alloc (Nat.le_refl _) _).alloc (by simp) _).alloc (by simp; omega) _)
  have HZ : Hid ((((w.alloc (.cells #[.int .i64 F.cap, .slice A1 F.n1 c1, .slice A2 F.n2 c2] 34)).alloc (.cells #[.int .i64 k, .int .i64 id, .int .i64 g, .int .i64 a, .int .i64 c] 56)).alloc (.cells #[.int .i64 0, .slice none 0 0, .slice none 0 0, .int .i64 0, .int .i64 0] 60)).heap.size = w.heap.size + 1 + 1 + 1) := Lib.hid (by simp)
  clear h
  have HR := Lib.hid hr
  have hl1 := hr.l1
  have hl2 := hr.l2
  clear hr
  go_enter Try.func74, Try.ntmps74
  go_upto_region 1 with fail
  generalize (((w.alloc (.cells #[.int .i64 F.cap, .slice A1 F.n1 c1, .slice A2 F.n2 c2] 34)).alloc (.cells #[.int .i64 k, .int .i64 id, .int .i64 g, .int .i64 a, .int .i64 c] 56)).alloc (.cells #[.int .i64 0, .slice none 0 0, .slice none 0 0, .int .i64 0, .int .i64 0] 60)) = w1 at *
  obtain ⟨b, hbb⟩ : ∃ b, w.heap.size = b := ⟨_, rfl⟩
  have HBB := Lib.hid hbb
  rw [hbb] at S1 HZ ⊢
  clear hbb
  obtain ⟨u0, u1, u2, v0, v1, v2, v3, v4⟩ := S1.out.cells
  have bg0 : decide (g ≥ id) = false := decide_eq_false (by have := EG.out; omega)
  obtain ⟨x, hx⟩ : ∃ x, grpIdx F.f1 id 0 F.n1 = x := ⟨_, rfl⟩
  have Hx := Lib.hid hx
  have bx : decide (x ≥ 0) = false := decide_eq_false (by have := grpIdx_no HE0.out; omega)
  clear hx
  have bg : (g != 0) = true := by have := HE1.out; unfold hasG at this; simp at this; simpa using this.2
  have HG1 := Lib.hid (show hasId F.n1 F.f1 g = false by have := HE1.out; unfold hasG at this; simp at this; exact this.1)
  obtain ⟨y, hy⟩ : ∃ x, grpIdx F.f1 g 0 F.n1 = x := ⟨_, rfl⟩
  have Hy := Lib.hid hy
  have by_ : decide (y < 0) = true := decide_eq_true (by have := grpIdx_no HG1.out; omega)
  clear hy
  go_wp2_with (first | (go_at_call 76; refine (s_l05Group F.cap A1 A2 F.n1 c1 F.n2 c2 F.f1 _ w2 S2.out.2.2.2.1.g (by omega)).mono ?_; rintro e w3 ⟨rfl, hb3⟩; rw [Hy.out]; have S3 := Lib.hid (S2.out.keep hb3); obtain ⟨u03, u13, u23, v03, v13, v23, v33, v43⟩ := S3.out.cells; clear hb3) | (go_at_call 76; refine (s_l05Group F.cap A1 A2 F.n1 c1 F.n2 c2 F.f1 _ w1 S1.out.2.2.2.1.g (by omega)).mono ?_; rintro e w2 ⟨rfl, hb2⟩; rw [Hx.out]; have S2 := Lib.hid (S1.out.keep hb2); obtain ⟨u02, u12, u22, v02, v12, v22, v32, v42⟩ := S2.out.cells; clear hb2) | (go_at_call 71; refine (s_l06Wrong _ _).mono ?_; rintro e wq ⟨rfl, hbq⟩; have SQ := Lib.hid (S3.out.keep hbq); obtain ⟨z0, z1, z2, z3, z4, y0, y1, y2, y3, y4⟩ := SQ.out.out; clear hbq) | fail)
  exact bodyPost_ret (v := .agg #[.int .i64 0, .slice none 0 0, .slice none 0 0, .int .i64 0, .int .i64 4]) (results_cell_row rfl _ _ _ _ _ _ _ rfl (SQ.out.wrong _).1 hu rfl (by kernel_rfl)) rfl ((SQ.out.wrong 4).2 (by have := HBB.out; omega) (HB.out.trans (SQ.out.2.2.2.2.mono (by have := HZ.out; have := HBB.out; omega))))
set_option maxHeartbeats 1000000 in
theorem s_group_full (F : Fm) (A1 A2 : Option Addr) (c1 c2 : Nat) (k id g a c : Int) (w : World) (h : FarmAt w A1 F.n1 F.f1 A2 F.n2 F.f2) (hr : Right F) (e0 : hasId F.n1 F.f1 id = false) (e1 : hasG F g = true) (e2 : F.n1 = 30) (e3 : g < id) :
    Calls Try.prog 74 #[.agg #[.int .i64 F.cap, .slice A1 F.n1 c1, .slice A2 F.n2 c2], .agg #[.int .i64 k, .int .i64 id, .int .i64 g, .int .i64 a, .int .i64 c]] w (OutV 6 fm0 w) := by
  by_cases hg0 : g = 0
  · have HE0 := Lib.hid e0
    have HE1 := Lib.hid e1
    have HE2 := Lib.hid e2
    have EG := Lib.hid e3
    clear e0 e1 e2 e3
    have HG0 := Lib.hid hg0
    clear hg0
    have hu := Try.underlying60
    have S1 := Lib.hid (SpIn.new F A1 A2 c1 c2 k id g a c w h)
    have HB : Hid (Below w.heap.size w (((w.alloc (.cells #[.int .i64 F.cap, .slice A1 F.n1 c1, .slice A2 F.n2 c2] 34)).alloc (.cells #[.int .i64 k, .int .i64 id, .int .i64 g, .int .i64 a, .int .i64 c] 56)).alloc (.cells #[.int .i64 0, .slice none 0 0, .slice none 0 0, .int .i64 0, .int .i64 0] 60))) := Lib.hid ((((Below.refl w.heap.size w).alloc (Nat.le_refl _) _).alloc (by simp) _).alloc (by simp; omega) _)
    have HZ : Hid ((((w.alloc (.cells #[.int .i64 F.cap, .slice A1 F.n1 c1, .slice A2 F.n2 c2] 34)).alloc (.cells #[.int .i64 k, .int .i64 id, .int .i64 g, .int .i64 a, .int .i64 c] 56)).alloc (.cells #[.int .i64 0, .slice none 0 0, .slice none 0 0, .int .i64 0, .int .i64 0] 60)).heap.size = w.heap.size + 1 + 1 + 1) := Lib.hid (by simp)
    clear h
    have HR := Lib.hid hr
    have hl1 := hr.l1
    have hl2 := hr.l2
    clear hr
    go_enter Try.func74, Try.ntmps74
    go_upto_region 1 with fail
    generalize (((w.alloc (.cells #[.int .i64 F.cap, .slice A1 F.n1 c1, .slice A2 F.n2 c2] 34)).alloc (.cells #[.int .i64 k, .int .i64 id, .int .i64 g, .int .i64 a, .int .i64 c] 56)).alloc (.cells #[.int .i64 0, .slice none 0 0, .slice none 0 0, .int .i64 0, .int .i64 0] 60)) = w1 at *
    obtain ⟨b, hbb⟩ : ∃ b, w.heap.size = b := ⟨_, rfl⟩
    have HBB := Lib.hid hbb
    rw [hbb] at S1 HZ ⊢
    clear hbb
    obtain ⟨u0, u1, u2, v0, v1, v2, v3, v4⟩ := S1.out.cells
    have bg0 : decide (g ≥ id) = false := decide_eq_false (by have := EG.out; omega)
    obtain ⟨x, hx⟩ : ∃ x, grpIdx F.f1 id 0 F.n1 = x := ⟨_, rfl⟩
    have Hx := Lib.hid hx
    have bx : decide (x ≥ 0) = false := decide_eq_false (by have := grpIdx_no HE0.out; omega)
    clear hx
    have bg : (g != 0) = false := by rw [HG0.out]; rfl
    have bn : decide ((F.n1 : Int) ≥ 30) = true := decide_eq_true (by have := HE2.out; omega)
    go_wp2_with (first | (go_at_call 76; refine (s_l05Group F.cap A1 A2 F.n1 c1 F.n2 c2 F.f1 _ w1 S1.out.2.2.2.1.g (by omega)).mono ?_; rintro e w2 ⟨rfl, hb2⟩; rw [Hx.out]; have S2 := Lib.hid (S1.out.keep hb2); obtain ⟨u02, u12, u22, v02, v12, v22, v32, v42⟩ := S2.out.cells; clear hb2) | (go_at_call 71; refine (s_l06Wrong _ _).mono ?_; rintro e wq ⟨rfl, hbq⟩; have SQ := Lib.hid (S2.out.keep hbq); obtain ⟨z0, z1, z2, z3, z4, y0, y1, y2, y3, y4⟩ := SQ.out.out; clear hbq) | fail)
    exact bodyPost_ret (v := .agg #[.int .i64 0, .slice none 0 0, .slice none 0 0, .int .i64 0, .int .i64 6]) (results_cell_row rfl _ _ _ _ _ _ _ rfl (SQ.out.wrong _).1 hu rfl (by kernel_rfl)) rfl ((SQ.out.wrong 6).2 (by have := HBB.out; omega) (HB.out.trans (SQ.out.2.2.2.2.mono (by have := HZ.out; have := HBB.out; omega))))
  · have HE0 := Lib.hid e0
    have HE1 := Lib.hid e1
    have HE2 := Lib.hid e2
    have EG := Lib.hid e3
    clear e0 e1 e2 e3
    have HG0 := Lib.hid hg0
    clear hg0
    have hu := Try.underlying60
    have S1 := Lib.hid (SpIn.new F A1 A2 c1 c2 k id g a c w h)
    have HB : Hid (Below w.heap.size w (((w.alloc (.cells #[.int .i64 F.cap, .slice A1 F.n1 c1, .slice A2 F.n2 c2] 34)).alloc (.cells #[.int .i64 k, .int .i64 id, .int .i64 g, .int .i64 a, .int .i64 c] 56)).alloc (.cells #[.int .i64 0, .slice none 0 0, .slice none 0 0, .int .i64 0, .int .i64 0] 60))) := Lib.hid ((((Below.refl w.heap.size w).alloc (Nat.le_refl _) _).alloc (by simp) _).alloc (by simp; omega) _)
    have HZ : Hid ((((w.alloc (.cells #[.int .i64 F.cap, .slice A1 F.n1 c1, .slice A2 F.n2 c2] 34)).alloc (.cells #[.int .i64 k, .int .i64 id, .int .i64 g, .int .i64 a, .int .i64 c] 56)).alloc (.cells #[.int .i64 0, .slice none 0 0, .slice none 0 0, .int .i64 0, .int .i64 0] 60)).heap.size = w.heap.size + 1 + 1 + 1) := Lib.hid (by simp)
    clear h
    have HR := Lib.hid hr
    have hl1 := hr.l1
    have hl2 := hr.l2
    clear hr
    go_enter Try.func74, Try.ntmps74
    go_upto_region 1 with fail
    generalize (((w.alloc (.cells #[.int .i64 F.cap, .slice A1 F.n1 c1, .slice A2 F.n2 c2] 34)).alloc (.cells #[.int .i64 k, .int .i64 id, .int .i64 g, .int .i64 a, .int .i64 c] 56)).alloc (.cells #[.int .i64 0, .slice none 0 0, .slice none 0 0, .int .i64 0, .int .i64 0] 60)) = w1 at *
    obtain ⟨b, hbb⟩ : ∃ b, w.heap.size = b := ⟨_, rfl⟩
    have HBB := Lib.hid hbb
    rw [hbb] at S1 HZ ⊢
    clear hbb
    obtain ⟨u0, u1, u2, v0, v1, v2, v3, v4⟩ := S1.out.cells
    have bg0 : decide (g ≥ id) = false := decide_eq_false (by have := EG.out; omega)
    obtain ⟨x, hx⟩ : ∃ x, grpIdx F.f1 id 0 F.n1 = x := ⟨_, rfl⟩
    have Hx := Lib.hid hx
    have bx : decide (x ≥ 0) = false := decide_eq_false (by have := grpIdx_no HE0.out; omega)
    clear hx
    have bg : (g != 0) = true := by simpa using HG0.out
    have HG1 := Lib.hid (show hasId F.n1 F.f1 g = true from (hasG_iff.1 HE1.out).resolve_right HG0.out)
    obtain ⟨y, hy⟩ : ∃ x, grpIdx F.f1 g 0 F.n1 = x := ⟨_, rfl⟩
    have Hy := Lib.hid hy
    have by_ : decide (y < 0) = false := decide_eq_false (by rw [← hy, grpIdx_pos HR.out.r1 HG1.out]; omega)
    clear hy
    have bn : decide ((F.n1 : Int) ≥ 30) = true := decide_eq_true (by have := HE2.out; omega)
    go_wp2_with (first | (go_at_call 76; refine (s_l05Group F.cap A1 A2 F.n1 c1 F.n2 c2 F.f1 _ w2 S2.out.2.2.2.1.g (by omega)).mono ?_; rintro e w3 ⟨rfl, hb3⟩; rw [Hy.out]; have S3 := Lib.hid (S2.out.keep hb3); obtain ⟨u03, u13, u23, v03, v13, v23, v33, v43⟩ := S3.out.cells; clear hb3) | (go_at_call 76; refine (s_l05Group F.cap A1 A2 F.n1 c1 F.n2 c2 F.f1 _ w1 S1.out.2.2.2.1.g (by omega)).mono ?_; rintro e w2 ⟨rfl, hb2⟩; rw [Hx.out]; have S2 := Lib.hid (S1.out.keep hb2); obtain ⟨u02, u12, u22, v02, v12, v22, v32, v42⟩ := S2.out.cells; clear hb2) | (go_at_call 71; refine (s_l06Wrong _ _).mono ?_; rintro e wq ⟨rfl, hbq⟩; have SQ := Lib.hid (S3.out.keep hbq); obtain ⟨z0, z1, z2, z3, z4, y0, y1, y2, y3, y4⟩ := SQ.out.out; clear hbq) | fail)
    exact bodyPost_ret (v := .agg #[.int .i64 0, .slice none 0 0, .slice none 0 0, .int .i64 0, .int .i64 6]) (results_cell_row rfl _ _ _ _ _ _ _ rfl (SQ.out.wrong _).1 hu rfl (by kernel_rfl)) rfl ((SQ.out.wrong 6).2 (by have := HBB.out; omega) (HB.out.trans (SQ.out.2.2.2.2.mono (by have := HZ.out; have := HBB.out; omega))))
end Go.Proofs.Ytipkbapnhgdpeaa.C
