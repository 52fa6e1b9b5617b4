/- A right window: WindowRight says so, and WindowMost tells the first mark behind the time less the span. No condition. -/
import Derived.Test.YtddemmmbbleofaaWinM
namespace Go.Proofs.Ytddemmmbbleofaa.C
open Go.RowKit
set_option maxRecDepth 100000
set_option linter.unusedVariables false
set_option linter.unusedSimpArgs false
attribute [local go_sem ↓] Go.wp_at_zero Go.wp_at_succ
theorem mat_of_mem {ms : List Mk} {x : Mk} (h : x ∈ ms) : ∃ j, j < ms.length ∧ mat ms j = x := by
  obtain ⟨j, hj⟩ := List.mem_iff_getElem?.1 h
  have := (List.getElem?_eq_some_iff.1 hj).1
  exact ⟨j, this, by rw [mat_of this] at hj; exact Option.some.inj hj⟩
theorem most_at {c t : Int} : ∀ {L : List Mk} {i : Nat}, i < L.length → (∀ j, j < i → (mat L j).1 ≤ t) → (mat L i).1 > t → mostL c t L = (mat L i).2
  | [], i, h, _, _ => by simp at h
  | x :: L, 0, h, _, ht => by
    have : decide (x.1 > t) = true := decide_eq_true ht
    simp [mostL, List.find?_cons, this]
    rfl
  | x :: L, i + 1, h, hj, ht => by
    have h0 := hj 0 (by omega)
    have : decide (x.1 > t) = false := decide_eq_false (by have : mat (x :: L) 0 = x := rfl; rw [this] at h0; omega)
    have ih := most_at (c := c) (L := L) (i := i) (by simpa using h) (fun j hji => hj (j + 1) (by omega)) ht
    rw [show mat (x :: L) (i + 1) = mat L i from rfl, ← ih]
    simp [mostL, List.find?_cons, this]
/-- The box of a window. -/
structure WB (b : Nat) (sp nw cp : Int) (v : Value) (w : World) : Prop where
  c0 : w.cell? ⟨b, 0, none⟩ = some (.int .i64 sp)
  c1 : w.cell? ⟨b, 1, none⟩ = some (.int .i64 nw)
  c2 : w.cell? ⟨b, 2, none⟩ = some (.int .i64 cp)
  c3 : w.cell? ⟨b, 3, none⟩ = some v
  lt : b < w.heap.size
theorem WB.keep {b : Nat} {sp nw cp : Int} {v : Value} {w w' : World} (h : WB b sp nw cp v w) (hb : Below w.heap.size w w') : WB b sp nw cp v w' :=
  ⟨(hb.cell (p := ⟨b, 0, none⟩) h.lt).trans h.c0, (hb.cell (p := ⟨b, 1, none⟩) h.lt).trans h.c1, (hb.cell (p := ⟨b, 2, none⟩) h.lt).trans h.c2, (hb.cell (p := ⟨b, 3, none⟩) h.lt).trans h.c3, Nat.lt_of_lt_of_le h.lt hb.size⟩
theorem WB.new (w : World) (sp nw cp : Int) (v : Value) (t : Nat) : WB w.heap.size sp nw cp v (w.alloc (.cells #[.int .i64 sp, .int .i64 nw, .int .i64 cp, v] t)) :=
  have h := Blk.new (w := w) (B := 0) (Nat.zero_le _) #[.int .i64 sp, .int .i64 nw, .int .i64 cp, v] t
  ⟨(h.cell 0).trans rfl, (h.cell 1).trans rfl, (h.cell 2).trans rfl, (h.cell 3).trans rfl, by simp⟩
/-- A right window. -/
structure WOk (sp nw cp : Int) (L : List Mk) : Prop where
  s0 : 1 ≤ sp
  s1 : sp ≤ 1000000
  n0 : 0 ≤ nw
  n1 : nw ≤ 1000000
  k0 : 0 ≤ cp
  k1 : cp ≤ 1125899906842624
  len : L.length ≤ 200
  each : ∀ i, i < L.length → 0 ≤ (mat L i).1 ∧ nw - sp < (mat L i).1 ∧ (mat L i).1 < nw ∧ cp < (mat L i).2 ∧ (mat L i).2 ≤ 1125899906842624
  next : ∀ i, i + 1 < L.length → (mat L i).1 < (mat L (i + 1)).1 ∧ (mat L (i + 1)).2 < (mat L i).2
set_option maxHeartbeats 4000000 in
theorem c_WindowRight (sp nw cp : Int) (A : Option Addr) (L : List Mk) (c : Nat) (w : World) (h : Mks w A L) (hw : WOk sp nw cp L) :
    Calls Try.prog 32 #[.agg #[.int .i64 sp, .int .i64 nw, .int .i64 cp, .slice A L.length c]] w fun e w' => e = .returned (.bool true) ∧ Below w.heap.size w w' := by
  have hu := Try.underlying56
  obtain ⟨s0, s1, n0, n1, k0, k1, hlen, heach, hnext⟩ := hw
  have e1 : bIn sp 1 1000000 = true := bIn_true.2 ⟨s0, s1⟩
  have e2 : bIn nw 0 1000000 = true := bIn_true.2 ⟨n0, n1⟩
  have e3 : bIn cp 0 1125899906842624 = true := bIn_true.2 ⟨k0, k1⟩
  have b0 : decide ((L.length : Int) > 200) = false := decide_eq_false (by omega)
  have HM := Lib.hid h
  have HE := Lib.hid heach
  have HN := Lib.hid hnext
  clear h heach hnext
  go_enter Try.func32, Try.ntmps32
  go_wp2_with ((first | (go_at_call 50; refine (c_in_v e1 _).mono ?_; rintro e w' ⟨rfl, rfl⟩) | (go_at_call 47; refine (c_time_v e2 _).mono ?_; rintro e w' ⟨rfl, rfl⟩) | (go_at_call 53; refine (c_want_v e3 _).mono ?_; rintro e w' ⟨rfl, rfl⟩) | fail))
  have hT := WB.new w sp nw cp (.slice A L.length c) 56
  have hb := (Below.refl _ w).alloc (Nat.le_refl _) (.cells #[.int .i64 sp, .int .i64 nw, .int .i64 cp, .slice A L.length c] 56)
  have hM := HM.out.keep hb
  generalize w.alloc _ = w1 at *
  have HT := Lib.hid hT
  have HB := Lib.hid hb
  have HM1 := Lib.hid hM
  have hbb1 : w.heap.size ≤ w1.heap.size := hb.size
  have HZ := Lib.hid hbb1
  clear hb hM HM hT hbb1
  go_loopw [30] (fun v30 wr => ∃ i : Nat, i ≤ L.length ∧ v30 = .int .i64 i ∧ Hid (Below w1.heap.size w1 wr)) (fun v30 _ => L.length - (intOf v30).toNat)
  case atStart => exact ⟨0, by omega, rfl, Lib.hid (Below.refl _ _)⟩
  case round =>
    obtain ⟨i, hi, rfl, KB⟩ := hrel
    by_cases h5 : i < L.length
    · have b1 : decide ((i : Int) < (L.length : Int)) = true := decide_eq_true (by omega)
      have hT1 := Lib.hid (HT.out.keep KB.out)
      obtain ⟨g, off, rfl, hg, hx⟩ := (HM1.out.keep KB.out).at h5
      obtain ⟨x0, x1⟩ := hx i h5
      obtain ⟨p0, p1, p2, p3, p4⟩ := HE.out i h5
      go_upto_region 6 with fail
      have hT2 := Lib.hid (hT1.out.keep ((Below.refl wr.heap.size wr).alloc (Nat.le_refl _) (.cells #[.int .i64 (mat L i).1, .int .i64 (mat L i).2] 59)))
      have hB2 := Lib.hid (btrans KB.out ((Below.refl wr.heap.size wr).alloc (Nat.le_refl _) (.cells #[.int .i64 (mat L i).1, .int .i64 (mat L i).2] 59)))
      have hxx : ∀ j, j < L.length → (wr.alloc (.cells #[.int .i64 (mat L i).1, .int .i64 (mat L i).2] 59)).cell? ⟨g, off + j * 2, none⟩ = some (.int .i64 (mat L j).1) ∧ (wr.alloc (.cells #[.int .i64 (mat L i).1, .int .i64 (mat L i).2] 59)).cell? ⟨g, off + j * 2 + 1, none⟩ = some (.int .i64 (mat L j).2) := fun j hj => ⟨Lib.cell?_alloc_some _ (hx j hj).1, Lib.cell?_alloc_some _ (hx j hj).2⟩
      have z0 := ((Blk.new (Nat.zero_le wr.heap.size) #[.int .i64 (mat L i).1, .int .i64 (mat L i).2] 59).cell 0).trans (by rfl)
      have z1 := ((Blk.new (Nat.zero_le wr.heap.size) #[.int .i64 (mat L i).1, .int .i64 (mat L i).2] 59).cell 1).trans (by rfl)
      generalize hp : (mat L i).1 = p at *
      generalize hq : (mat L i).2 = q at *
      generalize hw1 : wr.alloc (.cells #[.int .i64 p, .int .i64 q] 59) = w2 at *
      generalize wr.heap.size = g2 at *
      obtain ⟨c0, c1, c2, c3, -⟩ := hT2.out
      clear hx x0 x1 hw1
      have e3' : bIn q 0 1125899906842624 = true := bIn_true.2 ⟨by omega, p4⟩
      have e4 : decide (q ≤ cp) = false := decide_eq_false (by omega)
      go_upto_region 8 with (first | (go_at_call 50; refine (c_in_v (r := true) (bIn_true.2 (by (first | omega | (constructor <;> omega)))) _).mono ?_; rintro e w' ⟨rfl, rfl⟩) | (go_at_call 53; refine (c_want_v e3' _).mono ?_; rintro e w' ⟨rfl, rfl⟩) | fail)
      clear KB
      cases i with
      | zero =>
        clear hxx HE HN
        go_quiet (fail)
        go_wp2_with fail
        go_roundw
        case rel => exact ⟨1, by omega, by go_num, Lib.hid (below_drewN hB2.out _)⟩
        case measure => simp [intOf]; omega
      | succ k =>
        obtain ⟨y0, y1⟩ := hxx k (by omega)
        obtain ⟨r0, r1⟩ := HN.out k (by omega)
        rw [hp] at r0
        rw [hq] at r1
        generalize (mat L k).1 = p' at *
        generalize (mat L k).2 = q' at *
        have b3 : decide (((k + 1 : Nat) : Int) > 0) = true := decide_eq_true (by omega)
        have b4 : decide (p' ≥ p) = false := decide_eq_false (by omega)
        have b5 : decide (q' ≤ q) = false := decide_eq_false (by omega)
        clear hxx HE HN
        go_quiet (fail)
        go_wp2_with fail
        go_roundw
        case rel => exact ⟨k + 1 + 1, by omega, by go_num, Lib.hid (below_drewN hB2.out _)⟩
        case measure => simp [intOf]; omega
    · obtain rfl : i = L.length := by omega
      have b1 : decide ((L.length : Int) < (L.length : Int)) = false := decide_eq_false (by omega)
      go_wp2_with fail
      go_ret
      exact ⟨rfl, HB.out.trans (KB.out.mono HZ.out)⟩
set_option maxHeartbeats 4000000 in
theorem c_WindowMost (sp nw cp now : Int) (A : Option Addr) (L : List Mk) (c : Nat) (w : World) (h : Mks w A L) (hw : WOk sp nw cp L) (h1 : nw ≤ now) (h2 : now ≤ 10000000) :
    Calls Try.prog 33 #[.agg #[.int .i64 sp, .int .i64 nw, .int .i64 cp, .slice A L.length c], .int .i64 now] w fun e w' => e = .returned (.int .i64 (mostL cp (now - sp) L)) ∧ Below w.heap.size w w' := by
  have hu := Try.underlying56
  have s0 := hw.s0
  have s1 := hw.s1
  have n0 := hw.n0
  have hlen := hw.len
  have HW := Lib.hid hw
  have HM := Lib.hid h
  have b0 : decide (now < nw) = false := decide_eq_false (by omega)
  have hT := WB.new w sp nw cp (.slice A L.length c) 56
  have hb := (Below.refl _ w).alloc (Nat.le_refl _) (.cells #[.int .i64 sp, .int .i64 nw, .int .i64 cp, .slice A L.length c] 56)
  have HM0 := Lib.hid (HM.out.keep hb)
  have HB0 := Lib.hid hb
  have HT0 := Lib.hid hT
  have hb0 : w.heap.size ≤ (w.alloc (.cells #[.int .i64 sp, .int .i64 nw, .int .i64 cp, .slice A L.length c] 56)).heap.size := hb.size
  have HZ0 := Lib.hid hb0
  clear h hw hT hb hb0
  go_enter Try.func33, Try.ntmps33
  go_upto_region 3 with (first | (go_at_call 32; refine (c_WindowRight _ _ _ _ _ _ _ HM0.out HW.out).mono ?_; rintro e w1 ⟨rfl, hb1⟩; obtain ⟨c0, c1, c2, c3, -⟩ := HT0.out.keep hb1) | fail)
  have HT := Lib.hid (HT0.out.keep hb1)
  have HB := Lib.hid (HB0.out.trans (hb1.mono HZ0.out))
  have HM1 := Lib.hid (HM0.out.keep hb1)
  have HZ := Lib.hid (Nat.le_trans HZ0.out hb1.size)
  clear HT0 HB0 HM0 HZ0 hb1 HM
  go_wp2_with fail
  have hwr : IntKind.i64.wrap (now - sp) = now - sp := by rw [IntKind.wrap_i64]; omega
  go_loopw [19] (fun v30 wr => ∃ i : Nat, i ≤ L.length ∧ v30 = .int .i64 i ∧ Hid (∀ j, j < i → (mat L j).1 ≤ now - sp) ∧ Hid (Below w1.heap.size w1 wr)) (fun v30 _ => L.length - (intOf v30).toNat)
  case atStart => exact ⟨0, by omega, rfl, Lib.hid (by intro j hj; omega), Lib.hid (Below.refl _ _)⟩
  case round =>
    obtain ⟨i, hi, rfl, KI, KB⟩ := hrel
    clear c0 c1 c2 c3
    by_cases h5 : i < L.length
    · have b1 : decide ((i : Int) < (L.length : Int)) = true := decide_eq_true (by omega)
      have hT1 := Lib.hid (HT.out.keep KB.out)
      obtain ⟨g, off, rfl, hg, hx⟩ := (HM1.out.keep KB.out).at h5
      obtain ⟨x0, x1⟩ := hx i h5
      go_upto_region 6 with fail
      have hT2 := Lib.hid (hT1.out.keep ((Below.refl wr.heap.size wr).alloc (Nat.le_refl _) (.cells #[.int .i64 (mat L i).1, .int .i64 (mat L i).2] 59)))
      have hB2 := Lib.hid (btrans KB.out ((Below.refl wr.heap.size wr).alloc (Nat.le_refl _) (.cells #[.int .i64 (mat L i).1, .int .i64 (mat L i).2] 59)))
      have z0 := ((Blk.new (Nat.zero_le wr.heap.size) #[.int .i64 (mat L i).1, .int .i64 (mat L i).2] 59).cell 0).trans (by rfl)
      have z1 := ((Blk.new (Nat.zero_le wr.heap.size) #[.int .i64 (mat L i).1, .int .i64 (mat L i).2] 59).cell 1).trans (by rfl)
      generalize hp : (mat L i).1 = p at *
      generalize hq : (mat L i).2 = q at *
      generalize hw1 : wr.alloc (.cells #[.int .i64 p, .int .i64 q] 59) = w2 at *
      generalize wr.heap.size = g2 at *
      obtain ⟨c0, c1, c2, c3, -⟩ := hT2.out
      clear hx x0 x1 hw1 KB
      rcases b2 : decide (p > now - sp) with _ | _
      · go_wp2_with fail
        go_roundw
        case rel => exact ⟨i + 1, by omega, by go_num, Lib.hid (by intro j hj; rcases Nat.lt_succ_iff_lt_or_eq.1 hj with h | rfl; exact KI.out j h; rw [hp]; have := of_decide_eq_false b2; omega), hB2⟩
        case measure => simp [intOf]; omega
      · go_wp2_with fail
        go_ret
        refine ⟨ret_int ?_, HB.out.trans (hB2.out.mono HZ.out)⟩
        rw [most_at h5 KI.out (by rw [hp]; exact of_decide_eq_true b2), hq]
    · obtain rfl : i = L.length := by omega
      have b1 : decide ((L.length : Int) < (L.length : Int)) = false := decide_eq_false (by omega)
      obtain ⟨c0, c1, c2, c3, -⟩ := HT.out.keep KB.out
      go_wp2_with fail
      go_ret
      refine ⟨ret_int ?_, HB.out.trans (KB.out.mono HZ.out)⟩
      exact (most_none _ _ _ fun x hx => by obtain ⟨j, hj, rfl⟩ := mat_of_mem hx; exact KI.out j hj).symm
end Go.Proofs.Ytddemmmbbleofaa.C
