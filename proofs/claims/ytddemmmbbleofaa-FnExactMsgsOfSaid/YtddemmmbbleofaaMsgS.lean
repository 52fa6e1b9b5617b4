/- What the reference reads of a text: l11Read, walked. No condition. -/
import Derived.Test.YtddemmmbbleofaaMsgX
namespace Go.Proofs.Ytddemmmbbleofaa.C
open Go.RowKit
set_option maxRecDepth 100000
set_option linter.unusedVariables false
set_option linter.unusedSimpArgs false
attribute [local go_sem ↓] Go.wp_at_zero Go.wp_at_succ
open Go.Proofs.YtddemmmbbleofaaW.PrintWords (bt bt_range bt_at)
def NumQ (B g : Nat) (t : ByteArray) (b : Bool) (w : World) (e : Ending) (w' : World) : Prop :=
  ∃ x r c, NF t = (x, r, c) ∧ e = .returned (.int .i64 x) ∧ Blk w' B g #[.string r, .bool (b || c)] 112 ∧ w.grownBy w' (some g)
theorem s_numq (B g : Nat) (t : ByteArray) (b : Bool) (w : World) (hB : Blk w B g #[.string t, .bool b] 112) (ht : t.size ≤ 20000) :
    Calls Try.prog 92 #[.pointer (some ⟨g, 0, none⟩)] w (NumQ B g t b w) :=
  (s_num B g t b w hB ht).mono fun e w' ⟨h1, h2, h3⟩ => ⟨_, _, _, rfl, h1, h2, h3⟩
set_option maxHeartbeats 4000000 in
theorem s_read_none (t : ByteArray) (w : World) (ht : t.size ≤ 20000) (h : t.size = 0 ∨ bt t 0 ≠ 87) : Calls Try.prog 60 #[.string t] w fun e w' => e = .returned (.agg (outC M0 0 4)) ∧ Below w.heap.size w w' := by
  have hu := Try.underlying46
  by_cases h1 : t.size = 0
  · have b1 : ((t.size : Int) == 0) = true := by simp [h1]
    clear h1 h
    go_enter Try.func60, Try.ntmps60
    go_wp2_with fail
    refine bodyPost_ret (v := .agg (outC M0 0 4)) (results_cell_row rfl _ _ _ _ _ _ _ rfl (heap_alloc_new _ _) hu rfl (by kernel_rfl)) rfl ⟨rfl, (Below.refl _ w).alloc (Nat.le_refl _) _⟩
  · have b1 : ((t.size : Int) == 0) = false := beq_eq_false_iff_ne.mpr (by omega)
    have h0 : 0 < t.size := by omega
    have hc : ((t[0]'h0).toNat : Int) = bt t 0 := bt_at t 0 (by simpa using h0)
    have b2 : (bt t 0 != 87) = true := by rcases h with h | h; exact absurd h h1; exact bne_iff_ne.mpr h
    clear h
    go_enter Try.func60, Try.ntmps60
    go_wp2_with fail
    refine bodyPost_ret (v := .agg (outC M0 0 4)) (results_cell_row rfl _ _ _ _ _ _ _ rfl (heap_alloc_new _ _) hu rfl (by kernel_rfl)) rfl ⟨rfl, (Below.refl _ w).alloc (Nat.le_refl _) _⟩
set_option maxHeartbeats 4000000 in
theorem s_read_short (t : ByteArray) (w : World) (ht : t.size ≤ 20000) (h1 : t.size ≠ 0) (h2 : bt t 0 = 87) (h3 : t.size = 1 ∨ (t.size = 2 ∧ 128 ≤ bt t 1)) : Calls Try.prog 60 #[.string t] w fun e w' => e = .returned (.agg (outC M0 0 9)) ∧ Below w.heap.size w w' := by
  have hu := Try.underlying46
  have b1 : ((t.size : Int) == 0) = false := beq_eq_false_iff_ne.mpr (by omega)
  have h0 : 0 < t.size := by omega
  have hc : ((t[0]'h0).toNat : Int) = 87 := (bt_at t 0 (by simpa using h0)).trans h2
  clear h2
  by_cases h4 : t.size = 1
  · have b3 : ((t.size : Int) == 1) = true := by simp [h4]
    clear h4 h3 h1
    go_enter Try.func60, Try.ntmps60
    go_wp2_with fail
    refine bodyPost_ret (v := .agg (outC M0 0 9)) (results_cell_row rfl _ _ _ _ _ _ _ rfl (heap_alloc_new _ _) hu rfl (by kernel_rfl)) rfl ⟨rfl, (Below.refl _ w).alloc (Nat.le_refl _) _⟩
  · obtain ⟨h5, h6⟩ := h3.resolve_left h4
    have b3 : ((t.size : Int) == 1) = false := by simp [h5]
    have b4 : ((t.size : Int) == 2) = true := by simp [h5]
    have h01 : 1 < t.size := by omega
    have hc1 : ((t[1]'h01).toNat : Int) = bt t 1 := bt_at t 1 (by simpa using h01)
    have b5 : decide (128 ≤ bt t 1) = true := decide_eq_true h6
    clear h4 h3 h1 h5
    go_enter Try.func60, Try.ntmps60
    go_wp2_with fail
    refine bodyPost_ret (v := .agg (outC M0 0 9)) (results_cell_row rfl _ _ _ _ _ _ _ rfl (heap_alloc_new _ _) hu rfl (by kernel_rfl)) rfl ⟨rfl, (Below.refl _ w).alloc (Nat.le_refl _) _⟩
theorem Room.grown {w w1 : World} {B b n g : Nat} {t : TypeId} (h : Room w B b n t) (hb : w.grownBy w1 (some g)) (hne : b ≠ g) : Room w1 B b n t := let ⟨cs, h1, h2⟩ := h; ⟨cs, h1.grown hb hne, h2⟩
/-- So far nothing that lay is turned but what lies from B on. -/
theorem below_grown {B : Nat} {w w0 w1 : World} {g : Nat} (h : Below B w w0) (hb : w0.grownBy w1 (some g)) (hg : B ≤ g) (hs : w.heap.size = B) : Below B w w1 :=
  ⟨hb.os.trans h.os, hb.tape.trans h.tape, hb.output.trans h.output, Nat.le_trans h.size hb.size, fun i hi => (hb.block i (Nat.lt_of_lt_of_le (by omega) h.size) (by intro e; cases e; omega)).trans (h.block i hi)⟩
/-- The outcome's block, the reader's, the message's. -/
structure RS (g gr m : Nat) (s : ByteArray) (b : Bool) (cs : Array Value) (w wk : World) : Prop where
  rb : Blk wk 0 gr #[.string s, .bool b] 112
  mb : Blk wk 0 m cs 28
  ob : Room wk g g 12 46
  bl : Below w.heap.size w wk
  o1 : w.heap.size + 0 = g
  o2 : g < gr
  o3 : gr < m
theorem below_row {w a b : World} {g : Nat} (h : Below w.heap.size w a) (hb : a.grownBy b (some g)) (hg : w.heap.size ≤ g) : Below w.heap.size w b :=
  ⟨hb.os.trans h.os, hb.tape.trans h.tape, hb.output.trans h.output, Nat.le_trans h.size hb.size, fun i hi => (hb.block i (Nat.lt_of_lt_of_le hi h.size) (by intro e; cases e; omega)).trans (h.block i hi)⟩
theorem RS.num {g gr m : Nat} {s s' : ByteArray} {b b' : Bool} {cs : Array Value} {w wk w' : World} (h : RS g gr m s b cs w wk) (hb : Blk w' 0 gr #[.string s', .bool b'] 112) (hg : wk.grownBy w' (some gr)) : RS g gr m s' b' cs w w' :=
  ⟨hb, h.mb.grown hg (by have := h.o3; omega), h.ob.grown hg (by have := h.o2; omega), below_row h.bl hg (by have := h.o1; have := h.o2; omega), h.o1, h.o2, h.o3⟩
theorem RS.set {g gr m : Nat} {s : ByteArray} {b : Bool} {cs : Array Value} {w wk : World} (h : RS g gr m s b cs w wk) (i : Nat) (v : Value) {ds : Array Value} (e : cs.setIfInBounds i v = ds) : RS g gr m s b ds w (wk.setCell ⟨m, i, none⟩ v) :=
  ⟨h.rb.setf (by have := h.o3; show gr ≠ m; omega) v, (h.mb.setc i v).cast e, h.ob.set_far (by have := h.o2; have := h.o3; show g ≠ m; omega) v, h.bl.setCell (by have := h.o1; have := h.o2; have := h.o3; show w.heap.size ≤ m; omega) v, h.o1, h.o2, h.o3⟩
theorem RS.keep {g gr m : Nat} {s : ByteArray} {b : Bool} {cs : Array Value} {w wk w' : World} (h : RS g gr m s b cs w wk) (hb : Below wk.heap.size wk w') : RS g gr m s b cs w w' :=
  ⟨h.rb.keep hb, h.mb.keep hb, h.ob.keep hb, btrans h.bl hb, h.o1, h.o2, h.o3⟩
theorem bodyF_get {b0 r1 r2 r3 r4 r5 r6 r7 : ByteArray} {x2 x3 x4 x5 x6 x7 : Int} {c1 c2 c3 c4 c5 c6 c7 : Bool} (h1 : NF b0 = (1, r1, c1)) (h2 : NF r1 = (x2, r2, c2)) (h3 : NF r2 = (x3, r3, c3)) (h4 : NF r3 = (x4, r4, c4)) (h5 : NF r4 = (x5, r5, c5)) (h6 : NF r5 = (x6, r6, c6)) (h7 : NF r6 = (x7, r7, c7)) :
    bodyF (b0, false) = (⟨1, x2, x3, x4, x5, x6, 0, 0, 0, ⟨#[]⟩⟩, x7, r7, ((((((false || c1) || c2) || c3) || c4) || c5) || c6) || c7) := by
  simp only [bodyF, rd_of h1, rd_of h2, rd_of h3, rd_of h4, rd_of h5, rd_of h6, rd_of h7, ↓reduceIte]
theorem bodyF_ans {b0 r1 r2 r3 r4 r5 r6 r7 : ByteArray} {x2 x3 x4 x5 x6 x7 : Int} {c1 c2 c3 c4 c5 c6 c7 : Bool} (h1 : NF b0 = (3, r1, c1)) (h2 : NF r1 = (x2, r2, c2)) (h3 : NF r2 = (x3, r3, c3)) (h4 : NF r3 = (x4, r4, c4)) (h5 : NF r4 = (x5, r5, c5)) (h6 : NF r5 = (x6, r6, c6)) (h7 : NF r6 = (x7, r7, c7)) :
    bodyF (b0, false) = (⟨3, x2, x3, 0, 0, 0, x4, x5, x6, ⟨#[]⟩⟩, x7, r7, ((((((false || c1) || c2) || c3) || c4) || c5) || c6) || c7) := by
  simp only [bodyF, rd_of h1, rd_of h2, rd_of h3, rd_of h4, rd_of h5, rd_of h6, rd_of h7, show ¬ ((3 : Int) = 1) from by decide, ↓reduceIte]
theorem bodyF_rel {b0 r1 r2 r3 r7 : ByteArray} {x1 x2 x3 x7 : Int} {c1 c2 c3 c7 : Bool} (k1 : x1 ≠ 1) (k3 : x1 ≠ 3) (h1 : NF b0 = (x1, r1, c1)) (h2 : NF r1 = (x2, r2, c2)) (h3 : NF r2 = (x3, r3, c3)) (h7 : NF r3 = (x7, r7, c7)) :
    bodyF (b0, false) = (⟨x1, x2, x3, 0, 0, 0, 0, 0, 0, ⟨#[]⟩⟩, x7, r7, (((false || c1) || c2) || c3) || c7) := by
  simp only [bodyF, rd_of h1, rd_of h2, rd_of h3, rd_of h7, if_neg k1, if_neg k3]
structure RB (gm : Nat) (cs : Array Value) (w8 w' : World) : Prop where
  mb : Blk w' 0 gm cs 28
  bl : Below w8.heap.size w8 w'
theorem RB.keep {gm : Nat} {cs : Array Value} {w8 w' w'' : World} (h : RB gm cs w8 w') (hb : Below w'.heap.size w' w'') : RB gm cs w8 w'' := ⟨h.mb.keep hb, btrans h.bl hb⟩
theorem RB.all {gm : Nat} {mk mid mseq mg mwa mwe mam mun mco : Int} {s : ByteArray} {w8 w' : World} (h : RB gm #[.int .i64 mk, .int .i64 mid, .int .i64 mseq, .int .i64 mg, .int .i64 mwa, .int .i64 mwe, .int .i64 mam, .int .i64 mun, .int .i64 mco, .string s] w8 w') : w'.cell? ⟨gm, 0, none⟩ = some (.int .i64 mk) ∧ w'.cell? ⟨gm, 1, none⟩ = some (.int .i64 mid) ∧ w'.cell? ⟨gm, 2, none⟩ = some (.int .i64 mseq) ∧ w'.cell? ⟨gm, 3, none⟩ = some (.int .i64 mg) ∧ w'.cell? ⟨gm, 4, none⟩ = some (.int .i64 mwa) ∧ w'.cell? ⟨gm, 5, none⟩ = some (.int .i64 mwe) ∧ w'.cell? ⟨gm, 6, none⟩ = some (.int .i64 mam) ∧ w'.cell? ⟨gm, 7, none⟩ = some (.int .i64 mun) ∧ w'.cell? ⟨gm, 8, none⟩ = some (.int .i64 mco) ∧ w'.cell? ⟨gm, 9, none⟩ = some (.string s) ∧ RB gm #[.int .i64 mk, .int .i64 mid, .int .i64 mseq, .int .i64 mg, .int .i64 mwa, .int .i64 mwe, .int .i64 mam, .int .i64 mun, .int .i64 mco, .string s] w8 w' :=
  ⟨(h.mb.cell 0).trans rfl, (h.mb.cell 1).trans rfl, (h.mb.cell 2).trans rfl, (h.mb.cell 3).trans rfl, (h.mb.cell 4).trans rfl, (h.mb.cell 5).trans rfl, (h.mb.cell 6).trans rfl, (h.mb.cell 7).trans rfl, (h.mb.cell 8).trans rfl, (h.mb.cell 9).trans rfl, h⟩
theorem RB.pick {gm : Nat} {mk mid mseq mg mwa mwe mam mun mco : Int} {s : ByteArray} {w8 w' : World} (hH : w'.cell? ⟨gm, 0, none⟩ = some (.int .i64 mk) ∧ w'.cell? ⟨gm, 1, none⟩ = some (.int .i64 mid) ∧ w'.cell? ⟨gm, 2, none⟩ = some (.int .i64 mseq) ∧ w'.cell? ⟨gm, 3, none⟩ = some (.int .i64 mg) ∧ w'.cell? ⟨gm, 4, none⟩ = some (.int .i64 mwa) ∧ w'.cell? ⟨gm, 5, none⟩ = some (.int .i64 mwe) ∧ w'.cell? ⟨gm, 6, none⟩ = some (.int .i64 mam) ∧ w'.cell? ⟨gm, 7, none⟩ = some (.int .i64 mun) ∧ w'.cell? ⟨gm, 8, none⟩ = some (.int .i64 mco) ∧ w'.cell? ⟨gm, 9, none⟩ = some (.string s) ∧ RB gm #[.int .i64 mk, .int .i64 mid, .int .i64 mseq, .int .i64 mg, .int .i64 mwa, .int .i64 mwe, .int .i64 mam, .int .i64 mun, .int .i64 mco, .string s] w8 w') : RB gm #[.int .i64 mk, .int .i64 mid, .int .i64 mseq, .int .i64 mg, .int .i64 mwa, .int .i64 mwe, .int .i64 mam, .int .i64 mun, .int .i64 mco, .string s] w8 w' := hH.2.2.2.2.2.2.2.2.2.2
theorem conv4d (w : World) (a b c d : Int) : (convert 22 9 (.slice (some ⟨w.heap.size, 0, none⟩) 4 4)).run Try.prog (w.alloc (.cells #[.int .u8 a, .int .u8 b, .int .u8 c, .int .u8 d] 5)).drew = .ok (.string (strOfNums [a, b, c, d])) (w.alloc (.cells #[.int .u8 a, .int .u8 b, .int .u8 c, .int .u8 d] 5)).drew :=
  conv4 w.drew a b c d
theorem outF_head {t r : ByteArray} {n : Int} {c : Bool} (h1 : t.size ≠ 0) (h2 : bt t 0 = 87) (h3 : ¬ (t.size = 1 ∨ (t.size = 2 ∧ 128 ≤ bt t 1))) (hn : NF (t.extract 1 t.size) = (n, r, c)) :
    outF t = if c = true ∨ 200 < n then outC M0 0 3 else if (r.size : Int) < n + 4 then outC M0 0 9 else if t.extract (t.size - r.size + n.toNat + 4 - 4) (t.size - r.size + n.toNat + 4) = sum4 (t.extract 1 (t.size - r.size + n.toNat + 4 - 4)) then tailO t (t.size - r.size + n.toNat + 4) else outC M0 0 8 := by
  rw [outF, if_neg (by rintro (h | h); exact h1 h; exact h h2), if_neg h3, hn]
set_option maxHeartbeats 8000000 in
theorem s_read_head (t : ByteArray) (w : World) (ht : t.size ≤ 20000) (h1 : t.size ≠ 0) (h2 : bt t 0 = 87) (h3 : ¬ (t.size = 1 ∨ (t.size = 2 ∧ 128 ≤ bt t 1))) : Calls Try.prog 60 #[.string t] w fun e w' => e = .returned (.agg (outF t)) ∧ Below w.heap.size w w' := by
  have hu := Try.underlying46
  have hu2 := Try.underlying28
  have hu3 := Try.underlying112
  have HO := Lib.hid (fun n r c => outF_head (n := n) (r := r) (c := c) h1 h2 h3)
  have b1 : ((t.size : Int) == 0) = false := beq_eq_false_iff_ne.mpr (by omega)
  have h0 : 0 < t.size := by omega
  have hc : ((t[0]'h0).toNat : Int) = 87 := (bt_at t 0 (by simpa using h0)).trans h2
  clear h2
  have b3 : ((t.size : Int) == 1) = false := beq_eq_false_iff_ne.mpr (by omega)
  have h01 : 1 < t.size := by omega
  have hc1 : ((t[1]'h01).toNat : Int) = bt t 1 := bt_at t 1 (by simpa using h01)
  generalize outF t = O at *
  have hd : ((t.size : Int) == 2) = false ∨ (((t.size : Int) == 2) = true ∧ decide (128 ≤ bt t 1) = false) := by
    by_cases h4 : t.size = 2
    · exact .inr ⟨by simp [h4], decide_eq_false fun h => h3 (.inr ⟨h4, h⟩)⟩
    · exact .inl (beq_eq_false_iff_ne.mpr (by omega))
  clear h3 h1
  go_enter Try.func60, Try.ntmps60
  go_upto_region 3 with fail
  have R0 : Room (w.alloc (.cells #[.int .i64 0, .int .i64 0, .int .i64 0, .int .i64 0, .int .i64 0, .int .i64 0, .int .i64 0, .int .i64 0, .int .i64 0, .string ⟨#[]⟩, .int .i64 0, .int .i64 0] 46)) w.heap.size w.heap.size 12 46 := Room.new (Nat.le_refl _) rfl
  have B0 : Below w.heap.size w (w.alloc (.cells #[.int .i64 0, .int .i64 0, .int .i64 0, .int .i64 0, .int .i64 0, .int .i64 0, .int .i64 0, .int .i64 0, .int .i64 0, .string ⟨#[]⟩, .int .i64 0, .int .i64 0] 46)) := (Below.refl _ _).alloc (Nat.le_refl _) _
  have Z0 : w.heap.size + 1 ≤ (w.alloc (.cells #[.int .i64 0, .int .i64 0, .int .i64 0, .int .i64 0, .int .i64 0, .int .i64 0, .int .i64 0, .int .i64 0, .int .i64 0, .string ⟨#[]⟩, .int .i64 0, .int .i64 0] 46)).heap.size := by simp
  generalize hg : w.heap.size = g at *
  generalize w.alloc (.cells #[.int .i64 0, .int .i64 0, .int .i64 0, .int .i64 0, .int .i64 0, .int .i64 0, .int .i64 0, .int .i64 0, .int .i64 0, .string ⟨#[]⟩, .int .i64 0, .int .i64 0] 46) = w0 at *
  clear hc
  go_cut [31] (fun v31 wc => v31 = .bool false ∧ wc = w0)
  case first =>
    rcases hd with hd | ⟨hd, hd2⟩
    · go_wp2_with fail
      go_meet
      exact ⟨rfl, rfl⟩
    · go_wp2_with fail
      go_meet
      exact ⟨rfl, rfl⟩
  case rest =>
    obtain ⟨rfl, rfl⟩ := hcut
    clear hc1 hd b1 b3
    have hw : w.heap.size + 0 = g := hg
    clear hg
    go_wp2_with fail
    refine (s_numq wc.heap.size wc.heap.size (t.extract 1 t.size) false _ (Blk.new (Nat.le_refl _) _ _) (by simp [ByteArray.size_extract]; omega)).mono ?_
    rintro e w1 ⟨n, r, c, hn, rfl, hB, hG⟩
    rw [Bool.false_or] at hB
    have HN := Lib.hid hn
    have hrz := NF_size hn
    rw [ByteArray.size_extract] at hrz
    have R1 := (R0.keep ((Below.refl _ _).alloc (Nat.le_refl _) _)).grown hG (by omega)
    have B1 := below_grown (B0.trans ((Below.refl wc.heap.size wc).alloc (Nat.le_refl _) (.cells #[.string (t.extract 1 t.size), .bool false] 112) |>.mono (by omega))) hG (by omega) (by omega)
    have Z1 : wc.heap.size < w1.heap.size := hB.lt
    generalize hgr : wc.heap.size = gr at *
    have HO1 := Lib.hid (HO.out n r c hn)
    clear HO hn hG R0 B0 hgr
    have HB := Lib.hid hB
    clear hB
    have H1 := Lib.hid R1
    clear R1
    have e0 := (HB.out.cell 0).trans (by rfl)
    have e1 := (HB.out.cell 1).trans (by rfl)
    have BW : Below w.heap.size w w1 := by
      have h := hw
      rw [Nat.add_zero] at h
      rw [h]
      exact B1
    clear B1
    cases c
    · obtain ⟨ht1, n0, n1⟩ := NF_was HN.out
      have HT1 := Lib.hid ht1
      clear ht1
      by_cases h200 : 200 < n
      · obtain rfl : O = outC M0 0 3 := HO1.out.trans (if_pos (.inr h200))
        have b6 : decide (200 < n) = true := decide_eq_true h200
        clear HO1
        go_wp2_with ((with_reducible refine at_store (ty := 46) (y := .tmp 47) ?_); refine wpl_store_row rfl 46 (.tmp 2) (.tmp 47) rfl g _ rfl rfl H1.out rfl (by kernel_rfl) (by simp [Value.oneCell']) ?_; intro hout)
        refine bodyPost_ret (v := .agg (outC M0 0 3)) (results_cell_row rfl _ _ _ _ _ _ _ rfl hout.2 hu rfl (by kernel_rfl)) rfl ⟨rfl, ?_⟩
        exact below_setRow BW (by omega) _
      · have b6 : decide (200 < n) = false := decide_eq_false h200
        have HO2 := Lib.hid (HO1.out.trans (if_neg (by rintro (h | h); cases h; exact h200 h)))
        clear HO1
        by_cases h4 : (r.size : Int) < n + 4
        · obtain rfl : O = outC M0 0 9 := HO2.out.trans (if_pos h4)
          have b7 : decide ((r.size : Int) < n + 4) = true := decide_eq_true h4
          clear HO2
          go_wp2_with ((with_reducible refine at_store (ty := 46) (y := .tmp 56) ?_); refine wpl_store_row rfl 46 (.tmp 2) (.tmp 56) rfl g _ rfl rfl H1.out rfl (by kernel_rfl) (by simp [Value.oneCell']) ?_; intro hout)
          refine bodyPost_ret (v := .agg (outC M0 0 9)) (results_cell_row rfl _ _ _ _ _ _ _ rfl hout.2 hu rfl (by kernel_rfl)) rfl ⟨rfl, ?_⟩
          exact below_setRow BW (by omega) _
        · have b7 : decide ((r.size : Int) < n + 4) = false := decide_eq_false h4
          have HO3 := Lib.hid (HO2.out.trans (if_neg h4))
          clear HO2
          go_upto_region 11 with fail
          clear b7 b6
          obtain ⟨V, hV⟩ : ∃ V : Nat, V = t.size - r.size + n.toNat := ⟨_, rfl⟩
          have v1 : 1 ≤ V := by omega
          have v2 : V + 4 ≤ t.size := by omega
          go_cut [5] (fun v5 wc => v5 = .int .i64 ((V : Int) + 4) ∧ wc = w1)
          case first =>
            go_wp2_with fail
            go_meet
            exact ⟨by rw [show (t.size : Int) - r.size + n + 4 = (V : Int) + 4 by omega], rfl⟩
          case rest =>
            obtain ⟨rfl, rfl⟩ := hcut
            rename_i w1
            have HV := Lib.hid hV
            have HO4 : Hid (O = if t.extract V (V + 4) = sum4 (t.extract 1 V) then tailO t (V + 4) else outC M0 0 8) := Lib.hid (by rw [HO3.out, ← hV, Nat.add_sub_cancel])
            clear HO3 hV
            go_wp2_with fail
            have bz : (t.extract 1 V).size ≤ 20000 := by simp only [ByteArray.size_extract]; omega
            refine (s_l11Sum _ _ bz).mono ?_
            rintro e w5 ⟨rfl, b5⟩
            obtain ⟨-, -, s0, s1⟩ := sumv_is _ bz
            have HB5 := Lib.hid (HB.out.keep b5)
            have H5 := Lib.hid (H1.out.keep b5)
            have BW5 := btrans BW b5
            clear HB H1 BW b5 e0 e1 bz
            generalize hsv : sumv (t.extract 1 V) = sv at *
            have HS4 : Hid (sum4 (t.extract 1 V) = strOfNums [sv / 16777216, sv / 65536 % 256, sv / 256 % 256, sv % 256]) := Lib.hid (by rw [sum4, hsv])
            clear hsv
            have hcv := fun a b c d => conv4d w5 a b c d
            have sw : IntKind.i64.wrap (V : Int) = (V : Int) := by rw [IntKind.wrap_i64]; omega
            have v0 : (0 : Int) ≤ (V : Int) := by omega
            have v3 : (0 : Int) ≤ (V : Int) + 4 := by omega
            have v4 : (V : Int) + 4 ≤ (t.size : Int) := by omega
            have v5 : (V : Int) ≤ (V : Int) + 4 := by omega
            have v6 : ((V : Int) + 4).toNat = V + 4 := by omega
            have h4 := so4
            go_upto_region 14 with fail
            go_cut [92] (fun v92 wc => ∃ q : Bool, v92 = .bool q ∧ Hid (q = decide (t.extract V (V + 4) ≠ sum4 (t.extract 1 V))) ∧ Below w5.heap.size w5 wc)
            case first =>
              go_region
              all_goals (go_wp2_with fail; go_meet)
              all_goals (exact ⟨_, rfl, Lib.hid (by rw [HS4.out, bl_eq]; simp), ((Below.refl _ _).alloc (Nat.le_refl _) _).drew⟩)
            case rest =>
              obtain ⟨q, rfl, HQ, b6⟩ := hcut
              rename_i w6
              have HB6 := Lib.hid (HB5.out.keep b6)
              have H6 := Lib.hid (H5.out.keep b6)
              have BW6 := btrans BW5 b6
              clear HB5 H5 BW5 b6 hcv sw v0 v3 v4 v5 v6 h4 s0 s1
              cases q
              · have HO5 : Hid (O = tailO t (V + 4)) := Lib.hid (HO4.out.trans (if_pos (by have := HQ.out; simpa using this)))
                have e0 := (HB6.out.cell 0).trans (by rfl)
                have f0 := HB6.out.frozen 0
                clear HO4 HQ HS4
                have x1 : (0 : Int) ≤ n := n0
                have x2 : n ≤ (r.size : Int) := by omega
                go_wp2_with fail
                refine (s_numq 0 gr (r.extract 0 n.toNat) false _ ((HB6.out.setc 0 _).cast (by rfl) |>.base (Nat.zero_le _)) (by simp only [ByteArray.size_extract]; omega)).mono ?_
                rintro e w7 ⟨x1, r1, c1, hx, rfl, hb, hgw⟩
                have zb : (r.extract 0 n.toNat).size ≤ 20000 := by simp only [ByteArray.size_extract]; omega
                have z1 : r1.size ≤ 20000 := Nat.le_trans (NF_size hx) zb
                have N1 := Lib.hid hx
                have O7 := Lib.hid ((H6.out.set_far (p := ⟨gr, 0, none⟩) (by show g ≠ gr; omega) (.string (r.extract 0 n.toNat))).grown hgw (by omega))
                have BW7 := below_row (BW6.setCell (p := ⟨gr, 0, none⟩) (by show w.heap.size ≤ gr; omega) (.string (r.extract 0 n.toNat))) hgw (by omega)
                have HB7 := Lib.hid hb
                have L7 : gr < w7.heap.size := hb.lt
                clear hx hb hgw H6 BW6 HB6 e0 f0
                have HTL := Lib.hid (fun m kk rest bad => tail_spec (m := m) (kk := kk) (rest := rest) (bad := bad) (used := V + 4) (by omega) HN.out)
                generalize r.extract 0 n.toNat = b0 at *
                go_wp2_with fail
                have S1 : RS g gr w7.heap.size r1 (false || c1) #[.int .i64 x1, .int .i64 0, .int .i64 0, .int .i64 0, .int .i64 0, .int .i64 0, .int .i64 0, .int .i64 0, .int .i64 0, .string ⟨#[]⟩] w (w7.alloc (.cells #[.int .i64 x1, .int .i64 0, .int .i64 0, .int .i64 0, .int .i64 0, .int .i64 0, .int .i64 0, .int .i64 0, .int .i64 0, .string ⟨#[]⟩] 28)) :=
                  ⟨HB7.out.keep ((Below.refl _ _).alloc (Nat.le_refl _) _), Blk.new (Nat.zero_le _) _ _, O7.out.keep ((Below.refl _ _).alloc (Nat.le_refl _) _), btrans BW7 ((Below.refl _ _).alloc (Nat.le_refl _) _), hw, by omega, L7⟩
                generalize w7.heap.size = gm at *
                clear O7 HB7 BW7 L7
                refine (s_numq 0 gr _ _ _ S1.rb z1).mono ?_; rintro e w' ⟨x2, r2, c2, hx, rfl, hb, hgw⟩; have z2 : r2.size ≤ 20000 := Nat.le_trans (NF_size hx) z1; have N2 := Lib.hid hx; have T2 := S1.num hb hgw; clear hx hb hgw S1
                have m2 := (T2.mb.cell 1).trans (by rfl)
                have f2 := T2.mb.frozen 1
                go_upto_region 19 with fail
                have S2 := T2.set 1 (.int .i64 x2) (ds := #[.int .i64 x1, .int .i64 x2, .int .i64 0, .int .i64 0, .int .i64 0, .int .i64 0, .int .i64 0, .int .i64 0, .int .i64 0, .string ⟨#[]⟩]) rfl
                clear m2 f2 T2
                go_cut [] (fun wc => ∃ x3 r3 c3, Hid (NF r2 = (x3, r3, c3)) ∧ r3.size ≤ 20000 ∧ RS g gr gm r3 (((false || c1) || c2) || c3) #[.int .i64 x1, .int .i64 x2, .int .i64 x3, .int .i64 0, .int .i64 0, .int .i64 0, .int .i64 0, .int .i64 0, .int .i64 0, .string ⟨#[]⟩] w wc)
                case first =>
                  go_wp2_with fail
                  refine (s_numq 0 gr _ _ _ S2.rb z2).mono ?_; rintro e w' ⟨x3, r3, c3, hx, rfl, hb, hgw⟩; have z3 : r3.size ≤ 20000 := Nat.le_trans (NF_size hx) z2; have N3 := Lib.hid hx; have T3 := S2.num hb hgw; clear hx hb hgw S2
                  have m3 := (T3.mb.cell 2).trans (by rfl); have f3 := T3.mb.frozen 2; go_wp2_with fail; have S3 := T3.set 2 (.int .i64 x3) (ds := #[.int .i64 x1, .int .i64 x2, .int .i64 x3, .int .i64 0, .int .i64 0, .int .i64 0, .int .i64 0, .int .i64 0, .int .i64 0, .string ⟨#[]⟩]) rfl; clear m3 f3 T3
                  go_meet
                  exact ⟨x3, r3, c3, N3, z3, S3⟩
                case rest =>
                obtain ⟨x3, r3, c3, N3, z3, S3⟩ := hcut
                clear S2
                rename_i hK
                refine hK _ _ ?_
                clear hK
                go_step
                have HO5' := HO5
                go_cut [] (fun wc => ∃ (m : M) (rr : ByteArray) (bad : Bool), m.note = ⟨#[]⟩ ∧ rr.size ≤ 20000 ∧ RS g gr gm rr bad #[.int .i64 m.k, .int .i64 m.id, .int .i64 m.seq, .int .i64 m.g, .int .i64 m.wa, .int .i64 m.we, .int .i64 m.am, .int .i64 m.un, .int .i64 m.co, .string ⟨#[]⟩] w wc ∧ Hid (∀ x7 r7 c7, NF rr = (x7, r7, c7) → bodyF (b0, false) = (m, x7, r7, bad || c7)))
                case first =>
                  have m3 := (S3.mb.cell 0).trans (by rfl)
                  by_cases k1 : x1 = 1
                  · subst k1
                    go_wp2_with fail
                    refine (s_numq 0 gr _ _ _ S3.rb z3).mono ?_; rintro e w' ⟨x4, r4, c4, hx, rfl, hb, hgw⟩; have z4 : r4.size ≤ 20000 := Nat.le_trans (NF_size hx) z3; have N4 := Lib.hid hx; have T4 := S3.num hb hgw; clear hx hb hgw S3
                    have m4 := (T4.mb.cell 3).trans (by rfl); have f4 := T4.mb.frozen 3; go_wp2_with fail; have S4 := T4.set 3 (.int .i64 x4) (ds := #[.int .i64 1, .int .i64 x2, .int .i64 x3, .int .i64 x4, .int .i64 0, .int .i64 0, .int .i64 0, .int .i64 0, .int .i64 0, .string ⟨#[]⟩]) rfl; clear m4 f4 T4
                    refine (s_numq 0 gr _ _ _ S4.rb z4).mono ?_; rintro e w' ⟨x5, r5, c5, hx, rfl, hb, hgw⟩; have z5 : r5.size ≤ 20000 := Nat.le_trans (NF_size hx) z4; have N5 := Lib.hid hx; have T5 := S4.num hb hgw; clear hx hb hgw S4
                    have m5 := (T5.mb.cell 4).trans (by rfl); have f5 := T5.mb.frozen 4; go_wp2_with fail; have S5 := T5.set 4 (.int .i64 x5) (ds := #[.int .i64 1, .int .i64 x2, .int .i64 x3, .int .i64 x4, .int .i64 x5, .int .i64 0, .int .i64 0, .int .i64 0, .int .i64 0, .string ⟨#[]⟩]) rfl; clear m5 f5 T5
                    refine (s_numq 0 gr _ _ _ S5.rb z5).mono ?_; rintro e w' ⟨x6, r6, c6, hx, rfl, hb, hgw⟩; have z6 : r6.size ≤ 20000 := Nat.le_trans (NF_size hx) z5; have N6 := Lib.hid hx; have T6 := S5.num hb hgw; clear hx hb hgw S5
                    have m6 := (T6.mb.cell 5).trans (by rfl); have f6 := T6.mb.frozen 5; go_wp2_with fail; have S6 := T6.set 5 (.int .i64 x6) (ds := #[.int .i64 1, .int .i64 x2, .int .i64 x3, .int .i64 x4, .int .i64 x5, .int .i64 x6, .int .i64 0, .int .i64 0, .int .i64 0, .string ⟨#[]⟩]) rfl; clear m6 f6 T6
                    go_meet
                    exact ⟨⟨1, x2, x3, x4, x5, x6, 0, 0, 0, ⟨#[]⟩⟩, r6, _, rfl, z6, S6, Lib.hid fun x7 r7 c7 h7 => bodyF_get N1.out N2.out N3.out N4.out N5.out N6.out h7⟩
                  · by_cases k3 : x1 = 3
                    · subst k3
                      go_wp2_with fail
                      refine (s_numq 0 gr _ _ _ S3.rb z3).mono ?_; rintro e w' ⟨x4, r4, c4, hx, rfl, hb, hgw⟩; have z4 : r4.size ≤ 20000 := Nat.le_trans (NF_size hx) z3; have N4 := Lib.hid hx; have T4 := S3.num hb hgw; clear hx hb hgw S3
                      have m4 := (T4.mb.cell 6).trans (by rfl); have f4 := T4.mb.frozen 6; go_wp2_with fail; have S4 := T4.set 6 (.int .i64 x4) (ds := #[.int .i64 3, .int .i64 x2, .int .i64 x3, .int .i64 0, .int .i64 0, .int .i64 0, .int .i64 x4, .int .i64 0, .int .i64 0, .string ⟨#[]⟩]) rfl; clear m4 f4 T4
                      refine (s_numq 0 gr _ _ _ S4.rb z4).mono ?_; rintro e w' ⟨x5, r5, c5, hx, rfl, hb, hgw⟩; have z5 : r5.size ≤ 20000 := Nat.le_trans (NF_size hx) z4; have N5 := Lib.hid hx; have T5 := S4.num hb hgw; clear hx hb hgw S4
                      have m5 := (T5.mb.cell 7).trans (by rfl); have f5 := T5.mb.frozen 7; go_wp2_with fail; have S5 := T5.set 7 (.int .i64 x5) (ds := #[.int .i64 3, .int .i64 x2, .int .i64 x3, .int .i64 0, .int .i64 0, .int .i64 0, .int .i64 x4, .int .i64 x5, .int .i64 0, .string ⟨#[]⟩]) rfl; clear m5 f5 T5
                      refine (s_numq 0 gr _ _ _ S5.rb z5).mono ?_; rintro e w' ⟨x6, r6, c6, hx, rfl, hb, hgw⟩; have z6 : r6.size ≤ 20000 := Nat.le_trans (NF_size hx) z5; have N6 := Lib.hid hx; have T6 := S5.num hb hgw; clear hx hb hgw S5
                      have m6 := (T6.mb.cell 8).trans (by rfl); have f6 := T6.mb.frozen 8; go_wp2_with fail; have S6 := T6.set 8 (.int .i64 x6) (ds := #[.int .i64 3, .int .i64 x2, .int .i64 x3, .int .i64 0, .int .i64 0, .int .i64 0, .int .i64 x4, .int .i64 x5, .int .i64 x6, .string ⟨#[]⟩]) rfl; clear m6 f6 T6
                      go_meet
                      exact ⟨⟨3, x2, x3, 0, 0, 0, x4, x5, x6, ⟨#[]⟩⟩, r6, _, rfl, z6, S6, Lib.hid fun x7 r7 c7 h7 => bodyF_ans N1.out N2.out N3.out N4.out N5.out N6.out h7⟩
                    · have b8 : (x1 == 1) = false := beq_eq_false_iff_ne.mpr k1
                      have b9 : (x1 == 3) = false := beq_eq_false_iff_ne.mpr k3
                      have HK := Lib.hid (And.intro k1 k3)
                      clear k1 k3
                      go_wp2_with fail
                      go_meet
                      exact ⟨⟨x1, x2, x3, 0, 0, 0, 0, 0, 0, ⟨#[]⟩⟩, r3, _, rfl, z3, S3, Lib.hid fun x7 r7 c7 h7 => bodyF_rel HK.out.1 HK.out.2 N1.out N2.out N3.out h7⟩
                case rest =>
                  obtain ⟨⟨mk, mid, mseq, mg, mwa, mwe, mam, mun, mco, note⟩, r6, bd, hnote, z6, S6, HBF⟩ := hcut
                  simp only at hnote S6
                  subst hnote
                  clear S3 N1 N2 N3
                  go_wp2_with fail
                  refine (s_numq 0 gr _ _ _ S6.rb z6).mono ?_; rintro e w' ⟨x7, r7, c7, hx, rfl, hb, hgw⟩; have z7 : r7.size ≤ 20000 := Nat.le_trans (NF_size hx) z6; have N7 := Lib.hid hx; have T7 := S6.num hb hgw; clear hx hb hgw S6
                  obtain ⟨bad, hbad⟩ : ∃ b : Bool, b = (bd || c7) := ⟨_, rfl⟩
                  rw [← hbad] at T7
                  obtain ⟨E1, E2, E3⟩ := HTL.out _ _ _ _ ((HBF.out x7 r7 c7 N7.out).trans (by rw [← hbad]))
                  have HE1 := Lib.hid E1
                  have HE2 := Lib.hid E2
                  have HE3 := Lib.hid (E3 (by omega))
                  have hpos : bad = false → 0 ≤ x7 := fun h => by
                    have h7 : c7 = false := by rw [hbad] at h; exact (Bool.or_eq_false_iff.mp h).2
                    have := N7.out; rw [h7] at this; exact (NF_was this).2.1
                  have HPOS := Lib.hid hpos
                  clear E1 E2 E3 HTL hbad hpos HBF N7
                  cases bad
                  · have x70 := HPOS.out rfl
                    clear HPOS
                    by_cases hk : (r7.size : Int) < x7
                    · obtain rfl : O = outC M0 0 3 := HO5.out.trans (HE1.out (.inr hk))
                      have e1 := (T7.rb.cell 1).trans (by rfl)
                      have e0 := (T7.rb.cell 0).trans (by rfl)
                      have b9 : decide ((r7.size : Int) < x7) = true := decide_eq_true hk
                      have HOB := Lib.hid T7.ob
                      have HBL := Lib.hid T7.bl
                      clear T7 HE1 HE2 HE3 HO5
                      go_wp2_with ((with_reducible refine at_store (ty := 46) (y := .tmp 151) ?_); refine wpl_store_row rfl 46 (.tmp 2) (.tmp 151) rfl g _ rfl rfl HOB.out rfl (by kernel_rfl) (by simp [Value.oneCell']) ?_; intro hout)
                      refine bodyPost_ret (v := .agg (outC M0 0 3)) (results_cell_row rfl _ _ _ _ _ _ _ rfl hout.2 hu rfl (by kernel_rfl)) rfl ⟨rfl, ?_⟩
                      exact below_setRow HBL.out (by omega) _
                    · have e1 := (T7.rb.cell 1).trans (by rfl)
                      have e0 := (T7.rb.cell 0).trans (by rfl)
                      have m9 := (T7.mb.cell 9).trans (by rfl)
                      have f9 := T7.mb.frozen 9
                      have b9 : decide ((r7.size : Int) < x7) = false := decide_eq_false hk
                      have b10 : x7 ≤ (r7.size : Int) := by omega
                      go_upto_region 33 with fail
                      have S8 := T7.set 9 (.string (r7.extract 0 x7.toNat)) (ds := #[.int .i64 mk, .int .i64 mid, .int .i64 mseq, .int .i64 mg, .int .i64 mwa, .int .i64 mwe, .int .i64 mam, .int .i64 mun, .int .i64 mco, .string (r7.extract 0 x7.toNat)]) rfl
                      have zs : (r7.extract 0 x7.toNat).size ≤ 9223372036854775807 := by simp only [ByteArray.size_extract]; omega
                      clear e1 e0 m9 f9 b9 b10 T7 HE1 hk
                      generalize r7.extract 0 x7.toNat = s at *
                      generalize World.setCell _ _ _ = w8 at *
                      have v0 : (0 : Int) ≤ (V : Int) := by omega
                      have v3 : (0 : Int) ≤ (V : Int) + 4 := by omega
                      have v4 : (V : Int) + 4 ≤ (t.size : Int) := by omega
                      have v6 : ((V : Int) + 4).toNat = V + 4 := by omega
                      go_cut [164] (fun v164 wc => ∃ q : Bool, v164 = .bool q ∧ Hid (q = decide (mtextR mk mid mseq mg mwa mwe mam mun mco s ≠ t.extract 0 (V + 4))) ∧ Below w8.heap.size w8 wc)
                      case first =>
                        have B8 : RB gm #[.int .i64 mk, .int .i64 mid, .int .i64 mseq, .int .i64 mg, .int .i64 mwa, .int .i64 mwe, .int .i64 mam, .int .i64 mun, .int .i64 mco, .string s] w8 w8 := ⟨S8.mb, Below.refl _ _⟩
                        go_region_held3 (fun w' => w'.cell? ⟨gm, 0, none⟩ = some (.int .i64 mk) ∧ w'.cell? ⟨gm, 1, none⟩ = some (.int .i64 mid) ∧ w'.cell? ⟨gm, 2, none⟩ = some (.int .i64 mseq) ∧ w'.cell? ⟨gm, 3, none⟩ = some (.int .i64 mg) ∧ w'.cell? ⟨gm, 4, none⟩ = some (.int .i64 mwa) ∧ w'.cell? ⟨gm, 5, none⟩ = some (.int .i64 mwe) ∧ w'.cell? ⟨gm, 6, none⟩ = some (.int .i64 mam) ∧ w'.cell? ⟨gm, 7, none⟩ = some (.int .i64 mun) ∧ w'.cell? ⟨gm, 8, none⟩ = some (.int .i64 mco) ∧ w'.cell? ⟨gm, 9, none⟩ = some (.string s) ∧ RB gm #[.int .i64 mk, .int .i64 mid, .int .i64 mseq, .int .i64 mg, .int .i64 mwa, .int .i64 mwe, .int .i64 mam, .int .i64 mun, .int .i64 mco, .string s] w8 w') (first | exact (B8.keep (Below.refl _ _).drew).all | exact hB.all) (first
                          | (go_at_call 24; refine (s_MsgBytes _ _ _ _ _ _ _ _ _ _ _ zs).mono ?_; rintro e w' ⟨rfl, hb⟩; have hB := (RB.pick (by assumption)).keep hb)
                          | fail)
                        all_goals (go_wp2_with fail; go_meet)
                        all_goals (exact ⟨_, rfl, Lib.hid (by rw [bl_eq]; simp), (RB.pick (by assumption)).bl⟩)
                      case rest =>
                        obtain ⟨q, rfl, HQ, b8⟩ := hcut
                        have S9 := S8.keep b8
                        clear S8 b8 v0 v3 v4 v6
                        have HOB := Lib.hid S9.ob
                        have HBL := Lib.hid S9.bl
                        cases q
                        · obtain rfl : O = outC ⟨mk, mid, mseq, mg, mwa, mwe, mam, mun, mco, s⟩ ((V : Int) + 4) 0 := HO5.out.trans ((HE3.out (by have := HQ.out; simpa using this)).trans (by rw [show ((V + 4 : Nat) : Int) = (V : Int) + 4 by omega]))
                          have HMB := Lib.hid S9.mb
                          clear S9 HE2 HE3 HO5 HQ
                          go_wp2_with (first | ((with_reducible refine at_load (ty := 28) (x := .tmp 8) ?_); refine wpl_load_row rfl 28 (.tmp 8) rfl gm rfl HMB.out rfl (by kernel_rfl) hu2 rfl ?_) | ((with_reducible refine at_store (ty := 46) (y := .tmp 168) ?_); refine wpl_store_row rfl 46 (.tmp 2) (.tmp 168) rfl g _ rfl rfl HOB.out rfl (by kernel_rfl) (by simp [Value.oneCell']) ?_; intro hout))
                          refine bodyPost_ret (v := .agg (outC ⟨mk, mid, mseq, mg, mwa, mwe, mam, mun, mco, s⟩ ((V : Int) + 4) 0)) (results_cell_row rfl _ _ _ _ _ _ _ rfl hout.2 hu rfl (by kernel_rfl)) rfl ⟨rfl, ?_⟩
                          exact below_setRow HBL.out (by omega) _
                        · obtain rfl : O = outC M0 0 3 := HO5.out.trans (HE2.out (by have := HQ.out; simpa using this))
                          clear S9 HE2 HE3 HO5 HQ
                          go_wp2_with ((with_reducible refine at_store (ty := 46) (y := .tmp 165) ?_); refine wpl_store_row rfl 46 (.tmp 2) (.tmp 165) rfl g _ rfl rfl HOB.out rfl (by kernel_rfl) (by simp [Value.oneCell']) ?_; intro hout)
                          refine bodyPost_ret (v := .agg (outC M0 0 3)) (results_cell_row rfl _ _ _ _ _ _ _ rfl hout.2 hu rfl (by kernel_rfl)) rfl ⟨rfl, ?_⟩
                          exact below_setRow HBL.out (by omega) _
                  · obtain rfl : O = outC M0 0 3 := HO5.out.trans (HE1.out (.inl rfl))
                    have e1 := (T7.rb.cell 1).trans (by rfl)
                    have HOB := Lib.hid T7.ob
                    have HBL := Lib.hid T7.bl
                    clear T7 HE1 HE2 HE3 HO5 HPOS
                    go_wp2_with ((with_reducible refine at_store (ty := 46) (y := .tmp 151) ?_); refine wpl_store_row rfl 46 (.tmp 2) (.tmp 151) rfl g _ rfl rfl HOB.out rfl (by kernel_rfl) (by simp [Value.oneCell']) ?_; intro hout)
                    refine bodyPost_ret (v := .agg (outC M0 0 3)) (results_cell_row rfl _ _ _ _ _ _ _ rfl hout.2 hu rfl (by kernel_rfl)) rfl ⟨rfl, ?_⟩
                    exact below_setRow HBL.out (by omega) _
              · obtain rfl : O = outC M0 0 8 := HO4.out.trans (if_neg (by have := HQ.out; simpa using this))
                clear HO4
                go_wp2_with ((with_reducible refine at_store (ty := 46) (y := .tmp 93) ?_); refine wpl_store_row rfl 46 (.tmp 2) (.tmp 93) rfl g _ rfl rfl H6.out rfl (by kernel_rfl) (by simp [Value.oneCell']) ?_; intro hout)
                refine bodyPost_ret (v := .agg (outC M0 0 8)) (results_cell_row rfl _ _ _ _ _ _ _ rfl hout.2 hu rfl (by kernel_rfl)) rfl ⟨rfl, ?_⟩
                exact below_setRow BW6 (by omega) _
    · obtain rfl : O = outC M0 0 3 := HO1.out.trans (if_pos (.inl rfl))
      clear HO1
      go_wp2_with ((with_reducible refine at_store (ty := 46) (y := .tmp 47) ?_); refine wpl_store_row rfl 46 (.tmp 2) (.tmp 47) rfl g _ rfl rfl H1.out rfl (by kernel_rfl) (by simp [Value.oneCell']) ?_; intro hout)
      refine bodyPost_ret (v := .agg (outC M0 0 3)) (results_cell_row rfl _ _ _ _ _ _ _ rfl hout.2 hu rfl (by kernel_rfl)) rfl ⟨rfl, ?_⟩
      exact below_setRow BW (by omega) _
theorem s_l11Read (t : ByteArray) (w : World) (ht : t.size ≤ 20000) : Calls Try.prog 60 #[.string t] w fun e w' => e = .returned (.agg (outF t)) ∧ Below w.heap.size w w' := by
  by_cases h1 : t.size = 0 ∨ bt t 0 ≠ 87
  · rw [outF, if_pos h1]
    exact s_read_none t w ht h1
  · have h2 : t.size ≠ 0 := fun h => h1 (.inl h)
    have h3 : bt t 0 = 87 := Decidable.byContradiction fun h => h1 (.inr h)
    by_cases h4 : t.size = 1 ∨ (t.size = 2 ∧ 128 ≤ bt t 1)
    · rw [outF, if_neg h1, if_pos h4]
      exact s_read_short t w ht h2 h3 h4
    · exact s_read_head t w ht h2 h3 h4
end Go.Proofs.Ytddemmmbbleofaa.C
