/- The program's WindowOf: the window that a right history leaves; else the empty one. No condition. -/
import Derived.Test.YtddemmmbbleofaaWinW
namespace Go.Proofs.Ytddemmmbbleofaa.C
open Go.RowKit
set_option maxRecDepth 100000
set_option linter.unusedVariables false
set_option linter.unusedSimpArgs false
attribute [local go_sem ↓] Go.wp_at_zero Go.wp_at_succ
/-- Is there a window? -/
def isWin (sp : Int) (ms : List Mk) : Bool := histB ms && (decide (ms.length ≠ 0) && bIn sp 1 1000000)
/-- What WindowOf answers. -/
def WOut (sp : Int) (ms : List Mk) (w : World) (e : Ending) (w' : World) : Prop :=
  (isWin sp ms = false ∧ e = .returned (.agg #[.int .i64 0, .int .i64 0, .int .i64 0, .slice none 0 0]) ∧ Below w.heap.size w w') ∨
  (isWin sp ms = true ∧ ∃ A c, e = .returned (.agg #[.int .i64 sp, .int .i64 (mat ms (ms.length - 1)).1, .int .i64 (mat ms (ms.length - 1)).2, .slice A (winF sp ms (ms.length - 1)).length c]) ∧ Mks w' A (winF sp ms (ms.length - 1)) ∧ Below w.heap.size w w')
theorem OwnK.farRow {w : World} {B b : Nat} {v : Value} {ms : List Mk} (h : OwnK w B v ms) (hb : b < B) (r : Array Value) : OwnK (w.setRow b r) B v ms := by
  refine World.ownsRow.kept h (w' := w.setRow b r) (row := some b) ⟨rfl, rfl, rfl, by simp, fun i hi hne => setRow_other _ _ _ _ (by simpa using hne)⟩ (.inr fun e => by have := (World.ownsRow.lt h _ e).1; omega)
theorem OwnK.farRow2 {w : World} {B b : Nat} {v : Value} {ms : List Mk} (h : OwnK w (B + 1) v ms) (hb : b < B) (r : Array Value) : OwnK (w.setRow b r) (B + 1) v ms := h.farRow (by omega) r
set_option maxHeartbeats 4000000 in
theorem c_WindowOf (sp : Int) (A : Option Addr) (ms : List Mk) (c : Nat) (w : World) (h : Mks w A ms) (hn : ms.length ≤ 3000000) (hc : ms.length ≤ c) :
    Calls Try.prog 31 #[.int .i64 sp, .slice A ms.length c] w (WOut sp ms w) := by
  have hu := Try.underlying56
  have hu2 := Try.underlying59
  have hB0 := (Below.refl _ w).alloc (Nat.le_refl _) (.cells #[.int .i64 0, .int .i64 0, .int .i64 0, .slice none 0 0] 56)
  have R0 := Lib.hid (Blk.new (w := w) (Nat.le_refl _) #[.int .i64 0, .int .i64 0, .int .i64 0, .slice none 0 0] 56)
  have HM := Lib.hid (h.keep hB0)
  have HB0 := Lib.hid hB0
  clear h hB0
  obtain ⟨hb, hhb⟩ : ∃ b, histB ms = b := ⟨_, rfl⟩
  obtain ⟨he0, he⟩ : ∃ b, bIn sp 1 1000000 = b := ⟨_, rfl⟩
  obtain ⟨r, hr⟩ : ∃ r, isWin sp ms = r := ⟨_, rfl⟩
  have HR := Lib.hid hr
  have HH := Lib.hid hhb
  rw [isWin, hhb, he] at hr
  go_enter Try.func31, Try.ntmps31
  go_upto_region 1 with fail
  generalize hw0 : w.alloc (.cells #[.int .i64 0, .int .i64 0, .int .i64 0, .slice none 0 0] 56) = w0 at *
  clear hw0
  have hz0 : w.heap.size < w0.heap.size := R0.out.lt
  have HZ0 := Lib.hid hz0
  go_cut [20] (fun v20 wc => ∃ wx : World, wx = wc ∧ v20 = .bool (!r) ∧ Below w0.heap.size w0 wx)
  case first =>
    clear hz0
    cases hb with
    | false =>
      subst hr
      clear HR
      go_wp2_with (first | (go_at_call 71; refine (c_hist _ _ _ _ HM.out (by omega)).mono ?_; rintro e w1 ⟨rfl, hb1⟩; rw [HH.out]) | fail)
      go_meet
      exact ⟨_, rfl, rfl, hb1⟩
    | true =>
      by_cases h0 : ms.length = 0
      · have b0 : ((ms.length : Int) == 0) = true := beq_iff_eq.2 (by omega)
        rw [show decide (ms.length ≠ 0) = false from decide_eq_false (fun h => h h0)] at hr
        subst hr
        clear HR h0
        go_wp2_with (first | (go_at_call 71; refine (c_hist _ _ _ _ HM.out (by omega)).mono ?_; rintro e w1 ⟨rfl, hb1⟩; rw [HH.out]) | fail)
        go_meet
        exact ⟨_, rfl, rfl, hb1⟩
      · have b0 : ((ms.length : Int) == 0) = false := beq_eq_false_iff_ne.2 (by omega)
        rw [show decide (ms.length ≠ 0) = true from decide_eq_true h0] at hr
        have : he0 = r := by simpa using hr
        subst this
        clear HR h0 hr
        cases he0 <;> (go_wp2_with (first | (go_at_call 71; refine (c_hist _ _ _ _ HM.out (by omega)).mono ?_; rintro e w1 ⟨rfl, hb1⟩; rw [HH.out]) | (go_at_call 50; refine (c_in_v he _).mono ?_; rintro e w' ⟨rfl, rfl⟩) | fail); go_meet; exact ⟨_, rfl, rfl, hb1⟩)
  case rest =>
    obtain ⟨w1, rfl, rfl, hb1⟩ := hcut
    have R1 := Lib.hid (R0.out.keep hb1)
    have HM1 := Lib.hid (HM.out.keep hb1)
    have HB1 := Lib.hid (HB0.out.trans (hb1.mono (Nat.le_of_lt HZ0.out)))
    have HZ1 := Lib.hid (Nat.lt_of_lt_of_le HZ0.out hb1.size)
    clear R0 HM HB0 hb1 HZ0 hz0
    rename_i hK
    refine hK _ _ ?_
    clear hK
    cases r with
    | false =>
      go_wp2_with (first | ((with_reducible refine at_store (ty := 56) (y := .tmp 21) ?_); refine wpl_store_row rfl 56 (.tmp 4) (.tmp 21) rfl w.heap.size _ rfl rfl (R1.out.room (n := 4) rfl) rfl (by kernel_rfl) (by simp [Value.oneCell']) ?_; intro hout) | fail)
      exact bodyPost_ret (v := .agg #[.int .i64 0, .int .i64 0, .int .i64 0, .slice none 0 0]) (results_cell_row rfl _ _ _ _ _ _ _ rfl hout.2 hu rfl (by kernel_rfl)) rfl (.inl ⟨HR.out, rfl, below_setRow HB1.out (Nat.le_refl _) _⟩)
    | true =>
      have hr2 := HR.out
      rw [isWin, Bool.and_eq_true, Bool.and_eq_true, bIn_true] at hr2
      obtain ⟨hh, hne, s0, s1⟩ := hr2
      have hne := of_decide_eq_true hne
      have HH := Lib.hid hh
      have hlen := (hist_of hh).1
      have HX := Lib.hid (hist_of hh).2.1
      have h0 : 0 < ms.length := by omega
      clear hr he hhb hh hne
      obtain ⟨g, off, rfl, hg, hx⟩ := HM1.out.at h0
      obtain ⟨x, L, rfl⟩ : ∃ x L, ms = x :: L := by cases ms with | nil => simp at h0 | cons x L => exact ⟨x, L, rfl⟩
      simp only [List.length_cons] at *
      obtain ⟨x0, x1⟩ := hx 0 h0
      rw [Nat.zero_mul, Nat.add_zero] at x0 x1
      rw [show mat (x :: L) 0 = x from rfl] at x0 x1
      clear hx h0
      have hal := (Below.refl w1.heap.size w1).alloc (Nat.le_refl _) (.cells #[.int .i64 0, .int .i64 0, .int .i64 0, .slice none 0 0] 56)
      have q0 := (hal.cell (p := ⟨g, off, none⟩) hg).trans x0
      have q1 := (hal.cell (p := ⟨g, off + 1, none⟩) hg).trans x1
      clear hal
      go_upto_region 3 with fail
      go_cut [5] (fun v5 wc => ∃ (wx : World) (b5 : Nat), wx = wc ∧ v5 = .pointer (some ⟨b5, 0, none⟩) ∧ w1.heap.size ≤ b5 ∧ Blk wx 0 b5 #[.int .i64 sp, .int .i64 x.1, .int .i64 x.2, .slice none 0 0] 56 ∧ Below w1.heap.size w1 wx)
      case first =>
        go_region
        all_goals (go_wp2_with fail; go_meet)
        all_goals exact ⟨_, _, rfl, rfl, Nat.le_refl _, (Blk.new (Nat.zero_le _) _ _).drew, ((Below.refl _ _).alloc (Nat.le_refl _) _).drew⟩
      case rest =>
        obtain ⟨w2, b5, rfl, rfl, h5b, hB5, hb2⟩ := hcut
        clear x0 x1 q0 q1
        have HB5 := Lib.hid hB5
        have HB2 := Lib.hid hb2
        have H5B := Lib.hid h5b
        have HL5 := Lib.hid hB5.lt
        clear hB5 hb2 h5b
        rename_i hK
        refine hK _ _ ?_
        clear hK
        go_upto_region 4 with fail
        have hMT := (HM1.out.tail hc)
        have HMT := Lib.hid hMT
        go_cut [33, 34, 35] (fun v33 v34 v35 wc => ∃ (A2 : Option Addr) (c2 : Nat), wc = w2 ∧ v33 = .slice A2 L.length c2 ∧ v34 = .int .i64 L.length ∧ v35 = .int .i64 0 ∧ Mks w1 A2 L)
        case first =>
          by_cases h1 : c = 1
          · rw [if_pos h1] at hMT
            go_wp2_with fail
            go_meet
            exact ⟨_, _, rfl, rfl, rfl, rfl, hMT⟩
          · rw [if_neg h1] at hMT
            go_wp2_with fail
            go_meet
            exact ⟨_, _, rfl, rfl, rfl, rfl, hMT⟩
        case rest =>
        clear hMT HMT
        obtain ⟨A2, c2, rfl, rfl, rfl, rfl, hM2⟩ := hcut
        have HM2 := Lib.hid hM2
        clear hM2
        rename_i hK
        refine hK _ _ ?_
        clear hK
        go_step
        go_loopw [35] (fun v35 wr => ∃ (i : Nat) (A' : Option Addr) (c' : Nat), i ≤ L.length ∧ v35 = .int .i64 i ∧ Hid (Blk wr 0 b5 #[.int .i64 sp, .int .i64 (mat (x :: L) i).1, .int .i64 (mat (x :: L) i).2, .slice A' (winF sp (x :: L) i).length c'] 56) ∧ Hid (OwnK wr (b5 + 1) (.slice A' (winF sp (x :: L) i).length c') (winF sp (x :: L) i)) ∧ Hid (Below w1.heap.size w1 wr)) (fun v35 _ => L.length - (intOf v35).toNat)
        case atStart => exact ⟨0, none, 0, by omega, rfl, HB5, Lib.hid (World.ownsRow_nil _ _ _ _), HB2⟩
        case round =>
          obtain ⟨i, A', c', hi, rfl, KB, KO, KW⟩ := hrel
          by_cases h5 : i < L.length
          · have b1 : decide ((i : Int) < (L.length : Int)) = true := decide_eq_true (by omega)
            obtain ⟨g2, off2, rfl, hg2, hx⟩ := (HM2.out.keep KW.out).at h5
            obtain ⟨x0, x1⟩ := hx i h5
            clear hx
            have hinv := winv (sp := sp) HH.out s0 (i := i) (by simp; omega)
            obtain ⟨p0, p1, p2, p3⟩ := HX.out (i + 1) (by omega)
            have hz5 : b5 < wr.heap.size := KB.out.lt
            have hal := (Below.refl wr.heap.size wr).alloc (Nat.le_refl _) (.cells #[.int .i64 (mat L i).1, .int .i64 (mat L i).2] 59)
            have hBm := Lib.hid (Blk.new (w := wr) (B := 0) (Nat.zero_le _) #[.int .i64 (mat L i).1, .int .i64 (mat L i).2] 59)
            have hinv := Lib.hid hinv
            go_upto_region 7 with fail
            have KB3 := Lib.hid (KB.out.keep hal)
            have KM3 := Lib.hid (KO.out.mks2.keep hal)
            have KW3 := Lib.hid (btrans KW.out hal)
            have hz3 : (wr.alloc (.cells #[.int .i64 (mat L i).1, .int .i64 (mat L i).2] 59)).heap.size = wr.heap.size + 1 := by simp
            clear x0 x1 hal KB KO KW
            generalize hw3 : wr.alloc (.cells #[.int .i64 (mat L i).1, .int .i64 (mat L i).2] 59) = w3 at *
            generalize hg7 : wr.heap.size = g7 at *
            clear hw3 hg7
            have q1 : (mat (x :: L) (i + 1)).1 = (mat L i).1 := rfl
            have q2 : (mat (x :: L) (i + 1)).2 = (mat L i).2 := rfl
            have HP := Lib.hid (show winF sp (x :: L) (i + 1) = putL sp (mat (x :: L) i).2 (mat (x :: L) (i + 1)) (winF sp (x :: L) i) from rfl)
            have HZ3 := Lib.hid hz3
            have H57 := Lib.hid hz5
            clear hz3 hz5
            go_wp2_with (first
              | ((with_reducible refine at_load (ty := 56) (x := .tmp 5) ?_); refine wpl_load_row rfl 56 (.tmp 5) rfl b5 rfl KB3.out rfl (by kernel_rfl) hu rfl ?_)
              | ((with_reducible refine at_load (ty := 59) (x := .tmp 7) ?_); refine wpl_load_row rfl 59 (.tmp 7) rfl g7 rfl hBm.out rfl (by kernel_rfl) hu2 rfl ?_)
              | (go_at_call 72; refine (c_put A' (winF sp (x :: L) i) c' sp _ _ (mat L i).1 (mat L i).2 _ KM3.out (by have := hinv.out.len; omega) (hinv.out.ord.imp (fun h => h.1)) (fun y hy => (hinv.out.all y hy).1) (by omega) (by omega) (by rw [q1] at p0; omega) (by rw [q1] at p1; omega)).mono ?_; rintro e w4 ⟨v4, rfl, hO4, hb4⟩; obtain ⟨A4, c4, rfl⟩ := owns_form_k hO4; have KB4 := Lib.hid (KB3.out.keep hb4))
              | ((with_reducible refine at_store (ty := 56) (y := .tmp 41) ?_); refine wpl_store_row rfl 56 (.tmp 5) (.tmp 41) rfl b5 _ rfl rfl (KB4.out.room (n := 4) rfl) rfl (by kernel_rfl) (by simp [Value.oneCell']) ?_; intro hout)
              | fail)
            go_roundw
            case rel => exact ⟨i + 1, A4, c4, by omega, by go_num, Lib.hid hout, Lib.hid ((hO4.base (by rw [HZ3.out]; have := H57.out; omega)).farRow (Nat.lt_succ_self _) _), Lib.hid (below_setRow (btrans KW3.out hb4) H5B.out _)⟩
            case measure => simp [intOf]; omega
          · obtain rfl : i = L.length := by omega
            have b1 : decide ((L.length : Int) < (L.length : Int)) = false := decide_eq_false (by omega)
            have R2 := Lib.hid (R1.out.keep KW.out)
            have hBX := Lib.hid (HB1.out.trans (KW.out.mono (Nat.le_of_lt HZ1.out)))
            have hlt5 : w.heap.size < b5 := Nat.lt_of_lt_of_le HZ1.out H5B.out
            go_wp2_with (first
              | ((with_reducible refine at_load (ty := 56) (x := .tmp 5) ?_); refine wpl_load_row rfl 56 (.tmp 5) rfl b5 rfl KB.out rfl (by kernel_rfl) hu rfl ?_)
              | ((with_reducible refine at_store (ty := 56) (y := .tmp 43) ?_); refine wpl_store_row rfl 56 (.tmp 4) (.tmp 43) rfl w.heap.size _ rfl rfl (R2.out.room (n := 4) rfl) rfl (by kernel_rfl) (by simp [Value.oneCell']) ?_; intro hout)
              | fail)
            exact bodyPost_ret (v := .agg #[.int .i64 sp, .int .i64 (mat (x :: L) L.length).1, .int .i64 (mat (x :: L) L.length).2, .slice A' (winF sp (x :: L) L.length).length c']) (results_cell_row rfl _ _ _ _ _ _ _ rfl hout.2 hu rfl (by kernel_rfl)) rfl (.inr ⟨HR.out, A', c', rfl, (KO.out.farRow2 hlt5 _).mks2, below_setRow hBX.out (Nat.le_refl _) _⟩)
end Go.Proofs.Ytddemmmbbleofaa.C
