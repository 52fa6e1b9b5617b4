/- The reference's WindowOf: is there a window, whatever its marks? No condition. -/
import Derived.Test.YtddemmmbbleofaaWinO
namespace Go.Proofs.Ytddemmmbbleofaa.C
open Go.RowKit
set_option maxRecDepth 100000
set_option linter.unusedVariables false
set_option linter.unusedSimpArgs false
attribute [local go_sem ↓] Go.wp_at_zero Go.wp_at_succ
set_option maxHeartbeats 8000000 in
theorem s_WindowRight_any (sp nw cp : Int) (A : Option Addr) (L : List Mk) (c : Nat) (w : World) (h : Mks w A L) (hn : L.length ≤ 1000) :
    Calls Try.prog 94 #[.agg #[.int .i64 sp, .int .i64 nw, .int .i64 cp, .slice A L.length c]] w fun e w' => ∃ b : Bool, e = .returned (.bool b) ∧ Below w.heap.size w w' := by
  have hu := Try.underlying56
  have hT := WB.new w sp nw cp (.slice A L.length c) 56
  have hb := (Below.refl _ w).alloc (Nat.le_refl _) (.cells #[.int .i64 sp, .int .i64 nw, .int .i64 cp, .slice A L.length c] 56)
  have hM := h.keep hb
  have hz : w.heap.size ≤ (w.alloc (.cells #[.int .i64 sp, .int .i64 nw, .int .i64 cp, .slice A L.length c] 56)).heap.size := hb.size
  have HT := Lib.hid hT
  have HB := Lib.hid hb
  have HM := Lib.hid hM
  have HZ := Lib.hid hz
  clear h hb hM hz hT
  go_enter Try.func94, Try.ntmps94
  go_upto_region 1 with fail
  generalize hw1 : w.alloc (.cells #[.int .i64 sp, .int .i64 nw, .int .i64 cp, .slice A L.length c] 56) = w1 at *
  clear hw1
  obtain ⟨c0, c1, c2, c3, -⟩ := HT.out
  go_cut [30] (fun v30 wc => ∃ (b : Bool), w1 = wc ∧ v30 = .bool b)
  case first =>
    go_wp2_with (first | (go_at_call 44; refine (s_time _ _).mono ?_; rintro e w' ⟨rfl, rfl⟩; generalize bIn _ _ _ = b1; cases b1) | (go_at_call 85; refine (s_want _ _).mono ?_; rintro e w' ⟨rfl, rfl⟩; generalize bIn _ _ _ = b2; cases b2) | fail)
    all_goals go_meet
    all_goals exact ⟨_, rfl, rfl⟩
  case rest =>
  obtain ⟨b, rfl, rfl⟩ := hcut
  rename_i hK
  refine hK _ _ ?_
  clear hK
  cases b with
  | true =>
    go_wp2_with fail
    go_ret
    exact ⟨false, rfl, HB.out⟩
  | false =>
    go_wp2_with fail
    go_loopw [3] (fun v3 wr => ∃ i : Nat, i ≤ L.length ∧ v3 = .int .i64 i ∧ Hid (Below w1.heap.size w1 wr)) (fun v3 _ => L.length - (intOf v3).toNat)
    case atStart => exact ⟨0, by omega, rfl, Lib.hid (Below.refl _ _)⟩
    case round =>
      obtain ⟨i, hi, rfl, KB⟩ := hrel
      clear c0 c1 c2 c3
      obtain ⟨c0, c1, c2, c3, -⟩ := HT.out.keep KB.out
      by_cases h5 : i < L.length
      · have b1 : decide ((i : Int) < (L.length : Int)) = true := decide_eq_true (by omega)
        obtain ⟨g, off, rfl, hg, hx⟩ := (HM.out.keep KB.out).at h5
        obtain ⟨x0, x1⟩ := hx i h5
        go_upto_region 7 with fail
        have hT2 := Lib.hid ((HT.out.keep KB.out).keep ((Below.refl wr.heap.size wr).alloc (Nat.le_refl _) (.cells #[.int .i64 (mat L i).1, .int .i64 (mat L i).2] 59)))
        have hB2 := Lib.hid (btrans KB.out ((Below.refl wr.heap.size wr).alloc (Nat.le_refl _) (.cells #[.int .i64 (mat L i).1, .int .i64 (mat L i).2] 59)))
        have hxx : ∀ j, j < L.length → (wr.alloc (.cells #[.int .i64 (mat L i).1, .int .i64 (mat L i).2] 59)).cell? ⟨g, off + j * 2, none⟩ = some (.int .i64 (mat L j).1) ∧ (wr.alloc (.cells #[.int .i64 (mat L i).1, .int .i64 (mat L i).2] 59)).cell? ⟨g, off + j * 2 + 1, none⟩ = some (.int .i64 (mat L j).2) := fun j hj => ⟨Lib.cell?_alloc_some _ (hx j hj).1, Lib.cell?_alloc_some _ (hx j hj).2⟩
        have z0 := ((Blk.new (Nat.zero_le wr.heap.size) #[.int .i64 (mat L i).1, .int .i64 (mat L i).2] 59).cell 0).trans (by rfl)
        have z1 := ((Blk.new (Nat.zero_le wr.heap.size) #[.int .i64 (mat L i).1, .int .i64 (mat L i).2] 59).cell 1).trans (by rfl)
        generalize (mat L i).1 = p at *
        generalize (mat L i).2 = q at *
        generalize hw2 : wr.alloc (.cells #[.int .i64 p, .int .i64 q] 59) = w2 at *
        generalize wr.heap.size = g2 at *
        clear hx x0 x1 hw2 KB c0 c1 c2 c3
        obtain ⟨c0, c1, c2, c3, -⟩ := hT2.out
        go_cut [75] (fun v75 wc => ∃ (b : Bool), w2 = wc ∧ v75 = .bool b)
        case first =>
          clear hxx
          go_wp2_with (first | (go_at_call 85; refine (s_want _ _).mono ?_; rintro e w' ⟨rfl, rfl⟩; generalize bIn _ _ _ = b2; cases b2) | fail)
          all_goals go_meet
          all_goals exact ⟨_, rfl, rfl⟩
        case rest =>
        obtain ⟨b, rfl, rfl⟩ := hcut
        rename_i hK
        refine hK _ _ ?_
        clear hK
        cases b with
        | true =>
          go_wp2_with fail
          go_ret
          exact ⟨false, rfl, HB.out.trans (hB2.out.mono HZ.out)⟩
        | false =>
          go_upto_region 9 with fail
          go_cut [101] (fun v101 wc => ∃ (b : Bool) (wx : World), wx = wc ∧ v101 = .bool b ∧ Below w2.heap.size w2 wx)
          case first =>
            cases i with
            | zero =>
              clear hxx
              go_quiet (fail)
              go_wp2_with fail
              go_meet
              exact ⟨_, _, rfl, rfl, below_drewN (Below.refl _ _) _⟩
            | succ k =>
              obtain ⟨y0, y1⟩ := hxx k (by omega)
              generalize (mat L k).1 = p' at *
              generalize (mat L k).2 = q' at *
              have b3 : decide (((k + 1 : Nat) : Int) > 0) = true := decide_eq_true (by omega)
              clear hxx
              rcases b4 : decide (p ≤ p') with _ | _
              · go_quiet (fail)
                go_wp2_with fail
                go_meet
                exact ⟨_, _, rfl, rfl, below_drewN (Below.refl _ _) _⟩
              · go_quiet (fail)
                go_wp2_with fail
                go_meet
                exact ⟨_, _, rfl, rfl, below_drewN (Below.refl _ _) _⟩
          case rest =>
          obtain ⟨b, w3, rfl, rfl, hb3⟩ := hcut
          have hB3 := Lib.hid (btrans hB2.out hb3)
          clear hxx z0 z1 c0 c1 c2 c3 hb3 hB2
          rename_i hK
          refine hK _ _ ?_
          clear hK
          cases b with
          | true =>
            go_wp2_with fail
            go_ret
            exact ⟨false, rfl, HB.out.trans (hB3.out.mono HZ.out)⟩
          | false =>
            go_wp2_with fail
            go_roundw
            case rel => exact ⟨i + 1, by omega, by go_num, hB3⟩
            case measure => simp [intOf]; omega
      · obtain rfl : i = L.length := by omega
        have b1 : decide ((L.length : Int) < (L.length : Int)) = false := decide_eq_false (by omega)
        go_wp2_with fail
        go_ret
        exact ⟨true, rfl, HB.out.trans (KB.out.mono HZ.out)⟩
end Go.Proofs.Ytddemmmbbleofaa.C
