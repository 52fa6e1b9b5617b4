/- Lists of messages compared. No condition. -/
import Derived.Test.YtddemmmbbleofaaMsgK
namespace Go.Proofs.Ytddemmmbbleofaa.C
open Go.RowKit
set_option maxRecDepth 100000
set_option linter.unusedVariables false
set_option linter.unusedSimpArgs false
attribute [local go_sem ↓] Go.wp_at_zero Go.wp_at_succ
set_option maxHeartbeats 4000000 in
theorem c_eqMsgS (B1 B2 : Nat) (A1 A2 : Option Addr) (cap1 cap2 : Nat) (ms : List M) (w : World) (hn : ms.length ≤ 20000) (h1 : OwnMs w B1 (.slice A1 ms.length cap1) ms) (h2 : OwnMs w B2 (.slice A2 ms.length cap2) ms) :
    Calls Try.prog 64 #[.slice A1 ms.length cap1, .slice A2 ms.length cap2] w fun e w' => e = .returned (.bool true) ∧ Below w.heap.size w w' := by
  have hu := Try.underlying28
  have KO := Lib.hid h1
  have KQ := Lib.hid h2
  have hb := Below.refl w.heap.size w
  have b0 : ((ms.length : Int) != (ms.length : Int)) = false := by simp
  clear h1 h2
  go_enter Try.func64, Try.ntmps64
  go_wp2_with fail
  go_loopw [5] (fun v5 wr => ∃ i : Nat, i ≤ ms.length ∧ v5 = .int .i64 i ∧ Hid (OwnMs wr B1 (.slice A1 ms.length cap1) ms) ∧ Hid (OwnMs wr B2 (.slice A2 ms.length cap2) ms) ∧ Hid (Below w.heap.size w wr)) (fun v5 _ => ms.length - (intOf v5).toNat)
  case atStart => exact ⟨0, by omega, rfl, KO, KQ, Lib.hid hb⟩
  case round =>
    obtain ⟨i, hi, rfl, KO, KQ, KB⟩ := hrel
    clear hb
    by_cases h5 : i < ms.length
    · have b1 : decide ((i : Int) < (ms.length : Int)) = true := decide_eq_true (by omega)
      obtain ⟨m, hm⟩ : ∃ m, ms[i]? = some m := ⟨_, List.getElem?_eq_getElem h5⟩
      obtain ⟨g, rfl, hx⟩ := KO.out.atK hm
      obtain ⟨q, rfl, hy⟩ := KQ.out.atK hm
      have x0 : wr.cell? ⟨g, i * 10, none⟩ = some (.int .i64 m.k) := hx 0 _ rfl
      have y0 : wr.cell? ⟨q, i * 10, none⟩ = some (.int .i64 m.k) := hy 0 _ rfl
      have x1 := hx 1 _ rfl
      have y1 := hy 1 _ rfl
      have x2 := hx 2 _ rfl
      have y2 := hy 2 _ rfl
      have x3 := hx 3 _ rfl
      have y3 := hy 3 _ rfl
      have x4 := hx 4 _ rfl
      have y4 := hy 4 _ rfl
      have x5 := hx 5 _ rfl
      have y5 := hy 5 _ rfl
      have x6 := hx 6 _ rfl
      have y6 := hy 6 _ rfl
      have x7 := hx 7 _ rfl
      have y7 := hy 7 _ rfl
      have x8 := hx 8 _ rfl
      have y8 := hy 8 _ rfl
      have x9 := hx 9 _ rfl
      have y9 := hy 9 _ rfl
      have j0 : (0 : Int) ≤ (i : Int) := by omega
      have j1 : (i : Int) < (ms.length : Int) := by omega
      clear hx hy hm
      go_upto_region 6 with fail
      have KBd := Lib.hid ((Below.refl wr.heap.size wr).drew)
      go_cut [26] (fun v26 wc => ∃ wx : World, wx = wc ∧ v26 = .bool false ∧ Below wr.heap.size wr wx)
      case first =>
        go_region_with (first
          | (go_at_call 61; refine (c_eqMsg _ _ _ _ _ _ _ _ _ _ _).mono ?_; rintro e w' ⟨rfl, hbc⟩; have hB := btrans KBd.out hbc)
          | fail)
        all_goals (go_wp2_with fail; go_meet)
        all_goals (exact ⟨_, rfl, rfl, hB⟩)
      case rest =>
        obtain ⟨w5, rfl, rfl, b5⟩ := hcut
        have KO5 := Lib.hid (KO.out.keep b5)
        have KQ5 := Lib.hid (KQ.out.keep b5)
        have KB5 := Lib.hid (btrans KB.out b5)
        clear KO KQ KB b5 KBd x0 x1 x2 x3 x4 x5 x6 x7 x8 x9 y0 y1 y2 y3 y4 y5 y6 y7 y8 y9
        rename_i hKK
        refine hKK _ _ ?_
        clear hKK
        go_wp2_with fail
        go_roundw
        case rel => exact ⟨i + 1, by omega, by go_num, KO5, KQ5, KB5⟩
        case measure => simp [intOf]; omega
    · obtain rfl : i = ms.length := by omega
      have b1 : decide ((ms.length : Int) < (ms.length : Int)) = false := decide_eq_false (by omega)
      go_wp2_with fail
      go_ret
      exact ⟨rfl, KB.out⟩
end Go.Proofs.Ytddemmmbbleofaa.C
