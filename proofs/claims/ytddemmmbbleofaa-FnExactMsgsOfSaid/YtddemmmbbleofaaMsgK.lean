/- Marks in a list of messages: markText, markMsgS, heldMsgS, eqMsgS. No condition. -/
import Derived.Test.YtddemmmbbleofaaMsgLS
import Derived.Test.YtddemmmbbleofaaPFnExactMsgsOfx5
namespace Go.Proofs.Ytddemmmbbleofaa.C
open Go.RowKit
set_option maxRecDepth 100000
set_option linter.unusedVariables false
set_option linter.unusedSimpArgs false
attribute [local go_sem ↓] Go.wp_at_zero Go.wp_at_succ
def mtl : Nat → Int → ByteArray → ByteArray
  | 0, _, s => (⟨#[109]⟩ : ByteArray) ++ s
  | d + 1, x, s => if x > 0 then mtl d (x / 10) (strOfNums [48 + x % 10] ++ s) else (⟨#[109]⟩ : ByteArray) ++ s
theorem mt_ends (d : Nat) : ∀ (k : Nat) (x : Int) (s : ByteArray), 0 ≤ x → x < 10 ^ d → x ≤ 1000000000000 → d < k → s.size + d ≤ 1000 → PFnExactMsgsOf.laws_markText.l0 k x s = some (mtl d x s) := by
  induction d with
  | zero =>
    intro k x s h0 h1 h2 hk hs
    obtain ⟨k, rfl⟩ : ∃ m, k = m + 1 := ⟨k - 1, by omega⟩
    have hx : ¬ x > 0 := by have : (10 : Int) ^ 0 = 1 := rfl; omega
    simp only [PFnExactMsgsOf.laws_markText.l0]
    rw [if_neg hx, if_pos (by omega)]
    rfl
  | succ d ih =>
    intro k x s h0 h1 h2 hk hs
    obtain ⟨k, rfl⟩ : ∃ m, k = m + 1 := ⟨k - 1, by omega⟩
    simp only [PFnExactMsgsOf.laws_markText.l0, mtl]
    by_cases hx : x > 0
    · have e1 : (wrap64 (48 + (Int.tmod x 10))) % 256 = 48 + x % 10 := by rw [Int.tmod_eq_emod_of_nonneg h0]; unfold wrap64; omega
      have e2 : wrap64 (Int.tdiv x 10) = x / 10 := by rw [Int.tdiv_eq_ediv_of_nonneg h0]; unfold wrap64; omega
      have z1 : (strOfNums [48 + x % 10]).size = 1 := rfl
      rw [if_pos hx, if_pos hx]
      simp only [Option.bind_some]
      rw [e1, e2, if_pos (by rw [z1]; omega)]
      exact ih k (x / 10) _ (by omega) (by rw [Int.pow_succ] at h1; omega) (by omega) (by omega) (by rw [ByteArray.size_append, z1]; omega)
    · rw [if_neg hx, if_neg hx, if_pos (by omega)]
/-- The text of a mark. -/
def mt (x : Int) : ByteArray := mtl 13 x ⟨#[]⟩
theorem c_markText (x : Int) (w : World) (h0 : 0 < x) (h1 : x ≤ 1000000000) : Calls Try.prog 93 #[.int .i64 x] w fun e w' => e = .returned (.string (mt x)) ∧ Below w.heap.size w w' := by
  refine PFnExactMsgsOf.laws_markText.calls 14 x (mt x) w ?_
  unfold PFnExactMsgsOf.laws_markText.f
  rw [if_neg (by omega)]
  exact mt_ends 13 14 x ⟨#[]⟩ (by omega) (by omega) (by omega) (by omega) (by show 0 + 13 ≤ 1000; omega)
theorem rows_atK (ms : List M) : ∀ (i : Nat) (m : M), ms[i]? = some m → ∀ j u, m.row.toList[j]? = some u → (rows ms)[i * 10 + j]? = some u := by
  induction ms with
  | nil => intro i m h; simp at h
  | cons q ms ih =>
    intro i m h j u hj
    have hlq : q.row.toList.length = 10 := rfl
    cases i with
    | zero =>
      simp at h; subst h
      show (q.row.toList ++ rows ms)[0 * 10 + j]? = some u
      rw [List.getElem?_append_left (by have := (List.getElem?_eq_some_iff.1 hj).1; omega), show 0 * 10 + j = j by omega]
      exact hj
    | succ i =>
      show (q.row.toList ++ rows ms)[(i + 1) * 10 + j]? = some u
      rw [List.getElem?_append_right (by omega), hlq, show (i + 1) * 10 + j - 10 = i * 10 + j by omega]
      exact ih i m (by simpa using h) j u hj
/-- Where a message of a list lies. -/
theorem OwnMs.atK {w : World} {B : Nat} {A : Option Addr} {cap : Nat} {ms : List M} (h : OwnMs w B (.slice A ms.length cap) ms) {i : Nat} {m : M} (hi : ms[i]? = some m) : ∃ g, A = some ⟨g, 0, none⟩ ∧ ∀ j u, m.row.toList[j]? = some u → w.cell? ⟨g, i * 10 + j, none⟩ = some u := by
  have h0 := h
  obtain ⟨hl, ⟨e, hn⟩ | ⟨g, cap', cur, e, hb, hg, h1, h2, h3, h4⟩⟩ := h
  · have := (List.getElem?_eq_some_iff.1 hi).1; omega
  · cases e
    refine ⟨g, rfl, fun j u hj => ?_⟩
    have hc := World.ownsRow.cells h0 (g := g) rfl (i * 10 + j) u (rows_atK ms i m hi j u hj)
    rwa [Go.Proofs.YtddemmmbbleofaaW.PrintWords.add_plain] at hc
theorem pick2 {P : Prop} {wr w : World} (h : P ∧ Below wr.heap.size wr w) : Below wr.heap.size wr w := h.2
/-- A message that is marked. -/
def markM (i : Nat) : M := ⟨10 * i + 1, 10 * i + 2, 10 * i + 3, 10 * i + 4, 10 * i + 5, 10 * i + 6, 10 * i + 7, 10 * i + 8, 10 * i + 9, mt (10 * i + 10)⟩
def marked (i : Nat) : List M := (List.range i).map markM
theorem marked_len (i : Nat) : (marked i).length = i := by simp [marked]
theorem marked_at {n i : Nat} (h : i < n) : (marked n)[i]? = some (markM i) := by simp [marked, h]
set_option maxHeartbeats 4000000 in
theorem c_heldMsgS (B : Nat) (A : Option Addr) (cap n : Nat) (w : World) (hn : n ≤ 20000) (h : OwnMs w B (.slice A n cap) (marked n)) :
    Calls Try.prog 66 #[.slice A n cap, .int .i64 1] w fun e w' => e = .returned (.int .i64 (10 * (n : Int) + 1)) ∧ Below w.heap.size w w' := by
  have hu := Try.underlying28
  have KO := Lib.hid h
  have hb := Below.refl w.heap.size w
  clear h
  go_enter Try.func66, Try.ntmps66
  go_wp2_with fail
  go_loopw [1, 5] (fun v1 v5 wr => ∃ i : Nat, i ≤ n ∧ v5 = .int .i64 i ∧ v1 = .int .i64 (10 * (i : Int) + 1) ∧ Hid (OwnMs wr B (.slice A n cap) (marked n)) ∧ Hid (Below w.heap.size w wr)) (fun _ v5 _ => n - (intOf v5).toNat)
  case atStart => exact ⟨0, by omega, rfl, rfl, KO, Lib.hid hb⟩
  case round =>
    obtain ⟨i, hi, rfl, rfl, KO, KB⟩ := hrel
    clear hb
    by_cases h5 : i < n
    · have b1 : decide ((i : Int) < (n : Int)) = true := decide_eq_true (by omega)
      have hO := KO.out
      rw [show (Value.slice A n cap) = .slice A (marked n).length cap from by rw [marked_len]] at hO
      obtain ⟨g, rfl, hx⟩ := hO.atK (marked_at h5)
      clear hO
      obtain ⟨K, hK⟩ : ∃ K : Int, K = 10 * (i : Int) + 1 := ⟨_, rfl⟩
      have x0 : wr.cell? ⟨g, i * 10, none⟩ = some (.int .i64 (K)) := (hx 0 (.int .i64 (K)) (by show some (Value.int .i64 (10 * (i : Int) + 1)) = _; rw [show 10 * (i : Int) + 1 = K by omega]))
      have x1 : wr.cell? ⟨g, i * 10 + 1, none⟩ = some (.int .i64 (K + 1)) := (hx 1 (.int .i64 (K + 1)) (by show some (Value.int .i64 (10 * (i : Int) + 2)) = _; rw [show 10 * (i : Int) + 2 = K + 1 by omega]))
      have x2 : wr.cell? ⟨g, i * 10 + 2, none⟩ = some (.int .i64 (K + 1 + 1)) := (hx 2 (.int .i64 (K + 1 + 1)) (by show some (Value.int .i64 (10 * (i : Int) + 3)) = _; rw [show 10 * (i : Int) + 3 = K + 1 + 1 by omega]))
      have x3 : wr.cell? ⟨g, i * 10 + 3, none⟩ = some (.int .i64 (K + 1 + 1 + 1)) := (hx 3 (.int .i64 (K + 1 + 1 + 1)) (by show some (Value.int .i64 (10 * (i : Int) + 4)) = _; rw [show 10 * (i : Int) + 4 = K + 1 + 1 + 1 by omega]))
      have x4 : wr.cell? ⟨g, i * 10 + 4, none⟩ = some (.int .i64 (K + 1 + 1 + 1 + 1)) := (hx 4 (.int .i64 (K + 1 + 1 + 1 + 1)) (by show some (Value.int .i64 (10 * (i : Int) + 5)) = _; rw [show 10 * (i : Int) + 5 = K + 1 + 1 + 1 + 1 by omega]))
      have x5 : wr.cell? ⟨g, i * 10 + 5, none⟩ = some (.int .i64 (K + 1 + 1 + 1 + 1 + 1)) := (hx 5 (.int .i64 (K + 1 + 1 + 1 + 1 + 1)) (by show some (Value.int .i64 (10 * (i : Int) + 6)) = _; rw [show 10 * (i : Int) + 6 = K + 1 + 1 + 1 + 1 + 1 by omega]))
      have x6 : wr.cell? ⟨g, i * 10 + 6, none⟩ = some (.int .i64 (K + 1 + 1 + 1 + 1 + 1 + 1)) := (hx 6 (.int .i64 (K + 1 + 1 + 1 + 1 + 1 + 1)) (by show some (Value.int .i64 (10 * (i : Int) + 7)) = _; rw [show 10 * (i : Int) + 7 = K + 1 + 1 + 1 + 1 + 1 + 1 by omega]))
      have x7 : wr.cell? ⟨g, i * 10 + 7, none⟩ = some (.int .i64 (K + 1 + 1 + 1 + 1 + 1 + 1 + 1)) := (hx 7 (.int .i64 (K + 1 + 1 + 1 + 1 + 1 + 1 + 1)) (by show some (Value.int .i64 (10 * (i : Int) + 8)) = _; rw [show 10 * (i : Int) + 8 = K + 1 + 1 + 1 + 1 + 1 + 1 + 1 by omega]))
      have x8 : wr.cell? ⟨g, i * 10 + 8, none⟩ = some (.int .i64 (K + 1 + 1 + 1 + 1 + 1 + 1 + 1 + 1)) := (hx 8 (.int .i64 (K + 1 + 1 + 1 + 1 + 1 + 1 + 1 + 1)) (by show some (Value.int .i64 (10 * (i : Int) + 9)) = _; rw [show 10 * (i : Int) + 9 = K + 1 + 1 + 1 + 1 + 1 + 1 + 1 + 1 by omega]))
      have x9 : wr.cell? ⟨g, i * 10 + 9, none⟩ = some (.string (mt (K + 1 + 1 + 1 + 1 + 1 + 1 + 1 + 1 + 1))) := (hx 9 (.string (mt (K + 1 + 1 + 1 + 1 + 1 + 1 + 1 + 1 + 1))) (by show some (Value.string (mt (10 * (i : Int) + 10))) = _; rw [show 10 * (i : Int) + 10 = K + 1 + 1 + 1 + 1 + 1 + 1 + 1 + 1 + 1 by omega]))
      have HK := Lib.hid hK
      have k0 : 0 < K := by omega
      have k1 : K ≤ 200000 := by omega
      rw [← hK]
      clear hK hx
      have T1 : Hid (∀ w', Below wr.heap.size wr w' → w'.cell? ⟨g, i * 10 + 9, none⟩ = some (.string (mt (K + 1 + 1 + 1 + 1 + 1 + 1 + 1 + 1 + 1))) ∧ Below wr.heap.size wr w') := Lib.hid fun w' hb => ⟨(hb.cell (p := ⟨g, i * 10 + 9, none⟩) (World.block_lt_of_cell? wr _ x9)).trans x9, hb⟩
      go_upto_region 31 with fail
      go_cut [100] (fun v100 wc => ∃ wx : World, wx = wc ∧ v100 = .bool false ∧ Below wr.heap.size wr wx)
      case first =>
        go_region_held3 (fun w' => w'.cell? ⟨g, i * 10 + 9, none⟩ = some (.string (mt (K + 1 + 1 + 1 + 1 + 1 + 1 + 1 + 1 + 1))) ∧ Below wr.heap.size wr w') (first
          | (with_reducible exact T1.out _ (Below.refl _ _).drew)
          | (with_reducible exact T1.out _ hB)) (first
          | (go_at_call 93; refine (c_markText _ _ (by omega) (by omega)).mono ?_; rintro e w' ⟨rfl, hb⟩; have hB := btrans (pick2 (by assumption)) hb)
          | fail)
        all_goals (go_wp2_with fail; go_meet)
        all_goals (exact ⟨_, rfl, by simp, pick2 (by assumption)⟩)
      case rest =>
        obtain ⟨w5, rfl, rfl, b5⟩ := hcut
        have KO5 := Lib.hid (KO.out.keep b5)
        have KB5 := Lib.hid (btrans KB.out b5)
        clear KO KB b5 T1 x0 x1 x2 x3 x4 x5 x6 x7 x8 x9
        rename_i hKK
        refine hKK _ _ ?_
        clear hKK
        go_wp2_with fail
        go_roundw
        case rel => exact ⟨i + 1, by omega, by go_num, by have := HK.out; rw [show K + 1 + 1 + 1 + 1 + 1 + 1 + 1 + 1 + 1 + 1 = 10 * ((i + 1 : Nat) : Int) + 1 by omega], KO5, KB5⟩
        case measure => simp [intOf]; omega
    · obtain rfl : i = n := by omega
      have b1 : decide ((i : Int) < (i : Int)) = false := decide_eq_false (by omega)
      go_wp2_with fail
      go_ret
      exact ⟨rfl, KB.out⟩
end Go.Proofs.Ytddemmmbbleofaa.C
