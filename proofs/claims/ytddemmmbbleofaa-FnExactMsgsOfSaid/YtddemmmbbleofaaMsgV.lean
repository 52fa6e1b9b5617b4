/- Messages of a list marked. No condition. -/
import Derived.Test.YtddemmmbbleofaaMsgQ
namespace Go.Proofs.Ytddemmmbbleofaa.C
open Go.RowKit
set_option maxRecDepth 100000
set_option linter.unusedVariables false
set_option linter.unusedSimpArgs false
attribute [local go_sem ↓] Go.wp_at_zero Go.wp_at_succ
/-- A row of messages that is written into, and nothing else that was there. -/
def Mk (w : World) (B g cap n : Nat) (xs : List Value) (wr : World) : Prop :=
  ∃ cur : Array Value, Blk wr B g cur 28 ∧ n ≤ cap ∧ cap ≤ maxLen ∧ cur.size = cap * 10 ∧ cur.toList.take (n * 10) = xs ∧ xs.length = n * 10 ∧ w.grownBy wr (some g)
theorem Mk.set {w wr : World} {B g cap n : Nat} {xs : List Value} (h : Mk w B g cap n xs wr) (k : Nat) (u : Value) : Mk w B g cap n (xs.set k u) (wr.setCell ⟨g, k, none⟩ u) := by
  obtain ⟨cur, h1, h2, h3, h4, h5, h6, h7⟩ := h
  exact ⟨_, h1.setc k u, h2, h3, by simpa using h4, by rw [Array.toList_setIfInBounds, List.take_set, h5], by simpa using h6, only_setCell h7 (.inl rfl) u⟩
theorem Mk.frozen {w wr : World} {B g cap n : Nat} {xs : List Value} (h : Mk w B g cap n xs wr) (k : Nat) : wr.frozen? ⟨g, k, none⟩ = false := by
  obtain ⟨cur, h1, -⟩ := h
  exact h1.frozen k
theorem Mk.cell {w wr : World} {B g cap n : Nat} {xs : List Value} (h : Mk w B g cap n xs wr) (k : Nat) (hk : k < n * 10) : ∃ u, wr.cell? ⟨g, k, none⟩ = some u := by
  obtain ⟨cur, h1, h2, h3, h4, h5, h6, h7⟩ := h
  have : k < cur.size := by have : n * 10 ≤ cap * 10 := Nat.mul_le_mul_right _ h2; omega
  exact ⟨cur[k], by rw [h1.cell k]; exact Array.getElem?_eq_getElem this⟩
theorem Mk.keep {w wr w' : World} {B g cap n : Nat} {xs : List Value} (h : Mk w B g cap n xs wr) (hb : Below wr.heap.size wr w') : Mk w B g cap n xs w' := by
  obtain ⟨cur, h1, h2, h3, h4, h5, h6, h7⟩ := h
  exact ⟨cur, h1.keep hb, h2, h3, h4, h5, h6, h7.trans (only_below hb _)⟩
theorem Mk.cast {w wr : World} {B g cap n : Nat} {xs ys : List Value} (h : Mk w B g cap n xs wr) (e : xs = ys) : Mk w B g cap n ys wr := e ▸ h
theorem Mk.own {w wr : World} {B g cap : Nat} {ms : List M} (h : Mk w B g cap ms.length (rows ms) wr) : OwnMs wr B (.slice (some ⟨g, 0, none⟩) ms.length cap) ms := by
  obtain ⟨cur, h1, h2, h3, h4, h5, h6, h7⟩ := h
  exact ⟨h6, .inr ⟨g, cap, cur, rfl, h1.1, h1.2, h2, h3, h4, h5⟩⟩
theorem Mk.of {w : World} {B cap g : Nat} {ms : List M} (h : OwnMs w B (.slice (some ⟨g, 0, none⟩) ms.length cap) ms) : Mk w B g cap ms.length (rows ms) w := by
  obtain ⟨hl, ⟨e, hn⟩ | ⟨g', cap', cur, e, hb, hg, h1, h2, h3, h4⟩⟩ := h
  · cases e
  · cases e
    exact ⟨cur, ⟨hb, hg⟩, h1, h2, h3, h4, hl, ⟨rfl, rfl, rfl, Nat.le_refl _, fun _ _ _ => rfl⟩⟩
theorem set10 (pre post : List Value) (i : Nat) (hp : pre.length = i * 10) (q : M) (v0 v1 v2 v3 v4 v5 v6 v7 v8 v9 : Value) :
    ((((((((((pre ++ (q.row.toList ++ post)).set (i * 10) v0).set (i * 10 + 1) v1).set (i * 10 + 2) v2).set (i * 10 + 3) v3).set (i * 10 + 4) v4).set (i * 10 + 5) v5).set (i * 10 + 6) v6).set (i * 10 + 7) v7).set (i * 10 + 8) v8).set (i * 10 + 9) v9 = pre ++ ([v0, v1, v2, v3, v4, v5, v6, v7, v8, v9] ++ post) := by
  have hs : ∀ (xs : List Value) (j : Nat) (v : Value), (pre ++ xs).set (i * 10 + j) v = pre ++ xs.set j v := fun xs j v => by
    rw [List.set_append_right _ _ (by omega), hp, show i * 10 + j - i * 10 = j by omega]
  have h0 : ∀ (xs : List Value) (v : Value), (pre ++ xs).set (i * 10) v = pre ++ xs.set 0 v := fun xs v => by simpa using hs xs 0 v
  rw [h0, hs, hs, hs, hs, hs, hs, hs, hs, hs]
  rfl
theorem rows_app (xs ys : List M) : rows (xs ++ ys) = rows xs ++ rows ys := by simp [rows]
theorem rows_len (xs : List M) : (rows xs).length = xs.length * 10 := by
  induction xs with
  | nil => rfl
  | cons q xs ih =>
    show (q.row.toList ++ rows xs).length = (xs.length + 1) * 10
    rw [List.length_append, ih, show q.row.toList.length = 10 from rfl]; omega
/-- The list with its first messages marked. -/
def part (i : Nat) (ms : List M) : List M := marked i ++ ms.drop i
theorem part_len {i : Nat} {ms : List M} (h : i ≤ ms.length) : (part i ms).length = ms.length := by simp [part, marked_len]; omega
theorem part_zero (ms : List M) : part 0 ms = ms := by simp [part, marked]
theorem part_end (ms : List M) : part ms.length ms = marked ms.length := by simp [part]
theorem part_rows {i : Nat} {ms : List M} (h : i < ms.length) : ∃ q : M, rows (part i ms) = rows (marked i) ++ (q.row.toList ++ rows (ms.drop (i + 1))) ∧ rows (part (i + 1) ms) = rows (marked i) ++ ((markM i).row.toList ++ rows (ms.drop (i + 1))) := by
  refine ⟨ms[i], ?_, ?_⟩
  · unfold part
    rw [rows_app, List.drop_eq_getElem_cons h]
    rfl
  · unfold part
    rw [rows_app, show marked (i + 1) = marked i ++ [markM i] from by simp [marked, List.range_succ], rows_app, List.append_assoc, show rows [markM i] = (markM i).row.toList from by simp [rows]]
set_option maxHeartbeats 4000000 in
theorem c_markMsgS1 (B g cap : Nat) (ms : List M) (w : World) (hn : ms.length ≤ 20000) (h : OwnMs w B (.slice (some ⟨g, 0, none⟩) ms.length cap) ms) :
    Calls Try.prog 65 #[.slice (some ⟨g, 0, none⟩) ms.length cap, .int .i64 1] w fun e w' => e = .returned (.int .i64 (10 * (ms.length : Int) + 1)) ∧ OwnMs w' B (.slice (some ⟨g, 0, none⟩) ms.length cap) (marked ms.length) ∧ w.grownBy w' (some g) := by
  have hu := Try.underlying28
  have KO := Lib.hid (Mk.of h)
  clear h
  go_enter Try.func65, Try.ntmps65
  go_wp2_with fail
  go_loopw [1, 5] (fun v1 v5 wr => ∃ i : Nat, i ≤ ms.length ∧ v5 = .int .i64 i ∧ v1 = .int .i64 (10 * (i : Int) + 1) ∧ Hid (Mk w B g cap ms.length (rows (part i ms)) wr)) (fun _ v5 _ => ms.length - (intOf v5).toNat)
  case atStart => exact ⟨0, by omega, rfl, rfl, Lib.hid (KO.out.cast (by rw [part_zero]))⟩
  case round =>
    obtain ⟨i, hi, rfl, rfl, KO⟩ := hrel
    by_cases h5 : i < ms.length
    · have b1 : decide ((i : Int) < (ms.length : Int)) = true := decide_eq_true (by omega)
      obtain ⟨q, e1, e2⟩ := part_rows h5
      have HE1 := Lib.hid e1
      have HE2 := Lib.hid e2
      clear e1 e2
      obtain ⟨K, hK⟩ : ∃ K : Int, K = 10 * (i : Int) + 1 := ⟨_, rfl⟩
      have HK := Lib.hid hK
      have k0 : 0 < K := by omega
      have k1 : K ≤ 200000 := by omega
      have j0 : (0 : Int) ≤ (i : Int) := by omega
      have j1 : (i : Int) < (ms.length : Int) := by omega
      rw [← hK]
      clear hK
      obtain ⟨X0, hX0⟩ : ∃ X, X = rows (part i ms) := ⟨_, rfl⟩
      have HX := Lib.hid hX0
      have M0 : Hid (Mk w B g cap ms.length X0 wr) := Lib.hid (KO.out.cast hX0.symm)
      clear KO hX0
      obtain ⟨u0, x0⟩ := M0.out.cell (i * 10) (by omega)
      have f0 := M0.out.frozen (i * 10)
      go_upto_region 6 with fail
      have M1 := Lib.hid (M0.out.set (i * 10) (.int .i64 (K)))
      clear M0 x0 f0
      generalize World.setCell _ _ _ = w1 at *
      obtain ⟨u1, x1⟩ := M1.out.cell (i * 10 + 1) (by omega)
      have f1 := M1.out.frozen (i * 10 + 1)
      go_upto_region 8 with fail
      have M2 := Lib.hid (M1.out.set (i * 10 + 1) (.int .i64 (K + 1)))
      clear M1 x1 f1
      generalize World.setCell _ _ _ = w2 at *
      obtain ⟨u2, x2⟩ := M2.out.cell (i * 10 + 2) (by omega)
      have f2 := M2.out.frozen (i * 10 + 2)
      go_upto_region 10 with fail
      have M3 := Lib.hid (M2.out.set (i * 10 + 2) (.int .i64 (K + 1 + 1)))
      clear M2 x2 f2
      generalize World.setCell _ _ _ = w3 at *
      obtain ⟨u3, x3⟩ := M3.out.cell (i * 10 + 3) (by omega)
      have f3 := M3.out.frozen (i * 10 + 3)
      go_upto_region 12 with fail
      have M4 := Lib.hid (M3.out.set (i * 10 + 3) (.int .i64 (K + 1 + 1 + 1)))
      clear M3 x3 f3
      generalize World.setCell _ _ _ = w4 at *
      obtain ⟨u4, x4⟩ := M4.out.cell (i * 10 + 4) (by omega)
      have f4 := M4.out.frozen (i * 10 + 4)
      go_upto_region 14 with fail
      have M5 := Lib.hid (M4.out.set (i * 10 + 4) (.int .i64 (K + 1 + 1 + 1 + 1)))
      clear M4 x4 f4
      generalize World.setCell _ _ _ = w5 at *
      obtain ⟨u5, x5⟩ := M5.out.cell (i * 10 + 5) (by omega)
      have f5 := M5.out.frozen (i * 10 + 5)
      go_upto_region 16 with fail
      have M6 := Lib.hid (M5.out.set (i * 10 + 5) (.int .i64 (K + 1 + 1 + 1 + 1 + 1)))
      clear M5 x5 f5
      generalize World.setCell _ _ _ = w6 at *
      obtain ⟨u6, x6⟩ := M6.out.cell (i * 10 + 6) (by omega)
      have f6 := M6.out.frozen (i * 10 + 6)
      go_upto_region 18 with fail
      have M7 := Lib.hid (M6.out.set (i * 10 + 6) (.int .i64 (K + 1 + 1 + 1 + 1 + 1 + 1)))
      clear M6 x6 f6
      generalize World.setCell _ _ _ = w7 at *
      obtain ⟨u7, x7⟩ := M7.out.cell (i * 10 + 7) (by omega)
      have f7 := M7.out.frozen (i * 10 + 7)
      go_upto_region 20 with fail
      have M8 := Lib.hid (M7.out.set (i * 10 + 7) (.int .i64 (K + 1 + 1 + 1 + 1 + 1 + 1 + 1)))
      clear M7 x7 f7
      generalize World.setCell _ _ _ = w8 at *
      obtain ⟨u8, x8⟩ := M8.out.cell (i * 10 + 8) (by omega)
      have f8 := M8.out.frozen (i * 10 + 8)
      go_upto_region 22 with fail
      have M9 := Lib.hid (M8.out.set (i * 10 + 8) (.int .i64 (K + 1 + 1 + 1 + 1 + 1 + 1 + 1 + 1)))
      clear M8 x8 f8
      generalize World.setCell _ _ _ = w9 at *
      go_wp2_with fail
      refine (c_markText _ _ (by omega) (by omega)).mono ?_
      rintro e w' ⟨rfl, hb⟩
      have N9 := Lib.hid (M9.out.keep hb)
      clear M9 hb
      obtain ⟨u9, x9⟩ := N9.out.cell (i * 10 + 9) (by omega)
      have f9 := N9.out.frozen (i * 10 + 9)
      go_wp2_with fail
      have M10 := Lib.hid (N9.out.set (i * 10 + 9) (.string (mt (K + 1 + 1 + 1 + 1 + 1 + 1 + 1 + 1 + 1))))
      clear N9 x9 f9
      generalize World.setCell _ _ _ = w10 at *
      go_roundw
      case rel =>
        refine ⟨i + 1, by omega, by go_num, by have := HK.out; rw [show K + 1 + 1 + 1 + 1 + 1 + 1 + 1 + 1 + 1 + 1 = 10 * ((i + 1 : Nat) : Int) + 1 by omega], Lib.hid (M10.out.cast ?_)⟩
        rw [HX.out, HE1.out, HE2.out, set10 _ _ i (by rw [rows_len, marked_len])]
        have := HK.out
        subst this
        rfl
      case measure => simp [intOf]; omega
    · obtain rfl : i = ms.length := by omega
      have b1 : decide ((ms.length : Int) < (ms.length : Int)) = false := decide_eq_false (by omega)
      rw [part_end] at KO
      go_wp2_with fail
      go_ret
      have hl := marked_len ms.length
      refine ⟨rfl, ?_, by obtain ⟨_, _, _, _, _, _, _, h⟩ := KO.out; exact h⟩
      have := Mk.own (ms := marked ms.length) (w := w) (wr := _) (B := B) (g := g) (cap := cap) (by rw [hl]; exact KO.out)
      rwa [hl] at this
end Go.Proofs.Ytddemmmbbleofaa.C
