/- Drawn texts, wants, weights and messages: what the reference draws of them. No condition. -/
import Derived.Test.YtddemmmbbleofaaDraw
import Derived.Test.YtddemmmbbleofaaLaw
import Derived.Test.YtddemmmbbleofaaWWords
import Derived.Laws.AppendOwn
namespace Go.Proofs.Ytddemmmbbleofaa.C
open Go.RowKit
set_option maxRecDepth 100000
set_option linter.unusedVariables false
set_option linter.unusedSimpArgs false
attribute [local go_sem ↓] Go.wp_at_zero Go.wp_at_succ
/-- Behind an append to a row of the call's own: what lay before the call lies as it lay, but block g. -/
theorem only_own {w a b : World} {g : Nat} {row : Option Nat} (h : w.grownBy a (some g)) (k : a.grownBy b row) (hr : ∀ i, row = some i → w.heap.size ≤ i) : w.grownBy b (some g) :=
  ⟨k.os.trans h.os, k.tape.trans h.tape, k.output.trans h.output, Nat.le_trans h.size k.size, fun i hi hne => (k.block i (Nat.lt_of_lt_of_le hi h.size) (fun e => by have := hr i e.symm; omega)).trans (h.block i hi hne)⟩
theorem below_own {B : Nat} {w a b : World} {row : Option Nat} (h : Below B w a) (k : a.grownBy b row) (hw : B ≤ w.heap.size) (hr : ∀ i, row = some i → B ≤ i) : Below B w b :=
  ⟨k.os.trans h.os, k.tape.trans h.tape, k.output.trans h.output, Nat.le_trans h.size k.size, fun i hi => (k.block i (Nat.lt_of_lt_of_le hi (Nat.le_trans hw h.size)) (fun e => by have := hr i e.symm; omega)).trans (h.block i hi)⟩
/-- A source stays where a row of the call's own grows. -/
theorem Src.own {w w' : World} {g n B : Nat} {A : Option Addr} {row : Option Nat} (h : Src w g A n) (hg : w.grownBy w' row) (hr : ∀ i, row = some i → B ≤ i) (hgB : g < B) (hA : ∀ j, j < n → ∀ ad, A = some ad → ad.block < B) : Src w' g A n := by
  obtain ⟨c, a, m, s, hB, a0, a1, m0, m1, s0, s1⟩ := h.ex
  have hne : ∀ b, b < B → some b ≠ row := fun b hb e => by have := hr b e.symm; omega
  refine ⟨h.len, fun j hj => ?_, ⟨c, a, m, s, ⟨hB.1, (hg.block g hB.lt (hne g hgB)).trans hB.2⟩, a0, a1, m0, m1, s0, s1⟩⟩
  obtain ⟨ad, x, e, hne', hlt, x0, x1, hx⟩ := h.bytes j hj
  refine ⟨ad, x, e, hne', Nat.lt_of_lt_of_le hlt hg.size, x0, x1, ?_⟩
  exact hg.cell hx (by rw [show (ad.add j).block = ad.block from by rw [Addr.add]; split <;> rfl]; exact hne _ (hA j hj ad e))
theorem Src.lt' {w : World} {g : Nat} {A : Option Addr} {n : Nat} (h : Src w g A n) : g < w.heap.size := let ⟨_, _, _, _, hB, _⟩ := h.ex; hB.lt
theorem Src.blocks {w : World} {g : Nat} {A : Option Addr} {n : Nat} (h : Src w g A n) : ∀ j, j < n → ∀ ad, A = some ad → ad.block < w.heap.size := fun j hj ad e => by
  obtain ⟨ad', x, e', _, hlt, _⟩ := h.bytes j hj
  rw [e] at e'
  cases e'
  exact hlt
/-- What an own row of whole numbers reads as. -/
theorem owns_reads {w : World} {base e : Nat} {k : IntKind} {v : Value} {n : Nat} {xs : List Int} (h : w.ownsRow base e 1 v n (xs.map (Value.int k))) (hn : n ≤ 9223372036854775807) : ∃ A c, v = .slice A n c ∧ Go.Proofs.YtddemmmbbleofaaW.PrintWords.ReadsInt w k A n xs := by
  have h0 := h
  obtain ⟨hl, ⟨rfl, rfl⟩ | ⟨g, cap, cur, rfl, hb, hg, h1, h2, h3, h4⟩⟩ := h
  · exact ⟨none, 0, rfl, by simpa using hl, by omega, fun h => absurd h (by omega)⟩
  · have hc := h0.cells (g := g) rfl
    have hlen : xs.length = n := by simpa using hl
    refine ⟨_, cap, rfl, hlen, hn, fun _ => ⟨_, rfl, ?_⟩⟩
    intro j hj
    exact hc j _ (by rw [List.getElem?_map, List.getElem?_eq_getElem (by omega)]; simp [List.getD, List.getElem?_eq_getElem (show j < xs.length by omega)])
theorem one_new (w : World) (v : Value) (t : Nat) : ∀ j u, [v][j]? = some u → (w.alloc (.cells #[v] t)).cell? ((⟨w.heap.size, 0, none⟩ : Addr).add j) = some u := by
  intro j u hj
  cases j with
  | zero => simp at hj; subst hj; simp [Addr.add]
  | succ j => simp at hj
theorem infoU8 : (Try.prog.info? 5).map (fun i => (i.zero, i.size, i.bytes)) = some (some (.int .u8 0), 1, 1) := by kernel_rfl
def RndS (k : Nat) (g : Nat) (A : Option Addr) (n : Nat) (w : World) (e : Ending) (w' : World) : Prop := ∃ s : ByteArray, e = .returned (.string s) ∧ s.size ≤ k ∧ Src w' g A n ∧ w.grownBy w' (some g)
set_option maxHeartbeats 2000000 in
theorem s_bytes (g : Nat) (A : Option Addr) (n k : Nat) (w : World) (h : Src w g A n) (hk : k ≤ 1000) :
    Calls Try.prog 99 #[.pointer (some ⟨g, 0, none⟩), .int .i64 k] w (RndS k g A n w) := by
  have hu := Try.underlying22
  have H := Lib.hid h
  obtain ⟨i0, hi, hz0, hz1, hz2⟩ := info_parts infoU8
  have HA := Lib.hid h.blocks
  have hlt := h.lt'
  clear h
  go_enter Try.func99, Try.ntmps99
  go_wp2_with fail
  have hO : (w.alloc (.cells #[] 5)).ownsRow w.heap.size 5 1 (.slice (some ⟨w.heap.size, 0, none⟩) 0 0) 0 [] := World.ownsRow_made w #[] 0 (Nat.le_refl _) (by decide) rfl
  have hS := H.out.keep ((Below.refl w.heap.size w).alloc (Nat.le_refl _) (.cells #[] 5))
  have hG : w.grownBy (w.alloc (.cells #[] 5)) (some g) := only_alloc (World.grownBy.refl w _) _
  have hz := Nat.le_refl w.heap.size
  generalize hB : w.heap.size = B at *
  go_loopw [5, 6] (fun v5 v6 wr => ∃ (i : Nat) (xs : List Int), i ≤ k ∧ v6 = .int .i64 i ∧ Hid (wr.ownsRow B 5 1 v5 i (xs.map (Value.int .u8))) ∧ Hid (Src wr g A n) ∧ Hid (w.grownBy wr (some g))) (fun _ v6 _ => k - (intOf v6).toNat)
  case atStart => exact ⟨0, [], by omega, rfl, Lib.hid hO, Lib.hid hS, Lib.hid hG⟩
  case round =>
    obtain ⟨i, xs, hik, rfl, KO, KS, KG⟩ := hrel
    clear hO hS hG
    by_cases h5 : i < k
    · go_wp2_with fail
      refine (s_n _ _ _ _ _ KS.out (by omega)).mono ?_
      rintro e w' ⟨r, rfl, r0, r1, r2, hS, hG⟩
      have rk := r1 (by omega)
      have hne : u5.ownBlock = none ∨ u5.ownBlock ≠ some g := .inr fun e => by have := (KO.out.lt g e).1; omega
      have hO := KO.out.kept hG hne
      have hlo := KO.out.lt
      have hwz := hG.size
      have hwz2 := KG.out.size
      have KG2 := Lib.hid (only_trans KG.out hG)
      clear hne KO KS r1 r2 KG hG
      have c2 : ∀ u ∈ [Value.int .u8 r], u.oneCell' = true := by simp [Value.oneCell']
      have c3 : i + 1 ≤ maxLen := by unfold maxLen; omega
      have c4 : (i + 1) * 1 ≤ 140737488355328 := by omega
      have c5 : B ≤ (w'.alloc (.cells #[.int .u8 r] 5)).heap.size := by simp; omega
      go_wp2_with (at_builtin; refine wpList_append_own _ rfl _ _ 22 rfl B 5 i0 (.int .u8 0) 1 1 hu hi hz0 hz1 hz2 rfl (by decide) _ _ _ rfl (hO.alloc _) ⟨w'.heap.size, 0, none⟩ 1 1 [.int .u8 r] rfl rfl (one_new _ _ _) c2 c3 c4 c5 ?_; intro v' w1 hown' hgrow _)
      clear c2 c3 c4 c5
      have KS := Lib.hid ((hS.keep ((Below.refl w'.heap.size w').alloc (Nat.le_refl _) (.cells #[.int .u8 r] 5))).own hgrow (B := B) (fun b e => (hlo b e).1) (by omega) (by have := HA.out; exact this))
      have KG3 := Lib.hid (only_own (only_alloc KG2.out _) hgrow (fun b e => by have := (hlo b e).1; omega))
      have KO := Lib.hid hown'
      clear hown' hgrow hO hS KG2 hlo
      go_roundw
      case rel => exact ⟨i + 1, xs ++ [r], by omega, by go_num, by simpa using KO, KS, KG3⟩
      case measure => simp [intOf]; omega
    · obtain rfl : i = k := by omega
      obtain ⟨A', c', rfl, hr⟩ := owns_reads KO.out (by omega)
      have hcv := Go.Proofs.YtddemmmbbleofaaW.PrintWords.string_of_reads (P := Try.prog) (c := c') Try.underlying22 Try.underlying5 Try.underlying9 hr
      have hl := Lib.hid hr.1
      clear hr KO
      go_wp2_with fail
      go_ret
      exact ⟨_, rfl, by have := hl.out; simp [strOfNums, ByteArray.size]; omega, KS.out, KG.out⟩
def RndU (g : Nat) (A : Option Addr) (n : Nat) (w : World) (e : Ending) (w' : World) : Prop := ∃ r : Int, e = .returned (.int .i64 r) ∧ 0 ≤ r ∧ r ≤ 1125899906842625 ∧ Src w' g A n ∧ w.grownBy w' (some g)
theorem s_l02WantOf (g : Nat) (A : Option Addr) (n : Nat) (w : World) (h : Src w g A n) : Calls Try.prog 100 #[.pointer (some ⟨g, 0, none⟩)] w (RndU g A n w) := by
  have H := Lib.hid h
  clear h
  go_enter Try.func100, Try.ntmps100
  go_wp2_with fail
  refine (s_n _ _ _ _ _ H.out (by omega)).mono ?_
  rintro e w1 ⟨r, rfl, r0, r1, r2, hS, hG⟩
  have HS := Lib.hid hS
  have HG := Lib.hid hG
  clear hS hG r1 r2
  by_cases k0 : r = 0
  · subst k0
    go_wp2_with fail
    go_ret
    exact ⟨0, rfl, by omega, by omega, HS.out, HG.out⟩
  · have b0 : (r == 0) = false := beq_eq_false_iff_ne.mpr k0
    by_cases k1 : r = 1
    · subst k1
      go_wp2_with fail
      refine (s_n _ _ _ _ _ HS.out (by omega)).mono ?_
      rintro e w2 ⟨q, rfl, q0, q1, q2, hS, hG⟩
      have q3 := q1 (by omega)
      clear q1 q2
      go_wp2_with fail
      go_ret
      exact ⟨q, rfl, by omega, by omega, hS, only_trans HG.out hG⟩
    · have b1 : (r == 1) = false := beq_eq_false_iff_ne.mpr k1
      by_cases k2 : r = 2
      · subst k2
        go_wp2_with fail
        go_ret
        exact ⟨_, rfl, by omega, by omega, HS.out, HG.out⟩
      · have b2 : (r == 2) = false := beq_eq_false_iff_ne.mpr k2
        clear k0 k1 k2
        go_wp2_with fail
        refine (s_n _ _ _ _ _ HS.out (by omega)).mono ?_
        rintro e w2 ⟨q, rfl, q0, q1, q2, hS, hG⟩
        have q3 := q1 (by omega)
        clear q1 q2
        go_wp2_with fail
        go_ret
        exact ⟨q, rfl, by omega, by omega, hS, only_trans HG.out hG⟩
theorem s_l02WeightOf (g : Nat) (A : Option Addr) (n : Nat) (w : World) (h : Src w g A n) : Calls Try.prog 101 #[.pointer (some ⟨g, 0, none⟩)] w (RndU g A n w) := by
  have H := Lib.hid h
  clear h
  go_enter Try.func101, Try.ntmps101
  go_wp2_with fail
  refine (s_n _ _ _ _ _ H.out (by omega)).mono ?_
  rintro e w1 ⟨r, rfl, r0, r1, r2, hS, hG⟩
  have HS := Lib.hid hS
  have HG := Lib.hid hG
  clear hS hG r1 r2
  by_cases k0 : r = 0
  · subst k0
    go_wp2_with fail
    refine (s_n _ _ _ _ _ HS.out (by omega)).mono ?_
    rintro e w2 ⟨q, rfl, q0, q1, q2, hS, hG⟩
    have q3 := q1 (by omega)
    clear q1 q2
    go_wp2_with fail
    go_ret
    exact ⟨_, rfl, by omega, by omega, hS, only_trans HG.out hG⟩
  · have b0 : (r == 0) = false := beq_eq_false_iff_ne.mpr k0
    by_cases k1 : r = 1
    · subst k1
      go_wp2_with fail
      go_ret
      exact ⟨_, rfl, by omega, by omega, HS.out, HG.out⟩
    · have b1 : (r == 1) = false := beq_eq_false_iff_ne.mpr k1
      clear k0 k1
      go_wp2_with fail
      refine (s_n _ _ _ _ _ HS.out (by omega)).mono ?_
      rintro e w2 ⟨q, rfl, q0, q1, q2, hS, hG⟩
      have q3 := q1 (by omega)
      clear q1 q2
      go_wp2_with fail
      go_ret
      exact ⟨_, rfl, by omega, by omega, hS, only_trans HG.out hG⟩
theorem setRow_only (w : World) (b : Nat) (r : Array Value) : w.grownBy (w.setRow b r) (some b) :=
  ⟨rfl, rfl, rfl, by simp, fun k hk hne => setRow_other w b k r (by simpa using hne)⟩
theorem Room.grownD {w w1 : World} {B b n g : Nat} {t : TypeId} (h : Room w B b n t) (hb : w.grownBy w1 (some g)) (hne : b ≠ g) : Room w1 B b n t := let ⟨cs, h1, h2⟩ := h; ⟨cs, h1.grown hb hne, h2⟩
/-- A drawn message in its block, the result's block, the source. -/
structure DM (g : Nat) (A : Option Addr) (n b0 bm : Nat) (w wk : World) : Prop where
  src : Src wk g A n
  row : ∃ (a0 a1 a2 a3 a4 a5 a6 a7 a8 : Int) (s : ByteArray), s.size ≤ 41 ∧ Blk wk 0 bm #[.int .i64 a0, .int .i64 a1, .int .i64 a2, .int .i64 a3, .int .i64 a4, .int .i64 a5, .int .i64 a6, .int .i64 a7, .int .i64 a8, .string s] 28
  out : Room wk b0 b0 10 28
  gr : w.grownBy wk (some g)
  hb : w.heap.size + 0 = b0
  hg : g < b0
  hm : b0 < bm
theorem DM.drawn {g : Nat} {A : Option Addr} {n b0 bm : Nat} {w wk w' : World} (h : DM g A n b0 bm w wk) (hS : Src w' g A n) (hG : wk.grownBy w' (some g)) : DM g A n b0 bm w w' :=
  let ⟨a0, a1, a2, a3, a4, a5, a6, a7, a8, s, hs, hB⟩ := h.row
  ⟨hS, ⟨a0, a1, a2, a3, a4, a5, a6, a7, a8, s, hs, hB.grown hG (by have := h.hg; have := h.hm; omega)⟩, h.out.grownD hG (by have := h.hg; omega), only_trans h.gr hG, h.hb, h.hg, h.hm⟩
theorem Src.setf {w : World} {g : Nat} {A : Option Addr} {n B : Nat} (h : Src w g A n) {p : Addr} (hp : B ≤ p.block) (hgB : g < B) (hA : ∀ j, j < n → ∀ ad, A = some ad → ad.block < B) (u : Value) : Src (w.setCell p u) g A n :=
  h.own (row := some p.block) ⟨rfl, rfl, rfl, by simp, fun k _ hne => Below.heap_setCell w p u k (fun e => hne (by rw [e]))⟩ (B := B) (fun i e => by cases e; exact hp) hgB hA
theorem DM.setx {g : Nat} {A : Option Addr} {n b0 bm : Nat} {w wk : World} (h : DM g A n b0 bm w wk) (hA : ∀ j, j < n → ∀ ad, A = some ad → ad.block < b0) (i : Nat) (v : Value)
    (hrow : ∃ (a0 a1 a2 a3 a4 a5 a6 a7 a8 : Int) (s : ByteArray), s.size ≤ 41 ∧ Blk (wk.setCell ⟨bm, i, none⟩ v) 0 bm #[.int .i64 a0, .int .i64 a1, .int .i64 a2, .int .i64 a3, .int .i64 a4, .int .i64 a5, .int .i64 a6, .int .i64 a7, .int .i64 a8, .string s] 28) : DM g A n b0 bm w (wk.setCell ⟨bm, i, none⟩ v) :=
  ⟨h.src.setf (B := b0) (by have := h.hm; show b0 ≤ bm; omega) h.hg hA v, hrow, h.out.set_far (by have := h.hm; show b0 ≠ bm; omega) v, only_setCell h.gr (.inr (by have := h.hb; have := h.hm; show w.heap.size ≤ bm; omega)) v, h.hb, h.hg, h.hm⟩
theorem DM.set {g : Nat} {A : Option Addr} {n b0 bm : Nat} {w wk : World} (h : DM g A n b0 bm w wk) (hA : ∀ j, j < n → ∀ ad, A = some ad → ad.block < b0) (i : Nat) (hi : i < 9) (x : Int) : DM g A n b0 bm w (wk.setCell ⟨bm, i, none⟩ (.int .i64 x)) := by
  refine h.setx hA i _ ?_
  obtain ⟨a0, a1, a2, a3, a4, a5, a6, a7, a8, s, hs, hB⟩ := h.row
  have := hB.setc i (.int .i64 x)
  match i, hi with
  | 0, _ => exact ⟨x, a1, a2, a3, a4, a5, a6, a7, a8, s, hs, this⟩
  | 1, _ => exact ⟨a0, x, a2, a3, a4, a5, a6, a7, a8, s, hs, this⟩
  | 2, _ => exact ⟨a0, a1, x, a3, a4, a5, a6, a7, a8, s, hs, this⟩
  | 3, _ => exact ⟨a0, a1, a2, x, a4, a5, a6, a7, a8, s, hs, this⟩
  | 4, _ => exact ⟨a0, a1, a2, a3, x, a5, a6, a7, a8, s, hs, this⟩
  | 5, _ => exact ⟨a0, a1, a2, a3, a4, x, a6, a7, a8, s, hs, this⟩
  | 6, _ => exact ⟨a0, a1, a2, a3, a4, a5, x, a7, a8, s, hs, this⟩
  | 7, _ => exact ⟨a0, a1, a2, a3, a4, a5, a6, x, a8, s, hs, this⟩
  | 8, _ => exact ⟨a0, a1, a2, a3, a4, a5, a6, a7, x, s, hs, this⟩
theorem DM.setn {g : Nat} {A : Option Addr} {n b0 bm : Nat} {w wk : World} (h : DM g A n b0 bm w wk) (hA : ∀ j, j < n → ∀ ad, A = some ad → ad.block < b0) (z : ByteArray) (hz : z.size ≤ 41) : DM g A n b0 bm w (wk.setCell ⟨bm, 9, none⟩ (.string z)) := by
  refine h.setx hA 9 _ ?_
  obtain ⟨a0, a1, a2, a3, a4, a5, a6, a7, a8, s, hs, hB⟩ := h.row
  exact ⟨a0, a1, a2, a3, a4, a5, a6, a7, a8, z, hz, hB.setc 9 (.string z)⟩
/-- What a cell holds. -/
def cw (g i : Nat) (w : World) : Value := (w.cell? ⟨g, i, none⟩).getD undef
theorem DM.cell {g : Nat} {A : Option Addr} {n b0 bm : Nat} {w wk : World} (h : DM g A n b0 bm w wk) (i : Nat) (hi : i < 10) : wk.cell? ⟨bm, i, none⟩ = some (cw bm i wk) ∧ wk.frozen? ⟨bm, i, none⟩ = false := by
  obtain ⟨a0, a1, a2, a3, a4, a5, a6, a7, a8, s, hs, hB⟩ := h.row
  refine ⟨?_, hB.frozen i⟩
  unfold cw
  rw [hB.cell i, Array.getElem?_eq_getElem (by simpa using hi)]
  rfl
def DMP (g : Nat) (A : Option Addr) (n : Nat) (w : World) (e : Ending) (w' : World) : Prop := ∃ (a0 a1 a2 a3 a4 a5 a6 a7 a8 : Int) (s : ByteArray), e = .returned (.agg #[.int .i64 a0, .int .i64 a1, .int .i64 a2, .int .i64 a3, .int .i64 a4, .int .i64 a5, .int .i64 a6, .int .i64 a7, .int .i64 a8, .string s]) ∧ s.size ≤ 41 ∧ Src w' g A n ∧ w.grownBy w' (some g)
set_option maxHeartbeats 8000000 in
theorem s_l11Msg (g : Nat) (A : Option Addr) (n : Nat) (w : World) (h : Src w g A n) : Calls Try.prog 87 #[.pointer (some ⟨g, 0, none⟩)] w (DMP g A n w) := by
  have hu := Try.underlying28
  have HA := Lib.hid h.blocks
  have hlt := h.lt'
  have H := Lib.hid (h.keep ((Below.refl w.heap.size w).alloc (Nat.le_refl _) (.cells #[.int .i64 0, .int .i64 0, .int .i64 0, .int .i64 0, .int .i64 0, .int .i64 0, .int .i64 0, .int .i64 0, .int .i64 0, .string ⟨#[]⟩] 28)))
  have R0 : Room (w.alloc (.cells #[.int .i64 0, .int .i64 0, .int .i64 0, .int .i64 0, .int .i64 0, .int .i64 0, .int .i64 0, .int .i64 0, .int .i64 0, .string ⟨#[]⟩] 28)) w.heap.size w.heap.size 10 28 := Room.new (Nat.le_refl _) rfl
  have G0 : w.grownBy (w.alloc (.cells #[.int .i64 0, .int .i64 0, .int .i64 0, .int .i64 0, .int .i64 0, .int .i64 0, .int .i64 0, .int .i64 0, .int .i64 0, .string ⟨#[]⟩] 28)) (some g) := only_alloc (World.grownBy.refl w _) _
  clear h
  go_enter Try.func87, Try.ntmps87
  go_upto_region 1 with fail
  generalize hb0 : w.heap.size = b0 at *
  have hbb : w.heap.size + 0 = b0 := hb0
  clear hb0
  generalize w.alloc (.cells #[.int .i64 0, .int .i64 0, .int .i64 0, .int .i64 0, .int .i64 0, .int .i64 0, .int .i64 0, .int .i64 0, .int .i64 0, .string ⟨#[]⟩] 28) = w0 at *
  go_cut [3] (fun v3 wc => ∃ (wx : World) (bm : Nat), wx = wc ∧ v3 = .pointer (some ⟨bm, 0, none⟩) ∧ DM g A n b0 bm w wx)
  case first =>
    go_wp2_with fail
    refine (s_n _ _ _ _ _ H.out (by omega)).mono ?_
    rintro e w1 ⟨q1, rfl, a1, b1, -, hS1, hG1⟩
    have c1 := b1 (by omega)
    clear b1
    go_wp2_with fail
    refine (s_n _ _ _ _ _ hS1 (by omega)).mono ?_
    rintro e w2 ⟨q2, rfl, a2, b2, -, hS2, hG2⟩
    have c2 := b2 (by omega)
    clear b2
    go_wp2_with fail
    refine (s_n _ _ _ _ _ hS2 (by omega)).mono ?_
    rintro e w3 ⟨q3, rfl, a3, b3, -, hS3, hG3⟩
    have c3 := b3 (by omega)
    clear b3
    go_wp2_with fail
    refine (s_n _ _ _ _ _ hS3 (by omega)).mono ?_
    rintro e w4 ⟨q4, rfl, a4, b4, -, hS4, hG4⟩
    have c4 := b4 (by omega)
    clear b4
    obtain ⟨k4, rfl⟩ := Int.eq_ofNat_of_zero_le a4
    go_wp2_with fail
    refine (s_bytes _ _ _ k4 _ hS4 (by omega)).mono ?_
    rintro e w5 ⟨z, rfl, hz, hS5, hG5⟩
    have HG := only_trans (only_trans (only_trans (only_trans hG1 hG2) hG3) hG4) hG5
    have R5 := R0.grownD HG (by omega)
    have G5 := only_trans G0 HG
    have l5 := hS5.lt'
    have hlt5 : b0 < w5.heap.size := by obtain ⟨cs, hB, _⟩ := R5; exact hB.lt
    have HS5 := Lib.hid hS5
    have HR5 := Lib.hid R5
    have HG5 := Lib.hid G5
    clear hS1 hS2 hS3 hS4 hS5 hG1 hG2 hG3 hG4 hG5 HG R5 G5 R0 G0 H
    go_wp2_with fail
    go_meet
    have hal := (Below.refl w5.heap.size w5).alloc (Nat.le_refl _) (.cells #[.int .i64 (1 + q1), .int .i64 (1 + q2), .int .i64 q3, .int .i64 0, .int .i64 0, .int .i64 0, .int .i64 0, .int .i64 0, .int .i64 0, .string z] 28)
    exact ⟨_, w5.heap.size, rfl, rfl, HS5.out.keep hal, ⟨_, _, _, _, _, _, _, _, _, z, by omega, Blk.new (Nat.zero_le _) _ _⟩, HR5.out.keep hal, only_alloc HG5.out _, hbb, by omega, hlt5⟩
  case rest =>
    obtain ⟨w1, bm, rfl, rfl, D1⟩ := hcut
    clear R0 G0 H
    rename_i hK
    refine hK _ _ ?_
    clear hK
    go_step
    go_cut [] (fun wc => ∃ (wx : World), wx = wc ∧ DM g A n b0 bm w wx)
    case first =>
      go_wp2_with fail
      refine (s_one _ _ _ _ _ D1.src (by omega)).mono ?_
      rintro e w' ⟨q, rfl, hS, hG⟩
      have D2 := D1.drawn hS hG
      clear hS hG D1
      cases q
      · go_wp2_with fail
        go_meet
        exact ⟨_, rfl, D2⟩
      · go_wp2_with fail
        refine (s_n _ _ _ _ _ D2.src (by omega)).mono ?_
        rintro e w' ⟨r, rfl, r0, r1, r2, hS, hG⟩
        have r3 := r1 (by omega)
        have D3 := D2.drawn hS hG
        clear r1 r2 hS hG D2
        obtain ⟨k, rfl⟩ := Int.eq_ofNat_of_zero_le r0
        have ek : (39 : Int) + (k : Int) = ((39 + k : Nat) : Int) := by omega
        have HK := Lib.hid ek
        clear ek
        go_wp2_with fail
        rw [HK.out]
        refine (s_bytes _ _ _ (39 + k) _ D3.src (by omega)).mono ?_
        rintro e w' ⟨z, rfl, hz, hS, hG⟩
        have D4 := D3.drawn hS hG
        clear hS hG D3
        obtain ⟨hc, hf⟩ := D4.cell 9 (by omega)
        go_wp2_with fail
        have D5 := D4.setn HA.out z (by omega)
        go_meet
        exact ⟨_, rfl, D5⟩
    case rest =>
      obtain ⟨w1, rfl, D1⟩ := hcut
      rename_i hK
      refine hK _ _ ?_
      clear hK
      go_step
      go_cut [] (fun wc => ∃ (wx : World), wx = wc ∧ DM g A n b0 bm w wx)
      case first =>
        obtain ⟨a0, a1, a2, a3, a4, a5, a6, a7, a8, s, hs, hB⟩ := D1.row
        have c0 := (hB.cell 0).trans (by rfl)
        clear hB hs
        by_cases k1 : a0 = 1
        · subst k1
          go_wp2_with fail
          clear c0
          refine (s_n _ _ _ _ _ D1.src (by omega)).mono ?_; rintro e w' ⟨r, rfl, r0, r1, r2, hS, hG⟩; have D2 := D1.drawn hS hG; clear r1 r2 hS hG D1
          obtain ⟨hc, hf⟩ := D2.cell 3 (by omega); go_wp2_with fail; have D3 := D2.set HA.out 3 (by omega) r; clear hc hf D2
          refine (s_l02WantOf _ _ _ _ D3.src).mono ?_
          rintro e w' ⟨r, rfl, r0, r1, hS, hG⟩
          have D4 := D3.drawn hS hG
          clear r0 r1 hS hG D3
          obtain ⟨hc, hf⟩ := D4.cell 4 (by omega); go_wp2_with fail; have D5 := D4.set HA.out 4 (by omega) r; clear hc hf D4
          refine (s_l02WeightOf _ _ _ _ D5.src).mono ?_
          rintro e w' ⟨r, rfl, r0, r1, hS, hG⟩
          have D6 := D5.drawn hS hG
          clear r0 r1 hS hG D5
          obtain ⟨hc, hf⟩ := D6.cell 5 (by omega); go_wp2_with fail; have D7 := D6.set HA.out 5 (by omega) r; clear hc hf D6
          go_meet
          exact ⟨_, rfl, D7⟩
        · by_cases k3 : a0 = 3
          · subst k3
            go_wp2_with fail
            clear c0
            refine (s_l02WantOf _ _ _ _ D1.src).mono ?_
            rintro e w' ⟨r, rfl, r0, r1, hS, hG⟩
            have D2 := D1.drawn hS hG
            clear r0 r1 hS hG D1
            obtain ⟨hc, hf⟩ := D2.cell 6 (by omega); go_wp2_with fail; have D3 := D2.set HA.out 6 (by omega) r; clear hc hf D2
            refine (s_n _ _ _ _ _ D3.src (by omega)).mono ?_; rintro e w' ⟨r, rfl, r0, r1, r2, hS, hG⟩; have D4 := D3.drawn hS hG; clear r1 r2 hS hG D3
            obtain ⟨hc, hf⟩ := D4.cell 7 (by omega); go_wp2_with fail; have D5 := D4.set HA.out 7 (by omega) r; clear hc hf D4
            refine (s_n _ _ _ _ _ D5.src (by omega)).mono ?_; rintro e w' ⟨r, rfl, r0, r1, r2, hS, hG⟩; have D6 := D5.drawn hS hG; clear r1 r2 hS hG D5
            obtain ⟨hc, hf⟩ := D6.cell 8 (by omega); go_wp2_with fail; have D7 := D6.set HA.out 8 (by omega) r; clear hc hf D6
            go_meet
            exact ⟨_, rfl, D7⟩
          · have b1 : (a0 == 1) = false := beq_eq_false_iff_ne.mpr k1
            have b3 : (a0 == 3) = false := beq_eq_false_iff_ne.mpr k3
            clear k1 k3
            go_wp2_with fail
            go_meet
            exact ⟨_, rfl, D1⟩
      case rest =>
        obtain ⟨w1, rfl, D1⟩ := hcut
        rename_i hK
        refine hK _ _ ?_
        clear hK
        go_step
        go_cut [] (fun wc => ∃ (wx : World), wx = wc ∧ DM g A n b0 bm w wx)
        case first =>
          go_wp2_with fail
          refine (s_one _ _ _ _ _ D1.src (by omega)).mono ?_
          rintro e w' ⟨q, rfl, hS, hG⟩
          have D2 := D1.drawn hS hG
          clear hS hG D1
          cases q
          · go_wp2_with fail
            go_meet
            exact ⟨_, rfl, D2⟩
          · go_wp2_with fail
            refine (s_n _ _ _ _ _ D2.src (by omega)).mono ?_
            rintro e w' ⟨k, rfl, k0, k1, -, hS, hG⟩
            have D3 := D2.drawn hS hG
            clear k1 hS hG D2
            by_cases e0 : k = 0
            · subst e0
              go_wp2_with fail
              refine (s_n _ _ _ _ _ D3.src (by omega)).mono ?_; rintro e w' ⟨r, rfl, r0, r1, r2, hS, hG⟩; have D4 := D3.drawn hS hG; clear r1 r2 hS hG D3
              obtain ⟨hc, hf⟩ := D4.cell 0 (by omega); go_wp2_with fail; have D5 := D4.set HA.out 0 (by omega) r; clear hc hf D4
              go_meet
              exact ⟨_, rfl, D5⟩
            · have f0 : (k == 0) = false := beq_eq_false_iff_ne.mpr e0
              by_cases e1 : k = 1
              · subst e1
                go_wp2_with fail
                refine (s_edge _ _ _ _ D3.src).mono ?_
                rintro e w' ⟨r, rfl, r0, r1, hS, hG⟩
                have D4 := D3.drawn hS hG
                clear r0 r1 hS hG D3
                obtain ⟨hc, hf⟩ := D4.cell 1 (by omega); go_wp2_with fail; have D5 := D4.set HA.out 1 (by omega) r; clear hc hf D4
                go_meet
                exact ⟨_, rfl, D5⟩
              · have f1 : (k == 1) = false := beq_eq_false_iff_ne.mpr e1
                by_cases e2 : k = 2
                · subst e2
                  go_wp2_with fail
                  refine (s_n _ _ _ _ _ D3.src (by omega)).mono ?_; rintro e w' ⟨r, rfl, r0, r1, r2, hS, hG⟩; have D4 := D3.drawn hS hG; clear r1 r2 hS hG D3
                  obtain ⟨hc, hf⟩ := D4.cell 8 (by omega); go_wp2_with fail; have D5 := D4.set HA.out 8 (by omega) r; clear hc hf D4
                  go_meet
                  exact ⟨_, rfl, D5⟩
                · have f2 : (k == 2) = false := beq_eq_false_iff_ne.mpr e2
                  by_cases e3 : k = 3
                  · subst e3
                    go_wp2_with fail
                    refine (s_n _ _ _ _ _ D3.src (by omega)).mono ?_
                    rintro e w' ⟨r, rfl, r0, r1, r2, hS, hG⟩
                    have r3 := r1 (by omega)
                    have D4 := D3.drawn hS hG
                    clear r1 r2 hS hG D3
                    obtain ⟨hc, hf⟩ := D4.cell 2 (by omega); go_wp2_with fail; have D5 := D4.set HA.out 2 (by omega) (1000000 + r); clear hc hf D4
                    go_meet
                    exact ⟨_, rfl, D5⟩
                  · have f3 : (k == 3) = false := beq_eq_false_iff_ne.mpr e3
                    clear e0 e1 e2 e3
                    go_wp2_with fail
                    refine (s_edge _ _ _ _ D3.src).mono ?_
                    rintro e w' ⟨r, rfl, r0, r1, hS, hG⟩
                    have D4 := D3.drawn hS hG
                    clear r0 r1 hS hG D3
                    obtain ⟨hc, hf⟩ := D4.cell 4 (by omega); go_wp2_with fail; have D5 := D4.set HA.out 4 (by omega) r; clear hc hf D4
                    go_meet
                    exact ⟨_, rfl, D5⟩
        case rest =>
          obtain ⟨w1, rfl, D1⟩ := hcut
          rename_i hK
          refine hK _ _ ?_
          clear hK
          obtain ⟨a0, a1, a2, a3, a4, a5, a6, a7, a8, s, hs, hB⟩ := D1.row
          have HB := Lib.hid hB
          have HO := Lib.hid D1.out
          have HS := Lib.hid D1.src
          have HG := Lib.hid D1.gr
          have hm1 := D1.hg
          clear hB D1
          go_wp2_with (first | ((with_reducible refine at_load (ty := 28) (x := .tmp 3) ?_); refine wpl_load_row rfl 28 (.tmp 3) rfl bm rfl HB.out rfl (by kernel_rfl) hu rfl ?_) | ((with_reducible refine at_store (ty := 28) (y := .tmp 77) ?_); refine wpl_store_row rfl 28 (.tmp 2) (.tmp 77) rfl b0 _ rfl rfl HO.out rfl (by kernel_rfl) (by simp [Value.oneCell']) ?_; intro hout))
          refine bodyPost_ret (v := .agg #[.int .i64 a0, .int .i64 a1, .int .i64 a2, .int .i64 a3, .int .i64 a4, .int .i64 a5, .int .i64 a6, .int .i64 a7, .int .i64 a8, .string s]) (results_cell_row rfl _ _ _ _ _ _ _ rfl hout.2 hu rfl (by kernel_rfl)) rfl ⟨a0, a1, a2, a3, a4, a5, a6, a7, a8, s, rfl, hs, ?_, ?_⟩
          · exact HS.out.own (row := some b0) (setRow_only _ _ _) (B := b0) (fun i e => by cases e; exact Nat.le_refl _) hm1 HA.out
          · exact only_own HG.out (setRow_only _ _ _) (fun i e => by cases e; omega)
end Go.Proofs.Ytddemmmbbleofaa.C
