/- Drawn spans and lists of marks. No condition. -/
import Derived.Test.YtddemmmbbleofaaWinP
namespace Go.Proofs.Ytddemmmbbleofaa.C
open Go.RowKit
set_option maxRecDepth 100000
set_option linter.unusedVariables false
set_option linter.unusedSimpArgs false
attribute [local go_sem ↓] Go.wp_at_zero Go.wp_at_succ
theorem src_own_k {w w' : World} {g n B : Nat} {A : Option Addr} {row : Option Nat} (h : Src w g A n) (hg : w.grownBy w' row) (hr : ∀ i, row = some i → B ≤ i) (hgB : g < B) (hA : ∀ j, j < n → ∀ ad, A = some ad → ad.block < B) : Src w' g A n := by
  obtain ⟨c, a, m, s, hB, a0, a1, m0, m1, s0, s1⟩ := h.ex
  have hne : ∀ b, b < B → some b ≠ row := fun b hb e => by have := hr b e.symm; omega
  refine ⟨h.len, fun j hj => ?_, ⟨c, a, m, s, ⟨hB.1, (hg.block g hB.lt (hne g hgB)).trans hB.2⟩, a0, a1, m0, m1, s0, s1⟩⟩
  obtain ⟨ad, x, e, hne', hlt, x0, x1, hx⟩ := h.bytes j hj
  refine ⟨ad, x, e, hne', Nat.lt_of_lt_of_le hlt hg.size, x0, x1, ?_⟩
  exact hg.cell hx (by rw [show (ad.add j).block = ad.block from by rw [Addr.add]; split <;> rfl]; exact hne _ (hA j hj ad e))
theorem src_lt_k {w : World} {g : Nat} {A : Option Addr} {n : Nat} (h : Src w g A n) : g < w.heap.size := let ⟨_, _, _, _, hB, _⟩ := h.ex; hB.lt
theorem src_blocks_k {w : World} {g : Nat} {A : Option Addr} {n : Nat} (h : Src w g A n) : ∀ j, j < n → ∀ ad, A = some ad → ad.block < w.heap.size := fun j hj ad e => by
  obtain ⟨ad', x, e', _, hlt, _⟩ := h.bytes j hj
  rw [e] at e'
  cases e'
  exact hlt
/-- What a source at g and a list of the call's own leave of all that lay. -/
structure Gone (g B : Nat) (w w' : World) : Prop where
  only : ∀ i, i < B → i ≠ g → w'.heap[i]? = w.heap[i]?
  os : w'.os = w.os
  tape : w'.tape = w.tape
  output : w'.output = w.output
  size : w.heap.size ≤ w'.heap.size
theorem s_n_v {g : Nat} {A : Option Addr} {n : Nat} {most : Int} {w : World} (h : Src w g A n) (h1 : 1 < most) (hm : most ≤ 4611686018427387904) :
    Calls Try.prog 41 #[.pointer (some ⟨g, 0, none⟩), .int .i64 most] w fun e w' => ∃ r : Nat, e = .returned (.int .i64 r) ∧ (r : Int) < most ∧ Src w' g A n ∧ w.grownBy w' (some g) := by
  refine (s_n _ _ _ _ _ h hm).mono ?_
  rintro e w' ⟨r, rfl, r0, r1, -, hS, hG⟩
  exact ⟨r.toNat, by rw [Int.toNat_of_nonneg r0], by have := r1 h1; omega, hS, hG⟩
theorem four_lit (k : Nat) (a b c d : Int) (h : k < 4) : ∃ r : Int, (#[Value.int .i64 a, .int .i64 b, .int .i64 c, .int .i64 d] : Array Value)[k]? = some (.int .i64 r) := by
  match k, h with
  | 0, _ => exact ⟨_, rfl⟩
  | 1, _ => exact ⟨_, rfl⟩
  | 2, _ => exact ⟨_, rfl⟩
  | 3, _ => exact ⟨_, rfl⟩
theorem three_lit (k : Nat) (a b c : Int) (h : k < 3) : ∃ r : Int, (#[Value.int .i64 a, .int .i64 b, .int .i64 c] : Array Value)[k]? = some (.int .i64 r) := by
  match k, h with
  | 0, _ => exact ⟨_, rfl⟩
  | 1, _ => exact ⟨_, rfl⟩
  | 2, _ => exact ⟨_, rfl⟩
def SpP (g : Nat) (A : Option Addr) (n : Nat) (w : World) (e : Ending) (w' : World) : Prop := ∃ r : Int, e = .returned (.int .i64 r) ∧ Src w' g A n ∧ w.grownBy w' (some g)
theorem s_l09Span (g : Nat) (A : Option Addr) (n : Nat) (w : World) (h : Src w g A n) : Calls Try.prog 67 #[.pointer (some ⟨g, 0, none⟩)] w (SpP g A n w) := by
  have hu := Try.underlying103
  have H := Lib.hid h
  clear h
  go_enter Try.func67, Try.ntmps67
  go_upto_region 2 with (go_at_call 82; refine (s_one _ _ _ _ _ H.out (by omega)).mono ?_; rintro e w1 ⟨r, rfl, hS1, hG1⟩; have H1 := Lib.hid hS1; have HG1 := Lib.hid hG1; clear hS1 hG1; cases r)
  · refine (s_n_v H1.out (by omega) (by omega)).mono ?_
    rintro e w2 ⟨r, rfl, hr, hS2, hG2⟩
    go_wp2_with fail
    go_ret
    exact ⟨_, rfl, hS2, only_trans HG1.out hG2⟩
  · have hal := (Below.refl w1.heap.size w1).alloc (Nat.le_refl _) (.cells #[.int .i64 0, .int .i64 (-1), .int .i64 1000000, .int .i64 1000001] 2)
    have H2 := Lib.hid (H1.out.keep hal)
    have HR := Lib.hid (Blk.new (w := w1) (B := 0) (Nat.zero_le _) #[.int .i64 0, .int .i64 (-1), .int .i64 1000000, .int .i64 1000001] 2)
    have HG2 := Lib.hid (only_alloc HG1.out (.cells #[.int .i64 0, .int .i64 (-1), .int .i64 1000000, .int .i64 1000001] 2))
    have hlt := src_lt_k H1.out
    clear hal
    go_wp2_with (first | (go_at_call 41; refine (s_n_v H2.out (by omega) (by omega)).mono ?_; rintro e w3 ⟨r, rfl, hr, hS3, hG3⟩; obtain ⟨q, hq⟩ := four_lit r 0 (-1) 1000000 1000001 (by omega); have hc := ((HR.out.grown hG3 (by omega)).cell r).trans hq; clear hq) | fail)
    go_ret
    exact ⟨_, rfl, hS3, only_trans HG2.out hG3⟩
theorem mrows_set (ms : List Mk) : ∀ (r : Nat), r < ms.length → ∀ u : Int, mrows (ms.set r (u, (mat ms r).2)) = (mrows ms).set (r * 2) (.int .i64 u) ∧ mrows (ms.set r ((mat ms r).1, u)) = (mrows ms).set (r * 2 + 1) (.int .i64 u) := by
  induction ms with
  | nil => intro r hr; simp at hr
  | cons a ms ih =>
    intro r hr u
    cases r with
    | zero => exact ⟨rfl, rfl⟩
    | succ r =>
      obtain ⟨i1, i2⟩ := ih r (by simpa using hr) u
      show mrow a ++ mrows (ms.set r (u, (mat ms r).2)) = (mrow a ++ mrows ms).set _ _ ∧ mrow a ++ mrows (ms.set r ((mat ms r).1, u)) = (mrow a ++ mrows ms).set _ _
      rw [i1, i2, show (r + 1) * 2 = r * 2 + 1 + 1 by omega]
      exact ⟨rfl, rfl⟩
/-- One number of a list of the call's own is written. -/
theorem OwnK.set {w : World} {B gA n c r j : Nat} {ms : List Mk} (h : OwnK w B (.slice (some ⟨gA, 0, none⟩) n c) ms) (hr : r < ms.length) (u : Int) (hj : j = r * 2 ∨ j = r * 2 + 1) :
    ∃ ms' : List Mk, ms'.length = ms.length ∧ OwnK (w.setCell ⟨gA, j, none⟩ (.int .i64 u)) B (.slice (some ⟨gA, 0, none⟩) n c) ms' := by
  obtain ⟨A', c', e⟩ := owns_form_k h
  cases e
  have hs := (World.ownsRow.stored h j (.int .i64 u)).1
  obtain ⟨i1, i2⟩ := mrows_set ms r hr u
  rcases hj with rfl | rfl
  · refine ⟨ms.set r (u, (mat ms r).2), by simp, ?_⟩
    unfold OwnK
    rw [i1, List.length_set]
    exact hs
  · refine ⟨ms.set r ((mat ms r).1, u), by simp, ?_⟩
    unfold OwnK
    rw [i2, List.length_set]
    exact hs
theorem OwnK.where {w : World} {B n c : Nat} {A : Option Addr} {ms : List Mk} (h : OwnK w B (.slice A n c) ms) (hm : ms ≠ []) : ∃ gA, A = some ⟨gA, 0, none⟩ ∧ B ≤ gA := by
  have h0 := h
  obtain ⟨hl, ⟨e, hn⟩ | ⟨g, cap, cur, e, hb, _⟩⟩ := h
  · exact absurd (List.length_eq_zero_iff.1 hn) hm
  · cases e
    exact ⟨g, rfl, hb⟩
theorem s_n_w {g : Nat} {A : Option Addr} {n : Nat} {most : Nat} {w : World} (h : Src w g A n) (h1 : 1 ≤ most) (hm : most ≤ 1000) :
    Calls Try.prog 41 #[.pointer (some ⟨g, 0, none⟩), .int .i64 most] w fun e w' => ∃ r : Nat, e = .returned (.int .i64 r) ∧ r < most ∧ Src w' g A n ∧ w.grownBy w' (some g) := by
  refine (s_n _ _ _ _ _ h (by omega)).mono ?_
  rintro e w' ⟨r, rfl, r0, r1, r2, hS, hG⟩
  refine ⟨r.toNat, by rw [Int.toNat_of_nonneg r0], ?_, hS, hG⟩
  by_cases h2 : 1 < most
  · have := r1 (by omega); omega
  · have := r2 (by omega); omega
theorem grown_own_k {w a b : World} {g : Nat} {row : Option Nat} (h : w.grownBy a (some g)) (k : a.grownBy b row) (hr : ∀ i, row = some i → w.heap.size ≤ i) : w.grownBy b (some g) :=
  ⟨k.os.trans h.os, k.tape.trans h.tape, k.output.trans h.output, Nat.le_trans h.size k.size, fun i hi hne => (k.block i (Nat.lt_of_lt_of_le hi h.size) (fun e => by have := hr i e.symm; omega)).trans (h.block i hi hne)⟩
theorem OwnK.farG {w w' : World} {B g : Nat} {v : Value} {ms : List Mk} (h : OwnK w B v ms) (hg : w.grownBy w' (some g)) (hne : g < B) : OwnK w' B v ms :=
  World.ownsRow.kept h hg (by
    rcases hv : v.ownBlock with _ | k
    · exact .inl rfl
    · have := (World.ownsRow.lt h k hv).1
      exact .inr (by simp; omega))
/-- What a source and a list of the call's own, made at B, leave. -/
def Two9 (g B : Nat) (w w' : World) : Prop := w'.os = w.os ∧ w'.tape = w.tape ∧ w'.output = w.output ∧ w.heap.size ≤ w'.heap.size ∧ ∀ i, i < B → i ≠ g → w'.heap[i]? = w.heap[i]?
def MarksP (g : Nat) (A : Option Addr) (n : Nat) (w : World) (e : Ending) (w' : World) : Prop := ∃ (v : Value) (ms : List Mk), e = .returned v ∧ ms.length ≤ 300 ∧ OwnK w' w.heap.size v ms ∧ Src w' g A n ∧ w.grownBy w' (some g)
set_option maxHeartbeats 4000000 in
theorem s_l09Marks (g : Nat) (A : Option Addr) (n : Nat) (w : World) (h : Src w g A n) : Calls Try.prog 68 #[.pointer (some ⟨g, 0, none⟩)] w (MarksP g A n w) := by
  have hu := Try.underlying101
  have hu3 := Try.underlying52
  have hu4 := Try.underlying103
  obtain ⟨j0, hj, hy0, hy1, hy2⟩ := info_parts infoMark
  have HA := Lib.hid (src_blocks_k h)
  have hlt := src_lt_k h
  have HLT := Lib.hid hlt
  have hO : OwnK (w.alloc (.cells #[] 59)) w.heap.size (.slice (some ⟨w.heap.size, 0, none⟩) 0 0) [] := World.ownsRow_made w #[] 0 (Nat.le_refl _) (by decide) rfl
  have hal := (Below.refl w.heap.size w).alloc (Nat.le_refl _) (.cells #[] 59)
  have H := Lib.hid (h.keep hal)
  have HG := Lib.hid (only_alloc (World.grownBy.refl w (some g)) (.cells #[] 59))
  have HO := Lib.hid hO
  obtain ⟨c, a, m, s, hB, a0, a1, m0, m1, s0, s1⟩ := H.out.ex
  have e3 := (hB.cell 3).trans (by rfl)
  clear h hO hal hB hlt
  go_enter Try.func68, Try.ntmps68
  go_upto_region 2 with fail
  generalize hw1 : w.alloc (.cells #[] 59) = w1 at *
  generalize hBB : w.heap.size = B at *
  have hwr1 : IntKind.i64.wrap (2 * s) = 2 * s := by rw [IntKind.wrap_i64]; omega
  have hwr2 : IntKind.i64.wrap (6 + 2 * s) = 6 + 2 * s := by rw [IntKind.wrap_i64]; omega
  go_cut [4] (fun v4 wc => ∃ (wx : World) (k : Nat), wx = wc ∧ v4 = .int .i64 k ∧ k ≤ 201 ∧ Src wx g A n ∧ w1.grownBy wx (some g))
  case first =>
    go_wp2_with (first | (go_at_call 41; refine (s_n_v H.out (by omega) (by omega)).mono ?_; rintro e w3 ⟨r, rfl, hr, hS3, hG3⟩) | fail)
    go_meet
    exact ⟨_, r, rfl, rfl, by omega, hS3, hG3⟩
  case rest =>
  obtain ⟨w2, k, rfl, rfl, hk, hS2, hG2⟩ := hcut
  have H2 := Lib.hid hS2
  have HG2 := Lib.hid hG2
  clear hS2 hG2 e3 hwr1 hwr2 m0 m1 s0 s1 a0 a1
  rename_i hK
  refine hK _ _ ?_
  clear hK
  go_step
  go_cut [4] (fun v4 wc => ∃ (wx : World) (k : Nat), wx = wc ∧ v4 = .int .i64 k ∧ k ≤ 201 ∧ Src wx g A n ∧ w1.grownBy wx (some g))
  case first =>
    go_wp2_with (first | (go_at_call 82; refine (s_one _ _ _ _ _ H2.out (by omega)).mono ?_; rintro e w3 ⟨r, rfl, hS1, hG1⟩; have H3 := Lib.hid hS1; have HG3 := Lib.hid (only_trans HG2.out hG1); clear hS1 hG1; cases r) | fail)
    · go_meet
      exact ⟨_, k, rfl, rfl, hk, H3.out, HG3.out⟩
    · go_wp2_with (first | (go_at_call 41; refine (s_n_v H3.out (by omega) (by omega)).mono ?_; rintro e w4 ⟨r, rfl, hr, hS3, hG3⟩) | fail)
      go_meet
      exact ⟨_, 199 + r, rfl, by go_num, by omega, hS3, only_trans HG3.out hG3⟩
  case rest =>
  clear H2 HG2 hk
  obtain ⟨w3, k, rfl, rfl, hk, hS2, hG2⟩ := hcut
  have H3 := Lib.hid hS2
  have HG3 := Lib.hid hG2
  clear hS2 hG2
  rename_i hK
  refine hK _ _ ?_
  clear hK
  go_step
  go_cut [5] (fun v5 wc => ∃ (wx : World) (r : Nat), wx = wc ∧ v5 = .int .i64 r ∧ Src wx g A n ∧ w3.grownBy wx (some g))
  case first =>
    go_wp2_with (first | (go_at_call 41; refine (s_n_v H3.out (by omega) (by omega)).mono ?_; rintro e w4 ⟨r, rfl, hr, hS4, hG4⟩) | fail)
    go_meet
    exact ⟨_, r, rfl, rfl, hS4, hG4⟩
  case rest =>
  obtain ⟨w4, r, rfl, rfl, hS4, hG4⟩ := hcut
  rename_i hK
  refine hK _ _ ?_
  clear hK
  go_step
  have H4 := Lib.hid hS4
  have HG4 := Lib.hid (only_trans HG3.out hG4)
  have HO4 := Lib.hid (HO.out.farG HG4.out HLT.out)
  clear hS4 hG4 H3 HG3
  have HW4 := Lib.hid (only_trans HG.out HG4.out)
  clear HG4 HO
  have HBB := Lib.hid hBB
  go_cut [3] (fun v3 wc => ∃ (wx : World) (ms : List Mk), wx = wc ∧ ms.length ≤ 201 ∧ Src wx g A n ∧ OwnK wx B v3 ms ∧ w.grownBy wx (some g))
  case first =>
    go_step
    go_loopw [3, 4, 5] (fun v3 v4 v5 wr => ∃ (i : Nat) (a : Int) (ms : List Mk), v4 = .int .i64 i ∧ v5 = .int .i64 a ∧ ms.length + i ≤ 201 ∧ Hid (Src wr g A n) ∧ Hid (OwnK wr B v3 ms) ∧ Hid (w.grownBy wr (some g))) (fun _ v4 _ _ => (intOf v4).toNat)
    case atStart => exact ⟨k, r, [], rfl, rfl, by simpa using hk, H4, HO4, HW4⟩
    case round =>
      obtain ⟨i, a, ms, rfl, rfl, hi, KS, KO, KW⟩ := hrel
      clear H4 HO4 HW4 hk
      cases i with
      | zero =>
        have b1 : decide (((0 : Nat) : Int) > 0) = false := decide_eq_false (by omega)
        go_wp2_with fail
        go_meet
        exact ⟨_, ms, rfl, by omega, KS.out, KO.out, KW.out⟩
      | succ i =>
        have b1 : decide (((i + 1 : Nat) : Int) > 0) = true := decide_eq_true (by omega)
        have c3 : ms.length + 1 ≤ maxLen := by unfold maxLen; omega
        have c4 : (ms.length + 1) * 16 ≤ 140737488355328 := by omega
        go_wp2_with (first
          | (go_at_call 41; refine (s_n_v KS.out (by omega) (by omega)).mono ?_; rintro e w5 ⟨r5, rfl, hr5, hS5, hG5⟩; have hO5 := Lib.hid (KO.out.farG hG5 HLT.out); have hz5 := hG5.size; have hzz := (KW.out).size)
          | (at_builtin; refine wpList_append_own _ rfl (.tmp 27) (.tmp 32) 52 rfl B 59 j0 (.agg #[.int .i64 0, .int .i64 0]) 2 16 hu3 hj hy0 hy1 hy2 rfl (by decide) _ _ _ rfl (World.ownsRow.alloc hO5.out _) ⟨w5.heap.size, 0, none⟩ 1 1 (mrow (a, r5)) rfl rfl (row_new_k _ _ _) (by simp [mrow, Value.oneCell']) c3 c4 (by have := HBB.out; simp; omega) ?_; intro v6 w6 hO6 hG6 _; have hS6 := Lib.hid (src_own_k (hS5.keep ((Below.refl _ _).alloc (Nat.le_refl _) _)) hG6 (fun b e => (World.ownsRow.lt hO5.out b e).1) HLT.out HA.out); have hW6 := Lib.hid (grown_own_k (only_alloc (only_trans KW.out hG5) _) hG6 (fun b e => by rw [HBB.out]; exact (World.ownsRow.lt hO5.out b e).1)); have hO7 := Lib.hid (OwnK.add (m := (a, r5)) hO6); clear hO6 hG6 hS5 hG5)
          | fail)
        refine (s_n_v hS6.out (by omega) (by omega)).mono ?_
        rintro e w7 ⟨r7, rfl, hr7, hS7, hG7⟩
        have hO8 := Lib.hid (hO7.out.farG hG7 HLT.out)
        have hW8 := Lib.hid (only_trans hW6.out hG7)
        have hS8 := Lib.hid hS7
        clear hO7 hW6 hS7 hG7 hS6 hO5
        go_wp2_with fail
        go_roundw
        case rel => exact ⟨i, _, ms ++ [(a, (r5 : Int))], by go_num, rfl, by simp; omega, hS8, hO8, hW8⟩
        case measure => simp [intOf]
  case rest =>
  clear H4 HO4 HW4 hk
  obtain ⟨w5, ms, rfl, hms, hS, hO, hW⟩ := hcut
  have H5 := Lib.hid hS
  have HW5 := Lib.hid hW
  obtain ⟨A5, c5, rfl⟩ := owns_form_k hO
  have HO5 := Lib.hid hO
  clear hS hW hO
  rename_i hK
  refine hK _ _ ?_
  clear hK
  go_step
  go_cut [] (fun wc => ∃ (wx : World) (ms' : List Mk), wx = wc ∧ ms'.length = ms.length ∧ Src wx g A n ∧ OwnK wx B (.slice A5 ms.length c5) ms' ∧ w.grownBy wx (some g))
  case first =>
    by_cases hms0 : ms = []
    · subst hms0
      simp only [List.length_nil] at *
      go_wp2_with (first | (go_at_call 82; refine (s_one _ _ _ _ _ H5.out (by omega)).mono ?_; rintro e w6 ⟨r, rfl, hS1, hG1⟩; have H6 := Lib.hid hS1; have HW6 := Lib.hid (only_trans HW5.out hG1); have HO6 := Lib.hid (HO5.out.farG hG1 HLT.out); clear hS1 hG1; cases r) | fail)
      all_goals (go_wp2_with fail; go_meet; exact ⟨_, [], rfl, rfl, H6.out, HO6.out, HW6.out⟩)
    · have hmn := hms0
      have hm1 : 1 ≤ ms.length := List.length_pos_iff.2 hms0
      clear hms0
      obtain ⟨gA, rfl, hgA⟩ := HO5.out.where hmn
      have b2 : decide ((ms.length : Int) > 0) = true := decide_eq_true (by omega)
      go_wp2_with (first | (go_at_call 82; refine (s_one _ _ _ _ _ H5.out (by omega)).mono ?_; rintro e w6 ⟨r, rfl, hS1, hG1⟩; have H6 := Lib.hid hS1; have HW6 := Lib.hid (only_trans HW5.out hG1); have HO6 := Lib.hid (HO5.out.farG hG1 HLT.out); clear hS1 hG1; cases r) | fail)
      · go_meet
        exact ⟨_, ms, rfl, rfl, H6.out, HO6.out, HW6.out⟩
      · refine (s_n_w H6.out hm1 (by omega)).mono ?_
        rintro e w7 ⟨r7, rfl, hr7, hS7, hG7⟩
        have H7 := Lib.hid hS7
        have HW7 := Lib.hid (only_trans HW6.out hG7)
        have HO7 := Lib.hid (HO6.out.farG hG7 HLT.out)
        clear hS7 hG7 H6 HW6 HO6 H5 HW5 HO5
        go_wp2_with (first | (go_at_call 82; refine (s_one _ _ _ _ _ H7.out (by omega)).mono ?_; rintro e w8 ⟨r, rfl, hS1, hG1⟩; have H8 := Lib.hid hS1; have HW8 := Lib.hid (only_trans HW7.out hG1); have HO8 := Lib.hid (HO7.out.farG hG1 HLT.out); clear hS1 hG1; cases r) | fail)
        · have hal := (Below.refl w8.heap.size w8).alloc (Nat.le_refl _) (.cells #[.int .i64 (-1), .int .i64 1125899906842624, .int .i64 1125899906842625] 2)
          have HR := Lib.hid (Blk.new (w := w8) (B := 0) (Nat.zero_le _) #[.int .i64 (-1), .int .i64 1125899906842624, .int .i64 1125899906842625] 2)
          have hlt8 := src_lt_k H8.out
          refine (s_n_v (H8.out.keep hal) (by omega) (by omega)).mono ?_
          rintro e w9 ⟨r9, rfl, hr9, hS9, hG9⟩
          have HO9 := Lib.hid ((HO8.out.keep hal).farG hG9 HLT.out)
          have HW9 := Lib.hid (only_trans (only_alloc HW8.out _) hG9)
          obtain ⟨q, hq⟩ := three_lit r9 (-1) 1125899906842624 1125899906842625 (by omega)
          have hc := ((HR.out.grown hG9 (by omega)).cell r9).trans hq
          clear hq hal
          have H9 := Lib.hid hS9
          clear hS9 hG9
          have x0 := (World.ownsRow.cellAt HO9.out (r7 * 2 + 1) (by omega)).trans (mrows_at ms r7 hr7).2
          have f0 := World.ownsRow.frozenAt HO9.out (r7 * 2 + 1)
          go_wp2_with fail
          go_meet
          obtain ⟨ms', hl', hO'⟩ := HO9.out.set (r := r7) (j := r7 * 2 + 1) hr7 q (by omega)
          exact ⟨_, ms', rfl, hl', src_own_k H9.out (only_setCell (World.grownBy.refl w9 (some gA)) (.inl rfl) _) (fun i e => by cases e; exact hgA) HLT.out HA.out, hO', grown_own_k HW9.out (only_setCell (World.grownBy.refl w9 (some gA)) (.inl rfl) _) (fun i e => by cases e; rw [HBB.out]; exact hgA)⟩
        · have hal := (Below.refl w8.heap.size w8).alloc (Nat.le_refl _) (.cells #[.int .i64 (-1), .int .i64 1000000, .int .i64 1000001] 2)
          have HR := Lib.hid (Blk.new (w := w8) (B := 0) (Nat.zero_le _) #[.int .i64 (-1), .int .i64 1000000, .int .i64 1000001] 2)
          have hlt8 := src_lt_k H8.out
          refine (s_n_v (H8.out.keep hal) (by omega) (by omega)).mono ?_
          rintro e w9 ⟨r9, rfl, hr9, hS9, hG9⟩
          have HO9 := Lib.hid ((HO8.out.keep hal).farG hG9 HLT.out)
          have HW9 := Lib.hid (only_trans (only_alloc HW8.out _) hG9)
          obtain ⟨q, hq⟩ := three_lit r9 (-1) 1000000 1000001 (by omega)
          have hc := ((HR.out.grown hG9 (by omega)).cell r9).trans hq
          clear hq hal
          have H9 := Lib.hid hS9
          clear hS9 hG9
          have x0 := (World.ownsRow.cellAt HO9.out (r7 * 2) (by omega)).trans (mrows_at ms r7 hr7).1
          have f0 := World.ownsRow.frozenAt HO9.out (r7 * 2)
          go_wp2_with fail
          go_meet
          obtain ⟨ms', hl', hO'⟩ := HO9.out.set (r := r7) (j := r7 * 2) hr7 q (by omega)
          exact ⟨_, ms', rfl, hl', src_own_k H9.out (only_setCell (World.grownBy.refl w9 (some gA)) (.inl rfl) _) (fun i e => by cases e; exact hgA) HLT.out HA.out, hO', grown_own_k HW9.out (only_setCell (World.grownBy.refl w9 (some gA)) (.inl rfl) _) (fun i e => by cases e; rw [HBB.out]; exact hgA)⟩
  case rest =>
    obtain ⟨w9, ms', rfl, hl9, hS9, hO9, hW9⟩ := hcut
    rename_i hK
    refine hK _ _ ?_
    clear hK
    go_wp2_with fail
    go_ret
    exact ⟨_, ms', rfl, by omega, by rw [HBB.out]; exact hO9, hS9, hW9⟩
def DrW (w : World) (e : Ending) (w' : World) : Prop := ∃ (sp : Int) (A : Option Addr) (c : Nat) (ms : List Mk), e = .returned (.tuple #[.int .i64 sp, .slice A ms.length c]) ∧ ms.length ≤ 300 ∧ ms.length ≤ c ∧ Mks w' A ms ∧ Below w.heap.size w w'
theorem s_DrawWindowOf (A : Option Addr) (n c : Nat) (w : World) (h : BytesIn w A n) (hn : n ≤ 1048576) : Calls Try.prog 29 #[.slice A n c] w (DrW w) := by
  have H := Lib.hid h
  clear h
  go_enter Try.func29, Try.ntmps29
  go_wp2_with fail
  refine (s_Source _ _ _ _ H.out (by omega)).mono ?_
  rintro e w1 ⟨g, rfl, g0, g1, hS, hW⟩
  have HS := Lib.hid hS
  have HW := Lib.hid hW
  clear hS hW
  go_wp2_with fail
  refine (s_l09Span _ _ _ _ HS.out).mono ?_
  rintro e w2 ⟨sp, rfl, hS2, hG2⟩
  have HS2 := Lib.hid hS2
  have HW2 := Lib.hid (below_own_k HW.out hG2 (Nat.le_refl _) (fun i e => by cases e; exact g0))
  clear hS2 hG2
  go_wp2_with fail
  refine (s_l09Marks _ _ _ _ HS2.out).mono ?_
  rintro e w3 ⟨v, ms, rfl, hl, hO, hS3, hG3⟩
  have HW3 := Lib.hid (below_own_k HW2.out hG3 (Nat.le_refl _) (fun i e => by cases e; exact g0))
  obtain ⟨A3, c3, rfl, hc3, hM⟩ := hO.mks
  have HM := Lib.hid hM
  clear hS3 hG3 hO hM
  go_wp2_with fail
  exact bodyPost_ret (v := .tuple #[.int .i64 sp, .slice A3 ms.length c3]) (by simp [results, Try.results29, go_sem]) rfl ⟨sp, A3, c3, ms, rfl, hl, hc3, HM.out, HW3.out⟩
end Go.Proofs.Ytddemmmbbleofaa.C
