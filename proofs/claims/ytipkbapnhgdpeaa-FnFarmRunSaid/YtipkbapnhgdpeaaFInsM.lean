/- slices.Insert and slices.Delete at Members: one row. No condition. -/
import Derived.Test.YtipkbapnhgdpeaaTRow
namespace Go.Proofs.Ytipkbapnhgdpeaa.C
open Go.RowKit
set_option maxRecDepth 100000
set_option linter.unusedVariables false
set_option linter.unusedSimpArgs false
attribute [local go_sem ↓] Go.wp_at_zero Go.wp_at_succ
theorem rowM (r : Nat → Int) : (tr 1 fun _ => r) = [.int .i64 (r 0), .int .i64 (r 1), .int .i64 (r 2), .int .i64 (r 3)] := rfl
theorem rowM_src {w : World} {B vb : Nat} {r : Nat → Int} (h : Blk w B vb #[.int .i64 (r 0), .int .i64 (r 1), .int .i64 (r 2), .int .i64 (r 3)] 91) : ∀ j u, (tr 1 fun _ => r)[j]? = some u → w.cell? ((⟨vb, 0, none⟩ : Addr).add j) = some u := by
  intro j u hj
  rw [Addr.add_lit, Nat.zero_add, h.cell j]
  rw [rowM] at hj
  simpa using hj
set_option maxHeartbeats 4000000 in
theorem insM_end (v : Value) (n : Nat) (f : Nat → Nat → Int) (r : Nat → Int) (vb B B' : Nat) (w : World) (h : OwnT 91 w B v n f) (hn : n ≤ 1000) (hx : Blk w B' vb #[.int .i64 (r 0), .int .i64 (r 1), .int .i64 (r 2), .int .i64 (r 3)] 91) (hB : B ≤ w.heap.size) :
    Calls Try.prog 135 #[v, .int .i64 n, .slice (some ⟨vb, 0, none⟩) 1 1] w fun e w' => ∃ v', e = .returned v' ∧ OwnT 91 w' B v' (n + 1) (insT n r f) ∧ w.grownBy w' v.ownBlock := by
  have hu3 := Try.underlying32
  obtain ⟨j0, hj, hy0, hy1, hy2⟩ := info_parts infoMember
  have HS := Lib.hid (rowM_src hx)
  have H := Lib.hid h
  have c1 := Lib.hid (tr_len 1 fun _ => r)
  have c2 := Lib.hid (tr_one 1 fun _ => r)
  have hE := Lib.hid (tr_end n r f)
  rcases h.form with ⟨rfl, rfl⟩ | ⟨g, c, cur, rfl, hb, hl, hg, h1, h2, h3, h4⟩
  · clear h hx
    go_enter Try.func135, Try.ntmps135
    go_wp2_with (at_builtin; refine wpList_append_own _ rfl _ _ 32 rfl B 91 j0 (.agg #[.int .i64 0, .int .i64 0, .int .i64 0, .int .i64 0]) 4 32 hu3 hj hy0 hy1 hy2 rfl (by decide) _ _ _ rfl H.out ⟨vb, 0, none⟩ 1 1 (tr 1 fun _ => r) rfl c1.out HS.out c2.out (by unfold maxLen; omega) (by omega) hB ?_; intro v' w1 hown hgrow hnil)
    go_ret
    exact ⟨v', rfl, by unfold OwnT; rw [← hE.out]; exact hown, hgrow⟩
  · clear h hx h3 h4 hg
    by_cases hc : c = n
    · subst hc
      go_enter Try.func135, Try.ntmps135
      go_wp2_with (at_builtin; refine wpList_append_own _ rfl _ _ 32 rfl B 91 j0 (.agg #[.int .i64 0, .int .i64 0, .int .i64 0, .int .i64 0]) 4 32 hu3 hj hy0 hy1 hy2 rfl (by decide) _ _ _ rfl H.out ⟨vb, 0, none⟩ 1 1 (tr 1 fun _ => r) rfl c1.out HS.out c2.out (by unfold maxLen; omega) (by omega) hB ?_; intro v' w1 hown hgrow hnil)
      go_ret
      exact ⟨v', rfl, by unfold OwnT; rw [← hE.out]; exact hown, hgrow⟩
    · have hc' : ¬ (n = c) := by omega
      go_enter Try.func135, Try.ntmps135
      go_wp2_with (at_builtin; refine wpList_append_own _ rfl _ _ 32 rfl B 91 j0 (.agg #[.int .i64 0, .int .i64 0, .int .i64 0, .int .i64 0]) 4 32 hu3 hj hy0 hy1 hy2 rfl (by decide) _ _ _ rfl H.out ⟨vb, 0, none⟩ 1 1 (tr 1 fun _ => r) rfl c1.out HS.out c2.out (by unfold maxLen; omega) (by omega) hB ?_; intro v' w1 hown hgrow hnil)
      go_ret
      exact ⟨v', rfl, by unfold OwnT; rw [← hE.out]; exact hown, hgrow⟩
theorem shift_arr {n k c : Nat} {f : Nat → Nat → Int} {r : Nat → Int} {cur : Array Value} (hk : k < n) (hc : n + 1 ≤ c) (hs : cur.size = c * 4) (ht : cur.toList.take (n * 4) = tr n f)
    {cur1 cur2 : Array Value} (h1 : cur1 = (cur.toList.take ((k + 1) * 4) ++ tr (n - k) (fun p j => f (k + p) j) ++ cur.toList.drop ((k + 1) * 4 + (tr (n - k) (fun p j => f (k + p) j)).length)).toArray)
    (h2 : cur2 = (cur1.toList.take (k * 4) ++ (tr 1 fun _ => r) ++ cur1.toList.drop (k * 4 + (tr 1 fun _ => r).length)).toArray) :
    cur1.size = c * 4 ∧ cur2.size = c * 4 ∧ ∀ p, p < (n + 1) * 4 → cur2[p]? = some (.int .i64 (insT k r f (p / 4) (p % 4))) := by
  have e1 : cur1.size = c * 4 := by rw [h1]; simp only [List.size_toArray, List.length_append, List.length_take, List.length_drop, Array.length_toList, tr_len]; omega
  have e2 : cur2.size = c * 4 := by rw [h2]; simp only [List.size_toArray, List.length_append, List.length_take, List.length_drop, Array.length_toList, tr_len]; omega
  refine ⟨e1, e2, fun p hp => ?_⟩
  have hcur : ∀ q, q < n * 4 → cur[q]? = some (.int .i64 (f (q / 4) (q % 4))) := fun q hq => by
    have := congrArg (fun l : List Value => l[q]?) ht
    simp only [List.getElem?_take, if_pos hq, tr_get hq, Array.getElem?_toList] at this
    exact this
  have l1 : (cur.toList.take ((k + 1) * 4)).length = (k + 1) * 4 := by rw [List.length_take, Array.length_toList]; omega
  have l2 : (cur1.toList.take (k * 4)).length = k * 4 := by rw [List.length_take, Array.length_toList]; omega
  unfold insT
  rw [h2, List.getElem?_toArray]
  by_cases c1 : p < k * 4
  · rw [List.append_assoc, List.getElem?_append_left (by omega), List.getElem?_take, if_pos c1, Array.getElem?_toList, h1, List.getElem?_toArray, List.append_assoc, List.getElem?_append_left (by omega), List.getElem?_take, if_pos (by omega), Array.getElem?_toList, hcur _ (by omega), if_pos (by omega)]
  · rw [List.append_assoc, List.getElem?_append_right (by omega), l2, if_neg (by omega)]
    by_cases c2 : p < (k + 1) * 4
    · rw [List.getElem?_append_left (by rw [tr_len]; omega), tr_get (by omega), if_pos (by omega), show (p - k * 4) % 4 = p % 4 by omega]
    · rw [List.getElem?_append_right (by rw [tr_len]; omega), tr_len, List.getElem?_drop, Array.getElem?_toList, h1, List.getElem?_toArray, List.append_assoc, List.getElem?_append_right (by omega), l1, List.getElem?_append_left (by rw [tr_len]; omega), tr_get (by omega), if_neg (by omega)]
      rw [show k + (k * 4 + 1 * 4 + (p - k * 4 - 1 * 4) - (k + 1) * 4) / 4 = p / 4 - 1 by omega, show (k * 4 + 1 * 4 + (p - k * 4 - 1 * 4) - (k + 1) * 4) % 4 = p % 4 by omega]
set_option maxHeartbeats 4000000 in
theorem insM_shift (n k g c : Nat) (f : Nat → Nat → Int) (r : Nat → Int) (vb B B' : Nat) (w : World) (h : OwnT 91 w B (.slice (some ⟨g, 0, none⟩) n c) n f) (hn : n ≤ 1000) (hk : k < n) (hroom : n + 1 ≤ c) (hx : Blk w B' vb #[.int .i64 (r 0), .int .i64 (r 1), .int .i64 (r 2), .int .i64 (r 3)] 91) (hne : g ≠ vb) :
    Calls Try.prog 135 #[.slice (some ⟨g, 0, none⟩) n c, .int .i64 k, .slice (some ⟨vb, 0, none⟩) 1 1] w fun e w' => ∃ v', e = .returned v' ∧ OwnT 91 w' B v' (n + 1) (insT k r f) ∧ w.grownBy w' (some g) := by
  have hu3 := Try.underlying32
  obtain ⟨j0, hj, hy0, hy1, hy2⟩ := info_parts infoMember
  obtain ⟨⟨h', _⟩⟩ | ⟨g', c', cur, h', hb, hl, hg, h1, h2, h3, h4⟩ := h.form
  · cases h'
  simp only [Value.slice.injEq, Option.some.injEq, Addr.mk.injEq, and_true, true_and] at h'
  obtain ⟨rfl, rfl⟩ := h'
  have hz : ∀ w, (Go.sizeOf 91).run Try.prog w = .ok 4 w := fun w => by simp [sizeOf, typeInfo, hj, hy1]
  have hov : ∀ lb cb, (callFunc 141 #[.slice (some ⟨vb, 0, none⟩) 1 1, .slice (some ⟨g, (k + 1) * 4, none⟩) lb cb]).run Try.prog w = .ok (.value (.bool false)) w := fun lb cb => by
    rw [run_callFunc_extern Try.func141 (by kernel_rfl) (by kernel_rfl) (by kernel_rfl) (e := Extern.SlicesOverlaps.overlaps #[32, 32] #[4]) (by kernel_rfl),
      Lib.run_overlaps_apart w 32 4 91 hu3 4 hz ⟨vb, 0, none⟩ ⟨g, (k + 1) * 4, none⟩ 1 1 lb cb (fun e => hne e.symm) 91 91 4 (c * 4) (by simp [World.shape?, hx.2]) (by simp [World.shape?, hg, h3]) (by omega) (hx.frozen 0) (hx.frozen 4)]
    rfl
  have hw1 : IntKind.i64.wrap ((k : Int) + 1) = (k : Int) + 1 := by rw [IntKind.wrap_i64]; omega
  have hw2 : IntKind.i64.wrap ((n : Int) + 1) = (n : Int) + 1 := by rw [IntKind.wrap_i64]; omega
  have hz2 : ¬ ((k : Int) = (n : Int)) := by omega
  have htn : ((k : Int) + 1).toNat = k + 1 := by omega
  have hb1 : (0 : Int) ≤ (k : Int) + 1 := by omega
  have hin : k ≤ n := by omega
  have hb3 : (k : Int) ≤ (n : Int) + 1 := by omega
  have hb2 : ¬ (c = k + 1) := by omega
  have hb4 : ¬ (c = k) := by omega
  obtain ⟨cur1, hc1⟩ : ∃ x, x = (cur.toList.take ((k + 1) * 4) ++ tr (n - k) (fun p j => f (k + p) j) ++ cur.toList.drop ((k + 1) * 4 + (tr (n - k) (fun p j => f (k + p) j)).length)).toArray := ⟨_, rfl⟩
  obtain ⟨cur2, hc2⟩ : ∃ x, x = (cur1.toList.take (k * 4) ++ (tr 1 fun _ => r) ++ cur1.toList.drop (k * 4 + (tr 1 fun _ => r).length)).toArray := ⟨_, rfl⟩
  obtain ⟨e1, e2, e3⟩ := shift_arr hk hroom h3 h4 hc1 hc2
  have hsz : (Try.prog.info? 91).map (·.size) = some 4 := by rw [hj]; simp [hy1]
  have hcp1 : ∀ ty dc sc, (Builtin.copy_ #[32, 32] ty #[.slice (some ⟨g, (k + 1) * 4, none⟩) (n - k) dc, .slice (some ⟨g, k * 4, none⟩) (n + 1 - k) sc]).run Try.prog w.drew = .ok (goInt (Nat.min (n + 1 - k) (n - k))) (w.drew.setRow g cur1) := fun ty dc sc => by
    rw [hc1]
    exact run_copy_rowk (P := Try.prog) w.drew _ _ ty 91 4 g ((k + 1) * 4) (n - k) dc ⟨g, k * 4, none⟩ (n + 1 - k) sc cur 91 (tr (n - k) (fun p j => f (k + p) j)) hu3 hsz hg (by rw [tr_len]; simp only [Nat.min_def]; split <;> omega)
      (fun j u hju => by
        rw [Addr.add_lit]
        have hlt : j < (n - k) * 4 := by have := (List.getElem?_eq_some_iff.1 hju).1; rwa [tr_len] at this
        rw [tr_get hlt] at hju
        rw [← hju]
        have := (World.ownsRow.cellAt h (k * 4 + j) (by omega)).trans (tr_get (by omega))
        rw [show (k * 4 + j) / 4 = k + j / 4 by omega, show (k * 4 + j) % 4 = j % 4 by omega] at this
        exact this)
      (by rw [tr_len, h3]; omega) (tr_one _ _)
  obtain ⟨W1, hW1⟩ : ∃ W1, W1 = w.drew.setRow g cur1 := ⟨_, rfl⟩
  have hH1 : W1.heap[g]? = some (.cells cur1 91 (0, 0)) := by rw [hW1]; exact setRow_heap w.drew g cur _ _ _ hg
  have hG1 : w.grownBy W1 (some g) := by
    rw [hW1]
    exact ⟨rfl, rfl, rfl, by simp, fun q _ hq => setRow_other w.drew g q _ (fun e => hq (by simp [e]))⟩
  have hX1 : Blk W1 B' vb #[.int .i64 (r 0), .int .i64 (r 1), .int .i64 (r 2), .int .i64 (r 3)] 91 := ⟨hx.1, by rw [hG1.block vb hx.lt (by simpa using fun e => hne e.symm)]; exact hx.2⟩
  have hS1 := rowM_src hX1
  have hcp2 : ∀ (W : World), W.heap = W1.heap → ∀ ty dc, (Builtin.copy_ #[32, 32] ty #[.slice (some ⟨g, k * 4, none⟩) (n + 1 - k) dc, .slice (some ⟨vb, 0, none⟩) 1 1]).run Try.prog W = .ok (goInt (Nat.min 1 (n + 1 - k))) (W.setRow g cur2) := fun W hW ty dc => by
    rw [hc2]
    exact run_copy_rowk (P := Try.prog) W _ _ ty 91 4 g (k * 4) (n + 1 - k) dc ⟨vb, 0, none⟩ 1 1 cur1 91 (tr 1 fun _ => r) hu3 hsz (by rw [hW]; exact hH1) (by rw [tr_len]; simp only [Nat.min_def]; split <;> omega)
      (fun j u hju => by have := hS1 j u hju; simpa [World.cell?, hW] using this)
      (by rw [tr_len, e1]; omega) (tr_one _ _)
  rw [← hW1] at hcp1
  have HG1 := Lib.hid hG1
  have HH1 := Lib.hid hH1
  have HE := Lib.hid e3
  have HE2 := Lib.hid e2
  have HCC := Lib.hid h2
  clear h hx hS1 hX1 hH1 hG1 hW1 hc1 hc2 h3 h4 e1 e2 e3 h2 hg
  go_enter Try.func135, Try.ntmps135
  go_wp2_with (simp only [hov])
  go_region_law (refine step_copy_runI rfl _ _ 32 32 rfl _ _ (by simp [Act.eval, Act.put]) (by simp [Act.eval, Act.put]) (hcp1 _ _ _) ?_)
  go_wp2_with (at_builtin; refine wpList_copy_runI _ rfl _ _ 32 32 rfl _ _ rfl rfl (hcp2 _ rfl _ _) ?_)
  go_ret
  refine ⟨_, rfl, OwnT.of (cur := cur2) hb (setRow_heap W1 g cur1 _ _ _ HH1.out) hroom HCC.out HE2.out HE.out, ?_⟩
  exact ⟨HG1.out.os, HG1.out.tape, HG1.out.output, by simpa using HG1.out.size, fun q hq hne' => (setRow_other W1 g q _ (fun e => hne' (by simp [e]))).trans (HG1.out.block q hq hne')⟩
theorem zc_size (z : Array Value) (n : Nat) : (Builtin.zeroCells z n).size = n * z.size := by simp [Builtin.zeroCells, Nat.mul_comm]
theorem grow_arr {n k G : Nat} {f : Nat → Nat → Int} {r : Nat → Int} {R cur1 cur2 : Array Value} (hk : k < n) (hG : n + 1 ≤ G) (hs : R.size = G * 4) (ht : R.toList.take (k * 4) = tr k f)
    (h1 : cur1 = (R.toList.take (k * 4) ++ (tr 1 fun _ => r) ++ R.toList.drop (k * 4 + (tr 1 fun _ => r).length)).toArray)
    (h2 : cur2 = (cur1.toList.take ((k + 1) * 4) ++ tr (n - k) (fun p j => f (k + p) j) ++ cur1.toList.drop ((k + 1) * 4 + (tr (n - k) (fun p j => f (k + p) j)).length)).toArray) :
    cur1.size = G * 4 ∧ cur2.size = G * 4 ∧ ∀ p, p < (n + 1) * 4 → cur2[p]? = some (.int .i64 (insT k r f (p / 4) (p % 4))) := by
  have e1 : cur1.size = G * 4 := by rw [h1]; simp only [List.size_toArray, List.length_append, List.length_take, List.length_drop, Array.length_toList, tr_len]; omega
  have e2 : cur2.size = G * 4 := by rw [h2]; simp only [List.size_toArray, List.length_append, List.length_take, List.length_drop, Array.length_toList, tr_len]; omega
  refine ⟨e1, e2, fun p hp => ?_⟩
  have l1 : (R.toList.take (k * 4)).length = k * 4 := by rw [List.length_take, Array.length_toList]; omega
  have l2 : (cur1.toList.take ((k + 1) * 4)).length = (k + 1) * 4 := by rw [List.length_take, Array.length_toList]; omega
  unfold insT
  rw [h2, List.getElem?_toArray]
  by_cases c1 : p < (k + 1) * 4
  · rw [List.append_assoc, List.getElem?_append_left (by omega), List.getElem?_take, if_pos c1, Array.getElem?_toList, h1, List.getElem?_toArray, List.append_assoc]
    by_cases c2 : p < k * 4
    · rw [List.getElem?_append_left (by omega), ht, tr_get c2, if_pos (by omega)]
    · rw [List.getElem?_append_right (by omega), l1, List.getElem?_append_left (by rw [tr_len]; omega), tr_get (by omega), if_neg (by omega), if_pos (by omega), show (p - k * 4) % 4 = p % 4 by omega]
  · rw [List.append_assoc, List.getElem?_append_right (by omega), l2, List.getElem?_append_left (by rw [tr_len]; omega), tr_get (by omega), if_neg (by omega), if_neg (by omega), show k + (p - (k + 1) * 4) / 4 = p / 4 - 1 by omega, show (p - (k + 1) * 4) % 4 = p % 4 by omega]
set_option maxHeartbeats 4000000 in
theorem insM_grow (n k g : Nat) (f : Nat → Nat → Int) (r : Nat → Int) (vb B B' : Nat) (w : World) (h : OwnT 91 w B (.slice (some ⟨g, 0, none⟩) n n) n f) (hn : n ≤ 1000) (hk : k < n) (hx : Blk w B' vb #[.int .i64 (r 0), .int .i64 (r 1), .int .i64 (r 2), .int .i64 (r 3)] 91) (hB : B ≤ w.heap.size) :
    Calls Try.prog 135 #[.slice (some ⟨g, 0, none⟩) n n, .int .i64 k, .slice (some ⟨vb, 0, none⟩) 1 1] w fun e w' => ∃ v', e = .returned v' ∧ OwnT 91 w' B v' (n + 1) (insT k r f) ∧ w.grownBy w' (some g) := by
  have hu3 := Try.underlying32
  have hui := Try.underlying3
  obtain ⟨j0, hj, hy0, hy1, hy2⟩ := info_parts infoMember
  obtain ⟨⟨h', _⟩⟩ | ⟨g', c', cur, h', hb, hl, hg, h1, h2, h3, h4⟩ := h.form
  · cases h'
  simp only [Value.slice.injEq, Option.some.injEq, Addr.mk.injEq, and_true, true_and] at h'
  obtain ⟨rfl, rfl⟩ := h'
  have hsz : (Try.prog.info? 91).map (·.size) = some 4 := by rw [hj]; simp [hy1]
  have hold : (Builtin.firstCells j0.size k (.slice (some ⟨g, 0, none⟩) k n)).run Try.prog w.drew = .ok (tr k f).toArray w.drew := by
    rw [hy1]
    exact run_firstCells_some w.drew 4 k ⟨g, 0, none⟩ k n (tr k f) (by rw [tr_len]) (fun j u hj => by
      rw [Addr.add_lit, Nat.zero_add]
      have hlt : j < k * 4 := by have := (List.getElem?_eq_some_iff.1 hj).1; rwa [tr_len] at this
      rw [tr_get hlt] at hj
      rw [← hj]
      exact (World.ownsRow.cellAt h j (by omega)).trans (tr_get (by omega)))
  have hkk : (n : Int) + 1 - (k : Int) = ((n + 1 - k : Nat) : Int) := by omega
  have hik : k + (n + 1 - k) = n + 1 := by omega
  obtain ⟨G, hG⟩ : ∃ G, G = grownCap w (n + 1) n 91 := ⟨_, rfl⟩
  obtain ⟨R, hR⟩ : ∃ R : Array Value, R = (tr k f).toArray ++ Builtin.zeroCells (Value.agg #[.int .i64 0, .int .i64 0, .int .i64 0, .int .i64 0]).cells (n + 1 - k) ++ Builtin.zeroCells (Value.agg #[.int .i64 0, .int .i64 0, .int .i64 0, .int .i64 0]).cells (G - (n + 1)) := ⟨_, rfl⟩
  have hrz : ∀ ty, (Builtin.append_ #[32, 3] ty #[.slice (some ⟨g, 0, none⟩) k n, .int .i64 ((n : Int) + 1 - (k : Int))]).run Try.prog w =
      .ok (.slice (some ⟨w.heap.size, 0, none⟩) (n + 1) G) (w.drew.alloc (.cells R 91)) := fun ty => by
    have hh := Lib.run_append_grow_zeros w 32 3 ty 91 j0 _ .i64 .i64 hu3 hui hj hy0 (some ⟨g, 0, none⟩) k n (tr k f) hold (n + 1 - k) (by omega) (by omega) (by omega) (by omega) (by rw [hy2]; omega) (by rw [hy2, hik]; exact growslice_fits (by omega) (by omega))
    rw [hik, ← hG] at hh
    rw [hkk, hh, hR]
  have hGn : n + 1 ≤ G := by rw [hG]; exact grownCap_ge w _ _ _
  have hG63 : G ≤ maxLen := by rw [hG]; exact grownCap_le_maxLen w (n + 1) n _ (by unfold maxLen; omega)
  have hRs : R.size = G * 4 := by
    rw [hR, Array.size_append, Array.size_append, zc_size, zc_size, List.size_toArray, tr_len, show (Value.agg #[.int .i64 0, .int .i64 0, .int .i64 0, .int .i64 0]).cells.size = 4 from rfl]
    omega
  have hRt : R.toList.take (k * 4) = tr k f := by
    rw [hR, Array.toList_append, Array.toList_append, List.append_assoc, List.take_append_of_le_length (by simp [tr_len]), List.take_of_length_le (by simp [tr_len])]
  obtain ⟨N, hN⟩ : ∃ N, w.heap.size = N := ⟨_, rfl⟩
  obtain ⟨cur1, hc1⟩ : ∃ x, x = (R.toList.take (k * 4) ++ (tr 1 fun _ => r) ++ R.toList.drop (k * 4 + (tr 1 fun _ => r).length)).toArray := ⟨_, rfl⟩
  obtain ⟨cur2, hc2⟩ : ∃ x, x = (cur1.toList.take ((k + 1) * 4) ++ tr (n - k) (fun p j => f (k + p) j) ++ cur1.toList.drop ((k + 1) * 4 + (tr (n - k) (fun p j => f (k + p) j)).length)).toArray := ⟨_, rfl⟩
  obtain ⟨e1, e2, e3⟩ := grow_arr hk hGn hRs hRt hc1 hc2
  obtain ⟨W1, hW1⟩ : ∃ W1, W1 = w.drew.alloc (.cells R 91) := ⟨_, rfl⟩
  have hbel : Below w.heap.size w W1 := by rw [hW1]; exact (Below.refl _ w).drew.alloc (Nat.le_refl _) _
  have hH1 : W1.heap[N]? = some (.cells R 91 (0, 0)) := by rw [hW1, ← hN]; exact heap_alloc_new w.drew _
  rw [← hW1] at hrz
  rw [hN] at hrz
  have hS1 := rowM_src (hx.keep hbel)
  have hcA : ∀ (W : World), W.heap = W1.heap → ∀ ty dc, (Builtin.copy_ #[32, 32] ty #[.slice (some ⟨N, k * 4, none⟩) (n + 1 - k) dc, .slice (some ⟨vb, 0, none⟩) 1 1]).run Try.prog W = .ok (goInt (Nat.min 1 (n + 1 - k))) (W.setRow N cur1) := fun W hW ty dc => by
    rw [hc1]
    exact run_copy_rowk (P := Try.prog) W _ _ ty 91 4 N (k * 4) (n + 1 - k) dc ⟨vb, 0, none⟩ 1 1 R 91 (tr 1 fun _ => r) hu3 hsz (by rw [hW]; exact hH1) (by rw [tr_len]; simp only [Nat.min_def]; split <;> omega)
      (fun j u hju => by have := hS1 j u hju; simpa [World.cell?, hW] using this)
      (by rw [tr_len, hRs]; omega) (tr_one _ _)
  have hgN : g ≠ N := by omega
  have hcB : ∀ (W : World), W.heap = (W1.setRow N cur1).heap → ∀ ty dc sc, (Builtin.copy_ #[32, 32] ty #[.slice (some ⟨N, (k + 1) * 4, none⟩) (n - k) dc, .slice (some ⟨g, k * 4, none⟩) (n - k) sc]).run Try.prog W = .ok (goInt (Nat.min (n - k) (n - k))) (W.setRow N cur2) := fun W hW ty dc sc => by
    rw [hc2]
    exact run_copy_rowk (P := Try.prog) W _ _ ty 91 4 N ((k + 1) * 4) (n - k) dc ⟨g, k * 4, none⟩ (n - k) sc cur1 91 (tr (n - k) (fun p j => f (k + p) j)) hu3 hsz (by rw [hW]; exact setRow_heap W1 N R _ _ _ hH1) (by rw [tr_len]; simp only [Nat.min_def]; split <;> omega)
      (fun j u hju => by
        rw [Addr.add_lit]
        have hlt : j < (n - k) * 4 := by have := (List.getElem?_eq_some_iff.1 hju).1; rwa [tr_len] at this
        rw [tr_get hlt] at hju
        rw [← hju]
        have := (World.ownsRow.cellAt h (k * 4 + j) (by omega)).trans (tr_get (by omega))
        rw [show (k * 4 + j) / 4 = k + j / 4 by omega, show (k * 4 + j) % 4 = j % 4 by omega] at this
        have hgg : W.heap[g]? = w.heap[g]? := by rw [hW, setRow_other W1 N g _ hgN]; exact hbel.block g hl
        rw [← this]
        exact World.cell?_of_block hgg)
      (by rw [tr_len, e1]; omega) (tr_one _ _)
  have hcB' := hcB (W1.setRow N cur1).drew rfl
  clear hcB
  have HE := Lib.hid e3
  have HE2 := Lib.hid e2
  have HH1 := Lib.hid hH1
  have HB1 := Lib.hid hbel
  have HGM := Lib.hid hG63
  have HBN := Lib.hid (show B ≤ N by omega)
  have HNN := Lib.hid hN
  have hz2 : ¬ ((k : Int) = (n : Int)) := by omega
  have hw1 : IntKind.i64.wrap ((k : Int) + 1) = (k : Int) + 1 := by rw [IntKind.wrap_i64]; omega
  have hw2 : IntKind.i64.wrap ((n : Int) + 1) = (n : Int) + 1 := by rw [IntKind.wrap_i64]; omega
  have hw3 : IntKind.i64.wrap ((n : Int) + 1 - (k : Int)) = (n : Int) + 1 - (k : Int) := by rw [IntKind.wrap_i64]; omega
  have htn : ((k : Int) + 1).toNat = k + 1 := by omega
  have hb1 : (0 : Int) ≤ (k : Int) + 1 := by omega
  have hin : k ≤ n := by omega
  have hb2 : ¬ (n = k) := by omega
  have hb4 : ¬ (G = k) := by omega
  have hb5 : ¬ (G = k + 1) := by omega
  have hb6 : k ≤ G := by omega
  have hb7 : (k : Int) ≤ (n : Int) + 1 := by omega
  have hb8 : (k : Int) ≤ (n : Int) := by omega
  clear h hx hS1 hbel hH1 hW1 hc1 hc2 h3 h4 e1 e2 e3 h2 hg hR hRs hRt hG hold hkk hik
  go_enter Try.func135, Try.ntmps135
  go_wp2_with (first
    | (at_builtin; refine Lib.wpList_append_run _ rfl _ _ _ _ rfl _ _ rfl rfl _ _ (hrz _) ?_)
    | (at_builtin; refine wpList_copy_runI _ rfl _ _ 32 32 rfl _ _ rfl rfl (hcA _ rfl _ _) ?_)
    | fail)
  go_region_law (refine step_copy_runI rfl _ _ 32 32 rfl _ _ (by simp [Act.eval, Act.put]) (by simp [Act.eval, Act.put]) (hcB' _ _ _) ?_)
  go_wp2_with fail
  go_ret
  refine ⟨_, rfl, OwnT.of (cur := cur2) HBN.out (setRow_heap (W1.setRow N cur1).drew N cur1 _ _ _ (setRow_heap W1 N R _ _ _ HH1.out)) hGn HGM.out HE2.out HE.out, ?_⟩
  have hbb := HB1.out
  exact ⟨hbb.os, hbb.tape, hbb.output, by simpa using hbb.size, fun q hq hne' => ((setRow_other (W1.setRow N cur1).drew N q _ (by have := HNN.out; omega)).trans (setRow_other W1 N q _ (by have := HNN.out; omega))).trans (hbb.block q hq)⟩
theorem c_InsM (v : Value) (n k : Nat) (f : Nat → Nat → Int) (r : Nat → Int) (vb B B' : Nat) (w : World) (h : OwnT 91 w B v n f) (hn : n ≤ 1000) (hk : k ≤ n) (hx : Blk w B' vb #[.int .i64 (r 0), .int .i64 (r 1), .int .i64 (r 2), .int .i64 (r 3)] 91) (hne : v.ownBlock ≠ some vb) (hB : B ≤ w.heap.size) :
    Calls Try.prog 135 #[v, .int .i64 k, .slice (some ⟨vb, 0, none⟩) 1 1] w fun e w' => ∃ v', e = .returned v' ∧ OwnT 91 w' B v' (n + 1) (insT k r f) ∧ w.grownBy w' v.ownBlock := by
  rcases Nat.lt_or_ge k n with h1 | h1
  · rcases h.form with ⟨rfl, rfl⟩ | ⟨g, c, cur, rfl, hb, hl, hg, h2, -⟩
    · omega
    · rcases Nat.lt_or_ge n c with h3 | h3
      · exact insM_shift n k g c f r vb B B' w h hn h1 h3 hx (fun e => hne (by simp [Value.ownBlock, e]))
      · obtain rfl : n = c := by omega
        exact insM_grow n k g f r vb B B' w h hn h1 hx hB
  · obtain rfl : n = k := by omega
    exact insM_end v n f r vb B B' w h hn hx hB
theorem step_append_runK {P : Program} {ops : Array Oper} {o : Oper} {a : Act} {w : World} {K : Act → World → Prop} {Q : Exit → Act → World → Prop} {E : Prop}
    (hg : o.guard = none) (d x : Operand) (dT sT : TypeId) (hop : o.op = Op.call { callee := Callee.builtin Builtin.append, args := #[d, x], argTypes := #[dT, sT] })
    (v u : Value) (hd : a.eval d = v) (hx : a.eval x = u) {v' : Value} {w' : World} (hr : (Builtin.append_ #[dT, sT] o.type #[v, u]).run P w = .ok v' w') (hK : K (a.put o.dst v') w') :
    if Region.wanted o (yielded ops a.tmps) = true then Oper.wp P o a w K Q else E := by
  have hw : Region.wanted o (yielded ops a.tmps) = true := by simp [Region.wanted, hg]
  rw [if_pos hw]
  unfold Oper.wp
  simp [execOp, hop, resolve, invoke, builtin, hd, hx, hr, Result.andThen]
  exact hK
set_option maxHeartbeats 4000000 in
theorem c_DelM (v : Value) (m i : Nat) (f : Nat → Nat → Int) (B : Nat) (w : World) (h : OwnT 91 w B v (m + 1) f) (hn : m ≤ 1000) (hi : i ≤ m) :
    Calls Try.prog 133 #[v, .int .i64 i, .int .i64 ((i : Int) + 1)] w fun e w' => ∃ v', e = .returned v' ∧ OwnT 91 w' B v' m (delT i f) ∧ w.grownBy w' v.ownBlock ∧ v'.ownBlock = v.ownBlock := by
  have hu3 := Try.underlying32
  obtain ⟨j0, hj, hy0, hy1, hy2⟩ := info_parts infoMember
  obtain ⟨_, h'⟩ | ⟨g, c, cur, rfl, hb, hl, hg, h1, h2, h3, h4⟩ := h.form
  · omega
  have hzv : ∀ w, (zeroValue 91).run Try.prog w = .ok (.agg #[.int .i64 0, .int .i64 0, .int .i64 0, .int .i64 0]) w := fun w => by simp [zeroValue, typeInfo, hj, hy0]
  have hown : w.drew.ownsRow B 91 4 (.slice (some ⟨g, 0, none⟩) i c) i (tr i f) :=
    ⟨tr_len i f, .inr ⟨g, c, cur, rfl, hb, hg, by omega, h2, h3, by
      have := congrArg (List.take (i * 4)) h4
      rw [List.take_take, tr_take (by omega), show min (i * 4) ((m + 1) * 4) = i * 4 by omega] at this
      exact this⟩⟩
  obtain ⟨A, hA, hAs, hAt⟩ : ∃ A : Addr, (if c = i + 1 then some (⟨g, 0, none⟩ : Addr) else some ⟨g, (i + 1) * 4, none⟩) = some A ∧ (c ≠ i + 1 → A = ⟨g, (i + 1) * 4, none⟩) ∧ (c = i + 1 → A = ⟨g, 0, none⟩) := by
    by_cases hc : c = i + 1
    · exact ⟨_, if_pos hc, fun h => absurd hc h, fun _ => rfl⟩
    · exact ⟨_, if_neg hc, fun _ => rfl, fun h => absurd h hc⟩
  have hsrc : ∀ j u, (tr (m - i) (fun p j => f (i + 1 + p) j))[j]? = some u → w.drew.cell? (A.add j) = some u := by
    intro j u hju
    have hlt : j < (m - i) * 4 := by have := (List.getElem?_eq_some_iff.1 hju).1; rwa [tr_len] at this
    rw [hAs (by omega), Addr.add_lit]
    rw [tr_get hlt] at hju
    rw [← hju]
    have := (World.ownsRow.cellAt h ((i + 1) * 4 + j) (by omega)).trans (tr_get (by omega))
    rw [show ((i + 1) * 4 + j) / 4 = i + 1 + j / 4 by omega, show ((i + 1) * 4 + j) % 4 = j % 4 by omega] at this
    exact this
  have hap : ∀ ty dc, ∃ w', (Builtin.append_ #[32, 32] ty #[.slice (some ⟨g, 0, none⟩) i c, .slice (some A) (m - i) dc]).run Try.prog w.drew = .ok (.slice (some ⟨g, 0, none⟩) m c) w' ∧ w'.ownsRow B 91 4 (.slice (some ⟨g, 0, none⟩) m c) m (tr m (delT i f)) ∧ w.drew.grownBy w' (some g) := fun ty dc => by
    obtain ⟨w', q1, q2, q3⟩ := run_append_fits (P := Try.prog) w.drew B 32 ty 91 j0 4 hu3 hj hy1 g i c (tr i f) hown A (m - i) dc (tr (m - i) (fun p j => f (i + 1 + p) j)) (tr_len _ _) hsrc (tr_one _ _) (by omega)
    rw [show i + (m - i) = m by omega] at q1 q2
    have e := tr_del (n := m + 1) (i := i) (by omega) f
    rw [show m + 1 - (i + 1) = m - i by omega, Nat.add_sub_cancel] at e
    rw [e] at q2
    exact ⟨w', q1, q2, q3⟩
  obtain ⟨w1, q1, q2, q3⟩ := hap 32 (c - (i + 1))
  obtain ⟨_, h'⟩ | ⟨g', c', cur1, h', hb', hl', hg', k1, k2, k3, k4⟩ := OwnT.form (t := 91) (f := delT i f) q2
  · simp at *
  simp only [Value.slice.injEq, Option.some.injEq, Addr.mk.injEq, and_true, true_and] at h'
  obtain ⟨rfl, rfl⟩ := h'
  obtain ⟨cur2, hc2⟩ : ∃ x, x = (cur1.toList.take (m * 4) ++ (Builtin.zeroCells (Value.agg #[.int .i64 0, .int .i64 0, .int .i64 0, .int .i64 0]).cells 1).toList ++ cur1.toList.drop (m * 4 + (Builtin.zeroCells (Value.agg #[.int .i64 0, .int .i64 0, .int .i64 0, .int .i64 0]).cells 1).toList.length)).toArray := ⟨_, rfl⟩
  have hzl : (Builtin.zeroCells (Value.agg #[.int .i64 0, .int .i64 0, .int .i64 0, .int .i64 0]).cells 1).toList = tr 1 (fun _ _ => 0) := by first | kernel_rfl | (simp [Builtin.zeroCells, Value.cells, tr]; done) | (simp [Builtin.zeroCells, Value.cells, tr]; rfl)
  have hzs : (Builtin.zeroCells (Value.agg #[.int .i64 0, .int .i64 0, .int .i64 0, .int .i64 0]).cells 1).size = 4 := by first | kernel_rfl | (simp [Builtin.zeroCells, Value.cells]; done)
  have hcl : ∀ ty dc, (Builtin.clear_ #[32] ty #[.slice (some ⟨g, m * 4, none⟩) 1 dc]).run Try.prog w1 = .ok (.tuple #[]) (w1.setRow g cur2) := fun ty dc => by
    rw [hc2]
    exact run_clear_rowk (P := Try.prog) w1 32 91 ty _ g (m * 4) 1 dc cur1 91 hu3 hzv hg' (by omega) (by rw [hzs, k3]; omega) (by rw [hzl]; exact tr_one _ _)
  have e2 : cur2.size = c * 4 := by rw [hc2, hzl]; simp only [List.size_toArray, List.length_append, List.length_take, List.length_drop, Array.length_toList, tr_len]; omega
  have e3 : ∀ p, p < m * 4 → cur2[p]? = some (.int .i64 (delT i f (p / 4) (p % 4))) := fun p hp => by
    rw [hc2, List.getElem?_toArray, List.append_assoc, List.getElem?_append_left (by rw [List.length_take, Array.length_toList]; omega), k4, tr_get hp]
  have HE := Lib.hid e3
  have HE2 := Lib.hid e2
  have HG1 := Lib.hid q3
  have HH1 := Lib.hid hg'
  have HCC := Lib.hid h2
  have HCM := Lib.hid (show m ≤ c by omega)
  have hw1 : IntKind.i64.wrap ((i : Int) + 1) = (i : Int) + 1 := by rw [IntKind.wrap_i64]; omega
  have htn : ((i : Int) + 1).toNat = i + 1 := by omega
  have hb1 : (0 : Int) ≤ (i : Int) + 1 := by omega
  have hb2 : i ≤ m + 1 := by omega
  have hb3 : (i : Int) ≤ (m : Int) + 1 := by omega
  have hb4 : ¬ ((i : Int) = (i : Int) + 1) := by omega
  have hb5 : i ≤ c := by omega
  have hb6 : i + 1 ≤ c := by omega
  have hb7 : ¬ (c = m) := by omega
  have hb8 : ¬ (c = i) := by omega
  clear h hsrc hap hown hc2 h3 h4 e2 e3 hg h2 q2 q3 k1 k2 k3 k4 hg' hzl hzs
  by_cases hc : c = i + 1
  · obtain rfl : i = m := by omega
    obtain rfl := hAt hc
    subst hc
    rw [Nat.sub_self, Nat.sub_self] at q1
    clear hAs hAt hA
    go_enter Try.func133, Try.ntmps133
    go_wp2_with fail
    go_region_law (refine step_append_runK rfl _ _ 32 32 rfl _ _ (by simp [Act.eval, Act.put]) (by simp [Act.eval, Act.put]) q1 ?_)
    go_wp2_with (simp only [hcl])
    go_ret
    refine ⟨_, rfl, OwnT.of (cur := cur2) hb (setRow_heap w1 g cur1 _ _ _ HH1.out) HCM.out HCC.out HE2.out HE.out, ⟨HG1.out.os, HG1.out.tape, HG1.out.output, by simpa using HG1.out.size, fun q hq hne' => (setRow_other w1 g q _ (fun e => hne' (by simp [e, Value.ownBlock]))).trans (HG1.out.block q hq hne')⟩, rfl⟩
  · obtain rfl := hAs hc
    clear hAs hAt hA
    go_enter Try.func133, Try.ntmps133
    go_wp2_with fail
    go_region_law (refine step_append_runK rfl _ _ 32 32 rfl _ _ (by simp [Act.eval, Act.put]) (by simp [Act.eval, Act.put]) q1 ?_)
    go_wp2_with (simp only [hcl])
    go_ret
    refine ⟨_, rfl, OwnT.of (cur := cur2) hb (setRow_heap w1 g cur1 _ _ _ HH1.out) HCM.out HCC.out HE2.out HE.out, ⟨HG1.out.os, HG1.out.tape, HG1.out.output, by simpa using HG1.out.size, fun q hq hne' => (setRow_other w1 g q _ (fun e => hne' (by simp [e, Value.ownBlock]))).trans (HG1.out.block q hq hne')⟩, rfl⟩
end Go.Proofs.Ytipkbapnhgdpeaa.C
