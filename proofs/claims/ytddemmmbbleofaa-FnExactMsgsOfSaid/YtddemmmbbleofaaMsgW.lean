/- Messages written and read back, turned, cut off: the outcome. Plain: no program. No condition. -/
import Derived.Test.YtddemmmbbleofaaMsgI
namespace Go.Proofs.Ytddemmmbbleofaa.C
open Go.RowKit
set_option maxRecDepth 100000
set_option linter.unusedVariables false
set_option linter.unusedSimpArgs false
open Go.Proofs.YtddemmmbbleofaaW.PrintWords (bt bt_range bt_at)
theorem sum_step {v b : Int} (v0 : 0 ≤ v) (v1 : v < 4294967291) (b0 : 0 ≤ b) (b1 : b ≤ 255) : Int.tmod (wrap64 ((wrap64 (33 * v)) + (wrap64 b))) 4294967291 = (33 * v + b) % 4294967291 := by
  have e1 : wrap64 (33 * v) = 33 * v := by unfold wrap64; omega
  have e2 : wrap64 b = b := by unfold wrap64; omega
  have e3 : wrap64 (33 * v + b) = 33 * v + b := by unfold wrap64; omega
  rw [e1, e2, e3, Int.tmod_eq_emod_of_nonneg (by omega)]
theorem sum_apart (u v : ByteArray) (hz : u.size = v.size) (hs : u.size ≤ 20000) (d : Nat) : ∀ (k i : Nat) (a b : Int), 0 ≤ a → a < 4294967291 → 0 ≤ b → b < 4294967291 → a ≠ b → i + d = u.size → d < k → (∀ j : Nat, i ≤ j → bt u (j : Int) = bt v (j : Int)) →
    ∃ x y, PFnExactMsgRead.spec_l11Sum.l0 k u a i = some x ∧ PFnExactMsgRead.spec_l11Sum.l0 k v b i = some y ∧ x ≠ y := by
  induction d with
  | zero =>
    intro k i a b a0 a1 b0 b1 hne hd hk hj
    obtain ⟨k, rfl⟩ : ∃ m, k = m + 1 := ⟨k - 1, by omega⟩
    refine ⟨a, b, ?_, ?_, hne⟩
    · rw [PFnExactMsgRead.spec_l11Sum.l0, if_neg (by omega)]
    · rw [PFnExactMsgRead.spec_l11Sum.l0, if_neg (by omega)]
  | succ d ih =>
    intro k i a b a0 a1 b0 b1 hne hd hk hj
    obtain ⟨k, rfl⟩ : ∃ m, k = m + 1 := ⟨k - 1, by omega⟩
    have hw : wrap64 ((i : Int) + 1) = ((i + 1 : Nat) : Int) := by unfold wrap64; omega
    obtain ⟨c0, c1⟩ := bt_range u i
    have hc := hj i (Nat.le_refl _)
    obtain ⟨x, y, h1, h2, h3⟩ := ih k (i + 1) ((33 * a + bt u i) % 4294967291) ((33 * b + bt u i) % 4294967291) (by omega) (by omega) (by omega) (by omega) (by omega) (by omega) (by omega) (fun j h => hj j (by omega))
    refine ⟨x, y, ?_, ?_, h3⟩
    · rw [PFnExactMsgRead.spec_l11Sum.l0, if_pos (by omega), if_pos (by omega), sum_step a0 a1 c0 c1, hw]; exact h1
    · rw [PFnExactMsgRead.spec_l11Sum.l0, if_pos (by omega), if_pos (by omega), ← hc, sum_step b0 b1 c0 c1, hw]; exact h2
theorem sum_turned (u v : ByteArray) (p : Nat) (hz : u.size = v.size) (hs : u.size ≤ 20000) (hp : p < u.size) (hne : bt u (p : Int) ≠ bt v (p : Int)) (hsame : ∀ j : Nat, j ≠ p → bt u (j : Int) = bt v (j : Int)) (d : Nat) :
    ∀ (k i : Nat) (a : Int), 0 ≤ a → a < 4294967291 → i + d = p → u.size - i < k → ∃ x y, PFnExactMsgRead.spec_l11Sum.l0 k u a i = some x ∧ PFnExactMsgRead.spec_l11Sum.l0 k v a i = some y ∧ x ≠ y := by
  induction d with
  | zero =>
    intro k i a a0 a1 hd hk
    obtain rfl : i = p := by omega
    obtain ⟨k, rfl⟩ : ∃ m, k = m + 1 := ⟨k - 1, by omega⟩
    have hw : wrap64 ((i : Int) + 1) = ((i + 1 : Nat) : Int) := by unfold wrap64; omega
    obtain ⟨c0, c1⟩ := bt_range u i
    obtain ⟨e0, e1⟩ := bt_range v i
    obtain ⟨x, y, h1, h2, h3⟩ := sum_apart u v hz hs (u.size - (i + 1)) k (i + 1) ((33 * a + bt u i) % 4294967291) ((33 * a + bt v i) % 4294967291) (by omega) (by omega) (by omega) (by omega) (by omega) (by omega) (by omega) (fun j h => hsame j (by omega))
    refine ⟨x, y, ?_, ?_, h3⟩
    · rw [PFnExactMsgRead.spec_l11Sum.l0, if_pos (by omega), if_pos (by omega), sum_step a0 a1 c0 c1, hw]; exact h1
    · rw [PFnExactMsgRead.spec_l11Sum.l0, if_pos (by omega), if_pos (by omega), sum_step a0 a1 e0 e1, hw]; exact h2
  | succ d ih =>
    intro k i a a0 a1 hd hk
    obtain ⟨k, rfl⟩ : ∃ m, k = m + 1 := ⟨k - 1, by omega⟩
    have hw : wrap64 ((i : Int) + 1) = ((i + 1 : Nat) : Int) := by unfold wrap64; omega
    obtain ⟨c0, c1⟩ := bt_range u i
    have hc := hsame i (by omega)
    obtain ⟨x, y, h1, h2, h3⟩ := ih k (i + 1) ((33 * a + bt u i) % 4294967291) (by omega) (by omega) (by omega) (by omega)
    refine ⟨x, y, ?_, ?_, h3⟩
    · rw [PFnExactMsgRead.spec_l11Sum.l0, if_pos (by omega), if_pos (by omega), sum_step a0 a1 c0 c1, hw]; exact h1
    · rw [PFnExactMsgRead.spec_l11Sum.l0, if_pos (by omega), if_pos (by omega), ← hc, sum_step a0 a1 c0 c1, hw]; exact h2
/-- One byte is another one: the sum is another one. -/
theorem sumv_ne {u v : ByteArray} {p : Nat} (hz : u.size = v.size) (hs : u.size ≤ 20000) (hp : p < u.size) (hne : bt u (p : Int) ≠ bt v (p : Int)) (hsame : ∀ j : Nat, j ≠ p → bt u (j : Int) = bt v (j : Int)) : sumv u ≠ sumv v := by
  obtain ⟨x, y, h1, h2, h3⟩ := sum_turned u v p hz hs hp hne hsame p (u.size + 1) 0 1 (by omega) (by omega) (by omega) (by omega)
  unfold sumv
  rw [← hz, show ((0 : Nat) : Int) = 0 from rfl] at *
  rw [h1, h2]
  simpa using h3
theorem sum4_inj {a b : ByteArray} (ha : a.size ≤ 20000) (hb : b.size ≤ 20000) (h : sum4 a = sum4 b) : sumv a = sumv b := by
  have h1 := (sum_same (u := sum4 a) (b := a) rfl ha).mpr rfl
  have h2 := (sum_same (u := sum4 a) (b := b) rfl hb).mpr h
  omega
theorem nb_one {n : Int} (h : n < 128) : nb n = strOfNums [n] := by
  unfold nb nbl
  rw [if_neg (by omega)]
theorem bt_app_left {a b : ByteArray} {j : Nat} (h : j < a.size) : bt (a ++ b) (j : Int) = bt a (j : Int) := by
  have h2 : j < (a ++ b).size := by rw [ByteArray.size_append]; omega
  rw [← bt_at (a ++ b) (j : Int) (by simpa using h2), ← bt_at a (j : Int) (by simpa using h)]
  congr 2
  exact ByteArray.getElem_append_left (by simpa using h)
theorem bt_app_right {a b : ByteArray} {j : Nat} (h : j < b.size) : bt (a ++ b) ((a.size + j : Nat) : Int) = bt b (j : Int) := by
  have h2 : a.size + j < (a ++ b).size := by rw [ByteArray.size_append]; omega
  rw [← bt_at (a ++ b) ((a.size + j : Nat) : Int) (by rw [Int.toNat_natCast]; exact h2), ← bt_at b (j : Int) (by simpa using h)]
  congr 2
  show (a ++ b)[a.size + j]'h2 = b[j]'h
  have := ByteArray.getElem_append_right (a := a) (b := b) (i := a.size + j) (by omega) (h := h2)
  simpa using this
theorem bt_cut {t : ByteArray} {i n j : Nat} (h : i + j < n) (h2 : i + j < t.size) : bt (t.extract i n) (j : Int) = bt t ((i + j : Nat) : Int) := by
  have h3 : j < (t.extract i n).size := by rw [ByteArray.size_extract]; omega
  rw [← bt_at (t.extract i n) (j : Int) (by rw [Int.toNat_natCast]; exact h3), ← bt_at t ((i + j : Nat) : Int) (by rw [Int.toNat_natCast]; exact h2)]
  congr 2
  show (t.extract i n)[j]'h3 = t[i + j]'h2
  simp [ByteArray.getElem_extract]
theorem bt_out {t : ByteArray} {j : Nat} (h : t.size ≤ j) : bt t (j : Int) = 0 := by
  unfold Go.Proofs.YtddemmmbbleofaaW.PrintWords.bt
  rw [dif_neg (by rw [Int.toNat_natCast]; omega)]
/-- A text with a head of one byte, read. -/
theorem outF_parts {t r : ByteArray} {n : Nat} (hn : n < 128) (ht : t = (⟨#[87]⟩ : ByteArray) ++ (nb n ++ r)) :
    outF t = if r.size < n + 4 then outC M0 0 9 else if t.extract (n + 2) (n + 2 + 4) = sum4 (t.extract 1 (n + 2)) then tailO t (n + 2 + 4) else outC M0 0 8 := by
  have z1 : (nb n).size = 1 := by rw [nb_one (by omega)]; rfl
  have hz : t.size = 2 + r.size := by
    rw [ht, ByteArray.size_append, ByteArray.size_append, z1, show (⟨#[87]⟩ : ByteArray).size = 1 from rfl]; omega
  have b0 : bt t 0 = 87 := by
    rw [ht]
    exact (bt_app_left (j := 0) (by show 0 < 1; omega)).trans (by decide)
  have b1 : bt t 1 = n := by
    rw [ht]
    have h1 := bt_app_right (a := (⟨#[87]⟩ : ByteArray)) (b := nb n ++ r) (j := 0) (by rw [ByteArray.size_append, z1]; omega)
    have h2 := bt_app_left (a := nb n) (b := r) (j := 0) (by omega)
    have h3 : bt (nb n) 0 = n := by
      rw [nb_one (by omega)]
      have := bt_str [(n : Int)] ⟨#[]⟩ (by simp; omega) 0 n rfl
      simpa [show ∀ x : ByteArray, x ++ (⟨#[]⟩ : ByteArray) = x from fun x => ByteArray.append_empty] using this
    exact h1.trans (h2.trans h3)
  have hx := text_tail ht
  have hN : NF (t.extract 1 t.size) = ((n : Int), r, false) := by rw [hx]; exact NF_back _ _ (by omega) (by omega)
  rw [outF_head (by omega) b0 (by omega) hN, if_neg (by rintro (h | h); cases h; omega)]
  have e1 : t.size - r.size + (n : Int).toNat = n + 2 := by omega
  rw [e1, Nat.add_sub_cancel]
  by_cases h : r.size < n + 4
  · rw [if_pos h, if_pos (by omega)]
  · rw [if_neg h, if_neg (by omega)]
theorem text_parts (m : M) : m.text = (⟨#[87]⟩ : ByteArray) ++ (nb m.body.size ++ (m.body ++ sum4 (nb m.body.size ++ m.body))) := by
  rw [M.text_is]
  simp only [ByteArray.append_assoc]
theorem text_size {m : M} (h : m.ok = true) : m.text.size = m.body.size + 6 := by
  have := body_size h
  rw [text_parts, ByteArray.size_append, ByteArray.size_append, ByteArray.size_append, nb_one (by omega), sum4_size]
  show 1 + (1 + (m.body.size + 4)) = _
  omega
/-- A message's text, whatever stands behind it, is read as the message. -/
theorem outF_text {m : M} (h : m.ok = true) (q : ByteArray) : outF (m.text ++ q) = outC m m.text.size 0 := by
  have hb := body_size h
  have hz := text_size h
  have z1 : (nb m.body.size).size = 1 := by rw [nb_one (by omega)]; rfl
  have e : m.text ++ q = (⟨#[87]⟩ : ByteArray) ++ (nb m.body.size ++ (m.body ++ (sum4 (nb m.body.size ++ m.body) ++ q))) := by
    rw [text_parts]; simp only [ByteArray.append_assoc]
  have hw : (m.text ++ q).extract 0 (m.body.size + 2 + 4) = m.text := ByteArray.extract_append_eq_left (by omega)
  have hs : (m.text ++ q).extract (m.body.size + 2) (m.body.size + 2 + 4) = sum4 (nb m.body.size ++ m.body) := by
    have e2 : m.text ++ q = ((⟨#[87]⟩ : ByteArray) ++ (nb m.body.size ++ m.body)) ++ (sum4 (nb m.body.size ++ m.body) ++ q) := by rw [e]; simp only [ByteArray.append_assoc]
    have z2 : ((⟨#[87]⟩ : ByteArray) ++ (nb m.body.size ++ m.body)).size = m.body.size + 2 := by rw [ByteArray.size_append, ByteArray.size_append, z1]; show 1 + (1 + m.body.size) = _; omega
    rw [e2, ByteArray.extract_append, z2, Nat.sub_self, Nat.add_sub_cancel_left]
    have h1 : ((⟨#[87]⟩ : ByteArray) ++ (nb m.body.size ++ m.body)).extract (m.body.size + 2) (m.body.size + 2 + 4) = ByteArray.empty := by
      apply ByteArray.ext
      rw [ByteArray.data_extract]
      apply Array.extract_empty_of_size_le_start
      show ((⟨#[87]⟩ : ByteArray) ++ (nb m.body.size ++ m.body)).size ≤ _
      omega
    rw [h1, ByteArray.empty_append]
    exact ByteArray.extract_append_eq_left rfl
  have hbd : (m.text ++ q).extract 1 (m.body.size + 2) = nb m.body.size ++ m.body := by
    have e2 : m.text ++ q = (⟨#[87]⟩ : ByteArray) ++ ((nb m.body.size ++ m.body) ++ (sum4 (nb m.body.size ++ m.body) ++ q)) := by rw [e]; simp only [ByteArray.append_assoc]
    rw [e2, ByteArray.extract_append]
    have h1 : (⟨#[87]⟩ : ByteArray).extract 1 (m.body.size + 2) = ByteArray.empty := by
      apply ByteArray.ext
      rw [ByteArray.data_extract]
      apply Array.extract_empty_of_size_le_start
      show 1 ≤ 1
      omega
    rw [h1, ByteArray.empty_append]
    refine ByteArray.extract_append_eq_left ?_
    rw [ByteArray.size_append, z1]
    show m.body.size + 2 - 1 = _
    omega
  rw [outF_parts (n := m.body.size) (by omega) e, if_neg (by rw [ByteArray.size_append, ByteArray.size_append, sum4_size]; omega), hs, hbd, if_pos rfl]
  have hT : m.body.size + 2 + 4 = m.text.size := by omega
  rw [hT] at hw ⊢
  exact tailO_yes ⟨h, hw.symm⟩ (by rw [ByteArray.size_append]; omega)
/-- A message's text that is cut off is not whole. -/
theorem outF_cut {m : M} (h : m.ok = true) {k : Nat} (h2 : 2 ≤ k) (hk : k < m.text.size) : outF (m.text.extract 0 k) = outC M0 0 9 := by
  have hb := body_size h
  have hz := text_size h
  have z1 : (nb m.body.size).size = 1 := by rw [nb_one (by omega)]; rfl
  have e : m.text.extract 0 k = (⟨#[87]⟩ : ByteArray) ++ (nb m.body.size ++ (m.body ++ sum4 (nb m.body.size ++ m.body)).extract 0 (k - 2)) := by
    conv => lhs; rw [text_parts]
    rw [ByteArray.extract_append, ByteArray.extract_append, z1]
    congr 1
    · exact ext_all _ _ (by show 1 ≤ k; omega)
    · congr 1
      · refine (ext_all _ _ ?_)
        rw [z1]
        show 1 ≤ k - 1
        omega
  rw [outF_parts (n := m.body.size) (by omega) e, if_pos]
  rw [ByteArray.size_extract, ByteArray.size_append, sum4_size]
  omega
/-- A message's text of which one byte behind the second is another one. -/
theorem outF_turned {m : M} (h : m.ok = true) {t : ByteArray} {k : Nat} (hz : t.size = m.text.size) (h2 : 2 ≤ k) (hk : k < m.text.size) (hne : bt t (k : Int) ≠ bt m.text (k : Int)) (hsame : ∀ j : Nat, j ≠ k → bt t (j : Int) = bt m.text (j : Int)) : outF t = outC M0 0 8 := by
  have hb := body_size h
  have hts := text_size h
  have z1 : (nb m.body.size).size = 1 := by rw [nb_one (by omega)]; rfl
  have hp := text_parts m
  have hpre : t.extract 0 2 = (⟨#[87]⟩ : ByteArray) ++ nb m.body.size := by
    have h3 : m.text.extract 0 2 = (⟨#[87]⟩ : ByteArray) ++ nb m.body.size := by
      rw [hp, ← ByteArray.append_assoc]
      exact ByteArray.extract_append_eq_left (by rw [ByteArray.size_append, z1]; rfl)
    rw [← h3]
    refine bytes_ext (by rw [ByteArray.size_extract, ByteArray.size_extract, hz]) fun j hj => ?_
    rw [ByteArray.size_extract] at hj
    rw [bt_cut (by omega) (by omega), bt_cut (by omega) (by omega), Nat.zero_add]
    exact hsame j (by omega)
  have e : t = (⟨#[87]⟩ : ByteArray) ++ (nb m.body.size ++ t.extract 2 t.size) := by
    have := split_at t 2 (by omega)
    rw [hpre, ByteArray.append_assoc] at this
    exact this.symm
  rw [outF_parts (n := m.body.size) (by omega) e, if_neg (by rw [ByteArray.size_extract]; omega), if_neg]
  intro hs
  have hs0 : m.text.extract (m.body.size + 2) (m.body.size + 2 + 4) = sum4 (nb m.body.size ++ m.body) := by
    have e2 : m.text = ((⟨#[87]⟩ : ByteArray) ++ (nb m.body.size ++ m.body)) ++ sum4 (nb m.body.size ++ m.body) := by rw [hp]; simp only [ByteArray.append_assoc]
    rw [e2]
    refine ByteArray.extract_append_eq_right ?_ ?_
    · rw [ByteArray.size_append, ByteArray.size_append, z1]; show _ = 1 + (1 + m.body.size); omega
    · rw [ByteArray.size_append, ByteArray.size_append, z1, sum4_size]; show _ = 1 + (1 + m.body.size) + 4; omega
  have hb0 : m.text.extract 1 (m.body.size + 2) = nb m.body.size ++ m.body := by
    have e2 : m.text = (⟨#[87]⟩ : ByteArray) ++ ((nb m.body.size ++ m.body) ++ sum4 (nb m.body.size ++ m.body)) := by rw [hp]; simp only [ByteArray.append_assoc]
    rw [e2, ByteArray.extract_append]
    have h1 : (⟨#[87]⟩ : ByteArray).extract 1 (m.body.size + 2) = ByteArray.empty := by
      apply ByteArray.ext
      rw [ByteArray.data_extract]
      apply Array.extract_empty_of_size_le_start
      show 1 ≤ 1
      omega
    rw [h1, ByteArray.empty_append]
    refine ByteArray.extract_append_eq_left ?_
    rw [ByteArray.size_append, z1]
    show m.body.size + 2 - 1 = _
    omega
  by_cases hkt : k < m.body.size + 2
  · -- the body is turned: the sum is another one
    have hsum : t.extract (m.body.size + 2) (m.body.size + 2 + 4) = m.text.extract (m.body.size + 2) (m.body.size + 2 + 4) := by
      refine bytes_ext (by rw [ByteArray.size_extract, ByteArray.size_extract, hz]) fun j hj => ?_
      rw [ByteArray.size_extract] at hj
      rw [bt_cut (by omega) (by omega), bt_cut (by omega) (by omega)]
      exact hsame _ (by omega)
    have z3 : (t.extract 1 (m.body.size + 2)).size = m.body.size + 1 := by rw [ByteArray.size_extract]; omega
    have z4 : (m.text.extract 1 (m.body.size + 2)).size = m.body.size + 1 := by rw [ByteArray.size_extract]; omega
    rw [hsum, hs0, ← hb0] at hs
    have := sum4_inj (by omega) (by omega) hs
    refine sumv_ne (u := t.extract 1 (m.body.size + 2)) (v := m.text.extract 1 (m.body.size + 2)) (p := k - 1) (by omega) (by omega) (by omega) ?_ ?_ this.symm
    · rw [bt_cut (by omega) (by omega), bt_cut (by omega) (by omega), show 1 + (k - 1) = k by omega]
      exact hne
    · intro j hj
      by_cases hj2 : j < m.body.size + 1
      · rw [bt_cut (by omega) (by omega), bt_cut (by omega) (by omega)]
        exact hsame _ (by omega)
      · rw [bt_out (by omega), bt_out (by omega)]
  · -- the sum itself is turned
    have hbody : t.extract 1 (m.body.size + 2) = m.text.extract 1 (m.body.size + 2) := by
      refine bytes_ext (by rw [ByteArray.size_extract, ByteArray.size_extract, hz]) fun j hj => ?_
      rw [ByteArray.size_extract] at hj
      rw [bt_cut (by omega) (by omega), bt_cut (by omega) (by omega)]
      exact hsame _ (by omega)
    rw [hbody, hb0, ← hs0] at hs
    have := congrArg (fun x => bt x ((k - (m.body.size + 2) : Nat) : Int)) hs
    rw [bt_cut (by omega) (by omega), bt_cut (by omega) (by omega), show m.body.size + 2 + (k - (m.body.size + 2)) = k by omega] at this
    exact hne this
end Go.Proofs.Ytddemmmbbleofaa.C
