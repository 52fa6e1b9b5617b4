/- Numbers read back: what NumBytes wrote is read as it was. No condition. -/
import Derived.Test.YtddemmmbbleofaaMsgN
namespace Go.Proofs.Ytddemmmbbleofaa.C
open Go.RowKit
set_option maxRecDepth 100000
set_option linter.unusedVariables false
set_option linter.unusedSimpArgs false
open Go.Proofs.YtddemmmbbleofaaW.PrintWords (bt bt_range bt_at)
/-- What the program takes. -/
def takeG : Nat → ByteArray → Int → Nat → Option (Int × ByteArray)
  | 0, _, _, _ => none
  | k + 1, t, n, i =>
    if i < t.size then
      (if bt t i < 128 then some (n + bt t i % 128 * 128 ^ i, t.extract (i + 1) t.size)
       else takeG k t (n + bt t i % 128 * 128 ^ i) (i + 1))
    else none
theorem nbl_pos (d : Nat) (y : Int) : 0 < (nbl d y).length := by cases d <;> simp [nbl]; split <;> simp
theorem num_back (d : Nat) : ∀ (k i : Nat) (x n y : Int) (t A r : ByteArray), nb x = A → t = A ++ r → A.size = i + (nbl d y).length → (∀ j v, (nbl d y)[j]? = some v → bt t ((i + j : Nat) : Int) = v) → x = n + y * 128 ^ i → 0 ≤ y → y < 128 ^ (d + 1) → (nbl d y).length ≤ k →
    numF k t n i = (x, r, false) ∧ takeG k t n i = some (x, r) := by
  induction d with
  | zero =>
    intro k i x n y t A r hA ht hs hb hx h0 h1 hk
    obtain ⟨k, rfl⟩ : ∃ m, k = m + 1 := ⟨k - 1, by have := nbl_pos 0 y; omega⟩
    have h2 : bt t (i : Int) = y := hb 0 y rfl
    simp [nbl] at hs
    have hlt : i < t.size := by rw [ht, ByteArray.size_append]; omega
    have e1 : t.extract (i + 1) t.size = r := by rw [ht]; exact ByteArray.extract_append_eq_right hs.symm (by rw [ByteArray.size_append])
    have e2 : t.extract 0 (i + 1) = A := by rw [ht]; exact ByteArray.extract_append_eq_left hs.symm
    have e3 : n + y % 128 * 128 ^ i = x := by rw [hx, show y % 128 = y from by omega]
    constructor
    · rw [numF, if_pos hlt, h2, if_pos (by omega), e1, e2, e3, hA]; simp
    · rw [takeG, if_pos hlt, h2, if_pos (by omega), e1, e3]
  | succ d ih =>
    intro k i x n y t A r hA ht hs hb hx h0 h1 hk
    obtain ⟨k, rfl⟩ : ∃ m, k = m + 1 := ⟨k - 1, by have := nbl_pos (d + 1) y; omega⟩
    by_cases hy : 128 ≤ y
    · rw [show nbl (d + 1) y = (y % 128 + 128) :: nbl d (y / 128) from if_pos hy] at hs hb hk
      have h2 : bt t (i : Int) = y % 128 + 128 := hb 0 _ rfl
      simp at hs hk
      have hlt : i < t.size := by rw [ht, ByteArray.size_append]; omega
      have e4 : (y % 128 + 128) % 128 = y % 128 := by omega
      have := ih k (i + 1) x (n + y % 128 * 128 ^ i) (y / 128) t A r hA ht (by omega) (fun j v hj => by
        have := hb (j + 1) v (by simpa using hj)
        rwa [show i + (j + 1) = i + 1 + j from by omega] at this) (by
        rw [hx, Int.pow_succ, show y / 128 * (128 ^ i * 128) = (y / 128 * 128) * 128 ^ i from by rw [Int.mul_comm (128 ^ i) 128, Int.mul_assoc], Int.add_assoc, ← Int.add_mul]
        congr 2; omega) (by omega) (by rw [Int.pow_succ] at h1; omega) (by omega)
      rw [numF, takeG, if_pos hlt, if_pos hlt, h2, if_neg (by omega), if_neg (by omega), e4]
      exact this
    · have e0 : nbl (d + 1) y = [y] := if_neg hy
      rw [e0] at hs hb hk
      have h2 : bt t (i : Int) = y := hb 0 y rfl
      simp at hs
      have hlt : i < t.size := by rw [ht, ByteArray.size_append]; omega
      have e1 : t.extract (i + 1) t.size = r := by rw [ht]; exact ByteArray.extract_append_eq_right hs.symm (by rw [ByteArray.size_append])
      have e2 : t.extract 0 (i + 1) = A := by rw [ht]; exact ByteArray.extract_append_eq_left hs.symm
      have e3 : n + y % 128 * 128 ^ i = x := by rw [hx, show y % 128 = y from by omega]
      constructor
      · rw [numF, if_pos hlt, h2, if_pos (by omega), e1, e2, e3, hA]; simp
      · rw [takeG, if_pos hlt, h2, if_pos (by omega), e1, e3]
theorem nbl_range (d : Nat) : ∀ (y : Int), 0 ≤ y → y < 128 ^ (d + 1) → ∀ v ∈ nbl d y, 0 ≤ v ∧ v ≤ 255 := by
  induction d with
  | zero => intro y h0 h1 v hv; simp [nbl] at hv; subst hv; omega
  | succ d ih =>
    intro y h0 h1 v hv
    rw [nbl] at hv
    split at hv
    · rcases List.mem_cons.1 hv with rfl | hv
      · omega
      · exact ih _ (by omega) (by rw [Int.pow_succ] at h1; omega) v hv
    · simp at hv; subst hv; omega
theorem bt_str (l : List Int) (r : ByteArray) (h : ∀ v ∈ l, 0 ≤ v ∧ v ≤ 255) (j : Nat) (v : Int) (hj : l[j]? = some v) : bt (strOfNums l ++ r) (j : Int) = v := by
  have hl := (List.getElem?_eq_some_iff.1 hj).1
  have hs : (strOfNums l).size = l.length := by simp [strOfNums, ByteArray.size]
  obtain ⟨v0, v1⟩ := h v (List.mem_of_getElem? hj)
  have hj2 : j < (strOfNums l ++ r).size := by rw [ByteArray.size_append]; omega
  rw [← bt_at (strOfNums l ++ r) (j : Int) (by simpa using hj2)]
  have e : (strOfNums l ++ r)[(j : Int).toNat]'(by simpa using hj2) = UInt8.ofNat v.toNat := by
    have e1 : (strOfNums l ++ r)[j]'hj2 = (strOfNums l)[j]'(by omega) := ByteArray.getElem_append_left (by omega)
    have e2 : (strOfNums l)[j]'(by omega) = UInt8.ofNat (l[j]'hl).toNat := by
      rw [ByteArray.getElem_eq_getElem_data]
      simp [strOfNums]
    have e3 : l[j]'hl = v := by rw [List.getElem?_eq_getElem hl] at hj; exact Option.some.inj hj
    simpa [e3] using e1.trans e2
  rw [e]
  simp
  omega
theorem nb_len (x : Int) : (nb x).size = (nbl 9 x).length := by simp [nb, strOfNums, ByteArray.size]
/-- What the reference and the program read of a number and a rest. -/
def NF (t : ByteArray) : Int × ByteArray × Bool := numF 9 t 0 0
def TF (t : ByteArray) : Option (Int × ByteArray) := takeG 8 t 0 0
theorem nbl_le (m : Nat) : ∀ (d : Nat) (x : Int), 0 ≤ x → x < 128 ^ m → 0 < m → (nbl d x).length ≤ m := by
  induction m with
  | zero => intro d x _ _ h; omega
  | succ m ih =>
    intro d x h0 h1 _
    cases d with
    | zero => simp [nbl]
    | succ d =>
      rw [nbl]
      split
      · simp
        by_cases hm : m = 0
        · subst hm; omega
        · exact ih d (x / 128) (by omega) (by rw [Int.pow_succ] at h1; omega) (by omega)
      · simp
theorem NF_back (x : Int) (r : ByteArray) (h0 : 0 ≤ x) (h1 : x ≤ 9223372036854775807) : NF (nb x ++ r) = (x, r, false) := by
  have hl : (nbl 9 x).length ≤ 9 := nbl_le 9 9 x h0 (by omega) (by omega)
  exact (num_back 9 9 0 x 0 x (nb x ++ r) (nb x) r rfl rfl (by rw [nb_len]; omega) (fun j v hj => by
    rw [Nat.zero_add]; exact bt_str _ r (nbl_range 9 x h0 (by omega)) j v hj) (by omega) h0 (by omega) hl).1
theorem TF_back (x : Int) (r : ByteArray) (h0 : 0 ≤ x) (h1 : x < 72057594037927936) : TF (nb x ++ r) = some (x, r) := by
  have hl : (nbl 9 x).length ≤ 8 := nbl_le 8 9 x h0 (by omega) (by omega)
  exact (num_back 9 8 0 x 0 x (nb x ++ r) (nb x) r rfl rfl (by rw [nb_len]; omega) (fun j v hj => by
    rw [Nat.zero_add]; exact bt_str _ r (nbl_range 9 x h0 (by omega)) j v hj) (by omega) h0 (by omega) hl).2
/-- What is read and not wrong was written so. -/
theorem num_was (k : Nat) : ∀ (i : Nat) (n : Int) (t : ByteArray) (x : Int) (r : ByteArray), k + i ≤ 9 → 0 ≤ n → n < 128 ^ i → numF k t n i = (x, r, false) → t = nb x ++ r ∧ 0 ≤ x ∧ x ≤ 9223372036854775807 := by
  induction k with
  | zero => intro i n t x r _ _ _ h; simp [numF] at h
  | succ k ih =>
    intro i n t x r hk n0 n1 h
    rw [numF] at h
    obtain ⟨c0, c1⟩ := bt_range t i
    obtain ⟨p0, p1, p2⟩ := pow128 i (by omega)
    split at h
    · rename_i hlt
      generalize hp : (128 : Int) ^ i = p at *
      have hm1 : bt t i % 128 * p ≤ 127 * p := Int.mul_le_mul_of_nonneg_right (by omega) (by omega)
      have hm0 : 0 ≤ bt t i % 128 * p := Int.mul_nonneg (by omega) (by omega)
      split at h
      · simp only [Prod.mk.injEq, decide_eq_false_iff_not, ne_eq, Decidable.not_not] at h
        obtain ⟨rfl, rfl, h3⟩ := h
        refine ⟨?_, by omega, by omega⟩
        rw [h3, ByteArray.extract_append_extract, Nat.min_eq_left (by omega), Nat.max_eq_right (by omega), ByteArray.extract_zero_size]
      · exact ih (i + 1) _ t x r (by omega) (by omega) (by rw [p2]; omega) h
    · simp at h
theorem NF_was {t r : ByteArray} {x : Int} (h : NF t = (x, r, false)) : t = nb x ++ r ∧ 0 ≤ x ∧ x ≤ 9223372036854775807 := num_was 9 0 0 t x r (by omega) (by omega) (by decide) h
end Go.Proofs.Ytddemmmbbleofaa.C
