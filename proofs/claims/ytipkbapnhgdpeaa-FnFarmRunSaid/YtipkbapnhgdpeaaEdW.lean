/- What an edit does to a farm, plain: rows in order, put in, taken out, written into. No condition. -/
import Derived.Test.YtipkbapnhgdpeaaFarmS
import Derived.Test.YtipkbapnhgdpeaaTRow
import Derived.Test.YtipkbapnhgdpeaaOp
namespace Go.Proofs.Ytipkbapnhgdpeaa.C
open Go.RowKit
set_option linter.unusedVariables false
set_option linter.unusedSimpArgs false
/-- A farm. -/
structure Fm where
  cap : Int
  n1 : Nat
  f1 : Nat → Nat → Int
  n2 : Nat
  f2 : Nat → Nat → Int
def fm0 : Fm := ⟨0, 0, fun _ _ => 0, 0, fun _ _ => 0⟩
def posF (f : Nat → Nat → Int) (id : Int) : Nat → Nat → Nat
  | i, 0 => i
  | i, k + 1 => if f i 0 < id then posF f id (i + 1) k else i
/-- The place of an id in a table that is in order. -/
def posT (n : Nat) (f : Nat → Nat → Int) (id : Int) : Nat := posF f id 0 n
def r4 (a b c d : Int) (j : Nat) : Int := match j with | 0 => a | 1 => b | 2 => c | _ => d
/-- Is anything below a group? -/
def busyB (n : Nat) (f : Nat → Nat → Int) (id : Int) : Bool := (List.range n).any fun i => f i 1 == id
def hasG (F : Fm) (g : Int) : Bool := hasId F.n1 F.f1 g || g == 0
/-- The code of a right edit. -/
def edC (F : Fm) (k id g a b : Int) : Int :=
  if k = 1 then (if hasId F.n2 F.f2 id = true then 5 else if hasG F g = false then 4 else if F.n2 = 60 then 6 else 0)
  else if k = 6 then (if hasId F.n1 F.f1 id = true then 5 else if hasG F g = false then 4 else if F.n1 = 30 then 6 else 0)
  else if k = 7 then (if hasId F.n1 F.f1 id = false then 4 else if (busyB F.n1 F.f1 id || busyB F.n2 F.f2 id) = true then 9 else 0)
  else if k = 8 then (if id = 0 then 0 else if hasId F.n1 F.f1 id = false then 4 else 0)
  else if hasId F.n2 F.f2 id = false then 4
  else if k = 5 then (if hasG F g = false then 4 else 0)
  else 0
/-- The farm behind an edit that goes. -/
def edF (F : Fm) (k id g a b : Int) : Fm :=
  if k = 1 then { F with n2 := F.n2 + 1, f2 := insT (posT F.n2 F.f2 id) (r4 id g a b) F.f2 }
  else if k = 6 then { F with n1 := F.n1 + 1, f1 := insT (posT F.n1 F.f1 id) (r4 id g a b) F.f1 }
  else if k = 7 then { F with n1 := F.n1 - 1, f1 := delT (posT F.n1 F.f1 id) F.f1 }
  else if k = 8 then (if id = 0 then { F with cap := a } else { F with f1 := setT (posT F.n1 F.f1 id) 2 a F.f1 })
  else if k = 2 then { F with n2 := F.n2 - 1, f2 := delT (posT F.n2 F.f2 id) F.f2 }
  else if k = 3 then { F with f2 := setT (posT F.n2 F.f2 id) 2 a F.f2 }
  else if k = 4 then { F with f2 := setT (posT F.n2 F.f2 id) 3 a F.f2 }
  else { F with f2 := setT (posT F.n2 F.f2 id) 1 g F.f2 }
def fmB (F : Fm) : Bool := farmB F.cap F.n1 F.f1 F.n2 F.f2
/-- FarmEdit: its code, its farm. -/
def feC (F : Fm) (k id g a b : Int) : Int := if fmB F = true then (if isEdB k id g a b = true then edC F k id g a b else 1) else 1
def feF (F : Fm) (k id g a b : Int) : Fm := if feC F k id g a b = 0 then edF F k id g a b else fm0
/-- The place of an id. -/
def Pos (n : Nat) (f : Nat → Nat → Int) (id : Int) (p : Nat) : Prop := p ≤ n ∧ (∀ i, i < p → f i 0 < id) ∧ ∀ i, p ≤ i → i < n → f i 0 ≥ id
theorem Pos.one {n p q : Nat} {f : Nat → Nat → Int} {id : Int} (h : Pos n f id p) (k : Pos n f id q) : p = q := by
  rcases Nat.lt_trichotomy p q with h1 | h1 | h1
  · have := k.2.1 p h1
    have := h.2.2 p (Nat.le_refl _) (by have := k.1; omega)
    omega
  · exact h1
  · have := h.2.1 q h1
    have := k.2.2 q (Nat.le_refl _) (by have := h.1; omega)
    omega
theorem pos_F {f : Nat → Nat → Int} {id : Int} : ∀ (k i n : Nat), i + k = n → Rises n f → (∀ j, j < i → f j 0 < id) → Pos n f id (posF f id i k)
  | 0, i, n, h, hr, hl => ⟨by unfold posF; omega, by unfold posF; exact hl, by unfold posF; intro j h1 h2; omega⟩
  | k + 1, i, n, h, hr, hl => by
    unfold posF
    by_cases h1 : f i 0 < id
    · rw [if_pos h1]
      refine pos_F k (i + 1) n (by omega) hr fun j hj => ?_
      rcases Nat.lt_succ_iff_lt_or_eq.1 hj with h2 | rfl
      · exact hl j h2
      · exact h1
    · rw [if_neg h1]
      refine ⟨by omega, hl, fun j h2 h3 => ?_⟩
      have := rises_le hr h2 h3
      omega
theorem posT_pos {n : Nat} {f : Nat → Nat → Int} (hr : Rises n f) (id : Int) : Pos n f id (posT n f id) := pos_F n 0 n (by omega) hr fun j hj => by omega
theorem Pos.eq {n p : Nat} {f : Nat → Nat → Int} {id : Int} (hr : Rises n f) (h : Pos n f id p) : p = posT n f id := h.one (posT_pos hr id)
theorem Pos.of_eq {n p : Nat} {f : Nat → Nat → Int} (hr : Rises n f) (hp : p < n) : Pos n f (f p 0) p :=
  ⟨Nat.le_of_lt hp, fun i hi => hr i p hi hp, fun i h1 h2 => rises_le hr h1 h2⟩
theorem has_at {n : Nat} {f : Nat → Nat → Int} {id : Int} (hr : Rises n f) (h : hasId n f id = true) : posT n f id < n ∧ f (posT n f id) 0 = id := by
  obtain ⟨i, hi, rfl⟩ := hasId_iff.1 h
  rw [← (Pos.of_eq hr hi).eq hr]
  exact ⟨hi, rfl⟩
theorem has_no {n : Nat} {f : Nat → Nat → Int} {id : Int} (h : hasId n f id = false) {i : Nat} (hi : i < n) : f i 0 ≠ id := fun e => by
  have := hasId_iff.2 ⟨i, hi, e⟩
  rw [h] at this
  cases this
theorem grpIdx_at (f : Nat → Nat → Int) (id : Int) : ∀ k i, (∃ j, i ≤ j ∧ j < i + k ∧ f j 0 = id) → ∃ p : Nat, grpIdx f id i k = p ∧ i ≤ p ∧ p < i + k ∧ f p 0 = id
  | 0, i, ⟨j, h1, h2, _⟩ => by omega
  | k + 1, i, ⟨j, h1, h2, h3⟩ => by
    unfold grpIdx
    by_cases h : f i 0 = id
    · rw [if_pos h]
      exact ⟨i, rfl, Nat.le_refl _, by omega, h⟩
    · rw [if_neg h]
      obtain ⟨p, e, h4, h5, h6⟩ := grpIdx_at f id k (i + 1) ⟨j, by
        rcases Nat.lt_or_ge i j with h4 | h4
        · exact h4
        · exact absurd (by rw [show i = j by omega]; exact h3) h, by omega, h3⟩
      exact ⟨p, e, by omega, by omega, h6⟩
theorem grpIdx_pos {n : Nat} {f : Nat → Nat → Int} {id : Int} (hr : Rises n f) (h : hasId n f id = true) : grpIdx f id 0 n = (posT n f id : Int) := by
  obtain ⟨i, hi, he⟩ := hasId_iff.1 h
  obtain ⟨p, e, _, h2, rfl⟩ := grpIdx_at f id n 0 ⟨i, by omega, by omega, he⟩
  rw [e, ← (Pos.of_eq hr (by omega : p < n)).eq hr]
theorem grpIdx_no {n : Nat} {f : Nat → Nat → Int} {id : Int} (h : hasId n f id = false) : grpIdx f id 0 n < 0 :=
  (grpIdx_neg f id n 0).2 fun j _ hj => has_no h (by omega)
/-- A right farm. -/
structure Right (F : Fm) : Prop where
  c : 0 ≤ F.cap ∧ F.cap ≤ 1125899906842624
  l1 : F.n1 ≤ 30
  l2 : F.n2 ≤ 60
  r1 : Rises F.n1 F.f1
  r2 : Rises F.n2 F.f2
  g : ∀ i, i < F.n1 → (1 ≤ F.f1 i 0 ∧ F.f1 i 0 ≤ 1000000) ∧ (F.f1 i 1 = 0 ∨ hasId F.n1 F.f1 (F.f1 i 1) = true ∧ F.f1 i 1 < F.f1 i 0) ∧ (0 ≤ F.f1 i 2 ∧ F.f1 i 2 ≤ 1125899906842624) ∧ (1 ≤ F.f1 i 3 ∧ F.f1 i 3 ≤ 1073741824)
  m : ∀ i, i < F.n2 → (1 ≤ F.f2 i 0 ∧ F.f2 i 0 ≤ 1000000) ∧ (F.f2 i 1 = 0 ∨ hasId F.n1 F.f1 (F.f2 i 1) = true) ∧ (0 ≤ F.f2 i 2 ∧ F.f2 i 2 ≤ 1125899906842624) ∧ (1 ≤ F.f2 i 3 ∧ F.f2 i 3 ≤ 1073741824)
theorem Right.of {F : Fm} (h : fmB F = true) : Right F := by
  unfold fmB farmB at h
  rw [← farm_GS] at h
  simp only [Bool.and_eq_true, decide_eq_true_eq, List.all_eq_true, List.mem_range] at h
  obtain ⟨hc, h1, h2, hg, hm⟩ := h
  have hm' : ∀ i, i < F.n2 → okMS F.n1 F.f1 F.f2 i = true := fun i hi => by rw [okMS_eq]; exact hm i hi
  refine ⟨bIn_true.1 hc, h1, h2, rises_GS hg, rises_of fun j hj => ?_, fun i hi => ?_, fun i hi => ?_⟩
  · have := hm' (j + 1) hj
    unfold okMS at this
    simp only [Bool.and_eq_true, Bool.or_eq_true, decide_eq_true_eq, beq_iff_eq, Nat.add_sub_cancel] at this
    rcases this.2.1 with h | h
    · omega
    · exact h
  · have := hg i hi
    unfold okGS at this
    simp only [Bool.and_eq_true, Bool.or_eq_true, decide_eq_true_eq, beq_iff_eq, bIn_true] at this
    exact ⟨this.1, this.2.2.1, this.2.2.2⟩
  · have := hm' i hi
    unfold okMS at this
    simp only [Bool.and_eq_true, Bool.or_eq_true, decide_eq_true_eq, beq_iff_eq, bIn_true] at this
    exact ⟨this.1, this.2.2.1, this.2.2.2⟩
theorem Right.to {F : Fm} (h : Right F) : fmB F = true := by
  have hg : ∀ i, i < F.n1 → okGS F.n1 F.f1 i = true := fun i hi => by
    unfold okGS
    simp only [Bool.and_eq_true, Bool.or_eq_true, decide_eq_true_eq, beq_iff_eq, bIn_true]
    have := h.g i hi
    refine ⟨this.1, ?_, this.2⟩
    rcases Nat.eq_zero_or_pos i with h0 | h0
    · exact .inl h0
    · exact .inr (h.r1 _ _ (by omega) hi)
  have hm : ∀ i, i < F.n2 → okMS F.n1 F.f1 F.f2 i = true := fun i hi => by
    unfold okMS
    simp only [Bool.and_eq_true, Bool.or_eq_true, decide_eq_true_eq, beq_iff_eq, bIn_true]
    have := h.m i hi
    refine ⟨this.1, ?_, this.2⟩
    rcases Nat.eq_zero_or_pos i with h0 | h0
    · exact .inl h0
    · exact .inr (h.r2 _ _ (by omega) hi)
  exact farmS_yes (bIn_true.2 h.c) h.l1 h.l2 hg hm
theorem ins_lt {p i : Nat} {r : Nat → Int} {f : Nat → Nat → Int} (h : i < p) : insT p r f i = f i := by funext j; unfold insT; rw [if_pos h]
theorem ins_eq {p : Nat} {r : Nat → Int} {f : Nat → Nat → Int} : insT p r f p = r := by funext j; unfold insT; rw [if_neg (Nat.lt_irrefl _), if_pos rfl]
theorem ins_gt {p i : Nat} {r : Nat → Int} {f : Nat → Nat → Int} (h : p < i) : insT p r f i = f (i - 1) := by funext j; unfold insT; rw [if_neg (by omega), if_neg (by omega)]
theorem ins_all {n p : Nat} {r : Nat → Int} {f : Nat → Nat → Int} {P : (Nat → Int) → Prop} (h : ∀ i, i < n → P (f i)) (hr : P r) (hp : p ≤ n) : ∀ i, i < n + 1 → P (insT p r f i) := fun i hi => by
  rcases Nat.lt_trichotomy i p with h1 | rfl | h1
  · rw [ins_lt h1]; exact h i (by omega)
  · rw [ins_eq]; exact hr
  · rw [ins_gt h1]; exact h _ (by omega)
theorem del_lt {p i : Nat} {f : Nat → Nat → Int} (h : i < p) : delT p f i = f i := by funext j; unfold delT; rw [if_pos h]
theorem del_ge {p i : Nat} {f : Nat → Nat → Int} (h : p ≤ i) : delT p f i = f (i + 1) := by funext j; unfold delT; rw [if_neg (by omega)]
theorem del_all {n p : Nat} {f : Nat → Nat → Int} {P : (Nat → Int) → Prop} (h : ∀ i, i < n → P (f i)) : ∀ i, i < n - 1 → P (delT p f i) := fun i hi => by
  rcases Nat.lt_or_ge i p with h1 | h1
  · rw [del_lt h1]; exact h i (by omega)
  · rw [del_ge h1]; exact h _ (by omega)
theorem set_ne {p j0 i j : Nat} {x : Int} {f : Nat → Nat → Int} (h : j ≠ j0) : setT p j0 x f i j = f i j := by unfold setT; rw [if_neg (fun e => h e.2)]
theorem set_at {p j0 : Nat} {x : Int} {f : Nat → Nat → Int} : setT p j0 x f p j0 = x := by unfold setT; rw [if_pos ⟨rfl, rfl⟩]
theorem set_far {p j0 i : Nat} {x : Int} {f : Nat → Nat → Int} (h : i ≠ p) : setT p j0 x f i = f i := by funext j; unfold setT; rw [if_neg (fun e => h e.1)]
theorem rises_ins {n : Nat} {f : Nat → Nat → Int} {r : Nat → Int} (hr : Rises n f) (hn : hasId n f (r 0) = false) : Rises (n + 1) (insT (posT n f (r 0)) r f) := by
  obtain ⟨h1, h2, h3⟩ := posT_pos hr (r 0)
  generalize posT n f (r 0) = p at *
  intro i j hij hj
  rcases Nat.lt_trichotomy i p with a | rfl | a
  · rw [ins_lt a]
    rcases Nat.lt_trichotomy j p with b | rfl | b
    · rw [ins_lt b]; exact hr i j hij (by omega)
    · rw [ins_eq]; exact h2 i a
    · rw [ins_gt b]
      rcases Nat.lt_or_ge i (j - 1) with c | c
      · exact hr i _ c (by omega)
      · omega
  · rw [ins_eq, ins_gt hij]
    have := h3 (j - 1) (by omega) (by omega)
    have := has_no hn (i := j - 1) (by omega)
    omega
  · rw [ins_gt a, ins_gt (by omega)]
    exact hr _ _ (by omega) (by omega)
theorem rises_del {n p : Nat} {f : Nat → Nat → Int} (hr : Rises n f) : Rises (n - 1) (delT p f) := by
  intro i j hij hj
  rcases Nat.lt_or_ge i p with a | a
  · rw [del_lt a]
    rcases Nat.lt_or_ge j p with b | b
    · rw [del_lt b]; exact hr i j hij (by omega)
    · rw [del_ge b]; exact hr i _ (by omega) (by omega)
  · rw [del_ge a, del_ge (by omega)]; exact hr _ _ (by omega) (by omega)
theorem rises_set {n p j0 : Nat} {x : Int} {f : Nat → Nat → Int} (hr : Rises n f) (h0 : 0 ≠ j0) : Rises n (setT p j0 x f) := by
  intro i j hij hj
  rw [set_ne h0, set_ne h0]; exact hr i j hij hj
theorem has_ins {n p : Nat} {f : Nat → Nat → Int} {r : Nat → Int} (hp : p ≤ n) (x : Int) : hasId (n + 1) (insT p r f) x = true ↔ hasId n f x = true ∨ r 0 = x := by
  rw [hasId_iff, hasId_iff]
  constructor
  · rintro ⟨i, hi, e⟩
    rcases Nat.lt_trichotomy i p with a | rfl | a
    · rw [ins_lt a] at e; exact .inl ⟨i, by omega, e⟩
    · rw [ins_eq] at e; exact .inr e
    · rw [ins_gt a] at e; exact .inl ⟨i - 1, by omega, e⟩
  · rintro (⟨i, hi, e⟩ | e)
    · rcases Nat.lt_or_ge i p with a | a
      · exact ⟨i, by omega, by rw [ins_lt a]; exact e⟩
      · exact ⟨i + 1, by omega, by rw [ins_gt (by omega), Nat.add_sub_cancel]; exact e⟩
    · exact ⟨p, by omega, by rw [ins_eq]; exact e⟩
theorem has_del {n p : Nat} {f : Nat → Nat → Int} (hr : Rises n f) (hp : p < n) {x : Int} (h : hasId n f x = true) (hx : x ≠ f p 0) : hasId (n - 1) (delT p f) x = true := by
  obtain ⟨i, hi, e⟩ := hasId_iff.1 h
  refine hasId_iff.2 ?_
  rcases Nat.lt_trichotomy i p with a | rfl | a
  · exact ⟨i, by omega, by rw [del_lt a]; exact e⟩
  · exact absurd e.symm hx
  · exact ⟨i - 1, by omega, by rw [del_ge (by omega), Nat.sub_add_cancel (by omega)]; exact e⟩
theorem has_del_self {n p : Nat} {f : Nat → Nat → Int} (hr : Rises n f) (hp : p < n) : hasId (n - 1) (delT p f) (f p 0) = false := by
  rcases h : hasId (n - 1) (delT p f) (f p 0) with _ | _
  · rfl
  · obtain ⟨i, hi, e⟩ := hasId_iff.1 h
    rcases Nat.lt_or_ge i p with a | a
    · rw [del_lt a] at e; have := hr i p a hp; omega
    · rw [del_ge a] at e; have := hr p (i + 1) (by omega) (by omega); omega
theorem has_set {n p j0 : Nat} {x : Int} {f : Nat → Nat → Int} (h0 : 0 ≠ j0) (y : Int) : hasId n (setT p j0 x f) y = hasId n f y := by
  unfold hasId
  congr 1
  funext i
  rw [set_ne h0]
theorem busy_no {n : Nat} {f : Nat → Nat → Int} {id : Int} (h : busyB n f id = false) {i : Nat} (hi : i < n) : f i 1 ≠ id := fun e => by
  unfold busyB at h
  rw [List.any_eq_false] at h
  exact h i (List.mem_range.2 hi) (by simpa using e)
theorem hasG_iff {F : Fm} {g : Int} : hasG F g = true ↔ hasId F.n1 F.f1 g = true ∨ g = 0 := by
  unfold hasG; rw [Bool.or_eq_true, beq_iff_eq]
structure EdOk (k id g a b : Int) : Prop where
  i : (1 ≤ id ∧ id ≤ 1000000) ∨ (k = 8 ∧ id = 0)
  r : g = 0 ∨ (1 ≤ g ∧ g ≤ 1000000)
  c : ((k = 1 ∨ k = 6) ∧ (0 ≤ a ∧ a ≤ 1125899906842624) ∧ (1 ≤ b ∧ b ≤ 1073741824)) ∨ ((k = 2 ∨ k = 7) ∧ g = 0 ∧ a = 0 ∧ b = 0) ∨ ((k = 3 ∨ k = 8) ∧ g = 0 ∧ (0 ≤ a ∧ a ≤ 1125899906842624) ∧ b = 0) ∨ (k = 4 ∧ g = 0 ∧ (1 ≤ a ∧ a ≤ 1073741824) ∧ b = 0) ∨ (k = 5 ∧ a = 0 ∧ b = 0)
  u : k = 6 → g < id
end Go.Proofs.Ytipkbapnhgdpeaa.C
