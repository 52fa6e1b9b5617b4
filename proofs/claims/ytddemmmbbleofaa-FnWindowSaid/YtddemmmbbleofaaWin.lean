/- Windows, plain: what is left of the marks answers as all of them. No condition. -/
namespace Go.Proofs.Ytddemmmbbleofaa.C
/-- The first mark behind t, or else the capacity c. -/
def mostL (c t : Int) (l : List (Int × Int)) : Int := match l.find? (fun m => decide (m.1 > t)) with | some m => m.2 | none => c
theorem find_caps (c t : Int) : ∀ l : List (Int × Int), l.Pairwise (fun a b => a.2 > b.2) →
    (l.filter (fun m => decide (m.2 > c))).find? (fun m => decide (m.1 > t)) = (match l.find? (fun m => decide (m.1 > t)) with | some m => if m.2 > c then some m else none | none => none) := by
  intro l
  induction l with
  | nil => intro _; rfl
  | cons a l ih =>
    intro h
    have h1 := List.pairwise_cons.1 h
    by_cases hc : a.2 > c
    · by_cases ht : a.1 > t
      · simp [hc, ht]
      · simp [hc, ht]; simpa using ih h1.2
    · have hf : l.filter (fun m => decide (m.2 > c)) = [] := by
        apply List.filter_eq_nil_iff.2
        intro m hm
        have := h1.1 m hm
        simp; omega
      by_cases ht : a.1 > t
      · simp [hc, ht] at hf ⊢; intro x y hxy; have := hf x y hxy; omega
      · have := ih h1.2
        rw [hf] at this
        simp [hc, ht] at hf ⊢
        rw [← this]; simp; intro x y hxy; have := hf x y hxy; omega
theorem most_put (c t : Int) (l : List (Int × Int)) (h : l.Pairwise (fun a b => a.2 > b.2)) :
    mostL c t (l.filter (fun m => decide (m.2 > c))) = max c (mostL c t l) := by
  unfold mostL
  rw [find_caps c t l h]
  cases l.find? (fun m => decide (m.1 > t)) with
  | none => simp
  | some m => by_cases hc : m.2 > c <;> simp [hc] <;> omega
theorem most_drop (c s t : Int) (hst : s ≤ t) (l : List (Int × Int)) : mostL c t (l.dropWhile (fun m => decide (m.1 ≤ s))) = mostL c t l := by
  induction l with
  | nil => rfl
  | cons a l ih =>
    by_cases h : a.1 ≤ s
    · have ht : ¬ a.1 > t := by omega
      rw [List.dropWhile_cons_of_pos (by simpa using h), ih]
      unfold mostL
      simp [ht]
    · rw [List.dropWhile_cons_of_neg (by simpa using h)]
/-- The greatest capacity of a history's marks whose end is behind t: the last one has no end. -/
def sup (t : Int) : List (Int × Int) → Int
  | [] => 0
  | [a] => max 0 a.2
  | a :: b :: l => if b.1 - 1 > t then max a.2 (sup t (b :: l)) else sup t (b :: l)
theorem sup_nonneg (t : Int) : ∀ l, 0 ≤ sup t l
  | [] => Int.le_refl _
  | [a] => by simp [sup]; omega
  | a :: b :: l => by
    have := sup_nonneg t (b :: l)
    unfold sup
    split <;> omega
theorem most_snoc (c t : Int) (l : List (Int × Int)) (e d : Int) (he : e > t) : mostL c t (l ++ [(e, d)]) = mostL d t l := by
  unfold mostL
  rw [List.find?_append]
  cases l.find? (fun m => decide (m.1 > t)) <;> simp [he]
/-- One mark more at the end of a history: the mark that was last has an end now. -/
theorem sup_snoc (t : Int) (m : Int × Int) (hm : 0 ≤ m.2) : ∀ (l : List (Int × Int)) (z : Int × Int), (∀ x ∈ l ++ [z], 0 ≤ x.2) → m.1 - 1 > t → sup t (l ++ [z, m]) = max m.2 (sup t (l ++ [z])) := by
  intro l
  induction l with
  | nil =>
    intro z hz ht
    have := hz z (by simp)
    simp only [List.nil_append, sup]
    rw [if_pos ht]; omega
  | cons a l ih =>
    intro z hz ht
    have ih' := ih z (fun x hx => hz x (List.mem_cons_of_mem _ hx)) ht
    cases l with
    | nil =>
      simp only [List.nil_append, List.cons_append] at ih' ⊢
      show (if z.1 - 1 > t then max a.2 (sup t [z, m]) else sup t [z, m]) = max m.2 (if z.1 - 1 > t then max a.2 (sup t [z]) else sup t [z])
      rw [ih']
      split <;> omega
    | cons b l =>
      simp only [List.cons_append] at ih' ⊢
      show (if b.1 - 1 > t then max a.2 (sup t (b :: (l ++ [z, m]))) else sup t (b :: (l ++ [z, m]))) = max m.2 (if b.1 - 1 > t then max a.2 (sup t (b :: (l ++ [z]))) else sup t (b :: (l ++ [z])))
      rw [ih']
      split <;> omega
/-- The same where that end is not behind t: only the new mark and nothing older counts, if the marks rise. -/
theorem sup_old (t : Int) (m : Int × Int) (hm : 0 ≤ m.2) : ∀ (l : List (Int × Int)) (z : Int × Int), (l ++ [z, m]).Pairwise (fun a b => a.1 < b.1) → m.1 - 1 ≤ t → sup t (l ++ [z, m]) = m.2 := by
  intro l
  induction l with
  | nil =>
    intro z hz ht
    show (if m.1 - 1 > t then max z.2 (max 0 m.2) else max 0 m.2) = m.2
    rw [if_neg (by omega)]; omega
  | cons a l ih =>
    intro z hz ht
    have h1 := List.pairwise_cons.1 hz
    have ih' := ih z h1.2 ht
    cases l with
    | nil =>
      have h2 := (List.pairwise_cons.1 h1.2).1 m (by simp)
      show (if z.1 - 1 > t then max a.2 (sup t [z, m]) else sup t [z, m]) = m.2
      rw [if_neg (by omega)]
      exact ih'
    | cons b l =>
      have h2 := (List.pairwise_cons.1 h1.2).1 m (by simp)
      show (if b.1 - 1 > t then max a.2 (sup t (b :: (l ++ [z, m]))) else sup t (b :: (l ++ [z, m]))) = m.2
      rw [if_neg (by omega)]
      exact ih'
theorem most_none (c t : Int) (l : List (Int × Int)) (h : ∀ x ∈ l, x.1 ≤ t) : mostL c t l = c := by
  unfold mostL
  rw [List.find?_eq_none.2 (fun x hx => by have := h x hx; simp; omega)]
/-- The step: one mark more is put, and the window still answers as its history. -/
theorem put_law (span m1 m2 now cap : Int) (ms l : List (Int × Int)) (hd : ms.Pairwise (fun a b => a.2 > b.2)) (hc : ∀ x ∈ ms, x.2 > cap ∧ x.1 < now)
    (hinv : ∀ t, t ≥ now - span → mostL cap t ms = sup t (l ++ [(now, cap)])) (hm : m1 > now) (hm2 : 0 ≤ m2) (hpos : ∀ x ∈ l ++ [(now, cap)], 0 ≤ x.2) (hr : (l ++ [(now, cap), (m1, m2)]).Pairwise (fun a b => a.1 < b.1)) (t : Int) (ht : t ≥ m1 - span) :
    mostL m2 t (((ms ++ [(m1 - 1, cap)]).filter (fun x => decide (x.2 > m2))).dropWhile (fun x => decide (x.1 ≤ m1 - span))) = sup t (l ++ [(now, cap), (m1, m2)]) := by
  rw [most_drop _ _ _ (by omega), most_put _ _ _ (List.pairwise_append.2 ⟨hd, by simp, fun a ha b hb => by simp at hb; subst hb; exact (hc a ha).1⟩)]
  by_cases h : m1 - 1 > t
  · rw [most_snoc _ _ _ _ _ h, hinv t (by omega)]
    exact (sup_snoc t (m1, m2) hm2 l (now, cap) hpos h).symm
  · rw [sup_old t (m1, m2) hm2 l (now, cap) hr (by show m1 - 1 ≤ t; omega), most_none _ _ _ (fun x hx => by
      rcases List.mem_append.1 hx with hx | hx
      · have := (hc x hx).2; omega
      · simp at hx; subst hx; show m1 - 1 ≤ t; omega)]
    omega
/-- The marks stay in order, above the capacity and inside the span. -/
theorem put_order (span m1 m2 now cap : Int) (ms : List (Int × Int)) (hd : ms.Pairwise (fun a b => a.2 > b.2 ∧ a.1 < b.1)) (hc : ∀ x ∈ ms, x.2 > cap ∧ x.1 < now) (hm : m1 > now) :
    let out := ((ms ++ [(m1 - 1, cap)]).filter (fun x => decide (x.2 > m2))).dropWhile (fun x => decide (x.1 ≤ m1 - span))
    out.Pairwise (fun a b => a.2 > b.2 ∧ a.1 < b.1) ∧ ∀ x ∈ out, x.2 > m2 ∧ x.1 < m1 := by
  intro out
  have h0 : (ms ++ [(m1 - 1, cap)]).Pairwise (fun a b => a.2 > b.2 ∧ a.1 < b.1) := List.pairwise_append.2 ⟨hd, by simp, fun a ha b hb => by
    simp at hb; subst hb
    exact ⟨(hc a ha).1, by have := (hc a ha).2; show a.1 < m1 - 1; omega⟩⟩
  have hsub : out.Sublist ((ms ++ [(m1 - 1, cap)]).filter (fun x => decide (x.2 > m2))) := List.dropWhile_sublist _
  refine ⟨(h0.sublist List.filter_sublist).sublist hsub, fun x hx => ?_⟩
  have h1 := List.mem_filter.1 (hsub.subset hx)
  refine ⟨by simpa using h1.2, ?_⟩
  rcases List.mem_append.1 h1.1 with h | h
  · have := (hc x h).2; omega
  · simp at h; subst h; show m1 - 1 < m1; omega
/-- What is left behind the cut from before lies inside the span. -/
theorem drop_low (s : Int) : ∀ l : List (Int × Int), l.Pairwise (fun a b => a.1 < b.1) → ∀ x ∈ l.dropWhile (fun x => decide (x.1 ≤ s)), x.1 > s := by
  intro l
  induction l with
  | nil => intro _ x hx; simp at hx
  | cons a l ih =>
    intro h x hx
    have h1 := List.pairwise_cons.1 h
    by_cases ha : a.1 ≤ s
    · rw [List.dropWhile_cons_of_pos (by simpa using ha)] at hx
      exact ih h1.2 x hx
    · rw [List.dropWhile_cons_of_neg (by simpa using ha)] at hx
      rcases List.mem_cons.1 hx with rfl | hx
      · omega
      · have := h1.1 x hx; omega
/-- The reference keeps what lies behind s; the program cuts from before: the same, in order. -/
theorem drop_filter (s : Int) : ∀ l : List (Int × Int), l.Pairwise (fun a b => a.1 < b.1) → l.dropWhile (fun x => decide (x.1 ≤ s)) = l.filter (fun x => decide (x.1 > s)) := by
  intro l
  induction l with
  | nil => intro _; rfl
  | cons a l ih =>
    intro h
    have h1 := List.pairwise_cons.1 h
    by_cases ha : a.1 ≤ s
    · rw [List.dropWhile_cons_of_pos (by simpa using ha), List.filter_cons_of_neg (by simp; omega)]
      exact ih h1.2
    · rw [List.dropWhile_cons_of_neg (by simpa using ha)]
      refine (List.filter_eq_self.2 fun x hx => ?_).symm
      rcases List.mem_cons.1 hx with rfl | hx
      · simp; omega
      · have := h1.1 x hx
        simp; omega
end Go.Proofs.Ytddemmmbbleofaa.C
