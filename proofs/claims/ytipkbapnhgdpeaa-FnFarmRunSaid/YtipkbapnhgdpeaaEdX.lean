/- A right edit keeps a farm right, and is taken back by another one: plain. No condition. -/
import Derived.Test.YtipkbapnhgdpeaaEdW
namespace Go.Proofs.Ytipkbapnhgdpeaa.C
open Go.RowKit
set_option linter.unusedVariables false
set_option linter.unusedSimpArgs false
theorem EdOk.of {k id g a b : Int} (h : isEdB k id g a b = true) : EdOk k id g a b := by
  unfold isEdB edB at h
  simp only [Bool.and_eq_true, Bool.or_eq_true, beq_iff_eq, bIn_true, Bool.not_eq_true', beq_eq_false_iff_ne, decide_eq_true_eq] at h
  obtain ⟨⟨h1, h2, h3⟩, h4⟩ := h
  refine ⟨h1, h2, ?_, fun e => h4.resolve_left fun h => h e⟩
  by_cases c1 : k = 1 ∨ k = 6
  · rw [if_pos c1, Bool.and_eq_true, bIn_true, bIn_true] at h3
    exact .inl ⟨c1, h3⟩
  rw [if_neg c1] at h3
  by_cases c2 : k = 2 ∨ k = 7
  · rw [if_pos c2] at h3
    simp only [Bool.and_eq_true, beq_iff_eq] at h3
    exact .inr (.inl ⟨c2, h3⟩)
  rw [if_neg c2] at h3
  by_cases c3 : k = 3 ∨ k = 8
  · rw [if_pos c3] at h3
    simp only [Bool.and_eq_true, beq_iff_eq, bIn_true] at h3
    exact .inr (.inr (.inl ⟨c3, h3⟩))
  rw [if_neg c3] at h3
  by_cases c4 : k = 4
  · rw [if_pos c4] at h3
    simp only [Bool.and_eq_true, beq_iff_eq, bIn_true] at h3
    exact .inr (.inr (.inr (.inl ⟨c4, h3⟩)))
  rw [if_neg c4] at h3
  by_cases c5 : k = 5
  · rw [if_pos c5] at h3
    simp only [Bool.and_eq_true, beq_iff_eq] at h3
    exact .inr (.inr (.inr (.inr ⟨c5, h3⟩)))
  rw [if_neg c5] at h3
  cases h3
theorem EdOk.to {k id g a b : Int} (h : EdOk k id g a b) : isEdB k id g a b = true := by
  obtain ⟨h1, h2, h3, h4⟩ := h
  have e : ((k == 1) || ((k == 6))) = decide (k = 1 ∨ k = 6) := by simp [Bool.beq_eq_decide_eq]
  unfold isEdB edB
  simp only [Bool.and_eq_true, Bool.or_eq_true, beq_iff_eq, bIn_true, Bool.not_eq_true', beq_eq_false_iff_ne, decide_eq_true_eq]
  refine ⟨⟨h1, h2, ?_⟩, ?_⟩
  · rcases h3 with ⟨c, x⟩ | ⟨c, x⟩ | ⟨c, x⟩ | ⟨c, x⟩ | ⟨c, x⟩
    · rw [if_pos c, Bool.and_eq_true, bIn_true, bIn_true]; exact x
    · rw [if_neg (by omega), if_pos c]; simp only [Bool.and_eq_true, beq_iff_eq]; exact x
    · rw [if_neg (by omega), if_neg (by omega), if_pos c]; simp only [Bool.and_eq_true, beq_iff_eq, bIn_true]; exact x
    · rw [if_neg (by omega), if_neg (by omega), if_neg (by omega), if_pos c]; simp only [Bool.and_eq_true, beq_iff_eq, bIn_true]; exact x
    · rw [if_neg (by omega), if_neg (by omega), if_neg (by omega), if_neg (by omega), if_pos c]; simp only [Bool.and_eq_true, beq_iff_eq]; exact x
  · by_cases k6 : k = 6
    · exact .inr (h4 k6)
    · exact .inl k6
def rowGr (n : Nat) (f : Nat → Nat → Int) (r : Nat → Int) : Prop := (1 ≤ r 0 ∧ r 0 ≤ 1000000) ∧ (r 1 = 0 ∨ hasId n f (r 1) = true ∧ r 1 < r 0) ∧ (0 ≤ r 2 ∧ r 2 ≤ 1125899906842624) ∧ (1 ≤ r 3 ∧ r 3 ≤ 1073741824)
def rowMb (n : Nat) (f : Nat → Nat → Int) (r : Nat → Int) : Prop := (1 ≤ r 0 ∧ r 0 ≤ 1000000) ∧ (r 1 = 0 ∨ hasId n f (r 1) = true) ∧ (0 ≤ r 2 ∧ r 2 ≤ 1125899906842624) ∧ (1 ≤ r 3 ∧ r 3 ≤ 1073741824)
theorem set_row {p j0 : Nat} {x : Int} {f : Nat → Nat → Int} : setT p j0 x f p = fun j => if j = j0 then x else f p j := by funext j; unfold setT; simp
theorem set_all {n p j0 : Nat} {x : Int} {f : Nat → Nat → Int} {P : (Nat → Int) → Prop} (h : ∀ i, i < n → P (f i)) (hp : ∀ r, P r → P fun j => if j = j0 then x else r j) : ∀ i, i < n → P (setT p j0 x f i) := fun i hi => by
  by_cases e : i = p
  · subst e; rw [set_row]; exact hp _ (h i hi)
  · rw [set_far e]; exact h i hi
section
variable {F : Fm} {id g a b : Int}
theorem ed_join (h : Right F) (hi : 1 ≤ id ∧ id ≤ 1000000) (ha : 0 ≤ a ∧ a ≤ 1125899906842624) (hb : 1 ≤ b ∧ b ≤ 1073741824) (h1 : hasId F.n2 F.f2 id = false) (h2 : hasG F g = true) (h3 : F.n2 ≠ 60) :
    Right { F with n2 := F.n2 + 1, f2 := insT (posT F.n2 F.f2 id) (r4 id g a b) F.f2 } :=
  ⟨h.c, h.l1, by have := h.l2; show F.n2 + 1 ≤ 60; omega, h.r1, rises_ins (r := r4 id g a b) h.r2 h1, h.g, ins_all (P := rowMb F.n1 F.f1) h.m ⟨hi, (hasG_iff.1 h2).symm, ha, hb⟩ (posT_pos h.r2 id).1⟩
theorem ed_group (h : Right F) (hi : 1 ≤ id ∧ id ≤ 1000000) (ha : 0 ≤ a ∧ a ≤ 1125899906842624) (hb : 1 ≤ b ∧ b ≤ 1073741824) (hg : g < id) (h1 : hasId F.n1 F.f1 id = false) (h2 : hasG F g = true) (h3 : F.n1 ≠ 30) :
    Right { F with n1 := F.n1 + 1, f1 := insT (posT F.n1 F.f1 id) (r4 id g a b) F.f1 } := by
  have hp := (posT_pos h.r1 id).1
  have up : ∀ x, hasId F.n1 F.f1 x = true → hasId (F.n1 + 1) (insT (posT F.n1 F.f1 id) (r4 id g a b) F.f1) x = true := fun x hx => (has_ins hp x).2 (.inl hx)
  refine ⟨h.c, by have := h.l1; show F.n1 + 1 ≤ 30; omega, h.l2, rises_ins (r := r4 id g a b) h.r1 h1, h.r2, ?_, fun i hi => ?_⟩
  · refine ins_all (P := rowGr (F.n1 + 1) (insT (posT F.n1 F.f1 id) (r4 id g a b) F.f1)) (fun i hi => ?_) ⟨hi, ?_, ha, hb⟩ hp
    · have := h.g i hi
      exact ⟨this.1, this.2.1.imp (fun h => h) (fun h => ⟨up _ h.1, h.2⟩), this.2.2⟩
    · exact (hasG_iff.1 h2).symm.imp (fun h => h) fun h => ⟨up _ h, hg⟩
  · have := h.m i hi
    exact ⟨this.1, this.2.1.imp (fun h => h) (fun h => up _ h), this.2.2⟩
theorem ed_drop (h : Right F) (h1 : hasId F.n1 F.f1 id = true) (h2 : busyB F.n1 F.f1 id = false) (h3 : busyB F.n2 F.f2 id = false) :
    Right { F with n1 := F.n1 - 1, f1 := delT (posT F.n1 F.f1 id) F.f1 } := by
  obtain ⟨hp, he⟩ := has_at h.r1 h1
  have up : ∀ x, hasId F.n1 F.f1 x = true → x ≠ id → hasId (F.n1 - 1) (delT (posT F.n1 F.f1 id) F.f1) x = true := fun x hx hne => has_del h.r1 hp hx (by rw [he]; exact hne)
  refine ⟨h.c, by have := h.l1; show F.n1 - 1 ≤ 30; omega, h.l2, rises_del h.r1, h.r2, ?_, fun i hi => ?_⟩
  · refine del_all (P := rowGr (F.n1 - 1) (delT (posT F.n1 F.f1 id) F.f1)) (fun i hi => ?_)
    have := h.g i hi
    exact ⟨this.1, this.2.1.imp (fun h => h) (fun h => ⟨up _ h.1 (busy_no h2 hi), h.2⟩), this.2.2⟩
  · have := h.m i hi
    exact ⟨this.1, this.2.1.imp (fun h => h) (fun h => up _ h (busy_no h3 hi)), this.2.2⟩
theorem ed_cap0 (h : Right F) (ha : 0 ≤ a ∧ a ≤ 1125899906842624) : Right { F with cap := a } := ⟨ha, h.l1, h.l2, h.r1, h.r2, h.g, h.m⟩
theorem ed_cap (h : Right F) (ha : 0 ≤ a ∧ a ≤ 1125899906842624) (p : Nat) : Right { F with f1 := setT p 2 a F.f1 } := by
  refine ⟨h.c, h.l1, h.l2, rises_set h.r1 (by decide), h.r2, ?_, fun i hi => ?_⟩
  · refine set_all (P := rowGr F.n1 (setT p 2 a F.f1)) (fun i hi => ?_) (fun r hr => ?_)
    · have := h.g i hi
      unfold rowGr
      rw [has_set (by decide)]
      exact this
    · exact ⟨hr.1, hr.2.1, ha, hr.2.2.2⟩
  · have := h.m i hi
    rw [has_set (by decide)]
    exact this
theorem ed_leave (h : Right F) (p : Nat) : Right { F with n2 := F.n2 - 1, f2 := delT p F.f2 } :=
  ⟨h.c, h.l1, by have := h.l2; show F.n2 - 1 ≤ 60; omega, h.r1, rises_del h.r2, h.g, del_all (P := rowMb F.n1 F.f1) h.m⟩
theorem ed_want (h : Right F) (ha : 0 ≤ a ∧ a ≤ 1125899906842624) (p : Nat) : Right { F with f2 := setT p 2 a F.f2 } :=
  ⟨h.c, h.l1, h.l2, h.r1, rises_set h.r2 (by decide), h.g, set_all (P := rowMb F.n1 F.f1) h.m fun r hr => ⟨hr.1, hr.2.1, ha, hr.2.2.2⟩⟩
theorem ed_weight (h : Right F) (ha : 1 ≤ a ∧ a ≤ 1073741824) (p : Nat) : Right { F with f2 := setT p 3 a F.f2 } :=
  ⟨h.c, h.l1, h.l2, h.r1, rises_set h.r2 (by decide), h.g, set_all (P := rowMb F.n1 F.f1) h.m fun r hr => ⟨hr.1, hr.2.1, hr.2.2.1, ha⟩⟩
theorem ed_move (h : Right F) (hg : hasG F g = true) (p : Nat) : Right { F with f2 := setT p 1 g F.f2 } :=
  ⟨h.c, h.l1, h.l2, h.r1, rises_set h.r2 (by decide), h.g, set_all (P := rowMb F.n1 F.f1) h.m fun r hr => ⟨hr.1, (hasG_iff.1 hg).symm, hr.2.2.1, hr.2.2.2⟩⟩
end
/-- The kinds of edits, one by one, with what holds when they go. -/
inductive EdGo (F : Fm) : Int → Int → Int → Int → Int → Fm → Prop
  | join {id g a b : Int} (hi : 1 ≤ id ∧ id ≤ 1000000) (hr : g = 0 ∨ (1 ≤ g ∧ g ≤ 1000000)) (ha : 0 ≤ a ∧ a ≤ 1125899906842624) (hb : 1 ≤ b ∧ b ≤ 1073741824) (h1 : hasId F.n2 F.f2 id = false) (h2 : hasG F g = true) (h3 : F.n2 ≠ 60) : EdGo F 1 id g a b { F with n2 := F.n2 + 1, f2 := insT (posT F.n2 F.f2 id) (r4 id g a b) F.f2 }
  | group {id g a b : Int} (hi : 1 ≤ id ∧ id ≤ 1000000) (hr : g = 0 ∨ (1 ≤ g ∧ g ≤ 1000000)) (ha : 0 ≤ a ∧ a ≤ 1125899906842624) (hb : 1 ≤ b ∧ b ≤ 1073741824) (hg : g < id) (h1 : hasId F.n1 F.f1 id = false) (h2 : hasG F g = true) (h3 : F.n1 ≠ 30) : EdGo F 6 id g a b { F with n1 := F.n1 + 1, f1 := insT (posT F.n1 F.f1 id) (r4 id g a b) F.f1 }
  | drop {id : Int} (hi : 1 ≤ id ∧ id ≤ 1000000) (h1 : hasId F.n1 F.f1 id = true) (h2 : busyB F.n1 F.f1 id = false) (h3 : busyB F.n2 F.f2 id = false) : EdGo F 7 id 0 0 0 { F with n1 := F.n1 - 1, f1 := delT (posT F.n1 F.f1 id) F.f1 }
  | cap0 {a : Int} (ha : 0 ≤ a ∧ a ≤ 1125899906842624) : EdGo F 8 0 0 a 0 { F with cap := a }
  | cap {id a : Int} (hi : 1 ≤ id ∧ id ≤ 1000000) (ha : 0 ≤ a ∧ a ≤ 1125899906842624) (h1 : hasId F.n1 F.f1 id = true) : EdGo F 8 id 0 a 0 { F with f1 := setT (posT F.n1 F.f1 id) 2 a F.f1 }
  | leave {id : Int} (hi : 1 ≤ id ∧ id ≤ 1000000) (h1 : hasId F.n2 F.f2 id = true) : EdGo F 2 id 0 0 0 { F with n2 := F.n2 - 1, f2 := delT (posT F.n2 F.f2 id) F.f2 }
  | want {id a : Int} (hi : 1 ≤ id ∧ id ≤ 1000000) (ha : 0 ≤ a ∧ a ≤ 1125899906842624) (h1 : hasId F.n2 F.f2 id = true) : EdGo F 3 id 0 a 0 { F with f2 := setT (posT F.n2 F.f2 id) 2 a F.f2 }
  | weight {id a : Int} (hi : 1 ≤ id ∧ id ≤ 1000000) (ha : 1 ≤ a ∧ a ≤ 1073741824) (h1 : hasId F.n2 F.f2 id = true) : EdGo F 4 id 0 a 0 { F with f2 := setT (posT F.n2 F.f2 id) 3 a F.f2 }
  | move {id g : Int} (hi : 1 ≤ id ∧ id ≤ 1000000) (hr : g = 0 ∨ (1 ≤ g ∧ g ≤ 1000000)) (h1 : hasId F.n2 F.f2 id = true) (h2 : hasG F g = true) : EdGo F 5 id g 0 0 { F with f2 := setT (posT F.n2 F.f2 id) 1 g F.f2 }
theorem nf {b : Bool} (h : ¬ b = false) : b = true := by cases b; exact absurd rfl h; rfl
theorem nt {b : Bool} (h : ¬ b = true) : b = false := by cases b; rfl; exact absurd rfl h
theorem EdGo.of {F : Fm} {k id g a b : Int} (h : EdOk k id g a b) (hc : edC F k id g a b = 0) : EdGo F k id g a b (edF F k id g a b) := by
  obtain ⟨h1, h2, h3, h4⟩ := h
  rcases h3 with ⟨rfl | rfl, x⟩ | ⟨rfl | rfl, rfl, rfl, rfl⟩ | ⟨rfl | rfl, rfl, x, rfl⟩ | ⟨rfl, rfl, x, rfl⟩ | ⟨rfl, rfl, rfl⟩
  · have e : edC F 1 id g a b = if hasId F.n2 F.f2 id = true then 5 else if hasG F g = false then 4 else if F.n2 = 60 then 6 else 0 := rfl
    rw [e] at hc
    by_cases c1 : hasId F.n2 F.f2 id = true
    · rw [if_pos c1] at hc; omega
    rw [if_neg c1] at hc
    by_cases c2 : hasG F g = false
    · rw [if_pos c2] at hc; omega
    rw [if_neg c2] at hc
    by_cases c3 : F.n2 = 60
    · rw [if_pos c3] at hc; omega
    exact .join (by omega) h2 x.1 x.2 (nt c1) (nf c2) c3
  · have e : edC F 6 id g a b = if hasId F.n1 F.f1 id = true then 5 else if hasG F g = false then 4 else if F.n1 = 30 then 6 else 0 := rfl
    rw [e] at hc
    by_cases c1 : hasId F.n1 F.f1 id = true
    · rw [if_pos c1] at hc; omega
    rw [if_neg c1] at hc
    by_cases c2 : hasG F g = false
    · rw [if_pos c2] at hc; omega
    rw [if_neg c2] at hc
    by_cases c3 : F.n1 = 30
    · rw [if_pos c3] at hc; omega
    exact .group (by omega) h2 x.1 x.2 (h4 rfl) (nt c1) (nf c2) c3
  · have e : edC F 2 id 0 0 0 = if hasId F.n2 F.f2 id = false then 4 else 0 := rfl
    rw [e] at hc
    by_cases c1 : hasId F.n2 F.f2 id = false
    · rw [if_pos c1] at hc; omega
    exact .leave (by omega) (nf c1)
  · have e : edC F 7 id 0 0 0 = if hasId F.n1 F.f1 id = false then 4 else if (busyB F.n1 F.f1 id || busyB F.n2 F.f2 id) = true then 9 else 0 := rfl
    rw [e] at hc
    by_cases c1 : hasId F.n1 F.f1 id = false
    · rw [if_pos c1] at hc; omega
    rw [if_neg c1] at hc
    by_cases c2 : (busyB F.n1 F.f1 id || busyB F.n2 F.f2 id) = true
    · rw [if_pos c2] at hc; omega
    have := nt c2
    rw [Bool.or_eq_false_iff] at this
    exact .drop (by omega) (nf c1) this.1 this.2
  · have e : edC F 3 id 0 a 0 = if hasId F.n2 F.f2 id = false then 4 else 0 := rfl
    rw [e] at hc
    by_cases c1 : hasId F.n2 F.f2 id = false
    · rw [if_pos c1] at hc; omega
    exact .want (by omega) x (nf c1)
  · have e : edC F 8 id 0 a 0 = if id = 0 then 0 else if hasId F.n1 F.f1 id = false then 4 else 0 := rfl
    have e2 : edF F 8 id 0 a 0 = if id = 0 then { F with cap := a } else { F with f1 := setT (posT F.n1 F.f1 id) 2 a F.f1 } := rfl
    rw [e] at hc
    rw [e2]
    by_cases c0 : id = 0
    · subst c0; rw [if_pos rfl]; exact .cap0 x
    rw [if_neg c0] at hc ⊢
    by_cases c1 : hasId F.n1 F.f1 id = false
    · rw [if_pos c1] at hc; omega
    exact .cap (by omega) x (nf c1)
  · have e : edC F 4 id 0 a 0 = if hasId F.n2 F.f2 id = false then 4 else 0 := rfl
    rw [e] at hc
    by_cases c1 : hasId F.n2 F.f2 id = false
    · rw [if_pos c1] at hc; omega
    exact .weight (by omega) x (nf c1)
  · have e : edC F 5 id g 0 0 = if hasId F.n2 F.f2 id = false then 4 else if hasG F g = false then 4 else 0 := rfl
    rw [e] at hc
    by_cases c1 : hasId F.n2 F.f2 id = false
    · rw [if_pos c1] at hc; omega
    rw [if_neg c1] at hc
    by_cases c2 : hasG F g = false
    · rw [if_pos c2] at hc; omega
    exact .move (by omega) h2 (nf c1) (nf c2)
theorem EdGo.right {F G : Fm} {k id g a b : Int} (h : Right F) (e : EdGo F k id g a b G) : Right G := by
  cases e with
  | join hi hr ha hb h1 h2 h3 => exact ed_join h hi ha hb h1 h2 h3
  | group hi hr ha hb hg h1 h2 h3 => exact ed_group h hi ha hb hg h1 h2 h3
  | drop hi h1 h2 h3 => exact ed_drop h h1 h2 h3
  | cap0 ha => exact ed_cap0 h ha
  | cap hi ha h1 => exact ed_cap h ha _
  | leave hi h1 => exact ed_leave h _
  | want hi ha h1 => exact ed_want h ha _
  | weight hi ha h1 => exact ed_weight h ha _
  | move hi hr h1 h2 => exact ed_move h h2 _
end Go.Proofs.Ytipkbapnhgdpeaa.C
