/- The edit that FarmBack answers takes an edit back: plain; two farms that are the same: lwFarm. No condition. -/
import Derived.Test.YtipkbapnhgdpeaaLFarmF
import Derived.Test.YtipkbapnhgdpeaaEdX
namespace Go.Proofs.Ytipkbapnhgdpeaa.C
open Go.RowKit
set_option maxRecDepth 100000
set_option linter.unusedVariables false
set_option linter.unusedSimpArgs false
attribute [local go_sem ↓] Go.wp_at_zero Go.wp_at_succ
def SameT (n : Nat) (f f' : Nat → Nat → Int) : Prop := ∀ i j, i < n → j < 4 → f' i j = f i j
/-- The same farm. -/
structure SameF (F G : Fm) : Prop where
  cap : G.cap = F.cap
  l1 : G.n1 = F.n1
  l2 : G.n2 = F.n2
  t1 : SameT F.n1 F.f1 G.f1
  t2 : SameT F.n2 F.f2 G.f2
theorem SameT.refl (n : Nat) (f : Nat → Nat → Int) : SameT n f f := fun _ _ _ _ => rfl
theorem same_del_ins (n p : Nat) (r : Nat → Int) (f : Nat → Nat → Int) : SameT n f (delT p (insT p r f)) := fun i j hi hj => by
  by_cases h : i < p
  · rw [del_lt h, ins_lt h]
  · rw [del_ge (by omega), ins_gt (by omega), Nat.add_sub_cancel]
theorem r4_row (r : Nat → Int) {j : Nat} (hj : j < 4) : r4 (r 0) (r 1) (r 2) (r 3) j = r j := by
  match j, hj with
  | 0, _ => rfl
  | 1, _ => rfl
  | 2, _ => rfl
  | 3, _ => rfl
theorem same_ins_del {n p : Nat} {f : Nat → Nat → Int} {id : Int} (he : f p 0 = id) : SameT n f (insT p (r4 id (f p 1) (f p 2) (f p 3)) (delT p f)) := fun i j hi hj => by
  subst he
  by_cases h : i < p
  · rw [ins_lt h, del_lt h]
  · by_cases h2 : i = p
    · subst h2; rw [ins_eq, r4_row _ hj]
    · rw [ins_gt (by omega), del_ge (by omega), show i - 1 + 1 = i by omega]
theorem same_set (n p j0 : Nat) (x : Int) (f : Nat → Nat → Int) : SameT n f (setT p j0 (f p j0) (setT p j0 x f)) := fun i j hi hj => by
  unfold setT
  by_cases h : i = p ∧ j = j0
  · rw [if_pos h, h.1, h.2]
  · rw [if_neg h, if_neg h]
theorem pos_ins {n : Nat} {f : Nat → Nat → Int} {r : Nat → Int} (hr : Rises n f) (hn : hasId n f (r 0) = false) : posT (n + 1) (insT (posT n f (r 0)) r f) (r 0) = posT n f (r 0) := by
  have h1 := rises_ins hr hn
  have h2 := Pos.of_eq h1 (p := posT n f (r 0)) (by have := (posT_pos hr (r 0)).1; omega)
  rw [ins_eq] at h2
  exact (h2.eq h1).symm
theorem pos_del {n : Nat} {f : Nat → Nat → Int} {id : Int} (hr : Rises n f) (h : hasId n f id = true) : posT (n - 1) (delT (posT n f id) f) id = posT n f id := by
  obtain ⟨hp, he⟩ := has_at hr h
  have h0 := posT_pos hr id
  have h1 : Pos (n - 1) (delT (posT n f id) f) id (posT n f id) := ⟨by omega, fun i hi => by rw [del_lt hi]; exact h0.2.1 i hi, fun i h1 h2 => by rw [del_ge h1]; exact h0.2.2 (i + 1) (by omega) (by omega)⟩
  exact (h1.eq (rises_del hr)).symm
theorem pos_set {n p j0 : Nat} {x : Int} {f : Nat → Nat → Int} {id : Int} (hr : Rises n f) (hj : 0 ≠ j0) : posT n (setT p j0 x f) id = posT n f id := by
  have h0 := posT_pos hr id
  have h1 : Pos n (setT p j0 x f) id (posT n f id) := ⟨h0.1, fun i hi => by rw [set_ne hj]; exact h0.2.1 i hi, fun i h1 h2 => by rw [set_ne hj]; exact h0.2.2 i h1 h2⟩
  exact (h1.eq (rises_set hr hj)).symm
/-- An edit that goes is right, and has no code. -/
theorem EdGo.ok {F G : Fm} {k id g a b : Int} (e : EdGo F k id g a b G) : EdOk k id g a b ∧ edC F k id g a b = 0 ∧ edF F k id g a b = G := by
  cases e with
  | join hi hr ha hb h1 h2 h3 => exact ⟨⟨.inl hi, hr, .inl ⟨.inl rfl, ha, hb⟩, by omega⟩, by simp [edC, h1, h2, h3], rfl⟩
  | group hi hr ha hb hg h1 h2 h3 => exact ⟨⟨.inl hi, hr, .inl ⟨.inr rfl, ha, hb⟩, fun _ => hg⟩, by simp [edC, h1, h2, h3], rfl⟩
  | drop hi h1 h2 h3 => exact ⟨⟨.inl hi, .inl rfl, .inr (.inl ⟨.inr rfl, rfl, rfl, rfl⟩), by omega⟩, by simp [edC, h1, h2, h3], rfl⟩
  | cap0 ha => exact ⟨⟨.inr ⟨rfl, rfl⟩, .inl rfl, .inr (.inr (.inl ⟨.inr rfl, rfl, ha, rfl⟩)), by omega⟩, rfl, rfl⟩
  | cap hi ha h1 => exact ⟨⟨.inl hi, .inl rfl, .inr (.inr (.inl ⟨.inr rfl, rfl, ha, rfl⟩)), by omega⟩, by simp [edC, h1], by unfold edF; rw [if_neg (by omega), if_neg (by omega), if_neg (by omega), if_pos rfl, if_neg (by omega)]⟩
  | leave hi h1 => exact ⟨⟨.inl hi, .inl rfl, .inr (.inl ⟨.inl rfl, rfl, rfl, rfl⟩), by omega⟩, by simp [edC, h1], rfl⟩
  | want hi ha h1 => exact ⟨⟨.inl hi, .inl rfl, .inr (.inr (.inl ⟨.inl rfl, rfl, ha, rfl⟩)), by omega⟩, by simp [edC, h1], rfl⟩
  | weight hi ha h1 => exact ⟨⟨.inl hi, .inl rfl, .inr (.inr (.inr (.inl ⟨rfl, rfl, ha, rfl⟩))), by omega⟩, by simp [edC, h1], rfl⟩
  | move hi hr h1 h2 => exact ⟨⟨.inl hi, hr, .inr (.inr (.inr (.inr ⟨rfl, rfl, rfl⟩))), by omega⟩, by simp [edC, h1, h2], rfl⟩
theorem EdGo.fe {F G : Fm} {k id g a b : Int} (h : Right F) (e : EdGo F k id g a b G) : feC F k id g a b = 0 ∧ feF F k id g a b = G := by
  obtain ⟨h1, h2, h3⟩ := e.ok
  have hc : feC F k id g a b = 0 := by unfold feC; rw [if_pos h.to, if_pos h1.to, h2]
  exact ⟨hc, by unfold feF; rw [if_pos hc, h3]⟩
theorem has_set0 {n p j0 : Nat} {x : Int} {f : Nat → Nat → Int} {y : Int} (h0 : 0 ≠ j0) (h : hasId n f y = true) : hasId n (setT p j0 x f) y = true := by rw [has_set h0]; exact h
theorem busy_of {n : Nat} {f : Nat → Nat → Int} {id : Int} (h : ∀ i, i < n → f i 1 ≠ id) : busyB n f id = false := by
  unfold busyB
  rw [List.any_eq_false]
  intro i hi
  simpa using h i (List.mem_range.1 hi)
section
variable {F : Fm} {id g a b : Int}
theorem bk_join (h : Right F) (hi : 1 ≤ id ∧ id ≤ 1000000) (h1 : hasId F.n2 F.f2 id = false) :
    ∃ G', EdGo { F with n2 := F.n2 + 1, f2 := insT (posT F.n2 F.f2 id) (r4 id g a b) F.f2 } 2 id 0 0 0 G' ∧ SameF F G' := by
  have hp := pos_ins (r := r4 id g a b) h.r2 h1
  refine ⟨_, .leave hi ?_, ⟨rfl, rfl, rfl, SameT.refl _ _, ?_⟩⟩
  · exact (has_ins (posT_pos h.r2 id).1 id).2 (.inr rfl)
  · show SameT F.n2 F.f2 (delT (posT (F.n2 + 1) (insT (posT F.n2 F.f2 id) (r4 id g a b) F.f2) id) (insT (posT F.n2 F.f2 id) (r4 id g a b) F.f2))
    rw [show posT (F.n2 + 1) (insT (posT F.n2 F.f2 id) (r4 id g a b) F.f2) id = posT F.n2 F.f2 id from hp]
    exact same_del_ins _ _ _ _
theorem bk_group (h : Right F) (hi : 1 ≤ id ∧ id ≤ 1000000) (hg : g < id) (h1 : hasId F.n1 F.f1 id = false) :
    ∃ G', EdGo { F with n1 := F.n1 + 1, f1 := insT (posT F.n1 F.f1 id) (r4 id g a b) F.f1 } 7 id 0 0 0 G' ∧ SameF F G' := by
  have hp := pos_ins (r := r4 id g a b) h.r1 h1
  have hle := (posT_pos h.r1 id).1
  refine ⟨_, .drop hi ?_ ?_ ?_, ⟨rfl, rfl, rfl, ?_, SameT.refl _ _⟩⟩
  · exact (has_ins hle id).2 (.inr rfl)
  · refine busy_of (ins_all (P := fun r => r 1 ≠ id) (fun i hi' e => ?_) (by show g ≠ id; omega) hle)
    rcases (h.g i hi').2.1 with h0 | h0
    · omega
    · rw [e, h1] at h0; cases h0.1
  · refine busy_of fun i hi' e => ?_
    have e : F.f2 i 1 = id := e
    rcases (h.m i hi').2.1 with h0 | h0
    · omega
    · rw [e, h1] at h0; cases h0
  · show SameT F.n1 F.f1 (delT (posT (F.n1 + 1) (insT (posT F.n1 F.f1 id) (r4 id g a b) F.f1) id) (insT (posT F.n1 F.f1 id) (r4 id g a b) F.f1))
    rw [show posT (F.n1 + 1) (insT (posT F.n1 F.f1 id) (r4 id g a b) F.f1) id = posT F.n1 F.f1 id from hp]
    exact same_del_ins _ _ _ _
theorem hasG_zero {F : Fm} : hasG F 0 = true := hasG_iff.2 (.inr rfl)
theorem bk_drop (h : Right F) (hi : 1 ≤ id ∧ id ≤ 1000000) (h1 : hasId F.n1 F.f1 id = true) (h2 : busyB F.n1 F.f1 id = false) :
    ∃ G', EdGo { F with n1 := F.n1 - 1, f1 := delT (posT F.n1 F.f1 id) F.f1 } 6 id (F.f1 (posT F.n1 F.f1 id) 1) (F.f1 (posT F.n1 F.f1 id) 2) (F.f1 (posT F.n1 F.f1 id) 3) G' ∧ SameF F G' := by
  obtain ⟨hp, he⟩ := has_at h.r1 h1
  obtain ⟨g0, g1, g2, g3⟩ := h.g _ hp
  have hpd := pos_del h.r1 h1
  have hl := h.l1
  refine ⟨_, .group hi ?_ g2 g3 ?_ ?_ ?_ ?_, ⟨rfl, ?_, rfl, ?_, SameT.refl _ _⟩⟩
  · rcases g1 with g1 | ⟨g1, _⟩
    · exact .inl g1
    · obtain ⟨q, e⟩ := has_at h.r1 g1
      exact .inr (by have := (h.g _ q).1; rw [e] at this; exact this)
  · rcases g1 with g1 | ⟨_, g1⟩
    · rw [g1]; omega
    · rw [he] at g1; exact g1
  · show hasId (F.n1 - 1) (delT (posT F.n1 F.f1 id) F.f1) id = false
    have := has_del_self h.r1 hp
    rwa [he] at this
  · rcases g1 with g1 | ⟨g1, _⟩
    · rw [g1]; exact hasG_zero
    · exact hasG_iff.2 (.inl (has_del h.r1 hp g1 (by rw [he]; exact busy_no h2 hp)))
  · show F.n1 - 1 ≠ 30
    omega
  · show F.n1 - 1 + 1 = F.n1
    omega
  · show SameT F.n1 F.f1 (insT (posT (F.n1 - 1) (delT (posT F.n1 F.f1 id) F.f1) id) (r4 id _ _ _) (delT (posT F.n1 F.f1 id) F.f1))
    rw [hpd]
    exact same_ins_del he
theorem bk_leave (h : Right F) (hi : 1 ≤ id ∧ id ≤ 1000000) (h1 : hasId F.n2 F.f2 id = true) :
    ∃ G', EdGo { F with n2 := F.n2 - 1, f2 := delT (posT F.n2 F.f2 id) F.f2 } 1 id (F.f2 (posT F.n2 F.f2 id) 1) (F.f2 (posT F.n2 F.f2 id) 2) (F.f2 (posT F.n2 F.f2 id) 3) G' ∧ SameF F G' := by
  obtain ⟨hp, he⟩ := has_at h.r2 h1
  obtain ⟨g0, g1, g2, g3⟩ := h.m _ hp
  have hpd := pos_del h.r2 h1
  have hl := h.l2
  refine ⟨_, .join hi ?_ g2 g3 ?_ ?_ ?_, ⟨rfl, rfl, ?_, SameT.refl _ _, ?_⟩⟩
  · rcases g1 with g1 | g1
    · exact .inl g1
    · obtain ⟨q, e⟩ := has_at h.r1 g1
      exact .inr (by have := (h.g _ q).1; rw [e] at this; exact this)
  · show hasId (F.n2 - 1) (delT (posT F.n2 F.f2 id) F.f2) id = false
    have := has_del_self h.r2 hp
    rwa [he] at this
  · exact hasG_iff.2 g1.symm
  · show F.n2 - 1 ≠ 60
    omega
  · show F.n2 - 1 + 1 = F.n2
    omega
  · show SameT F.n2 F.f2 (insT (posT (F.n2 - 1) (delT (posT F.n2 F.f2 id) F.f2) id) (r4 id _ _ _) (delT (posT F.n2 F.f2 id) F.f2))
    rw [hpd]
    exact same_ins_del he
theorem bk_cap0 (h : Right F) : ∃ G', EdGo { F with cap := a } 8 0 0 F.cap 0 G' ∧ SameF F G' := ⟨_, .cap0 h.c, ⟨rfl, rfl, rfl, SameT.refl _ _, SameT.refl _ _⟩⟩
theorem bk_cap (h : Right F) (hi : 1 ≤ id ∧ id ≤ 1000000) (h1 : hasId F.n1 F.f1 id = true) :
    ∃ G', EdGo { F with f1 := setT (posT F.n1 F.f1 id) 2 a F.f1 } 8 id 0 (F.f1 (posT F.n1 F.f1 id) 2) 0 G' ∧ SameF F G' := by
  obtain ⟨hp, he⟩ := has_at h.r1 h1
  refine ⟨_, .cap hi (h.g _ hp).2.2.1 (has_set0 (by decide) h1), ⟨rfl, rfl, rfl, ?_, SameT.refl _ _⟩⟩
  show SameT F.n1 F.f1 (setT (posT F.n1 (setT (posT F.n1 F.f1 id) 2 a F.f1) id) 2 _ _)
  rw [pos_set h.r1 (by decide)]
  exact same_set _ _ _ _ _
theorem bk_want (h : Right F) (hi : 1 ≤ id ∧ id ≤ 1000000) (h1 : hasId F.n2 F.f2 id = true) :
    ∃ G', EdGo { F with f2 := setT (posT F.n2 F.f2 id) 2 a F.f2 } 3 id 0 (F.f2 (posT F.n2 F.f2 id) 2) 0 G' ∧ SameF F G' := by
  obtain ⟨hp, he⟩ := has_at h.r2 h1
  refine ⟨_, .want hi (h.m _ hp).2.2.1 (has_set0 (by decide) h1), ⟨rfl, rfl, rfl, SameT.refl _ _, ?_⟩⟩
  show SameT F.n2 F.f2 (setT (posT F.n2 (setT (posT F.n2 F.f2 id) 2 a F.f2) id) 2 _ _)
  rw [pos_set h.r2 (by decide)]
  exact same_set _ _ _ _ _
theorem bk_weight (h : Right F) (hi : 1 ≤ id ∧ id ≤ 1000000) (h1 : hasId F.n2 F.f2 id = true) :
    ∃ G', EdGo { F with f2 := setT (posT F.n2 F.f2 id) 3 a F.f2 } 4 id 0 (F.f2 (posT F.n2 F.f2 id) 3) 0 G' ∧ SameF F G' := by
  obtain ⟨hp, he⟩ := has_at h.r2 h1
  refine ⟨_, .weight hi (h.m _ hp).2.2.2 (has_set0 (by decide) h1), ⟨rfl, rfl, rfl, SameT.refl _ _, ?_⟩⟩
  show SameT F.n2 F.f2 (setT (posT F.n2 (setT (posT F.n2 F.f2 id) 3 a F.f2) id) 3 _ _)
  rw [pos_set h.r2 (by decide)]
  exact same_set _ _ _ _ _
theorem bk_move (h : Right F) (hi : 1 ≤ id ∧ id ≤ 1000000) (h1 : hasId F.n2 F.f2 id = true) :
    ∃ G', EdGo { F with f2 := setT (posT F.n2 F.f2 id) 1 g F.f2 } 5 id (F.f2 (posT F.n2 F.f2 id) 1) 0 0 G' ∧ SameF F G' := by
  obtain ⟨hp, he⟩ := has_at h.r2 h1
  refine ⟨_, .move hi ?_ (has_set0 (by decide) h1) (hasG_iff.2 (h.m _ hp).2.1.symm), ⟨rfl, rfl, rfl, SameT.refl _ _, ?_⟩⟩
  · rcases (h.m _ hp).2.1 with g1 | g1
    · exact .inl g1
    · obtain ⟨q, e⟩ := has_at h.r1 g1
      exact .inr (by have := (h.g _ q).1; rw [e] at this; exact this)
  show SameT F.n2 F.f2 (setT (posT F.n2 (setT (posT F.n2 F.f2 id) 1 g F.f2) id) 1 _ _)
  rw [pos_set h.r2 (by decide)]
  exact same_set _ _ _ _ _
end
theorem Tab.same {w : World} {A : Option Addr} {n : Nat} {f f' : Nat → Nat → Int} (h : Tab 4 w A n f') (e : SameT n f f') : Tab 4 w A n f := by
  rcases h with h | ⟨g, off, rfl, hg, hx⟩
  · exact .inl h
  · exact .inr ⟨g, off, rfl, hg, fun i j hi hj => by rw [hx i j hi hj, e i j hi hj]⟩
set_option maxHeartbeats 4000000 in
theorem l_lwFarm (F : Fm) (A1 A2 B1 B2 : Option Addr) (c1 c2 d1 d2 : Nat) (w : World) (hA : FarmAt w A1 F.n1 F.f1 A2 F.n2 F.f2) (hB : FarmAt w B1 F.n1 F.f1 B2 F.n2 F.f2) (k1 : F.n1 ≤ 3000) (k2 : F.n2 ≤ 3000) :
    Calls Try.prog 31 #[.agg #[.int .i64 F.cap, .slice A1 F.n1 c1, .slice A2 F.n2 c2], .agg #[.int .i64 F.cap, .slice B1 F.n1 d1, .slice B2 F.n2 d2]] w fun e w' => e = .returned (.bool true) ∧ Below w.heap.size w w' := by
  have hu1 := Try.underlying114
  have hu2 := Try.underlying91
  have S1 := Lib.hid (show FarmAt ((w.alloc (.cells #[.int .i64 F.cap, .slice A1 F.n1 c1, .slice A2 F.n2 c2] 34)).alloc (.cells #[.int .i64 F.cap, .slice B1 F.n1 d1, .slice B2 F.n2 d2] 34)) A1 F.n1 F.f1 A2 F.n2 F.f2 from (hA.keep ((Below.refl _ _).alloc (Nat.le_refl _) _)).keep ((Below.refl _ _).alloc (Nat.le_refl _) _))
  have S2 := Lib.hid (show FarmAt ((w.alloc (.cells #[.int .i64 F.cap, .slice A1 F.n1 c1, .slice A2 F.n2 c2] 34)).alloc (.cells #[.int .i64 F.cap, .slice B1 F.n1 d1, .slice B2 F.n2 d2] 34)) B1 F.n1 F.f1 B2 F.n2 F.f2 from (hB.keep ((Below.refl _ _).alloc (Nat.le_refl _) _)).keep ((Below.refl _ _).alloc (Nat.le_refl _) _))
  have QA := Lib.hid ((Blk.new (w := w) (B := 0) (Nat.zero_le _) #[.int .i64 F.cap, .slice A1 F.n1 c1, .slice A2 F.n2 c2] 34).keep ((Below.refl _ _).alloc (Nat.le_refl _) (.cells #[.int .i64 F.cap, .slice B1 F.n1 d1, .slice B2 F.n2 d2] 34)))
  have hq := Blk.new (w := w.alloc (.cells #[.int .i64 F.cap, .slice A1 F.n1 c1, .slice A2 F.n2 c2] 34)) (B := 0) (Nat.zero_le _) #[.int .i64 F.cap, .slice B1 F.n1 d1, .slice B2 F.n2 d2] 34
  simp only [World.size_alloc] at hq
  have QB := Lib.hid hq
  have HB := Lib.hid (((Below.refl w.heap.size w).alloc (Nat.le_refl _) (.cells #[.int .i64 F.cap, .slice A1 F.n1 c1, .slice A2 F.n2 c2] 34)).alloc (by simp) (.cells #[.int .i64 F.cap, .slice B1 F.n1 d1, .slice B2 F.n2 d2] 34))
  clear hA hB hq
  go_enter Try.func31, Try.ntmps31
  go_upto_region 1 with fail
  generalize (w.alloc (.cells #[.int .i64 F.cap, .slice A1 F.n1 c1, .slice A2 F.n2 c2] 34)).alloc (.cells #[.int .i64 F.cap, .slice B1 F.n1 d1, .slice B2 F.n2 d2] 34) = w1 at *
  obtain ⟨B, hBB⟩ : ∃ B, w.heap.size = B := ⟨_, rfl⟩
  rw [hBB] at QA QB HB ⊢
  have HBB := Lib.hid hBB
  have HZ := Lib.hid (show B ≤ w1.heap.size by have := HB.out.size; omega)
  clear hBB
  have a0 := (QA.out.cell 0).trans rfl
  have a1 := (QA.out.cell 1).trans rfl
  have a2 := (QA.out.cell 2).trans rfl
  have b0 := (QB.out.cell 0).trans rfl
  have b1 := (QB.out.cell 1).trans rfl
  have b2 := (QB.out.cell 2).trans rfl
  go_upto_region 3 with fail
  have KB := Lib.hid (Below.refl w1.heap.size w1)
  clear a0 a1 a2 b0 b1 b2
  go_wp2_with fail
  go_loopw [5] (fun v5 wr => ∃ i : Nat, i ≤ F.n1 ∧ v5 = .int .i64 i ∧ Hid (Below w1.heap.size w1 wr)) (fun v5 _ => F.n1 - (intOf v5).toNat)
  case atStart => exact ⟨0, by omega, rfl, KB⟩
  case round =>
    obtain ⟨i, hi, rfl, RB⟩ := hrel
    have a1 := ((QA.out.keep RB.out).cell 1).trans rfl
    have b1 := ((QB.out.keep RB.out).cell 1).trans rfl
    by_cases hlt : i < F.n1
    · have t1 : decide ((i : Int) < F.n1) = true := decide_eq_true (by omega)
      obtain ⟨ga, oa, rfl, -, xa⟩ := (S1.out.keep RB.out).g.at (by omega)
      obtain ⟨gb, ob, rfl, -, xb⟩ := (S2.out.keep RB.out).g.at (by omega)
      have x0 := xa i 0 hlt (by decide)
      have x1 := xa i 1 hlt (by decide)
      have x2 := xa i 2 hlt (by decide)
      have x3 := xa i 3 hlt (by decide)
      have y0 := xb i 0 hlt (by decide)
      have y1 := xb i 1 hlt (by decide)
      have y2 := xb i 2 hlt (by decide)
      have y3 := xb i 3 hlt (by decide)
      rw [Nat.add_zero] at x0 y0
      clear xa xb
      have hp0 : (0 : Int) ≤ (i : Int) := by omega
      have hp1 : (i : Int) < (F.n1 : Int) := by omega
      go_wp2_with fail
      go_quiet (fail)
      go_wp2_with fail
      go_roundw
      case rel => exact ⟨i + 1, by omega, by go_num, Lib.hid (below_drewN RB.out _)⟩
      case measure => simp [intOf]; omega
    · have t1 : decide ((i : Int) < F.n1) = false := decide_eq_false (by omega)
      obtain rfl : i = F.n1 := by omega
      clear KB hi hlt
      have KB := RB
      clear RB
      go_wp2_with fail
      go_loopw [6] (fun v6 wr => ∃ i : Nat, i ≤ F.n2 ∧ v6 = .int .i64 i ∧ Hid (Below w1.heap.size w1 wr)) (fun v6 _ => F.n2 - (intOf v6).toNat)
      case atStart => exact ⟨0, by omega, rfl, KB⟩
      case round =>
        obtain ⟨i, hi, rfl, RB⟩ := hrel
        have a2 := ((QA.out.keep RB.out).cell 2).trans rfl
        have b2 := ((QB.out.keep RB.out).cell 2).trans rfl
        by_cases hlt : i < F.n2
        · have t1 : decide ((i : Int) < F.n2) = true := decide_eq_true (by omega)
          obtain ⟨ga, oa, rfl, -, xa⟩ := (S1.out.keep RB.out).m.at (by omega)
          obtain ⟨gb, ob, rfl, -, xb⟩ := (S2.out.keep RB.out).m.at (by omega)
          have x0 := xa i 0 hlt (by decide)
          have x1 := xa i 1 hlt (by decide)
          have x2 := xa i 2 hlt (by decide)
          have x3 := xa i 3 hlt (by decide)
          have y0 := xb i 0 hlt (by decide)
          have y1 := xb i 1 hlt (by decide)
          have y2 := xb i 2 hlt (by decide)
          have y3 := xb i 3 hlt (by decide)
          rw [Nat.add_zero] at x0 y0
          clear xa xb
          have hp0 : (0 : Int) ≤ (i : Int) := by omega
          have hp1 : (i : Int) < (F.n2 : Int) := by omega
          go_wp2_with fail
          go_quiet (fail)
          go_wp2_with fail
          go_roundw
          case rel => exact ⟨i + 1, by omega, by go_num, Lib.hid (below_drewN RB.out _)⟩
          case measure => simp [intOf]; omega
        · have t1 : decide ((i : Int) < F.n2) = false := decide_eq_false (by omega)
          obtain rfl : i = F.n2 := by omega
          clear KB hi hlt
          have KB := RB
          clear RB
          go_wp2_with fail
          go_ret
          exact ⟨rfl, by rw [HBB.out]; exact HB.out.trans (KB.out.mono HZ.out)⟩
end Go.Proofs.Ytipkbapnhgdpeaa.C
