/- The reference's FarmEdit answers as the program's. No condition. -/
import Derived.Test.YtipkbapnhgdpeaaFEdV
namespace Go.Proofs.Ytipkbapnhgdpeaa.C
open Go.RowKit
set_option maxRecDepth 100000
set_option linter.unusedVariables false
set_option linter.unusedSimpArgs false
theorem fe_val {F : Fm} {k id g a c : Int} (hf : fmB F = true) (he : isEdB k id g a c = true) : feC F k id g a c = edC F k id g a c ∧ feF F k id g a c = xF F k id g a c := by
  have e : feC F k id g a c = edC F k id g a c := by unfold feC; rw [if_pos hf, if_pos he]
  exact ⟨e, by unfold feF xF; rw [e]⟩
theorem fe_one {F : Fm} {k id g a c : Int} (h : fmB F = false ∨ isEdB k id g a c = false) : feC F k id g a c = 1 ∧ feF F k id g a c = fm0 := by
  have e : feC F k id g a c = 1 := by
    unfold feC
    by_cases h1 : fmB F = true
    · rw [if_pos h1, if_neg (by rw [h.resolve_left (by rw [h1]; decide)]; decide)]
    · rw [if_neg h1]
  exact ⟨e, by unfold feF; rw [if_neg (by rw [e]; decide)]⟩
theorem s_FarmEdit (F : Fm) (A1 A2 : Option Addr) (c1 c2 : Nat) (k id g a c : Int) (w : World) (h : FarmAt w A1 F.n1 F.f1 A2 F.n2 F.f2) (hc1 : F.n1 ≤ c1) (hc2 : F.n2 ≤ c2) :
    Calls Try.prog 27 #[.agg #[.int .i64 F.cap, .slice A1 F.n1 c1, .slice A2 F.n2 c2], .agg #[.int .i64 k, .int .i64 id, .int .i64 g, .int .i64 a, .int .i64 c]] w (OutV (feC F k id g a c) (feF F k id g a c) w) := by
  rcases hf : fmB F with _ | _
  · obtain ⟨e1, e2⟩ := fe_one (k := k) (id := id) (g := g) (a := a) (c := c) (Or.inl hf)
    exact (s_fe_noform F A1 A2 c1 c2 k id g a c w h hc1 hc2 hf).mono fun _ _ h => h.as e1 e2
  rcases he : edB k id g a c with _ | _
  · obtain ⟨e1, e2⟩ := fe_one (F := F) (k := k) (id := id) (g := g) (a := a) (c := c) (Or.inr (by unfold isEdB; rw [he]; rfl))
    exact (s_fe_noedit F A1 A2 c1 c2 k id g a c w h hc1 hc2 hf he).mono fun _ _ h => h.as e1 e2
  by_cases h6 : k = 6 ∧ g ≥ id
  · obtain ⟨rfl, hg⟩ := h6
    obtain ⟨e1, e2⟩ := fe_one (F := F) (k := 6) (id := id) (g := g) (a := a) (c := c) (Or.inr (by unfold isEdB; rw [he, decide_eq_false (by omega)]; rfl))
    exact (s_fe_form F A1 A2 c1 c2 id g a c w h hc1 hc2 hf he hg).mono fun _ _ h => h.as e1 e2
  have hi : isEdB k id g a c = true := by
    unfold isEdB
    rw [he, Bool.true_and, Bool.or_eq_true]
    by_cases h7 : k = 6
    · exact .inr (decide_eq_true (by have := fun h => h6 ⟨h7, h⟩; omega))
    · exact .inl (by simpa using h7)
  obtain ⟨v1, v2⟩ := fe_val hf hi
  have ok := EdOk.of hi
  clear h6
  obtain ⟨h1, h2, h3, h4⟩ := ok
  rcases h3 with ⟨rfl | rfl, x⟩ | ⟨rfl | rfl, rfl, rfl, rfl⟩ | ⟨rfl | rfl, rfl, x, rfl⟩ | ⟨rfl, rfl, x, rfl⟩ | ⟨rfl, rfl, rfl⟩
  · exact (s_fe_join F A1 A2 c1 c2 id g a c w h hc1 hc2 hf he).mono fun _ _ h => h.as v1 v2
  · exact (s_fe_group F A1 A2 c1 c2 id g a c w h hc1 hc2 hf he (h4 rfl)).mono fun _ _ h => h.as v1 v2
  · rcases e0 : hasId F.n2 F.f2 id with _ | _
    · have hc : edC F 2 id 0 0 0 = 4 := by unfold edC; rw [if_neg (by decide), if_neg (by decide), if_neg (by decide), if_neg (by decide), if_pos e0]
      exact (s_fe_leave_none F A1 A2 c1 c2 id w h hc1 hc2 hf he e0).mono fun _ _ h => h.as (v1.trans hc) (v2.trans (xF_no hc (by decide)))
    · have hc : edC F 2 id 0 0 0 = 0 := by unfold edC; rw [if_neg (by decide), if_neg (by decide), if_neg (by decide), if_neg (by decide), if_neg (by rw [e0]; decide), if_neg (by decide)]
      exact (s_fe_leave_go F A1 A2 c1 c2 id w h hc1 hc2 hf he e0).mono fun _ _ h => h.as (v1.trans hc) (v2.trans (xF_yes hc))
  · exact (s_fe_drop F A1 A2 c1 c2 id 0 0 0 w h hc1 hc2 hf he).mono fun _ _ h => h.as v1 v2
  · rcases e0 : hasId F.n2 F.f2 id with _ | _
    · have hc : edC F 3 id 0 a 0 = 4 := by unfold edC; rw [if_neg (by decide), if_neg (by decide), if_neg (by decide), if_neg (by decide), if_pos e0]
      exact (s_fe_want_none F A1 A2 c1 c2 id a w h hc1 hc2 hf he e0).mono fun _ _ h => h.as (v1.trans hc) (v2.trans (xF_no hc (by decide)))
    · have hc : edC F 3 id 0 a 0 = 0 := by unfold edC; rw [if_neg (by decide), if_neg (by decide), if_neg (by decide), if_neg (by decide), if_neg (by rw [e0]; decide), if_neg (by decide)]
      exact (s_fe_want_go F A1 A2 c1 c2 id a w h hc1 hc2 hf he e0).mono fun _ _ h => h.as (v1.trans hc) (v2.trans (xF_yes hc))
  · by_cases h0 : id = 0
    · subst h0
      have hc : edC F 8 0 0 a 0 = 0 := by unfold edC; rw [if_neg (by decide), if_neg (by decide), if_neg (by decide), if_pos rfl, if_pos rfl]
      exact (s_fe_cap0 F A1 A2 c1 c2 0 a 0 w h hc1 hc2 hf he).mono fun _ _ h => h.as (v1.trans hc) (v2.trans (xF_yes hc))
    · rcases e0 : hasId F.n1 F.f1 id with _ | _
      · have hc : edC F 8 id 0 a 0 = 4 := by unfold edC; rw [if_neg (by decide), if_neg (by decide), if_neg (by decide), if_pos rfl, if_neg h0, if_pos e0]
        exact (s_fe_cap_none F A1 A2 c1 c2 id 0 a 0 w h hc1 hc2 hf he h0 e0).mono fun _ _ h => h.as (v1.trans hc) (v2.trans (xF_no hc (by decide)))
      · have hc : edC F 8 id 0 a 0 = 0 := by unfold edC; rw [if_neg (by decide), if_neg (by decide), if_neg (by decide), if_pos rfl, if_neg h0, if_neg (by rw [e0]; decide)]
        exact (s_fe_cap_go F A1 A2 c1 c2 id 0 a 0 w h hc1 hc2 hf he h0 e0).mono fun _ _ h => h.as (v1.trans hc) (v2.trans (xF_yes hc))
  · rcases e0 : hasId F.n2 F.f2 id with _ | _
    · have hc : edC F 4 id 0 a 0 = 4 := by unfold edC; rw [if_neg (by decide), if_neg (by decide), if_neg (by decide), if_neg (by decide), if_pos e0]
      exact (s_fe_weight_none F A1 A2 c1 c2 id a w h hc1 hc2 hf he e0).mono fun _ _ h => h.as (v1.trans hc) (v2.trans (xF_no hc (by decide)))
    · have hc : edC F 4 id 0 a 0 = 0 := by unfold edC; rw [if_neg (by decide), if_neg (by decide), if_neg (by decide), if_neg (by decide), if_neg (by rw [e0]; decide), if_neg (by decide)]
      exact (s_fe_weight_go F A1 A2 c1 c2 id a w h hc1 hc2 hf he e0).mono fun _ _ h => h.as (v1.trans hc) (v2.trans (xF_yes hc))
  · rcases e0 : hasId F.n2 F.f2 id with _ | _
    · have hc : edC F 5 id g 0 0 = 4 := by unfold edC; rw [if_neg (by decide), if_neg (by decide), if_neg (by decide), if_neg (by decide), if_pos e0]
      exact (s_fe_move_none F A1 A2 c1 c2 id g w h hc1 hc2 hf he e0).mono fun _ _ h => h.as (v1.trans hc) (v2.trans (xF_no hc (by decide)))
    · rcases e1 : hasG F g with _ | _
      · have hc : edC F 5 id g 0 0 = 4 := by unfold edC; rw [if_neg (by decide), if_neg (by decide), if_neg (by decide), if_neg (by decide), if_neg (by rw [e0]; decide), if_pos rfl, if_pos e1]
        exact (s_fe_move_nogroup F A1 A2 c1 c2 id g w h hc1 hc2 hf he e0 e1).mono fun _ _ h => h.as (v1.trans hc) (v2.trans (xF_no hc (by decide)))
      · have hc : edC F 5 id g 0 0 = 0 := by unfold edC; rw [if_neg (by decide), if_neg (by decide), if_neg (by decide), if_neg (by decide), if_neg (by rw [e0]; decide), if_pos rfl, if_neg (by rw [e1]; decide)]
        by_cases hg0 : g = 0
        · subst hg0
          exact (s_fe_move_go0 F A1 A2 c1 c2 id w h hc1 hc2 hf he e0).mono fun _ _ h => h.as (v1.trans hc) (v2.trans (xF_yes hc))
        · exact (s_fe_move_go F A1 A2 c1 c2 id g w h hc1 hc2 hf he e0 ((hasG_iff.1 e1).resolve_right hg0) hg0).mono fun _ _ h => h.as (v1.trans hc) (v2.trans (xF_yes hc))
end Go.Proofs.Ytipkbapnhgdpeaa.C
