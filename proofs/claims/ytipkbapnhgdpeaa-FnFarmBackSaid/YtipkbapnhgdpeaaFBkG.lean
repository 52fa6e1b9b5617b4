/- What FarmBack answers takes an edit back, walked. No condition. -/
import Derived.Test.YtipkbapnhgdpeaaFBk
import Derived.Test.YtipkbapnhgdpeaaLwG
namespace Go.Proofs.Ytipkbapnhgdpeaa.C
open Go.RowKit
set_option linter.unusedVariables false
set_option linter.unusedSimpArgs false
theorem fe_okB {F : Fm} {k id g a c : Int} (h : feC F k id g a c = 0) : fmB F = true ∧ isEdB k id g a c = true ∧ edC F k id g a c = 0 := by
  unfold feC at h
  by_cases h1 : fmB F = true
  · rw [if_pos h1] at h
    by_cases h2 : isEdB k id g a c = true
    · rw [if_pos h2] at h; exact ⟨h1, h2, h⟩
    · rw [if_neg h2] at h; omega
  · rw [if_neg h1] at h; omega
theorem same_cap {F G : Fm} (h : SameF F G) : G.cap = F.cap := h.cap
/-- A farm that is the same as F, answered with the code 0. -/
def BackOut (F : Fm) (w : World) (e : Ending) (w' : World) : Prop :=
  ∃ (E1 E2 : Option Addr) (e1 e2 : Nat), e = .returned (.agg #[.int .i64 F.cap, .slice E1 F.n1 e1, .slice E2 F.n2 e2, .int .i64 0, .int .i64 0]) ∧ FarmV w' w.heap.size F (.slice E1 F.n1 e1) (.slice E2 F.n2 e2) ∧ Below w.heap.size w w'
theorem backOut_of {F G G' : Fm} {x y z p q : Int} {w : World} {e : Ending} {w' : World} (hr : Right G) (h : EdGo G x y z p q G') (s : SameF F G') (ho : FeOut G x y z p q w e w') : BackOut F w e w' := by
  obtain ⟨vg, vm, rfl, hV, hb⟩ := ho
  obtain ⟨f1, f2⟩ := h.fe hr
  rw [f2] at hV
  obtain ⟨E1, e1, E2, e2, rfl, rfl, -, -⟩ := hV.caps
  refine ⟨E1, E2, e1, e2, ?_, ?_, hb⟩
  · rw [f1, f2, s.cap, s.l1, s.l2]
  · obtain ⟨h1, h2⟩ := hV
    rw [s.l1] at h1
    rw [s.l2] at h2
    exact ⟨h1.congr fun i j hi hj => s.t1 i j hi hj, h2.congr fun i j hi hj => s.t2 i j hi hj⟩
theorem back_all (F : Fm) (k id g a c : Int) (G : Fm) (h0 : feC F k id g a c = 0) (hG : feF F k id g a c = G) : fmB G = true ∧ ∃ x y z p q : Int, (∀ (A1 A2 : Option Addr) (c1 c2 : Nat) (w : World), FarmAt w A1 F.n1 F.f1 A2 F.n2 F.f2 → F.n1 ≤ c1 → F.n2 ≤ c2 → Calls Try.prog 29 #[.agg #[.int .i64 F.cap, .slice A1 F.n1 c1, .slice A2 F.n2 c2], .agg #[.int .i64 k, .int .i64 id, .int .i64 g, .int .i64 a, .int .i64 c]] w (EdV x y z p q w)) ∧ (∀ (D1 D2 : Option Addr) (d1 d2 : Nat) (w : World), FarmAt w D1 G.n1 G.f1 D2 G.n2 G.f2 → G.n1 ≤ d1 → Calls Try.prog 28 #[.agg #[.int .i64 G.cap, .slice D1 G.n1 d1, .slice D2 G.n2 d2], .agg #[.int .i64 x, .int .i64 y, .int .i64 z, .int .i64 p, .int .i64 q]] w (BackOut F w)) := by
  obtain ⟨hf, hi, hc⟩ := fe_okB h0
  have hgo := EdGo.of (EdOk.of hi) hc
  have e : edF F k id g a c = G := by rw [← hG]; unfold feF; rw [if_pos h0]
  rw [e] at hgo
  have hr := Right.of hf
  have hrG := EdGo.right hr hgo
  have fin : ∀ {x y z p q : Int} {G' : Fm}, EdGo G x y z p q G' → SameF F G' → (∀ (D1 D2 : Option Addr) (d1 d2 : Nat) (w : World), FarmAt w D1 G.n1 G.f1 D2 G.n2 G.f2 → G.n1 ≤ d1 → Calls Try.prog 28 #[.agg #[.int .i64 G.cap, .slice D1 G.n1 d1, .slice D2 G.n2 d2], .agg #[.int .i64 x, .int .i64 y, .int .i64 z, .int .i64 p, .int .i64 q]] w (BackOut F w)) := fun h s D1 D2 d1 d2 w hT hd => (c_FarmEdit G D1 D2 d1 d2 _ _ _ _ _ w hT hd).mono fun e w' ho => backOut_of hrG h s ho
  refine ⟨hrG.to, ?_⟩
  clear hG e
  cases hgo with
  | join hi' hr' ha hb h1 h2 h3 =>
    obtain ⟨G', e', s⟩ := bk_join (g := g) (a := a) (b := c) hr hi' h1
    exact ⟨_, _, _, _, _, fun A1 A2 c1 c2 w h l1 l2 => c_fb_join F A1 A2 c1 c2 id g a c w h l1 l2 hf h0, fin e' s⟩
  | group hi' hr' ha hb hg h1 h2 h3 =>
    obtain ⟨G', e', s⟩ := bk_group (g := g) (a := a) (b := c) hr hi' hg h1
    exact ⟨_, _, _, _, _, fun A1 A2 c1 c2 w h l1 l2 => c_fb_group F A1 A2 c1 c2 id g a c w h l1 l2 hf h0, fin e' s⟩
  | drop hi' h1 h2 h3 =>
    obtain ⟨G', e', s⟩ := bk_drop hr hi' h1 h2
    exact ⟨_, _, _, _, _, fun A1 A2 c1 c2 w h l1 l2 => c_fb_drop F A1 A2 c1 c2 id w h l1 l2 hf h0 h1, fin e' s⟩
  | cap0 ha =>
    obtain ⟨G', e', s⟩ := bk_cap0 (a := a) hr
    exact ⟨_, _, _, _, _, fun A1 A2 c1 c2 w h l1 l2 => c_fb_cap0 F A1 A2 c1 c2 a w h l1 l2 hf h0, fin e' s⟩
  | cap hi' ha h1 =>
    obtain ⟨G', e', s⟩ := bk_cap (a := a) hr hi' h1
    exact ⟨_, _, _, _, _, fun A1 A2 c1 c2 w h l1 l2 => c_fb_cap F A1 A2 c1 c2 id a w h l1 l2 hf h0 h1, fin e' s⟩
  | leave hi' h1 =>
    obtain ⟨G', e', s⟩ := bk_leave hr hi' h1
    exact ⟨_, _, _, _, _, fun A1 A2 c1 c2 w h l1 l2 => c_fb_leave F A1 A2 c1 c2 id w h l1 l2 hf h0 h1, fin e' s⟩
  | want hi' ha h1 =>
    obtain ⟨G', e', s⟩ := bk_want (a := a) hr hi' h1
    exact ⟨_, _, _, _, _, fun A1 A2 c1 c2 w h l1 l2 => c_fb_want F A1 A2 c1 c2 id a w h l1 l2 hf h0 h1, fin e' s⟩
  | weight hi' ha h1 =>
    obtain ⟨G', e', s⟩ := bk_weight (a := a) hr hi' h1
    exact ⟨_, _, _, _, _, fun A1 A2 c1 c2 w h l1 l2 => c_fb_weight F A1 A2 c1 c2 id a w h l1 l2 hf h0 h1, fin e' s⟩
  | move hi' hr' h1 h2 =>
    obtain ⟨G', e', s⟩ := bk_move (g := g) hr hi' h1
    exact ⟨_, _, _, _, _, fun A1 A2 c1 c2 w h l1 l2 => c_fb_move F A1 A2 c1 c2 id g w h l1 l2 hf h0 h1, fin e' s⟩
end Go.Proofs.Ytipkbapnhgdpeaa.C
