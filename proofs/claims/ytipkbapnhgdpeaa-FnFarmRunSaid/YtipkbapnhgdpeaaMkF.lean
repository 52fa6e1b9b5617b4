/- Farms of the laws: read, marked, found, compared. No condition. -/
import Derived.Test.YtipkbapnhgdpeaaFEdW
import Derived.Test.YtipkbapnhgdpeaaMkGroup
import Derived.Test.YtipkbapnhgdpeaaMkMember
import Derived.Test.YtipkbapnhgdpeaaTabE
namespace Go.Proofs.Ytipkbapnhgdpeaa.C
open Go.RowKit
set_option maxRecDepth 100000
set_option linter.unusedVariables false
set_option linter.unusedSimpArgs false
attribute [local go_sem ↓] Go.wp_at_zero Go.wp_at_succ
def mkf (k : Int) (i j : Nat) : Int := k + (i * 4 + j : Nat)
theorem OwnT.flat {t : TypeId} {w : World} {B g n c : Nat} {f : Nat → Nat → Int} (h : OwnT t w B (.slice (some ⟨g, 0, none⟩) n c) n f) : FlatP w B g (n * 4) (fun p => f (p / 4) (p % 4)) t := by
  rcases h.form with ⟨h', _⟩ | ⟨g', c', cur, h', hb, hl, hg, h1, h2, h3, h4⟩
  · cases h'
  simp only [Value.slice.injEq, Option.some.injEq, Addr.mk.injEq, and_true, true_and] at h'
  obtain ⟨rfl, rfl⟩ := h'
  refine ⟨cur, ⟨hb, hg⟩, by rw [h3]; exact Nat.mul_le_mul_right 4 h1, fun p hp => ?_⟩
  have := congrArg (fun l => l[p]?) h4
  simp only [List.getElem?_take, hp, if_true] at this
  rw [tr_get hp] at this
  simpa using this
theorem FlatW.own {w : World} {B g n t : Nat} {F : Nat → Int} {f : Nat → Nat → Int} (h : FlatW w B g (n * 4) F t) (hf : ∀ i j, i < n → j < 4 → F (i * 4 + j) = f i j) (hn : n ≤ 2000000) : OwnT t w B (.slice (some ⟨g, 0, none⟩) n n) n f := by
  obtain ⟨cs, h1, h2, h3⟩ := h
  refine OwnT.of h1.1 h1.2 (Nat.le_refl _) (by unfold maxLen; omega) h2 fun p hp => ?_
  have := hf (p / 4) (p % 4) (by omega) (by omega)
  rw [show p / 4 * 4 + p % 4 = p by omega] at this
  rw [h3 p hp, this]
theorem c_markOwnG {A : Option Addr} {n c B : Nat} {f : Nat → Nat → Int} {k : Int} {w : World} (h : OwnT 114 w B (.slice A n c) n f) (hn : n ≤ 2000000) (h0 : 0 ≤ k) (h1 : k ≤ 100000000) :
    Calls Try.prog 96 #[.slice A n c, .int .i64 k] w fun e w' => e = .returned (.int .i64 (k + n * 4)) ∧ Tab 4 w' A n (mkf k) ∧ w.grownBy w' (.slice A n c : Value).ownBlock := by
  rcases h.form with ⟨h', h2⟩ | ⟨g, c', cur, h', -⟩
  · simp only [Value.slice.injEq] at h'
    obtain ⟨rfl, rfl, rfl⟩ := h'
    exact (c_markGroupS0 none 0 k w).mono fun e w' ⟨e1, e2⟩ => by subst e2; exact ⟨by rw [e1]; simp, .inl ⟨rfl, rfl⟩, World.grownBy.refl _ _⟩
  · simp only [Value.slice.injEq] at h'
    obtain ⟨rfl, -, rfl⟩ := h'
    exact (c_markGroupS g n c B k _ w h.flat hn h0 h1).mono fun e w' ⟨e1, e2, e3⟩ => ⟨e1, e2.tab fun i j _ _ => rfl, e3⟩
theorem c_markOwnM {A : Option Addr} {n c B : Nat} {f : Nat → Nat → Int} {k : Int} {w : World} (h : OwnT 91 w B (.slice A n c) n f) (hn : n ≤ 2000000) (h0 : 0 ≤ k) (h1 : k ≤ 100000000) :
    Calls Try.prog 97 #[.slice A n c, .int .i64 k] w fun e w' => e = .returned (.int .i64 (k + n * 4)) ∧ Tab 4 w' A n (mkf k) ∧ w.grownBy w' (.slice A n c : Value).ownBlock := by
  rcases h.form with ⟨h', h2⟩ | ⟨g, c', cur, h', -⟩
  · simp only [Value.slice.injEq] at h'
    obtain ⟨rfl, rfl, rfl⟩ := h'
    exact (c_markMemberS0 none 0 k w).mono fun e w' ⟨e1, e2⟩ => by subst e2; exact ⟨by rw [e1]; simp, .inl ⟨rfl, rfl⟩, World.grownBy.refl _ _⟩
  · simp only [Value.slice.injEq] at h'
    obtain ⟨rfl, -, rfl⟩ := h'
    exact (c_markMemberS g n c B k _ w h.flat hn h0 h1).mono fun e w' ⟨e1, e2, e3⟩ => ⟨e1, e2.tab fun i j _ _ => rfl, e3⟩
theorem own_block {A : Option Addr} {n c g off : Nat} (e : A = some ⟨g, off, none⟩) : (.slice A n c : Value).ownBlock = some g := by subst e; rfl
/-- What marking a farm leaves. -/
def MkOut (n1 n2 : Nat) (vg vm : Value) (A1 A2 : Option Addr) (k : Int) (w : World) (e : Ending) (w' : World) : Prop :=
  e = .returned (.int .i64 (k + n1 * 4 + n2 * 4)) ∧ FarmAt w' A1 n1 (mkf k) A2 n2 (mkf (k + n1 * 4)) ∧ ∃ wm, w.grownBy wm vg.ownBlock ∧ wm.grownBy w' vm.ownBlock
theorem c_markFarm {cap : Int} {A1 A2 : Option Addr} {n1 c1 n2 c2 B : Nat} {f1 f2 : Nat → Nat → Int} {k : Int} {w : World} (h1 : OwnT 114 w B (.slice A1 n1 c1) n1 f1) (h2 : OwnT 91 w B (.slice A2 n2 c2) n2 f2) (hn1 : n1 ≤ 2000000) (hn2 : n2 ≤ 2000000) (h0 : 0 ≤ k) (hk : k ≤ 1000) :
    Calls Try.prog 43 #[.agg #[.int .i64 cap, .slice A1 n1 c1, .slice A2 n2 c2], .int .i64 k] w (MkOut n1 n2 (.slice A1 n1 c1) (.slice A2 n2 c2) A1 A2 k w) := by
  have hal := (Below.refl w.heap.size w).alloc (Nat.le_refl _) (.cells #[.int .i64 cap, .slice A1 n1 c1, .slice A2 n2 c2] 34)
  have B1 := Lib.hid (Blk.new (w := w) (B := 0) (Nat.zero_le _) #[.int .i64 cap, .slice A1 n1 c1, .slice A2 n2 c2] 34)
  have G1 := Lib.hid (h1.keep hal)
  have M1 := Lib.hid (h2.keep hal)
  have NB := Lib.hid (show (.slice A1 n1 c1 : Value).ownBlock ≠ some w.heap.size from fun e => Nat.lt_irrefl _ (World.ownsRow.lt h1 _ e).2)
  have NG := Lib.hid (show ∀ k, (.slice A2 n2 c2 : Value).ownBlock = some k → (.slice A1 n1 c1 : Value).ownBlock ≠ some k from fun k e => h2.ne h1 (by decide) e)
  have NM := Lib.hid (show ∀ k, (.slice A1 n1 c1 : Value).ownBlock = some k → (.slice A2 n2 c2 : Value).ownBlock ≠ some k from fun k e => h1.ne h2 (by decide) e)
  have HA := Lib.hid (only_below hal (.slice A1 n1 c1 : Value).ownBlock)
  clear h1 h2 hal
  go_enter Try.func43, Try.ntmps43
  go_upto_region 1 with fail
  generalize w.alloc (.cells #[.int .i64 cap, .slice A1 n1 c1, .slice A2 n2 c2] 34) = w1 at *
  generalize w.heap.size = b at *
  have x1 := (B1.out.cell 1).trans rfl
  go_wp2_with (first
    | (go_at_call 96; refine (c_markOwnG G1.out hn1 h0 (by omega)).mono ?_; rintro e w2 ⟨rfl, hT, hg⟩; have T2 := Lib.hid hT; have HG := Lib.hid hg; have M2 := Lib.hid (M1.out.grown hg NG.out); have x2 := ((B1.out.grownO hg NB.out).cell 2).trans rfl; clear hT hg)
    | (go_at_call 97; refine (c_markOwnM M2.out hn2 (by omega) (by omega)).mono ?_; rintro e w3 ⟨rfl, hT3, hg3⟩; have T3 := Lib.hid hT3; have HG3 := Lib.hid hg3; clear hT3 hg3)
    | fail)
  go_ret
  exact ⟨rfl, ⟨T2.out.far HG3.out (fun g off e h => NM.out g (own_block e) h.symm), T3.out⟩, w2, HA.out.trans HG.out, HG3.out⟩
theorem c_heldFarm {cap : Int} {A1 A2 : Option Addr} {n1 c1 n2 c2 : Nat} {k : Int} {w : World} (h : FarmAt w A1 n1 (mkf k) A2 n2 (mkf (k + n1 * 4))) (hn1 : n1 ≤ 2000000) (hn2 : n2 ≤ 2000000) (h0 : 0 ≤ k) (hk : k ≤ 1000) :
    Calls Try.prog 98 #[.agg #[.int .i64 cap, .slice A1 n1 c1, .slice A2 n2 c2], .int .i64 k] w fun e w' => e = .returned (.int .i64 (k + n1 * 4 + n2 * 4)) ∧ Below w.heap.size w w' := by
  have hal := (Below.refl w.heap.size w).alloc (Nat.le_refl _) (.cells #[.int .i64 cap, .slice A1 n1 c1, .slice A2 n2 c2] 34)
  have B1 := Lib.hid (Blk.new (w := w) (B := 0) (Nat.zero_le _) #[.int .i64 cap, .slice A1 n1 c1, .slice A2 n2 c2] 34)
  have H := Lib.hid (h.keep hal)
  have HA := Lib.hid hal
  clear h hal
  have b1 : decide (k + (n1 : Int) * 4 < 0) = false := decide_eq_false (by omega)
  have b2 : decide (k + (n1 : Int) * 4 + (n2 : Int) * 4 < 0) = false := decide_eq_false (by omega)
  go_enter Try.func98, Try.ntmps98
  go_upto_region 1 with fail
  generalize w.alloc (.cells #[.int .i64 cap, .slice A1 n1 c1, .slice A2 n2 c2] 34) = w1 at *
  generalize hb : w.heap.size = b at *
  have x1 := (B1.out.cell 1).trans rfl
  go_wp2_with (first
    | (go_at_call 127; refine (c_heldGroupS A1 n1 c1 k _ H.out.g hn1 h0 (by omega)).mono ?_; rintro e w2 ⟨rfl, hb2⟩; have HB2 := Lib.hid hb2; have x2 := ((B1.out.keep hb2).cell 2).trans rfl; clear hb2)
    | (go_at_call 128; refine (c_heldMemberS A2 n2 c2 (k + n1 * 4) _ (H.out.m.keep HB2.out) hn2 (by omega) (by omega)).mono ?_; rintro e w3 ⟨rfl, hb3⟩; have HB3 := Lib.hid (btrans HB2.out hb3); clear hb3)
    | fail)
  go_ret
  exact ⟨rfl, by rw [hb]; exact HA.out.trans (HB3.out.mono (Nat.le_of_lt B1.out.lt))⟩
theorem c_markFarmOut {cap at_ code : Int} {A1 A2 : Option Addr} {n1 c1 n2 c2 B : Nat} {f1 f2 : Nat → Nat → Int} {k : Int} {w : World} (h1 : OwnT 114 w B (.slice A1 n1 c1) n1 f1) (h2 : OwnT 91 w B (.slice A2 n2 c2) n2 f2) (hn1 : n1 ≤ 2000000) (hn2 : n2 ≤ 2000000) (h0 : 0 ≤ k) (hk : k ≤ 1000) :
    Calls Try.prog 44 #[.agg #[.int .i64 cap, .slice A1 n1 c1, .slice A2 n2 c2, .int .i64 at_, .int .i64 code], .int .i64 k] w (MkOut n1 n2 (.slice A1 n1 c1) (.slice A2 n2 c2) A1 A2 k w) := by
  have hal := (Below.refl w.heap.size w).alloc (Nat.le_refl _) (.cells #[.int .i64 cap, .slice A1 n1 c1, .slice A2 n2 c2, .int .i64 at_, .int .i64 code] 60)
  have B1 := Lib.hid (Blk.new (w := w) (B := 0) (Nat.zero_le _) #[.int .i64 cap, .slice A1 n1 c1, .slice A2 n2 c2, .int .i64 at_, .int .i64 code] 60)
  have G1 := Lib.hid (h1.keep hal)
  have M1 := Lib.hid (h2.keep hal)
  have HA := Lib.hid (only_below hal (.slice A1 n1 c1 : Value).ownBlock)
  clear h1 h2 hal
  go_enter Try.func44, Try.ntmps44
  go_upto_region 1 with fail
  generalize w.alloc (.cells #[.int .i64 cap, .slice A1 n1 c1, .slice A2 n2 c2, .int .i64 at_, .int .i64 code] 60) = w1 at *
  generalize w.heap.size = b at *
  have x0 := (B1.out.cell 0).trans rfl
  have x1 := (B1.out.cell 1).trans rfl
  have x2 := (B1.out.cell 2).trans rfl
  go_wp2_with (first
    | (go_at_call 43; refine (c_markFarm G1.out M1.out hn1 hn2 h0 hk).mono ?_; rintro e w2 ⟨rfl, hT, wm, hg, hm⟩; have T2 := Lib.hid hT; have HG := Lib.hid hg; have HM := Lib.hid hm; clear hT hg hm)
    | fail)
  go_ret
  exact ⟨rfl, T2.out, wm, HA.out.trans HG.out, HM.out⟩
theorem c_heldFarmOut {cap at_ code : Int} {A1 A2 : Option Addr} {n1 c1 n2 c2 : Nat} {k : Int} {w : World} (h : FarmAt w A1 n1 (mkf k) A2 n2 (mkf (k + n1 * 4))) (hn1 : n1 ≤ 2000000) (hn2 : n2 ≤ 2000000) (h0 : 0 ≤ k) (hk : k ≤ 1000) :
    Calls Try.prog 45 #[.agg #[.int .i64 cap, .slice A1 n1 c1, .slice A2 n2 c2, .int .i64 at_, .int .i64 code], .int .i64 k] w fun e w' => e = .returned (.int .i64 (k + n1 * 4 + n2 * 4)) ∧ Below w.heap.size w w' := by
  have hal := (Below.refl w.heap.size w).alloc (Nat.le_refl _) (.cells #[.int .i64 cap, .slice A1 n1 c1, .slice A2 n2 c2, .int .i64 at_, .int .i64 code] 60)
  have B1 := Lib.hid (Blk.new (w := w) (B := 0) (Nat.zero_le _) #[.int .i64 cap, .slice A1 n1 c1, .slice A2 n2 c2, .int .i64 at_, .int .i64 code] 60)
  have H := Lib.hid (h.keep hal)
  have HA := Lib.hid hal
  clear h hal
  have b2 : decide (k + (n1 : Int) * 4 + (n2 : Int) * 4 < 0) = false := decide_eq_false (by omega)
  go_enter Try.func45, Try.ntmps45
  go_upto_region 1 with fail
  generalize w.alloc (.cells #[.int .i64 cap, .slice A1 n1 c1, .slice A2 n2 c2, .int .i64 at_, .int .i64 code] 60) = w1 at *
  generalize hb : w.heap.size = b at *
  have x0 := (B1.out.cell 0).trans rfl
  have x1 := (B1.out.cell 1).trans rfl
  have x2 := (B1.out.cell 2).trans rfl
  go_wp2_with (first
    | (go_at_call 98; refine (c_heldFarm H.out hn1 hn2 h0 hk).mono ?_; rintro e w2 ⟨rfl, hb2⟩; have HB2 := Lib.hid hb2; clear hb2)
    | fail)
  go_ret
  exact ⟨rfl, by rw [hb]; exact HA.out.trans (HB2.out.mono (Nat.le_of_lt B1.out.lt))⟩
theorem c_eqFarmOut (cap at_ code : Int) (A1 A2 B1 B2 : Option Addr) (n1 c1 n2 c2 d1 d2 : Nat) (f1 f2 : Nat → Nat → Int) (w : World) (h : FarmAt w A1 n1 f1 A2 n2 f2) (h' : FarmAt w B1 n1 f1 B2 n2 f2) (hn1 : n1 ≤ 2000000) (hn2 : n2 ≤ 2000000) :
    Calls Try.prog 42 #[.agg #[.int .i64 cap, .slice A1 n1 c1, .slice A2 n2 c2, .int .i64 at_, .int .i64 code], .agg #[.int .i64 cap, .slice B1 n1 d1, .slice B2 n2 d2, .int .i64 at_, .int .i64 code]] w fun e w' => e = .returned (.bool true) ∧ Below w.heap.size w w' := by
  have hal := ((Below.refl w.heap.size w).alloc (Nat.le_refl _) (.cells #[.int .i64 cap, .slice A1 n1 c1, .slice A2 n2 c2, .int .i64 at_, .int .i64 code] 60)).alloc (by simp) (.cells #[.int .i64 cap, .slice B1 n1 d1, .slice B2 n2 d2, .int .i64 at_, .int .i64 code] 60)
  have K1 := Lib.hid ((Blk.new (w := w) (B := 0) (Nat.zero_le _) #[.int .i64 cap, .slice A1 n1 c1, .slice A2 n2 c2, .int .i64 at_, .int .i64 code] 60).keep ((Below.refl _ _).alloc (Nat.le_refl _) (.cells #[.int .i64 cap, .slice B1 n1 d1, .slice B2 n2 d2, .int .i64 at_, .int .i64 code] 60)))
  have k2 := Blk.new (w := w.alloc (.cells #[.int .i64 cap, .slice A1 n1 c1, .slice A2 n2 c2, .int .i64 at_, .int .i64 code] 60)) (B := 0) (Nat.zero_le _) #[.int .i64 cap, .slice B1 n1 d1, .slice B2 n2 d2, .int .i64 at_, .int .i64 code] 60
  simp only [World.size_alloc] at k2
  have K2 := Lib.hid k2
  have H := Lib.hid (h.keep hal)
  have H' := Lib.hid (h'.keep hal)
  have HA := Lib.hid hal
  clear h h' hal k2
  go_enter Try.func42, Try.ntmps42
  go_upto_region 1 with fail
  generalize (w.alloc (.cells #[.int .i64 cap, .slice A1 n1 c1, .slice A2 n2 c2, .int .i64 at_, .int .i64 code] 60)).alloc (.cells #[.int .i64 cap, .slice B1 n1 d1, .slice B2 n2 d2, .int .i64 at_, .int .i64 code] 60) = w1 at *
  generalize hb : w.heap.size = b at *
  have x0 := (K1.out.cell 0).trans rfl
  have x1 := (K1.out.cell 1).trans rfl
  have x2 := (K1.out.cell 2).trans rfl
  have y0 := (K2.out.cell 0).trans rfl
  have y1 := (K2.out.cell 1).trans rfl
  have y2 := (K2.out.cell 2).trans rfl
  go_wp2_with (first
    | (go_at_call 37; refine (c_eqFarm cap A1 A2 B1 B2 n1 c1 n2 c2 d1 d2 f1 f2 _ H.out H'.out hn1 hn2).mono ?_; rintro e w2 ⟨rfl, hb2⟩; have HB2 := Lib.hid hb2; have x3 := ((K1.out.keep hb2).cell 3).trans rfl; have x4 := ((K1.out.keep hb2).cell 4).trans rfl; have y3 := ((K2.out.keep hb2).cell 3).trans rfl; have y4 := ((K2.out.keep hb2).cell 4).trans rfl; clear hb2)
    | fail)
  go_ret
  exact ⟨rfl, by rw [hb]; exact HA.out.trans (HB2.out.mono (Nat.le_of_lt K1.out.lt))⟩
end Go.Proofs.Ytipkbapnhgdpeaa.C
