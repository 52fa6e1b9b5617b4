/- edit, way by way: what comes, drops, caps. No condition. -/
import Derived.Test.YtipkbapnhgdpeaaFComA
namespace Go.Proofs.Ytipkbapnhgdpeaa.C
open Go.RowKit
set_option maxRecDepth 100000
set_option linter.unusedVariables false
set_option linter.unusedSimpArgs false
attribute [local go_sem ↓] Go.wp_at_zero Go.wp_at_succ
theorem OwnT.setAt {t : TypeId} {w : World} {B n g c i j : Nat} {f : Nat → Nat → Int} (h : OwnT t w B (.slice (some ⟨g, 0, none⟩) n c) n f) (hi : i < n) (hj : j < 4) (x : Int) : OwnT t (w.setCell ⟨g, i * 4 + j, none⟩ (.int .i64 x)) B (.slice (some ⟨g, 0, none⟩) n c) n (setT i j x f) := by
  rcases h.form with ⟨h', _⟩ | ⟨g', c', cur, h', hb, hl, hg, h1, h2, h3, h4⟩
  · cases h'
  simp only [Value.slice.injEq, Option.some.injEq, Addr.mk.injEq, and_true, true_and] at h'
  obtain ⟨rfl, rfl⟩ := h'
  have hk : Blk w B g cur t := ⟨hb, hg⟩
  refine OwnT.of hb (hk.setc (i * 4 + j) (.int .i64 x)).2 h1 h2 (by simpa using h3) fun p hp => ?_
  have e := tr_set (n := n) hi hj x f
  have e2 : cur[p]? = some (.int .i64 (f (p / 4) (p % 4))) := by
    have := congrArg (fun l => l[p]?) h4
    simp only [List.getElem?_take, hp, if_true] at this
    rw [tr_get hp] at this
    simpa using this
  have e3 := congrArg (fun l => l[p]?) e
  simp only [List.getElem?_set, tr_len] at e3
  rw [tr_get (f := setT i j x f) hp] at e3
  rw [Array.getElem?_setIfInBounds]
  by_cases hq : i * 4 + j = p
  · rw [if_pos hq] at e3 ⊢
    rw [if_pos (by omega)] at e3 ⊢
    exact e3
  · rw [if_neg hq] at e3 ⊢
    rw [tr_get (f := f) hp] at e3
    rw [e2]
    exact e3
theorem c_comes_join {F : Fm} {id g a c : Int} {B fb : Nat} {w : World} (h : FarmIn w B fb F) (hr : Right F) (hB : B ≤ w.heap.size) :
    Calls Try.prog 130 #[.pointer (some ⟨fb, 0, none⟩), .agg #[.int .i64 1, .int .i64 id, .int .i64 g, .int .i64 a, .int .i64 c]] w (EdOut F 1 id g a c B fb w) := by
  rcases e0 : hasId F.n2 F.f2 id with _ | _
  · rcases e1 : hasG F g with _ | _
    · exact c_comes_join_none h hr hB e0 e1
    · by_cases e2 : F.n2 = 60
      · exact c_comes_join_full h hr hB e0 e1 e2
      · exact c_comes_join_go h hr hB e0 e1 e2
  · exact c_comes_join_there h hr hB e0
theorem c_comes_group {F : Fm} {id g a c : Int} {B fb : Nat} {w : World} (h : FarmIn w B fb F) (hr : Right F) (hB : B ≤ w.heap.size) :
    Calls Try.prog 130 #[.pointer (some ⟨fb, 0, none⟩), .agg #[.int .i64 6, .int .i64 id, .int .i64 g, .int .i64 a, .int .i64 c]] w (EdOut F 6 id g a c B fb w) := by
  rcases e0 : hasId F.n1 F.f1 id with _ | _
  · rcases e1 : hasG F g with _ | _
    · exact c_comes_group_none h hr hB e0 e1
    · by_cases e2 : F.n1 = 30
      · exact c_comes_group_full h hr hB e0 e1 e2
      · exact c_comes_group_go h hr hB e0 e1 e2
  · exact c_comes_group_there h hr hB e0
set_option maxHeartbeats 1000000 in
theorem c_edit_join {F : Fm} {id g a c : Int} {B fb : Nat} {w : World} (h : FarmIn w B fb F) (hr : Right F) (hB : B ≤ w.heap.size)  :
    Calls Try.prog 115 #[.pointer (some ⟨fb, 0, none⟩), .agg #[.int .i64 1, .int .i64 id, .int .i64 g, .int .i64 a, .int .i64 c]] w (EdOut F 1 id g a c B fb w) := by
  obtain ⟨vg, vm, hBk, hG, hM⟩ := h
  obtain ⟨A1, c1, rfl, hc1, hT1⟩ := hG.tab
  obtain ⟨A2, c2, rfl, hc2, hT2⟩ := hM.tab
  have hal := (Below.refl w.heap.size w).alloc (Nat.le_refl _) (.cells #[.int .i64 1, .int .i64 id, .int .i64 g, .int .i64 a, .int .i64 c] 56)
  have FB := Lib.hid (hBk.keep hal)
  have EB := Lib.hid (Blk.new (w := w) (B := 0) (Nat.zero_le _) #[.int .i64 1, .int .i64 id, .int .i64 g, .int .i64 a, .int .i64 c] 56)
  have T := Lib.hid ((⟨hT1, hT2⟩ : FarmAt w A1 F.n1 F.f1 A2 F.n2 F.f2).keep hal)
  have G1 := Lib.hid (hG.keep hal)
  have M1 := Lib.hid (hM.keep hal)
  have HL := Lib.hid (show fb < w.heap.size from hBk.lt)
  have LG := Lib.hid (show ∀ k, (Value.slice A1 F.n1 c1).ownBlock = some k → k < w.heap.size from fun k e => (World.ownsRow.lt hG k e).2)
  have LM := Lib.hid (show ∀ k, (Value.slice A2 F.n2 c2).ownBlock = some k → k < w.heap.size from fun k e => (World.ownsRow.lt hM k e).2)
  have HB := Lib.hid hal
  have HR := Lib.hid hr
  have hl1 := hr.l1
  have hl2 := hr.l2
  clear hr hal hBk hG hM hT1 hT2
  go_enter Try.func115, Try.ntmps115
  go_upto_region 1 with fail
  generalize w.alloc (.cells #[.int .i64 1, .int .i64 id, .int .i64 g, .int .i64 a, .int .i64 c] 56) = w1 at *
  obtain ⟨b, hbb⟩ : ∃ b, w.heap.size = b := ⟨_, rfl⟩
  have HBB := Lib.hid hbb
  rw [hbb] at EB HL LG LM hB ⊢
  clear hbb
  have t0 : ∀ p : BehW w1, p.w.cell? ⟨fb, 0, none⟩ = some (.int .i64 F.cap) := fun p => ((FB.out.keep p.h).cell 0).trans rfl
  have t1 : ∀ p : BehW w1, p.w.cell? ⟨fb, 1, none⟩ = some (.slice A1 F.n1 c1) := fun p => ((FB.out.keep p.h).cell 1).trans rfl
  have t2 : ∀ p : BehW w1, p.w.cell? ⟨fb, 2, none⟩ = some (.slice A2 F.n2 c2) := fun p => ((FB.out.keep p.h).cell 2).trans rfl
  have s0 : ∀ p : BehW w1, p.w.cell? ⟨b, 0, none⟩ = some (.int .i64 1) := fun p => ((EB.out.keep p.h).cell 0).trans rfl
  have s1 : ∀ p : BehW w1, p.w.cell? ⟨b, 1, none⟩ = some (.int .i64 id) := fun p => ((EB.out.keep p.h).cell 1).trans rfl
  have s2 : ∀ p : BehW w1, p.w.cell? ⟨b, 2, none⟩ = some (.int .i64 g) := fun p => ((EB.out.keep p.h).cell 2).trans rfl
  have s3 : ∀ p : BehW w1, p.w.cell? ⟨b, 3, none⟩ = some (.int .i64 a) := fun p => ((EB.out.keep p.h).cell 3).trans rfl
  have s4 : ∀ p : BehW w1, p.w.cell? ⟨b, 4, none⟩ = some (.int .i64 c) := fun p => ((EB.out.keep p.h).cell 4).trans rfl
  have HC : Hid (∀ p : BehW w1, Calls Try.prog 130 #[.pointer (some ⟨fb, 0, none⟩), .agg #[.int .i64 1, .int .i64 id, .int .i64 g, .int .i64 a, .int .i64 c]] p.w (EdOut F 1 id g a c B fb p.w)) := Lib.hid fun p => c_comes_join (FarmIn.keep ⟨_, _, FB.out, G1.out, M1.out⟩ p.h) HR.out (by have := EB.out.lt; have := p.h.size; omega)
  obtain ⟨hg1, ehg⟩ : ∃ x, hasId F.n1 F.f1 id = x := ⟨_, rfl⟩
  have EHG := Lib.hid ehg
  clear ehg
  have HG : Hid (∀ p : BehW w1, Calls Try.prog 79 #[.agg #[.int .i64 F.cap, .slice A1 F.n1 c1, .slice A2 F.n2 c2], .int .i64 id] p.w fun e w' => e = .returned (.tuple #[.int .i64 (posT F.n1 F.f1 id : Nat), .bool hg1]) ∧ Below p.w.heap.size p.w w') := Lib.hid fun p => EHG.out ▸ c_groupP F.cap A1 A2 F.n1 c1 F.n2 c2 F.f1 _ p.w (T.out.keep p.h).g (by omega) HR.out.r1
  obtain ⟨hm2, ehm⟩ : ∃ x, hasId F.n2 F.f2 id = x := ⟨_, rfl⟩
  have EHM := Lib.hid ehm
  clear ehm
  have HM : Hid (∀ p : BehW w1, Calls Try.prog 80 #[.agg #[.int .i64 F.cap, .slice A1 F.n1 c1, .slice A2 F.n2 c2], .int .i64 id] p.w fun e w' => e = .returned (.tuple #[.int .i64 (posT F.n2 F.f2 id : Nat), .bool hm2]) ∧ Below p.w.heap.size p.w w') := Lib.hid fun p => EHM.out ▸ c_memberP F.cap A1 A2 F.n1 c1 F.n2 c2 F.f2 _ p.w (T.out.keep p.h).m (by omega) HR.out.r2
  refine wp_region_beh (by kernel_rfl) (by kernel_rfl) ?_
  repeat (go_big_quiet_step ((first | (go_at_call 79; exact beh_below (HG.out _)) | fail)))
  refine wpQuiet_nil ?_
  intro _ hw'
  obtain ⟨q1, hw''⟩ := hw'
  subst hw''
  go_upto_region 2 with fail
  refine wp_region_behq q1 (by kernel_rfl) (by kernel_rfl) ?_
  repeat (go_big_quiet_step ((first | (go_at_call 80; exact beh_below (HM.out _)) | fail)))
  refine wpQuiet_nil ?_
  intro _ hw'
  obtain ⟨q2, hw''⟩ := hw'
  subst hw''
  go_wp2_with (first | (go_at_call 130; (with_reducible refine (HC.out q2).mono ?_); rintro e w3 ⟨rfl, hb3, hF⟩; have HB3 := Lib.hid hb3; have HF := Lib.hid hF; clear hb3 hF) | fail)
  go_ret
  exact ⟨rfl, (HB.out.mono (by rw [HBB.out]; exact hB)).trans ((q2.h.mono (by have := EB.out.lt; omega)).trans HB3.out), HF.out⟩
set_option maxHeartbeats 1000000 in
theorem c_edit_group {F : Fm} {id g a c : Int} {B fb : Nat} {w : World} (h : FarmIn w B fb F) (hr : Right F) (hB : B ≤ w.heap.size)  :
    Calls Try.prog 115 #[.pointer (some ⟨fb, 0, none⟩), .agg #[.int .i64 6, .int .i64 id, .int .i64 g, .int .i64 a, .int .i64 c]] w (EdOut F 6 id g a c B fb w) := by
  obtain ⟨vg, vm, hBk, hG, hM⟩ := h
  obtain ⟨A1, c1, rfl, hc1, hT1⟩ := hG.tab
  obtain ⟨A2, c2, rfl, hc2, hT2⟩ := hM.tab
  have hal := (Below.refl w.heap.size w).alloc (Nat.le_refl _) (.cells #[.int .i64 6, .int .i64 id, .int .i64 g, .int .i64 a, .int .i64 c] 56)
  have FB := Lib.hid (hBk.keep hal)
  have EB := Lib.hid (Blk.new (w := w) (B := 0) (Nat.zero_le _) #[.int .i64 6, .int .i64 id, .int .i64 g, .int .i64 a, .int .i64 c] 56)
  have T := Lib.hid ((⟨hT1, hT2⟩ : FarmAt w A1 F.n1 F.f1 A2 F.n2 F.f2).keep hal)
  have G1 := Lib.hid (hG.keep hal)
  have M1 := Lib.hid (hM.keep hal)
  have HL := Lib.hid (show fb < w.heap.size from hBk.lt)
  have LG := Lib.hid (show ∀ k, (Value.slice A1 F.n1 c1).ownBlock = some k → k < w.heap.size from fun k e => (World.ownsRow.lt hG k e).2)
  have LM := Lib.hid (show ∀ k, (Value.slice A2 F.n2 c2).ownBlock = some k → k < w.heap.size from fun k e => (World.ownsRow.lt hM k e).2)
  have HB := Lib.hid hal
  have HR := Lib.hid hr
  have hl1 := hr.l1
  have hl2 := hr.l2
  clear hr hal hBk hG hM hT1 hT2
  go_enter Try.func115, Try.ntmps115
  go_upto_region 1 with fail
  generalize w.alloc (.cells #[.int .i64 6, .int .i64 id, .int .i64 g, .int .i64 a, .int .i64 c] 56) = w1 at *
  obtain ⟨b, hbb⟩ : ∃ b, w.heap.size = b := ⟨_, rfl⟩
  have HBB := Lib.hid hbb
  rw [hbb] at EB HL LG LM hB ⊢
  clear hbb
  have t0 : ∀ p : BehW w1, p.w.cell? ⟨fb, 0, none⟩ = some (.int .i64 F.cap) := fun p => ((FB.out.keep p.h).cell 0).trans rfl
  have t1 : ∀ p : BehW w1, p.w.cell? ⟨fb, 1, none⟩ = some (.slice A1 F.n1 c1) := fun p => ((FB.out.keep p.h).cell 1).trans rfl
  have t2 : ∀ p : BehW w1, p.w.cell? ⟨fb, 2, none⟩ = some (.slice A2 F.n2 c2) := fun p => ((FB.out.keep p.h).cell 2).trans rfl
  have s0 : ∀ p : BehW w1, p.w.cell? ⟨b, 0, none⟩ = some (.int .i64 6) := fun p => ((EB.out.keep p.h).cell 0).trans rfl
  have s1 : ∀ p : BehW w1, p.w.cell? ⟨b, 1, none⟩ = some (.int .i64 id) := fun p => ((EB.out.keep p.h).cell 1).trans rfl
  have s2 : ∀ p : BehW w1, p.w.cell? ⟨b, 2, none⟩ = some (.int .i64 g) := fun p => ((EB.out.keep p.h).cell 2).trans rfl
  have s3 : ∀ p : BehW w1, p.w.cell? ⟨b, 3, none⟩ = some (.int .i64 a) := fun p => ((EB.out.keep p.h).cell 3).trans rfl
  have s4 : ∀ p : BehW w1, p.w.cell? ⟨b, 4, none⟩ = some (.int .i64 c) := fun p => ((EB.out.keep p.h).cell 4).trans rfl
  have HC : Hid (∀ p : BehW w1, Calls Try.prog 130 #[.pointer (some ⟨fb, 0, none⟩), .agg #[.int .i64 6, .int .i64 id, .int .i64 g, .int .i64 a, .int .i64 c]] p.w (EdOut F 6 id g a c B fb p.w)) := Lib.hid fun p => c_comes_group (FarmIn.keep ⟨_, _, FB.out, G1.out, M1.out⟩ p.h) HR.out (by have := EB.out.lt; have := p.h.size; omega)
  obtain ⟨hg1, ehg⟩ : ∃ x, hasId F.n1 F.f1 id = x := ⟨_, rfl⟩
  have EHG := Lib.hid ehg
  clear ehg
  have HG : Hid (∀ p : BehW w1, Calls Try.prog 79 #[.agg #[.int .i64 F.cap, .slice A1 F.n1 c1, .slice A2 F.n2 c2], .int .i64 id] p.w fun e w' => e = .returned (.tuple #[.int .i64 (posT F.n1 F.f1 id : Nat), .bool hg1]) ∧ Below p.w.heap.size p.w w') := Lib.hid fun p => EHG.out ▸ c_groupP F.cap A1 A2 F.n1 c1 F.n2 c2 F.f1 _ p.w (T.out.keep p.h).g (by omega) HR.out.r1
  obtain ⟨hm2, ehm⟩ : ∃ x, hasId F.n2 F.f2 id = x := ⟨_, rfl⟩
  have EHM := Lib.hid ehm
  clear ehm
  have HM : Hid (∀ p : BehW w1, Calls Try.prog 80 #[.agg #[.int .i64 F.cap, .slice A1 F.n1 c1, .slice A2 F.n2 c2], .int .i64 id] p.w fun e w' => e = .returned (.tuple #[.int .i64 (posT F.n2 F.f2 id : Nat), .bool hm2]) ∧ Below p.w.heap.size p.w w') := Lib.hid fun p => EHM.out ▸ c_memberP F.cap A1 A2 F.n1 c1 F.n2 c2 F.f2 _ p.w (T.out.keep p.h).m (by omega) HR.out.r2
  refine wp_region_beh (by kernel_rfl) (by kernel_rfl) ?_
  repeat (go_big_quiet_step ((first | (go_at_call 79; exact beh_below (HG.out _)) | fail)))
  refine wpQuiet_nil ?_
  intro _ hw'
  obtain ⟨q1, hw''⟩ := hw'
  subst hw''
  go_upto_region 2 with fail
  refine wp_region_behq q1 (by kernel_rfl) (by kernel_rfl) ?_
  repeat (go_big_quiet_step ((first | (go_at_call 80; exact beh_below (HM.out _)) | fail)))
  refine wpQuiet_nil ?_
  intro _ hw'
  obtain ⟨q2, hw''⟩ := hw'
  subst hw''
  go_wp2_with (first | (go_at_call 130; (with_reducible refine (HC.out q2).mono ?_); rintro e w3 ⟨rfl, hb3, hF⟩; have HB3 := Lib.hid hb3; have HF := Lib.hid hF; clear hb3 hF) | fail)
  go_ret
  exact ⟨rfl, (HB.out.mono (by rw [HBB.out]; exact hB)).trans ((q2.h.mono (by have := EB.out.lt; omega)).trans HB3.out), HF.out⟩
set_option maxHeartbeats 1000000 in
theorem c_edit_drop_none {F : Fm} {id : Int} {B fb : Nat} {w : World} (h : FarmIn w B fb F) (hr : Right F) (hB : B ≤ w.heap.size) (e0 : hasId F.n1 F.f1 id = false) :
    Calls Try.prog 115 #[.pointer (some ⟨fb, 0, none⟩), .agg #[.int .i64 7, .int .i64 id, .int .i64 0, .int .i64 0, .int .i64 0]] w (EdOut F 7 id 0 0 0 B fb w) := by
  obtain ⟨vg, vm, hBk, hG, hM⟩ := h
  obtain ⟨A1, c1, rfl, hc1, hT1⟩ := hG.tab
  obtain ⟨A2, c2, rfl, hc2, hT2⟩ := hM.tab
  have hal := (Below.refl w.heap.size w).alloc (Nat.le_refl _) (.cells #[.int .i64 7, .int .i64 id, .int .i64 0, .int .i64 0, .int .i64 0] 56)
  have FB := Lib.hid (hBk.keep hal)
  have EB := Lib.hid (Blk.new (w := w) (B := 0) (Nat.zero_le _) #[.int .i64 7, .int .i64 id, .int .i64 0, .int .i64 0, .int .i64 0] 56)
  have T := Lib.hid ((⟨hT1, hT2⟩ : FarmAt w A1 F.n1 F.f1 A2 F.n2 F.f2).keep hal)
  have G1 := Lib.hid (hG.keep hal)
  have M1 := Lib.hid (hM.keep hal)
  have HL := Lib.hid (show fb < w.heap.size from hBk.lt)
  have LG := Lib.hid (show ∀ k, (Value.slice A1 F.n1 c1).ownBlock = some k → k < w.heap.size from fun k e => (World.ownsRow.lt hG k e).2)
  have LM := Lib.hid (show ∀ k, (Value.slice A2 F.n2 c2).ownBlock = some k → k < w.heap.size from fun k e => (World.ownsRow.lt hM k e).2)
  have HB := Lib.hid hal
  have HR := Lib.hid hr
  have hl1 := hr.l1
  have hl2 := hr.l2
  clear hr hal hBk hG hM hT1 hT2
  have hec := Lib.hid (show edC F 7 id 0 0 0 = 4 by unfold edC; rw [if_neg (by decide), if_neg (by decide), if_pos rfl, if_pos e0])
  have HE0 := Lib.hid e0
  clear e0
  go_enter Try.func115, Try.ntmps115
  go_upto_region 1 with fail
  generalize w.alloc (.cells #[.int .i64 7, .int .i64 id, .int .i64 0, .int .i64 0, .int .i64 0] 56) = w1 at *
  obtain ⟨b, hbb⟩ : ∃ b, w.heap.size = b := ⟨_, rfl⟩
  have HBB := Lib.hid hbb
  rw [hbb] at EB HL LG LM hB ⊢
  clear hbb
  have t0 : ∀ p : BehW w1, p.w.cell? ⟨fb, 0, none⟩ = some (.int .i64 F.cap) := fun p => ((FB.out.keep p.h).cell 0).trans rfl
  have t1 : ∀ p : BehW w1, p.w.cell? ⟨fb, 1, none⟩ = some (.slice A1 F.n1 c1) := fun p => ((FB.out.keep p.h).cell 1).trans rfl
  have t2 : ∀ p : BehW w1, p.w.cell? ⟨fb, 2, none⟩ = some (.slice A2 F.n2 c2) := fun p => ((FB.out.keep p.h).cell 2).trans rfl
  have s0 : ∀ p : BehW w1, p.w.cell? ⟨b, 0, none⟩ = some (.int .i64 7) := fun p => ((EB.out.keep p.h).cell 0).trans rfl
  have s1 : ∀ p : BehW w1, p.w.cell? ⟨b, 1, none⟩ = some (.int .i64 id) := fun p => ((EB.out.keep p.h).cell 1).trans rfl
  have s2 : ∀ p : BehW w1, p.w.cell? ⟨b, 2, none⟩ = some (.int .i64 0) := fun p => ((EB.out.keep p.h).cell 2).trans rfl
  have s3 : ∀ p : BehW w1, p.w.cell? ⟨b, 3, none⟩ = some (.int .i64 0) := fun p => ((EB.out.keep p.h).cell 3).trans rfl
  have s4 : ∀ p : BehW w1, p.w.cell? ⟨b, 4, none⟩ = some (.int .i64 0) := fun p => ((EB.out.keep p.h).cell 4).trans rfl
  have HG : Hid (∀ p : BehW w1, Calls Try.prog 79 #[.agg #[.int .i64 F.cap, .slice A1 F.n1 c1, .slice A2 F.n2 c2], .int .i64 id] p.w fun e w' => e = .returned (.tuple #[.int .i64 (posT F.n1 F.f1 id : Nat), .bool false]) ∧ Below p.w.heap.size p.w w') := Lib.hid fun p => HE0.out ▸ c_groupP F.cap A1 A2 F.n1 c1 F.n2 c2 F.f1 _ p.w (T.out.keep p.h).g (by omega) HR.out.r1
  obtain ⟨hm2, ehm⟩ : ∃ x, hasId F.n2 F.f2 id = x := ⟨_, rfl⟩
  have EHM := Lib.hid ehm
  clear ehm
  have HM : Hid (∀ p : BehW w1, Calls Try.prog 80 #[.agg #[.int .i64 F.cap, .slice A1 F.n1 c1, .slice A2 F.n2 c2], .int .i64 id] p.w fun e w' => e = .returned (.tuple #[.int .i64 (posT F.n2 F.f2 id : Nat), .bool hm2]) ∧ Below p.w.heap.size p.w w') := Lib.hid fun p => EHM.out ▸ c_memberP F.cap A1 A2 F.n1 c1 F.n2 c2 F.f2 _ p.w (T.out.keep p.h).m (by omega) HR.out.r2
  refine wp_region_beh (by kernel_rfl) (by kernel_rfl) ?_
  repeat (go_big_quiet_step ((first | (go_at_call 79; exact beh_below (HG.out _)) | fail)))
  refine wpQuiet_nil ?_
  intro _ hw'
  obtain ⟨q1, hw''⟩ := hw'
  subst hw''
  go_upto_region 2 with fail
  refine wp_region_behq q1 (by kernel_rfl) (by kernel_rfl) ?_
  repeat (go_big_quiet_step ((first | (go_at_call 80; exact beh_below (HM.out _)) | fail)))
  refine wpQuiet_nil ?_
  intro _ hw'
  obtain ⟨q2, hw''⟩ := hw'
  subst hw''
  go_wp2_with fail
  go_ret
  exact EdOut.no (by rw [HBB.out]; exact hB) hec.out (by decide) (HB.out.trans (q2.h.mono (by rw [HBB.out]; exact Nat.le_of_lt EB.out.lt)))
set_option maxHeartbeats 1000000 in
theorem c_edit_drop_busy {F : Fm} {id : Int} {B fb : Nat} {w : World} (h : FarmIn w B fb F) (hr : Right F) (hB : B ≤ w.heap.size) (e0 : hasId F.n1 F.f1 id = true) (e1 : (busyB F.n1 F.f1 id || busyB F.n2 F.f2 id) = true) :
    Calls Try.prog 115 #[.pointer (some ⟨fb, 0, none⟩), .agg #[.int .i64 7, .int .i64 id, .int .i64 0, .int .i64 0, .int .i64 0]] w (EdOut F 7 id 0 0 0 B fb w) := by
  obtain ⟨vg, vm, hBk, hG, hM⟩ := h
  obtain ⟨A1, c1, rfl, hc1, hT1⟩ := hG.tab
  obtain ⟨A2, c2, rfl, hc2, hT2⟩ := hM.tab
  have hal := (Below.refl w.heap.size w).alloc (Nat.le_refl _) (.cells #[.int .i64 7, .int .i64 id, .int .i64 0, .int .i64 0, .int .i64 0] 56)
  have FB := Lib.hid (hBk.keep hal)
  have EB := Lib.hid (Blk.new (w := w) (B := 0) (Nat.zero_le _) #[.int .i64 7, .int .i64 id, .int .i64 0, .int .i64 0, .int .i64 0] 56)
  have T := Lib.hid ((⟨hT1, hT2⟩ : FarmAt w A1 F.n1 F.f1 A2 F.n2 F.f2).keep hal)
  have G1 := Lib.hid (hG.keep hal)
  have M1 := Lib.hid (hM.keep hal)
  have HL := Lib.hid (show fb < w.heap.size from hBk.lt)
  have LG := Lib.hid (show ∀ k, (Value.slice A1 F.n1 c1).ownBlock = some k → k < w.heap.size from fun k e => (World.ownsRow.lt hG k e).2)
  have LM := Lib.hid (show ∀ k, (Value.slice A2 F.n2 c2).ownBlock = some k → k < w.heap.size from fun k e => (World.ownsRow.lt hM k e).2)
  have HB := Lib.hid hal
  have HR := Lib.hid hr
  have hl1 := hr.l1
  have hl2 := hr.l2
  clear hr hal hBk hG hM hT1 hT2
  have hec := Lib.hid (show edC F 7 id 0 0 0 = 9 by unfold edC; rw [if_neg (by decide), if_neg (by decide), if_pos rfl, if_neg (by rw [e0]; decide), if_pos e1])
  have HE0 := Lib.hid e0
  have HE1 := Lib.hid e1
  clear e0 e1
  go_enter Try.func115, Try.ntmps115
  go_upto_region 1 with fail
  generalize w.alloc (.cells #[.int .i64 7, .int .i64 id, .int .i64 0, .int .i64 0, .int .i64 0] 56) = w1 at *
  obtain ⟨b, hbb⟩ : ∃ b, w.heap.size = b := ⟨_, rfl⟩
  have HBB := Lib.hid hbb
  rw [hbb] at EB HL LG LM hB ⊢
  clear hbb
  have t0 : ∀ p : BehW w1, p.w.cell? ⟨fb, 0, none⟩ = some (.int .i64 F.cap) := fun p => ((FB.out.keep p.h).cell 0).trans rfl
  have t1 : ∀ p : BehW w1, p.w.cell? ⟨fb, 1, none⟩ = some (.slice A1 F.n1 c1) := fun p => ((FB.out.keep p.h).cell 1).trans rfl
  have t2 : ∀ p : BehW w1, p.w.cell? ⟨fb, 2, none⟩ = some (.slice A2 F.n2 c2) := fun p => ((FB.out.keep p.h).cell 2).trans rfl
  have s0 : ∀ p : BehW w1, p.w.cell? ⟨b, 0, none⟩ = some (.int .i64 7) := fun p => ((EB.out.keep p.h).cell 0).trans rfl
  have s1 : ∀ p : BehW w1, p.w.cell? ⟨b, 1, none⟩ = some (.int .i64 id) := fun p => ((EB.out.keep p.h).cell 1).trans rfl
  have s2 : ∀ p : BehW w1, p.w.cell? ⟨b, 2, none⟩ = some (.int .i64 0) := fun p => ((EB.out.keep p.h).cell 2).trans rfl
  have s3 : ∀ p : BehW w1, p.w.cell? ⟨b, 3, none⟩ = some (.int .i64 0) := fun p => ((EB.out.keep p.h).cell 3).trans rfl
  have s4 : ∀ p : BehW w1, p.w.cell? ⟨b, 4, none⟩ = some (.int .i64 0) := fun p => ((EB.out.keep p.h).cell 4).trans rfl
  have HI : Hid (∀ p : BehW w1, Calls Try.prog 131 #[.agg #[.int .i64 F.cap, .slice A1 F.n1 c1, .slice A2 F.n2 c2], .int .i64 id] p.w fun e w' => e = .returned (.bool (!true)) ∧ Below p.w.heap.size p.w w') := Lib.hid fun p => HE1.out ▸ c_isEmpty F.cap A1 A2 F.n1 c1 F.n2 c2 F.f1 F.f2 _ p.w (T.out.keep p.h) (by omega) (by omega)
  have HG : Hid (∀ p : BehW w1, Calls Try.prog 79 #[.agg #[.int .i64 F.cap, .slice A1 F.n1 c1, .slice A2 F.n2 c2], .int .i64 id] p.w fun e w' => e = .returned (.tuple #[.int .i64 (posT F.n1 F.f1 id : Nat), .bool true]) ∧ Below p.w.heap.size p.w w') := Lib.hid fun p => HE0.out ▸ c_groupP F.cap A1 A2 F.n1 c1 F.n2 c2 F.f1 _ p.w (T.out.keep p.h).g (by omega) HR.out.r1
  obtain ⟨hm2, ehm⟩ : ∃ x, hasId F.n2 F.f2 id = x := ⟨_, rfl⟩
  have EHM := Lib.hid ehm
  clear ehm
  have HM : Hid (∀ p : BehW w1, Calls Try.prog 80 #[.agg #[.int .i64 F.cap, .slice A1 F.n1 c1, .slice A2 F.n2 c2], .int .i64 id] p.w fun e w' => e = .returned (.tuple #[.int .i64 (posT F.n2 F.f2 id : Nat), .bool hm2]) ∧ Below p.w.heap.size p.w w') := Lib.hid fun p => EHM.out ▸ c_memberP F.cap A1 A2 F.n1 c1 F.n2 c2 F.f2 _ p.w (T.out.keep p.h).m (by omega) HR.out.r2
  refine wp_region_beh (by kernel_rfl) (by kernel_rfl) ?_
  repeat (go_big_quiet_step ((first | (go_at_call 79; exact beh_below (HG.out _)) | fail)))
  refine wpQuiet_nil ?_
  intro _ hw'
  obtain ⟨q1, hw''⟩ := hw'
  subst hw''
  go_upto_region 2 with fail
  refine wp_region_behq q1 (by kernel_rfl) (by kernel_rfl) ?_
  repeat (go_big_quiet_step ((first | (go_at_call 80; exact beh_below (HM.out _)) | fail)))
  refine wpQuiet_nil ?_
  intro _ hw'
  obtain ⟨q2, hw''⟩ := hw'
  subst hw''
  go_upto_region 10 with fail
  refine wp_region_behq q2 (by kernel_rfl) (by kernel_rfl) ?_
  repeat (go_big_quiet_step ((first | (go_at_call 131; exact beh_below (HI.out _)) | fail)))
  refine wpQuiet_nil ?_
  intro _ hw'
  obtain ⟨q3, hw''⟩ := hw'
  subst hw''
  go_wp2_with fail
  go_ret
  exact EdOut.no (by rw [HBB.out]; exact hB) hec.out (by decide) (HB.out.trans (q3.h.mono (by rw [HBB.out]; exact Nat.le_of_lt EB.out.lt)))
set_option maxHeartbeats 1000000 in
theorem c_edit_drop_go {F : Fm} {id : Int} {B fb : Nat} {w : World} (h : FarmIn w B fb F) (hr : Right F) (hB : B ≤ w.heap.size) (e0 : hasId F.n1 F.f1 id = true) (e1 : (busyB F.n1 F.f1 id || busyB F.n2 F.f2 id) = false) :
    Calls Try.prog 115 #[.pointer (some ⟨fb, 0, none⟩), .agg #[.int .i64 7, .int .i64 id, .int .i64 0, .int .i64 0, .int .i64 0]] w (EdOut F 7 id 0 0 0 B fb w) := by
  obtain ⟨vg, vm, hBk, hG, hM⟩ := h
  obtain ⟨A1, c1, rfl, hc1, hT1⟩ := hG.tab
  obtain ⟨A2, c2, rfl, hc2, hT2⟩ := hM.tab
  have hal := (Below.refl w.heap.size w).alloc (Nat.le_refl _) (.cells #[.int .i64 7, .int .i64 id, .int .i64 0, .int .i64 0, .int .i64 0] 56)
  have FB := Lib.hid (hBk.keep hal)
  have EB := Lib.hid (Blk.new (w := w) (B := 0) (Nat.zero_le _) #[.int .i64 7, .int .i64 id, .int .i64 0, .int .i64 0, .int .i64 0] 56)
  have T := Lib.hid ((⟨hT1, hT2⟩ : FarmAt w A1 F.n1 F.f1 A2 F.n2 F.f2).keep hal)
  have G1 := Lib.hid (hG.keep hal)
  have M1 := Lib.hid (hM.keep hal)
  have HL := Lib.hid (show fb < w.heap.size from hBk.lt)
  have LG := Lib.hid (show ∀ k, (Value.slice A1 F.n1 c1).ownBlock = some k → k < w.heap.size from fun k e => (World.ownsRow.lt hG k e).2)
  have LM := Lib.hid (show ∀ k, (Value.slice A2 F.n2 c2).ownBlock = some k → k < w.heap.size from fun k e => (World.ownsRow.lt hM k e).2)
  have HB := Lib.hid hal
  have HR := Lib.hid hr
  have hl1 := hr.l1
  have hl2 := hr.l2
  clear hr hal hBk hG hM hT1 hT2
  have hec := Lib.hid (show edC F 7 id 0 0 0 = 0 by unfold edC; rw [if_neg (by decide), if_neg (by decide), if_pos rfl, if_neg (by rw [e0]; decide), if_neg (by rw [e1]; decide)])
  have HE0 := Lib.hid e0
  have HE1 := Lib.hid e1
  clear e0 e1
  go_enter Try.func115, Try.ntmps115
  go_upto_region 1 with fail
  generalize w.alloc (.cells #[.int .i64 7, .int .i64 id, .int .i64 0, .int .i64 0, .int .i64 0] 56) = w1 at *
  obtain ⟨b, hbb⟩ : ∃ b, w.heap.size = b := ⟨_, rfl⟩
  have HBB := Lib.hid hbb
  rw [hbb] at EB HL LG LM hB ⊢
  clear hbb
  have t0 : ∀ p : BehW w1, p.w.cell? ⟨fb, 0, none⟩ = some (.int .i64 F.cap) := fun p => ((FB.out.keep p.h).cell 0).trans rfl
  have t1 : ∀ p : BehW w1, p.w.cell? ⟨fb, 1, none⟩ = some (.slice A1 F.n1 c1) := fun p => ((FB.out.keep p.h).cell 1).trans rfl
  have t2 : ∀ p : BehW w1, p.w.cell? ⟨fb, 2, none⟩ = some (.slice A2 F.n2 c2) := fun p => ((FB.out.keep p.h).cell 2).trans rfl
  have s0 : ∀ p : BehW w1, p.w.cell? ⟨b, 0, none⟩ = some (.int .i64 7) := fun p => ((EB.out.keep p.h).cell 0).trans rfl
  have s1 : ∀ p : BehW w1, p.w.cell? ⟨b, 1, none⟩ = some (.int .i64 id) := fun p => ((EB.out.keep p.h).cell 1).trans rfl
  have s2 : ∀ p : BehW w1, p.w.cell? ⟨b, 2, none⟩ = some (.int .i64 0) := fun p => ((EB.out.keep p.h).cell 2).trans rfl
  have s3 : ∀ p : BehW w1, p.w.cell? ⟨b, 3, none⟩ = some (.int .i64 0) := fun p => ((EB.out.keep p.h).cell 3).trans rfl
  have s4 : ∀ p : BehW w1, p.w.cell? ⟨b, 4, none⟩ = some (.int .i64 0) := fun p => ((EB.out.keep p.h).cell 4).trans rfl
  have HI : Hid (∀ p : BehW w1, Calls Try.prog 131 #[.agg #[.int .i64 F.cap, .slice A1 F.n1 c1, .slice A2 F.n2 c2], .int .i64 id] p.w fun e w' => e = .returned (.bool (!false)) ∧ Below p.w.heap.size p.w w') := Lib.hid fun p => HE1.out ▸ c_isEmpty F.cap A1 A2 F.n1 c1 F.n2 c2 F.f1 F.f2 _ p.w (T.out.keep p.h) (by omega) (by omega)
  have HG : Hid (∀ p : BehW w1, Calls Try.prog 79 #[.agg #[.int .i64 F.cap, .slice A1 F.n1 c1, .slice A2 F.n2 c2], .int .i64 id] p.w fun e w' => e = .returned (.tuple #[.int .i64 (posT F.n1 F.f1 id : Nat), .bool true]) ∧ Below p.w.heap.size p.w w') := Lib.hid fun p => HE0.out ▸ c_groupP F.cap A1 A2 F.n1 c1 F.n2 c2 F.f1 _ p.w (T.out.keep p.h).g (by omega) HR.out.r1
  obtain ⟨hm2, ehm⟩ : ∃ x, hasId F.n2 F.f2 id = x := ⟨_, rfl⟩
  have EHM := Lib.hid ehm
  clear ehm
  have HM : Hid (∀ p : BehW w1, Calls Try.prog 80 #[.agg #[.int .i64 F.cap, .slice A1 F.n1 c1, .slice A2 F.n2 c2], .int .i64 id] p.w fun e w' => e = .returned (.tuple #[.int .i64 (posT F.n2 F.f2 id : Nat), .bool hm2]) ∧ Below p.w.heap.size p.w w') := Lib.hid fun p => EHM.out ▸ c_memberP F.cap A1 A2 F.n1 c1 F.n2 c2 F.f2 _ p.w (T.out.keep p.h).m (by omega) HR.out.r2
  refine wp_region_beh (by kernel_rfl) (by kernel_rfl) ?_
  repeat (go_big_quiet_step ((first | (go_at_call 79; exact beh_below (HG.out _)) | fail)))
  refine wpQuiet_nil ?_
  intro _ hw'
  obtain ⟨q1, hw''⟩ := hw'
  subst hw''
  go_upto_region 2 with fail
  refine wp_region_behq q1 (by kernel_rfl) (by kernel_rfl) ?_
  repeat (go_big_quiet_step ((first | (go_at_call 80; exact beh_below (HM.out _)) | fail)))
  refine wpQuiet_nil ?_
  intro _ hw'
  obtain ⟨q2, hw''⟩ := hw'
  subst hw''
  go_upto_region 10 with fail
  refine wp_region_behq q2 (by kernel_rfl) (by kernel_rfl) ?_
  repeat (go_big_quiet_step ((first | (go_at_call 131; exact beh_below (HI.out _)) | fail)))
  refine wpQuiet_nil ?_
  intro _ hw'
  obtain ⟨q3, hw''⟩ := hw'
  subst hw''
  go_upto_region 12 with fail
  generalize hq : q3.w = w2 at *
  have hbq := q3.h
  rw [hq] at hbq
  have KQ := Lib.hid hbq
  clear hbq hq
  have KE := Lib.hid (EB.out.keep KQ.out)
  have KF := Lib.hid (FB.out.keep KQ.out)
  have KG := Lib.hid (G1.out.keep KQ.out)
  have KM := Lib.hid (M1.out.keep KQ.out)
  have HZ := Lib.hid (show b < w2.heap.size from (EB.out.keep KQ.out).lt)
  have HQ := Lib.hid (show Below B w1 w2 from KQ.out.mono (by have := EB.out.lt; omega))
  have hpp := has_at HR.out.r1 HE0.out
  have hed := Lib.hid (show edF F 7 id 0 0 0 = { F with n1 := F.n1 - 1, f1 := delT (posT F.n1 F.f1 id) F.f1 } from rfl)
  generalize posT F.n1 F.f1 id = pp at *
  obtain ⟨m, hm⟩ : ∃ m, F.n1 = m + 1 := ⟨F.n1 - 1, by omega⟩
  have HM2 := Lib.hid hm
  have hp := hpp.1
  have hp2 : pp ≤ 60 := by omega
  clear hpp
  have KT := Lib.hid (show OwnT 114 w2 B (.slice A1 F.n1 c1) (m + 1) F.f1 from hm ▸ KG.out)
  have hpm := Lib.hid (show pp ≤ m by omega)
  have hm3 := Lib.hid (show m ≤ 1000 by omega)
  clear hm hp
  have NE := Lib.hid (show ((.slice A1 F.n1 c1 : Value).ownBlock ≠ some b) ∧ ((.slice A1 F.n1 c1 : Value).ownBlock ≠ some fb) from ⟨fun e => by have := LG.out b e; omega, KG.out.neBlk KF.out (by decide)⟩)
  have NO := Lib.hid (show ∀ k, (.slice A2 F.n2 c2 : Value).ownBlock = some k → (.slice A1 F.n1 c1 : Value).ownBlock ≠ some k from fun k e => KM.out.ne KG.out (by decide) e)
  have x1 := (KF.out.cell 1).trans rfl
  clear t0 t1 t2 s0 s1 s2 s3 s4
  go_wp2_with (first | (go_at_call 132; refine (c_DelG _ m pp F.f1 B _ KT.out hm3.out hpm.out).mono ?_; rintro e w3 ⟨v', rfl, hO, hgr, hob⟩; obtain ⟨A', c', rfl, -, -⟩ := OwnT.tab hO; have KO3 := Lib.hid hO; have KG3 := Lib.hid hgr; have F3 := Lib.hid (KF.out.grownO hgr NE.out.2); have y1 := (F3.out.cell 1).trans rfl; have y2 := F3.out.frozen 1; clear hO hgr hob) | fail)
  have F4 := Lib.hid ((F3.out.setc 1 (.slice A' m c')).cast (ds := #[.int .i64 F.cap, (.slice A' m c'), .slice A2 F.n2 c2]) (by simp only [List.setIfInBounds_toArray, List.set_cons_zero, List.set_cons_succ]))
  have O3 := Lib.hid (KM.out.grown KG3.out NO.out)
  have N3 := Lib.hid (KO3.out.neBlk F3.out (by decide))
  have N4 := Lib.hid (O3.out.neBlk F3.out (by decide))
  have em : F.n1 - 1 = m := by have := HM2.out; omega
  have FI : Hid (FarmIn (w3.setCell ⟨fb, 1, none⟩ (.slice A' m c')) B fb (edF F 7 id 0 0 0)) := Lib.hid (by rw [hed.out, em]; exact ⟨_, _, F4.out, KO3.out.setf (p := ⟨fb, 1, none⟩) N3.out (.slice A' m c'), O3.out.setf (p := ⟨fb, 1, none⟩) N4.out (.slice A' m c')⟩)
  have BF := Lib.hid (show Below B w1 (w3.setCell ⟨fb, 1, none⟩ (.slice A' m c')) from (HQ.out.trans ((Below.refl B w2).grown KG3.out (by have := HZ.out; omega) (fun k hk => (World.ownsRow.lt KG.out k hk).1))).setCell (p := ⟨fb, 1, none⟩) FB.out.1 (.slice A' m c'))
  go_ret
  exact ⟨by rw [hec.out]; rfl, (HB.out.mono (by rw [HBB.out]; exact hB)).trans BF.out, fun _ => FI.out⟩
set_option maxHeartbeats 1000000 in
theorem c_edit_cap0 {F : Fm} {a : Int} {B fb : Nat} {w : World} (h : FarmIn w B fb F) (hr : Right F) (hB : B ≤ w.heap.size)  :
    Calls Try.prog 115 #[.pointer (some ⟨fb, 0, none⟩), .agg #[.int .i64 8, .int .i64 0, .int .i64 0, .int .i64 a, .int .i64 0]] w (EdOut F 8 0 0 a 0 B fb w) := by
  obtain ⟨vg, vm, hBk, hG, hM⟩ := h
  obtain ⟨A1, c1, rfl, hc1, hT1⟩ := hG.tab
  obtain ⟨A2, c2, rfl, hc2, hT2⟩ := hM.tab
  have hal := (Below.refl w.heap.size w).alloc (Nat.le_refl _) (.cells #[.int .i64 8, .int .i64 0, .int .i64 0, .int .i64 a, .int .i64 0] 56)
  have FB := Lib.hid (hBk.keep hal)
  have EB := Lib.hid (Blk.new (w := w) (B := 0) (Nat.zero_le _) #[.int .i64 8, .int .i64 0, .int .i64 0, .int .i64 a, .int .i64 0] 56)
  have T := Lib.hid ((⟨hT1, hT2⟩ : FarmAt w A1 F.n1 F.f1 A2 F.n2 F.f2).keep hal)
  have G1 := Lib.hid (hG.keep hal)
  have M1 := Lib.hid (hM.keep hal)
  have HL := Lib.hid (show fb < w.heap.size from hBk.lt)
  have LG := Lib.hid (show ∀ k, (Value.slice A1 F.n1 c1).ownBlock = some k → k < w.heap.size from fun k e => (World.ownsRow.lt hG k e).2)
  have LM := Lib.hid (show ∀ k, (Value.slice A2 F.n2 c2).ownBlock = some k → k < w.heap.size from fun k e => (World.ownsRow.lt hM k e).2)
  have HB := Lib.hid hal
  have HR := Lib.hid hr
  have hl1 := hr.l1
  have hl2 := hr.l2
  clear hr hal hBk hG hM hT1 hT2
  have hec := Lib.hid (show edC F 8 0 0 a 0 = 0 by unfold edC; rw [if_neg (by decide), if_neg (by decide), if_neg (by decide), if_pos rfl, if_pos rfl])
  go_enter Try.func115, Try.ntmps115
  go_upto_region 1 with fail
  generalize w.alloc (.cells #[.int .i64 8, .int .i64 0, .int .i64 0, .int .i64 a, .int .i64 0] 56) = w1 at *
  obtain ⟨b, hbb⟩ : ∃ b, w.heap.size = b := ⟨_, rfl⟩
  have HBB := Lib.hid hbb
  rw [hbb] at EB HL LG LM hB ⊢
  clear hbb
  have t0 : ∀ p : BehW w1, p.w.cell? ⟨fb, 0, none⟩ = some (.int .i64 F.cap) := fun p => ((FB.out.keep p.h).cell 0).trans rfl
  have t1 : ∀ p : BehW w1, p.w.cell? ⟨fb, 1, none⟩ = some (.slice A1 F.n1 c1) := fun p => ((FB.out.keep p.h).cell 1).trans rfl
  have t2 : ∀ p : BehW w1, p.w.cell? ⟨fb, 2, none⟩ = some (.slice A2 F.n2 c2) := fun p => ((FB.out.keep p.h).cell 2).trans rfl
  have s0 : ∀ p : BehW w1, p.w.cell? ⟨b, 0, none⟩ = some (.int .i64 8) := fun p => ((EB.out.keep p.h).cell 0).trans rfl
  have s1 : ∀ p : BehW w1, p.w.cell? ⟨b, 1, none⟩ = some (.int .i64 0) := fun p => ((EB.out.keep p.h).cell 1).trans rfl
  have s2 : ∀ p : BehW w1, p.w.cell? ⟨b, 2, none⟩ = some (.int .i64 0) := fun p => ((EB.out.keep p.h).cell 2).trans rfl
  have s3 : ∀ p : BehW w1, p.w.cell? ⟨b, 3, none⟩ = some (.int .i64 a) := fun p => ((EB.out.keep p.h).cell 3).trans rfl
  have s4 : ∀ p : BehW w1, p.w.cell? ⟨b, 4, none⟩ = some (.int .i64 0) := fun p => ((EB.out.keep p.h).cell 4).trans rfl
  obtain ⟨hg1, ehg⟩ : ∃ x, hasId F.n1 F.f1 0 = x := ⟨_, rfl⟩
  have EHG := Lib.hid ehg
  clear ehg
  have HG : Hid (∀ p : BehW w1, Calls Try.prog 79 #[.agg #[.int .i64 F.cap, .slice A1 F.n1 c1, .slice A2 F.n2 c2], .int .i64 0] p.w fun e w' => e = .returned (.tuple #[.int .i64 (posT F.n1 F.f1 0 : Nat), .bool hg1]) ∧ Below p.w.heap.size p.w w') := Lib.hid fun p => EHG.out ▸ c_groupP F.cap A1 A2 F.n1 c1 F.n2 c2 F.f1 _ p.w (T.out.keep p.h).g (by omega) HR.out.r1
  obtain ⟨hm2, ehm⟩ : ∃ x, hasId F.n2 F.f2 0 = x := ⟨_, rfl⟩
  have EHM := Lib.hid ehm
  clear ehm
  have HM : Hid (∀ p : BehW w1, Calls Try.prog 80 #[.agg #[.int .i64 F.cap, .slice A1 F.n1 c1, .slice A2 F.n2 c2], .int .i64 0] p.w fun e w' => e = .returned (.tuple #[.int .i64 (posT F.n2 F.f2 0 : Nat), .bool hm2]) ∧ Below p.w.heap.size p.w w') := Lib.hid fun p => EHM.out ▸ c_memberP F.cap A1 A2 F.n1 c1 F.n2 c2 F.f2 _ p.w (T.out.keep p.h).m (by omega) HR.out.r2
  refine wp_region_beh (by kernel_rfl) (by kernel_rfl) ?_
  repeat (go_big_quiet_step ((first | (go_at_call 79; exact beh_below (HG.out _)) | fail)))
  refine wpQuiet_nil ?_
  intro _ hw'
  obtain ⟨q1, hw''⟩ := hw'
  subst hw''
  go_upto_region 2 with fail
  refine wp_region_behq q1 (by kernel_rfl) (by kernel_rfl) ?_
  repeat (go_big_quiet_step ((first | (go_at_call 80; exact beh_below (HM.out _)) | fail)))
  refine wpQuiet_nil ?_
  intro _ hw'
  obtain ⟨q2, hw''⟩ := hw'
  subst hw''
  go_upto_region 17 with fail
  generalize hq : q2.w = w2 at *
  have hbq := q2.h
  rw [hq] at hbq
  have KQ := Lib.hid hbq
  clear hbq hq
  have KE := Lib.hid (EB.out.keep KQ.out)
  have KF := Lib.hid (FB.out.keep KQ.out)
  have KG := Lib.hid (G1.out.keep KQ.out)
  have KM := Lib.hid (M1.out.keep KQ.out)
  have HZ := Lib.hid (show b < w2.heap.size from (EB.out.keep KQ.out).lt)
  have HQ := Lib.hid (show Below B w1 w2 from KQ.out.mono (by have := EB.out.lt; omega))
  clear t0 t1 t2 s0 s1 s2 s3 s4
  have x0 := (KF.out.cell 0).trans rfl
  have f0 := KF.out.frozen 0
  have x3 := (KE.out.cell 3).trans rfl
  go_wp2_with fail
  have F4 := Lib.hid ((KF.out.setc 0 (.int .i64 a)).cast (ds := #[.int .i64 a, .slice A1 F.n1 c1, .slice A2 F.n2 c2]) (by simp only [List.setIfInBounds_toArray, List.set_cons_zero, List.set_cons_succ]))
  have N3 := Lib.hid (KG.out.neBlk KF.out (by decide))
  have N4 := Lib.hid (KM.out.neBlk KF.out (by decide))
  have BF := Lib.hid (show Below B w1 (w2.setCell ⟨fb, 0, none⟩ (.int .i64 a)) from HQ.out.setCell (p := ⟨fb, 0, none⟩) FB.out.1 (.int .i64 a))
  go_ret
  exact ⟨by rw [hec.out]; rfl, (HB.out.mono (by rw [HBB.out]; exact hB)).trans BF.out, fun _ => ⟨_, _, F4.out, KG.out.setf (p := ⟨fb, 0, none⟩) N3.out (.int .i64 a), KM.out.setf (p := ⟨fb, 0, none⟩) N4.out (.int .i64 a)⟩⟩
set_option maxHeartbeats 1000000 in
theorem c_edit_cap_none {F : Fm} {id a : Int} {B fb : Nat} {w : World} (h : FarmIn w B fb F) (hr : Right F) (hB : B ≤ w.heap.size) (e0 : id ≠ 0) (e1 : hasId F.n1 F.f1 id = false) :
    Calls Try.prog 115 #[.pointer (some ⟨fb, 0, none⟩), .agg #[.int .i64 8, .int .i64 id, .int .i64 0, .int .i64 a, .int .i64 0]] w (EdOut F 8 id 0 a 0 B fb w) := by
  obtain ⟨vg, vm, hBk, hG, hM⟩ := h
  obtain ⟨A1, c1, rfl, hc1, hT1⟩ := hG.tab
  obtain ⟨A2, c2, rfl, hc2, hT2⟩ := hM.tab
  have hal := (Below.refl w.heap.size w).alloc (Nat.le_refl _) (.cells #[.int .i64 8, .int .i64 id, .int .i64 0, .int .i64 a, .int .i64 0] 56)
  have FB := Lib.hid (hBk.keep hal)
  have EB := Lib.hid (Blk.new (w := w) (B := 0) (Nat.zero_le _) #[.int .i64 8, .int .i64 id, .int .i64 0, .int .i64 a, .int .i64 0] 56)
  have T := Lib.hid ((⟨hT1, hT2⟩ : FarmAt w A1 F.n1 F.f1 A2 F.n2 F.f2).keep hal)
  have G1 := Lib.hid (hG.keep hal)
  have M1 := Lib.hid (hM.keep hal)
  have HL := Lib.hid (show fb < w.heap.size from hBk.lt)
  have LG := Lib.hid (show ∀ k, (Value.slice A1 F.n1 c1).ownBlock = some k → k < w.heap.size from fun k e => (World.ownsRow.lt hG k e).2)
  have LM := Lib.hid (show ∀ k, (Value.slice A2 F.n2 c2).ownBlock = some k → k < w.heap.size from fun k e => (World.ownsRow.lt hM k e).2)
  have HB := Lib.hid hal
  have HR := Lib.hid hr
  have hl1 := hr.l1
  have hl2 := hr.l2
  clear hr hal hBk hG hM hT1 hT2
  have hec := Lib.hid (show edC F 8 id 0 a 0 = 4 by unfold edC; rw [if_neg (by decide), if_neg (by decide), if_neg (by decide), if_pos rfl, if_neg e0, if_pos e1])
  have HE0 := Lib.hid e0
  have HE1 := Lib.hid e1
  clear e0 e1
  go_enter Try.func115, Try.ntmps115
  go_upto_region 1 with fail
  generalize w.alloc (.cells #[.int .i64 8, .int .i64 id, .int .i64 0, .int .i64 a, .int .i64 0] 56) = w1 at *
  obtain ⟨b, hbb⟩ : ∃ b, w.heap.size = b := ⟨_, rfl⟩
  have HBB := Lib.hid hbb
  rw [hbb] at EB HL LG LM hB ⊢
  clear hbb
  have t0 : ∀ p : BehW w1, p.w.cell? ⟨fb, 0, none⟩ = some (.int .i64 F.cap) := fun p => ((FB.out.keep p.h).cell 0).trans rfl
  have t1 : ∀ p : BehW w1, p.w.cell? ⟨fb, 1, none⟩ = some (.slice A1 F.n1 c1) := fun p => ((FB.out.keep p.h).cell 1).trans rfl
  have t2 : ∀ p : BehW w1, p.w.cell? ⟨fb, 2, none⟩ = some (.slice A2 F.n2 c2) := fun p => ((FB.out.keep p.h).cell 2).trans rfl
  have s0 : ∀ p : BehW w1, p.w.cell? ⟨b, 0, none⟩ = some (.int .i64 8) := fun p => ((EB.out.keep p.h).cell 0).trans rfl
  have s1 : ∀ p : BehW w1, p.w.cell? ⟨b, 1, none⟩ = some (.int .i64 id) := fun p => ((EB.out.keep p.h).cell 1).trans rfl
  have s2 : ∀ p : BehW w1, p.w.cell? ⟨b, 2, none⟩ = some (.int .i64 0) := fun p => ((EB.out.keep p.h).cell 2).trans rfl
  have s3 : ∀ p : BehW w1, p.w.cell? ⟨b, 3, none⟩ = some (.int .i64 a) := fun p => ((EB.out.keep p.h).cell 3).trans rfl
  have s4 : ∀ p : BehW w1, p.w.cell? ⟨b, 4, none⟩ = some (.int .i64 0) := fun p => ((EB.out.keep p.h).cell 4).trans rfl
  have bz : (id == 0) = false := beq_eq_false_iff_ne.2 HE0.out
  have HG : Hid (∀ p : BehW w1, Calls Try.prog 79 #[.agg #[.int .i64 F.cap, .slice A1 F.n1 c1, .slice A2 F.n2 c2], .int .i64 id] p.w fun e w' => e = .returned (.tuple #[.int .i64 (posT F.n1 F.f1 id : Nat), .bool false]) ∧ Below p.w.heap.size p.w w') := Lib.hid fun p => HE1.out ▸ c_groupP F.cap A1 A2 F.n1 c1 F.n2 c2 F.f1 _ p.w (T.out.keep p.h).g (by omega) HR.out.r1
  obtain ⟨hm2, ehm⟩ : ∃ x, hasId F.n2 F.f2 id = x := ⟨_, rfl⟩
  have EHM := Lib.hid ehm
  clear ehm
  have HM : Hid (∀ p : BehW w1, Calls Try.prog 80 #[.agg #[.int .i64 F.cap, .slice A1 F.n1 c1, .slice A2 F.n2 c2], .int .i64 id] p.w fun e w' => e = .returned (.tuple #[.int .i64 (posT F.n2 F.f2 id : Nat), .bool hm2]) ∧ Below p.w.heap.size p.w w') := Lib.hid fun p => EHM.out ▸ c_memberP F.cap A1 A2 F.n1 c1 F.n2 c2 F.f2 _ p.w (T.out.keep p.h).m (by omega) HR.out.r2
  refine wp_region_beh (by kernel_rfl) (by kernel_rfl) ?_
  repeat (go_big_quiet_step ((first | (go_at_call 79; exact beh_below (HG.out _)) | fail)))
  refine wpQuiet_nil ?_
  intro _ hw'
  obtain ⟨q1, hw''⟩ := hw'
  subst hw''
  go_upto_region 2 with fail
  refine wp_region_behq q1 (by kernel_rfl) (by kernel_rfl) ?_
  repeat (go_big_quiet_step ((first | (go_at_call 80; exact beh_below (HM.out _)) | fail)))
  refine wpQuiet_nil ?_
  intro _ hw'
  obtain ⟨q2, hw''⟩ := hw'
  subst hw''
  go_wp2_with fail
  go_ret
  exact EdOut.no (by rw [HBB.out]; exact hB) hec.out (by decide) (HB.out.trans (q2.h.mono (by rw [HBB.out]; exact Nat.le_of_lt EB.out.lt)))
set_option maxHeartbeats 1000000 in
theorem c_edit_cap_go {F : Fm} {id a : Int} {B fb : Nat} {w : World} (h : FarmIn w B fb F) (hr : Right F) (hB : B ≤ w.heap.size) (e0 : id ≠ 0) (e1 : hasId F.n1 F.f1 id = true) :
    Calls Try.prog 115 #[.pointer (some ⟨fb, 0, none⟩), .agg #[.int .i64 8, .int .i64 id, .int .i64 0, .int .i64 a, .int .i64 0]] w (EdOut F 8 id 0 a 0 B fb w) := by
  obtain ⟨vg, vm, hBk, hG, hM⟩ := h
  obtain ⟨A1, c1, rfl, hc1, hT1⟩ := hG.tab
  obtain ⟨A2, c2, rfl, hc2, hT2⟩ := hM.tab
  have hal := (Below.refl w.heap.size w).alloc (Nat.le_refl _) (.cells #[.int .i64 8, .int .i64 id, .int .i64 0, .int .i64 a, .int .i64 0] 56)
  have FB := Lib.hid (hBk.keep hal)
  have EB := Lib.hid (Blk.new (w := w) (B := 0) (Nat.zero_le _) #[.int .i64 8, .int .i64 id, .int .i64 0, .int .i64 a, .int .i64 0] 56)
  have T := Lib.hid ((⟨hT1, hT2⟩ : FarmAt w A1 F.n1 F.f1 A2 F.n2 F.f2).keep hal)
  have G1 := Lib.hid (hG.keep hal)
  have M1 := Lib.hid (hM.keep hal)
  have HL := Lib.hid (show fb < w.heap.size from hBk.lt)
  have LG := Lib.hid (show ∀ k, (Value.slice A1 F.n1 c1).ownBlock = some k → k < w.heap.size from fun k e => (World.ownsRow.lt hG k e).2)
  have LM := Lib.hid (show ∀ k, (Value.slice A2 F.n2 c2).ownBlock = some k → k < w.heap.size from fun k e => (World.ownsRow.lt hM k e).2)
  have HB := Lib.hid hal
  have HR := Lib.hid hr
  have hl1 := hr.l1
  have hl2 := hr.l2
  clear hr hal hBk hG hM hT1 hT2
  have hec := Lib.hid (show edC F 8 id 0 a 0 = 0 by unfold edC; rw [if_neg (by decide), if_neg (by decide), if_neg (by decide), if_pos rfl, if_neg e0, if_neg (by rw [e1]; decide)])
  have HE0 := Lib.hid e0
  have HE1 := Lib.hid e1
  clear e0 e1
  go_enter Try.func115, Try.ntmps115
  go_upto_region 1 with fail
  generalize w.alloc (.cells #[.int .i64 8, .int .i64 id, .int .i64 0, .int .i64 a, .int .i64 0] 56) = w1 at *
  obtain ⟨b, hbb⟩ : ∃ b, w.heap.size = b := ⟨_, rfl⟩
  have HBB := Lib.hid hbb
  rw [hbb] at EB HL LG LM hB ⊢
  clear hbb
  have t0 : ∀ p : BehW w1, p.w.cell? ⟨fb, 0, none⟩ = some (.int .i64 F.cap) := fun p => ((FB.out.keep p.h).cell 0).trans rfl
  have t1 : ∀ p : BehW w1, p.w.cell? ⟨fb, 1, none⟩ = some (.slice A1 F.n1 c1) := fun p => ((FB.out.keep p.h).cell 1).trans rfl
  have t2 : ∀ p : BehW w1, p.w.cell? ⟨fb, 2, none⟩ = some (.slice A2 F.n2 c2) := fun p => ((FB.out.keep p.h).cell 2).trans rfl
  have s0 : ∀ p : BehW w1, p.w.cell? ⟨b, 0, none⟩ = some (.int .i64 8) := fun p => ((EB.out.keep p.h).cell 0).trans rfl
  have s1 : ∀ p : BehW w1, p.w.cell? ⟨b, 1, none⟩ = some (.int .i64 id) := fun p => ((EB.out.keep p.h).cell 1).trans rfl
  have s2 : ∀ p : BehW w1, p.w.cell? ⟨b, 2, none⟩ = some (.int .i64 0) := fun p => ((EB.out.keep p.h).cell 2).trans rfl
  have s3 : ∀ p : BehW w1, p.w.cell? ⟨b, 3, none⟩ = some (.int .i64 a) := fun p => ((EB.out.keep p.h).cell 3).trans rfl
  have s4 : ∀ p : BehW w1, p.w.cell? ⟨b, 4, none⟩ = some (.int .i64 0) := fun p => ((EB.out.keep p.h).cell 4).trans rfl
  have bz : (id == 0) = false := beq_eq_false_iff_ne.2 HE0.out
  have HG : Hid (∀ p : BehW w1, Calls Try.prog 79 #[.agg #[.int .i64 F.cap, .slice A1 F.n1 c1, .slice A2 F.n2 c2], .int .i64 id] p.w fun e w' => e = .returned (.tuple #[.int .i64 (posT F.n1 F.f1 id : Nat), .bool true]) ∧ Below p.w.heap.size p.w w') := Lib.hid fun p => HE1.out ▸ c_groupP F.cap A1 A2 F.n1 c1 F.n2 c2 F.f1 _ p.w (T.out.keep p.h).g (by omega) HR.out.r1
  obtain ⟨hm2, ehm⟩ : ∃ x, hasId F.n2 F.f2 id = x := ⟨_, rfl⟩
  have EHM := Lib.hid ehm
  clear ehm
  have HM : Hid (∀ p : BehW w1, Calls Try.prog 80 #[.agg #[.int .i64 F.cap, .slice A1 F.n1 c1, .slice A2 F.n2 c2], .int .i64 id] p.w fun e w' => e = .returned (.tuple #[.int .i64 (posT F.n2 F.f2 id : Nat), .bool hm2]) ∧ Below p.w.heap.size p.w w') := Lib.hid fun p => EHM.out ▸ c_memberP F.cap A1 A2 F.n1 c1 F.n2 c2 F.f2 _ p.w (T.out.keep p.h).m (by omega) HR.out.r2
  refine wp_region_beh (by kernel_rfl) (by kernel_rfl) ?_
  repeat (go_big_quiet_step ((first | (go_at_call 79; exact beh_below (HG.out _)) | fail)))
  refine wpQuiet_nil ?_
  intro _ hw'
  obtain ⟨q1, hw''⟩ := hw'
  subst hw''
  go_upto_region 2 with fail
  refine wp_region_behq q1 (by kernel_rfl) (by kernel_rfl) ?_
  repeat (go_big_quiet_step ((first | (go_at_call 80; exact beh_below (HM.out _)) | fail)))
  refine wpQuiet_nil ?_
  intro _ hw'
  obtain ⟨q2, hw''⟩ := hw'
  subst hw''
  go_upto_region 15 with fail
  generalize hq : q2.w = w2 at *
  have hbq := q2.h
  rw [hq] at hbq
  have KQ := Lib.hid hbq
  clear hbq hq
  have KE := Lib.hid (EB.out.keep KQ.out)
  have KF := Lib.hid (FB.out.keep KQ.out)
  have KG := Lib.hid (G1.out.keep KQ.out)
  have KM := Lib.hid (M1.out.keep KQ.out)
  have HZ := Lib.hid (show b < w2.heap.size from (EB.out.keep KQ.out).lt)
  have HQ := Lib.hid (show Below B w1 w2 from KQ.out.mono (by have := EB.out.lt; omega))
  have hpp := has_at HR.out.r1 HE1.out
  have hed := Lib.hid (show edF F 8 id 0 a 0 = { F with f1 := setT (posT F.n1 F.f1 id) 2 a F.f1 } from if_neg HE0.out)
  generalize posT F.n1 F.f1 id = pp at *
  have hp := hpp.1
  clear hpp
  obtain ⟨h', _⟩ | ⟨gk, ck, cur, h', hgb, hgl, hgg, -⟩ := KG.out.form
  · simp only [Value.slice.injEq] at h'; omega
  simp only [Value.slice.injEq] at h'
  obtain ⟨rfl, -, rfl⟩ := h'
  have hne1 : gk ≠ fb := fun e => KG.out.neBlk KF.out (by decide) (by rw [e]; rfl)
  have hne2 : gk ≠ b := fun e => by have := LG.out gk rfl; omega
  have hp0 : (0 : Int) ≤ (pp : Int) := by omega
  have hp1 : (pp : Int) < (F.n1 : Int) := by omega
  have x1 := (KF.out.cell 1).trans rfl
  have x2 := (KE.out.cell 3).trans rfl
  have x3 := KG.out.cell (i := pp) (j := 2) hp (by decide)
  have f3 := (show Blk w2 B gk cur 114 from ⟨hgb, hgg⟩).frozen (pp * 4 + 2)
  have NO := Lib.hid (show (.slice A2 F.n2 c2 : Value).ownBlock ≠ some gk from fun e => KG.out.ne KM.out (by decide) rfl e)
  have HP := Lib.hid hp
  clear t0 t1 t2 s0 s1 s2 s3 s4 hgg hp
  have F4 := Lib.hid (KF.out.drew.setf (p := ⟨gk, pp * 4 + 2, none⟩) (Ne.symm hne1) (.int .i64 a))
  have T4 := Lib.hid ((show OwnT 114 w2.drew B (.slice (some ⟨gk, 0, none⟩) F.n1 c1) F.n1 F.f1 from KG.out).setAt (j := 2) HP.out (by decide) a)
  have O4 := Lib.hid ((show OwnT 91 w2.drew B (.slice A2 F.n2 c2) F.n2 F.f2 from KM.out).setf (p := ⟨gk, pp * 4 + 2, none⟩) NO.out (.int .i64 a))
  have FI : Hid (FarmIn (w2.drew.setCell ⟨gk, pp * 4 + 2, none⟩ (.int .i64 a)) B fb (edF F 8 id 0 a 0)) := Lib.hid (by rw [hed.out]; exact ⟨_, _, F4.out, T4.out, O4.out⟩)
  have BF := Lib.hid (show Below B w1 (w2.drew.setCell ⟨gk, pp * 4 + 2, none⟩ (.int .i64 a)) from (HQ.out.drew).setCell (p := ⟨gk, pp * 4 + 2, none⟩) hgb (.int .i64 a))
  go_region
  go_wp2_with fail
  go_ret
  exact ⟨by rw [hec.out]; rfl, (HB.out.mono (by rw [HBB.out]; exact hB)).trans BF.out, fun _ => FI.out⟩
end Go.Proofs.Ytipkbapnhgdpeaa.C
