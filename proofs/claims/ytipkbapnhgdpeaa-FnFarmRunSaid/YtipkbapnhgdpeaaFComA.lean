/- Comes, way by way. No condition. -/
import Derived.Test.YtipkbapnhgdpeaaFCom
import Derived.Test.YtipkbapnhgdpeaaFin
namespace Go.Proofs.Ytipkbapnhgdpeaa.C
open Go.RowKit
set_option maxRecDepth 100000
set_option linter.unusedVariables false
set_option linter.unusedSimpArgs false
attribute [local go_sem ↓] Go.wp_at_zero Go.wp_at_succ
set_option maxHeartbeats 1000000 in
theorem c_comes_join_there {F : Fm} {id g a c : Int} {B fb : Nat} {w : World} (h : FarmIn w B fb F) (hr : Right F) (hB : B ≤ w.heap.size) (e0 : hasId F.n2 F.f2 id = true) :
    Calls Try.prog 130 #[.pointer (some ⟨fb, 0, none⟩), .agg #[.int .i64 1, .int .i64 id, .int .i64 g, .int .i64 a, .int .i64 c]] w (EdOut F 1 id g a c B fb w) := by
  obtain ⟨vg, vm, hBk, hG, hM⟩ := h
  obtain ⟨A1, c1, rfl, hc1, hT1⟩ := hG.tab
  obtain ⟨A2, c2, rfl, hc2, hT2⟩ := hM.tab
  have hal := (Below.refl w.heap.size w).alloc (Nat.le_refl _) (.cells #[.int .i64 1, .int .i64 id, .int .i64 g, .int .i64 a, .int .i64 c] 56)
  have FB := Lib.hid (hBk.keep hal)
  have EB := Lib.hid (Blk.new (w := w) (B := 0) (Nat.zero_le _) #[.int .i64 1, .int .i64 id, .int .i64 g, .int .i64 a, .int .i64 c] 56)
  have T := Lib.hid ((⟨hT1, hT2⟩ : FarmAt w A1 F.n1 F.f1 A2 F.n2 F.f2).keep hal)
  have G1 := Lib.hid (hG.keep hal)
  have M1 := Lib.hid (hM.keep hal)
  have HL := Lib.hid (show fb < w.heap.size from hBk.lt)
  have LG := Lib.hid (show ∀ k, (Value.slice A1 F.n1 c1).ownBlock = some k → k < w.heap.size from fun k e => (World.ownsRow.lt hG k e).2)
  have LM := Lib.hid (show ∀ k, (Value.slice A2 F.n2 c2).ownBlock = some k → k < w.heap.size from fun k e => (World.ownsRow.lt hM k e).2)
  have HB := Lib.hid hal
  have HR := Lib.hid hr
  have hl1 := hr.l1
  have hl2 := hr.l2
  clear hr hal hBk hG hM hT1 hT2
  have hec := Lib.hid (show edC F 1 id g a c = 5 by unfold edC; rw [if_pos rfl, if_pos e0])
  have HE0 := Lib.hid e0
  clear e0
  go_enter Try.func130, Try.ntmps130
  go_upto_region 1 with fail
  generalize w.alloc (.cells #[.int .i64 1, .int .i64 id, .int .i64 g, .int .i64 a, .int .i64 c] 56) = w1 at *
  obtain ⟨b, hbb⟩ : ∃ b, w.heap.size = b := ⟨_, rfl⟩
  have HBB := Lib.hid hbb
  rw [hbb] at EB HL LG LM hB ⊢
  clear hbb
  have t0 : ∀ p : BehW w1, p.w.cell? ⟨fb, 0, none⟩ = some (.int .i64 F.cap) := fun p => ((FB.out.keep p.h).cell 0).trans rfl
  have t1 : ∀ p : BehW w1, p.w.cell? ⟨fb, 1, none⟩ = some (.slice A1 F.n1 c1) := fun p => ((FB.out.keep p.h).cell 1).trans rfl
  have t2 : ∀ p : BehW w1, p.w.cell? ⟨fb, 2, none⟩ = some (.slice A2 F.n2 c2) := fun p => ((FB.out.keep p.h).cell 2).trans rfl
  have s0 : ∀ p : BehW w1, p.w.cell? ⟨b, 0, none⟩ = some (.int .i64 1) := fun p => ((EB.out.keep p.h).cell 0).trans rfl
  have s1 : ∀ p : BehW w1, p.w.cell? ⟨b, 1, none⟩ = some (.int .i64 id) := fun p => ((EB.out.keep p.h).cell 1).trans rfl
  have s2 : ∀ p : BehW w1, p.w.cell? ⟨b, 2, none⟩ = some (.int .i64 g) := fun p => ((EB.out.keep p.h).cell 2).trans rfl
  have s3 : ∀ p : BehW w1, p.w.cell? ⟨b, 3, none⟩ = some (.int .i64 a) := fun p => ((EB.out.keep p.h).cell 3).trans rfl
  have s4 : ∀ p : BehW w1, p.w.cell? ⟨b, 4, none⟩ = some (.int .i64 c) := fun p => ((EB.out.keep p.h).cell 4).trans rfl
  have HM : Hid (∀ p : BehW w1, Calls Try.prog 80 #[.agg #[.int .i64 F.cap, .slice A1 F.n1 c1, .slice A2 F.n2 c2], .int .i64 id] p.w fun e w' => e = .returned (.tuple #[.int .i64 (posT F.n2 F.f2 id : Nat), .bool true]) ∧ Below p.w.heap.size p.w w') := Lib.hid fun p => HE0.out ▸ c_memberP F.cap A1 A2 F.n1 c1 F.n2 c2 F.f2 _ p.w (T.out.keep p.h).m (by omega) HR.out.r2
  refine wp_region_beh (by kernel_rfl) (by kernel_rfl) ?_
  repeat (go_big_quiet_step ((first | (go_at_call 80; exact beh_below (HM.out _)) | fail)))
  refine wpQuiet_nil ?_
  intro _ hw'
  obtain ⟨q1, hw''⟩ := hw'
  subst hw''
  go_wp2_with fail
  go_ret
  exact EdOut.no (by rw [HBB.out]; exact hB) hec.out (by decide) (HB.out.trans (q1.h.mono (by rw [HBB.out]; exact Nat.le_of_lt EB.out.lt)))
set_option maxHeartbeats 1000000 in
theorem c_comes_join_none {F : Fm} {id g a c : Int} {B fb : Nat} {w : World} (h : FarmIn w B fb F) (hr : Right F) (hB : B ≤ w.heap.size) (e0 : hasId F.n2 F.f2 id = false) (e1 : hasG F g = false) :
    Calls Try.prog 130 #[.pointer (some ⟨fb, 0, none⟩), .agg #[.int .i64 1, .int .i64 id, .int .i64 g, .int .i64 a, .int .i64 c]] w (EdOut F 1 id g a c B fb w) := by
  obtain ⟨vg, vm, hBk, hG, hM⟩ := h
  obtain ⟨A1, c1, rfl, hc1, hT1⟩ := hG.tab
  obtain ⟨A2, c2, rfl, hc2, hT2⟩ := hM.tab
  have hal := (Below.refl w.heap.size w).alloc (Nat.le_refl _) (.cells #[.int .i64 1, .int .i64 id, .int .i64 g, .int .i64 a, .int .i64 c] 56)
  have FB := Lib.hid (hBk.keep hal)
  have EB := Lib.hid (Blk.new (w := w) (B := 0) (Nat.zero_le _) #[.int .i64 1, .int .i64 id, .int .i64 g, .int .i64 a, .int .i64 c] 56)
  have T := Lib.hid ((⟨hT1, hT2⟩ : FarmAt w A1 F.n1 F.f1 A2 F.n2 F.f2).keep hal)
  have G1 := Lib.hid (hG.keep hal)
  have M1 := Lib.hid (hM.keep hal)
  have HL := Lib.hid (show fb < w.heap.size from hBk.lt)
  have LG := Lib.hid (show ∀ k, (Value.slice A1 F.n1 c1).ownBlock = some k → k < w.heap.size from fun k e => (World.ownsRow.lt hG k e).2)
  have LM := Lib.hid (show ∀ k, (Value.slice A2 F.n2 c2).ownBlock = some k → k < w.heap.size from fun k e => (World.ownsRow.lt hM k e).2)
  have HB := Lib.hid hal
  have HR := Lib.hid hr
  have hl1 := hr.l1
  have hl2 := hr.l2
  clear hr hal hBk hG hM hT1 hT2
  have hec := Lib.hid (show edC F 1 id g a c = 4 by unfold edC; rw [if_pos rfl, if_neg (by rw [e0]; decide), if_pos e1])
  have HE0 := Lib.hid e0
  have HE1 := Lib.hid e1
  clear e0 e1
  go_enter Try.func130, Try.ntmps130
  go_upto_region 1 with fail
  generalize w.alloc (.cells #[.int .i64 1, .int .i64 id, .int .i64 g, .int .i64 a, .int .i64 c] 56) = w1 at *
  obtain ⟨b, hbb⟩ : ∃ b, w.heap.size = b := ⟨_, rfl⟩
  have HBB := Lib.hid hbb
  rw [hbb] at EB HL LG LM hB ⊢
  clear hbb
  have t0 : ∀ p : BehW w1, p.w.cell? ⟨fb, 0, none⟩ = some (.int .i64 F.cap) := fun p => ((FB.out.keep p.h).cell 0).trans rfl
  have t1 : ∀ p : BehW w1, p.w.cell? ⟨fb, 1, none⟩ = some (.slice A1 F.n1 c1) := fun p => ((FB.out.keep p.h).cell 1).trans rfl
  have t2 : ∀ p : BehW w1, p.w.cell? ⟨fb, 2, none⟩ = some (.slice A2 F.n2 c2) := fun p => ((FB.out.keep p.h).cell 2).trans rfl
  have s0 : ∀ p : BehW w1, p.w.cell? ⟨b, 0, none⟩ = some (.int .i64 1) := fun p => ((EB.out.keep p.h).cell 0).trans rfl
  have s1 : ∀ p : BehW w1, p.w.cell? ⟨b, 1, none⟩ = some (.int .i64 id) := fun p => ((EB.out.keep p.h).cell 1).trans rfl
  have s2 : ∀ p : BehW w1, p.w.cell? ⟨b, 2, none⟩ = some (.int .i64 g) := fun p => ((EB.out.keep p.h).cell 2).trans rfl
  have s3 : ∀ p : BehW w1, p.w.cell? ⟨b, 3, none⟩ = some (.int .i64 a) := fun p => ((EB.out.keep p.h).cell 3).trans rfl
  have s4 : ∀ p : BehW w1, p.w.cell? ⟨b, 4, none⟩ = some (.int .i64 c) := fun p => ((EB.out.keep p.h).cell 4).trans rfl
  have HH : Hid (∀ p : BehW w1, Calls Try.prog 83 #[.agg #[.int .i64 F.cap, .slice A1 F.n1 c1, .slice A2 F.n2 c2], .int .i64 g] p.w fun e w' => e = .returned (.bool false) ∧ Below p.w.heap.size p.w w') := Lib.hid fun p => HE1.out ▸ c_hasGroup F.cap A1 A2 F.n1 c1 F.n2 c2 F.f1 _ p.w (T.out.keep p.h).g (by omega) HR.out.r1
  have HM : Hid (∀ p : BehW w1, Calls Try.prog 80 #[.agg #[.int .i64 F.cap, .slice A1 F.n1 c1, .slice A2 F.n2 c2], .int .i64 id] p.w fun e w' => e = .returned (.tuple #[.int .i64 (posT F.n2 F.f2 id : Nat), .bool false]) ∧ Below p.w.heap.size p.w w') := Lib.hid fun p => HE0.out ▸ c_memberP F.cap A1 A2 F.n1 c1 F.n2 c2 F.f2 _ p.w (T.out.keep p.h).m (by omega) HR.out.r2
  refine wp_region_beh (by kernel_rfl) (by kernel_rfl) ?_
  repeat (go_big_quiet_step ((first | (go_at_call 80; exact beh_below (HM.out _)) | fail)))
  refine wpQuiet_nil ?_
  intro _ hw'
  obtain ⟨q1, hw''⟩ := hw'
  subst hw''
  go_upto_region 7 with fail
  refine wp_region_behq q1 (by kernel_rfl) (by kernel_rfl) ?_
  repeat (go_big_quiet_step ((first | (go_at_call 83; exact beh_below (HH.out _)) | fail)))
  refine wpQuiet_nil ?_
  intro _ hw'
  obtain ⟨q2, hw''⟩ := hw'
  subst hw''
  go_wp2_with fail
  go_ret
  exact EdOut.no (by rw [HBB.out]; exact hB) hec.out (by decide) (HB.out.trans (q2.h.mono (by rw [HBB.out]; exact Nat.le_of_lt EB.out.lt)))
set_option maxHeartbeats 1000000 in
theorem c_comes_join_full {F : Fm} {id g a c : Int} {B fb : Nat} {w : World} (h : FarmIn w B fb F) (hr : Right F) (hB : B ≤ w.heap.size) (e0 : hasId F.n2 F.f2 id = false) (e1 : hasG F g = true) (e2 : F.n2 = 60) :
    Calls Try.prog 130 #[.pointer (some ⟨fb, 0, none⟩), .agg #[.int .i64 1, .int .i64 id, .int .i64 g, .int .i64 a, .int .i64 c]] w (EdOut F 1 id g a c B fb w) := by
  obtain ⟨vg, vm, hBk, hG, hM⟩ := h
  obtain ⟨A1, c1, rfl, hc1, hT1⟩ := hG.tab
  obtain ⟨A2, c2, rfl, hc2, hT2⟩ := hM.tab
  have hal := (Below.refl w.heap.size w).alloc (Nat.le_refl _) (.cells #[.int .i64 1, .int .i64 id, .int .i64 g, .int .i64 a, .int .i64 c] 56)
  have FB := Lib.hid (hBk.keep hal)
  have EB := Lib.hid (Blk.new (w := w) (B := 0) (Nat.zero_le _) #[.int .i64 1, .int .i64 id, .int .i64 g, .int .i64 a, .int .i64 c] 56)
  have T := Lib.hid ((⟨hT1, hT2⟩ : FarmAt w A1 F.n1 F.f1 A2 F.n2 F.f2).keep hal)
  have G1 := Lib.hid (hG.keep hal)
  have M1 := Lib.hid (hM.keep hal)
  have HL := Lib.hid (show fb < w.heap.size from hBk.lt)
  have LG := Lib.hid (show ∀ k, (Value.slice A1 F.n1 c1).ownBlock = some k → k < w.heap.size from fun k e => (World.ownsRow.lt hG k e).2)
  have LM := Lib.hid (show ∀ k, (Value.slice A2 F.n2 c2).ownBlock = some k → k < w.heap.size from fun k e => (World.ownsRow.lt hM k e).2)
  have HB := Lib.hid hal
  have HR := Lib.hid hr
  have hl1 := hr.l1
  have hl2 := hr.l2
  clear hr hal hBk hG hM hT1 hT2
  have hec := Lib.hid (show edC F 1 id g a c = 6 by unfold edC; rw [if_pos rfl, if_neg (by rw [e0]; decide), if_neg (by rw [e1]; decide), if_pos e2])
  have HE0 := Lib.hid e0
  have HE1 := Lib.hid e1
  have HE2 := Lib.hid e2
  clear e0 e1 e2
  go_enter Try.func130, Try.ntmps130
  go_upto_region 1 with fail
  generalize w.alloc (.cells #[.int .i64 1, .int .i64 id, .int .i64 g, .int .i64 a, .int .i64 c] 56) = w1 at *
  obtain ⟨b, hbb⟩ : ∃ b, w.heap.size = b := ⟨_, rfl⟩
  have HBB := Lib.hid hbb
  rw [hbb] at EB HL LG LM hB ⊢
  clear hbb
  have t0 : ∀ p : BehW w1, p.w.cell? ⟨fb, 0, none⟩ = some (.int .i64 F.cap) := fun p => ((FB.out.keep p.h).cell 0).trans rfl
  have t1 : ∀ p : BehW w1, p.w.cell? ⟨fb, 1, none⟩ = some (.slice A1 F.n1 c1) := fun p => ((FB.out.keep p.h).cell 1).trans rfl
  have t2 : ∀ p : BehW w1, p.w.cell? ⟨fb, 2, none⟩ = some (.slice A2 F.n2 c2) := fun p => ((FB.out.keep p.h).cell 2).trans rfl
  have s0 : ∀ p : BehW w1, p.w.cell? ⟨b, 0, none⟩ = some (.int .i64 1) := fun p => ((EB.out.keep p.h).cell 0).trans rfl
  have s1 : ∀ p : BehW w1, p.w.cell? ⟨b, 1, none⟩ = some (.int .i64 id) := fun p => ((EB.out.keep p.h).cell 1).trans rfl
  have s2 : ∀ p : BehW w1, p.w.cell? ⟨b, 2, none⟩ = some (.int .i64 g) := fun p => ((EB.out.keep p.h).cell 2).trans rfl
  have s3 : ∀ p : BehW w1, p.w.cell? ⟨b, 3, none⟩ = some (.int .i64 a) := fun p => ((EB.out.keep p.h).cell 3).trans rfl
  have s4 : ∀ p : BehW w1, p.w.cell? ⟨b, 4, none⟩ = some (.int .i64 c) := fun p => ((EB.out.keep p.h).cell 4).trans rfl
  have HH : Hid (∀ p : BehW w1, Calls Try.prog 83 #[.agg #[.int .i64 F.cap, .slice A1 F.n1 c1, .slice A2 F.n2 c2], .int .i64 g] p.w fun e w' => e = .returned (.bool true) ∧ Below p.w.heap.size p.w w') := Lib.hid fun p => HE1.out ▸ c_hasGroup F.cap A1 A2 F.n1 c1 F.n2 c2 F.f1 _ p.w (T.out.keep p.h).g (by omega) HR.out.r1
  have HM : Hid (∀ p : BehW w1, Calls Try.prog 80 #[.agg #[.int .i64 F.cap, .slice A1 F.n1 c1, .slice A2 F.n2 c2], .int .i64 id] p.w fun e w' => e = .returned (.tuple #[.int .i64 (posT F.n2 F.f2 id : Nat), .bool false]) ∧ Below p.w.heap.size p.w w') := Lib.hid fun p => HE0.out ▸ c_memberP F.cap A1 A2 F.n1 c1 F.n2 c2 F.f2 _ p.w (T.out.keep p.h).m (by omega) HR.out.r2
  refine wp_region_beh (by kernel_rfl) (by kernel_rfl) ?_
  repeat (go_big_quiet_step ((first | (go_at_call 80; exact beh_below (HM.out _)) | fail)))
  refine wpQuiet_nil ?_
  intro _ hw'
  obtain ⟨q1, hw''⟩ := hw'
  subst hw''
  go_upto_region 7 with fail
  refine wp_region_behq q1 (by kernel_rfl) (by kernel_rfl) ?_
  repeat (go_big_quiet_step ((first | (go_at_call 83; exact beh_below (HH.out _)) | fail)))
  refine wpQuiet_nil ?_
  intro _ hw'
  obtain ⟨q2, hw''⟩ := hw'
  subst hw''
  have bf : ((F.n2 : Int) == 60) = true := by rw [HE2.out]; rfl
  go_wp2_with fail
  go_ret
  exact EdOut.no (by rw [HBB.out]; exact hB) hec.out (by decide) (HB.out.trans (q2.h.mono (by rw [HBB.out]; exact Nat.le_of_lt EB.out.lt)))
set_option maxHeartbeats 1000000 in
theorem c_comes_join_go {F : Fm} {id g a c : Int} {B fb : Nat} {w : World} (h : FarmIn w B fb F) (hr : Right F) (hB : B ≤ w.heap.size) (e0 : hasId F.n2 F.f2 id = false) (e1 : hasG F g = true) (e2 : F.n2 ≠ 60) :
    Calls Try.prog 130 #[.pointer (some ⟨fb, 0, none⟩), .agg #[.int .i64 1, .int .i64 id, .int .i64 g, .int .i64 a, .int .i64 c]] w (EdOut F 1 id g a c B fb w) := by
  obtain ⟨vg, vm, hBk, hG, hM⟩ := h
  obtain ⟨A1, c1, rfl, hc1, hT1⟩ := hG.tab
  obtain ⟨A2, c2, rfl, hc2, hT2⟩ := hM.tab
  have hal := (Below.refl w.heap.size w).alloc (Nat.le_refl _) (.cells #[.int .i64 1, .int .i64 id, .int .i64 g, .int .i64 a, .int .i64 c] 56)
  have FB := Lib.hid (hBk.keep hal)
  have EB := Lib.hid (Blk.new (w := w) (B := 0) (Nat.zero_le _) #[.int .i64 1, .int .i64 id, .int .i64 g, .int .i64 a, .int .i64 c] 56)
  have T := Lib.hid ((⟨hT1, hT2⟩ : FarmAt w A1 F.n1 F.f1 A2 F.n2 F.f2).keep hal)
  have G1 := Lib.hid (hG.keep hal)
  have M1 := Lib.hid (hM.keep hal)
  have HL := Lib.hid (show fb < w.heap.size from hBk.lt)
  have LG := Lib.hid (show ∀ k, (Value.slice A1 F.n1 c1).ownBlock = some k → k < w.heap.size from fun k e => (World.ownsRow.lt hG k e).2)
  have LM := Lib.hid (show ∀ k, (Value.slice A2 F.n2 c2).ownBlock = some k → k < w.heap.size from fun k e => (World.ownsRow.lt hM k e).2)
  have HB := Lib.hid hal
  have HR := Lib.hid hr
  have hl1 := hr.l1
  have hl2 := hr.l2
  clear hr hal hBk hG hM hT1 hT2
  have hec := Lib.hid (show edC F 1 id g a c = 0 by unfold edC; rw [if_pos rfl, if_neg (by rw [e0]; decide), if_neg (by rw [e1]; decide), if_neg e2])
  have HE0 := Lib.hid e0
  have HE1 := Lib.hid e1
  have HE2 := Lib.hid e2
  clear e0 e1 e2
  go_enter Try.func130, Try.ntmps130
  go_upto_region 1 with fail
  generalize w.alloc (.cells #[.int .i64 1, .int .i64 id, .int .i64 g, .int .i64 a, .int .i64 c] 56) = w1 at *
  obtain ⟨b, hbb⟩ : ∃ b, w.heap.size = b := ⟨_, rfl⟩
  have HBB := Lib.hid hbb
  rw [hbb] at EB HL LG LM hB ⊢
  clear hbb
  have t0 : ∀ p : BehW w1, p.w.cell? ⟨fb, 0, none⟩ = some (.int .i64 F.cap) := fun p => ((FB.out.keep p.h).cell 0).trans rfl
  have t1 : ∀ p : BehW w1, p.w.cell? ⟨fb, 1, none⟩ = some (.slice A1 F.n1 c1) := fun p => ((FB.out.keep p.h).cell 1).trans rfl
  have t2 : ∀ p : BehW w1, p.w.cell? ⟨fb, 2, none⟩ = some (.slice A2 F.n2 c2) := fun p => ((FB.out.keep p.h).cell 2).trans rfl
  have s0 : ∀ p : BehW w1, p.w.cell? ⟨b, 0, none⟩ = some (.int .i64 1) := fun p => ((EB.out.keep p.h).cell 0).trans rfl
  have s1 : ∀ p : BehW w1, p.w.cell? ⟨b, 1, none⟩ = some (.int .i64 id) := fun p => ((EB.out.keep p.h).cell 1).trans rfl
  have s2 : ∀ p : BehW w1, p.w.cell? ⟨b, 2, none⟩ = some (.int .i64 g) := fun p => ((EB.out.keep p.h).cell 2).trans rfl
  have s3 : ∀ p : BehW w1, p.w.cell? ⟨b, 3, none⟩ = some (.int .i64 a) := fun p => ((EB.out.keep p.h).cell 3).trans rfl
  have s4 : ∀ p : BehW w1, p.w.cell? ⟨b, 4, none⟩ = some (.int .i64 c) := fun p => ((EB.out.keep p.h).cell 4).trans rfl
  have HH : Hid (∀ p : BehW w1, Calls Try.prog 83 #[.agg #[.int .i64 F.cap, .slice A1 F.n1 c1, .slice A2 F.n2 c2], .int .i64 g] p.w fun e w' => e = .returned (.bool true) ∧ Below p.w.heap.size p.w w') := Lib.hid fun p => HE1.out ▸ c_hasGroup F.cap A1 A2 F.n1 c1 F.n2 c2 F.f1 _ p.w (T.out.keep p.h).g (by omega) HR.out.r1
  have HM : Hid (∀ p : BehW w1, Calls Try.prog 80 #[.agg #[.int .i64 F.cap, .slice A1 F.n1 c1, .slice A2 F.n2 c2], .int .i64 id] p.w fun e w' => e = .returned (.tuple #[.int .i64 (posT F.n2 F.f2 id : Nat), .bool false]) ∧ Below p.w.heap.size p.w w') := Lib.hid fun p => HE0.out ▸ c_memberP F.cap A1 A2 F.n1 c1 F.n2 c2 F.f2 _ p.w (T.out.keep p.h).m (by omega) HR.out.r2
  refine wp_region_beh (by kernel_rfl) (by kernel_rfl) ?_
  repeat (go_big_quiet_step ((first | (go_at_call 80; exact beh_below (HM.out _)) | fail)))
  refine wpQuiet_nil ?_
  intro _ hw'
  obtain ⟨q1, hw''⟩ := hw'
  subst hw''
  go_upto_region 7 with fail
  refine wp_region_behq q1 (by kernel_rfl) (by kernel_rfl) ?_
  repeat (go_big_quiet_step ((first | (go_at_call 83; exact beh_below (HH.out _)) | fail)))
  refine wpQuiet_nil ?_
  intro _ hw'
  obtain ⟨q2, hw''⟩ := hw'
  subst hw''
  have bf : ((F.n2 : Int) == 60) = false := by have := HE2.out; exact beq_eq_false_iff_ne.2 (by omega)
  go_upto_region 12 with fail
  clear bf
  generalize hq : q2.w = w2 at *
  have hbq := q2.h
  rw [hq] at hbq
  have KQ := Lib.hid hbq
  clear hbq hq
  have KE := Lib.hid (EB.out.keep KQ.out)
  have KF := Lib.hid (FB.out.keep KQ.out)
  have KT := Lib.hid (M1.out.keep KQ.out)
  have KO := Lib.hid (G1.out.keep KQ.out)
  have HZ := Lib.hid (show b < w2.heap.size from (EB.out.keep KQ.out).lt)
  have hS : ∀ w' : World, Blk w' 0 b #[.int .i64 1, .int .i64 id, .int .i64 g, .int .i64 a, .int .i64 c] 56 → Blk w' B fb #[.int .i64 F.cap, .slice A1 F.n1 c1, .slice A2 F.n2 c2] 34 → (w'.cell? ⟨b, 1, none⟩ = some (.int .i64 id) ∧ w'.cell? ⟨b, 2, none⟩ = some (.int .i64 g) ∧ w'.cell? ⟨b, 3, none⟩ = some (.int .i64 a) ∧ w'.cell? ⟨b, 4, none⟩ = some (.int .i64 c) ∧ w'.cell? ⟨fb, 2, none⟩ = some (.slice A2 F.n2 c2) ∧ w'.frozen? ⟨fb, 2, none⟩ = false) := fun w' h1 h2 => ⟨(h1.cell 1).trans rfl, (h1.cell 2).trans rfl, (h1.cell 3).trans rfl, (h1.cell 4).trans rfl, (h2.cell 2).trans rfl, h2.frozen 2⟩
  have HS := Lib.hid hS
  clear hS
  have hp := Lib.hid (posT_pos HR.out.r2 id).1
  have hed := Lib.hid (show edF F 1 id g a c = { F with n2 := F.n2 + 1, f2 := insT (posT F.n2 F.f2 id) (r4 id g a c) F.f2 } from rfl)
  generalize posT F.n2 F.f2 id = pp at *
  have hal := (Below.refl w2.heap.size w2.drew).alloc (Nat.le_refl _) (.cells #[.int .i64 id, .int .i64 g, .int .i64 a, .int .i64 c] 91)
  have S0 : Hid ((fun w' => w'.cell? ⟨b, 1, none⟩ = some (.int .i64 id) ∧ w'.cell? ⟨b, 2, none⟩ = some (.int .i64 g) ∧ w'.cell? ⟨b, 3, none⟩ = some (.int .i64 a) ∧ w'.cell? ⟨b, 4, none⟩ = some (.int .i64 c) ∧ w'.cell? ⟨fb, 2, none⟩ = some (.slice A2 F.n2 c2) ∧ w'.frozen? ⟨fb, 2, none⟩ = false) w2.drew) := Lib.hid (HS.out _ KE.out.drew KF.out.drew)
  have KEA := Lib.hid (KE.out.keep ((Below.refl w2.heap.size w2).drew.alloc (Nat.le_refl _) (.cells #[.int .i64 id, .int .i64 g, .int .i64 a, .int .i64 c] 91)))
  have KFA := Lib.hid (KF.out.keep ((Below.refl w2.heap.size w2).drew.alloc (Nat.le_refl _) (.cells #[.int .i64 id, .int .i64 g, .int .i64 a, .int .i64 c] 91)))
  have S1 : Hid ((fun w' => w'.cell? ⟨b, 1, none⟩ = some (.int .i64 id) ∧ w'.cell? ⟨b, 2, none⟩ = some (.int .i64 g) ∧ w'.cell? ⟨b, 3, none⟩ = some (.int .i64 a) ∧ w'.cell? ⟨b, 4, none⟩ = some (.int .i64 c) ∧ w'.cell? ⟨fb, 2, none⟩ = some (.slice A2 F.n2 c2) ∧ w'.frozen? ⟨fb, 2, none⟩ = false) (w2.drew.alloc (.cells #[.int .i64 id, .int .i64 g, .int .i64 a, .int .i64 c] 91))) := Lib.hid (HS.out _ KEA.out KFA.out)
  have KX := Lib.hid (Blk.new (w := w2.drew) (B := 0) (Nat.zero_le _) #[.int .i64 id, .int .i64 g, .int .i64 a, .int .i64 c] 91)
  have KTA := Lib.hid (KT.out.keep ((Below.refl w2.heap.size w2).drew.alloc (Nat.le_refl _) (.cells #[.int .i64 id, .int .i64 g, .int .i64 a, .int .i64 c] 91)))
  have KOA := Lib.hid (KO.out.keep ((Below.refl w2.heap.size w2).drew.alloc (Nat.le_refl _) (.cells #[.int .i64 id, .int .i64 g, .int .i64 a, .int .i64 c] 91)))
  have NE := Lib.hid (show ((.slice A2 F.n2 c2 : Value).ownBlock ≠ some b) ∧ ((.slice A2 F.n2 c2 : Value).ownBlock ≠ some fb) ∧ ((.slice A2 F.n2 c2 : Value).ownBlock ≠ some w2.heap.size) from ⟨fun e => by have := LM.out b e; omega, KT.out.neBlk KF.out (by decide), fun e => by have := LM.out _ e; have := HZ.out; omega⟩)
  have NO := Lib.hid (show ∀ k, (.slice A1 F.n1 c1 : Value).ownBlock = some k → (.slice A2 F.n2 c2 : Value).ownBlock ≠ some k from fun k e => KO.out.ne KT.out (by decide) e)
  have BE := Lib.hid (show Below B w2 (w2.drew.alloc (.cells #[.int .i64 id, .int .i64 g, .int .i64 a, .int .i64 c] 91)) from ((Below.refl _ _).drew.alloc (show B ≤ w2.heap.size by have := HZ.out; omega) _))
  clear hal t0 t1 t2 s0 s1 s2 s3 s4
  refine wp_region_fin (fun w' => w'.cell? ⟨b, 1, none⟩ = some (.int .i64 id) ∧ w'.cell? ⟨b, 2, none⟩ = some (.int .i64 g) ∧ w'.cell? ⟨b, 3, none⟩ = some (.int .i64 a) ∧ w'.cell? ⟨b, 4, none⟩ = some (.int .i64 c) ∧ w'.cell? ⟨fb, 2, none⟩ = some (.slice A2 F.n2 c2) ∧ w'.frozen? ⟨fb, 2, none⟩ = false) 19 (by kernel_rfl) S0.out (fun hHeld => ?_)
  refine wpFin_take (i := 0) (v := ?_) (by kernel_rfl) rfl (by decide) (by kernel_rfl) (by kernel_rfl) (by kernel_rfl) (fun _ _ _ h => h) (Or.inl ⟨by rfl, ?_⟩) (by assumption) ?_
  rotate_left 1
  · (intro w hSw; (try dsimp only at hSw); go_simp; first | done | with_reducible rfl)
  try simp only [Act.put, List.setIfInBounds_toArray, List.set_cons_zero, List.set_cons_succ]
  refine wpFin_take (i := 1) (v := ?_) (by kernel_rfl) rfl (by decide) (by kernel_rfl) (by kernel_rfl) (by kernel_rfl) (fun _ _ _ h => h) (Or.inl ⟨by rfl, ?_⟩) (by assumption) ?_
  rotate_left 1
  · (intro w hSw; (try dsimp only at hSw); go_simp; first | done | with_reducible rfl)
  try simp only [Act.put, List.setIfInBounds_toArray, List.set_cons_zero, List.set_cons_succ]
  refine wpFin_take (i := 2) (v := ?_) (by kernel_rfl) rfl (by decide) (by kernel_rfl) (by kernel_rfl) (by kernel_rfl) (fun _ _ _ h => h) (Or.inl ⟨by rfl, ?_⟩) (by assumption) ?_
  rotate_left 1
  · (intro w hSw; (try dsimp only at hSw); go_simp; first | done | with_reducible rfl)
  try simp only [Act.put, List.setIfInBounds_toArray, List.set_cons_zero, List.set_cons_succ]
  refine wpFin_take (i := 3) (v := ?_) (by kernel_rfl) rfl (by decide) (by kernel_rfl) (by kernel_rfl) (by kernel_rfl) (fun _ _ _ h => h) (Or.inl ⟨by rfl, ?_⟩) (by assumption) ?_
  rotate_left 1
  · (intro w hSw; (try dsimp only at hSw); go_simp; first | done | with_reducible rfl)
  try simp only [Act.put, List.setIfInBounds_toArray, List.set_cons_zero, List.set_cons_succ]
  refine wpFin_take (i := 4) (v := ?_) (by kernel_rfl) rfl (by decide) (by kernel_rfl) (by kernel_rfl) (by kernel_rfl) (fun _ _ _ h => h) (Or.inl ⟨by rfl, ?_⟩) (by assumption) ?_
  rotate_left 1
  · (intro w hSw; (try dsimp only at hSw); go_simp; first | done | with_reducible rfl)
  try simp only [Act.put, List.setIfInBounds_toArray, List.set_cons_zero, List.set_cons_succ]
  refine wpFin_take (i := 5) (v := ?_) (by kernel_rfl) rfl (by decide) (by kernel_rfl) (by kernel_rfl) (by kernel_rfl) (fun _ _ _ h => h) (Or.inl ⟨by rfl, ?_⟩) (by assumption) ?_
  rotate_left 1
  · (intro w hSw; (try dsimp only at hSw); go_simp; first | done | with_reducible rfl)
  try simp only [Act.put, List.setIfInBounds_toArray, List.set_cons_zero, List.set_cons_succ]
  refine wpFin_take (i := 6) (v := ?_) (by kernel_rfl) rfl (by decide) (by kernel_rfl) (by kernel_rfl) (by kernel_rfl) (fun _ _ _ h => h) (Or.inl ⟨by rfl, ?_⟩) (by assumption) ?_
  rotate_left 1
  · (intro w hSw; (try dsimp only at hSw); go_simp; first | done | with_reducible rfl)
  try simp only [Act.put, List.setIfInBounds_toArray, List.set_cons_zero, List.set_cons_succ]
  refine wpFin_take (i := 7) (v := ?_) (by kernel_rfl) rfl (by decide) (by kernel_rfl) (by kernel_rfl) (by kernel_rfl) (fun _ _ _ h => h) (Or.inl ⟨by rfl, ?_⟩) (by assumption) ?_
  rotate_left 1
  · (intro w hSw; (try dsimp only at hSw); go_simp; first | done | with_reducible rfl)
  try simp only [Act.put, List.setIfInBounds_toArray, List.set_cons_zero, List.set_cons_succ]
  refine wpFin_take (i := 8) (v := ?_) (by kernel_rfl) rfl (by decide) (by kernel_rfl) (by kernel_rfl) (by kernel_rfl) (fun _ _ _ h => h) (Or.inl ⟨by rfl, ?_⟩) (by assumption) ?_
  rotate_left 1
  · (intro w hSw; (try dsimp only at hSw); go_simp; first | done | with_reducible rfl)
  try simp only [Act.put, List.setIfInBounds_toArray, List.set_cons_zero, List.set_cons_succ]
  refine wpFin_take (i := 9) (v := ?_) (by kernel_rfl) rfl (by decide) (by kernel_rfl) (by kernel_rfl) (by kernel_rfl) (fun _ _ _ h => h) (Or.inl ⟨by rfl, ?_⟩) (by assumption) ?_
  rotate_left 1
  · (intro w hSw; (try dsimp only at hSw); go_simp; first | done | with_reducible rfl)
  try simp only [Act.put, List.setIfInBounds_toArray, List.set_cons_zero, List.set_cons_succ]
  refine wpFin_take (i := 10) (v := ?_) (by kernel_rfl) rfl (by decide) (by kernel_rfl) (by kernel_rfl) (by kernel_rfl) (fun _ _ _ h => h) (Or.inl ⟨by rfl, ?_⟩) (by assumption) ?_
  rotate_left 1
  · (intro w hSw; (try dsimp only at hSw); go_simp; first | done | with_reducible rfl)
  try simp only [Act.put, List.setIfInBounds_toArray, List.set_cons_zero, List.set_cons_succ]
  refine wpFin_take (i := 11) (v := ?_) (by kernel_rfl) rfl (by decide) (by kernel_rfl) (by kernel_rfl) (by kernel_rfl) (fun _ _ _ h => h) (Or.inl ⟨by rfl, ?_⟩) (by assumption) ?_
  rotate_left 1
  · (intro w hSw; (try dsimp only at hSw); go_simp; first | done | with_reducible rfl)
  try simp only [Act.put, List.setIfInBounds_toArray, List.set_cons_zero, List.set_cons_succ]
  refine wpFin_take (i := 12) (v := ?_) (by kernel_rfl) rfl (by decide) (by kernel_rfl) (by kernel_rfl) (by kernel_rfl) (fun _ _ _ h => h) (Or.inl ⟨by rfl, ?_⟩) (by assumption) ?_
  rotate_left 1
  · (intro w hSw; (try dsimp only at hSw); go_simp; first | done | with_reducible rfl)
  try simp only [Act.put, List.setIfInBounds_toArray, List.set_cons_zero, List.set_cons_succ]
  refine wpFin_take (i := 13) (v := ?_) (by kernel_rfl) rfl (by decide) (by kernel_rfl) (by kernel_rfl) (by kernel_rfl) (fun _ _ _ h => h) (Or.inl ⟨by rfl, ?_⟩) (by assumption) ?_
  rotate_left 1
  · (intro w hSw; (try dsimp only at hSw); go_simp; first | done | with_reducible rfl)
  try simp only [Act.put, List.setIfInBounds_toArray, List.set_cons_zero, List.set_cons_succ]
  refine wpFin_take (i := 14) (v := ?_) (by kernel_rfl) rfl (by decide) (by kernel_rfl) (by kernel_rfl) (by kernel_rfl) (fun _ _ _ h => h) (Or.inl ⟨by rfl, ?_⟩) (by assumption) ?_
  rotate_left 1
  · (intro w hSw; (try dsimp only at hSw); go_simp; first | done | with_reducible rfl)
  try simp only [Act.put, List.setIfInBounds_toArray, List.set_cons_zero, List.set_cons_succ]
  refine wpFin_one (i := 15) (by kernel_rfl) rfl (fun K hK => ?_)
  go_simp
  refine hK.out _ _ (fun _ => S1.out) (fun hS => ?_)
  have hHeld := hS (by decide)
  clear hK K hS
  try simp only [Act.put, List.setIfInBounds_toArray, List.set_cons_zero, List.set_cons_succ]
  refine wpFin_one (i := 16) (by kernel_rfl) rfl (fun K hK => ?_)
  go_simp
  go_at_call 135
  refine (c_InsM _ F.n2 pp F.f2 (r4 id g a c) w2.heap.size B 0 _ KTA.out (by omega) hp.out KX.out NE.out.2.2 (by have := HZ.out; simp; omega)).mono ?_
  rintro e w3 ⟨v', rfl, hO, hgr⟩
  obtain ⟨A', c', rfl, -, -⟩ := OwnT.tab hO
  have KO3 := Lib.hid hO
  have KG3 := Lib.hid hgr
  have F3 := Lib.hid (KFA.out.grownO hgr NE.out.2.1)
  have S2 : Hid ((fun w' => w'.cell? ⟨b, 1, none⟩ = some (.int .i64 id) ∧ w'.cell? ⟨b, 2, none⟩ = some (.int .i64 g) ∧ w'.cell? ⟨b, 3, none⟩ = some (.int .i64 a) ∧ w'.cell? ⟨b, 4, none⟩ = some (.int .i64 c) ∧ w'.cell? ⟨fb, 2, none⟩ = some (.slice A2 F.n2 c2) ∧ w'.frozen? ⟨fb, 2, none⟩ = false) w3) := Lib.hid (HS.out _ (KEA.out.grownO hgr NE.out.1) F3.out)
  obtain ⟨-, -, -, -, sc, sf⟩ := S2.out
  clear hO hgr
  go_wp2_with fail
  refine hK.out _ _ (fun _ => S2.out) (fun hS => ?_)
  have hHeld := hS (by decide)
  clear hK K hS
  try simp only [Act.put, List.setIfInBounds_toArray, List.set_cons_zero, List.set_cons_succ]
  refine wpFin_one (i := 17) (by kernel_rfl) rfl (fun K hK => ?_)
  go_simp
  refine hK.out _ _ (fun _ => S2.out) (fun hS => ?_)
  clear hK K hS
  try simp only [Act.put, List.setIfInBounds_toArray, List.set_cons_zero, List.set_cons_succ]
  refine wpFin_take (i := 18) (v := ?_) (by kernel_rfl) rfl (by decide) (by kernel_rfl) (by kernel_rfl) (by kernel_rfl) (fun _ _ _ h => h) (Or.inl ⟨by rfl, ?_⟩) (by assumption) ?_
  rotate_left 1
  · (intro w hSw; (try dsimp only at hSw); go_simp; first | done | with_reducible rfl)
  try simp only [Act.put, List.setIfInBounds_toArray, List.set_cons_zero, List.set_cons_succ]
  refine wpFin_one (i := 19) (by kernel_rfl) rfl (fun K hK => ?_)
  go_simp
  refine hK.out _ _ (fun h => absurd rfl h) (fun hS => ?_)
  clear hK K hS
  try simp only [Act.put, List.setIfInBounds_toArray, List.set_cons_zero, List.set_cons_succ]
  refine wpFin_done (by kernel_rfl) ?_ _
  have F4 := Lib.hid ((F3.out.setc 2 (.slice A' (F.n2 + 1) c')).cast (ds := #[.int .i64 F.cap, .slice A1 F.n1 c1, (.slice A' (F.n2 + 1) c')]) (by simp only [List.setIfInBounds_toArray, List.set_cons_zero, List.set_cons_succ]))
  have O3 := Lib.hid (KOA.out.grown KG3.out NO.out)
  have N3 := Lib.hid (KO3.out.neBlk F3.out (by decide))
  have N4 := Lib.hid (O3.out.neBlk F3.out (by decide))
  have FI : Hid (FarmIn (w3.setCell ⟨fb, 2, none⟩ (.slice A' (F.n2 + 1) c')) B fb (edF F 1 id g a c)) := Lib.hid (by rw [hed.out]; exact ⟨_, _, F4.out, O3.out.setf (p := ⟨fb, 2, none⟩) N4.out (.slice A' (F.n2 + 1) c'), KO3.out.setf (p := ⟨fb, 2, none⟩) N3.out (.slice A' (F.n2 + 1) c')⟩)
  have BF := Lib.hid (show Below B w1 (w3.setCell ⟨fb, 2, none⟩ (.slice A' (F.n2 + 1) c')) from ((KQ.out.mono (by have := EB.out.lt; omega)).trans (BE.out.grown KG3.out (by have := HZ.out; simp; omega) (fun k hk => (World.ownsRow.lt KTA.out k hk).1))).setCell (p := ⟨fb, 2, none⟩) FB.out.1 (.slice A' (F.n2 + 1) c'))
  clear S0 S1 S2 sc sf hHeld
  go_wp2_with fail
  go_ret
  exact ⟨by rw [hec.out]; rfl, (HB.out.mono (by rw [HBB.out]; exact hB)).trans BF.out, fun _ => FI.out⟩
set_option maxHeartbeats 1000000 in
theorem c_comes_group_there {F : Fm} {id g a c : Int} {B fb : Nat} {w : World} (h : FarmIn w B fb F) (hr : Right F) (hB : B ≤ w.heap.size) (e0 : hasId F.n1 F.f1 id = true) :
    Calls Try.prog 130 #[.pointer (some ⟨fb, 0, none⟩), .agg #[.int .i64 6, .int .i64 id, .int .i64 g, .int .i64 a, .int .i64 c]] w (EdOut F 6 id g a c B fb w) := by
  obtain ⟨vg, vm, hBk, hG, hM⟩ := h
  obtain ⟨A1, c1, rfl, hc1, hT1⟩ := hG.tab
  obtain ⟨A2, c2, rfl, hc2, hT2⟩ := hM.tab
  have hal := (Below.refl w.heap.size w).alloc (Nat.le_refl _) (.cells #[.int .i64 6, .int .i64 id, .int .i64 g, .int .i64 a, .int .i64 c] 56)
  have FB := Lib.hid (hBk.keep hal)
  have EB := Lib.hid (Blk.new (w := w) (B := 0) (Nat.zero_le _) #[.int .i64 6, .int .i64 id, .int .i64 g, .int .i64 a, .int .i64 c] 56)
  have T := Lib.hid ((⟨hT1, hT2⟩ : FarmAt w A1 F.n1 F.f1 A2 F.n2 F.f2).keep hal)
  have G1 := Lib.hid (hG.keep hal)
  have M1 := Lib.hid (hM.keep hal)
  have HL := Lib.hid (show fb < w.heap.size from hBk.lt)
  have LG := Lib.hid (show ∀ k, (Value.slice A1 F.n1 c1).ownBlock = some k → k < w.heap.size from fun k e => (World.ownsRow.lt hG k e).2)
  have LM := Lib.hid (show ∀ k, (Value.slice A2 F.n2 c2).ownBlock = some k → k < w.heap.size from fun k e => (World.ownsRow.lt hM k e).2)
  have HB := Lib.hid hal
  have HR := Lib.hid hr
  have hl1 := hr.l1
  have hl2 := hr.l2
  clear hr hal hBk hG hM hT1 hT2
  have hec := Lib.hid (show edC F 6 id g a c = 5 by unfold edC; rw [if_neg (by decide), if_pos rfl, if_pos e0])
  have HE0 := Lib.hid e0
  clear e0
  go_enter Try.func130, Try.ntmps130
  go_upto_region 1 with fail
  generalize w.alloc (.cells #[.int .i64 6, .int .i64 id, .int .i64 g, .int .i64 a, .int .i64 c] 56) = w1 at *
  obtain ⟨b, hbb⟩ : ∃ b, w.heap.size = b := ⟨_, rfl⟩
  have HBB := Lib.hid hbb
  rw [hbb] at EB HL LG LM hB ⊢
  clear hbb
  have t0 : ∀ p : BehW w1, p.w.cell? ⟨fb, 0, none⟩ = some (.int .i64 F.cap) := fun p => ((FB.out.keep p.h).cell 0).trans rfl
  have t1 : ∀ p : BehW w1, p.w.cell? ⟨fb, 1, none⟩ = some (.slice A1 F.n1 c1) := fun p => ((FB.out.keep p.h).cell 1).trans rfl
  have t2 : ∀ p : BehW w1, p.w.cell? ⟨fb, 2, none⟩ = some (.slice A2 F.n2 c2) := fun p => ((FB.out.keep p.h).cell 2).trans rfl
  have s0 : ∀ p : BehW w1, p.w.cell? ⟨b, 0, none⟩ = some (.int .i64 6) := fun p => ((EB.out.keep p.h).cell 0).trans rfl
  have s1 : ∀ p : BehW w1, p.w.cell? ⟨b, 1, none⟩ = some (.int .i64 id) := fun p => ((EB.out.keep p.h).cell 1).trans rfl
  have s2 : ∀ p : BehW w1, p.w.cell? ⟨b, 2, none⟩ = some (.int .i64 g) := fun p => ((EB.out.keep p.h).cell 2).trans rfl
  have s3 : ∀ p : BehW w1, p.w.cell? ⟨b, 3, none⟩ = some (.int .i64 a) := fun p => ((EB.out.keep p.h).cell 3).trans rfl
  have s4 : ∀ p : BehW w1, p.w.cell? ⟨b, 4, none⟩ = some (.int .i64 c) := fun p => ((EB.out.keep p.h).cell 4).trans rfl
  obtain ⟨hm2, ehm⟩ : ∃ x, hasId F.n2 F.f2 id = x := ⟨_, rfl⟩
  have EHM := Lib.hid ehm
  clear ehm
  have HM : Hid (∀ p : BehW w1, Calls Try.prog 80 #[.agg #[.int .i64 F.cap, .slice A1 F.n1 c1, .slice A2 F.n2 c2], .int .i64 id] p.w fun e w' => e = .returned (.tuple #[.int .i64 (posT F.n2 F.f2 id : Nat), .bool hm2]) ∧ Below p.w.heap.size p.w w') := Lib.hid fun p => EHM.out ▸ c_memberP F.cap A1 A2 F.n1 c1 F.n2 c2 F.f2 _ p.w (T.out.keep p.h).m (by omega) HR.out.r2
  have HG : Hid (∀ p : BehW w1, Calls Try.prog 79 #[.agg #[.int .i64 F.cap, .slice A1 F.n1 c1, .slice A2 F.n2 c2], .int .i64 id] p.w fun e w' => e = .returned (.tuple #[.int .i64 (posT F.n1 F.f1 id : Nat), .bool true]) ∧ Below p.w.heap.size p.w w') := Lib.hid fun p => HE0.out ▸ c_groupP F.cap A1 A2 F.n1 c1 F.n2 c2 F.f1 _ p.w (T.out.keep p.h).g (by omega) HR.out.r1
  refine wp_region_beh (by kernel_rfl) (by kernel_rfl) ?_
  repeat (go_big_quiet_step ((first | (go_at_call 80; exact beh_below (HM.out _)) | fail)))
  refine wpQuiet_nil ?_
  intro _ hw'
  obtain ⟨q1, hw''⟩ := hw'
  subst hw''
  go_upto_region 3 with fail
  refine wp_region_behq q1 (by kernel_rfl) (by kernel_rfl) ?_
  repeat (go_big_quiet_step ((first | (go_at_call 79; exact beh_below (HG.out _)) | fail)))
  refine wpQuiet_nil ?_
  intro _ hw'
  obtain ⟨q2, hw''⟩ := hw'
  subst hw''
  go_wp2_with fail
  go_ret
  exact EdOut.no (by rw [HBB.out]; exact hB) hec.out (by decide) (HB.out.trans (q2.h.mono (by rw [HBB.out]; exact Nat.le_of_lt EB.out.lt)))
set_option maxHeartbeats 1000000 in
theorem c_comes_group_none {F : Fm} {id g a c : Int} {B fb : Nat} {w : World} (h : FarmIn w B fb F) (hr : Right F) (hB : B ≤ w.heap.size) (e0 : hasId F.n1 F.f1 id = false) (e1 : hasG F g = false) :
    Calls Try.prog 130 #[.pointer (some ⟨fb, 0, none⟩), .agg #[.int .i64 6, .int .i64 id, .int .i64 g, .int .i64 a, .int .i64 c]] w (EdOut F 6 id g a c B fb w) := by
  obtain ⟨vg, vm, hBk, hG, hM⟩ := h
  obtain ⟨A1, c1, rfl, hc1, hT1⟩ := hG.tab
  obtain ⟨A2, c2, rfl, hc2, hT2⟩ := hM.tab
  have hal := (Below.refl w.heap.size w).alloc (Nat.le_refl _) (.cells #[.int .i64 6, .int .i64 id, .int .i64 g, .int .i64 a, .int .i64 c] 56)
  have FB := Lib.hid (hBk.keep hal)
  have EB := Lib.hid (Blk.new (w := w) (B := 0) (Nat.zero_le _) #[.int .i64 6, .int .i64 id, .int .i64 g, .int .i64 a, .int .i64 c] 56)
  have T := Lib.hid ((⟨hT1, hT2⟩ : FarmAt w A1 F.n1 F.f1 A2 F.n2 F.f2).keep hal)
  have G1 := Lib.hid (hG.keep hal)
  have M1 := Lib.hid (hM.keep hal)
  have HL := Lib.hid (show fb < w.heap.size from hBk.lt)
  have LG := Lib.hid (show ∀ k, (Value.slice A1 F.n1 c1).ownBlock = some k → k < w.heap.size from fun k e => (World.ownsRow.lt hG k e).2)
  have LM := Lib.hid (show ∀ k, (Value.slice A2 F.n2 c2).ownBlock = some k → k < w.heap.size from fun k e => (World.ownsRow.lt hM k e).2)
  have HB := Lib.hid hal
  have HR := Lib.hid hr
  have hl1 := hr.l1
  have hl2 := hr.l2
  clear hr hal hBk hG hM hT1 hT2
  have hec := Lib.hid (show edC F 6 id g a c = 4 by unfold edC; rw [if_neg (by decide), if_pos rfl, if_neg (by rw [e0]; decide), if_pos e1])
  have HE0 := Lib.hid e0
  have HE1 := Lib.hid e1
  clear e0 e1
  go_enter Try.func130, Try.ntmps130
  go_upto_region 1 with fail
  generalize w.alloc (.cells #[.int .i64 6, .int .i64 id, .int .i64 g, .int .i64 a, .int .i64 c] 56) = w1 at *
  obtain ⟨b, hbb⟩ : ∃ b, w.heap.size = b := ⟨_, rfl⟩
  have HBB := Lib.hid hbb
  rw [hbb] at EB HL LG LM hB ⊢
  clear hbb
  have t0 : ∀ p : BehW w1, p.w.cell? ⟨fb, 0, none⟩ = some (.int .i64 F.cap) := fun p => ((FB.out.keep p.h).cell 0).trans rfl
  have t1 : ∀ p : BehW w1, p.w.cell? ⟨fb, 1, none⟩ = some (.slice A1 F.n1 c1) := fun p => ((FB.out.keep p.h).cell 1).trans rfl
  have t2 : ∀ p : BehW w1, p.w.cell? ⟨fb, 2, none⟩ = some (.slice A2 F.n2 c2) := fun p => ((FB.out.keep p.h).cell 2).trans rfl
  have s0 : ∀ p : BehW w1, p.w.cell? ⟨b, 0, none⟩ = some (.int .i64 6) := fun p => ((EB.out.keep p.h).cell 0).trans rfl
  have s1 : ∀ p : BehW w1, p.w.cell? ⟨b, 1, none⟩ = some (.int .i64 id) := fun p => ((EB.out.keep p.h).cell 1).trans rfl
  have s2 : ∀ p : BehW w1, p.w.cell? ⟨b, 2, none⟩ = some (.int .i64 g) := fun p => ((EB.out.keep p.h).cell 2).trans rfl
  have s3 : ∀ p : BehW w1, p.w.cell? ⟨b, 3, none⟩ = some (.int .i64 a) := fun p => ((EB.out.keep p.h).cell 3).trans rfl
  have s4 : ∀ p : BehW w1, p.w.cell? ⟨b, 4, none⟩ = some (.int .i64 c) := fun p => ((EB.out.keep p.h).cell 4).trans rfl
  have HH : Hid (∀ p : BehW w1, Calls Try.prog 83 #[.agg #[.int .i64 F.cap, .slice A1 F.n1 c1, .slice A2 F.n2 c2], .int .i64 g] p.w fun e w' => e = .returned (.bool false) ∧ Below p.w.heap.size p.w w') := Lib.hid fun p => HE1.out ▸ c_hasGroup F.cap A1 A2 F.n1 c1 F.n2 c2 F.f1 _ p.w (T.out.keep p.h).g (by omega) HR.out.r1
  obtain ⟨hm2, ehm⟩ : ∃ x, hasId F.n2 F.f2 id = x := ⟨_, rfl⟩
  have EHM := Lib.hid ehm
  clear ehm
  have HM : Hid (∀ p : BehW w1, Calls Try.prog 80 #[.agg #[.int .i64 F.cap, .slice A1 F.n1 c1, .slice A2 F.n2 c2], .int .i64 id] p.w fun e w' => e = .returned (.tuple #[.int .i64 (posT F.n2 F.f2 id : Nat), .bool hm2]) ∧ Below p.w.heap.size p.w w') := Lib.hid fun p => EHM.out ▸ c_memberP F.cap A1 A2 F.n1 c1 F.n2 c2 F.f2 _ p.w (T.out.keep p.h).m (by omega) HR.out.r2
  have HG : Hid (∀ p : BehW w1, Calls Try.prog 79 #[.agg #[.int .i64 F.cap, .slice A1 F.n1 c1, .slice A2 F.n2 c2], .int .i64 id] p.w fun e w' => e = .returned (.tuple #[.int .i64 (posT F.n1 F.f1 id : Nat), .bool false]) ∧ Below p.w.heap.size p.w w') := Lib.hid fun p => HE0.out ▸ c_groupP F.cap A1 A2 F.n1 c1 F.n2 c2 F.f1 _ p.w (T.out.keep p.h).g (by omega) HR.out.r1
  refine wp_region_beh (by kernel_rfl) (by kernel_rfl) ?_
  repeat (go_big_quiet_step ((first | (go_at_call 80; exact beh_below (HM.out _)) | fail)))
  refine wpQuiet_nil ?_
  intro _ hw'
  obtain ⟨q1, hw''⟩ := hw'
  subst hw''
  go_upto_region 3 with fail
  refine wp_region_behq q1 (by kernel_rfl) (by kernel_rfl) ?_
  repeat (go_big_quiet_step ((first | (go_at_call 79; exact beh_below (HG.out _)) | fail)))
  refine wpQuiet_nil ?_
  intro _ hw'
  obtain ⟨q2, hw''⟩ := hw'
  subst hw''
  go_upto_region 7 with fail
  refine wp_region_behq q2 (by kernel_rfl) (by kernel_rfl) ?_
  repeat (go_big_quiet_step ((first | (go_at_call 83; exact beh_below (HH.out _)) | fail)))
  refine wpQuiet_nil ?_
  intro _ hw'
  obtain ⟨q3, hw''⟩ := hw'
  subst hw''
  go_wp2_with fail
  go_ret
  exact EdOut.no (by rw [HBB.out]; exact hB) hec.out (by decide) (HB.out.trans (q3.h.mono (by rw [HBB.out]; exact Nat.le_of_lt EB.out.lt)))
set_option maxHeartbeats 1000000 in
theorem c_comes_group_full {F : Fm} {id g a c : Int} {B fb : Nat} {w : World} (h : FarmIn w B fb F) (hr : Right F) (hB : B ≤ w.heap.size) (e0 : hasId F.n1 F.f1 id = false) (e1 : hasG F g = true) (e2 : F.n1 = 30) :
    Calls Try.prog 130 #[.pointer (some ⟨fb, 0, none⟩), .agg #[.int .i64 6, .int .i64 id, .int .i64 g, .int .i64 a, .int .i64 c]] w (EdOut F 6 id g a c B fb w) := by
  obtain ⟨vg, vm, hBk, hG, hM⟩ := h
  obtain ⟨A1, c1, rfl, hc1, hT1⟩ := hG.tab
  obtain ⟨A2, c2, rfl, hc2, hT2⟩ := hM.tab
  have hal := (Below.refl w.heap.size w).alloc (Nat.le_refl _) (.cells #[.int .i64 6, .int .i64 id, .int .i64 g, .int .i64 a, .int .i64 c] 56)
  have FB := Lib.hid (hBk.keep hal)
  have EB := Lib.hid (Blk.new (w := w) (B := 0) (Nat.zero_le _) #[.int .i64 6, .int .i64 id, .int .i64 g, .int .i64 a, .int .i64 c] 56)
  have T := Lib.hid ((⟨hT1, hT2⟩ : FarmAt w A1 F.n1 F.f1 A2 F.n2 F.f2).keep hal)
  have G1 := Lib.hid (hG.keep hal)
  have M1 := Lib.hid (hM.keep hal)
  have HL := Lib.hid (show fb < w.heap.size from hBk.lt)
  have LG := Lib.hid (show ∀ k, (Value.slice A1 F.n1 c1).ownBlock = some k → k < w.heap.size from fun k e => (World.ownsRow.lt hG k e).2)
  have LM := Lib.hid (show ∀ k, (Value.slice A2 F.n2 c2).ownBlock = some k → k < w.heap.size from fun k e => (World.ownsRow.lt hM k e).2)
  have HB := Lib.hid hal
  have HR := Lib.hid hr
  have hl1 := hr.l1
  have hl2 := hr.l2
  clear hr hal hBk hG hM hT1 hT2
  have hec := Lib.hid (show edC F 6 id g a c = 6 by unfold edC; rw [if_neg (by decide), if_pos rfl, if_neg (by rw [e0]; decide), if_neg (by rw [e1]; decide), if_pos e2])
  have HE0 := Lib.hid e0
  have HE1 := Lib.hid e1
  have HE2 := Lib.hid e2
  clear e0 e1 e2
  go_enter Try.func130, Try.ntmps130
  go_upto_region 1 with fail
  generalize w.alloc (.cells #[.int .i64 6, .int .i64 id, .int .i64 g, .int .i64 a, .int .i64 c] 56) = w1 at *
  obtain ⟨b, hbb⟩ : ∃ b, w.heap.size = b := ⟨_, rfl⟩
  have HBB := Lib.hid hbb
  rw [hbb] at EB HL LG LM hB ⊢
  clear hbb
  have t0 : ∀ p : BehW w1, p.w.cell? ⟨fb, 0, none⟩ = some (.int .i64 F.cap) := fun p => ((FB.out.keep p.h).cell 0).trans rfl
  have t1 : ∀ p : BehW w1, p.w.cell? ⟨fb, 1, none⟩ = some (.slice A1 F.n1 c1) := fun p => ((FB.out.keep p.h).cell 1).trans rfl
  have t2 : ∀ p : BehW w1, p.w.cell? ⟨fb, 2, none⟩ = some (.slice A2 F.n2 c2) := fun p => ((FB.out.keep p.h).cell 2).trans rfl
  have s0 : ∀ p : BehW w1, p.w.cell? ⟨b, 0, none⟩ = some (.int .i64 6) := fun p => ((EB.out.keep p.h).cell 0).trans rfl
  have s1 : ∀ p : BehW w1, p.w.cell? ⟨b, 1, none⟩ = some (.int .i64 id) := fun p => ((EB.out.keep p.h).cell 1).trans rfl
  have s2 : ∀ p : BehW w1, p.w.cell? ⟨b, 2, none⟩ = some (.int .i64 g) := fun p => ((EB.out.keep p.h).cell 2).trans rfl
  have s3 : ∀ p : BehW w1, p.w.cell? ⟨b, 3, none⟩ = some (.int .i64 a) := fun p => ((EB.out.keep p.h).cell 3).trans rfl
  have s4 : ∀ p : BehW w1, p.w.cell? ⟨b, 4, none⟩ = some (.int .i64 c) := fun p => ((EB.out.keep p.h).cell 4).trans rfl
  have HH : Hid (∀ p : BehW w1, Calls Try.prog 83 #[.agg #[.int .i64 F.cap, .slice A1 F.n1 c1, .slice A2 F.n2 c2], .int .i64 g] p.w fun e w' => e = .returned (.bool true) ∧ Below p.w.heap.size p.w w') := Lib.hid fun p => HE1.out ▸ c_hasGroup F.cap A1 A2 F.n1 c1 F.n2 c2 F.f1 _ p.w (T.out.keep p.h).g (by omega) HR.out.r1
  obtain ⟨hm2, ehm⟩ : ∃ x, hasId F.n2 F.f2 id = x := ⟨_, rfl⟩
  have EHM := Lib.hid ehm
  clear ehm
  have HM : Hid (∀ p : BehW w1, Calls Try.prog 80 #[.agg #[.int .i64 F.cap, .slice A1 F.n1 c1, .slice A2 F.n2 c2], .int .i64 id] p.w fun e w' => e = .returned (.tuple #[.int .i64 (posT F.n2 F.f2 id : Nat), .bool hm2]) ∧ Below p.w.heap.size p.w w') := Lib.hid fun p => EHM.out ▸ c_memberP F.cap A1 A2 F.n1 c1 F.n2 c2 F.f2 _ p.w (T.out.keep p.h).m (by omega) HR.out.r2
  have HG : Hid (∀ p : BehW w1, Calls Try.prog 79 #[.agg #[.int .i64 F.cap, .slice A1 F.n1 c1, .slice A2 F.n2 c2], .int .i64 id] p.w fun e w' => e = .returned (.tuple #[.int .i64 (posT F.n1 F.f1 id : Nat), .bool false]) ∧ Below p.w.heap.size p.w w') := Lib.hid fun p => HE0.out ▸ c_groupP F.cap A1 A2 F.n1 c1 F.n2 c2 F.f1 _ p.w (T.out.keep p.h).g (by omega) HR.out.r1
  refine wp_region_beh (by kernel_rfl) (by kernel_rfl) ?_
  repeat (go_big_quiet_step ((first | (go_at_call 80; exact beh_below (HM.out _)) | fail)))
  refine wpQuiet_nil ?_
  intro _ hw'
  obtain ⟨q1, hw''⟩ := hw'
  subst hw''
  go_upto_region 3 with fail
  refine wp_region_behq q1 (by kernel_rfl) (by kernel_rfl) ?_
  repeat (go_big_quiet_step ((first | (go_at_call 79; exact beh_below (HG.out _)) | fail)))
  refine wpQuiet_nil ?_
  intro _ hw'
  obtain ⟨q2, hw''⟩ := hw'
  subst hw''
  go_upto_region 7 with fail
  refine wp_region_behq q2 (by kernel_rfl) (by kernel_rfl) ?_
  repeat (go_big_quiet_step ((first | (go_at_call 83; exact beh_below (HH.out _)) | fail)))
  refine wpQuiet_nil ?_
  intro _ hw'
  obtain ⟨q3, hw''⟩ := hw'
  subst hw''
  have bf : ((F.n1 : Int) == 30) = true := by rw [HE2.out]; rfl
  go_wp2_with fail
  go_ret
  exact EdOut.no (by rw [HBB.out]; exact hB) hec.out (by decide) (HB.out.trans (q3.h.mono (by rw [HBB.out]; exact Nat.le_of_lt EB.out.lt)))
set_option maxHeartbeats 1000000 in
theorem c_comes_group_go {F : Fm} {id g a c : Int} {B fb : Nat} {w : World} (h : FarmIn w B fb F) (hr : Right F) (hB : B ≤ w.heap.size) (e0 : hasId F.n1 F.f1 id = false) (e1 : hasG F g = true) (e2 : F.n1 ≠ 30) :
    Calls Try.prog 130 #[.pointer (some ⟨fb, 0, none⟩), .agg #[.int .i64 6, .int .i64 id, .int .i64 g, .int .i64 a, .int .i64 c]] w (EdOut F 6 id g a c B fb w) := by
  obtain ⟨vg, vm, hBk, hG, hM⟩ := h
  obtain ⟨A1, c1, rfl, hc1, hT1⟩ := hG.tab
  obtain ⟨A2, c2, rfl, hc2, hT2⟩ := hM.tab
  have hal := (Below.refl w.heap.size w).alloc (Nat.le_refl _) (.cells #[.int .i64 6, .int .i64 id, .int .i64 g, .int .i64 a, .int .i64 c] 56)
  have FB := Lib.hid (hBk.keep hal)
  have EB := Lib.hid (Blk.new (w := w) (B := 0) (Nat.zero_le _) #[.int .i64 6, .int .i64 id, .int .i64 g, .int .i64 a, .int .i64 c] 56)
  have T := Lib.hid ((⟨hT1, hT2⟩ : FarmAt w A1 F.n1 F.f1 A2 F.n2 F.f2).keep hal)
  have G1 := Lib.hid (hG.keep hal)
  have M1 := Lib.hid (hM.keep hal)
  have HL := Lib.hid (show fb < w.heap.size from hBk.lt)
  have LG := Lib.hid (show ∀ k, (Value.slice A1 F.n1 c1).ownBlock = some k → k < w.heap.size from fun k e => (World.ownsRow.lt hG k e).2)
  have LM := Lib.hid (show ∀ k, (Value.slice A2 F.n2 c2).ownBlock = some k → k < w.heap.size from fun k e => (World.ownsRow.lt hM k e).2)
  have HB := Lib.hid hal
  have HR := Lib.hid hr
  have hl1 := hr.l1
  have hl2 := hr.l2
  clear hr hal hBk hG hM hT1 hT2
  have hec := Lib.hid (show edC F 6 id g a c = 0 by unfold edC; rw [if_neg (by decide), if_pos rfl, if_neg (by rw [e0]; decide), if_neg (by rw [e1]; decide), if_neg e2])
  have HE0 := Lib.hid e0
  have HE1 := Lib.hid e1
  have HE2 := Lib.hid e2
  clear e0 e1 e2
  go_enter Try.func130, Try.ntmps130
  go_upto_region 1 with fail
  generalize w.alloc (.cells #[.int .i64 6, .int .i64 id, .int .i64 g, .int .i64 a, .int .i64 c] 56) = w1 at *
  obtain ⟨b, hbb⟩ : ∃ b, w.heap.size = b := ⟨_, rfl⟩
  have HBB := Lib.hid hbb
  rw [hbb] at EB HL LG LM hB ⊢
  clear hbb
  have t0 : ∀ p : BehW w1, p.w.cell? ⟨fb, 0, none⟩ = some (.int .i64 F.cap) := fun p => ((FB.out.keep p.h).cell 0).trans rfl
  have t1 : ∀ p : BehW w1, p.w.cell? ⟨fb, 1, none⟩ = some (.slice A1 F.n1 c1) := fun p => ((FB.out.keep p.h).cell 1).trans rfl
  have t2 : ∀ p : BehW w1, p.w.cell? ⟨fb, 2, none⟩ = some (.slice A2 F.n2 c2) := fun p => ((FB.out.keep p.h).cell 2).trans rfl
  have s0 : ∀ p : BehW w1, p.w.cell? ⟨b, 0, none⟩ = some (.int .i64 6) := fun p => ((EB.out.keep p.h).cell 0).trans rfl
  have s1 : ∀ p : BehW w1, p.w.cell? ⟨b, 1, none⟩ = some (.int .i64 id) := fun p => ((EB.out.keep p.h).cell 1).trans rfl
  have s2 : ∀ p : BehW w1, p.w.cell? ⟨b, 2, none⟩ = some (.int .i64 g) := fun p => ((EB.out.keep p.h).cell 2).trans rfl
  have s3 : ∀ p : BehW w1, p.w.cell? ⟨b, 3, none⟩ = some (.int .i64 a) := fun p => ((EB.out.keep p.h).cell 3).trans rfl
  have s4 : ∀ p : BehW w1, p.w.cell? ⟨b, 4, none⟩ = some (.int .i64 c) := fun p => ((EB.out.keep p.h).cell 4).trans rfl
  have HH : Hid (∀ p : BehW w1, Calls Try.prog 83 #[.agg #[.int .i64 F.cap, .slice A1 F.n1 c1, .slice A2 F.n2 c2], .int .i64 g] p.w fun e w' => e = .returned (.bool true) ∧ Below p.w.heap.size p.w w') := Lib.hid fun p => HE1.out ▸ c_hasGroup F.cap A1 A2 F.n1 c1 F.n2 c2 F.f1 _ p.w (T.out.keep p.h).g (by omega) HR.out.r1
  obtain ⟨hm2, ehm⟩ : ∃ x, hasId F.n2 F.f2 id = x := ⟨_, rfl⟩
  have EHM := Lib.hid ehm
  clear ehm
  have HM : Hid (∀ p : BehW w1, Calls Try.prog 80 #[.agg #[.int .i64 F.cap, .slice A1 F.n1 c1, .slice A2 F.n2 c2], .int .i64 id] p.w fun e w' => e = .returned (.tuple #[.int .i64 (posT F.n2 F.f2 id : Nat), .bool hm2]) ∧ Below p.w.heap.size p.w w') := Lib.hid fun p => EHM.out ▸ c_memberP F.cap A1 A2 F.n1 c1 F.n2 c2 F.f2 _ p.w (T.out.keep p.h).m (by omega) HR.out.r2
  have HG : Hid (∀ p : BehW w1, Calls Try.prog 79 #[.agg #[.int .i64 F.cap, .slice A1 F.n1 c1, .slice A2 F.n2 c2], .int .i64 id] p.w fun e w' => e = .returned (.tuple #[.int .i64 (posT F.n1 F.f1 id : Nat), .bool false]) ∧ Below p.w.heap.size p.w w') := Lib.hid fun p => HE0.out ▸ c_groupP F.cap A1 A2 F.n1 c1 F.n2 c2 F.f1 _ p.w (T.out.keep p.h).g (by omega) HR.out.r1
  refine wp_region_beh (by kernel_rfl) (by kernel_rfl) ?_
  repeat (go_big_quiet_step ((first | (go_at_call 80; exact beh_below (HM.out _)) | fail)))
  refine wpQuiet_nil ?_
  intro _ hw'
  obtain ⟨q1, hw''⟩ := hw'
  subst hw''
  go_upto_region 3 with fail
  refine wp_region_behq q1 (by kernel_rfl) (by kernel_rfl) ?_
  repeat (go_big_quiet_step ((first | (go_at_call 79; exact beh_below (HG.out _)) | fail)))
  refine wpQuiet_nil ?_
  intro _ hw'
  obtain ⟨q2, hw''⟩ := hw'
  subst hw''
  go_upto_region 7 with fail
  refine wp_region_behq q2 (by kernel_rfl) (by kernel_rfl) ?_
  repeat (go_big_quiet_step ((first | (go_at_call 83; exact beh_below (HH.out _)) | fail)))
  refine wpQuiet_nil ?_
  intro _ hw'
  obtain ⟨q3, hw''⟩ := hw'
  subst hw''
  have bf : ((F.n1 : Int) == 30) = false := by have := HE2.out; exact beq_eq_false_iff_ne.2 (by omega)
  go_upto_region 4 with fail
  clear bf
  generalize hq : q3.w = w2 at *
  have hbq := q3.h
  rw [hq] at hbq
  have KQ := Lib.hid hbq
  clear hbq hq
  have KE := Lib.hid (EB.out.keep KQ.out)
  have KF := Lib.hid (FB.out.keep KQ.out)
  have KT := Lib.hid (G1.out.keep KQ.out)
  have KO := Lib.hid (M1.out.keep KQ.out)
  have HZ := Lib.hid (show b < w2.heap.size from (EB.out.keep KQ.out).lt)
  have hS : ∀ w' : World, Blk w' 0 b #[.int .i64 6, .int .i64 id, .int .i64 g, .int .i64 a, .int .i64 c] 56 → Blk w' B fb #[.int .i64 F.cap, .slice A1 F.n1 c1, .slice A2 F.n2 c2] 34 → (w'.cell? ⟨b, 1, none⟩ = some (.int .i64 id) ∧ w'.cell? ⟨b, 2, none⟩ = some (.int .i64 g) ∧ w'.cell? ⟨b, 3, none⟩ = some (.int .i64 a) ∧ w'.cell? ⟨b, 4, none⟩ = some (.int .i64 c) ∧ w'.cell? ⟨fb, 1, none⟩ = some (.slice A1 F.n1 c1) ∧ w'.frozen? ⟨fb, 1, none⟩ = false) := fun w' h1 h2 => ⟨(h1.cell 1).trans rfl, (h1.cell 2).trans rfl, (h1.cell 3).trans rfl, (h1.cell 4).trans rfl, (h2.cell 1).trans rfl, h2.frozen 1⟩
  have HS := Lib.hid hS
  clear hS
  have hp := Lib.hid (posT_pos HR.out.r1 id).1
  have hed := Lib.hid (show edF F 6 id g a c = { F with n1 := F.n1 + 1, f1 := insT (posT F.n1 F.f1 id) (r4 id g a c) F.f1 } from rfl)
  generalize posT F.n1 F.f1 id = pp at *
  have hal := (Below.refl w2.heap.size w2.drew).alloc (Nat.le_refl _) (.cells #[.int .i64 id, .int .i64 g, .int .i64 a, .int .i64 c] 114)
  have S0 : Hid ((fun w' => w'.cell? ⟨b, 1, none⟩ = some (.int .i64 id) ∧ w'.cell? ⟨b, 2, none⟩ = some (.int .i64 g) ∧ w'.cell? ⟨b, 3, none⟩ = some (.int .i64 a) ∧ w'.cell? ⟨b, 4, none⟩ = some (.int .i64 c) ∧ w'.cell? ⟨fb, 1, none⟩ = some (.slice A1 F.n1 c1) ∧ w'.frozen? ⟨fb, 1, none⟩ = false) w2.drew) := Lib.hid (HS.out _ KE.out.drew KF.out.drew)
  have KEA := Lib.hid (KE.out.keep ((Below.refl w2.heap.size w2).drew.alloc (Nat.le_refl _) (.cells #[.int .i64 id, .int .i64 g, .int .i64 a, .int .i64 c] 114)))
  have KFA := Lib.hid (KF.out.keep ((Below.refl w2.heap.size w2).drew.alloc (Nat.le_refl _) (.cells #[.int .i64 id, .int .i64 g, .int .i64 a, .int .i64 c] 114)))
  have S1 : Hid ((fun w' => w'.cell? ⟨b, 1, none⟩ = some (.int .i64 id) ∧ w'.cell? ⟨b, 2, none⟩ = some (.int .i64 g) ∧ w'.cell? ⟨b, 3, none⟩ = some (.int .i64 a) ∧ w'.cell? ⟨b, 4, none⟩ = some (.int .i64 c) ∧ w'.cell? ⟨fb, 1, none⟩ = some (.slice A1 F.n1 c1) ∧ w'.frozen? ⟨fb, 1, none⟩ = false) (w2.drew.alloc (.cells #[.int .i64 id, .int .i64 g, .int .i64 a, .int .i64 c] 114))) := Lib.hid (HS.out _ KEA.out KFA.out)
  have KX := Lib.hid (Blk.new (w := w2.drew) (B := 0) (Nat.zero_le _) #[.int .i64 id, .int .i64 g, .int .i64 a, .int .i64 c] 114)
  have KTA := Lib.hid (KT.out.keep ((Below.refl w2.heap.size w2).drew.alloc (Nat.le_refl _) (.cells #[.int .i64 id, .int .i64 g, .int .i64 a, .int .i64 c] 114)))
  have KOA := Lib.hid (KO.out.keep ((Below.refl w2.heap.size w2).drew.alloc (Nat.le_refl _) (.cells #[.int .i64 id, .int .i64 g, .int .i64 a, .int .i64 c] 114)))
  have NE := Lib.hid (show ((.slice A1 F.n1 c1 : Value).ownBlock ≠ some b) ∧ ((.slice A1 F.n1 c1 : Value).ownBlock ≠ some fb) ∧ ((.slice A1 F.n1 c1 : Value).ownBlock ≠ some w2.heap.size) from ⟨fun e => by have := LG.out b e; omega, KT.out.neBlk KF.out (by decide), fun e => by have := LG.out _ e; have := HZ.out; omega⟩)
  have NO := Lib.hid (show ∀ k, (.slice A2 F.n2 c2 : Value).ownBlock = some k → (.slice A1 F.n1 c1 : Value).ownBlock ≠ some k from fun k e => KO.out.ne KT.out (by decide) e)
  have BE := Lib.hid (show Below B w2 (w2.drew.alloc (.cells #[.int .i64 id, .int .i64 g, .int .i64 a, .int .i64 c] 114)) from ((Below.refl _ _).drew.alloc (show B ≤ w2.heap.size by have := HZ.out; omega) _))
  clear hal t0 t1 t2 s0 s1 s2 s3 s4
  refine wp_region_fin (fun w' => w'.cell? ⟨b, 1, none⟩ = some (.int .i64 id) ∧ w'.cell? ⟨b, 2, none⟩ = some (.int .i64 g) ∧ w'.cell? ⟨b, 3, none⟩ = some (.int .i64 a) ∧ w'.cell? ⟨b, 4, none⟩ = some (.int .i64 c) ∧ w'.cell? ⟨fb, 1, none⟩ = some (.slice A1 F.n1 c1) ∧ w'.frozen? ⟨fb, 1, none⟩ = false) 19 (by kernel_rfl) S0.out (fun hHeld => ?_)
  refine wpFin_take (i := 0) (v := ?_) (by kernel_rfl) rfl (by decide) (by kernel_rfl) (by kernel_rfl) (by kernel_rfl) (fun _ _ _ h => h) (Or.inl ⟨by rfl, ?_⟩) (by assumption) ?_
  rotate_left 1
  · (intro w hSw; (try dsimp only at hSw); go_simp; first | done | with_reducible rfl)
  try simp only [Act.put, List.setIfInBounds_toArray, List.set_cons_zero, List.set_cons_succ]
  refine wpFin_take (i := 1) (v := ?_) (by kernel_rfl) rfl (by decide) (by kernel_rfl) (by kernel_rfl) (by kernel_rfl) (fun _ _ _ h => h) (Or.inl ⟨by rfl, ?_⟩) (by assumption) ?_
  rotate_left 1
  · (intro w hSw; (try dsimp only at hSw); go_simp; first | done | with_reducible rfl)
  try simp only [Act.put, List.setIfInBounds_toArray, List.set_cons_zero, List.set_cons_succ]
  refine wpFin_take (i := 2) (v := ?_) (by kernel_rfl) rfl (by decide) (by kernel_rfl) (by kernel_rfl) (by kernel_rfl) (fun _ _ _ h => h) (Or.inl ⟨by rfl, ?_⟩) (by assumption) ?_
  rotate_left 1
  · (intro w hSw; (try dsimp only at hSw); go_simp; first | done | with_reducible rfl)
  try simp only [Act.put, List.setIfInBounds_toArray, List.set_cons_zero, List.set_cons_succ]
  refine wpFin_take (i := 3) (v := ?_) (by kernel_rfl) rfl (by decide) (by kernel_rfl) (by kernel_rfl) (by kernel_rfl) (fun _ _ _ h => h) (Or.inl ⟨by rfl, ?_⟩) (by assumption) ?_
  rotate_left 1
  · (intro w hSw; (try dsimp only at hSw); go_simp; first | done | with_reducible rfl)
  try simp only [Act.put, List.setIfInBounds_toArray, List.set_cons_zero, List.set_cons_succ]
  refine wpFin_take (i := 4) (v := ?_) (by kernel_rfl) rfl (by decide) (by kernel_rfl) (by kernel_rfl) (by kernel_rfl) (fun _ _ _ h => h) (Or.inl ⟨by rfl, ?_⟩) (by assumption) ?_
  rotate_left 1
  · (intro w hSw; (try dsimp only at hSw); go_simp; first | done | with_reducible rfl)
  try simp only [Act.put, List.setIfInBounds_toArray, List.set_cons_zero, List.set_cons_succ]
  refine wpFin_take (i := 5) (v := ?_) (by kernel_rfl) rfl (by decide) (by kernel_rfl) (by kernel_rfl) (by kernel_rfl) (fun _ _ _ h => h) (Or.inl ⟨by rfl, ?_⟩) (by assumption) ?_
  rotate_left 1
  · (intro w hSw; (try dsimp only at hSw); go_simp; first | done | with_reducible rfl)
  try simp only [Act.put, List.setIfInBounds_toArray, List.set_cons_zero, List.set_cons_succ]
  refine wpFin_take (i := 6) (v := ?_) (by kernel_rfl) rfl (by decide) (by kernel_rfl) (by kernel_rfl) (by kernel_rfl) (fun _ _ _ h => h) (Or.inl ⟨by rfl, ?_⟩) (by assumption) ?_
  rotate_left 1
  · (intro w hSw; (try dsimp only at hSw); go_simp; first | done | with_reducible rfl)
  try simp only [Act.put, List.setIfInBounds_toArray, List.set_cons_zero, List.set_cons_succ]
  refine wpFin_take (i := 7) (v := ?_) (by kernel_rfl) rfl (by decide) (by kernel_rfl) (by kernel_rfl) (by kernel_rfl) (fun _ _ _ h => h) (Or.inl ⟨by rfl, ?_⟩) (by assumption) ?_
  rotate_left 1
  · (intro w hSw; (try dsimp only at hSw); go_simp; first | done | with_reducible rfl)
  try simp only [Act.put, List.setIfInBounds_toArray, List.set_cons_zero, List.set_cons_succ]
  refine wpFin_take (i := 8) (v := ?_) (by kernel_rfl) rfl (by decide) (by kernel_rfl) (by kernel_rfl) (by kernel_rfl) (fun _ _ _ h => h) (Or.inl ⟨by rfl, ?_⟩) (by assumption) ?_
  rotate_left 1
  · (intro w hSw; (try dsimp only at hSw); go_simp; first | done | with_reducible rfl)
  try simp only [Act.put, List.setIfInBounds_toArray, List.set_cons_zero, List.set_cons_succ]
  refine wpFin_take (i := 9) (v := ?_) (by kernel_rfl) rfl (by decide) (by kernel_rfl) (by kernel_rfl) (by kernel_rfl) (fun _ _ _ h => h) (Or.inl ⟨by rfl, ?_⟩) (by assumption) ?_
  rotate_left 1
  · (intro w hSw; (try dsimp only at hSw); go_simp; first | done | with_reducible rfl)
  try simp only [Act.put, List.setIfInBounds_toArray, List.set_cons_zero, List.set_cons_succ]
  refine wpFin_take (i := 10) (v := ?_) (by kernel_rfl) rfl (by decide) (by kernel_rfl) (by kernel_rfl) (by kernel_rfl) (fun _ _ _ h => h) (Or.inl ⟨by rfl, ?_⟩) (by assumption) ?_
  rotate_left 1
  · (intro w hSw; (try dsimp only at hSw); go_simp; first | done | with_reducible rfl)
  try simp only [Act.put, List.setIfInBounds_toArray, List.set_cons_zero, List.set_cons_succ]
  refine wpFin_take (i := 11) (v := ?_) (by kernel_rfl) rfl (by decide) (by kernel_rfl) (by kernel_rfl) (by kernel_rfl) (fun _ _ _ h => h) (Or.inl ⟨by rfl, ?_⟩) (by assumption) ?_
  rotate_left 1
  · (intro w hSw; (try dsimp only at hSw); go_simp; first | done | with_reducible rfl)
  try simp only [Act.put, List.setIfInBounds_toArray, List.set_cons_zero, List.set_cons_succ]
  refine wpFin_take (i := 12) (v := ?_) (by kernel_rfl) rfl (by decide) (by kernel_rfl) (by kernel_rfl) (by kernel_rfl) (fun _ _ _ h => h) (Or.inl ⟨by rfl, ?_⟩) (by assumption) ?_
  rotate_left 1
  · (intro w hSw; (try dsimp only at hSw); go_simp; first | done | with_reducible rfl)
  try simp only [Act.put, List.setIfInBounds_toArray, List.set_cons_zero, List.set_cons_succ]
  refine wpFin_take (i := 13) (v := ?_) (by kernel_rfl) rfl (by decide) (by kernel_rfl) (by kernel_rfl) (by kernel_rfl) (fun _ _ _ h => h) (Or.inl ⟨by rfl, ?_⟩) (by assumption) ?_
  rotate_left 1
  · (intro w hSw; (try dsimp only at hSw); go_simp; first | done | with_reducible rfl)
  try simp only [Act.put, List.setIfInBounds_toArray, List.set_cons_zero, List.set_cons_succ]
  refine wpFin_take (i := 14) (v := ?_) (by kernel_rfl) rfl (by decide) (by kernel_rfl) (by kernel_rfl) (by kernel_rfl) (fun _ _ _ h => h) (Or.inl ⟨by rfl, ?_⟩) (by assumption) ?_
  rotate_left 1
  · (intro w hSw; (try dsimp only at hSw); go_simp; first | done | with_reducible rfl)
  try simp only [Act.put, List.setIfInBounds_toArray, List.set_cons_zero, List.set_cons_succ]
  refine wpFin_one (i := 15) (by kernel_rfl) rfl (fun K hK => ?_)
  go_simp
  refine hK.out _ _ (fun _ => S1.out) (fun hS => ?_)
  have hHeld := hS (by decide)
  clear hK K hS
  try simp only [Act.put, List.setIfInBounds_toArray, List.set_cons_zero, List.set_cons_succ]
  refine wpFin_one (i := 16) (by kernel_rfl) rfl (fun K hK => ?_)
  go_simp
  go_at_call 136
  refine (c_InsG _ F.n1 pp F.f1 (r4 id g a c) w2.heap.size B 0 _ KTA.out (by omega) hp.out KX.out NE.out.2.2 (by have := HZ.out; simp; omega)).mono ?_
  rintro e w3 ⟨v', rfl, hO, hgr⟩
  obtain ⟨A', c', rfl, -, -⟩ := OwnT.tab hO
  have KO3 := Lib.hid hO
  have KG3 := Lib.hid hgr
  have F3 := Lib.hid (KFA.out.grownO hgr NE.out.2.1)
  have S2 : Hid ((fun w' => w'.cell? ⟨b, 1, none⟩ = some (.int .i64 id) ∧ w'.cell? ⟨b, 2, none⟩ = some (.int .i64 g) ∧ w'.cell? ⟨b, 3, none⟩ = some (.int .i64 a) ∧ w'.cell? ⟨b, 4, none⟩ = some (.int .i64 c) ∧ w'.cell? ⟨fb, 1, none⟩ = some (.slice A1 F.n1 c1) ∧ w'.frozen? ⟨fb, 1, none⟩ = false) w3) := Lib.hid (HS.out _ (KEA.out.grownO hgr NE.out.1) F3.out)
  obtain ⟨-, -, -, -, sc, sf⟩ := S2.out
  clear hO hgr
  go_wp2_with fail
  refine hK.out _ _ (fun _ => S2.out) (fun hS => ?_)
  have hHeld := hS (by decide)
  clear hK K hS
  try simp only [Act.put, List.setIfInBounds_toArray, List.set_cons_zero, List.set_cons_succ]
  refine wpFin_one (i := 17) (by kernel_rfl) rfl (fun K hK => ?_)
  go_simp
  refine hK.out _ _ (fun _ => S2.out) (fun hS => ?_)
  clear hK K hS
  try simp only [Act.put, List.setIfInBounds_toArray, List.set_cons_zero, List.set_cons_succ]
  refine wpFin_take (i := 18) (v := ?_) (by kernel_rfl) rfl (by decide) (by kernel_rfl) (by kernel_rfl) (by kernel_rfl) (fun _ _ _ h => h) (Or.inl ⟨by rfl, ?_⟩) (by assumption) ?_
  rotate_left 1
  · (intro w hSw; (try dsimp only at hSw); go_simp; first | done | with_reducible rfl)
  try simp only [Act.put, List.setIfInBounds_toArray, List.set_cons_zero, List.set_cons_succ]
  refine wpFin_one (i := 19) (by kernel_rfl) rfl (fun K hK => ?_)
  go_simp
  refine hK.out _ _ (fun h => absurd rfl h) (fun hS => ?_)
  clear hK K hS
  try simp only [Act.put, List.setIfInBounds_toArray, List.set_cons_zero, List.set_cons_succ]
  refine wpFin_done (by kernel_rfl) ?_ _
  have F4 := Lib.hid ((F3.out.setc 1 (.slice A' (F.n1 + 1) c')).cast (ds := #[.int .i64 F.cap, (.slice A' (F.n1 + 1) c'), .slice A2 F.n2 c2]) (by simp only [List.setIfInBounds_toArray, List.set_cons_zero, List.set_cons_succ]))
  have O3 := Lib.hid (KOA.out.grown KG3.out NO.out)
  have N3 := Lib.hid (KO3.out.neBlk F3.out (by decide))
  have N4 := Lib.hid (O3.out.neBlk F3.out (by decide))
  have FI : Hid (FarmIn (w3.setCell ⟨fb, 1, none⟩ (.slice A' (F.n1 + 1) c')) B fb (edF F 6 id g a c)) := Lib.hid (by rw [hed.out]; exact ⟨_, _, F4.out, KO3.out.setf (p := ⟨fb, 1, none⟩) N3.out (.slice A' (F.n1 + 1) c'), O3.out.setf (p := ⟨fb, 1, none⟩) N4.out (.slice A' (F.n1 + 1) c')⟩)
  have BF := Lib.hid (show Below B w1 (w3.setCell ⟨fb, 1, none⟩ (.slice A' (F.n1 + 1) c')) from ((KQ.out.mono (by have := EB.out.lt; omega)).trans (BE.out.grown KG3.out (by have := HZ.out; simp; omega) (fun k hk => (World.ownsRow.lt KTA.out k hk).1))).setCell (p := ⟨fb, 1, none⟩) FB.out.1 (.slice A' (F.n1 + 1) c'))
  clear S0 S1 S2 sc sf hHeld
  go_wp2_with fail
  go_ret
  exact ⟨by rw [hec.out]; rfl, (HB.out.mono (by rw [HBB.out]; exact hB)).trans BF.out, fun _ => FI.out⟩
end Go.Proofs.Ytipkbapnhgdpeaa.C
