/- edit, way by way: members. No condition. -/
import Derived.Test.YtipkbapnhgdpeaaFEdA
namespace Go.Proofs.Ytipkbapnhgdpeaa.C
open Go.RowKit
set_option maxRecDepth 100000
set_option linter.unusedVariables false
set_option linter.unusedSimpArgs false
attribute [local go_sem ↓] Go.wp_at_zero Go.wp_at_succ
set_option maxHeartbeats 1000000 in
theorem c_edit_leave_none {F : Fm} {id : Int} {B fb : Nat} {w : World} (h : FarmIn w B fb F) (hr : Right F) (hB : B ≤ w.heap.size) (e0 : hasId F.n2 F.f2 id = false) :
    Calls Try.prog 115 #[.pointer (some ⟨fb, 0, none⟩), .agg #[.int .i64 2, .int .i64 id, .int .i64 0, .int .i64 0, .int .i64 0]] w (EdOut F 2 id 0 0 0 B fb w) := by
  obtain ⟨vg, vm, hBk, hG, hM⟩ := h
  obtain ⟨A1, c1, rfl, hc1, hT1⟩ := hG.tab
  obtain ⟨A2, c2, rfl, hc2, hT2⟩ := hM.tab
  have hal := (Below.refl w.heap.size w).alloc (Nat.le_refl _) (.cells #[.int .i64 2, .int .i64 id, .int .i64 0, .int .i64 0, .int .i64 0] 56)
  have FB := Lib.hid (hBk.keep hal)
  have EB := Lib.hid (Blk.new (w := w) (B := 0) (Nat.zero_le _) #[.int .i64 2, .int .i64 id, .int .i64 0, .int .i64 0, .int .i64 0] 56)
  have T := Lib.hid ((⟨hT1, hT2⟩ : FarmAt w A1 F.n1 F.f1 A2 F.n2 F.f2).keep hal)
  have G1 := Lib.hid (hG.keep hal)
  have M1 := Lib.hid (hM.keep hal)
  have HL := Lib.hid (show fb < w.heap.size from hBk.lt)
  have LG := Lib.hid (show ∀ k, (Value.slice A1 F.n1 c1).ownBlock = some k → k < w.heap.size from fun k e => (World.ownsRow.lt hG k e).2)
  have LM := Lib.hid (show ∀ k, (Value.slice A2 F.n2 c2).ownBlock = some k → k < w.heap.size from fun k e => (World.ownsRow.lt hM k e).2)
  have HB := Lib.hid hal
  have HR := Lib.hid hr
  have hl1 := hr.l1
  have hl2 := hr.l2
  clear hr hal hBk hG hM hT1 hT2
  have hec := Lib.hid (show edC F 2 id 0 0 0 = 4 by unfold edC; rw [if_neg (by decide), if_neg (by decide), if_neg (by decide), if_neg (by decide), if_pos e0])
  have HE0 := Lib.hid e0
  clear e0
  go_enter Try.func115, Try.ntmps115
  go_upto_region 1 with fail
  generalize w.alloc (.cells #[.int .i64 2, .int .i64 id, .int .i64 0, .int .i64 0, .int .i64 0] 56) = w1 at *
  obtain ⟨b, hbb⟩ : ∃ b, w.heap.size = b := ⟨_, rfl⟩
  have HBB := Lib.hid hbb
  rw [hbb] at EB HL LG LM hB ⊢
  clear hbb
  have t0 : ∀ p : BehW w1, p.w.cell? ⟨fb, 0, none⟩ = some (.int .i64 F.cap) := fun p => ((FB.out.keep p.h).cell 0).trans rfl
  have t1 : ∀ p : BehW w1, p.w.cell? ⟨fb, 1, none⟩ = some (.slice A1 F.n1 c1) := fun p => ((FB.out.keep p.h).cell 1).trans rfl
  have t2 : ∀ p : BehW w1, p.w.cell? ⟨fb, 2, none⟩ = some (.slice A2 F.n2 c2) := fun p => ((FB.out.keep p.h).cell 2).trans rfl
  have s0 : ∀ p : BehW w1, p.w.cell? ⟨b, 0, none⟩ = some (.int .i64 2) := fun p => ((EB.out.keep p.h).cell 0).trans rfl
  have s1 : ∀ p : BehW w1, p.w.cell? ⟨b, 1, none⟩ = some (.int .i64 id) := fun p => ((EB.out.keep p.h).cell 1).trans rfl
  have s2 : ∀ p : BehW w1, p.w.cell? ⟨b, 2, none⟩ = some (.int .i64 0) := fun p => ((EB.out.keep p.h).cell 2).trans rfl
  have s3 : ∀ p : BehW w1, p.w.cell? ⟨b, 3, none⟩ = some (.int .i64 0) := fun p => ((EB.out.keep p.h).cell 3).trans rfl
  have s4 : ∀ p : BehW w1, p.w.cell? ⟨b, 4, none⟩ = some (.int .i64 0) := fun p => ((EB.out.keep p.h).cell 4).trans rfl
  obtain ⟨hg1, ehg⟩ : ∃ x, hasId F.n1 F.f1 id = x := ⟨_, rfl⟩
  have EHG := Lib.hid ehg
  clear ehg
  have HG : Hid (∀ p : BehW w1, Calls Try.prog 79 #[.agg #[.int .i64 F.cap, .slice A1 F.n1 c1, .slice A2 F.n2 c2], .int .i64 id] p.w fun e w' => e = .returned (.tuple #[.int .i64 (posT F.n1 F.f1 id : Nat), .bool hg1]) ∧ Below p.w.heap.size p.w w') := Lib.hid fun p => EHG.out ▸ c_groupP F.cap A1 A2 F.n1 c1 F.n2 c2 F.f1 _ p.w (T.out.keep p.h).g (by omega) HR.out.r1
  have HM : Hid (∀ p : BehW w1, Calls Try.prog 80 #[.agg #[.int .i64 F.cap, .slice A1 F.n1 c1, .slice A2 F.n2 c2], .int .i64 id] p.w fun e w' => e = .returned (.tuple #[.int .i64 (posT F.n2 F.f2 id : Nat), .bool false]) ∧ Below p.w.heap.size p.w w') := Lib.hid fun p => HE0.out ▸ c_memberP F.cap A1 A2 F.n1 c1 F.n2 c2 F.f2 _ p.w (T.out.keep p.h).m (by omega) HR.out.r2
  refine wp_region_beh (by kernel_rfl) (by kernel_rfl) ?_
  repeat (go_big_quiet_step ((first | (go_at_call 79; exact beh_below (HG.out _)) | fail)))
  refine wpQuiet_nil ?_
  intro _ hw'
  obtain ⟨q1, hw''⟩ := hw'
  subst hw''
  go_upto_region 2 with fail
  refine wp_region_behq q1 (by kernel_rfl) (by kernel_rfl) ?_
  repeat (go_big_quiet_step ((first | (go_at_call 80; exact beh_below (HM.out _)) | fail)))
  refine wpQuiet_nil ?_
  intro _ hw'
  obtain ⟨q2, hw''⟩ := hw'
  subst hw''
  go_wp2_with fail
  go_ret
  exact EdOut.no (by rw [HBB.out]; exact hB) hec.out (by decide) (HB.out.trans (q2.h.mono (by rw [HBB.out]; exact Nat.le_of_lt EB.out.lt)))
set_option maxHeartbeats 1000000 in
theorem c_edit_leave_go {F : Fm} {id : Int} {B fb : Nat} {w : World} (h : FarmIn w B fb F) (hr : Right F) (hB : B ≤ w.heap.size) (e0 : hasId F.n2 F.f2 id = true) :
    Calls Try.prog 115 #[.pointer (some ⟨fb, 0, none⟩), .agg #[.int .i64 2, .int .i64 id, .int .i64 0, .int .i64 0, .int .i64 0]] w (EdOut F 2 id 0 0 0 B fb w) := by
  obtain ⟨vg, vm, hBk, hG, hM⟩ := h
  obtain ⟨A1, c1, rfl, hc1, hT1⟩ := hG.tab
  obtain ⟨A2, c2, rfl, hc2, hT2⟩ := hM.tab
  have hal := (Below.refl w.heap.size w).alloc (Nat.le_refl _) (.cells #[.int .i64 2, .int .i64 id, .int .i64 0, .int .i64 0, .int .i64 0] 56)
  have FB := Lib.hid (hBk.keep hal)
  have EB := Lib.hid (Blk.new (w := w) (B := 0) (Nat.zero_le _) #[.int .i64 2, .int .i64 id, .int .i64 0, .int .i64 0, .int .i64 0] 56)
  have T := Lib.hid ((⟨hT1, hT2⟩ : FarmAt w A1 F.n1 F.f1 A2 F.n2 F.f2).keep hal)
  have G1 := Lib.hid (hG.keep hal)
  have M1 := Lib.hid (hM.keep hal)
  have HL := Lib.hid (show fb < w.heap.size from hBk.lt)
  have LG := Lib.hid (show ∀ k, (Value.slice A1 F.n1 c1).ownBlock = some k → k < w.heap.size from fun k e => (World.ownsRow.lt hG k e).2)
  have LM := Lib.hid (show ∀ k, (Value.slice A2 F.n2 c2).ownBlock = some k → k < w.heap.size from fun k e => (World.ownsRow.lt hM k e).2)
  have HB := Lib.hid hal
  have HR := Lib.hid hr
  have hl1 := hr.l1
  have hl2 := hr.l2
  clear hr hal hBk hG hM hT1 hT2
  have hec := Lib.hid (show edC F 2 id 0 0 0 = 0 by unfold edC; rw [if_neg (by decide), if_neg (by decide), if_neg (by decide), if_neg (by decide), if_neg (by rw [e0]; decide), if_neg (by decide)])
  have HE0 := Lib.hid e0
  clear e0
  go_enter Try.func115, Try.ntmps115
  go_upto_region 1 with fail
  generalize w.alloc (.cells #[.int .i64 2, .int .i64 id, .int .i64 0, .int .i64 0, .int .i64 0] 56) = w1 at *
  obtain ⟨b, hbb⟩ : ∃ b, w.heap.size = b := ⟨_, rfl⟩
  have HBB := Lib.hid hbb
  rw [hbb] at EB HL LG LM hB ⊢
  clear hbb
  have t0 : ∀ p : BehW w1, p.w.cell? ⟨fb, 0, none⟩ = some (.int .i64 F.cap) := fun p => ((FB.out.keep p.h).cell 0).trans rfl
  have t1 : ∀ p : BehW w1, p.w.cell? ⟨fb, 1, none⟩ = some (.slice A1 F.n1 c1) := fun p => ((FB.out.keep p.h).cell 1).trans rfl
  have t2 : ∀ p : BehW w1, p.w.cell? ⟨fb, 2, none⟩ = some (.slice A2 F.n2 c2) := fun p => ((FB.out.keep p.h).cell 2).trans rfl
  have s0 : ∀ p : BehW w1, p.w.cell? ⟨b, 0, none⟩ = some (.int .i64 2) := fun p => ((EB.out.keep p.h).cell 0).trans rfl
  have s1 : ∀ p : BehW w1, p.w.cell? ⟨b, 1, none⟩ = some (.int .i64 id) := fun p => ((EB.out.keep p.h).cell 1).trans rfl
  have s2 : ∀ p : BehW w1, p.w.cell? ⟨b, 2, none⟩ = some (.int .i64 0) := fun p => ((EB.out.keep p.h).cell 2).trans rfl
  have s3 : ∀ p : BehW w1, p.w.cell? ⟨b, 3, none⟩ = some (.int .i64 0) := fun p => ((EB.out.keep p.h).cell 3).trans rfl
  have s4 : ∀ p : BehW w1, p.w.cell? ⟨b, 4, none⟩ = some (.int .i64 0) := fun p => ((EB.out.keep p.h).cell 4).trans rfl
  obtain ⟨hg1, ehg⟩ : ∃ x, hasId F.n1 F.f1 id = x := ⟨_, rfl⟩
  have EHG := Lib.hid ehg
  clear ehg
  have HG : Hid (∀ p : BehW w1, Calls Try.prog 79 #[.agg #[.int .i64 F.cap, .slice A1 F.n1 c1, .slice A2 F.n2 c2], .int .i64 id] p.w fun e w' => e = .returned (.tuple #[.int .i64 (posT F.n1 F.f1 id : Nat), .bool hg1]) ∧ Below p.w.heap.size p.w w') := Lib.hid fun p => EHG.out ▸ c_groupP F.cap A1 A2 F.n1 c1 F.n2 c2 F.f1 _ p.w (T.out.keep p.h).g (by omega) HR.out.r1
  have HM : Hid (∀ p : BehW w1, Calls Try.prog 80 #[.agg #[.int .i64 F.cap, .slice A1 F.n1 c1, .slice A2 F.n2 c2], .int .i64 id] p.w fun e w' => e = .returned (.tuple #[.int .i64 (posT F.n2 F.f2 id : Nat), .bool true]) ∧ Below p.w.heap.size p.w w') := Lib.hid fun p => HE0.out ▸ c_memberP F.cap A1 A2 F.n1 c1 F.n2 c2 F.f2 _ p.w (T.out.keep p.h).m (by omega) HR.out.r2
  refine wp_region_beh (by kernel_rfl) (by kernel_rfl) ?_
  repeat (go_big_quiet_step ((first | (go_at_call 79; exact beh_below (HG.out _)) | fail)))
  refine wpQuiet_nil ?_
  intro _ hw'
  obtain ⟨q1, hw''⟩ := hw'
  subst hw''
  go_upto_region 2 with fail
  refine wp_region_behq q1 (by kernel_rfl) (by kernel_rfl) ?_
  repeat (go_big_quiet_step ((first | (go_at_call 80; exact beh_below (HM.out _)) | fail)))
  refine wpQuiet_nil ?_
  intro _ hw'
  obtain ⟨q2, hw''⟩ := hw'
  subst hw''
  go_upto_region 28 with fail
  generalize hq : q2.w = w2 at *
  have hbq := q2.h
  rw [hq] at hbq
  have KQ := Lib.hid hbq
  clear hbq hq
  have KE := Lib.hid (EB.out.keep KQ.out)
  have KF := Lib.hid (FB.out.keep KQ.out)
  have KG := Lib.hid (G1.out.keep KQ.out)
  have KM := Lib.hid (M1.out.keep KQ.out)
  have HZ := Lib.hid (show b < w2.heap.size from (EB.out.keep KQ.out).lt)
  have HQ := Lib.hid (show Below B w1 w2 from KQ.out.mono (by have := EB.out.lt; omega))
  have hpp := has_at HR.out.r2 HE0.out
  have hed := Lib.hid (show edF F 2 id 0 0 0 = { F with n2 := F.n2 - 1, f2 := delT (posT F.n2 F.f2 id) F.f2 } from rfl)
  generalize posT F.n2 F.f2 id = pp at *
  obtain ⟨m, hm⟩ : ∃ m, F.n2 = m + 1 := ⟨F.n2 - 1, by omega⟩
  have HM2 := Lib.hid hm
  have hp := hpp.1
  have hp2 : pp ≤ 60 := by omega
  clear hpp
  have KT := Lib.hid (show OwnT 91 w2 B (.slice A2 F.n2 c2) (m + 1) F.f2 from hm ▸ KM.out)
  have hpm := Lib.hid (show pp ≤ m by omega)
  have hm3 := Lib.hid (show m ≤ 1000 by omega)
  clear hm hp
  have NE := Lib.hid (show ((.slice A2 F.n2 c2 : Value).ownBlock ≠ some b) ∧ ((.slice A2 F.n2 c2 : Value).ownBlock ≠ some fb) from ⟨fun e => by have := LM.out b e; omega, KM.out.neBlk KF.out (by decide)⟩)
  have NO := Lib.hid (show ∀ k, (.slice A1 F.n1 c1 : Value).ownBlock = some k → (.slice A2 F.n2 c2 : Value).ownBlock ≠ some k from fun k e => KG.out.ne KM.out (by decide) e)
  have x2 := (KF.out.cell 2).trans rfl
  clear t0 t1 t2 s0 s1 s2 s3 s4
  go_wp2_with (first | (go_at_call 133; refine (c_DelM _ m pp F.f2 B _ KT.out hm3.out hpm.out).mono ?_; rintro e w3 ⟨v', rfl, hO, hgr, hob⟩; obtain ⟨A', c', rfl, -, -⟩ := OwnT.tab hO; have KO3 := Lib.hid hO; have KG3 := Lib.hid hgr; have F3 := Lib.hid (KF.out.grownO hgr NE.out.2); have y1 := (F3.out.cell 2).trans rfl; have y2 := F3.out.frozen 2; clear hO hgr hob) | fail)
  have F4 := Lib.hid ((F3.out.setc 2 (.slice A' m c')).cast (ds := #[.int .i64 F.cap, .slice A1 F.n1 c1, (.slice A' m c')]) (by simp only [List.setIfInBounds_toArray, List.set_cons_zero, List.set_cons_succ]))
  have O3 := Lib.hid (KG.out.grown KG3.out NO.out)
  have N3 := Lib.hid (KO3.out.neBlk F3.out (by decide))
  have N4 := Lib.hid (O3.out.neBlk F3.out (by decide))
  have em : F.n2 - 1 = m := by have := HM2.out; omega
  have FI : Hid (FarmIn (w3.setCell ⟨fb, 2, none⟩ (.slice A' m c')) B fb (edF F 2 id 0 0 0)) := Lib.hid (by rw [hed.out, em]; exact ⟨_, _, F4.out, O3.out.setf (p := ⟨fb, 2, none⟩) N4.out (.slice A' m c'), KO3.out.setf (p := ⟨fb, 2, none⟩) N3.out (.slice A' m c')⟩)
  have BF := Lib.hid (show Below B w1 (w3.setCell ⟨fb, 2, none⟩ (.slice A' m c')) from (HQ.out.trans ((Below.refl B w2).grown KG3.out (by have := HZ.out; omega) (fun k hk => (World.ownsRow.lt KM.out k hk).1))).setCell (p := ⟨fb, 2, none⟩) FB.out.1 (.slice A' m c'))
  go_ret
  exact ⟨by rw [hec.out]; rfl, (HB.out.mono (by rw [HBB.out]; exact hB)).trans BF.out, fun _ => FI.out⟩
set_option maxHeartbeats 1000000 in
theorem c_edit_want_none {F : Fm} {id a : Int} {B fb : Nat} {w : World} (h : FarmIn w B fb F) (hr : Right F) (hB : B ≤ w.heap.size) (e0 : hasId F.n2 F.f2 id = false) :
    Calls Try.prog 115 #[.pointer (some ⟨fb, 0, none⟩), .agg #[.int .i64 3, .int .i64 id, .int .i64 0, .int .i64 a, .int .i64 0]] w (EdOut F 3 id 0 a 0 B fb w) := by
  obtain ⟨vg, vm, hBk, hG, hM⟩ := h
  obtain ⟨A1, c1, rfl, hc1, hT1⟩ := hG.tab
  obtain ⟨A2, c2, rfl, hc2, hT2⟩ := hM.tab
  have hal := (Below.refl w.heap.size w).alloc (Nat.le_refl _) (.cells #[.int .i64 3, .int .i64 id, .int .i64 0, .int .i64 a, .int .i64 0] 56)
  have FB := Lib.hid (hBk.keep hal)
  have EB := Lib.hid (Blk.new (w := w) (B := 0) (Nat.zero_le _) #[.int .i64 3, .int .i64 id, .int .i64 0, .int .i64 a, .int .i64 0] 56)
  have T := Lib.hid ((⟨hT1, hT2⟩ : FarmAt w A1 F.n1 F.f1 A2 F.n2 F.f2).keep hal)
  have G1 := Lib.hid (hG.keep hal)
  have M1 := Lib.hid (hM.keep hal)
  have HL := Lib.hid (show fb < w.heap.size from hBk.lt)
  have LG := Lib.hid (show ∀ k, (Value.slice A1 F.n1 c1).ownBlock = some k → k < w.heap.size from fun k e => (World.ownsRow.lt hG k e).2)
  have LM := Lib.hid (show ∀ k, (Value.slice A2 F.n2 c2).ownBlock = some k → k < w.heap.size from fun k e => (World.ownsRow.lt hM k e).2)
  have HB := Lib.hid hal
  have HR := Lib.hid hr
  have hl1 := hr.l1
  have hl2 := hr.l2
  clear hr hal hBk hG hM hT1 hT2
  have hec := Lib.hid (show edC F 3 id 0 a 0 = 4 by unfold edC; rw [if_neg (by decide), if_neg (by decide), if_neg (by decide), if_neg (by decide), if_pos e0])
  have HE0 := Lib.hid e0
  clear e0
  go_enter Try.func115, Try.ntmps115
  go_upto_region 1 with fail
  generalize w.alloc (.cells #[.int .i64 3, .int .i64 id, .int .i64 0, .int .i64 a, .int .i64 0] 56) = w1 at *
  obtain ⟨b, hbb⟩ : ∃ b, w.heap.size = b := ⟨_, rfl⟩
  have HBB := Lib.hid hbb
  rw [hbb] at EB HL LG LM hB ⊢
  clear hbb
  have t0 : ∀ p : BehW w1, p.w.cell? ⟨fb, 0, none⟩ = some (.int .i64 F.cap) := fun p => ((FB.out.keep p.h).cell 0).trans rfl
  have t1 : ∀ p : BehW w1, p.w.cell? ⟨fb, 1, none⟩ = some (.slice A1 F.n1 c1) := fun p => ((FB.out.keep p.h).cell 1).trans rfl
  have t2 : ∀ p : BehW w1, p.w.cell? ⟨fb, 2, none⟩ = some (.slice A2 F.n2 c2) := fun p => ((FB.out.keep p.h).cell 2).trans rfl
  have s0 : ∀ p : BehW w1, p.w.cell? ⟨b, 0, none⟩ = some (.int .i64 3) := fun p => ((EB.out.keep p.h).cell 0).trans rfl
  have s1 : ∀ p : BehW w1, p.w.cell? ⟨b, 1, none⟩ = some (.int .i64 id) := fun p => ((EB.out.keep p.h).cell 1).trans rfl
  have s2 : ∀ p : BehW w1, p.w.cell? ⟨b, 2, none⟩ = some (.int .i64 0) := fun p => ((EB.out.keep p.h).cell 2).trans rfl
  have s3 : ∀ p : BehW w1, p.w.cell? ⟨b, 3, none⟩ = some (.int .i64 a) := fun p => ((EB.out.keep p.h).cell 3).trans rfl
  have s4 : ∀ p : BehW w1, p.w.cell? ⟨b, 4, none⟩ = some (.int .i64 0) := fun p => ((EB.out.keep p.h).cell 4).trans rfl
  obtain ⟨hg1, ehg⟩ : ∃ x, hasId F.n1 F.f1 id = x := ⟨_, rfl⟩
  have EHG := Lib.hid ehg
  clear ehg
  have HG : Hid (∀ p : BehW w1, Calls Try.prog 79 #[.agg #[.int .i64 F.cap, .slice A1 F.n1 c1, .slice A2 F.n2 c2], .int .i64 id] p.w fun e w' => e = .returned (.tuple #[.int .i64 (posT F.n1 F.f1 id : Nat), .bool hg1]) ∧ Below p.w.heap.size p.w w') := Lib.hid fun p => EHG.out ▸ c_groupP F.cap A1 A2 F.n1 c1 F.n2 c2 F.f1 _ p.w (T.out.keep p.h).g (by omega) HR.out.r1
  have HM : Hid (∀ p : BehW w1, Calls Try.prog 80 #[.agg #[.int .i64 F.cap, .slice A1 F.n1 c1, .slice A2 F.n2 c2], .int .i64 id] p.w fun e w' => e = .returned (.tuple #[.int .i64 (posT F.n2 F.f2 id : Nat), .bool false]) ∧ Below p.w.heap.size p.w w') := Lib.hid fun p => HE0.out ▸ c_memberP F.cap A1 A2 F.n1 c1 F.n2 c2 F.f2 _ p.w (T.out.keep p.h).m (by omega) HR.out.r2
  refine wp_region_beh (by kernel_rfl) (by kernel_rfl) ?_
  repeat (go_big_quiet_step ((first | (go_at_call 79; exact beh_below (HG.out _)) | fail)))
  refine wpQuiet_nil ?_
  intro _ hw'
  obtain ⟨q1, hw''⟩ := hw'
  subst hw''
  go_upto_region 2 with fail
  refine wp_region_behq q1 (by kernel_rfl) (by kernel_rfl) ?_
  repeat (go_big_quiet_step ((first | (go_at_call 80; exact beh_below (HM.out _)) | fail)))
  refine wpQuiet_nil ?_
  intro _ hw'
  obtain ⟨q2, hw''⟩ := hw'
  subst hw''
  go_wp2_with fail
  go_ret
  exact EdOut.no (by rw [HBB.out]; exact hB) hec.out (by decide) (HB.out.trans (q2.h.mono (by rw [HBB.out]; exact Nat.le_of_lt EB.out.lt)))
set_option maxHeartbeats 1000000 in
theorem c_edit_want_go {F : Fm} {id a : Int} {B fb : Nat} {w : World} (h : FarmIn w B fb F) (hr : Right F) (hB : B ≤ w.heap.size) (e0 : hasId F.n2 F.f2 id = true) :
    Calls Try.prog 115 #[.pointer (some ⟨fb, 0, none⟩), .agg #[.int .i64 3, .int .i64 id, .int .i64 0, .int .i64 a, .int .i64 0]] w (EdOut F 3 id 0 a 0 B fb w) := by
  obtain ⟨vg, vm, hBk, hG, hM⟩ := h
  obtain ⟨A1, c1, rfl, hc1, hT1⟩ := hG.tab
  obtain ⟨A2, c2, rfl, hc2, hT2⟩ := hM.tab
  have hal := (Below.refl w.heap.size w).alloc (Nat.le_refl _) (.cells #[.int .i64 3, .int .i64 id, .int .i64 0, .int .i64 a, .int .i64 0] 56)
  have FB := Lib.hid (hBk.keep hal)
  have EB := Lib.hid (Blk.new (w := w) (B := 0) (Nat.zero_le _) #[.int .i64 3, .int .i64 id, .int .i64 0, .int .i64 a, .int .i64 0] 56)
  have T := Lib.hid ((⟨hT1, hT2⟩ : FarmAt w A1 F.n1 F.f1 A2 F.n2 F.f2).keep hal)
  have G1 := Lib.hid (hG.keep hal)
  have M1 := Lib.hid (hM.keep hal)
  have HL := Lib.hid (show fb < w.heap.size from hBk.lt)
  have LG := Lib.hid (show ∀ k, (Value.slice A1 F.n1 c1).ownBlock = some k → k < w.heap.size from fun k e => (World.ownsRow.lt hG k e).2)
  have LM := Lib.hid (show ∀ k, (Value.slice A2 F.n2 c2).ownBlock = some k → k < w.heap.size from fun k e => (World.ownsRow.lt hM k e).2)
  have HB := Lib.hid hal
  have HR := Lib.hid hr
  have hl1 := hr.l1
  have hl2 := hr.l2
  clear hr hal hBk hG hM hT1 hT2
  have hec := Lib.hid (show edC F 3 id 0 a 0 = 0 by unfold edC; rw [if_neg (by decide), if_neg (by decide), if_neg (by decide), if_neg (by decide), if_neg (by rw [e0]; decide), if_neg (by decide)])
  have HE0 := Lib.hid e0
  clear e0
  go_enter Try.func115, Try.ntmps115
  go_upto_region 1 with fail
  generalize w.alloc (.cells #[.int .i64 3, .int .i64 id, .int .i64 0, .int .i64 a, .int .i64 0] 56) = w1 at *
  obtain ⟨b, hbb⟩ : ∃ b, w.heap.size = b := ⟨_, rfl⟩
  have HBB := Lib.hid hbb
  rw [hbb] at EB HL LG LM hB ⊢
  clear hbb
  have t0 : ∀ p : BehW w1, p.w.cell? ⟨fb, 0, none⟩ = some (.int .i64 F.cap) := fun p => ((FB.out.keep p.h).cell 0).trans rfl
  have t1 : ∀ p : BehW w1, p.w.cell? ⟨fb, 1, none⟩ = some (.slice A1 F.n1 c1) := fun p => ((FB.out.keep p.h).cell 1).trans rfl
  have t2 : ∀ p : BehW w1, p.w.cell? ⟨fb, 2, none⟩ = some (.slice A2 F.n2 c2) := fun p => ((FB.out.keep p.h).cell 2).trans rfl
  have s0 : ∀ p : BehW w1, p.w.cell? ⟨b, 0, none⟩ = some (.int .i64 3) := fun p => ((EB.out.keep p.h).cell 0).trans rfl
  have s1 : ∀ p : BehW w1, p.w.cell? ⟨b, 1, none⟩ = some (.int .i64 id) := fun p => ((EB.out.keep p.h).cell 1).trans rfl
  have s2 : ∀ p : BehW w1, p.w.cell? ⟨b, 2, none⟩ = some (.int .i64 0) := fun p => ((EB.out.keep p.h).cell 2).trans rfl
  have s3 : ∀ p : BehW w1, p.w.cell? ⟨b, 3, none⟩ = some (.int .i64 a) := fun p => ((EB.out.keep p.h).cell 3).trans rfl
  have s4 : ∀ p : BehW w1, p.w.cell? ⟨b, 4, none⟩ = some (.int .i64 0) := fun p => ((EB.out.keep p.h).cell 4).trans rfl
  obtain ⟨hg1, ehg⟩ : ∃ x, hasId F.n1 F.f1 id = x := ⟨_, rfl⟩
  have EHG := Lib.hid ehg
  clear ehg
  have HG : Hid (∀ p : BehW w1, Calls Try.prog 79 #[.agg #[.int .i64 F.cap, .slice A1 F.n1 c1, .slice A2 F.n2 c2], .int .i64 id] p.w fun e w' => e = .returned (.tuple #[.int .i64 (posT F.n1 F.f1 id : Nat), .bool hg1]) ∧ Below p.w.heap.size p.w w') := Lib.hid fun p => EHG.out ▸ c_groupP F.cap A1 A2 F.n1 c1 F.n2 c2 F.f1 _ p.w (T.out.keep p.h).g (by omega) HR.out.r1
  have HM : Hid (∀ p : BehW w1, Calls Try.prog 80 #[.agg #[.int .i64 F.cap, .slice A1 F.n1 c1, .slice A2 F.n2 c2], .int .i64 id] p.w fun e w' => e = .returned (.tuple #[.int .i64 (posT F.n2 F.f2 id : Nat), .bool true]) ∧ Below p.w.heap.size p.w w') := Lib.hid fun p => HE0.out ▸ c_memberP F.cap A1 A2 F.n1 c1 F.n2 c2 F.f2 _ p.w (T.out.keep p.h).m (by omega) HR.out.r2
  refine wp_region_beh (by kernel_rfl) (by kernel_rfl) ?_
  repeat (go_big_quiet_step ((first | (go_at_call 79; exact beh_below (HG.out _)) | fail)))
  refine wpQuiet_nil ?_
  intro _ hw'
  obtain ⟨q1, hw''⟩ := hw'
  subst hw''
  go_upto_region 2 with fail
  refine wp_region_behq q1 (by kernel_rfl) (by kernel_rfl) ?_
  repeat (go_big_quiet_step ((first | (go_at_call 80; exact beh_below (HM.out _)) | fail)))
  refine wpQuiet_nil ?_
  intro _ hw'
  obtain ⟨q2, hw''⟩ := hw'
  subst hw''
  go_upto_region 30 with fail
  generalize hq : q2.w = w2 at *
  have hbq := q2.h
  rw [hq] at hbq
  have KQ := Lib.hid hbq
  clear hbq hq
  have KE := Lib.hid (EB.out.keep KQ.out)
  have KF := Lib.hid (FB.out.keep KQ.out)
  have KG := Lib.hid (G1.out.keep KQ.out)
  have KM := Lib.hid (M1.out.keep KQ.out)
  have HZ := Lib.hid (show b < w2.heap.size from (EB.out.keep KQ.out).lt)
  have HQ := Lib.hid (show Below B w1 w2 from KQ.out.mono (by have := EB.out.lt; omega))
  have hpp := has_at HR.out.r2 HE0.out
  have hed := Lib.hid (show edF F 3 id 0 a 0 = { F with f2 := setT (posT F.n2 F.f2 id) 2 a F.f2 } from rfl)
  generalize posT F.n2 F.f2 id = pp at *
  have hp := hpp.1
  clear hpp
  obtain ⟨h', _⟩ | ⟨gk, ck, cur, h', hgb, hgl, hgg, -⟩ := KM.out.form
  · simp only [Value.slice.injEq] at h'; omega
  simp only [Value.slice.injEq] at h'
  obtain ⟨rfl, -, rfl⟩ := h'
  have hne1 : gk ≠ fb := fun e => KM.out.neBlk KF.out (by decide) (by rw [e]; rfl)
  have hne2 : gk ≠ b := fun e => by have := LM.out gk rfl; omega
  have hp0 : (0 : Int) ≤ (pp : Int) := by omega
  have hp1 : (pp : Int) < (F.n2 : Int) := by omega
  have x1 := (KF.out.cell 2).trans rfl
  have x2 := (KE.out.cell 3).trans rfl
  have x3 := KM.out.cell (i := pp) (j := 2) hp (by decide)
  have f3 := (show Blk w2 B gk cur 91 from ⟨hgb, hgg⟩).frozen (pp * 4 + 2)
  have NO := Lib.hid (show (.slice A1 F.n1 c1 : Value).ownBlock ≠ some gk from fun e => KM.out.ne KG.out (by decide) rfl e)
  have HP := Lib.hid hp
  clear t0 t1 t2 s0 s1 s2 s3 s4 hgg hp
  have F4 := Lib.hid (KF.out.drew.setf (p := ⟨gk, pp * 4 + 2, none⟩) (Ne.symm hne1) (.int .i64 a))
  have T4 := Lib.hid ((show OwnT 91 w2.drew B (.slice (some ⟨gk, 0, none⟩) F.n2 c2) F.n2 F.f2 from KM.out).setAt (j := 2) HP.out (by decide) a)
  have O4 := Lib.hid ((show OwnT 114 w2.drew B (.slice A1 F.n1 c1) F.n1 F.f1 from KG.out).setf (p := ⟨gk, pp * 4 + 2, none⟩) NO.out (.int .i64 a))
  have FI : Hid (FarmIn (w2.drew.setCell ⟨gk, pp * 4 + 2, none⟩ (.int .i64 a)) B fb (edF F 3 id 0 a 0)) := Lib.hid (by rw [hed.out]; exact ⟨_, _, F4.out, O4.out, T4.out⟩)
  have BF := Lib.hid (show Below B w1 (w2.drew.setCell ⟨gk, pp * 4 + 2, none⟩ (.int .i64 a)) from (HQ.out.drew).setCell (p := ⟨gk, pp * 4 + 2, none⟩) hgb (.int .i64 a))
  go_region
  go_wp2_with fail
  go_ret
  exact ⟨by rw [hec.out]; rfl, (HB.out.mono (by rw [HBB.out]; exact hB)).trans BF.out, fun _ => FI.out⟩
set_option maxHeartbeats 1000000 in
theorem c_edit_weight_none {F : Fm} {id a : Int} {B fb : Nat} {w : World} (h : FarmIn w B fb F) (hr : Right F) (hB : B ≤ w.heap.size) (e0 : hasId F.n2 F.f2 id = false) :
    Calls Try.prog 115 #[.pointer (some ⟨fb, 0, none⟩), .agg #[.int .i64 4, .int .i64 id, .int .i64 0, .int .i64 a, .int .i64 0]] w (EdOut F 4 id 0 a 0 B fb w) := by
  obtain ⟨vg, vm, hBk, hG, hM⟩ := h
  obtain ⟨A1, c1, rfl, hc1, hT1⟩ := hG.tab
  obtain ⟨A2, c2, rfl, hc2, hT2⟩ := hM.tab
  have hal := (Below.refl w.heap.size w).alloc (Nat.le_refl _) (.cells #[.int .i64 4, .int .i64 id, .int .i64 0, .int .i64 a, .int .i64 0] 56)
  have FB := Lib.hid (hBk.keep hal)
  have EB := Lib.hid (Blk.new (w := w) (B := 0) (Nat.zero_le _) #[.int .i64 4, .int .i64 id, .int .i64 0, .int .i64 a, .int .i64 0] 56)
  have T := Lib.hid ((⟨hT1, hT2⟩ : FarmAt w A1 F.n1 F.f1 A2 F.n2 F.f2).keep hal)
  have G1 := Lib.hid (hG.keep hal)
  have M1 := Lib.hid (hM.keep hal)
  have HL := Lib.hid (show fb < w.heap.size from hBk.lt)
  have LG := Lib.hid (show ∀ k, (Value.slice A1 F.n1 c1).ownBlock = some k → k < w.heap.size from fun k e => (World.ownsRow.lt hG k e).2)
  have LM := Lib.hid (show ∀ k, (Value.slice A2 F.n2 c2).ownBlock = some k → k < w.heap.size from fun k e => (World.ownsRow.lt hM k e).2)
  have HB := Lib.hid hal
  have HR := Lib.hid hr
  have hl1 := hr.l1
  have hl2 := hr.l2
  clear hr hal hBk hG hM hT1 hT2
  have hec := Lib.hid (show edC F 4 id 0 a 0 = 4 by unfold edC; rw [if_neg (by decide), if_neg (by decide), if_neg (by decide), if_neg (by decide), if_pos e0])
  have HE0 := Lib.hid e0
  clear e0
  go_enter Try.func115, Try.ntmps115
  go_upto_region 1 with fail
  generalize w.alloc (.cells #[.int .i64 4, .int .i64 id, .int .i64 0, .int .i64 a, .int .i64 0] 56) = w1 at *
  obtain ⟨b, hbb⟩ : ∃ b, w.heap.size = b := ⟨_, rfl⟩
  have HBB := Lib.hid hbb
  rw [hbb] at EB HL LG LM hB ⊢
  clear hbb
  have t0 : ∀ p : BehW w1, p.w.cell? ⟨fb, 0, none⟩ = some (.int .i64 F.cap) := fun p => ((FB.out.keep p.h).cell 0).trans rfl
  have t1 : ∀ p : BehW w1, p.w.cell? ⟨fb, 1, none⟩ = some (.slice A1 F.n1 c1) := fun p => ((FB.out.keep p.h).cell 1).trans rfl
  have t2 : ∀ p : BehW w1, p.w.cell? ⟨fb, 2, none⟩ = some (.slice A2 F.n2 c2) := fun p => ((FB.out.keep p.h).cell 2).trans rfl
  have s0 : ∀ p : BehW w1, p.w.cell? ⟨b, 0, none⟩ = some (.int .i64 4) := fun p => ((EB.out.keep p.h).cell 0).trans rfl
  have s1 : ∀ p : BehW w1, p.w.cell? ⟨b, 1, none⟩ = some (.int .i64 id) := fun p => ((EB.out.keep p.h).cell 1).trans rfl
  have s2 : ∀ p : BehW w1, p.w.cell? ⟨b, 2, none⟩ = some (.int .i64 0) := fun p => ((EB.out.keep p.h).cell 2).trans rfl
  have s3 : ∀ p : BehW w1, p.w.cell? ⟨b, 3, none⟩ = some (.int .i64 a) := fun p => ((EB.out.keep p.h).cell 3).trans rfl
  have s4 : ∀ p : BehW w1, p.w.cell? ⟨b, 4, none⟩ = some (.int .i64 0) := fun p => ((EB.out.keep p.h).cell 4).trans rfl
  obtain ⟨hg1, ehg⟩ : ∃ x, hasId F.n1 F.f1 id = x := ⟨_, rfl⟩
  have EHG := Lib.hid ehg
  clear ehg
  have HG : Hid (∀ p : BehW w1, Calls Try.prog 79 #[.agg #[.int .i64 F.cap, .slice A1 F.n1 c1, .slice A2 F.n2 c2], .int .i64 id] p.w fun e w' => e = .returned (.tuple #[.int .i64 (posT F.n1 F.f1 id : Nat), .bool hg1]) ∧ Below p.w.heap.size p.w w') := Lib.hid fun p => EHG.out ▸ c_groupP F.cap A1 A2 F.n1 c1 F.n2 c2 F.f1 _ p.w (T.out.keep p.h).g (by omega) HR.out.r1
  have HM : Hid (∀ p : BehW w1, Calls Try.prog 80 #[.agg #[.int .i64 F.cap, .slice A1 F.n1 c1, .slice A2 F.n2 c2], .int .i64 id] p.w fun e w' => e = .returned (.tuple #[.int .i64 (posT F.n2 F.f2 id : Nat), .bool false]) ∧ Below p.w.heap.size p.w w') := Lib.hid fun p => HE0.out ▸ c_memberP F.cap A1 A2 F.n1 c1 F.n2 c2 F.f2 _ p.w (T.out.keep p.h).m (by omega) HR.out.r2
  refine wp_region_beh (by kernel_rfl) (by kernel_rfl) ?_
  repeat (go_big_quiet_step ((first | (go_at_call 79; exact beh_below (HG.out _)) | fail)))
  refine wpQuiet_nil ?_
  intro _ hw'
  obtain ⟨q1, hw''⟩ := hw'
  subst hw''
  go_upto_region 2 with fail
  refine wp_region_behq q1 (by kernel_rfl) (by kernel_rfl) ?_
  repeat (go_big_quiet_step ((first | (go_at_call 80; exact beh_below (HM.out _)) | fail)))
  refine wpQuiet_nil ?_
  intro _ hw'
  obtain ⟨q2, hw''⟩ := hw'
  subst hw''
  go_wp2_with fail
  go_ret
  exact EdOut.no (by rw [HBB.out]; exact hB) hec.out (by decide) (HB.out.trans (q2.h.mono (by rw [HBB.out]; exact Nat.le_of_lt EB.out.lt)))
set_option maxHeartbeats 1000000 in
theorem c_edit_weight_go {F : Fm} {id a : Int} {B fb : Nat} {w : World} (h : FarmIn w B fb F) (hr : Right F) (hB : B ≤ w.heap.size) (e0 : hasId F.n2 F.f2 id = true) :
    Calls Try.prog 115 #[.pointer (some ⟨fb, 0, none⟩), .agg #[.int .i64 4, .int .i64 id, .int .i64 0, .int .i64 a, .int .i64 0]] w (EdOut F 4 id 0 a 0 B fb w) := by
  obtain ⟨vg, vm, hBk, hG, hM⟩ := h
  obtain ⟨A1, c1, rfl, hc1, hT1⟩ := hG.tab
  obtain ⟨A2, c2, rfl, hc2, hT2⟩ := hM.tab
  have hal := (Below.refl w.heap.size w).alloc (Nat.le_refl _) (.cells #[.int .i64 4, .int .i64 id, .int .i64 0, .int .i64 a, .int .i64 0] 56)
  have FB := Lib.hid (hBk.keep hal)
  have EB := Lib.hid (Blk.new (w := w) (B := 0) (Nat.zero_le _) #[.int .i64 4, .int .i64 id, .int .i64 0, .int .i64 a, .int .i64 0] 56)
  have T := Lib.hid ((⟨hT1, hT2⟩ : FarmAt w A1 F.n1 F.f1 A2 F.n2 F.f2).keep hal)
  have G1 := Lib.hid (hG.keep hal)
  have M1 := Lib.hid (hM.keep hal)
  have HL := Lib.hid (show fb < w.heap.size from hBk.lt)
  have LG := Lib.hid (show ∀ k, (Value.slice A1 F.n1 c1).ownBlock = some k → k < w.heap.size from fun k e => (World.ownsRow.lt hG k e).2)
  have LM := Lib.hid (show ∀ k, (Value.slice A2 F.n2 c2).ownBlock = some k → k < w.heap.size from fun k e => (World.ownsRow.lt hM k e).2)
  have HB := Lib.hid hal
  have HR := Lib.hid hr
  have hl1 := hr.l1
  have hl2 := hr.l2
  clear hr hal hBk hG hM hT1 hT2
  have hec := Lib.hid (show edC F 4 id 0 a 0 = 0 by unfold edC; rw [if_neg (by decide), if_neg (by decide), if_neg (by decide), if_neg (by decide), if_neg (by rw [e0]; decide), if_neg (by decide)])
  have HE0 := Lib.hid e0
  clear e0
  go_enter Try.func115, Try.ntmps115
  go_upto_region 1 with fail
  generalize w.alloc (.cells #[.int .i64 4, .int .i64 id, .int .i64 0, .int .i64 a, .int .i64 0] 56) = w1 at *
  obtain ⟨b, hbb⟩ : ∃ b, w.heap.size = b := ⟨_, rfl⟩
  have HBB := Lib.hid hbb
  rw [hbb] at EB HL LG LM hB ⊢
  clear hbb
  have t0 : ∀ p : BehW w1, p.w.cell? ⟨fb, 0, none⟩ = some (.int .i64 F.cap) := fun p => ((FB.out.keep p.h).cell 0).trans rfl
  have t1 : ∀ p : BehW w1, p.w.cell? ⟨fb, 1, none⟩ = some (.slice A1 F.n1 c1) := fun p => ((FB.out.keep p.h).cell 1).trans rfl
  have t2 : ∀ p : BehW w1, p.w.cell? ⟨fb, 2, none⟩ = some (.slice A2 F.n2 c2) := fun p => ((FB.out.keep p.h).cell 2).trans rfl
  have s0 : ∀ p : BehW w1, p.w.cell? ⟨b, 0, none⟩ = some (.int .i64 4) := fun p => ((EB.out.keep p.h).cell 0).trans rfl
  have s1 : ∀ p : BehW w1, p.w.cell? ⟨b, 1, none⟩ = some (.int .i64 id) := fun p => ((EB.out.keep p.h).cell 1).trans rfl
  have s2 : ∀ p : BehW w1, p.w.cell? ⟨b, 2, none⟩ = some (.int .i64 0) := fun p => ((EB.out.keep p.h).cell 2).trans rfl
  have s3 : ∀ p : BehW w1, p.w.cell? ⟨b, 3, none⟩ = some (.int .i64 a) := fun p => ((EB.out.keep p.h).cell 3).trans rfl
  have s4 : ∀ p : BehW w1, p.w.cell? ⟨b, 4, none⟩ = some (.int .i64 0) := fun p => ((EB.out.keep p.h).cell 4).trans rfl
  obtain ⟨hg1, ehg⟩ : ∃ x, hasId F.n1 F.f1 id = x := ⟨_, rfl⟩
  have EHG := Lib.hid ehg
  clear ehg
  have HG : Hid (∀ p : BehW w1, Calls Try.prog 79 #[.agg #[.int .i64 F.cap, .slice A1 F.n1 c1, .slice A2 F.n2 c2], .int .i64 id] p.w fun e w' => e = .returned (.tuple #[.int .i64 (posT F.n1 F.f1 id : Nat), .bool hg1]) ∧ Below p.w.heap.size p.w w') := Lib.hid fun p => EHG.out ▸ c_groupP F.cap A1 A2 F.n1 c1 F.n2 c2 F.f1 _ p.w (T.out.keep p.h).g (by omega) HR.out.r1
  have HM : Hid (∀ p : BehW w1, Calls Try.prog 80 #[.agg #[.int .i64 F.cap, .slice A1 F.n1 c1, .slice A2 F.n2 c2], .int .i64 id] p.w fun e w' => e = .returned (.tuple #[.int .i64 (posT F.n2 F.f2 id : Nat), .bool true]) ∧ Below p.w.heap.size p.w w') := Lib.hid fun p => HE0.out ▸ c_memberP F.cap A1 A2 F.n1 c1 F.n2 c2 F.f2 _ p.w (T.out.keep p.h).m (by omega) HR.out.r2
  refine wp_region_beh (by kernel_rfl) (by kernel_rfl) ?_
  repeat (go_big_quiet_step ((first | (go_at_call 79; exact beh_below (HG.out _)) | fail)))
  refine wpQuiet_nil ?_
  intro _ hw'
  obtain ⟨q1, hw''⟩ := hw'
  subst hw''
  go_upto_region 2 with fail
  refine wp_region_behq q1 (by kernel_rfl) (by kernel_rfl) ?_
  repeat (go_big_quiet_step ((first | (go_at_call 80; exact beh_below (HM.out _)) | fail)))
  refine wpQuiet_nil ?_
  intro _ hw'
  obtain ⟨q2, hw''⟩ := hw'
  subst hw''
  go_upto_region 32 with fail
  generalize hq : q2.w = w2 at *
  have hbq := q2.h
  rw [hq] at hbq
  have KQ := Lib.hid hbq
  clear hbq hq
  have KE := Lib.hid (EB.out.keep KQ.out)
  have KF := Lib.hid (FB.out.keep KQ.out)
  have KG := Lib.hid (G1.out.keep KQ.out)
  have KM := Lib.hid (M1.out.keep KQ.out)
  have HZ := Lib.hid (show b < w2.heap.size from (EB.out.keep KQ.out).lt)
  have HQ := Lib.hid (show Below B w1 w2 from KQ.out.mono (by have := EB.out.lt; omega))
  have hpp := has_at HR.out.r2 HE0.out
  have hed := Lib.hid (show edF F 4 id 0 a 0 = { F with f2 := setT (posT F.n2 F.f2 id) 3 a F.f2 } from rfl)
  generalize posT F.n2 F.f2 id = pp at *
  have hp := hpp.1
  clear hpp
  obtain ⟨h', _⟩ | ⟨gk, ck, cur, h', hgb, hgl, hgg, -⟩ := KM.out.form
  · simp only [Value.slice.injEq] at h'; omega
  simp only [Value.slice.injEq] at h'
  obtain ⟨rfl, -, rfl⟩ := h'
  have hne1 : gk ≠ fb := fun e => KM.out.neBlk KF.out (by decide) (by rw [e]; rfl)
  have hne2 : gk ≠ b := fun e => by have := LM.out gk rfl; omega
  have hp0 : (0 : Int) ≤ (pp : Int) := by omega
  have hp1 : (pp : Int) < (F.n2 : Int) := by omega
  have x1 := (KF.out.cell 2).trans rfl
  have x2 := (KE.out.cell 3).trans rfl
  have x3 := KM.out.cell (i := pp) (j := 3) hp (by decide)
  have f3 := (show Blk w2 B gk cur 91 from ⟨hgb, hgg⟩).frozen (pp * 4 + 3)
  have NO := Lib.hid (show (.slice A1 F.n1 c1 : Value).ownBlock ≠ some gk from fun e => KM.out.ne KG.out (by decide) rfl e)
  have HP := Lib.hid hp
  clear t0 t1 t2 s0 s1 s2 s3 s4 hgg hp
  have F4 := Lib.hid (KF.out.drew.setf (p := ⟨gk, pp * 4 + 3, none⟩) (Ne.symm hne1) (.int .i64 a))
  have T4 := Lib.hid ((show OwnT 91 w2.drew B (.slice (some ⟨gk, 0, none⟩) F.n2 c2) F.n2 F.f2 from KM.out).setAt (j := 3) HP.out (by decide) a)
  have O4 := Lib.hid ((show OwnT 114 w2.drew B (.slice A1 F.n1 c1) F.n1 F.f1 from KG.out).setf (p := ⟨gk, pp * 4 + 3, none⟩) NO.out (.int .i64 a))
  have FI : Hid (FarmIn (w2.drew.setCell ⟨gk, pp * 4 + 3, none⟩ (.int .i64 a)) B fb (edF F 4 id 0 a 0)) := Lib.hid (by rw [hed.out]; exact ⟨_, _, F4.out, O4.out, T4.out⟩)
  have BF := Lib.hid (show Below B w1 (w2.drew.setCell ⟨gk, pp * 4 + 3, none⟩ (.int .i64 a)) from (HQ.out.drew).setCell (p := ⟨gk, pp * 4 + 3, none⟩) hgb (.int .i64 a))
  go_region
  go_wp2_with fail
  go_ret
  exact ⟨by rw [hec.out]; rfl, (HB.out.mono (by rw [HBB.out]; exact hB)).trans BF.out, fun _ => FI.out⟩
set_option maxHeartbeats 1000000 in
theorem c_edit_move_none {F : Fm} {id g : Int} {B fb : Nat} {w : World} (h : FarmIn w B fb F) (hr : Right F) (hB : B ≤ w.heap.size) (e0 : hasId F.n2 F.f2 id = false) :
    Calls Try.prog 115 #[.pointer (some ⟨fb, 0, none⟩), .agg #[.int .i64 5, .int .i64 id, .int .i64 g, .int .i64 0, .int .i64 0]] w (EdOut F 5 id g 0 0 B fb w) := by
  obtain ⟨vg, vm, hBk, hG, hM⟩ := h
  obtain ⟨A1, c1, rfl, hc1, hT1⟩ := hG.tab
  obtain ⟨A2, c2, rfl, hc2, hT2⟩ := hM.tab
  have hal := (Below.refl w.heap.size w).alloc (Nat.le_refl _) (.cells #[.int .i64 5, .int .i64 id, .int .i64 g, .int .i64 0, .int .i64 0] 56)
  have FB := Lib.hid (hBk.keep hal)
  have EB := Lib.hid (Blk.new (w := w) (B := 0) (Nat.zero_le _) #[.int .i64 5, .int .i64 id, .int .i64 g, .int .i64 0, .int .i64 0] 56)
  have T := Lib.hid ((⟨hT1, hT2⟩ : FarmAt w A1 F.n1 F.f1 A2 F.n2 F.f2).keep hal)
  have G1 := Lib.hid (hG.keep hal)
  have M1 := Lib.hid (hM.keep hal)
  have HL := Lib.hid (show fb < w.heap.size from hBk.lt)
  have LG := Lib.hid (show ∀ k, (Value.slice A1 F.n1 c1).ownBlock = some k → k < w.heap.size from fun k e => (World.ownsRow.lt hG k e).2)
  have LM := Lib.hid (show ∀ k, (Value.slice A2 F.n2 c2).ownBlock = some k → k < w.heap.size from fun k e => (World.ownsRow.lt hM k e).2)
  have HB := Lib.hid hal
  have HR := Lib.hid hr
  have hl1 := hr.l1
  have hl2 := hr.l2
  clear hr hal hBk hG hM hT1 hT2
  have hec := Lib.hid (show edC F 5 id g 0 0 = 4 by unfold edC; rw [if_neg (by decide), if_neg (by decide), if_neg (by decide), if_neg (by decide), if_pos e0])
  have HE0 := Lib.hid e0
  clear e0
  go_enter Try.func115, Try.ntmps115
  go_upto_region 1 with fail
  generalize w.alloc (.cells #[.int .i64 5, .int .i64 id, .int .i64 g, .int .i64 0, .int .i64 0] 56) = w1 at *
  obtain ⟨b, hbb⟩ : ∃ b, w.heap.size = b := ⟨_, rfl⟩
  have HBB := Lib.hid hbb
  rw [hbb] at EB HL LG LM hB ⊢
  clear hbb
  have t0 : ∀ p : BehW w1, p.w.cell? ⟨fb, 0, none⟩ = some (.int .i64 F.cap) := fun p => ((FB.out.keep p.h).cell 0).trans rfl
  have t1 : ∀ p : BehW w1, p.w.cell? ⟨fb, 1, none⟩ = some (.slice A1 F.n1 c1) := fun p => ((FB.out.keep p.h).cell 1).trans rfl
  have t2 : ∀ p : BehW w1, p.w.cell? ⟨fb, 2, none⟩ = some (.slice A2 F.n2 c2) := fun p => ((FB.out.keep p.h).cell 2).trans rfl
  have s0 : ∀ p : BehW w1, p.w.cell? ⟨b, 0, none⟩ = some (.int .i64 5) := fun p => ((EB.out.keep p.h).cell 0).trans rfl
  have s1 : ∀ p : BehW w1, p.w.cell? ⟨b, 1, none⟩ = some (.int .i64 id) := fun p => ((EB.out.keep p.h).cell 1).trans rfl
  have s2 : ∀ p : BehW w1, p.w.cell? ⟨b, 2, none⟩ = some (.int .i64 g) := fun p => ((EB.out.keep p.h).cell 2).trans rfl
  have s3 : ∀ p : BehW w1, p.w.cell? ⟨b, 3, none⟩ = some (.int .i64 0) := fun p => ((EB.out.keep p.h).cell 3).trans rfl
  have s4 : ∀ p : BehW w1, p.w.cell? ⟨b, 4, none⟩ = some (.int .i64 0) := fun p => ((EB.out.keep p.h).cell 4).trans rfl
  obtain ⟨hg1, ehg⟩ : ∃ x, hasId F.n1 F.f1 id = x := ⟨_, rfl⟩
  have EHG := Lib.hid ehg
  clear ehg
  have HG : Hid (∀ p : BehW w1, Calls Try.prog 79 #[.agg #[.int .i64 F.cap, .slice A1 F.n1 c1, .slice A2 F.n2 c2], .int .i64 id] p.w fun e w' => e = .returned (.tuple #[.int .i64 (posT F.n1 F.f1 id : Nat), .bool hg1]) ∧ Below p.w.heap.size p.w w') := Lib.hid fun p => EHG.out ▸ c_groupP F.cap A1 A2 F.n1 c1 F.n2 c2 F.f1 _ p.w (T.out.keep p.h).g (by omega) HR.out.r1
  have HM : Hid (∀ p : BehW w1, Calls Try.prog 80 #[.agg #[.int .i64 F.cap, .slice A1 F.n1 c1, .slice A2 F.n2 c2], .int .i64 id] p.w fun e w' => e = .returned (.tuple #[.int .i64 (posT F.n2 F.f2 id : Nat), .bool false]) ∧ Below p.w.heap.size p.w w') := Lib.hid fun p => HE0.out ▸ c_memberP F.cap A1 A2 F.n1 c1 F.n2 c2 F.f2 _ p.w (T.out.keep p.h).m (by omega) HR.out.r2
  refine wp_region_beh (by kernel_rfl) (by kernel_rfl) ?_
  repeat (go_big_quiet_step ((first | (go_at_call 79; exact beh_below (HG.out _)) | fail)))
  refine wpQuiet_nil ?_
  intro _ hw'
  obtain ⟨q1, hw''⟩ := hw'
  subst hw''
  go_upto_region 2 with fail
  refine wp_region_behq q1 (by kernel_rfl) (by kernel_rfl) ?_
  repeat (go_big_quiet_step ((first | (go_at_call 80; exact beh_below (HM.out _)) | fail)))
  refine wpQuiet_nil ?_
  intro _ hw'
  obtain ⟨q2, hw''⟩ := hw'
  subst hw''
  go_wp2_with fail
  go_ret
  exact EdOut.no (by rw [HBB.out]; exact hB) hec.out (by decide) (HB.out.trans (q2.h.mono (by rw [HBB.out]; exact Nat.le_of_lt EB.out.lt)))
set_option maxHeartbeats 1000000 in
theorem c_edit_move_nogroup {F : Fm} {id g : Int} {B fb : Nat} {w : World} (h : FarmIn w B fb F) (hr : Right F) (hB : B ≤ w.heap.size) (e0 : hasId F.n2 F.f2 id = true) (e1 : hasG F g = false) :
    Calls Try.prog 115 #[.pointer (some ⟨fb, 0, none⟩), .agg #[.int .i64 5, .int .i64 id, .int .i64 g, .int .i64 0, .int .i64 0]] w (EdOut F 5 id g 0 0 B fb w) := by
  obtain ⟨vg, vm, hBk, hG, hM⟩ := h
  obtain ⟨A1, c1, rfl, hc1, hT1⟩ := hG.tab
  obtain ⟨A2, c2, rfl, hc2, hT2⟩ := hM.tab
  have hal := (Below.refl w.heap.size w).alloc (Nat.le_refl _) (.cells #[.int .i64 5, .int .i64 id, .int .i64 g, .int .i64 0, .int .i64 0] 56)
  have FB := Lib.hid (hBk.keep hal)
  have EB := Lib.hid (Blk.new (w := w) (B := 0) (Nat.zero_le _) #[.int .i64 5, .int .i64 id, .int .i64 g, .int .i64 0, .int .i64 0] 56)
  have T := Lib.hid ((⟨hT1, hT2⟩ : FarmAt w A1 F.n1 F.f1 A2 F.n2 F.f2).keep hal)
  have G1 := Lib.hid (hG.keep hal)
  have M1 := Lib.hid (hM.keep hal)
  have HL := Lib.hid (show fb < w.heap.size from hBk.lt)
  have LG := Lib.hid (show ∀ k, (Value.slice A1 F.n1 c1).ownBlock = some k → k < w.heap.size from fun k e => (World.ownsRow.lt hG k e).2)
  have LM := Lib.hid (show ∀ k, (Value.slice A2 F.n2 c2).ownBlock = some k → k < w.heap.size from fun k e => (World.ownsRow.lt hM k e).2)
  have HB := Lib.hid hal
  have HR := Lib.hid hr
  have hl1 := hr.l1
  have hl2 := hr.l2
  clear hr hal hBk hG hM hT1 hT2
  have hec := Lib.hid (show edC F 5 id g 0 0 = 4 by unfold edC; rw [if_neg (by decide), if_neg (by decide), if_neg (by decide), if_neg (by decide), if_neg (by rw [e0]; decide), if_pos rfl, if_pos e1])
  have HE0 := Lib.hid e0
  have HE1 := Lib.hid e1
  clear e0 e1
  go_enter Try.func115, Try.ntmps115
  go_upto_region 1 with fail
  generalize w.alloc (.cells #[.int .i64 5, .int .i64 id, .int .i64 g, .int .i64 0, .int .i64 0] 56) = w1 at *
  obtain ⟨b, hbb⟩ : ∃ b, w.heap.size = b := ⟨_, rfl⟩
  have HBB := Lib.hid hbb
  rw [hbb] at EB HL LG LM hB ⊢
  clear hbb
  have t0 : ∀ p : BehW w1, p.w.cell? ⟨fb, 0, none⟩ = some (.int .i64 F.cap) := fun p => ((FB.out.keep p.h).cell 0).trans rfl
  have t1 : ∀ p : BehW w1, p.w.cell? ⟨fb, 1, none⟩ = some (.slice A1 F.n1 c1) := fun p => ((FB.out.keep p.h).cell 1).trans rfl
  have t2 : ∀ p : BehW w1, p.w.cell? ⟨fb, 2, none⟩ = some (.slice A2 F.n2 c2) := fun p => ((FB.out.keep p.h).cell 2).trans rfl
  have s0 : ∀ p : BehW w1, p.w.cell? ⟨b, 0, none⟩ = some (.int .i64 5) := fun p => ((EB.out.keep p.h).cell 0).trans rfl
  have s1 : ∀ p : BehW w1, p.w.cell? ⟨b, 1, none⟩ = some (.int .i64 id) := fun p => ((EB.out.keep p.h).cell 1).trans rfl
  have s2 : ∀ p : BehW w1, p.w.cell? ⟨b, 2, none⟩ = some (.int .i64 g) := fun p => ((EB.out.keep p.h).cell 2).trans rfl
  have s3 : ∀ p : BehW w1, p.w.cell? ⟨b, 3, none⟩ = some (.int .i64 0) := fun p => ((EB.out.keep p.h).cell 3).trans rfl
  have s4 : ∀ p : BehW w1, p.w.cell? ⟨b, 4, none⟩ = some (.int .i64 0) := fun p => ((EB.out.keep p.h).cell 4).trans rfl
  have HH : Hid (∀ p : BehW w1, Calls Try.prog 83 #[.agg #[.int .i64 F.cap, .slice A1 F.n1 c1, .slice A2 F.n2 c2], .int .i64 g] p.w fun e w' => e = .returned (.bool false) ∧ Below p.w.heap.size p.w w') := Lib.hid fun p => HE1.out ▸ c_hasGroup F.cap A1 A2 F.n1 c1 F.n2 c2 F.f1 _ p.w (T.out.keep p.h).g (by omega) HR.out.r1
  obtain ⟨hg1, ehg⟩ : ∃ x, hasId F.n1 F.f1 id = x := ⟨_, rfl⟩
  have EHG := Lib.hid ehg
  clear ehg
  have HG : Hid (∀ p : BehW w1, Calls Try.prog 79 #[.agg #[.int .i64 F.cap, .slice A1 F.n1 c1, .slice A2 F.n2 c2], .int .i64 id] p.w fun e w' => e = .returned (.tuple #[.int .i64 (posT F.n1 F.f1 id : Nat), .bool hg1]) ∧ Below p.w.heap.size p.w w') := Lib.hid fun p => EHG.out ▸ c_groupP F.cap A1 A2 F.n1 c1 F.n2 c2 F.f1 _ p.w (T.out.keep p.h).g (by omega) HR.out.r1
  have HM : Hid (∀ p : BehW w1, Calls Try.prog 80 #[.agg #[.int .i64 F.cap, .slice A1 F.n1 c1, .slice A2 F.n2 c2], .int .i64 id] p.w fun e w' => e = .returned (.tuple #[.int .i64 (posT F.n2 F.f2 id : Nat), .bool true]) ∧ Below p.w.heap.size p.w w') := Lib.hid fun p => HE0.out ▸ c_memberP F.cap A1 A2 F.n1 c1 F.n2 c2 F.f2 _ p.w (T.out.keep p.h).m (by omega) HR.out.r2
  refine wp_region_beh (by kernel_rfl) (by kernel_rfl) ?_
  repeat (go_big_quiet_step ((first | (go_at_call 79; exact beh_below (HG.out _)) | fail)))
  refine wpQuiet_nil ?_
  intro _ hw'
  obtain ⟨q1, hw''⟩ := hw'
  subst hw''
  go_upto_region 2 with fail
  refine wp_region_behq q1 (by kernel_rfl) (by kernel_rfl) ?_
  repeat (go_big_quiet_step ((first | (go_at_call 80; exact beh_below (HM.out _)) | fail)))
  refine wpQuiet_nil ?_
  intro _ hw'
  obtain ⟨q2, hw''⟩ := hw'
  subst hw''
  go_upto_region 24 with fail
  refine wp_region_behq q2 (by kernel_rfl) (by kernel_rfl) ?_
  repeat (go_big_quiet_step ((first | (go_at_call 83; exact beh_below (HH.out _)) | fail)))
  refine wpQuiet_nil ?_
  intro _ hw'
  obtain ⟨q3, hw''⟩ := hw'
  subst hw''
  go_wp2_with fail
  go_ret
  exact EdOut.no (by rw [HBB.out]; exact hB) hec.out (by decide) (HB.out.trans (q3.h.mono (by rw [HBB.out]; exact Nat.le_of_lt EB.out.lt)))
set_option maxHeartbeats 1000000 in
theorem c_edit_move_go {F : Fm} {id g : Int} {B fb : Nat} {w : World} (h : FarmIn w B fb F) (hr : Right F) (hB : B ≤ w.heap.size) (e0 : hasId F.n2 F.f2 id = true) (e1 : hasG F g = true) :
    Calls Try.prog 115 #[.pointer (some ⟨fb, 0, none⟩), .agg #[.int .i64 5, .int .i64 id, .int .i64 g, .int .i64 0, .int .i64 0]] w (EdOut F 5 id g 0 0 B fb w) := by
  obtain ⟨vg, vm, hBk, hG, hM⟩ := h
  obtain ⟨A1, c1, rfl, hc1, hT1⟩ := hG.tab
  obtain ⟨A2, c2, rfl, hc2, hT2⟩ := hM.tab
  have hal := (Below.refl w.heap.size w).alloc (Nat.le_refl _) (.cells #[.int .i64 5, .int .i64 id, .int .i64 g, .int .i64 0, .int .i64 0] 56)
  have FB := Lib.hid (hBk.keep hal)
  have EB := Lib.hid (Blk.new (w := w) (B := 0) (Nat.zero_le _) #[.int .i64 5, .int .i64 id, .int .i64 g, .int .i64 0, .int .i64 0] 56)
  have T := Lib.hid ((⟨hT1, hT2⟩ : FarmAt w A1 F.n1 F.f1 A2 F.n2 F.f2).keep hal)
  have G1 := Lib.hid (hG.keep hal)
  have M1 := Lib.hid (hM.keep hal)
  have HL := Lib.hid (show fb < w.heap.size from hBk.lt)
  have LG := Lib.hid (show ∀ k, (Value.slice A1 F.n1 c1).ownBlock = some k → k < w.heap.size from fun k e => (World.ownsRow.lt hG k e).2)
  have LM := Lib.hid (show ∀ k, (Value.slice A2 F.n2 c2).ownBlock = some k → k < w.heap.size from fun k e => (World.ownsRow.lt hM k e).2)
  have HB := Lib.hid hal
  have HR := Lib.hid hr
  have hl1 := hr.l1
  have hl2 := hr.l2
  clear hr hal hBk hG hM hT1 hT2
  have hec := Lib.hid (show edC F 5 id g 0 0 = 0 by unfold edC; rw [if_neg (by decide), if_neg (by decide), if_neg (by decide), if_neg (by decide), if_neg (by rw [e0]; decide), if_pos rfl, if_neg (by rw [e1]; decide)])
  have HE0 := Lib.hid e0
  have HE1 := Lib.hid e1
  clear e0 e1
  go_enter Try.func115, Try.ntmps115
  go_upto_region 1 with fail
  generalize w.alloc (.cells #[.int .i64 5, .int .i64 id, .int .i64 g, .int .i64 0, .int .i64 0] 56) = w1 at *
  obtain ⟨b, hbb⟩ : ∃ b, w.heap.size = b := ⟨_, rfl⟩
  have HBB := Lib.hid hbb
  rw [hbb] at EB HL LG LM hB ⊢
  clear hbb
  have t0 : ∀ p : BehW w1, p.w.cell? ⟨fb, 0, none⟩ = some (.int .i64 F.cap) := fun p => ((FB.out.keep p.h).cell 0).trans rfl
  have t1 : ∀ p : BehW w1, p.w.cell? ⟨fb, 1, none⟩ = some (.slice A1 F.n1 c1) := fun p => ((FB.out.keep p.h).cell 1).trans rfl
  have t2 : ∀ p : BehW w1, p.w.cell? ⟨fb, 2, none⟩ = some (.slice A2 F.n2 c2) := fun p => ((FB.out.keep p.h).cell 2).trans rfl
  have s0 : ∀ p : BehW w1, p.w.cell? ⟨b, 0, none⟩ = some (.int .i64 5) := fun p => ((EB.out.keep p.h).cell 0).trans rfl
  have s1 : ∀ p : BehW w1, p.w.cell? ⟨b, 1, none⟩ = some (.int .i64 id) := fun p => ((EB.out.keep p.h).cell 1).trans rfl
  have s2 : ∀ p : BehW w1, p.w.cell? ⟨b, 2, none⟩ = some (.int .i64 g) := fun p => ((EB.out.keep p.h).cell 2).trans rfl
  have s3 : ∀ p : BehW w1, p.w.cell? ⟨b, 3, none⟩ = some (.int .i64 0) := fun p => ((EB.out.keep p.h).cell 3).trans rfl
  have s4 : ∀ p : BehW w1, p.w.cell? ⟨b, 4, none⟩ = some (.int .i64 0) := fun p => ((EB.out.keep p.h).cell 4).trans rfl
  have HH : Hid (∀ p : BehW w1, Calls Try.prog 83 #[.agg #[.int .i64 F.cap, .slice A1 F.n1 c1, .slice A2 F.n2 c2], .int .i64 g] p.w fun e w' => e = .returned (.bool true) ∧ Below p.w.heap.size p.w w') := Lib.hid fun p => HE1.out ▸ c_hasGroup F.cap A1 A2 F.n1 c1 F.n2 c2 F.f1 _ p.w (T.out.keep p.h).g (by omega) HR.out.r1
  obtain ⟨hg1, ehg⟩ : ∃ x, hasId F.n1 F.f1 id = x := ⟨_, rfl⟩
  have EHG := Lib.hid ehg
  clear ehg
  have HG : Hid (∀ p : BehW w1, Calls Try.prog 79 #[.agg #[.int .i64 F.cap, .slice A1 F.n1 c1, .slice A2 F.n2 c2], .int .i64 id] p.w fun e w' => e = .returned (.tuple #[.int .i64 (posT F.n1 F.f1 id : Nat), .bool hg1]) ∧ Below p.w.heap.size p.w w') := Lib.hid fun p => EHG.out ▸ c_groupP F.cap A1 A2 F.n1 c1 F.n2 c2 F.f1 _ p.w (T.out.keep p.h).g (by omega) HR.out.r1
  have HM : Hid (∀ p : BehW w1, Calls Try.prog 80 #[.agg #[.int .i64 F.cap, .slice A1 F.n1 c1, .slice A2 F.n2 c2], .int .i64 id] p.w fun e w' => e = .returned (.tuple #[.int .i64 (posT F.n2 F.f2 id : Nat), .bool true]) ∧ Below p.w.heap.size p.w w') := Lib.hid fun p => HE0.out ▸ c_memberP F.cap A1 A2 F.n1 c1 F.n2 c2 F.f2 _ p.w (T.out.keep p.h).m (by omega) HR.out.r2
  refine wp_region_beh (by kernel_rfl) (by kernel_rfl) ?_
  repeat (go_big_quiet_step ((first | (go_at_call 79; exact beh_below (HG.out _)) | fail)))
  refine wpQuiet_nil ?_
  intro _ hw'
  obtain ⟨q1, hw''⟩ := hw'
  subst hw''
  go_upto_region 2 with fail
  refine wp_region_behq q1 (by kernel_rfl) (by kernel_rfl) ?_
  repeat (go_big_quiet_step ((first | (go_at_call 80; exact beh_below (HM.out _)) | fail)))
  refine wpQuiet_nil ?_
  intro _ hw'
  obtain ⟨q2, hw''⟩ := hw'
  subst hw''
  go_upto_region 24 with fail
  refine wp_region_behq q2 (by kernel_rfl) (by kernel_rfl) ?_
  repeat (go_big_quiet_step ((first | (go_at_call 83; exact beh_below (HH.out _)) | fail)))
  refine wpQuiet_nil ?_
  intro _ hw'
  obtain ⟨q3, hw''⟩ := hw'
  subst hw''
  go_upto_region 26 with fail
  generalize hq : q3.w = w2 at *
  have hbq := q3.h
  rw [hq] at hbq
  have KQ := Lib.hid hbq
  clear hbq hq
  have KE := Lib.hid (EB.out.keep KQ.out)
  have KF := Lib.hid (FB.out.keep KQ.out)
  have KG := Lib.hid (G1.out.keep KQ.out)
  have KM := Lib.hid (M1.out.keep KQ.out)
  have HZ := Lib.hid (show b < w2.heap.size from (EB.out.keep KQ.out).lt)
  have HQ := Lib.hid (show Below B w1 w2 from KQ.out.mono (by have := EB.out.lt; omega))
  have hpp := has_at HR.out.r2 HE0.out
  have hed := Lib.hid (show edF F 5 id g 0 0 = { F with f2 := setT (posT F.n2 F.f2 id) 1 g F.f2 } from rfl)
  generalize posT F.n2 F.f2 id = pp at *
  have hp := hpp.1
  clear hpp
  obtain ⟨h', _⟩ | ⟨gk, ck, cur, h', hgb, hgl, hgg, -⟩ := KM.out.form
  · simp only [Value.slice.injEq] at h'; omega
  simp only [Value.slice.injEq] at h'
  obtain ⟨rfl, -, rfl⟩ := h'
  have hne1 : gk ≠ fb := fun e => KM.out.neBlk KF.out (by decide) (by rw [e]; rfl)
  have hne2 : gk ≠ b := fun e => by have := LM.out gk rfl; omega
  have hp0 : (0 : Int) ≤ (pp : Int) := by omega
  have hp1 : (pp : Int) < (F.n2 : Int) := by omega
  have x1 := (KF.out.cell 2).trans rfl
  have x2 := (KE.out.cell 2).trans rfl
  have x3 := KM.out.cell (i := pp) (j := 1) hp (by decide)
  have f3 := (show Blk w2 B gk cur 91 from ⟨hgb, hgg⟩).frozen (pp * 4 + 1)
  have NO := Lib.hid (show (.slice A1 F.n1 c1 : Value).ownBlock ≠ some gk from fun e => KM.out.ne KG.out (by decide) rfl e)
  have HP := Lib.hid hp
  clear t0 t1 t2 s0 s1 s2 s3 s4 hgg hp
  have F4 := Lib.hid (KF.out.drew.setf (p := ⟨gk, pp * 4 + 1, none⟩) (Ne.symm hne1) (.int .i64 g))
  have T4 := Lib.hid ((show OwnT 91 w2.drew B (.slice (some ⟨gk, 0, none⟩) F.n2 c2) F.n2 F.f2 from KM.out).setAt (j := 1) HP.out (by decide) g)
  have O4 := Lib.hid ((show OwnT 114 w2.drew B (.slice A1 F.n1 c1) F.n1 F.f1 from KG.out).setf (p := ⟨gk, pp * 4 + 1, none⟩) NO.out (.int .i64 g))
  have FI : Hid (FarmIn (w2.drew.setCell ⟨gk, pp * 4 + 1, none⟩ (.int .i64 g)) B fb (edF F 5 id g 0 0)) := Lib.hid (by rw [hed.out]; exact ⟨_, _, F4.out, O4.out, T4.out⟩)
  have BF := Lib.hid (show Below B w1 (w2.drew.setCell ⟨gk, pp * 4 + 1, none⟩ (.int .i64 g)) from (HQ.out.drew).setCell (p := ⟨gk, pp * 4 + 1, none⟩) hgb (.int .i64 g))
  go_region
  go_wp2_with fail
  go_ret
  exact ⟨by rw [hec.out]; rfl, (HB.out.mono (by rw [HBB.out]; exact hB)).trans BF.out, fun _ => FI.out⟩
end Go.Proofs.Ytipkbapnhgdpeaa.C
