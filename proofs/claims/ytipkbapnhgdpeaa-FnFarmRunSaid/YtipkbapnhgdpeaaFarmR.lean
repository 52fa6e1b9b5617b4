/- The program's FarmRight: what it answers. No condition. -/
import Derived.Test.YtipkbapnhgdpeaaFind
import Derived.Test.YtipkbapnhgdpeaaBeh
namespace Go.Proofs.Ytipkbapnhgdpeaa.C
open Go.RowKit
set_option maxRecDepth 100000
set_option linter.unusedVariables false
set_option linter.unusedSimpArgs false
attribute [local go_sem ↓] Go.wp_at_zero Go.wp_at_succ
/-- Is the group at place i right, behind those ahead of it? -/
def okG (f : Nat → Nat → Int) (i : Nat) : Bool :=
  bIn (f i 0) 1 1000000 && ((i == 0 || decide (f (i - 1) 0 < f i 0)) && ((hasId i f (f i 1) || f i 1 == 0) && (bIn (f i 2) 0 1125899906842624 && bIn (f i 3) 1 1073741824)))
/-- Is the member at place i right? -/
def okM (n1 : Nat) (f1 f : Nat → Nat → Int) (i : Nat) : Bool :=
  bIn (f i 0) 1 1000000 && ((i == 0 || decide (f (i - 1) 0 < f i 0)) && ((hasId n1 f1 (f i 1) || f i 1 == 0) && (bIn (f i 2) 0 1125899906842624 && bIn (f i 3) 1 1073741824)))
/-- Is a farm right? -/
def farmB (cap : Int) (n1 : Nat) (f1 : Nat → Nat → Int) (n2 : Nat) (f2 : Nat → Nat → Int) : Bool :=
  bIn cap 0 1125899906842624 && (decide (n1 ≤ 30) && (decide (n2 ≤ 60) && ((List.range n1).all (okG f1) && (List.range n2).all (okM n1 f1 f2))))
theorem rises_of {n : Nat} {f : Nat → Nat → Int} (h : ∀ j, j + 1 < n → f j 0 < f (j + 1) 0) : Rises n f := by
  intro i j hij hj
  obtain ⟨d, rfl⟩ : ∃ d, j = i + 1 + d := ⟨j - i - 1, by omega⟩
  clear hij
  induction d with
  | zero => exact h i hj
  | succ d ih => exact Int.lt_trans (ih (by omega)) (h _ hj)
theorem rises_G {n : Nat} {f : Nat → Nat → Int} (h : ∀ j, j < n → okG f j = true) : Rises n f := rises_of fun j hj => by
  have := h (j + 1) hj
  unfold okG at this
  rw [Bool.and_eq_true, Bool.and_eq_true, Bool.or_eq_true] at this
  rcases this.2.1 with h | h
  · simp at h
  · simpa using h
theorem c_isWant_v {a : Int} {b : Bool} (h : bIn a 0 1125899906842624 = b) (w : World) : Calls Try.prog 81 #[.int .i64 a] w fun e w' => e = .returned (.bool b) ∧ w = w' := h ▸ c_isWant a w
theorem c_isId_v {a : Int} {b : Bool} (h : bIn a 1 1000000 = b) (w : World) : Calls Try.prog 82 #[.int .i64 a] w fun e w' => e = .returned (.bool b) ∧ w = w' := h ▸ c_isId a w
theorem c_isWeight_v {a : Int} {b : Bool} (h : bIn a 1 1073741824 = b) (w : World) : Calls Try.prog 84 #[.int .i64 a] w fun e w' => e = .returned (.bool b) ∧ w = w' := h ▸ c_isWeight a w
theorem farm_noG {cap : Int} {n1 n2 i : Nat} {f1 f2 : Nat → Nat → Int} (hi : i < n1) (h : okG f1 i = false) : farmB cap n1 f1 n2 f2 = false := by
  have : (List.range n1).all (okG f1) = false := List.all_eq_false.2 ⟨i, List.mem_range.2 hi, by rw [h]; decide⟩
  simp [farmB, this]
theorem farm_noM {cap : Int} {n1 n2 i : Nat} {f1 f2 : Nat → Nat → Int} (hi : i < n2) (h : okM n1 f1 f2 i = false) : farmB cap n1 f1 n2 f2 = false := by
  have : (List.range n2).all (okM n1 f1 f2) = false := List.all_eq_false.2 ⟨i, List.mem_range.2 hi, by rw [h]; decide⟩
  simp [farmB, this]
theorem farm_yes {cap : Int} {n1 n2 : Nat} {f1 f2 : Nat → Nat → Int} (hc : bIn cap 0 1125899906842624 = true) (h1 : n1 ≤ 30) (h2 : n2 ≤ 60) (hg : ∀ j, j < n1 → okG f1 j = true) (hm : ∀ j, j < n2 → okM n1 f1 f2 j = true) : farmB cap n1 f1 n2 f2 = true := by
  have e1 : (List.range n1).all (okG f1) = true := List.all_eq_true.2 fun j hj => hg j (List.mem_range.1 hj)
  have e2 : (List.range n2).all (okM n1 f1 f2) = true := List.all_eq_true.2 fun j hj => hm j (List.mem_range.1 hj)
  simp [farmB, hc, h1, h2, e1, e2]
theorem pick10 {P1 P2 P3 P4 P5 P6 P7 P8 P9 P : Prop} (h : P1 ∧ P2 ∧ P3 ∧ P4 ∧ P5 ∧ P6 ∧ P7 ∧ P8 ∧ P9 ∧ P) : P := h.2.2.2.2.2.2.2.2.2
set_option maxHeartbeats 8000000 in
theorem c_FarmRight (cap : Int) (A1 A2 : Option Addr) (n1 c1 n2 c2 : Nat) (f1 f2 : Nat → Nat → Int) (w : World) (h : FarmAt w A1 n1 f1 A2 n2 f2) (hc1 : n1 ≤ c1) :
    Calls Try.prog 30 #[.agg #[.int .i64 cap, .slice A1 n1 c1, .slice A2 n2 c2]] w fun e w' => e = .returned (.bool (farmB cap n1 f1 n2 f2)) ∧ Below w.heap.size w w' := by
  have hb := (Below.refl _ w).alloc (Nat.le_refl _) (.cells #[.int .i64 cap, .slice A1 n1 c1, .slice A2 n2 c2] 34)
  have hbk := Blk.new (w := w) (B := 0) (Nat.zero_le _) #[.int .i64 cap, .slice A1 n1 c1, .slice A2 n2 c2] 34
  have H := Lib.hid (h.keep hb)
  have HB := Lib.hid hb
  have BK := Lib.hid hbk
  have hz : w.heap.size ≤ (w.alloc (.cells #[.int .i64 cap, .slice A1 n1 c1, .slice A2 n2 c2] 34)).heap.size := hb.size
  have HZ := Lib.hid hz
  clear h hb hbk hz
  obtain ⟨r, hr⟩ : ∃ r, farmB cap n1 f1 n2 f2 = r := ⟨_, rfl⟩
  have HR := Lib.hid hr
  clear hr
  go_enter Try.func30, Try.ntmps30
  go_upto_region 1 with fail
  generalize hw1 : w.alloc (.cells #[.int .i64 cap, .slice A1 n1 c1, .slice A2 n2 c2] 34) = w1 at *
  clear hw1
  obtain ⟨b, hbb⟩ : ∃ b, w.heap.size = b := ⟨_, rfl⟩
  rw [hbb] at BK ⊢
  have c0 := (BK.out.cell 0).trans rfl
  have c1' := (BK.out.cell 1).trans rfl
  have c2' := (BK.out.cell 2).trans rfl
  rcases he : bIn cap 0 1125899906842624 with _ | _
  · go_wp2_with (first | (go_at_call 81; refine (c_isWant_v he _).mono ?_; rintro e w' ⟨rfl, rfl⟩) | fail)
    go_ret
    exact ⟨ret_bool (by simp [farmB, he]), HB.out⟩
  by_cases hl1 : n1 ≤ 30
  case neg =>
    have b1 : decide ((n1 : Int) > 30) = true := decide_eq_true (by omega)
    go_wp2_with (first | (go_at_call 81; refine (c_isWant_v he _).mono ?_; rintro e w' ⟨rfl, rfl⟩) | fail)
    go_ret
    exact ⟨ret_bool (by simp [farmB, hl1]), HB.out⟩
  by_cases hl2 : n2 ≤ 60
  case neg =>
    have b1 : decide ((n1 : Int) > 30) = false := decide_eq_false (by omega)
    have b2 : decide ((n2 : Int) > 60) = true := decide_eq_true (by omega)
    go_wp2_with (first | (go_at_call 81; refine (c_isWant_v he _).mono ?_; rintro e w' ⟨rfl, rfl⟩) | fail)
    go_ret
    exact ⟨ret_bool (by simp [farmB, hl2]), HB.out⟩
  have bn1 : decide ((n1 : Int) > 30) = false := decide_eq_false (by omega)
  have bn2 : decide ((n2 : Int) > 60) = false := decide_eq_false (by omega)
  go_wp2_with (first | (go_at_call 81; refine (c_isWant_v he _).mono ?_; rintro e w' ⟨rfl, rfl⟩) | fail)
  clear c0 c1' c2'
  have hR0 : Hid (∀ j, j < 0 → okG f1 j = true) := Lib.hid (by intro j hj; omega)
  go_loopw [27] (fun v27 wr => ∃ i : Nat, i ≤ n1 ∧ v27 = .int .i64 i ∧ Hid (∀ j, j < i → okG f1 j = true) ∧ Hid (Below w1.heap.size w1 wr)) (fun v27 _ => n1 - (intOf v27).toNat)
  case atStart => exact ⟨0, by omega, rfl, hR0, Lib.hid (Below.refl _ _)⟩
  case round =>
    obtain ⟨i, hi, rfl, KI, KB⟩ := hrel
    clear hR0
    have BK1 := Lib.hid (BK.out.keep KB.out)
    have HK := Lib.hid (H.out.keep KB.out)
    have c1' := (BK1.out.cell 1).trans rfl
    by_cases h5 : i < n1
    · have b1 : decide ((i : Int) < (n1 : Int)) = true := decide_eq_true (by omega)
      obtain ⟨g, off, rfl, hg, hx⟩ := HK.out.g.at (by omega)
      have x0 := hx i 0 h5 (by omega)
      have x1 := hx i 1 h5 (by omega)
      have x2 := hx i 2 h5 (by omega)
      have x3 := hx i 3 h5 (by omega)
      rw [Nat.add_zero] at x0
      have hpv := hx (i - 1) 0 (by omega) (by omega)
      rw [Nat.add_zero] at hpv
      have hri := Lib.hid (rises_G KI.out)
      obtain ⟨r, hr⟩ : ∃ r, okG f1 i = r := ⟨_, rfl⟩
      have HRi := Lib.hid hr
      unfold okG at hr
      have hTab := HK.out.g.less (Nat.le_of_lt h5)
      generalize f1 i 0 = id at *
      generalize f1 i 1 = up at *
      generalize f1 i 2 = cp at *
      generalize f1 i 3 = wt at *
      generalize f1 (i - 1) 0 = pv at *
      clear hx
      have c1'' := ((BK1.out.keep ((Below.refl _ _).alloc (Nat.le_refl _) (.cells #[.int .i64 id, .int .i64 up, .int .i64 cp, .int .i64 wt] 114))).cell 1).trans rfl
      have hic : i ≤ c1 := by omega
      go_upto_region 7 with fail
      clear c1''
      have q4 := (((Blk.new (w := wr) (B := 0) (Nat.zero_le _) #[.int .i64 id, .int .i64 up, .int .i64 cp, .int .i64 wt] 114).keep ((Below.refl _ _).alloc (Nat.le_refl _) (.cells #[.int .i64 0, .slice (some ⟨g, off, none⟩) i c1, .slice none 0 0] 34))))
      have q5 := Blk.new (w := wr.alloc (.cells #[.int .i64 id, .int .i64 up, .int .i64 cp, .int .i64 wt] 114)) (B := 0) (Nat.zero_le _) #[.int .i64 0, .slice (some ⟨g, off, none⟩) i c1, .slice none 0 0] 34
      have hal := ((Below.refl wr.heap.size wr).alloc (Nat.le_refl _) (.cells #[.int .i64 id, .int .i64 up, .int .i64 cp, .int .i64 wt] 114)).alloc (by simp) (.cells #[.int .i64 0, .slice (some ⟨g, off, none⟩) i c1, .slice none 0 0] 34)
      simp only [World.size_alloc] at q5
      have Q4 := Lib.hid q4
      have Q5 := Lib.hid q5
      have QB := Lib.hid (BK1.out.keep hal)
      have QT := Lib.hid (hTab.keep hal)
      have QP := Lib.hid ((hal.cell (p := ⟨g, off + (i - 1) * 4, none⟩) hg).trans hpv)
      have QL := Lib.hid (Nat.lt_of_lt_of_le hg hal.size)
      have QW := Lib.hid (btrans KB.out hal)
      clear q4 q5 hal x0 x1 x2 x3 hpv hTab
      generalize hb4 : wr.heap.size = b4 at *
      generalize hb5 : b4 + 1 = b5 at *
      generalize ((wr.alloc (.cells #[.int .i64 id, .int .i64 up, .int .i64 cp, .int .i64 wt] 114)).alloc (.cells #[.int .i64 0, .slice (some ⟨g, off, none⟩) i c1, .slice none 0 0] 34)) = w2 at *
      have T1 : Hid (∀ w', Below w2.heap.size w2 w' → w'.cell? ⟨b4, 0, none⟩ = some (.int .i64 id) ∧ w'.cell? ⟨b4, 1, none⟩ = some (.int .i64 up) ∧ w'.cell? ⟨b4, 2, none⟩ = some (.int .i64 cp) ∧ w'.cell? ⟨b4, 3, none⟩ = some (.int .i64 wt) ∧ w'.cell? ⟨b, 1, none⟩ = some (.slice (some ⟨g, off, none⟩) n1 c1) ∧ w'.cell? ⟨b5, 0, none⟩ = some (.int .i64 0) ∧ w'.cell? ⟨b5, 1, none⟩ = some (.slice (some ⟨g, off, none⟩) i c1) ∧ w'.cell? ⟨b5, 2, none⟩ = some (.slice none 0 0) ∧ w'.cell? ⟨g, off + (i - 1) * 4, none⟩ = some (.int .i64 pv) ∧ Below w2.heap.size w2 w') := Lib.hid fun w' hb => ⟨((Q4.out.keep hb).cell 0).trans rfl, ((Q4.out.keep hb).cell 1).trans rfl, ((Q4.out.keep hb).cell 2).trans rfl, ((Q4.out.keep hb).cell 3).trans rfl, ((QB.out.keep hb).cell 1).trans rfl, ((Q5.out.keep hb).cell 0).trans rfl, ((Q5.out.keep hb).cell 1).trans rfl, ((Q5.out.keep hb).cell 2).trans rfl, (hb.cell (p := ⟨g, off + (i - 1) * 4, none⟩) QL.out).trans QP.out, hb⟩
      clear c1' hb4 hb5
      go_cut [75] (fun v75 wc => ∃ wx : World, wx = wc ∧ v75 = .bool (!r) ∧ Below w2.heap.size w2 wx)
      case first =>
        have HG : ∀ rr, (hasId i f1 up || up == 0) = rr → Hid (∀ w', Below w2.heap.size w2 w' → Calls Try.prog 83 #[.agg #[.int .i64 0, .slice (some ⟨g, off, none⟩) i c1, .slice none 0 0], .int .i64 up] w' fun e w'' => e = .returned (.bool rr) ∧ Below w'.heap.size w' w'') := fun rr hrr => Lib.hid fun w' hb => by
          rw [← hrr]
          exact c_hasGroup 0 (some ⟨g, off, none⟩) none i c1 0 0 f1 up w' (QT.out.keep hb) (by omega) hri.out
        have HGG := Lib.hid HG
        have t0 : ∀ p : BehW w2, p.w.cell? ⟨b4, 0, none⟩ = some (.int .i64 id) := fun p => (T1.out p.w p.h).1
        have t1 : ∀ p : BehW w2, p.w.cell? ⟨b4, 1, none⟩ = some (.int .i64 up) := fun p => (T1.out p.w p.h).2.1
        have t2 : ∀ p : BehW w2, p.w.cell? ⟨b4, 2, none⟩ = some (.int .i64 cp) := fun p => (T1.out p.w p.h).2.2.1
        have t3 : ∀ p : BehW w2, p.w.cell? ⟨b4, 3, none⟩ = some (.int .i64 wt) := fun p => (T1.out p.w p.h).2.2.2.1
        have t4 : ∀ p : BehW w2, p.w.cell? ⟨b, 1, none⟩ = some (.slice (some ⟨g, off, none⟩) n1 c1) := fun p => (T1.out p.w p.h).2.2.2.2.1
        have t5 : ∀ p : BehW w2, p.w.cell? ⟨b5, 0, none⟩ = some (.int .i64 0) := fun p => (T1.out p.w p.h).2.2.2.2.2.1
        have t6 : ∀ p : BehW w2, p.w.cell? ⟨b5, 1, none⟩ = some (.slice (some ⟨g, off, none⟩) i c1) := fun p => (T1.out p.w p.h).2.2.2.2.2.2.1
        have t7 : ∀ p : BehW w2, p.w.cell? ⟨b5, 2, none⟩ = some (.slice none 0 0) := fun p => (T1.out p.w p.h).2.2.2.2.2.2.2.1
        have t8 : ∀ p : BehW w2, p.w.cell? ⟨g, off + (i - 1) * 4, none⟩ = some (.int .i64 pv) := fun p => (T1.out p.w p.h).2.2.2.2.2.2.2.2.1
        clear HG HRi
        rcases he1 : bIn id 1 1000000 with _ | _
        · rw [he1] at hr; subst hr
          refine wp_region_beh (by kernel_rfl) (by kernel_rfl) ?_
          repeat (go_big_quiet_step ((first | (go_at_call 82; exact beh_same (c_isId_v he1 _)) | (go_at_call 81; exact beh_same (c_isWant_v he4 _)) | (go_at_call 84; exact beh_same (c_isWeight_v he5 _)) | (go_at_call 83; exact beh_below (HG.out _ (BehW.h _))) | fail)))
          refine wpQuiet_nil ?_
          intro _ hw'
          obtain ⟨qb, hw''⟩ := hw'
          subst hw''
          go_wp2_with fail
          go_meet
          exact ⟨_, rfl, rfl, qb.h⟩
        rcases he2 : (i == 0 || decide (pv < id)) with _ | _
        · have hi0 : 0 < i := Nat.pos_of_ne_zero (fun h => by rw [h] at he2; cases he2)
          have b3 : decide ((i : Int) > 0) = true := decide_eq_true (by omega)
          have b4 : decide (pv ≥ id) = true := by simp at he2; exact decide_eq_true (by omega)
          rw [he1, he2] at hr; subst hr
          have k1 : ((i : Int) - 1).toNat = i - 1 := by omega
          clear he2
          refine wp_region_beh (by kernel_rfl) (by kernel_rfl) ?_
          repeat (go_big_quiet_step ((first | (go_at_call 82; exact beh_same (c_isId_v he1 _)) | (go_at_call 81; exact beh_same (c_isWant_v he4 _)) | (go_at_call 84; exact beh_same (c_isWeight_v he5 _)) | (go_at_call 83; exact beh_below (HG.out _ (BehW.h _))) | fail)))
          refine wpQuiet_nil ?_
          intro _ hw'
          obtain ⟨qb, hw''⟩ := hw'
          subst hw''
          go_wp2_with fail
          go_meet
          exact ⟨_, rfl, rfl, qb.h⟩
        rcases hpos : decide (0 < i) with _ | _
        · have hi0 : ¬ 0 < i := of_decide_eq_false hpos
          rcases he3 : (hasId i f1 up || up == 0) with _ | _
          · have HG := HGG.out _ he3
            rw [he1, he2, he3] at hr; subst hr
            clear he2 he3 HGG
            refine wp_region_beh (by kernel_rfl) (by kernel_rfl) ?_
            repeat (go_big_quiet_step ((first | (go_at_call 82; exact beh_same (c_isId_v he1 _)) | (go_at_call 81; exact beh_same (c_isWant_v he4 _)) | (go_at_call 84; exact beh_same (c_isWeight_v he5 _)) | (go_at_call 83; exact beh_below (HG.out _ (BehW.h _))) | fail)))
            refine wpQuiet_nil ?_
            intro _ hw'
            obtain ⟨qb, hw''⟩ := hw'
            subst hw''
            go_wp2_with fail
            go_meet
            exact ⟨_, rfl, rfl, qb.h⟩
          have HG := HGG.out _ he3
          rcases he4 : bIn cp 0 1125899906842624 with _ | _
          · rw [he1, he2, he3, he4] at hr; subst hr
            clear he2 he3 HGG
            refine wp_region_beh (by kernel_rfl) (by kernel_rfl) ?_
            repeat (go_big_quiet_step ((first | (go_at_call 82; exact beh_same (c_isId_v he1 _)) | (go_at_call 81; exact beh_same (c_isWant_v he4 _)) | (go_at_call 84; exact beh_same (c_isWeight_v he5 _)) | (go_at_call 83; exact beh_below (HG.out _ (BehW.h _))) | fail)))
            refine wpQuiet_nil ?_
            intro _ hw'
            obtain ⟨qb, hw''⟩ := hw'
            subst hw''
            go_wp2_with fail
            go_meet
            exact ⟨_, rfl, rfl, qb.h⟩
          rcases he5 : bIn wt 1 1073741824 with _ | _
          · rw [he1, he2, he3, he4, he5] at hr; subst hr
            clear he2 he3 HGG
            refine wp_region_beh (by kernel_rfl) (by kernel_rfl) ?_
            repeat (go_big_quiet_step ((first | (go_at_call 82; exact beh_same (c_isId_v he1 _)) | (go_at_call 81; exact beh_same (c_isWant_v he4 _)) | (go_at_call 84; exact beh_same (c_isWeight_v he5 _)) | (go_at_call 83; exact beh_below (HG.out _ (BehW.h _))) | fail)))
            refine wpQuiet_nil ?_
            intro _ hw'
            obtain ⟨qb, hw''⟩ := hw'
            subst hw''
            go_wp2_with fail
            go_meet
            exact ⟨_, rfl, rfl, qb.h⟩
          · rw [he1, he2, he3, he4, he5] at hr; subst hr
            clear he2 he3 HGG
            refine wp_region_beh (by kernel_rfl) (by kernel_rfl) ?_
            repeat (go_big_quiet_step ((first | (go_at_call 82; exact beh_same (c_isId_v he1 _)) | (go_at_call 81; exact beh_same (c_isWant_v he4 _)) | (go_at_call 84; exact beh_same (c_isWeight_v he5 _)) | (go_at_call 83; exact beh_below (HG.out _ (BehW.h _))) | fail)))
            refine wpQuiet_nil ?_
            intro _ hw'
            obtain ⟨qb, hw''⟩ := hw'
            subst hw''
            go_wp2_with fail
            go_meet
            exact ⟨_, rfl, rfl, qb.h⟩
        · have hi0 : 0 < i := of_decide_eq_true hpos
          have b4 : decide (pv ≥ id) = false := by have h1 : (i == 0) = false := beq_eq_false_iff_ne.2 (by omega); rw [h1, Bool.false_or] at he2; exact decide_eq_false (by have := of_decide_eq_true he2; omega)
          rcases he3 : (hasId i f1 up || up == 0) with _ | _
          · have HG := HGG.out _ he3
            rw [he1, he2, he3] at hr; subst hr
            clear he2 he3 HGG
            refine wp_region_beh (by kernel_rfl) (by kernel_rfl) ?_
            repeat (go_big_quiet_step ((first | (go_at_call 82; exact beh_same (c_isId_v he1 _)) | (go_at_call 81; exact beh_same (c_isWant_v he4 _)) | (go_at_call 84; exact beh_same (c_isWeight_v he5 _)) | (go_at_call 83; exact beh_below (HG.out _ (BehW.h _))) | fail)))
            refine wpQuiet_nil ?_
            intro _ hw'
            obtain ⟨qb, hw''⟩ := hw'
            subst hw''
            go_wp2_with fail
            go_meet
            exact ⟨_, rfl, rfl, qb.h⟩
          have HG := HGG.out _ he3
          rcases he4 : bIn cp 0 1125899906842624 with _ | _
          · rw [he1, he2, he3, he4] at hr; subst hr
            clear he2 he3 HGG
            refine wp_region_beh (by kernel_rfl) (by kernel_rfl) ?_
            repeat (go_big_quiet_step ((first | (go_at_call 82; exact beh_same (c_isId_v he1 _)) | (go_at_call 81; exact beh_same (c_isWant_v he4 _)) | (go_at_call 84; exact beh_same (c_isWeight_v he5 _)) | (go_at_call 83; exact beh_below (HG.out _ (BehW.h _))) | fail)))
            refine wpQuiet_nil ?_
            intro _ hw'
            obtain ⟨qb, hw''⟩ := hw'
            subst hw''
            go_wp2_with fail
            go_meet
            exact ⟨_, rfl, rfl, qb.h⟩
          rcases he5 : bIn wt 1 1073741824 with _ | _
          · rw [he1, he2, he3, he4, he5] at hr; subst hr
            clear he2 he3 HGG
            refine wp_region_beh (by kernel_rfl) (by kernel_rfl) ?_
            repeat (go_big_quiet_step ((first | (go_at_call 82; exact beh_same (c_isId_v he1 _)) | (go_at_call 81; exact beh_same (c_isWant_v he4 _)) | (go_at_call 84; exact beh_same (c_isWeight_v he5 _)) | (go_at_call 83; exact beh_below (HG.out _ (BehW.h _))) | fail)))
            refine wpQuiet_nil ?_
            intro _ hw'
            obtain ⟨qb, hw''⟩ := hw'
            subst hw''
            go_wp2_with fail
            go_meet
            exact ⟨_, rfl, rfl, qb.h⟩
          · rw [he1, he2, he3, he4, he5] at hr; subst hr
            clear he2 he3 HGG
            refine wp_region_beh (by kernel_rfl) (by kernel_rfl) ?_
            repeat (go_big_quiet_step ((first | (go_at_call 82; exact beh_same (c_isId_v he1 _)) | (go_at_call 81; exact beh_same (c_isWant_v he4 _)) | (go_at_call 84; exact beh_same (c_isWeight_v he5 _)) | (go_at_call 83; exact beh_below (HG.out _ (BehW.h _))) | fail)))
            refine wpQuiet_nil ?_
            intro _ hw'
            obtain ⟨qb, hw''⟩ := hw'
            subst hw''
            go_wp2_with fail
            go_meet
            exact ⟨_, rfl, rfl, qb.h⟩
      case rest =>
        obtain ⟨wx, rfl, rfl, hbx⟩ := hcut
        have KB5 := Lib.hid (btrans QW.out hbx)
        clear hr Q4 Q5 QB QT QP QL QW T1 hbx hri
        rename_i hKK
        refine hKK _ _ ?_
        clear hKK
        cases r with
        | false =>
          go_wp2_with fail
          go_ret
          exact ⟨ret_bool (farm_noG h5 HRi.out).symm, HB.out.trans (KB5.out.mono HZ.out)⟩
        | true =>
          have KI5 : Hid (∀ j, j < i + 1 → okG f1 j = true) := Lib.hid (by intro j hj; rcases Nat.lt_succ_iff_lt_or_eq.1 hj with h | rfl; exact KI.out j h; exact HRi.out)
          clear KI HRi
          go_wp2_with fail
          go_roundw
          case rel => exact ⟨i + 1, by omega, by go_num, KI5, KB5⟩
          case measure => simp [intOf]; omega
    · obtain rfl : n1 = i := by omega
      have b1 : decide ((n1 : Int) < (n1 : Int)) = false := decide_eq_false (by omega)
      have c2' := (BK1.out.cell 2).trans rfl
      have HRI := Lib.hid (rises_G KI.out)
      go_wp2_with fail
      clear c1' c2'
      have hR0 : Hid (∀ j, j < 0 → okM n1 f1 f2 j = true) := Lib.hid (by intro j hj; omega)
      go_loopw [80] (fun v80 wr => ∃ k : Nat, k ≤ n2 ∧ v80 = .int .i64 k ∧ Hid (∀ j, j < k → okM n1 f1 f2 j = true) ∧ Hid (Below w1.heap.size w1 wr)) (fun v80 _ => n2 - (intOf v80).toNat)
      case atStart => exact ⟨0, by omega, rfl, hR0, KB⟩
      case round =>
        obtain ⟨i, hi, rfl, KM, KB'⟩ := hrel
        clear hR0 KB HK BK1
        have BK1 := Lib.hid (BK.out.keep KB'.out)
        have HK := Lib.hid (H.out.keep KB'.out)
        have c2' := (BK1.out.cell 2).trans rfl
        by_cases h5 : i < n2
        · have b1 : decide ((i : Int) < (n2 : Int)) = true := decide_eq_true (by omega)
          obtain ⟨g, off, rfl, hg, hx⟩ := HK.out.m.at (by omega)
          have x0 := hx i 0 h5 (by omega)
          have x1 := hx i 1 h5 (by omega)
          have x2 := hx i 2 h5 (by omega)
          have x3 := hx i 3 h5 (by omega)
          rw [Nat.add_zero] at x0
          have hpv := hx (i - 1) 0 (by omega) (by omega)
          rw [Nat.add_zero] at hpv
          obtain ⟨r, hr⟩ : ∃ r, okM n1 f1 f2 i = r := ⟨_, rfl⟩
          have HRi := Lib.hid hr
          unfold okM at hr
          generalize f2 i 0 = id at *
          generalize f2 i 1 = up at *
          generalize f2 i 2 = cp at *
          generalize f2 i 3 = wt at *
          generalize f2 (i - 1) 0 = pv at *
          clear hx
          go_upto_region 13 with fail
          have hal := (Below.refl wr.heap.size wr).alloc (Nat.le_refl _) (.cells #[.int .i64 id, .int .i64 up, .int .i64 cp, .int .i64 wt] 91)
          have Q7 := Lib.hid (Blk.new (w := wr) (B := 0) (Nat.zero_le _) #[.int .i64 id, .int .i64 up, .int .i64 cp, .int .i64 wt] 91)
          have QB := Lib.hid (BK1.out.keep hal)
          have QT := Lib.hid (HK.out.g.keep hal)
          have QP := Lib.hid ((hal.cell (p := ⟨g, off + (i - 1) * 4, none⟩) hg).trans hpv)
          have QL := Lib.hid (Nat.lt_of_lt_of_le hg hal.size)
          have QW := Lib.hid (btrans KB'.out hal)
          clear hal x0 x1 x2 x3 hpv
          generalize hb7 : wr.heap.size = b7 at *
          generalize wr.alloc (.cells #[.int .i64 id, .int .i64 up, .int .i64 cp, .int .i64 wt] 91) = w2 at *
          have T1 : Hid (∀ w', Below w2.heap.size w2 w' → w'.cell? ⟨b7, 0, none⟩ = some (.int .i64 id) ∧ w'.cell? ⟨b7, 1, none⟩ = some (.int .i64 up) ∧ w'.cell? ⟨b7, 2, none⟩ = some (.int .i64 cp) ∧ w'.cell? ⟨b7, 3, none⟩ = some (.int .i64 wt) ∧ w'.cell? ⟨b, 0, none⟩ = some (.int .i64 cap) ∧ w'.cell? ⟨b, 1, none⟩ = some (.slice A1 n1 c1) ∧ w'.cell? ⟨b, 2, none⟩ = some (.slice (some ⟨g, off, none⟩) n2 c2) ∧ w'.cell? ⟨g, off + (i - 1) * 4, none⟩ = some (.int .i64 pv) ∧ Below w2.heap.size w2 w') := Lib.hid fun w' hb => ⟨((Q7.out.keep hb).cell 0).trans rfl, ((Q7.out.keep hb).cell 1).trans rfl, ((Q7.out.keep hb).cell 2).trans rfl, ((Q7.out.keep hb).cell 3).trans rfl, ((QB.out.keep hb).cell 0).trans rfl, ((QB.out.keep hb).cell 1).trans rfl, ((QB.out.keep hb).cell 2).trans rfl, (hb.cell (p := ⟨g, off + (i - 1) * 4, none⟩) QL.out).trans QP.out, hb⟩
          clear c2' hb7
          go_cut [123] (fun v123 wc => ∃ wx : World, wx = wc ∧ v123 = .bool (!r) ∧ Below w2.heap.size w2 wx)
          case first =>
            have HG : ∀ rr, (hasId n1 f1 up || up == 0) = rr → Hid (∀ w', Below w2.heap.size w2 w' → Calls Try.prog 83 #[.agg #[.int .i64 cap, .slice A1 n1 c1, .slice (some ⟨g, off, none⟩) n2 c2], .int .i64 up] w' fun e w'' => e = .returned (.bool rr) ∧ Below w'.heap.size w' w'') := fun rr hrr => Lib.hid fun w' hb => by
              rw [← hrr]
              exact c_hasGroup cap A1 (some ⟨g, off, none⟩) n1 c1 n2 c2 f1 up w' (QT.out.keep hb) (by omega) HRI.out
            have HGG := Lib.hid HG
            have t0 : ∀ p : BehW w2, p.w.cell? ⟨b7, 0, none⟩ = some (.int .i64 id) := fun p => (T1.out p.w p.h).1
            have t1 : ∀ p : BehW w2, p.w.cell? ⟨b7, 1, none⟩ = some (.int .i64 up) := fun p => (T1.out p.w p.h).2.1
            have t2 : ∀ p : BehW w2, p.w.cell? ⟨b7, 2, none⟩ = some (.int .i64 cp) := fun p => (T1.out p.w p.h).2.2.1
            have t3 : ∀ p : BehW w2, p.w.cell? ⟨b7, 3, none⟩ = some (.int .i64 wt) := fun p => (T1.out p.w p.h).2.2.2.1
            have t4 : ∀ p : BehW w2, p.w.cell? ⟨b, 0, none⟩ = some (.int .i64 cap) := fun p => (T1.out p.w p.h).2.2.2.2.1
            have t5 : ∀ p : BehW w2, p.w.cell? ⟨b, 1, none⟩ = some (.slice A1 n1 c1) := fun p => (T1.out p.w p.h).2.2.2.2.2.1
            have t6 : ∀ p : BehW w2, p.w.cell? ⟨b, 2, none⟩ = some (.slice (some ⟨g, off, none⟩) n2 c2) := fun p => (T1.out p.w p.h).2.2.2.2.2.2.1
            have t7 : ∀ p : BehW w2, p.w.cell? ⟨g, off + (i - 1) * 4, none⟩ = some (.int .i64 pv) := fun p => (T1.out p.w p.h).2.2.2.2.2.2.2.1
            clear HG HRi
            rcases he1 : bIn id 1 1000000 with _ | _
            · rw [he1] at hr; subst hr
              refine wp_region_beh (by kernel_rfl) (by kernel_rfl) ?_
              repeat (go_big_quiet_step ((first | (go_at_call 82; exact beh_same (c_isId_v he1 _)) | (go_at_call 81; exact beh_same (c_isWant_v he4 _)) | (go_at_call 84; exact beh_same (c_isWeight_v he5 _)) | (go_at_call 83; exact beh_below (HG.out _ (BehW.h _))) | fail)))
              refine wpQuiet_nil ?_
              intro _ hw'
              obtain ⟨qb, hw''⟩ := hw'
              subst hw''
              go_wp2_with fail
              go_meet
              exact ⟨_, rfl, rfl, qb.h⟩
            rcases he2 : (i == 0 || decide (pv < id)) with _ | _
            · have hi0 : 0 < i := Nat.pos_of_ne_zero (fun h => by rw [h] at he2; cases he2)
              have b3 : decide ((i : Int) > 0) = true := decide_eq_true (by omega)
              have b4 : decide (pv ≥ id) = true := by simp at he2; exact decide_eq_true (by omega)
              rw [he1, he2] at hr; subst hr
              have k1 : ((i : Int) - 1).toNat = i - 1 := by omega
              clear he2
              refine wp_region_beh (by kernel_rfl) (by kernel_rfl) ?_
              repeat (go_big_quiet_step ((first | (go_at_call 82; exact beh_same (c_isId_v he1 _)) | (go_at_call 81; exact beh_same (c_isWant_v he4 _)) | (go_at_call 84; exact beh_same (c_isWeight_v he5 _)) | (go_at_call 83; exact beh_below (HG.out _ (BehW.h _))) | fail)))
              refine wpQuiet_nil ?_
              intro _ hw'
              obtain ⟨qb, hw''⟩ := hw'
              subst hw''
              go_wp2_with fail
              go_meet
              exact ⟨_, rfl, rfl, qb.h⟩
            rcases hpos : decide (0 < i) with _ | _
            · have hi0 : ¬ 0 < i := of_decide_eq_false hpos
              rcases he3 : (hasId n1 f1 up || up == 0) with _ | _
              · have HG := HGG.out _ he3
                rw [he1, he2, he3] at hr; subst hr
                clear he2 he3 HGG
                refine wp_region_beh (by kernel_rfl) (by kernel_rfl) ?_
                repeat (go_big_quiet_step ((first | (go_at_call 82; exact beh_same (c_isId_v he1 _)) | (go_at_call 81; exact beh_same (c_isWant_v he4 _)) | (go_at_call 84; exact beh_same (c_isWeight_v he5 _)) | (go_at_call 83; exact beh_below (HG.out _ (BehW.h _))) | fail)))
                refine wpQuiet_nil ?_
                intro _ hw'
                obtain ⟨qb, hw''⟩ := hw'
                subst hw''
                go_wp2_with fail
                go_meet
                exact ⟨_, rfl, rfl, qb.h⟩
              have HG := HGG.out _ he3
              rcases he4 : bIn cp 0 1125899906842624 with _ | _
              · rw [he1, he2, he3, he4] at hr; subst hr
                clear he2 he3 HGG
                refine wp_region_beh (by kernel_rfl) (by kernel_rfl) ?_
                repeat (go_big_quiet_step ((first | (go_at_call 82; exact beh_same (c_isId_v he1 _)) | (go_at_call 81; exact beh_same (c_isWant_v he4 _)) | (go_at_call 84; exact beh_same (c_isWeight_v he5 _)) | (go_at_call 83; exact beh_below (HG.out _ (BehW.h _))) | fail)))
                refine wpQuiet_nil ?_
                intro _ hw'
                obtain ⟨qb, hw''⟩ := hw'
                subst hw''
                go_wp2_with fail
                go_meet
                exact ⟨_, rfl, rfl, qb.h⟩
              rcases he5 : bIn wt 1 1073741824 with _ | _
              · rw [he1, he2, he3, he4, he5] at hr; subst hr
                clear he2 he3 HGG
                refine wp_region_beh (by kernel_rfl) (by kernel_rfl) ?_
                repeat (go_big_quiet_step ((first | (go_at_call 82; exact beh_same (c_isId_v he1 _)) | (go_at_call 81; exact beh_same (c_isWant_v he4 _)) | (go_at_call 84; exact beh_same (c_isWeight_v he5 _)) | (go_at_call 83; exact beh_below (HG.out _ (BehW.h _))) | fail)))
                refine wpQuiet_nil ?_
                intro _ hw'
                obtain ⟨qb, hw''⟩ := hw'
                subst hw''
                go_wp2_with fail
                go_meet
                exact ⟨_, rfl, rfl, qb.h⟩
              · rw [he1, he2, he3, he4, he5] at hr; subst hr
                clear he2 he3 HGG
                refine wp_region_beh (by kernel_rfl) (by kernel_rfl) ?_
                repeat (go_big_quiet_step ((first | (go_at_call 82; exact beh_same (c_isId_v he1 _)) | (go_at_call 81; exact beh_same (c_isWant_v he4 _)) | (go_at_call 84; exact beh_same (c_isWeight_v he5 _)) | (go_at_call 83; exact beh_below (HG.out _ (BehW.h _))) | fail)))
                refine wpQuiet_nil ?_
                intro _ hw'
                obtain ⟨qb, hw''⟩ := hw'
                subst hw''
                go_wp2_with fail
                go_meet
                exact ⟨_, rfl, rfl, qb.h⟩
            · have hi0 : 0 < i := of_decide_eq_true hpos
              have b4 : decide (pv ≥ id) = false := by have h1 : (i == 0) = false := beq_eq_false_iff_ne.2 (by omega); rw [h1, Bool.false_or] at he2; exact decide_eq_false (by have := of_decide_eq_true he2; omega)
              rcases he3 : (hasId n1 f1 up || up == 0) with _ | _
              · have HG := HGG.out _ he3
                rw [he1, he2, he3] at hr; subst hr
                clear he2 he3 HGG
                refine wp_region_beh (by kernel_rfl) (by kernel_rfl) ?_
                repeat (go_big_quiet_step ((first | (go_at_call 82; exact beh_same (c_isId_v he1 _)) | (go_at_call 81; exact beh_same (c_isWant_v he4 _)) | (go_at_call 84; exact beh_same (c_isWeight_v he5 _)) | (go_at_call 83; exact beh_below (HG.out _ (BehW.h _))) | fail)))
                refine wpQuiet_nil ?_
                intro _ hw'
                obtain ⟨qb, hw''⟩ := hw'
                subst hw''
                go_wp2_with fail
                go_meet
                exact ⟨_, rfl, rfl, qb.h⟩
              have HG := HGG.out _ he3
              rcases he4 : bIn cp 0 1125899906842624 with _ | _
              · rw [he1, he2, he3, he4] at hr; subst hr
                clear he2 he3 HGG
                refine wp_region_beh (by kernel_rfl) (by kernel_rfl) ?_
                repeat (go_big_quiet_step ((first | (go_at_call 82; exact beh_same (c_isId_v he1 _)) | (go_at_call 81; exact beh_same (c_isWant_v he4 _)) | (go_at_call 84; exact beh_same (c_isWeight_v he5 _)) | (go_at_call 83; exact beh_below (HG.out _ (BehW.h _))) | fail)))
                refine wpQuiet_nil ?_
                intro _ hw'
                obtain ⟨qb, hw''⟩ := hw'
                subst hw''
                go_wp2_with fail
                go_meet
                exact ⟨_, rfl, rfl, qb.h⟩
              rcases he5 : bIn wt 1 1073741824 with _ | _
              · rw [he1, he2, he3, he4, he5] at hr; subst hr
                clear he2 he3 HGG
                refine wp_region_beh (by kernel_rfl) (by kernel_rfl) ?_
                repeat (go_big_quiet_step ((first | (go_at_call 82; exact beh_same (c_isId_v he1 _)) | (go_at_call 81; exact beh_same (c_isWant_v he4 _)) | (go_at_call 84; exact beh_same (c_isWeight_v he5 _)) | (go_at_call 83; exact beh_below (HG.out _ (BehW.h _))) | fail)))
                refine wpQuiet_nil ?_
                intro _ hw'
                obtain ⟨qb, hw''⟩ := hw'
                subst hw''
                go_wp2_with fail
                go_meet
                exact ⟨_, rfl, rfl, qb.h⟩
              · rw [he1, he2, he3, he4, he5] at hr; subst hr
                clear he2 he3 HGG
                refine wp_region_beh (by kernel_rfl) (by kernel_rfl) ?_
                repeat (go_big_quiet_step ((first | (go_at_call 82; exact beh_same (c_isId_v he1 _)) | (go_at_call 81; exact beh_same (c_isWant_v he4 _)) | (go_at_call 84; exact beh_same (c_isWeight_v he5 _)) | (go_at_call 83; exact beh_below (HG.out _ (BehW.h _))) | fail)))
                refine wpQuiet_nil ?_
                intro _ hw'
                obtain ⟨qb, hw''⟩ := hw'
                subst hw''
                go_wp2_with fail
                go_meet
                exact ⟨_, rfl, rfl, qb.h⟩
          case rest =>
            obtain ⟨wx, rfl, rfl, hbx⟩ := hcut
            have KB5 := Lib.hid (btrans QW.out hbx)
            clear hr Q7 QB QT QP QL QW T1 hbx
            rename_i hKK
            refine hKK _ _ ?_
            clear hKK
            cases r with
            | false =>
              go_wp2_with fail
              go_ret
              exact ⟨ret_bool (farm_noM h5 HRi.out).symm, HB.out.trans (KB5.out.mono HZ.out)⟩
            | true =>
              have KM5 : Hid (∀ j, j < i + 1 → okM n1 f1 f2 j = true) := Lib.hid (by intro j hj; rcases Nat.lt_succ_iff_lt_or_eq.1 hj with h | rfl; exact KM.out j h; exact HRi.out)
              clear KM HRi
              go_wp2_with fail
              go_roundw
              case rel => exact ⟨i + 1, by omega, by go_num, KM5, KB5⟩
              case measure => simp [intOf]; omega
        · obtain rfl : n2 = i := by omega
          have b1 : decide ((n2 : Int) < (n2 : Int)) = false := decide_eq_false (by omega)
          go_wp2_with fail
          go_ret
          exact ⟨ret_bool (farm_yes he hl1 hl2 KI.out KM.out).symm, HB.out.trans (KB'.out.mono HZ.out)⟩
end Go.Proofs.Ytipkbapnhgdpeaa.C
