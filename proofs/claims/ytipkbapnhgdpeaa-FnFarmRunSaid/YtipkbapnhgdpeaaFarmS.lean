/- The reference's FarmRight answers as the program's. No condition. -/
import Derived.Test.YtipkbapnhgdpeaaFarmR
namespace Go.Proofs.Ytipkbapnhgdpeaa.C
open Go.RowKit
set_option maxRecDepth 100000
set_option linter.unusedVariables false
set_option linter.unusedSimpArgs false
attribute [local go_sem ↓] Go.wp_at_zero Go.wp_at_succ
/-- The place of the first row with this number, from i on. -/
def grpIdx (f : Nat → Nat → Int) (id : Int) : Nat → Nat → Int
  | _, 0 => -1
  | i, k + 1 => if f i 0 = id then i else grpIdx f id (i + 1) k
theorem grpIdx_neg (f : Nat → Nat → Int) (id : Int) : ∀ k i, grpIdx f id i k < 0 ↔ ∀ j, i ≤ j → j < i + k → f j 0 ≠ id
  | 0, i => ⟨fun _ j h1 h2 => by omega, fun _ => by simp [grpIdx]⟩
  | k + 1, i => by
    unfold grpIdx
    by_cases h : f i 0 = id
    · rw [if_pos h]
      exact ⟨fun h2 => by omega, fun h2 => absurd h (h2 i (Nat.le_refl _) (by omega))⟩
    · rw [if_neg h, grpIdx_neg f id k (i + 1)]
      exact ⟨fun h2 j h3 h4 => by
        rcases Nat.lt_or_ge i j with h5 | h5
        · exact h2 j (by omega) (by omega)
        · rw [show j = i by omega]; exact h, fun h2 j h3 h4 => h2 j (by omega) (by omega)⟩
theorem grpIdx_has (f : Nat → Nat → Int) (id : Int) (n : Nat) : decide (grpIdx f id 0 n < 0) = !(hasId n f id) := by
  rcases h : hasId n f id with _ | _
  · refine decide_eq_true ((grpIdx_neg f id n 0).2 fun j _ hj he => ?_)
    have := (hasId_iff (n := n)).2 ⟨j, by omega, he⟩
    rw [h] at this; cases this
  · obtain ⟨j, hj, he⟩ := hasId_iff.1 h
    exact decide_eq_false fun hc => (grpIdx_neg f id n 0).1 hc j (by omega) (by omega) he
set_option maxHeartbeats 4000000 in
theorem s_l05Group (cap : Int) (A1 A2 : Option Addr) (n1 c1 n2 c2 : Nat) (f1 : Nat → Nat → Int) (id : Int) (w : World) (h : Tab 4 w A1 n1 f1) (hn : n1 ≤ 1000) :
    Calls Try.prog 76 #[.agg #[.int .i64 cap, .slice A1 n1 c1, .slice A2 n2 c2], .int .i64 id] w fun e w' => e = .returned (.int .i64 (grpIdx f1 id 0 n1)) ∧ Below w.heap.size w w' := by
  have hb := (Below.refl _ w).alloc (Nat.le_refl _) (.cells #[.int .i64 cap, .slice A1 n1 c1, .slice A2 n2 c2] 34)
  have BK := Lib.hid (Blk.new (w := w) (B := 0) (Nat.zero_le _) #[.int .i64 cap, .slice A1 n1 c1, .slice A2 n2 c2] 34)
  have H := Lib.hid (h.keep hb)
  have HB := Lib.hid hb
  have hz : w.heap.size ≤ (w.alloc (.cells #[.int .i64 cap, .slice A1 n1 c1, .slice A2 n2 c2] 34)).heap.size := hb.size
  have HZ := Lib.hid hz
  clear h hb hz
  go_enter Try.func76, Try.ntmps76
  go_wp2_with fail
  generalize w.alloc (.cells #[.int .i64 cap, .slice A1 n1 c1, .slice A2 n2 c2] 34) = w1 at *
  go_loopw [5] (fun v5 wr => ∃ i : Nat, i ≤ n1 ∧ v5 = .int .i64 i ∧ Hid (grpIdx f1 id 0 n1 = grpIdx f1 id i (n1 - i)) ∧ Hid (Below w1.heap.size w1 wr)) (fun v5 _ => n1 - (intOf v5).toNat)
  case atStart => exact ⟨0, by omega, rfl, Lib.hid rfl, Lib.hid (Below.refl _ _)⟩
  case round =>
    obtain ⟨i, hi, rfl, KI, KB⟩ := hrel
    have c1' := ((BK.out.keep KB.out).cell 1).trans rfl
    by_cases h5 : i < n1
    · have b1 : decide ((i : Int) < (n1 : Int)) = true := decide_eq_true (by omega)
      obtain ⟨g, off, rfl, hg, hx⟩ := (H.out.keep KB.out).at (by omega)
      have x0 := hx i 0 h5 (by omega)
      rw [Nat.add_zero] at x0
      clear hx
      have KI2 := KI.out
      rw [show n1 - i = (n1 - (i + 1)) + 1 by omega, grpIdx] at KI2
      by_cases he : f1 i 0 = id
      · have b2 : (f1 i 0 == id) = true := by simpa using he
        rw [if_pos he] at KI2
        have KI3 := Lib.hid KI2
        clear KI2 he
        go_wp2_with fail
        go_ret
        exact ⟨ret_int KI3.out.symm, HB.out.trans (KB.out.mono HZ.out)⟩
      · have b2 : (f1 i 0 == id) = false := by simpa using he
        rw [if_neg he] at KI2
        have KI3 := Lib.hid KI2
        clear KI2 he
        go_wp2_with fail
        go_roundw
        case rel => exact ⟨i + 1, by omega, by go_num, KI3, KB⟩
        case measure => simp [intOf]; omega
    · obtain rfl : n1 = i := by omega
      have b1 : decide ((n1 : Int) < (n1 : Int)) = false := decide_eq_false (by omega)
      go_wp2_with fail
      go_ret
      exact ⟨ret_int (by rw [KI.out, Nat.sub_self]; rfl), HB.out.trans (KB.out.mono HZ.out)⟩
/-- The reference's words for a right group, a right member. -/
def okGS (n : Nat) (f : Nat → Nat → Int) (i : Nat) : Bool :=
  bIn (f i 0) 1 1000000 && ((i == 0 || decide (f (i - 1) 0 < f i 0)) && ((f i 1 == 0 || (hasId n f (f i 1) && decide (f i 1 < f i 0))) && (bIn (f i 2) 0 1125899906842624 && bIn (f i 3) 1 1073741824)))
def okMS (n1 : Nat) (f1 f : Nat → Nat → Int) (i : Nat) : Bool :=
  bIn (f i 0) 1 1000000 && ((i == 0 || decide (f (i - 1) 0 < f i 0)) && ((f i 1 == 0 || hasId n1 f1 (f i 1)) && (bIn (f i 2) 0 1125899906842624 && bIn (f i 3) 1 1073741824)))
theorem okMS_eq (n1 : Nat) (f1 f : Nat → Nat → Int) (i : Nat) : okMS n1 f1 f i = okM n1 f1 f i := by unfold okMS okM; rw [Bool.or_comm (f i 1 == 0)]
theorem rises_GS {n : Nat} {f : Nat → Nat → Int} (h : ∀ j, j < n → okGS n f j = true) : Rises n f := rises_of fun j hj => by
  have := h (j + 1) hj
  unfold okGS at this
  rw [Bool.and_eq_true, Bool.and_eq_true, Bool.or_eq_true] at this
  rcases this.2.1 with h | h
  · simp at h
  · simpa using h
theorem rises_le {n : Nat} {f : Nat → Nat → Int} (h : Rises n f) {i j : Nat} (hij : i ≤ j) (hj : j < n) : f i 0 ≤ f j 0 := by
  rcases Nat.lt_or_ge i j with h1 | h1
  · exact Int.le_of_lt (h i j h1 hj)
  · rw [show i = j by omega]; exact Int.le_refl _
theorem okG_iff {n : Nat} {f : Nat → Nat → Int} (hr : Rises n f) {i : Nat} (hi : i < n) : okGS n f i = okG f i := by
  have e : (f i 1 == 0 || (hasId n f (f i 1) && decide (f i 1 < f i 0))) = (hasId i f (f i 1) || f i 1 == 0) := by
    rw [Bool.or_comm]
    congr 1
    rcases h : hasId i f (f i 1) with _ | _
    · rcases h2 : (hasId n f (f i 1) && decide (f i 1 < f i 0)) with _ | _
      · rfl
      · rw [Bool.and_eq_true] at h2
        obtain ⟨j, hj, he⟩ := hasId_iff.1 h2.1
        have hlt := of_decide_eq_true h2.2
        have hji : j < i := Nat.lt_of_not_le fun hle => by
          have := rises_le hr hle hj
          omega
        rw [hasId_iff.2 ⟨j, hji, he⟩] at h
        cases h
    · obtain ⟨j, hj, he⟩ := hasId_iff.1 h
      have h1 : hasId n f (f i 1) = true := hasId_iff.2 ⟨j, by omega, he⟩
      have h2 := hr j i hj hi
      rw [h1, Bool.true_and]
      exact decide_eq_true (by omega)
  unfold okGS okG
  rw [e]
theorem farm_GS {n : Nat} {f : Nat → Nat → Int} : (List.range n).all (okGS n f) = (List.range n).all (okG f) := by
  rcases h : (List.range n).all (okG f) with _ | _
  · rcases h2 : (List.range n).all (okGS n f) with _ | _
    · rfl
    · have hs : ∀ j, j < n → okGS n f j = true := fun j hj => List.all_eq_true.1 h2 j (List.mem_range.2 hj)
      have hr := rises_GS hs
      have : (List.range n).all (okG f) = true := List.all_eq_true.2 fun j hj => by rw [← okG_iff hr (List.mem_range.1 hj)]; exact hs j (List.mem_range.1 hj)
      rw [this] at h; cases h
  · have hs : ∀ j, j < n → okG f j = true := fun j hj => List.all_eq_true.1 h j (List.mem_range.2 hj)
    have hr := rises_G hs
    exact List.all_eq_true.2 fun j hj => by rw [okG_iff hr (List.mem_range.1 hj)]; exact hs j (List.mem_range.1 hj)
theorem farmS_noG {cap : Int} {n1 n2 i : Nat} {f1 f2 : Nat → Nat → Int} (hi : i < n1) (h : okGS n1 f1 i = false) : farmB cap n1 f1 n2 f2 = false := by
  have : (List.range n1).all (okG f1) = false := by rw [← farm_GS]; exact List.all_eq_false.2 ⟨i, List.mem_range.2 hi, by rw [h]; decide⟩
  simp [farmB, this]
theorem farmS_yes {cap : Int} {n1 n2 : Nat} {f1 f2 : Nat → Nat → Int} (hc : bIn cap 0 1125899906842624 = true) (h1 : n1 ≤ 30) (h2 : n2 ≤ 60) (hg : ∀ j, j < n1 → okGS n1 f1 j = true) (hm : ∀ j, j < n2 → okMS n1 f1 f2 j = true) : farmB cap n1 f1 n2 f2 = true := by
  have hr := rises_GS hg
  exact farm_yes hc h1 h2 (fun j hj => by rw [← okG_iff hr hj]; exact hg j hj) (fun j hj => by rw [← okMS_eq]; exact hm j hj)
theorem s_want_k {a : Int} {b : Bool} (h : bIn a 0 1125899906842624 = b) (w : World) : Calls Try.prog 92 #[.int .i64 a] w fun e w' => e = .returned (.bool b) ∧ w = w' := h ▸ s_want a w
theorem s_id_k {a : Int} {b : Bool} (h : bIn a 1 1000000 = b) (w : World) : Calls Try.prog 93 #[.int .i64 a] w fun e w' => e = .returned (.bool b) ∧ w = w' := h ▸ s_id a w
theorem s_weight_k {a : Int} {b : Bool} (h : bIn a 1 1073741824 = b) (w : World) : Calls Try.prog 94 #[.int .i64 a] w fun e w' => e = .returned (.bool b) ∧ w = w' := h ▸ s_weight a w
set_option maxHeartbeats 8000000 in
theorem s_FarmRight (cap : Int) (A1 A2 : Option Addr) (n1 c1 n2 c2 : Nat) (f1 f2 : Nat → Nat → Int) (w : World) (h : FarmAt w A1 n1 f1 A2 n2 f2) (hc1 : n1 ≤ c1) :
    Calls Try.prog 39 #[.agg #[.int .i64 cap, .slice A1 n1 c1, .slice A2 n2 c2]] w fun e w' => e = .returned (.bool (farmB cap n1 f1 n2 f2)) ∧ Below w.heap.size w w' := by
  have hb := (Below.refl _ w).alloc (Nat.le_refl _) (.cells #[.int .i64 cap, .slice A1 n1 c1, .slice A2 n2 c2] 34)
  have hbk := Blk.new (w := w) (B := 0) (Nat.zero_le _) #[.int .i64 cap, .slice A1 n1 c1, .slice A2 n2 c2] 34
  have H := Lib.hid (h.keep hb)
  have HB := Lib.hid hb
  have BK := Lib.hid hbk
  have hz : w.heap.size ≤ (w.alloc (.cells #[.int .i64 cap, .slice A1 n1 c1, .slice A2 n2 c2] 34)).heap.size := hb.size
  have HZ := Lib.hid hz
  clear h hb hbk hz
  obtain ⟨r, hr⟩ : ∃ r, farmB cap n1 f1 n2 f2 = r := ⟨_, rfl⟩
  have HR := Lib.hid hr
  clear hr
  go_enter Try.func39, Try.ntmps39
  go_upto_region 1 with fail
  generalize hw1 : w.alloc (.cells #[.int .i64 cap, .slice A1 n1 c1, .slice A2 n2 c2] 34) = w1 at *
  clear hw1
  obtain ⟨b, hbb⟩ : ∃ b, w.heap.size = b := ⟨_, rfl⟩
  rw [hbb] at BK ⊢
  have c0 := (BK.out.cell 0).trans rfl
  have c1' := (BK.out.cell 1).trans rfl
  have c2' := (BK.out.cell 2).trans rfl
  rcases he : bIn cap 0 1125899906842624 with _ | _
  · go_wp2_with (first | (go_at_call 92; refine (s_want_k he _).mono ?_; rintro e w' ⟨rfl, rfl⟩) | fail)
    go_ret
    exact ⟨ret_bool (by simp [farmB, he]), HB.out⟩
  by_cases hl1 : n1 ≤ 30
  case neg =>
    have b1 : decide ((n1 : Int) > 30) = true := decide_eq_true (by omega)
    go_wp2_with (first | (go_at_call 92; refine (s_want_k he _).mono ?_; rintro e w' ⟨rfl, rfl⟩) | fail)
    go_ret
    exact ⟨ret_bool (by simp [farmB, hl1]), HB.out⟩
  by_cases hl2 : n2 ≤ 60
  case neg =>
    have b1 : decide ((n1 : Int) > 30) = false := decide_eq_false (by omega)
    have b2 : decide ((n2 : Int) > 60) = true := decide_eq_true (by omega)
    go_wp2_with (first | (go_at_call 92; refine (s_want_k he _).mono ?_; rintro e w' ⟨rfl, rfl⟩) | fail)
    go_ret
    exact ⟨ret_bool (by simp [farmB, hl2]), HB.out⟩
  have bn1 : decide ((n1 : Int) > 30) = false := decide_eq_false (by omega)
  have bn2 : decide ((n2 : Int) > 60) = false := decide_eq_false (by omega)
  go_wp2_with (first | (go_at_call 92; refine (s_want_k he _).mono ?_; rintro e w' ⟨rfl, rfl⟩) | fail)
  clear c0 c1' c2'
  have hR0 : Hid (∀ j, j < 0 → okGS n1 f1 j = true) := Lib.hid (by intro j hj; omega)
  go_loopw [3] (fun v27 wr => ∃ i : Nat, i ≤ n1 ∧ v27 = .int .i64 i ∧ Hid (∀ j, j < i → okGS n1 f1 j = true) ∧ Hid (Below w1.heap.size w1 wr)) (fun v27 _ => n1 - (intOf v27).toNat)
  case atStart => exact ⟨0, by omega, rfl, hR0, Lib.hid (Below.refl _ _)⟩
  case round =>
    obtain ⟨i, hi, rfl, KI, KB⟩ := hrel
    clear hR0
    have BK1 := Lib.hid (BK.out.keep KB.out)
    have HK := Lib.hid (H.out.keep KB.out)
    have c1' := (BK1.out.cell 1).trans rfl
    by_cases h5 : i < n1
    · have b1 : decide ((i : Int) < (n1 : Int)) = true := decide_eq_true (by omega)
      obtain ⟨g, off, rfl, hg, hx⟩ := HK.out.g.at (by omega)
      have x0 := hx i 0 h5 (by omega)
      have x1 := hx i 1 h5 (by omega)
      have x2 := hx i 2 h5 (by omega)
      have x3 := hx i 3 h5 (by omega)
      rw [Nat.add_zero] at x0
      have hpv := hx (i - 1) 0 (by omega) (by omega)
      rw [Nat.add_zero] at hpv
      obtain ⟨r, hr⟩ : ∃ r, okGS n1 f1 i = r := ⟨_, rfl⟩
      have HRi := Lib.hid hr
      unfold okGS at hr
      have hTab := HK.out.g
      generalize f1 i 0 = id at *
      generalize f1 i 1 = up at *
      generalize f1 i 2 = cp at *
      generalize f1 i 3 = wt at *
      generalize f1 (i - 1) 0 = pv at *
      clear hx
      go_upto_region 7 with fail
      have hal := (Below.refl wr.heap.size wr).alloc (Nat.le_refl _) (.cells #[.int .i64 id, .int .i64 up, .int .i64 cp, .int .i64 wt] 114)
      have Q4 := Lib.hid (Blk.new (w := wr) (B := 0) (Nat.zero_le _) #[.int .i64 id, .int .i64 up, .int .i64 cp, .int .i64 wt] 114)
      have QB := Lib.hid (BK1.out.keep hal)
      have QT := Lib.hid (hTab.keep hal)
      have QP := Lib.hid ((hal.cell (p := ⟨g, off + (i - 1) * 4, none⟩) hg).trans hpv)
      have QL := Lib.hid (Nat.lt_of_lt_of_le hg hal.size)
      have QW := Lib.hid (btrans KB.out hal)
      clear hal x0 x1 x2 x3 hpv hTab
      generalize hb4 : wr.heap.size = b4 at *
      generalize wr.alloc (.cells #[.int .i64 id, .int .i64 up, .int .i64 cp, .int .i64 wt] 114) = w2 at *
      have T1 : Hid (∀ w', Below w2.heap.size w2 w' → w'.cell? ⟨b4, 0, none⟩ = some (.int .i64 id) ∧ w'.cell? ⟨b4, 1, none⟩ = some (.int .i64 up) ∧ w'.cell? ⟨b4, 2, none⟩ = some (.int .i64 cp) ∧ w'.cell? ⟨b4, 3, none⟩ = some (.int .i64 wt) ∧ w'.cell? ⟨b, 0, none⟩ = some (.int .i64 cap) ∧ w'.cell? ⟨b, 1, none⟩ = some (.slice (some ⟨g, off, none⟩) n1 c1) ∧ w'.cell? ⟨b, 2, none⟩ = some (.slice A2 n2 c2) ∧ w'.cell? ⟨g, off + (i - 1) * 4, none⟩ = some (.int .i64 pv) ∧ Below w2.heap.size w2 w') := Lib.hid fun w' hb => ⟨((Q4.out.keep hb).cell 0).trans rfl, ((Q4.out.keep hb).cell 1).trans rfl, ((Q4.out.keep hb).cell 2).trans rfl, ((Q4.out.keep hb).cell 3).trans rfl, ((QB.out.keep hb).cell 0).trans rfl, ((QB.out.keep hb).cell 1).trans rfl, ((QB.out.keep hb).cell 2).trans rfl, (hb.cell (p := ⟨g, off + (i - 1) * 4, none⟩) QL.out).trans QP.out, hb⟩
      clear c1' hb4
      go_cut [85] (fun v75 wc => ∃ wx : World, wx = wc ∧ v75 = .bool (!r) ∧ Below w2.heap.size w2 wx)
      case first =>
        have HL := Lib.hid fun (w' : World) (hb : Below w2.heap.size w2 w') => s_l05Group cap (some ⟨g, off, none⟩) A2 n1 c1 n2 c2 f1 up w' (QT.out.keep hb) (by omega)
        have HLN := Lib.hid (grpIdx_has f1 up n1)
        generalize grpIdx f1 up 0 n1 = gi at *
        have t0 : ∀ p : BehW w2, p.w.cell? ⟨b4, 0, none⟩ = some (.int .i64 id) := fun p => (T1.out p.w p.h).1
        have t1 : ∀ p : BehW w2, p.w.cell? ⟨b4, 1, none⟩ = some (.int .i64 up) := fun p => (T1.out p.w p.h).2.1
        have t2 : ∀ p : BehW w2, p.w.cell? ⟨b4, 2, none⟩ = some (.int .i64 cp) := fun p => (T1.out p.w p.h).2.2.1
        have t3 : ∀ p : BehW w2, p.w.cell? ⟨b4, 3, none⟩ = some (.int .i64 wt) := fun p => (T1.out p.w p.h).2.2.2.1
        have t4 : ∀ p : BehW w2, p.w.cell? ⟨b, 0, none⟩ = some (.int .i64 cap) := fun p => (T1.out p.w p.h).2.2.2.2.1
        have t5 : ∀ p : BehW w2, p.w.cell? ⟨b, 1, none⟩ = some (.slice (some ⟨g, off, none⟩) n1 c1) := fun p => (T1.out p.w p.h).2.2.2.2.2.1
        have t6 : ∀ p : BehW w2, p.w.cell? ⟨b, 2, none⟩ = some (.slice A2 n2 c2) := fun p => (T1.out p.w p.h).2.2.2.2.2.2.1
        have t7 : ∀ p : BehW w2, p.w.cell? ⟨g, off + (i - 1) * 4, none⟩ = some (.int .i64 pv) := fun p => (T1.out p.w p.h).2.2.2.2.2.2.2.1
        clear HRi
        rcases he1 : bIn id 1 1000000 with _ | _
        · rw [he1] at hr; subst hr
          refine wp_region_beh (by kernel_rfl) (by kernel_rfl) ?_
          repeat (go_big_quiet_step ((first | (go_at_call 93; exact beh_same (s_id_k he1 _)) | (go_at_call 92; exact beh_same (s_want_k he4 _)) | (go_at_call 94; exact beh_same (s_weight_k he5 _)) | (go_at_call 76; exact beh_below (HL.out _ (BehW.h _))) | fail)))
          refine wpQuiet_nil ?_
          intro _ hw'
          obtain ⟨qb, hw''⟩ := hw'
          subst hw''
          go_wp2_with fail
          go_meet
          exact ⟨_, rfl, rfl, qb.h⟩
        rcases he2 : (i == 0 || decide (pv < id)) with _ | _
        · have hi0 : 0 < i := Nat.pos_of_ne_zero (fun h => by rw [h] at he2; cases he2)
          have b3 : decide ((i : Int) > 0) = true := decide_eq_true (by omega)
          have b4 : decide (id ≤ pv) = true := by simp at he2; exact decide_eq_true (by omega)
          rw [he1, he2] at hr; subst hr
          clear he2
          refine wp_region_beh (by kernel_rfl) (by kernel_rfl) ?_
          repeat (go_big_quiet_step ((first | (go_at_call 93; exact beh_same (s_id_k he1 _)) | (go_at_call 92; exact beh_same (s_want_k he4 _)) | (go_at_call 94; exact beh_same (s_weight_k he5 _)) | (go_at_call 76; exact beh_below (HL.out _ (BehW.h _))) | fail)))
          refine wpQuiet_nil ?_
          intro _ hw'
          obtain ⟨qb, hw''⟩ := hw'
          subst hw''
          go_wp2_with fail
          go_meet
          exact ⟨_, rfl, rfl, qb.h⟩
        rcases hpos : decide (0 < i) with _ | _
        · have hi0 : ¬ 0 < i := of_decide_eq_false hpos
          by_cases hup : up = 0
          · have bu : (up != 0) = false := by simp [hup]
            have hg3 : (up == 0 || (hasId n1 f1 up && decide (up < id))) = true := by simp [hup]
            rcases he4 : bIn cp 0 1125899906842624 with _ | _
            · rw [he1, he2, he4] at hr; simp only [hg3] at hr; have hr : false = r := by simpa using hr
              subst hr; clear he2 hg3
              refine wp_region_beh (by kernel_rfl) (by kernel_rfl) ?_
              repeat (go_big_quiet_step ((first | (go_at_call 93; exact beh_same (s_id_k he1 _)) | (go_at_call 92; exact beh_same (s_want_k he4 _)) | (go_at_call 94; exact beh_same (s_weight_k he5 _)) | (go_at_call 76; exact beh_below (HL.out _ (BehW.h _))) | fail)))
              refine wpQuiet_nil ?_
              intro _ hw'
              obtain ⟨qb, hw''⟩ := hw'
              subst hw''
              go_wp2_with fail
              go_meet
              exact ⟨_, rfl, rfl, qb.h⟩
            rcases he5 : bIn wt 1 1073741824 with _ | _
            · rw [he1, he2, he4, he5] at hr; simp only [hg3] at hr; have hr : false = r := by simpa using hr
              subst hr; clear he2 hg3
              refine wp_region_beh (by kernel_rfl) (by kernel_rfl) ?_
              repeat (go_big_quiet_step ((first | (go_at_call 93; exact beh_same (s_id_k he1 _)) | (go_at_call 92; exact beh_same (s_want_k he4 _)) | (go_at_call 94; exact beh_same (s_weight_k he5 _)) | (go_at_call 76; exact beh_below (HL.out _ (BehW.h _))) | fail)))
              refine wpQuiet_nil ?_
              intro _ hw'
              obtain ⟨qb, hw''⟩ := hw'
              subst hw''
              go_wp2_with fail
              go_meet
              exact ⟨_, rfl, rfl, qb.h⟩
            · rw [he1, he2, he4, he5] at hr; simp only [hg3] at hr; have hr : true = r := by simpa using hr
              subst hr; clear he2 hg3
              refine wp_region_beh (by kernel_rfl) (by kernel_rfl) ?_
              repeat (go_big_quiet_step ((first | (go_at_call 93; exact beh_same (s_id_k he1 _)) | (go_at_call 92; exact beh_same (s_want_k he4 _)) | (go_at_call 94; exact beh_same (s_weight_k he5 _)) | (go_at_call 76; exact beh_below (HL.out _ (BehW.h _))) | fail)))
              refine wpQuiet_nil ?_
              intro _ hw'
              obtain ⟨qb, hw''⟩ := hw'
              subst hw''
              go_wp2_with fail
              go_meet
              exact ⟨_, rfl, rfl, qb.h⟩
          have bu : (up != 0) = true := by simpa using hup
          have bu2 : (up == 0) = false := by simpa using hup
          rcases hh : hasId n1 f1 up with _ | _
          · have hneg := HLN.out; rw [hh] at hneg; have hneg : decide (gi < 0) = true := hneg
            rw [he1, he2, bu2, hh] at hr; have hr : false = r := by simpa using hr
            subst hr; clear he2 hh
            refine wp_region_beh (by kernel_rfl) (by kernel_rfl) ?_
            repeat (go_big_quiet_step ((first | (go_at_call 93; exact beh_same (s_id_k he1 _)) | (go_at_call 92; exact beh_same (s_want_k he4 _)) | (go_at_call 94; exact beh_same (s_weight_k he5 _)) | (go_at_call 76; exact beh_below (HL.out _ (BehW.h _))) | fail)))
            refine wpQuiet_nil ?_
            intro _ hw'
            obtain ⟨qb, hw''⟩ := hw'
            subst hw''
            go_wp2_with fail
            go_meet
            exact ⟨_, rfl, rfl, qb.h⟩
          have hneg := HLN.out; rw [hh] at hneg; have hneg : decide (gi < 0) = false := hneg
          rcases hlt : decide (up < id) with _ | _
          · have bge : decide (up ≥ id) = true := decide_eq_true (by have := of_decide_eq_false hlt; omega)
            rw [he1, he2, bu2, hh, hlt] at hr; have hr : false = r := by simpa using hr
            subst hr; clear he2 hh hlt
            refine wp_region_beh (by kernel_rfl) (by kernel_rfl) ?_
            repeat (go_big_quiet_step ((first | (go_at_call 93; exact beh_same (s_id_k he1 _)) | (go_at_call 92; exact beh_same (s_want_k he4 _)) | (go_at_call 94; exact beh_same (s_weight_k he5 _)) | (go_at_call 76; exact beh_below (HL.out _ (BehW.h _))) | fail)))
            refine wpQuiet_nil ?_
            intro _ hw'
            obtain ⟨qb, hw''⟩ := hw'
            subst hw''
            go_wp2_with fail
            go_meet
            exact ⟨_, rfl, rfl, qb.h⟩
          · have bge : decide (up ≥ id) = false := decide_eq_false (by have := of_decide_eq_true hlt; omega)
            have hg3 : (up == 0 || (hasId n1 f1 up && decide (up < id))) = true := by rw [bu2, hh, hlt]; rfl
            clear hh hlt
            rcases he4 : bIn cp 0 1125899906842624 with _ | _
            · rw [he1, he2, he4] at hr; simp only [hg3] at hr; have hr : false = r := by simpa using hr
              subst hr; clear he2 hg3
              refine wp_region_beh (by kernel_rfl) (by kernel_rfl) ?_
              repeat (go_big_quiet_step ((first | (go_at_call 93; exact beh_same (s_id_k he1 _)) | (go_at_call 92; exact beh_same (s_want_k he4 _)) | (go_at_call 94; exact beh_same (s_weight_k he5 _)) | (go_at_call 76; exact beh_below (HL.out _ (BehW.h _))) | fail)))
              refine wpQuiet_nil ?_
              intro _ hw'
              obtain ⟨qb, hw''⟩ := hw'
              subst hw''
              go_wp2_with fail
              go_meet
              exact ⟨_, rfl, rfl, qb.h⟩
            rcases he5 : bIn wt 1 1073741824 with _ | _
            · rw [he1, he2, he4, he5] at hr; simp only [hg3] at hr; have hr : false = r := by simpa using hr
              subst hr; clear he2 hg3
              refine wp_region_beh (by kernel_rfl) (by kernel_rfl) ?_
              repeat (go_big_quiet_step ((first | (go_at_call 93; exact beh_same (s_id_k he1 _)) | (go_at_call 92; exact beh_same (s_want_k he4 _)) | (go_at_call 94; exact beh_same (s_weight_k he5 _)) | (go_at_call 76; exact beh_below (HL.out _ (BehW.h _))) | fail)))
              refine wpQuiet_nil ?_
              intro _ hw'
              obtain ⟨qb, hw''⟩ := hw'
              subst hw''
              go_wp2_with fail
              go_meet
              exact ⟨_, rfl, rfl, qb.h⟩
            · rw [he1, he2, he4, he5] at hr; simp only [hg3] at hr; have hr : true = r := by simpa using hr
              subst hr; clear he2 hg3
              refine wp_region_beh (by kernel_rfl) (by kernel_rfl) ?_
              repeat (go_big_quiet_step ((first | (go_at_call 93; exact beh_same (s_id_k he1 _)) | (go_at_call 92; exact beh_same (s_want_k he4 _)) | (go_at_call 94; exact beh_same (s_weight_k he5 _)) | (go_at_call 76; exact beh_below (HL.out _ (BehW.h _))) | fail)))
              refine wpQuiet_nil ?_
              intro _ hw'
              obtain ⟨qb, hw''⟩ := hw'
              subst hw''
              go_wp2_with fail
              go_meet
              exact ⟨_, rfl, rfl, qb.h⟩
        · have hi0 : 0 < i := of_decide_eq_true hpos
          have b4 : decide (id ≤ pv) = false := by have h1 : (i == 0) = false := beq_eq_false_iff_ne.2 (by omega); rw [h1, Bool.false_or] at he2; exact decide_eq_false (by have := of_decide_eq_true he2; omega)
          by_cases hup : up = 0
          · have bu : (up != 0) = false := by simp [hup]
            have hg3 : (up == 0 || (hasId n1 f1 up && decide (up < id))) = true := by simp [hup]
            rcases he4 : bIn cp 0 1125899906842624 with _ | _
            · rw [he1, he2, he4] at hr; simp only [hg3] at hr; have hr : false = r := by simpa using hr
              subst hr; clear he2 hg3
              refine wp_region_beh (by kernel_rfl) (by kernel_rfl) ?_
              repeat (go_big_quiet_step ((first | (go_at_call 93; exact beh_same (s_id_k he1 _)) | (go_at_call 92; exact beh_same (s_want_k he4 _)) | (go_at_call 94; exact beh_same (s_weight_k he5 _)) | (go_at_call 76; exact beh_below (HL.out _ (BehW.h _))) | fail)))
              refine wpQuiet_nil ?_
              intro _ hw'
              obtain ⟨qb, hw''⟩ := hw'
              subst hw''
              go_wp2_with fail
              go_meet
              exact ⟨_, rfl, rfl, qb.h⟩
            rcases he5 : bIn wt 1 1073741824 with _ | _
            · rw [he1, he2, he4, he5] at hr; simp only [hg3] at hr; have hr : false = r := by simpa using hr
              subst hr; clear he2 hg3
              refine wp_region_beh (by kernel_rfl) (by kernel_rfl) ?_
              repeat (go_big_quiet_step ((first | (go_at_call 93; exact beh_same (s_id_k he1 _)) | (go_at_call 92; exact beh_same (s_want_k he4 _)) | (go_at_call 94; exact beh_same (s_weight_k he5 _)) | (go_at_call 76; exact beh_below (HL.out _ (BehW.h _))) | fail)))
              refine wpQuiet_nil ?_
              intro _ hw'
              obtain ⟨qb, hw''⟩ := hw'
              subst hw''
              go_wp2_with fail
              go_meet
              exact ⟨_, rfl, rfl, qb.h⟩
            · rw [he1, he2, he4, he5] at hr; simp only [hg3] at hr; have hr : true = r := by simpa using hr
              subst hr; clear he2 hg3
              refine wp_region_beh (by kernel_rfl) (by kernel_rfl) ?_
              repeat (go_big_quiet_step ((first | (go_at_call 93; exact beh_same (s_id_k he1 _)) | (go_at_call 92; exact beh_same (s_want_k he4 _)) | (go_at_call 94; exact beh_same (s_weight_k he5 _)) | (go_at_call 76; exact beh_below (HL.out _ (BehW.h _))) | fail)))
              refine wpQuiet_nil ?_
              intro _ hw'
              obtain ⟨qb, hw''⟩ := hw'
              subst hw''
              go_wp2_with fail
              go_meet
              exact ⟨_, rfl, rfl, qb.h⟩
          have bu : (up != 0) = true := by simpa using hup
          have bu2 : (up == 0) = false := by simpa using hup
          rcases hh : hasId n1 f1 up with _ | _
          · have hneg := HLN.out; rw [hh] at hneg; have hneg : decide (gi < 0) = true := hneg
            rw [he1, he2, bu2, hh] at hr; have hr : false = r := by simpa using hr
            subst hr; clear he2 hh
            refine wp_region_beh (by kernel_rfl) (by kernel_rfl) ?_
            repeat (go_big_quiet_step ((first | (go_at_call 93; exact beh_same (s_id_k he1 _)) | (go_at_call 92; exact beh_same (s_want_k he4 _)) | (go_at_call 94; exact beh_same (s_weight_k he5 _)) | (go_at_call 76; exact beh_below (HL.out _ (BehW.h _))) | fail)))
            refine wpQuiet_nil ?_
            intro _ hw'
            obtain ⟨qb, hw''⟩ := hw'
            subst hw''
            go_wp2_with fail
            go_meet
            exact ⟨_, rfl, rfl, qb.h⟩
          have hneg := HLN.out; rw [hh] at hneg; have hneg : decide (gi < 0) = false := hneg
          rcases hlt : decide (up < id) with _ | _
          · have bge : decide (up ≥ id) = true := decide_eq_true (by have := of_decide_eq_false hlt; omega)
            rw [he1, he2, bu2, hh, hlt] at hr; have hr : false = r := by simpa using hr
            subst hr; clear he2 hh hlt
            refine wp_region_beh (by kernel_rfl) (by kernel_rfl) ?_
            repeat (go_big_quiet_step ((first | (go_at_call 93; exact beh_same (s_id_k he1 _)) | (go_at_call 92; exact beh_same (s_want_k he4 _)) | (go_at_call 94; exact beh_same (s_weight_k he5 _)) | (go_at_call 76; exact beh_below (HL.out _ (BehW.h _))) | fail)))
            refine wpQuiet_nil ?_
            intro _ hw'
            obtain ⟨qb, hw''⟩ := hw'
            subst hw''
            go_wp2_with fail
            go_meet
            exact ⟨_, rfl, rfl, qb.h⟩
          · have bge : decide (up ≥ id) = false := decide_eq_false (by have := of_decide_eq_true hlt; omega)
            have hg3 : (up == 0 || (hasId n1 f1 up && decide (up < id))) = true := by rw [bu2, hh, hlt]; rfl
            clear hh hlt
            rcases he4 : bIn cp 0 1125899906842624 with _ | _
            · rw [he1, he2, he4] at hr; simp only [hg3] at hr; have hr : false = r := by simpa using hr
              subst hr; clear he2 hg3
              refine wp_region_beh (by kernel_rfl) (by kernel_rfl) ?_
              repeat (go_big_quiet_step ((first | (go_at_call 93; exact beh_same (s_id_k he1 _)) | (go_at_call 92; exact beh_same (s_want_k he4 _)) | (go_at_call 94; exact beh_same (s_weight_k he5 _)) | (go_at_call 76; exact beh_below (HL.out _ (BehW.h _))) | fail)))
              refine wpQuiet_nil ?_
              intro _ hw'
              obtain ⟨qb, hw''⟩ := hw'
              subst hw''
              go_wp2_with fail
              go_meet
              exact ⟨_, rfl, rfl, qb.h⟩
            rcases he5 : bIn wt 1 1073741824 with _ | _
            · rw [he1, he2, he4, he5] at hr; simp only [hg3] at hr; have hr : false = r := by simpa using hr
              subst hr; clear he2 hg3
              refine wp_region_beh (by kernel_rfl) (by kernel_rfl) ?_
              repeat (go_big_quiet_step ((first | (go_at_call 93; exact beh_same (s_id_k he1 _)) | (go_at_call 92; exact beh_same (s_want_k he4 _)) | (go_at_call 94; exact beh_same (s_weight_k he5 _)) | (go_at_call 76; exact beh_below (HL.out _ (BehW.h _))) | fail)))
              refine wpQuiet_nil ?_
              intro _ hw'
              obtain ⟨qb, hw''⟩ := hw'
              subst hw''
              go_wp2_with fail
              go_meet
              exact ⟨_, rfl, rfl, qb.h⟩
            · rw [he1, he2, he4, he5] at hr; simp only [hg3] at hr; have hr : true = r := by simpa using hr
              subst hr; clear he2 hg3
              refine wp_region_beh (by kernel_rfl) (by kernel_rfl) ?_
              repeat (go_big_quiet_step ((first | (go_at_call 93; exact beh_same (s_id_k he1 _)) | (go_at_call 92; exact beh_same (s_want_k he4 _)) | (go_at_call 94; exact beh_same (s_weight_k he5 _)) | (go_at_call 76; exact beh_below (HL.out _ (BehW.h _))) | fail)))
              refine wpQuiet_nil ?_
              intro _ hw'
              obtain ⟨qb, hw''⟩ := hw'
              subst hw''
              go_wp2_with fail
              go_meet
              exact ⟨_, rfl, rfl, qb.h⟩
      case rest =>
        obtain ⟨wx, rfl, rfl, hbx⟩ := hcut
        have KB5 := Lib.hid (btrans QW.out hbx)
        clear hr Q4 QB QT QP QL QW T1 hbx
        rename_i hKK
        refine hKK _ _ ?_
        clear hKK
        cases r with
        | false =>
          go_wp2_with fail
          go_ret
          exact ⟨ret_bool (farmS_noG h5 HRi.out).symm, HB.out.trans (KB5.out.mono HZ.out)⟩
        | true =>
          have KI5 : Hid (∀ j, j < i + 1 → okGS n1 f1 j = true) := Lib.hid (by intro j hj; rcases Nat.lt_succ_iff_lt_or_eq.1 hj with h | rfl; exact KI.out j h; exact HRi.out)
          clear KI HRi
          go_wp2_with fail
          go_roundw
          case rel => exact ⟨i + 1, by omega, by go_num, KI5, KB5⟩
          case measure => simp [intOf]; omega
    · obtain rfl : n1 = i := by omega
      have b1 : decide ((n1 : Int) < (n1 : Int)) = false := decide_eq_false (by omega)
      go_wp2_with fail
      clear c1'
      have hR0 : Hid (∀ j, j < 0 → okMS n1 f1 f2 j = true) := Lib.hid (by intro j hj; omega)
      go_loopw [5] (fun v80 wr => ∃ k : Nat, k ≤ n2 ∧ v80 = .int .i64 k ∧ Hid (∀ j, j < k → okMS n1 f1 f2 j = true) ∧ Hid (Below w1.heap.size w1 wr)) (fun v80 _ => n2 - (intOf v80).toNat)
      case atStart => exact ⟨0, by omega, rfl, hR0, KB⟩
      case round =>
        obtain ⟨i, hi, rfl, KM, KB'⟩ := hrel
        clear hR0 KB HK BK1
        have BK1 := Lib.hid (BK.out.keep KB'.out)
        have HK := Lib.hid (H.out.keep KB'.out)
        have c2' := (BK1.out.cell 2).trans rfl
        by_cases h5 : i < n2
        · have b1 : decide ((i : Int) < (n2 : Int)) = true := decide_eq_true (by omega)
          obtain ⟨g, off, rfl, hg, hx⟩ := HK.out.m.at (by omega)
          have x0 := hx i 0 h5 (by omega)
          have x1 := hx i 1 h5 (by omega)
          have x2 := hx i 2 h5 (by omega)
          have x3 := hx i 3 h5 (by omega)
          rw [Nat.add_zero] at x0
          have hpv := hx (i - 1) 0 (by omega) (by omega)
          rw [Nat.add_zero] at hpv
          obtain ⟨r, hr⟩ : ∃ r, okMS n1 f1 f2 i = r := ⟨_, rfl⟩
          have HRi := Lib.hid hr
          unfold okMS at hr
          generalize f2 i 0 = id at *
          generalize f2 i 1 = up at *
          generalize f2 i 2 = cp at *
          generalize f2 i 3 = wt at *
          generalize f2 (i - 1) 0 = pv at *
          clear hx
          go_upto_region 13 with fail
          have hal := (Below.refl wr.heap.size wr).alloc (Nat.le_refl _) (.cells #[.int .i64 id, .int .i64 up, .int .i64 cp, .int .i64 wt] 91)
          have Q7 := Lib.hid (Blk.new (w := wr) (B := 0) (Nat.zero_le _) #[.int .i64 id, .int .i64 up, .int .i64 cp, .int .i64 wt] 91)
          have QB := Lib.hid (BK1.out.keep hal)
          have QT := Lib.hid (HK.out.g.keep hal)
          have QP := Lib.hid ((hal.cell (p := ⟨g, off + (i - 1) * 4, none⟩) hg).trans hpv)
          have QL := Lib.hid (Nat.lt_of_lt_of_le hg hal.size)
          have QW := Lib.hid (btrans KB'.out hal)
          clear hal x0 x1 x2 x3 hpv
          generalize hb7 : wr.heap.size = b7 at *
          generalize wr.alloc (.cells #[.int .i64 id, .int .i64 up, .int .i64 cp, .int .i64 wt] 91) = w2 at *
          have T1 : Hid (∀ w', Below w2.heap.size w2 w' → w'.cell? ⟨b7, 0, none⟩ = some (.int .i64 id) ∧ w'.cell? ⟨b7, 1, none⟩ = some (.int .i64 up) ∧ w'.cell? ⟨b7, 2, none⟩ = some (.int .i64 cp) ∧ w'.cell? ⟨b7, 3, none⟩ = some (.int .i64 wt) ∧ w'.cell? ⟨b, 0, none⟩ = some (.int .i64 cap) ∧ w'.cell? ⟨b, 1, none⟩ = some (.slice A1 n1 c1) ∧ w'.cell? ⟨b, 2, none⟩ = some (.slice (some ⟨g, off, none⟩) n2 c2) ∧ w'.cell? ⟨g, off + (i - 1) * 4, none⟩ = some (.int .i64 pv) ∧ Below w2.heap.size w2 w') := Lib.hid fun w' hb => ⟨((Q7.out.keep hb).cell 0).trans rfl, ((Q7.out.keep hb).cell 1).trans rfl, ((Q7.out.keep hb).cell 2).trans rfl, ((Q7.out.keep hb).cell 3).trans rfl, ((QB.out.keep hb).cell 0).trans rfl, ((QB.out.keep hb).cell 1).trans rfl, ((QB.out.keep hb).cell 2).trans rfl, (hb.cell (p := ⟨g, off + (i - 1) * 4, none⟩) QL.out).trans QP.out, hb⟩
          clear c2' hb7
          go_cut [141] (fun v123 wc => ∃ wx : World, wx = wc ∧ v123 = .bool (!r) ∧ Below w2.heap.size w2 wx)
          case first =>
            have HL := Lib.hid fun (w' : World) (hb : Below w2.heap.size w2 w') => s_l05Group cap A1 (some ⟨g, off, none⟩) n1 c1 n2 c2 f1 up w' (QT.out.keep hb) (by omega)
            have HLN := Lib.hid (grpIdx_has f1 up n1)
            generalize grpIdx f1 up 0 n1 = gi at *
            have t0 : ∀ p : BehW w2, p.w.cell? ⟨b7, 0, none⟩ = some (.int .i64 id) := fun p => (T1.out p.w p.h).1
            have t1 : ∀ p : BehW w2, p.w.cell? ⟨b7, 1, none⟩ = some (.int .i64 up) := fun p => (T1.out p.w p.h).2.1
            have t2 : ∀ p : BehW w2, p.w.cell? ⟨b7, 2, none⟩ = some (.int .i64 cp) := fun p => (T1.out p.w p.h).2.2.1
            have t3 : ∀ p : BehW w2, p.w.cell? ⟨b7, 3, none⟩ = some (.int .i64 wt) := fun p => (T1.out p.w p.h).2.2.2.1
            have t4 : ∀ p : BehW w2, p.w.cell? ⟨b, 0, none⟩ = some (.int .i64 cap) := fun p => (T1.out p.w p.h).2.2.2.2.1
            have t5 : ∀ p : BehW w2, p.w.cell? ⟨b, 1, none⟩ = some (.slice A1 n1 c1) := fun p => (T1.out p.w p.h).2.2.2.2.2.1
            have t6 : ∀ p : BehW w2, p.w.cell? ⟨b, 2, none⟩ = some (.slice (some ⟨g, off, none⟩) n2 c2) := fun p => (T1.out p.w p.h).2.2.2.2.2.2.1
            have t7 : ∀ p : BehW w2, p.w.cell? ⟨g, off + (i - 1) * 4, none⟩ = some (.int .i64 pv) := fun p => (T1.out p.w p.h).2.2.2.2.2.2.2.1
            clear HRi
            rcases he1 : bIn id 1 1000000 with _ | _
            · rw [he1] at hr; subst hr
              refine wp_region_beh (by kernel_rfl) (by kernel_rfl) ?_
              repeat (go_big_quiet_step ((first | (go_at_call 93; exact beh_same (s_id_k he1 _)) | (go_at_call 92; exact beh_same (s_want_k he4 _)) | (go_at_call 94; exact beh_same (s_weight_k he5 _)) | (go_at_call 76; exact beh_below (HL.out _ (BehW.h _))) | fail)))
              refine wpQuiet_nil ?_
              intro _ hw'
              obtain ⟨qb, hw''⟩ := hw'
              subst hw''
              go_wp2_with fail
              go_meet
              exact ⟨_, rfl, rfl, qb.h⟩
            rcases he2 : (i == 0 || decide (pv < id)) with _ | _
            · have hi0 : 0 < i := Nat.pos_of_ne_zero (fun h => by rw [h] at he2; cases he2)
              have b3 : decide ((i : Int) > 0) = true := decide_eq_true (by omega)
              have b4 : decide (id ≤ pv) = true := by simp at he2; exact decide_eq_true (by omega)
              rw [he1, he2] at hr; subst hr
              clear he2
              refine wp_region_beh (by kernel_rfl) (by kernel_rfl) ?_
              repeat (go_big_quiet_step ((first | (go_at_call 93; exact beh_same (s_id_k he1 _)) | (go_at_call 92; exact beh_same (s_want_k he4 _)) | (go_at_call 94; exact beh_same (s_weight_k he5 _)) | (go_at_call 76; exact beh_below (HL.out _ (BehW.h _))) | fail)))
              refine wpQuiet_nil ?_
              intro _ hw'
              obtain ⟨qb, hw''⟩ := hw'
              subst hw''
              go_wp2_with fail
              go_meet
              exact ⟨_, rfl, rfl, qb.h⟩
            rcases hpos : decide (0 < i) with _ | _
            · have hi0 : ¬ 0 < i := of_decide_eq_false hpos
              by_cases hup : up = 0
              · have bu : (up != 0) = false := by simp [hup]
                have hg3 : (up == 0 || hasId n1 f1 up) = true := by simp [hup]
                rcases he4 : bIn cp 0 1125899906842624 with _ | _
                · rw [he1, he2, he4] at hr; simp only [hg3] at hr; have hr : false = r := by simpa using hr
                  subst hr; clear he2 hg3
                  refine wp_region_beh (by kernel_rfl) (by kernel_rfl) ?_
                  repeat (go_big_quiet_step ((first | (go_at_call 93; exact beh_same (s_id_k he1 _)) | (go_at_call 92; exact beh_same (s_want_k he4 _)) | (go_at_call 94; exact beh_same (s_weight_k he5 _)) | (go_at_call 76; exact beh_below (HL.out _ (BehW.h _))) | fail)))
                  refine wpQuiet_nil ?_
                  intro _ hw'
                  obtain ⟨qb, hw''⟩ := hw'
                  subst hw''
                  go_wp2_with fail
                  go_meet
                  exact ⟨_, rfl, rfl, qb.h⟩
                rcases he5 : bIn wt 1 1073741824 with _ | _
                · rw [he1, he2, he4, he5] at hr; simp only [hg3] at hr; have hr : false = r := by simpa using hr
                  subst hr; clear he2 hg3
                  refine wp_region_beh (by kernel_rfl) (by kernel_rfl) ?_
                  repeat (go_big_quiet_step ((first | (go_at_call 93; exact beh_same (s_id_k he1 _)) | (go_at_call 92; exact beh_same (s_want_k he4 _)) | (go_at_call 94; exact beh_same (s_weight_k he5 _)) | (go_at_call 76; exact beh_below (HL.out _ (BehW.h _))) | fail)))
                  refine wpQuiet_nil ?_
                  intro _ hw'
                  obtain ⟨qb, hw''⟩ := hw'
                  subst hw''
                  go_wp2_with fail
                  go_meet
                  exact ⟨_, rfl, rfl, qb.h⟩
                · rw [he1, he2, he4, he5] at hr; simp only [hg3] at hr; have hr : true = r := by simpa using hr
                  subst hr; clear he2 hg3
                  refine wp_region_beh (by kernel_rfl) (by kernel_rfl) ?_
                  repeat (go_big_quiet_step ((first | (go_at_call 93; exact beh_same (s_id_k he1 _)) | (go_at_call 92; exact beh_same (s_want_k he4 _)) | (go_at_call 94; exact beh_same (s_weight_k he5 _)) | (go_at_call 76; exact beh_below (HL.out _ (BehW.h _))) | fail)))
                  refine wpQuiet_nil ?_
                  intro _ hw'
                  obtain ⟨qb, hw''⟩ := hw'
                  subst hw''
                  go_wp2_with fail
                  go_meet
                  exact ⟨_, rfl, rfl, qb.h⟩
              have bu : (up != 0) = true := by simpa using hup
              have bu2 : (up == 0) = false := by simpa using hup
              rcases hh : hasId n1 f1 up with _ | _
              · have hneg := HLN.out; rw [hh] at hneg; have hneg : decide (gi < 0) = true := hneg
                rw [he1, he2, bu2, hh] at hr; have hr : false = r := by simpa using hr
                subst hr; clear he2 hh
                refine wp_region_beh (by kernel_rfl) (by kernel_rfl) ?_
                repeat (go_big_quiet_step ((first | (go_at_call 93; exact beh_same (s_id_k he1 _)) | (go_at_call 92; exact beh_same (s_want_k he4 _)) | (go_at_call 94; exact beh_same (s_weight_k he5 _)) | (go_at_call 76; exact beh_below (HL.out _ (BehW.h _))) | fail)))
                refine wpQuiet_nil ?_
                intro _ hw'
                obtain ⟨qb, hw''⟩ := hw'
                subst hw''
                go_wp2_with fail
                go_meet
                exact ⟨_, rfl, rfl, qb.h⟩
              have hneg := HLN.out; rw [hh] at hneg; have hneg : decide (gi < 0) = false := hneg
              have hg3 : (up == 0 || hasId n1 f1 up) = true := by rw [bu2, hh]; rfl
              clear hh
              rcases he4 : bIn cp 0 1125899906842624 with _ | _
              · rw [he1, he2, he4] at hr; simp only [hg3] at hr; have hr : false = r := by simpa using hr
                subst hr; clear he2 hg3
                refine wp_region_beh (by kernel_rfl) (by kernel_rfl) ?_
                repeat (go_big_quiet_step ((first | (go_at_call 93; exact beh_same (s_id_k he1 _)) | (go_at_call 92; exact beh_same (s_want_k he4 _)) | (go_at_call 94; exact beh_same (s_weight_k he5 _)) | (go_at_call 76; exact beh_below (HL.out _ (BehW.h _))) | fail)))
                refine wpQuiet_nil ?_
                intro _ hw'
                obtain ⟨qb, hw''⟩ := hw'
                subst hw''
                go_wp2_with fail
                go_meet
                exact ⟨_, rfl, rfl, qb.h⟩
              rcases he5 : bIn wt 1 1073741824 with _ | _
              · rw [he1, he2, he4, he5] at hr; simp only [hg3] at hr; have hr : false = r := by simpa using hr
                subst hr; clear he2 hg3
                refine wp_region_beh (by kernel_rfl) (by kernel_rfl) ?_
                repeat (go_big_quiet_step ((first | (go_at_call 93; exact beh_same (s_id_k he1 _)) | (go_at_call 92; exact beh_same (s_want_k he4 _)) | (go_at_call 94; exact beh_same (s_weight_k he5 _)) | (go_at_call 76; exact beh_below (HL.out _ (BehW.h _))) | fail)))
                refine wpQuiet_nil ?_
                intro _ hw'
                obtain ⟨qb, hw''⟩ := hw'
                subst hw''
                go_wp2_with fail
                go_meet
                exact ⟨_, rfl, rfl, qb.h⟩
              · rw [he1, he2, he4, he5] at hr; simp only [hg3] at hr; have hr : true = r := by simpa using hr
                subst hr; clear he2 hg3
                refine wp_region_beh (by kernel_rfl) (by kernel_rfl) ?_
                repeat (go_big_quiet_step ((first | (go_at_call 93; exact beh_same (s_id_k he1 _)) | (go_at_call 92; exact beh_same (s_want_k he4 _)) | (go_at_call 94; exact beh_same (s_weight_k he5 _)) | (go_at_call 76; exact beh_below (HL.out _ (BehW.h _))) | fail)))
                refine wpQuiet_nil ?_
                intro _ hw'
                obtain ⟨qb, hw''⟩ := hw'
                subst hw''
                go_wp2_with fail
                go_meet
                exact ⟨_, rfl, rfl, qb.h⟩
            · have hi0 : 0 < i := of_decide_eq_true hpos
              have b4 : decide (id ≤ pv) = false := by have h1 : (i == 0) = false := beq_eq_false_iff_ne.2 (by omega); rw [h1, Bool.false_or] at he2; exact decide_eq_false (by have := of_decide_eq_true he2; omega)
              by_cases hup : up = 0
              · have bu : (up != 0) = false := by simp [hup]
                have hg3 : (up == 0 || hasId n1 f1 up) = true := by simp [hup]
                rcases he4 : bIn cp 0 1125899906842624 with _ | _
                · rw [he1, he2, he4] at hr; simp only [hg3] at hr; have hr : false = r := by simpa using hr
                  subst hr; clear he2 hg3
                  refine wp_region_beh (by kernel_rfl) (by kernel_rfl) ?_
                  repeat (go_big_quiet_step ((first | (go_at_call 93; exact beh_same (s_id_k he1 _)) | (go_at_call 92; exact beh_same (s_want_k he4 _)) | (go_at_call 94; exact beh_same (s_weight_k he5 _)) | (go_at_call 76; exact beh_below (HL.out _ (BehW.h _))) | fail)))
                  refine wpQuiet_nil ?_
                  intro _ hw'
                  obtain ⟨qb, hw''⟩ := hw'
                  subst hw''
                  go_wp2_with fail
                  go_meet
                  exact ⟨_, rfl, rfl, qb.h⟩
                rcases he5 : bIn wt 1 1073741824 with _ | _
                · rw [he1, he2, he4, he5] at hr; simp only [hg3] at hr; have hr : false = r := by simpa using hr
                  subst hr; clear he2 hg3
                  refine wp_region_beh (by kernel_rfl) (by kernel_rfl) ?_
                  repeat (go_big_quiet_step ((first | (go_at_call 93; exact beh_same (s_id_k he1 _)) | (go_at_call 92; exact beh_same (s_want_k he4 _)) | (go_at_call 94; exact beh_same (s_weight_k he5 _)) | (go_at_call 76; exact beh_below (HL.out _ (BehW.h _))) | fail)))
                  refine wpQuiet_nil ?_
                  intro _ hw'
                  obtain ⟨qb, hw''⟩ := hw'
                  subst hw''
                  go_wp2_with fail
                  go_meet
                  exact ⟨_, rfl, rfl, qb.h⟩
                · rw [he1, he2, he4, he5] at hr; simp only [hg3] at hr; have hr : true = r := by simpa using hr
                  subst hr; clear he2 hg3
                  refine wp_region_beh (by kernel_rfl) (by kernel_rfl) ?_
                  repeat (go_big_quiet_step ((first | (go_at_call 93; exact beh_same (s_id_k he1 _)) | (go_at_call 92; exact beh_same (s_want_k he4 _)) | (go_at_call 94; exact beh_same (s_weight_k he5 _)) | (go_at_call 76; exact beh_below (HL.out _ (BehW.h _))) | fail)))
                  refine wpQuiet_nil ?_
                  intro _ hw'
                  obtain ⟨qb, hw''⟩ := hw'
                  subst hw''
                  go_wp2_with fail
                  go_meet
                  exact ⟨_, rfl, rfl, qb.h⟩
              have bu : (up != 0) = true := by simpa using hup
              have bu2 : (up == 0) = false := by simpa using hup
              rcases hh : hasId n1 f1 up with _ | _
              · have hneg := HLN.out; rw [hh] at hneg; have hneg : decide (gi < 0) = true := hneg
                rw [he1, he2, bu2, hh] at hr; have hr : false = r := by simpa using hr
                subst hr; clear he2 hh
                refine wp_region_beh (by kernel_rfl) (by kernel_rfl) ?_
                repeat (go_big_quiet_step ((first | (go_at_call 93; exact beh_same (s_id_k he1 _)) | (go_at_call 92; exact beh_same (s_want_k he4 _)) | (go_at_call 94; exact beh_same (s_weight_k he5 _)) | (go_at_call 76; exact beh_below (HL.out _ (BehW.h _))) | fail)))
                refine wpQuiet_nil ?_
                intro _ hw'
                obtain ⟨qb, hw''⟩ := hw'
                subst hw''
                go_wp2_with fail
                go_meet
                exact ⟨_, rfl, rfl, qb.h⟩
              have hneg := HLN.out; rw [hh] at hneg; have hneg : decide (gi < 0) = false := hneg
              have hg3 : (up == 0 || hasId n1 f1 up) = true := by rw [bu2, hh]; rfl
              clear hh
              rcases he4 : bIn cp 0 1125899906842624 with _ | _
              · rw [he1, he2, he4] at hr; simp only [hg3] at hr; have hr : false = r := by simpa using hr
                subst hr; clear he2 hg3
                refine wp_region_beh (by kernel_rfl) (by kernel_rfl) ?_
                repeat (go_big_quiet_step ((first | (go_at_call 93; exact beh_same (s_id_k he1 _)) | (go_at_call 92; exact beh_same (s_want_k he4 _)) | (go_at_call 94; exact beh_same (s_weight_k he5 _)) | (go_at_call 76; exact beh_below (HL.out _ (BehW.h _))) | fail)))
                refine wpQuiet_nil ?_
                intro _ hw'
                obtain ⟨qb, hw''⟩ := hw'
                subst hw''
                go_wp2_with fail
                go_meet
                exact ⟨_, rfl, rfl, qb.h⟩
              rcases he5 : bIn wt 1 1073741824 with _ | _
              · rw [he1, he2, he4, he5] at hr; simp only [hg3] at hr; have hr : false = r := by simpa using hr
                subst hr; clear he2 hg3
                refine wp_region_beh (by kernel_rfl) (by kernel_rfl) ?_
                repeat (go_big_quiet_step ((first | (go_at_call 93; exact beh_same (s_id_k he1 _)) | (go_at_call 92; exact beh_same (s_want_k he4 _)) | (go_at_call 94; exact beh_same (s_weight_k he5 _)) | (go_at_call 76; exact beh_below (HL.out _ (BehW.h _))) | fail)))
                refine wpQuiet_nil ?_
                intro _ hw'
                obtain ⟨qb, hw''⟩ := hw'
                subst hw''
                go_wp2_with fail
                go_meet
                exact ⟨_, rfl, rfl, qb.h⟩
              · rw [he1, he2, he4, he5] at hr; simp only [hg3] at hr; have hr : true = r := by simpa using hr
                subst hr; clear he2 hg3
                refine wp_region_beh (by kernel_rfl) (by kernel_rfl) ?_
                repeat (go_big_quiet_step ((first | (go_at_call 93; exact beh_same (s_id_k he1 _)) | (go_at_call 92; exact beh_same (s_want_k he4 _)) | (go_at_call 94; exact beh_same (s_weight_k he5 _)) | (go_at_call 76; exact beh_below (HL.out _ (BehW.h _))) | fail)))
                refine wpQuiet_nil ?_
                intro _ hw'
                obtain ⟨qb, hw''⟩ := hw'
                subst hw''
                go_wp2_with fail
                go_meet
                exact ⟨_, rfl, rfl, qb.h⟩
          case rest =>
            obtain ⟨wx, rfl, rfl, hbx⟩ := hcut
            have KB5 := Lib.hid (btrans QW.out hbx)
            clear hr Q7 QB QT QP QL QW T1 hbx
            rename_i hKK
            refine hKK _ _ ?_
            clear hKK
            cases r with
            | false =>
              go_wp2_with fail
              go_ret
              exact ⟨ret_bool (farm_noM h5 (by rw [← okMS_eq]; exact HRi.out)).symm, HB.out.trans (KB5.out.mono HZ.out)⟩
            | true =>
              have KM5 : Hid (∀ j, j < i + 1 → okMS n1 f1 f2 j = true) := Lib.hid (by intro j hj; rcases Nat.lt_succ_iff_lt_or_eq.1 hj with h | rfl; exact KM.out j h; exact HRi.out)
              clear KM HRi
              go_wp2_with fail
              go_roundw
              case rel => exact ⟨i + 1, by omega, by go_num, KM5, KB5⟩
              case measure => simp [intOf]; omega
        · obtain rfl : n2 = i := by omega
          have b1 : decide ((n2 : Int) < (n2 : Int)) = false := decide_eq_false (by omega)
          go_wp2_with fail
          go_ret
          exact ⟨ret_bool (farmS_yes he hl1 hl2 KI.out KM.out).symm, HB.out.trans (KB'.out.mono HZ.out)⟩
end Go.Proofs.Ytipkbapnhgdpeaa.C
