/- ServerRight of both. No condition. -/
import Derived.Test.YtipkbapnhgdpeaaFarmS
import Derived.Test.YtipkbapnhgdpeaaLeaR
import Derived.Test.YtipkbapnhgdpeaaSrvC
namespace Go.Proofs.Ytipkbapnhgdpeaa.C
open Go.RowKit
set_option maxRecDepth 100000
set_option linter.unusedVariables false
set_option linter.unusedSimpArgs false
attribute [local go_sem ↓] Go.wp_at_zero Go.wp_at_succ
/-- Is the lease at place i the one of the member there, and does it end in time? -/
def okS (len clock : Int) (m l : Nat → Nat → Int) (i : Nat) : Bool := l i 0 == m i 0 && bIn (l i 2) (clock + 1) (clock + len)
/-- Is a server right? -/
def srvB (len born clock cap : Int) (n1 : Nat) (f1 : Nat → Nat → Int) (n2 : Nat) (f2 : Nat → Nat → Int) (n3 : Nat) (f3 : Nat → Nat → Int) : Bool :=
  bIn len 1 1000 && (bIn clock 0 999000 && (bIn born 0 clock && (farmB cap n1 f1 n2 f2 && (leasesB n3 f3 && (decide (n3 = n2) && (List.range n3).all (okS len clock f2 f3))))))
theorem srv_no {len born clock cap : Int} {n1 n2 n3 i : Nat} {f1 f2 f3 : Nat → Nat → Int} (hi : i < n3) (h : okS len clock f2 f3 i = false) : srvB len born clock cap n1 f1 n2 f2 n3 f3 = false := by
  have : (List.range n3).all (okS len clock f2 f3) = false := List.all_eq_false.2 ⟨i, List.mem_range.2 hi, by rw [h]; decide⟩
  simp [srvB, this]
theorem srv_yes {len born clock cap : Int} {n1 n2 n3 : Nat} {f1 f2 f3 : Nat → Nat → Int} (h1 : bIn len 1 1000 = true) (h2 : bIn clock 0 999000 = true) (h3 : bIn born 0 clock = true) (h4 : farmB cap n1 f1 n2 f2 = true) (h5 : leasesB n3 f3 = true) (h6 : n3 = n2) (h : ∀ j, j < n3 → okS len clock f2 f3 j = true) : srvB len born clock cap n1 f1 n2 f2 n3 f3 = true := by
  have e : (List.range n3).all (okS len clock f2 f3) = true := List.all_eq_true.2 fun j hj => h j (List.mem_range.1 hj)
  unfold srvB
  rw [h1, h2, h3, h4, h5, e, h6, decide_eq_true rfl]
  rfl
theorem s_l10Length (a : Int) (w : World) : Calls Try.prog 51 #[.int .i64 a] w fun e w' => e = .returned (.bool (bIn a 1 1000)) ∧ w = w' := by
  by_cases h : 1 ≤ a
  · have e1 := Lib.hid (bIn_hi (c := 1000) h)
    have b1 : decide (a ≥ 1) = true := decide_eq_true h
    go_enter Try.func51, Try.ntmps51
    go_wp2
    go_ret
    exact ⟨ret_bool e1.out.symm, rfl⟩
  · have e1 := Lib.hid (bIn_lo (c := 1000) h)
    have b1 : decide (a ≥ 1) = false := decide_eq_false h
    go_enter Try.func51, Try.ntmps51
    go_wp2
    go_ret
    exact ⟨ret_bool e1.out.symm, rfl⟩
theorem s_len_v {a : Int} {b : Bool} (h : bIn a 1 1000 = b) (w : World) : Calls Try.prog 51 #[.int .i64 a] w fun e w' => e = .returned (.bool b) ∧ w = w' := h ▸ s_l10Length a w
theorem c_in_k {a b c : Int} {r : Bool} (h : bIn a b c = r) (w : World) : Calls Try.prog 54 #[.int .i64 a, .int .i64 b, .int .i64 c] w fun e w' => e = .returned (.bool r) ∧ w = w' := h ▸ c_in a b c w
set_option maxHeartbeats 8000000 in
theorem c_ServerRight (len born clock cap : Int) (A1 A2 A3 : Option Addr) (n1 c1 n2 c2 n3 c3 : Nat) (f1 f2 f3 : Nat → Nat → Int) (w : World) (h : SrvAt w A1 n1 f1 A2 n2 f2 A3 n3 f3) (hc1 : n1 ≤ c1) (hn3 : n3 ≤ 2000000) :
    Calls Try.prog 15 #[.agg #[.int .i64 len, .int .i64 born, .int .i64 clock, .int .i64 cap, .slice A1 n1 c1, .slice A2 n2 c2, .slice A3 n3 c3]] w fun e w' => e = .returned (.bool (srvB len born clock cap n1 f1 n2 f2 n3 f3)) ∧ Below w.heap.size w w' := by
  have hb := (Below.refl _ w).alloc (Nat.le_refl _) (.cells #[.int .i64 len, .int .i64 born, .int .i64 clock, .int .i64 cap, .slice A1 n1 c1, .slice A2 n2 c2, .slice A3 n3 c3] 37)
  have BK := Lib.hid (Blk.new (w := w) (B := 0) (Nat.zero_le _) #[.int .i64 len, .int .i64 born, .int .i64 clock, .int .i64 cap, .slice A1 n1 c1, .slice A2 n2 c2, .slice A3 n3 c3] 37)
  have H := Lib.hid (h.keep hb)
  have HB := Lib.hid hb
  have hz : w.heap.size ≤ (w.alloc (.cells #[.int .i64 len, .int .i64 born, .int .i64 clock, .int .i64 cap, .slice A1 n1 c1, .slice A2 n2 c2, .slice A3 n3 c3] 37)).heap.size := hb.size
  have HZ := Lib.hid hz
  clear h hb hz
  go_enter Try.func15, Try.ntmps15
  go_upto_region 1 with fail
  generalize w.alloc (.cells #[.int .i64 len, .int .i64 born, .int .i64 clock, .int .i64 cap, .slice A1 n1 c1, .slice A2 n2 c2, .slice A3 n3 c3] 37) = w1 at *
  obtain ⟨b, hbb⟩ : ∃ b, w.heap.size = b := ⟨_, rfl⟩
  rw [hbb] at BK ⊢
  have T1 : Hid (∀ w', Below w1.heap.size w1 w' → w'.cell? ⟨b, 0, none⟩ = some (.int .i64 len) ∧ w'.cell? ⟨b, 1, none⟩ = some (.int .i64 born) ∧ w'.cell? ⟨b, 2, none⟩ = some (.int .i64 clock) ∧ w'.cell? ⟨b, 3, none⟩ = some (.int .i64 cap) ∧ w'.cell? ⟨b, 4, none⟩ = some (.slice A1 n1 c1) ∧ w'.cell? ⟨b, 5, none⟩ = some (.slice A2 n2 c2) ∧ w'.cell? ⟨b, 6, none⟩ = some (.slice A3 n3 c3)) := Lib.hid fun w' hb => ⟨((BK.out.keep hb).cell 0).trans rfl, ((BK.out.keep hb).cell 1).trans rfl, ((BK.out.keep hb).cell 2).trans rfl, ((BK.out.keep hb).cell 3).trans rfl, ((BK.out.keep hb).cell 4).trans rfl, ((BK.out.keep hb).cell 5).trans rfl, ((BK.out.keep hb).cell 6).trans rfl⟩
  obtain ⟨z0, z1, z2, z3, z4, z5, z6⟩ := T1.out w1 (Below.refl _ _)
  have HF0 : ∀ r, farmB cap n1 f1 n2 f2 = r → Hid (∀ w', Below w1.heap.size w1 w' → Calls Try.prog 30 #[.agg #[.int .i64 cap, .slice A1 n1 c1, .slice A2 n2 c2]] w' fun e w'' => e = .returned (.bool r) ∧ Below w'.heap.size w' w'') := fun r hr => Lib.hid fun w' hb => hr ▸ c_FarmRight cap A1 A2 n1 c1 n2 c2 f1 f2 w' (H.out.f.keep hb) hc1
  have HL0 : ∀ r, leasesB n3 f3 = r → Hid (∀ w', Below w1.heap.size w1 w' → Calls Try.prog 55 #[.slice A3 n3 c3] w' fun e w'' => e = .returned (.bool r) ∧ Below w'.heap.size w' w'') := fun r hr => Lib.hid fun w' hb => hr ▸ c_LeasesRight A3 n3 c3 f3 w' (H.out.l.keep hb) hn3
  have HF := Lib.hid HF0
  have HL := Lib.hid HL0
  clear HF0 HL0
  rcases he1 : bIn len 1 1000 with _ | _
  · skip
    go_wp2_with ((first | (go_at_call 54; first | ((with_reducible refine (c_in_k he1 _).mono ?_); rintro e w' ⟨rfl, rfl⟩) | ((with_reducible refine (c_in_k he2 _).mono ?_); rintro e w' ⟨rfl, rfl⟩) | ((with_reducible refine (c_in_k he3 _).mono ?_); rintro e w' ⟨rfl, rfl⟩)) | (go_at_call 30; (with_reducible refine (HFR.out _ (Below.refl _ _)).mono ?_); rintro e w8 ⟨rfl, hb8⟩; obtain ⟨-, -, -, -, -, d5, d6⟩ := T1.out w8 hb8; have HB8 := Lib.hid hb8; clear hb8) | (go_at_call 55; (with_reducible refine (HLR.out _ HB8.out).mono ?_); rintro e w9 ⟨rfl, hb9⟩; have hB9 := btrans HB8.out hb9; obtain ⟨-, -, -, -, -, d5', d6'⟩ := T1.out w9 hB9; have HB9 := Lib.hid hB9; clear hb9 hB9) | fail))
    go_ret
    exact ⟨ret_bool (by simp [srvB, he1]), HB.out⟩
  rcases he2 : bIn clock 0 999000 with _ | _
  · skip
    go_wp2_with ((first | (go_at_call 54; first | ((with_reducible refine (c_in_k he1 _).mono ?_); rintro e w' ⟨rfl, rfl⟩) | ((with_reducible refine (c_in_k he2 _).mono ?_); rintro e w' ⟨rfl, rfl⟩) | ((with_reducible refine (c_in_k he3 _).mono ?_); rintro e w' ⟨rfl, rfl⟩)) | (go_at_call 30; (with_reducible refine (HFR.out _ (Below.refl _ _)).mono ?_); rintro e w8 ⟨rfl, hb8⟩; obtain ⟨-, -, -, -, -, d5, d6⟩ := T1.out w8 hb8; have HB8 := Lib.hid hb8; clear hb8) | (go_at_call 55; (with_reducible refine (HLR.out _ HB8.out).mono ?_); rintro e w9 ⟨rfl, hb9⟩; have hB9 := btrans HB8.out hb9; obtain ⟨-, -, -, -, -, d5', d6'⟩ := T1.out w9 hB9; have HB9 := Lib.hid hB9; clear hb9 hB9) | fail))
    go_ret
    exact ⟨ret_bool (by simp [srvB, he2]), HB.out⟩
  rcases he3 : bIn born 0 clock with _ | _
  · skip
    go_wp2_with ((first | (go_at_call 54; first | ((with_reducible refine (c_in_k he1 _).mono ?_); rintro e w' ⟨rfl, rfl⟩) | ((with_reducible refine (c_in_k he2 _).mono ?_); rintro e w' ⟨rfl, rfl⟩) | ((with_reducible refine (c_in_k he3 _).mono ?_); rintro e w' ⟨rfl, rfl⟩)) | (go_at_call 30; (with_reducible refine (HFR.out _ (Below.refl _ _)).mono ?_); rintro e w8 ⟨rfl, hb8⟩; obtain ⟨-, -, -, -, -, d5, d6⟩ := T1.out w8 hb8; have HB8 := Lib.hid hb8; clear hb8) | (go_at_call 55; (with_reducible refine (HLR.out _ HB8.out).mono ?_); rintro e w9 ⟨rfl, hb9⟩; have hB9 := btrans HB8.out hb9; obtain ⟨-, -, -, -, -, d5', d6'⟩ := T1.out w9 hB9; have HB9 := Lib.hid hB9; clear hb9 hB9) | fail))
    go_ret
    exact ⟨ret_bool (by simp [srvB, he3]), HB.out⟩
  have hlen := bIn_true.1 he1
  have hclk := bIn_true.1 he2
  rcases he4 : farmB cap n1 f1 n2 f2 with _ | _
  · have HFR := HF.out _ he4
    go_wp2_with ((first | (go_at_call 54; first | ((with_reducible refine (c_in_k he1 _).mono ?_); rintro e w' ⟨rfl, rfl⟩) | ((with_reducible refine (c_in_k he2 _).mono ?_); rintro e w' ⟨rfl, rfl⟩) | ((with_reducible refine (c_in_k he3 _).mono ?_); rintro e w' ⟨rfl, rfl⟩)) | (go_at_call 30; (with_reducible refine (HFR.out _ (Below.refl _ _)).mono ?_); rintro e w8 ⟨rfl, hb8⟩; obtain ⟨-, -, -, -, -, d5, d6⟩ := T1.out w8 hb8; have HB8 := Lib.hid hb8; clear hb8) | (go_at_call 55; (with_reducible refine (HLR.out _ HB8.out).mono ?_); rintro e w9 ⟨rfl, hb9⟩; have hB9 := btrans HB8.out hb9; obtain ⟨-, -, -, -, -, d5', d6'⟩ := T1.out w9 hB9; have HB9 := Lib.hid hB9; clear hb9 hB9) | fail))
    go_ret
    exact ⟨ret_bool (by simp [srvB, he4]), HB.out.trans (HB8.out.mono HZ.out)⟩
  have HFR := HF.out _ he4
  rcases he5 : leasesB n3 f3 with _ | _
  · have HLR := HL.out _ he5
    go_wp2_with ((first | (go_at_call 54; first | ((with_reducible refine (c_in_k he1 _).mono ?_); rintro e w' ⟨rfl, rfl⟩) | ((with_reducible refine (c_in_k he2 _).mono ?_); rintro e w' ⟨rfl, rfl⟩) | ((with_reducible refine (c_in_k he3 _).mono ?_); rintro e w' ⟨rfl, rfl⟩)) | (go_at_call 30; (with_reducible refine (HFR.out _ (Below.refl _ _)).mono ?_); rintro e w8 ⟨rfl, hb8⟩; obtain ⟨-, -, -, -, -, d5, d6⟩ := T1.out w8 hb8; have HB8 := Lib.hid hb8; clear hb8) | (go_at_call 55; (with_reducible refine (HLR.out _ HB8.out).mono ?_); rintro e w9 ⟨rfl, hb9⟩; have hB9 := btrans HB8.out hb9; obtain ⟨-, -, -, -, -, d5', d6'⟩ := T1.out w9 hB9; have HB9 := Lib.hid hB9; clear hb9 hB9) | fail))
    go_ret
    exact ⟨ret_bool (by simp [srvB, he5]), HB.out.trans (HB9.out.mono HZ.out)⟩
  have HLR := HL.out _ he5
  by_cases he6 : n3 = n2
  case neg =>
    have u6 : ((n3 : Int) != (n2 : Int)) = true := bne_iff_ne.2 (by omega)
    go_wp2_with ((first | (go_at_call 54; first | ((with_reducible refine (c_in_k he1 _).mono ?_); rintro e w' ⟨rfl, rfl⟩) | ((with_reducible refine (c_in_k he2 _).mono ?_); rintro e w' ⟨rfl, rfl⟩) | ((with_reducible refine (c_in_k he3 _).mono ?_); rintro e w' ⟨rfl, rfl⟩)) | (go_at_call 30; (with_reducible refine (HFR.out _ (Below.refl _ _)).mono ?_); rintro e w8 ⟨rfl, hb8⟩; obtain ⟨-, -, -, -, -, d5, d6⟩ := T1.out w8 hb8; have HB8 := Lib.hid hb8; clear hb8) | (go_at_call 55; (with_reducible refine (HLR.out _ HB8.out).mono ?_); rintro e w9 ⟨rfl, hb9⟩; have hB9 := btrans HB8.out hb9; obtain ⟨-, -, -, -, -, d5', d6'⟩ := T1.out w9 hB9; have HB9 := Lib.hid hB9; clear hb9 hB9) | fail))
    go_ret
    exact ⟨ret_bool (by simp [srvB, he6]), HB.out.trans (HB9.out.mono HZ.out)⟩
  have u6 : ((n3 : Int) != (n2 : Int)) = false := by simp [he6]
  have HE6 := Lib.hid he6
  clear he6 hbb
  go_wp2_with ((first | (go_at_call 54; first | ((with_reducible refine (c_in_k he1 _).mono ?_); rintro e w' ⟨rfl, rfl⟩) | ((with_reducible refine (c_in_k he2 _).mono ?_); rintro e w' ⟨rfl, rfl⟩) | ((with_reducible refine (c_in_k he3 _).mono ?_); rintro e w' ⟨rfl, rfl⟩)) | (go_at_call 30; (with_reducible refine (HFR.out _ (Below.refl _ _)).mono ?_); rintro e w8 ⟨rfl, hb8⟩; obtain ⟨-, -, -, -, -, d5, d6⟩ := T1.out w8 hb8; have HB8 := Lib.hid hb8; clear hb8) | (go_at_call 55; (with_reducible refine (HLR.out _ HB8.out).mono ?_); rintro e w9 ⟨rfl, hb9⟩; have hB9 := btrans HB8.out hb9; obtain ⟨-, -, -, -, -, d5', d6'⟩ := T1.out w9 hB9; have HB9 := Lib.hid hB9; clear hb9 hB9) | fail))
  clear d5 d6 d5' d6' z0 z1 z2 z3 z4 z5 z6 HF HL HFR HLR
  go_loopw [48] (fun v48 wr => ∃ i : Nat, i ≤ n3 ∧ v48 = .int .i64 i ∧ Hid (∀ j, j < i → okS len clock f2 f3 j = true) ∧ Hid (Below w1.heap.size w1 wr)) (fun v48 _ => n3 - (intOf v48).toNat)
  case atStart => exact ⟨0, by omega, rfl, Lib.hid (by intro j hj; omega), HB9⟩
  case round =>
    obtain ⟨i, hi, rfl, KI, KB⟩ := hrel
    clear HB8 HB9
    obtain ⟨z0, z1, z2, z3, z4, z5, z6⟩ := T1.out wr KB.out
    by_cases h5 : i < n3
    · have b1 : decide ((i : Int) < (n3 : Int)) = true := decide_eq_true (by omega)
      have h6 : i < n2 := by have := HE6.out; omega
      obtain ⟨g, off, rfl, hg, hx⟩ := (H.out.l.keep KB.out).at (by omega)
      obtain ⟨g2, off2, rfl, hg2, hy⟩ := (H.out.f.m.keep KB.out).at (by omega)
      have x0 := hx i 0 h5 (by omega)
      have x1 := hx i 1 h5 (by omega)
      have x2 := hx i 2 h5 (by omega)
      have y0 := hy i 0 h6 (by omega)
      rw [Nat.add_zero] at x0 y0
      have w1' : IntKind.i64.wrap (clock + 1) = clock + 1 := by rw [IntKind.wrap_i64]; omega
      have w2' : IntKind.i64.wrap (clock + len) = clock + len := by rw [IntKind.wrap_i64]; omega
      obtain ⟨r, hr⟩ : ∃ r, okS len clock f2 f3 i = r := ⟨_, rfl⟩
      have HRi := Lib.hid hr
      unfold okS at hr
      generalize f3 i 0 = a0 at *
      generalize f3 i 1 = a1 at *
      generalize f3 i 2 = a2 at *
      generalize f2 i 0 = m0 at *
      clear hx hy
      go_upto_region 6 with fail
      have hal := (Below.refl wr.heap.size wr).alloc (Nat.le_refl _) (.cells #[.int .i64 a0, .int .i64 a1, .int .i64 a2] 89)
      have Q4 := Blk.new (w := wr) (B := 0) (Nat.zero_le _) #[.int .i64 a0, .int .i64 a1, .int .i64 a2] 89
      have t0 := (Q4.cell 0).trans rfl
      have t1 := (Q4.cell 1).trans rfl
      have t2 := (Q4.cell 2).trans rfl
      have t3 := (hal.cell (p := ⟨g2, off2 + i * 4, none⟩) hg2).trans y0
      have QW := Lib.hid (btrans KB.out hal)
      clear z0 z1 z2 z3 z4 z5 z6
      obtain ⟨z0, z1, z2, z3, z4, z5, z6⟩ := T1.out _ QW.out
      clear hal Q4 x0 x1 x2 y0
      generalize hb4 : wr.heap.size = b4 at *
      generalize wr.alloc (.cells #[.int .i64 a0, .int .i64 a1, .int .i64 a2] 89) = w2 at *
      clear hb4
      go_cut [76] (fun v76 wc => ∃ m : Nat, wc = w2.drewN m ∧ v76 = .bool (!r))
      case first =>
        clear HRi
        by_cases hne : a0 = m0
        · have bn : (a0 != m0) = false := by simp [hne]
          have bn2 : (a0 == m0) = true := by simp [hne]
          rcases hb2 : bIn a2 (clock + 1) (clock + len) with _ | _
          · rw [bn2, hb2] at hr; subst hr
            go_quiet (first | (go_at_call 54; first | exact quiet_left (c_in_k hb2 _) | exact quiet_add_left (c_in_k hb2 _)) | fail)
            go_wp2_with fail
            go_meet
            exact ⟨_, rfl, rfl⟩
          · rw [bn2, hb2] at hr; subst hr
            go_quiet (first | (go_at_call 54; first | exact quiet_left (c_in_k hb2 _) | exact quiet_add_left (c_in_k hb2 _)) | fail)
            go_wp2_with fail
            go_meet
            exact ⟨_, rfl, rfl⟩
        · have bn : (a0 != m0) = true := by simpa using hne
          have bn2 : (a0 == m0) = false := by simpa using hne
          rw [bn2] at hr; subst hr
          go_quiet (fail)
          go_wp2_with fail
          go_meet
          exact ⟨_, rfl, rfl⟩
      case rest =>
        obtain ⟨m, rfl, rfl⟩ := hcut
        have KB5 := Lib.hid (below_drewN QW.out m)
        rename_i hKK
        refine hKK _ _ ?_
        clear hKK
        cases r with
        | false =>
          go_wp2_with fail
          go_ret
          exact ⟨ret_bool (srv_no h5 HRi.out).symm, HB.out.trans (KB5.out.mono HZ.out)⟩
        | true =>
          have KI5 : Hid (∀ j, j < i + 1 → okS len clock f2 f3 j = true) := Lib.hid (by intro j hj; rcases Nat.lt_succ_iff_lt_or_eq.1 hj with h | rfl; exact KI.out j h; exact HRi.out)
          clear KI HRi
          go_wp2_with fail
          go_roundw
          case rel => exact ⟨i + 1, by omega, by go_num, KI5, KB5⟩
          case measure => simp [intOf]; omega
    · have hi' : i = n3 := by omega
      have b1 : decide ((i : Int) < (n3 : Int)) = false := decide_eq_false (by omega)
      have HI := Lib.hid hi'
      clear hi'
      go_wp2_with fail
      go_ret
      exact ⟨ret_bool (srv_yes he1 he2 he3 he4 he5 HE6.out (fun j hj => KI.out j (by rw [HI.out]; exact hj))).symm, HB.out.trans (KB.out.mono HZ.out)⟩
set_option maxHeartbeats 8000000 in
theorem s_ServerRight (len born clock cap : Int) (A1 A2 A3 : Option Addr) (n1 c1 n2 c2 n3 c3 : Nat) (f1 f2 f3 : Nat → Nat → Int) (w : World) (h : SrvAt w A1 n1 f1 A2 n2 f2 A3 n3 f3) (hc1 : n1 ≤ c1) (hn3 : n3 ≤ 2000000) :
    Calls Try.prog 13 #[.agg #[.int .i64 len, .int .i64 born, .int .i64 clock, .int .i64 cap, .slice A1 n1 c1, .slice A2 n2 c2, .slice A3 n3 c3]] w fun e w' => e = .returned (.bool (srvB len born clock cap n1 f1 n2 f2 n3 f3)) ∧ Below w.heap.size w w' := by
  have hb := (Below.refl _ w).alloc (Nat.le_refl _) (.cells #[.int .i64 len, .int .i64 born, .int .i64 clock, .int .i64 cap, .slice A1 n1 c1, .slice A2 n2 c2, .slice A3 n3 c3] 37)
  have BK := Lib.hid (Blk.new (w := w) (B := 0) (Nat.zero_le _) #[.int .i64 len, .int .i64 born, .int .i64 clock, .int .i64 cap, .slice A1 n1 c1, .slice A2 n2 c2, .slice A3 n3 c3] 37)
  have H := Lib.hid (h.keep hb)
  have HB := Lib.hid hb
  have hz : w.heap.size ≤ (w.alloc (.cells #[.int .i64 len, .int .i64 born, .int .i64 clock, .int .i64 cap, .slice A1 n1 c1, .slice A2 n2 c2, .slice A3 n3 c3] 37)).heap.size := hb.size
  have HZ := Lib.hid hz
  clear h hb hz
  go_enter Try.func13, Try.ntmps13
  go_upto_region 1 with fail
  generalize w.alloc (.cells #[.int .i64 len, .int .i64 born, .int .i64 clock, .int .i64 cap, .slice A1 n1 c1, .slice A2 n2 c2, .slice A3 n3 c3] 37) = w1 at *
  obtain ⟨b, hbb⟩ : ∃ b, w.heap.size = b := ⟨_, rfl⟩
  rw [hbb] at BK ⊢
  have T1 : Hid (∀ w', Below w1.heap.size w1 w' → w'.cell? ⟨b, 0, none⟩ = some (.int .i64 len) ∧ w'.cell? ⟨b, 1, none⟩ = some (.int .i64 born) ∧ w'.cell? ⟨b, 2, none⟩ = some (.int .i64 clock) ∧ w'.cell? ⟨b, 3, none⟩ = some (.int .i64 cap) ∧ w'.cell? ⟨b, 4, none⟩ = some (.slice A1 n1 c1) ∧ w'.cell? ⟨b, 5, none⟩ = some (.slice A2 n2 c2) ∧ w'.cell? ⟨b, 6, none⟩ = some (.slice A3 n3 c3)) := Lib.hid fun w' hb => ⟨((BK.out.keep hb).cell 0).trans rfl, ((BK.out.keep hb).cell 1).trans rfl, ((BK.out.keep hb).cell 2).trans rfl, ((BK.out.keep hb).cell 3).trans rfl, ((BK.out.keep hb).cell 4).trans rfl, ((BK.out.keep hb).cell 5).trans rfl, ((BK.out.keep hb).cell 6).trans rfl⟩
  obtain ⟨z0, z1, z2, z3, z4, z5, z6⟩ := T1.out w1 (Below.refl _ _)
  have HF0 : ∀ r, farmB cap n1 f1 n2 f2 = r → Hid (∀ w', Below w1.heap.size w1 w' → Calls Try.prog 39 #[.agg #[.int .i64 cap, .slice A1 n1 c1, .slice A2 n2 c2]] w' fun e w'' => e = .returned (.bool r) ∧ Below w'.heap.size w' w'') := fun r hr => Lib.hid fun w' hb => hr ▸ s_FarmRight cap A1 A2 n1 c1 n2 c2 f1 f2 w' (H.out.f.keep hb) hc1
  have HL0 : ∀ r, leasesB n3 f3 = r → Hid (∀ w', Below w1.heap.size w1 w' → Calls Try.prog 52 #[.slice A3 n3 c3] w' fun e w'' => e = .returned (.bool r) ∧ Below w'.heap.size w' w'') := fun r hr => Lib.hid fun w' hb => hr ▸ s_LeasesRight A3 n3 c3 f3 w' (H.out.l.keep hb) hn3
  have HF := Lib.hid HF0
  have HL := Lib.hid HL0
  clear HF0 HL0
  rcases he1 : bIn len 1 1000 with _ | _
  · skip
    go_wp2_with ((first | (go_at_call 51; refine (s_len_v he1 _).mono ?_; rintro e w' ⟨rfl, rfl⟩) | (go_at_call 39; (with_reducible refine (HFR.out _ (Below.refl _ _)).mono ?_); rintro e w8 ⟨rfl, hb8⟩; obtain ⟨-, -, -, -, -, d5, d6⟩ := T1.out w8 hb8; have HB8 := Lib.hid hb8; clear hb8) | (go_at_call 52; (with_reducible refine (HLR.out _ HB8.out).mono ?_); rintro e w9 ⟨rfl, hb9⟩; have hB9 := btrans HB8.out hb9; obtain ⟨-, -, -, -, -, d5', d6'⟩ := T1.out w9 hB9; have HB9 := Lib.hid hB9; clear hb9 hB9) | fail))
    go_ret
    exact ⟨ret_bool (by simp [srvB, he1]), HB.out⟩
  by_cases hq1 : born < 0
  case pos =>
    have u1 : decide (born < 0) = true := decide_eq_true hq1
    have he3 : bIn born 0 clock = false := bIn_false.2 (by omega)
    clear hq1
    go_wp2_with ((first | (go_at_call 51; refine (s_len_v he1 _).mono ?_; rintro e w' ⟨rfl, rfl⟩) | (go_at_call 39; (with_reducible refine (HFR.out _ (Below.refl _ _)).mono ?_); rintro e w8 ⟨rfl, hb8⟩; obtain ⟨-, -, -, -, -, d5, d6⟩ := T1.out w8 hb8; have HB8 := Lib.hid hb8; clear hb8) | (go_at_call 52; (with_reducible refine (HLR.out _ HB8.out).mono ?_); rintro e w9 ⟨rfl, hb9⟩; have hB9 := btrans HB8.out hb9; obtain ⟨-, -, -, -, -, d5', d6'⟩ := T1.out w9 hB9; have HB9 := Lib.hid hB9; clear hb9 hB9) | fail))
    go_ret
    exact ⟨ret_bool (by simp [srvB, he3]), HB.out⟩
  have u1 : decide (born < 0) = false := decide_eq_false hq1
  by_cases hq2 : born > clock
  case pos =>
    have u2 : decide (born > clock) = true := decide_eq_true hq2
    have he3 : bIn born 0 clock = false := bIn_false.2 (by omega)
    clear hq2
    go_wp2_with ((first | (go_at_call 51; refine (s_len_v he1 _).mono ?_; rintro e w' ⟨rfl, rfl⟩) | (go_at_call 39; (with_reducible refine (HFR.out _ (Below.refl _ _)).mono ?_); rintro e w8 ⟨rfl, hb8⟩; obtain ⟨-, -, -, -, -, d5, d6⟩ := T1.out w8 hb8; have HB8 := Lib.hid hb8; clear hb8) | (go_at_call 52; (with_reducible refine (HLR.out _ HB8.out).mono ?_); rintro e w9 ⟨rfl, hb9⟩; have hB9 := btrans HB8.out hb9; obtain ⟨-, -, -, -, -, d5', d6'⟩ := T1.out w9 hB9; have HB9 := Lib.hid hB9; clear hb9 hB9) | fail))
    go_ret
    exact ⟨ret_bool (by simp [srvB, he3]), HB.out⟩
  have u2 : decide (born > clock) = false := decide_eq_false hq2
  have he3 : bIn born 0 clock = true := bIn_true.2 (by omega)
  by_cases hq3 : clock > 999000
  case pos =>
    have u3 : decide (clock > 999000) = true := decide_eq_true hq3
    have he2 : bIn clock 0 999000 = false := bIn_false.2 (by omega)
    clear hq3
    go_wp2_with ((first | (go_at_call 51; refine (s_len_v he1 _).mono ?_; rintro e w' ⟨rfl, rfl⟩) | (go_at_call 39; (with_reducible refine (HFR.out _ (Below.refl _ _)).mono ?_); rintro e w8 ⟨rfl, hb8⟩; obtain ⟨-, -, -, -, -, d5, d6⟩ := T1.out w8 hb8; have HB8 := Lib.hid hb8; clear hb8) | (go_at_call 52; (with_reducible refine (HLR.out _ HB8.out).mono ?_); rintro e w9 ⟨rfl, hb9⟩; have hB9 := btrans HB8.out hb9; obtain ⟨-, -, -, -, -, d5', d6'⟩ := T1.out w9 hB9; have HB9 := Lib.hid hB9; clear hb9 hB9) | fail))
    go_ret
    exact ⟨ret_bool (by simp [srvB, he2]), HB.out⟩
  have u3 : decide (clock > 999000) = false := decide_eq_false hq3
  have he2 : bIn clock 0 999000 = true := bIn_true.2 (by omega)
  have hlen := bIn_true.1 he1
  have hclk := bIn_true.1 he2
  rcases he4 : farmB cap n1 f1 n2 f2 with _ | _
  · have HFR := HF.out _ he4
    go_wp2_with ((first | (go_at_call 51; refine (s_len_v he1 _).mono ?_; rintro e w' ⟨rfl, rfl⟩) | (go_at_call 39; (with_reducible refine (HFR.out _ (Below.refl _ _)).mono ?_); rintro e w8 ⟨rfl, hb8⟩; obtain ⟨-, -, -, -, -, d5, d6⟩ := T1.out w8 hb8; have HB8 := Lib.hid hb8; clear hb8) | (go_at_call 52; (with_reducible refine (HLR.out _ HB8.out).mono ?_); rintro e w9 ⟨rfl, hb9⟩; have hB9 := btrans HB8.out hb9; obtain ⟨-, -, -, -, -, d5', d6'⟩ := T1.out w9 hB9; have HB9 := Lib.hid hB9; clear hb9 hB9) | fail))
    go_ret
    exact ⟨ret_bool (by simp [srvB, he4]), HB.out.trans (HB8.out.mono HZ.out)⟩
  have HFR := HF.out _ he4
  rcases he5 : leasesB n3 f3 with _ | _
  · have HLR := HL.out _ he5
    go_wp2_with ((first | (go_at_call 51; refine (s_len_v he1 _).mono ?_; rintro e w' ⟨rfl, rfl⟩) | (go_at_call 39; (with_reducible refine (HFR.out _ (Below.refl _ _)).mono ?_); rintro e w8 ⟨rfl, hb8⟩; obtain ⟨-, -, -, -, -, d5, d6⟩ := T1.out w8 hb8; have HB8 := Lib.hid hb8; clear hb8) | (go_at_call 52; (with_reducible refine (HLR.out _ HB8.out).mono ?_); rintro e w9 ⟨rfl, hb9⟩; have hB9 := btrans HB8.out hb9; obtain ⟨-, -, -, -, -, d5', d6'⟩ := T1.out w9 hB9; have HB9 := Lib.hid hB9; clear hb9 hB9) | fail))
    go_ret
    exact ⟨ret_bool (by simp [srvB, he5]), HB.out.trans (HB9.out.mono HZ.out)⟩
  have HLR := HL.out _ he5
  by_cases he6 : n3 = n2
  case neg =>
    have u6 : ((n3 : Int) != (n2 : Int)) = true := bne_iff_ne.2 (by omega)
    go_wp2_with ((first | (go_at_call 51; refine (s_len_v he1 _).mono ?_; rintro e w' ⟨rfl, rfl⟩) | (go_at_call 39; (with_reducible refine (HFR.out _ (Below.refl _ _)).mono ?_); rintro e w8 ⟨rfl, hb8⟩; obtain ⟨-, -, -, -, -, d5, d6⟩ := T1.out w8 hb8; have HB8 := Lib.hid hb8; clear hb8) | (go_at_call 52; (with_reducible refine (HLR.out _ HB8.out).mono ?_); rintro e w9 ⟨rfl, hb9⟩; have hB9 := btrans HB8.out hb9; obtain ⟨-, -, -, -, -, d5', d6'⟩ := T1.out w9 hB9; have HB9 := Lib.hid hB9; clear hb9 hB9) | fail))
    go_ret
    exact ⟨ret_bool (by simp [srvB, he6]), HB.out.trans (HB9.out.mono HZ.out)⟩
  have u6 : ((n3 : Int) != (n2 : Int)) = false := by simp [he6]
  have HE6 := Lib.hid he6
  clear he6 hbb
  go_wp2_with ((first | (go_at_call 51; refine (s_len_v he1 _).mono ?_; rintro e w' ⟨rfl, rfl⟩) | (go_at_call 39; (with_reducible refine (HFR.out _ (Below.refl _ _)).mono ?_); rintro e w8 ⟨rfl, hb8⟩; obtain ⟨-, -, -, -, -, d5, d6⟩ := T1.out w8 hb8; have HB8 := Lib.hid hb8; clear hb8) | (go_at_call 52; (with_reducible refine (HLR.out _ HB8.out).mono ?_); rintro e w9 ⟨rfl, hb9⟩; have hB9 := btrans HB8.out hb9; obtain ⟨-, -, -, -, -, d5', d6'⟩ := T1.out w9 hB9; have HB9 := Lib.hid hB9; clear hb9 hB9) | fail))
  clear d5 d6 d5' d6' z0 z1 z2 z3 z4 z5 z6 HF HL HFR HLR
  go_loopw [3] (fun v48 wr => ∃ i : Nat, i ≤ n3 ∧ v48 = .int .i64 i ∧ Hid (∀ j, j < i → okS len clock f2 f3 j = true) ∧ Hid (Below w1.heap.size w1 wr)) (fun v48 _ => n3 - (intOf v48).toNat)
  case atStart => exact ⟨0, by omega, rfl, Lib.hid (by intro j hj; omega), HB9⟩
  case round =>
    obtain ⟨i, hi, rfl, KI, KB⟩ := hrel
    clear HB8 HB9
    obtain ⟨z0, z1, z2, z3, z4, z5, z6⟩ := T1.out wr KB.out
    by_cases h5 : i < n3
    · have b1 : decide ((i : Int) < (n3 : Int)) = true := decide_eq_true (by omega)
      have h6 : i < n2 := by have := HE6.out; omega
      obtain ⟨g, off, rfl, hg, hx⟩ := (H.out.l.keep KB.out).at (by omega)
      obtain ⟨g2, off2, rfl, hg2, hy⟩ := (H.out.f.m.keep KB.out).at (by omega)
      have x0 := hx i 0 h5 (by omega)
      have x1 := hx i 1 h5 (by omega)
      have x2 := hx i 2 h5 (by omega)
      have y0 := hy i 0 h6 (by omega)
      rw [Nat.add_zero] at x0 y0
      have w1' : IntKind.i64.wrap (clock + 1) = clock + 1 := by rw [IntKind.wrap_i64]; omega
      have w2' : IntKind.i64.wrap (clock + len) = clock + len := by rw [IntKind.wrap_i64]; omega
      obtain ⟨r, hr⟩ : ∃ r, okS len clock f2 f3 i = r := ⟨_, rfl⟩
      have HRi := Lib.hid hr
      unfold okS at hr
      generalize f3 i 0 = a0 at *
      generalize f3 i 1 = a1 at *
      generalize f3 i 2 = a2 at *
      generalize f2 i 0 = m0 at *
      clear hx hy
      go_upto_region 6 with fail
      have QW := KB
      generalize hw2 : wr = w2 at *
      go_cut [92] (fun v92 wc => ∃ m : Nat, wc = w2.drewN m ∧ v92 = .bool (!r))
      case first =>
        clear HRi hw2
        by_cases hne : a0 = m0
        · have bn : (a0 != m0) = false := by simp [hne]
          have bn2 : (a0 == m0) = true := by simp [hne]
          by_cases hl : a2 ≤ clock
          · have v1 : decide (a2 ≤ clock) = true := decide_eq_true hl
            have hb2 : bIn a2 (clock + 1) (clock + len) = false := bIn_false.2 (by omega)
            rw [bn2, hb2] at hr; subst hr
            go_quiet (fail)
            go_wp2_with fail
            go_meet
            exact ⟨_, rfl, rfl⟩
          · have v1 : decide (a2 ≤ clock) = false := decide_eq_false hl
            by_cases hu : a2 > clock + len
            · have v2 : decide (a2 > clock + len) = true := decide_eq_true hu
              have hb2 : bIn a2 (clock + 1) (clock + len) = false := bIn_false.2 (by omega)
              rw [bn2, hb2] at hr; subst hr
              go_quiet (fail)
              go_wp2_with fail
              go_meet
              exact ⟨_, rfl, rfl⟩
            · have v2 : decide (a2 > clock + len) = false := decide_eq_false hu
              have hb2 : bIn a2 (clock + 1) (clock + len) = true := bIn_true.2 (by omega)
              rw [bn2, hb2] at hr; subst hr
              go_quiet (fail)
              go_wp2_with fail
              go_meet
              exact ⟨_, rfl, rfl⟩
        · have bn : (a0 != m0) = true := by simpa using hne
          have bn2 : (a0 == m0) = false := by simpa using hne
          rw [bn2] at hr; subst hr
          go_quiet (fail)
          go_wp2_with fail
          go_meet
          exact ⟨_, rfl, rfl⟩
      case rest =>
        obtain ⟨m, rfl, rfl⟩ := hcut
        have KB5 := Lib.hid (below_drewN QW.out m)
        rename_i hKK
        refine hKK _ _ ?_
        clear hKK
        cases r with
        | false =>
          go_wp2_with fail
          go_ret
          exact ⟨ret_bool (srv_no h5 HRi.out).symm, HB.out.trans (KB5.out.mono HZ.out)⟩
        | true =>
          have KI5 : Hid (∀ j, j < i + 1 → okS len clock f2 f3 j = true) := Lib.hid (by intro j hj; rcases Nat.lt_succ_iff_lt_or_eq.1 hj with h | rfl; exact KI.out j h; exact HRi.out)
          clear KI HRi
          go_wp2_with fail
          go_roundw
          case rel => exact ⟨i + 1, by omega, by go_num, KI5, KB5⟩
          case measure => simp [intOf]; omega
    · have hi' : i = n3 := by omega
      have b1 : decide ((i : Int) < (n3 : Int)) = false := decide_eq_false (by omega)
      have HI := Lib.hid hi'
      clear hi'
      go_wp2_with fail
      go_ret
      exact ⟨ret_bool (srv_yes he1 he2 he3 he4 he5 HE6.out (fun j hj => KI.out j (by rw [HI.out]; exact hj))).symm, HB.out.trans (KB.out.mono HZ.out)⟩
end Go.Proofs.Ytipkbapnhgdpeaa.C
