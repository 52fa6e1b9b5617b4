/- ServerFree of both. No condition. -/
import Derived.Test.YtipkbapnhgdpeaaSrvR
namespace Go.Proofs.Ytipkbapnhgdpeaa.C
open Go.RowKit
set_option maxRecDepth 100000
set_option linter.unusedVariables false
set_option linter.unusedSimpArgs false
attribute [local go_sem ↓] Go.wp_at_zero Go.wp_at_succ
/-- What the first n leases that run behind now, but who's, sum up to. -/
def leS (now who : Int) (l : Nat → Nat → Int) : Nat → Int
  | 0 => 0
  | n + 1 => leS now who l n + if decide (l n 2 > now) && (l n 0 != who) then l n 1 else 0
theorem leS_bound {now who : Int} {l : Nat → Nat → Int} {n : Nat} (h : ∀ j, j < n → okL l j = true) : 0 ≤ leS now who l n ∧ leS now who l n ≤ (n : Int) * 1125899906842624 := by
  induction n with
  | zero => exact ⟨Int.le_refl _, by simp [leS]⟩
  | succ n ih =>
    have hi := ih fun j hj => h j (by omega)
    have hn := h n (by omega)
    unfold okL leaB at hn
    simp only [Bool.and_eq_true] at hn
    have h1 := bIn_true.1 hn.1.2.1
    unfold leS
    have e : ((n + 1 : Nat) : Int) * 1125899906842624 = (n : Int) * 1125899906842624 + 1125899906842624 := by
      rw [Int.natCast_add, Int.add_mul]; rfl
    rw [e]
    split <;> omega
theorem leases_ok {n : Nat} {l : Nat → Nat → Int} (h : leasesB n l = true) : n ≤ 60 ∧ ∀ j, j < n → okL l j = true := by
  unfold leasesB at h
  rw [Bool.and_eq_true] at h
  exact ⟨of_decide_eq_true h.1, fun j hj => List.all_eq_true.1 h.2 j (List.mem_range.2 hj)⟩
theorem leS_small {now who : Int} {l : Nat → Nat → Int} {n i : Nat} (h : leasesB n l = true) (hi : i ≤ n) : 0 ≤ leS now who l i ∧ leS now who l i ≤ 67553994410557440 := by
  have ho := leases_ok h
  have hb := leS_bound (now := now) (who := who) (n := i) fun j hj => ho.2 j (by omega)
  have := ho.1
  omega
theorem amt_small {l : Nat → Nat → Int} {n i : Nat} (h : leasesB n l = true) (hi : i < n) : 0 ≤ l i 1 ∧ l i 1 ≤ 1125899906842624 := by
  have hn := (leases_ok h).2 i hi
  unfold okL leaB at hn
  simp only [Bool.and_eq_true] at hn
  exact bIn_true.1 hn.1.2.1
theorem s_LR_v {A : Option Addr} {n c : Nat} {l : Nat → Nat → Int} {b : Bool} (he : leasesB n l = b) (w : World) (h : Tab 3 w A n l) (hn : n ≤ 2000000) : Calls Try.prog 52 #[.slice A n c] w fun e w' => e = .returned (.bool b) ∧ Below w.heap.size w w' := he ▸ s_LeasesRight A n c l w h hn
set_option maxHeartbeats 4000000 in
theorem s_LeaseOthers (A : Option Addr) (n c : Nat) (l : Nat → Nat → Int) (now who : Int) (w : World) (h : Tab 3 w A n l) (hr : leasesB n l = true) :
    Calls Try.prog 103 #[.slice A n c, .int .i64 now, .int .i64 who] w fun e w' => e = .returned (.int .i64 (leS now who l n)) ∧ Below w.heap.size w w' := by
  have H := Lib.hid h
  have R := Lib.hid hr
  have hn := (leases_ok hr).1
  clear h hr
  go_enter Try.func103, Try.ntmps103
  go_wp2_with (first | (go_at_call 52; refine (s_LR_v R.out _ H.out (by omega)).mono ?_; rintro e w1 ⟨rfl, hb1⟩; have HB1 := Lib.hid hb1; clear hb1) | fail)
  go_loopw [7, 8] (fun v7 v8 wr => ∃ i : Nat, i ≤ n ∧ v7 = .int .i64 (leS now who l i) ∧ v8 = .int .i64 i ∧ Hid (Below w.heap.size w wr)) (fun _ v8 _ => n - (intOf v8).toNat)
  case atStart => exact ⟨0, by omega, rfl, rfl, HB1⟩
  case round =>
    obtain ⟨i, hi, rfl, rfl, KB⟩ := hrel
    clear HB1
    by_cases h5 : i < n
    · have b1 : decide ((i : Int) < (n : Int)) = true := decide_eq_true (by omega)
      obtain ⟨g, off, rfl, hg, hx⟩ := (H.out.keep KB.out).at (by omega)
      have x0 := hx i 0 h5 (by omega)
      have x1 := hx i 1 h5 (by omega)
      have x2 := hx i 2 h5 (by omega)
      rw [Nat.add_zero] at x0
      have E : Hid (leS now who l (i + 1) = leS now who l i + if decide (l i 2 > now) && (l i 0 != who) then l i 1 else 0) := Lib.hid rfl
      have e1 := leS_small (now := now) (who := who) R.out hi
      have e2 := amt_small R.out h5
      have wr1 : IntKind.i64.wrap (leS now who l i + l i 1) = leS now who l i + l i 1 := by rw [IntKind.wrap_i64]; omega
      generalize hs : leS now who l i = s at *
      generalize l i 0 = a0 at *
      generalize l i 1 = a1 at *
      generalize l i 2 = a2 at *
      clear hx hs
      have EB := Lib.hid (And.intro e1 e2)
      clear e1 e2
      rcases u1 : decide (a2 > now) with _ | _
      · rw [u1] at E
        have E' := E.out
        simp only [Bool.false_and, Bool.false_eq_true, if_false, Int.add_zero] at E'
        have E2 := Lib.hid E'
        clear E E'
        go_wp2_with fail
        go_roundw
        case rel => exact ⟨i + 1, by omega, by rw [E2.out], by go_num, KB⟩
        case measure => simp [intOf]; omega
      · rcases u2 : (a0 != who) with _ | _
        · rw [u1, u2] at E
          have E' := E.out
          simp only [Bool.and_false, Bool.false_eq_true, if_false, Int.add_zero] at E'
          have E2 := Lib.hid E'
          clear E E'
          go_wp2_with fail
          go_roundw
          case rel => exact ⟨i + 1, by omega, by rw [E2.out], by go_num, KB⟩
          case measure => simp [intOf]; omega
        · rw [u1, u2] at E
          have E' := E.out
          simp only [Bool.and_true, if_true] at E'
          have E2 := Lib.hid E'
          clear E E'
          go_wp2_with fail
          go_roundw
          case rel => exact ⟨i + 1, by omega, by rw [E2.out], by go_num, KB⟩
          case measure => simp [intOf]; omega
    · obtain rfl : n = i := by omega
      have b1 : decide ((n : Int) < (n : Int)) = false := decide_eq_false (by omega)
      go_wp2_with fail
      go_ret
      exact ⟨rfl, KB.out⟩
theorem s_LeaseSum (A : Option Addr) (n c : Nat) (l : Nat → Nat → Int) (now : Int) (w : World) (h : Tab 3 w A n l) (hr : leasesB n l = true) :
    Calls Try.prog 58 #[.slice A n c, .int .i64 now] w fun e w' => e = .returned (.int .i64 (leS now 0 l n)) ∧ Below w.heap.size w w' := by
  have H := Lib.hid h
  have R := Lib.hid hr
  clear h hr
  go_enter Try.func58, Try.ntmps58
  go_wp2_with (first | (go_at_call 103; refine (s_LeaseOthers _ _ _ _ _ _ _ H.out R.out).mono ?_; rintro e w1 ⟨rfl, hb1⟩; have HB1 := Lib.hid hb1; clear hb1) | fail)
  go_ret
  exact ⟨rfl, HB1.out⟩
set_option maxHeartbeats 4000000 in
theorem c_leased (A : Option Addr) (n c : Nat) (l : Nat → Nat → Int) (now who : Int) (w : World) (h : Tab 3 w A n l) (hr : leasesB n l = true) :
    Calls Try.prog 104 #[.slice A n c, .int .i64 now, .int .i64 who] w fun e w' => e = .returned (.int .i64 (leS now who l n)) ∧ Below w.heap.size w w' := by
  have H := Lib.hid h
  have R := Lib.hid hr
  have hn := (leases_ok hr).1
  have HB1 := Lib.hid (Below.refl w.heap.size w)
  clear h hr
  go_enter Try.func104, Try.ntmps104
  go_wp2_with fail
  go_loopw [7, 12] (fun v7 v8 wr => ∃ i : Nat, i ≤ n ∧ v7 = .int .i64 (leS now who l i) ∧ v8 = .int .i64 i ∧ Hid (Below w.heap.size w wr)) (fun _ v8 _ => n - (intOf v8).toNat)
  case atStart => exact ⟨0, by omega, rfl, rfl, HB1⟩
  case round =>
    obtain ⟨i, hi, rfl, rfl, KB⟩ := hrel
    clear HB1
    by_cases h5 : i < n
    · have b1 : decide ((i : Int) < (n : Int)) = true := decide_eq_true (by omega)
      obtain ⟨g, off, rfl, hg, hx⟩ := (H.out.keep KB.out).at (by omega)
      have x0 := hx i 0 h5 (by omega)
      have x1 := hx i 1 h5 (by omega)
      have x2 := hx i 2 h5 (by omega)
      rw [Nat.add_zero] at x0
      have E : Hid (leS now who l (i + 1) = leS now who l i + if decide (l i 2 > now) && (l i 0 != who) then l i 1 else 0) := Lib.hid rfl
      have e1 := leS_small (now := now) (who := who) R.out hi
      have e2 := amt_small R.out h5
      have wr1 : IntKind.i64.wrap (leS now who l i + l i 1) = leS now who l i + l i 1 := by rw [IntKind.wrap_i64]; omega
      generalize hs : leS now who l i = s at *
      generalize l i 0 = a0 at *
      generalize l i 1 = a1 at *
      generalize l i 2 = a2 at *
      clear hx hs
      have EB := Lib.hid (And.intro e1 e2)
      clear e1 e2
      go_upto_region 5 with fail
      have hal := (Below.refl wr.heap.size wr).alloc (Nat.le_refl _) (.cells #[.int .i64 a0, .int .i64 a1, .int .i64 a2] 89)
      have Q4 := Blk.new (w := wr) (B := 0) (Nat.zero_le _) #[.int .i64 a0, .int .i64 a1, .int .i64 a2] 89
      have t0 := (Q4.cell 0).trans rfl
      have t1 := (Q4.cell 1).trans rfl
      have t2 := (Q4.cell 2).trans rfl
      have QW := Lib.hid (btrans KB.out hal)
      clear hal Q4 x0 x1 x2
      generalize hb4 : wr.heap.size = b4 at *
      generalize wr.alloc (.cells #[.int .i64 a0, .int .i64 a1, .int .i64 a2] 89) = w2 at *
      clear hb4
      rcases u1 : decide (a2 > now) with _ | _
      · rw [u1] at E
        have E' := E.out
        simp only [Bool.false_and, Bool.false_eq_true, if_false, Int.add_zero] at E'
        have E2 := Lib.hid E'
        clear E E'
        go_wp2_with fail
        go_roundw
        case rel => exact ⟨i + 1, by omega, by rw [E2.out], by go_num, QW⟩
        case measure => simp [intOf]; omega
      · rcases u2 : (a0 != who) with _ | _
        · rw [u1, u2] at E
          have E' := E.out
          simp only [Bool.and_false, Bool.false_eq_true, if_false, Int.add_zero] at E'
          have E2 := Lib.hid E'
          clear E E'
          go_wp2_with fail
          go_roundw
          case rel => exact ⟨i + 1, by omega, by rw [E2.out], by go_num, QW⟩
          case measure => simp [intOf]; omega
        · rw [u1, u2] at E
          have E' := E.out
          simp only [Bool.and_true, if_true] at E'
          have E2 := Lib.hid E'
          clear E E'
          go_wp2_with fail
          go_roundw
          case rel => exact ⟨i + 1, by omega, by rw [E2.out], by go_num, QW⟩
          case measure => simp [intOf]; omega
    · obtain rfl : n = i := by omega
      have b1 : decide ((n : Int) < (n : Int)) = false := decide_eq_false (by omega)
      go_wp2_with fail
      go_ret
      exact ⟨rfl, KB.out⟩
theorem s_l01Max (a b : Int) (w : World) : Calls Try.prog 57 #[.int .i64 a, .int .i64 b] w fun e w' => e = .returned (.int .i64 (max a b)) ∧ w = w' := by
  by_cases h : a > b
  · have b1 : decide (a > b) = true := decide_eq_true h
    have e1 := Lib.hid (show max a b = a by omega)
    go_enter Try.func57, Try.ntmps57
    go_wp2
    go_ret
    exact ⟨by rw [e1.out]; rfl, rfl⟩
  · have b1 : decide (a > b) = false := decide_eq_false h
    have e1 := Lib.hid (show max a b = b by omega)
    go_enter Try.func57, Try.ntmps57
    go_wp2
    go_ret
    exact ⟨by rw [e1.out]; rfl, rfl⟩
/-- What is free. -/
def freeV (len born clock cap : Int) (n1 : Nat) (f1 : Nat → Nat → Int) (n2 : Nat) (f2 : Nat → Nat → Int) (n3 : Nat) (f3 : Nat → Nat → Int) : Int :=
  if srvB len born clock cap n1 f1 n2 f2 n3 f3 then max 0 (cap - leS clock 0 f3 n3) else 0
theorem farm_cap {cap : Int} {n1 n2 : Nat} {f1 f2 : Nat → Nat → Int} (h : farmB cap n1 f1 n2 f2 = true) : 0 ≤ cap ∧ cap ≤ 1125899906842624 := by
  unfold farmB at h
  rw [Bool.and_eq_true] at h
  exact bIn_true.1 h.1
theorem srv_parts {len born clock cap : Int} {n1 n2 n3 : Nat} {f1 f2 f3 : Nat → Nat → Int} (h : srvB len born clock cap n1 f1 n2 f2 n3 f3 = true) : leasesB n3 f3 = true ∧ farmB cap n1 f1 n2 f2 = true := by
  unfold srvB at h
  simp only [Bool.and_eq_true] at h
  exact ⟨h.2.2.2.2.1, h.2.2.2.1⟩
theorem s_SR_v {r : Bool} (len born clock cap : Int) (A1 A2 A3 : Option Addr) (n1 c1 n2 c2 n3 c3 : Nat) (f1 f2 f3 : Nat → Nat → Int) (w : World) (h : SrvAt w A1 n1 f1 A2 n2 f2 A3 n3 f3) (hc1 : n1 ≤ c1) (hn3 : n3 ≤ 2000000) (he : srvB len born clock cap n1 f1 n2 f2 n3 f3 = r) : Calls Try.prog 13 #[.agg #[.int .i64 len, .int .i64 born, .int .i64 clock, .int .i64 cap, .slice A1 n1 c1, .slice A2 n2 c2, .slice A3 n3 c3]] w fun e w' => e = .returned (.bool r) ∧ Below w.heap.size w w' := he ▸ s_ServerRight len born clock cap A1 A2 A3 n1 c1 n2 c2 n3 c3 f1 f2 f3 w h hc1 hn3
theorem c_SR_v {r : Bool} (len born clock cap : Int) (A1 A2 A3 : Option Addr) (n1 c1 n2 c2 n3 c3 : Nat) (f1 f2 f3 : Nat → Nat → Int) (w : World) (h : SrvAt w A1 n1 f1 A2 n2 f2 A3 n3 f3) (hc1 : n1 ≤ c1) (hn3 : n3 ≤ 2000000) (he : srvB len born clock cap n1 f1 n2 f2 n3 f3 = r) : Calls Try.prog 15 #[.agg #[.int .i64 len, .int .i64 born, .int .i64 clock, .int .i64 cap, .slice A1 n1 c1, .slice A2 n2 c2, .slice A3 n3 c3]] w fun e w' => e = .returned (.bool r) ∧ Below w.heap.size w w' := he ▸ c_ServerRight len born clock cap A1 A2 A3 n1 c1 n2 c2 n3 c3 f1 f2 f3 w h hc1 hn3
set_option maxHeartbeats 4000000 in
theorem s_ServerFree (len born clock cap : Int) (A1 A2 A3 : Option Addr) (n1 c1 n2 c2 n3 c3 : Nat) (f1 f2 f3 : Nat → Nat → Int) (w : World) (h : SrvAt w A1 n1 f1 A2 n2 f2 A3 n3 f3) (hc1 : n1 ≤ c1) (hn3 : n3 ≤ 2000000) :
    Calls Try.prog 17 #[.agg #[.int .i64 len, .int .i64 born, .int .i64 clock, .int .i64 cap, .slice A1 n1 c1, .slice A2 n2 c2, .slice A3 n3 c3]] w fun e w' => e = .returned (.int .i64 (freeV len born clock cap n1 f1 n2 f2 n3 f3)) ∧ Below w.heap.size w w' := by
  have hb := (Below.refl _ w).alloc (Nat.le_refl _) (.cells #[.int .i64 len, .int .i64 born, .int .i64 clock, .int .i64 cap, .slice A1 n1 c1, .slice A2 n2 c2, .slice A3 n3 c3] 37)
  have BK := Lib.hid (Blk.new (w := w) (B := 0) (Nat.zero_le _) #[.int .i64 len, .int .i64 born, .int .i64 clock, .int .i64 cap, .slice A1 n1 c1, .slice A2 n2 c2, .slice A3 n3 c3] 37)
  have H := Lib.hid (h.keep hb)
  have HB := Lib.hid hb
  have hz : w.heap.size ≤ (w.alloc (.cells #[.int .i64 len, .int .i64 born, .int .i64 clock, .int .i64 cap, .slice A1 n1 c1, .slice A2 n2 c2, .slice A3 n3 c3] 37)).heap.size := hb.size
  have HZ := Lib.hid hz
  clear h hb hz
  go_enter Try.func17, Try.ntmps17
  go_upto_region 1 with fail
  generalize w.alloc (.cells #[.int .i64 len, .int .i64 born, .int .i64 clock, .int .i64 cap, .slice A1 n1 c1, .slice A2 n2 c2, .slice A3 n3 c3] 37) = w1 at *
  obtain ⟨b, hbb⟩ : ∃ b, w.heap.size = b := ⟨_, rfl⟩
  rw [hbb] at BK ⊢
  have T1 : Hid (∀ w', Below w1.heap.size w1 w' → w'.cell? ⟨b, 0, none⟩ = some (.int .i64 len) ∧ w'.cell? ⟨b, 1, none⟩ = some (.int .i64 born) ∧ w'.cell? ⟨b, 2, none⟩ = some (.int .i64 clock) ∧ w'.cell? ⟨b, 3, none⟩ = some (.int .i64 cap) ∧ w'.cell? ⟨b, 4, none⟩ = some (.slice A1 n1 c1) ∧ w'.cell? ⟨b, 5, none⟩ = some (.slice A2 n2 c2) ∧ w'.cell? ⟨b, 6, none⟩ = some (.slice A3 n3 c3)) := Lib.hid fun w' hb => ⟨((BK.out.keep hb).cell 0).trans rfl, ((BK.out.keep hb).cell 1).trans rfl, ((BK.out.keep hb).cell 2).trans rfl, ((BK.out.keep hb).cell 3).trans rfl, ((BK.out.keep hb).cell 4).trans rfl, ((BK.out.keep hb).cell 5).trans rfl, ((BK.out.keep hb).cell 6).trans rfl⟩
  obtain ⟨z0, z1, z2, z3, z4, z5, z6⟩ := T1.out w1 (Below.refl _ _)
  rcases hr : srvB len born clock cap n1 f1 n2 f2 n3 f3 with _ | _
  · have HR := Lib.hid hr
    clear hr
    go_wp2_with (first | (go_at_call 13; refine (s_SR_v _ _ _ _ _ _ _ _ _ _ _ _ _ _ _ _ _ H.out hc1 hn3 HR.out).mono ?_; rintro e w2 ⟨rfl, hb2⟩; have HB2 := Lib.hid hb2; clear hb2) | fail)
    go_ret
    exact ⟨by rw [freeV, HR.out]; rfl, HB.out.trans (HB2.out.mono HZ.out)⟩
  have HR := Lib.hid hr
  have hle := (srv_parts hr).1
  have hf := (srv_parts hr).2
  have hcap := farm_cap hf
  have hsm := leS_small (now := clock) (who := 0) hle (Nat.le_refl n3)
  have HL := Lib.hid hle
  have wr1 : IntKind.i64.wrap (cap - leS clock 0 f3 n3) = cap - leS clock 0 f3 n3 := by rw [IntKind.wrap_i64]; omega
  have V : Hid (freeV len born clock cap n1 f1 n2 f2 n3 f3 = max 0 (cap - leS clock 0 f3 n3)) := Lib.hid (by rw [freeV, hr]; rfl)
  have HS0 := Lib.hid fun (p : World) hp => s_LeaseSum A3 n3 c3 f3 clock p (H.out.l.keep hp) HL.out
  generalize leS clock 0 f3 n3 = s at *
  clear hr hle hf hcap hsm
  go_upto_region 3 with (first | (go_at_call 13; refine (s_SR_v _ _ _ _ _ _ _ _ _ _ _ _ _ _ _ _ _ H.out hc1 hn3 HR.out).mono ?_; rintro e w2 ⟨rfl, hb2⟩; have HB2 := Lib.hid hb2; clear hb2) | fail)
  clear z0 z1 z2 z3 z4 z5 z6
  have HS := Lib.hid fun (p : BehW w2) => HS0.out p.w (btrans HB2.out p.h)
  have t2 : ∀ p : BehW w2, p.w.cell? ⟨b, 2, none⟩ = some (.int .i64 clock) := fun p => (T1.out _ (btrans HB2.out p.h)).2.2.1
  have t3 : ∀ p : BehW w2, p.w.cell? ⟨b, 3, none⟩ = some (.int .i64 cap) := fun p => (T1.out _ (btrans HB2.out p.h)).2.2.2.1
  have t4 : ∀ p : BehW w2, p.w.cell? ⟨b, 4, none⟩ = some (.slice A1 n1 c1) := fun p => (T1.out _ (btrans HB2.out p.h)).2.2.2.2.1
  have t5 : ∀ p : BehW w2, p.w.cell? ⟨b, 5, none⟩ = some (.slice A2 n2 c2) := fun p => (T1.out _ (btrans HB2.out p.h)).2.2.2.2.2.1
  have t6 : ∀ p : BehW w2, p.w.cell? ⟨b, 6, none⟩ = some (.slice A3 n3 c3) := fun p => (T1.out _ (btrans HB2.out p.h)).2.2.2.2.2.2
  refine wp_region_beh (by kernel_rfl) (by kernel_rfl) ?_
  repeat (go_big_quiet_step (first | (go_at_call 58; exact beh_below (HS.out _)) | (go_at_call 57; exact beh_same (s_l01Max _ _ _)) | fail))
  refine wpQuiet_nil ?_
  intro _ hw'
  obtain ⟨qb, hw''⟩ := hw'
  subst hw''
  go_wp2_with fail
  go_ret
  exact ⟨by rw [V.out]; rfl, HB.out.trans ((btrans HB2.out qb.h).mono HZ.out)⟩
set_option maxHeartbeats 4000000 in
theorem c_free (len born clock cap : Int) (A1 A2 A3 : Option Addr) (n1 c1 n2 c2 n3 c3 : Nat) (f1 f2 f3 : Nat → Nat → Int) (w : World) (h : SrvAt w A1 n1 f1 A2 n2 f2 A3 n3 f3) (hc1 : n1 ≤ c1) (hn3 : n3 ≤ 2000000) (hr : srvB len born clock cap n1 f1 n2 f2 n3 f3 = true) :
    Calls Try.prog 59 #[.agg #[.int .i64 len, .int .i64 born, .int .i64 clock, .int .i64 cap, .slice A1 n1 c1, .slice A2 n2 c2, .slice A3 n3 c3]] w fun e w' => e = .returned (.int .i64 (freeV len born clock cap n1 f1 n2 f2 n3 f3)) ∧ Below w.heap.size w w' := by
  have hb := (Below.refl _ w).alloc (Nat.le_refl _) (.cells #[.int .i64 len, .int .i64 born, .int .i64 clock, .int .i64 cap, .slice A1 n1 c1, .slice A2 n2 c2, .slice A3 n3 c3] 37)
  have BK := Lib.hid (Blk.new (w := w) (B := 0) (Nat.zero_le _) #[.int .i64 len, .int .i64 born, .int .i64 clock, .int .i64 cap, .slice A1 n1 c1, .slice A2 n2 c2, .slice A3 n3 c3] 37)
  have H := Lib.hid (h.keep hb)
  have HB := Lib.hid hb
  have hz : w.heap.size ≤ (w.alloc (.cells #[.int .i64 len, .int .i64 born, .int .i64 clock, .int .i64 cap, .slice A1 n1 c1, .slice A2 n2 c2, .slice A3 n3 c3] 37)).heap.size := hb.size
  have HZ := Lib.hid hz
  clear h hb hz
  go_enter Try.func59, Try.ntmps59
  go_upto_region 1 with fail
  generalize w.alloc (.cells #[.int .i64 len, .int .i64 born, .int .i64 clock, .int .i64 cap, .slice A1 n1 c1, .slice A2 n2 c2, .slice A3 n3 c3] 37) = w1 at *
  obtain ⟨b, hbb⟩ : ∃ b, w.heap.size = b := ⟨_, rfl⟩
  rw [hbb] at BK ⊢
  have T1 : Hid (∀ w', Below w1.heap.size w1 w' → w'.cell? ⟨b, 0, none⟩ = some (.int .i64 len) ∧ w'.cell? ⟨b, 1, none⟩ = some (.int .i64 born) ∧ w'.cell? ⟨b, 2, none⟩ = some (.int .i64 clock) ∧ w'.cell? ⟨b, 3, none⟩ = some (.int .i64 cap) ∧ w'.cell? ⟨b, 4, none⟩ = some (.slice A1 n1 c1) ∧ w'.cell? ⟨b, 5, none⟩ = some (.slice A2 n2 c2) ∧ w'.cell? ⟨b, 6, none⟩ = some (.slice A3 n3 c3)) := Lib.hid fun w' hb => ⟨((BK.out.keep hb).cell 0).trans rfl, ((BK.out.keep hb).cell 1).trans rfl, ((BK.out.keep hb).cell 2).trans rfl, ((BK.out.keep hb).cell 3).trans rfl, ((BK.out.keep hb).cell 4).trans rfl, ((BK.out.keep hb).cell 5).trans rfl, ((BK.out.keep hb).cell 6).trans rfl⟩
  have hle := (srv_parts hr).1
  have hf := (srv_parts hr).2
  have hcap := farm_cap hf
  have hsm := leS_small (now := clock) (who := 0) hle (Nat.le_refl n3)
  have HL := Lib.hid hle
  have wr1 : IntKind.i64.wrap (cap - leS clock 0 f3 n3) = cap - leS clock 0 f3 n3 := by rw [IntKind.wrap_i64]; omega
  have V : Hid (freeV len born clock cap n1 f1 n2 f2 n3 f3 = max (cap - leS clock 0 f3 n3) 0) := Lib.hid (by rw [freeV, hr]; exact Int.max_comm _ _)
  have HS0 := Lib.hid fun (p : World) hp => c_leased A3 n3 c3 f3 clock 0 p (H.out.l.keep hp) HL.out
  generalize leS clock 0 f3 n3 = s at *
  clear hr hle hf hcap hsm
  obtain ⟨w2, hw2⟩ : ∃ x, w1 = x := ⟨_, rfl⟩
  have HB2 : Hid (Below w1.heap.size w1 w2) := Lib.hid (hw2 ▸ Below.refl _ _)
  rw [hw2]
  have HS := Lib.hid fun (p : BehW w2) => HS0.out p.w (btrans HB2.out p.h)
  clear hw2
  have t2 : ∀ p : BehW w2, p.w.cell? ⟨b, 2, none⟩ = some (.int .i64 clock) := fun p => (T1.out _ (btrans HB2.out p.h)).2.2.1
  have t3 : ∀ p : BehW w2, p.w.cell? ⟨b, 3, none⟩ = some (.int .i64 cap) := fun p => (T1.out _ (btrans HB2.out p.h)).2.2.2.1
  have t4 : ∀ p : BehW w2, p.w.cell? ⟨b, 4, none⟩ = some (.slice A1 n1 c1) := fun p => (T1.out _ (btrans HB2.out p.h)).2.2.2.2.1
  have t5 : ∀ p : BehW w2, p.w.cell? ⟨b, 5, none⟩ = some (.slice A2 n2 c2) := fun p => (T1.out _ (btrans HB2.out p.h)).2.2.2.2.2.1
  have t6 : ∀ p : BehW w2, p.w.cell? ⟨b, 6, none⟩ = some (.slice A3 n3 c3) := fun p => (T1.out _ (btrans HB2.out p.h)).2.2.2.2.2.2
  refine wp_region_beh (by kernel_rfl) (by kernel_rfl) ?_
  repeat (go_big_quiet_step (first | (go_at_call 104; exact beh_below (HS.out _)) | fail))
  refine wpQuiet_nil ?_
  intro _ hw'
  obtain ⟨qb, hw''⟩ := hw'
  subst hw''
  go_wp2_with fail
  all_goals (go_ret; exact ⟨by rw [V.out]; (first | rfl | (show Ending.returned (.int .i64 _) = _; congr 2; omega)), by first | exact HB.out.trans ((btrans HB2.out qb.h).mono HZ.out) | (rw [← hbb]; exact HB.out.trans ((btrans HB2.out qb.h).mono HZ.out))⟩)
set_option maxHeartbeats 4000000 in
theorem c_ServerFree (len born clock cap : Int) (A1 A2 A3 : Option Addr) (n1 c1 n2 c2 n3 c3 : Nat) (f1 f2 f3 : Nat → Nat → Int) (w : World) (h : SrvAt w A1 n1 f1 A2 n2 f2 A3 n3 f3) (hc1 : n1 ≤ c1) (hn3 : n3 ≤ 2000000) :
    Calls Try.prog 18 #[.agg #[.int .i64 len, .int .i64 born, .int .i64 clock, .int .i64 cap, .slice A1 n1 c1, .slice A2 n2 c2, .slice A3 n3 c3]] w fun e w' => e = .returned (.int .i64 (freeV len born clock cap n1 f1 n2 f2 n3 f3)) ∧ Below w.heap.size w w' := by
  have hb := (Below.refl _ w).alloc (Nat.le_refl _) (.cells #[.int .i64 len, .int .i64 born, .int .i64 clock, .int .i64 cap, .slice A1 n1 c1, .slice A2 n2 c2, .slice A3 n3 c3] 37)
  have BK := Lib.hid (Blk.new (w := w) (B := 0) (Nat.zero_le _) #[.int .i64 len, .int .i64 born, .int .i64 clock, .int .i64 cap, .slice A1 n1 c1, .slice A2 n2 c2, .slice A3 n3 c3] 37)
  have H := Lib.hid (h.keep hb)
  have HB := Lib.hid hb
  have hz : w.heap.size ≤ (w.alloc (.cells #[.int .i64 len, .int .i64 born, .int .i64 clock, .int .i64 cap, .slice A1 n1 c1, .slice A2 n2 c2, .slice A3 n3 c3] 37)).heap.size := hb.size
  have HZ := Lib.hid hz
  clear h hb hz
  go_enter Try.func18, Try.ntmps18
  go_upto_region 1 with fail
  generalize w.alloc (.cells #[.int .i64 len, .int .i64 born, .int .i64 clock, .int .i64 cap, .slice A1 n1 c1, .slice A2 n2 c2, .slice A3 n3 c3] 37) = w1 at *
  obtain ⟨b, hbb⟩ : ∃ b, w.heap.size = b := ⟨_, rfl⟩
  rw [hbb] at BK ⊢
  have T1 : Hid (∀ w', Below w1.heap.size w1 w' → w'.cell? ⟨b, 0, none⟩ = some (.int .i64 len) ∧ w'.cell? ⟨b, 1, none⟩ = some (.int .i64 born) ∧ w'.cell? ⟨b, 2, none⟩ = some (.int .i64 clock) ∧ w'.cell? ⟨b, 3, none⟩ = some (.int .i64 cap) ∧ w'.cell? ⟨b, 4, none⟩ = some (.slice A1 n1 c1) ∧ w'.cell? ⟨b, 5, none⟩ = some (.slice A2 n2 c2) ∧ w'.cell? ⟨b, 6, none⟩ = some (.slice A3 n3 c3)) := Lib.hid fun w' hb => ⟨((BK.out.keep hb).cell 0).trans rfl, ((BK.out.keep hb).cell 1).trans rfl, ((BK.out.keep hb).cell 2).trans rfl, ((BK.out.keep hb).cell 3).trans rfl, ((BK.out.keep hb).cell 4).trans rfl, ((BK.out.keep hb).cell 5).trans rfl, ((BK.out.keep hb).cell 6).trans rfl⟩
  obtain ⟨z0, z1, z2, z3, z4, z5, z6⟩ := T1.out w1 (Below.refl _ _)
  rcases hr : srvB len born clock cap n1 f1 n2 f2 n3 f3 with _ | _
  · have HR := Lib.hid hr
    clear hr
    go_wp2_with (first | (go_at_call 15; refine (c_SR_v _ _ _ _ _ _ _ _ _ _ _ _ _ _ _ _ _ H.out hc1 hn3 HR.out).mono ?_; rintro e w2 ⟨rfl, hb2⟩; have HB2 := Lib.hid hb2; clear hb2) | fail)
    go_ret
    exact ⟨by rw [freeV, HR.out]; rfl, HB.out.trans (HB2.out.mono HZ.out)⟩
  have HR := Lib.hid hr
  clear hr
  go_wp2_with (first | (go_at_call 15; refine (c_SR_v _ _ _ _ _ _ _ _ _ _ _ _ _ _ _ _ _ H.out hc1 hn3 HR.out).mono ?_; rintro e w2 ⟨rfl, hb2⟩; have HB2 := Lib.hid hb2; clear hb2; obtain ⟨y0, y1, y2, y3, y4, y5, y6⟩ := T1.out w2 HB2.out) | (go_at_call 59; refine (c_free _ _ _ _ _ _ _ _ _ _ _ _ _ _ _ _ _ (H.out.keep HB2.out) hc1 hn3 HR.out).mono ?_; rintro e w3 ⟨rfl, hb3⟩; have HB3 := Lib.hid (btrans HB2.out hb3); clear hb3) | fail)
  go_ret
  exact ⟨rfl, by first | exact HB.out.trans (HB3.out.mono HZ.out) | (rw [← hbb]; exact HB.out.trans (HB3.out.mono HZ.out))⟩
end Go.Proofs.Ytipkbapnhgdpeaa.C
