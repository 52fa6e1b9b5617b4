/- The law FnClient, walked: a client that asks uses nothing till it hears; what it hears it uses up to its end, and asks again in time. No condition. -/
import Derived.Test.YtddemmmbbleofaaDrawCA
import Derived.Test.YtddemmmbbleofaaClientHI
import Derived.Test.YtddemmmbbleofaaOFnClient
import Derived.Test.YtddemmmbbleofaaLaw
namespace Go.Proofs.Ytddemmmbbleofaa.C
open Go.RowKit Go.Proofs.Ytddemmmbbleofaa.Rd
set_option maxRecDepth 100000
set_option linter.unusedVariables false
set_option linter.unusedSimpArgs false
attribute [local go_sem ↓] Go.wp_at_zero Go.wp_at_succ
theorem l_max (a b : Int) (w : World) : Calls Try.prog 17 #[.int .i64 a, .int .i64 b] w fun e w' => e = .returned (.int .i64 (max a b)) ∧ w = w' := by
  by_cases h : a > b
  · rw [show max a b = a from by omega]
    go_enter Try.func17, Try.ntmps17
    go_wp2
    go_ret
    exact ⟨rfl, rfl⟩
  · rw [show max a b = b from by omega]
    go_enter Try.func17, Try.ntmps17
    go_wp2
    go_ret
    exact ⟨rfl, rfl⟩
/-- What a right client uses at a time within its lease, and behind it. -/
theorem c_uses (a0 a1 a2 a3 a4 a5 a6 a7 a8 a9 now : Int) (w : World) : Calls Try.prog 49 #[.agg #[.int .i64 a0, .int .i64 a1, .int .i64 a2, .int .i64 a3, .int .i64 a4, .int .i64 a5, .int .i64 a6, .int .i64 a7, .int .i64 a8, .int .i64 a9], .int .i64 now] w fun e w' => e = .returned (.int .i64 (if now < a5 then a4 else 0)) ∧ Below w.heap.size w w' := by
  have hu := Try.underlying24
  by_cases h : now < a5
  · rw [if_pos h]
    go_enter Try.func49, Try.ntmps49
    go_wp2
    go_ret
    exact ⟨rfl, by repeat (first | exact Below.refl _ _ | refine Below.alloc ?_ (by first | (simp; done) | (simp; omega)) _)⟩
  · rw [if_neg h]
    go_enter Try.func49, Try.ntmps49
    go_wp2
    go_ret
    exact ⟨rfl, by repeat (first | exact Below.refl _ _ | refine Below.alloc ?_ (by first | (simp; done) | (simp; omega)) _)⟩
theorem c_uses' (a0 a1 a2 a3 a4 a5 a6 a7 a8 a9 now v : Int) (hv : Hid ((if now < a5 then a4 else 0) = v)) (w : World) : Calls Try.prog 49 #[.agg #[.int .i64 a0, .int .i64 a1, .int .i64 a2, .int .i64 a3, .int .i64 a4, .int .i64 a5, .int .i64 a6, .int .i64 a7, .int .i64 a8, .int .i64 a9], .int .i64 now] w fun e w' => e = .returned (.int .i64 v) ∧ Below w.heap.size w w' := by
  have := hv.out
  subst this
  exact c_uses _ _ _ _ _ _ _ _ _ _ _ _
theorem c_ClientUses (a0 a1 a2 a3 a4 a5 a6 a7 a8 a9 now v : Int) (w : World) (hr : clB a0 a1 a2 a3 a4 a5 a6 a7 a8 a9 = true) (hv : (if now < a5 then a4 else 0) = v) : Calls Try.prog 13 #[.agg #[.int .i64 a0, .int .i64 a1, .int .i64 a2, .int .i64 a3, .int .i64 a4, .int .i64 a5, .int .i64 a6, .int .i64 a7, .int .i64 a8, .int .i64 a9], .int .i64 now] w fun e w' => e = .returned (.int .i64 v) ∧ Below w.heap.size w w' := by
  have hu := Try.underlying24
  have HV := Lib.hid hv
  clear hv
  go_enter Try.func13, Try.ntmps13
  go_wp2_with (first | (go_at_call 46; refine (c_ClientRight _ _ _ _ _ _ _ _ _ _ _).mono ?_; rintro e w' ⟨rfl, rfl⟩) | (go_at_call 49; refine (c_uses' _ _ _ _ _ _ _ _ _ _ _ _ HV _).mono ?_; rintro e w' ⟨rfl, hb⟩) | fail)
  go_ret
  exact ⟨rfl, (((Below.refl _ w).alloc (Nat.le_refl _) _).alloc (by simp) _).trans (hb.mono (by simp; omega))⟩
theorem l_at (A : Option Addr) (n c : Nat) (at' most : Int) (w : World) (h : BytesIn w A n) (hn : n ≤ 1048576) (h0 : 0 ≤ at') (h1 : 1 < most) (h2 : at' ≤ 1) : Calls Try.prog 15 #[.slice A n c, .int .i64 at', .int .i64 most] w fun e w' => ∃ r : Int, e = .returned (.int .i64 r) ∧ 0 ≤ r ∧ r < most ∧ w = w' := by
  have b1 : decide (most ≤ 1) = false := decide_eq_false (by omega)
  by_cases hz : n = 0
  · subst hz
    go_enter Try.func15, Try.ntmps15
    go_wp2
    go_ret
    exact ⟨0, rfl, by omega, by omega, rfl⟩
  · have k0 : 0 ≤ at' % n := Int.emod_nonneg _ (by omega)
    have k1 : at' % n < n := Int.emod_lt_of_pos _ (by omega)
    obtain ⟨ad, x, rfl, hb, x0, x1, hx⟩ := h (at' % n).toNat (by omega)
    go_enter Try.func15, Try.ntmps15
    go_wp2
    go_ret
    exact ⟨x % most, rfl, Int.emod_nonneg _ (by omega), Int.emod_lt_of_pos _ (by omega), rfl⟩
theorem bytes_in {w : World} {A : Option Addr} {ys : List Int} (h : (Kd.int .u8).C w A ys.length ys) (hy : AllOk (Fits .u8) ys) : BytesIn w A ys.length := by
  intro j hj
  obtain ⟨x, hx⟩ : ∃ x, ys[j]? = some x := ⟨ys[j], List.getElem?_eq_getElem hj⟩
  obtain ⟨ad, c, e, hb, -, hc, hr⟩ := h.get hx
  have hok := hy x (List.mem_of_getElem? hx)
  have h0 : c = [.int .u8 x] := hc
  subst h0
  have h1 := hr 0 _ rfl
  simp [Fits, Lit.wf] at hok
  refine ⟨ad, x, e, hb, ?_, ?_, by simpa [Kd.int, Kd.scalar] using h1⟩
  · exact hok.1
  · exact hok.2
theorem ask_both (a0 a1 a2 a3 a4 a5 a6 a7 a8 a9 now : Int) : ∃ (b0 b1 b2 b3 b4 b5 b6 b7 b8 b9 d0 d1 d2 d3 d4 d5 d6 d7 d8 co : Int) (q : Bool),
    (∀ w, Calls Try.prog 11 #[.agg #[.int .i64 a0, .int .i64 a1, .int .i64 a2, .int .i64 a3, .int .i64 a4, .int .i64 a5, .int .i64 a6, .int .i64 a7, .int .i64 a8, .int .i64 a9], .int .i64 now] w fun e w' => e = .returned (.agg #[.int .i64 b0, .int .i64 b1, .int .i64 b2, .int .i64 b3, .int .i64 b4, .int .i64 b5, .int .i64 b6, .int .i64 b7, .int .i64 b8, .int .i64 b9, .int .i64 d0, .int .i64 d1, .int .i64 d2, .int .i64 d3, .int .i64 d4, .int .i64 d5, .int .i64 d6, .int .i64 d7, .int .i64 d8, .string ⟨#[]⟩, .bool q, .int .i64 co]) ∧ Below w.heap.size w w') ∧
    (∀ w, Calls Try.prog 12 #[.agg #[.int .i64 a0, .int .i64 a1, .int .i64 a2, .int .i64 a3, .int .i64 a4, .int .i64 a5, .int .i64 a6, .int .i64 a7, .int .i64 a8, .int .i64 a9], .int .i64 now] w fun e w' => e = .returned (.agg #[.int .i64 b0, .int .i64 b1, .int .i64 b2, .int .i64 b3, .int .i64 b4, .int .i64 b5, .int .i64 b6, .int .i64 b7, .int .i64 b8, .int .i64 b9, .int .i64 d0, .int .i64 d1, .int .i64 d2, .int .i64 d3, .int .i64 d4, .int .i64 d5, .int .i64 d6, .int .i64 d7, .int .i64 d8, .string ⟨#[]⟩, .bool q, .int .i64 co]) ∧ Below w.heap.size w w') ∧
    (q = true → clB b0 b1 b2 b3 b4 b5 b6 b7 b8 b9 = true ∧ msgB d0 d1 d2 d3 d4 d5 d6 d7 d8 0 = true ∧ 0 ≤ now ∧ now ≤ 1000000 ∧ b0 = a0 ∧ b4 = 0 ∧ b5 = 0 ∧ b6 = now ∧ d2 = b9 ∧ 1 ≤ b9 ∧ b7 = min 1000000 (now + a8) ∧ 1 ≤ a8) := by
  by_cases hr : (clB a0 a1 a2 a3 a4 a5 a6 a7 a8 a9 && bIn now 0 1000000) = true
  · by_cases h9 : a9 = 1000000
    · exact ⟨_, _, _, _, _, _, _, _, _, _, _, _, _, _, _, _, _, _, _, _, _, fun w => s_ask_state _ _ _ _ _ _ _ _ _ _ _ w hr h9, fun w => c_ask_state _ _ _ _ _ _ _ _ _ _ _ w hr h9, fun h => by simp at h⟩
    · by_cases h7 : now < a7
      · exact ⟨_, _, _, _, _, _, _, _, _, _, _, _, _, _, _, _, _, _, _, _, _, fun w => s_ask_wait _ _ _ _ _ _ _ _ _ _ _ w hr h9 h7, fun w => c_ask_wait _ _ _ _ _ _ _ _ _ _ _ w hr h9 h7, fun h => by simp at h⟩
      · refine ⟨_, _, _, _, _, _, _, _, _, _, _, _, _, _, _, _, _, _, _, _, _, fun w => s_ask_goes _ _ _ _ _ _ _ _ _ _ _ w hr h9 (by omega), fun w => by simpa only [Int.min_comm] using c_ask_goes _ _ _ _ _ _ _ _ _ _ _ w hr h9 (by omega), fun _ => ?_⟩
        obtain ⟨hc, hn⟩ := Bool.and_eq_true_iff.mp hr
        obtain ⟨hn0, hn1⟩ := bIn_true.mp hn
        have hb := hc
        simp only [clB, Bool.and_eq_true, Bool.or_eq_true, bIn_true, beq_iff_eq] at hb
        refine ⟨?_, ?_, hn0, hn1, rfl, rfl, rfl, rfl, rfl, by omega, rfl, by omega⟩
        · simp only [clB, Bool.and_eq_true, Bool.or_eq_true, bIn_true, beq_iff_eq]; omega
        · simp [msgB, bIn_true]; omega
  · exact ⟨_, _, _, _, _, _, _, _, _, _, _, _, _, _, _, _, _, _, _, _, _, fun w => s_ask_form _ _ _ _ _ _ _ _ _ _ _ w (Bool.eq_false_iff.mpr hr), fun w => c_ask_form _ _ _ _ _ _ _ _ _ _ _ w (Bool.eq_false_iff.mpr hr), fun h => by simp at h⟩
set_option maxHeartbeats 4000000 in
theorem client_law (n0 n1 c0 c1 : Nat) (A0 A1 : Option Addr) (w : World) (h0 : BytesIn w A0 n0) (h1 : BytesIn w A1 n1) (g0 : n0 ≤ 1048576) (g1 : n1 ≤ 1048576) :
    Calls Try.prog 3 #[.slice A0 n0 c0, .slice A1 n1 c1] w fun e w' => e = .returned (.bool true) ∧ Below w.heap.size w w' := by
  have hu := Try.underlying24
  have hu2 := Try.underlying30
  have hu3 := Try.underlying28
  have H0 := Lib.hid h0
  have H1 := Lib.hid h1
  clear h0 h1
  have i0 : decide ((n0 : Int) > 1048576) = false := decide_eq_false (by omega)
  have i1 : decide ((n1 : Int) > 1048576) = false := decide_eq_false (by omega)
  go_enter Try.func3, Try.ntmps3
  go_wp2_with fail
  refine (s_DrawClientAsk _ _ _ _ H0.out g0).mono ?_
  rintro e w1 ⟨cl, now, rfl, ⟨a0, a1, a2, a3, a4, a5, a6, a7, a8, a9, rfl⟩, B1⟩
  have l1 := B1.size
  go_wp2_with (first | ((with_reducible refine at_store (ty := 24) (y := .tmp 23) ?_); refine wpl_store_row rfl 24 (.tmp 5) (.tmp 23) rfl w1.heap.size _ rfl rfl (B := w.heap.size) (n := 10) (t := 24) (Room.new l1 rfl) rfl (by kernel_rfl) (by simp [Value.oneCell']) (fun hblk => ?_)) | ((with_reducible refine at_load (ty := 24) (x := .tmp 5) ?_); refine wpl_load_row rfl 24 (.tmp 5) rfl w1.heap.size rfl (B := w.heap.size) (n := 10) (t := 24) (cs := #[.int .i64 a0, .int .i64 a1, .int .i64 a2, .int .i64 a3, .int .i64 a4, .int .i64 a5, .int .i64 a6, .int .i64 a7, .int .i64 a8, .int .i64 a9]) hblk rfl (by kernel_rfl) Try.underlying24 rfl ?_) | fail)
  have B2 := below_setRow (B1.alloc l1 (.cells #[.int .i64 0, .int .i64 0, .int .i64 0, .int .i64 0, .int .i64 0, .int .i64 0, .int .i64 0, .int .i64 0, .int .i64 0, .int .i64 0] 24)) l1 #[.int .i64 a0, .int .i64 a1, .int .i64 a2, .int .i64 a3, .int .i64 a4, .int .i64 a5, .int .i64 a6, .int .i64 a7, .int .i64 a8, .int .i64 a9]
  have K2 := Lib.hid hblk
  clear hblk
  generalize (w1.alloc (.cells #[.int .i64 0, .int .i64 0, .int .i64 0, .int .i64 0, .int .i64 0, .int .i64 0, .int .i64 0, .int .i64 0, .int .i64 0, .int .i64 0] 24)).setRow w1.heap.size #[.int .i64 a0, .int .i64 a1, .int .i64 a2, .int .i64 a3, .int .i64 a4, .int .i64 a5, .int .i64 a6, .int .i64 a7, .int .i64 a8, .int .i64 a9] = w2 at B2 K2 ⊢
  obtain ⟨b0, b1, b2, b3, b4, b5, b6, b7, b8, b9, d0, d1, d2, d3, d4, d5, d6, d7, d8, co, q, hs, hi, hq⟩ := ask_both a0 a1 a2 a3 a4 a5 a6 a7 a8 a9 now
  have HS := Lib.hid hs
  have HI := Lib.hid hi
  have HQ := Lib.hid hq
  clear hs hi hq
  refine (HS.out _).mono ?_
  rintro e w3 ⟨rfl, B3⟩
  have B3' := B2.trans (B3.mono B2.size)
  have l3 := B3'.size
  have K3 := K2.out.keep B3
  have n3 : w1.heap.size < w3.heap.size := K3.lt
  clear B2 B3 K2
  go_wp2_with (first | ((with_reducible refine at_store (ty := 30) (y := .tmp 27) ?_); refine wpl_store_row rfl 30 (.tmp 7) (.tmp 27) rfl w3.heap.size _ rfl rfl (B := w.heap.size) (n := 22) (t := 30) (Room.new l3 rfl) rfl (by kernel_rfl) (by simp [Value.oneCell']) (fun hblk => ?_)) | ((with_reducible refine at_load (ty := 24) (x := .tmp 5) ?_); refine wpl_load_row rfl 24 (.tmp 5) rfl w1.heap.size rfl (B := w.heap.size) (n := 10) (t := 24) (cs := #[.int .i64 a0, .int .i64 a1, .int .i64 a2, .int .i64 a3, .int .i64 a4, .int .i64 a5, .int .i64 a6, .int .i64 a7, .int .i64 a8, .int .i64 a9]) ((K3.keep ((Below.refl _ _).alloc (Nat.le_refl _) _)).far (Nat.ne_of_lt n3) _) rfl (by kernel_rfl) Try.underlying24 rfl ?_) | fail)
  have K4 := (K3.keep ((Below.refl _ w3).alloc (Nat.le_refl _) (.cells #[.int .i64 0, .int .i64 0, .int .i64 0, .int .i64 0, .int .i64 0, .int .i64 0, .int .i64 0, .int .i64 0, .int .i64 0, .int .i64 0, .int .i64 0, .int .i64 0, .int .i64 0, .int .i64 0, .int .i64 0, .int .i64 0, .int .i64 0, .int .i64 0, .int .i64 0, .string ⟨#[]⟩, .bool false, .int .i64 0] 30))).far (Nat.ne_of_lt n3) #[.int .i64 b0, .int .i64 b1, .int .i64 b2, .int .i64 b3, .int .i64 b4, .int .i64 b5, .int .i64 b6, .int .i64 b7, .int .i64 b8, .int .i64 b9, .int .i64 d0, .int .i64 d1, .int .i64 d2, .int .i64 d3, .int .i64 d4, .int .i64 d5, .int .i64 d6, .int .i64 d7, .int .i64 d8, .string ⟨#[]⟩, .bool q, .int .i64 co]
  have B4 := below_setRow (B3'.alloc l3 (.cells #[.int .i64 0, .int .i64 0, .int .i64 0, .int .i64 0, .int .i64 0, .int .i64 0, .int .i64 0, .int .i64 0, .int .i64 0, .int .i64 0, .int .i64 0, .int .i64 0, .int .i64 0, .int .i64 0, .int .i64 0, .int .i64 0, .int .i64 0, .int .i64 0, .int .i64 0, .string ⟨#[]⟩, .bool false, .int .i64 0] 30)) l3 #[.int .i64 b0, .int .i64 b1, .int .i64 b2, .int .i64 b3, .int .i64 b4, .int .i64 b5, .int .i64 b6, .int .i64 b7, .int .i64 b8, .int .i64 b9, .int .i64 d0, .int .i64 d1, .int .i64 d2, .int .i64 d3, .int .i64 d4, .int .i64 d5, .int .i64 d6, .int .i64 d7, .int .i64 d8, .string ⟨#[]⟩, .bool q, .int .i64 co]
  have M4 := hblk
  clear hblk K3 B3'
  generalize (w3.alloc (.cells #[.int .i64 0, .int .i64 0, .int .i64 0, .int .i64 0, .int .i64 0, .int .i64 0, .int .i64 0, .int .i64 0, .int .i64 0, .int .i64 0, .int .i64 0, .int .i64 0, .int .i64 0, .int .i64 0, .int .i64 0, .int .i64 0, .int .i64 0, .int .i64 0, .int .i64 0, .string ⟨#[]⟩, .bool false, .int .i64 0] 30)).setRow w3.heap.size #[.int .i64 b0, .int .i64 b1, .int .i64 b2, .int .i64 b3, .int .i64 b4, .int .i64 b5, .int .i64 b6, .int .i64 b7, .int .i64 b8, .int .i64 b9, .int .i64 d0, .int .i64 d1, .int .i64 d2, .int .i64 d3, .int .i64 d4, .int .i64 d5, .int .i64 d6, .int .i64 d7, .int .i64 d8, .string ⟨#[]⟩, .bool q, .int .i64 co] = w4 at K4 B4 M4 ⊢
  refine (HI.out _).mono ?_
  rintro e w5 ⟨rfl, B5⟩
  have B5' := B4.trans (B5.mono B4.size)
  have l5 := B5'.size
  have K5 := K4.keep B5
  have M5 := M4.keep B5
  have n5 : w1.heap.size < w5.heap.size := K5.lt
  have m5 : w3.heap.size < w5.heap.size := M5.lt
  clear B4 B5 K4 M4 HS HI
  go_upto_region 6 with (first | ((with_reducible refine at_store (ty := 30) (y := .tmp 30) ?_); refine wpl_store_row rfl 30 (.tmp 8) (.tmp 30) rfl w5.heap.size _ rfl rfl (B := w.heap.size) (n := 22) (t := 30) (Room.new l5 rfl) rfl (by kernel_rfl) (by simp [Value.oneCell']) (fun hblk => ?_)) | fail)
  have K6 := Lib.hid ((K5.keep ((Below.refl _ w5).alloc (Nat.le_refl _) (.cells #[.int .i64 0, .int .i64 0, .int .i64 0, .int .i64 0, .int .i64 0, .int .i64 0, .int .i64 0, .int .i64 0, .int .i64 0, .int .i64 0, .int .i64 0, .int .i64 0, .int .i64 0, .int .i64 0, .int .i64 0, .int .i64 0, .int .i64 0, .int .i64 0, .int .i64 0, .string ⟨#[]⟩, .bool false, .int .i64 0] 30))).far (Nat.ne_of_lt n5) #[.int .i64 b0, .int .i64 b1, .int .i64 b2, .int .i64 b3, .int .i64 b4, .int .i64 b5, .int .i64 b6, .int .i64 b7, .int .i64 b8, .int .i64 b9, .int .i64 d0, .int .i64 d1, .int .i64 d2, .int .i64 d3, .int .i64 d4, .int .i64 d5, .int .i64 d6, .int .i64 d7, .int .i64 d8, .string ⟨#[]⟩, .bool q, .int .i64 co])
  have M6 := Lib.hid ((M5.keep ((Below.refl _ w5).alloc (Nat.le_refl _) (.cells #[.int .i64 0, .int .i64 0, .int .i64 0, .int .i64 0, .int .i64 0, .int .i64 0, .int .i64 0, .int .i64 0, .int .i64 0, .int .i64 0, .int .i64 0, .int .i64 0, .int .i64 0, .int .i64 0, .int .i64 0, .int .i64 0, .int .i64 0, .int .i64 0, .int .i64 0, .string ⟨#[]⟩, .bool false, .int .i64 0] 30))).far (Nat.ne_of_lt m5) #[.int .i64 b0, .int .i64 b1, .int .i64 b2, .int .i64 b3, .int .i64 b4, .int .i64 b5, .int .i64 b6, .int .i64 b7, .int .i64 b8, .int .i64 b9, .int .i64 d0, .int .i64 d1, .int .i64 d2, .int .i64 d3, .int .i64 d4, .int .i64 d5, .int .i64 d6, .int .i64 d7, .int .i64 d8, .string ⟨#[]⟩, .bool q, .int .i64 co])
  have B6 := below_setRow (B5'.alloc l5 (.cells #[.int .i64 0, .int .i64 0, .int .i64 0, .int .i64 0, .int .i64 0, .int .i64 0, .int .i64 0, .int .i64 0, .int .i64 0, .int .i64 0, .int .i64 0, .int .i64 0, .int .i64 0, .int .i64 0, .int .i64 0, .int .i64 0, .int .i64 0, .int .i64 0, .int .i64 0, .string ⟨#[]⟩, .bool false, .int .i64 0] 30)) l5 #[.int .i64 b0, .int .i64 b1, .int .i64 b2, .int .i64 b3, .int .i64 b4, .int .i64 b5, .int .i64 b6, .int .i64 b7, .int .i64 b8, .int .i64 b9, .int .i64 d0, .int .i64 d1, .int .i64 d2, .int .i64 d3, .int .i64 d4, .int .i64 d5, .int .i64 d6, .int .i64 d7, .int .i64 d8, .string ⟨#[]⟩, .bool q, .int .i64 co]
  have N6 := Lib.hid hblk
  clear hblk K5 M5 B5'
  generalize (w5.alloc (.cells #[.int .i64 0, .int .i64 0, .int .i64 0, .int .i64 0, .int .i64 0, .int .i64 0, .int .i64 0, .int .i64 0, .int .i64 0, .int .i64 0, .int .i64 0, .int .i64 0, .int .i64 0, .int .i64 0, .int .i64 0, .int .i64 0, .int .i64 0, .int .i64 0, .int .i64 0, .string ⟨#[]⟩, .bool false, .int .i64 0] 30)).setRow w5.heap.size #[.int .i64 b0, .int .i64 b1, .int .i64 b2, .int .i64 b3, .int .i64 b4, .int .i64 b5, .int .i64 b6, .int .i64 b7, .int .i64 b8, .int .i64 b9, .int .i64 d0, .int .i64 d1, .int .i64 d2, .int .i64 d3, .int .i64 d4, .int .i64 d5, .int .i64 d6, .int .i64 d7, .int .i64 d8, .string ⟨#[]⟩, .bool q, .int .i64 co] = w6 at K6 M6 N6 B6 ⊢
  have e20 := (M6.out.cell 20).trans (by rfl)
  have e21 := (M6.out.cell 21).trans (by rfl)
  have h20 := (N6.out.cell 20).trans (by rfl)
  have h21 := (N6.out.cell 21).trans (by rfl)
  cases q
  · go_wp2
    go_ret
    exact ⟨rfl, B6⟩
  · obtain ⟨hcl, hms, hn0, hn1, rfl, rfl, rfl, rfl, rfl, hb9, rfl, ha8⟩ := HQ.out rfl
    clear HQ
    have h0 := (N6.out.cell 0).trans (by rfl)
    have h1 := (N6.out.cell 1).trans (by rfl)
    have h2 := (N6.out.cell 2).trans (by rfl)
    have h3 := (N6.out.cell 3).trans (by rfl)
    have h4 := (N6.out.cell 4).trans (by rfl)
    have h5 := (N6.out.cell 5).trans (by rfl)
    have h6 := (N6.out.cell 6).trans (by rfl)
    have h7 := (N6.out.cell 7).trans (by rfl)
    have h8 := (N6.out.cell 8).trans (by rfl)
    have h9 := (N6.out.cell 9).trans (by rfl)
    have h10 := (N6.out.cell 10).trans (by rfl)
    have h11 := (N6.out.cell 11).trans (by rfl)
    have h12 := (N6.out.cell 12).trans (by rfl)
    have h13 := (N6.out.cell 13).trans (by rfl)
    have h14 := (N6.out.cell 14).trans (by rfl)
    have h15 := (N6.out.cell 15).trans (by rfl)
    have h16 := (N6.out.cell 16).trans (by rfl)
    have h17 := (N6.out.cell 17).trans (by rfl)
    have h18 := (N6.out.cell 18).trans (by rfl)
    have h19 := (N6.out.cell 19).trans (by rfl)
    have l5' : w5.heap.size < w6.heap.size := N6.out.lt
    go_wp2_with fail
    refine (c_ClientUses _ _ _ _ _ _ _ _ _ _ _ 0 _ hcl (by simp)).mono ?_
    rintro e w7 ⟨rfl, B7⟩
    have N7 := N6.out.keep B7
    have M7 := M6.out.keep B7
    have K7 := Lib.hid (K6.out.keep B7)
    have B7' := B6.trans (B7.mono B6.size)
    clear h0 h1 h2 h3 h4 h5 h6 h7 h8 h9 h10 h11 h12 h13 h14 h15 h16 h17 h18 h19 h20 h21 e20 e21 B6 B7 N6 M6 K6
    have h0 := (N7.cell 0).trans (by rfl)
    have h1 := (N7.cell 1).trans (by rfl)
    have h2 := (N7.cell 2).trans (by rfl)
    have h3 := (N7.cell 3).trans (by rfl)
    have h4 := (N7.cell 4).trans (by rfl)
    have h5 := (N7.cell 5).trans (by rfl)
    have h6 := (N7.cell 6).trans (by rfl)
    have h7 := (N7.cell 7).trans (by rfl)
    have h8 := (N7.cell 8).trans (by rfl)
    have h9 := (N7.cell 9).trans (by rfl)
    have h10 := (N7.cell 10).trans (by rfl)
    have h11 := (N7.cell 11).trans (by rfl)
    have h12 := (N7.cell 12).trans (by rfl)
    have h13 := (N7.cell 13).trans (by rfl)
    have h14 := (N7.cell 14).trans (by rfl)
    have h15 := (N7.cell 15).trans (by rfl)
    have h16 := (N7.cell 16).trans (by rfl)
    have h17 := (N7.cell 17).trans (by rfl)
    have h18 := (N7.cell 18).trans (by rfl)
    have h19 := (N7.cell 19).trans (by rfl)
    have N7' := Lib.hid N7
    clear N7 M7
    have hms' : msgB d0 d1 d2 d3 d4 d5 d6 d7 d8 (ByteArray.size ⟨#[]⟩) = true := hms
    go_wp2_with fail
    refine (c_MsgRight _ _ _ _ _ _ _ _ _ _ _ (by decide)).mono ?_
    rintro e w8 ⟨rfl, B8⟩
    rw [hms']
    have N8 := N7'.out.keep B8
    have K8 := K7.out.keep B8
    have B8' := B7'.trans (B8.mono B7'.size)
    clear h0 h1 h2 h3 h4 h5 h6 h7 h8 h9 h10 h11 h12 h13 h14 h15 h16 h17 h18 h19 B7' B8 N7' K7
    have h0 := (N8.cell 0).trans (by rfl)
    have h1 := (N8.cell 1).trans (by rfl)
    have h2 := (N8.cell 2).trans (by rfl)
    have h3 := (N8.cell 3).trans (by rfl)
    have h4 := (N8.cell 4).trans (by rfl)
    have h5 := (N8.cell 5).trans (by rfl)
    have h6 := (N8.cell 6).trans (by rfl)
    have h7 := (N8.cell 7).trans (by rfl)
    have h8 := (N8.cell 8).trans (by rfl)
    have h9 := (N8.cell 9).trans (by rfl)
    have h10 := (N8.cell 10).trans (by rfl)
    have h11 := (N8.cell 11).trans (by rfl)
    have h12 := (N8.cell 12).trans (by rfl)
    have h13 := (N8.cell 13).trans (by rfl)
    have h14 := (N8.cell 14).trans (by rfl)
    have h15 := (N8.cell 15).trans (by rfl)
    have h16 := (N8.cell 16).trans (by rfl)
    have h17 := (N8.cell 17).trans (by rfl)
    have h18 := (N8.cell 18).trans (by rfl)
    have h19 := (N8.cell 19).trans (by rfl)
    have k0 := (K8.cell 0).trans (by rfl)
    have N8' := Lib.hid N8
    have K8' := Lib.hid K8
    clear N8 K8
    have H1' := Lib.hid (H1.out.keep B8')
    clear H1 H0
    by_cases hcmp : min 1000000 (b6 + a8) ≤ b6
    · have hb6 : b6 = 1000000 := by omega
      subst hb6
      have j1 : decide (min 1000000 (1000000 + a8) ≤ 1000000) = true := decide_eq_true hcmp
      go_wp2_with fail
      refine (l_at _ _ _ 0 50 _ H1'.out g1 (by omega) (by omega) (by omega)).mono ?_
      rintro e w9 ⟨r1, rfl, r10, r11, rfl⟩
      go_wp2_with fail
      refine (l_at _ _ _ 1 200 _ H1'.out g1 (by omega) (by omega) (by omega)).mono ?_
      rintro e w9 ⟨r2, rfl, r20, r21, rfl⟩
      have j2 : decide (1000001 + r1 > 1000000) = true := decide_eq_true (by omega)
      go_wp2_with fail
      go_ret
      exact ⟨rfl, B8'⟩
    · have j1 : decide (min 1000000 (b6 + a8) ≤ b6) = false := decide_eq_false hcmp
      have hb6 : b6 < 1000000 := by omega
      go_wp2_with fail
      refine (l_at _ _ _ 0 50 _ H1'.out g1 (by omega) (by omega) (by omega)).mono ?_
      rintro e w9 ⟨r1, rfl, r10, r11, rfl⟩
      go_wp2_with fail
      refine (l_at _ _ _ 1 200 _ H1'.out g1 (by omega) (by omega) (by omega)).mono ?_
      rintro e w9 ⟨am, rfl, r20, r21, rfl⟩
      by_cases hun : b6 + 1 + r1 > 1000000
      · have j2 : decide (b6 + 1 + r1 > 1000000) = true := decide_eq_true hun
        go_wp2_with fail
        go_ret
        exact ⟨rfl, B8'⟩
      · have j2 : decide (b6 + 1 + r1 > 1000000) = false := decide_eq_false hun
        have hb := hcl
        simp only [clB, Bool.and_eq_true, Bool.or_eq_true, bIn_true, beq_iff_eq] at hb
        have hm3 : msgB 3 b0 d2 0 0 0 am (b6 + 1 + r1) 0 (ByteArray.size ⟨#[]⟩) = true := by show msgB 3 b0 d2 0 0 0 am (b6 + 1 + r1) 0 0 = true; simp [msgB, bIn_true]; omega
        have hT : 0 ≤ (b6 + 1 + r1 - b6).tdiv 2 ∧ (b6 + 1 + r1 - b6).tdiv 2 ≤ 1 + r1 := by
          rw [Int.tdiv_eq_ediv_of_nonneg (by omega)]; omega
        go_wp2_with fail
        refine (c_hear_new b0 b1 b2 b3 0 0 b6 (min 1000000 (b6 + a8)) b8 d2 b6 3 b0 d2 0 0 0 am (b6 + 1 + r1) 0 ⟨#[]⟩ _ (by decide) hcl hm3 (bIn_true.mpr ⟨hn0, hn1⟩) rfl rfl rfl rfl (by omega)).mono ?_
        have hX : b6 < min 1000000 (b6 + max 1 ((b6 + 1 + r1 - b6).tdiv 2)) ∧ min 1000000 (b6 + max 1 ((b6 + 1 + r1 - b6).tdiv 2)) ≤ b6 + 1 + r1 := by omega
        generalize min 1000000 (b6 + max 1 ((b6 + 1 + r1 - b6).tdiv 2)) = X at hX ⊢
        have hcl2 : clB b0 b1 b2 b3 am (b6 + 1 + r1) b6 X 1 d2 = true := by
          simp only [clB, Bool.and_eq_true, Bool.or_eq_true, bIn_true, beq_iff_eq]; omega
        rintro e w10 ⟨rfl, B10⟩
        have B10' := B8'.trans (B10.mono B8'.size)
        have l10 := B10'.size
        clear h0 h1 h2 h3 h4 h5 h6 h7 h8 h9 h10 h11 h12 h13 h14 h15 h16 h17 h18 h19 k0 B8' B10 N8' K8'
        go_upto_region 17 with (first | ((with_reducible refine at_store (ty := 30) (y := .tmp 97) ?_); refine wpl_store_row rfl 30 (.tmp 11) (.tmp 97) rfl w10.heap.size _ rfl rfl (B := w.heap.size) (n := 22) (t := 30) (Room.new l10 rfl) rfl (by kernel_rfl) (by simp [Value.oneCell']) (fun hblk => ?_)) | fail)
        have B11 := below_setRow (B10'.alloc l10 (.cells #[.int .i64 0, .int .i64 0, .int .i64 0, .int .i64 0, .int .i64 0, .int .i64 0, .int .i64 0, .int .i64 0, .int .i64 0, .int .i64 0, .int .i64 0, .int .i64 0, .int .i64 0, .int .i64 0, .int .i64 0, .int .i64 0, .int .i64 0, .int .i64 0, .int .i64 0, .string ⟨#[]⟩, .bool false, .int .i64 0] 30)) l10 #[.int .i64 b0, .int .i64 b1, .int .i64 b2, .int .i64 b3, .int .i64 am, .int .i64 (b6 + 1 + r1), .int .i64 b6, .int .i64 X, .int .i64 1, .int .i64 d2, .int .i64 0, .int .i64 0, .int .i64 0, .int .i64 0, .int .i64 0, .int .i64 0, .int .i64 0, .int .i64 0, .int .i64 0, .string ⟨#[]⟩, .bool false, .int .i64 0]
        have N11 := Lib.hid hblk
        clear hblk B10'
        generalize (w10.alloc (.cells #[.int .i64 0, .int .i64 0, .int .i64 0, .int .i64 0, .int .i64 0, .int .i64 0, .int .i64 0, .int .i64 0, .int .i64 0, .int .i64 0, .int .i64 0, .int .i64 0, .int .i64 0, .int .i64 0, .int .i64 0, .int .i64 0, .int .i64 0, .int .i64 0, .int .i64 0, .string ⟨#[]⟩, .bool false, .int .i64 0] 30)).setRow w10.heap.size #[.int .i64 b0, .int .i64 b1, .int .i64 b2, .int .i64 b3, .int .i64 am, .int .i64 (b6 + 1 + r1), .int .i64 b6, .int .i64 X, .int .i64 1, .int .i64 d2, .int .i64 0, .int .i64 0, .int .i64 0, .int .i64 0, .int .i64 0, .int .i64 0, .int .i64 0, .int .i64 0, .int .i64 0, .string ⟨#[]⟩, .bool false, .int .i64 0] = w11 at N11 B11 ⊢
        have h0 := (N11.out.cell 0).trans (by rfl)
        have h1 := (N11.out.cell 1).trans (by rfl)
        have h2 := (N11.out.cell 2).trans (by rfl)
        have h3 := (N11.out.cell 3).trans (by rfl)
        have h4 := (N11.out.cell 4).trans (by rfl)
        have h5 := (N11.out.cell 5).trans (by rfl)
        have h6 := (N11.out.cell 6).trans (by rfl)
        have h7 := (N11.out.cell 7).trans (by rfl)
        have h8 := (N11.out.cell 8).trans (by rfl)
        have h9 := (N11.out.cell 9).trans (by rfl)
        have h21 := (N11.out.cell 21).trans (by rfl)
        go_wp2_with fail
        refine (c_ClientUses _ _ _ _ _ _ _ _ _ _ _ am _ hcl2 (by rw [if_pos (by omega)])).mono ?_
        rintro e w12 ⟨rfl, B12⟩
        have B12' := B11.trans (B12.mono B11.size)
        have N12 := Lib.hid (N11.out.keep B12)
        clear h0 h1 h2 h3 h4 h5 h6 h7 h8 h9; clear h21 N11 B11 B12
        have h0 := (N12.out.cell 0).trans (by rfl)
        have h1 := (N12.out.cell 1).trans (by rfl)
        have h2 := (N12.out.cell 2).trans (by rfl)
        have h3 := (N12.out.cell 3).trans (by rfl)
        have h4 := (N12.out.cell 4).trans (by rfl)
        have h5 := (N12.out.cell 5).trans (by rfl)
        have h6 := (N12.out.cell 6).trans (by rfl)
        have h7 := (N12.out.cell 7).trans (by rfl)
        have h8 := (N12.out.cell 8).trans (by rfl)
        have h9 := (N12.out.cell 9).trans (by rfl)
        go_wp2_with fail
        refine (c_ClientUses _ _ _ _ _ _ _ _ _ _ _ am _ hcl2 (by rw [if_pos (by omega)])).mono ?_
        rintro e w13 ⟨rfl, B13⟩
        have B13' := B12'.trans (B13.mono B12'.size)
        have N13 := Lib.hid (N12.out.keep B13)
        clear h0 h1 h2 h3 h4 h5 h6 h7 h8 h9; clear N12 B12' B13
        have h0 := (N13.out.cell 0).trans (by rfl)
        have h1 := (N13.out.cell 1).trans (by rfl)
        have h2 := (N13.out.cell 2).trans (by rfl)
        have h3 := (N13.out.cell 3).trans (by rfl)
        have h4 := (N13.out.cell 4).trans (by rfl)
        have h5 := (N13.out.cell 5).trans (by rfl)
        have h6 := (N13.out.cell 6).trans (by rfl)
        have h7 := (N13.out.cell 7).trans (by rfl)
        have h8 := (N13.out.cell 8).trans (by rfl)
        have h9 := (N13.out.cell 9).trans (by rfl)
        go_wp2_with fail
        refine (c_ClientUses _ _ _ _ _ _ _ _ _ _ _ 0 _ hcl2 (by rw [if_neg (by omega)])).mono ?_
        rintro e w14 ⟨rfl, B14⟩
        have B14' := B13'.trans (B14.mono B13'.size)
        have N14 := Lib.hid (N13.out.keep B14)
        clear h0 h1 h2 h3 h4 h5 h6 h7 h8 h9; clear N13 B13' B14
        have h7 := (N14.out.cell 7).trans (by rfl)
        have j3 : decide (X > b6) = true := decide_eq_true (by omega)
        have j4 : decide (X ≤ max (b6 + 1 + r1) (b6 + 1)) = true := decide_eq_true (by omega)
        have j5 : IntKind.i64.wrap (b6 + 1) = b6 + 1 := by rw [IntKind.wrap_i64]; omega
        go_wp2_with fail
        go_quiet (first | (go_at_call 17; exact quiet_left (l_max _ _ _)) | fail)
        go_wp2_with fail
        go_ret
        exact ⟨rfl, below_drewN B14' _⟩
theorem l_FnClient : OFnClient.Walks := by
  rintro y0 y1 A0 c0 A1 c1 w f0 f1 - h0 - h1
  have H0 := Lib.hid (bytes_in h0 f0)
  have H1 := Lib.hid (bytes_in h1 f1)
  clear h0 h1 f0 f1
  generalize y0.length = n0 at *
  generalize y1.length = n1 at *
  by_cases g0 : n0 ≤ 1048576
  · by_cases g1 : n1 ≤ 1048576
    · exact client_law _ _ _ _ _ _ w H0.out H1.out g0 g1
    · have i0 : decide ((n0 : Int) > 1048576) = false := decide_eq_false (by omega)
      have i1 : decide ((n1 : Int) > 1048576) = true := decide_eq_true (by omega)
      go_enter Try.func3, Try.ntmps3
      go_wp2
      go_ret
      exact ⟨rfl, Below.refl _ _⟩
  · have i0 : decide ((n0 : Int) > 1048576) = true := decide_eq_true (by omega)
    go_enter Try.func3, Try.ntmps3
    go_wp2
    go_ret
    exact ⟨rfl, Below.refl _ _⟩
end Go.Proofs.Ytddemmmbbleofaa.C
