/- Wide numbers: what the functions of the program and of the reference answer. -/
import Derived.Test.YtddemmmbbleofaaLaw
import Derived.Test.YtddemmmbbleofaaWideM
import Derived.LoopTactic
namespace Go.Proofs.Ytddemmmbbleofaa.C
open Go.RowKit Go.Proofs.Ytddemmmbbleofaa.Wd
set_option maxRecDepth 100000
set_option linter.unusedVariables false
set_option linter.unusedSimpArgs false
attribute [local go_sem ↓] Go.wp_at_zero Go.wp_at_succ
theorem field_W (a b : Int) (q : Bool) (c : Int) (W : World) : (Instr.field 121 (.agg #[.int .u64 a, .int .u64 b, .bool q, .int .i64 c]) 0).run Try.prog W = .ok (.agg #[.int .u64 a, .int .u64 b]) W := by kernel_rfl
/-- The sign of a comparison; the first of two that is not nought. -/
def sg (x y : Int) : Int := if x < y then -1 else if y < x then 1 else 0
def orv (a b : Int) : Int := if a = 0 then b else a
def SumIs (s : Int) (w : World) (e : Ending) (w' : World) : Prop := ∃ q : Bool, e = .returned (.agg #[.int .u64 (hi s), .int .u64 (lo s), .bool q, .int .i64 0]) ∧ Below w.heap.size w w'
set_option maxHeartbeats 1000000 in
theorem s_WideAdd (v u : Int) (w : World) : Calls Try.prog 102 #[.agg #[.int .u64 (hi v), .int .u64 (lo v)], .agg #[.int .u64 (hi u), .int .u64 (lo u)]] w (SumIs (v + u) w) := by
  have hu117 := Try.underlying117
  have hu121 := Try.underlying121
  have e1 := lo_add v u
  by_cases c : lo (v + u) < lo v
  · have e2 := hi_add1 v u c
    go_enter Try.func102, Try.ntmps102
    go_wp2
    all_goals (refine bodyPost_ret (v := .agg #[.int .u64 (hi (v + u)), .int .u64 (lo (v + u)), .bool _, .int .i64 0]) (by simp [results, Try.results102, go_sem, e2]; rfl) rfl ⟨_, rfl, ?_⟩; (repeat (first | exact Below.refl _ _ | apply Below.drew | refine Below.alloc ?_ (by first | (simp; done) | (simp; omega)) _ | refine Below.setCell ?_ (by first | (simp; done) | (simp; omega)) _)))
  · have e2 := hi_add0 v u c
    have r1 := hi_range (v + u)
    have e3 : IntKind.u64.wrap (hi (v + u) + 0) = hi (v + u) := by rw [IntKind.wrap_u64]; omega
    go_enter Try.func102, Try.ntmps102
    go_wp2
    all_goals (refine bodyPost_ret (v := .agg #[.int .u64 (hi (v + u)), .int .u64 (lo (v + u)), .bool _, .int .i64 0]) (by simp [results, Try.results102, go_sem, e2, e3]; rfl) rfl ⟨_, rfl, ?_⟩; (repeat (first | exact Below.refl _ _ | apply Below.drew | refine Below.alloc ?_ (by first | (simp; done) | (simp; omega)) _ | refine Below.setCell ?_ (by first | (simp; done) | (simp; omega)) _)))
set_option maxHeartbeats 1000000 in
theorem s_WideShl (n : Nat) (v : Int) (w : World) (hn : n ≤ 127) : Calls Try.prog 103 #[.agg #[.int .u64 (hi (v)), .int .u64 (lo (v))], .int .i64 n] w fun e w' => e = .returned (.agg #[.int .u64 (hi (v * 2 ^ n)), .int .u64 (lo (v * 2 ^ n))]) ∧ Below w.heap.size w w' := by
  have hu117 := Try.underlying117
  have hu121 := Try.underlying121
  have b1 : decide ((n : Int) < 0) = false := decide_eq_false (by omega)
  have b2 : decide ((127 : Int) < n) = false := decide_eq_false (by omega)
  have hfd := field_W
  go_enter Try.func103, Try.ntmps103
  go_wp2_with fail
  go_loopw [1] (fun n' wr => ∃ j : Nat, j ≤ n ∧ n' = .int .i64 ((n : Int) - (j : Int)) ∧ Blk wr 0 w.heap.size #[.int .u64 (hi (v * 2 ^ j)), .int .u64 (lo (v * 2 ^ j))] 117 ∧ Blk wr 0 (w.heap.size + 1) #[.int .u64 0, .int .u64 0] 117 ∧ Below w.heap.size w wr) (fun n' _ => (intOf n').toNat)
  case atStart => exact ⟨0, Nat.zero_le _, by simp, by rw [Int.pow_zero, Int.mul_one]; exact ⟨Nat.zero_le _, heap_alloc2_old ..⟩, ⟨Nat.zero_le _, heap_alloc2_new ..⟩, ((Below.refl _ w).alloc (Nat.le_refl _) _).alloc (by simp) _⟩
  case round =>
    obtain ⟨j, hj, rfl, hA, hB, hW⟩ := hrel
    have HA := Lib.hid hA
    have HB := Lib.hid hB
    clear hA hB
    by_cases hlt : j < n
    · have b3 : decide ((0 : Int) < (n : Int) - (j : Int)) = true := decide_eq_true (by omega)
      go_wp2_with (first | ((with_reducible refine at_load (ty := 117) (x := .tmp 2) ?_); refine wpl_load_row rfl 117 (.tmp 2) rfl _ rfl (B := 0) (n := 2) (t := 117) (cs := #[.int .u64 (hi (v * 2 ^ j)), .int .u64 (lo (v * 2 ^ j))]) HA.out rfl (by kernel_rfl) Try.underlying117 rfl ?_) | (go_at_call 102; refine (s_WideAdd _ _ _).mono ?_; rintro e w' ⟨q, rfl, hb⟩) | ((with_reducible refine at_store (ty := 117) (y := .tmp 19) ?_); refine wpl_store_row rfl 117 (.tmp 2) (.tmp 19) rfl w.heap.size _ rfl rfl (B := w.heap.size) (n := 2) (t := 117) ((HA.out.keep hb).base (Nat.le_refl _) |>.room rfl) rfl (by kernel_rfl) (by simp [Value.oneCell']) (fun hblk => ?_)))
      go_roundw
      case rel => exact ⟨j + 1, by omega, by go_num, hblk.base (Nat.zero_le _) |>.cast (by rw [double]), (HB.out.keep hb).far (by omega) _, below_setRow (btrans hW hb) (Nat.le_refl _) _⟩
      case measure => simp [intOf]; omega
    · obtain rfl : j = n := by omega
      have b3 : decide ((0 : Int) < (j : Int) - (j : Int)) = false := decide_eq_false (by omega)
      go_wp2_with (first | ((with_reducible refine at_load (ty := 117) (x := .tmp 2) ?_); refine wpl_load_row rfl 117 (.tmp 2) rfl _ rfl (B := 0) (n := 2) (t := 117) (cs := #[.int .u64 (hi (v * 2 ^ j)), .int .u64 (lo (v * 2 ^ j))]) HA.out rfl (by kernel_rfl) Try.underlying117 rfl ?_) | ((with_reducible refine at_store (ty := 117) (y := .tmp 20) ?_); refine wpl_store_row rfl 117 (.tmp 4) (.tmp 20) rfl (w.heap.size + 1) _ rfl rfl (B := w.heap.size) (n := 2) (t := 117) (HB.out.base (by omega) |>.room rfl) rfl (by kernel_rfl) (by simp [Value.oneCell']) (fun hblk => ?_)))
      exact bodyPost_ret (v := .agg #[.int .u64 (hi (v * 2 ^ j)), .int .u64 (lo (v * 2 ^ j))]) (results_cell_row rfl _ _ _ _ _ _ _ rfl hblk.2 Try.underlying117 rfl (by kernel_rfl)) rfl ⟨rfl, below_setRow hW (by omega) _⟩
set_option maxHeartbeats 2000000 in
theorem s_WideMul (a b : Int) (w : World) (a0 : 0 ≤ a) (a1 : a < 18446744073709551616) (b0 : 0 ≤ b) (b1 : b < 18446744073709551616) : Calls Try.prog 97 #[.int .u64 a, .int .u64 b] w fun e w' => e = .returned (.agg #[.int .u64 (hi (a * b)), .int .u64 (lo (a * b))]) ∧ Below w.heap.size w w' := by
  have hu117 := Try.underlying117
  have hu121 := Try.underlying121
  have hfd := field_W
  go_enter Try.func97, Try.ntmps97
  go_wp2_with fail
  go_loopw [6] (fun i' wr => ∃ i : Nat, i ≤ 64 ∧ i' = .int .i64 i ∧ Blk wr 0 (w.heap.size + 1) #[.int .u64 (hi (a * (b % 2 ^ i))), .int .u64 (lo (a * (b % 2 ^ i)))] 117 ∧ Blk wr 0 w.heap.size #[.int .u64 0, .int .u64 0] 117 ∧ Below w.heap.size w wr) (fun i' _ => 64 - (intOf i').toNat)
  case atStart => exact ⟨0, Nat.zero_le _, rfl, by rw [Int.pow_zero, Int.emod_one, Int.mul_zero]; exact ⟨Nat.zero_le _, heap_alloc2_new ..⟩, ⟨Nat.zero_le _, heap_alloc2_old ..⟩, ((Below.refl _ w).alloc (Nat.le_refl _) _).alloc (by simp) _⟩
  case round =>
    obtain ⟨i, hi', rfl, hA, hB, hW⟩ := hrel
    have HA := Lib.hid hA
    have HB := Lib.hid hB
    have hz := hA.lt
    clear hA hB
    by_cases hlt : i < 64
    · have hm := Lib.hid (mod_succ b i)
      have hbit := bit_of b i b0 b1 hlt
      by_cases c : b / 2 ^ i % 2 = 1
      · have hbit2 : bits .and .u64 (b / 2 ^ i) 1 = 1 := hbit.trans c
        have C := Lib.hid c
        clear hbit c
        go_upto_region 6 with fail
        have e0 := (HA.out.drew.cell 0).trans (by rfl)
        have e1 := (HA.out.drew.cell 1).trans (by rfl)
        have H0 : hi a = 0 := hi_small a a0 a1
        have H1 : lo a = a := lo_small a a0 a1
        have sh := fun W => s_WideShl i a W (by omega)
        rw [H0, H1] at sh
        have SH := Lib.hid sh
        clear sh H0 H1
        go_region_with (first
          | (go_at_call 103; refine (SH.out _).mono ?_; rintro e w' ⟨rfl, hb1⟩; have HA1 := HA.out.drew.keep hb1; have e2 := (HA1.cell 0).trans (by rfl); have e3 := (HA1.cell 1).trans (by rfl))
          | (go_at_call 102; refine (s_WideAdd _ _ _).mono ?_; rintro e w' ⟨q, rfl, hb2⟩; have HA2 := HA1.keep hb2; have e4 := (HA2.cell 0).trans (by rfl); have e5 := (HA2.cell 1).trans (by rfl); have f4 := HA2.frozen 0; have f5 := HA2.frozen 1))
        all_goals go_wp2
        all_goals go_roundw
        all_goals (try (case rel => exact ⟨i + 1, by omega, by go_num, ((HA2.setc 0 _).setc 1 _).cast (by rw [hm.out, C.out, Int.mul_one, Int.mul_add]; rfl), ((((HB.out.drew.keep hb1).keep hb2).setf (by dsimp only; omega) _).setf (by dsimp only; omega) _), ((btrans (btrans hW.drew hb1) hb2).setCell (by dsimp only; omega) _).setCell (by dsimp only; omega) _⟩))
        all_goals (try (case measure => simp [intOf]; omega))
      · have hbit2 : bits .and .u64 (b / 2 ^ i) 1 = 0 := hbit.trans (by omega)
        have C := Lib.hid (show b / 2 ^ i % 2 = 0 from by omega)
        clear hbit c
        go_wp2
        go_roundw
        case rel => exact ⟨i + 1, by omega, by go_num, HA.out.cast (by rw [hm.out, C.out, Int.mul_zero, Int.add_zero]), HB.out, hW⟩
        case measure => simp [intOf]; omega
    · obtain rfl : i = 64 := by omega
      have EB := Lib.hid (show a * (b % 2 ^ 64) = a * b from by rw [Int.emod_eq_of_lt b0 (by rw [show (2 : Int) ^ 64 = 18446744073709551616 from rfl]; exact b1)])
      go_wp2_with (first | ((with_reducible refine at_load (ty := 117) (x := .tmp 5) ?_); refine wpl_load_row rfl 117 (.tmp 5) rfl _ rfl (B := 0) (n := 2) (t := 117) (cs := #[.int .u64 (hi (a * (b % 2 ^ 64))), .int .u64 (lo (a * (b % 2 ^ 64)))]) HA.out rfl (by kernel_rfl) Try.underlying117 rfl ?_) | ((with_reducible refine at_store (ty := 117) (y := .tmp 25) ?_); refine wpl_store_row rfl 117 (.tmp 4) (.tmp 25) rfl w.heap.size _ rfl rfl (B := w.heap.size) (n := 2) (t := 117) (HB.out.base (Nat.le_refl _) |>.room rfl) rfl (by kernel_rfl) (by simp [Value.oneCell']) (fun hblk => ?_)))
      exact bodyPost_ret (v := .agg #[.int .u64 (hi (a * (b % 2 ^ 64))), .int .u64 (lo (a * (b % 2 ^ 64)))]) (results_cell_row rfl _ _ _ _ _ _ _ rfl hblk.2 Try.underlying117 rfl (by kernel_rfl)) rfl ⟨by rw [EB.out], below_setRow hW (Nat.le_refl _) _⟩
/-- What a comparison of two Wides tells. -/
def wcmp (a0 a1 b0 b1 : Int) : Int := orv (sg a0 b0) (sg a1 b1)
theorem sg_lt {x y : Int} (h : x < y) : sg x y = -1 := if_pos h
theorem sg_gt {x y : Int} (h : y < x) : sg x y = 1 := by unfold sg; rw [if_neg (by omega), if_pos h]
theorem sg_eq (x : Int) : sg x x = 0 := by unfold sg; rw [if_neg (by omega), if_neg (by omega)]
set_option maxHeartbeats 1000000 in
theorem s_WideCmp (a0 a1 b0 b1 : Int) (w : World) : Calls Try.prog 96 #[.agg #[.int .u64 a0, .int .u64 a1], .agg #[.int .u64 b0, .int .u64 b1]] w fun e w' => e = .returned (.int .i64 (wcmp a0 a1 b0 b1)) ∧ Below w.heap.size w w' := by
  have hu117 := Try.underlying117
  by_cases h : a0 = b0
  · subst h
    rcases Int.lt_trichotomy a1 b1 with h2 | h2 | h2
    · have E := Lib.hid (show wcmp a0 a1 a0 b1 = -1 from by unfold wcmp orv; rw [sg_eq, if_pos rfl, sg_lt h2])
      go_enter Try.func96, Try.ntmps96
      go_wp2
      go_ret
      exact ⟨by rw [E.out]; rfl, by (repeat (first | exact Below.refl _ _ | apply Below.drew | refine Below.alloc ?_ (by first | (simp; done) | (simp; omega)) _ | refine Below.setCell ?_ (by first | (simp; done) | (simp; omega)) _))⟩
    · subst h2
      have E := Lib.hid (show wcmp a0 a1 a0 a1 = 0 from by unfold wcmp orv; rw [sg_eq, if_pos rfl, sg_eq])
      go_enter Try.func96, Try.ntmps96
      go_wp2
      go_ret
      exact ⟨by rw [E.out]; rfl, by (repeat (first | exact Below.refl _ _ | apply Below.drew | refine Below.alloc ?_ (by first | (simp; done) | (simp; omega)) _ | refine Below.setCell ?_ (by first | (simp; done) | (simp; omega)) _))⟩
    · have E := Lib.hid (show wcmp a0 a1 a0 b1 = 1 from by unfold wcmp orv; rw [sg_eq, if_pos rfl, sg_gt h2])
      have n2 : ¬ a1 < b1 := by omega
      go_enter Try.func96, Try.ntmps96
      go_wp2
      go_ret
      exact ⟨by rw [E.out]; rfl, by (repeat (first | exact Below.refl _ _ | apply Below.drew | refine Below.alloc ?_ (by first | (simp; done) | (simp; omega)) _ | refine Below.setCell ?_ (by first | (simp; done) | (simp; omega)) _))⟩
  · have bh : (a0 == b0) = false := beq_eq_false_iff_ne.mpr h
    by_cases h2 : a0 < b0
    · have E := Lib.hid (show wcmp a0 a1 b0 b1 = -1 from by unfold wcmp orv; rw [sg_lt h2, if_neg (by omega)])
      clear h
      go_enter Try.func96, Try.ntmps96
      go_wp2
      go_ret
      exact ⟨by rw [E.out]; rfl, by (repeat (first | exact Below.refl _ _ | apply Below.drew | refine Below.alloc ?_ (by first | (simp; done) | (simp; omega)) _ | refine Below.setCell ?_ (by first | (simp; done) | (simp; omega)) _))⟩
    · have E := Lib.hid (show wcmp a0 a1 b0 b1 = 1 from by unfold wcmp orv; rw [sg_gt (show b0 < a0 by omega), if_neg (by omega)])
      clear h
      go_enter Try.func96, Try.ntmps96
      go_wp2
      go_ret
      exact ⟨by rw [E.out]; rfl, by (repeat (first | exact Below.refl _ _ | apply Below.drew | refine Below.alloc ?_ (by first | (simp; done) | (simp; omega)) _ | refine Below.setCell ?_ (by first | (simp; done) | (simp; omega)) _))⟩
/-- Two products compared. -/
def pcmp (a b c d : Int) : Int := wcmp (hi (a * b)) (lo (a * b)) (hi (c * d)) (lo (c * d))
theorem u64_in {a : Int} (h0 : 0 ≤ a) (h1 : a < 18446744073709551616) : IntKind.u64.wrap a = a := by rw [IntKind.wrap_u64]; omega
theorem s_times (a b c d : Int) (w : World) (a0 : 0 ≤ a) (a1 : a < 144115188075855872) (b0 : 0 ≤ b) (b1 : b < 144115188075855872) (c0 : 0 ≤ c) (c1 : c < 144115188075855872) (d0 : 0 ≤ d) (d1 : d < 144115188075855872) :
    Calls Try.prog 76 #[.int .i64 a, .int .i64 b, .int .i64 c, .int .i64 d] w fun e w' => e = .returned (.int .i64 (pcmp a b c d)) ∧ Below w.heap.size w w' := by
  have ea := u64_in a0 (by omega)
  have eb := u64_in b0 (by omega)
  have ec := u64_in c0 (by omega)
  have ed := u64_in d0 (by omega)
  go_enter Try.func76, Try.ntmps76
  go_wp2_with fail
  refine (s_WideMul a b _ a0 (by omega) b0 (by omega)).mono ?_
  rintro e w1 ⟨rfl, h1⟩
  go_wp2_with fail
  refine (s_WideMul c d _ c0 (by omega) d0 (by omega)).mono ?_
  rintro e w2 ⟨rfl, h2⟩
  go_wp2_with fail
  refine (s_WideCmp _ _ _ _ _).mono ?_
  rintro e w3 ⟨rfl, h3⟩
  go_wp2
  go_ret
  exact ⟨rfl, btrans (btrans h1 h2) h3⟩
set_option maxHeartbeats 1000000 in
theorem c_Mul64 (a b : Int) (w : World) (a0 : 0 ≤ a) (a1 : a < 144115188075855872) (b0 : 0 ≤ b) (b1 : b < 144115188075855872) :
    Calls Try.prog 110 #[.int .u64 a, .int .u64 b] w fun e w' => e = .returned (.tuple #[.int .u64 (hi (a * b)), .int .u64 (lo (a * b))]) ∧ w = w' := by
  have E := Lib.hid (mul_impl a b a0 a1 b0 b1)
  have E2 := Lib.hid (show IntKind.u64.wrap (a * b) = lo (a * b) from IntKind.wrap_u64 _)
  go_enter Try.func110, Try.ntmps110
  go_wp2
  go_ret2
  exact ⟨by rw [← E.out, ← E2.out]; rfl, rfl⟩
theorem c_WideMul (a b : Int) (w : World) (a0 : 0 ≤ a) (a1 : a < 144115188075855872) (b0 : 0 ≤ b) (b1 : b < 144115188075855872) :
    Calls Try.prog 108 #[.int .u64 a, .int .u64 b] w fun e w' => e = .returned (.agg #[.int .u64 (hi (a * b)), .int .u64 (lo (a * b))]) ∧ Below w.heap.size w w' := by
  have hu117 := Try.underlying117
  go_enter Try.func108, Try.ntmps108
  go_wp2_with (go_at_call 110; refine (c_Mul64 _ _ _ a0 a1 b0 b1).mono ?_; rintro e w' ⟨rfl, rfl⟩)
  exact bodyPost_ret (v := .agg #[.int .u64 (hi (a * b)), .int .u64 (lo (a * b))]) (by simp [results, Try.results108, go_sem]) rfl ⟨rfl, by (repeat (first | exact Below.refl _ _ | apply Below.drew | refine Below.alloc ?_ (by first | (simp; done) | (simp; omega)) _ | refine Below.setCell ?_ (by first | (simp; done) | (simp; omega)) _))⟩
theorem c_product (a b : Int) (w : World) (a0 : 0 ≤ a) (a1 : a < 144115188075855872) (b0 : 0 ≤ b) (b1 : b < 144115188075855872) :
    Calls Try.prog 105 #[.int .i64 a, .int .i64 b] w fun e w' => e = .returned (.agg #[.int .u64 (hi (a * b)), .int .u64 (lo (a * b))]) ∧ Below w.heap.size w w' := by
  have hu117 := Try.underlying117
  have ea := u64_in a0 (by omega)
  have eb := u64_in b0 (by omega)
  go_enter Try.func105, Try.ntmps105
  go_wp2_with fail
  refine (c_WideMul a b _ a0 a1 b0 b1).mono ?_
  rintro e w1 ⟨rfl, h1⟩
  have hz := h1.size
  simp at hz
  have bl : Blk w1 0 w.heap.size #[.int .u64 0, .int .u64 0] 117 := Blk.keep ⟨Nat.zero_le _, heap_alloc_new ..⟩ h1
  have HB := Lib.hid bl
  clear bl
  go_wp2_with (first | ((with_reducible refine at_store (ty := 117) ?_); refine wpl_store_row rfl 117 _ _ rfl w.heap.size _ rfl rfl (B := w.heap.size) (n := 2) (t := 117) (HB.out.base (Nat.le_refl _) |>.room rfl) rfl (by kernel_rfl) (by simp [Value.oneCell']) (fun hblk => ?_)))
  exact bodyPost_ret (v := .agg #[.int .u64 (hi (a * b)), .int .u64 (lo (a * b))]) (results_cell_row rfl _ _ _ _ _ _ _ rfl hblk.2 Try.underlying117 rfl (by kernel_rfl)) rfl ⟨rfl, below_setRow (balloc (Below.refl _ w) h1) (Nat.le_refl _) _⟩
theorem c_isNaN (a : Int) (w : World) : Calls Try.prog 109 #[.int .u64 a] w fun e w' => e = .returned (.bool false) ∧ w = w' := by
  go_enter Try.func109, Try.ntmps109
  go_wp2
  go_ret
  exact ⟨by first | rfl | simp, rfl⟩
theorem c_Compare (a b : Int) (w : World) : Calls Try.prog 107 #[.int .u64 a, .int .u64 b] w fun e w' => e = .returned (.int .i64 (sg a b)) ∧ w = w' := by
  rcases Int.lt_trichotomy a b with h2 | h2 | h2
  · have E := Lib.hid (sg_lt h2)
    go_enter Try.func107, Try.ntmps107
    go_wp2_with (go_at_call 109; refine (c_isNaN _ _).mono ?_; rintro e w' ⟨rfl, rfl⟩)
    go_ret
    exact ⟨by rw [E.out]; rfl, rfl⟩
  · subst h2
    have E := Lib.hid (sg_eq a)
    go_enter Try.func107, Try.ntmps107
    go_wp2_with (go_at_call 109; refine (c_isNaN _ _).mono ?_; rintro e w' ⟨rfl, rfl⟩)
    go_ret
    exact ⟨by rw [E.out]; rfl, rfl⟩
  · have E := Lib.hid (sg_gt h2)
    have n2 : ¬ a < b := by omega
    go_enter Try.func107, Try.ntmps107
    go_wp2_with (go_at_call 109; refine (c_isNaN _ _).mono ?_; rintro e w' ⟨rfl, rfl⟩)
    go_ret
    exact ⟨by rw [E.out]; rfl, rfl⟩
theorem c_Or2 (g : Nat) (a b : Int) (w : World) (h0 : w.cell? ⟨g, 0, none⟩ = some (.int .i64 a)) (h1 : w.cell? ⟨g, 1, none⟩ = some (.int .i64 b)) :
    Calls Try.prog 106 #[.slice (some ⟨g, 0, none⟩) 2 2] w fun e w' => e = .returned (.int .i64 (orv a b)) ∧ w = w' := by
  by_cases c : a = 0
  · have E := Lib.hid (show orv a b = b from if_pos c)
    subst c
    by_cases d : b = 0
    · subst d
      go_enter Try.func106, Try.ntmps106
      go_wp2
      refine wp_loop_rounds 3 ?_
      rw [rounds_succ]
      go_wp2
      rw [rounds_succ]
      go_wp2
      rw [rounds_succ]
      go_wp2
      go_ret
      exact ⟨by rw [E.out]; rfl, rfl⟩
    · have bd : (b == 0) = false := beq_eq_false_iff_ne.mpr d
      have bd' : (b != 0) = true := bne_iff_ne.mpr d
      clear d
      go_enter Try.func106, Try.ntmps106
      go_wp2
      refine wp_loop_rounds 2 ?_
      rw [rounds_succ]
      go_wp2
      rw [rounds_succ]
      go_wp2
      go_ret
      exact ⟨by rw [E.out]; rfl, rfl⟩
  · have E := Lib.hid (show orv a b = a from if_neg c)
    have bd : (a == 0) = false := beq_eq_false_iff_ne.mpr c
    have bd' : (a != 0) = true := bne_iff_ne.mpr c
    clear c
    go_enter Try.func106, Try.ntmps106
    go_wp2
    refine wp_loop_rounds 1 ?_
    rw [rounds_succ]
    go_wp2
    go_ret
    exact ⟨by rw [E.out]; rfl, rfl⟩
set_option maxHeartbeats 1000000 in
theorem c_WideCmp (a0 a1 b0 b1 : Int) (w : World) : Calls Try.prog 104 #[.agg #[.int .u64 a0, .int .u64 a1], .agg #[.int .u64 b0, .int .u64 b1]] w fun e w' => e = .returned (.int .i64 (wcmp a0 a1 b0 b1)) ∧ Below w.heap.size w w' := by
  have hu117 := Try.underlying117
  have hu127 := Try.underlying127
  go_enter Try.func104, Try.ntmps104
  go_wp2_with fail
  go_region_held3 (fun w' => w'.cell? ⟨w.heap.size, 0, none⟩ = some (.int .u64 a0) ∧ w'.cell? ⟨w.heap.size, 1, none⟩ = some (.int .u64 a1) ∧ w'.cell? ⟨w.heap.size + 1, 0, none⟩ = some (.int .u64 b0) ∧ w'.cell? ⟨w.heap.size + 1, 1, none⟩ = some (.int .u64 b1)) (go_keep) (first
    | (go_at_call 107; refine (c_Compare _ _ _).mono ?_; rintro e w' ⟨rfl, rfl⟩)
    | (go_at_call 106; refine (c_Or2 _ (sg a0 b0) (sg a1 b1) _ (c_drew ((cell_third ..).trans (by rfl))) (c_drew ((cell_third ..).trans (by rfl)))).mono ?_; rintro e w' ⟨rfl, rfl⟩))
  all_goals go_wp2
  all_goals go_ret
  all_goals exact ⟨rfl, by (repeat (first | exact Below.refl _ _ | apply Below.drew | refine Below.alloc ?_ (by first | (simp; done) | (simp; omega)) _ | refine Below.setCell ?_ (by first | (simp; done) | (simp; omega)) _))⟩
theorem c_pairs (a b c d : Int) (w : World) (a0 : 0 ≤ a) (a1 : a < 144115188075855872) (b0 : 0 ≤ b) (b1 : b < 144115188075855872) (c0 : 0 ≤ c) (c1 : c < 144115188075855872) (d0 : 0 ≤ d) (d1 : d < 144115188075855872) :
    Calls Try.prog 98 #[.int .i64 a, .int .i64 b, .int .i64 c, .int .i64 d] w fun e w' => e = .returned (.int .i64 (pcmp a b c d)) ∧ Below w.heap.size w w' := by
  go_enter Try.func98, Try.ntmps98
  go_wp2_with fail
  refine (c_product a b _ a0 a1 b0 b1).mono ?_
  rintro e w1 ⟨rfl, h1⟩
  go_wp2_with fail
  refine (c_product c d _ c0 c1 d0 d1).mono ?_
  rintro e w2 ⟨rfl, h2⟩
  go_wp2_with fail
  refine (c_WideCmp _ _ _ _ _).mono ?_
  rintro e w3 ⟨rfl, h3⟩
  go_wp2
  go_ret
  exact ⟨rfl, btrans (btrans h1 h2) h3⟩
/-- Is an item right? -/
def itB (i wa we : Int) : Bool := bIn i 1 1000000 && (bIn wa 0 1125899906842624 && bIn we 1 1073741824)
theorem c_ItemRight (i wa we : Int) (w : World) : Calls Try.prog 77 #[.agg #[.int .i64 i, .int .i64 wa, .int .i64 we]] w fun e w' => e = .returned (.bool (itB i wa we)) ∧ Below w.heap.size w w' := by
  have hu := Try.underlying66
  go_enter Try.func77, Try.ntmps77
  go_wp2_with (first | (go_at_call 51; refine (c_isId _ _).mono ?_; rintro e w' ⟨rfl, rfl⟩) | (go_at_call 53; refine (c_isWant _ _).mono ?_; rintro e w' ⟨rfl, rfl⟩) | (go_at_call 54; refine (c_isWeight _ _).mono ?_; rintro e w' ⟨rfl, rfl⟩))
  all_goals go_ret
  all_goals (refine ⟨ret_bool ?_, (Below.refl _ _).alloc (Nat.le_refl _) _⟩; clear hu; first | (simp [itB, *]; done) | (simp_all [itB]; done))
theorem s_ItemRight (i wa we : Int) (w : World) : Calls Try.prog 74 #[.agg #[.int .i64 i, .int .i64 wa, .int .i64 we]] w fun e w' => e = .returned (.bool (itB i wa we)) ∧ Below w.heap.size w w' := by
  have hu := Try.underlying66
  go_enter Try.func74, Try.ntmps74
  go_wp2_with (first | (go_at_call 84; refine (s_id _ _).mono ?_; rintro e w' ⟨rfl, rfl⟩) | (go_at_call 85; refine (s_want _ _).mono ?_; rintro e w' ⟨rfl, rfl⟩) | (go_at_call 86; refine (s_weight _ _).mono ?_; rintro e w' ⟨rfl, rfl⟩))
  all_goals go_ret
  all_goals (refine ⟨ret_bool ?_, (Below.refl _ _).alloc (Nat.le_refl _) _⟩; clear hu; first | (simp [itB, *]; done) | (simp_all [itB]; done))
/-- Are amount, weight and all as they are for shares? -/
def ptB (am we al : Int) : Bool := bIn am 0 67553994410557440 && (bIn we 1 1073741824 && bIn al we 64424509440)
theorem c_isPart (am we al : Int) (w : World) : Calls Try.prog 78 #[.int .i64 am, .int .i64 we, .int .i64 al] w fun e w' => e = .returned (.bool (ptB am we al)) ∧ w = w' := by
  go_enter Try.func78, Try.ntmps78
  go_wp2_with (first | (go_at_call 50; refine (c_in _ _ _ _).mono ?_; rintro e w' ⟨rfl, rfl⟩) | (go_at_call 54; refine (c_isWeight _ _).mono ?_; rintro e w' ⟨rfl, rfl⟩))
  all_goals go_ret
  all_goals (refine ⟨ret_bool ?_, rfl⟩; first | (simp [ptB, *]; done) | (simp_all [ptB]; done))
theorem s_bounds (am we al : Int) (w : World) : Calls Try.prog 75 #[.int .i64 am, .int .i64 we, .int .i64 al] w fun e w' => e = .returned (.bool (ptB am we al)) ∧ w = w' := by
  by_cases h0 : 0 ≤ am
  · by_cases h1 : am ≤ 67553994410557440
    · have e1 : bIn am 0 67553994410557440 = true := bIn_true.mpr ⟨h0, h1⟩
      cases e2 : bIn we 1 1073741824
      · have E := Lib.hid (show ptB am we al = false from by simp [ptB, e2])
        clear e1
        go_enter Try.func75, Try.ntmps75
        go_wp2_with (go_at_call 86; refine (s_weight _ _).mono ?_; rintro e w' ⟨rfl, rfl⟩)
        go_ret
        exact ⟨ret_bool E.out.symm, rfl⟩
      · by_cases h2 : we ≤ al
        · have E := Lib.hid (show ptB am we al = decide (al ≤ 64424509440) from by rw [ptB, e1, e2, bIn_hi h2]; rfl)
          clear e1
          go_enter Try.func75, Try.ntmps75
          go_wp2_with (go_at_call 86; refine (s_weight _ _).mono ?_; rintro e w' ⟨rfl, rfl⟩)
          go_ret
          exact ⟨ret_bool E.out.symm, rfl⟩
        · have E := Lib.hid (show ptB am we al = false from by rw [ptB, e1, e2, bIn_lo h2]; rfl)
          clear e1
          go_enter Try.func75, Try.ntmps75
          go_wp2_with (go_at_call 86; refine (s_weight _ _).mono ?_; rintro e w' ⟨rfl, rfl⟩)
          go_ret
          exact ⟨ret_bool E.out.symm, rfl⟩
    · have E := Lib.hid (show ptB am we al = false from by rw [ptB, bIn_false.mpr (by omega)]; rfl)
      go_enter Try.func75, Try.ntmps75
      go_wp2_with (go_at_call 86; refine (s_weight _ _).mono ?_; rintro e w' ⟨rfl, rfl⟩)
      go_ret
      exact ⟨ret_bool E.out.symm, rfl⟩
  · have E := Lib.hid (show ptB am we al = false from by rw [ptB, bIn_lo h0]; rfl)
    go_enter Try.func75, Try.ntmps75
    go_wp2_with (go_at_call 86; refine (s_weight _ _).mono ?_; rintro e w' ⟨rfl, rfl⟩)
    go_ret
    exact ⟨ret_bool E.out.symm, rfl⟩
/-- Is what an item wants no more than its part? -/
def ftB (wa we am al : Int) : Bool := decide (pcmp wa al am we ≤ 0)
theorem c_fits (i wa we am al : Int) (w : World) (a0 : 0 ≤ wa) (a1 : wa < 144115188075855872) (b0 : 0 ≤ al) (b1 : al < 144115188075855872) (c0 : 0 ≤ am) (c1 : am < 144115188075855872) (d0 : 0 ≤ we) (d1 : we < 144115188075855872) :
    Calls Try.prog 79 #[.agg #[.int .i64 i, .int .i64 wa, .int .i64 we], .int .i64 am, .int .i64 al] w fun e w' => e = .returned (.bool (ftB wa we am al)) ∧ Below w.heap.size w w' := by
  have hu := Try.underlying66
  have bc : decide (0 ≤ am) = true := decide_eq_true c0
  have CP := fun W => Lib.hid (c_pairs wa al am we W a0 a1 b0 b1 c0 c1 d0 d1)
  have CQ := Lib.hid CP
  clear CP
  go_enter Try.func79, Try.ntmps79
  go_wp2_with (go_at_call 98; refine ((CQ.out _).out).mono ?_; rintro e w' ⟨rfl, hb⟩)
  go_ret
  exact ⟨rfl, balloc (Below.refl _ w) hb⟩
theorem c_fits_neg (i wa we am al : Int) (w : World) (c0 : am < 0) :
    Calls Try.prog 79 #[.agg #[.int .i64 i, .int .i64 wa, .int .i64 we], .int .i64 am, .int .i64 al] w fun e w' => e = .returned (.bool false) ∧ Below w.heap.size w w' := by
  have hu := Try.underlying66
  have bc : decide (0 ≤ am) = false := decide_eq_false (by omega)
  go_enter Try.func79, Try.ntmps79
  go_wp2
  go_ret
  exact ⟨rfl, (Below.refl _ _).alloc (Nat.le_refl _) _⟩
theorem rf_bounds {i wa we am al : Int} (h1 : itB i wa we = true) (h2 : ptB am we al = true) : (0 ≤ wa ∧ wa < 144115188075855872) ∧ (0 ≤ al ∧ al < 144115188075855872) ∧ (0 ≤ am ∧ am < 144115188075855872) ∧ (0 ≤ we ∧ we < 144115188075855872) := by
  simp only [itB, ptB, Bool.and_eq_true, bIn_true] at h1 h2
  omega
/-- RatioFits. -/
def rfB (i wa we am al : Int) : Bool := itB i wa we && (ptB am we al && ftB wa we am al)
theorem c_RatioFits (i wa we am al : Int) (w : World) : Calls Try.prog 38 #[.agg #[.int .i64 i, .int .i64 wa, .int .i64 we], .int .i64 am, .int .i64 al] w fun e w' => e = .returned (.bool (rfB i wa we am al)) ∧ Below w.heap.size w w' := by
  have hu := Try.underlying66
  cases h1 : itB i wa we
  · have E := Lib.hid (show rfB i wa we am al = false from by rw [rfB, h1]; rfl)
    go_enter Try.func38, Try.ntmps38
    go_wp2_with (first | (go_at_call 77; refine (c_ItemRight _ _ _ _).mono ?_; rintro e w' ⟨rfl, hb⟩; obtain ⟨hcc, hff⟩ := bcell hb))
    go_ret
    exact ⟨ret_bool E.out.symm, balloc (Below.refl _ w) hb⟩
  · cases h2 : ptB am we al
    · have E := Lib.hid (show rfB i wa we am al = false from by rw [rfB, h1, h2]; rfl)
      go_enter Try.func38, Try.ntmps38
      go_wp2_with (first | (go_at_call 77; refine (c_ItemRight _ _ _ _).mono ?_; rintro e w' ⟨rfl, hb⟩; obtain ⟨hcc, hff⟩ := bcell hb) | (go_at_call 78; refine (c_isPart _ _ _ _).mono ?_; rintro e w' ⟨rfl, rfl⟩))
      go_ret
      exact ⟨ret_bool E.out.symm, balloc (Below.refl _ w) hb⟩
    · have E := Lib.hid (show rfB i wa we am al = ftB wa we am al from by rw [rfB, h1, h2]; rfl)
      obtain ⟨⟨a0, a1⟩, ⟨b0, b1⟩, ⟨c0, c1⟩, ⟨d0, d1⟩⟩ := rf_bounds h1 h2
      go_enter Try.func38, Try.ntmps38
      go_wp2_with (first | (go_at_call 77; refine (c_ItemRight _ _ _ _).mono ?_; rintro e w' ⟨rfl, hb⟩; obtain ⟨hcc, hff⟩ := bcell hb) | (go_at_call 78; refine (c_isPart _ _ _ _).mono ?_; rintro e w' ⟨rfl, rfl⟩) | (go_at_call 79; refine (c_fits _ _ _ _ _ _ a0 a1 b0 b1 c0 c1 d0 d1).mono ?_; rintro e w' ⟨rfl, hb2⟩))
      go_ret
      exact ⟨ret_bool E.out.symm, balloc (Below.refl _ w) (btrans hb hb2)⟩
theorem s_RatioFits (i wa we am al : Int) (w : World) : Calls Try.prog 36 #[.agg #[.int .i64 i, .int .i64 wa, .int .i64 we], .int .i64 am, .int .i64 al] w fun e w' => e = .returned (.bool (rfB i wa we am al)) ∧ Below w.heap.size w w' := by
  have hu := Try.underlying66
  cases h1 : itB i wa we
  · have E := Lib.hid (show rfB i wa we am al = false from by rw [rfB, h1]; rfl)
    go_enter Try.func36, Try.ntmps36
    go_wp2_with (first | (go_at_call 74; refine (s_ItemRight _ _ _ _).mono ?_; rintro e w' ⟨rfl, hb⟩; obtain ⟨hcc, hff⟩ := bcell hb))
    go_ret
    exact ⟨ret_bool E.out.symm, balloc (Below.refl _ w) hb⟩
  · cases h2 : ptB am we al
    · have E := Lib.hid (show rfB i wa we am al = false from by rw [rfB, h1, h2]; rfl)
      go_enter Try.func36, Try.ntmps36
      go_wp2_with (first | (go_at_call 74; refine (s_ItemRight _ _ _ _).mono ?_; rintro e w' ⟨rfl, hb⟩; obtain ⟨hcc, hff⟩ := bcell hb) | (go_at_call 75; refine (s_bounds _ _ _ _).mono ?_; rintro e w' ⟨rfl, rfl⟩))
      go_ret
      exact ⟨ret_bool E.out.symm, balloc (Below.refl _ w) hb⟩
    · have E := Lib.hid (show rfB i wa we am al = ftB wa we am al from by rw [rfB, h1, h2]; rfl)
      obtain ⟨⟨a0, a1⟩, ⟨b0, b1⟩, ⟨c0, c1⟩, ⟨d0, d1⟩⟩ := rf_bounds h1 h2
      go_enter Try.func36, Try.ntmps36
      go_wp2_with (first | (go_at_call 74; refine (s_ItemRight _ _ _ _).mono ?_; rintro e w' ⟨rfl, hb⟩; obtain ⟨hcc, hff⟩ := bcell hb) | (go_at_call 75; refine (s_bounds _ _ _ _).mono ?_; rintro e w' ⟨rfl, rfl⟩) | (go_at_call 76; refine (s_times _ _ _ _ _ a0 a1 b0 b1 c0 c1 d0 d1).mono ?_; rintro e w' ⟨rfl, hb2⟩))
      go_ret
      exact ⟨ret_bool E.out.symm, balloc (Below.refl _ w) (btrans hb hb2)⟩
end Go.Proofs.Ytddemmmbbleofaa.C
