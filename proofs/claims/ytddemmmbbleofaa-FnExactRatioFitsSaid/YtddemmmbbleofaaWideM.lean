/- Wide numbers: plain arithmetic of words, bits, products. No condition. -/
import Derived.Laws.BitsAllLaws
import Derived.Laws.Bits64
import Derived.WalkKit
namespace Go.Proofs.Ytddemmmbbleofaa.Wd
set_option linter.unusedVariables false
open Go.RowKit
/-- Two words of a number, modulo 2^128. -/
def hi (v : Int) : Int := v / 18446744073709551616 % 18446744073709551616
def lo (v : Int) : Int := v % 18446744073709551616
theorem lo_add (v u : Int) : IntKind.u64.wrap (lo v + lo u) = lo (v + u) := by rw [IntKind.wrap_u64]; unfold lo; omega
theorem hi_add1 (v u : Int) (c : lo (v + u) < lo v) : IntKind.u64.wrap (IntKind.u64.wrap (hi v + hi u) + 1) = hi (v + u) := by
  simp only [IntKind.wrap_u64]; unfold hi lo at *; omega
theorem hi_add0 (v u : Int) (c : ¬ lo (v + u) < lo v) : IntKind.u64.wrap (hi v + hi u) = hi (v + u) := by
  simp only [IntKind.wrap_u64]; unfold hi lo at *; omega
theorem hi_range (v : Int) : 0 ≤ hi v ∧ hi v < 18446744073709551616 := by unfold hi; omega
theorem lo_range (v : Int) : 0 ≤ lo v ∧ lo v < 18446744073709551616 := by unfold lo; omega
theorem hi_small (v : Int) (h0 : 0 ≤ v) (h1 : v < 18446744073709551616) : hi v = 0 := by unfold hi; omega
theorem lo_small (v : Int) (h0 : 0 ≤ v) (h1 : v < 18446744073709551616) : lo v = v := by unfold lo; omega
theorem double (v : Int) (n : Nat) : v * 2 ^ n + v * 2 ^ n = v * 2 ^ (n + 1) := by rw [Int.pow_succ, ← Int.mul_assoc]; omega
theorem bit_of (b : Int) (n : Nat) (h0 : 0 ≤ b) (h1 : b < 18446744073709551616) (hn : n < 64) : bits .and .u64 (b / 2 ^ n) 1 = b / 2 ^ n % 2 := by
  have p : (0 : Int) < 2 ^ n := Int.pow_pos (by omega)
  have q0 : 0 ≤ b / 2 ^ n := Int.ediv_nonneg h0 (by omega)
  have q1 : b / 2 ^ n ≤ b := Int.ediv_le_self _ h0
  generalize b / 2 ^ n = q at *
  rw [u64_and q 1 q0 (by omega) (by omega) (by omega)]
  rw [show (1 : Int).toNat = 1 from rfl, Nat.and_one_is_mod]
  omega
theorem mod_succ (b : Int) (n : Nat) : b % 2 ^ (n + 1) = b % 2 ^ n + 2 ^ n * (b / 2 ^ n % 2) := by
  have p : (2 : Int) ^ n ≠ 0 := Int.ne_of_gt (Int.pow_pos (by omega))
  have h1 := Int.emod_add_mul_ediv b (2 ^ n)
  have h2 := Int.emod_add_mul_ediv (b / 2 ^ n) 2
  have h3 := Int.emod_add_mul_ediv b (2 ^ (n + 1))
  have h4 : b / 2 ^ (n + 1) = b / 2 ^ n / 2 := by rw [Int.pow_succ, ← Int.ediv_ediv_of_nonneg (Int.le_of_lt (Int.pow_pos (by omega)))]
  rw [h4] at h3
  have h5 : (2 : Int) ^ (n + 1) * (b / 2 ^ n / 2) = 2 ^ n * (2 * (b / 2 ^ n / 2)) := by rw [Int.pow_succ, Int.mul_assoc]
  rw [h5] at h3
  have h6 : (2 : Int) ^ n * (b / 2 ^ n) = 2 ^ n * (b / 2 ^ n % 2) + 2 ^ n * (2 * (b / 2 ^ n / 2)) := by rw [← Int.mul_add, h2]
  omega
theorem mask (a : Int) (h0 : 0 ≤ a) (h1 : a < 18446744073709551616) : bits .and .u64 a 4294967295 = a % 4294967296 := by
  rw [u64_and a _ h0 h1 (by omega) (by omega)]
  rw [show (4294967295 : Int).toNat = 2 ^ 32 - 1 from rfl, Nat.and_two_pow_sub_one_eq_mod]
  omega
theorem mul_impl (a b : Int) (a0 : 0 ≤ a) (a1 : a < 144115188075855872) (b0 : 0 ≤ b) (b1 : b < 144115188075855872) : 
    IntKind.u64.wrap (IntKind.u64.wrap (IntKind.u64.wrap (a / 4294967296 * (b / 4294967296)) + IntKind.u64.wrap (IntKind.u64.wrap (a / 4294967296 * bits .and .u64 b 4294967295) + IntKind.u64.wrap (bits .and .u64 a 4294967295 * bits .and .u64 b 4294967295) / 4294967296) / 4294967296) + IntKind.u64.wrap (bits .and .u64 (IntKind.u64.wrap (IntKind.u64.wrap (a / 4294967296 * bits .and .u64 b 4294967295) + IntKind.u64.wrap (bits .and .u64 a 4294967295 * bits .and .u64 b 4294967295) / 4294967296)) 4294967295 + IntKind.u64.wrap (bits .and .u64 a 4294967295 * (b / 4294967296))) / 4294967296) = hi (a * b) := by
  obtain ⟨x, hx⟩ : ∃ x, x = a / 4294967296 := ⟨_, rfl⟩
  obtain ⟨y, hy⟩ : ∃ y, y = a % 4294967296 := ⟨_, rfl⟩
  obtain ⟨u, hu⟩ : ∃ u, u = b / 4294967296 := ⟨_, rfl⟩
  obtain ⟨v, hv⟩ : ∃ v, v = b % 4294967296 := ⟨_, rfl⟩
  have ha : a = x * 4294967296 + y := by omega
  have hb : b = u * 4294967296 + v := by omega
  have hab : a * b = (x * u) * 18446744073709551616 + (x * v + y * u) * 4294967296 + y * v := by
    rw [ha, hb]
    rw [Int.add_mul, Int.mul_add, Int.mul_add]
    have e1 : x * 4294967296 * (u * 4294967296) = x * u * 18446744073709551616 := by
      rw [Int.mul_assoc, ← Int.mul_assoc 4294967296 u, Int.mul_comm 4294967296 u, Int.mul_assoc, ← Int.mul_assoc]; rfl
    have e2 : x * 4294967296 * v = x * v * 4294967296 := by rw [Int.mul_assoc, Int.mul_comm 4294967296 v, ← Int.mul_assoc]
    have e3 : y * (u * 4294967296) = y * u * 4294967296 := by rw [← Int.mul_assoc]
    rw [e1, e2, e3]; omega
  have x0 : 0 ≤ x := by omega
  have x1 : x < 33554432 := by omega
  have y0 : 0 ≤ y := by omega
  have y1 : y < 4294967296 := by omega
  have u0 : 0 ≤ u := by omega
  have u1 : u < 33554432 := by omega
  have v0 : 0 ≤ v := by omega
  have v1 : v < 4294967296 := by omega
  have p1 : 0 ≤ x * u := Int.mul_nonneg x0 u0
  have p2 : x * u ≤ 33554432 * 33554432 := Int.mul_le_mul (by omega) (by omega) u0 (by omega)
  have p3 : 0 ≤ x * v := Int.mul_nonneg x0 v0
  have p4 : x * v ≤ 33554432 * 4294967296 := Int.mul_le_mul (by omega) (by omega) v0 (by omega)
  have p5 : 0 ≤ y * u := Int.mul_nonneg y0 u0
  have p6 : y * u ≤ 4294967296 * 33554432 := Int.mul_le_mul (by omega) (by omega) u0 (by omega)
  have p7 : 0 ≤ y * v := Int.mul_nonneg y0 v0
  have p8 : y * v ≤ 4294967295 * 4294967295 := Int.mul_le_mul (by omega) (by omega) v0 (by omega)
  simp only [IntKind.wrap_u64]
  rw [mask a a0 (by omega), mask b b0 (by omega), ← hx, ← hy, ← hu, ← hv, hab]
  generalize x * u = A at *
  generalize x * v = B at *
  generalize y * u = C at *
  generalize y * v = D at *
  have e1 : A % 18446744073709551616 = A := by omega
  have e2 : B % 18446744073709551616 = B := by omega
  have e3 : C % 18446744073709551616 = C := by omega
  have e4 : D % 18446744073709551616 = D := by omega
  have e5 : (B + D / 4294967296) % 18446744073709551616 = B + D / 4294967296 := by omega
  rw [e1, e2, e3, e4, e5, mask (B + D / 4294967296) (by omega) (by omega)]
  unfold hi
  omega
end Go.Proofs.Ytddemmmbbleofaa.Wd
