/- Small functions: what they answer, whatever they are given; the world stays. No condition. -/
import Derived.Test.YtipkbapnhgdpeaaProg
import Derived.WalkKit
import Derived.Below
import Derived.Lib.Hide
namespace Go.Proofs.Ytipkbapnhgdpeaa.C
open Go.RowKit
/-- a number in a range, as a Bool that no tactic takes apart. -/
def bIn (a b c : Int) : Bool := decide (b ≤ a ∧ a ≤ c)
theorem bIn_true {a b c : Int} : bIn a b c = true ↔ b ≤ a ∧ a ≤ c := by unfold bIn; exact decide_eq_true_iff
theorem bIn_false {a b c : Int} : bIn a b c = false ↔ ¬ (b ≤ a ∧ a ≤ c) := by unfold bIn; exact decide_eq_false_iff_not
theorem bIn_of {a b c : Int} {x y : Bool} (h : x = y) (e : y = bIn a b c) : x = bIn a b c := h.trans e
theorem bIn_lo {a b c : Int} (h : ¬ b ≤ a) : bIn a b c = false := bIn_false.mpr (by omega)
theorem bIn_hi {a b c : Int} (h : b ≤ a) : bIn a b c = decide (a ≤ c) := by unfold bIn; exact decide_eq_decide.mpr ⟨fun h => h.2, fun k => ⟨h, k⟩⟩
theorem ret_bool {a b : Bool} (h : a = b) : Ending.returned (.bool a) = Ending.returned (.bool b) := by rw [h]
theorem ret_int {k : IntKind} {a b : Int} (h : a = b) : Ending.returned (.int k a) = Ending.returned (.int k b) := by rw [h]
theorem bcell {w w1 : World} (hb : Below w.heap.size w w1) : (∀ b o, b < w.heap.size → w1.cell? ⟨b, o, none⟩ = w.cell? ⟨b, o, none⟩) ∧ (∀ b o, b < w.heap.size → w1.frozen? ⟨b, o, none⟩ = w.frozen? ⟨b, o, none⟩) :=
  ⟨fun b o h => hb.cell (p := ⟨b, o, none⟩) h, fun b o h => hb.frozen (p := ⟨b, o, none⟩) h⟩
theorem btrans {w a b : World} (h : Below w.heap.size w a) (k : Below a.heap.size a b) : Below w.heap.size w b := h.trans (k.mono h.size)
theorem balloc {w a b : World} {o : Obj} (h : Below w.heap.size w a) (k : Below (a.alloc o).heap.size (a.alloc o) b) : Below w.heap.size w b := btrans (h.alloc h.size o) k
/-- guards: the goal stands at just this store, load. -/
theorem at_store {P : Program} {ops : Array Oper} {Q : Exit → Act → World → Prop} {ty ty2 : TypeId} {x y : Operand} {pos : String} {after : Array Edge} {rest : List Oper} {a : Act} {w : World}
    (h : wpList P ops Q ({ dst := none, op := .store ty x y, type := ty2, pos := pos, after := after, guard := none } :: rest) a w) : wpList P ops Q ({ dst := none, op := .store ty x y, type := ty2, pos := pos, after := after, guard := none } :: rest) a w := h
theorem at_load {P : Program} {ops : Array Oper} {Q : Exit → Act → World → Prop} {ty ty2 : TypeId} {d : Option Tmp} {x : Operand} {pos : String} {after : Array Edge} {rest : List Oper} {a : Act} {w : World}
    (h : wpList P ops Q ({ dst := d, op := .load ty x, type := ty2, pos := pos, after := after, guard := none } :: rest) a w) : wpList P ops Q ({ dst := d, op := .load ty x, type := ty2, pos := pos, after := after, guard := none } :: rest) a w := h
theorem c_in (a b c : Int) (w : World) : Calls Try.prog 54 #[.int .i64 a, .int .i64 b, .int .i64 c] w fun e w' => e = .returned (.bool (bIn a b c)) ∧ w = w' := by
  by_cases h : b ≤ a
  · have e1 := Lib.hid (bIn_hi (c := c) h)
    go_enter Try.func54, Try.ntmps54
    go_wp2
    go_ret
    exact ⟨ret_bool e1.out.symm, rfl⟩
  · have e1 := Lib.hid (bIn_lo (c := c) h)
    go_enter Try.func54, Try.ntmps54
    go_wp2
    go_ret
    exact ⟨ret_bool e1.out.symm, rfl⟩
theorem c_isId (a : Int) (w : World) : Calls Try.prog 82 #[.int .i64 a] w fun e w' => e = .returned (.bool (bIn a 1 1000000)) ∧ w = w' := by
  go_enter Try.func82, Try.ntmps82
  go_wp2_with (go_at_call 54; refine (c_in _ _ _ _).mono ?_; rintro e w' ⟨rfl, rfl⟩)
  go_ret
  exact ⟨rfl, rfl⟩
theorem c_isWant (a : Int) (w : World) : Calls Try.prog 81 #[.int .i64 a] w fun e w' => e = .returned (.bool (bIn a 0 1125899906842624)) ∧ w = w' := by
  go_enter Try.func81, Try.ntmps81
  go_wp2_with (go_at_call 54; refine (c_in _ _ _ _).mono ?_; rintro e w' ⟨rfl, rfl⟩)
  go_ret
  exact ⟨rfl, rfl⟩
theorem c_isWeight (a : Int) (w : World) : Calls Try.prog 84 #[.int .i64 a] w fun e w' => e = .returned (.bool (bIn a 1 1073741824)) ∧ w = w' := by
  go_enter Try.func84, Try.ntmps84
  go_wp2_with (go_at_call 54; refine (c_in _ _ _ _).mono ?_; rintro e w' ⟨rfl, rfl⟩)
  go_ret
  exact ⟨rfl, rfl⟩
theorem c_isTime (a : Int) (w : World) : Calls Try.prog 107 #[.int .i64 a] w fun e w' => e = .returned (.bool (bIn a 0 1000000)) ∧ w = w' := by
  go_enter Try.func107, Try.ntmps107
  go_wp2_with (go_at_call 54; refine (c_in _ _ _ _).mono ?_; rintro e w' ⟨rfl, rfl⟩)
  go_ret
  exact ⟨rfl, rfl⟩
theorem s_id (a : Int) (w : World) : Calls Try.prog 93 #[.int .i64 a] w fun e w' => e = .returned (.bool (bIn a 1 1000000)) ∧ w = w' := by
  by_cases h : 1 ≤ a
  · have e1 := Lib.hid (bIn_hi (c := 1000000) h)
    go_enter Try.func93, Try.ntmps93
    go_wp2
    go_ret
    exact ⟨ret_bool e1.out.symm, rfl⟩
  · have e1 := Lib.hid (bIn_lo (c := 1000000) h)
    go_enter Try.func93, Try.ntmps93
    go_wp2
    go_ret
    exact ⟨ret_bool e1.out.symm, rfl⟩
theorem s_want (a : Int) (w : World) : Calls Try.prog 92 #[.int .i64 a] w fun e w' => e = .returned (.bool (bIn a 0 1125899906842624)) ∧ w = w' := by
  by_cases h : 0 ≤ a
  · have e1 := Lib.hid (bIn_hi (c := 1125899906842624) h)
    go_enter Try.func92, Try.ntmps92
    go_wp2
    go_ret
    exact ⟨ret_bool e1.out.symm, rfl⟩
  · have e1 := Lib.hid (bIn_lo (c := 1125899906842624) h)
    go_enter Try.func92, Try.ntmps92
    go_wp2
    go_ret
    exact ⟨ret_bool e1.out.symm, rfl⟩
theorem s_weight (a : Int) (w : World) : Calls Try.prog 94 #[.int .i64 a] w fun e w' => e = .returned (.bool (bIn a 1 1073741824)) ∧ w = w' := by
  by_cases h : 1 ≤ a
  · have e1 := Lib.hid (bIn_hi (c := 1073741824) h)
    go_enter Try.func94, Try.ntmps94
    go_wp2
    go_ret
    exact ⟨ret_bool e1.out.symm, rfl⟩
  · have e1 := Lib.hid (bIn_lo (c := 1073741824) h)
    go_enter Try.func94, Try.ntmps94
    go_wp2
    go_ret
    exact ⟨ret_bool e1.out.symm, rfl⟩
theorem s_time (a : Int) (w : World) : Calls Try.prog 105 #[.int .i64 a] w fun e w' => e = .returned (.bool (bIn a 0 1000000)) ∧ w = w' := by
  by_cases h : 0 ≤ a
  · have e1 := Lib.hid (bIn_hi (c := 1000000) h)
    go_enter Try.func105, Try.ntmps105
    go_wp2
    go_ret
    exact ⟨ret_bool e1.out.symm, rfl⟩
  · have e1 := Lib.hid (bIn_lo (c := 1000000) h)
    go_enter Try.func105, Try.ntmps105
    go_wp2
    go_ret
    exact ⟨ret_bool e1.out.symm, rfl⟩
end Go.Proofs.Ytipkbapnhgdpeaa.C
