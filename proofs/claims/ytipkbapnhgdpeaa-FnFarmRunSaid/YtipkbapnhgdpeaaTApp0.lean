/- A table appended to an empty list of no room. No condition. -/
import Derived.Test.YtipkbapnhgdpeaaFCpy
namespace Go.Proofs.Ytipkbapnhgdpeaa.C
open Go.RowKit
set_option maxRecDepth 100000
set_option linter.unusedVariables false
set_option linter.unusedSimpArgs false
attribute [local go_sem ↓] Go.wp_at_zero Go.wp_at_succ
theorem run_append0 {w : World} {tS tE : TypeId} (ht : TT tS tE) (ty : TypeId) (k : Nat) (hk : w.heap[k]? = some (.cells #[] tE (0, 0))) (A : Option Addr) (m : Nat) (f' : Nat → Nat → Int) (c : Nat) (hM : Tab 4 w A m f') (b1 : m ≤ 100000) (B : Nat) (hB : B ≤ k) :
    ∃ v' w', (Builtin.append_ #[tS, tS] ty #[.slice (some ⟨k, 0, none⟩) 0 0, .slice A m c]).run Try.prog w = .ok v' w' ∧ OwnT tE w' B v' m f' ∧ Below w.heap.size w w' := by
  have hu3 := ht.u
  obtain ⟨j0, hj, hy0, hy1, hy2⟩ := info_parts ht.i
  have hkl : k < w.heap.size := (Array.getElem?_eq_some_iff.1 hk).1
  have hE : OwnT tE w B (.slice (some ⟨k, 0, none⟩) 0 0) 0 f' := OwnT.of (cur := #[]) hB hk (Nat.le_refl _) (by decide) rfl (by intro p hp; omega)
  rcases Nat.eq_zero_or_pos m with rfl | hm
  · refine ⟨.slice (some ⟨k, 0, none⟩) 0 0, w, ?_, hE, Below.refl _ _⟩
    have hl : ∀ (x : Addr), (loadCells x 0).run Try.prog w = .ok #[] w := fun x => by simpa using run_loadCells_list (P := Try.prog) w x [] (by simp)
    cases A <;> simp [Builtin.append_, run_underlying hu3, sizeOf, typeInfo, hj, Builtin.lenOf, Builtin.firstCells, storeCells, hl]
  · obtain ⟨g, off, rfl, hg, hcell⟩ := hM.at hm
    have hold : (Builtin.firstCells j0.size 0 (.slice (some ⟨k, 0, none⟩) 0 0)).run Try.prog w.drew = .ok ([] : List Value).toArray w.drew := by
      rw [hy1]
      exact run_firstCells_some w.drew 4 0 ⟨k, 0, none⟩ 0 0 [] (by simp) (by simp)
    have hsrc : Src Try.prog j0.size tS (.slice (some ⟨g, off, none⟩) m c) m (tr m f') w := by
      rw [hy1]
      exact Src.ofSlice w hu3 ⟨g, off, none⟩ m c (tr m f') (tr_len m f') (Tab.cells4 hcell) (tr_one m f')
    have hrun := run_append_grow_src w tS tS ty tE j0 _ hu3 hj hy0 (some ⟨k, 0, none⟩) 0 0 [] hold _ m (tr m f') hsrc (by omega) (by omega) (by rw [hy2]; exact growslice_fits (by omega) (by omega))
    rw [Nat.zero_add] at hrun
    refine ⟨_, _, hrun, ?_, (Below.refl _ w).drew.alloc (Nat.le_refl _) _⟩
    refine OwnT.of (by show B ≤ w.heap.size; omega) (heap_alloc_new w.drew _) (grownCap_ge w m 0 tE) (grownCap_le_maxLen w m 0 tE (by unfold maxLen; omega)) ?_ ?_
    · have := grownCap_ge w m 0 tE
      rw [Array.size_append, zc_size, show (Value.agg #[.int .i64 0, .int .i64 0, .int .i64 0, .int .i64 0]).cells.size = 4 from by kernel_rfl]
      simp [tr_len]
      omega
    · intro p hp
      rw [Array.getElem?_append_left (by simp [tr_len]; omega)]
      simpa using tr_get hp
theorem step_append0 {ops : Array Oper} {o : Oper} {a : Act} {w : World} {K : Act → World → Prop} {Q : Exit → Act → World → Prop} {E : Prop} {tS tE : TypeId} (ht : TT tS tE) (hg : o.guard = none)
    (s x : Operand) (hop : o.op = Op.call { callee := Callee.builtin Builtin.append, args := #[s, x], argTypes := #[tS, tS] })
    (k : Nat) (hs : a.eval s = .slice (some ⟨k, 0, none⟩) 0 0) (hk : w.heap[k]? = some (.cells #[] tE (0, 0))) (A : Option Addr) (m : Nat) (f' : Nat → Nat → Int) (c : Nat) (hx : a.eval x = .slice A m c) (hM : Tab 4 w A m f') (b1 : m ≤ 100000) (B : Nat) (hB : B ≤ k)
    (hK : ∀ v' w', OwnT tE w' B v' m f' → Below w.heap.size w w' → K (a.put o.dst v') w') :
    if Region.wanted o (yielded ops a.tmps) = true then Oper.wp Try.prog o a w K Q else E := by
  obtain ⟨v', w', hr, h1, h2⟩ := run_append0 ht o.type k hk A m f' c hM b1 B hB
  exact step_append_runK hg s x tS tS hop _ _ hs hx hr (hK v' w' h1 h2)
end Go.Proofs.Ytipkbapnhgdpeaa.C
