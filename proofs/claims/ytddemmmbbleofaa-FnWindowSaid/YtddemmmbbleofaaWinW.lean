/- The window that a history leaves, plain: what it keeps tells the most of the history. No condition. -/
import Derived.Test.YtddemmmbbleofaaWinQ
import Derived.Test.YtddemmmbbleofaaWinR
import Derived.Test.YtddemmmbbleofaaWinP
namespace Go.Proofs.Ytddemmmbbleofaa.C
open Go.RowKit
set_option linter.unusedVariables false
/-- The marks that are kept behind the mark at place i. -/
def winF (sp : Int) (ms : List Mk) : Nat → List Mk
  | 0 => []
  | i + 1 => putL sp (mat ms i).2 (mat ms (i + 1)) (winF sp ms i)
/-- What holds of the marks that are kept behind the mark at place i. -/
structure WInv (sp : Int) (ms : List Mk) (i : Nat) : Prop where
  len : (winF sp ms i).length ≤ i
  ord : (winF sp ms i).Pairwise (fun a b => a.2 > b.2 ∧ a.1 < b.1)
  all : ∀ x ∈ winF sp ms i, x.2 > (mat ms i).2 ∧ x.1 < (mat ms i).1
  low : ∀ x ∈ winF sp ms i, x.1 > (mat ms i).1 - sp
  bnd : ∀ x ∈ winF sp ms i, 0 ≤ x.1 ∧ x.2 ≤ 1125899906842624
  inv : ∀ t, t ≥ (mat ms i).1 - sp → mostL (mat ms i).2 t (winF sp ms i) = sup t (ms.take (i + 1))
theorem take_mat {ms : List Mk} {i : Nat} (h : i < ms.length) : ms.take (i + 1) = ms.take i ++ [mat ms i] := by
  rw [List.take_add_one, mat_of h]; rfl
theorem winv_zero {sp : Int} {ms : List Mk} (hh : histB ms = true) (h0 : 0 < ms.length) (s0 : 1 ≤ sp) : WInv sp ms 0 := by
  have hp := ((hist_of hh).2.1 0 h0).2.2.1
  refine ⟨Nat.le_refl _, List.Pairwise.nil, by intro x hx; simp [winF] at hx, by intro x hx; simp [winF] at hx, by intro x hx; simp [winF] at hx, fun t _ => ?_⟩
  rw [take_mat h0]
  show (mat ms 0).2 = max 0 (mat ms 0).2
  omega
theorem winv_next {sp : Int} {ms : List Mk} {i : Nat} (hh : histB ms = true) (hi : i + 1 < ms.length) (s0 : 1 ≤ sp) (h : WInv sp ms i) : WInv sp ms (i + 1) := by
  obtain ⟨h1, h2, h3⟩ := hist_of hh
  have hr := hist_rise hh
  obtain ⟨hlen, hord, hall, hlow, hbnd, hinv⟩ := h
  have hm := h3 i hi
  obtain ⟨p0, p1, p2, p3⟩ := h2 i (by omega)
  obtain ⟨q0, q1, q2, q3⟩ := h2 (i + 1) hi
  have hsub : (winF sp ms (i + 1)).Sublist (winF sp ms i ++ [((mat ms (i + 1)).1 - 1, (mat ms i).2)]) := (List.dropWhile_sublist _).trans List.filter_sublist
  have hord2 := put_order sp (mat ms (i + 1)).1 (mat ms (i + 1)).2 (mat ms i).1 (mat ms i).2 (winF sp ms i) hord hall hm
  have hfil : ((winF sp ms i ++ [((mat ms (i + 1)).1 - 1, (mat ms i).2)]).filter (fun x => decide (x.2 > (mat ms (i + 1)).2))).Pairwise (fun a b => a.1 < b.1) := by
    refine List.Pairwise.sublist List.filter_sublist (List.pairwise_append.2 ⟨hord.imp (fun h => h.2), by simp, fun a ha b hb => ?_⟩)
    simp at hb; subst hb
    have := (hall a ha).2
    show a.1 < (mat ms (i + 1)).1 - 1
    omega
  refine ⟨?_, hord2.1, hord2.2, fun x hx => drop_low _ _ hfil x hx, fun x hx => ?_, fun t ht => ?_⟩
  · have := hsub.length_le
    simp at this
    omega
  · rcases List.mem_append.1 (hsub.subset hx) with h | h
    · exact hbnd x h
    · simp at h; subst h
      exact ⟨by show 0 ≤ (mat ms (i + 1)).1 - 1; omega, p3⟩
  · have e1 : ms.take (i + 1 + 1) = ms.take i ++ [mat ms i, mat ms (i + 1)] := by
      rw [take_mat hi, take_mat (by omega : i < ms.length)]; simp
    rw [e1]
    refine put_law sp (mat ms (i + 1)).1 (mat ms (i + 1)).2 (mat ms i).1 (mat ms i).2 (winF sp ms i) (ms.take i) (hord.imp (fun h => h.1)) hall ?_ hm q2 ?_ ?_ t ht
    · intro t ht
      have := hinv t ht
      rw [take_mat (by omega : i < ms.length)] at this
      exact this
    · intro x hx
      have : x ∈ ms := by
        rw [show ms.take i ++ [((mat ms i).1, (mat ms i).2)] = ms.take (i + 1) from (take_mat (by omega : i < ms.length)).symm] at hx
        exact List.mem_of_mem_take hx
      obtain ⟨j, hj, rfl⟩ := mat_of_mem this
      exact (h2 j hj).2.2.1
    · have : ms.take i ++ [((mat ms i).1, (mat ms i).2), ((mat ms (i + 1)).1, (mat ms (i + 1)).2)] = ms.take (i + 1 + 1) := e1.symm
      rw [this]
      exact hr.sublist (List.take_sublist _ _)
theorem winv {sp : Int} {ms : List Mk} (hh : histB ms = true) (s0 : 1 ≤ sp) : ∀ {i : Nat}, i < ms.length → WInv sp ms i
  | 0, h => winv_zero hh h s0
  | i + 1, h => winv_next hh h s0 (winv hh s0 (by omega))
/-- The window of a right history is right. -/
theorem win_ok {sp : Int} {ms : List Mk} {i : Nat} (hh : histB ms = true) (s0 : 1 ≤ sp) (s1 : sp ≤ 1000000) (hi : i < ms.length) : WOk sp (mat ms i).1 (mat ms i).2 (winF sp ms i) := by
  obtain ⟨h1, h2, h3⟩ := hist_of hh
  obtain ⟨hlen, hord, hall, hlow, hbnd, hinv⟩ := winv (sp := sp) hh s0 hi
  obtain ⟨p0, p1, p2, p3⟩ := h2 i hi
  refine ⟨s0, s1, p0, p1, p2, p3, by omega, fun j hj => ?_, fun j hj => ?_⟩
  · have hm := mat_mem hj
    have a := hall _ hm
    have b := hlow _ hm
    have c := hbnd _ hm
    omega
  · have := pair_at hord (Nat.lt_succ_self j) hj
    exact ⟨this.2, this.1⟩
/-- From the last mark on the window tells what the history tells. -/
theorem win_most {sp now : Int} {ms : List Mk} (hh : histB ms = true) (s0 : 1 ≤ sp) (h0 : 0 < ms.length) (hn : (mat ms (ms.length - 1)).1 ≤ now) :
    mostL (mat ms (ms.length - 1)).2 (now - sp) (winF sp ms (ms.length - 1)) = accP (now - sp) ms ms.length := by
  obtain ⟨h1, h2, h3⟩ := hist_of hh
  rw [(winv (sp := sp) hh s0 (i := ms.length - 1) (by omega)).inv _ (by omega), show ms.length - 1 + 1 = ms.length by omega, List.take_length]
  exact (acc_sup _ _ fun x hx => by obtain ⟨j, hj, rfl⟩ := mat_of_mem hx; exact (h2 j hj).2.2.1).symm
end Go.Proofs.Ytddemmmbbleofaa.C
