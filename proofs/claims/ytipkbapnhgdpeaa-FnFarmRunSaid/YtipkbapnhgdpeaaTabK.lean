/- The tables of a law's arguments: from the row's words to TabA. No condition. -/
import Derived.Test.YtipkbapnhgdpeaaTab
import Derived.Test.YtipkbapnhgdpeaaKind
namespace Go.Proofs.Ytipkbapnhgdpeaa.C
open Go.RowKit Go.Proofs.Ytipkbapnhgdpeaa.Rd
set_option linter.unusedVariables false
set_option linter.unusedSimpArgs false
def col4 (ys : List (Int × Int × Int × Int)) (i j : Nat) : Int :=
  match j with
  | 0 => (ys.getD i (0, 0, 0, 0)).1
  | 1 => (ys.getD i (0, 0, 0, 0)).2.1
  | 2 => (ys.getD i (0, 0, 0, 0)).2.2.1
  | _ => (ys.getD i (0, 0, 0, 0)).2.2.2
def col3 (ys : List (Int × Int × Int)) (i j : Nat) : Int :=
  match j with
  | 0 => (ys.getD i (0, 0, 0)).1
  | 1 => (ys.getD i (0, 0, 0)).2.1
  | _ => (ys.getD i (0, 0, 0)).2.2
theorem add_off1 (x : Addr) (j : Nat) (hj : 0 < j) : (⟨x.block, x.off + j, none⟩ : Addr) = x.add j := by
  have : ¬ j = 0 := by omega
  rw [Addr.add, if_neg this]
theorem add_off (a : Addr) (m j : Nat) (hj : 0 < j) : (⟨(a.add m).block, (a.add m).off + j, none⟩ : Addr) = a.add (m + j) := by
  rw [← Go.Deep.add_add]
  exact add_off1 (a.add m) j hj
theorem tabA4 {w : World} {A : Option Addr} {ys : List (Int × Int × Int × Int)} (h : (Kd.pair (Kd.int .i64) (Kd.pair (Kd.int .i64) (Kd.pair (Kd.int .i64) (Kd.int .i64)))).C w A ys.length ys) : TabA 4 w A ys.length (col4 ys) := by
  intro i hi
  have hy : ys[i]? = some ys[i] := List.getElem?_eq_getElem hi
  obtain ⟨ad, c, e, hl, -, ⟨q0, r0, rfl, k0, q1, r1, rfl, k1, q2, r2, rfl, k2, k3⟩, hc⟩ := h.get hy
  have e0 : q0 = [.int .i64 ys[i].1] := k0
  have e1 : q1 = [.int .i64 ys[i].2.1] := k1
  have e2 : q2 = [.int .i64 ys[i].2.2.1] := k2
  have e3 : r2 = [.int .i64 ys[i].2.2.2] := k3
  subst e0 e1 e2 e3
  have hg : ys.getD i (0, 0, 0, 0) = ys[i] := by simp [List.getD, hi]
  refine ⟨ad, e, hl, ?_, fun j hj0 hj4 => ?_⟩
  · have := hc 0 _ rfl
    show w.cell? (ad.add (i * 4)) = some (.int .i64 (ys.getD i (0, 0, 0, 0)).1)
    rw [hg]; exact this
  · rw [add_off _ _ _ hj0]
    match j, hj0, hj4 with
    | 1, _, _ => have := hc 1 _ rfl; show _ = some (Value.int .i64 (ys.getD i (0, 0, 0, 0)).2.1); rw [hg]; exact this
    | 2, _, _ => have := hc 2 _ rfl; show _ = some (Value.int .i64 (ys.getD i (0, 0, 0, 0)).2.2.1); rw [hg]; exact this
    | 3, _, _ => have := hc 3 _ rfl; show _ = some (Value.int .i64 (ys.getD i (0, 0, 0, 0)).2.2.2); rw [hg]; exact this
theorem tabA3 {w : World} {A : Option Addr} {ys : List (Int × Int × Int)} (h : (Kd.pair (Kd.int .i64) (Kd.pair (Kd.int .i64) (Kd.int .i64))).C w A ys.length ys) : TabA 3 w A ys.length (col3 ys) := by
  intro i hi
  have hy : ys[i]? = some ys[i] := List.getElem?_eq_getElem hi
  obtain ⟨ad, c, e, hl, -, ⟨q0, r0, rfl, k0, q1, r1, rfl, k1, k2⟩, hc⟩ := h.get hy
  have e0 : q0 = [.int .i64 ys[i].1] := k0
  have e1 : q1 = [.int .i64 ys[i].2.1] := k1
  have e2 : r1 = [.int .i64 ys[i].2.2] := k2
  subst e0 e1 e2
  have hg : ys.getD i (0, 0, 0) = ys[i] := by simp [List.getD, hi]
  refine ⟨ad, e, hl, ?_, fun j hj0 hj4 => ?_⟩
  · have := hc 0 _ rfl
    show w.cell? (ad.add (i * 3)) = some (.int .i64 (ys.getD i (0, 0, 0)).1)
    rw [hg]; exact this
  · rw [add_off _ _ _ hj0]
    match j, hj0, hj4 with
    | 1, _, _ => have := hc 1 _ rfl; show _ = some (Value.int .i64 (ys.getD i (0, 0, 0)).2.1); rw [hg]; exact this
    | 2, _, _ => have := hc 2 _ rfl; show _ = some (Value.int .i64 (ys.getD i (0, 0, 0)).2.2); rw [hg]; exact this
def col10 (ys : List (Int × Int × Int × Int × Int × Int × Int × Int × Int × Int)) (i j : Nat) : Int :=
  match j with
  | 0 => (ys.getD i (0, 0, 0, 0, 0, 0, 0, 0, 0, 0)).1
  | 1 => (ys.getD i (0, 0, 0, 0, 0, 0, 0, 0, 0, 0)).2.1
  | 2 => (ys.getD i (0, 0, 0, 0, 0, 0, 0, 0, 0, 0)).2.2.1
  | 3 => (ys.getD i (0, 0, 0, 0, 0, 0, 0, 0, 0, 0)).2.2.2.1
  | 4 => (ys.getD i (0, 0, 0, 0, 0, 0, 0, 0, 0, 0)).2.2.2.2.1
  | 5 => (ys.getD i (0, 0, 0, 0, 0, 0, 0, 0, 0, 0)).2.2.2.2.2.1
  | 6 => (ys.getD i (0, 0, 0, 0, 0, 0, 0, 0, 0, 0)).2.2.2.2.2.2.1
  | 7 => (ys.getD i (0, 0, 0, 0, 0, 0, 0, 0, 0, 0)).2.2.2.2.2.2.2.1
  | 8 => (ys.getD i (0, 0, 0, 0, 0, 0, 0, 0, 0, 0)).2.2.2.2.2.2.2.2.1
  | _ => (ys.getD i (0, 0, 0, 0, 0, 0, 0, 0, 0, 0)).2.2.2.2.2.2.2.2.2
theorem tabA10 {w : World} {A : Option Addr} {ys : List (Int × Int × Int × Int × Int × Int × Int × Int × Int × Int)} (h : (Kd.pair (Kd.int .i64) (Kd.pair (Kd.int .i64) (Kd.pair (Kd.int .i64) (Kd.pair (Kd.int .i64) (Kd.pair (Kd.int .i64) (Kd.pair (Kd.int .i64) (Kd.pair (Kd.int .i64) (Kd.pair (Kd.int .i64) (Kd.pair (Kd.int .i64) (Kd.int .i64)))))))))).C w A ys.length ys) : TabA 10 w A ys.length (col10 ys) := by
  intro i hi
  have hy : ys[i]? = some ys[i] := List.getElem?_eq_getElem hi
  obtain ⟨ad, c, e, hl, -, ⟨q0, r0, rfl, k0, q1, r1, rfl, k1, q2, r2, rfl, k2, q3, r3, rfl, k3, q4, r4, rfl, k4, q5, r5, rfl, k5, q6, r6, rfl, k6, q7, r7, rfl, k7, q8, r8, rfl, k8, k9⟩, hc⟩ := h.get hy
  have e0 : q0 = [.int .i64 ys[i].1] := k0
  have e1 : q1 = [.int .i64 ys[i].2.1] := k1
  have e2 : q2 = [.int .i64 ys[i].2.2.1] := k2
  have e3 : q3 = [.int .i64 ys[i].2.2.2.1] := k3
  have e4 : q4 = [.int .i64 ys[i].2.2.2.2.1] := k4
  have e5 : q5 = [.int .i64 ys[i].2.2.2.2.2.1] := k5
  have e6 : q6 = [.int .i64 ys[i].2.2.2.2.2.2.1] := k6
  have e7 : q7 = [.int .i64 ys[i].2.2.2.2.2.2.2.1] := k7
  have e8 : q8 = [.int .i64 ys[i].2.2.2.2.2.2.2.2.1] := k8
  have e9 : r8 = [.int .i64 ys[i].2.2.2.2.2.2.2.2.2] := k9
  subst e0 e1 e2 e3 e4 e5 e6 e7 e8 e9
  have hg : ys.getD i (0, 0, 0, 0, 0, 0, 0, 0, 0, 0) = ys[i] := by simp [List.getD, hi]
  refine ⟨ad, e, hl, ?_, fun j hj0 hj4 => ?_⟩
  · have := hc 0 _ rfl
    show w.cell? (ad.add (i * 10)) = some (.int .i64 (ys.getD i (0, 0, 0, 0, 0, 0, 0, 0, 0, 0)).1)
    rw [hg]; exact this
  · rw [add_off _ _ _ hj0]
    match j, hj0, hj4 with
    | 1, _, _ => have := hc 1 _ rfl; show _ = some (Value.int .i64 (ys.getD i (0, 0, 0, 0, 0, 0, 0, 0, 0, 0)).2.1); rw [hg]; exact this
    | 2, _, _ => have := hc 2 _ rfl; show _ = some (Value.int .i64 (ys.getD i (0, 0, 0, 0, 0, 0, 0, 0, 0, 0)).2.2.1); rw [hg]; exact this
    | 3, _, _ => have := hc 3 _ rfl; show _ = some (Value.int .i64 (ys.getD i (0, 0, 0, 0, 0, 0, 0, 0, 0, 0)).2.2.2.1); rw [hg]; exact this
    | 4, _, _ => have := hc 4 _ rfl; show _ = some (Value.int .i64 (ys.getD i (0, 0, 0, 0, 0, 0, 0, 0, 0, 0)).2.2.2.2.1); rw [hg]; exact this
    | 5, _, _ => have := hc 5 _ rfl; show _ = some (Value.int .i64 (ys.getD i (0, 0, 0, 0, 0, 0, 0, 0, 0, 0)).2.2.2.2.2.1); rw [hg]; exact this
    | 6, _, _ => have := hc 6 _ rfl; show _ = some (Value.int .i64 (ys.getD i (0, 0, 0, 0, 0, 0, 0, 0, 0, 0)).2.2.2.2.2.2.1); rw [hg]; exact this
    | 7, _, _ => have := hc 7 _ rfl; show _ = some (Value.int .i64 (ys.getD i (0, 0, 0, 0, 0, 0, 0, 0, 0, 0)).2.2.2.2.2.2.2.1); rw [hg]; exact this
    | 8, _, _ => have := hc 8 _ rfl; show _ = some (Value.int .i64 (ys.getD i (0, 0, 0, 0, 0, 0, 0, 0, 0, 0)).2.2.2.2.2.2.2.2.1); rw [hg]; exact this
    | 9, _, _ => have := hc 9 _ rfl; show _ = some (Value.int .i64 (ys.getD i (0, 0, 0, 0, 0, 0, 0, 0, 0, 0)).2.2.2.2.2.2.2.2.2); rw [hg]; exact this
end Go.Proofs.Ytipkbapnhgdpeaa.C
