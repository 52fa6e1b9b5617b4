/- The law FnExactFarmRun, walked. No condition. -/
import Derived.Test.YtipkbapnhgdpeaaFRunS
import Derived.Test.YtipkbapnhgdpeaaMkEdit
import Derived.Test.YtipkbapnhgdpeaaOFnExactFarmRun
namespace Go.Proofs.Ytipkbapnhgdpeaa.C
open Go.RowKit Go.Proofs.Ytipkbapnhgdpeaa.Rd
set_option maxRecDepth 100000
set_option linter.unusedVariables false
set_option linter.unusedSimpArgs false
attribute [local go_sem ↓] Go.wp_at_zero Go.wp_at_succ
def col5 (ys : List (Int × Int × Int × Int × Int)) (i j : Nat) : Int :=
  match j with
  | 0 => (ys.getD i (0, 0, 0, 0, 0)).1
  | 1 => (ys.getD i (0, 0, 0, 0, 0)).2.1
  | 2 => (ys.getD i (0, 0, 0, 0, 0)).2.2.1
  | 3 => (ys.getD i (0, 0, 0, 0, 0)).2.2.2.1
  | _ => (ys.getD i (0, 0, 0, 0, 0)).2.2.2.2
theorem tabA5 {w : World} {A : Option Addr} {ys : List (Int × Int × Int × Int × Int)} (h : (Kd.pair (Kd.int .i64) (Kd.pair (Kd.int .i64) (Kd.pair (Kd.int .i64) (Kd.pair (Kd.int .i64) (Kd.int .i64))))).C w A ys.length ys) : TabA 5 w A ys.length (col5 ys) := by
  intro i hi
  have hy : ys[i]? = some ys[i] := List.getElem?_eq_getElem hi
  obtain ⟨ad, c, e, hl, -, ⟨q0, r0, rfl, k0, q1, r1, rfl, k1, q2, r2, rfl, k2, q3, r3, rfl, k3, k4⟩, hc⟩ := h.get hy
  have e0 : q0 = [.int .i64 ys[i].1] := k0
  have e1 : q1 = [.int .i64 ys[i].2.1] := k1
  have e2 : q2 = [.int .i64 ys[i].2.2.1] := k2
  have e3 : q3 = [.int .i64 ys[i].2.2.2.1] := k3
  have e4 : r3 = [.int .i64 ys[i].2.2.2.2] := k4
  subst e0 e1 e2 e3 e4
  have hg : ys.getD i (0, 0, 0, 0, 0) = ys[i] := by simp [List.getD, hi]
  refine ⟨ad, e, hl, ?_, fun j hj0 hj4 => ?_⟩
  · have := hc 0 _ rfl
    show w.cell? (ad.add (i * 5)) = some (.int .i64 (ys.getD i (0, 0, 0, 0, 0)).1)
    rw [hg]; exact this
  · rw [add_off _ _ _ hj0]
    match j, hj0, hj4 with
    | 1, _, _ => have := hc 1 _ rfl; show _ = some (Value.int .i64 (ys.getD i (0, 0, 0, 0, 0)).2.1); rw [hg]; exact this
    | 2, _, _ => have := hc 2 _ rfl; show _ = some (Value.int .i64 (ys.getD i (0, 0, 0, 0, 0)).2.2.1); rw [hg]; exact this
    | 3, _, _ => have := hc 3 _ rfl; show _ = some (Value.int .i64 (ys.getD i (0, 0, 0, 0, 0)).2.2.2.1); rw [hg]; exact this
    | 4, _, _ => have := hc 4 _ rfl; show _ = some (Value.int .i64 (ys.getD i (0, 0, 0, 0, 0)).2.2.2.2); rw [hg]; exact this
/-- The law's arguments. -/
structure LwR (b : Nat) (w1 : World) (F : Fm) (A1 A2 : Option Addr) (c1 c2 : Nat) (AL : Option Addr) (n : Nat) (E : Nat → Nat → Int) (w' : World) : Prop where
  f : Blk w' 0 b #[.int .i64 F.cap, .slice A1 F.n1 c1, .slice A2 F.n2 c2] 25
  t1 : TabA 4 w' A1 F.n1 F.f1
  t2 : TabA 4 w' A2 F.n2 F.f2
  l : TabA 5 w' AL n E
  bel : Below w1.heap.size w1 w'
structure LwRX (b7 : Nat) (P1 P2 : Option Addr) (p1 p2 : Nat) (b : Nat) (w1 : World) (F : Fm) (A1 A2 : Option Addr) (c1 c2 : Nat) (AL : Option Addr) (n : Nat) (E : Nat → Nat → Int) (w' : World) : Prop where
  l : LwR b w1 F A1 A2 c1 c2 AL n E w'
  x : Blk w' 0 b7 #[.int .i64 F.cap, .slice P1 F.n1 p1, .slice P2 F.n2 p2] 34
section
variable {b b7 n c1 c2 p1 p2 : Nat} {w1 w' w'' : World} {F : Fm} {A1 A2 AL P1 P2 : Option Addr} {E : Nat → Nat → Int}
theorem LwR.keep (h : LwR b w1 F A1 A2 c1 c2 AL n E w') (hb : Below w'.heap.size w' w'') : LwR b w1 F A1 A2 c1 c2 AL n E w'' := ⟨h.f.keep hb, h.t1.keep hb, h.t2.keep hb, h.l.keep hb, btrans h.bel hb⟩
theorem LwR.anew (h : LwR b w1 F A1 A2 c1 c2 AL n E w') : LwR b w' F A1 A2 c1 c2 AL n E w' := ⟨h.f, h.t1, h.t2, h.l, Below.refl _ _⟩
theorem LwR.cells (h : LwR b w1 F A1 A2 c1 c2 AL n E w') : w'.cell? ⟨b, 0, none⟩ = some (.int .i64 F.cap) ∧ w'.cell? ⟨b, 1, none⟩ = some (.slice A1 F.n1 c1) ∧ w'.cell? ⟨b, 2, none⟩ = some (.slice A2 F.n2 c2) := ⟨(h.f.cell 0).trans rfl, (h.f.cell 1).trans rfl, (h.f.cell 2).trans rfl⟩
theorem LwR.new (F : Fm) (A1 A2 : Option Addr) (c1 c2 : Nat) (AL : Option Addr) (n : Nat) (E : Nat → Nat → Int) (w : World) (h1 : TabA 4 w A1 F.n1 F.f1) (h2 : TabA 4 w A2 F.n2 F.f2) (h3 : TabA 5 w AL n E) : LwR w.heap.size (w.alloc (.cells #[.int .i64 F.cap, .slice A1 F.n1 c1, .slice A2 F.n2 c2] 25)) F A1 A2 c1 c2 AL n E (w.alloc (.cells #[.int .i64 F.cap, .slice A1 F.n1 c1, .slice A2 F.n2 c2] 25)) := by
  have hal : Below w.heap.size w (w.alloc (.cells #[.int .i64 F.cap, .slice A1 F.n1 c1, .slice A2 F.n2 c2] 25)) := (Below.refl w.heap.size w).alloc (Nat.le_refl _) _
  exact ⟨Blk.new (w := w) (B := 0) (Nat.zero_le _) #[.int .i64 F.cap, .slice A1 F.n1 c1, .slice A2 F.n2 c2] 25, h1.keep hal, h2.keep hal, h3.keep hal, Below.refl _ _⟩
theorem LwRX.keep (h : LwRX b7 P1 P2 p1 p2 b w1 F A1 A2 c1 c2 AL n E w') (hb : Below w'.heap.size w' w'') : LwRX b7 P1 P2 p1 p2 b w1 F A1 A2 c1 c2 AL n E w'' := ⟨h.l.keep hb, h.x.keep hb⟩
theorem LwRX.drew (h : LwRX b7 P1 P2 p1 p2 b w1 F A1 A2 c1 c2 AL n E w') : LwRX b7 P1 P2 p1 p2 b w1 F A1 A2 c1 c2 AL n E w'.drew := h.keep (Below.refl _ _).drew
theorem LwRX.all (h : LwRX b7 P1 P2 p1 p2 b w1 F A1 A2 c1 c2 AL n E w') : w'.cell? ⟨b, 0, none⟩ = some (.int .i64 F.cap) ∧ w'.cell? ⟨b, 1, none⟩ = some (.slice A1 F.n1 c1) ∧ w'.cell? ⟨b, 2, none⟩ = some (.slice A2 F.n2 c2) ∧ w'.cell? ⟨b7, 0, none⟩ = some (.int .i64 F.cap) ∧ w'.cell? ⟨b7, 1, none⟩ = some (.slice P1 F.n1 p1) ∧ w'.cell? ⟨b7, 2, none⟩ = some (.slice P2 F.n2 p2) ∧ LwRX b7 P1 P2 p1 p2 b w1 F A1 A2 c1 c2 AL n E w' := ⟨h.l.cells.1, h.l.cells.2.1, h.l.cells.2.2, (h.x.cell 0).trans rfl, (h.x.cell 1).trans rfl, (h.x.cell 2).trans rfl, h⟩
theorem LwRX.pick (h : w'.cell? ⟨b, 0, none⟩ = some (.int .i64 F.cap) ∧ w'.cell? ⟨b, 1, none⟩ = some (.slice A1 F.n1 c1) ∧ w'.cell? ⟨b, 2, none⟩ = some (.slice A2 F.n2 c2) ∧ w'.cell? ⟨b7, 0, none⟩ = some (.int .i64 F.cap) ∧ w'.cell? ⟨b7, 1, none⟩ = some (.slice P1 F.n1 p1) ∧ w'.cell? ⟨b7, 2, none⟩ = some (.slice P2 F.n2 p2) ∧ LwRX b7 P1 P2 p1 p2 b w1 F A1 A2 c1 c2 AL n E w') : LwRX b7 P1 P2 p1 p2 b w1 F A1 A2 c1 c2 AL n E w' := h.2.2.2.2.2.2
end
/-- An answer with a place in a block, with its tables. -/
def AnsA (w : World) (B b : Nat) (a C : Int) (G : Fm) (vg vm : Value) : Prop := Blk w 0 b #[.int .i64 G.cap, vg, vm, .int .i64 a, .int .i64 C] 60 ∧ FarmV w B G vg vm
theorem AnsA.keep {w w' : World} {B b : Nat} {a C : Int} {G : Fm} {vg vm : Value} (h : AnsA w B b a C G vg vm) (hb : Below w.heap.size w w') : AnsA w' B b a C G vg vm := ⟨h.1.keep hb, h.2.keep hb⟩
theorem AnsA.new {w : World} {B : Nat} {a C : Int} {G : Fm} {vg vm : Value} (h : FarmV w B G vg vm) : AnsA (w.alloc (.cells #[.int .i64 G.cap, vg, vm, .int .i64 a, .int .i64 C] 60)) B w.heap.size a C G vg vm := ⟨Blk.new (Nat.zero_le _) _ _, h.alloc _⟩
theorem AnsA.cells {w : World} {B b : Nat} {a C : Int} {G : Fm} {vg vm : Value} (h : AnsA w B b a C G vg vm) : w.cell? ⟨b, 0, none⟩ = some (.int .i64 G.cap) ∧ w.cell? ⟨b, 1, none⟩ = some vg ∧ w.cell? ⟨b, 2, none⟩ = some vm ∧ w.cell? ⟨b, 3, none⟩ = some (.int .i64 a) ∧ w.cell? ⟨b, 4, none⟩ = some (.int .i64 C) := ⟨(h.1.cell 0).trans rfl, (h.1.cell 1).trans rfl, (h.1.cell 2).trans rfl, (h.1.cell 3).trans rfl, (h.1.cell 4).trans rfl⟩
theorem rn_small (F : Fm) (E : Nat → Nat → Int) (n : Nat) : (rnF F E n).n1 ≤ 2000 ∧ (rnF F E n).n2 ≤ 2000 := by
  by_cases h : n > 200
  · rw [(rn_long h).2.2]; exact ⟨by decide, by decide⟩
  by_cases hf : fmB F = false
  · rw [(rn_form h hf).2.2]; exact ⟨by decide, by decide⟩
  have hf' : fmB F = true := by cases hh : fmB F; exact absurd hh hf; rfl
  by_cases ha : ∀ j, j < n → ecAt F E j = 0
  · rw [(rn_all h hf' ha).2.2]
    have := run_right (Right.of hf') n ha
    exact ⟨Nat.le_trans this.l1 (by decide), Nat.le_trans this.l2 (by decide)⟩
  · unfold rnF
    rw [if_neg h, if_neg hf]
    by_cases hr : runA F E 0 n < n
    · rw [if_pos hr]; exact ⟨by decide, by decide⟩
    · exfalso
      apply ha
      intro j hj
      have key : ∀ (k i : Nat), (∀ j, j < i → ecAt F E j = 0) → ¬ runA F E i k < i + k → ∀ j, j < i + k → ecAt F E j = 0 := by
        intro k
        induction k with
        | zero => intro i h1 _ j hj; exact h1 j (by omega)
        | succ k ih =>
          intro i h1 h2 j hj
          unfold runA at h2
          by_cases h3 : ecAt F E i = 0
          · rw [if_pos h3] at h2
            exact ih (i + 1) (fun j hj => by rcases Nat.lt_succ_iff_lt_or_eq.1 hj with h | rfl; exact h1 j h; exact h3) (by omega) j (by omega)
          · rw [if_neg h3] at h2; omega
      exact key n 0 (fun j hj => by omega) (by omega) j (by omega)
set_option maxHeartbeats 8000000 in
theorem farmRun_law (F : Fm) (A1 A2 : Option Addr) (c1 c2 : Nat) (AL : Option Addr) (n cL : Nat) (E : Nat → Nat → Int) (w : World) (h1 : TabA 4 w A1 F.n1 F.f1) (h2 : TabA 4 w A2 F.n2 F.f2) (h3 : TabA 5 w AL n E) (m1 : F.n1 ≤ 9223372036854775807) (m2 : F.n2 ≤ 9223372036854775807) (m3 : n ≤ 9223372036854775807) :
    Calls Try.prog 11 #[.agg #[.int .i64 F.cap, .slice A1 F.n1 c1, .slice A2 F.n2 c2], .slice AL n cL] w fun e w' => e = .returned (.bool true) ∧ Below w.heap.size w w' := by
  have L1 := Lib.hid (LwR.new F A1 A2 c1 c2 AL n E w h1 h2 h3)
  have HB : Hid (Below w.heap.size w (w.alloc (.cells #[.int .i64 F.cap, .slice A1 F.n1 c1, .slice A2 F.n2 c2] 25))) := Lib.hid ((Below.refl w.heap.size w).alloc (Nat.le_refl _) _)
  clear h1 h2 h3
  go_enter Try.func11, Try.ntmps11
  go_upto_region 2 with fail
  generalize (w.alloc (.cells #[.int .i64 F.cap, .slice A1 F.n1 c1, .slice A2 F.n2 c2] 25)) = w1 at *
  obtain ⟨b, hbb⟩ : ∃ b, w.heap.size = b := ⟨_, rfl⟩
  have HBB := Lib.hid hbb
  rw [hbb] at L1 ⊢
  clear hbb
  obtain ⟨u0, u1, u2⟩ := L1.out.cells
  have hlt1 : b < w1.heap.size := L1.out.f.lt
  have HSZ := Lib.hid fun (w' : World) => c_szFarm F.cap A1 A2 F.n1 c1 F.n2 c2 1048576 w' (by omega) (by omega) m1 m2
  by_cases hs : (if 1048576 - (F.n1 : Int) - F.n2 < 0 then (-1 : Int) else 1048576 - F.n1 - F.n2) < 0
  case pos =>
    have bs : decide ((if 1048576 - (F.n1 : Int) - F.n2 < 0 then (-1 : Int) else 1048576 - F.n1 - F.n2) < 0) = true := decide_eq_true hs
    generalize (if 1048576 - (F.n1 : Int) - F.n2 < 0 then (-1 : Int) else 1048576 - F.n1 - F.n2) = sz at *
    go_wp2_with (first | (go_at_call 32; (with_reducible refine (HSZ.out w1).mono ?_); rintro e w2 ⟨rfl, hb2⟩; have HB2 := Lib.hid hb2; clear hb2) | fail)
    go_ret
    exact ⟨rfl, HB.out.trans (HB2.out.mono (by have := HBB.out; omega))⟩
  have bs : decide ((if 1048576 - (F.n1 : Int) - F.n2 < 0 then (-1 : Int) else 1048576 - F.n1 - F.n2) < 0) = false := decide_eq_false hs
  have hn : F.n1 ≤ 1048576 ∧ F.n2 ≤ 1048576 := by
    by_cases hq : 1048576 - (F.n1 : Int) - F.n2 < 0
    · rw [if_pos hq] at hs; omega
    · omega
  obtain ⟨hn1, hn2⟩ := hn
  have hsz : 0 ≤ (if 1048576 - (F.n1 : Int) - F.n2 < 0 then (-1 : Int) else 1048576 - F.n1 - F.n2) ∧ (if 1048576 - (F.n1 : Int) - F.n2 < 0 then (-1 : Int) else 1048576 - F.n1 - F.n2) ≤ 1048576 := by
    by_cases hq : 1048576 - (F.n1 : Int) - F.n2 < 0
    · rw [if_pos hq] at hs; omega
    · rw [if_neg hq]; omega
  clear hs
  generalize (if 1048576 - (F.n1 : Int) - F.n2 < 0 then (-1 : Int) else 1048576 - F.n1 - F.n2) = sz at *
  obtain ⟨hsz0, hsz1⟩ := hsz
  have HSL := Lib.hid fun (w' : World) => c_szEditS AL n cL sz w' hsz0 (by omega) m3
  by_cases hs2 : (if sz < (n : Int) then (-1 : Int) else sz - n) < 0
  case pos =>
    have bs2 : decide ((if sz < (n : Int) then (-1 : Int) else sz - n) < 0) = true := decide_eq_true hs2
    generalize (if sz < (n : Int) then (-1 : Int) else sz - n) = sy at *
    go_wp2_with (first | (go_at_call 32; (with_reducible refine (HSZ.out w1).mono ?_); rintro e w2 ⟨rfl, hb2⟩; have HB2 := Lib.hid hb2; clear hb2) | (go_at_call 46; (with_reducible refine (HSL.out _).mono ?_); rintro e w3 ⟨rfl, rfl⟩) | fail)
    go_ret
    exact ⟨rfl, HB.out.trans (HB2.out.mono (by have := HBB.out; omega))⟩
  have bs2 : decide ((if sz < (n : Int) then (-1 : Int) else sz - n) < 0) = false := decide_eq_false hs2
  have hn3 : n ≤ 1048576 := by
    by_cases hq : sz < (n : Int)
    · rw [if_pos hq] at hs2; omega
    · omega
  clear hs2 hsz0 hsz1
  generalize (if sz < (n : Int) then (-1 : Int) else sz - n) = sy at *
  obtain ⟨C, hC⟩ : ∃ C, rnC F E n = C := ⟨_, rfl⟩
  obtain ⟨AT, hA⟩ : ∃ AT, rnA F E n = AT := ⟨_, rfl⟩
  obtain ⟨G, hG⟩ : ∃ G, rnF F E n = G := ⟨_, rfl⟩
  have HSF := Lib.hid fun (w' : World) (X1 X2 : Option Addr) (d1 d2 : Nat) (AE : Option Addr) (cE : Nat) (h : FarmAt w' X1 F.n1 F.f1 X2 F.n2 F.f2) (l1 : F.n1 ≤ d1) (l2 : F.n2 ≤ d2) (hE : Tab 5 w' AE n E) => s_FarmRun F X1 X2 d1 d2 AE n cE E w' h l1 l2 hE (by omega)
  have HIF := Lib.hid fun (w' : World) (X1 X2 : Option Addr) (d1 d2 : Nat) (AE : Option Addr) (cE : Nat) (h : FarmAt w' X1 F.n1 F.f1 X2 F.n2 F.f2) (l1 : F.n1 ≤ d1) (hE : Tab 5 w' AE n E) => c_FarmRun F X1 X2 d1 d2 AE n cE E w' h l1 hE (by omega)
  unfold OutA at HIF HSF
  rw [hC, hA, hG] at HIF HSF
  have hsm := rn_small F E n
  rw [hG] at hsm
  obtain ⟨hs1, hs2⟩ := hsm
  clear hC hA hG
  have HTF := Lib.hid fun (wb w' : World) (h : LwR b wb F A1 A2 c1 c2 AL n E w') => c_toFarmO F.cap A1 A2 F.n1 c1 F.n2 c2 F.f1 F.f2 w' h.t1 h.t2 (by omega) (by omega)
  have HTE := Lib.hid fun (wb w' : World) (h : LwR b wb F A1 A2 c1 c2 AL n E w') => c_toEditF AL n cL E w' h.l (by omega)
  go_upto_region 8 with (first | (go_at_call 32; (with_reducible refine (HSZ.out w1).mono ?_); rintro e w2 ⟨rfl, hb2⟩; have L2 := Lib.hid (L1.out.keep hb2); clear hb2) | (go_at_call 46; (with_reducible refine (HSL.out _).mono ?_); rintro e w3 ⟨rfl, rfl⟩) | fail)
  clear u0 u1 u2 bs bs2
  obtain ⟨u0, u1, u2⟩ := L2.out.cells
  go_upto_region 9 with (first
    | (go_at_call 34; refine (HTF.out _ _ L2.out).mono ?_; rintro e wf ⟨vg, vm, rfl, hO1, hO2, hbf⟩; obtain ⟨Y1, y1, rfl, hd1, hT1⟩ := hO1.tab; obtain ⟨Y2, y2, rfl, hd2, hT2⟩ := hO2.tab; have HFA := Lib.hid (show FarmAt wf Y1 F.n1 F.f1 Y2 F.n2 F.f2 from ⟨hT1, hT2⟩); have L3 := Lib.hid (L2.out.keep hbf); clear hO1 hO2 hT1 hT2 hbf)
    | (go_at_call 47; refine (HTE.out _ _ L3.out).mono ?_; rintro e we ⟨g, FF, rfl, hW, hO, hbe⟩; have HFB := Lib.hid (HFA.out.keep hbe); have HET := Lib.hid (hW.tab hO); have L4 := Lib.hid (L3.out.keep hbe); clear hW hO hbe)
    | (go_at_call 41; refine (HSF.out _ _ _ _ _ _ _ HFB.out hd1 hd2 HET.out).mono ?_; rintro e wr ⟨vg, vm, rfl, hV, hbr⟩; obtain ⟨X1, d1, X2, d2, rfl, rfl, -, -⟩ := hV.caps; have VV := Lib.hid hV; have L5 := Lib.hid (L4.out.keep hbr); clear hV hbr)
    | fail)
  clear u0 u1 u2
  have al := (Below.refl wr.heap.size wr).alloc (Nat.le_refl _) (.cells #[.int .i64 G.cap, .slice X1 G.n1 d1, .slice X2 G.n2 d2, .int .i64 AT, .int .i64 C] 60)
  have A4 := Lib.hid (AnsA.new (a := AT) (C := C) VV.out)
  have N4 := Lib.hid (L5.out.keep al)
  clear al VV L3 L4 L5 HFA HFB HET
  generalize (wr.alloc (.cells #[.int .i64 G.cap, .slice X1 G.n1 d1, .slice X2 G.n2 d2, .int .i64 AT, .int .i64 C] 60)) = w4 at *
  generalize wr.heap.size = b6 at *
  generalize we.heap.size = Be at *
  have L4 := Lib.hid N4.out.anew
  obtain ⟨u0, u1, u2⟩ := L4.out.cells
  go_upto_region 10 with (first
    | (go_at_call 34; refine (HTF.out _ _ L4.out).mono ?_; rintro e wf ⟨vg, vm, rfl, hO1, hO2, hbf⟩; obtain ⟨P1, p1, rfl, hp1, -⟩ := hO1.tab; obtain ⟨P2, p2, rfl, hp2, -⟩ := hO2.tab; have O1 := Lib.hid hO1; have O2 := Lib.hid hO2; have HBF := Lib.hid hbf; clear hO1 hO2 hbf)
    | fail)
  have al := (Below.refl wf.heap.size wf).alloc (Nat.le_refl _) (.cells #[.int .i64 F.cap, .slice P1 F.n1 p1, .slice P2 F.n2 p2] 34)
  have K7 := Lib.hid (Blk.new (w := wf) (B := 0) (Nat.zero_le _) #[.int .i64 F.cap, .slice P1 F.n1 p1, .slice P2 F.n2 p2] 34)
  have Q1 := Lib.hid (O1.out.keep al)
  have Q2 := Lib.hid (O2.out.keep al)
  have B45 := Lib.hid (btrans HBF.out al)
  clear al O1 O2 HBF u0 u1 u2
  generalize (wf.alloc (.cells #[.int .i64 F.cap, .slice P1 F.n1 p1, .slice P2 F.n2 p2] 34)) = w5 at *
  generalize wf.heap.size = b7 at *
  go_upto_region 11 with (first
    | (go_at_call 47; refine (HTE.out _ _ (L4.out.keep B45.out)).mono ?_; rintro e w6 ⟨g8, F8, rfl, hW, hO, hb6⟩; have W8 := Lib.hid hW; have HET := Lib.hid (hW.tab hO); have B56 := Lib.hid hb6; clear hW hO hb6)
    | fail)
  have K76 := Lib.hid (K7.out.keep B56.out)
  have x0 := (K76.out.cell 0).trans rfl
  have x1 := (K76.out.cell 1).trans rfl
  have x2 := (K76.out.cell 2).trans rfl
  have FX6 := Lib.hid (show FarmAt w6 P1 F.n1 F.f1 P2 F.n2 F.f2 from FarmAt.keep (FarmV.at (G := F) ⟨Q1.out, Q2.out⟩) B56.out)
  go_upto_region 12 with (first
    | (go_at_call 40; refine (HIF.out _ _ _ _ _ _ _ FX6.out hp1 HET.out).mono ?_; rintro e wr ⟨vg, vm, rfl, hV, hbr⟩; obtain ⟨X3, d3, X4, d4, rfl, rfl, -, -⟩ := hV.caps; have VV := Lib.hid hV; have HBR := Lib.hid hbr; clear hV hbr)
    | fail)
  clear x0 x1 x2
  have al := (Below.refl wr.heap.size wr).alloc (Nat.le_refl _) (.cells #[.int .i64 G.cap, .slice X3 G.n1 d3, .slice X4 G.n2 d4, .int .i64 AT, .int .i64 C] 60)
  have A7 := Lib.hid (AnsA.new (a := AT) (C := C) VV.out)
  have B67 := Lib.hid (btrans HBR.out al)
  clear al VV HBR
  generalize (wr.alloc (.cells #[.int .i64 G.cap, .slice X3 G.n1 d3, .slice X4 G.n2 d4, .int .i64 AT, .int .i64 C] 60)) = w7 at *
  generalize wr.heap.size = b9 at *
  have B47 := Lib.hid (btrans (btrans B45.out B56.out) B67.out)
  have A47 := Lib.hid (A4.out.keep B47.out)
  obtain ⟨z0, z1, z2, z3, z4⟩ := A7.out.cells
  obtain ⟨y0, y1, y2, y3, y4⟩ := A47.out.cells
  go_upto_region 14 with (first
    | (go_at_call 42; refine (c_eqFarmOut G.cap AT C X3 X4 X1 X2 G.n1 d3 G.n2 d4 d1 d2 G.f1 G.f2 _ A7.out.2.at A47.out.2.at (by omega) (by omega)).mono ?_; rintro e w8 ⟨rfl, hb8⟩; have B78 := Lib.hid hb8; clear hb8)
    | fail)
  clear z0 z1 z2 z3 z4 y0 y1 y2 y3 y4
  have B68 := Lib.hid (btrans B67.out B78.out)
  have B58 := Lib.hid (btrans B56.out B68.out)
  have B48 := Lib.hid (btrans B45.out B58.out)
  have X8 := Lib.hid (show LwRX b7 P1 P2 p1 p2 b w8 F A1 A2 c1 c2 AL n E w8 from ⟨(L4.out.keep B48.out).anew, K7.out.keep B58.out⟩)
  have FX8 := Lib.hid (FX6.out.keep B68.out)
  go_cut [44] (fun v44 wc => ∃ wx : World, wx = wc ∧ v44 = .bool false ∧ Hid (LwRX b7 P1 P2 p1 p2 b w8 F A1 A2 c1 c2 AL n E wx))
  case first =>
    go_region_held3 (fun w' => w'.cell? ⟨b, 0, none⟩ = some (.int .i64 F.cap) ∧ w'.cell? ⟨b, 1, none⟩ = some (.slice A1 F.n1 c1) ∧ w'.cell? ⟨b, 2, none⟩ = some (.slice A2 F.n2 c2) ∧ w'.cell? ⟨b7, 0, none⟩ = some (.int .i64 F.cap) ∧ w'.cell? ⟨b7, 1, none⟩ = some (.slice P1 F.n1 p1) ∧ w'.cell? ⟨b7, 2, none⟩ = some (.slice P2 F.n2 p2) ∧ LwRX b7 P1 P2 p1 p2 b w8 F A1 A2 c1 c2 AL n E w') (first | exact X8.out.drew.all | exact hB.all) (first
      | (go_at_call 34; refine (HTF.out _ _ (LwRX.pick (by assumption)).l).mono ?_; rintro e wf ⟨vg, vm, rfl, hO1, hO2, hbf⟩; have hB := (LwRX.pick (by assumption)).keep hbf; obtain ⟨Y1, y1, rfl, hd1, hT1⟩ := hO1.tab; obtain ⟨Y2, y2, rfl, hd2, hT2⟩ := hO2.tab; have HFA := Lib.hid (show FarmAt wf Y1 F.n1 F.f1 Y2 F.n2 F.f2 from ⟨hT1, hT2⟩); clear hO1 hO2 hT1 hT2)
      | (go_at_call 37; refine (c_eqFarm F.cap P1 P2 Y1 Y2 F.n1 p1 F.n2 p2 y1 y2 F.f1 F.f2 _ (FX8.out.keep hB.l.bel) HFA.out (by omega) (by omega)).mono ?_; rintro e w7' ⟨rfl, hb7⟩; have hB := (LwRX.pick (by assumption)).keep hb7)
      | fail)
    all_goals (go_wp2_with fail; go_meet; exact ⟨_, rfl, rfl, Lib.hid (LwRX.pick (by assumption))⟩)
  case rest =>
    obtain ⟨w9, rfl, rfl, X9⟩ := hcut
    have B89 := Lib.hid X9.out.l.bel
    have B69 := Lib.hid (btrans B68.out B89.out)
    have L9 := Lib.hid X9.out.l.anew
    go_upto_region 18 with (first
      | (go_at_call 47; refine (HTE.out _ _ L9.out).mono ?_; rintro e wt ⟨gt, FT, rfl, hW, hO, hbt⟩; have HT2 := Lib.hid (hW.tab hO); have B9t := Lib.hid hbt; clear hW hO hbt)
      | (go_at_call 48; refine (c_eqEditS _ _ _ _ _ E _ (HET.out.keep (btrans B69.out B9t.out)) HT2.out (by omega)).mono ?_; rintro e w10 ⟨rfl, hb10⟩; have B910 := Lib.hid (btrans B9t.out hb10); clear hb10)
      | fail)
    have B610 := Lib.hid (btrans B69.out B910.out)
    have B510 := Lib.hid (btrans B56.out B610.out)
    have B410 := Lib.hid (btrans B45.out B510.out)
    have B710 := Lib.hid (btrans (btrans B78.out B89.out) B910.out)
    have K710 := Lib.hid (K7.out.keep B510.out)
    have P10 := Lib.hid (Q1.out.keep B510.out)
    have P20 := Lib.hid (Q2.out.keep B510.out)
    have A710 := Lib.hid (A7.out.keep B710.out)
    have E10 := Lib.hid (show FlatP w10 w5.heap.size g8 (n * 5) F8 56 from FlatP.keep (w := w6) (let ⟨cs, h1, h2, h3⟩ := W8.out; ⟨cs, h1, by omega, h3⟩) B610.out)
    have LP1 := Lib.hid (show ∀ k, (.slice P1 F.n1 p1 : Value).ownBlock = some k → w4.heap.size ≤ k ∧ k < w5.heap.size from fun k e => World.ownsRow.lt Q1.out k e)
    have LP2 := Lib.hid (show ∀ k, (.slice P2 F.n2 p2 : Value).ownBlock = some k → w4.heap.size ≤ k ∧ k < w5.heap.size from fun k e => World.ownsRow.lt Q2.out k e)
    have LG8 := Lib.hid (show w5.heap.size ≤ g8 ∧ g8 < w6.heap.size from ⟨W8.out.ge, W8.out.lt⟩)
    have H45 := Lib.hid B45.out.size
    have H56 := Lib.hid B56.out.size
    have H410 := Lib.hid B410.out.size
    have x0 := (K710.out.cell 0).trans rfl
    have x1 := (K710.out.cell 1).trans rfl
    have x2 := (K710.out.cell 2).trans rfl
    have bk : decide (1 + (F.n1 : Int) * 4 + (F.n2 : Int) * 4 + (n : Int) * 5 < 0) = false := decide_eq_false (by omega)
    go_upto_region 21 with (first
      | (go_at_call 43; refine (c_markFarm P10.out P20.out (by omega) (by omega) (by omega) (by omega)).mono ?_; rintro e w11 ⟨rfl, -, wm, hg1, hg2⟩; have G1 := Lib.hid hg1; have G2 := Lib.hid hg2; have E11 := Lib.hid (show FlatP w11 w5.heap.size g8 (n * 5) F8 56 from (let ⟨cs, h1, h2, h3⟩ := E10.out; ⟨cs, (h1.grownO hg1 (fun e => by have := (LP1.out _ e).2; have := LG8.out.1; omega)).grownO hg2 (fun e => by have := (LP2.out _ e).2; have := LG8.out.1; omega), h2, h3⟩)); clear hg1 hg2)
      | (go_at_call 49; refine (c_markEditS g8 n n _ _ _ _ E11.out (by omega) (by omega) (by omega)).mono ?_; rintro e w12 ⟨rfl, -, hg3⟩; have G3 := Lib.hid hg3; clear hg3)
      | fail)
    clear x0 x1 x2
    have BM1 := Lib.hid (show Below w4.heap.size w10 w11 from ((Below.refl w4.heap.size w10).grown G1.out H410.out (fun k e => (LP1.out k e).1)).grown G2.out (Nat.le_trans H410.out G1.out.size) (fun k e => (LP2.out k e).1))
    have BM := Lib.hid (show Below w4.heap.size w10 w12 from BM1.out.grown G3.out (Nat.le_trans H410.out BM1.out.size) (fun k e => by cases e; have := LG8.out.1; have := H45.out; omega))
    have B412 := Lib.hid (B410.out.trans BM.out)
    have A412 := Lib.hid (A4.out.keep B412.out)
    have K8m := Lib.hid (A710.out.1.grownO G1.out (P10.out.neBlk A710.out.1 (by decide)))
    have P2m := Lib.hid (P20.out.grown G1.out (fun k e h => P20.out.ne P10.out (by decide) e h))
    have K8n := Lib.hid (K8m.out.grownO G2.out (P2m.out.neBlk K8m.out (by decide)))
    have K8p := Lib.hid (K8n.out.grownO G3.out (fun e => by obtain ⟨cs, h1, -⟩ := E11.out; cases e; have := h1.2.symm.trans K8n.out.2; simp at this))
    have A712 := Lib.hid (show AnsA w12 w6.heap.size b9 AT C G (.slice X3 G.n1 d3) (.slice X4 G.n2 d4) from ⟨K8p.out, ((A710.out.2.grownH G1.out (fun k e => by have := (LP1.out k e).2; have := H56.out; omega)).grownH G2.out (fun k e => by have := (LP2.out k e).2; have := H56.out; omega)).grownH G3.out (fun k e => by cases e; exact LG8.out.2)⟩)
    clear K8m P2m K8n K8p
    obtain ⟨z0, z1, z2, z3, z4⟩ := A712.out.cells
    obtain ⟨y0, y1, y2, y3, y4⟩ := A412.out.cells
    go_upto_region 24 with (first
      | (go_at_call 42; refine (c_eqFarmOut G.cap AT C X3 X4 X1 X2 G.n1 d3 G.n2 d4 d1 d2 G.f1 G.f2 _ A712.out.2.at A412.out.2.at (by omega) (by omega)).mono ?_; rintro e w13 ⟨rfl, hb13⟩; have B1213 := Lib.hid hb13; clear hb13)
      | fail)
    clear z0 z1 z2 z3 z4 y0 y1 y2 y3 y4 bk
    have A713 := Lib.hid (A712.out.keep B1213.out)
    have B413 := Lib.hid (btrans B412.out B1213.out)
    obtain ⟨z0, z1, z2, z3, z4⟩ := A713.out.cells
    go_upto_region 25 with (first
      | (go_at_call 44; refine (c_markFarmOut A713.out.2.1 A713.out.2.2 (by omega) (by omega) (by omega) (by omega)).mono ?_; rintro e w14 ⟨rfl, hT, wn, hg4, hg5⟩; have T14 := Lib.hid hT; have G4 := Lib.hid hg4; have G5 := Lib.hid hg5; clear hT hg4 hg5)
      | fail)
    clear z0 z1 z2 z3 z4
    have H46 := Lib.hid (Nat.le_trans H45.out H56.out)
    have BN := Lib.hid (show Below w4.heap.size w13 w14 from ((Below.refl w4.heap.size w13).grown G4.out B413.out.size (fun k e => Nat.le_trans H46.out (A713.out.2.lt.1 k e).1)).grown G5.out (Nat.le_trans B413.out.size G4.out.size) (fun k e => Nat.le_trans H46.out (A713.out.2.lt.2 k e).1))
    have B414 := Lib.hid (B413.out.trans BN.out)
    have K8n := Lib.hid (A713.out.1.grownO G4.out (A713.out.2.1.neBlk A713.out.1 (by decide)))
    have P4n := Lib.hid (A713.out.2.2.grown G4.out (fun k e h => A713.out.2.2.ne A713.out.2.1 (by decide) e h))
    have K8 := Lib.hid (K8n.out.grownO G5.out (P4n.out.neBlk K8n.out (by decide)))
    clear K8n P4n
    have z0 := (K8.out.cell 0).trans rfl
    have z1 := (K8.out.cell 1).trans rfl
    have z2 := (K8.out.cell 2).trans rfl
    have z3 := (K8.out.cell 3).trans rfl
    have z4 := (K8.out.cell 4).trans rfl
    have bq : decide (1 + (G.n1 : Int) * 4 + (G.n2 : Int) * 4 < 0) = false := decide_eq_false (by omega)
    have bm : ((1 + (G.n1 : Int) * 4 + (G.n2 : Int) * 4) != (1 + (G.n1 : Int) * 4 + (G.n2 : Int) * 4)) = false := by simp
    have HHF := Lib.hid fun (w' : World) (h : FarmAt w' X3 G.n1 (mkf 1) X4 G.n2 (mkf (1 + G.n1 * 4))) => c_heldFarmOut (cap := G.cap) (at_ := AT) (code := C) (c1 := d3) (c2 := d4) h (by omega) (by omega) (by omega) (by omega)
    generalize hmm : 1 + (G.n1 : Int) * 4 + (G.n2 : Int) * 4 = mm at *
    clear hmm
    go_upto_region 31 with (first
      | (go_at_call 45; refine (HHF.out _ T14.out).mono ?_; rintro e w15 ⟨rfl, hb15⟩; have B1415 := Lib.hid hb15; clear hb15)
      | fail)
    clear z0 z1 z2 z3 z4
    have B415 := Lib.hid (btrans B414.out B1415.out)
    have L15 := Lib.hid (L4.out.keep B415.out)
    obtain ⟨u0, u1, u2⟩ := L15.out.cells
    go_upto_region 32 with (first
      | (go_at_call 34; refine (HTF.out _ _ L15.out).mono ?_; rintro e wf ⟨vg, vm, rfl, hO1, hO2, hbf⟩; obtain ⟨Y1, y1, rfl, hd1, hT1⟩ := hO1.tab; obtain ⟨Y2, y2, rfl, hd2, hT2⟩ := hO2.tab; have HFA := Lib.hid (show FarmAt wf Y1 F.n1 F.f1 Y2 F.n2 F.f2 from ⟨hT1, hT2⟩); have LF := Lib.hid (L15.out.keep hbf); have BF := Lib.hid hbf; clear hO1 hO2 hT1 hT2 hbf)
      | (go_at_call 47; refine (HTE.out _ _ LF.out).mono ?_; rintro e wg ⟨gq, FQ, rfl, hW, hO, hbe⟩; have HFB := Lib.hid (HFA.out.keep hbe); have HEQ := Lib.hid (hW.tab hO); have BG := Lib.hid (btrans BF.out hbe); clear hW hO hbe)
      | (go_at_call 40; refine (HIF.out _ _ _ _ _ _ _ HFB.out hd1 HEQ.out).mono ?_; rintro e wr ⟨vg, vm, rfl, hV, hbr⟩; obtain ⟨X5, d5, X6, d6, rfl, rfl, -, -⟩ := hV.caps; have VV := Lib.hid hV; have BRR := Lib.hid (btrans BG.out hbr); clear hV hbr)
      | fail)
    clear u0 u1 u2
    have al := (Below.refl wr.heap.size wr).alloc (Nat.le_refl _) (.cells #[.int .i64 G.cap, .slice X5 G.n1 d5, .slice X6 G.n2 d6, .int .i64 AT, .int .i64 C] 60)
    have A16 := Lib.hid (AnsA.new (a := AT) (C := C) VV.out)
    have B1516 := Lib.hid (btrans BRR.out al)
    clear al VV BRR
    generalize (wr.alloc (.cells #[.int .i64 G.cap, .slice X5 G.n1 d5, .slice X6 G.n2 d6, .int .i64 AT, .int .i64 C] 60)) = w16 at *
    generalize wr.heap.size = b13 at *
    have B416 := Lib.hid (btrans B415.out B1516.out)
    have A416 := Lib.hid (A4.out.keep B416.out)
    have K816 := Lib.hid ((K8.out.keep B1415.out).keep B1516.out)
    have T16 := Lib.hid ((T14.out.keep B1415.out).keep B1516.out)
    obtain ⟨z0, z1, z2, z3, z4⟩ := A16.out.cells
    obtain ⟨y0, y1, y2, y3, y4⟩ := A416.out.cells
    go_upto_region 35 with (first
      | (go_at_call 42; refine (c_eqFarmOut G.cap AT C X5 X6 X1 X2 G.n1 d5 G.n2 d6 d1 d2 G.f1 G.f2 _ A16.out.2.at A416.out.2.at (by omega) (by omega)).mono ?_; rintro e w17 ⟨rfl, hb17⟩; have B1617 := Lib.hid hb17; clear hb17)
      | fail)
    clear y0 y1 y2 y3 y4 z0 z1 z2 z3 z4
    have K817 := Lib.hid (K816.out.keep B1617.out)
    have z0 := (K817.out.cell 0).trans rfl
    have z1 := (K817.out.cell 1).trans rfl
    have z2 := (K817.out.cell 2).trans rfl
    have z3 := (K817.out.cell 3).trans rfl
    have z4 := (K817.out.cell 4).trans rfl
    go_wp2_with (first
      | (go_at_call 45; refine (HHF.out _ (T16.out.keep B1617.out)).mono ?_; rintro e w18 ⟨rfl, hb18⟩; have B1718 := Lib.hid hb18; clear hb18)
      | fail)
    go_ret
    have e3 : w.heap.size ≤ w4.heap.size := by
      have h1 := L4.out.f.lt
      have h2 := HBB.out
      omega
    have bw4 : Below w.heap.size w w4 := HB.out.trans (N4.out.bel.mono (by have := HBB.out; omega))
    exact ⟨rfl, bw4.trans ((btrans (btrans B416.out B1617.out) B1718.out).mono e3)⟩
theorem l_FnExactFarmRun : OFnExactFarmRun.Walks := by
  rintro y0 y1 A4 c4 A5 c5 A6 c6 w - - - h1 - h2 - h3
  exact farmRun_law ⟨y0.1, y0.2.1.length, col4 y0.2.1, y0.2.2.length, col4 y0.2.2⟩ _ _ _ _ _ _ _ _ w (tabA4 h1) (tabA4 h2) (tabA5 h3) h1.2.1 h2.2.1 h3.2.1
end Go.Proofs.Ytipkbapnhgdpeaa.C
