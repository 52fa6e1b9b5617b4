/- The law FnFarmRun, walked: drawn edits one by one lead to what they lead to at once, or to the first that is refused. No condition. -/
import Derived.Test.YtipkbapnhgdpeaaDrawQ
import Derived.Test.YtipkbapnhgdpeaaLwG
import Derived.Test.YtipkbapnhgdpeaaFRunS
import Derived.Test.YtipkbapnhgdpeaaOFnFarmRun
namespace Go.Proofs.Ytipkbapnhgdpeaa.C
open Go.RowKit Go.Proofs.Ytipkbapnhgdpeaa.Rd
set_option maxRecDepth 100000
set_option linter.unusedVariables false
set_option linter.unusedSimpArgs false
attribute [local go_sem ↓] Go.wp_at_zero Go.wp_at_succ
/-- The cells of m edits. -/
def er (m : Nat) (E : Nat → Nat → Int) : List Value := (List.range (m * 5)).map fun p => .int .i64 (E (p / 5) (p % 5))
theorem er_len (m : Nat) (E : Nat → Nat → Int) : (er m E).length = m * 5 := by simp [er]
theorem er_get {m : Nat} {E : Nat → Nat → Int} {p : Nat} (h : p < m * 5) : (er m E)[p]? = some (.int .i64 (E (p / 5) (p % 5))) := by simp [er, h]
theorem er_one (m : Nat) (E : Nat → Nat → Int) : ∀ u ∈ er m E, u.oneCell' = true := fun u hu => by
  obtain ⟨p, _, rfl⟩ := List.mem_map.1 hu; rfl
theorem er_cells {w : World} {g off m : Nat} {E : Nat → Nat → Int} (hx : ∀ i j, i < m → j < 5 → w.cell? ⟨g, off + i * 5 + j, none⟩ = some (.int .i64 (E i j))) :
    ∀ j u, (er m E)[j]? = some u → w.cell? ((⟨g, off, none⟩ : Addr).add j) = some u := by
  intro j u hju
  have hlt : j < m * 5 := by have := (List.getElem?_eq_some_iff.1 hju).1; rwa [er_len] at this
  rw [er_get hlt] at hju
  rw [← hju, Addr.add_lit]
  have := hx (j / 5) (j % 5) (by omega) (by omega)
  rw [show off + j / 5 * 5 + j % 5 = off + j by omega] at this
  exact this
theorem run_appendE {w : World} (ty : TypeId) (k : Nat) (hk : w.heap[k]? = some (.cells #[] 56 (0, 0))) (A : Option Addr) (m : Nat) (E : Nat → Nat → Int) (c : Nat) (hM : Tab 5 w A m E) (b1 : m ≤ 100000) :
    ∃ A' c' w', (Builtin.append_ #[72, 72] ty #[.slice (some ⟨k, 0, none⟩) 0 0, .slice A m c]).run Try.prog w = .ok (.slice A' m c') w' ∧ Tab 5 w' A' m E ∧ Below w.heap.size w w' := by
  have hu3 := Try.underlying72
  obtain ⟨j0, hj, hy0, hy1, hy2⟩ := info_parts5 infoEditZ
  have hkl : k < w.heap.size := (Array.getElem?_eq_some_iff.1 hk).1
  rcases Nat.eq_zero_or_pos m with rfl | hm
  · refine ⟨some ⟨k, 0, none⟩, 0, w, ?_, .inr ⟨k, 0, rfl, hkl, fun i j hi _ => absurd hi (by omega)⟩, Below.refl _ _⟩
    have hl : ∀ (x : Addr), (loadCells x 0).run Try.prog w = .ok #[] w := fun x => by simpa using run_loadCells_list (P := Try.prog) w x [] (by simp)
    cases A <;> simp [Builtin.append_, run_underlying hu3, sizeOf, typeInfo, hj, Builtin.lenOf, Builtin.firstCells, storeCells, hl]
  · rcases hM with ⟨rfl, rfl⟩ | ⟨g, off, rfl, hg, hcell⟩
    · omega
    have hold : (Builtin.firstCells j0.size 0 (.slice (some ⟨k, 0, none⟩) 0 0)).run Try.prog w.drew = .ok ([] : List Value).toArray w.drew := by
      rw [hy1]
      exact run_firstCells_some w.drew 5 0 ⟨k, 0, none⟩ 0 0 [] (by simp) (by simp)
    have hsrc : Go.Src Try.prog j0.size 72 (.slice (some ⟨g, off, none⟩) m c) m (er m E) w := by
      rw [hy1]
      exact Go.Src.ofSlice w hu3 ⟨g, off, none⟩ m c (er m E) (er_len m E) (er_cells hcell) (er_one m E)
    have hrun := run_append_grow_src w 72 72 ty 56 j0 _ hu3 hj hy0 (some ⟨k, 0, none⟩) 0 0 [] hold _ m (er m E) hsrc (by omega) (by omega) (by rw [hy2]; exact growslice_fits (by omega) (by omega))
    rw [Nat.zero_add] at hrun
    refine ⟨_, _, _, hrun, .inr ⟨_, 0, rfl, by simp, fun i j hi hj5 => ?_⟩, (Below.refl _ w).drew.alloc (Nat.le_refl _) _⟩
    rw [Nat.zero_add]
    refine (cell_of_row _ _ _ _ _ _ (heap_alloc_new w.drew _)).trans ?_
    rw [Array.getElem?_append_left (by simp [er_len]; omega)]
    have := er_get (m := m) (E := E) (p := i * 5 + j) (by omega)
    rw [show (i * 5 + j) / 5 = i by omega, show (i * 5 + j) % 5 = j by omega] at this
    simpa using this
theorem step_appendE {ops : Array Oper} {o : Oper} {a : Act} {w : World} {K : Act → World → Prop} {Q : Exit → Act → World → Prop} {X : Prop} (hg : o.guard = none)
    (s x : Operand) (hop : o.op = Op.call { callee := Callee.builtin Builtin.append, args := #[s, x], argTypes := #[72, 72] })
    (k : Nat) (hs : a.eval s = .slice (some ⟨k, 0, none⟩) 0 0) (hk : w.heap[k]? = some (.cells #[] 56 (0, 0))) (A : Option Addr) (m : Nat) (E : Nat → Nat → Int) (c : Nat) (hx : a.eval x = .slice A m c) (hM : Tab 5 w A m E) (b1 : m ≤ 100000)
    (hK : ∀ A' c' w', Tab 5 w' A' m E → Below w.heap.size w w' → K (a.put o.dst (.slice A' m c')) w') :
    if Region.wanted o (yielded ops a.tmps) = true then Oper.wp Try.prog o a w K Q else X := by
  obtain ⟨A', c', w', hr, h1, h2⟩ := run_appendE o.type k hk A m E c hM b1
  exact step_append_runK hg s x _ _ hop _ _ hs hx hr (hK A' c' w' h1 h2)
theorem rn_small (F : Fm) (E : Nat → Nat → Int) (n : Nat) : (rnF F E n).n1 ≤ 2000 ∧ (rnF F E n).n2 ≤ 2000 := by
  by_cases h : n > 200
  · rw [(rn_long h).2.2]; exact ⟨by decide, by decide⟩
  by_cases hf : fmB F = false
  · rw [(rn_form h hf).2.2]; exact ⟨by decide, by decide⟩
  have hf' : fmB F = true := by cases hh : fmB F; exact absurd hh hf; rfl
  by_cases ha : ∀ j, j < n → ecAt F E j = 0
  · rw [(rn_all h hf' ha).2.2]
    have := run_right (Right.of hf') n ha
    exact ⟨Nat.le_trans this.l1 (by decide), Nat.le_trans this.l2 (by decide)⟩
  · unfold rnF
    rw [if_neg h, if_neg hf]
    by_cases hr : runA F E 0 n < n
    · rw [if_pos hr]; exact ⟨by decide, by decide⟩
    · exfalso
      apply ha
      intro j hj
      have key : ∀ (k i : Nat), (∀ j, j < i → ecAt F E j = 0) → ¬ runA F E i k < i + k → ∀ j, j < i + k → ecAt F E j = 0 := by
        intro k
        induction k with
        | zero => intro i h1 _ j hj; exact h1 j (by omega)
        | succ k ih =>
          intro i h1 h2 j hj
          unfold runA at h2
          by_cases h3 : ecAt F E i = 0
          · rw [if_pos h3] at h2
            exact ih (i + 1) (fun j hj => by rcases Nat.lt_succ_iff_lt_or_eq.1 hj with h | rfl; exact h1 j h; exact h3) (by omega) j (by omega)
          · rw [if_neg h3] at h2; omega
      exact key n 0 (fun j hj => by omega) (by omega) j (by omega)
theorem heap_e1 (w : World) (o : Obj) : (w.drew.alloc o).heap[w.heap.size]? = some o := heap_alloc_new w.drew o
theorem heap_e2 (w : World) (x o : Obj) : ((w.drew.alloc x).alloc o).heap[w.heap.size + 1]? = some o := by
  have h := heap_alloc_new (w.drew.alloc x) o
  rw [World.size_alloc] at h
  exact h
theorem heap_e3 (w : World) (x o : Obj) : ((w.drew.alloc o).alloc x).heap[w.heap.size]? = some o :=
  (((Below.refl (w.drew.alloc o).heap.size (w.drew.alloc o)).alloc (Nat.le_refl _) x).block w.heap.size (by simp)).trans (heap_e1 w o)
theorem setRow_keepC {C : Nat} {w w' : World} (h : Below C w w') {d : Nat} (hd : C ≤ d) (r : Array Value) : Below C w (w'.setRow d r) := h.trans (below_setRowC hd r)
theorem below_allocK {w w' : World} (h : Below w.heap.size w w') (o : Obj) : Below w.heap.size w (w'.alloc o) := h.alloc h.size o
theorem Room.new1 {w : World} {x : Obj} {B n : Nat} (h : B ≤ w.heap.size) {cs : Array Value} {t : TypeId} (hn : cs.size = n) : Room ((w.alloc x).alloc (.cells cs t)) B (w.heap.size + 1) n t := by
  have h1 := Room.new (w := w.alloc x) (B := B) (by simp; omega) (cs := cs) (t := t) hn
  rw [World.size_alloc] at h1
  exact h1
theorem pick3 {w w' : World} {P0 P1 P2 : Prop} (h : P0 ∧ P1 ∧ P2 ∧ Below w.heap.size w w') : Below w.heap.size w w' := h.2.2.2
theorem pick8 {w w' : World} {P0 P1 P2 P3 P4 P5 P6 P7 : Prop} (h : P0 ∧ P1 ∧ P2 ∧ P3 ∧ P4 ∧ P5 ∧ P6 ∧ P7 ∧ Below w.heap.size w w') : Below w.heap.size w w' := h.2.2.2.2.2.2.2.2
set_option maxHeartbeats 8000000 in
theorem farmRunD_law (A : Option Addr) (n c0 : Nat) (w : World) (h : BytesIn w A n) (hn : n ≤ 1048576) :
    Calls Try.prog 9 #[.slice A n c0] w fun e w' => e = .returned (.bool true) ∧ Below w.heap.size w w' := by
  have huF := Try.underlying34
  have b0 : decide ((n : Int) > 1048576) = false := decide_eq_false (by omega)
  have H := Lib.hid h
  clear h
  go_enter Try.func9, Try.ntmps9
  go_upto_region 4 with (first
    | (go_at_call 38; refine (s_DrawFarmRun _ _ _ _ H.out (by omega)).mono ?_; rintro e w1 ⟨F, vg, vm, v, m, hF1, hF2, hm, rfl, hV, hO, hb⟩; obtain ⟨A1, c1, A2, c2, rfl, rfl, k1, k2⟩ := hV.caps; obtain ⟨AE, cE, E, rfl, hE⟩ := hO.tab)
    | fail)
  have hal := (Below.refl w1.heap.size w1).alloc (Nat.le_refl _) (.cells #[.int .i64 F.cap, .slice A1 F.n1 c1, .slice A2 F.n2 c2] 34)
  have B2 := Lib.hid (show Below w.heap.size w _ from hb.trans (hal.mono hb.size))
  have V2 := Lib.hid ((hV.mono (Nat.zero_le _)).keep hal)
  have E2 := Lib.hid (hE.keep hal)
  have QF := Lib.hid (Blk.new (w := w1) (B := 0) (Nat.zero_le _) #[.int .i64 F.cap, .slice A1 F.n1 c1, .slice A2 F.n2 c2] 34)
  have K1 := Lib.hid k1
  have K2 := Lib.hid k2
  clear hV hO hE hb hal H b0 k1 k2
  generalize (w1.alloc (.cells #[.int .i64 F.cap, .slice A1 F.n1 c1, .slice A2 F.n2 c2] 34)) = w2 at *
  generalize w1.heap.size = bF at *
  obtain ⟨rr, hrr⟩ : ∃ rr, fmB F = rr := ⟨_, rfl⟩
  have HRR := Lib.hid hrr
  have HFR := Lib.hid (show Calls Try.prog 39 #[.agg #[.int .i64 F.cap, .slice A1 F.n1 c1, .slice A2 F.n2 c2]] w2 fun e w' => e = .returned (.bool rr) ∧ Below w2.heap.size w2 w' from hrr ▸ s_FarmRight F.cap A1 A2 F.n1 c1 F.n2 c2 F.f1 F.f2 w2 V2.out.at K1.out)
  clear hrr
  have f0 := (QF.out.cell 0).trans rfl
  have f1 := (QF.out.cell 1).trans rfl
  have f2 := (QF.out.cell 2).trans rfl
  cases rr
  case false =>
    go_wp2_with (first | (go_at_call 39; refine HFR.out.mono ?_; rintro e w3 ⟨rfl, hb3⟩) | fail)
    go_ret
    exact ⟨rfl, B2.out.trans (hb3.mono B2.out.size)⟩
  case true =>
  by_cases hlong : m > 200
  · have b1 : decide ((m : Int) > 200) = true := decide_eq_true (by omega)
    go_wp2_with (first | (go_at_call 39; refine HFR.out.mono ?_; rintro e w3 ⟨rfl, hb3⟩) | fail)
    go_ret
    exact ⟨rfl, B2.out.trans (hb3.mono B2.out.size)⟩
  have b1 : decide ((m : Int) > 200) = false := decide_eq_false (by omega)
  go_upto_region 6 with (first | (go_at_call 39; refine HFR.out.mono ?_; rintro e w3 ⟨rfl, hb3⟩) | fail)
  have B3 := Lib.hid (B2.out.trans (hb3.mono B2.out.size))
  have V3 := Lib.hid (V2.out.keep hb3)
  have E3 := Lib.hid (E2.out.keep hb3)
  have QF3 := Lib.hid (QF.out.keep hb3)
  have hR := Lib.hid (Right.of HRR.out)
  clear hb3 HFR B2 V2 E2 QF f0 f1 f2 b1
  have HSX := Lib.hid (show ∀ w', Below w3.heap.size w3 w' → w'.cell? ⟨bF, 0, none⟩ = some (.int .i64 F.cap) ∧ w'.cell? ⟨bF, 1, none⟩ = some (.slice A1 F.n1 c1) ∧ w'.cell? ⟨bF, 2, none⟩ = some (.slice A2 F.n2 c2) ∧ Below w3.heap.size w3 w' from fun w' hB => ⟨((QF3.out.keep hB).cell 0).trans rfl, ((QF3.out.keep hB).cell 1).trans rfl, ((QF3.out.keep hB).cell 2).trans rfl, hB⟩)
  obtain ⟨rA, hrA⟩ : ∃ x, rnA F E m = x := ⟨_, rfl⟩
  obtain ⟨rC, hrC⟩ : ∃ x, rnC F E m = x := ⟨_, rfl⟩
  obtain ⟨G, hrG⟩ : ∃ x, rnF F E m = x := ⟨_, rfl⟩
  have hsm := rn_small F E m
  rw [hrG] at hsm
  have HIR := Lib.hid fun (AE' : Option Addr) (cE' : Nat) (w' : World) (h : FarmAt w' A1 F.n1 F.f1 A2 F.n2 F.f2) (hE : Tab 5 w' AE' m E) => c_FarmRun F A1 A2 c1 c2 AE' m cE' E w' h K1.out hE (by omega)
  have HSR := Lib.hid fun (w' : World) (h : FarmAt w' A1 F.n1 F.f1 A2 F.n2 F.f2) (hE : Tab 5 w' AE m E) => s_FarmRun F A1 A2 c1 c2 AE m cE E w' h K1.out K2.out hE (by omega)
  unfold OutA at HIR HSR
  rw [hrA, hrC, hrG] at HIR HSR
  have HA := Lib.hid hrA
  have HC := Lib.hid hrC
  have HG := Lib.hid hrG
  clear hrA hrC hrG
  have hz := Nat.le_refl w3.heap.size
  go_cut [5] (fun v5 wc => ∃ (wx : World) (b5 : Nat) (P1 P2 : Option Addr) (p1 p2 : Nat), wx = wc ∧ v5 = .pointer (some ⟨b5, 0, none⟩) ∧ Hid (Blk wx 0 b5 #[.int .i64 G.cap, .slice P1 G.n1 p1, .slice P2 G.n2 p2, .int .i64 rA, .int .i64 rC] 60) ∧ Hid (FarmV wx 0 G (.slice P1 G.n1 p1) (.slice P2 G.n2 p2)) ∧ Hid (Below w3.heap.size w3 wx))
  case first =>
    go_region_held3 (fun w' => w'.cell? ⟨bF, 0, none⟩ = some (.int .i64 F.cap) ∧ w'.cell? ⟨bF, 1, none⟩ = some (.slice A1 F.n1 c1) ∧ w'.cell? ⟨bF, 2, none⟩ = some (.slice A2 F.n2 c2) ∧ Below w3.heap.size w3 w') (first | exact HSX.out _ (Below.refl _ _).drew | exact HSX.out _ hB.out | exact HSX.out _ (setRow_keepC (show Below w3.heap.size w3 _ from pick3 (by assumption)) hge _) | exact HSX.out _ (below_allocK (pick3 (by assumption)) _)) (first
      | (refine step_appendE rfl _ _ rfl _ rfl (by first | exact heap_e1 _ _ | exact heap_e3 _ _ _ | exact heap_e2 _ _ _) AE m E cE rfl (E3.out.keep (pick3 (by assumption))) (by omega) (fun AE' cE' w5 hE5 hb5 => ?_); have hB := Lib.hid (btrans (show Below w3.heap.size w3 _ from pick3 (by assumption)) hb5); have hz := hB.out.size; have HE5 := Lib.hid hE5; clear hE5)
      | (go_at_call 40; refine (HIR.out _ _ _ (V3.out.at.keep (pick3 (by assumption))) (by first | exact HE5.out | exact HE5.out.keep ((Below.refl _ _).alloc (Nat.le_refl _) _))).mono ?_; rintro e w6 ⟨ug, um, rfl, hV6, hb6⟩; obtain ⟨P1, p1, P2, p2, rfl, rfl, -, -⟩ := hV6.caps; have hB := Lib.hid (btrans (show Below w3.heap.size w3 _ from pick3 (by assumption)) hb6); have hz := hB.out.size; have HFV := Lib.hid (hV6.mono (Nat.zero_le _)); obtain ⟨r, hr⟩ : ∃ r, #[Value.int .i64 G.cap, .slice P1 G.n1 p1, .slice P2 G.n2 p2, .int .i64 rA, .int .i64 rC] = r := ⟨_, rfl⟩; rw [hr]; have HRW := Lib.hid hr; have hsz : r.size = 5 := (by rw [← hr]; rfl); have HON := Lib.hid (show r.all (·.oneCell') = true by rw [← hr]; simp [Value.oneCell']); clear hr hV6)
      | ((with_reducible refine upon_store_cells (B := w3.heap.size) (n := 5) (t := 60) ?_ hsz HON.out (fun hblk hge => ?_)); focus ((repeat (first | exact Room.new1 (by first | omega | (simp; done) | (simp; omega)) rfl | exact Room.new (by first | omega | (simp; done) | (simp; omega)) rfl | (with_reducible refine Room.drew ?_) | (with_reducible refine Room.keep ?_ hb6) | (with_reducible refine Room.keep ?_ hb5) | (with_reducible refine Room.keep ?_ ((Below.refl _ _).alloc (Nat.le_refl _) _))))))
      | fail)
    all_goals (go_wp2_with fail; go_meet; exact ⟨_, _, P1, P2, p1, p2, rfl, rfl, Lib.hid ((hblk.base (Nat.zero_le _)).cast HRW.out.symm), Lib.hid (by (repeat (first | exact HFV.out | (with_reducible refine FarmV.alloc ?_ _) | refine FarmV.room (C := 0) (n := 5) ?_ (by (repeat (first | exact Room.new1 (by first | omega | (simp; done) | (simp; omega)) rfl | exact Room.new (by first | omega | (simp; done) | (simp; omega)) rfl | (with_reducible refine Room.drew ?_) | (with_reducible refine Room.keep ?_ hb6) | (with_reducible refine Room.keep ?_ hb5) | (with_reducible refine Room.keep ?_ ((Below.refl _ _).alloc (Nat.le_refl _) _))))) _))), Lib.hid (pick3 (by assumption))⟩)
  case rest =>
  obtain ⟨w4, b5, P1, P2, p1, p2, rfl, rfl, Q5, VX, KB4⟩ := hcut
  clear HSX HIR hz
  rename_i hK; refine hK _ _ ?_; clear hK; go_step
  have QF4 := Lib.hid (QF3.out.keep KB4.out)
  have V4 := Lib.hid (V3.out.keep KB4.out)
  have E4 := Lib.hid (E3.out.keep KB4.out)
  have B4 := Lib.hid (B3.out.trans (KB4.out.mono B3.out.size))
  clear QF3 V3 E3 B3 KB4
  go_cut [6] (fun v6 wc => ∃ (wx : World) (b6 : Nat) (D1 D2 : Option Addr) (d1 d2 : Nat), wx = wc ∧ v6 = .pointer (some ⟨b6, 0, none⟩) ∧ Hid (Blk wx 0 b6 #[.int .i64 G.cap, .slice D1 G.n1 d1, .slice D2 G.n2 d2, .int .i64 rA, .int .i64 rC] 60) ∧ Hid (FarmV wx 0 G (.slice D1 G.n1 d1) (.slice D2 G.n2 d2)) ∧ Hid (Below w4.heap.size w4 wx))
  case first =>
    have f0 := (QF4.out.cell 0).trans rfl
    have f1 := (QF4.out.cell 1).trans rfl
    have f2 := (QF4.out.cell 2).trans rfl
    go_wp2_with (first | (go_at_call 41; refine (HSR.out _ V4.out.at E4.out).mono ?_; rintro e w5 ⟨ug, um, rfl, hV5, hb5⟩; obtain ⟨D1, d1, D2, d2, rfl, rfl, -, -⟩ := hV5.caps) | fail)
    go_meet
    exact ⟨_, _, D1, D2, d1, d2, rfl, rfl, Lib.hid (Blk.new (Nat.zero_le _) _ _), Lib.hid ((hV5.mono (Nat.zero_le _)).alloc _), Lib.hid (below_allocK hb5 _)⟩
  case rest =>
  obtain ⟨w5, b6, D1, D2, d1, d2, rfl, rfl, Q6, VW, KB5⟩ := hcut
  clear HSR
  rename_i hK; refine hK _ _ ?_; clear hK; go_step
  have QX5 := Lib.hid (Q5.out.keep KB5.out)
  have VX5 := Lib.hid (VX.out.keep KB5.out)
  have QF5 := Lib.hid (QF4.out.keep KB5.out)
  have V5 := Lib.hid (V4.out.keep KB5.out)
  have E5 := Lib.hid (E4.out.keep KB5.out)
  have B5 := Lib.hid (B4.out.trans (KB5.out.mono B4.out.size))
  clear Q5 VX QF4 V4 E4 B4 KB5
  have x0 := (QX5.out.cell 0).trans rfl
  have x1 := (QX5.out.cell 1).trans rfl
  have x2 := (QX5.out.cell 2).trans rfl
  have x3 := (QX5.out.cell 3).trans rfl
  have x4 := (QX5.out.cell 4).trans rfl
  have y0 := (Q6.out.cell 0).trans rfl
  have y1 := (Q6.out.cell 1).trans rfl
  have y2 := (Q6.out.cell 2).trans rfl
  have y3 := (Q6.out.cell 3).trans rfl
  have y4 := (Q6.out.cell 4).trans rfl
  go_upto_region 10 with (first
    | (go_at_call 31; refine (l_lwFarm G P1 P2 D1 D2 p1 p2 d1 d2 _ VX5.out.at VW.out.at (by omega) (by omega)).mono ?_; rintro e w6 ⟨rfl, hb6⟩)
    | fail)
  clear x0 x1 x2 x3 x4 y0 y1 y2 y3 y4
  have QX6 := Lib.hid (QX5.out.keep hb6)
  have VX6 := Lib.hid (VX5.out.keep hb6)
  have QF6 := Lib.hid (QF5.out.keep hb6)
  have V6 := Lib.hid (V5.out.keep hb6)
  have E6 := Lib.hid (E5.out.keep hb6)
  have B6 := Lib.hid (B5.out.trans (hb6.mono B5.out.size))
  clear QX5 VX5 QF5 V5 E5 B5 hb6 Q6 VW
  have f0 := (QF6.out.cell 0).trans rfl
  have f1 := (QF6.out.cell 1).trans rfl
  have f2 := (QF6.out.cell 2).trans rfl
  go_upto_region 11 with fail
  clear f0 f1 f2
  have KW := Lib.hid (below_allocK (Below.refl w6.heap.size w6) (.cells #[.int .i64 F.cap, .slice A1 F.n1 c1, .slice A2 F.n2 c2] 34))
  have NB := Lib.hid (Blk.new (w := w6) (B := w6.heap.size) (Nat.le_refl _) #[.int .i64 F.cap, .slice A1 F.n1 c1, .slice A2 F.n2 c2] 34)
  have VN := Lib.hid (V6.out.alloc (.cells #[.int .i64 F.cap, .slice A1 F.n1 c1, .slice A2 F.n2 c2] 34))
  generalize (w6.alloc (.cells #[.int .i64 F.cap, .slice A1 F.n1 c1, .slice A2 F.n2 c2] 34)) = w7 at *
  generalize hb7 : w6.heap.size = b7 at NB ⊢
  go_wp2_with fail
  go_loopw [8] (fun v8 wr => ∃ (i : Nat) (N1 N2 : Option Addr) (m1 m2 : Nat), i ≤ m ∧ v8 = .int .i64 i ∧ Hid (∀ j, j < i → ecAt F E j = 0) ∧ Hid (Blk wr b7 b7 #[.int .i64 (runF F E i).cap, .slice N1 (runF F E i).n1 m1, .slice N2 (runF F E i).n2 m2] 34) ∧ Hid (FarmV wr 0 (runF F E i) (.slice N1 (runF F E i).n1 m1) (.slice N2 (runF F E i).n2 m2)) ∧ Hid (Below w6.heap.size w6 wr)) (fun v8 _ => m - (intOf v8).toNat)
  case atStart => exact ⟨0, A1, A2, c1, c2, by omega, rfl, Lib.hid (by intro j hj; omega), NB, VN, KW⟩
  case round =>
    obtain ⟨i, N1, N2, m1, m2, hi, rfl, HE, RB, RV, RW⟩ := hrel
    clear NB VN KW
    have QXr := Lib.hid (QX6.out.keep RW.out)
    have VXr := Lib.hid (VX6.out.keep RW.out)
    have x3 := (QXr.out.cell 3).trans rfl
    have x4 := (QXr.out.cell 4).trans rfl
    by_cases hlt : i < m
    case neg =>
      have t1 : decide ((i : Int) < m) = false := decide_eq_false (by omega)
      obtain rfl : i = m := by omega
      obtain ⟨g1, g2, g3⟩ := rn_all hlong HRR.out HE.out
      rw [HA.out] at g2
      rw [HC.out] at g1
      rw [HG.out] at g3
      subst g1 g3
      have x0 := (QXr.out.cell 0).trans rfl
      have x1 := (QXr.out.cell 1).trans rfl
      have x2 := (QXr.out.cell 2).trans rfl
      have y0 := (RB.out.cell 0).trans rfl
      have y1 := (RB.out.cell 1).trans rfl
      have y2 := (RB.out.cell 2).trans rfl
      go_wp2_with (first
        | (go_at_call 31; refine (l_lwFarm _ P1 P2 N1 N2 p1 p2 m1 m2 _ VXr.out.at RV.out.at (by omega) (by omega)).mono ?_; rintro e w8 ⟨rfl, hb8⟩)
        | fail)
      go_ret
      exact ⟨rfl, B6.out.trans ((btrans RW.out hb8).mono B6.out.size)⟩
    case pos =>
    have t1 : decide ((i : Int) < m) = true := decide_eq_true (by omega)
    have hRi := Lib.hid (run_right hR.out i HE.out)
    have hec : Hid (feC (runF F E i) (E i 0) (E i 1) (E i 2) (E i 3) (E i 4) = ecAt F E i) := Lib.hid (fe_yes hRi.out.to).1
    have hef : Hid (ecAt F E i = 0 → feF (runF F E i) (E i 0) (E i 1) (E i 2) (E i 3) (E i 4) = runF F E (i + 1)) := Lib.hid (fun h0 => by
      rw [(fe_yes hRi.out.to).2]
      unfold ecF
      exact if_pos (show ecC _ _ _ _ _ _ = 0 from h0))
    obtain ⟨Hh, hHh⟩ : ∃ x, feF (runF F E i) (E i 0) (E i 1) (E i 2) (E i 3) (E i 4) = x := ⟨_, rfl⟩
    obtain ⟨C, hCC⟩ : ∃ x, ecAt F E i = x := ⟨_, rfl⟩
    rw [hHh, hCC] at hef
    rw [hCC] at hec
    have HCE := Lib.hid hCC
    have hN1 := RV.out.cap_le.1
    have HIE := Lib.hid fun (w' : World) (h : FarmAt w' N1 (runF F E i).n1 (runF F E i).f1 N2 (runF F E i).n2 (runF F E i).f2) => c_FarmEdit (runF F E i) N1 N2 m1 m2 (E i 0) (E i 1) (E i 2) (E i 3) (E i 4) w' h hN1
    unfold FeOut at HIE
    rw [hHh, hec.out] at HIE
    clear hHh hCC hN1
    have hs2 := hRi.out.l1
    have hs3 := hRi.out.l2
    generalize hF' : runF F E i = F' at RB RV HIE hs2 hs3 ⊢
    obtain ⟨ge, oe, eAE, hge0, xe⟩ : ∃ ge oe, AE = some ⟨ge, oe, none⟩ ∧ ge < wr.heap.size ∧ ∀ i j, i < m → j < 5 → wr.cell? ⟨ge, oe + i * 5 + j, none⟩ = some (.int .i64 (E i j)) := by
      rcases E6.out.keep RW.out with ⟨-, hz⟩ | h
      · omega
      · exact h
    subst eAE
    have HX := Lib.hid xe
    have HGE := Lib.hid hge0
    clear xe hge0
    have hp0 : (0 : Int) ≤ (i : Int) := by omega
    have hp1 : (i : Int) < (m : Int) := by omega
    go_upto_region 14 with fail
    have HSY := Lib.hid (show ∀ w', Below wr.heap.size wr w' → w'.cell? ⟨b7, 0, none⟩ = some (.int .i64 F'.cap) ∧ w'.cell? ⟨b7, 1, none⟩ = some (.slice N1 F'.n1 m1) ∧ w'.cell? ⟨b7, 2, none⟩ = some (.slice N2 F'.n2 m2) ∧ w'.cell? ⟨ge, oe + i * 5, none⟩ = some (.int .i64 (E i 0)) ∧ w'.cell? ⟨ge, oe + i * 5 + 1, none⟩ = some (.int .i64 (E i 1)) ∧ w'.cell? ⟨ge, oe + i * 5 + 2, none⟩ = some (.int .i64 (E i 2)) ∧ w'.cell? ⟨ge, oe + i * 5 + 3, none⟩ = some (.int .i64 (E i 3)) ∧ w'.cell? ⟨ge, oe + i * 5 + 4, none⟩ = some (.int .i64 (E i 4)) ∧ Below wr.heap.size wr w' from fun w' hB => by
      have a := RB.out.keep hB
      have hc : ∀ j, j < 5 → w'.cell? ⟨ge, oe + i * 5 + j, none⟩ = some (.int .i64 (E i j)) := fun j hj => by
        have h := HX.out i j hlt hj
        exact (World.cell?_of_block (hB.block ge HGE.out)).trans h
      exact ⟨(a.cell 0).trans rfl, (a.cell 1).trans rfl, (a.cell 2).trans rfl, hc 0 (by omega), hc 1 (by omega), hc 2 (by omega), hc 3 (by omega), hc 4 (by omega), hB⟩)
    have hz := Nat.le_refl wr.heap.size
    clear x3 x4
    go_cut [9] (fun v9 wc => ∃ (wx : World) (b9 : Nat) (D1 D2 : Option Addr) (d1 d2 : Nat), wx = wc ∧ v9 = .pointer (some ⟨b9, 0, none⟩) ∧ Hid (Blk wx 0 b9 #[.int .i64 Hh.cap, .slice D1 Hh.n1 d1, .slice D2 Hh.n2 d2, .int .i64 0, .int .i64 C] 60) ∧ Hid (FarmV wx 0 Hh (.slice D1 Hh.n1 d1) (.slice D2 Hh.n2 d2)) ∧ Hid (Below wr.heap.size wr wx))
    case first =>
      go_region_held3 (fun w' => w'.cell? ⟨b7, 0, none⟩ = some (.int .i64 F'.cap) ∧ w'.cell? ⟨b7, 1, none⟩ = some (.slice N1 F'.n1 m1) ∧ w'.cell? ⟨b7, 2, none⟩ = some (.slice N2 F'.n2 m2) ∧ w'.cell? ⟨ge, oe + i * 5, none⟩ = some (.int .i64 (E i 0)) ∧ w'.cell? ⟨ge, oe + i * 5 + 1, none⟩ = some (.int .i64 (E i 1)) ∧ w'.cell? ⟨ge, oe + i * 5 + 2, none⟩ = some (.int .i64 (E i 2)) ∧ w'.cell? ⟨ge, oe + i * 5 + 3, none⟩ = some (.int .i64 (E i 3)) ∧ w'.cell? ⟨ge, oe + i * 5 + 4, none⟩ = some (.int .i64 (E i 4)) ∧ Below wr.heap.size wr w') (first | exact HSY.out _ (Below.refl _ _).drew | exact HSY.out _ hB.out | exact HSY.out _ (setRow_keepC (show Below wr.heap.size wr _ from pick8 (by assumption)) hge _) | exact HSY.out _ (below_allocK (pick8 (by assumption)) _)) (first
        | (go_at_call 28; refine (HIE.out _ (RV.out.at.keep (pick8 (by assumption)))).mono ?_; rintro e w8 ⟨ug, um, rfl, hV6, hb6⟩; obtain ⟨D1, d1, D2, d2, rfl, rfl, -, -⟩ := hV6.caps; have hB := Lib.hid (btrans (show Below wr.heap.size wr _ from pick8 (by assumption)) hb6); have hz := hB.out.size; have HFV := Lib.hid (hV6.mono (Nat.zero_le _)); obtain ⟨r, hr⟩ : ∃ r, #[Value.int .i64 Hh.cap, .slice D1 Hh.n1 d1, .slice D2 Hh.n2 d2, .int .i64 0, .int .i64 C] = r := ⟨_, rfl⟩; rw [hr]; have HRW := Lib.hid hr; have hsz : r.size = 5 := (by rw [← hr]; rfl); have HON := Lib.hid (show r.all (·.oneCell') = true by rw [← hr]; simp [Value.oneCell']); clear hr hV6)
        | ((with_reducible refine upon_store_cells (B := wr.heap.size) (n := 5) (t := 60) ?_ hsz HON.out (fun hblk hge => ?_)); focus ((repeat (first | exact Room.new1 (by first | omega | (simp; done) | (simp; omega)) rfl | exact Room.new (by first | omega | (simp; done) | (simp; omega)) rfl | (with_reducible refine Room.drew ?_) | (with_reducible refine Room.keep ?_ hb6)))))
        | fail)
      all_goals (go_wp2_with fail; go_meet; exact ⟨_, _, D1, D2, d1, d2, rfl, rfl, Lib.hid ((hblk.base (Nat.zero_le _)).cast HRW.out.symm), Lib.hid (by (repeat (first | exact HFV.out | (with_reducible refine FarmV.alloc ?_ _) | refine FarmV.room (C := 0) (n := 5) ?_ (by (repeat (first | exact Room.new1 (by first | omega | (simp; done) | (simp; omega)) rfl | exact Room.new (by first | omega | (simp; done) | (simp; omega)) rfl | (with_reducible refine Room.drew ?_) | (with_reducible refine Room.keep ?_ hb6)))) _))), Lib.hid (pick8 (by assumption))⟩)
    case rest =>
    obtain ⟨w8, b9, D1, D2, d1, d2, rfl, rfl, Q9, V9, KB8⟩ := hcut
    clear HSY HIE hz
    rename_i hK; refine hK _ _ ?_; clear hK; go_step
    have QX8 := Lib.hid (QXr.out.keep KB8.out)
    have x3 := (QX8.out.cell 3).trans rfl
    have x4 := (QX8.out.cell 4).trans rfl
    have z0 := (Q9.out.cell 0).trans rfl
    have z1 := (Q9.out.cell 1).trans rfl
    have z2 := (Q9.out.cell 2).trans rfl
    have z4 := (Q9.out.cell 4).trans rfl
    have RB8 := Lib.hid (RB.out.keep KB8.out)
    have W8 := Lib.hid (btrans RW.out KB8.out)
    by_cases hC : C = 0
    case neg =>
      have bC : (C == 0) = false := beq_eq_false_iff_ne.mpr hC
      obtain ⟨g1, g2, -⟩ := rn_bad hlong HRR.out HE.out hlt (by rw [HCE.out]; exact hC)
      rw [HC.out, HCE.out] at g1
      rw [HA.out] at g2
      subst g1 g2
      go_wp2_with fail
      go_ret
      exact ⟨rfl, B6.out.trans (W8.out.mono B6.out.size)⟩
    case pos =>
    subst hC
    have eH := hef.out rfl
    subst eH
    go_wp2_with (first
      | ((with_reducible refine at_store (ty := 34) (y := .tmp 82) ?_); refine wpl_store_row rfl 34 (.tmp 7) (.tmp 82) rfl b7 _ rfl rfl (RB8.out.room (n := 3) rfl) rfl (by kernel_rfl) (by simp [Value.oneCell']) ?_; intro hout)
      | fail)
    have NW := Lib.hid (setRow_keepC W8.out (by rw [hb7]; exact Nat.le_refl _) #[.int .i64 (runF F E (i + 1)).cap, .slice D1 (runF F E (i + 1)).n1 d1, .slice D2 (runF F E (i + 1)).n2 d2])
    have NV := Lib.hid (V9.out.farRow (b := b7) (V9.out.1.neBlk RB8.out (by decide)) (V9.out.2.neBlk RB8.out (by decide)) #[.int .i64 (runF F E (i + 1)).cap, .slice D1 (runF F E (i + 1)).n1 d1, .slice D2 (runF F E (i + 1)).n2 d2])
    go_roundw
    case rel => exact ⟨i + 1, D1, D2, d1, d2, by omega, by go_num, Lib.hid (fun j hj => by rcases Nat.lt_succ_iff_lt_or_eq.1 hj with h | rfl; exact HE.out j h; exact HCE.out), Lib.hid (RB8.out.set _), NV, NW⟩
    case measure => simp [intOf]; omega
theorem bytes_inE {w : World} {A : Option Addr} {ys : List Int} (h : (Kd.int .u8).C w A ys.length ys) (hy : AllOk (Fits .u8) ys) : BytesIn w A ys.length := by
  intro j hj
  obtain ⟨x, hx⟩ : ∃ x, ys[j]? = some x := ⟨ys[j], List.getElem?_eq_getElem hj⟩
  obtain ⟨ad, c, e, hb, -, hc, hr⟩ := h.get hx
  have hok := hy x (List.mem_of_getElem? hx)
  have h0 : c = [.int .u8 x] := hc
  subst h0
  have h1 := hr 0 _ rfl
  simp [Fits, Lit.wf] at hok
  refine ⟨ad, x, e, hb, ?_, ?_, by simpa [Kd.int, Kd.scalar] using h1⟩
  · exact hok.1
  · exact hok.2
theorem l_FnFarmRun : OFnFarmRun.Walks := by
  rintro y0 A0 c0 w f0 - h0
  have H0 := Lib.hid (bytes_inE h0 f0)
  clear h0 f0
  generalize y0.length = n0 at *
  by_cases g0 : n0 ≤ 1048576
  · exact farmRunD_law _ _ _ _ H0.out g0
  · have i0 : decide ((n0 : Int) > 1048576) = true := decide_eq_true (by omega)
    go_enter Try.func9, Try.ntmps9
    go_wp2
    go_ret
    exact ⟨rfl, Below.refl _ _⟩
end Go.Proofs.Ytipkbapnhgdpeaa.C
