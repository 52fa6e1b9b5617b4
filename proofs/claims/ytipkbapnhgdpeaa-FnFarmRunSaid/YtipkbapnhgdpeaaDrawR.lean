/- Drawn lists of edits; drawn farms with an edit, with edits. No condition. -/
import Derived.Test.YtipkbapnhgdpeaaDrawE
import Derived.Test.YtipkbapnhgdpeaaFEdW
import Derived.Laws.OwnMore
namespace Go.Proofs.Ytipkbapnhgdpeaa.C
open Go.RowKit
set_option maxRecDepth 100000
set_option linter.unusedVariables false
set_option linter.unusedSimpArgs false
attribute [local go_sem ↓] Go.wp_at_zero Go.wp_at_succ
theorem infoEditZ : (Try.prog.info? 56).map (fun i => (i.zero, i.size, i.bytes)) = some (some (.agg #[.int .i64 0, .int .i64 0, .int .i64 0, .int .i64 0, .int .i64 0]), 5, 40) := by kernel_rfl
/-- A list of edits of the call's own. -/
def OwnE (w : World) (B : Nat) (v : Value) (n : Nat) : Prop := ∃ xs : List Int, w.ownsRow B 56 5 v n (xs.map (Value.int .i64))
theorem OwnE.lt {w : World} {B n : Nat} {v : Value} (h : OwnE w B v n) : ∀ k, v.ownBlock = some k → B ≤ k ∧ k < w.heap.size := let ⟨_, h⟩ := h; h.lt
theorem OwnE.kept {w w' : World} {B n : Nat} {v : Value} {row : Option Nat} (h : OwnE w B v n) (hg : w.grownBy w' row) (hne : ∀ k, v.ownBlock = some k → row ≠ some k) : OwnE w' B v n := by
  obtain ⟨xs, h⟩ := h
  refine ⟨xs, h.kept hg ?_⟩
  cases hv : v.ownBlock with
  | none => exact .inl rfl
  | some k => exact .inr fun e => hne k hv e.symm
theorem OwnE.block {w : World} {B n : Nat} {v : Value} (h : OwnE w B v n) {k : Nat} (hk : v.ownBlock = some k) : ∃ cur, w.heap[k]? = some (.cells cur 56 (0, 0)) := by
  obtain ⟨xs, hl, ⟨rfl, _⟩ | ⟨g, cap, cur, rfl, hb, hr, _⟩⟩ := h
  · cases hk
  · obtain rfl : g = k := by simpa [Value.ownBlock] using hk
    exact ⟨cur, hr⟩
theorem OwnE.neBlk {w : World} {B B' n b : Nat} {v : Value} {t : TypeId} {cs : Array Value} (h : OwnE w B v n) (h' : Blk w B' b cs t) (ht : 56 ≠ t) : v.ownBlock ≠ some b := by
  intro hk
  obtain ⟨c, e⟩ := h.block hk
  rw [h'.2] at e
  simp at e
  exact ht e.2.symm
theorem OwnE.neT {w : World} {B B' n m k : Nat} {v v' : Value} {t : TypeId} {f : Nat → Nat → Int} (h : OwnE w B v n) (h' : OwnT t w B' v' m f) (ht : 56 ≠ t) (hk : v.ownBlock = some k) : v'.ownBlock ≠ some k := by
  intro hk'
  obtain ⟨c, e⟩ := h.block hk
  obtain ⟨c', e'⟩ := h'.block hk'
  rw [e] at e'
  simp at e'
  exact ht e'.2
/-- Such a list reads as a table. -/
theorem OwnE.tab {w : World} {B n : Nat} {v : Value} (h : OwnE w B v n) : ∃ (A : Option Addr) (c : Nat) (E : Nat → Nat → Int), v = .slice A n c ∧ Tab 5 w A n E := by
  obtain ⟨xs, h⟩ := h
  have h0 := h
  obtain ⟨hl, ⟨rfl, rfl⟩ | ⟨g, cap, cur, rfl, hb, hr, _⟩⟩ := h
  · exact ⟨none, 0, fun _ _ => 0, rfl, .inl ⟨rfl, rfl⟩⟩
  · refine ⟨_, cap, fun i j => xs.getD (i * 5 + j) 0, rfl, .inr ⟨g, 0, rfl, (h0.lt g rfl).2, fun i j hi hj => ?_⟩⟩
    have hlen : xs.length = n * 5 := by simpa using hl
    have hc := h0.cells (g := g) rfl (i * 5 + j) (.int .i64 (xs.getD (i * 5 + j) 0)) (by rw [List.getElem?_map, List.getElem?_eq_getElem (by omega)]; simp [List.getD, List.getElem?_eq_getElem (show i * 5 + j < xs.length by omega)])
    rw [Addr.add_lit] at hc
    rw [Nat.zero_add] at hc ⊢
    exact hc
theorem info_parts5 {i0 : Option TypeInfo} {z : Value} {a b : Nat} (h : i0.map (fun i => (i.zero, i.size, i.bytes)) = some (some z, a, b)) : ∃ i, i0 = some i ∧ i.zero = some z ∧ i.size = a ∧ i.bytes = b := by
  cases i0 with
  | none => cases h
  | some i => simp at h; exact ⟨i, rfl, h.1, h.2.1, h.2.2⟩
theorem row_new5 (w : World) (cs : List Value) (t : Nat) : ∀ j u, cs[j]? = some u → (w.alloc (.cells cs.toArray t)).cell? ((⟨w.heap.size, 0, none⟩ : Addr).add j) = some u := by
  intro j u hj
  rw [Addr.add_lit, Nat.zero_add]
  exact (cell_of_row _ _ _ _ _ _ (heap_alloc_new w _)).trans (by simpa using hj)
/-- A drawn list of edits on its way: the source, the farm now and its tables, the list. -/
structure DH (g : Nat) (A : Option Addr) (n : Nat) (w : World) (B bn : Nat) (F : Fm) (vg vm v : Value) (m : Nat) (wk : World) : Prop where
  src : Src wk g A n
  gr : w.grownBy wk (some g)
  nb : Blk wk B bn #[.int .i64 F.cap, vg, vm] 34
  tab : FarmV wk (g + 1) F vg vm
  own : OwnE wk B v m
  hB : w.heap.size = B
  hg : g < B
  hA : ∀ j, j < n → ∀ ad, A = some ad → ad.block < B
section
variable {g n B bn m : Nat} {A : Option Addr} {w wk w' : World} {F : Fm} {vg vm v : Value}
theorem FarmV.grownG {w w' : World} {G : Fm} {vg vm : Value} {g : Nat} (h : FarmV w (g + 1) G vg vm) (hg : w.grownBy w' (some g)) : FarmV w' (g + 1) G vg vm := h.grownH hg (fun k e => by cases e; omega)
theorem DH.drawn (h : DH g A n w B bn F vg vm v m wk) (hS : Src w' g A n) (hG : wk.grownBy w' (some g)) : DH g A n w B bn F vg vm v m w' :=
  ⟨hS, only_trans h.gr hG, h.nb.grown hG (by have := h.hg; have := h.nb.1; omega), h.tab.grownG hG, h.own.kept hG (fun k e e2 => by have := (h.own.lt k e).1; have := h.hg; cases e2; omega), h.hB, h.hg, h.hA⟩
theorem DH.keep (h : DH g A n w B bn F vg vm v m wk) (hb : Below wk.heap.size wk w') : DH g A n w B bn F vg vm v m w' := h.drawn (h.src.keep hb) (only_below hb _)
theorem DH.alloc (h : DH g A n w B bn F vg vm v m wk) (o : Obj) : DH g A n w B bn F vg vm v m (wk.alloc o) := h.keep ((Below.refl _ _).alloc (Nat.le_refl _) _)
theorem DH.size (h : DH g A n w B bn F vg vm v m wk) : B < wk.heap.size := Nat.lt_of_le_of_lt h.nb.1 h.nb.lt
/-- The farm moves into a new block. -/
theorem DH.move (h : DH g A n w B bn F vg vm v m wk) : DH g A n w B wk.heap.size F vg vm v m (wk.alloc (.cells #[.int .i64 F.cap, vg, vm] 34)) :=
  have k := h.alloc (.cells #[.int .i64 F.cap, vg, vm] 34)
  ⟨k.src, k.gr, Blk.new (Nat.le_of_lt h.size) _ _, k.tab, k.own, k.hB, k.hg, k.hA⟩
/-- A store into an own block that is neither the farm's nor a table's nor the list's. -/
theorem DH.put (h : DH g A n w B bn F vg vm v m wk) {b : Nat} (hb : B ≤ b) (h0 : bn ≠ b) (h1 : vg.ownBlock ≠ some b) (h2 : vm.ownBlock ≠ some b) (h3 : v.ownBlock ≠ some b) (r : Array Value) : DH g A n w B bn F vg vm v m (wk.setRow b r) :=
  ⟨h.src.own (setRow_only _ _ _) (B := B) (fun i e => by cases e; exact hb) h.hg h.hA, only_own h.gr (setRow_only _ _ _) (fun i e => by cases e; rw [h.hB]; exact hb), h.nb.far h0 r, h.tab.farRow h1 h2 r, h.own.kept (setRow_only _ _ _) (fun k e e2 => by cases e2; exact h3 e), h.hB, h.hg, h.hA⟩
/-- The farm turns. -/
theorem DH.now (h : DH g A n w B bn F vg vm v m wk) {G : Fm} {ug um : Value} (hV : FarmV wk (g + 1) G ug um) : DH g A n w B bn G ug um v m (wk.setRow bn #[.int .i64 G.cap, ug, um]) :=
  ⟨h.src.own (setRow_only _ _ _) (B := B) (fun i e => by cases e; exact h.nb.1) h.hg h.hA, only_own h.gr (setRow_only _ _ _) (fun i e => by cases e; rw [h.hB]; exact h.nb.1), h.nb.set _, hV.farRow (hV.1.neBlk h.nb (by decide)) (hV.2.neBlk h.nb (by decide)) _, h.own.kept (setRow_only _ _ _) (fun k e e2 => by cases e2; exact h.own.neBlk h.nb (by decide) e), h.hB, h.hg, h.hA⟩
/-- The list grows. -/
theorem DH.more (h : DH g A n w B bn F vg vm v m wk) {v' : Value} {m' : Nat} (hO : OwnE w' B v' m') (hG : wk.grownBy w' v.ownBlock) : DH g A n w B bn F vg vm v' m' w' := by
  have hlt := h.own.lt
  exact ⟨h.src.own hG (fun i e => (hlt i e).1) h.hg h.hA, only_own h.gr hG (fun i e => by rw [h.hB]; exact (hlt i e).1), h.nb.grownR hG (h.own.neBlk h.nb (by decide)), ⟨h.tab.1.grown hG (fun k e e2 => h.own.neT h.tab.1 (by decide) e2 e), h.tab.2.grown hG (fun k e e2 => h.own.neT h.tab.2 (by decide) e2 e)⟩, hO, h.hB, h.hg, h.hA⟩
end
def DrL (g : Nat) (A : Option Addr) (n : Nat) (w : World) (e : Ending) (w' : World) : Prop :=
  ∃ (v : Value) (m : Nat), m ≤ 300 ∧ e = .returned v ∧ OwnE w' w.heap.size v m ∧ Src w' g A n ∧ w.grownBy w' (some g)
set_option maxHeartbeats 8000000 in
theorem s_l06Edits (g : Nat) (A : Option Addr) (n : Nat) (F : Fm) (vg vm : Value) (w : World) (h : Src w g A n) (hV : FarmV w (g + 1) F vg vm) (l1 : F.n1 ≤ 3000) (l2 : F.n2 ≤ 3000) :
    Calls Try.prog 91 #[.pointer (some ⟨g, 0, none⟩), .agg #[.int .i64 F.cap, vg, vm]] w (DrL g A n w) := by
  have hu := Try.underlying72
  have hu5 := Try.underlying56
  have huF := Try.underlying34
  obtain ⟨j0, hj, hy0, hy1, hy2⟩ := info_parts5 infoEditZ
  have S0 := Lib.hid (show DH g A n w w.heap.size w.heap.size F vg vm (.slice (some ⟨w.heap.size + 1, 0, none⟩) 0 0) 0 ((w.alloc (.cells #[.int .i64 F.cap, vg, vm] 34)).alloc (.cells #[] 56)) from by
    have hb := ((Below.refl w.heap.size w).alloc (Nat.le_refl _) (.cells #[.int .i64 F.cap, vg, vm] 34)).alloc (by simp) (.cells #[] 56)
    have ho := World.ownsRow_made (base := w.heap.size) (e := 56) (size := 5) (w.alloc (.cells #[.int .i64 F.cap, vg, vm] 34)) #[] 0 (by simp) (by decide) rfl
    simp only [World.size_alloc] at ho
    exact ⟨h.keep hb, only_below hb _, (Blk.new (w := w) (Nat.le_refl _) #[.int .i64 F.cap, vg, vm] 34).keep ((Below.refl _ _).alloc (Nat.le_refl _) _), hV.keep hb, ⟨[], ho⟩, rfl, h.lt', h.blocks⟩)
  clear h hV
  go_enter Try.func91, Try.ntmps91
  go_upto_region 2 with fail
  generalize (w.alloc (.cells #[.int .i64 F.cap, vg, vm] 34)).alloc (.cells #[] 56) = w1 at *
  generalize hBB : w.heap.size = B at *
  generalize hv0 : Value.slice (some ⟨B + 1, 0, none⟩) 0 0 = v at *
  go_cut [6] (fun v6 wc => ∃ (wx : World) (mm : Nat), wx = wc ∧ v6 = .int .i64 mm ∧ mm ≤ 290 ∧ Hid (DH g A n w B B F vg vm v 0 wx))
  case first =>
    as_aux_lemma =>
      obtain ⟨cc, a, m, s, hSB, a0, a1, m0, m1, s0, s1⟩ := S0.out.src.ex
      have z0 := (hSB.cell 3).trans rfl
      clear hSB
      go_wp2_with fail
      refine (s_n _ _ _ _ _ S0.out.src (by omega)).mono ?_; rintro e w2 ⟨r, rfl, r0, r1, r2, hS, hG⟩
      have S1 := Lib.hid (S0.out.drawn hS hG)
      clear hS hG S0 z0
      go_wp2_with fail
      go_meet
      exact ⟨_, r.toNat, rfl, congrArg (Value.int .i64) (by omega), by have := r1 (by omega); omega, S1⟩
  case rest =>
  obtain ⟨w2, mm, rfl, rfl, hmm, S1⟩ := hcut
  clear S0
  rename_i hK; refine hK _ _ ?_; clear hK; go_step
  go_cut [6] (fun v6 wc => ∃ (wx : World) (mm : Nat), wx = wc ∧ v6 = .int .i64 mm ∧ mm ≤ 290 ∧ Hid (DH g A n w B B F vg vm v 0 wx))
  case first =>
    as_aux_lemma =>
      go_wp2_with fail
      refine (s_one _ _ _ _ _ S1.out.src (by omega)).mono ?_; rintro e w3 ⟨q, rfl, hS, hG⟩
      have S2 := Lib.hid (S1.out.drawn hS hG)
      clear hS hG S1
      cases q
      · go_wp2_with fail
        go_meet
        exact ⟨_, _, rfl, rfl, hmm, S2⟩
      · go_wp2_with fail
        refine (s_n _ _ _ _ _ S2.out.src (by omega)).mono ?_; rintro e w4 ⟨r, rfl, r0, r1, r2, hS, hG⟩
        have S3 := Lib.hid (S2.out.drawn hS hG)
        have r1' := r1 (by omega)
        clear hS hG S2 r1 r2
        go_wp2_with fail
        go_meet
        exact ⟨_, (199 + r).toNat, rfl, congrArg (Value.int .i64) (by omega), by omega, S3⟩
  case rest =>
  obtain ⟨w3, mm, rfl, rfl, hmm, S2⟩ := hcut
  clear S1
  rename_i hK; refine hK _ _ ?_; clear hK; go_step
  go_cut [7] (fun v7 wc => ∃ (wx : World) (bn : Nat), wx = wc ∧ v7 = .pointer (some ⟨bn, 0, none⟩) ∧ Hid (DH g A n w B bn F vg vm v 0 wx))
  case first =>
    as_aux_lemma =>
      obtain ⟨A1, c1, A2, c2, rfl, rfl, -, -⟩ := S2.out.tab.caps
      go_wp2_with (first
        | ((with_reducible refine at_load (ty := 34) (x := .tmp 3) ?_); refine wpl_load_row rfl 34 (.tmp 3) rfl B rfl S2.out.nb rfl (by kernel_rfl) huF rfl ?_)
        | fail)
      go_meet
      exact ⟨_, _, rfl, rfl, Lib.hid S2.out.move⟩
  case rest =>
  obtain ⟨w4, bn, rfl, rfl, S3⟩ := hcut
  clear S2
  rename_i hK; refine hK _ _ ?_; clear hK; go_step
  go_cut [5] (fun v5 wc => ∃ (wx : World) (F : Fm) (vg vm : Value), wx = wc ∧ Hid (DH g A n w B bn F vg vm v5 mm wx))
  case first =>
    as_aux_lemma =>
      go_wp2_with fail
      go_loopw [5, 6] (fun v5 v6 wr => ∃ (i k : Nat) (F : Fm) (vg vm : Value), i + k = mm ∧ v6 = .int .i64 k ∧ F.n1 ≤ 3000 ∧ F.n2 ≤ 3000 ∧ Hid (DH g A n w B bn F vg vm v5 i wr)) (fun _ v6 _ => (intOf v6).toNat)
      case atStart => exact ⟨0, mm, F, vg, vm, by omega, rfl, l1, l2, S3⟩
      case round =>
        clear S3 l1 l2 hv0
        obtain ⟨i, k, F, vg, vm, hi, rfl, l1, l2, T0⟩ := hrel
        by_cases hlt : k > 0
        · have b1 : decide ((k : Int) > 0) = true := decide_eq_true (by omega)
          obtain ⟨A1, c1, A2, c2, e1, e2, k1, k2⟩ := T0.out.tab.caps
          subst e1 e2
          go_upto_region 8 with fail
          go_cut [8] (fun v8 wc => ∃ (wx : World) (be : Nat) (a0 a1 a2 a3 a4 : Int), wx = wc ∧ v8 = .pointer (some ⟨be, 0, none⟩) ∧ B ≤ be ∧ Hid (DH g A n w B bn F (.slice A1 F.n1 c1) (.slice A2 F.n2 c2) u5 i wx) ∧ Hid (Blk wx 0 be #[.int .i64 a0, .int .i64 a1, .int .i64 a2, .int .i64 a3, .int .i64 a4] 56) ∧ Hid (u5.ownBlock ≠ some be))
          case first =>
            as_aux_lemma =>
              go_wp2_with (first
                | ((with_reducible refine at_load (ty := 34) (x := .tmp 7) ?_); refine wpl_load_row rfl 34 (.tmp 7) rfl bn rfl T0.out.nb rfl (by kernel_rfl) huF rfl ?_)
                | fail)
              refine (s_l06Edit g A n F A1 A2 c1 c2 _ T0.out.src T0.out.tab.at ?_ ?_ l1 l2).mono ?_
              · intro k off e; subst e; have := World.ownsRow.lt T0.out.tab.1 k rfl; exact ⟨by simp; omega, this.2⟩
              · intro k off e; subst e; have := World.ownsRow.lt T0.out.tab.2 k rfl; exact ⟨by simp; omega, this.2⟩
              rintro e w6 ⟨a0, a1, a2, a3, a4, rfl, hS, hG⟩
              have T1 := Lib.hid (T0.out.drawn hS hG)
              clear hS hG T0
              go_wp2_with fail
              go_meet
              exact ⟨_, _, _, _, _, _, _, rfl, rfl, Nat.le_of_lt T1.out.size, Lib.hid (T1.out.alloc _), Lib.hid (Blk.new (Nat.zero_le _) _ _), Lib.hid (fun e => by have := (T1.out.own.lt _ e).2; omega)⟩
          case rest =>
          obtain ⟨w6, be, a0, a1, a2, a3, a4, rfl, rfl, hbe, T1, EB, EN⟩ := hcut
          clear T0
          rename_i hK; refine hK _ _ ?_; clear hK; go_step
          go_cut [9] (fun v9 wc => ∃ (wx : World) (b9 : Nat) (G : Fm) (D1 D2 : Option Addr) (d1 d2 : Nat) (C : Int), wx = wc ∧ v9 = .pointer (some ⟨b9, 0, none⟩) ∧ G.n1 ≤ 3000 ∧ G.n2 ≤ 3000 ∧ Hid (DH g A n w B bn F (.slice A1 F.n1 c1) (.slice A2 F.n2 c2) u5 i wx) ∧ Hid (Blk wx 0 be #[.int .i64 a0, .int .i64 a1, .int .i64 a2, .int .i64 a3, .int .i64 a4] 56) ∧ Hid (Blk wx 0 b9 #[.int .i64 G.cap, .slice D1 G.n1 d1, .slice D2 G.n2 d2, .int .i64 0, .int .i64 C] 60) ∧ Hid (FarmV wx (g + 1) G (.slice D1 G.n1 d1) (.slice D2 G.n2 d2)))
          case first =>
            as_aux_lemma =>
              go_wp2_with (first
                | ((with_reducible refine at_load (ty := 34) (x := .tmp 7) ?_); refine wpl_load_row rfl 34 (.tmp 7) rfl bn rfl T1.out.nb rfl (by kernel_rfl) huF rfl ?_)
                | ((with_reducible refine at_load (ty := 56) (x := .tmp 8) ?_); refine wpl_load_row rfl 56 (.tmp 8) rfl be rfl EB.out rfl (by kernel_rfl) hu5 rfl ?_)
                | fail)
              refine (s_FarmEdit F A1 A2 c1 c2 a0 a1 a2 a3 a4 _ T1.out.tab.at k1 k2).mono ?_
              have hsm := fe_small F a0 a1 a2 a3 a4
              generalize feC F a0 a1 a2 a3 a4 = C at *
              generalize feF F a0 a1 a2 a3 a4 = G at *
              rintro e w7 ⟨ug, um, rfl, hV, hb⟩
              obtain ⟨D1, d1, D2, d2, rfl, rfl, -, -⟩ := hV.caps
              have T2 := Lib.hid (T1.out.keep hb)
              have EB2 := Lib.hid (EB.out.keep hb)
              have V2 := Lib.hid (hV.mono (B' := g + 1) (by have := T1.out.size; have := T1.out.hg; omega))
              clear hb hV T1 EB
              go_wp2_with fail
              go_meet
              exact ⟨_, _, G, D1, D2, d1, d2, C, rfl, rfl, by omega, by omega, Lib.hid (T2.out.alloc _), Lib.hid (EB2.out.keep ((Below.refl _ _).alloc (Nat.le_refl _) _)), Lib.hid (Blk.new (Nat.zero_le _) _ _), Lib.hid (V2.out.alloc _)⟩
          case rest =>
          obtain ⟨w7, b9, G, D1, D2, d1, d2, C, rfl, rfl, m1, m2, T2, EB2, QB, QV⟩ := hcut
          clear T1 EB
          rename_i hK; refine hK _ _ ?_; clear hK; go_step
          go_cut [] (fun wc => ∃ (wx : World) (a0 a1 a2 a3 a4 : Int) (F : Fm) (vg vm : Value), wx = wc ∧ F.n1 ≤ 3000 ∧ F.n2 ≤ 3000 ∧ Hid (DH g A n w B bn F vg vm u5 i wx) ∧ Hid (Blk wx 0 be #[.int .i64 a0, .int .i64 a1, .int .i64 a2, .int .i64 a3, .int .i64 a4] 56))
          case first =>
            as_aux_lemma =>
              have z0 := (QB.out.cell 0).trans rfl
              have z1 := (QB.out.cell 1).trans rfl
              have z2 := (QB.out.cell 2).trans rfl
              have z4 := (QB.out.cell 4).trans rfl
              by_cases hC : C = 0
              · subst hC
                go_wp2_with (first
                  | ((with_reducible refine at_store (ty := 34) (y := .tmp 38) ?_); refine wpl_store_row rfl 34 (.tmp 7) (.tmp 38) rfl bn _ rfl rfl (T2.out.nb.room (n := 3) rfl) rfl (by kernel_rfl) (by simp [Value.oneCell']) ?_; intro hout)
                  | fail)
                go_meet
                exact ⟨_, _, _, _, _, _, G, _, _, rfl, m1, m2, Lib.hid (T2.out.now QV.out), Lib.hid (EB2.out.far (fun e => by subst e; have h := EB2.out.2; rw [T2.out.nb.2] at h; simp at h) _)⟩
              · have bC : (C == 0) = false := beq_eq_false_iff_ne.mpr hC
                go_wp2_with fail
                refine (s_one _ _ _ _ _ T2.out.src (by omega)).mono ?_; rintro e w8 ⟨q, rfl, hS, hG⟩
                have T3 := Lib.hid (T2.out.drawn hS hG)
                have EB3 := Lib.hid (EB2.out.grown hG (by have := T2.out.hg; omega))
                clear hS hG T2 EB2 z0 z1 z2 z4
                cases q
                case true =>
                  go_wp2_with fail
                  go_meet
                  exact ⟨_, _, _, _, _, _, _, _, _, rfl, l1, l2, T3, EB3⟩
                case false =>
                  go_wp2_with fail
                  refine (s_n _ _ _ _ _ T3.out.src (by omega)).mono ?_; rintro e w9 ⟨r, rfl, r0, r1, r2, hS, hG⟩
                  have T4 := Lib.hid (T3.out.drawn hS hG)
                  have EB4 := Lib.hid (EB3.out.grown hG (by have := T3.out.hg; omega))
                  clear hS hG T3 EB3 r1 r2
                  go_wp2_with (first
                    | ((with_reducible refine at_store (ty := 56) (y := .tmp 44) ?_); refine wpl_store_row rfl 56 (.tmp 8) (.tmp 44) rfl be _ rfl rfl (EB4.out.room (n := 5) rfl) rfl (by kernel_rfl) (by simp [Value.oneCell']) ?_; intro hout)
                    | fail)
                  go_meet
                  exact ⟨_, _, _, _, _, _, _, _, _, rfl, l1, l2, Lib.hid (T4.out.put hbe (fun e => by subst e; have h := EB4.out.2; rw [T4.out.nb.2] at h; simp at h) (T4.out.tab.1.neBlk EB4.out (by decide)) (T4.out.tab.2.neBlk EB4.out (by decide)) EN.out _), Lib.hid (EB4.out.set _)⟩
          case rest =>
          obtain ⟨w8, a0, a1, a2, a3, a4, F, vg, vm, rfl, l1, l2, T3, EB3⟩ := hcut
          clear T2 EB2 QB QV
          rename_i hK; refine hK _ _ ?_; clear hK; go_step
          have T4 := Lib.hid (T3.out.alloc (.cells #[.int .i64 a0, .int .i64 a1, .int .i64 a2, .int .i64 a3, .int .i64 a4] 56))
          obtain ⟨xs, hown⟩ := T4.out.own
          have HO := Lib.hid hown
          have s1 : ∀ u ∈ [Value.int .i64 a0, .int .i64 a1, .int .i64 a2, .int .i64 a3, .int .i64 a4], u.oneCell' = true := by simp [Value.oneCell']
          have s3 : i + 1 ≤ maxLen := by unfold maxLen; omega
          have s4 : (i + 1) * 40 ≤ 140737488355328 := by omega
          have s5 := Nat.le_of_lt T4.out.size
          clear hown
          go_wp2_with (first
            | ((with_reducible refine at_load (ty := 56) (x := .tmp 8) ?_); refine wpl_load_row rfl 56 (.tmp 8) rfl be rfl EB3.out rfl (by kernel_rfl) hu5 rfl ?_)
            | (at_builtin; refine wpList_append_own _ rfl (.tmp 45) (.tmp 47) 72 rfl B 56 j0 _ 5 40 hu hj hy0 hy1 hy2 rfl (by decide) _ _ _ rfl HO.out ⟨w8.heap.size, 0, none⟩ 1 1 [.int .i64 a0, .int .i64 a1, .int .i64 a2, .int .i64 a3, .int .i64 a4] rfl rfl (row_new5 _ _ _) s1 s3 s4 s5 ?_; intro v7 w9 hown7 hgrow7 _)
            | fail)
          have T5 := Lib.hid (T4.out.more ⟨xs ++ [a0, a1, a2, a3, a4], by simpa using hown7⟩ hgrow7)
          clear hown7 hgrow7 s1 s3 s4 s5
          go_roundw
          case rel => exact ⟨i + 1, k - 1, _, _, _, by omega, congrArg (Value.int .i64) (by omega), l1, l2, T5⟩
          case measure => simp [intOf]; omega
        · have b1 : decide ((k : Int) > 0) = false := decide_eq_false (by omega)
          obtain rfl : i = mm := by omega
          go_wp2_with fail
          go_meet
          exact ⟨_, _, _, _, rfl, T0⟩
  case rest =>
  obtain ⟨w5, F, vg, vm, rfl, T0⟩ := hcut
  clear S3
  rename_i hK; refine hK _ _ ?_; clear hK; go_step
  obtain ⟨A', c', E', rfl, -⟩ := T0.out.own.tab
  go_wp2_with fail
  go_ret
  exact ⟨_, mm, by omega, rfl, by rw [T0.out.hB]; exact T0.out.own, T0.out.src, T0.out.gr⟩
end Go.Proofs.Ytipkbapnhgdpeaa.C
