/- Drawn edits: some edit, whatever the farm. No condition. -/
import Derived.Test.YtipkbapnhgdpeaaDrawF
namespace Go.Proofs.Ytipkbapnhgdpeaa.C
open Go.RowKit
set_option maxRecDepth 100000
set_option linter.unusedVariables false
set_option linter.unusedSimpArgs false
attribute [local go_sem ↓] Go.wp_at_zero Go.wp_at_succ
/-- The frame of a drawn edit: source, the farm in its block, its tables, the result's block. -/
structure DG (g : Nat) (A : Option Addr) (n : Nat) (w : World) (B : Nat) (F : Fm) (A1 A2 : Option Addr) (c1 c2 : Nat) (wk : World) : Prop where
  src : Src wk g A n
  gr : w.grownBy wk (some g)
  fb : Blk wk B B #[.int .i64 F.cap, .slice A1 F.n1 c1, .slice A2 F.n2 c2] 34
  res : Room wk B (B + 1) 5 56
  tab : FarmAt wk A1 F.n1 F.f1 A2 F.n2 F.f2
  hB : w.heap.size = B
  hg : g < B
  hA : ∀ j, j < n → ∀ ad, A = some ad → ad.block < B
  h1 : ∀ k off, A1 = some ⟨k, off, none⟩ → some k ≠ some g ∧ k < B
  h2 : ∀ k off, A2 = some ⟨k, off, none⟩ → some k ≠ some g ∧ k < B
section
variable {g n B : Nat} {A : Option Addr} {w wk w' : World} {F : Fm} {A1 A2 : Option Addr} {c1 c2 : Nat}
theorem DG.drawn (h : DG g A n w B F A1 A2 c1 c2 wk) (hS : Src w' g A n) (hG : wk.grownBy w' (some g)) : DG g A n w B F A1 A2 c1 c2 w' :=
  ⟨hS, only_trans h.gr hG, h.fb.grown hG (by have := h.hg; omega), h.res.grownD hG (by have := h.hg; omega), ⟨h.tab.g.far hG fun k off e => (h.h1 k off e).1, h.tab.m.far hG fun k off e => (h.h2 k off e).1⟩, h.hB, h.hg, h.hA, h.h1, h.h2⟩
theorem DG.keep (h : DG g A n w B F A1 A2 c1 c2 wk) (hb : Below wk.heap.size wk w') : DG g A n w B F A1 A2 c1 c2 w' := h.drawn (h.src.keep hb) (only_below hb _)
theorem DG.alloc (h : DG g A n w B F A1 A2 c1 c2 wk) (o : Obj) : DG g A n w B F A1 A2 c1 c2 (wk.alloc o) := h.keep ((Below.refl _ _).alloc (Nat.le_refl _) _)
theorem DG.size (h : DG g A n w B F A1 A2 c1 c2 wk) : B + 1 < wk.heap.size := let ⟨_, hb, _⟩ := h.res; hb.lt
theorem DG.put (h : DG g A n w B F A1 A2 c1 c2 wk) {b : Nat} (i : Nat) (hb : B + 1 < b) (u : Value) : DG g A n w B F A1 A2 c1 c2 (wk.setCell ⟨b, i, none⟩ u) := by
  have hgr : wk.grownBy (wk.setCell ⟨b, i, none⟩ u) (some b) := only_setCell (World.grownBy.refl wk _) (.inl rfl) u
  exact ⟨h.src.setf (B := B) (by show B ≤ b; omega) h.hg h.hA u, only_setCell h.gr (.inr (by rw [h.hB]; show B ≤ b; omega)) u, h.fb.setf (by show B ≠ b; omega) u, h.res.set_far (by show B + 1 ≠ b; omega) u, ⟨h.tab.g.far hgr fun k off e => by have := (h.h1 k off e).2; simp; omega, h.tab.m.far hgr fun k off e => by have := (h.h2 k off e).2; simp; omega⟩, h.hB, h.hg, h.hA, h.h1, h.h2⟩
theorem DG.done (h : DG g A n w B F A1 A2 c1 c2 wk) (r : Array Value) : Src (wk.setRow (B + 1) r) g A n ∧ w.grownBy (wk.setRow (B + 1) r) (some g) :=
  ⟨h.src.own (setRow_only _ _ _) (B := B) (fun i e => by cases e; omega) h.hg h.hA, only_own h.gr (setRow_only _ _ _) (fun i e => by cases e; rw [h.hB]; omega)⟩
end
/-- The edit in its block, besides. -/
structure DE (g : Nat) (A : Option Addr) (n : Nat) (w : World) (B : Nat) (F : Fm) (A1 A2 : Option Addr) (c1 c2 be : Nat) (a0 a1 a2 a3 a4 : Int) (wk : World) : Prop where
  dg : DG g A n w B F A1 A2 c1 c2 wk
  x : Blk wk 0 be #[.int .i64 a0, .int .i64 a1, .int .i64 a2, .int .i64 a3, .int .i64 a4] 56
  hx : B + 1 < be
section
variable {g n B be : Nat} {A : Option Addr} {w wk w' : World} {F : Fm} {A1 A2 : Option Addr} {c1 c2 : Nat} {a0 a1 a2 a3 a4 : Int}
theorem DE.new (h : DG g A n w B F A1 A2 c1 c2 wk) (a0 a1 a2 a3 a4 : Int) : DE g A n w B F A1 A2 c1 c2 wk.heap.size a0 a1 a2 a3 a4 (wk.alloc (.cells #[.int .i64 a0, .int .i64 a1, .int .i64 a2, .int .i64 a3, .int .i64 a4] 56)) := ⟨h.alloc _, Blk.new (Nat.zero_le _) _ _, h.size⟩
theorem DE.drawn (h : DE g A n w B F A1 A2 c1 c2 be a0 a1 a2 a3 a4 wk) (hS : Src w' g A n) (hG : wk.grownBy w' (some g)) : DE g A n w B F A1 A2 c1 c2 be a0 a1 a2 a3 a4 w' :=
  ⟨h.dg.drawn hS hG, h.x.grown hG (by have := h.dg.hg; have := h.hx; omega), h.hx⟩
theorem DE.keep (h : DE g A n w B F A1 A2 c1 c2 be a0 a1 a2 a3 a4 wk) (hb : Below wk.heap.size wk w') : DE g A n w B F A1 A2 c1 c2 be a0 a1 a2 a3 a4 w' := h.drawn (h.dg.src.keep hb) (only_below hb _)
theorem DE.alloc (h : DE g A n w B F A1 A2 c1 c2 be a0 a1 a2 a3 a4 wk) (o : Obj) : DE g A n w B F A1 A2 c1 c2 be a0 a1 a2 a3 a4 (wk.alloc o) := h.keep ((Below.refl _ _).alloc (Nat.le_refl _) _)
theorem DE.set0 (h : DE g A n w B F A1 A2 c1 c2 be a0 a1 a2 a3 a4 wk) (u : Int) : DE g A n w B F A1 A2 c1 c2 be u a1 a2 a3 a4 (wk.setCell ⟨be, 0, none⟩ (.int .i64 u)) := ⟨h.dg.put 0 h.hx _, (h.x.setc 0 _).cast rfl, h.hx⟩
theorem DE.set1 (h : DE g A n w B F A1 A2 c1 c2 be a0 a1 a2 a3 a4 wk) (u : Int) : DE g A n w B F A1 A2 c1 c2 be a0 u a2 a3 a4 (wk.setCell ⟨be, 1, none⟩ (.int .i64 u)) := ⟨h.dg.put 1 h.hx _, (h.x.setc 1 _).cast rfl, h.hx⟩
theorem DE.set2 (h : DE g A n w B F A1 A2 c1 c2 be a0 a1 a2 a3 a4 wk) (u : Int) : DE g A n w B F A1 A2 c1 c2 be a0 a1 u a3 a4 (wk.setCell ⟨be, 2, none⟩ (.int .i64 u)) := ⟨h.dg.put 2 h.hx _, (h.x.setc 2 _).cast rfl, h.hx⟩
theorem DE.set3 (h : DE g A n w B F A1 A2 c1 c2 be a0 a1 a2 a3 a4 wk) (u : Int) : DE g A n w B F A1 A2 c1 c2 be a0 a1 a2 u a4 (wk.setCell ⟨be, 3, none⟩ (.int .i64 u)) := ⟨h.dg.put 3 h.hx _, (h.x.setc 3 _).cast rfl, h.hx⟩
theorem DE.set4 (h : DE g A n w B F A1 A2 c1 c2 be a0 a1 a2 a3 a4 wk) (u : Int) : DE g A n w B F A1 A2 c1 c2 be a0 a1 a2 a3 u (wk.setCell ⟨be, 4, none⟩ (.int .i64 u)) := ⟨h.dg.put 4 h.hx _, (h.x.setc 4 _).cast rfl, h.hx⟩
theorem DE.cells (h : DE g A n w B F A1 A2 c1 c2 be a0 a1 a2 a3 a4 wk) : wk.cell? ⟨be, 0, none⟩ = some (.int .i64 a0) ∧ wk.cell? ⟨be, 1, none⟩ = some (.int .i64 a1) ∧ wk.cell? ⟨be, 2, none⟩ = some (.int .i64 a2) ∧ wk.cell? ⟨be, 3, none⟩ = some (.int .i64 a3) ∧ wk.cell? ⟨be, 4, none⟩ = some (.int .i64 a4) ∧ wk.frozen? ⟨be, 0, none⟩ = false ∧ wk.frozen? ⟨be, 1, none⟩ = false ∧ wk.frozen? ⟨be, 2, none⟩ = false ∧ wk.frozen? ⟨be, 3, none⟩ = false ∧ wk.frozen? ⟨be, 4, none⟩ = false :=
  ⟨(h.x.cell 0).trans rfl, (h.x.cell 1).trans rfl, (h.x.cell 2).trans rfl, (h.x.cell 3).trans rfl, (h.x.cell 4).trans rfl, h.x.frozen 0, h.x.frozen 1, h.x.frozen 2, h.x.frozen 3, h.x.frozen 4⟩
end
/-- Some edit. -/
def DrE (g : Nat) (A : Option Addr) (n : Nat) (w : World) (e : Ending) (w' : World) : Prop :=
  ∃ a0 a1 a2 a3 a4 : Int, e = .returned (.agg #[.int .i64 a0, .int .i64 a1, .int .i64 a2, .int .i64 a3, .int .i64 a4]) ∧ Src w' g A n ∧ w.grownBy w' (some g)
theorem Tab.some4 {w : World} {A : Option Addr} {n : Nat} {f : Nat → Nat → Int} (h : Tab 4 w A n f) (h0 : 0 < n) : ∃ k off, A = some ⟨k, off, none⟩ ∧ ∀ i, i < n → w.cell? ⟨k, off + i * 4, none⟩ = some (.int .i64 (f i 0)) := by
  obtain ⟨k, off, e, _, hc⟩ := h.at h0
  exact ⟨k, off, e, fun i hi => hc i 0 hi (by omega)⟩
set_option maxHeartbeats 8000000 in
theorem s_l06Edit (g : Nat) (A : Option Addr) (n : Nat) (F : Fm) (A1 A2 : Option Addr) (c1 c2 : Nat) (w : World) (h : Src w g A n) (hT : FarmAt w A1 F.n1 F.f1 A2 F.n2 F.f2) (h1 : ∀ k off, A1 = some ⟨k, off, none⟩ → some k ≠ some g ∧ k < w.heap.size) (h2 : ∀ k off, A2 = some ⟨k, off, none⟩ → some k ≠ some g ∧ k < w.heap.size) (l1 : F.n1 ≤ 3000) (l2 : F.n2 ≤ 3000) :
    Calls Try.prog 69 #[.pointer (some ⟨g, 0, none⟩), .agg #[.int .i64 F.cap, .slice A1 F.n1 c1, .slice A2 F.n2 c2]] w (DrE g A n w) := by
  have hu := Try.underlying56
  have S0 := Lib.hid (show DG g A n w w.heap.size F A1 A2 c1 c2 ((w.alloc (.cells #[.int .i64 F.cap, .slice A1 F.n1 c1, .slice A2 F.n2 c2] 34)).alloc (.cells #[.int .i64 0, .int .i64 0, .int .i64 0, .int .i64 0, .int .i64 0] 56)) from by
    have hb := ((Below.refl w.heap.size w).alloc (Nat.le_refl _) (.cells #[.int .i64 F.cap, .slice A1 F.n1 c1, .slice A2 F.n2 c2] 34)).alloc (by simp) (.cells #[.int .i64 0, .int .i64 0, .int .i64 0, .int .i64 0, .int .i64 0] 56)
    have hr := Room.new (w := w.alloc (.cells #[.int .i64 F.cap, .slice A1 F.n1 c1, .slice A2 F.n2 c2] 34)) (B := w.heap.size) (by simp) (cs := #[.int .i64 0, .int .i64 0, .int .i64 0, .int .i64 0, .int .i64 0]) (t := 56) (n := 5) rfl
    simp only [World.size_alloc] at hr
    exact ⟨h.keep hb, only_below hb _, (Blk.new (w := w) (Nat.le_refl _) #[.int .i64 F.cap, .slice A1 F.n1 c1, .slice A2 F.n2 c2] 34).keep ((Below.refl _ _).alloc (Nat.le_refl _) _), hr, hT.keep hb, rfl, h.lt', h.blocks, h1, h2⟩)
  clear h hT h1 h2
  go_enter Try.func69, Try.ntmps69
  go_upto_region 1 with fail
  generalize (w.alloc (.cells #[.int .i64 F.cap, .slice A1 F.n1 c1, .slice A2 F.n2 c2] 34)).alloc (.cells #[.int .i64 0, .int .i64 0, .int .i64 0, .int .i64 0, .int .i64 0] 56) = w1 at *
  generalize hBB : w.heap.size = B at *
  go_cut [5] (fun v5 wc => ∃ (wx : World) (x : Int), wx = wc ∧ v5 = .int .i64 x ∧ Hid (DG g A n w B F A1 A2 c1 c2 wx))
  case first =>
    as_aux_lemma =>
      go_wp2_with fail
      refine (s_n _ _ _ _ _ S0.out.src (by omega)).mono ?_; rintro e w2 ⟨r, rfl, r0, r1, r2, hS, hG⟩
      have S1 := Lib.hid (S0.out.drawn hS hG)
      clear hS hG S0 r1 r2
      go_wp2_with fail
      go_meet
      exact ⟨_, _, rfl, rfl, S1⟩
  case rest =>
  obtain ⟨w2, x, rfl, rfl, S1⟩ := hcut
  clear S0
  rename_i hK; refine hK _ _ ?_; clear hK; go_step
  go_cut [5] (fun v5 wc => ∃ (wx : World) (x : Int), wx = wc ∧ v5 = .int .i64 x ∧ Hid (DG g A n w B F A1 A2 c1 c2 wx))
  case first =>
    as_aux_lemma =>
      have z2 := (S1.out.fb.cell 2).trans rfl
      rcases Nat.eq_zero_or_pos F.n2 with h0 | h0
      · have b2 : decide ((F.n2 : Int) > 0) = false := decide_eq_false (by omega)
        go_wp2_with fail
        go_meet
        exact ⟨_, _, rfl, rfl, S1⟩
      · have b2 : decide ((F.n2 : Int) > 0) = true := decide_eq_true (by omega)
        go_wp2_with fail
        refine (s_one _ _ _ _ _ S1.out.src (by omega)).mono ?_; rintro e w3 ⟨q, rfl, hS, hG⟩
        have S2 := Lib.hid (S1.out.drawn hS hG)
        clear hS hG S1 z2
        cases q
        · go_wp2_with fail
          go_meet
          exact ⟨_, _, rfl, rfl, S2⟩
        · go_upto_region 3 with fail
          have Q := Lib.hid (S2.out.keep (Below.refl _ _).drew)
          refine wp_region_fin (fun w' => w'.cell? ⟨B, 2, none⟩ = some (.slice A2 F.n2 c2)) 10 (by kernel_rfl) ((S2.out.fb.cell 2).trans rfl) (fun hHeld => ?_)
          (refine wpFin_take (i := 0) (v := ?_) (by kernel_rfl) rfl (by decide) (by kernel_rfl) (by kernel_rfl) (by kernel_rfl) (fun _ _ _ h => h) (Or.inl ⟨by rfl, ?_⟩) (by assumption) ?_); rotate_left 1; (focus (intro w hSw; (try dsimp only at hSw); go_simp; first | done | with_reducible rfl)); (try simp only [Act.put, List.setIfInBounds_toArray, List.set_cons_zero, List.set_cons_succ])
          (refine wpFin_take (i := 1) (v := ?_) (by kernel_rfl) rfl (by decide) (by kernel_rfl) (by kernel_rfl) (by kernel_rfl) (fun _ _ _ h => h) (Or.inl ⟨by rfl, ?_⟩) (by assumption) ?_); rotate_left 1; (focus (intro w hSw; (try dsimp only at hSw); go_simp; first | done | with_reducible rfl)); (try simp only [Act.put, List.setIfInBounds_toArray, List.set_cons_zero, List.set_cons_succ])
          (refine wpFin_take (i := 2) (v := ?_) (by kernel_rfl) rfl (by decide) (by kernel_rfl) (by kernel_rfl) (by kernel_rfl) (fun _ _ _ h => h) (Or.inl ⟨by rfl, ?_⟩) (by assumption) ?_); rotate_left 1; (focus (intro w hSw; (try dsimp only at hSw); go_simp; first | done | with_reducible rfl)); (try simp only [Act.put, List.setIfInBounds_toArray, List.set_cons_zero, List.set_cons_succ])
          (refine wpFin_take (i := 3) (v := ?_) (by kernel_rfl) rfl (by decide) (by kernel_rfl) (by kernel_rfl) (by kernel_rfl) (fun _ _ _ h => h) (Or.inl ⟨by rfl, ?_⟩) (by assumption) ?_); rotate_left 1; (focus (intro w hSw; (try dsimp only at hSw); go_simp; first | done | with_reducible rfl)); (try simp only [Act.put, List.setIfInBounds_toArray, List.set_cons_zero, List.set_cons_succ])
          (refine wpFin_take (i := 4) (v := ?_) (by kernel_rfl) rfl (by decide) (by kernel_rfl) (by kernel_rfl) (by kernel_rfl) (fun _ _ _ h => h) (Or.inl ⟨by rfl, ?_⟩) (by assumption) ?_); rotate_left 1; (focus (intro w hSw; (try dsimp only at hSw); go_simp; first | done | with_reducible rfl)); (try simp only [Act.put, List.setIfInBounds_toArray, List.set_cons_zero, List.set_cons_succ])
          (refine wpFin_take (i := 5) (v := ?_) (by kernel_rfl) rfl (by decide) (by kernel_rfl) (by kernel_rfl) (by kernel_rfl) (fun _ _ _ h => h) (Or.inl ⟨by rfl, ?_⟩) (by assumption) ?_); rotate_left 1; (focus (intro w hSw; (try dsimp only at hSw); go_simp; first | done | with_reducible rfl)); (try simp only [Act.put, List.setIfInBounds_toArray, List.set_cons_zero, List.set_cons_succ])
          refine wpFin_one (i := 6) (by kernel_rfl) rfl (fun K hK => ?_)
          go_simp
          go_at_call 110
          refine (s_n _ _ _ _ _ Q.out.src (by omega)).mono ?_; rintro e w4 ⟨r, rfl, r0, r1, r2, hS, hG⟩
          have S3 := Lib.hid (Q.out.drawn hS hG)
          obtain ⟨p, rfl⟩ : ∃ p : Nat, r = p := ⟨r.toNat, by omega⟩
          have hp : p < F.n2 := by
            rcases Nat.lt_or_ge 1 F.n2 with h | h
            · have := r1 (by omega); omega
            · have := r2 (by omega); omega
          obtain ⟨tb, off, rfl, hc⟩ := S3.out.tab.m.some4 h0
          have hc1 := hc p hp
          have hz := (S3.out.fb.cell 2).trans rfl
          clear hS hG r0 r1 r2 hHeld S2 Q hc
          go_wp2_with fail
          refine hK.out _ _ (fun _ => hz) (fun hS => ?_)
          clear hK K hS
          (try simp only [Act.put, List.setIfInBounds_toArray, List.set_cons_zero, List.set_cons_succ])
          refine wpFin_one (i := 7) (by kernel_rfl) rfl (fun K hK => ?_)
          go_simp
          refine hK.out _ _ (fun _ => hz) (fun hS => ?_)
          clear hK K hS
          (try simp only [Act.put, List.setIfInBounds_toArray, List.set_cons_zero, List.set_cons_succ])
          refine wpFin_one (i := 8) (by kernel_rfl) rfl (fun K hK => ?_)
          go_simp
          refine hK.out _ _ (fun _ => hz) (fun hS => ?_)
          clear hK K hS
          (try simp only [Act.put, List.setIfInBounds_toArray, List.set_cons_zero, List.set_cons_succ])
          refine wpFin_one (i := 9) (by kernel_rfl) rfl (fun K hK => ?_)
          go_simp
          refine hK.out _ _ (fun _ => hz) (fun hS => ?_)
          clear hK K hS
          (try simp only [Act.put, List.setIfInBounds_toArray, List.set_cons_zero, List.set_cons_succ])
          refine wpFin_one (i := 10) (by kernel_rfl) rfl (fun K hK => ?_)
          go_simp
          refine hK.out _ _ (fun h => absurd rfl h) (fun hS => ?_)
          clear hK K hS
          (try simp only [Act.put, List.setIfInBounds_toArray, List.set_cons_zero, List.set_cons_succ])
          refine wpFin_done (by kernel_rfl) ?_ _
          go_wp2_with fail
          go_meet
          exact ⟨_, _, rfl, rfl, S3⟩
  case rest =>
  obtain ⟨w3, x, rfl, rfl, S2⟩ := hcut
  clear S1
  rename_i hK; refine hK _ _ ?_; clear hK; go_step
  go_cut [6] (fun v6 wc => ∃ (wx : World), wx = wc ∧ v6 = .int .i64 0 ∧ Hid (DG g A n w B F A1 A2 c1 c2 wx))
  case first =>
    as_aux_lemma =>
      go_wp2_with fail
      go_meet
      exact ⟨_, rfl, rfl, S2⟩
  case rest =>
  obtain ⟨w4, rfl, rfl, S3⟩ := hcut
  clear S2
  rename_i hK; refine hK _ _ ?_; clear hK; go_step
  go_cut [6] (fun v6 wc => ∃ (wx : World) (y : Int), wx = wc ∧ v6 = .int .i64 y ∧ Hid (DG g A n w B F A1 A2 c1 c2 wx))
  case first =>
    as_aux_lemma =>
      have z2 := (S3.out.fb.cell 1).trans rfl
      rcases Nat.eq_zero_or_pos F.n1 with h0 | h0
      · have b2 : decide ((F.n1 : Int) > 0) = false := decide_eq_false (by omega)
        go_wp2_with fail
        go_meet
        exact ⟨_, _, rfl, rfl, S3⟩
      · have b2 : decide ((F.n1 : Int) > 0) = true := decide_eq_true (by omega)
        go_wp2_with fail
        refine (s_one _ _ _ _ _ S3.out.src (by omega)).mono ?_; rintro e w5 ⟨q, rfl, hS, hG⟩
        have S4 := Lib.hid (S3.out.drawn hS hG)
        clear hS hG S3 z2
        cases q
        case true =>
          go_wp2_with fail
          go_meet
          exact ⟨_, _, rfl, rfl, S4⟩
        case false =>
          go_upto_region 6 with fail
          have Q := Lib.hid (S4.out.keep (Below.refl _ _).drew)
          refine wp_region_fin (fun w' => w'.cell? ⟨B, 1, none⟩ = some (.slice A1 F.n1 c1)) 10 (by kernel_rfl) ((S4.out.fb.cell 1).trans rfl) (fun hHeld => ?_)
          (refine wpFin_take (i := 0) (v := ?_) (by kernel_rfl) rfl (by decide) (by kernel_rfl) (by kernel_rfl) (by kernel_rfl) (fun _ _ _ h => h) (Or.inl ⟨by rfl, ?_⟩) (by assumption) ?_); rotate_left 1; (focus (intro w hSw; (try dsimp only at hSw); go_simp; first | done | with_reducible rfl)); (try simp only [Act.put, List.setIfInBounds_toArray, List.set_cons_zero, List.set_cons_succ])
          (refine wpFin_take (i := 1) (v := ?_) (by kernel_rfl) rfl (by decide) (by kernel_rfl) (by kernel_rfl) (by kernel_rfl) (fun _ _ _ h => h) (Or.inl ⟨by rfl, ?_⟩) (by assumption) ?_); rotate_left 1; (focus (intro w hSw; (try dsimp only at hSw); go_simp; first | done | with_reducible rfl)); (try simp only [Act.put, List.setIfInBounds_toArray, List.set_cons_zero, List.set_cons_succ])
          (refine wpFin_take (i := 2) (v := ?_) (by kernel_rfl) rfl (by decide) (by kernel_rfl) (by kernel_rfl) (by kernel_rfl) (fun _ _ _ h => h) (Or.inl ⟨by rfl, ?_⟩) (by assumption) ?_); rotate_left 1; (focus (intro w hSw; (try dsimp only at hSw); go_simp; first | done | with_reducible rfl)); (try simp only [Act.put, List.setIfInBounds_toArray, List.set_cons_zero, List.set_cons_succ])
          (refine wpFin_take (i := 3) (v := ?_) (by kernel_rfl) rfl (by decide) (by kernel_rfl) (by kernel_rfl) (by kernel_rfl) (fun _ _ _ h => h) (Or.inl ⟨by rfl, ?_⟩) (by assumption) ?_); rotate_left 1; (focus (intro w hSw; (try dsimp only at hSw); go_simp; first | done | with_reducible rfl)); (try simp only [Act.put, List.setIfInBounds_toArray, List.set_cons_zero, List.set_cons_succ])
          (refine wpFin_take (i := 4) (v := ?_) (by kernel_rfl) rfl (by decide) (by kernel_rfl) (by kernel_rfl) (by kernel_rfl) (fun _ _ _ h => h) (Or.inl ⟨by rfl, ?_⟩) (by assumption) ?_); rotate_left 1; (focus (intro w hSw; (try dsimp only at hSw); go_simp; first | done | with_reducible rfl)); (try simp only [Act.put, List.setIfInBounds_toArray, List.set_cons_zero, List.set_cons_succ])
          (refine wpFin_take (i := 5) (v := ?_) (by kernel_rfl) rfl (by decide) (by kernel_rfl) (by kernel_rfl) (by kernel_rfl) (fun _ _ _ h => h) (Or.inl ⟨by rfl, ?_⟩) (by assumption) ?_); rotate_left 1; (focus (intro w hSw; (try dsimp only at hSw); go_simp; first | done | with_reducible rfl)); (try simp only [Act.put, List.setIfInBounds_toArray, List.set_cons_zero, List.set_cons_succ])
          refine wpFin_one (i := 6) (by kernel_rfl) rfl (fun K hK => ?_)
          go_simp
          go_at_call 110
          refine (s_n _ _ _ _ _ Q.out.src (by omega)).mono ?_; rintro e w6 ⟨r, rfl, r0, r1, r2, hS, hG⟩
          have S5 := Lib.hid (Q.out.drawn hS hG)
          obtain ⟨p, rfl⟩ : ∃ p : Nat, r = p := ⟨r.toNat, by omega⟩
          have hp : p < F.n1 := by
            rcases Nat.lt_or_ge 1 F.n1 with h | h
            · have := r1 (by omega); omega
            · have := r2 (by omega); omega
          obtain ⟨tb, off, rfl, hc⟩ := S5.out.tab.g.some4 h0
          have hc1 := hc p hp
          have hz := (S5.out.fb.cell 1).trans rfl
          clear hS hG r0 r1 r2 hHeld S4 Q hc
          go_wp2_with fail
          refine hK.out _ _ (fun _ => hz) (fun hS => ?_)
          clear hK K hS
          (try simp only [Act.put, List.setIfInBounds_toArray, List.set_cons_zero, List.set_cons_succ])
          refine wpFin_one (i := 7) (by kernel_rfl) rfl (fun K hK => ?_)
          go_simp
          refine hK.out _ _ (fun _ => hz) (fun hS => ?_)
          clear hK K hS
          (try simp only [Act.put, List.setIfInBounds_toArray, List.set_cons_zero, List.set_cons_succ])
          refine wpFin_one (i := 8) (by kernel_rfl) rfl (fun K hK => ?_)
          go_simp
          refine hK.out _ _ (fun _ => hz) (fun hS => ?_)
          clear hK K hS
          (try simp only [Act.put, List.setIfInBounds_toArray, List.set_cons_zero, List.set_cons_succ])
          refine wpFin_one (i := 9) (by kernel_rfl) rfl (fun K hK => ?_)
          go_simp
          refine hK.out _ _ (fun _ => hz) (fun hS => ?_)
          clear hK K hS
          (try simp only [Act.put, List.setIfInBounds_toArray, List.set_cons_zero, List.set_cons_succ])
          refine wpFin_one (i := 10) (by kernel_rfl) rfl (fun K hK => ?_)
          go_simp
          refine hK.out _ _ (fun h => absurd rfl h) (fun hS => ?_)
          clear hK K hS
          (try simp only [Act.put, List.setIfInBounds_toArray, List.set_cons_zero, List.set_cons_succ])
          refine wpFin_done (by kernel_rfl) ?_ _
          go_wp2_with fail
          go_meet
          exact ⟨_, _, rfl, rfl, S5⟩
  case rest =>
  obtain ⟨w5, y, rfl, rfl, S4⟩ := hcut
  clear S3
  rename_i hK; refine hK _ _ ?_; clear hK; go_step
  go_cut [7] (fun v7 wc => ∃ (wx : World) (be : Nat) (k : Int), wx = wc ∧ v7 = .pointer (some ⟨be, 0, none⟩) ∧ 1 ≤ k ∧ k ≤ 8 ∧ Hid (DE g A n w B F A1 A2 c1 c2 be k x 0 0 0 wx))
  case first =>
    as_aux_lemma =>
      go_wp2_with fail
      refine (s_n _ _ _ _ _ S4.out.src (by omega)).mono ?_; rintro e w6 ⟨r, rfl, r0, r1, r2, hS, hG⟩
      have S5 := Lib.hid (S4.out.drawn hS hG)
      have r1' := r1 (by omega)
      clear hS hG S4 r1 r2
      go_wp2_with fail
      go_meet
      exact ⟨_, _, _, rfl, rfl, by omega, by omega, Lib.hid (DE.new S5.out _ _ _ _ _)⟩
  case rest =>
  obtain ⟨w6, be, k, rfl, rfl, k1, k8, E0⟩ := hcut
  clear S4
  rename_i hK; refine hK _ _ ?_; clear hK; go_step
  go_cut [] (fun wc => ∃ (wx : World) (a0 a1 a2 a3 a4 : Int), wx = wc ∧ Hid (DE g A n w B F A1 A2 c1 c2 be a0 a1 a2 a3 a4 wx))
  case first =>
    as_aux_lemma =>
      obtain ⟨y0, y1, y2, y3, y4, z0, z1, z2, z3, z4⟩ := E0.out.cells
      have hk : k = 1 ∨ k = 2 ∨ k = 3 ∨ k = 4 ∨ k = 5 ∨ k = 6 ∨ k = 7 ∨ k = 8 := by omega
      rcases hk with rfl | rfl | rfl | rfl | rfl | rfl | rfl | rfl
      · as_aux_lemma =>
          go_upto_region 10 with fail
          go_cut [] (fun wc => ∃ (wx : World) (a0 a1 a2 a3 a4 : Int), wx = wc ∧ Hid (DE g A n w B F A1 A2 c1 c2 be a0 a1 a2 a3 a4 wx))
          case first =>
            as_aux_lemma =>
              go_wp2_with fail; refine (s_n _ _ _ _ _ E0.out.dg.src (by omega)).mono ?_; rintro e wn ⟨r, rfl, r0, r1, r2, hS, hG⟩; have E1 := Lib.hid (E0.out.drawn hS hG); clear hS hG E0 r1 r2; (try clear y0 y1 y2 y3 y4 z0 z1 z2 z3 z4); obtain ⟨y0, y1, y2, y3, y4, z0, z1, z2, z3, z4⟩ := E1.out.cells
              go_wp2_with fail; go_meet; exact ⟨_, _, _, _, _, _, rfl, Lib.hid (E1.out.set1 _)⟩
          case rest =>
          obtain ⟨wa, b0, b1, b2, b3, b4, rfl, E1⟩ := hcut; clear E0; (try clear y0 y1 y2 y3 y4 z0 z1 z2 z3 z4); obtain ⟨y0, y1, y2, y3, y4, z0, z1, z2, z3, z4⟩ := E1.out.cells
          rename_i hK; refine hK _ _ ?_; clear hK; go_step
          go_upto_region 12 with fail
          have E2 := Lib.hid (E1.out.set2 y)
          clear E1
          go_cut [] (fun wc => ∃ (wx : World) (a0 a1 a2 a3 a4 : Int), wx = wc ∧ Hid (DE g A n w B F A1 A2 c1 c2 be a0 a1 a2 a3 a4 wx))
          case first =>
            as_aux_lemma =>
              go_wp2_with fail; refine (s_l02WantOf _ _ _ _ E2.out.dg.src).mono ?_; rintro e wn ⟨r, rfl, r0, r1, hS, hG⟩; have E3 := Lib.hid (E2.out.drawn hS hG); clear hS hG E2; (try clear y0 y1 y2 y3 y4 z0 z1 z2 z3 z4); obtain ⟨y0, y1, y2, y3, y4, z0, z1, z2, z3, z4⟩ := E3.out.cells
              go_wp2_with fail; go_meet; exact ⟨_, _, _, _, _, _, rfl, Lib.hid (E3.out.set3 _)⟩
          case rest =>
          obtain ⟨wa, b0, b1, b2, b3, b4, rfl, E3⟩ := hcut; clear E2; (try clear y0 y1 y2 y3 y4 z0 z1 z2 z3 z4); obtain ⟨y0, y1, y2, y3, y4, z0, z1, z2, z3, z4⟩ := E3.out.cells
          rename_i hK; refine hK _ _ ?_; clear hK; go_step
          go_wp2_with fail; refine (s_l02WeightOf _ _ _ _ E3.out.dg.src).mono ?_; rintro e wn ⟨r, rfl, r0, r1, hS, hG⟩; have E4 := Lib.hid (E3.out.drawn hS hG); clear hS hG E3; (try clear y0 y1 y2 y3 y4 z0 z1 z2 z3 z4); obtain ⟨y0, y1, y2, y3, y4, z0, z1, z2, z3, z4⟩ := E4.out.cells
          go_wp2_with fail; go_meet; exact ⟨_, _, _, _, _, _, rfl, Lib.hid (E4.out.set4 _)⟩
      · as_aux_lemma =>
          go_wp2_with fail
          go_meet
          exact ⟨_, _, _, _, _, _, rfl, E0⟩
      · as_aux_lemma =>
          go_wp2_with fail; refine (s_l02WantOf _ _ _ _ E0.out.dg.src).mono ?_; rintro e wn ⟨r, rfl, r0, r1, hS, hG⟩; have E1 := Lib.hid (E0.out.drawn hS hG); clear hS hG E0; (try clear y0 y1 y2 y3 y4 z0 z1 z2 z3 z4); obtain ⟨y0, y1, y2, y3, y4, z0, z1, z2, z3, z4⟩ := E1.out.cells
          go_wp2_with fail
          go_meet
          exact ⟨_, _, _, _, _, _, rfl, Lib.hid (E1.out.set3 r)⟩
      · as_aux_lemma =>
          go_wp2_with fail; refine (s_l02WeightOf _ _ _ _ E0.out.dg.src).mono ?_; rintro e wn ⟨r, rfl, r0, r1, hS, hG⟩; have E1 := Lib.hid (E0.out.drawn hS hG); clear hS hG E0; (try clear y0 y1 y2 y3 y4 z0 z1 z2 z3 z4); obtain ⟨y0, y1, y2, y3, y4, z0, z1, z2, z3, z4⟩ := E1.out.cells
          go_wp2_with fail
          go_meet
          exact ⟨_, _, _, _, _, _, rfl, Lib.hid (E1.out.set3 r)⟩
      · as_aux_lemma =>
          go_wp2_with fail
          go_meet
          exact ⟨_, _, _, _, _, _, rfl, Lib.hid (E0.out.set2 y)⟩
      · as_aux_lemma =>
          go_upto_region 21 with fail
          go_cut [] (fun wc => ∃ (wx : World) (a0 a1 a2 a3 a4 : Int), wx = wc ∧ Hid (DE g A n w B F A1 A2 c1 c2 be a0 a1 a2 a3 a4 wx))
          case first =>
            as_aux_lemma =>
              go_wp2_with fail; refine (s_n _ _ _ _ _ E0.out.dg.src (by omega)).mono ?_; rintro e wn ⟨r, rfl, r0, r1, r2, hS, hG⟩; have E1 := Lib.hid (E0.out.drawn hS hG); clear hS hG E0 r1 r2; (try clear y0 y1 y2 y3 y4 z0 z1 z2 z3 z4); obtain ⟨y0, y1, y2, y3, y4, z0, z1, z2, z3, z4⟩ := E1.out.cells
              go_wp2_with fail; go_meet; exact ⟨_, _, _, _, _, _, rfl, Lib.hid (E1.out.set1 _)⟩
          case rest =>
          obtain ⟨wa, b0, b1, b2, b3, b4, rfl, E1⟩ := hcut; clear E0; (try clear y0 y1 y2 y3 y4 z0 z1 z2 z3 z4); obtain ⟨y0, y1, y2, y3, y4, z0, z1, z2, z3, z4⟩ := E1.out.cells
          rename_i hK; refine hK _ _ ?_; clear hK; go_step
          go_upto_region 23 with fail
          have E2 := Lib.hid (E1.out.set2 y)
          clear E1
          go_cut [] (fun wc => ∃ (wx : World) (a0 a1 a2 a3 a4 : Int), wx = wc ∧ Hid (DE g A n w B F A1 A2 c1 c2 be a0 a1 a2 a3 a4 wx))
          case first =>
            as_aux_lemma =>
              go_wp2_with fail; refine (s_n _ _ _ _ _ E2.out.dg.src (by omega)).mono ?_; rintro e wn ⟨r, rfl, r0, r1, r2, hS, hG⟩; have E3 := Lib.hid (E2.out.drawn hS hG); clear hS hG E2 r1 r2; (try clear y0 y1 y2 y3 y4 z0 z1 z2 z3 z4); obtain ⟨y0, y1, y2, y3, y4, z0, z1, z2, z3, z4⟩ := E3.out.cells
              go_wp2_with fail; go_meet; exact ⟨_, _, _, _, _, _, rfl, Lib.hid (E3.out.set3 _)⟩
          case rest =>
          obtain ⟨wa, b0, b1, b2, b3, b4, rfl, E3⟩ := hcut; clear E2; (try clear y0 y1 y2 y3 y4 z0 z1 z2 z3 z4); obtain ⟨y0, y1, y2, y3, y4, z0, z1, z2, z3, z4⟩ := E3.out.cells
          rename_i hK; refine hK _ _ ?_; clear hK; go_step
          go_wp2_with fail; refine (s_n _ _ _ _ _ E3.out.dg.src (by omega)).mono ?_; rintro e wn ⟨r, rfl, r0, r1, r2, hS, hG⟩; have E4 := Lib.hid (E3.out.drawn hS hG); clear hS hG E3 r1 r2; (try clear y0 y1 y2 y3 y4 z0 z1 z2 z3 z4); obtain ⟨y0, y1, y2, y3, y4, z0, z1, z2, z3, z4⟩ := E4.out.cells
          go_wp2_with fail; go_meet; exact ⟨_, _, _, _, _, _, rfl, Lib.hid (E4.out.set4 _)⟩
      · as_aux_lemma =>
          go_wp2_with (go_at_call 57; refine (s_l01Max _ _ _).mono ?_; rintro e wn ⟨rfl, rfl⟩)
          all_goals (go_meet; exact ⟨_, _, _, _, _, _, rfl, Lib.hid (E0.out.set1 _)⟩)
      · as_aux_lemma =>
          go_upto_region 29 with fail
          have E1 := Lib.hid (E0.out.set1 y)
          clear E0
          go_wp2_with fail; refine (s_n _ _ _ _ _ E1.out.dg.src (by omega)).mono ?_; rintro e wn ⟨r, rfl, r0, r1, r2, hS, hG⟩; have E2 := Lib.hid (E1.out.drawn hS hG); clear hS hG E1 r1 r2; (try clear y0 y1 y2 y3 y4 z0 z1 z2 z3 z4); obtain ⟨y0, y1, y2, y3, y4, z0, z1, z2, z3, z4⟩ := E2.out.cells
          go_wp2_with fail; go_meet; exact ⟨_, _, _, _, _, _, rfl, Lib.hid (E2.out.set3 _)⟩
  case rest =>
  obtain ⟨w7, a0, a1, a2, a3, a4, rfl, E1⟩ := hcut
  clear E0 k1 k8
  rename_i hK; refine hK _ _ ?_; clear hK; go_step
  go_cut [] (fun wc => ∃ (wx : World) (a0 a1 a2 a3 a4 : Int), wx = wc ∧ Hid (DE g A n w B F A1 A2 c1 c2 be a0 a1 a2 a3 a4 wx))
  case first =>
    as_aux_lemma =>
      go_wp2_with fail
      refine (s_one _ _ _ _ _ E1.out.dg.src (by omega)).mono ?_; rintro e w8 ⟨q, rfl, hS, hG⟩
      have E2 := Lib.hid (E1.out.drawn hS hG)
      clear hS hG E1
      cases q
      · go_wp2_with fail
        go_meet
        exact ⟨_, _, _, _, _, _, rfl, E2⟩
      go_wp2_with fail
      refine (s_n _ _ _ _ _ E2.out.dg.src (by omega)).mono ?_; rintro e w9 ⟨r, rfl, r0, r1, r2, hS, hG⟩
      have E3 := Lib.hid (E2.out.drawn hS hG)
      clear hS hG E2 r1 r2
      have hr : r = 0 ∨ r = 1 ∨ r = 2 ∨ (r ≠ 0 ∧ r ≠ 1 ∧ r ≠ 2) := by omega
      rcases hr with rfl | rfl | rfl | ⟨k0, k1, k2⟩
      · as_aux_lemma =>
          go_wp2_with fail; refine (s_n _ _ _ _ _ E3.out.dg.src (by omega)).mono ?_; rintro e wn ⟨r, rfl, r0, r1, r2, hS, hG⟩; have E4 := Lib.hid (E3.out.drawn hS hG); clear hS hG E3 r1 r2; (try clear y0 y1 y2 y3 y4 z0 z1 z2 z3 z4); obtain ⟨y0, y1, y2, y3, y4, z0, z1, z2, z3, z4⟩ := E4.out.cells
          go_wp2_with fail; go_meet; exact ⟨_, _, _, _, _, _, rfl, Lib.hid (E4.out.set0 _)⟩
      · as_aux_lemma =>
          have T3 := Lib.hid (E3.out.alloc (.cells #[.int .i64 (-1), .int .i64 1125899906842624, .int .i64 1125899906842625] 2))
          have HN := Lib.hid (show ∀ k, k < 3 → ∃ q, (#[Value.int .i64 (-1), .int .i64 1125899906842624, .int .i64 1125899906842625])[k]? = some (.int .i64 q) from fun k hk => by
            match k, hk with
            | 0, _ => exact ⟨_, rfl⟩
            | 1, _ => exact ⟨_, rfl⟩
            | 2, _ => exact ⟨_, rfl⟩)
          have HL := Lib.hid (Blk.new (w := w9) (B := 0) (Nat.zero_le _) #[.int .i64 (-1), .int .i64 1125899906842624, .int .i64 1125899906842625] 2)
          go_wp2_with fail
          refine (s_n _ _ _ _ _ T3.out.dg.src (by omega)).mono ?_
          rintro e w14 ⟨q, rfl, q0, q1, q2, hS, hG⟩
          obtain ⟨p, rfl⟩ : ∃ p : Nat, q = p := ⟨q.toNat, by omega⟩
          have hp : p < 3 := by have := q1 (by omega); omega
          obtain ⟨v, hv⟩ := HN.out p hp
          have hc := ((HL.out.grown hG (by have := E3.out.dg.size; have := E3.out.dg.hg; omega)).cell p).trans hv
          have E4 := Lib.hid (T3.out.drawn hS hG)
          obtain ⟨y0, y1, y2, y3, y4, z0, z1, z2, z3, z4⟩ := E4.out.cells
          clear hS hG hv q0 q1 q2 T3 E3
          go_wp2_with fail; go_meet; exact ⟨_, _, _, _, _, _, rfl, Lib.hid (E4.out.set3 _)⟩
      · as_aux_lemma =>
          go_wp2_with fail; refine (s_n _ _ _ _ _ E3.out.dg.src (by omega)).mono ?_; rintro e wn ⟨r, rfl, r0, r1, r2, hS, hG⟩; have E4 := Lib.hid (E3.out.drawn hS hG); clear hS hG E3 r1 r2; (try clear y0 y1 y2 y3 y4 z0 z1 z2 z3 z4); obtain ⟨y0, y1, y2, y3, y4, z0, z1, z2, z3, z4⟩ := E4.out.cells
          go_wp2_with fail; go_meet; exact ⟨_, _, _, _, _, _, rfl, Lib.hid (E4.out.set4 _)⟩
      · as_aux_lemma =>
          have b0 : (r == 0) = false := beq_eq_false_iff_ne.mpr k0
          have b1 : (r == 1) = false := beq_eq_false_iff_ne.mpr k1
          have b2 : (r == 2) = false := beq_eq_false_iff_ne.mpr k2
          clear k0 k1 k2
          go_wp2_with fail; refine (s_n _ _ _ _ _ E3.out.dg.src (by omega)).mono ?_; rintro e wn ⟨r, rfl, r0, r1, r2, hS, hG⟩; have E4 := Lib.hid (E3.out.drawn hS hG); clear hS hG E3 r1 r2; (try clear y0 y1 y2 y3 y4 z0 z1 z2 z3 z4); obtain ⟨y0, y1, y2, y3, y4, z0, z1, z2, z3, z4⟩ := E4.out.cells
          go_wp2_with fail; go_meet; exact ⟨_, _, _, _, _, _, rfl, Lib.hid (E4.out.set2 _)⟩
  case rest =>
  obtain ⟨w8, a0, a1, a2, a3, a4, rfl, E2⟩ := hcut
  clear E1
  rename_i hK; refine hK _ _ ?_; clear hK; go_step
  go_wp2_with (first
    | ((with_reducible refine at_load (ty := 56) (x := .tmp 7) ?_); refine wpl_load_row rfl 56 (.tmp 7) rfl be rfl E2.out.x rfl (by kernel_rfl) hu rfl ?_)
    | ((with_reducible refine at_store (ty := 56) (y := .tmp 138) ?_); refine wpl_store_row rfl 56 (.tmp 4) (.tmp 138) rfl (B + 1) _ rfl rfl E2.out.dg.res rfl (by kernel_rfl) (by simp [Value.oneCell']) ?_; intro hout)
    | fail)
  exact bodyPost_ret (v := .agg #[.int .i64 a0, .int .i64 a1, .int .i64 a2, .int .i64 a3, .int .i64 a4]) (results_cell_row rfl _ _ _ _ _ _ _ rfl hout.2 hu rfl (by kernel_rfl)) rfl ⟨_, _, _, _, _, rfl, (E2.out.dg.done _).1, (E2.out.dg.done _).2⟩
end Go.Proofs.Ytipkbapnhgdpeaa.C
