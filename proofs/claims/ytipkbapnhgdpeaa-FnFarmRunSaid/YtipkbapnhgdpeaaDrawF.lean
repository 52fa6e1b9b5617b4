/- Drawn farms: some farm, in tables of the draw's own. No condition. -/
import Derived.Test.YtipkbapnhgdpeaaDrawW
import Derived.Test.YtipkbapnhgdpeaaLFarmF
import Derived.Test.YtipkbapnhgdpeaaFin
import Derived.Test.YtipkbapnhgdpeaaTApp
namespace Go.Proofs.Ytipkbapnhgdpeaa.C
open Go.RowKit
set_option maxRecDepth 100000
set_option linter.unusedVariables false
set_option linter.unusedSimpArgs false
attribute [local go_sem ↓] Go.wp_at_zero Go.wp_at_succ
theorem Blk.grownR {w w1 : World} {B b : Nat} {row : Option Nat} {cs : Array Value} {t : TypeId} (h : Blk w B b cs t) (hb : w.grownBy w1 row) (hne : row ≠ some b) : Blk w1 B b cs t := ⟨h.1, (hb.block b h.lt (fun e => hne e.symm)).trans h.2⟩
theorem Room.grownR {w w1 : World} {B b n : Nat} {row : Option Nat} {t : TypeId} (h : Room w B b n t) (hb : w.grownBy w1 row) (hne : row ≠ some b) : Room w1 B b n t := let ⟨cs, h1, h2⟩ := h; ⟨cs, h1.grownR hb hne, h2⟩
/-- A drawn farm on its way: the source, the result's block, the farm's block and tables. -/
structure DF (g : Nat) (A : Option Addr) (n : Nat) (w : World) (B bf : Nat) (F : Fm) (vg vm : Value) (wk : World) : Prop where
  src : Src wk g A n
  gr : w.grownBy wk (some g)
  res : Room wk B B 3 34
  fb : Blk wk B bf #[.int .i64 F.cap, vg, vm] 34
  tab : FarmV wk B F vg vm
  hB : w.heap.size = B
  hg : g < B
  hA : ∀ j, j < n → ∀ ad, A = some ad → ad.block < B
  hf : B < bf
section
variable {g n B bf : Nat} {A : Option Addr} {w wk w' : World} {F : Fm} {vg vm : Value}
theorem DF.drawn (h : DF g A n w B bf F vg vm wk) (hS : Src w' g A n) (hG : wk.grownBy w' (some g)) : DF g A n w B bf F vg vm w' :=
  ⟨hS, only_trans h.gr hG, h.res.grownD hG (by have := h.hg; omega), h.fb.grown hG (by have := h.hg; have := h.hf; omega), h.tab.grownH hG (fun k e => by cases e; exact h.hg), h.hB, h.hg, h.hA, h.hf⟩
theorem DF.keep (h : DF g A n w B bf F vg vm wk) (hb : Below wk.heap.size wk w') : DF g A n w B bf F vg vm w' := h.drawn (h.src.keep hb) (only_below hb _)
theorem DF.alloc (h : DF g A n w B bf F vg vm wk) (o : Obj) : DF g A n w B bf F vg vm (wk.alloc o) := h.keep ((Below.refl _ _).alloc (Nat.le_refl _) _)
theorem DF.size (h : DF g A n w B bf F vg vm wk) : B ≤ wk.heap.size := by have := h.fb.lt; have := h.hf; omega
/-- A store into a block of the draw's own. -/
theorem DF.put (h : DF g A n w B bf F vg vm wk) {b : Nat} (i : Nat) (hb : B < b) (hf : bf ≠ b) (h1 : vg.ownBlock ≠ some b) (h2 : vm.ownBlock ≠ some b) (u : Value) : DF g A n w B bf F vg vm (wk.setCell ⟨b, i, none⟩ u) :=
  ⟨h.src.setf (B := B) (Nat.le_of_lt hb) h.hg h.hA u, only_setCell h.gr (.inr (by rw [h.hB]; exact Nat.le_of_lt hb)) u, h.res.set_far (by show B ≠ b; omega) u, h.fb.setf hf u, h.tab.setf h1 h2 u, h.hB, h.hg, h.hA, h.hf⟩
theorem DF.cap (h : DF g A n w B bf F vg vm wk) (c : Int) : DF g A n w B bf { F with cap := c } vg vm (wk.setCell ⟨bf, 0, none⟩ (.int .i64 c)) :=
  ⟨h.src.setf (B := B) (Nat.le_of_lt h.hf) h.hg h.hA _, only_setCell h.gr (.inr (by rw [h.hB]; exact Nat.le_of_lt h.hf)) _, h.res.set_far (by show B ≠ bf; have := h.hf; omega) _, (h.fb.setc 0 _).cast rfl, h.tab.setf (h.tab.1.neBlk h.fb (by decide)) (h.tab.2.neBlk h.fb (by decide)) _, h.hB, h.hg, h.hA, h.hf⟩
theorem DF.addG (h : DF g A n w B bf F vg vm wk) {n' : Nat} {f' : Nat → Nat → Int} {v' : Value} (hO : OwnT 114 w' B v' n' f') (hG : wk.grownBy w' vg.ownBlock) : DF g A n w B bf { F with n1 := n', f1 := f' } v' vm (w'.setCell ⟨bf, 1, none⟩ v') := by
  have hlt := World.ownsRow.lt h.tab.1
  have hne := h.tab.1.neBlk h.fb (by decide)
  have hf := h.fb.grownR hG hne
  have hm := h.tab.2.grown hG (fun k e e2 => (h.tab.1.ne h.tab.2 (by decide) e2) e)
  have hr := h.res.grownR hG (by obtain ⟨cs, hb, _⟩ := h.res; exact h.tab.1.neBlk hb (by decide))
  exact ⟨(h.src.own hG (fun i e => (hlt i e).1) h.hg h.hA).setf (B := B) (Nat.le_of_lt h.hf) h.hg h.hA _, only_setCell (only_own h.gr hG (fun i e => by rw [h.hB]; exact (hlt i e).1)) (.inr (by rw [h.hB]; exact Nat.le_of_lt h.hf)) _, hr.set_far (by show B ≠ bf; have := h.hf; omega) _, (hf.setc 1 _).cast rfl, ⟨OwnT.setf hO (hO.neBlk hf (by decide)) _, hm.setf (hm.neBlk hf (by decide)) _⟩, h.hB, h.hg, h.hA, h.hf⟩
theorem DF.addM (h : DF g A n w B bf F vg vm wk) {n' : Nat} {f' : Nat → Nat → Int} {v' : Value} (hO : OwnT 91 w' B v' n' f') (hG : wk.grownBy w' vm.ownBlock) : DF g A n w B bf { F with n2 := n', f2 := f' } vg v' (w'.setCell ⟨bf, 2, none⟩ v') := by
  have hlt := World.ownsRow.lt h.tab.2
  have hne := h.tab.2.neBlk h.fb (by decide)
  have hf := h.fb.grownR hG hne
  have hm := h.tab.1.grown hG (fun k e e2 => (h.tab.2.ne h.tab.1 (by decide) e2) e)
  have hr := h.res.grownR hG (by obtain ⟨cs, hb, _⟩ := h.res; exact h.tab.2.neBlk hb (by decide))
  exact ⟨(h.src.own hG (fun i e => (hlt i e).1) h.hg h.hA).setf (B := B) (Nat.le_of_lt h.hf) h.hg h.hA _, only_setCell (only_own h.gr hG (fun i e => by rw [h.hB]; exact (hlt i e).1)) (.inr (by rw [h.hB]; exact Nat.le_of_lt h.hf)) _, hr.set_far (by show B ≠ bf; have := h.hf; omega) _, (hf.setc 2 _).cast rfl, ⟨hm.setf (hm.neBlk hf (by decide)) _, OwnT.setf hO (hO.neBlk hf (by decide)) _⟩, h.hB, h.hg, h.hA, h.hf⟩
theorem DF.cells (h : DF g A n w B bf F vg vm wk) : wk.cell? ⟨bf, 0, none⟩ = some (.int .i64 F.cap) ∧ wk.cell? ⟨bf, 1, none⟩ = some vg ∧ wk.cell? ⟨bf, 2, none⟩ = some vm ∧ wk.frozen? ⟨bf, 0, none⟩ = false ∧ wk.frozen? ⟨bf, 1, none⟩ = false ∧ wk.frozen? ⟨bf, 2, none⟩ = false := ⟨(h.fb.cell 0).trans rfl, (h.fb.cell 1).trans rfl, (h.fb.cell 2).trans rfl, h.fb.frozen 0, h.fb.frozen 1, h.fb.frozen 2⟩
end
/-- A row on its way, besides. -/
structure DX (g : Nat) (A : Option Addr) (n : Nat) (w : World) (B bf : Nat) (F : Fm) (vg vm : Value) (bx : Nat) (t : TypeId) (a b c d : Int) (wk : World) : Prop where
  df : DF g A n w B bf F vg vm wk
  x : Blk wk 0 bx #[.int .i64 a, .int .i64 b, .int .i64 c, .int .i64 d] t
  ng : vg.ownBlock ≠ some bx
  nm : vm.ownBlock ≠ some bx
  nf : bf ≠ bx
  hx : B < bx
section
variable {g n B bf bx : Nat} {A : Option Addr} {w wk w' : World} {F : Fm} {vg vm : Value} {t : TypeId} {a b c d : Int}
theorem DX.new (h : DF g A n w B bf F vg vm wk) (t : TypeId) (a b c d : Int) : DX g A n w B bf F vg vm wk.heap.size t a b c d (wk.alloc (.cells #[.int .i64 a, .int .i64 b, .int .i64 c, .int .i64 d] t)) :=
  ⟨h.alloc _, Blk.new (Nat.zero_le _) _ _, fun e => by have := (World.ownsRow.lt h.tab.1 _ e).2; omega, fun e => by have := (World.ownsRow.lt h.tab.2 _ e).2; omega, Nat.ne_of_lt h.fb.lt, by have := h.fb.lt; have := h.hf; omega⟩
theorem DX.drawn (h : DX g A n w B bf F vg vm bx t a b c d wk) (hS : Src w' g A n) (hG : wk.grownBy w' (some g)) : DX g A n w B bf F vg vm bx t a b c d w' :=
  ⟨h.df.drawn hS hG, h.x.grown hG (by have := h.df.hg; have := h.hx; omega), h.ng, h.nm, h.nf, h.hx⟩
theorem DX.keep (h : DX g A n w B bf F vg vm bx t a b c d wk) (hb : Below wk.heap.size wk w') : DX g A n w B bf F vg vm bx t a b c d w' := h.drawn (h.df.src.keep hb) (only_below hb _)
theorem DX.set1 (h : DX g A n w B bf F vg vm bx t a b c d wk) (u : Int) : DX g A n w B bf F vg vm bx t a u c d (wk.setCell ⟨bx, 1, none⟩ (.int .i64 u)) :=
  ⟨h.df.put 1 h.hx h.nf h.ng h.nm _, (h.x.setc 1 _).cast rfl, h.ng, h.nm, h.nf, h.hx⟩
theorem DX.set2 (h : DX g A n w B bf F vg vm bx t a b c d wk) (u : Int) : DX g A n w B bf F vg vm bx t a b u d (wk.setCell ⟨bx, 2, none⟩ (.int .i64 u)) :=
  ⟨h.df.put 2 h.hx h.nf h.ng h.nm _, (h.x.setc 2 _).cast rfl, h.ng, h.nm, h.nf, h.hx⟩
end
theorem OwnT.some {t : TypeId} {w : World} {B n : Nat} {v : Value} {f : Nat → Nat → Int} (h : OwnT t w B v n f) (h0 : 0 < n) : ∃ g c, v = .slice (some ⟨g, 0, none⟩) n c ∧ n ≤ c := by
  rcases h.form with ⟨-, rfl⟩ | ⟨g, c, cur, rfl, -, -, -, h1, -⟩
  · exact absurd h0 (Nat.lt_irrefl _)
  · exact ⟨g, c, rfl, h1⟩
theorem setRow_only (w : World) (b : Nat) (r : Array Value) : w.grownBy (w.setRow b r) (some b) :=
  ⟨rfl, rfl, rfl, by simp, fun k hk hne => setRow_other w b k r (by simpa using hne)⟩
theorem DF.done {g n B bf : Nat} {A : Option Addr} {w wk : World} {F : Fm} {vg vm : Value} (h : DF g A n w B bf F vg vm wk) (r : Array Value) : FarmV (wk.setRow B r) w.heap.size F vg vm ∧ Src (wk.setRow B r) g A n ∧ w.grownBy (wk.setRow B r) (some g) := by
  obtain ⟨cs, hb, _⟩ := h.res
  refine ⟨by rw [h.hB]; exact h.tab.farRow (h.tab.1.neBlk hb (by decide)) (h.tab.2.neBlk hb (by decide)) r, h.src.own (setRow_only _ _ _) (B := B) (fun i e => by cases e; exact Nat.le_refl _) h.hg h.hA, only_own h.gr (setRow_only _ _ _) (fun i e => by cases e; rw [h.hB]; exact Nat.le_refl _)⟩
/-- What a drawn farm is. -/
def DrF (g : Nat) (A : Option Addr) (n : Nat) (w : World) (e : Ending) (w' : World) : Prop :=
  ∃ (F : Fm) (vg vm : Value), F.n1 ≤ 41 ∧ F.n2 ≤ 91 ∧ e = .returned (.agg #[.int .i64 F.cap, vg, vm]) ∧ FarmV w' w.heap.size F vg vm ∧ Src w' g A n ∧ w.grownBy w' (some g)
set_option maxHeartbeats 8000000 in
theorem s_l05Farm (g : Nat) (A : Option Addr) (n : Nat) (w : World) (h : Src w g A n) : Calls Try.prog 68 #[.pointer (some ⟨g, 0, none⟩)] w (DrF g A n w) := by
  have hu := Try.underlying34
  have H := Lib.hid (h.keep ((Below.refl _ w).alloc (Nat.le_refl _) (.cells #[.int .i64 0, .slice none 0 0, .slice none 0 0] 34)))
  have HW := Lib.hid h
  clear h
  go_enter Try.func68, Try.ntmps68
  go_upto_region 1 with fail
  go_cut [3] (fun v3 wc => ∃ (wx : World) (c : Int) (bf : Nat), wx = wc ∧ v3 = .pointer (some ⟨bf, 0, none⟩) ∧ Hid (DF g A n w w.heap.size bf ⟨c, 0, fun _ _ => 0, 0, fun _ _ => 0⟩ (.slice none 0 0) (.slice none 0 0) wx))
  case first =>
    as_aux_lemma =>
      go_wp2_with fail
      refine (s_n _ _ _ _ _ H.out (by omega)).mono ?_
      rintro e w1 ⟨r, rfl, r0, r1, r2, hS, hG⟩
      have S1 := Lib.hid (show DF g A n w w.heap.size w1.heap.size ⟨r, 0, fun _ _ => 0, 0, fun _ _ => 0⟩ (.slice none 0 0) (.slice none 0 0) (w1.alloc (.cells #[.int .i64 r, .slice none 0 0, .slice none 0 0] 34)) from
        ⟨hS.keep ((Below.refl _ w1).alloc (Nat.le_refl _) _), only_alloc (only_trans (only_alloc (World.grownBy.refl w _) _) hG) _, ((Room.new (Nat.le_refl _) rfl).grownD hG (by have := HW.out.lt'; omega)).keep ((Below.refl _ w1).alloc (Nat.le_refl _) _), Blk.new (by have := hG.size; simp at this; omega) _ _, ⟨OwnT.nil _ _ _ _, OwnT.nil _ _ _ _⟩, rfl, HW.out.lt', HW.out.blocks, by have := hG.size; simp at this; omega⟩)
      clear hS hG H r0 r1 r2
      go_wp2_with fail
      go_meet
      exact ⟨_, _, _, rfl, rfl, S1⟩
  case rest =>
  obtain ⟨w2, c, bf, rfl, rfl, S1⟩ := hcut
  generalize hBB : w.heap.size = B at *
  rename_i hK; refine hK _ _ ?_; clear hK; go_step
  go_cut [] (fun wc => ∃ (wx : World) (c : Int), wx = wc ∧ Hid (DF g A n w B bf ⟨c, 0, fun _ _ => 0, 0, fun _ _ => 0⟩ (.slice none 0 0) (.slice none 0 0) wx))
  case first =>
    as_aux_lemma =>
      go_wp2_with fail
      refine (s_one _ _ _ _ _ S1.out.src (by omega)).mono ?_; rintro e w3 ⟨q, rfl, hS, hG⟩
      have S3 := Lib.hid (S1.out.drawn hS hG)
      clear hS hG S1
      obtain ⟨z0, -, -, z3, -, -⟩ := S3.out.cells
      cases q
      · go_wp2_with fail
        go_meet
        exact ⟨_, _, rfl, S3⟩
      · go_wp2_with fail
        refine (s_l02WantOf _ _ _ _ S3.out.src).mono ?_
        rintro e w4 ⟨q, rfl, q0, q1, hS, hG⟩
        have S4 := Lib.hid (S3.out.drawn hS hG)
        clear hS hG S3 z0 z3
        obtain ⟨z0, -, -, z3, -, -⟩ := S4.out.cells
        go_wp2_with fail
        go_meet
        exact ⟨_, _, rfl, Lib.hid (S4.out.cap q)⟩
  case rest =>
  obtain ⟨w3, c', rfl, S2⟩ := hcut
  clear S1
  rename_i hK; refine hK _ _ ?_; clear hK; go_step
  go_cut [4] (fun v4 wc => ∃ (wx : World) (nn : Nat), wx = wc ∧ v4 = .int .i64 nn ∧ nn ≤ 40 ∧ Hid (DF g A n w B bf ⟨c', 0, fun _ _ => 0, 0, fun _ _ => 0⟩ (.slice none 0 0) (.slice none 0 0) wx))
  case first =>
    as_aux_lemma =>
      go_wp2_with fail
      refine (s_n _ _ _ _ _ S2.out.src (by omega)).mono ?_; rintro e w4 ⟨r, rfl, r0, r1, r2, hS, hG⟩
      have S3 := Lib.hid (S2.out.drawn hS hG)
      clear hS hG S2
      go_wp2_with fail
      go_meet
      exact ⟨_, r.toNat, rfl, congrArg (Value.int .i64) (by omega), by have := r1 (by omega); omega, S3⟩
  case rest =>
  obtain ⟨w4, nn, rfl, rfl, hnn, S3⟩ := hcut
  clear S2
  rename_i hK; refine hK _ _ ?_; clear hK; go_step
  go_cut [4] (fun v4 wc => ∃ (wx : World) (nn : Nat), wx = wc ∧ v4 = .int .i64 nn ∧ nn ≤ 40 ∧ Hid (DF g A n w B bf ⟨c', 0, fun _ _ => 0, 0, fun _ _ => 0⟩ (.slice none 0 0) (.slice none 0 0) wx))
  case first =>
    as_aux_lemma =>
      go_wp2_with fail
      refine (s_one _ _ _ _ _ S3.out.src (by omega)).mono ?_; rintro e w5 ⟨q, rfl, hS, hG⟩
      have S4 := Lib.hid (S3.out.drawn hS hG)
      clear hS hG S3
      cases q
      · go_wp2_with fail
        go_meet
        exact ⟨_, _, rfl, rfl, hnn, S4⟩
      · go_wp2_with fail
        refine (s_n _ _ _ _ _ S4.out.src (by omega)).mono ?_; rintro e w6 ⟨r, rfl, r0, r1, r2, hS, hG⟩
        have S5 := Lib.hid (S4.out.drawn hS hG)
        have r1' := r1 (by omega)
        clear hS hG S4 r1 r2
        go_wp2_with fail
        go_meet
        exact ⟨_, (29 + r).toNat, rfl, congrArg (Value.int .i64) (by omega), by omega, S5⟩
  case rest =>
  obtain ⟨w5, nn, rfl, rfl, hnn, S4⟩ := hcut
  clear S3
  rename_i hK; refine hK _ _ ?_; clear hK; go_step
  go_cut [5] (fun v5 wc => ∃ (wx : World), wx = wc ∧ v5 = .int .i64 0 ∧ Hid (DF g A n w B bf ⟨c', 0, fun _ _ => 0, 0, fun _ _ => 0⟩ (.slice none 0 0) (.slice none 0 0) wx))
  case first =>
    as_aux_lemma =>
      go_wp2_with fail
      go_meet
      exact ⟨_, rfl, rfl, S4⟩
  case rest =>
  obtain ⟨w6, rfl, rfl, S5⟩ := hcut
  clear S4
  rename_i hK; refine hK _ _ ?_; clear hK; go_step
  go_cut [5] (fun v5 wc => ∃ (wx : World) (x : Int) (f1 : Nat → Nat → Int) (vg : Value), wx = wc ∧ v5 = .int .i64 x ∧ Hid (DF g A n w B bf ⟨c', nn, f1, 0, fun _ _ => 0⟩ vg (.slice none 0 0) wx))
  case first =>
    as_aux_lemma =>
      go_wp2_with fail
      go_loopw [5, 6] (fun v5 v6 wr => ∃ (i : Nat) (x : Int) (f1 : Nat → Nat → Int) (vg : Value), i ≤ nn ∧ v5 = .int .i64 x ∧ v6 = .int .i64 i ∧ Hid (DF g A n w B bf ⟨c', i, f1, 0, fun _ _ => 0⟩ vg (.slice none 0 0) wr)) (fun _ v6 _ => nn - (intOf v6).toNat)
      case atStart => exact ⟨0, 0, _, _, by omega, rfl, rfl, S5⟩
      case round =>
        obtain ⟨i, x, f1, vg, hi, rfl, rfl, T0⟩ := hrel
        clear S5
        by_cases hlt : i < nn
        · have b1 : decide ((i : Int) < nn) = true := decide_eq_true (by omega)
          go_wp2_with fail
          refine (s_n _ _ _ _ _ T0.out.src (by omega)).mono ?_; rintro e w7 ⟨r, rfl, r0, r1, r2, hS, hG⟩
          have T1 := Lib.hid (T0.out.drawn hS hG)
          clear hS hG T0 r1 r2
          go_upto_region 12 with fail
          go_cut [7] (fun v7 wc => ∃ (wx : World) (bx : Nat) (a c d : Int), wx = wc ∧ v7 = .pointer (some ⟨bx, 0, none⟩) ∧ Hid (DX g A n w B bf ⟨c', i, f1, 0, fun _ _ => 0⟩ vg (.slice none 0 0) bx 114 a 0 c d wx))
          case first =>
            as_aux_lemma =>
              go_wp2_with fail
              refine (s_n _ _ _ _ _ T1.out.src (by omega)).mono ?_; rintro e w8 ⟨q, rfl, q0, q1, q2, hS, hG⟩
              have T2 := Lib.hid (T1.out.drawn hS hG)
              clear hS hG T1 q1 q2
              go_wp2_with fail
              refine (s_n _ _ _ _ _ T2.out.src (by omega)).mono ?_; rintro e w9 ⟨k, rfl, k0, k1, k2, hS, hG⟩
              have T3 := Lib.hid (T2.out.drawn hS hG)
              clear hS hG T2 k1 k2
              go_wp2_with fail
              go_meet
              exact ⟨_, _, _, _, _, rfl, rfl, Lib.hid (DX.new T3.out _ _ _ _ _)⟩
          case rest =>
          obtain ⟨w8, bx, a, c, d, rfl, rfl, X1⟩ := hcut
          clear T1
          rename_i hK; refine hK _ _ ?_; clear hK; go_step
          go_cut [] (fun wc => ∃ (wx : World) (b : Int), wx = wc ∧ Hid (DX g A n w B bf ⟨c', i, f1, 0, fun _ _ => 0⟩ vg (.slice none 0 0) bx 114 a b c d wx))
          case first =>
            as_aux_lemma =>
              rcases Nat.eq_zero_or_pos i with h0 | h0
              · have b2 : decide ((i : Int) > 0) = false := decide_eq_false (by omega)
                go_wp2_with fail
                go_meet
                exact ⟨_, _, rfl, X1⟩
              · have b2 : decide ((i : Int) > 0) = true := decide_eq_true (by omega)
                go_wp2_with fail
                refine (s_one _ _ _ _ _ X1.out.df.src (by omega)).mono ?_
                rintro e w10 ⟨q, rfl, hS, hG⟩
                have X2 := Lib.hid (X1.out.drawn hS hG)
                clear hS hG X1
                cases q
                · go_wp2_with fail
                  go_meet
                  exact ⟨_, _, rfl, X2⟩
                · go_upto_region 14 with fail
                  obtain ⟨tg, c1, e1, hc1⟩ := X2.out.df.tab.1.some h0
                  subst e1
                  refine wp_region_fin (fun w' => w'.cell? ⟨bf, 1, none⟩ = some (.slice (some ⟨tg, 0, none⟩) i c1) ∧ DX g A n w B bf ⟨c', i, f1, 0, fun _ _ => 0⟩ (.slice (some ⟨tg, 0, none⟩) i c1) (.slice none 0 0) bx 114 a 0 c d w') 9 (by kernel_rfl) ⟨(X2.out.df.fb.cell 1).trans rfl, X2.out.keep (Below.refl _ _).drew⟩ (fun hHeld => ?_)
                  (refine wpFin_take (i := 0) (v := ?_) (by kernel_rfl) rfl (by decide) (by kernel_rfl) (by kernel_rfl) (by kernel_rfl) (fun _ _ _ h => h) (Or.inl ⟨by rfl, ?_⟩) (by assumption) ?_); rotate_left 1; (focus (intro w hSw; (try dsimp only at hSw); go_simp; first | done | with_reducible rfl)); (try simp only [Act.put, List.setIfInBounds_toArray, List.set_cons_zero, List.set_cons_succ])
                  (refine wpFin_take (i := 1) (v := ?_) (by kernel_rfl) rfl (by decide) (by kernel_rfl) (by kernel_rfl) (by kernel_rfl) (fun _ _ _ h => h) (Or.inl ⟨by rfl, ?_⟩) (by assumption) ?_); rotate_left 1; (focus (intro w hSw; (try dsimp only at hSw); go_simp; first | done | with_reducible rfl)); (try simp only [Act.put, List.setIfInBounds_toArray, List.set_cons_zero, List.set_cons_succ])
                  (refine wpFin_take (i := 2) (v := ?_) (by kernel_rfl) rfl (by decide) (by kernel_rfl) (by kernel_rfl) (by kernel_rfl) (fun _ _ _ h => h) (Or.inl ⟨by rfl, ?_⟩) (by assumption) ?_); rotate_left 1; (focus (intro w hSw; (try dsimp only at hSw); go_simp; first | done | with_reducible rfl)); (try simp only [Act.put, List.setIfInBounds_toArray, List.set_cons_zero, List.set_cons_succ])
                  (refine wpFin_take (i := 3) (v := ?_) (by kernel_rfl) rfl (by decide) (by kernel_rfl) (by kernel_rfl) (by kernel_rfl) (fun _ _ _ h => h) (Or.inl ⟨by rfl, ?_⟩) (by assumption) ?_); rotate_left 1; (focus (intro w hSw; (try dsimp only at hSw); go_simp; first | done | with_reducible rfl)); (try simp only [Act.put, List.setIfInBounds_toArray, List.set_cons_zero, List.set_cons_succ])
                  refine wpFin_one (i := 4) (by kernel_rfl) rfl (fun K hK => ?_)
                  go_simp
                  go_at_call 110
                  refine (s_n _ _ _ _ _ hHeld.2.df.src (by omega)).mono ?_
                  rintro e w11 ⟨q, rfl, q0, q1, q2, hS, hG⟩
                  have X3 := Lib.hid (hHeld.2.drawn hS hG)
                  obtain ⟨k, rfl⟩ : ∃ k : Nat, q = k := ⟨q.toNat, by omega⟩
                  have hk : k < i := by
                    rcases Nat.lt_or_ge 1 i with h | h
                    · have := q1 (by omega); omega
                    · have := q2 (by omega); omega
                  have hc : w11.cell? ⟨tg, k * 4, none⟩ = some (.int .i64 (f1 k 0)) := X3.out.df.tab.1.cell (i := k) (j := 0) hk (by omega)
                  have hv := (X3.out.x.cell 1).trans rfl
                  have hf := X3.out.x.frozen 1
                  clear hS hG q0 q1 q2 hHeld X2
                  go_wp2_with fail
                  refine hK.out _ _ (fun _ => ⟨(X3.out.df.fb.cell 1).trans rfl, X3.out⟩) (fun hS => ?_)
                  clear hK K hS
                  (try simp only [Act.put, List.setIfInBounds_toArray, List.set_cons_zero, List.set_cons_succ])
                  refine wpFin_one (i := 5) (by kernel_rfl) rfl (fun K hK => ?_)
                  go_simp
                  refine hK.out _ _ (fun _ => ⟨(X3.out.df.fb.cell 1).trans rfl, X3.out⟩) (fun hS => ?_)
                  clear hK K hS
                  (try simp only [Act.put, List.setIfInBounds_toArray, List.set_cons_zero, List.set_cons_succ])
                  refine wpFin_one (i := 6) (by kernel_rfl) rfl (fun K hK => ?_)
                  go_simp
                  refine hK.out _ _ (fun _ => ⟨(X3.out.df.fb.cell 1).trans rfl, X3.out⟩) (fun hS => ?_)
                  clear hK K hS
                  (try simp only [Act.put, List.setIfInBounds_toArray, List.set_cons_zero, List.set_cons_succ])
                  refine wpFin_one (i := 7) (by kernel_rfl) rfl (fun K hK => ?_)
                  go_simp
                  refine hK.out _ _ (fun _ => ⟨(X3.out.df.fb.cell 1).trans rfl, X3.out⟩) (fun hS => ?_)
                  clear hK K hS
                  (try simp only [Act.put, List.setIfInBounds_toArray, List.set_cons_zero, List.set_cons_succ])
                  refine wpFin_one (i := 8) (by kernel_rfl) rfl (fun K hK => ?_)
                  go_simp
                  refine hK.out _ _ (fun _ => ⟨(X3.out.df.fb.cell 1).trans rfl, X3.out⟩) (fun hS => ?_)
                  clear hK K hS
                  (try simp only [Act.put, List.setIfInBounds_toArray, List.set_cons_zero, List.set_cons_succ])
                  refine wpFin_one (i := 9) (by kernel_rfl) rfl (fun K hK => ?_)
                  go_simp
                  refine hK.out _ _ (fun h => absurd rfl h) (fun hS => ?_)
                  clear hK K hS
                  (try simp only [Act.put, List.setIfInBounds_toArray, List.set_cons_zero, List.set_cons_succ])
                  refine wpFin_done (by kernel_rfl) ?_ _
                  go_wp2_with fail
                  go_meet
                  exact ⟨_, _, rfl, Lib.hid (X3.out.set1 (f1 k 0))⟩
          case rest =>
          obtain ⟨w9, b, rfl, X2⟩ := hcut
          clear X1
          rename_i hK; refine hK _ _ ?_; clear hK; go_step
          go_cut [] (fun wc => ∃ (wx : World) (c : Int), wx = wc ∧ Hid (DX g A n w B bf ⟨c', i, f1, 0, fun _ _ => 0⟩ vg (.slice none 0 0) bx 114 a b c d wx))
          case first =>
            as_aux_lemma =>
              go_wp2_with fail
              refine (s_one _ _ _ _ _ X2.out.df.src (by omega)).mono ?_
              rintro e w10 ⟨q, rfl, hS, hG⟩
              have X3 := Lib.hid (X2.out.drawn hS hG)
              clear hS hG X2
              cases q
              · go_wp2_with fail
                go_meet
                exact ⟨_, _, rfl, X3⟩
              · go_wp2_with fail
                refine (s_l02WantOf _ _ _ _ X3.out.df.src).mono ?_
                rintro e w11 ⟨q, rfl, q0, q1, hS, hG⟩
                have X4 := Lib.hid (X3.out.drawn hS hG)
                clear hS hG X3
                have z0 := (X4.out.x.cell 2).trans rfl
                have z1 := X4.out.x.frozen 2
                go_wp2_with fail
                go_meet
                exact ⟨_, _, rfl, Lib.hid (X4.out.set2 q)⟩
          case rest =>
          obtain ⟨w10, c2, rfl, X3⟩ := hcut
          clear X2
          rename_i hK; refine hK _ _ ?_; clear hK; go_step
          have z1 := (X3.out.df.fb.cell 1).trans rfl
          have z2 := X3.out.df.fb.frozen 1
          have X5 := Lib.hid (X3.out.df.alloc (.cells #[.int .i64 a, .int .i64 b, .int .i64 c2, .int .i64 d] 114))
          have HT := Lib.hid (show Tab 4 (w10.alloc (.cells #[.int .i64 a, .int .i64 b, .int .i64 c2, .int .i64 d] 114)) (some ⟨w10.heap.size, 0, none⟩) 1 (fun _ => r4 a b c2 d) from tab_new 114 w10 (r4 a b c2 d))
          go_wp2_with (first
            | ((with_reducible refine at_load (ty := 114) (x := .tmp 7) ?_); refine wpl_load_row rfl 114 (.tmp 7) rfl bx rfl X3.out.x rfl (by kernel_rfl) Try.underlying114 rfl ?_)
            | (at_builtin; refine wpl_append_t ttG rfl _ _ rfl B vg i f1 rfl X5.out.tab.1 (some ⟨w10.heap.size, 0, none⟩) 1 (fun _ => r4 a b c2 d) 1 rfl HT.out (by omega) X5.out.size ?_; intro v' w12 hown hgrow; obtain ⟨A', cc, rfl, -, -⟩ := OwnT.tab hown; have y0 := ((X5.out.fb.grownR hgrow (X5.out.tab.1.neBlk X5.out.fb (by decide))).cell 1).trans rfl; have y1 := (X5.out.fb.grownR hgrow (X5.out.tab.1.neBlk X5.out.fb (by decide))).frozen 1)
            | fail)
          go_roundw
          case rel => exact ⟨i + 1, _, _, _, by omega, rfl, by go_num, Lib.hid (X5.out.addG hown hgrow)⟩
          case measure => simp [intOf]; omega
        · have b1 : decide ((i : Int) < nn) = false := decide_eq_false (by omega)
          obtain rfl : i = nn := by omega
          go_wp2_with fail
          go_meet
          exact ⟨_, _, _, _, rfl, rfl, T0⟩
  case rest =>
  obtain ⟨w7, x, f1, vg, rfl, rfl, S6⟩ := hcut
  clear S5
  rename_i hK; refine hK _ _ ?_; clear hK; go_step
  go_cut [8] (fun v8 wc => ∃ (wx : World) (mm : Nat), wx = wc ∧ v8 = .int .i64 mm ∧ mm ≤ 90 ∧ Hid (DF g A n w B bf ⟨c', nn, f1, 0, fun _ _ => 0⟩ vg (.slice none 0 0) wx))
  case first =>
    as_aux_lemma =>
      obtain ⟨cc, a, m, s, hSB, a0, a1, m0, m1, s0, s1⟩ := S6.out.src.ex
      have z0 := (hSB.cell 3).trans rfl
      clear hSB
      go_wp2_with fail
      refine (s_n _ _ _ _ _ S6.out.src (by omega)).mono ?_; rintro e w8 ⟨r, rfl, r0, r1, r2, hS, hG⟩
      have S7 := Lib.hid (S6.out.drawn hS hG)
      clear hS hG S6 z0
      go_wp2_with fail
      go_meet
      exact ⟨_, r.toNat, rfl, congrArg (Value.int .i64) (by omega), by have := r1 (by omega); omega, S7⟩
  case rest =>
  obtain ⟨w8, mm, rfl, rfl, hmm, S7⟩ := hcut
  clear S6
  rename_i hK; refine hK _ _ ?_; clear hK; go_step
  go_cut [8] (fun v8 wc => ∃ (wx : World) (mm : Nat), wx = wc ∧ v8 = .int .i64 mm ∧ mm ≤ 90 ∧ Hid (DF g A n w B bf ⟨c', nn, f1, 0, fun _ _ => 0⟩ vg (.slice none 0 0) wx))
  case first =>
    as_aux_lemma =>
      go_wp2_with fail
      refine (s_one _ _ _ _ _ S7.out.src (by omega)).mono ?_; rintro e w9 ⟨q, rfl, hS, hG⟩
      have S8 := Lib.hid (S7.out.drawn hS hG)
      clear hS hG S7
      cases q
      · go_wp2_with fail
        go_meet
        exact ⟨_, _, rfl, rfl, hmm, S8⟩
      · go_wp2_with fail
        refine (s_n _ _ _ _ _ S8.out.src (by omega)).mono ?_; rintro e w10 ⟨r, rfl, r0, r1, r2, hS, hG⟩
        have S9 := Lib.hid (S8.out.drawn hS hG)
        have r1' := r1 (by omega)
        clear hS hG S8 r1 r2
        go_wp2_with fail
        go_meet
        exact ⟨_, (59 + r).toNat, rfl, congrArg (Value.int .i64) (by omega), by omega, S9⟩
  case rest =>
  obtain ⟨w9, mm, rfl, rfl, hmm, S8⟩ := hcut
  clear S7
  rename_i hK; refine hK _ _ ?_; clear hK; go_step
  go_cut [5] (fun v5 wc => ∃ (wx : World), wx = wc ∧ v5 = .int .i64 0 ∧ Hid (DF g A n w B bf ⟨c', nn, f1, 0, fun _ _ => 0⟩ vg (.slice none 0 0) wx))
  case first =>
    as_aux_lemma =>
      go_wp2_with fail
      go_meet
      exact ⟨_, rfl, rfl, S8⟩
  case rest =>
  obtain ⟨w10, rfl, rfl, S9⟩ := hcut
  clear S8
  rename_i hK; refine hK _ _ ?_; clear hK; go_step
  go_cut [5] (fun v5 wc => ∃ (wx : World) (x : Int) (f2 : Nat → Nat → Int) (vm : Value), wx = wc ∧ v5 = .int .i64 x ∧ Hid (DF g A n w B bf ⟨c', nn, f1, mm, f2⟩ vg vm wx))
  case first =>
    as_aux_lemma =>
      go_wp2_with fail
      go_loopw [5, 8] (fun v5 v8 wr => ∃ (i k : Nat) (x : Int) (f2 : Nat → Nat → Int) (vm : Value), i + k = mm ∧ v5 = .int .i64 x ∧ v8 = .int .i64 k ∧ Hid (DF g A n w B bf ⟨c', nn, f1, i, f2⟩ vg vm wr)) (fun _ v8 _ => (intOf v8).toNat)
      case atStart => exact ⟨0, mm, 0, _, _, by omega, rfl, rfl, S9⟩
      case round =>
        obtain ⟨i, k, x, f2, vm, hi, rfl, rfl, T0⟩ := hrel
        clear S9
        by_cases hlt : k > 0
        · have b1 : decide ((k : Int) > 0) = true := decide_eq_true (by omega)
          go_wp2_with fail
          refine (s_n _ _ _ _ _ T0.out.src (by omega)).mono ?_; rintro e w11 ⟨r, rfl, r0, r1, r2, hS, hG⟩
          have T1 := Lib.hid (T0.out.drawn hS hG)
          clear hS hG T0 r1 r2
          go_upto_region 25 with fail
          go_cut [9] (fun v9 wc => ∃ (wx : World) (bx : Nat) (a c d : Int), wx = wc ∧ v9 = .pointer (some ⟨bx, 0, none⟩) ∧ Hid (DX g A n w B bf ⟨c', nn, f1, i, f2⟩ vg vm bx 91 a 0 c d wx))
          case first =>
            as_aux_lemma =>
              go_wp2_with fail
              refine (s_l02WantOf _ _ _ _ T1.out.src).mono ?_
              rintro e w12 ⟨q, rfl, q0, q1, hS, hG⟩
              have T2 := Lib.hid (T1.out.drawn hS hG)
              clear hS hG T1
              go_wp2_with fail
              refine (s_l02WeightOf _ _ _ _ T2.out.src).mono ?_
              rintro e w13 ⟨q', rfl, q0', q1', hS, hG⟩
              have T3 := Lib.hid (T2.out.drawn hS hG)
              clear hS hG T2
              go_wp2_with fail
              go_meet
              exact ⟨_, _, _, _, _, rfl, rfl, Lib.hid (DX.new T3.out _ _ _ _ _)⟩
          case rest =>
          obtain ⟨w12, bx, a, c, d, rfl, rfl, X1⟩ := hcut
          clear T1
          rename_i hK; refine hK _ _ ?_; clear hK; go_step
          go_cut [] (fun wc => ∃ (wx : World) (b : Int), wx = wc ∧ Hid (DX g A n w B bf ⟨c', nn, f1, i, f2⟩ vg vm bx 91 a b c d wx))
          case first =>
            as_aux_lemma =>
              rcases Nat.eq_zero_or_pos nn with h0 | h0
              · have b2 : decide ((nn : Int) > 0) = false := decide_eq_false (by omega)
                go_wp2_with fail
                go_meet
                exact ⟨_, _, rfl, X1⟩
              · have b2 : decide ((nn : Int) > 0) = true := decide_eq_true (by omega)
                go_wp2_with fail
                refine (s_one _ _ _ _ _ X1.out.df.src (by omega)).mono ?_
                rintro e w13 ⟨q, rfl, hS, hG⟩
                have X2 := Lib.hid (X1.out.drawn hS hG)
                clear hS hG X1
                cases q
                case true =>
                  go_wp2_with fail
                  go_meet
                  exact ⟨_, _, rfl, X2⟩
                case false =>
                  go_upto_region 27 with fail
                  obtain ⟨tg, c1, e1, hc1⟩ := X2.out.df.tab.1.some h0
                  subst e1
                  refine wp_region_fin (fun w' => w'.cell? ⟨bf, 1, none⟩ = some (.slice (some ⟨tg, 0, none⟩) nn c1) ∧ DX g A n w B bf ⟨c', nn, f1, i, f2⟩ (.slice (some ⟨tg, 0, none⟩) nn c1) vm bx 91 a 0 c d w') 9 (by kernel_rfl) ⟨(X2.out.df.fb.cell 1).trans rfl, X2.out.keep (Below.refl _ _).drew⟩ (fun hHeld => ?_)
                  (refine wpFin_take (i := 0) (v := ?_) (by kernel_rfl) rfl (by decide) (by kernel_rfl) (by kernel_rfl) (by kernel_rfl) (fun _ _ _ h => h) (Or.inl ⟨by rfl, ?_⟩) (by assumption) ?_); rotate_left 1; (focus (intro w hSw; (try dsimp only at hSw); go_simp; first | done | with_reducible rfl)); (try simp only [Act.put, List.setIfInBounds_toArray, List.set_cons_zero, List.set_cons_succ])
                  (refine wpFin_take (i := 1) (v := ?_) (by kernel_rfl) rfl (by decide) (by kernel_rfl) (by kernel_rfl) (by kernel_rfl) (fun _ _ _ h => h) (Or.inl ⟨by rfl, ?_⟩) (by assumption) ?_); rotate_left 1; (focus (intro w hSw; (try dsimp only at hSw); go_simp; first | done | with_reducible rfl)); (try simp only [Act.put, List.setIfInBounds_toArray, List.set_cons_zero, List.set_cons_succ])
                  (refine wpFin_take (i := 2) (v := ?_) (by kernel_rfl) rfl (by decide) (by kernel_rfl) (by kernel_rfl) (by kernel_rfl) (fun _ _ _ h => h) (Or.inl ⟨by rfl, ?_⟩) (by assumption) ?_); rotate_left 1; (focus (intro w hSw; (try dsimp only at hSw); go_simp; first | done | with_reducible rfl)); (try simp only [Act.put, List.setIfInBounds_toArray, List.set_cons_zero, List.set_cons_succ])
                  (refine wpFin_take (i := 3) (v := ?_) (by kernel_rfl) rfl (by decide) (by kernel_rfl) (by kernel_rfl) (by kernel_rfl) (fun _ _ _ h => h) (Or.inl ⟨by rfl, ?_⟩) (by assumption) ?_); rotate_left 1; (focus (intro w hSw; (try dsimp only at hSw); go_simp; first | done | with_reducible rfl)); (try simp only [Act.put, List.setIfInBounds_toArray, List.set_cons_zero, List.set_cons_succ])
                  refine wpFin_one (i := 4) (by kernel_rfl) rfl (fun K hK => ?_)
                  go_simp
                  go_at_call 110
                  refine (s_n _ _ _ _ _ hHeld.2.df.src (by omega)).mono ?_
                  rintro e w14 ⟨q, rfl, q0, q1, q2, hS, hG⟩
                  have X3 := Lib.hid (hHeld.2.drawn hS hG)
                  obtain ⟨p, rfl⟩ : ∃ p : Nat, q = p := ⟨q.toNat, by omega⟩
                  have hp : p < nn := by
                    rcases Nat.lt_or_ge 1 nn with h | h
                    · have := q1 (by omega); omega
                    · have := q2 (by omega); omega
                  have hc : w14.cell? ⟨tg, p * 4, none⟩ = some (.int .i64 (f1 p 0)) := X3.out.df.tab.1.cell (i := p) (j := 0) hp (by omega)
                  have hv := (X3.out.x.cell 1).trans rfl
                  have hf := X3.out.x.frozen 1
                  clear hS hG q0 q1 q2 hHeld X2
                  go_wp2_with fail
                  refine hK.out _ _ (fun _ => ⟨(X3.out.df.fb.cell 1).trans rfl, X3.out⟩) (fun hS => ?_)
                  clear hK K hS
                  (try simp only [Act.put, List.setIfInBounds_toArray, List.set_cons_zero, List.set_cons_succ])
                  refine wpFin_one (i := 5) (by kernel_rfl) rfl (fun K hK => ?_)
                  go_simp
                  refine hK.out _ _ (fun _ => ⟨(X3.out.df.fb.cell 1).trans rfl, X3.out⟩) (fun hS => ?_)
                  clear hK K hS
                  (try simp only [Act.put, List.setIfInBounds_toArray, List.set_cons_zero, List.set_cons_succ])
                  refine wpFin_one (i := 6) (by kernel_rfl) rfl (fun K hK => ?_)
                  go_simp
                  refine hK.out _ _ (fun _ => ⟨(X3.out.df.fb.cell 1).trans rfl, X3.out⟩) (fun hS => ?_)
                  clear hK K hS
                  (try simp only [Act.put, List.setIfInBounds_toArray, List.set_cons_zero, List.set_cons_succ])
                  refine wpFin_one (i := 7) (by kernel_rfl) rfl (fun K hK => ?_)
                  go_simp
                  refine hK.out _ _ (fun _ => ⟨(X3.out.df.fb.cell 1).trans rfl, X3.out⟩) (fun hS => ?_)
                  clear hK K hS
                  (try simp only [Act.put, List.setIfInBounds_toArray, List.set_cons_zero, List.set_cons_succ])
                  refine wpFin_one (i := 8) (by kernel_rfl) rfl (fun K hK => ?_)
                  go_simp
                  refine hK.out _ _ (fun _ => ⟨(X3.out.df.fb.cell 1).trans rfl, X3.out⟩) (fun hS => ?_)
                  clear hK K hS
                  (try simp only [Act.put, List.setIfInBounds_toArray, List.set_cons_zero, List.set_cons_succ])
                  refine wpFin_one (i := 9) (by kernel_rfl) rfl (fun K hK => ?_)
                  go_simp
                  refine hK.out _ _ (fun h => absurd rfl h) (fun hS => ?_)
                  clear hK K hS
                  (try simp only [Act.put, List.setIfInBounds_toArray, List.set_cons_zero, List.set_cons_succ])
                  refine wpFin_done (by kernel_rfl) ?_ _
                  go_wp2_with fail
                  go_meet
                  exact ⟨_, _, rfl, Lib.hid (X3.out.set1 (f1 p 0))⟩
          case rest =>
          obtain ⟨w13, b, rfl, X3⟩ := hcut
          clear X1
          rename_i hK; refine hK _ _ ?_; clear hK; go_step
          have z1 := (X3.out.df.fb.cell 2).trans rfl
          have z2 := X3.out.df.fb.frozen 2
          have X5 := Lib.hid (X3.out.df.alloc (.cells #[.int .i64 a, .int .i64 b, .int .i64 c, .int .i64 d] 91))
          have HT := Lib.hid (show Tab 4 (w13.alloc (.cells #[.int .i64 a, .int .i64 b, .int .i64 c, .int .i64 d] 91)) (some ⟨w13.heap.size, 0, none⟩) 1 (fun _ => r4 a b c d) from tab_new 91 w13 (r4 a b c d))
          go_wp2_with (first
            | ((with_reducible refine at_load (ty := 91) (x := .tmp 9) ?_); refine wpl_load_row rfl 91 (.tmp 9) rfl bx rfl X3.out.x rfl (by kernel_rfl) Try.underlying91 rfl ?_)
            | (at_builtin; refine wpl_append_t ttM rfl _ _ rfl B vm i f2 rfl X5.out.tab.2 (some ⟨w13.heap.size, 0, none⟩) 1 (fun _ => r4 a b c d) 1 rfl HT.out (by omega) X5.out.size ?_; intro v' w14 hown hgrow; obtain ⟨A', cc, rfl, -, -⟩ := OwnT.tab hown; have y0 := ((X5.out.fb.grownR hgrow (X5.out.tab.2.neBlk X5.out.fb (by decide))).cell 2).trans rfl; have y1 := (X5.out.fb.grownR hgrow (X5.out.tab.2.neBlk X5.out.fb (by decide))).frozen 2)
            | fail)
          go_roundw
          case rel => exact ⟨i + 1, k - 1, _, _, _, by omega, rfl, congrArg (Value.int .i64) (by omega), Lib.hid (X5.out.addM hown hgrow)⟩
          case measure => simp [intOf]; omega
        · have b1 : decide ((k : Int) > 0) = false := decide_eq_false (by omega)
          obtain rfl : i = mm := by omega
          go_wp2_with fail
          go_meet
          exact ⟨_, _, _, _, rfl, rfl, T0⟩
  case rest =>
  obtain ⟨w11, x, f2, vm, rfl, rfl, T0⟩ := hcut
  clear S9
  rename_i hK; refine hK _ _ ?_; clear hK; go_step
  go_cut [] (fun wc => ∃ (wx : World) (F : Fm) (vg vm : Value), wx = wc ∧ F.n1 ≤ 41 ∧ F.n2 ≤ 91 ∧ Hid (DF g A n w B bf F vg vm wx))
  case first =>
    as_aux_lemma =>
      go_wp2_with fail
      refine (s_one _ _ _ _ _ T0.out.src (by omega)).mono ?_; rintro e w12 ⟨q, rfl, hS, hG⟩
      have T1 := Lib.hid (T0.out.drawn hS hG)
      clear hS hG T0
      cases q
      · go_wp2_with fail
        go_meet
        exact ⟨_, _, _, _, rfl, by show nn ≤ 41; omega, by show mm ≤ 91; omega, T1⟩
      go_wp2_with fail
      refine (s_n _ _ _ _ _ T1.out.src (by omega)).mono ?_; rintro e w13 ⟨r, rfl, r0, r1, r2, hS, hG⟩
      have T2 := Lib.hid (T1.out.drawn hS hG)
      clear hS hG T1 r1 r2
      have hr : r = 0 ∨ r = 1 ∨ r = 2 ∨ r = 3 ∨ r = 4 ∨ (r ≠ 0 ∧ r ≠ 1 ∧ r ≠ 2 ∧ r ≠ 3 ∧ r ≠ 4) := by omega
      rcases hr with rfl | rfl | rfl | rfl | rfl | ⟨k0, k1, k2, k3, k4⟩
      · as_aux_lemma =>
          have T3 := Lib.hid (T2.out.alloc (.cells #[.int .i64 (-1), .int .i64 1125899906842624, .int .i64 1125899906842625] 2))
          have HN := Lib.hid (show ∀ k, k < 3 → ∃ q, (#[Value.int .i64 (-1), .int .i64 1125899906842624, .int .i64 1125899906842625])[k]? = some (.int .i64 q) from fun k hk => by
            match k, hk with
            | 0, _ => exact ⟨_, rfl⟩
            | 1, _ => exact ⟨_, rfl⟩
            | 2, _ => exact ⟨_, rfl⟩)
          have HL := Lib.hid (Blk.new (w := w13) (B := B) T2.out.size #[.int .i64 (-1), .int .i64 1125899906842624, .int .i64 1125899906842625] 2)
          go_wp2_with fail
          refine (s_n _ _ _ _ _ T3.out.src (by omega)).mono ?_
          rintro e w14 ⟨q, rfl, q0, q1, q2, hS, hG⟩
          obtain ⟨p, rfl⟩ : ∃ p : Nat, q = p := ⟨q.toNat, by omega⟩
          have hp : p < 3 := by have := q1 (by omega); omega
          obtain ⟨v, hv⟩ := HN.out p hp
          have hc := ((HL.out.grown hG (by have := T2.out.size; have := T2.out.hg; omega)).cell p).trans hv
          have T4 := Lib.hid (T3.out.drawn hS hG)
          have z0 := (T4.out.fb.cell 0).trans rfl
          have z1 := T4.out.fb.frozen 0
          clear hS hG hv q0 q1 q2 T3 T2
          go_wp2_with fail
          go_meet
          exact ⟨_, _, _, _, rfl, by show nn ≤ 41; omega, by show mm ≤ 91; omega, Lib.hid (T4.out.cap v)⟩
      · as_aux_lemma =>
          have z0 := (T2.out.fb.cell 1).trans rfl
          have X5 := Lib.hid (T2.out.alloc (.cells #[.int .i64 x, .int .i64 x, .int .i64 0, .int .i64 1] 114))
          have HT := Lib.hid (show Tab 4 (w13.alloc (.cells #[.int .i64 x, .int .i64 x, .int .i64 0, .int .i64 1] 114)) (some ⟨w13.heap.size, 0, none⟩) 1 (fun _ => r4 x x 0 1) from tab_new 114 w13 (r4 x x 0 1))
          go_wp2_with (first
            | (at_builtin; refine wpl_append_t ttG rfl _ _ rfl B vg nn f1 rfl X5.out.tab.1 (some ⟨w13.heap.size, 0, none⟩) 1 (fun _ => r4 x x 0 1) 1 rfl HT.out (by omega) X5.out.size ?_; intro v' w14 hown hgrow; obtain ⟨A', cc, rfl, -, -⟩ := OwnT.tab hown; have y0 := ((X5.out.fb.grownR hgrow (X5.out.tab.1.neBlk X5.out.fb (by decide))).cell 1).trans rfl; have y1 := (X5.out.fb.grownR hgrow (X5.out.tab.1.neBlk X5.out.fb (by decide))).frozen 1)
            | fail)
          go_meet
          exact ⟨_, _, _, _, rfl, by show nn + 1 ≤ 41; omega, by show mm ≤ 91; omega, Lib.hid (X5.out.addG hown hgrow)⟩
      · as_aux_lemma =>
          have z0 := (T2.out.fb.cell 2).trans rfl
          have X5 := Lib.hid (T2.out.alloc (.cells #[.int .i64 1, .int .i64 0, .int .i64 0, .int .i64 1] 91))
          have HT := Lib.hid (show Tab 4 (w13.alloc (.cells #[.int .i64 1, .int .i64 0, .int .i64 0, .int .i64 1] 91)) (some ⟨w13.heap.size, 0, none⟩) 1 (fun _ => r4 1 0 0 1) from tab_new 91 w13 (r4 1 0 0 1))
          go_wp2_with (first
            | (at_builtin; refine wpl_append_t ttM rfl _ _ rfl B vm mm f2 rfl X5.out.tab.2 (some ⟨w13.heap.size, 0, none⟩) 1 (fun _ => r4 1 0 0 1) 1 rfl HT.out (by omega) X5.out.size ?_; intro v' w14 hown hgrow; obtain ⟨A', cc, rfl, -, -⟩ := OwnT.tab hown; have y0 := ((X5.out.fb.grownR hgrow (X5.out.tab.2.neBlk X5.out.fb (by decide))).cell 2).trans rfl; have y1 := (X5.out.fb.grownR hgrow (X5.out.tab.2.neBlk X5.out.fb (by decide))).frozen 2)
            | fail)
          go_meet
          exact ⟨_, _, _, _, rfl, by show nn ≤ 41; omega, by show mm + 1 ≤ 91; omega, Lib.hid (X5.out.addM hown hgrow)⟩
      · as_aux_lemma =>
          go_upto_region 39 with fail
          refine wp_region_fin (fun w' => w'.cell? ⟨bf, 2, none⟩ = some vm) 9 (by kernel_rfl) ((T2.out.fb.cell 2).trans rfl) (fun hHeld => ?_)
          (refine wpFin_take (i := 0) (v := ?_) (by kernel_rfl) rfl (by decide) (by kernel_rfl) (by kernel_rfl) (by kernel_rfl) (fun _ _ _ h => h) (Or.inl ⟨by rfl, ?_⟩) (by assumption) ?_); rotate_left 1; (focus (intro w hSw; (try dsimp only at hSw); go_simp; first | done | with_reducible rfl)); (try simp only [Act.put, List.setIfInBounds_toArray, List.set_cons_zero, List.set_cons_succ])
          (refine wpFin_take (i := 1) (v := ?_) (by kernel_rfl) rfl (by decide) (by kernel_rfl) (by kernel_rfl) (by kernel_rfl) (fun _ _ _ h => h) (Or.inl ⟨by rfl, ?_⟩) (by assumption) ?_); rotate_left 1; (focus (intro w hSw; (try dsimp only at hSw); go_simp; first | done | with_reducible rfl)); (try simp only [Act.put, List.setIfInBounds_toArray, List.set_cons_zero, List.set_cons_succ])
          (refine wpFin_take (i := 2) (v := ?_) (by kernel_rfl) rfl (by decide) (by kernel_rfl) (by kernel_rfl) (by kernel_rfl) (fun _ _ _ h => h) (Or.inl ⟨by rfl, ?_⟩) (by assumption) ?_); rotate_left 1; (focus (intro w hSw; (try dsimp only at hSw); go_simp; first | done | with_reducible rfl)); (try simp only [Act.put, List.setIfInBounds_toArray, List.set_cons_zero, List.set_cons_succ])
          refine wpFin_one (i := 3) (by kernel_rfl) rfl (fun K hK => ?_)
          go_simp
          go_at_call 110
          refine (s_n _ _ _ _ _ (T2.out.keep (Below.refl _ _).drew).src (by omega)).mono ?_
          rintro e w14 ⟨q, rfl, q0, q1, q2, hS, hG⟩
          have T3 := Lib.hid ((T2.out.keep (Below.refl _ _).drew).drawn hS hG)
          clear hS hG hHeld T2
          go_wp2_with fail
          refine hK.out _ _ (fun _ => (T3.out.fb.cell 2).trans rfl) (fun hS => ?_)
          have hHeld := hS (by decide)
          clear hK K hS
          (try simp only [Act.put, List.setIfInBounds_toArray, List.set_cons_zero, List.set_cons_succ])
          (refine wpFin_take (i := 4) (v := ?_) (by kernel_rfl) rfl (by decide) (by kernel_rfl) (by kernel_rfl) (by kernel_rfl) (fun _ _ _ h => h) (Or.inl ⟨by rfl, ?_⟩) (by assumption) ?_); rotate_left 1; (focus (intro w hSw; (try dsimp only at hSw); go_simp; first | done | with_reducible rfl)); (try simp only [Act.put, List.setIfInBounds_toArray, List.set_cons_zero, List.set_cons_succ])
          (refine wpFin_take (i := 5) (v := ?_) (by kernel_rfl) rfl (by decide) (by kernel_rfl) (by kernel_rfl) (by kernel_rfl) (fun _ _ _ h => h) (Or.inl ⟨by rfl, ?_⟩) (by assumption) ?_); rotate_left 1; (focus (intro w hSw; (try dsimp only at hSw); go_simp; first | done | with_reducible rfl)); (try simp only [Act.put, List.setIfInBounds_toArray, List.set_cons_zero, List.set_cons_succ])
          refine wpFin_one (i := 6) (by kernel_rfl) rfl (fun K hK => ?_)
          go_simp
          have T5 := Lib.hid (T3.out.alloc (.cells #[.int .i64 (IntKind.i64.wrap (1000000 + q)), .int .i64 77, .int .i64 0, .int .i64 1] 91))
          have HT := Lib.hid (show Tab 4 (w14.alloc (.cells #[.int .i64 (IntKind.i64.wrap (1000000 + q)), .int .i64 77, .int .i64 0, .int .i64 1] 91)) (some ⟨w14.heap.size, 0, none⟩) 1 (fun _ => r4 (IntKind.i64.wrap (1000000 + q)) 77 0 1) from tab_new 91 w14 (r4 (IntKind.i64.wrap (1000000 + q)) 77 0 1))
          refine hK.out _ _ (fun _ => (T5.out.fb.cell 2).trans rfl) (fun hS => ?_)
          clear hK K hS hHeld
          (try simp only [Act.put, List.setIfInBounds_toArray, List.set_cons_zero, List.set_cons_succ])
          refine wpFin_one (i := 7) (by kernel_rfl) rfl (fun K hK => ?_)
          refine step_append_t ttM rfl _ _ rfl B vm mm f2 rfl T5.out.tab.2 (some ⟨w14.heap.size, 0, none⟩) 1 (fun _ => r4 (IntKind.i64.wrap (1000000 + q)) 77 0 1) 1 rfl HT.out (by omega) T5.out.size (fun v' w16 hown hgrow => ?_)
          obtain ⟨A', cc, rfl, -, -⟩ := OwnT.tab hown
          have y0 := ((T5.out.fb.grownR hgrow (T5.out.tab.2.neBlk T5.out.fb (by decide))).cell 2).trans rfl
          have y1 := (T5.out.fb.grownR hgrow (T5.out.tab.2.neBlk T5.out.fb (by decide))).frozen 2
          refine hK.out _ _ (fun _ => y0) (fun hS => ?_)
          clear hK K hS
          (try simp only [Act.put, List.setIfInBounds_toArray, List.set_cons_zero, List.set_cons_succ])
          refine wpFin_one (i := 8) (by kernel_rfl) rfl (fun K hK => ?_)
          go_simp
          refine hK.out _ _ (fun _ => y0) (fun hS => ?_)
          clear hK K hS
          (try simp only [Act.put, List.setIfInBounds_toArray, List.set_cons_zero, List.set_cons_succ])
          refine wpFin_one (i := 9) (by kernel_rfl) rfl (fun K hK => ?_)
          go_simp
          refine hK.out _ _ (fun h => absurd rfl h) (fun hS => ?_)
          clear hK K hS
          (try simp only [Act.put, List.setIfInBounds_toArray, List.set_cons_zero, List.set_cons_succ])
          refine wpFin_done (by kernel_rfl) ?_ _
          go_wp2_with fail
          go_meet
          exact ⟨_, _, _, _, rfl, by show nn ≤ 41; omega, by show mm + 1 ≤ 91; omega, Lib.hid (T5.out.addM hown hgrow)⟩
      · as_aux_lemma =>
          go_upto_region 41 with fail
          refine wp_region_fin (fun w' => w'.cell? ⟨bf, 1, none⟩ = some vg) 11 (by kernel_rfl) ((T2.out.fb.cell 1).trans rfl) (fun hHeld => ?_)
          (refine wpFin_take (i := 0) (v := ?_) (by kernel_rfl) rfl (by decide) (by kernel_rfl) (by kernel_rfl) (by kernel_rfl) (fun _ _ _ h => h) (Or.inl ⟨by rfl, ?_⟩) (by assumption) ?_); rotate_left 1; (focus (intro w hSw; (try dsimp only at hSw); go_simp; first | done | with_reducible rfl)); (try simp only [Act.put, List.setIfInBounds_toArray, List.set_cons_zero, List.set_cons_succ])
          (refine wpFin_take (i := 1) (v := ?_) (by kernel_rfl) rfl (by decide) (by kernel_rfl) (by kernel_rfl) (by kernel_rfl) (fun _ _ _ h => h) (Or.inl ⟨by rfl, ?_⟩) (by assumption) ?_); rotate_left 1; (focus (intro w hSw; (try dsimp only at hSw); go_simp; first | done | with_reducible rfl)); (try simp only [Act.put, List.setIfInBounds_toArray, List.set_cons_zero, List.set_cons_succ])
          (refine wpFin_take (i := 2) (v := ?_) (by kernel_rfl) rfl (by decide) (by kernel_rfl) (by kernel_rfl) (by kernel_rfl) (fun _ _ _ h => h) (Or.inl ⟨by rfl, ?_⟩) (by assumption) ?_); rotate_left 1; (focus (intro w hSw; (try dsimp only at hSw); go_simp; first | done | with_reducible rfl)); (try simp only [Act.put, List.setIfInBounds_toArray, List.set_cons_zero, List.set_cons_succ])
          (refine wpFin_take (i := 5) (v := ?_) (by kernel_rfl) rfl (by decide) (by kernel_rfl) (by kernel_rfl) (by kernel_rfl) (fun _ _ _ h => h) (Or.inl ⟨by rfl, ?_⟩) (by assumption) ?_); rotate_left 1; (focus (intro w hSw; (try dsimp only at hSw); go_simp; first | done | with_reducible rfl)); (try simp only [Act.put, List.setIfInBounds_toArray, List.set_cons_zero, List.set_cons_succ])
          refine wpFin_one (i := 3) (by kernel_rfl) rfl (fun K hK => ?_)
          go_simp
          go_at_call 110
          refine (s_n _ _ _ _ _ (T2.out.keep (Below.refl _ _).drew).src (by omega)).mono ?_
          rintro e w14 ⟨q, rfl, q0, q1, q2, hS, hG⟩
          have T3 := Lib.hid ((T2.out.keep (Below.refl _ _).drew).drawn hS hG)
          clear hS hG hHeld T2
          go_wp2_with fail
          refine hK.out _ _ (fun _ => (T3.out.fb.cell 1).trans rfl) (fun hS => ?_)
          have hHeld := hS (by decide)
          clear hK K hS
          (try simp only [Act.put, List.setIfInBounds_toArray, List.set_cons_zero, List.set_cons_succ])
          (refine wpFin_take (i := 4) (v := ?_) (by kernel_rfl) rfl (by decide) (by kernel_rfl) (by kernel_rfl) (by kernel_rfl) (fun _ _ _ h => h) (Or.inl ⟨by rfl, ?_⟩) (by assumption) ?_); rotate_left 1; (focus (intro w hSw; (try dsimp only at hSw); go_simp; first | done | with_reducible rfl)); (try simp only [Act.put, List.setIfInBounds_toArray, List.set_cons_zero, List.set_cons_succ])
          refine wpFin_one (i := 6) (by kernel_rfl) rfl (fun K hK => ?_)
          go_simp
          go_at_call 110
          refine (s_n _ _ _ _ _ T3.out.src (by omega)).mono ?_
          rintro e w15 ⟨q', rfl, q0', q1', q2', hS, hG⟩
          have T4 := Lib.hid (T3.out.drawn hS hG)
          clear hS hG hHeld T3
          go_wp2_with fail
          refine hK.out _ _ (fun _ => (T4.out.fb.cell 1).trans rfl) (fun hS => ?_)
          have hHeld := hS (by decide)
          clear hK K hS
          (try simp only [Act.put, List.setIfInBounds_toArray, List.set_cons_zero, List.set_cons_succ])
          (refine wpFin_take (i := 7) (v := ?_) (by kernel_rfl) rfl (by decide) (by kernel_rfl) (by kernel_rfl) (by kernel_rfl) (fun _ _ _ h => h) (Or.inl ⟨by rfl, ?_⟩) (by assumption) ?_); rotate_left 1; (focus (intro w hSw; (try dsimp only at hSw); go_simp; first | done | with_reducible rfl)); (try simp only [Act.put, List.setIfInBounds_toArray, List.set_cons_zero, List.set_cons_succ])
          refine wpFin_one (i := 8) (by kernel_rfl) rfl (fun K hK => ?_)
          go_simp
          have T5 := Lib.hid (T4.out.alloc (.cells #[.int .i64 (IntKind.i64.wrap (1000000 + q)), .int .i64 0, .int .i64 0, .int .i64 q'] 114))
          have HT := Lib.hid (show Tab 4 (w15.alloc (.cells #[.int .i64 (IntKind.i64.wrap (1000000 + q)), .int .i64 0, .int .i64 0, .int .i64 q'] 114)) (some ⟨w15.heap.size, 0, none⟩) 1 (fun _ => r4 (IntKind.i64.wrap (1000000 + q)) 0 0 q') from tab_new 114 w15 (r4 (IntKind.i64.wrap (1000000 + q)) 0 0 q'))
          refine hK.out _ _ (fun _ => (T5.out.fb.cell 1).trans rfl) (fun hS => ?_)
          clear hK K hS hHeld
          (try simp only [Act.put, List.setIfInBounds_toArray, List.set_cons_zero, List.set_cons_succ])
          refine wpFin_one (i := 9) (by kernel_rfl) rfl (fun K hK => ?_)
          refine step_append_t ttG rfl _ _ rfl B vg nn f1 rfl T5.out.tab.1 (some ⟨w15.heap.size, 0, none⟩) 1 (fun _ => r4 (IntKind.i64.wrap (1000000 + q)) 0 0 q') 1 rfl HT.out (by omega) T5.out.size (fun v' w16 hown hgrow => ?_)
          obtain ⟨A', cc, rfl, -, -⟩ := OwnT.tab hown
          have y0 := ((T5.out.fb.grownR hgrow (T5.out.tab.1.neBlk T5.out.fb (by decide))).cell 1).trans rfl
          have y1 := (T5.out.fb.grownR hgrow (T5.out.tab.1.neBlk T5.out.fb (by decide))).frozen 1
          refine hK.out _ _ (fun _ => y0) (fun hS => ?_)
          clear hK K hS
          (try simp only [Act.put, List.setIfInBounds_toArray, List.set_cons_zero, List.set_cons_succ])
          refine wpFin_one (i := 10) (by kernel_rfl) rfl (fun K hK => ?_)
          go_simp
          refine hK.out _ _ (fun _ => y0) (fun hS => ?_)
          clear hK K hS
          (try simp only [Act.put, List.setIfInBounds_toArray, List.set_cons_zero, List.set_cons_succ])
          refine wpFin_one (i := 11) (by kernel_rfl) rfl (fun K hK => ?_)
          go_simp
          refine hK.out _ _ (fun h => absurd rfl h) (fun hS => ?_)
          clear hK K hS
          (try simp only [Act.put, List.setIfInBounds_toArray, List.set_cons_zero, List.set_cons_succ])
          refine wpFin_done (by kernel_rfl) ?_ _
          go_wp2_with fail
          go_meet
          exact ⟨_, _, _, _, rfl, by show nn + 1 ≤ 41; omega, by show mm ≤ 91; omega, Lib.hid (T5.out.addG hown hgrow)⟩
      · as_aux_lemma =>
          have b0 : (r == 0) = false := beq_eq_false_iff_ne.mpr k0
          have b1 : (r == 1) = false := beq_eq_false_iff_ne.mpr k1
          have b2 : (r == 2) = false := beq_eq_false_iff_ne.mpr k2
          have b3 : (r == 3) = false := beq_eq_false_iff_ne.mpr k3
          have b4 : (r == 4) = false := beq_eq_false_iff_ne.mpr k4
          clear k0 k1 k2 k3 k4
          have z0 := (T2.out.fb.cell 2).trans rfl
          have X5 := Lib.hid (T2.out.alloc (.cells #[.int .i64 1000000, .int .i64 0, .int .i64 (-1), .int .i64 1] 91))
          have HT := Lib.hid (show Tab 4 (w13.alloc (.cells #[.int .i64 1000000, .int .i64 0, .int .i64 (-1), .int .i64 1] 91)) (some ⟨w13.heap.size, 0, none⟩) 1 (fun _ => r4 1000000 0 (-1) 1) from tab_new 91 w13 (r4 1000000 0 (-1) 1))
          go_wp2_with (first
            | (at_builtin; refine wpl_append_t ttM rfl _ _ rfl B vm mm f2 rfl X5.out.tab.2 (some ⟨w13.heap.size, 0, none⟩) 1 (fun _ => r4 1000000 0 (-1) 1) 1 rfl HT.out (by omega) X5.out.size ?_; intro v' w14 hown hgrow; obtain ⟨A', cc, rfl, -, -⟩ := OwnT.tab hown; have y0 := ((X5.out.fb.grownR hgrow (X5.out.tab.2.neBlk X5.out.fb (by decide))).cell 2).trans rfl; have y1 := (X5.out.fb.grownR hgrow (X5.out.tab.2.neBlk X5.out.fb (by decide))).frozen 2)
            | fail)
          go_meet
          exact ⟨_, _, _, _, rfl, by show nn ≤ 41; omega, by show mm + 1 ≤ 91; omega, Lib.hid (X5.out.addM hown hgrow)⟩
  case rest =>
  obtain ⟨w12, F, vg, vm, rfl, hF1, hF2, T1⟩ := hcut
  clear T0
  rename_i hK; refine hK _ _ ?_; clear hK; go_step
  obtain ⟨A1, c1, A2, c2, rfl, rfl, -, -⟩ := T1.out.tab.caps
  go_wp2_with (first
    | ((with_reducible refine at_load (ty := 34) (x := .tmp 3) ?_); refine wpl_load_row rfl 34 (.tmp 3) rfl bf rfl T1.out.fb rfl (by kernel_rfl) hu rfl ?_)
    | ((with_reducible refine at_store (ty := 34) (y := .tmp 177) ?_); refine wpl_store_row rfl 34 (.tmp 2) (.tmp 177) rfl B _ rfl rfl T1.out.res rfl (by kernel_rfl) (by simp [Value.oneCell']) ?_; intro hout)
    | fail)
  exact bodyPost_ret (v := .agg #[.int .i64 F.cap, .slice A1 F.n1 c1, .slice A2 F.n2 c2]) (results_cell_row rfl _ _ _ _ _ _ _ rfl hout.2 hu rfl (by kernel_rfl)) rfl ⟨F, _, _, hF1, hF2, rfl, (T1.out.done _).1, (T1.out.done _).2.1, (T1.out.done _).2.2⟩
end Go.Proofs.Ytipkbapnhgdpeaa.C
