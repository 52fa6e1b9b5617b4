/- A mark put into a window: what the program's put leaves. No condition. -/
import Derived.Test.YtddemmmbbleofaaWinM
import Derived.Deep.RegionLaw
namespace Go.Proofs.Ytddemmmbbleofaa.C
open Go.RowKit
set_option maxRecDepth 100000
set_option linter.unusedVariables false
set_option linter.unusedSimpArgs false
attribute [local go_sem ↓] Go.wp_at_zero Go.wp_at_succ
theorem step_append_k {P : Program} {ops : Array Oper} {o : Oper} {a : Act} {w : World} {K : Act → World → Prop} {Q : Exit → Act → World → Prop} {E : Prop}
    (hg : o.guard = none) (s x : Operand) (t : TypeId) (hop : o.op = Op.call { callee := Callee.builtin Builtin.append, args := #[s, x], argTypes := #[t, t] })
    (base : Nat) (e : TypeId) (i : TypeInfo) (z : Value) (size bytes : Nat) (h1 : P.underlying t = some (.slice e)) (h2 : P.info? e = some i) (h3 : i.zero = some z) (h4 : i.size = size) (h5 : i.bytes = bytes) (h6 : z.cells.size = size) (h7 : 0 < size)
    (v : Value) (n : Nat) (xs : List Value) (hs : a.eval s = v) (hown : w.ownsRow base e size v n xs)
    (ad : Addr) (m c : Nat) (news : List Value) (hx : a.eval x = .slice (some ad) m c) (hl : news.length = m * size) (hnews : ∀ j u, news[j]? = some u → w.cell? (ad.add j) = some u) (h1c : ∀ u ∈ news, u.oneCell' = true)
    (b1 : n + m ≤ maxLen) (b2 : (n + m) * bytes ≤ 140737488355328) (hbase : base ≤ w.heap.size)
    (hK : ∀ v' w', w'.ownsRow base e size v' (n + m) (xs ++ news) → w.grownBy w' v.ownBlock → K (a.put o.dst v') w') :
    if Region.wanted o (yielded ops a.tmps) = true then Oper.wp P o a w K Q else E := by
  have hw : Region.wanted o (yielded ops a.tmps) = true := by simp [Region.wanted, hg]
  rw [if_pos hw]
  exact wp_append_own w s x t hop base e i z size bytes h1 h2 h3 h4 h5 h6 h7 v n xs hs hown ad m c news hx hl hnews h1c b1 b2 hbase fun v' w' p1 p2 _ => hK v' w' p1 p2
theorem owns_form_k {w : World} {B e sz : Nat} {v : Value} {n : Nat} {xs : List Value} (h : w.ownsRow B e sz v n xs) : ∃ A cap, v = .slice A n cap := by
  obtain ⟨hl, ⟨rfl, h0⟩ | ⟨g, cap, cur, rfl, _⟩⟩ := h
  · exact ⟨_, _, by rw [h0]⟩
  · exact ⟨_, _, rfl⟩
theorem row_new_k (w : World) (cs : List Value) (t : Nat) : ∀ j u, cs[j]? = some u → (w.alloc (.cells cs.toArray t)).cell? ((⟨w.heap.size, 0, none⟩ : Addr).add j) = some u := by
  intro j u hj
  rw [Addr.add_lit]
  exact (cell_of_row _ _ _ _ _ _ (heap_alloc_new w _)).trans (by simpa using hj)
theorem OwnK.base {w : World} {B C : Nat} {v : Value} {ms : List Mk} (h : OwnK w B v ms) (hC : C ≤ B) : OwnK w C v ms := by
  obtain ⟨hl, h⟩ := h
  refine ⟨hl, ?_⟩
  rcases h with h | ⟨g, cap, cur, e, hb, h⟩
  · exact .inl h
  · exact .inr ⟨g, cap, cur, e, Nat.le_trans hC hb, h⟩
theorem below_own_k {B : Nat} {w a b : World} {row : Option Nat} (h : Below B w a) (k : a.grownBy b row) (hw : B ≤ w.heap.size) (hr : ∀ i, row = some i → B ≤ i) : Below B w b :=
  ⟨k.os.trans h.os, k.tape.trans h.tape, k.output.trans h.output, Nat.le_trans h.size k.size, fun i hi => (k.block i (Nat.lt_of_lt_of_le hi (Nat.le_trans hw h.size)) (fun e => by have := hr i e.symm; omega)).trans (h.block i hi)⟩
theorem OwnK.mks2 {w : World} {B n c : Nat} {A : Option Addr} {ms : List Mk} (h : OwnK w B (.slice A n c) ms) : Mks w A ms := by
  obtain ⟨A', c', e, _, hm⟩ := h.mks
  cases e
  exact hm
theorem OwnK.len {w : World} {B n c : Nat} {A : Option Addr} {ms : List Mk} (h : OwnK w B (.slice A n c) ms) : n ≤ c := by
  obtain ⟨A', c', e, hl, _⟩ := h.mks
  cases e
  exact hl
def lenOf : Value → Nat
  | .slice _ n _ => n
  | _ => 0
theorem cut_step {all : List Mk} {k : Nat} {k2 : Int} (hk : k < all.length) (hp : (mat all k).2 ≤ k2) (hf : all.filter (fun x => decide (x.2 > k2)) = (all.take (k + 1)).filter (fun x => decide (x.2 > k2))) :
    all.filter (fun x => decide (x.2 > k2)) = (all.take k).filter (fun x => decide (x.2 > k2)) := by
  rw [hf, List.take_add_one, mat_of hk, List.filter_append]
  have : ¬ (mat all k).2 > k2 := by omega
  simp [this]
theorem pair_at {all : List Mk} {R : Mk → Mk → Prop} (h : all.Pairwise R) {i j : Nat} (hij : i < j) (hj : j < all.length) : R (mat all i) (mat all j) := by
  rw [mat_eq (by omega), mat_eq hj]
  exact List.pairwise_iff_getElem.1 h i j (by omega) hj hij
theorem cut_done {all : List Mk} {k : Nat} {k2 : Int} (hD : all.Pairwise (fun a b => a.2 > b.2)) (hk : k ≤ all.length) (hl : k = 0 ∨ (mat all (k - 1)).2 > k2) (hf : all.filter (fun x => decide (x.2 > k2)) = (all.take k).filter (fun x => decide (x.2 > k2))) :
    all.filter (fun x => decide (x.2 > k2)) = all.take k := by
  rw [hf]
  refine List.filter_eq_self.2 fun x hx => ?_
  obtain ⟨i, hi⟩ := List.mem_iff_getElem?.1 hx
  have hik : i < k := by have := (List.getElem?_eq_some_iff.1 hi).1; simp at this; omega
  have e : mat all i = x := by
    rw [List.getElem?_take_of_lt hik] at hi
    simp [mat, List.getD, hi]
  rcases hl with rfl | hl
  · omega
  · rcases Nat.lt_or_ge i (k - 1) with h | h
    · have := pair_at hD h (by omega)
      rw [e] at this
      exact decide_eq_true (by omega)
    · rw [show k - 1 = i by omega, e] at hl
      exact decide_eq_true (by omega)
theorem Mks.take {w : World} {A : Option Addr} {ms : List Mk} (h : Mks w A ms) (k : Nat) : Mks w A (ms.take k) := by
  rcases h with ⟨e, rfl⟩ | ⟨g, off, e, hg, hx⟩
  · exact .inl ⟨e, by simp⟩
  · refine .inr ⟨g, off, e, hg, fun i hi => ?_⟩
    have h1 : i < k ∧ i < ms.length := by simp at hi; omega
    have : mat (ms.take k) i = mat ms i := by unfold mat; simp [List.getD, List.getElem?_take_of_lt h1.1]
    rw [this]
    exact hx i h1.2
theorem Mks.tail {w : World} {g off c : Nat} {x : Mk} {L : List Mk} (h : Mks w (some ⟨g, off, none⟩) (x :: L)) (hc : L.length + 1 ≤ c) : Mks w (if c = 1 then some ⟨g, off, none⟩ else some ⟨g, off + 2, none⟩) L := by
  obtain ⟨g', off', e, hg, hx⟩ := h.at (i := 0) (by simp)
  cases e
  by_cases h1 : c = 1
  · rw [if_pos h1]
    have : L = [] := List.length_eq_zero_iff.1 (by omega)
    subst this
    exact .inr ⟨g, off, rfl, hg, fun i hi => by simp at hi⟩
  · rw [if_neg h1]
    refine .inr ⟨g, off + 2, rfl, hg, fun i hi => ?_⟩
    have := hx (i + 1) (by simpa using hi)
    rw [show off + (i + 1) * 2 = off + 2 + i * 2 by omega] at this
    exact this
theorem OwnK.setf {w : World} {B : Nat} {v : Value} {ms : List Mk} (h : OwnK w B v ms) {p : Addr} (hp : p.block < B) (u : Value) : OwnK (w.setCell p u) B v ms :=
  World.ownsRow.kept h (only_setCell (World.grownBy.refl w (some p.block)) (.inl rfl) u) (.inr fun e => by have := (World.ownsRow.lt h _ e).1; omega)
/-- The two boxes of put, the window's and the mark's, and the room for its result. -/
structure PB (b : Nat) (sp nw cp : Int) (v : Value) (m : Mk) (w0 w : World) : Prop where
  c0 : w.cell? ⟨b, 0, none⟩ = some (.int .i64 sp)
  c1 : w.cell? ⟨b, 1, none⟩ = some (.int .i64 nw)
  c2 : w.cell? ⟨b, 2, none⟩ = some (.int .i64 cp)
  c3 : w.cell? ⟨b, 3, none⟩ = some v
  d0 : w.cell? ⟨b + 1, 0, none⟩ = some (.int .i64 m.1)
  d1 : w.cell? ⟨b + 1, 1, none⟩ = some (.int .i64 m.2)
  bel : Below w0.heap.size w0 w
/-- What put leaves. -/
def putL (sp cp : Int) (m : Mk) (ms : List Mk) : List Mk := ((ms ++ [(m.1 - 1, cp)]).filter (fun x => decide (x.2 > m.2))).dropWhile (fun x => decide (x.1 ≤ m.1 - sp))
set_option maxHeartbeats 4000000 in
theorem c_put (A : Option Addr) (ms : List Mk) (c : Nat) (sp nw cp a2 k2 : Int) (w : World) (h : Mks w A ms) (hn : ms.length ≤ 199)
    (hd : ms.Pairwise (fun a b => a.2 > b.2)) (hc : ∀ x ∈ ms, x.2 > cp) (s0 : 0 ≤ sp) (s1 : sp ≤ 10000000) (m0 : -10000000 ≤ a2) (m1 : a2 ≤ 10000000) :
    Calls Try.prog 72 #[.agg #[.int .i64 sp, .int .i64 nw, .int .i64 cp, .slice A ms.length c], .agg #[.int .i64 a2, .int .i64 k2]] w
      fun e w' => ∃ v, e = .returned (.agg #[.int .i64 sp, .int .i64 a2, .int .i64 k2, v]) ∧ OwnK w' w.heap.size v (putL sp cp (a2, k2) ms) ∧ Below w.heap.size w w' := by
  have hu := Try.underlying56
  have hu3 := Try.underlying52
  obtain ⟨j0, hj, hy0, hy1, hy2⟩ := info_parts infoMark
  have HM := Lib.hid h
  clear h
  go_enter Try.func72, Try.ntmps72
  go_upto_region 1 with fail
  have B1 := Lib.hid (((((Blk.new (w := w) (B := 0) (Nat.zero_le _) #[.int .i64 sp, .int .i64 nw, .int .i64 cp, .slice A ms.length c] 56).keep ((Below.refl _ _).alloc (Nat.le_refl _) (.cells #[.int .i64 a2, .int .i64 k2] 59)))).keep ((Below.refl _ _).alloc (Nat.le_refl _) (.cells #[.int .i64 0, .int .i64 0, .int .i64 0, .slice none 0 0] 56))))
  have B2 := Lib.hid ((Blk.new (w := w.alloc (.cells #[.int .i64 sp, .int .i64 nw, .int .i64 cp, .slice A ms.length c] 56)) (B := 0) (Nat.zero_le _) #[.int .i64 a2, .int .i64 k2] 59).keep ((Below.refl _ _).alloc (Nat.le_refl _) (.cells #[.int .i64 0, .int .i64 0, .int .i64 0, .slice none 0 0] 56)))
  have B3 := Lib.hid (Blk.new (w := (w.alloc (.cells #[.int .i64 sp, .int .i64 nw, .int .i64 cp, .slice A ms.length c] 56)).alloc (.cells #[.int .i64 a2, .int .i64 k2] 59)) (B := 0) (Nat.zero_le _) #[.int .i64 0, .int .i64 0, .int .i64 0, .slice none 0 0] 56)
  have hb1 : Below w.heap.size w (((w.alloc (.cells #[.int .i64 sp, .int .i64 nw, .int .i64 cp, .slice A ms.length c] 56)).alloc (.cells #[.int .i64 a2, .int .i64 k2] 59)).alloc (.cells #[.int .i64 0, .int .i64 0, .int .i64 0, .slice none 0 0] 56)) := (((Below.refl _ w).alloc (Nat.le_refl _) _).alloc (by simp) _).alloc (by simp; omega) _
  have hz1 : (((w.alloc (.cells #[.int .i64 sp, .int .i64 nw, .int .i64 cp, .slice A ms.length c] 56)).alloc (.cells #[.int .i64 a2, .int .i64 k2] 59)).alloc (.cells #[.int .i64 0, .int .i64 0, .int .i64 0, .slice none 0 0] 56)).heap.size = w.heap.size + 1 + 1 + 1 := by simp
  simp only [World.size_alloc] at B2 B3
  generalize hw1 : (((w.alloc (.cells #[.int .i64 sp, .int .i64 nw, .int .i64 cp, .slice A ms.length c] 56)).alloc (.cells #[.int .i64 a2, .int .i64 k2] 59)).alloc (.cells #[.int .i64 0, .int .i64 0, .int .i64 0, .slice none 0 0] 56)) = w1 at *
  clear hw1
  have HM1 := Lib.hid (HM.out.keep hb1)
  have HB1 := Lib.hid hb1
  have T1 : Hid (∀ w', Below w1.heap.size w1 w' → PB w.heap.size sp nw cp (.slice A ms.length c) (a2, k2) w1 w') := Lib.hid fun w' hb => ⟨((B1.out.keep hb).cell 0).trans rfl, ((B1.out.keep hb).cell 1).trans rfl, ((B1.out.keep hb).cell 2).trans rfl, ((B1.out.keep hb).cell 3).trans rfl, ((B2.out.keep hb).cell 0).trans rfl, ((B2.out.keep hb).cell 1).trans rfl, hb⟩
  have HZ := Lib.hid hz1
  clear hb1 HM hz1
  generalize hb : w.heap.size = b at *
  go_cut [5] (fun v5 wc => ∃ (wx : World) (A5 : Option Addr) (c5 : Nat), wx = wc ∧ v5 = .slice A5 (ms.length + 1) c5 ∧ ms.length + 1 ≤ c5 ∧ Hid (Mks wx A5 (ms ++ [(a2 - 1, cp)])) ∧ Hid (Below w1.heap.size w1 wx))
  case first =>
    obtain ⟨c0, c1, c2, c3, d0, d1, hbel⟩ := T1.out w1 (Below.refl _ _)
    have hwr : IntKind.i64.wrap (a2 - 1) = a2 - 1 := by rw [IntKind.wrap_i64]; omega
    have e2 : ∀ u ∈ mrow (a2 - 1, cp), u.oneCell' = true := by simp [mrow, Value.oneCell']
    have e3 : ms.length + 1 ≤ maxLen := by unfold maxLen; omega
    have e4 : (ms.length + 1) * 16 ≤ 140737488355328 := by omega
    have N1 : Hid (∀ wc w', wc.heap[w1.heap.size]? = some (.cells (mrow (a2 - 1, cp)).toArray 59 (0, 0)) → Below wc.heap.size wc w' → ∀ j u, (mrow (a2 - 1, cp))[j]? = some u → w'.cell? ((⟨w1.heap.size, 0, none⟩ : Addr).add j) = some u) := Lib.hid fun wc w' hc hb j u hj => by
      rw [Addr.add_lit]
      have hk : Blk wc 0 w1.heap.size (mrow (a2 - 1, cp)).toArray 59 := ⟨Nat.zero_le _, hc⟩
      exact ((hk.keep hb).cell (0 + j)).trans (by simpa using hj)
    have q3 := (T1.out (w1.alloc (.cells #[.int .i64 (a2 - 1), .int .i64 cp] 59)) ((Below.refl _ _).alloc (Nat.le_refl _) _)).c3
    go_region_law (first
      | (go_simp; go_at_call 95; refine (c_Clone A ms c _ (HM1.out.keep (by (repeat (first | exact Below.refl _ _ | (with_reducible refine Below.drew ?_) | (with_reducible refine Below.alloc ?_ (by first | (simp; done) | (simp; omega)) _))))) (by omega)).mono ?_; rintro e w' ⟨v8, rfl, hown, hb8⟩; obtain ⟨A8, cap8, rfl⟩ := owns_form_k hown; have hB := Below.trans (c := w') (show Below w1.heap.size w1 _ by (repeat (first | exact Below.refl _ _ | (with_reducible refine Below.drew ?_) | (with_reducible refine Below.alloc ?_ (by first | (simp; done) | (simp; omega)) _)))) (hb8.mono (by first | exact Nat.le_refl _ | (simp; done) | (simp; omega))); obtain ⟨c0, c1, c2, c3, d0, d1, hbel⟩ := T1.out w' hB; have hO : Hid (OwnK w' w1.heap.size _ ms) := Lib.hid (hown.base (by first | exact Nat.le_refl _ | (simp; done) | (simp; omega))); have hN := Lib.hid hb8; clear hown hb8 hB; have hsz := hbel.size; have hbel := Lib.hid hbel)
      | (refine step_append_k rfl (.tmp 8) (.tmp 15) 52 rfl w1.heap.size 59 j0 (.agg #[.int .i64 0, .int .i64 0]) 2 16 hu3 hj hy0 hy1 hy2 rfl (by decide) _ _ _ rfl (by first | exact hO.out | exact World.ownsRow.alloc hO.out _) ⟨_, 0, none⟩ 1 1 (mrow (a2 - 1, cp)) rfl rfl (by first | exact row_new_k _ _ _ | exact N1.out _ _ (Go.heap_alloc_new _ _) hN.out | exact N1.out _ _ (Go.heap_alloc_new w1.drew _) hN.out | fail) e2 e3 e4 (by first | exact hsz | (simp; omega)) ?_; intro v9 w9 hown9 hgrow9; have hb9 : Hid (Below w1.heap.size w1 w9) := Lib.hid (below_own_k (by first | exact hbel.out | exact hbel.out.alloc (by first | exact hsz | (simp; omega)) _) hgrow9 (Nat.le_refl _) (fun b e => (World.ownsRow.lt hO.out b e).1)); have ho9 := Lib.hid (OwnK.add (m := (a2 - 1, cp)) hown9); clear hown9 hgrow9)
      | fail)
    all_goals (go_wp2_with fail; go_meet)
    all_goals (obtain ⟨A9, c9, e9⟩ := owns_form_k ho9.out; subst e9; exact ⟨_, A9, c9, rfl, by simp, by simpa using OwnK.len ho9.out, Lib.hid (OwnK.mks2 ho9.out), hb9⟩)
  case rest =>
    obtain ⟨w5, A5, c5, rfl, rfl, hc5, HM5, HB5⟩ := hcut
    obtain ⟨c0, c1, c2, c3, d0, d1, -⟩ := T1.out w5 HB5.out
    obtain ⟨all, hall⟩ : ∃ all, ms ++ [(a2 - 1, cp)] = all := ⟨_, rfl⟩
    have hL : ms.length + 1 = all.length := by rw [← hall]; simp
    have hD : all.Pairwise (fun a b => a.2 > b.2) := by
      rw [← hall]
      exact List.pairwise_append.2 ⟨hd, by simp, fun x hx y hy => by simp at hy; subst hy; exact hc x hx⟩
    have HP : Hid (putL sp cp (a2, k2) ms = (all.filter (fun x => decide (x.2 > k2))).dropWhile (fun x => decide (x.1 ≤ a2 - sp))) := Lib.hid (by unfold putL; rw [hall])
    rw [hall] at HM5
    rw [hL] at hc5 ⊢
    have hL2 : all.length ≤ 200 := by omega
    have HD := Lib.hid hD
    clear hd hc hL hall hD HM1
    rename_i hK
    refine hK _ _ ?_
    clear hK
    go_step
    go_cut [5] (fun v5 wc => ∃ (wx : World) (k : Nat), wx = wc ∧ k ≤ all.length ∧ v5 = .slice A5 k c5 ∧ Hid (all.filter (fun x => decide (x.2 > k2)) = all.take k) ∧ Hid (Below w5.heap.size w5 wx))
    case first =>
      go_step
      go_loopw [5] (fun v5 wr => ∃ k : Nat, k ≤ all.length ∧ v5 = .slice A5 k c5 ∧ Hid (all.filter (fun x => decide (x.2 > k2)) = (all.take k).filter (fun x => decide (x.2 > k2))) ∧ Hid (Below w5.heap.size w5 wr)) (fun v5 _ => lenOf v5)
      case atStart => exact ⟨all.length, Nat.le_refl _, rfl, Lib.hid (by rw [List.take_length]), Lib.hid (Below.refl _ _)⟩
      case round =>
        obtain ⟨k, hk, rfl, HF, KB⟩ := hrel
        clear c0 c1 c2 c3 d0 d1
        have hB6 := HB5.out.trans (KB.out.mono HB5.out.size)
        obtain ⟨c0, c1, c2, c3, d0, d1, -⟩ := T1.out wr hB6
        have HB6 := Lib.hid hB6
        clear hB6
        cases k with
        | zero =>
          go_step
          go_step
          go_step
          go_quiet (fail)
          go_wp2_with fail
          go_meet
          exact ⟨_, 0, rfl, by omega, rfl, Lib.hid (cut_done HD.out (by omega) (.inl rfl) HF.out), Lib.hid (below_drewN KB.out _)⟩
        | succ k =>
          obtain ⟨g, off, rfl, hg, hx⟩ := (HM5.out.keep KB.out).at (i := k) (by omega)
          have x1 := (hx k (by omega)).2
          generalize hp : (mat all k).2 = p at *
          clear hx
          have b1 : decide (((k + 1 : Nat) : Int) > 0) = true := decide_eq_true (by omega)
          rcases b2 : decide (p ≤ k2) with _ | _
          · go_step
            go_step
            go_step
            go_quiet (fail)
            go_wp2_with fail
            go_meet
            exact ⟨_, k + 1, rfl, by omega, rfl, Lib.hid (cut_done HD.out (by omega) (.inr (by rw [show k + 1 - 1 = k from rfl, hp]; have := of_decide_eq_false b2; omega)) HF.out), Lib.hid (below_drewN KB.out _)⟩
          · have b3 : ((k + 1 : Nat) : Int) - 1 ≤ (c5 : Int) := by omega
            go_step
            go_step
            go_step
            go_quiet (fail)
            go_wp2_with fail
            go_roundw
            case rel => exact ⟨k, by omega, by go_num, Lib.hid (cut_step (by omega) (by rw [hp]; exact of_decide_eq_true b2) HF.out), Lib.hid (below_drewN KB.out _)⟩
            case measure => simp [lenOf]
    case rest =>
      obtain ⟨w6, k, rfl, hk, rfl, HF, HB⟩ := hcut
      clear c0 c1 c2 c3 d0 d1
      have HB6 := Lib.hid (HB5.out.trans (HB.out.mono HB5.out.size))
      have HM6 := Lib.hid ((HM5.out.keep HB.out).take k)
      have hlen : (all.take k).length = k := by simp; omega
      rw [HF.out] at HP
      generalize hF : all.take k = F at *
      rw [← hlen]
      have hF2 : F.length ≤ 200 := by omega
      have hkc : F.length ≤ c5 := by omega
      clear HM5 HB5 HB HF hF hlen HD
      rename_i hK
      refine hK _ _ ?_
      clear hK
      go_step
      go_cut [5] (fun v5 wc => ∃ (wx : World) (A6 : Option Addr) (c6 : Nat), wx = wc ∧ v5 = .slice A6 (putL sp cp (a2, k2) ms).length c6 ∧ Hid (Mks wx A6 (putL sp cp (a2, k2) ms)) ∧ (putL sp cp (a2, k2) ms).length ≤ 200 ∧ Hid (Below w6.heap.size w6 wx))
      case first =>
        go_step
        go_loopw [5] (fun v5 wr => ∃ (L : List Mk) (A6 : Option Addr) (c6 : Nat), L.length ≤ 200 ∧ L.length ≤ c6 ∧ v5 = .slice A6 L.length c6 ∧ Hid (Mks wr A6 L) ∧ Hid (F.dropWhile (fun x => decide (x.1 ≤ a2 - sp)) = L.dropWhile (fun x => decide (x.1 ≤ a2 - sp))) ∧ Hid (Below w6.heap.size w6 wr)) (fun v5 _ => lenOf v5)
        case atStart => exact ⟨F, A5, c5, hF2, hkc, rfl, HM6, Lib.hid rfl, Lib.hid (Below.refl _ _)⟩
        case round =>
          obtain ⟨L, A6, c6, hL1, hL2, rfl, KM, KF, KB⟩ := hrel
          have hB7 := HB6.out.trans (KB.out.mono HB6.out.size)
          obtain ⟨c0, c1, c2, c3, d0, d1, -⟩ := T1.out wr hB7
          clear hB7
          cases L with
          | nil =>
            simp only [List.length_nil] at *
            go_step
            go_step
            go_step
            go_quiet (fail)
            go_wp2_with fail
            go_meet
            have e : putL sp cp (a2, k2) ms = [] := HP.out.trans (KF.out.trans rfl)
            exact ⟨_, A6, c6, rfl, by rw [e]; rfl, by rw [e]; exact Lib.hid (KM.out.keep (below_drewN (Below.refl _ _) _)), by rw [e]; simp, Lib.hid (below_drewN KB.out _)⟩
          | cons x L =>
            obtain ⟨g, off, rfl, hg, hx⟩ := KM.out.at (i := 0) (by simp)
            have x0 := (hx 0 (by simp)).1
            have ex : mat (x :: L) 0 = x := rfl
            rw [ex, Nat.zero_mul, Nat.add_zero] at x0
            simp only [List.length_cons] at *
            have b1 : decide (((L.length + 1 : Nat) : Int) > 0) = true := decide_eq_true (by omega)
            have hw : IntKind.i64.wrap (a2 - sp) = a2 - sp := by rw [IntKind.wrap_i64]; omega
            rcases b2 : decide (x.1 ≤ a2 - sp) with _ | _
            · have b3 : decide (((L.length + 1 : Nat) : Int) > 200) = false := decide_eq_false (by omega)
              go_step
              go_step
              go_step
              go_quiet (fail)
              go_wp2_with fail
              go_meet
              have e : putL sp cp (a2, k2) ms = x :: L := HP.out.trans (KF.out.trans (List.dropWhile_cons_of_neg (by rw [b2]; decide)))
              exact ⟨_, some ⟨g, off, none⟩, c6, rfl, by rw [e]; rfl, by rw [e]; exact Lib.hid (KM.out.keep (below_drewN (Below.refl _ _) _)), by rw [e]; simp; omega, Lib.hid (below_drewN KB.out _)⟩
            · go_step
              go_step
              go_step
              go_quiet (fail)
              go_wp2_with fail
              go_roundw
              case rel => exact ⟨L, _, c6 - 1, by omega, by omega, rfl, Lib.hid ((KM.out.tail hL2).keep (below_drewN (Below.refl _ _) _)), Lib.hid (KF.out.trans (List.dropWhile_cons_of_pos (by rw [b2]))), Lib.hid (below_drewN KB.out _)⟩
              case measure => simp [lenOf]
      case rest =>
        obtain ⟨w7, A6, c6, rfl, rfl, KM, hl2, KB⟩ := hcut
        have hB7 := HB6.out.trans (KB.out.mono HB6.out.size)
        obtain ⟨c0, c1, c2, c3, d0, d1, -⟩ := T1.out w7 hB7
        have HB7 := Lib.hid hB7
        clear hB7 HM6 HP hF2 hkc hc5
        rename_i hK
        refine hK _ _ ?_
        clear hK
        generalize hL : putL sp cp (a2, k2) ms = L at *
        have hz7 : w1.heap.size ≤ w7.heap.size := HB7.out.size
        have HZ7 := Lib.hid hz7
        clear hz7
        go_step
        go_region_law (first
          | (go_simp; go_at_call 95; refine (c_Clone A6 L c6 _ (KM.out.keep (by (repeat (first | exact Below.refl _ _ | (with_reducible refine Below.drew ?_) | (with_reducible refine Below.alloc ?_ (by first | (simp; done) | (simp; omega)) _))))) (by omega)).mono ?_; rintro e w' ⟨v8, rfl, hown, hb8⟩; obtain ⟨A8, cap8, rfl⟩ := owns_form_k hown; have hB := btrans (show Below w7.heap.size w7 _ by (repeat (first | exact Below.refl _ _ | (with_reducible refine Below.drew ?_) | (with_reducible refine Below.alloc ?_ (by first | (simp; done) | (simp; omega)) _)))) hb8; have hBB := HB7.out.trans (hB.mono HZ7.out); obtain ⟨c0, c1, c2, c3, d0, d1, -⟩ := T1.out w' hBB; have hR := Lib.hid (B3.out.keep hBB); have hO := Lib.hid hown; have hbel := Lib.hid hBB; have r0 := (hR.out.cell 0).trans rfl; have r1 := (hR.out.cell 1).trans rfl; have r2 := (hR.out.cell 2).trans rfl; have r3 := (hR.out.cell 3).trans rfl; have f0 := hR.out.frozen 0; have f1 := hR.out.frozen 1; have f2 := hR.out.frozen 2; have f3 := hR.out.frozen 3; clear hown hb8 hB hBB)
          | fail)
        all_goals (have hblk := ((((hR.out.setc 0 (.int .i64 sp)).setc 1 (.int .i64 a2)).setc 2 (.int .i64 k2)).setc 3 (.slice A8 L.length cap8)).cast (ds := #[.int .i64 sp, .int .i64 a2, .int .i64 k2, .slice A8 L.length cap8]) (by simp only [List.setIfInBounds_toArray, List.set_cons_zero, List.set_cons_succ]))
        all_goals (have hOO := ((((hO.out.base (C := w1.heap.size) HZ7.out).setf (p := ⟨b + 1 + 1, 0, none⟩) (by rw [HZ.out]; simp) (.int .i64 sp)).setf (p := ⟨b + 1 + 1, 1, none⟩) (by rw [HZ.out]; simp) (.int .i64 a2)).setf (p := ⟨b + 1 + 1, 2, none⟩) (by rw [HZ.out]; simp) (.int .i64 k2)).setf (p := ⟨b + 1 + 1, 3, none⟩) (by rw [HZ.out]; simp) (.slice A8 L.length cap8))
        all_goals (have hB9 := (((((HB1.out.trans (hbel.out.mono (by rw [HZ.out]; omega))).setCell (p := ⟨b + 1 + 1, 0, none⟩) (by simp; omega) (.int .i64 sp)).setCell (p := ⟨b + 1 + 1, 1, none⟩) (by simp; omega) (.int .i64 a2)).setCell (p := ⟨b + 1 + 1, 2, none⟩) (by simp; omega) (.int .i64 k2)).setCell (p := ⟨b + 1 + 1, 3, none⟩) (by simp; omega) (.slice A8 L.length cap8)))
        all_goals (have hblk := Lib.hid hblk; have hOO := Lib.hid hOO; have hB9 := Lib.hid hB9; clear hR hO hbel r0 r1 r2 r3 f0 f1 f2 f3 c0 c1 c2 c3 d0 d1; go_wp2_with fail)
        all_goals exact bodyPost_ret (v := .agg #[.int .i64 sp, .int .i64 a2, .int .i64 k2, .slice A8 L.length cap8]) (results_cell_row rfl _ _ _ _ _ _ _ rfl hblk.out.2 hu rfl (by kernel_rfl)) rfl ⟨_, rfl, hOO.out.base (by rw [HZ.out]; omega), hB9.out⟩
end Go.Proofs.Ytddemmmbbleofaa.C
