/- The reference's WindowPut: some window of the same span. No condition. -/
import Derived.Test.YtddemmmbbleofaaWinS
namespace Go.Proofs.Ytddemmmbbleofaa.C
open Go.RowKit
set_option maxRecDepth 100000
set_option linter.unusedVariables false
set_option linter.unusedSimpArgs false
attribute [local go_sem ↓] Go.wp_at_zero Go.wp_at_succ
theorem run_append_none_k {P : Program} {w : World} (base : Nat) (t ty e : TypeId) (i : TypeInfo) (size : Nat) (ht : P.underlying t = some (.slice e)) (hi : P.info? e = some i)
    (v : Value) (n c : Nat) (xs : List Value) (hown : w.ownsRow base e size v n xs) :
    (Builtin.append_ #[t, t] ty #[v, .slice none 0 c]).run P w = .ok v w := by
  rcases hown.2 with ⟨rfl, rfl⟩ | ⟨g, cap, cur, rfl, _, _, hnc, _⟩
  · simp [Builtin.append_, run_underlying ht, sizeOf, typeInfo, hi, Builtin.lenOf, Builtin.firstCells]
  · simp [Builtin.append_, run_underlying ht, sizeOf, typeInfo, hi, Builtin.lenOf, Builtin.firstCells, hnc, storeCells]
/-- A list of marks, nil too, appended to a list of the call's own. -/
theorem oper_append_mks {ops : Array Oper} {o : Oper} {a : Act} {w : World} {K : Act → World → Prop} {Q : Exit → Act → World → Prop}
    (s x : Operand) (hop : o.op = Op.call { callee := Callee.builtin Builtin.append, args := #[s, x], argTypes := #[52, 52] })
    (base : Nat) (v : Value) (ms : List Mk) (hs : a.eval s = v) (hown : OwnK w base v ms)
    (A : Option Addr) (L : List Mk) (c : Nat) (hx : a.eval x = .slice A L.length c) (hM : Mks w A L) (b1 : ms.length + L.length ≤ 100000) (hbase : base ≤ w.heap.size)
    (hK : ∀ v' w', OwnK w' base v' (ms ++ L) → w.grownBy w' v.ownBlock → K (a.put o.dst v') w') : Oper.wp Try.prog o a w K Q := by
  have hu3 := Try.underlying52
  obtain ⟨j0, hj, hy0, hy1, hy2⟩ := info_parts infoMark
  rcases hM with ⟨rfl, rfl⟩ | ⟨g, off, rfl, hg, hcell⟩
  · have hrun := run_append_none_k (P := Try.prog) (w := w) base 52 o.type 59 j0 2 hu3 hj v ms.length c (mrows ms) hown
    have hk := hK v w (by rw [List.append_nil]; exact hown) (World.grownBy.refl w _)
    rw [List.length_nil] at hx
    unfold Oper.wp
    simp [execOp, hop, resolve, invoke, builtin, hs, hx, hrun, Result.andThen]
    exact hk
  · exact wp_append_own w s x 52 hop base 59 j0 (.agg #[.int .i64 0, .int .i64 0]) 2 16 hu3 hj hy0 hy1 hy2 rfl (by decide) v ms.length (mrows ms) hs hown ⟨g, off, none⟩ L.length c (mrows L) hx (mrows_len L) (Mks.cells hcell) (mrows_one L) (by unfold maxLen; omega) (by omega) hbase fun v' w' p1 p2 _ => hK v' w' (by unfold OwnK; rw [List.length_append, mrows_app]; exact p1) p2
theorem wpl_append_mks {ops : Array Oper} {rest : List Oper} {o : Oper} {a : Act} {w : World} {Q : Exit → Act → World → Prop} (hgd : o.guard = none)
    (s x : Operand) (hop : o.op = Op.call { callee := Callee.builtin Builtin.append, args := #[s, x], argTypes := #[52, 52] })
    (base : Nat) (v : Value) (ms : List Mk) (hs : a.eval s = v) (hown : OwnK w base v ms)
    (A : Option Addr) (L : List Mk) (c : Nat) (hx : a.eval x = .slice A L.length c) (hM : Mks w A L) (b1 : ms.length + L.length ≤ 100000) (hbase : base ≤ w.heap.size)
    (h : ∀ v' w', OwnK w' base v' (ms ++ L) → w.grownBy w' v.ownBlock → wpList Try.prog ops Q rest (a.put o.dst v') w') : wpList Try.prog ops Q (o :: rest) a w :=
  wpList_plain hgd fun K hK => oper_append_mks (ops := ops) s x hop base v ms hs hown A L c hx hM b1 hbase fun v' w' p1 p2 => hK _ _ (h v' w' p1 p2)
theorem step_append_mks {ops : Array Oper} {o : Oper} {a : Act} {w : World} {K : Act → World → Prop} {Q : Exit → Act → World → Prop} {E : Prop} (hg : o.guard = none)
    (s x : Operand) (hop : o.op = Op.call { callee := Callee.builtin Builtin.append, args := #[s, x], argTypes := #[52, 52] })
    (base : Nat) (v : Value) (ms : List Mk) (hs : a.eval s = v) (hown : OwnK w base v ms)
    (A : Option Addr) (L : List Mk) (c : Nat) (hx : a.eval x = .slice A L.length c) (hM : Mks w A L) (b1 : ms.length + L.length ≤ 100000) (hbase : base ≤ w.heap.size)
    (hK : ∀ v' w', OwnK w' base v' (ms ++ L) → w.grownBy w' v.ownBlock → K (a.put o.dst v') w') :
    if Region.wanted o (yielded ops a.tmps) = true then Oper.wp Try.prog o a w K Q else E := by
  have hw : Region.wanted o (yielded ops a.tmps) = true := by simp [Region.wanted, hg]
  rw [if_pos hw]
  exact oper_append_mks (ops := ops) s x hop base v ms hs hown A L c hx hM b1 hbase hK
theorem made_k (w : World) : OwnK (w.alloc (.cells #[] 59)) w.heap.size (.slice (some ⟨w.heap.size, 0, none⟩) 0 0) [] := World.ownsRow_made w #[] 0 (Nat.le_refl _) (by decide) rfl
theorem Mks.grown {w w' : World} {A : Option Addr} {ms : List Mk} {row : Option Nat} (h : Mks w A ms) (hg : w.grownBy w' row) (hne : ∀ g off, A = some ⟨g, off, none⟩ → some g ≠ row) : Mks w' A ms := by
  rcases h with h | ⟨g, off, e, hlt, hx⟩
  · exact .inl h
  · exact .inr ⟨g, off, e, Nat.lt_of_lt_of_le hlt hg.size, fun i hi => ⟨hg.cell (hx i hi).1 (hne g off e), hg.cell (hx i hi).2 (hne g off e)⟩⟩
theorem Mks.blk {w : World} {A : Option Addr} {ms : List Mk} (h : Mks w A ms) : ∀ g off, A = some ⟨g, off, none⟩ → g < w.heap.size := by
  rintro g off rfl
  rcases h with ⟨e, _⟩ | ⟨g', off', e, hlt, _⟩
  · cases e
  · cases e; exact hlt
theorem Blk.low {w w' : World} {B C b : Nat} {cs : Array Value} {t : TypeId} (h : Blk w B b cs t) (hb : Below C w w') (hl : b < C) : Blk w' B b cs t := ⟨h.1, (hb.block b hl).trans h.2⟩
theorem below_row_k {w w' : World} (h : Below w.heap.size w w') (o : Obj) : Below w.heap.size w (w'.alloc o) := h.alloc h.size o
theorem pick4 {P1 P2 P3 : Prop} {w w' : World} (h : P1 ∧ P2 ∧ P3 ∧ Below w.heap.size w w') : Below w.heap.size w w' := h.2.2.2
theorem Mks.farRow {w : World} {A : Option Addr} {ms : List Mk} (h : Mks w A ms) (b : Nat) (r : Array Value) (hne : ∀ g off, A = some ⟨g, off, none⟩ → g ≠ b) : Mks (w.setRow b r) A ms :=
  h.grown (row := some b) ⟨rfl, rfl, rfl, by simp, fun i hi hn => setRow_other _ _ _ _ (by simpa using hn)⟩ (fun g off e e2 => hne g off e (by simpa using e2))
theorem mks_new (w : World) (a b : Int) : Mks (w.alloc (.cells #[.int .i64 a, .int .i64 b] 59)) (some ⟨w.heap.size, 0, none⟩) [(a, b)] := by
  have h := Blk.new (w := w) (B := 0) (Nat.zero_le _) #[.int .i64 a, .int .i64 b] 59
  refine .inr ⟨_, 0, rfl, by simp, fun i hi => ?_⟩
  obtain rfl : i = 0 := by simpa using hi
  exact ⟨(h.cell 0).trans rfl, (h.cell 1).trans rfl⟩
theorem mks_new2 (w : World) (a b : Int) (k : Nat) (hk : k = w.heap.size) : Mks (w.alloc (.cells #[.int .i64 a, .int .i64 b] 59)) (some ⟨k, 0, none⟩) [(a, b)] := hk ▸ mks_new w a b
theorem OwnK.heap {w w' : World} {B : Nat} {v : Value} {ms : List Mk} (h : OwnK w B v ms) (e : w'.heap = w.heap) : OwnK w' B v ms := by
  unfold OwnK World.ownsRow at *
  rw [e]
  exact h
theorem Mks.heap {w w' : World} {A : Option Addr} {ms : List Mk} (h : Mks w A ms) (e : w'.heap = w.heap) : Mks w' A ms := by
  rcases h with h | ⟨g, off, e', hlt, hx⟩
  · exact .inl h
  · exact .inr ⟨g, off, e', by rw [e]; exact hlt, fun i hi => ⟨(World.cell?_of_block (w := w) (w' := w') (a := ⟨g, off + i * 2, none⟩) (by rw [e])).trans (hx i hi).1, (World.cell?_of_block (w := w) (w' := w') (a := ⟨g, off + i * 2 + 1, none⟩) (by rw [e])).trans (hx i hi).2⟩⟩
theorem own_at {B : Nat} {v : Value} {ms : List Mk} (W w : World) (h : OwnK w B v ms) {o : Obj} (e : W.heap = (w.alloc o).heap) : OwnK W B v ms := (h.keep ((Below.refl _ _).alloc (Nat.le_refl _) o)).heap e
theorem made_at (W X : World) (k : Nat) (hk : k = X.heap.size) {B : Nat} (e : W.heap = (X.alloc (.cells #[] 59)).heap) (hB : B ≤ X.heap.size) : OwnK W B (.slice (some ⟨k, 0, none⟩) 0 0) [] := by
  subst hk
  exact ((made_k X).base hB).heap e
theorem made_at2 (W X : World) (o : Obj) (k : Nat) (hk : k = X.heap.size) {B : Nat} (e : W.heap = ((X.alloc (.cells #[] 59)).alloc o).heap) (hB : B ≤ X.heap.size) : OwnK W B (.slice (some ⟨k, 0, none⟩) 0 0) [] := by
  subst hk
  exact (((made_k X).keep ((Below.refl _ _).alloc (Nat.le_refl _) o)).base hB).heap e
theorem mks_at (W X : World) (k : Nat) (a b : Int) (hk : k = X.heap.size) (e : W.heap = (X.alloc (.cells #[.int .i64 a, .int .i64 b] 59)).heap) : Mks W (some ⟨k, 0, none⟩) [(a, b)] := (mks_new2 X a b k hk).heap e
theorem mks_at2 (W X : World) (k : Nat) (a b : Int) (o : Obj) (hk : k = X.heap.size) (e : W.heap = ((X.alloc (.cells #[.int .i64 a, .int .i64 b] 59)).alloc o).heap) : Mks W (some ⟨k, 0, none⟩) [(a, b)] := ((mks_new2 X a b k hk).keep ((Below.refl _ _).alloc (Nat.le_refl _) o)).heap e
theorem grown_mks {w w' : World} {A : Option Addr} {ms : List Mk} {row : Option Nat} (hg : w.grownBy w' row) (h : Mks w A ms) (hne : ∀ g off, A = some ⟨g, off, none⟩ → some g ≠ row) : Mks w' A ms := h.grown hg hne
theorem below_grow_k {a x b : World} {row : Option Nat} (h : Below a.heap.size a x) (k : x.grownBy b row) : a.grownBy b row :=
  ⟨k.os.trans h.os, k.tape.trans h.tape, k.output.trans h.output, Nat.le_trans h.size k.size, fun i hi hne => (k.block i (Nat.lt_of_lt_of_le hi h.size) hne).trans (h.block i hi)⟩
theorem Mks.setf {w : World} {A : Option Addr} {ms : List Mk} (h : Mks w A ms) {b i : Nat} (u : Value) (hne : ∀ g off, A = some ⟨g, off, none⟩ → b < g) : Mks (w.setCell ⟨b, i, none⟩ u) A ms :=
  h.grown (row := some b) (only_setCell (World.grownBy.refl _ (some b)) (.inl rfl) u) (fun g off e h => by have := hne g off e; cases h; omega)
theorem OwnK.where2 {w : World} {B n c : Nat} {A : Option Addr} {ms : List Mk} (h : OwnK w B (.slice A n c) ms) (hm : ms ≠ []) : ∃ gA, A = some ⟨gA, 0, none⟩ ∧ B ≤ gA := by
  have h0 := h
  obtain ⟨hl, ⟨e, hn⟩ | ⟨g, cap, cur, e, hb, _⟩⟩ := h
  · exact absurd (List.length_eq_zero_iff.1 hn) hm
  · cases e
    exact ⟨g, rfl, hb⟩
theorem OwnK.own {w : World} {B n c g off : Nat} {A : Option Addr} {ms : List Mk} (h : OwnK w B (.slice A n c) ms) (e : A = some ⟨g, off, none⟩) : B ≤ g := by
  subst e
  obtain ⟨hl, ⟨e, _⟩ | ⟨g', cap, cur, e, hb, _⟩⟩ := h
  · cases e
  · cases e; exact hb
/-- Some window of the same span. -/
def PutAny (sp : Int) (w : World) (e : Ending) (w' : World) : Prop := ∃ (nw cp : Int) (A : Option Addr) (c : Nat) (L : List Mk), e = .returned (.agg #[.int .i64 sp, .int .i64 nw, .int .i64 cp, .slice A L.length c]) ∧ L.length ≤ 200 ∧ Mks w' A L ∧ Below w.heap.size w w' ∧ ∀ g off, A = some ⟨g, off, none⟩ → w.heap.size ≤ g
set_option maxHeartbeats 8000000 in
theorem s_WindowPut_any (sp nw cp a2 k2 : Int) (A : Option Addr) (L : List Mk) (c : Nat) (w : World) (h : Mks w A L) (hn : L.length ≤ 200) :
    Calls Try.prog 70 #[.agg #[.int .i64 sp, .int .i64 nw, .int .i64 cp, .slice A L.length c], .agg #[.int .i64 a2, .int .i64 k2]] w (PutAny sp w) := by
  have hu := Try.underlying56
  have hu3 := Try.underlying52
  obtain ⟨j0, hj, hy0, hy1, hy2⟩ := info_parts infoMark
  have HM := Lib.hid h
  clear h
  go_enter Try.func70, Try.ntmps70
  go_upto_region 2 with fail
  have hblk0 := HM.out.blk
  have B2 := Lib.hid ((((Blk.new (w := w) (B := 0) (Nat.zero_le _) #[.int .i64 sp, .int .i64 nw, .int .i64 cp, .slice A L.length c] 56).keep ((Below.refl _ _).alloc (Nat.le_refl _) (.cells #[.int .i64 a2, .int .i64 k2] 59))).keep ((Below.refl _ _).alloc (Nat.le_refl _) (.cells #[.int .i64 0, .int .i64 0, .int .i64 0, .slice none 0 0] 56))).keep ((Below.refl _ _).alloc (Nat.le_refl _) (.cells #[.int .i64 sp, .int .i64 nw, .int .i64 cp, .slice A L.length c] 56)))
  have B3 := Lib.hid (((Blk.new (w := w.alloc (.cells #[.int .i64 sp, .int .i64 nw, .int .i64 cp, .slice A L.length c] 56)) (B := 0) (Nat.zero_le _) #[.int .i64 a2, .int .i64 k2] 59).keep ((Below.refl _ _).alloc (Nat.le_refl _) (.cells #[.int .i64 0, .int .i64 0, .int .i64 0, .slice none 0 0] 56))).keep ((Below.refl _ _).alloc (Nat.le_refl _) (.cells #[.int .i64 sp, .int .i64 nw, .int .i64 cp, .slice A L.length c] 56)))
  have B4 := Lib.hid ((Blk.new (w := (w.alloc (.cells #[.int .i64 sp, .int .i64 nw, .int .i64 cp, .slice A L.length c] 56)).alloc (.cells #[.int .i64 a2, .int .i64 k2] 59)) (B := 0) (Nat.zero_le _) #[.int .i64 0, .int .i64 0, .int .i64 0, .slice none 0 0] 56).keep ((Below.refl _ _).alloc (Nat.le_refl _) (.cells #[.int .i64 sp, .int .i64 nw, .int .i64 cp, .slice A L.length c] 56)))
  have B5 := Lib.hid (Blk.new (w := ((w.alloc (.cells #[.int .i64 sp, .int .i64 nw, .int .i64 cp, .slice A L.length c] 56)).alloc (.cells #[.int .i64 a2, .int .i64 k2] 59)).alloc (.cells #[.int .i64 0, .int .i64 0, .int .i64 0, .slice none 0 0] 56)) (B := 0) (Nat.zero_le _) #[.int .i64 sp, .int .i64 nw, .int .i64 cp, .slice A L.length c] 56)
  have hb1 : Below w.heap.size w ((((w.alloc (.cells #[.int .i64 sp, .int .i64 nw, .int .i64 cp, .slice A L.length c] 56)).alloc (.cells #[.int .i64 a2, .int .i64 k2] 59)).alloc (.cells #[.int .i64 0, .int .i64 0, .int .i64 0, .slice none 0 0] 56)).alloc (.cells #[.int .i64 sp, .int .i64 nw, .int .i64 cp, .slice A L.length c] 56)) := ((((Below.refl _ w).alloc (Nat.le_refl _) _).alloc (by simp) _).alloc (by simp; omega) _).alloc (by simp; omega) _
  have hz1 : ((((w.alloc (.cells #[.int .i64 sp, .int .i64 nw, .int .i64 cp, .slice A L.length c] 56)).alloc (.cells #[.int .i64 a2, .int .i64 k2] 59)).alloc (.cells #[.int .i64 0, .int .i64 0, .int .i64 0, .slice none 0 0] 56)).alloc (.cells #[.int .i64 sp, .int .i64 nw, .int .i64 cp, .slice A L.length c] 56)).heap.size = w.heap.size + 1 + 1 + 1 + 1 := by simp
  simp only [World.size_alloc] at B3 B4 B5
  generalize hw1 : ((((w.alloc (.cells #[.int .i64 sp, .int .i64 nw, .int .i64 cp, .slice A L.length c] 56)).alloc (.cells #[.int .i64 a2, .int .i64 k2] 59)).alloc (.cells #[.int .i64 0, .int .i64 0, .int .i64 0, .slice none 0 0] 56)).alloc (.cells #[.int .i64 sp, .int .i64 nw, .int .i64 cp, .slice A L.length c] 56)) = w1 at *
  clear hw1
  have HM1 := Lib.hid (HM.out.keep hb1)
  have HB1 := Lib.hid hb1
  have HZ := Lib.hid hz1
  clear hb1 hz1 HM
  have HNE := Lib.hid hblk0
  clear hblk0
  generalize hbb : w.heap.size = b at *
  have HBB := Lib.hid hbb
  go_cut [] (fun wc => ∃ (wx : World) (A5 : Option Addr) (c5 : Nat), wx = wc ∧ Hid (Blk wx 0 (b + 1 + 1 + 1) #[.int .i64 sp, .int .i64 nw, .int .i64 cp, .slice A5 L.length c5] 56) ∧ Hid (Mks wx A5 L) ∧ Hid (∀ k, k < b + 1 + 1 + 1 + 1 → ∀ g off, A5 = some ⟨g, off, none⟩ → g ≠ k) ∧ Hid (Mks wx A L) ∧ Hid (Below (b + 1 + 1 + 1) w1 wx) ∧ w1.heap.size ≤ wx.heap.size)
  case first =>
    have hal := (Below.refl w1.heap.size w1).alloc (Nat.le_refl _) (.cells #[] 59)
    have hO := Lib.hid (made_k w1)
    have hM := Lib.hid (HM1.out.keep hal)
    have T := Lib.hid hal
    have c3 := ((B2.out.keep hal).cell 3).trans rfl
    clear hal
    have z5 := B5.out.frozen 3
    go_wp2_with (first
      | (at_builtin; refine wpl_append_mks rfl (.tmp 9) (.tmp 11) rfl w1.heap.size _ [] rfl hO.out A L c rfl hM.out (by simp; omega) (by simp) ?_; intro v12 w12 hO12 hG12; have hB12 := below_own_k T.out hG12 (Nat.le_refl _) (fun i e => (World.ownsRow.lt hO.out i e).1); obtain ⟨A12, c12, rfl⟩ := owns_form_k hO12; have q3 := ((B5.out.keep hB12).cell 3).trans rfl; have f3 := (B5.out.keep hB12).frozen 3; have HB12 := Lib.hid hB12; have HO12 := Lib.hid hO12; clear hB12 hO12 hG12)
      | fail)
    go_meet
    have hBe : Below (b + 1 + 1 + 1) w1 w12 := HB12.out.mono (by rw [HZ.out]; omega)
    exact ⟨_, A12, c12, rfl, Lib.hid (((B5.out.keep HB12.out).setc 3 (.slice A12 L.length c12)).cast (by simp only [List.setIfInBounds_toArray, List.set_cons_zero, List.set_cons_succ])), Lib.hid ((HO12.out.setf (p := ⟨b + 1 + 1 + 1, 3, none⟩) (by rw [HZ.out]; simp) _).mks2), Lib.hid (fun k hk g off e => by have := HO12.out.own e; rw [HZ.out] at this; omega), Lib.hid ((HM1.out.keep HB12.out).grown (only_setCell (World.grownBy.refl _ (some (b + 1 + 1 + 1))) (.inl rfl) _) (fun g off e h => by have := HNE.out g off e; cases h; omega)), Lib.hid (hBe.setCell (by simp) _), by simpa [World.setCell] using HB12.out.size⟩
  case rest =>
  obtain ⟨w2, A5, c5, rfl, KB5, KM5, NE5, KM, KW, kz⟩ := hcut
  have C2 := Lib.hid (B2.out.low KW.out (by omega))
  have C3 := Lib.hid (B3.out.low KW.out (by omega))
  have C4 := Lib.hid (B4.out.low KW.out (by omega))
  have HBW := Lib.hid (HB1.out.trans (KW.out.mono (by omega)))
  have HZ2 := Lib.hid (show b + 1 + 1 + 1 + 1 ≤ w2.heap.size by rw [HZ.out] at kz; exact kz)
  clear B2 B3 B4 B5 KW HM1 HB1 HZ kz
  rename_i hK
  refine hK _ _ ?_
  clear hK
  go_step
  go_step
  go_cut [35] (fun v35 wc => ∃ (r : Bool) (wx : World), wx = wc ∧ v35 = .bool r ∧ Below w2.heap.size w2 wx)
  case first =>
    have hz2 := HZ2.out
    go_wp2_with (first
      | ((with_reducible refine at_load (ty := 56) (x := .tmp 2) ?_); refine wpl_load_row rfl 56 (.tmp 2) rfl b rfl C2.out rfl (by kernel_rfl) hu rfl ?_)
      | (go_at_call 94; refine (s_WindowRight_any _ _ _ _ _ _ _ KM.out (by omega)).mono ?_; rintro e w3 ⟨r1, rfl, hb3⟩; have c0 := ((C3.out.keep hb3).cell 0).trans rfl; have c1 := ((C3.out.keep hb3).cell 1).trans rfl; have d1 := ((C2.out.keep hb3).cell 1).trans rfl; cases r1)
      | (go_at_call 44; refine (s_time _ _).mono ?_; rintro e w' ⟨rfl, rfl⟩; generalize bIn _ _ _ = b1; cases b1) | (go_at_call 85; refine (s_want _ _).mono ?_; rintro e w' ⟨rfl, rfl⟩; generalize bIn _ _ _ = b2; cases b2)
      | fail)
    all_goals go_meet
    all_goals exact ⟨_, _, rfl, rfl, hb3⟩
  case rest =>
  obtain ⟨r, w3, rfl, rfl, hb3⟩ := hcut
  have D2 := Lib.hid (C2.out.keep hb3)
  have D3 := Lib.hid (C3.out.keep hb3)
  have D4 := Lib.hid (C4.out.keep hb3)
  have D5 := Lib.hid (KB5.out.keep hb3)
  have DM5 := Lib.hid (KM5.out.keep hb3)
  have DM := Lib.hid (KM.out.keep hb3)
  have hz3 := HZ2.out
  have HW3 := Lib.hid (HBW.out.trans (hb3.mono (by omega)))
  have HZ3 := Lib.hid (Nat.le_trans HZ2.out hb3.size)
  clear C2 C3 C4 KB5 KM5 KM HBW HZ2 hb3 hz3
  rename_i hK
  refine hK _ _ ?_
  clear hK
  cases r with
  | true =>
    go_wp2_with (first
      | ((with_reducible refine at_load (ty := 56) (x := .tmp 5) ?_); refine wpl_load_row rfl 56 (.tmp 5) rfl (b + 1 + 1 + 1) rfl D5.out rfl (by kernel_rfl) hu rfl ?_)
      | ((with_reducible refine at_store (ty := 56) (y := .tmp 36) ?_); refine wpl_store_row rfl 56 (.tmp 4) (.tmp 36) rfl (b + 1 + 1) _ rfl rfl (D4.out.room (n := 4) rfl) rfl (by kernel_rfl) (by simp [Value.oneCell']) ?_; intro hout)
      | fail)
    exact bodyPost_ret (v := .agg #[.int .i64 sp, .int .i64 nw, .int .i64 cp, .slice A5 L.length c5]) (results_cell_row rfl _ _ _ _ _ _ _ rfl hout.2 hu rfl (by kernel_rfl)) rfl ⟨nw, cp, A5, c5, L, rfl, hn, DM5.out.farRow _ _ (NE5.out (b + 1 + 1) (by omega)), by rw [HBB.out]; exact below_setRow HW3.out (by omega) _, fun g off e => by rw [HBB.out]; exact Nat.le_of_not_lt (fun hlt => NE5.out g (by omega) g off e rfl)⟩
  | false =>
    go_upto_region 5 with fail
    go_cut [6] (fun v6 wc => ∃ (wx : World) (A6 : Option Addr) (c6 : Nat) (all : List Mk), wx = wc ∧ v6 = .slice A6 all.length c6 ∧ all.length = L.length + 1 ∧ Hid (OwnK wx w3.heap.size (.slice A6 all.length c6) all) ∧ Hid (Below w3.heap.size w3 wx))
    case first =>
      have hwr : IntKind.i64.wrap (a2 - 1) = IntKind.i64.wrap (a2 - 1) := rfl
      have T1 : Hid (∀ w', Below w3.heap.size w3 w' → w'.cell? ⟨b, 2, none⟩ = some (.int .i64 cp) ∧ w'.cell? ⟨b, 3, none⟩ = some (.slice A L.length c) ∧ w'.cell? ⟨b + 1, 0, none⟩ = some (.int .i64 a2) ∧ Below w3.heap.size w3 w') := Lib.hid fun w' hb => ⟨((D2.out.keep hb).cell 2).trans rfl, ((D2.out.keep hb).cell 3).trans rfl, ((D3.out.keep hb).cell 0).trans rfl, hb⟩
      go_region_held3 (fun w' => w'.cell? ⟨b, 2, none⟩ = some (.int .i64 cp) ∧ w'.cell? ⟨b, 3, none⟩ = some (.slice A L.length c) ∧ w'.cell? ⟨b + 1, 0, none⟩ = some (.int .i64 a2) ∧ Below w3.heap.size w3 w') (first
        | (with_reducible exact T1.out _ (Below.refl _ _).drew)
        | (with_reducible exact T1.out _ hB)
        | (with_reducible exact T1.out _ (below_row_k (pick4 (by assumption)) _))
        ) (first
        | (refine step_append_mks rfl (.tmp 37) (.tmp 39) rfl w3.heap.size (.slice (some ⟨_, 0, none⟩) 0 0) [] rfl (by first | exact made_at _ _ _ (by first | rfl | (simp; done)) rfl (by first | exact Nat.le_refl _ | (simp; done)) | exact made_at2 _ _ _ _ (by first | rfl | (simp; done)) rfl (by first | exact Nat.le_refl _ | (simp; done)) | fail) A L c rfl (DM.out.keep (pick4 (by assumption))) (by simp; omega) (pick4 (by assumption)).size ?_; intro v40 w40 hO40 hG40; have hB := below_own_k (pick4 (by assumption)) hG40 (Nat.le_refl _) (fun i e => by cases e; first | exact Nat.le_refl _ | (simp; done)); obtain ⟨A40, c40, rfl⟩ := owns_form_k hO40; simp only [List.nil_append] at hO40; have hO40 := Lib.hid hO40; have hG40 := Lib.hid hG40)
        | (refine step_append_mks rfl (.tmp 40) (.tmp 47) rfl w3.heap.size (.slice A40 L.length c40) L rfl (by first | exact hO40.out | exact own_at _ _ hO40.out rfl | fail) (some ⟨_, 0, none⟩) [(IntKind.i64.wrap (a2 - 1), cp)] 1 rfl (by first | exact mks_at _ _ _ _ _ (by first | rfl | (simp; done)) rfl | exact grown_mks hG40.out (mks_at _ _ _ _ _ (by first | rfl | (simp; done)) rfl) (fun g off e e2 => by cases e; have := Option.some.inj e2; simp at this) | exact grown_mks hG40.out (mks_at2 _ _ _ _ _ _ (by first | rfl | (simp; done)) rfl) (fun g off e e2 => by cases e; have := Option.some.inj e2; simp at this) | fail) (by simp; omega) (pick4 (by assumption)).size ?_; intro v48 w48 hO48 hG48; have hB := below_own_k (pick4 (by assumption)) hG48 (Nat.le_refl _) (fun i e => (World.ownsRow.lt hO40.out i e).1); obtain ⟨A48, c48, rfl⟩ := owns_form_k hO48; have hO48 := Lib.hid hO48)
        | fail)
      all_goals (go_wp2_with fail; go_meet)
      all_goals exact ⟨_, A48, c48, L ++ [(IntKind.i64.wrap (a2 - 1), cp)], rfl, by simp, by simp, hO48, Lib.hid hB⟩
    case rest =>
    obtain ⟨w6, A6, c6, all, rfl, rfl, hall, HO6, HB6⟩ := hcut
    have hal1 : all.length ≤ 201 := by omega
    clear hall
    have E2 := Lib.hid (D2.out.keep HB6.out)
    have E3 := Lib.hid (D3.out.keep HB6.out)
    have E4 := Lib.hid (D4.out.keep HB6.out)
    have E5 := Lib.hid (D5.out.keep HB6.out)
    have hz3 := HZ3.out
    have HW6 := Lib.hid (HW3.out.trans (HB6.out.mono (by omega)))
    have HZ6 := Lib.hid (Nat.le_trans HZ3.out HB6.out.size)
    have NE6 : Hid (∀ g off, A6 = some ⟨g, off, none⟩ → b + 1 + 1 + 1 < g ∧ g < w6.heap.size) := Lib.hid fun g off e => ⟨by have := HO6.out.own e; omega, HO6.out.mks2.blk g off e⟩
    have KA := Lib.hid HO6.out.mks2
    have hal := (Below.refl w6.heap.size w6).alloc (Nat.le_refl _) (.cells #[] 59)
    have q3 := ((E5.out.keep hal).cell 3).trans rfl
    have f3 := (E5.out.keep hal).frozen 3
    have E5a := Lib.hid (((E5.out.keep hal).setc 3 (.slice (some ⟨w6.heap.size, 0, none⟩) 0 0)).cast (ds := #[.int .i64 sp, .int .i64 nw, .int .i64 cp, .slice (some ⟨w6.heap.size, 0, none⟩) 0 0]) (by simp only [List.setIfInBounds_toArray, List.set_cons_zero, List.set_cons_succ]))
    have hz6 := HZ6.out
    have hO7 := Lib.hid ((made_k w6).setf (p := ⟨b + 1 + 1 + 1, 3, none⟩) (by simp; omega) (.slice (some ⟨w6.heap.size, 0, none⟩) 0 0))
    have KA7 := Lib.hid ((KA.out.keep hal).grown (only_setCell (World.grownBy.refl _ (some (b + 1 + 1 + 1))) (p := ⟨b + 1 + 1 + 1, 3, none⟩) (.inl rfl) (.slice (some ⟨w6.heap.size, 0, none⟩) 0 0)) (fun g off e h => by have := (NE6.out g off e).1; cases h; omega))
    have hl7 := Lib.hid ((hal.mono (by omega)).setCell (B := b + 1 + 1 + 1) (p := ⟨b + 1 + 1 + 1, 3, none⟩) (by simp) (.slice (some ⟨w6.heap.size, 0, none⟩) 0 0))
    have hs7 : w6.heap.size ≤ ((w6.alloc (.cells #[] 59)).setCell ⟨b + 1 + 1 + 1, 3, none⟩ (.slice (some ⟨w6.heap.size, 0, none⟩) 0 0)).heap.size := by simp [World.setCell]
    have HS7 := Lib.hid hs7
    clear D2 D3 D4 D5 DM5 DM NE5 HW3 HZ3 HB6 HO6 hal hz3 KA hz6 hs7
    rename_i hK
    refine hK _ _ ?_
    clear hK
    go_wp2_with fail
    generalize ((w6.alloc (.cells #[] 59)).setCell ⟨b + 1 + 1 + 1, 3, none⟩ (.slice (some ⟨w6.heap.size, 0, none⟩) 0 0)) = w7 at *
    clear q3 f3
    generalize hB7 : w6.heap.size = B7 at *
    go_loopw [7] (fun v7 wr => ∃ (i : Nat) (A' : Option Addr) (c' : Nat) (out : List Mk), i ≤ all.length ∧ v7 = .int .i64 i ∧ out.length ≤ i ∧ Hid (Blk wr 0 (b + 1 + 1 + 1) #[.int .i64 sp, .int .i64 nw, .int .i64 cp, .slice A' out.length c'] 56) ∧ Hid (OwnK wr B7 (.slice A' out.length c') out) ∧ Hid (Mks wr A6 all) ∧ Hid (Below (b + 1 + 1 + 1) w6 wr) ∧ Hid (B7 ≤ wr.heap.size)) (fun v7 _ => all.length - (intOf v7).toNat)
    case atStart => exact ⟨0, some ⟨B7, 0, none⟩, 0, [], by omega, rfl, by simp, E5a, hO7, KA7, hl7, HS7⟩
    case round =>
      obtain ⟨i, A', c', out, hi, rfl, hol, KB, KO, KA, KW, KS⟩ := hrel
      clear E5a hO7 KA7 hl7 HS7
      by_cases h5 : i < all.length
      · have b1 : decide ((i : Int) < (all.length : Int)) = true := decide_eq_true (by omega)
        obtain ⟨g, off, rfl, hg, hx⟩ := KA.out.at h5
        obtain ⟨x0, x1⟩ := hx i h5
        have c0 := ((E2.out.low KW.out (by omega)).cell 0).trans rfl
        have d0 := ((E3.out.low KW.out (by omega)).cell 0).trans rfl
        have d1 := ((E3.out.low KW.out (by omega)).cell 1).trans rfl
        generalize (mat all i).1 = p at *
        generalize (mat all i).2 = q at *
        clear hx
        go_upto_region 10 with fail
        go_cut [77] (fun v77 wc => ∃ (r : Bool) (m : Nat), v77 = .bool r ∧ wc = wr.drewN m)
        case first =>
          rcases b2 : decide (q > k2) with _ | _
          · go_quiet (fail)
            go_wp2_with fail
            go_meet
            exact ⟨_, _, rfl, rfl⟩
          · go_quiet (fail)
            go_wp2_with fail
            go_meet
            exact ⟨_, _, rfl, rfl⟩
        case rest =>
        obtain ⟨r, m, rfl, rfl⟩ := hcut
        rename_i hK
        refine hK _ _ ?_
        clear hK
        have hd := Lib.hid (below_drewN (Below.refl wr.heap.size wr) m)
        have KB2 := Lib.hid (KB.out.keep hd.out)
        have KO2 := Lib.hid (KO.out.keep hd.out)
        have KA2 := Lib.hid (KA.out.keep hd.out)
        have KW2 := Lib.hid (below_drewN KW.out m)
        have KS2 : Hid (B7 ≤ (wr.drewN m).heap.size) := Lib.hid (Nat.le_trans KS.out hd.out.size)
        have y0 : (wr.drewN m).cell? ⟨g, off + i * 2, none⟩ = some (.int .i64 p) := x0
        have y1 : (wr.drewN m).cell? ⟨g, off + i * 2 + 1, none⟩ = some (.int .i64 q) := x1
        have hg2 : g < (wr.drewN m).heap.size := Nat.lt_of_lt_of_le hg hd.out.size
        generalize wr.drewN m = w8 at *
        clear c0 d0 d1 x0 x1 KB KO KA KW KS hd hg
        cases r with
        | false =>
          go_wp2_with fail
          go_roundw
          case rel => exact ⟨i + 1, A', c', out, by omega, by go_num, by omega, KB2, KO2, KA2, KW2, KS2⟩
          case measure => simp [intOf]; omega
        | true =>
          go_upto_region 11 with fail
          have hne := NE6.out g off rfl
          have hlen : (out ++ [(p, q)]).length = out.length + 1 := by simp
          have z3 := (KB2.out.cell 3).trans rfl
          have T2 : Hid (∀ w', w8.grownBy w' (Value.slice A' out.length c').ownBlock → w'.cell? ⟨b + 1 + 1 + 1, 3, none⟩ = some (.slice A' out.length c') ∧ w'.frozen? ⟨b + 1 + 1 + 1, 3, none⟩ = false ∧ Blk w' 0 (b + 1 + 1 + 1) #[.int .i64 sp, .int .i64 nw, .int .i64 cp, .slice A' out.length c'] 56 ∧ Mks w' (some ⟨g, off, none⟩) all ∧ Below (b + 1 + 1 + 1) w6 w' ∧ B7 ≤ w'.heap.size) := Lib.hid fun w' hg => by
            have hrow : ∀ k, k < B7 → some k ≠ (Value.slice A' out.length c').ownBlock := fun k hk e => by have := (World.ownsRow.lt KO2.out k e.symm).1; omega
            have hz6 := HZ6.out
            have hb : Blk w' 0 (b + 1 + 1 + 1) #[.int .i64 sp, .int .i64 nw, .int .i64 cp, .slice A' out.length c'] 56 := ⟨Nat.zero_le _, (hg.block _ KB2.out.lt (hrow _ (by omega))).trans KB2.out.2⟩
            exact ⟨(hb.cell 3).trans rfl, hb.frozen 3, hb, KA2.out.grown hg (fun g' off' e e2 => hrow g' (by cases e; omega) e2), below_own_k KW2.out hg (by omega) (fun k e => by have := (World.ownsRow.lt KO2.out k e).1; omega), Nat.le_trans KS2.out hg.size⟩
          have z3a := ((KB2.out.keep ((Below.refl _ _).alloc (Nat.le_refl _) (.cells #[.int .i64 p, .int .i64 q] 59))).cell 3).trans rfl
          go_region_law (first
            | (refine step_append_mks rfl (.tmp 79) (.tmp 84) rfl B7 (.slice A' out.length c') out rfl (by first | exact KO2.out.heap rfl | exact own_at _ _ KO2.out rfl | fail) (some ⟨_, 0, none⟩) [(p, q)] 1 rfl (by first | exact mks_at _ w8 _ _ _ (by first | rfl | (simp; done)) rfl | fail) (by simp; omega) (by first | exact KS2.out | (have := KS2.out; simp; omega)) ?_; intro v85 w85 hO85 hG85; obtain ⟨t3, tf, tb, ta, tw, ts⟩ := T2.out w85 (below_grow_k (show Below w8.heap.size w8 _ by (repeat (first | exact Below.refl _ _ | (with_reducible refine Below.drew ?_) | (with_reducible refine Below.alloc ?_ (by first | (simp; done) | (simp; omega)) _)))) hG85); obtain ⟨A85, c85, rfl⟩ := owns_form_k hO85; have tb := Lib.hid tb; have ta := Lib.hid ta; have tw := Lib.hid tw; have ts := Lib.hid ts; have hO85 := Lib.hid hO85; clear hG85)
            | fail)
          all_goals (go_wp2_with fail; go_roundw)
          all_goals first | (simp [intOf]; omega) | (refine ⟨i + 1, A85, c85, out ++ [(p, q)], by omega, by go_num, by rw [hlen]; omega, Lib.hid (by rw [hlen]; exact ((tb.out.setc 3 (.slice A85 (out.length + 1) c85)).cast (by simp only [List.setIfInBounds_toArray, List.set_cons_zero, List.set_cons_succ]))), Lib.hid (by have h := hO85.out; rw [hlen] at h ⊢; exact h.setf (p := ⟨b + 1 + 1 + 1, 3, none⟩) (by have := HZ6.out; simp; omega) _), Lib.hid (ta.out.grown (only_setCell (World.grownBy.refl _ (some (b + 1 + 1 + 1))) (p := ⟨b + 1 + 1 + 1, 3, none⟩) (.inl rfl) (.slice A85 (out.length + 1) c85)) (fun g' off' e h => by cases e; cases h; omega)), Lib.hid (tw.out.setCell (p := ⟨b + 1 + 1 + 1, 3, none⟩) (by simp) (.slice A85 (out.length + 1) c85)), Lib.hid (by have := ts.out; simpa [World.setCell] using this)⟩)
      · obtain rfl : i = all.length := by omega
        have b1 : decide ((all.length : Int) < (all.length : Int)) = false := decide_eq_false (by omega)
        have z3 := (KB.out.cell 3).trans rfl
        have c0 := ((E3.out.low KW.out (by omega)).cell 0).trans rfl
        have c1 := ((E3.out.low KW.out (by omega)).cell 1).trans rfl
        have z1 := (KB.out.cell 1).trans rfl
        have z2 := (KB.out.cell 2).trans rfl
        have f1 := KB.out.frozen 1
        have f2 := KB.out.frozen 2
        have f3 := KB.out.frozen 3
        have hz6 := HZ6.out
        have R4 := E4.out.low KW.out (by omega)
        have hBW := HW6.out.trans (KW.out.mono (by omega))
        by_cases hbig : out.length ≤ 200
        · have b2 : decide ((out.length : Int) > 200) = false := decide_eq_false (by omega)
          have HQ := Lib.hid (((KB.out.setc 1 (.int .i64 a2)).setc 2 (.int .i64 k2)).cast (ds := #[.int .i64 sp, .int .i64 a2, .int .i64 k2, .slice A' out.length c']) (by simp only [List.setIfInBounds_toArray, List.set_cons_zero, List.set_cons_succ]))
          have HR4 := Lib.hid ((R4.setf (p := ⟨b + 1 + 1 + 1, 1, none⟩) (by simp) (.int .i64 a2)).setf (p := ⟨b + 1 + 1 + 1, 2, none⟩) (by simp) (.int .i64 k2))
          have HBE := Lib.hid ((hBW.setCell (p := ⟨b + 1 + 1 + 1, 1, none⟩) (by simp; omega) (.int .i64 a2)).setCell (p := ⟨b + 1 + 1 + 1, 2, none⟩) (by simp; omega) (.int .i64 k2))
          have HMK := Lib.hid fun r => (((KO.out.setf (p := ⟨b + 1 + 1 + 1, 1, none⟩) (by simp; omega) (.int .i64 a2)).setf (p := ⟨b + 1 + 1 + 1, 2, none⟩) (by simp; omega) (.int .i64 k2)).farRow (b := b + 1 + 1) (by omega) r).mks2
          have HLE := Lib.hid hbig
          clear hbig R4 hBW
          go_wp2_with (first
            | ((with_reducible refine at_load (ty := 56) (x := .tmp 5) ?_); refine wpl_load_row rfl 56 (.tmp 5) rfl (b + 1 + 1 + 1) rfl HQ.out rfl (by kernel_rfl) hu rfl ?_)
            | ((with_reducible refine at_store (ty := 56) (y := .tmp 105) ?_); refine wpl_store_row rfl 56 (.tmp 4) (.tmp 105) rfl (b + 1 + 1) _ rfl rfl (HR4.out.room (n := 4) rfl) rfl (by kernel_rfl) (by simp [Value.oneCell']) ?_; intro hout)
            | fail)
          exact bodyPost_ret (v := .agg #[.int .i64 sp, .int .i64 a2, .int .i64 k2, .slice A' out.length c']) (results_cell_row rfl _ _ _ _ _ _ _ rfl hout.2 hu rfl (by kernel_rfl)) rfl ⟨a2, k2, A', c', out, rfl, HLE.out, HMK.out _, by rw [HBB.out]; exact below_setRow HBE.out (by omega) _, fun g off e => by rw [HBB.out]; have := KO.out.own e; omega⟩
        · obtain ⟨x, T, rfl⟩ : ∃ x T, out = x :: T := by cases out with | nil => simp at hbig | cons x T => exact ⟨x, T, rfl⟩
          obtain ⟨gA, rfl, hgA⟩ := KO.out.where2 (by simp)
          have hlen := KO.out.len
          have hT : T.length = 200 := by simp only [List.length_cons] at hbig hol; omega
          simp only [List.length_cons] at *
          have b2 : decide (((T.length + 1 : Nat) : Int) > 200) = true := decide_eq_true (by omega)
          have b3 : IntKind.i64.wrap (((T.length + 1 : Nat) : Int) - 200) = 1 := by rw [IntKind.wrap_i64]; omega
          have b4 : ¬ c' = 1 := by omega
          have b5 : ((T.length : Int) + 1) - 200 = 1 := by omega
          have b6 : decide ((T.length : Int) + 1 > 200) = true := decide_eq_true (by omega)
          have hMt := (KO.out.mks2.tail (x := x) (L := T) (c := c') (by omega))
          rw [if_neg b4] at hMt
          have hMb : ∀ g off, (some ⟨gA, 0 + 2, none⟩ : Option Addr) = some ⟨g, off, none⟩ → b + 1 + 1 + 1 < g := fun g off e => by cases e; omega
          have HQ := Lib.hid ((((KB.out.setc 3 (.slice (some ⟨gA, 0 + 2, none⟩) T.length (c' - 1))).setc 1 (.int .i64 a2)).setc 2 (.int .i64 k2)).cast (ds := #[.int .i64 sp, .int .i64 a2, .int .i64 k2, .slice (some ⟨gA, 0 + 2, none⟩) T.length (c' - 1)]) (by simp only [List.setIfInBounds_toArray, List.set_cons_zero, List.set_cons_succ]))
          have HR4 := Lib.hid (((R4.setf (p := ⟨b + 1 + 1 + 1, 3, none⟩) (by simp) (.slice (some ⟨gA, 0 + 2, none⟩) T.length (c' - 1))).setf (p := ⟨b + 1 + 1 + 1, 1, none⟩) (by simp) (.int .i64 a2)).setf (p := ⟨b + 1 + 1 + 1, 2, none⟩) (by simp) (.int .i64 k2))
          have HBE := Lib.hid (((hBW.setCell (p := ⟨b + 1 + 1 + 1, 3, none⟩) (by simp; omega) (.slice (some ⟨gA, 0 + 2, none⟩) T.length (c' - 1))).setCell (p := ⟨b + 1 + 1 + 1, 1, none⟩) (by simp; omega) (.int .i64 a2)).setCell (p := ⟨b + 1 + 1 + 1, 2, none⟩) (by simp; omega) (.int .i64 k2))
          have HMK := Lib.hid fun r => (((hMt.setf (b := b + 1 + 1 + 1) (i := 3) (.slice (some ⟨gA, 0 + 2, none⟩) T.length (c' - 1)) hMb).setf (b := b + 1 + 1 + 1) (i := 1) (.int .i64 a2) hMb).setf (b := b + 1 + 1 + 1) (i := 2) (.int .i64 k2) hMb).farRow (b + 1 + 1) r (fun g off e => by have := hMb g off e; omega)
          have HLE := Lib.hid (show T.length ≤ 200 by omega)
          have HT := Lib.hid hT
          clear hbig R4 hBW hMt hMb hT hol
          go_wp2_with (first
            | ((with_reducible refine at_load (ty := 56) (x := .tmp 5) ?_); refine wpl_load_row rfl 56 (.tmp 5) rfl (b + 1 + 1 + 1) rfl HQ.out rfl (by kernel_rfl) hu rfl ?_)
            | ((with_reducible refine at_store (ty := 56) (y := .tmp 105) ?_); refine wpl_store_row rfl 56 (.tmp 4) (.tmp 105) rfl (b + 1 + 1) _ rfl rfl (HR4.out.room (n := 4) rfl) rfl (by kernel_rfl) (by simp [Value.oneCell']) ?_; intro hout)
            | fail)
          exact bodyPost_ret (v := .agg #[.int .i64 sp, .int .i64 a2, .int .i64 k2, .slice (some ⟨gA, 0 + 2, none⟩) T.length (c' - 1)]) (results_cell_row rfl _ _ _ _ _ _ _ rfl hout.2 hu rfl (by kernel_rfl)) rfl ⟨a2, k2, some ⟨gA, 0 + 2, none⟩, c' - 1, T, rfl, HLE.out, HMK.out _, by rw [HBB.out]; exact below_setRow HBE.out (by omega) _, fun g off e => by rw [HBB.out]; cases e; omega⟩
end Go.Proofs.Ytddemmmbbleofaa.C
