/- What the program takes of a text: takeNum and msgOf, walked. No condition. -/
import Derived.Test.YtddemmmbbleofaaMsgS
import Derived.Test.YtddemmmbbleofaaMsgR
import Derived.Laws.ResultCell
import Derived.StillTailTactics
namespace Go.Proofs.Ytddemmmbbleofaa.C
open Go.RowKit
set_option maxRecDepth 100000
set_option linter.unusedVariables false
set_option linter.unusedSimpArgs false
attribute [local go_sem ↓] Go.wp_at_zero Go.wp_at_succ
open Go.Proofs.YtddemmmbbleofaaW.PrintWords
theorem and127 (b : Int) (h0 : 0 ≤ b) (h1 : b ≤ 255) : Go.bits .and .u8 b 127 = b % 128 := by
  have : ∀ k : Fin 256, Go.bits .and .u8 (k.val : Int) 127 = (k.val : Int) % 128 := by decide +kernel
  have := this ⟨b.toNat, by omega⟩
  rwa [show ((b.toNat : Nat) : Int) = b by omega] at this
theorem two_pow7 (i : Nat) (h : i ≤ 7) : (2 : Int) ^ min (7 * (i : Int)).toNat 64 = 128 ^ i := by
  have : i = 0 ∨ i = 1 ∨ i = 2 ∨ i = 3 ∨ i = 4 ∨ i = 5 ∨ i = 6 ∨ i = 7 := by omega
  rcases this with h | h | h | h | h | h | h | h <;> subst h <;> decide
def tkr (o : Option (Int × ByteArray)) : Int × ByteArray × Bool := match o with
  | none => (0, ⟨#[]⟩, false)
  | some (x, r) => (x, r, true)
theorem take_is (d : Nat) : ∀ (i : Nat) (n : Int) (k : Nat) (t : ByteArray), t.size ≤ 20000 → i + d = min t.size 8 → 0 ≤ n → n < 128 ^ i → d < k →
    PFnExactMsgRead.impl_takeNum.l0 k t n (mn (t.size : Int) 8) i = some (tkr (takeG (8 - i) t n i)) := by
  induction d with
  | zero =>
    intro i n k t ht hd n0 n1 hk
    obtain ⟨k, rfl⟩ : ∃ m, k = m + 1 := ⟨k - 1, by omega⟩
    simp only [PFnExactMsgRead.impl_takeNum.l0]
    rw [if_neg (by unfold mn; split <;> omega)]
    rcases h : 8 - i with _ | m
    · rfl
    · rw [takeG, if_neg (by omega)]; rfl
  | succ d ih =>
    intro i n k t ht hd n0 n1 hk
    obtain ⟨k, rfl⟩ : ∃ m, k = m + 1 := ⟨k - 1, by omega⟩
    have hi : i ≤ 7 := by omega
    obtain ⟨c0, c1⟩ := bt_range t i
    obtain ⟨p0, p1, p2⟩ := pow128 i (by omega)
    have p3 : (128 : Int) ^ i ≤ 562949953421312 := by
      have : i = 0 ∨ i = 1 ∨ i = 2 ∨ i = 3 ∨ i = 4 ∨ i = 5 ∨ i = 6 ∨ i = 7 := by omega
      rcases this with h | h | h | h | h | h | h | h <;> subst h <;> decide
    have hm1 : bt t i % 128 * 128 ^ i ≤ 127 * 128 ^ i := Int.mul_le_mul_of_nonneg_right (by omega) (by omega)
    have hm0 : 0 ≤ bt t i % 128 * 128 ^ i := Int.mul_nonneg (by omega) (by omega)
    have w7 : wrap64 (7 * (i : Int)) = 7 * (i : Int) := by unfold wrap64; omega
    have w1 : wrap64 ((i : Int) + 1) = ((i + 1 : Nat) : Int) := by unfold wrap64; omega
    have wb : wrap64 (bt t i % 128) = bt t i % 128 := by unfold wrap64; omega
    have hzb : bt t i % 128 * 128 ^ i ≤ 71494644084506624 := by clear w7 w1 wb; omega
    have hs : shl .i64 (wrap64 (Go.bits .and .u8 (bt t i) 127)) (7 * (i : Int)) = bt t i % 128 * 128 ^ i := by
      rw [and127 _ c0 c1, wb]
      unfold shl
      rw [show IntKind.i64.bits = 64 from rfl, two_pow7 i hi, IntKind.wrap_i64]
      generalize bt t i % 128 * 128 ^ i = z at *
      clear w7 w1 wb hm1
      omega
    have hw : wrap64 (n + bt t i % 128 * 128 ^ i) = n + bt t i % 128 * 128 ^ i := by
      generalize bt t i % 128 * 128 ^ i = z at *
      clear w7 w1 wb hs
      unfold wrap64; omega
    have q1 : (i : Int) < mn (t.size : Int) 8 := by clear hs hw w7 w1 wb hm1 hm0 p0 p1 p2 p3 hzb; unfold mn; split <;> omega
    have q2 : i < t.size := by clear hs hw w7 w1 wb hm1 hm0 p0 p1 p2 p3 hzb; omega
    have r0 : 0 ≤ n + bt t i % 128 * 128 ^ i := by clear hs hw w7 w1 wb; omega
    have r1 : n + bt t i % 128 * 128 ^ i < 128 ^ (i + 1) := by clear hs hw w7 w1 wb; rw [p2]; omega
    simp only [PFnExactMsgRead.impl_takeNum.l0]
    rw [w7, hs, hw, w1, if_pos q1, if_pos (Int.natCast_nonneg i), if_pos (Int.ofNat_lt.mpr q2), if_pos (Int.mul_nonneg (by decide) (Int.natCast_nonneg i))]
    rw [show 8 - i = (8 - (i + 1)) + 1 from by clear hs hw w7 w1 wb hm1 hm0 p0 p1 p2 p3 hzb r0 r1; omega, takeG, if_pos q2]
    clear hs hw w7 w1 wb hm1 hm0 p0 p1 p2 p3 hzb
    generalize n + bt t i % 128 * 128 ^ i = z at *
    by_cases h : bt t i < 128
    · rw [if_pos h, if_pos h, if_pos (Int.natCast_nonneg _), if_pos (Int.ofNat_le.mpr q2)]
      rfl
    · rw [if_neg h, if_neg h]
      exact ih (i + 1) _ k t ht (by omega) r0 r1 (by omega)
def TK (t : ByteArray) (x : Int) (r : ByteArray) (ok : Bool) : Prop := tkr (TF t) = (x, r, ok)
theorem TK.yes {t r : ByteArray} {x : Int} (h : TK t x r true) : TF t = some (x, r) := by
  unfold TK tkr at h; split at h <;> simp_all
theorem TK.no {t r : ByteArray} {x : Int} (h : TK t x r false) : TF t = none := by
  unfold TK tkr at h; split at h <;> simp_all
theorem takeG_size (k : Nat) : ∀ (t : ByteArray) (n : Int) (i : Nat) (x : Int) (r : ByteArray), takeG k t n i = some (x, r) → r.size ≤ t.size := by
  induction k with
  | zero => intro t n i x r h; simp [takeG] at h
  | succ k ih =>
    intro t n i x r h
    rw [takeG] at h
    split at h
    · split at h
      · simp only [Option.some.injEq, Prod.mk.injEq] at h
        rw [← h.2, ByteArray.size_extract]; omega
      · exact ih _ _ _ _ _ h
    · cases h
theorem TK.size {t r : ByteArray} {x : Int} {ok : Bool} (h : TK t x r ok) : r.size ≤ t.size := by
  cases ok
  · unfold TK tkr at h
    split at h
    · simp only [Prod.mk.injEq] at h
      rw [← h.2.1]; exact Nat.zero_le _
    · simp at h
  · exact takeG_size 8 _ _ _ _ _ (TK.yes h)
theorem c_takeNum (t : ByteArray) (w : World) (ht : t.size ≤ 20000) : Calls Try.prog 90 #[.string t] w fun e w' => ∃ x r ok, TK t x r ok ∧ e = .returned (.tuple #[.int .i64 x, .string r, .bool ok]) ∧ Below w.heap.size w w' := by
  have h : PFnExactMsgRead.impl_takeNum.f 9 t = some (tkr (TF t)) := take_is (min t.size 8) 0 0 9 t ht (by omega) (by omega) (by decide) (by omega)
  exact (PFnExactMsgRead.impl_takeNum.calls 9 t _ _ _ w h).mono fun e w' ⟨h1, h2⟩ => ⟨_, _, _, rfl, h1, h2⟩
theorem results_row2 {P : Program} {fn : Func} {p u : Tmp} {ty : TypeId} (h : fn.results = #[.cell p ty, .tmp u]) (tmps : Array Value) (w : World) (g : Nat) (t : TypeId) (cs : Array Value) (fr : Nat × Nat) (d : TypeDesc)
    (hp : tmps.getD p undef = .pointer (some ⟨g, 0, none⟩)) (hg : w.heap[g]? = some (.cells cs t fr))
    (hu : P.underlying ty = some d) (hd : (match d with | .struct _ | .array _ _ => true | _ => false) = true) (hi : (P.info? ty).map (·.size) = some cs.size) (v : Value) (hv : tmps.getD u undef = v) :
    (results fn tmps).run P w = .ok (.tuple #[.agg cs, v]) w := by
  rw [results_cell_tmp h, hp, hv]
  simp [asAddr, Result.andThen, run_loadVar_row w g t ty cs fr d hg hu hd hi]
/-- The result's block, the message's. -/
structure OS (g gm : Nat) (cs : Array Value) (w wk : World) : Prop where
  mb : Blk wk 0 gm cs 28
  ob : Room wk g g 10 28
  bl : Below w.heap.size w wk
  o1 : w.heap.size + 0 = g
  o2 : g < gm
theorem OS.keep {g gm : Nat} {cs : Array Value} {w wk w' : World} (h : OS g gm cs w wk) (hb : Below wk.heap.size wk w') : OS g gm cs w w' := ⟨h.mb.keep hb, h.ob.keep hb, btrans h.bl hb, h.o1, h.o2⟩
theorem OS.set {g gm : Nat} {cs : Array Value} {w wk : World} (h : OS g gm cs w wk) (i : Nat) (v : Value) {ds : Array Value} (e : cs.setIfInBounds i v = ds) : OS g gm ds w (wk.setCell ⟨gm, i, none⟩ v) :=
  ⟨(h.mb.setc i v).cast e, h.ob.set_far (by have := h.o2; show g ≠ gm; omega) v, h.bl.setCell (by have := h.o1; have := h.o2; show w.heap.size ≤ gm; omega) v, h.o1, h.o2⟩
theorem OS.setRow {g gm : Nat} {cs : Array Value} {w wk : World} (h : OS g gm cs w wk) {r : Array Value} (hr : r.size = 10) : OS g gm cs w (wk.setRow g r) :=
  ⟨h.mb.far (by have := h.o2; omega) r, ⟨r, h.ob.blk r, hr⟩, below_setRow h.bl (by have := h.o1; omega) r, h.o1, h.o2⟩
theorem Room.setc {w : World} {B b n : Nat} {t : TypeId} (h : Room w B b n t) (i : Nat) (v : Value) : Room (w.setCell ⟨b, i, none⟩ v) B b n t := let ⟨cs, h1, h2⟩ := h; ⟨_, h1.setc i v, by simpa using h2⟩
theorem OS.setg {g gm : Nat} {cs : Array Value} {w wk : World} (h : OS g gm cs w wk) (i : Nat) (v : Value) : OS g gm cs w (wk.setCell ⟨g, i, none⟩ v) :=
  ⟨h.mb.setf (by have := h.o2; show gm ≠ g; omega) v, h.ob.setc i v, h.bl.setCell (by have := h.o1; show w.heap.size ≤ g; omega) v, h.o1, h.o2⟩
/-- What a cell holds. -/
def cv (g i : Nat) (w : World) : Value := (w.cell? ⟨g, i, none⟩).getD undef
theorem Room.cv {w : World} {B g n : Nat} {t : TypeId} (h : Room w B g n t) (i : Nat) (hi : i < n) : w.cell? ⟨g, i, none⟩ = some (cv g i w) := by
  obtain ⟨cs, h1, h2⟩ := h
  unfold C.cv
  rw [h1.cell i, Array.getElem?_eq_getElem (by omega)]
  rfl
theorem Room.fr {w : World} {B g n : Nat} {t : TypeId} (h : Room w B g n t) (i : Nat) : w.frozen? ⟨g, i, none⟩ = false := let ⟨_, h1, _⟩ := h; h1.frozen i
theorem Room.ten {w : World} {B g : Nat} {t : TypeId} (h : Room w B g 10 t) : ∃ a0 a1 a2 a3 a4 a5 a6 a7 a8 a9, Blk w B g #[a0, a1, a2, a3, a4, a5, a6, a7, a8, a9] t := by
  obtain ⟨⟨cs⟩, h1, h2⟩ := h
  match cs, h2 with
  | [a0, a1, a2, a3, a4, a5, a6, a7, a8, a9], _ => exact ⟨_, _, _, _, _, _, _, _, _, _, h1⟩
theorem Room.stored {w : World} {B g : Nat} {t : TypeId} (h : Room w B g 10 t) (v0 v1 v2 v3 v4 v5 v6 v7 v8 v9 : Value) :
    Blk ((((((((((w.setCell ⟨g, 0, none⟩ v0).setCell ⟨g, 1, none⟩ v1).setCell ⟨g, 2, none⟩ v2).setCell ⟨g, 3, none⟩ v3).setCell ⟨g, 4, none⟩ v4).setCell ⟨g, 5, none⟩ v5).setCell ⟨g, 6, none⟩ v6).setCell ⟨g, 7, none⟩ v7).setCell ⟨g, 8, none⟩ v8).setCell ⟨g, 9, none⟩ v9) B g #[v0, v1, v2, v3, v4, v5, v6, v7, v8, v9] t := by
  obtain ⟨a0, a1, a2, a3, a4, a5, a6, a7, a8, a9, h⟩ := h.ten
  exact ((((((((((h.setc 0 v0).setc 1 v1).setc 2 v2).setc 3 v3).setc 4 v4).setc 5 v5).setc 6 v6).setc 7 v7).setc 8 v8).setc 9 v9).cast (by simp only [List.setIfInBounds_toArray, List.set_cons_zero, List.set_cons_succ])
theorem OS.allg {g gm : Nat} {mk mid mseq mg mwa mwe mam mun mco : Int} {r7 : ByteArray} {w w' : World} (h : OS g gm #[.int .i64 mk, .int .i64 mid, .int .i64 mseq, .int .i64 mg, .int .i64 mwa, .int .i64 mwe, .int .i64 mam, .int .i64 mun, .int .i64 mco, .string r7] w w') : w'.cell? ⟨gm, 0, none⟩ = some (.int .i64 mk) ∧ w'.cell? ⟨gm, 1, none⟩ = some (.int .i64 mid) ∧ w'.cell? ⟨gm, 2, none⟩ = some (.int .i64 mseq) ∧ w'.cell? ⟨gm, 3, none⟩ = some (.int .i64 mg) ∧ w'.cell? ⟨gm, 4, none⟩ = some (.int .i64 mwa) ∧ w'.cell? ⟨gm, 5, none⟩ = some (.int .i64 mwe) ∧ w'.cell? ⟨gm, 6, none⟩ = some (.int .i64 mam) ∧ w'.cell? ⟨gm, 7, none⟩ = some (.int .i64 mun) ∧ w'.cell? ⟨gm, 8, none⟩ = some (.int .i64 mco) ∧ w'.cell? ⟨gm, 9, none⟩ = some (.string r7) ∧ w'.cell? ⟨g, 0, none⟩ = some (cv g 0 w') ∧ w'.cell? ⟨g, 1, none⟩ = some (cv g 1 w') ∧ w'.cell? ⟨g, 2, none⟩ = some (cv g 2 w') ∧ w'.cell? ⟨g, 3, none⟩ = some (cv g 3 w') ∧ w'.cell? ⟨g, 4, none⟩ = some (cv g 4 w') ∧ w'.cell? ⟨g, 5, none⟩ = some (cv g 5 w') ∧ w'.cell? ⟨g, 6, none⟩ = some (cv g 6 w') ∧ w'.cell? ⟨g, 7, none⟩ = some (cv g 7 w') ∧ w'.cell? ⟨g, 8, none⟩ = some (cv g 8 w') ∧ w'.cell? ⟨g, 9, none⟩ = some (cv g 9 w') ∧ w'.frozen? ⟨g, 0, none⟩ = false ∧ w'.frozen? ⟨g, 1, none⟩ = false ∧ w'.frozen? ⟨g, 2, none⟩ = false ∧ w'.frozen? ⟨g, 3, none⟩ = false ∧ w'.frozen? ⟨g, 4, none⟩ = false ∧ w'.frozen? ⟨g, 5, none⟩ = false ∧ w'.frozen? ⟨g, 6, none⟩ = false ∧ w'.frozen? ⟨g, 7, none⟩ = false ∧ w'.frozen? ⟨g, 8, none⟩ = false ∧ w'.frozen? ⟨g, 9, none⟩ = false ∧ OS g gm #[.int .i64 mk, .int .i64 mid, .int .i64 mseq, .int .i64 mg, .int .i64 mwa, .int .i64 mwe, .int .i64 mam, .int .i64 mun, .int .i64 mco, .string r7] w w' :=
  ⟨(h.mb.cell 0).trans rfl, (h.mb.cell 1).trans rfl, (h.mb.cell 2).trans rfl, (h.mb.cell 3).trans rfl, (h.mb.cell 4).trans rfl, (h.mb.cell 5).trans rfl, (h.mb.cell 6).trans rfl, (h.mb.cell 7).trans rfl, (h.mb.cell 8).trans rfl, (h.mb.cell 9).trans rfl, h.ob.cv 0 (by omega), h.ob.cv 1 (by omega), h.ob.cv 2 (by omega), h.ob.cv 3 (by omega), h.ob.cv 4 (by omega), h.ob.cv 5 (by omega), h.ob.cv 6 (by omega), h.ob.cv 7 (by omega), h.ob.cv 8 (by omega), h.ob.cv 9 (by omega), h.ob.fr 0, h.ob.fr 1, h.ob.fr 2, h.ob.fr 3, h.ob.fr 4, h.ob.fr 5, h.ob.fr 6, h.ob.fr 7, h.ob.fr 8, h.ob.fr 9, h⟩
theorem OS.pickg {g gm : Nat} {mk mid mseq mg mwa mwe mam mun mco : Int} {r7 : ByteArray} {w w' : World} (hH : w'.cell? ⟨gm, 0, none⟩ = some (.int .i64 mk) ∧ w'.cell? ⟨gm, 1, none⟩ = some (.int .i64 mid) ∧ w'.cell? ⟨gm, 2, none⟩ = some (.int .i64 mseq) ∧ w'.cell? ⟨gm, 3, none⟩ = some (.int .i64 mg) ∧ w'.cell? ⟨gm, 4, none⟩ = some (.int .i64 mwa) ∧ w'.cell? ⟨gm, 5, none⟩ = some (.int .i64 mwe) ∧ w'.cell? ⟨gm, 6, none⟩ = some (.int .i64 mam) ∧ w'.cell? ⟨gm, 7, none⟩ = some (.int .i64 mun) ∧ w'.cell? ⟨gm, 8, none⟩ = some (.int .i64 mco) ∧ w'.cell? ⟨gm, 9, none⟩ = some (.string r7) ∧ w'.cell? ⟨g, 0, none⟩ = some (cv g 0 w') ∧ w'.cell? ⟨g, 1, none⟩ = some (cv g 1 w') ∧ w'.cell? ⟨g, 2, none⟩ = some (cv g 2 w') ∧ w'.cell? ⟨g, 3, none⟩ = some (cv g 3 w') ∧ w'.cell? ⟨g, 4, none⟩ = some (cv g 4 w') ∧ w'.cell? ⟨g, 5, none⟩ = some (cv g 5 w') ∧ w'.cell? ⟨g, 6, none⟩ = some (cv g 6 w') ∧ w'.cell? ⟨g, 7, none⟩ = some (cv g 7 w') ∧ w'.cell? ⟨g, 8, none⟩ = some (cv g 8 w') ∧ w'.cell? ⟨g, 9, none⟩ = some (cv g 9 w') ∧ w'.frozen? ⟨g, 0, none⟩ = false ∧ w'.frozen? ⟨g, 1, none⟩ = false ∧ w'.frozen? ⟨g, 2, none⟩ = false ∧ w'.frozen? ⟨g, 3, none⟩ = false ∧ w'.frozen? ⟨g, 4, none⟩ = false ∧ w'.frozen? ⟨g, 5, none⟩ = false ∧ w'.frozen? ⟨g, 6, none⟩ = false ∧ w'.frozen? ⟨g, 7, none⟩ = false ∧ w'.frozen? ⟨g, 8, none⟩ = false ∧ w'.frozen? ⟨g, 9, none⟩ = false ∧ OS g gm #[.int .i64 mk, .int .i64 mid, .int .i64 mseq, .int .i64 mg, .int .i64 mwa, .int .i64 mwe, .int .i64 mam, .int .i64 mun, .int .i64 mco, .string r7] w w') : OS g gm #[.int .i64 mk, .int .i64 mid, .int .i64 mseq, .int .i64 mg, .int .i64 mwa, .int .i64 mwe, .int .i64 mam, .int .i64 mun, .int .i64 mco, .string r7] w w' := hH.2.2.2.2.2.2.2.2.2.2.2.2.2.2.2.2.2.2.2.2.2.2.2.2.2.2.2.2.2.2
/-- What msgOf says of a body: the message, or that there is none. -/
def MO (s : ByteArray) (m : M) (ok : Bool) : Prop :=
  (ok = false ∧ ∃ m0 kk rest, bodyG s = (m0, kk, rest) ∧ (rest = none ∨ ∃ r, rest = some r ∧ ((r.size : Int) ≠ kk ∨ ({ m0 with note := r } : M).ok = false))) ∨
  (ok = true ∧ ∃ m0 kk r, bodyG s = (m0, kk, some r) ∧ (r.size : Int) = kk ∧ m = { m0 with note := r } ∧ m.ok = true)
def MOP (s : ByteArray) (w : World) (e : Ending) (w' : World) : Prop := ∃ (m : M) (ok : Bool), e = .returned (.tuple #[.agg #[.int .i64 m.k, .int .i64 m.id, .int .i64 m.seq, .int .i64 m.g, .int .i64 m.wa, .int .i64 m.we, .int .i64 m.am, .int .i64 m.un, .int .i64 m.co, .string m.note], .bool ok]) ∧ MO s m ok ∧ Below w.heap.size w w'
theorem tk_some {s r : ByteArray} {x : Int} (h : TF s = some (x, r)) : tk (some s) = (x, some r) := by simp [tk, h]
theorem tk_none {s : ByteArray} (h : TF s = none) : tk (some s) = (0, none) := by simp [tk, h]
theorem tk_nil : tk none = (0, none) := rfl
theorem MO.no {s : ByteArray} (h : (bodyG s).2.2 = none) : MO s M0 false := .inl ⟨rfl, _, _, _, rfl, .inl h⟩
theorem bodyG_n1 {s : ByteArray} (h : TF s = none) : (bodyG s).2.2 = none := by
  simp only [bodyG, tk_none h, tk_nil]
  split
  · rfl
  · split <;> rfl
theorem bodyG_n2 {s r1 : ByteArray} {x1 : Int} (h1 : TF s = some (x1, r1)) (h : TF r1 = none) : (bodyG s).2.2 = none := by
  simp only [bodyG, tk_some h1, tk_none h, tk_nil]
  split
  · rfl
  · split <;> rfl
theorem bodyG_n3 {s r1 r2 : ByteArray} {x1 x2 : Int} (h1 : TF s = some (x1, r1)) (h2 : TF r1 = some (x2, r2)) (h : TF r2 = none) : (bodyG s).2.2 = none := by
  simp only [bodyG, tk_some h1, tk_some h2, tk_none h, tk_nil]
  split
  · rfl
  · split <;> rfl
def T3 (s : ByteArray) (x1 x2 x3 : Int) (r1 r2 r3 : ByteArray) : Prop := TF s = some (x1, r1) ∧ TF r1 = some (x2, r2) ∧ TF r2 = some (x3, r3)
theorem bodyG_n4 {s r1 r2 r3 : ByteArray} {x1 x2 x3 : Int} (h : T3 s x1 x2 x3 r1 r2 r3) (h4 : TF r3 = none) : (bodyG s).2.2 = none := by
  obtain ⟨h1, h2, h3⟩ := h
  simp only [bodyG, tk_some h1, tk_some h2, tk_some h3, tk_none h4, tk_nil]
  split
  · rfl
  · split <;> rfl
theorem bodyG_n5 {s r1 r2 r3 r4 : ByteArray} {x1 x2 x3 x4 : Int} (h : T3 s x1 x2 x3 r1 r2 r3) (hk : x1 = 1 ∨ x1 = 3) (h4 : TF r3 = some (x4, r4)) (h5 : TF r4 = none) : (bodyG s).2.2 = none := by
  obtain ⟨h1, h2, h3⟩ := h
  simp only [bodyG, tk_some h1, tk_some h2, tk_some h3, tk_some h4, tk_none h5, tk_nil]
  rcases hk with rfl | rfl <;> rfl
theorem bodyG_n6 {s r1 r2 r3 r4 r5 : ByteArray} {x1 x2 x3 x4 x5 : Int} (h : T3 s x1 x2 x3 r1 r2 r3) (hk : x1 = 1 ∨ x1 = 3) (h4 : TF r3 = some (x4, r4)) (h5 : TF r4 = some (x5, r5)) (h6 : TF r5 = none) : (bodyG s).2.2 = none := by
  obtain ⟨h1, h2, h3⟩ := h
  simp only [bodyG, tk_some h1, tk_some h2, tk_some h3, tk_some h4, tk_some h5, tk_none h6, tk_nil]
  rcases hk with rfl | rfl <;> rfl
theorem bodyG_get {s r1 r2 r3 r4 r5 r6 : ByteArray} {x2 x3 x4 x5 x6 : Int} (h : T3 s 1 x2 x3 r1 r2 r3) (h4 : TF r3 = some (x4, r4)) (h5 : TF r4 = some (x5, r5)) (h6 : TF r5 = some (x6, r6)) : bodyG s = (⟨1, x2, x3, x4, x5, x6, 0, 0, 0, ⟨#[]⟩⟩, tk (some r6)) := by
  obtain ⟨h1, h2, h3⟩ := h
  simp only [bodyG, tk_some h1, tk_some h2, tk_some h3, tk_some h4, tk_some h5, tk_some h6, ↓reduceIte]
theorem bodyG_ans {s r1 r2 r3 r4 r5 r6 : ByteArray} {x2 x3 x4 x5 x6 : Int} (h : T3 s 3 x2 x3 r1 r2 r3) (h4 : TF r3 = some (x4, r4)) (h5 : TF r4 = some (x5, r5)) (h6 : TF r5 = some (x6, r6)) : bodyG s = (⟨3, x2, x3, 0, 0, 0, x4, x5, x6, ⟨#[]⟩⟩, tk (some r6)) := by
  obtain ⟨h1, h2, h3⟩ := h
  simp only [bodyG, tk_some h1, tk_some h2, tk_some h3, tk_some h4, tk_some h5, tk_some h6, show ¬ ((3 : Int) = 1) from by decide, ↓reduceIte]
theorem bodyG_rel {s r1 r2 r3 : ByteArray} {x1 x2 x3 : Int} (h : T3 s x1 x2 x3 r1 r2 r3) (k1 : x1 ≠ 1) (k3 : x1 ≠ 3) : bodyG s = (⟨x1, x2, x3, 0, 0, 0, 0, 0, 0, ⟨#[]⟩⟩, tk (some r3)) := by
  obtain ⟨h1, h2, h3⟩ := h
  simp only [bodyG, tk_some h1, tk_some h2, tk_some h3, if_neg k1, if_neg k3]
theorem MO.fin {s r : ByteArray} {m0 : M} (h : bodyG s = (m0, (r.size : Int), some r)) : MO s { m0 with note := r } (M.ok { m0 with note := r }) := by
  rcases h2 : M.ok { m0 with note := r } with _ | _
  · exact .inl ⟨rfl, _, _, _, h, .inr ⟨r, rfl, .inr h2⟩⟩
  · exact .inr ⟨rfl, _, _, _, h, rfl, rfl, h2⟩
set_option maxHeartbeats 8000000 in
theorem c_msgOf (s : ByteArray) (w : World) (hs : s.size ≤ 20000) : Calls Try.prog 91 #[.string s] w (MOP s w) := by
  have hu := Try.underlying28
  have hu2 := Try.underlying79
  go_enter Try.func91, Try.ntmps91
  go_upto_region 1 with fail
  have R0 : Room (w.alloc (.cells #[.int .i64 0, .int .i64 0, .int .i64 0, .int .i64 0, .int .i64 0, .int .i64 0, .int .i64 0, .int .i64 0, .int .i64 0, .string ⟨#[]⟩] 28)) w.heap.size w.heap.size 10 28 := Room.new (Nat.le_refl _) rfl
  have B0 : Below w.heap.size w (w.alloc (.cells #[.int .i64 0, .int .i64 0, .int .i64 0, .int .i64 0, .int .i64 0, .int .i64 0, .int .i64 0, .int .i64 0, .int .i64 0, .string ⟨#[]⟩] 28)) := (Below.refl _ _).alloc (Nat.le_refl _) _
  have Z0 : w.heap.size + 1 ≤ (w.alloc (.cells #[.int .i64 0, .int .i64 0, .int .i64 0, .int .i64 0, .int .i64 0, .int .i64 0, .int .i64 0, .int .i64 0, .int .i64 0, .string ⟨#[]⟩] 28)).heap.size := by simp
  generalize hg : w.heap.size = g at *
  generalize w.alloc (.cells #[.int .i64 0, .int .i64 0, .int .i64 0, .int .i64 0, .int .i64 0, .int .i64 0, .int .i64 0, .int .i64 0, .int .i64 0, .string ⟨#[]⟩] 28) = w0 at *
  go_cut [4] (fun v4 wc => v4 = .pointer (some ⟨w0.heap.size, 0, none⟩) ∧ wc = w0.alloc (.cells #[.int .i64 0, .int .i64 0, .int .i64 0, .int .i64 0, .int .i64 0, .int .i64 0, .int .i64 0, .int .i64 0, .int .i64 0, .string ⟨#[]⟩] 28))
  case first =>
    go_wp2_with fail
    go_meet
    exact ⟨rfl, rfl⟩
  case rest =>
    obtain ⟨rfl, rfl⟩ := hcut
    rename_i hK
    refine hK _ _ ?_
    clear hK
    go_step
    have hw : w.heap.size + 0 = g := hg
    have S0 : OS g w0.heap.size #[.int .i64 0, .int .i64 0, .int .i64 0, .int .i64 0, .int .i64 0, .int .i64 0, .int .i64 0, .int .i64 0, .int .i64 0, .string ⟨#[]⟩] w (w0.alloc (.cells #[.int .i64 0, .int .i64 0, .int .i64 0, .int .i64 0, .int .i64 0, .int .i64 0, .int .i64 0, .int .i64 0, .int .i64 0, .string ⟨#[]⟩] 28)) := ⟨Blk.new (Nat.zero_le _) _ _, R0.keep ((Below.refl _ _).alloc (Nat.le_refl _) _), by rw [hg]; exact B0.alloc (by omega) _, hw, by omega⟩
    clear R0 B0 Z0 hg
    generalize hgm : w0.heap.size = gm at *
    have z0 := hs
    generalize w0.alloc (.cells #[.int .i64 0, .int .i64 0, .int .i64 0, .int .i64 0, .int .i64 0, .int .i64 0, .int .i64 0, .int .i64 0, .int .i64 0, .string ⟨#[]⟩] 28) = w1 at *
    clear hgm
    go_cut [0] (fun v0 wc => ∃ (wx : World) (x1 x2 x3 : Int) (r1 r2 r3 : ByteArray), wx = wc ∧ v0 = .string r3 ∧ r3.size ≤ 20000 ∧ Hid (T3 s x1 x2 x3 r1 r2 r3) ∧ OS g gm #[.int .i64 x1, .int .i64 x2, .int .i64 x3, .int .i64 0, .int .i64 0, .int .i64 0, .int .i64 0, .int .i64 0, .int .i64 0, .string ⟨#[]⟩] w wc)
    case first =>
      go_wp2_with fail
      refine wp_loop_rounds 4 ?_
      rw [rounds_succ]
      have S0' := S0.keep ((Below.refl w1.heap.size w1).alloc (Nat.le_refl _) (.cells #[.pointer (some ⟨gm, 0, none⟩), .pointer (some ⟨gm, 1, none⟩), .pointer (some ⟨gm, 2, none⟩)] 81))
      have PB : Blk (w1.alloc (.cells #[.pointer (some ⟨gm, 0, none⟩), .pointer (some ⟨gm, 1, none⟩), .pointer (some ⟨gm, 2, none⟩)] 81)) 0 w1.heap.size #[.pointer (some ⟨gm, 0, none⟩), .pointer (some ⟨gm, 1, none⟩), .pointer (some ⟨gm, 2, none⟩)] 81 := Blk.new (Nat.zero_le _) _ _
      have pne : w1.heap.size ≠ gm := by have := S0.mb.lt; omega
      clear S0
      have S0 := S0'
      clear S0'
      generalize w1.heap.size = gp at *
      generalize w1.alloc _ = w2 at *
      have p0 := (PB.cell 0).trans (by rfl)
      go_wp2_with fail
      refine (c_takeNum _ _ z0).mono ?_; rintro e w' ⟨x1, r1, ok, hx, rfl, hb⟩; have z1 : r1.size ≤ 20000 := Nat.le_trans (TK.size hx) z0; have N1 := Lib.hid hx; have T1 := S0.keep hb; have PB' := PB.keep hb; clear PB hx S0; have PB := PB'; clear PB'
      have m := (T1.mb.cell 0).trans (by rfl)
      have f := T1.mb.frozen 0
      have PB' := PB.setf (p := ⟨gm, 0, none⟩) pne (.int .i64 x1)
      have S1 := T1.set 0 (.int .i64 x1) (ds := #[.int .i64 x1, .int .i64 0, .int .i64 0, .int .i64 0, .int .i64 0, .int .i64 0, .int .i64 0, .int .i64 0, .int .i64 0, .string ⟨#[]⟩]) rfl
      have HOB := Lib.hid S1.ob
      have HBL := Lib.hid S1.bl
      clear T1 PB hb
      have PB := PB'
      clear PB'
      cases ok
      · have HX := Lib.hid (bodyG_n1 N1.out.no)
        go_wp2_with ((with_reducible refine at_store (ty := 28) (y := .tmp 31) ?_); refine wpl_store_row rfl 28 (.tmp 2) (.tmp 31) rfl g _ rfl rfl HOB.out rfl (by kernel_rfl) (by simp [Value.oneCell']) ?_; intro hout)
        refine bodyPost_ret (v := .tuple #[.agg #[.int .i64 0, .int .i64 0, .int .i64 0, .int .i64 0, .int .i64 0, .int .i64 0, .int .i64 0, .int .i64 0, .int .i64 0, .string ⟨#[]⟩], .bool false]) (results_row2 rfl _ _ _ _ _ _ _ rfl hout.2 hu rfl (by kernel_rfl) _ rfl) rfl ⟨M0, false, rfl, ?_, below_setRow HBL.out (by omega) _⟩
        exact MO.no HX.out
      · have N1' := Lib.hid N1.out.yes
        clear N1 HOB HBL
        have p0 := (PB.cell 1).trans (by rfl)
        go_wp2_with fail
        rw [rounds_succ]
        go_wp2_with fail
        clear p0 m f
        refine (c_takeNum _ _ z1).mono ?_; rintro e w' ⟨x2, r2, ok, hx, rfl, hb⟩; have z2 : r2.size ≤ 20000 := Nat.le_trans (TK.size hx) z1; have N2 := Lib.hid hx; have T2 := S1.keep hb; have PB' := PB.keep hb; clear PB hx S1; have PB := PB'; clear PB'
        have m := (T2.mb.cell 1).trans (by rfl)
        have f := T2.mb.frozen 1
        have PB' := PB.setf (p := ⟨gm, 1, none⟩) pne (.int .i64 x2)
        have S2 := T2.set 1 (.int .i64 x2) (ds := #[.int .i64 x1, .int .i64 x2, .int .i64 0, .int .i64 0, .int .i64 0, .int .i64 0, .int .i64 0, .int .i64 0, .int .i64 0, .string ⟨#[]⟩]) rfl
        have HOB := Lib.hid S2.ob
        have HBL := Lib.hid S2.bl
        clear T2 PB hb
        have PB := PB'
        clear PB'
        cases ok
        · have HX := Lib.hid (bodyG_n2 N1'.out N2.out.no)
          go_wp2_with ((with_reducible refine at_store (ty := 28) (y := .tmp 31) ?_); refine wpl_store_row rfl 28 (.tmp 2) (.tmp 31) rfl g _ rfl rfl HOB.out rfl (by kernel_rfl) (by simp [Value.oneCell']) ?_; intro hout)
          refine bodyPost_ret (v := .tuple #[.agg #[.int .i64 0, .int .i64 0, .int .i64 0, .int .i64 0, .int .i64 0, .int .i64 0, .int .i64 0, .int .i64 0, .int .i64 0, .string ⟨#[]⟩], .bool false]) (results_row2 rfl _ _ _ _ _ _ _ rfl hout.2 hu rfl (by kernel_rfl) _ rfl) rfl ⟨M0, false, rfl, ?_, below_setRow HBL.out (by omega) _⟩
          exact MO.no HX.out
        · have N2' := Lib.hid N2.out.yes
          clear N2 HOB HBL
          have p0 := (PB.cell 2).trans (by rfl)
          go_wp2_with fail
          rw [rounds_succ]
          go_wp2_with fail
          clear p0 m f
          refine (c_takeNum _ _ z2).mono ?_; rintro e w' ⟨x3, r3, ok, hx, rfl, hb⟩; have z3 : r3.size ≤ 20000 := Nat.le_trans (TK.size hx) z2; have N3 := Lib.hid hx; have T3 := S2.keep hb; have PB' := PB.keep hb; clear PB hx S2; have PB := PB'; clear PB'
          have m := (T3.mb.cell 2).trans (by rfl)
          have f := T3.mb.frozen 2
          have PB' := PB.setf (p := ⟨gm, 2, none⟩) pne (.int .i64 x3)
          have S3 := T3.set 2 (.int .i64 x3) (ds := #[.int .i64 x1, .int .i64 x2, .int .i64 x3, .int .i64 0, .int .i64 0, .int .i64 0, .int .i64 0, .int .i64 0, .int .i64 0, .string ⟨#[]⟩]) rfl
          have HOB := Lib.hid S3.ob
          have HBL := Lib.hid S3.bl
          clear T3 PB hb
          have PB := PB'
          clear PB'
          cases ok
          · have HX := Lib.hid (bodyG_n3 N1'.out N2'.out N3.out.no)
            go_wp2_with ((with_reducible refine at_store (ty := 28) (y := .tmp 31) ?_); refine wpl_store_row rfl 28 (.tmp 2) (.tmp 31) rfl g _ rfl rfl HOB.out rfl (by kernel_rfl) (by simp [Value.oneCell']) ?_; intro hout)
            refine bodyPost_ret (v := .tuple #[.agg #[.int .i64 0, .int .i64 0, .int .i64 0, .int .i64 0, .int .i64 0, .int .i64 0, .int .i64 0, .int .i64 0, .int .i64 0, .string ⟨#[]⟩], .bool false]) (results_row2 rfl _ _ _ _ _ _ _ rfl hout.2 hu rfl (by kernel_rfl) _ rfl) rfl ⟨M0, false, rfl, ?_, below_setRow HBL.out (by omega) _⟩
            exact MO.no HX.out
          · have N3' := Lib.hid N3.out.yes
            clear N3 HOB HBL
            go_wp2_with fail
            rw [rounds_succ]
            go_wp2_with fail
            go_meet
            exact ⟨_, x1, x2, x3, r1, r2, r3, rfl, rfl, z3, Lib.hid ⟨N1'.out, N2'.out, N3'.out⟩, S3⟩
    case rest =>
      obtain ⟨w3, x1, x2, x3, r1, r2, r3, rfl, rfl, z3, N3, S3⟩ := hcut
      rename_i hK
      refine hK _ _ ?_
      clear hK S0
      go_step
      go_cut [0] (fun v0 wc => ∃ (m : M) (rr : ByteArray), v0 = .string rr ∧ m.note = ⟨#[]⟩ ∧ rr.size ≤ 20000 ∧ Hid (bodyG s = (m, tk (some rr))) ∧ OS g gm #[.int .i64 m.k, .int .i64 m.id, .int .i64 m.seq, .int .i64 m.g, .int .i64 m.wa, .int .i64 m.we, .int .i64 m.am, .int .i64 m.un, .int .i64 m.co, .string ⟨#[]⟩] w wc)
      case first =>
        by_cases hk : x1 = 1
        · subst hk
          have m0 := (S3.mb.cell 0).trans (by rfl)
          go_wp2_with (go_at_call 52; refine (own_get _ _ m0).mono ?_; rintro e w' ⟨rfl, rfl⟩)
          refine wp_loop_rounds 4 ?_
          rw [rounds_succ]
          have S3' := S3.keep (((Below.refl w3.heap.size w3).alloc (Nat.le_refl _) (.cells #[.pointer (some ⟨gm, 3, none⟩), .pointer (some ⟨gm, 4, none⟩), .pointer (some ⟨gm, 5, none⟩)] 81)).drew)
          have PB : Blk (w3.alloc (.cells #[.pointer (some ⟨gm, 3, none⟩), .pointer (some ⟨gm, 4, none⟩), .pointer (some ⟨gm, 5, none⟩)] 81)).drew 0 w3.heap.size #[.pointer (some ⟨gm, 3, none⟩), .pointer (some ⟨gm, 4, none⟩), .pointer (some ⟨gm, 5, none⟩)] 81 := (Blk.new (Nat.zero_le _) _ _).drew
          have pne : w3.heap.size ≠ gm := by have := S3.mb.lt; omega
          clear S3 m0
          have S3 := S3'
          clear S3'
          generalize w3.heap.size = gp at *
          generalize (w3.alloc _).drew = w4 at *
          have p0 := (PB.cell 0).trans (by rfl)
          go_wp2_with fail
          refine (c_takeNum _ _ z3).mono ?_; rintro e w' ⟨x4, r4, ok, hx, rfl, hb⟩; have z4 : r4.size ≤ 20000 := Nat.le_trans (TK.size hx) z3; have N4 := Lib.hid hx; have T4 := S3.keep hb; have PB' := PB.keep hb; clear PB hx S3; have PB := PB'; clear PB'
          have m := (T4.mb.cell 3).trans (by rfl)
          have f := T4.mb.frozen 3
          have PB' := PB.setf (p := ⟨gm, 3, none⟩) pne (.int .i64 x4)
          have S4 := T4.set 3 (.int .i64 x4) (ds := #[.int .i64 1, .int .i64 x2, .int .i64 x3, .int .i64 x4, .int .i64 0, .int .i64 0, .int .i64 0, .int .i64 0, .int .i64 0, .string ⟨#[]⟩]) rfl
          have HOB := Lib.hid S4.ob
          have HBL := Lib.hid S4.bl
          clear T4 PB hb
          have PB := PB'
          clear PB'
          cases ok
          · have HX := Lib.hid (bodyG_n4 N3.out N4.out.no)
            go_wp2_with ((with_reducible refine at_store (ty := 28) (y := .tmp 49) ?_); refine wpl_store_row rfl 28 (.tmp 2) (.tmp 49) rfl g _ rfl rfl HOB.out rfl (by kernel_rfl) (by simp [Value.oneCell']) ?_; intro hout)
            refine bodyPost_ret (v := .tuple #[.agg #[.int .i64 0, .int .i64 0, .int .i64 0, .int .i64 0, .int .i64 0, .int .i64 0, .int .i64 0, .int .i64 0, .int .i64 0, .string ⟨#[]⟩], .bool false]) (results_row2 rfl _ _ _ _ _ _ _ rfl hout.2 hu rfl (by kernel_rfl) _ rfl) rfl ⟨M0, false, rfl, ?_, below_setRow HBL.out (by omega) _⟩
            exact MO.no HX.out
          · have N4' := Lib.hid N4.out.yes
            clear N4 HOB HBL
            clear p0
            have p0 := (PB.cell 1).trans (by rfl)
            go_wp2_with fail
            rw [rounds_succ]
            go_wp2_with fail
            clear p0 m f
            refine (c_takeNum _ _ z4).mono ?_; rintro e w' ⟨x5, r5, ok, hx, rfl, hb⟩; have z5 : r5.size ≤ 20000 := Nat.le_trans (TK.size hx) z4; have N5 := Lib.hid hx; have T5 := S4.keep hb; have PB' := PB.keep hb; clear PB hx S4; have PB := PB'; clear PB'
            have m := (T5.mb.cell 4).trans (by rfl)
            have f := T5.mb.frozen 4
            have PB' := PB.setf (p := ⟨gm, 4, none⟩) pne (.int .i64 x5)
            have S5 := T5.set 4 (.int .i64 x5) (ds := #[.int .i64 1, .int .i64 x2, .int .i64 x3, .int .i64 x4, .int .i64 x5, .int .i64 0, .int .i64 0, .int .i64 0, .int .i64 0, .string ⟨#[]⟩]) rfl
            have HOB := Lib.hid S5.ob
            have HBL := Lib.hid S5.bl
            clear T5 PB hb
            have PB := PB'
            clear PB'
            cases ok
            · have HX := Lib.hid (bodyG_n5 N3.out (by decide) N4'.out N5.out.no)
              go_wp2_with ((with_reducible refine at_store (ty := 28) (y := .tmp 49) ?_); refine wpl_store_row rfl 28 (.tmp 2) (.tmp 49) rfl g _ rfl rfl HOB.out rfl (by kernel_rfl) (by simp [Value.oneCell']) ?_; intro hout)
              refine bodyPost_ret (v := .tuple #[.agg #[.int .i64 0, .int .i64 0, .int .i64 0, .int .i64 0, .int .i64 0, .int .i64 0, .int .i64 0, .int .i64 0, .int .i64 0, .string ⟨#[]⟩], .bool false]) (results_row2 rfl _ _ _ _ _ _ _ rfl hout.2 hu rfl (by kernel_rfl) _ rfl) rfl ⟨M0, false, rfl, ?_, below_setRow HBL.out (by omega) _⟩
              exact MO.no HX.out
            · have N5' := Lib.hid N5.out.yes
              clear N5 HOB HBL
              have p0 := (PB.cell 2).trans (by rfl)
              go_wp2_with fail
              rw [rounds_succ]
              go_wp2_with fail
              clear p0 m f
              refine (c_takeNum _ _ z5).mono ?_; rintro e w' ⟨x6, r6, ok, hx, rfl, hb⟩; have z6 : r6.size ≤ 20000 := Nat.le_trans (TK.size hx) z5; have N6 := Lib.hid hx; have T6 := S5.keep hb; have PB' := PB.keep hb; clear PB hx S5; have PB := PB'; clear PB'
              have m := (T6.mb.cell 5).trans (by rfl)
              have f := T6.mb.frozen 5
              have PB' := PB.setf (p := ⟨gm, 5, none⟩) pne (.int .i64 x6)
              have S6 := T6.set 5 (.int .i64 x6) (ds := #[.int .i64 1, .int .i64 x2, .int .i64 x3, .int .i64 x4, .int .i64 x5, .int .i64 x6, .int .i64 0, .int .i64 0, .int .i64 0, .string ⟨#[]⟩]) rfl
              have HOB := Lib.hid S6.ob
              have HBL := Lib.hid S6.bl
              clear T6 PB hb
              have PB := PB'
              clear PB'
              cases ok
              · have HX := Lib.hid (bodyG_n6 N3.out (by decide) N4'.out N5'.out N6.out.no)
                go_wp2_with ((with_reducible refine at_store (ty := 28) (y := .tmp 49) ?_); refine wpl_store_row rfl 28 (.tmp 2) (.tmp 49) rfl g _ rfl rfl HOB.out rfl (by kernel_rfl) (by simp [Value.oneCell']) ?_; intro hout)
                refine bodyPost_ret (v := .tuple #[.agg #[.int .i64 0, .int .i64 0, .int .i64 0, .int .i64 0, .int .i64 0, .int .i64 0, .int .i64 0, .int .i64 0, .int .i64 0, .string ⟨#[]⟩], .bool false]) (results_row2 rfl _ _ _ _ _ _ _ rfl hout.2 hu rfl (by kernel_rfl) _ rfl) rfl ⟨M0, false, rfl, ?_, below_setRow HBL.out (by omega) _⟩
                exact MO.no HX.out
              · have N6' := Lib.hid N6.out.yes
                clear N6 HOB HBL
                go_wp2_with fail
                rw [rounds_succ]
                go_wp2_with fail
                go_meet
                exact ⟨⟨1, x2, x3, x4, x5, x6, 0, 0, 0, ⟨#[]⟩⟩, r6, rfl, rfl, z6, Lib.hid (bodyG_get N3.out N4'.out N5'.out N6'.out), S6⟩
        · by_cases hk : x1 = 3
          · subst hk
            have m0 := (S3.mb.cell 0).trans (by rfl)
            go_wp2_with (go_at_call 52; refine (own_answer _ _ m0).mono ?_; rintro e w' ⟨rfl, rfl⟩)
            refine wp_loop_rounds 4 ?_
            rw [rounds_succ]
            have S3' := S3.keep (((Below.refl w3.heap.size w3).alloc (Nat.le_refl _) (.cells #[.pointer (some ⟨gm, 6, none⟩), .pointer (some ⟨gm, 7, none⟩), .pointer (some ⟨gm, 8, none⟩)] 81)).drew)
            have PB : Blk (w3.alloc (.cells #[.pointer (some ⟨gm, 6, none⟩), .pointer (some ⟨gm, 7, none⟩), .pointer (some ⟨gm, 8, none⟩)] 81)).drew 0 w3.heap.size #[.pointer (some ⟨gm, 6, none⟩), .pointer (some ⟨gm, 7, none⟩), .pointer (some ⟨gm, 8, none⟩)] 81 := (Blk.new (Nat.zero_le _) _ _).drew
            have pne : w3.heap.size ≠ gm := by have := S3.mb.lt; omega
            clear S3 m0
            have S3 := S3'
            clear S3'
            generalize w3.heap.size = gp at *
            generalize (w3.alloc _).drew = w4 at *
            have p0 := (PB.cell 0).trans (by rfl)
            go_wp2_with fail
            refine (c_takeNum _ _ z3).mono ?_; rintro e w' ⟨x4, r4, ok, hx, rfl, hb⟩; have z4 : r4.size ≤ 20000 := Nat.le_trans (TK.size hx) z3; have N4 := Lib.hid hx; have T4 := S3.keep hb; have PB' := PB.keep hb; clear PB hx S3; have PB := PB'; clear PB'
            have m := (T4.mb.cell 6).trans (by rfl)
            have f := T4.mb.frozen 6
            have PB' := PB.setf (p := ⟨gm, 6, none⟩) pne (.int .i64 x4)
            have S4 := T4.set 6 (.int .i64 x4) (ds := #[.int .i64 3, .int .i64 x2, .int .i64 x3, .int .i64 0, .int .i64 0, .int .i64 0, .int .i64 x4, .int .i64 0, .int .i64 0, .string ⟨#[]⟩]) rfl
            have HOB := Lib.hid S4.ob
            have HBL := Lib.hid S4.bl
            clear T4 PB hb
            have PB := PB'
            clear PB'
            cases ok
            · have HX := Lib.hid (bodyG_n4 N3.out N4.out.no)
              go_wp2_with ((with_reducible refine at_store (ty := 28) (y := .tmp 49) ?_); refine wpl_store_row rfl 28 (.tmp 2) (.tmp 49) rfl g _ rfl rfl HOB.out rfl (by kernel_rfl) (by simp [Value.oneCell']) ?_; intro hout)
              refine bodyPost_ret (v := .tuple #[.agg #[.int .i64 0, .int .i64 0, .int .i64 0, .int .i64 0, .int .i64 0, .int .i64 0, .int .i64 0, .int .i64 0, .int .i64 0, .string ⟨#[]⟩], .bool false]) (results_row2 rfl _ _ _ _ _ _ _ rfl hout.2 hu rfl (by kernel_rfl) _ rfl) rfl ⟨M0, false, rfl, ?_, below_setRow HBL.out (by omega) _⟩
              exact MO.no HX.out
            · have N4' := Lib.hid N4.out.yes
              clear N4 HOB HBL
              clear p0
              have p0 := (PB.cell 1).trans (by rfl)
              go_wp2_with fail
              rw [rounds_succ]
              go_wp2_with fail
              clear p0 m f
              refine (c_takeNum _ _ z4).mono ?_; rintro e w' ⟨x5, r5, ok, hx, rfl, hb⟩; have z5 : r5.size ≤ 20000 := Nat.le_trans (TK.size hx) z4; have N5 := Lib.hid hx; have T5 := S4.keep hb; have PB' := PB.keep hb; clear PB hx S4; have PB := PB'; clear PB'
              have m := (T5.mb.cell 7).trans (by rfl)
              have f := T5.mb.frozen 7
              have PB' := PB.setf (p := ⟨gm, 7, none⟩) pne (.int .i64 x5)
              have S5 := T5.set 7 (.int .i64 x5) (ds := #[.int .i64 3, .int .i64 x2, .int .i64 x3, .int .i64 0, .int .i64 0, .int .i64 0, .int .i64 x4, .int .i64 x5, .int .i64 0, .string ⟨#[]⟩]) rfl
              have HOB := Lib.hid S5.ob
              have HBL := Lib.hid S5.bl
              clear T5 PB hb
              have PB := PB'
              clear PB'
              cases ok
              · have HX := Lib.hid (bodyG_n5 N3.out (by decide) N4'.out N5.out.no)
                go_wp2_with ((with_reducible refine at_store (ty := 28) (y := .tmp 49) ?_); refine wpl_store_row rfl 28 (.tmp 2) (.tmp 49) rfl g _ rfl rfl HOB.out rfl (by kernel_rfl) (by simp [Value.oneCell']) ?_; intro hout)
                refine bodyPost_ret (v := .tuple #[.agg #[.int .i64 0, .int .i64 0, .int .i64 0, .int .i64 0, .int .i64 0, .int .i64 0, .int .i64 0, .int .i64 0, .int .i64 0, .string ⟨#[]⟩], .bool false]) (results_row2 rfl _ _ _ _ _ _ _ rfl hout.2 hu rfl (by kernel_rfl) _ rfl) rfl ⟨M0, false, rfl, ?_, below_setRow HBL.out (by omega) _⟩
                exact MO.no HX.out
              · have N5' := Lib.hid N5.out.yes
                clear N5 HOB HBL
                have p0 := (PB.cell 2).trans (by rfl)
                go_wp2_with fail
                rw [rounds_succ]
                go_wp2_with fail
                clear p0 m f
                refine (c_takeNum _ _ z5).mono ?_; rintro e w' ⟨x6, r6, ok, hx, rfl, hb⟩; have z6 : r6.size ≤ 20000 := Nat.le_trans (TK.size hx) z5; have N6 := Lib.hid hx; have T6 := S5.keep hb; have PB' := PB.keep hb; clear PB hx S5; have PB := PB'; clear PB'
                have m := (T6.mb.cell 8).trans (by rfl)
                have f := T6.mb.frozen 8
                have PB' := PB.setf (p := ⟨gm, 8, none⟩) pne (.int .i64 x6)
                have S6 := T6.set 8 (.int .i64 x6) (ds := #[.int .i64 3, .int .i64 x2, .int .i64 x3, .int .i64 0, .int .i64 0, .int .i64 0, .int .i64 x4, .int .i64 x5, .int .i64 x6, .string ⟨#[]⟩]) rfl
                have HOB := Lib.hid S6.ob
                have HBL := Lib.hid S6.bl
                clear T6 PB hb
                have PB := PB'
                clear PB'
                cases ok
                · have HX := Lib.hid (bodyG_n6 N3.out (by decide) N4'.out N5'.out N6.out.no)
                  go_wp2_with ((with_reducible refine at_store (ty := 28) (y := .tmp 49) ?_); refine wpl_store_row rfl 28 (.tmp 2) (.tmp 49) rfl g _ rfl rfl HOB.out rfl (by kernel_rfl) (by simp [Value.oneCell']) ?_; intro hout)
                  refine bodyPost_ret (v := .tuple #[.agg #[.int .i64 0, .int .i64 0, .int .i64 0, .int .i64 0, .int .i64 0, .int .i64 0, .int .i64 0, .int .i64 0, .int .i64 0, .string ⟨#[]⟩], .bool false]) (results_row2 rfl _ _ _ _ _ _ _ rfl hout.2 hu rfl (by kernel_rfl) _ rfl) rfl ⟨M0, false, rfl, ?_, below_setRow HBL.out (by omega) _⟩
                  exact MO.no HX.out
                · have N6' := Lib.hid N6.out.yes
                  clear N6 HOB HBL
                  go_wp2_with fail
                  rw [rounds_succ]
                  go_wp2_with fail
                  go_meet
                  exact ⟨⟨3, x2, x3, 0, 0, 0, x4, x5, x6, ⟨#[]⟩⟩, r6, rfl, rfl, z6, Lib.hid (bodyG_ans N3.out N4'.out N5'.out N6'.out), S6⟩
          · have HK1 := Lib.hid ‹¬ x1 = 1›
            have HK3 := Lib.hid hk
            have m0 := (S3.mb.cell 0).trans (by rfl)
            rename_i hk1
            clear hk hk1
            go_wp2_with (go_at_call 52; refine (own_rel _ _ _ m0 HK1.out HK3.out).mono ?_; rintro e w' ⟨rfl, rfl⟩)
            refine wp_loop_rounds 1 ?_
            rw [rounds_succ]
            go_wp2_with fail
            go_meet
            exact ⟨⟨x1, x2, x3, 0, 0, 0, 0, 0, 0, ⟨#[]⟩⟩, r3, rfl, rfl, z3, Lib.hid (bodyG_rel N3.out HK1.out HK3.out), S3⟩
      case rest =>
        obtain ⟨⟨mk, mid, mseq, mg, mwa, mwe, mam, mun, mco, note⟩, rr, rfl, hnote, z6, HB, S6⟩ := hcut
        simp only at hnote S6
        subst hnote
        clear S3 N3
        go_wp2_with fail
        refine (c_takeNum _ _ z6).mono ?_
        rintro e w' ⟨x7, r7, ok, hx, rfl, hb⟩
        have z7 : r7.size ≤ 20000 := Nat.le_trans (TK.size hx) z6
        have N7 := Lib.hid hx
        have T7 := S6.keep hb
        have HOB := Lib.hid T7.ob
        have HBL := Lib.hid T7.bl
        clear hx hb S6
        cases ok
        · have HX := Lib.hid (show (bodyG s).2.2 = none from by rw [HB.out, tk_none N7.out.no])
          go_wp2_with ((with_reducible refine at_store (ty := 28) (y := .tmp 65) ?_); refine wpl_store_row rfl 28 (.tmp 2) (.tmp 65) rfl g _ rfl rfl HOB.out rfl (by kernel_rfl) (by simp [Value.oneCell']) ?_; intro hout)
          refine bodyPost_ret (v := .tuple #[.agg #[.int .i64 0, .int .i64 0, .int .i64 0, .int .i64 0, .int .i64 0, .int .i64 0, .int .i64 0, .int .i64 0, .int .i64 0, .string ⟨#[]⟩], .bool false]) (results_row2 rfl _ _ _ _ _ _ _ rfl hout.2 hu rfl (by kernel_rfl) _ rfl) rfl ⟨M0, false, rfl, ?_, below_setRow HBL.out (by omega) _⟩
          exact MO.no HX.out
        · have HX := Lib.hid (HB.out.trans (by rw [tk_some N7.out.yes]))
          clear HB N7
          by_cases hk : x7 = (r7.size : Int)
          · subst hk
            have m9 := (T7.mb.cell 9).trans (by rfl)
            have f9 := T7.mb.frozen 9
            clear HOB HBL
            go_upto_region 20 with fail
            have S8 := T7.set 9 (.string r7) (ds := #[.int .i64 mk, .int .i64 mid, .int .i64 mseq, .int .i64 mg, .int .i64 mwa, .int .i64 mwe, .int .i64 mam, .int .i64 mun, .int .i64 mco, .string r7]) rfl
            clear m9 f9 T7
            generalize World.setCell _ _ _ = w8 at *
            have zs : r7.size ≤ 9223372036854775807 := by omega
            have U := Lib.hid hu
            go_region_held3 (fun w' => w'.cell? ⟨gm, 0, none⟩ = some (.int .i64 mk) ∧ w'.cell? ⟨gm, 1, none⟩ = some (.int .i64 mid) ∧ w'.cell? ⟨gm, 2, none⟩ = some (.int .i64 mseq) ∧ w'.cell? ⟨gm, 3, none⟩ = some (.int .i64 mg) ∧ w'.cell? ⟨gm, 4, none⟩ = some (.int .i64 mwa) ∧ w'.cell? ⟨gm, 5, none⟩ = some (.int .i64 mwe) ∧ w'.cell? ⟨gm, 6, none⟩ = some (.int .i64 mam) ∧ w'.cell? ⟨gm, 7, none⟩ = some (.int .i64 mun) ∧ w'.cell? ⟨gm, 8, none⟩ = some (.int .i64 mco) ∧ w'.cell? ⟨gm, 9, none⟩ = some (.string r7) ∧ w'.cell? ⟨g, 0, none⟩ = some (cv g 0 w') ∧ w'.cell? ⟨g, 1, none⟩ = some (cv g 1 w') ∧ w'.cell? ⟨g, 2, none⟩ = some (cv g 2 w') ∧ w'.cell? ⟨g, 3, none⟩ = some (cv g 3 w') ∧ w'.cell? ⟨g, 4, none⟩ = some (cv g 4 w') ∧ w'.cell? ⟨g, 5, none⟩ = some (cv g 5 w') ∧ w'.cell? ⟨g, 6, none⟩ = some (cv g 6 w') ∧ w'.cell? ⟨g, 7, none⟩ = some (cv g 7 w') ∧ w'.cell? ⟨g, 8, none⟩ = some (cv g 8 w') ∧ w'.cell? ⟨g, 9, none⟩ = some (cv g 9 w') ∧ w'.frozen? ⟨g, 0, none⟩ = false ∧ w'.frozen? ⟨g, 1, none⟩ = false ∧ w'.frozen? ⟨g, 2, none⟩ = false ∧ w'.frozen? ⟨g, 3, none⟩ = false ∧ w'.frozen? ⟨g, 4, none⟩ = false ∧ w'.frozen? ⟨g, 5, none⟩ = false ∧ w'.frozen? ⟨g, 6, none⟩ = false ∧ w'.frozen? ⟨g, 7, none⟩ = false ∧ w'.frozen? ⟨g, 8, none⟩ = false ∧ w'.frozen? ⟨g, 9, none⟩ = false ∧ OS g gm #[.int .i64 mk, .int .i64 mid, .int .i64 mseq, .int .i64 mg, .int .i64 mwa, .int .i64 mwe, .int .i64 mam, .int .i64 mun, .int .i64 mco, .string r7] w w') (first | (with_reducible exact (S8.keep (Below.refl _ _).drew).allg) | (with_reducible exact hB.allg) | (with_reducible exact (((((((((((OS.pickg (by assumption)).setg 0 _).setg 1 _).setg 2 _).setg 3 _).setg 4 _).setg 5 _).setg 6 _).setg 7 _).setg 8 _).setg 9 _).allg)) (first
              | (go_at_call 14; refine (c_MsgRight _ _ _ _ _ _ _ _ _ _ _ zs).mono ?_; rintro e w' ⟨rfl, hb⟩; have hB := (OS.pickg (by assumption)).keep hb)
              | fail)
            have hblk := hB.ob.stored (.int .i64 mk) (.int .i64 mid) (.int .i64 mseq) (.int .i64 mg) (.int .i64 mwa) (.int .i64 mwe) (.int .i64 mam) (.int .i64 mun) (.int .i64 mco) (.string r7)
            have HBL := Lib.hid (((((((((((hB.setg 0 (.int .i64 mk)).setg 1 (.int .i64 mid)).setg 2 (.int .i64 mseq)).setg 3 (.int .i64 mg)).setg 4 (.int .i64 mwa)).setg 5 (.int .i64 mwe)).setg 6 (.int .i64 mam)).setg 7 (.int .i64 mun)).setg 8 (.int .i64 mco)).setg 9 (.string r7)).bl)
            have HBK := Lib.hid hblk
            clear hblk hB
            generalize World.setCell _ _ _ = w9 at *
            go_wp2_with fail
            exact bodyPost_ret (v := .tuple #[.agg #[.int .i64 mk, .int .i64 mid, .int .i64 mseq, .int .i64 mg, .int .i64 mwa, .int .i64 mwe, .int .i64 mam, .int .i64 mun, .int .i64 mco, .string r7], .bool (msgB mk mid mseq mg mwa mwe mam mun mco r7.size)]) (results_row2 rfl _ _ _ _ _ _ _ rfl HBK.out.2 U.out rfl (by kernel_rfl) _ rfl) rfl ⟨⟨mk, mid, mseq, mg, mwa, mwe, mam, mun, mco, r7⟩, _, rfl, MO.fin HX.out, HBL.out⟩
          · have b9 : (x7 != (r7.size : Int)) = true := bne_iff_ne.mpr hk
            have HK := Lib.hid hk
            clear hk
            go_wp2_with ((with_reducible refine at_store (ty := 28) (y := .tmp 65) ?_); refine wpl_store_row rfl 28 (.tmp 2) (.tmp 65) rfl g _ rfl rfl HOB.out rfl (by kernel_rfl) (by simp [Value.oneCell']) ?_; intro hout)
            refine bodyPost_ret (v := .tuple #[.agg #[.int .i64 0, .int .i64 0, .int .i64 0, .int .i64 0, .int .i64 0, .int .i64 0, .int .i64 0, .int .i64 0, .int .i64 0, .string ⟨#[]⟩], .bool false]) (results_row2 rfl _ _ _ _ _ _ _ rfl hout.2 hu rfl (by kernel_rfl) _ rfl) rfl ⟨M0, false, rfl, ?_, below_setRow HBL.out (by omega) _⟩
            exact .inl ⟨rfl, _, _, _, HX.out, .inr ⟨r7, rfl, .inl (fun h => HK.out h.symm)⟩⟩
end Go.Proofs.Ytddemmmbbleofaa.C
