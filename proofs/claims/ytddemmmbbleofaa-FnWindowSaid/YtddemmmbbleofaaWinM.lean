/- Lists of marks in memory; what copies one, and what tells whether one is a right history. No condition. -/
import Derived.Test.YtddemmmbbleofaaDraw
import Derived.Test.YtddemmmbbleofaaWin
import Derived.Laws.OwnMore
namespace Go.Proofs.Ytddemmmbbleofaa.C
open Go.RowKit
set_option maxRecDepth 100000
set_option linter.unusedVariables false
set_option linter.unusedSimpArgs false
attribute [local go_sem ↓] Go.wp_at_zero Go.wp_at_succ
abbrev Mk := Int × Int
/-- The mark at place i. -/
def mat (ms : List Mk) (i : Nat) : Mk := ms.getD i (0, 0)
theorem mat_of {ms : List Mk} {i : Nat} (h : i < ms.length) : ms[i]? = some (mat ms i) := by simp [mat, h]
theorem mat_eq {ms : List Mk} {i : Nat} (h : i < ms.length) : mat ms i = ms[i] := by simp [mat, h]
theorem mat_mem {ms : List Mk} {i : Nat} (h : i < ms.length) : mat ms i ∈ ms := List.mem_iff_getElem?.2 ⟨i, mat_of h⟩
/-- Marks lie at A, one behind the other. -/
def Mks (w : World) (A : Option Addr) (ms : List Mk) : Prop :=
  (A = none ∧ ms = []) ∨ ∃ g off, A = some ⟨g, off, none⟩ ∧ g < w.heap.size ∧ ∀ i, i < ms.length → w.cell? ⟨g, off + i * 2, none⟩ = some (.int .i64 (mat ms i).1) ∧ w.cell? ⟨g, off + i * 2 + 1, none⟩ = some (.int .i64 (mat ms i).2)
theorem Mks.keep {w w' : World} {A : Option Addr} {ms : List Mk} (h : Mks w A ms) (hb : Below w.heap.size w w') : Mks w' A ms := by
  rcases h with h | ⟨g, off, e, hg, hx⟩
  · exact .inl h
  · exact .inr ⟨g, off, e, Nat.lt_of_lt_of_le hg hb.size, fun i hi => ⟨(hb.cell (p := ⟨g, off + i * 2, none⟩) hg).trans (hx i hi).1, (hb.cell (p := ⟨g, off + i * 2 + 1, none⟩) hg).trans (hx i hi).2⟩⟩
theorem Mks.at {w : World} {A : Option Addr} {ms : List Mk} (h : Mks w A ms) {i : Nat} (hi : i < ms.length) :
    ∃ g off, A = some ⟨g, off, none⟩ ∧ g < w.heap.size ∧ ∀ j, j < ms.length → w.cell? ⟨g, off + j * 2, none⟩ = some (.int .i64 (mat ms j).1) ∧ w.cell? ⟨g, off + j * 2 + 1, none⟩ = some (.int .i64 (mat ms j).2) := by
  rcases h with ⟨_, rfl⟩ | h
  · simp at hi
  · exact h
def mrow (m : Mk) : List Value := [.int .i64 m.1, .int .i64 m.2]
def mrows (ms : List Mk) : List Value := ms.flatMap mrow
theorem mrows_len (ms : List Mk) : (mrows ms).length = ms.length * 2 := by
  induction ms with
  | nil => rfl
  | cons a ms ih => show (mrow a ++ mrows ms).length = _; rw [List.length_append, ih]; simp [mrow]; omega
theorem mrows_app (a b : List Mk) : mrows (a ++ b) = mrows a ++ mrows b := by simp [mrows]
theorem mrows_one (ms : List Mk) : ∀ u ∈ mrows ms, u.oneCell' = true := by
  intro u hu
  obtain ⟨m, _, hm⟩ := List.mem_flatMap.1 hu
  simp [mrow] at hm
  rcases hm with rfl | rfl <;> rfl
theorem mrows_at (ms : List Mk) : ∀ i, i < ms.length → (mrows ms)[i * 2]? = some (.int .i64 (mat ms i).1) ∧ (mrows ms)[i * 2 + 1]? = some (.int .i64 (mat ms i).2) := by
  induction ms with
  | nil => intro i hi; simp at hi
  | cons a ms ih =>
    intro i hi
    show (mrow a ++ mrows ms)[i * 2]? = _ ∧ (mrow a ++ mrows ms)[i * 2 + 1]? = _
    cases i with
    | zero => exact ⟨rfl, rfl⟩
    | succ i =>
      have := ih i (by simpa using hi)
      rw [List.getElem?_append_right (by simp [mrow]; omega), List.getElem?_append_right (by simp [mrow]; omega)]
      rw [show (i + 1) * 2 - (mrow a).length = i * 2 by simp [mrow]; omega, show (i + 1) * 2 + 1 - (mrow a).length = i * 2 + 1 by simp [mrow]; omega]
      exact this
theorem mrows_split {ms : List Mk} {j : Nat} {u : Value} (h : (mrows ms)[j]? = some u) : ∃ i, i < ms.length ∧ ((j = i * 2 ∧ u = .int .i64 (mat ms i).1) ∨ (j = i * 2 + 1 ∧ u = .int .i64 (mat ms i).2)) := by
  have hj := (List.getElem?_eq_some_iff.1 h).1
  rw [mrows_len] at hj
  have hi : j / 2 < ms.length := by omega
  have := mrows_at ms (j / 2) hi
  refine ⟨j / 2, hi, ?_⟩
  rcases Nat.mod_two_eq_zero_or_one j with h2 | h2
  · rw [show j / 2 * 2 = j by omega, h] at this
    exact .inl ⟨by omega, by simpa using this.1⟩
  · rw [show j / 2 * 2 + 1 = j by omega, h] at this
    exact .inr ⟨by omega, by simpa using this.2⟩
theorem Mks.cells {w : World} {g off : Nat} {ms : List Mk} (hx : ∀ i, i < ms.length → w.cell? ⟨g, off + i * 2, none⟩ = some (.int .i64 (mat ms i).1) ∧ w.cell? ⟨g, off + i * 2 + 1, none⟩ = some (.int .i64 (mat ms i).2)) :
    ∀ j u, (mrows ms)[j]? = some u → w.cell? ((⟨g, off, none⟩ : Addr).add j) = some u := by
  intro j u hj
  rw [Addr.add_lit]
  obtain ⟨i, hi, ⟨rfl, rfl⟩ | ⟨rfl, rfl⟩⟩ := mrows_split hj
  · exact (hx i hi).1
  · exact (hx i hi).2
/-- A list of marks of the call's own. -/
def OwnK (w : World) (B : Nat) (v : Value) (ms : List Mk) : Prop := w.ownsRow B 59 2 v ms.length (mrows ms)
theorem OwnK.keep {w w' : World} {B : Nat} {v : Value} {ms : List Mk} (h : OwnK w B v ms) (hb : Below w.heap.size w w') : OwnK w' B v ms :=
  World.ownsRow.kept h (only_below hb none) (by cases v.ownBlock; exact .inl rfl; exact .inr (by simp))
theorem OwnK.mks {w : World} {B : Nat} {v : Value} {ms : List Mk} (h : OwnK w B v ms) : ∃ A c, v = .slice A ms.length c ∧ ms.length ≤ c ∧ Mks w A ms := by
  have h0 := h
  obtain ⟨hl, ⟨rfl, hn⟩ | ⟨g, cap, cur, rfl, hb, hg, h1, h2, h3, h4⟩⟩ := h
  · have : ms = [] := List.length_eq_zero_iff.1 hn
    subst this
    exact ⟨none, 0, rfl, Nat.le_refl _, .inl ⟨rfl, rfl⟩⟩
  · refine ⟨_, cap, rfl, by omega, .inr ⟨g, 0, rfl, (World.ownsRow.lt h0 g rfl).2, fun i hi => ?_⟩⟩
    have hc := World.ownsRow.cells h0 (g := g) rfl
    have := mrows_at ms i hi
    have c0 := hc _ _ this.1
    have c1 := hc _ _ this.2
    rw [Addr.add_lit] at c0 c1
    exact ⟨by simpa using c0, by rw [show 0 + i * 2 + 1 = 0 + (i * 2 + 1) by omega]; exact c1⟩
theorem OwnK.add {w : World} {B : Nat} {v : Value} {ms : List Mk} {m : Mk} (h : w.ownsRow B 59 2 v (ms.length + 1) (mrows ms ++ mrow m)) : OwnK w B v (ms ++ [m]) := by
  unfold OwnK
  rw [mrows_app, show mrows [m] = mrow m from by simp [mrows], List.length_append]
  exact h
theorem infoMark : (Try.prog.info? 59).map (fun i => (i.zero, i.size, i.bytes)) = some (some (.agg #[.int .i64 0, .int .i64 0]), 2, 16) := by kernel_rfl
set_option maxHeartbeats 2000000 in
theorem c_Clone (A : Option Addr) (ms : List Mk) (c : Nat) (w : World) (h : Mks w A ms) (hn : ms.length ≤ 3000000) :
    Calls Try.prog 95 #[.slice A ms.length c] w fun e w' => ∃ v, e = .returned v ∧ OwnK w' w.heap.size v ms ∧ Below w.heap.size w w' := by
  have hu3 := Try.underlying52
  obtain ⟨j0, hj, hy0, hy1, hy2⟩ := info_parts infoMark
  have hq : ∀ (w : World) (a : Option Addr) (n c n' c' : Nat), (binOp .eql 52 (.slice a n c) (.slice none n' c')).run Try.prog w = .ok (.bool a.isNone) w := fun w a n c n' c' => Lib.run_eql_slice_nil w _ _ a n c n' c' hu3
  rcases h with ⟨rfl, rfl⟩ | ⟨g, off, rfl, hg, hx⟩
  · go_enter Try.func95, Try.ntmps95
    go_wp2_with fail
    go_ret
    exact ⟨_, rfl, World.ownsRow_nil _ _ _ _, Below.refl _ _⟩
  · have HC := Lib.hid (Mks.cells (w := w.alloc (.cells #[] 59)) (g := g) (off := off) (ms := ms) (fun i hi => ⟨Lib.cell?_alloc_some _ (hx i hi).1, Lib.cell?_alloc_some _ (hx i hi).2⟩))
    have c2 := Lib.hid (mrows_one ms)
    have c1 := Lib.hid (mrows_len ms)
    clear hx
    go_enter Try.func95, Try.ntmps95
    go_wp2_with (at_builtin; refine wpList_append_own _ rfl _ _ 52 rfl w.heap.size 59 j0 (.agg #[.int .i64 0, .int .i64 0]) 2 16 hu3 hj hy0 hy1 hy2 rfl (by decide) _ _ _ rfl (World.ownsRow_made w #[] 0 (Nat.le_refl _) (Nat.zero_le _) (by simp)) ⟨g, off, none⟩ ms.length c (mrows ms) rfl c1.out HC.out c2.out (by unfold maxLen; omega) (by omega) (by simp) ?_; intro v' w1 hown hgrow hnil)
    go_ret
    exact ⟨v', rfl, by simpa [OwnK] using hown, ((Below.refl _ w).alloc (Nat.le_refl _) _).grown hgrow (by simp) (by intro k hk; cases hk; exact Nat.le_refl _)⟩
/-- Is the mark at place i right, behind the one ahead of it? -/
def okAt (ms : List Mk) (i : Nat) : Bool := bIn (mat ms i).1 0 1000000 && (bIn (mat ms i).2 0 1125899906842624 && (i == 0 || decide ((mat ms (i - 1)).1 < (mat ms i).1)))
/-- Is it a right history? -/
def histB (ms : List Mk) : Bool := decide (ms.length ≤ 200) && (List.range ms.length).all (okAt ms)
theorem hist_no {ms : List Mk} {i : Nat} (hi : i < ms.length) (h : okAt ms i = false) : histB ms = false := by
  have : (List.range ms.length).all (okAt ms) = false := List.all_eq_false.2 ⟨i, List.mem_range.2 hi, by rw [h]; decide⟩
  simp [histB, this]
theorem hist_all {ms : List Mk} (h : ∀ j, j < ms.length → okAt ms j = true) : histB ms = decide (ms.length ≤ 200) := by
  have : (List.range ms.length).all (okAt ms) = true := List.all_eq_true.2 fun j hj => h j (List.mem_range.1 hj)
  simp [histB, this]
theorem s_time_v {a : Int} {b : Bool} (h : bIn a 0 1000000 = b) (w : World) : Calls Try.prog 44 #[.int .i64 a] w fun e w' => e = .returned (.bool b) ∧ w = w' := h ▸ s_time a w
theorem s_want_v {a : Int} {b : Bool} (h : bIn a 0 1125899906842624 = b) (w : World) : Calls Try.prog 85 #[.int .i64 a] w fun e w' => e = .returned (.bool b) ∧ w = w' := h ▸ s_want a w
theorem c_time_v {a : Int} {b : Bool} (h : bIn a 0 1000000 = b) (w : World) : Calls Try.prog 47 #[.int .i64 a] w fun e w' => e = .returned (.bool b) ∧ w = w' := h ▸ c_isTime a w
theorem c_want_v {a : Int} {b : Bool} (h : bIn a 0 1125899906842624 = b) (w : World) : Calls Try.prog 53 #[.int .i64 a] w fun e w' => e = .returned (.bool b) ∧ w = w' := h ▸ c_isWant a w
theorem c_in_v {a b c : Int} {r : Bool} (h : bIn a b c = r) (w : World) : Calls Try.prog 50 #[.int .i64 a, .int .i64 b, .int .i64 c] w fun e w' => e = .returned (.bool r) ∧ w = w' := h ▸ c_in a b c w
theorem prev_sub (off k : Nat) : off + (k + 1 - 1) * 2 = off + k * 2 := by rw [Nat.add_sub_cancel]
set_option maxHeartbeats 4000000 in
theorem s_hist (A : Option Addr) (ms : List Mk) (c : Nat) (w : World) (h : Mks w A ms) (hn : ms.length ≤ 3000000) :
    Calls Try.prog 69 #[.slice A ms.length c] w fun e w' => e = .returned (.bool (histB ms)) ∧ Below w.heap.size w w' := by
  have HM := Lib.hid h
  have hb := Below.refl w.heap.size w
  clear h
  by_cases h2 : ms.length ≤ 200
  · have b0 : decide ((ms.length : Int) > 200) = false := decide_eq_false (by omega)
    go_enter Try.func69, Try.ntmps69
    go_wp2_with fail
    go_loopw [3] (fun v3 wr => ∃ i : Nat, i ≤ ms.length ∧ v3 = .int .i64 i ∧ Hid (∀ j, j < i → okAt ms j = true) ∧ Hid (Below w.heap.size w wr)) (fun v3 _ => ms.length - (intOf v3).toNat)
    case atStart => exact ⟨0, by omega, rfl, Lib.hid (by intro j hj; omega), Lib.hid hb⟩
    case round =>
      obtain ⟨i, hi, rfl, KI, KB⟩ := hrel
      clear hb
      by_cases h5 : i < ms.length
      · have b1 : decide ((i : Int) < (ms.length : Int)) = true := decide_eq_true (by omega)
        obtain ⟨g, off, rfl, hg, hx⟩ := (HM.out.keep KB.out).at h5
        obtain ⟨x0, x1⟩ := hx i h5
        obtain ⟨r, hr⟩ : ∃ r, okAt ms i = r := ⟨_, rfl⟩
        have HR := Lib.hid hr
        unfold okAt at hr
        generalize hp : (mat ms i).1 = p at *
        generalize hq : (mat ms i).2 = q at *
        go_upto_region 6 with fail
        go_cut [46] (fun v46 wc => ∃ wx : World, wx = wc ∧ v46 = .bool (!r) ∧ Below wr.heap.size wr wx)
        case first =>
          have hB := Lib.hid (Below.refl wr.heap.size wr)
          rcases he1 : bIn p 0 1000000 with _ | _
          · rw [he1] at hr
            subst hr
            clear HR KI hx
            go_quiet (first | (go_at_call 44; exact quiet_left (s_time_v he1 _)) | fail)
            all_goals (go_wp2_with fail; go_meet)
            all_goals exact ⟨_, rfl, rfl, below_drewN hB.out _⟩
          rcases he2 : bIn q 0 1125899906842624 with _ | _
          · rw [he1, he2] at hr
            subst hr
            clear HR KI hx
            go_quiet (first | (go_at_call 44; exact quiet_left (s_time_v he1 _)) | (go_at_call 85; first | exact quiet_left (s_want_v he2 _) | exact quiet_add_left (s_want_v he2 _)) | fail)
            all_goals (go_wp2_with fail; go_meet)
            all_goals exact ⟨_, rfl, rfl, below_drewN hB.out _⟩
          cases i with
          | zero =>
            simp only [Nat.zero_mul, Nat.add_zero] at x0 x1
            rw [he1, he2] at hr
            subst hr
            clear HR KI hx
            go_quiet (first | (go_at_call 44; exact quiet_left (s_time_v he1 _)) | (go_at_call 85; first | exact quiet_left (s_want_v he2 _) | exact quiet_add_left (s_want_v he2 _)) | fail)
            all_goals (go_wp2_with fail; go_meet)
            all_goals exact ⟨_, rfl, rfl, below_drewN hB.out _⟩
          | succ k =>
            obtain ⟨y0, y1⟩ := hx k (by omega)
            rw [he1, he2, show k + 1 - 1 = k from rfl] at hr
            generalize hp' : (mat ms k).1 = p' at *
            have b3 : decide (((k + 1 : Nat) : Int) > 0) = true := decide_eq_true (by omega)
            have b4 : decide (p ≤ p') = !decide (p' < p) := by
              rw [← decide_not]; exact decide_eq_decide.2 (by omega)
            rcases he4 : decide (p' < p) with _ | _
            · rw [he4] at b4 hr
              subst hr
              clear HR KI hx
              go_quiet (first | (go_at_call 44; exact quiet_left (s_time_v he1 _)) | (go_at_call 85; first | exact quiet_left (s_want_v he2 _) | exact quiet_add_left (s_want_v he2 _)) | fail)
              all_goals (go_wp2_with fail; go_meet)
              all_goals exact ⟨_, rfl, rfl, below_drewN hB.out _⟩
            · rw [he4] at b4 hr
              subst hr
              clear HR KI hx
              go_quiet (first | (go_at_call 44; exact quiet_left (s_time_v he1 _)) | (go_at_call 85; first | exact quiet_left (s_want_v he2 _) | exact quiet_add_left (s_want_v he2 _)) | fail)
              all_goals (go_wp2_with fail; go_meet)
              all_goals exact ⟨_, rfl, rfl, below_drewN hB.out _⟩
        case rest =>
          obtain ⟨wx, rfl, rfl, hbx⟩ := hcut
          rename_i hKK
          refine hKK _ _ ?_
          clear hKK hx x0 x1 hr hp hq
          have KB5 := Lib.hid (btrans KB.out hbx)
          clear KB hbx
          cases r with
          | false =>
            go_wp2_with fail
            go_ret
            exact ⟨ret_bool (hist_no h5 HR.out).symm, KB5.out⟩
          | true =>
            have KI5 : Hid (∀ j, j < i + 1 → okAt ms j = true) := Lib.hid (by intro j hj; rcases Nat.lt_succ_iff_lt_or_eq.1 hj with h | rfl; exact KI.out j h; exact HR.out)
            clear KI HR
            go_wp2_with fail
            go_roundw
            case rel => exact ⟨i + 1, by omega, by go_num, KI5, KB5⟩
            case measure => simp [intOf]; omega
      · obtain rfl : i = ms.length := by omega
        have b1 : decide ((ms.length : Int) < (ms.length : Int)) = false := decide_eq_false (by omega)
        go_wp2_with fail
        go_ret
        exact ⟨ret_bool (by rw [hist_all KI.out]; exact (decide_eq_true h2).symm), KB.out⟩
  · have b0 : decide ((ms.length : Int) > 200) = true := decide_eq_true (by omega)
    go_enter Try.func69, Try.ntmps69
    go_wp2_with fail
    go_ret
    exact ⟨ret_bool (by simp [histB]; omega), hb⟩
set_option maxHeartbeats 4000000 in
theorem c_hist (A : Option Addr) (ms : List Mk) (c : Nat) (w : World) (h : Mks w A ms) (hn : ms.length ≤ 3000000) :
    Calls Try.prog 71 #[.slice A ms.length c] w fun e w' => e = .returned (.bool (histB ms)) ∧ Below w.heap.size w w' := by
  have HM := Lib.hid h
  have hb := Below.refl w.heap.size w
  clear h
  go_enter Try.func71, Try.ntmps71
  go_wp2_with fail
  go_loopw [7] (fun v3 wr => ∃ i : Nat, i ≤ ms.length ∧ v3 = .int .i64 i ∧ Hid (∀ j, j < i → okAt ms j = true) ∧ Hid (Below w.heap.size w wr)) (fun v3 _ => ms.length - (intOf v3).toNat)
  case atStart => exact ⟨0, by omega, rfl, Lib.hid (by intro j hj; omega), Lib.hid hb⟩
  case round =>
    obtain ⟨i, hi, rfl, KI, KB⟩ := hrel
    clear hb
    by_cases h5 : i < ms.length
    · have b1 : decide ((i : Int) < (ms.length : Int)) = true := decide_eq_true (by omega)
      obtain ⟨g, off, rfl, hg, hx⟩ := (HM.out.keep KB.out).at h5
      obtain ⟨x0, x1⟩ := hx i h5
      obtain ⟨r, hr⟩ : ∃ r, okAt ms i = r := ⟨_, rfl⟩
      have HR := Lib.hid hr
      unfold okAt at hr
      generalize hp : (mat ms i).1 = p at *
      generalize hq : (mat ms i).2 = q at *
      go_upto_region 4 with fail
      have hB := Lib.hid ((Below.refl wr.heap.size wr).alloc (Nat.le_refl _) (.cells #[.int .i64 p, .int .i64 q] 59))
      have hxx : ∀ j, j < ms.length → (wr.alloc (.cells #[.int .i64 p, .int .i64 q] 59)).cell? ⟨g, off + j * 2, none⟩ = some (.int .i64 (mat ms j).1) := fun j hj => Lib.cell?_alloc_some _ (hx j hj).1
      have z0 := ((Blk.new (Nat.zero_le wr.heap.size) #[.int .i64 p, .int .i64 q] 59).cell 0).trans (by rfl)
      have z1 := ((Blk.new (Nat.zero_le wr.heap.size) #[.int .i64 p, .int .i64 q] 59).cell 1).trans (by rfl)
      generalize hw1 : wr.alloc (.cells #[.int .i64 p, .int .i64 q] 59) = w1 at *
      clear hx x0 x1
      go_cut [36] (fun v46 wc => ∃ wx : World, wx = wc ∧ v46 = .bool (!r) ∧ Below wr.heap.size wr wx)
      case first =>
        clear hw1
        rcases he1 : bIn p 0 1000000 with _ | _
        · rw [he1] at hr
          subst hr
          clear HR KI hxx
          go_quiet (first | (go_at_call 47; exact quiet_left (c_time_v he1 _)) | (go_at_call 53; first | exact quiet_left (c_want_v he2 _) | exact quiet_add_left (c_want_v he2 _)) | fail)
          all_goals (go_wp2_with fail; go_meet)
          all_goals exact ⟨_, rfl, rfl, below_drewN hB.out _⟩
        rcases he2 : bIn q 0 1125899906842624 with _ | _
        · rw [he1, he2] at hr
          subst hr
          clear HR KI hxx
          go_quiet (first | (go_at_call 47; exact quiet_left (c_time_v he1 _)) | (go_at_call 53; first | exact quiet_left (c_want_v he2 _) | exact quiet_add_left (c_want_v he2 _)) | fail)
          all_goals (go_wp2_with fail; go_meet)
          all_goals exact ⟨_, rfl, rfl, below_drewN hB.out _⟩
        cases i with
        | zero =>
          rw [he1, he2] at hr
          subst hr
          clear HR KI hxx
          go_quiet (first | (go_at_call 47; exact quiet_left (c_time_v he1 _)) | (go_at_call 53; first | exact quiet_left (c_want_v he2 _) | exact quiet_add_left (c_want_v he2 _)) | fail)
          all_goals (go_wp2_with fail; go_meet)
          all_goals exact ⟨_, rfl, rfl, below_drewN hB.out _⟩
        | succ k =>
          have y0 := hxx k (by omega)
          rw [he1, he2, show k + 1 - 1 = k from rfl] at hr
          generalize hp' : (mat ms k).1 = p' at *
          have b3 : decide (((k + 1 : Nat) : Int) > 0) = true := decide_eq_true (by omega)
          have b4 : decide (p' ≥ p) = !decide (p' < p) := by
            rw [← decide_not]; exact decide_eq_decide.2 (by omega)
          rcases he4 : decide (p' < p) with _ | _
          · rw [he4] at b4 hr
            subst hr
            clear HR KI hxx
            go_quiet (first | (go_at_call 47; exact quiet_left (c_time_v he1 _)) | (go_at_call 53; first | exact quiet_left (c_want_v he2 _) | exact quiet_add_left (c_want_v he2 _)) | fail)
            all_goals (go_wp2_with fail; go_meet)
            all_goals exact ⟨_, rfl, rfl, below_drewN hB.out _⟩
          · rw [he4] at b4 hr
            subst hr
            clear HR KI hxx
            go_quiet (first | (go_at_call 47; exact quiet_left (c_time_v he1 _)) | (go_at_call 53; first | exact quiet_left (c_want_v he2 _) | exact quiet_add_left (c_want_v he2 _)) | fail)
            all_goals (go_wp2_with fail; go_meet)
            all_goals exact ⟨_, rfl, rfl, below_drewN hB.out _⟩
      case rest =>
        obtain ⟨wx, rfl, rfl, hbx⟩ := hcut
        rename_i hKK
        refine hKK _ _ ?_
        clear hKK hxx z0 z1 hr hp hq hB hw1
        have KB5 := Lib.hid (btrans KB.out hbx)
        clear KB hbx
        cases r with
        | false =>
          go_wp2_with fail
          go_ret
          exact ⟨ret_bool (hist_no h5 HR.out).symm, KB5.out⟩
        | true =>
          have KI5 : Hid (∀ j, j < i + 1 → okAt ms j = true) := Lib.hid (by intro j hj; rcases Nat.lt_succ_iff_lt_or_eq.1 hj with h | rfl; exact KI.out j h; exact HR.out)
          clear KI HR
          go_wp2_with fail
          go_roundw
          case rel => exact ⟨i + 1, by omega, by go_num, KI5, KB5⟩
          case measure => simp [intOf]; omega
    · obtain rfl : i = ms.length := by omega
      have b1 : decide ((ms.length : Int) < (ms.length : Int)) = false := decide_eq_false (by omega)
      have b2 : decide ((ms.length : Int) ≤ 200) = decide (ms.length ≤ 200) := decide_eq_decide.2 (by omega)
      go_wp2_with fail
      go_ret
      exact ⟨ret_bool (by rw [hist_all KI.out]), KB.out⟩
end Go.Proofs.Ytddemmmbbleofaa.C
