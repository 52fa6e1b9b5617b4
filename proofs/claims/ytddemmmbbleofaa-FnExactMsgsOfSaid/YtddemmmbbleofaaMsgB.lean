/- Messages as bytes: Msg.bytes and MsgBytes of the program, out of the printed contracts of NumBytes and MsgSum. -/
import Derived.Test.YtddemmmbbleofaaMsgR
import Derived.Test.YtddemmmbbleofaaPFnExactMsgReadx3
import Derived.Test.YtddemmmbbleofaaPFnExactMsgReadx5
import Derived.Deep.RegionHeld3
namespace Go.Proofs.Ytddemmmbbleofaa.C
open Go.RowKit
set_option maxRecDepth 100000
set_option linter.unusedVariables false
theorem nb_same (k : Nat) : ∀ (x : Int) (l : List Int), PFnExactMsgRead.impl_NumBytes.l0 k x l = PFnExactMsgRead.spec_NumBytes.l0 k x l := by
  induction k with
  | zero => intro x l; simp only [PFnExactMsgRead.impl_NumBytes.l0, PFnExactMsgRead.spec_NumBytes.l0]
  | succ k ih => intro x l; simp only [PFnExactMsgRead.impl_NumBytes.l0, PFnExactMsgRead.spec_NumBytes.l0, ih]
theorem nb_step {x : Int} (h : 128 ≤ x) (h2 : x ≤ 9223372036854775807) : wrap64 (Int.tdiv x 128) = x / 128 := by
  rw [Int.tdiv_eq_ediv_of_nonneg (by omega)]
  unfold wrap64
  omega
theorem nb_mod {x : Int} (h : 128 ≤ x) (h2 : x ≤ 9223372036854775807) : (wrap64 ((Int.tmod x 128) + 128)) % 256 = x % 128 + 128 := by
  rw [Int.tmod_eq_emod_of_nonneg (by omega)]
  unfold wrap64
  omega
/-- A number's bytes. -/
def nbl : Nat → Int → List Int
  | 0, x => [x]
  | d + 1, x => if 128 ≤ x then (x % 128 + 128) :: nbl d (x / 128) else [x]
theorem nb_ends (d : Nat) : ∀ (x : Int) (l : List Int), 0 ≤ x → x ≤ 9223372036854775807 → x < 128 ^ (d + 1) → l.length + d < 140737488355328 → PFnExactMsgRead.spec_NumBytes.l0 (d + 1) x l = some (strOfNums (l ++ nbl d x)) := by
  induction d with
  | zero =>
    intro x l h0 hx hd hl
    rw [PFnExactMsgRead.spec_NumBytes.l0, if_neg (by omega), if_pos (by omega), show nbl 0 x = [x] from rfl, show x % 256 = x from by omega]
  | succ d ih =>
    intro x l h0 hx hd hl
    by_cases h : 128 ≤ x
    · rw [PFnExactMsgRead.spec_NumBytes.l0, if_pos h, if_pos (by omega), nb_step h hx, nb_mod h hx, ih _ _ (by omega) (by omega) (by rw [Int.pow_succ] at hd; omega) (by simp; omega), show nbl (d + 1) x = (x % 128 + 128) :: nbl d (x / 128) from if_pos h]
      simp
    · rw [PFnExactMsgRead.spec_NumBytes.l0, if_neg h, if_pos (by omega), show nbl (d + 1) x = [x] from if_neg h, show x % 256 = x from by omega]
/-- A number's bytes as a text. -/
def nb (x : Int) : ByteArray := strOfNums (nbl 9 x)
theorem s_NumBytes (x : Int) (w : World) (h0 : 0 ≤ x) (h1 : x ≤ 9223372036854775807) :
    Calls Try.prog 62 #[.int .i64 x] w fun e w' => e = .returned (.string (nb x)) ∧ Below w.heap.size w w' := by
  refine PFnExactMsgRead.spec_NumBytes.calls 10 x (nb x) w ?_
  unfold PFnExactMsgRead.spec_NumBytes.f
  rw [if_neg (by omega), nb_ends 9 x [] h0 h1 (by omega) (by simp)]
  rfl
theorem c_NumBytes (x : Int) (w : World) (h0 : 0 ≤ x) (h1 : x ≤ 9223372036854775807) :
    Calls Try.prog 88 #[.int .i64 x] w fun e w' => e = .returned (.string (nb x)) ∧ Below w.heap.size w w' := by
  refine PFnExactMsgRead.impl_NumBytes.calls 10 x (nb x) w ?_
  unfold PFnExactMsgRead.impl_NumBytes.f
  rw [if_neg (by omega), nb_same, nb_ends 9 x [] h0 h1 (by omega) (by simp)]
  rfl
theorem ms_same (s : ByteArray) (hs : s.size ≤ 20000) (d : Nat) : ∀ (k : Nat) (v i : Int), 0 ≤ v → v < 4294967291 → 0 ≤ i → i ≤ s.size → (s.size : Int) - i = d → d < k →
    ∃ r, PFnExactMsgRead.spec_l11Sum.l0 k s v i = some r ∧ PFnExactMsgRead.impl_MsgSum.l0 k s v s.size i = some r ∧ 0 ≤ r ∧ r < 4294967291 := by
  induction d with
  | zero =>
    intro k v i v0 v1 h0 h1 hd hk
    obtain ⟨k, rfl⟩ : ∃ m, k = m + 1 := ⟨k - 1, by omega⟩
    refine ⟨v, ?_, ?_, v0, v1⟩
    · rw [PFnExactMsgRead.spec_l11Sum.l0, if_neg (by omega)]
    · rw [PFnExactMsgRead.impl_MsgSum.l0, if_neg (by omega)]
  | succ d ih =>
    intro k v i v0 v1 h0 h1 hd hk
    obtain ⟨k, rfl⟩ : ∃ m, k = m + 1 := ⟨k - 1, by omega⟩
    have hw : wrap64 (i + 1) = i + 1 := by unfold wrap64; omega
    have hb := Go.Proofs.YtddemmmbbleofaaW.PrintWords.bt_range s i
    have e1 : wrap64 (33 * v) = 33 * v := by unfold wrap64; omega
    have e2 : wrap64 (Go.Proofs.YtddemmmbbleofaaW.PrintWords.bt s i) = Go.Proofs.YtddemmmbbleofaaW.PrintWords.bt s i := by unfold wrap64; omega
    have e3 : wrap64 (33 * v + Go.Proofs.YtddemmmbbleofaaW.PrintWords.bt s i) = 33 * v + Go.Proofs.YtddemmmbbleofaaW.PrintWords.bt s i := by unfold wrap64; omega
    have e4 : Int.tmod (33 * v + Go.Proofs.YtddemmmbbleofaaW.PrintWords.bt s i) 4294967291 = (33 * v + Go.Proofs.YtddemmmbbleofaaW.PrintWords.bt s i) % 4294967291 := Int.tmod_eq_emod_of_nonneg (by omega)
    obtain ⟨r, h2, h3, h4⟩ := ih k (Int.tmod (wrap64 ((wrap64 (33 * v)) + (wrap64 (Go.Proofs.YtddemmmbbleofaaW.PrintWords.bt s i)))) 4294967291) (i + 1) (by
        rw [e1, e2, e3, e4]; omega) (by
        rw [e1, e2, e3, e4]; omega) (by omega) (by omega) (by omega) (by omega)
    refine ⟨r, ?_, ?_, h4⟩
    · rw [PFnExactMsgRead.spec_l11Sum.l0, if_pos (by omega), if_pos h0, hw]; exact h2
    · rw [PFnExactMsgRead.impl_MsgSum.l0, if_pos (by omega), if_pos h0, if_pos (by omega), hw]; exact h3
/-- The sum of a text. -/
def sumv (s : ByteArray) : Int := (PFnExactMsgRead.spec_l11Sum.l0 (s.size + 1) s 1 0).getD 0
theorem sumv_is (s : ByteArray) (hs : s.size ≤ 20000) : PFnExactMsgRead.spec_l11Sum.l0 (s.size + 1) s 1 0 = some (sumv s) ∧ PFnExactMsgRead.impl_MsgSum.l0 (s.size + 1) s 1 s.size 0 = some (sumv s) ∧ 0 ≤ sumv s ∧ sumv s < 4294967291 := by
  obtain ⟨r, h1, h2, h3⟩ := ms_same s hs s.size (s.size + 1) 1 0 (by omega) (by omega) (by omega) (by omega) (by omega) (by omega)
  have e : sumv s = r := by rw [sumv, h1]; rfl
  rw [e]; exact ⟨h1, h2, h3⟩
theorem s_l11Sum (s : ByteArray) (w : World) (hs : s.size ≤ 20000) : Calls Try.prog 63 #[.string s] w fun e w' => e = .returned (.int .i64 (sumv s)) ∧ Below w.heap.size w w' := by
  refine (PFnExactMsgRead.spec_l11Sum.calls (s.size + 1) s (sumv s) w (sumv_is s hs).1).mono ?_
  rintro e w' ⟨rfl, h⟩
  exact ⟨rfl, h.below⟩
theorem c_MsgSum (s : ByteArray) (w : World) (hs : s.size ≤ 20000) : Calls Try.prog 89 #[.string s] w fun e w' => e = .returned (.int .i64 (sumv s)) ∧ Below w.heap.size w w' := by
  refine (PFnExactMsgRead.impl_MsgSum.calls (s.size + 1) s (sumv s) w ?_).mono ?_
  · unfold PFnExactMsgRead.impl_MsgSum.f
    rw [if_neg (by omega)]
    exact (sumv_is s hs).2.1
  · rintro e w' ⟨rfl, h⟩
    exact ⟨rfl, h.below⟩
theorem nbl_len (d : Nat) : ∀ x, (nbl d x).length ≤ d + 1 := by
  induction d with
  | zero => intro x; simp [nbl]
  | succ d ih => intro x; rw [nbl]; split <;> simp; exact ih _
theorem nb_size (x : Int) : (nb x).size ≤ 10 := by
  have h : (nb x).size = (nbl 9 x).length := by simp [nb, strOfNums, ByteArray.size]
  rw [h]; exact nbl_len 9 x
/-- The box of a message, as it lies on: what is read of it. -/
structure MS (b : Nat) (k id seq g wa we am un co : Int) (s : ByteArray) (w0 w : World) : Prop where
  f0 : w.cell? ⟨b, 0, none⟩ = some (.int .i64 k)
  f1 : w.cell? ⟨b, 1, none⟩ = some (.int .i64 id)
  f2 : w.cell? ⟨b, 2, none⟩ = some (.int .i64 seq)
  f3 : w.cell? ⟨b, 3, none⟩ = some (.int .i64 g)
  f4 : w.cell? ⟨b, 4, none⟩ = some (.int .i64 wa)
  f5 : w.cell? ⟨b, 5, none⟩ = some (.int .i64 we)
  f6 : w.cell? ⟨b, 6, none⟩ = some (.int .i64 am)
  f7 : w.cell? ⟨b, 7, none⟩ = some (.int .i64 un)
  f8 : w.cell? ⟨b, 8, none⟩ = some (.int .i64 co)
  f9 : w.cell? ⟨b, 9, none⟩ = some (.string s)
  lt : b < w.heap.size
  bel : Below w0.heap.size w0 w
theorem MS.keep {b : Nat} {k id seq g wa we am un co : Int} {s : ByteArray} {w0 w w1 : World} (h : MS b k id seq g wa we am un co s w0 w) (hb : Below w.heap.size w w1) : MS b k id seq g wa we am un co s w0 w1 := by
  obtain ⟨hc, _⟩ := bcell hb
  exact ⟨(hc _ _ h.lt).trans h.f0, (hc _ _ h.lt).trans h.f1, (hc _ _ h.lt).trans h.f2, (hc _ _ h.lt).trans h.f3, (hc _ _ h.lt).trans h.f4, (hc _ _ h.lt).trans h.f5, (hc _ _ h.lt).trans h.f6, (hc _ _ h.lt).trans h.f7, (hc _ _ h.lt).trans h.f8, (hc _ _ h.lt).trans h.f9, Nat.lt_of_lt_of_le h.lt hb.size, btrans h.bel hb⟩
theorem MS.new (k id seq g wa we am un co : Int) (s : ByteArray) (w : World) (t : Nat) : MS w.heap.size k id seq g wa we am un co s w (w.alloc (.cells #[.int .i64 k, .int .i64 id, .int .i64 seq, .int .i64 g, .int .i64 wa, .int .i64 we, .int .i64 am, .int .i64 un, .int .i64 co, .string s] t)) :=
  ⟨by simp, by simp, by simp, by simp, by simp, by simp, by simp, by simp, by simp, by simp, by simp, (Below.refl _ _).alloc (Nat.le_refl _) _⟩
/-- The three numbers of the region, and the note's cell: what the region's walk asks. -/
def MS3 (b : Nat) (k id seq g wa we am un co : Int) (s : ByteArray) (w0 w : World) : Prop :=
  w.cell? ⟨b, 0, none⟩ = some (.int .i64 k) ∧ w.cell? ⟨b, 1, none⟩ = some (.int .i64 id) ∧ w.cell? ⟨b, 2, none⟩ = some (.int .i64 seq) ∧ w.cell? ⟨b, 9, none⟩ = some (.string s) ∧ MS b k id seq g wa we am un co s w0 w
theorem MS.three {b : Nat} {k id seq g wa we am un co : Int} {s : ByteArray} {w0 w : World} (h : MS b k id seq g wa we am un co s w0 w) : w.cell? ⟨b, 0, none⟩ = some (.int .i64 k) ∧ w.cell? ⟨b, 1, none⟩ = some (.int .i64 id) ∧ w.cell? ⟨b, 2, none⟩ = some (.int .i64 seq) ∧ w.cell? ⟨b, 9, none⟩ = some (.string s) ∧ MS b k id seq g wa we am un co s w0 w := ⟨h.f0, h.f1, h.f2, h.f9, h⟩
theorem conv4 (w : World) (a b c d : Int) : (convert 22 9 (.slice (some ⟨w.heap.size, 0, none⟩) 4 4)).run Try.prog (w.alloc (.cells #[.int .u8 a, .int .u8 b, .int .u8 c, .int .u8 d] 5)) = .ok (.string (strOfNums [a, b, c, d])) (w.alloc (.cells #[.int .u8 a, .int .u8 b, .int .u8 c, .int .u8 d] 5)) := by
  refine Go.Proofs.YtddemmmbbleofaaW.PrintWords.string_of_reads Try.underlying22 Try.underlying5 Try.underlying9 ⟨rfl, by omega, fun _ => ⟨_, rfl, ?_⟩⟩
  intro i hi
  match i, hi with
  | 0, _ => simp [Addr.add]
  | 1, _ => simp [Addr.add]
  | 2, _ => simp [Addr.add]
  | 3, _ => simp [Addr.add]
theorem so4 (a b c d : Int) : (strOfNums [a, b, c, d]).size = 4 := rfl
/-- A message's whole text, out of its counted body. -/
def mout (b : ByteArray) : ByteArray := (⟨#[87]⟩ : ByteArray) ++ b ++ strOfNums [sumv b / 16777216, sumv b / 65536 % 256, sumv b / 256 % 256, sumv b % 256]
/-- What stands between a message's three numbers and its note. -/
def mb (k : Int) (t g wa we am un co : ByteArray) : ByteArray := if k = 1 then t ++ g ++ wa ++ we else if k = 3 then t ++ am ++ un ++ co else t
/-- A message's text. -/
def mtext (k id seq g wa we am un co : Int) (s : ByteArray) : ByteArray :=
  let t := mb k (nb k ++ nb id ++ nb seq) (nb g) (nb wa) (nb we) (nb am) (nb un) (nb co) ++ (nb s.size ++ s)
  mout (nb t.size ++ t)
theorem mb_size (k : Int) {t g wa we am un co : ByteArray} (h : t.size ≤ 30) (h1 : g.size ≤ 10) (h2 : wa.size ≤ 10) (h3 : we.size ≤ 10) (h4 : am.size ≤ 10) (h5 : un.size ≤ 10) (h6 : co.size ≤ 10) : (mb k t g wa we am un co).size ≤ 60 := by
  unfold mb; split
  · simp only [ByteArray.size_append]; omega
  · split
    · simp only [ByteArray.size_append]; omega
    · omega
theorem add_ok {a b : ByteArray} {n : Nat} (h : a.size + b.size = n) (hn : n ≤ 9223372036854775807) : (a.size + b.size ≤ 9223372036854775807) = True := eq_true (by omega)
set_option maxHeartbeats 4000000 in
theorem c_bytes (k id seq g wa we am un co : Int) (s : ByteArray) (w : World) (hk : k = 1 ∨ k = 2 ∨ k = 3) (hs : s.size ≤ 40) (i0 : 0 ≤ id) (i1 : id ≤ 1000000) (q0 : 0 ≤ seq) (q1 : seq ≤ 1000000)
   (g0 : 0 ≤ g) (g1 : g ≤ 9223372036854775807) (wa0 : 0 ≤ wa) (wa1 : wa ≤ 9223372036854775807) (we0 : 0 ≤ we) (we1 : we ≤ 9223372036854775807) (am0 : 0 ≤ am) (am1 : am ≤ 9223372036854775807) (un0 : 0 ≤ un) (un1 : un ≤ 9223372036854775807) (co0 : 0 ≤ co) (co1 : co ≤ 9223372036854775807) :
    Calls Try.prog 58 #[.agg #[.int .i64 k, .int .i64 id, .int .i64 seq, .int .i64 g, .int .i64 wa, .int .i64 we, .int .i64 am, .int .i64 un, .int .i64 co, .string s]] w fun e w' => e = .returned (.string (mtext k id seq g wa we am un co s)) ∧ Below w.heap.size w w' := by
  have hu41 := Try.underlying28
  have n1 := nb_size k
  have n2 := nb_size id
  have n3 := nb_size seq
  have k0 : 0 ≤ k := by omega
  have k9 : k ≤ 3 := by omega
  have HK := Lib.hid hk
  clear hk
  have p1 : ((nb k).size + (nb id).size ≤ 9223372036854775807) = True := eq_true (by omega)
  have p3 : (9223372036854775807 < (nb k).size + (nb id).size) = False := eq_false (by omega)
  have p5 : ((nb k).size + (nb id).size + (nb seq).size ≤ 9223372036854775807) = True := eq_true (by omega)
  have p6 : (9223372036854775807 < (nb k).size + (nb id).size + (nb seq).size) = False := eq_false (by omega)
  go_enter Try.func58, Try.ntmps58
  go_wp2
  have M0 := MS.new k id seq g wa we am un co s w 28
  obtain ⟨W0, hW0⟩ : ∃ W0, W0 = w.alloc (.cells #[.int .i64 k, .int .i64 id, .int .i64 seq, .int .i64 g, .int .i64 wa, .int .i64 we, .int .i64 am, .int .i64 un, .int .i64 co, .string s] 28) := ⟨_, rfl⟩
  rw [← hW0] at M0
  rw [← hW0]
  clear hW0
  have l0 := M0.f0
  have l1 := M0.f1
  have l2 := M0.f2
  go_cut [3] (fun v3 wc => v3 = .string (nb k ++ nb id ++ nb seq) ∧ MS w.heap.size k id seq g wa we am un co s w wc)
  case first =>
    go_region_held3 (fun w' => w'.cell? ⟨w.heap.size, 0, none⟩ = some (.int .i64 k) ∧ w'.cell? ⟨w.heap.size, 1, none⟩ = some (.int .i64 id) ∧ w'.cell? ⟨w.heap.size, 2, none⟩ = some (.int .i64 seq) ∧ w'.cell? ⟨w.heap.size, 9, none⟩ = some (.string s) ∧ MS w.heap.size k id seq g wa we am un co s w w')
      (first | exact hB.three | exact (M0.keep (Below.refl _ _).drew).three)
      (first | (go_at_call 88; refine (c_NumBytes _ _ (by omega) (by omega)).mono ?_; rintro e w' ⟨rfl, hb⟩; rename_i hH _ _; have hB := hH.2.2.2.2.keep hb))
    all_goals (go_wp2_with fail; go_meet; exact ⟨rfl, by assumption⟩)
  case rest =>
    obtain ⟨rfl, M1⟩ := hcut
    clear p1 p3 p5 p6 l0 l1 l2 M0
    have H3 := Lib.hid (show (nb k ++ nb id ++ nb seq).size ≤ 30 from by rw [ByteArray.size_append, ByteArray.size_append]; omega)
    clear n1 n2 n3
    obtain ⟨t1, ht1⟩ : ∃ t1, t1 = nb k ++ nb id ++ nb seq := ⟨_, rfl⟩
    rw [← ht1] at H3
    rw [← ht1]
    have HT1 := Lib.hid ht1
    clear ht1
    have t1z := H3.out
    go_step
    go_step
    go_cut [3] (fun v3 wc2 => v3 = .string (mb k t1 (nb g) (nb wa) (nb we) (nb am) (nb un) (nb co)) ∧ MS w.heap.size k id seq g wa we am un co s w wc2)
    case first =>
      rcases HK.out with rfl | rfl | rfl
      · have l0 := M1.f0
        have q1 := nb_size g
        have q2 := nb_size wa
        have q3 := nb_size we
        have p1 : (t1.size + (nb g).size ≤ 9223372036854775807) = True := eq_true (by omega)
        have p2 : (9223372036854775807 < t1.size + (nb g).size) = False := eq_false (by omega)
        have p3 : (t1.size + (nb g).size + (nb wa).size ≤ 9223372036854775807) = True := eq_true (by omega)
        have p4 : (9223372036854775807 < t1.size + (nb g).size + (nb wa).size) = False := eq_false (by omega)
        have p5 : (t1.size + (nb g).size + (nb wa).size + (nb we).size ≤ 9223372036854775807) = True := eq_true (by omega)
        have p6 : (9223372036854775807 < t1.size + (nb g).size + (nb wa).size + (nb we).size) = False := eq_false (by omega)
        go_wp2_with (go_at_call 52; refine (own_get _ _ l0).mono ?_; rintro e w' ⟨rfl, rfl⟩)
        refine wp_loop_rounds 4 ?_
        rw [rounds_succ]
        have l3 := M1.f3
        have l4 := M1.f4
        have l5 := M1.f5
        have lt := M1.lt
        go_wp2_with fail
        refine (c_NumBytes _ _ (by omega) (by omega)).mono ?_
        rintro e w1 ⟨rfl, b1⟩
        obtain ⟨hc, hf⟩ := bcell b1
        go_wp2
        rw [rounds_succ]
        go_wp2_with fail
        refine (c_NumBytes _ _ (by omega) (by omega)).mono ?_
        rintro e w2 ⟨rfl, h2⟩
        have b2 := btrans b1 h2
        clear hc hf
        obtain ⟨hc, hf⟩ := bcell b2
        go_wp2
        rw [rounds_succ]
        go_wp2_with fail
        refine (c_NumBytes _ _ (by omega) (by omega)).mono ?_
        rintro e w3 ⟨rfl, h3⟩
        have b3 := btrans b2 h3
        clear hc hf
        obtain ⟨hc, hf⟩ := bcell b3
        go_wp2
        rw [rounds_succ]
        go_wp2
        go_meet
        exact ⟨rfl, M1.keep (btrans (((Below.refl _ wc).alloc (Nat.le_refl _) _).drew) b3)⟩
      · have l0 := M1.f0
        go_wp2_with (go_at_call 52; refine (own_rel _ 2 _ l0 (by decide) (by decide)).mono ?_; rintro e w' ⟨rfl, rfl⟩)
        refine wp_loop_rounds 1 ?_
        rw [rounds_succ]
        go_wp2
        go_meet
        exact ⟨rfl, M1⟩
      · have l0 := M1.f0
        have q1 := nb_size am
        have q2 := nb_size un
        have q3 := nb_size co
        have p1 : (t1.size + (nb am).size ≤ 9223372036854775807) = True := eq_true (by omega)
        have p2 : (9223372036854775807 < t1.size + (nb am).size) = False := eq_false (by omega)
        have p3 : (t1.size + (nb am).size + (nb un).size ≤ 9223372036854775807) = True := eq_true (by omega)
        have p4 : (9223372036854775807 < t1.size + (nb am).size + (nb un).size) = False := eq_false (by omega)
        have p5 : (t1.size + (nb am).size + (nb un).size + (nb co).size ≤ 9223372036854775807) = True := eq_true (by omega)
        have p6 : (9223372036854775807 < t1.size + (nb am).size + (nb un).size + (nb co).size) = False := eq_false (by omega)
        go_wp2_with (go_at_call 52; refine (own_answer _ _ l0).mono ?_; rintro e w' ⟨rfl, rfl⟩)
        refine wp_loop_rounds 4 ?_
        rw [rounds_succ]
        have l3 := M1.f6
        have l4 := M1.f7
        have l5 := M1.f8
        have lt := M1.lt
        go_wp2_with fail
        refine (c_NumBytes _ _ (by omega) (by omega)).mono ?_
        rintro e w1 ⟨rfl, b1⟩
        obtain ⟨hc, hf⟩ := bcell b1
        go_wp2
        rw [rounds_succ]
        go_wp2_with fail
        refine (c_NumBytes _ _ (by omega) (by omega)).mono ?_
        rintro e w2 ⟨rfl, h2⟩
        have b2 := btrans b1 h2
        clear hc hf
        obtain ⟨hc, hf⟩ := bcell b2
        go_wp2
        rw [rounds_succ]
        go_wp2_with fail
        refine (c_NumBytes _ _ (by omega) (by omega)).mono ?_
        rintro e w3 ⟨rfl, h3⟩
        have b3 := btrans b2 h3
        clear hc hf
        obtain ⟨hc, hf⟩ := bcell b3
        go_wp2
        rw [rounds_succ]
        go_wp2
        go_meet
        exact ⟨rfl, M1.keep (btrans (((Below.refl _ wc).alloc (Nat.le_refl _) _).drew) b3)⟩
    case rest =>
      obtain ⟨rfl, M2⟩ := hcut
      have Z := mb_size k (t := t1) H3.out (nb_size g) (nb_size wa) (nb_size we) (nb_size am) (nb_size un) (nb_size co)
      obtain ⟨t2, ht2⟩ : ∃ t2, t2 = mb k t1 (nb g) (nb wa) (nb we) (nb am) (nb un) (nb co) := ⟨_, rfl⟩
      rw [← ht2] at Z
      rw [← ht2]
      have HT2 := Lib.hid ht2
      clear ht2
      have l9 := M2.f9
      have z9 := nb_size s.size
      have p1 : ((nb s.size).size + s.size ≤ 9223372036854775807) = True := eq_true (by omega)
      have p2 : (9223372036854775807 < (nb s.size).size + s.size) = False := eq_false (by omega)
      have p3 : (t2.size + ((nb s.size).size + s.size) ≤ 9223372036854775807) = True := eq_true (by omega)
      have p4 : (9223372036854775807 < t2.size + ((nb s.size).size + s.size)) = False := eq_false (by omega)
      go_upto_region 7 with fail
      go_cut [3] (fun v3 wc3 => v3 = .string (t2 ++ (nb s.size ++ s)) ∧ MS w.heap.size k id seq g wa we am un co s w wc3)
      case first =>
        go_region_held3 (fun w' => w'.cell? ⟨w.heap.size, 9, none⟩ = some (.string s) ∧ MS w.heap.size k id seq g wa we am un co s w w')
          (first | exact ⟨hB.f9, hB⟩ | exact ⟨(M2.keep (Below.refl _ _).drew).f9, M2.keep (Below.refl _ _).drew⟩)
          (first | (go_at_call 88; refine (c_NumBytes _ _ (by omega) (by omega)).mono ?_; rintro e w' ⟨rfl, hb⟩; rename_i hH _ _; have hB := hH.2.keep hb))
        all_goals (go_wp2_with fail; go_meet; exact ⟨rfl, by assumption⟩)
      case rest =>
        obtain ⟨rfl, M3⟩ := hcut
        clear p1 p2 p3 p4 l9 M2
        obtain ⟨t3, ht3⟩ : ∃ t3, t3 = t2 ++ (nb s.size ++ s) := ⟨_, rfl⟩
        have z3 : t3.size ≤ 110 := by rw [ht3]; simp only [ByteArray.size_append]; omega
        rw [← ht3]
        have HT3 := Lib.hid ht3
        clear ht3
        have z4 := nb_size t3.size
        have p1 : ((nb t3.size).size + t3.size ≤ 9223372036854775807) = True := eq_true (by omega)
        have p2 : (9223372036854775807 < (nb t3.size).size + t3.size) = False := eq_false (by omega)
        go_wp2_with fail
        refine (c_NumBytes _ _ (by omega) (by omega)).mono ?_
        rintro e w4 ⟨rfl, b4⟩
        have M4 := M3.keep b4
        go_wp2_with fail
        refine (c_MsgSum _ _ (by rw [ByteArray.size_append]; omega)).mono ?_
        rintro e w5 ⟨rfl, b5⟩
        have M5 := M4.keep b5
        have hcv := fun a b c d => conv4 w5 a b c d
        have z5 : (nb t3.size ++ t3).size ≤ 120 := by rw [ByteArray.size_append]; omega
        have s1 := sumv_is (nb t3.size ++ t3) (by omega)
        have h4 := so4
        have p3 : (9223372036854775807 < 1 + ((nb t3.size).size + t3.size) + 4) = False := eq_false (by omega)
        have p4 : (1 + ((nb t3.size).size + t3.size) + 4 ≤ 9223372036854775807) = True := eq_true (by omega)
        go_wp2
        go_ret
        exact ⟨by rw [mtext, ← HT1.out, ← HT2.out, ← HT3.out]; rfl, (M5.bel).alloc (M5.bel.size) _⟩
/-- What a right message's numbers are. -/
theorem msgB_bounds {k id seq g wa we am un co : Int} {n : Nat} (h : msgB k id seq g wa we am un co n = true) :
    (k = 1 ∨ k = 2 ∨ k = 3) ∧ n ≤ 40 ∧ (0 ≤ id ∧ id ≤ 1000000) ∧ (0 ≤ seq ∧ seq ≤ 1000000) ∧ (0 ≤ g ∧ g ≤ 1000000) ∧ (0 ≤ wa ∧ wa ≤ 1125899906842624) ∧ (0 ≤ we ∧ we ≤ 1073741824) ∧ (0 ≤ am ∧ am ≤ 1125899906842624) ∧ (0 ≤ un ∧ un ≤ 1000000) ∧ (0 ≤ co ∧ co ≤ 9) := by
  simp only [msgB, Bool.and_eq_true, decide_eq_true_eq, bIn_true] at h
  obtain ⟨h1, h2, h3, h4⟩ := h
  split at h4
  · simp only [Bool.and_eq_true, Bool.or_eq_true, beq_iff_eq, bIn_true] at h4
    omega
  · split at h4
    · simp only [Bool.and_eq_true, beq_iff_eq] at h4
      omega
    · split at h4
      · simp only [Bool.and_eq_true, beq_iff_eq, bIn_true] at h4
        omega
      · cases h4
/-- What MsgBytes answers. -/
def mtextR (k id seq g wa we am un co : Int) (s : ByteArray) : ByteArray := if msgB k id seq g wa we am un co s.size = true then mtext k id seq g wa we am un co s else ⟨#[]⟩
theorem c_MsgBytes (k id seq g wa we am un co : Int) (s : ByteArray) (w : World) (hs : s.size ≤ 9223372036854775807) :
    Calls Try.prog 19 #[.agg #[.int .i64 k, .int .i64 id, .int .i64 seq, .int .i64 g, .int .i64 wa, .int .i64 we, .int .i64 am, .int .i64 un, .int .i64 co, .string s]] w fun e w' => e = .returned (.string (mtextR k id seq g wa we am un co s)) ∧ Below w.heap.size w w' := by
  have hu41 := Try.underlying28
  have M0 := MS.new k id seq g wa we am un co s w 28
  go_enter Try.func19, Try.ntmps19
  go_wp2_with fail
  refine (c_MsgRight _ _ _ _ _ _ _ _ _ _ _ hs).mono ?_
  rintro e w1 ⟨rfl, h1⟩
  have M1 := M0.keep h1
  rcases Bool.eq_false_or_eq_true (msgB k id seq g wa we am un co s.size) with hm | hm
  · have hb := Lib.hid (msgB_bounds hm)
    have M2 := M1
    obtain ⟨f0, f1, f2, f3, f4, f5, f6, f7, f8, f9, _, _⟩ := M2
    go_wp2_with fail
    obtain ⟨k0, sz, ⟨id0, id1⟩, ⟨q0, q1⟩, ⟨g0, g1⟩, ⟨wa0, wa1⟩, ⟨we0, we1⟩, ⟨am0, am1⟩, ⟨un0, un1⟩, co0, co1⟩ := hb.out
    refine (c_bytes _ _ _ _ _ _ _ _ _ _ _ k0 sz id0 id1 q0 q1 g0 (by omega) wa0 (by omega) we0 (by omega) am0 (by omega) un0 (by omega) co0 (by omega)).mono ?_
    rintro e w2 ⟨rfl, h2⟩
    have HM := Lib.hid hm
    clear hm k0
    go_wp2
    go_ret
    exact ⟨by rw [mtextR, if_pos HM.out]; rfl, (M1.keep h2).bel⟩
  · have HM : Hid (mtextR k id seq g wa we am un co s = ⟨#[]⟩) := Lib.hid (by rw [mtextR, hm]; rfl)
    go_wp2
    go_ret
    exact ⟨by rw [HM.out]; rfl, M1.bel⟩
end Go.Proofs.Ytddemmmbbleofaa.C
