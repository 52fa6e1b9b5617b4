/- The law FnExactMsgsOf, walked. No condition. -/
import Derived.Test.YtddemmmbbleofaaMsgZ
import Derived.Test.YtddemmmbbleofaaOFnExactMsgsOf
namespace Go.Proofs.Ytddemmmbbleofaa.C
open Go.RowKit Go.Proofs.Ytddemmmbbleofaa.Rd
set_option maxRecDepth 100000
set_option linter.unusedVariables false
set_option linter.unusedSimpArgs false
attribute [local go_sem ↓] Go.wp_at_zero Go.wp_at_succ
/-- What is read from a text. -/
def Ans (T : ByteArray) (ms : List M) (r c : Int) : Prop := (T.size ≤ 20000 ∧ Parse T ms r c) ∨ (20000 < T.size ∧ ms = [] ∧ r = 0 ∧ c = 2)
theorem Ans.one {T : ByteArray} {ms ms' : List M} {r r' c c' : Int} (h : Ans T ms r c) (k : Ans T ms' r' c') : ms = ms' ∧ r = r' ∧ c = c' := by
  rcases h with ⟨h1, h2⟩ | ⟨h1, rfl, rfl, rfl⟩ <;> rcases k with ⟨k1, k2⟩ | ⟨k1, rfl, rfl, rfl⟩
  · exact h2.one k2
  · omega
  · omega
  · exact ⟨rfl, rfl, rfl⟩
def ALP (T : ByteArray) (w : World) (e : Ending) (w' : World) : Prop := ∃ (A : Option Addr) (cap : Nat) (ms : List M) (r c : Int), e = .returned (.agg #[.slice A ms.length cap, .int .i64 r, .int .i64 c]) ∧ Ans T ms r c ∧ OwnMs w' w.heap.size (.slice A ms.length cap) ms ∧ ms.length ≤ 20000 ∧ Below w.heap.size w w'
theorem c_ans (T : ByteArray) (w : World) : Calls Try.prog 20 #[.string T] w (ALP T w) := by
  by_cases h : T.size ≤ 20000
  · refine (c_MsgsOf T w h).mono ?_
    rintro e w' ⟨A, cap, ms, r, c, he, hp, hx⟩
    exact ⟨A, cap, ms, r, c, he, .inl ⟨h, hp⟩, hx⟩
  · refine (c_MsgsBig T w (by omega)).mono ?_
    rintro e w' ⟨rfl, hb⟩
    exact ⟨none, 0, [], 0, 2, rfl, .inr ⟨by omega, rfl, rfl, rfl⟩, World.ownsRow_nil _ _ _ _, Nat.zero_le _, hb⟩
theorem s_ans (T : ByteArray) (w : World) : Calls Try.prog 25 #[.string T] w (ALP T w) := by
  by_cases h : T.size ≤ 20000
  · refine (s_MsgsOf T w h).mono ?_
    rintro e w' ⟨A, cap, ms, r, c, he, hp, hx⟩
    exact ⟨A, cap, ms, r, c, he, .inl ⟨h, hp⟩, hx⟩
  · refine (s_MsgsBig T w (by omega)).mono ?_
    rintro e w' ⟨rfl, hb⟩
    exact ⟨none, 0, [], 0, 2, rfl, .inr ⟨by omega, rfl, rfl, rfl⟩, World.ownsRow_nil _ _ _ _, Nat.zero_le _, hb⟩
theorem OwnMs.ge {w : World} {B : Nat} {v : Value} {ms : List M} (h : OwnMs w B v ms) : ∀ i, v.ownBlock = some i → B ≤ i ∧ i < w.heap.size := by
  intro i hi
  obtain ⟨hl, ⟨e, hn⟩ | ⟨g, cap, cur, e, hb, hg, hx⟩⟩ := h
  · subst e; simp [Value.ownBlock] at hi
  · subst e
    simp [Value.ownBlock] at hi
    subst hi
    exact ⟨hb, (Array.getElem?_eq_some_iff.1 hg).1⟩
theorem OwnMs.far {w w' : World} {B : Nat} {v : Value} {ms : List M} (h : OwnMs w B v ms) {row : Option Nat} (hb : w.grownBy w' row) (hne : v.ownBlock = none ∨ v.ownBlock ≠ row) : OwnMs w' B v ms := by
  obtain ⟨hl, ⟨e, hn⟩ | ⟨g, cap, cur, e, hB, hg, hx⟩⟩ := h
  · exact ⟨hl, .inl ⟨e, hn⟩⟩
  · subst e
    have hlt := (Array.getElem?_eq_some_iff.1 hg).1
    exact ⟨hl, .inr ⟨g, cap, cur, rfl, hB, (hb.block g hlt (by rcases hne with h | h <;> simp [Value.ownBlock] at h ⊢; exact h)).trans hg, hx⟩⟩
theorem Blk.grownR {w w' : World} {B b : Nat} {cs : Array Value} {t : TypeId} (h : Blk w B b cs t) {row : Option Nat} (hb : w.grownBy w' row) (hne : some b ≠ row) : Blk w' B b cs t :=
  ⟨h.1, (hb.block b (Array.getElem?_eq_some_iff.1 h.2).1 hne).trans h.2⟩
theorem Blk.lt' {w : World} {B b : Nat} {cs : Array Value} {t : TypeId} (h : Blk w B b cs t) : b < w.heap.size := (Array.getElem?_eq_some_iff.1 h.2).1
theorem below_grownM {w a b : World} (h : Below w.heap.size w a) {row : Option Nat} (k : a.grownBy b row) (hr : ∀ i, row = some i → w.heap.size ≤ i) : Below w.heap.size w b :=
  ⟨k.os.trans h.os, k.tape.trans h.tape, k.output.trans h.output, Nat.le_trans h.size k.size, fun i hi => (k.block i (Nat.lt_of_lt_of_le hi h.size) (fun e => by have := hr i e.symm; omega)).trans (h.block i hi)⟩
theorem OwnMs.keepM {w w' : World} {B : Nat} {v : Value} {ms : List M} (hb : Below w.heap.size w w') (h : OwnMs w B v ms) : OwnMs w' B v ms := h.keep hb
set_option maxHeartbeats 4000000 in
theorem msgsOf_law (T : ByteArray) (w : World) (hT : T.size ≤ 1048576) : Calls Try.prog 7 #[.string T] w fun e w' => e = .returned (.bool true) ∧ Below w.heap.size w w' := by
  have hu := Try.underlying42
  have i0 : decide ((1048576 : Int) < T.size) = false := decide_eq_false (by omega)
  go_enter Try.func7, Try.ntmps7
  go_wp2_with fail
  refine (s_ans T _).mono ?_
  rintro e w1 ⟨A0, cap0, ms, r, c, rfl, hp, hO0, hn, hb1⟩
  have hal := (Below.refl w1.heap.size w1).alloc (Nat.le_refl _) (.cells #[.slice A0 ms.length cap0, .int .i64 r, .int .i64 c] 42)
  have P0 := Lib.hid (hO0.keep hal)
  have KB := Lib.hid (btrans hb1 hal)
  have X3 := Lib.hid (Blk.new (w := w1) (Nat.zero_le _) #[.slice A0 ms.length cap0, .int .i64 r, .int .i64 c] 42)
  have HP := Lib.hid hp
  clear hp hO0 hb1 hal i0
  go_wp2_with fail
  generalize w1.alloc _ = w2 at *
  generalize w1.heap.size = g3 at *
  refine (c_ans T _).mono ?_
  rintro e w3 ⟨A1, cap1, ms1, r1, c1, rfl, hp1, hO1, -, hb3⟩
  obtain ⟨rfl, rfl, rfl⟩ := HP.out.one hp1
  have hal := (Below.refl w3.heap.size w3).alloc (Nat.le_refl _) (.cells #[.slice A1 ms.length cap1, .int .i64 r, .int .i64 c] 42)
  have hb4 := btrans hb3 hal
  have l2 := Lib.hid (P0.out.ge)
  have l3 := Lib.hid X3.out.lt'
  have l1 := Lib.hid (hO1.ge)
  have lw := Lib.hid KB.out.size
  have P4 := Lib.hid (P0.out.keep hb4)
  have Q4 := Lib.hid (hO1.keep hal)
  have X34 := Lib.hid (X3.out.keep hb4)
  have X4 := Lib.hid (Blk.new (w := w3) (Nat.zero_le _) #[.slice A1 ms.length cap1, .int .i64 r, .int .i64 c] 42)
  have KB4 := Lib.hid (btrans KB.out hb4)
  clear hp1 hO1 hb3 hal hb4 P0 X3 KB
  go_wp2_with (first | ((with_reducible refine at_load (ty := 42) (x := .tmp 4) ?_); refine wpl_load_row rfl 42 (.tmp 4) rfl w3.heap.size rfl X4.out rfl (by kernel_rfl) hu rfl ?_) | ((with_reducible refine at_load (ty := 42) (x := .tmp 3) ?_); refine wpl_load_row rfl 42 (.tmp 3) rfl g3 rfl X34.out rfl (by kernel_rfl) hu rfl ?_))
  generalize w3.alloc _ = w4 at *
  generalize w3.heap.size = g4 at *
  refine (c_eqMsgsOut _ _ _ _ _ _ _ _ _ _ hn Q4.out P4.out).mono ?_
  rintro e w5 ⟨rfl, hb⟩
  have P5 := Lib.hid (P4.out.keep hb)
  have Q5 := Lib.hid (Q4.out.keep hb)
  have X35 := Lib.hid (X34.out.keep hb)
  have X45 := Lib.hid (X4.out.keep hb)
  have KB5 := Lib.hid (btrans KB4.out hb)
  clear hb P4 Q4 X34 X4 KB4
  go_wp2_with ((with_reducible refine at_load (ty := 42) (x := .tmp 4) ?_); refine wpl_load_row rfl 42 (.tmp 4) rfl g4 rfl X45.out rfl (by kernel_rfl) hu rfl ?_)
  refine (c_markMsgsOut _ _ _ _ _ _ _ hn Q5.out).mono ?_
  rintro e w6 ⟨rfl, hO, hg⟩
  have P6 := Lib.hid (P5.out.far hg (by
    cases e : (Value.slice A0 ms.length cap0).ownBlock with
    | none => exact .inl rfl
    | some i =>
      right
      intro e2
      have a := l2.out i e
      have b := l1.out i e2.symm
      omega))
  have Q6 := Lib.hid hO
  have X36 := Lib.hid (X35.out.grownR hg (fun e => by have := l1.out g3 e.symm; have := l3.out; omega))
  have X46 := Lib.hid (X45.out.grownR hg (fun e => by have := l1.out g4 e.symm; omega))
  have KB6 := Lib.hid (below_grownM KB5.out hg (fun i e => by have := l1.out i e; have := lw.out; omega))
  clear hO hg P5 Q5 X35 X45 KB5 l1 l2 l3 lw
  go_wp2_with ((with_reducible refine at_load (ty := 42) (x := .tmp 4) ?_); refine wpl_load_row rfl 42 (.tmp 4) rfl g4 rfl X46.out rfl (by kernel_rfl) hu rfl ?_)
  refine (c_heldMsgsOut _ _ _ _ _ _ _ hn Q6.out).mono ?_
  rintro e w7 ⟨rfl, hb⟩
  have P7 := Lib.hid (P6.out.keep hb)
  have Q7 := Lib.hid (OwnMs.keepM hb Q6.out)
  have X37 := Lib.hid (X36.out.keep hb)
  have X47 := Lib.hid (X46.out.keep hb)
  have KB7 := Lib.hid (btrans KB6.out hb)
  have b1 : decide (10 * (ms.length : Int) + 1 < 0) = false := decide_eq_false (by omega)
  have b2 : ((10 * (ms.length : Int) + 1) != (10 * (ms.length : Int) + 1)) = false := by simp
  clear hb P6 Q6 X36 X46 KB6
  go_wp2_with fail
  refine (c_ans T _).mono ?_
  rintro e w8 ⟨A2, cap2, ms1, r1, c1, rfl, hp1, hO1, -, hb8⟩
  obtain ⟨rfl, rfl, rfl⟩ := HP.out.one hp1
  have hal := (Below.refl w8.heap.size w8).alloc (Nat.le_refl _) (.cells #[.slice A2 ms.length cap2, .int .i64 r, .int .i64 c] 42)
  have hb9 := btrans hb8 hal
  have P9 := Lib.hid (P7.out.keep hb9)
  have Q9 := Lib.hid (OwnMs.keepM hb9 Q7.out)
  have R9 := Lib.hid (hO1.keep hal)
  have X39 := Lib.hid (X37.out.keep hb9)
  have X49 := Lib.hid (X47.out.keep hb9)
  have X79 := Lib.hid (Blk.new (w := w8) (Nat.zero_le _) #[.slice A2 ms.length cap2, .int .i64 r, .int .i64 c] 42)
  have KB9 := Lib.hid (btrans KB7.out hb9)
  clear hp1 hO1 hb8 hal hb9 P7 Q7 X37 X47 KB7
  go_wp2_with (first | ((with_reducible refine at_load (ty := 42) (x := .tmp 7) ?_); refine wpl_load_row rfl 42 (.tmp 7) rfl w8.heap.size rfl X79.out rfl (by kernel_rfl) hu rfl ?_) | ((with_reducible refine at_load (ty := 42) (x := .tmp 3) ?_); refine wpl_load_row rfl 42 (.tmp 3) rfl g3 rfl X39.out rfl (by kernel_rfl) hu rfl ?_))
  generalize w8.alloc _ = w9 at *
  generalize w8.heap.size = g7 at *
  refine (c_eqMsgsOut _ _ _ _ _ _ _ _ _ _ hn R9.out P9.out).mono ?_
  rintro e w10 ⟨rfl, hb⟩
  have Q10 := Lib.hid (OwnMs.keepM hb Q9.out)
  have X410 := Lib.hid (X49.out.keep hb)
  have KB10 := Lib.hid (btrans KB9.out hb)
  clear hb P9 Q9 R9 X39 X49 X79 KB9
  go_wp2_with ((with_reducible refine at_load (ty := 42) (x := .tmp 4) ?_); refine wpl_load_row rfl 42 (.tmp 4) rfl g4 rfl X410.out rfl (by kernel_rfl) hu rfl ?_)
  refine (c_heldMsgsOut _ _ _ _ _ _ _ hn Q10.out).mono ?_
  rintro e w11 ⟨rfl, hb⟩
  have KB11 := Lib.hid (btrans KB10.out hb)
  clear hb Q10 X410 KB10
  go_wp2_with fail
  go_ret
  exact ⟨rfl, KB11.out⟩
theorem l_FnExactMsgsOf : OFnExactMsgsOf.Walks := by
  rintro T w -
  by_cases g0 : T.size ≤ 1048576
  · exact msgsOf_law T w g0
  · have i0 : decide ((1048576 : Int) < T.size) = true := decide_eq_true (by omega)
    go_enter Try.func7, Try.ntmps7
    go_wp2
    go_ret
    exact ⟨rfl, Below.refl _ _⟩
end Go.Proofs.Ytddemmmbbleofaa.C
