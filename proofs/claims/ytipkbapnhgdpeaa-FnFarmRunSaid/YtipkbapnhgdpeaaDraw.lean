/- What the reference draws from bytes: some number in its range; only the source's own block turns. No condition. -/
import Derived.Test.YtipkbapnhgdpeaaLaw
import Derived.LoopTactic
import Derived.Laws.AppendOwn
namespace Go.Proofs.Ytipkbapnhgdpeaa.C
open Go.RowKit
set_option maxRecDepth 100000
set_option linter.unusedVariables false
set_option linter.unusedSimpArgs false
attribute [local go_sem ↓] Go.wp_at_zero Go.wp_at_succ
/-- Bytes lie at A, outside block g. -/
def BytesAt (w : World) (A : Option Addr) (n g : Nat) : Prop := ∀ j, j < n → ∃ (ad : Addr) (x : Int), A = some ad ∧ ad.block ≠ g ∧ ad.block < w.heap.size ∧ 0 ≤ x ∧ x ≤ 255 ∧ w.cell? (ad.add j) = some (.int .u8 x)
/-- A source of draws lies in block g. -/
structure Src (w : World) (g : Nat) (A : Option Addr) (n : Nat) : Prop where
  len : n ≤ 1048600
  bytes : BytesAt w A n g
  ex : ∃ (c : Nat) (a m s : Int), Blk w 0 g #[.slice A n c, .int .i64 a, .int .u64 m, .int .i64 s] 140 ∧ 0 ≤ a ∧ a ≤ 1048600 ∧ 0 ≤ m ∧ m < 18446744073709551616 ∧ 0 ≤ s ∧ s ≤ 12
theorem bits_u64 (op : BinOp) (x y : Int) (h : ∃ z, bits op .u64 x y = IntKind.u64.wrap z) : 0 ≤ bits op .u64 x y ∧ bits op .u64 x y < 18446744073709551616 := by
  obtain ⟨z, hz⟩ := h
  rw [hz, IntKind.wrap_u64]; omega
theorem xor_u64 (x y : Int) : 0 ≤ bits .xor .u64 x y ∧ bits .xor .u64 x y < 18446744073709551616 := bits_u64 _ _ _ ⟨_, rfl⟩
theorem Src.grown {w w' : World} {g : Nat} {A : Option Addr} {n : Nat} (h : Src w g A n) (hg : w.grownBy w' (some g)) {c : Nat} {a m s : Int} (hB : Blk w' 0 g #[.slice A n c, .int .i64 a, .int .u64 m, .int .i64 s] 140) (a0 : 0 ≤ a) (a1 : a ≤ 1048600) (m0 : 0 ≤ m) (m1 : m < 18446744073709551616) (s0 : 0 ≤ s) (s1 : s ≤ 12) : Src w' g A n :=
  ⟨h.len, fun j hj => let ⟨ad, x, e, hne, hlt, x0, x1, hx⟩ := h.bytes j hj; ⟨ad, x, e, hne, Nat.lt_of_lt_of_le hlt hg.size, x0, x1, (World.cell?_of_block (hg.block (ad.add j).block (by rw [show (ad.add j).block = ad.block from by rw [Addr.add]; split <;> rfl]; exact hlt) (by rw [show (ad.add j).block = ad.block from by rw [Addr.add]; split <;> rfl]; simpa using hne))).trans hx⟩, ⟨c, a, m, s, hB, a0, a1, m0, m1, s0, s1⟩⟩
/-- The source stays, whatever else turns. -/
theorem Src.keep {w w' : World} {g : Nat} {A : Option Addr} {n : Nat} (h : Src w g A n) (hb : Below w.heap.size w w') : Src w' g A n :=
  let ⟨c, a, m, s, hB, a0, a1, m0, m1, s0, s1⟩ := h.ex
  h.grown (only_below hb _) (hB.keep hb) a0 a1 m0 m1 s0 s1
theorem Src.far {w w' : World} {g b : Nat} {A : Option Addr} {n : Nat} (h : Src w g A n) (hg : w.grownBy w' (some b)) (hne : g ≠ b) (hA : ∀ j, j < n → ∀ ad, A = some ad → ad.block ≠ b) : Src w' g A n :=
  let ⟨c, a, m, s, hB, a0, a1, m0, m1, s0, s1⟩ := h.ex
  ⟨h.len, fun j hj => let ⟨ad, x, e, hne, hlt, x0, x1, hx⟩ := h.bytes j hj; ⟨ad, x, e, hne, Nat.lt_of_lt_of_le hlt hg.size, x0, x1, (World.cell?_of_block (hg.block (ad.add j).block (by rw [show (ad.add j).block = ad.block from by rw [Addr.add]; split <;> rfl]; exact hlt) (by rw [show (ad.add j).block = ad.block from by rw [Addr.add]; split <;> rfl]; simpa using hA j hj ad e))).trans hx⟩, ⟨c, a, m, s, hB.grown hg hne, a0, a1, m0, m1, s0, s1⟩⟩
def Rnd (most : Int) (g : Nat) (A : Option Addr) (n : Nat) (w : World) (e : Ending) (w' : World) : Prop :=
  ∃ r : Int, e = .returned (.int .i64 r) ∧ 0 ≤ r ∧ (1 < most → r < most) ∧ (most ≤ 1 → r = 0) ∧ Src w' g A n ∧ w.grownBy w' (some g)
set_option maxHeartbeats 2000000 in
theorem s_n (g : Nat) (A : Option Addr) (n : Nat) (most : Int) (w : World) (h : Src w g A n) (hm : most ≤ 4611686018427387904) :
    Calls Try.prog 110 #[.pointer (some ⟨g, 0, none⟩), .int .i64 most] w (Rnd most g A n w) := by
  have hu := Try.underlying140
  obtain ⟨c, a, m, s, hB, a0, a1, m0, m1, s0, s1⟩ := h.ex
  have HB := Lib.hid hB
  have H := Lib.hid h
  clear hB h
  by_cases h1 : most ≤ 1
  · have b1 : decide (most ≤ 1) = true := decide_eq_true h1
    go_enter Try.func110, Try.ntmps110
    go_wp2
    go_ret
    exact ⟨0, rfl, by omega, by omega, fun _ => rfl, H.out, World.grownBy.refl w _⟩
  · have b1 : decide (most ≤ 1) = false := decide_eq_false h1
    have hn := H.out.len
    have hlen : ∃ N : Int, N = n := ⟨_, rfl⟩
    by_cases h2 : a < n
    · obtain ⟨ad, x, hA, hne, hlt, x0, x1, hx⟩ := H.out.bytes a.toNat (by omega)
      subst hA
      have e0 := (HB.out.cell 0).trans (by rfl)
      have e1 := (HB.out.cell 1).trans (by rfl)
      have e2 := (HB.out.cell 2).trans (by rfl)
      have f1 := HB.out.frozen 1
      have f2 := HB.out.frozen 2
      have b2 : decide (a < (n : Int)) = true := decide_eq_true h2
      go_enter Try.func110, Try.ntmps110
      go_wp2_with fail
      go_quiet (fail)
      go_wp2_with fail
      go_quiet (fail)
      go_wp2_with fail
      go_cut [] (fun wc => ∃ m' : Int, Blk wc 0 g #[.slice (some ad) n c, .int .i64 (a + 1), .int .u64 m', .int .i64 s] 140 ∧ w.grownBy wc (some g) ∧ 0 ≤ m' ∧ m' < 18446744073709551616)
      case first =>
        go_region
        all_goals (go_wp2_with fail; go_meet; exact ⟨_, ((((HB.out.drewN _).setc 1 _).setc 2 _).drew).cast rfl, only_drew (only_setCell (only_setCell (only_drewN (World.grownBy.refl w _) _) (.inl (by rfl)) _) (.inl (by rfl)) _), (xor_u64 _ _).1, (xor_u64 _ _).2⟩)
      case rest =>
        obtain ⟨m2, hB2, hG2, m02, m12⟩ := hcut
        clear e0 e1 e2 f1 f2
        try clear hx
        have HB2 := Lib.hid hB2
        have e2 := (HB2.out.cell 2).trans (by rfl)
        have f2 := HB2.out.frozen 2
        clear hB2
        go_wp2_with fail
        go_cut [] (fun wc => ∃ m' : Int, Blk wc 0 g #[.slice (some ad) n c, .int .i64 (a + 1), .int .u64 m', .int .i64 s] 140 ∧ w.grownBy wc (some g) ∧ 0 ≤ m' ∧ m' < 18446744073709551616)
        case first =>
          go_region
          all_goals (go_wp2_with fail; go_meet; exact ⟨_, ((HB2.out.setc 2 _).drew).cast rfl, only_drew (only_setCell hG2 (.inl (by rfl)) _), (xor_u64 _ _).1, (xor_u64 _ _).2⟩)
        case rest =>
          obtain ⟨m3, hB3, hG3, m03, m13⟩ := hcut
          clear e2 f2
          have HB3 := Lib.hid hB3
          have e2 := (HB3.out.cell 2).trans (by rfl)
          have f2 := HB3.out.frozen 2
          clear hB3
          go_wp2_with fail
          go_cut [] (fun wc => ∃ m' : Int, Blk wc 0 g #[.slice (some ad) n c, .int .i64 (a + 1), .int .u64 m', .int .i64 s] 140 ∧ w.grownBy wc (some g) ∧ 0 ≤ m' ∧ m' < 18446744073709551616)
          case first =>
            go_region
            all_goals (go_wp2_with fail; go_meet; exact ⟨_, ((HB3.out.setc 2 _).drew).cast rfl, only_drew (only_setCell hG3 (.inl (by rfl)) _), (xor_u64 _ _).1, (xor_u64 _ _).2⟩)
          case rest =>
            obtain ⟨m4, hB4, hG4, m04, m14⟩ := hcut
            clear e2 f2
            have HB4 := Lib.hid hB4
            have e2 := (HB4.out.cell 2).trans (by rfl)
            clear hB4
            go_wp2
            go_ret
            have q0 : 0 ≤ (x + m4 / 1048576) % most := Int.emod_nonneg _ (by omega)
            have q1 : (x + m4 / 1048576) % most < most := Int.emod_lt_of_pos _ (by omega)
            have ew : wrap64 ((x + m4 / 1048576) % most) = (x + m4 / 1048576) % most := by unfold wrap64; omega
            exact ⟨(x + m4 / 1048576) % most, by exact ret_int ew, q0, fun _ => q1, fun h => absurd h (by omega), H.out.grown hG4 HB4.out (by omega) (by omega) m04 m14 s0 s1, hG4⟩
    · have e0 := (HB.out.cell 0).trans (by rfl)
      have e1 := (HB.out.cell 1).trans (by rfl)
      have e2 := (HB.out.cell 2).trans (by rfl)
      have f1 := HB.out.frozen 1
      have f2 := HB.out.frozen 2
      have b2 : decide (a < (n : Int)) = false := decide_eq_false h2
      go_enter Try.func110, Try.ntmps110
      go_wp2_with fail
      go_quiet (fail)
      go_wp2_with fail
      go_cut [] (fun wc => ∃ m' : Int, Blk wc 0 g #[.slice A n c, .int .i64 a, .int .u64 m', .int .i64 s] 140 ∧ w.grownBy wc (some g) ∧ 0 ≤ m' ∧ m' < 18446744073709551616)
      case first =>
        go_region
        all_goals (go_wp2_with fail; go_meet; exact ⟨_, ((HB.out.drewN _).setc 2 _).cast rfl, only_setCell (only_drewN (World.grownBy.refl w _) _) (.inl (by rfl)) _, (xor_u64 _ _).1, (xor_u64 _ _).2⟩)
      case rest =>
        obtain ⟨m2, hB2, hG2, m02, m12⟩ := hcut
        clear e0 e1 e2 f1 f2
        try clear hx
        have HB2 := Lib.hid hB2
        have e2 := (HB2.out.cell 2).trans (by rfl)
        have f2 := HB2.out.frozen 2
        clear hB2
        go_wp2_with fail
        go_cut [] (fun wc => ∃ m' : Int, Blk wc 0 g #[.slice A n c, .int .i64 a, .int .u64 m', .int .i64 s] 140 ∧ w.grownBy wc (some g) ∧ 0 ≤ m' ∧ m' < 18446744073709551616)
        case first =>
          go_region
          all_goals (go_wp2_with fail; go_meet; exact ⟨_, ((HB2.out.setc 2 _).drew).cast rfl, only_drew (only_setCell hG2 (.inl (by rfl)) _), (xor_u64 _ _).1, (xor_u64 _ _).2⟩)
        case rest =>
          obtain ⟨m3, hB3, hG3, m03, m13⟩ := hcut
          clear e2 f2
          have HB3 := Lib.hid hB3
          have e2 := (HB3.out.cell 2).trans (by rfl)
          have f2 := HB3.out.frozen 2
          clear hB3
          go_wp2_with fail
          go_cut [] (fun wc => ∃ m' : Int, Blk wc 0 g #[.slice A n c, .int .i64 a, .int .u64 m', .int .i64 s] 140 ∧ w.grownBy wc (some g) ∧ 0 ≤ m' ∧ m' < 18446744073709551616)
          case first =>
            go_region
            all_goals (go_wp2_with fail; go_meet; exact ⟨_, ((HB3.out.setc 2 _).drew).cast rfl, only_drew (only_setCell hG3 (.inl (by rfl)) _), (xor_u64 _ _).1, (xor_u64 _ _).2⟩)
          case rest =>
            obtain ⟨m4, hB4, hG4, m04, m14⟩ := hcut
            clear e2 f2
            have HB4 := Lib.hid hB4
            have e2 := (HB4.out.cell 2).trans (by rfl)
            clear hB4
            go_wp2
            go_ret
            have q0 : 0 ≤ (m4 / 1048576) % most := Int.emod_nonneg _ (by omega)
            have q1 : (m4 / 1048576) % most < most := Int.emod_lt_of_pos _ (by omega)
            have ew : wrap64 ((m4 / 1048576) % most) = (m4 / 1048576) % most := by unfold wrap64; omega
            exact ⟨(m4 / 1048576) % most, by exact ret_int ew, q0, fun _ => q1, fun h => absurd h (by omega), H.out.grown hG4 HB4.out (by omega) (by omega) m04 m14 s0 s1, hG4⟩
def RndB (g : Nat) (A : Option Addr) (n : Nat) (w : World) (e : Ending) (w' : World) : Prop := ∃ r : Bool, e = .returned (.bool r) ∧ Src w' g A n ∧ w.grownBy w' (some g)
theorem s_one (g : Nat) (A : Option Addr) (n : Nat) (most : Int) (w : World) (h : Src w g A n) (hm : most ≤ 4611686018427387904) :
    Calls Try.prog 111 #[.pointer (some ⟨g, 0, none⟩), .int .i64 most] w (RndB g A n w) := by
  have H := Lib.hid h
  clear h
  go_enter Try.func111, Try.ntmps111
  go_wp2_with (go_at_call 110; refine (s_n _ _ _ _ _ H.out hm).mono ?_; rintro e w' ⟨r, rfl, r0, r1, r2, hS, hG⟩)
  go_ret
  exact ⟨_, rfl, hS, hG⟩
def RndI (g : Nat) (A : Option Addr) (n : Nat) (w : World) (e : Ending) (w' : World) : Prop := ∃ r : Int, e = .returned (.int .i64 r) ∧ -9223372036854775808 ≤ r ∧ r ≤ 9223372036854775807 ∧ Src w' g A n ∧ w.grownBy w' (some g)
/-- The numbers at limits. -/
def edgeNums : List Int := [0, 1, -1, 2, 1000, 1001, 2147483648, 2147483647, -2147483648, 4611686018427387904, 9223372036854775807, -9223372036854775808, 1000000, 1000001]
theorem edge_range (k : Nat) (h : k < 14) : ∃ r, (edgeNums.map (Value.int .i64))[k]? = some (.int .i64 r) ∧ -9223372036854775808 ≤ r ∧ r ≤ 9223372036854775807 := by
  match k, h with
  | 0, _ => exact ⟨_, rfl, by omega, by omega⟩
  | 1, _ => exact ⟨_, rfl, by omega, by omega⟩
  | 2, _ => exact ⟨_, rfl, by omega, by omega⟩
  | 3, _ => exact ⟨_, rfl, by omega, by omega⟩
  | 4, _ => exact ⟨_, rfl, by omega, by omega⟩
  | 5, _ => exact ⟨_, rfl, by omega, by omega⟩
  | 6, _ => exact ⟨_, rfl, by omega, by omega⟩
  | 7, _ => exact ⟨_, rfl, by omega, by omega⟩
  | 8, _ => exact ⟨_, rfl, by omega, by omega⟩
  | 9, _ => exact ⟨_, rfl, by omega, by omega⟩
  | 10, _ => exact ⟨_, rfl, by omega, by omega⟩
  | 11, _ => exact ⟨_, rfl, by omega, by omega⟩
  | 12, _ => exact ⟨_, rfl, by omega, by omega⟩
  | 13, _ => exact ⟨_, rfl, by omega, by omega⟩
/-- Bytes lie at A. -/
def BytesIn (w : World) (A : Option Addr) (n : Nat) : Prop := ∀ j, j < n → ∃ (ad : Addr) (x : Int), A = some ad ∧ ad.block < w.heap.size ∧ 0 ≤ x ∧ x ≤ 255 ∧ w.cell? (ad.add j) = some (.int .u8 x)
theorem BytesIn.keep {w w' : World} {A : Option Addr} {n : Nat} (h : BytesIn w A n) (hb : Below w.heap.size w w') : BytesIn w' A n := fun j hj =>
  let ⟨ad, x, e, hlt, x0, x1, hx⟩ := h j hj
  ⟨ad, x, e, Nat.lt_of_lt_of_le hlt hb.size, x0, x1, (hb.cell (by rw [show (ad.add j).block = ad.block from by rw [Addr.add]; split <;> rfl]; exact hlt)).trans hx⟩
/-- Bytes that lay before a new block came lie outside it. -/
theorem BytesIn.own {w w' : World} {A : Option Addr} {n : Nat} (h : BytesIn w A n) (hb : Below w.heap.size w w') : BytesAt w' A n w.heap.size := fun j hj =>
  let ⟨ad, x, e, hlt, x0, x1, hx⟩ := h j hj
  ⟨ad, x, e, Nat.ne_of_lt hlt, Nat.lt_of_lt_of_le hlt hb.size, x0, x1, (hb.cell (by rw [show (ad.add j).block = ad.block from by rw [Addr.add]; split <;> rfl]; exact hlt)).trans hx⟩
theorem mulwrap (x : Int) : 0 ≤ IntKind.u64.wrap x ∧ IntKind.u64.wrap x < 18446744073709551616 := by rw [IntKind.wrap_u64]; omega
def SrcIs (A : Option Addr) (n : Nat) (w : World) (e : Ending) (w' : World) : Prop := ∃ g : Nat, e = .returned (.pointer (some ⟨g, 0, none⟩)) ∧ w.heap.size ≤ g ∧ g < w'.heap.size ∧ Src w' g A n ∧ Below w.heap.size w w'
theorem src_done {w w' : World} {A : Option Addr} {n c : Nat} {m s : Int} (h : BytesIn w A n) (hn : n ≤ 1048600) (hb : Below w.heap.size w w') (hB : Blk w' 0 w.heap.size #[.slice A n c, .int .i64 0, .int .u64 m, .int .i64 s] 140) (m0 : 0 ≤ m) (m1 : m < 18446744073709551616) (s0 : 0 ≤ s) (s1 : s ≤ 12) :
    SrcIs A n w (.returned (.pointer (some ⟨w.heap.size, 0, none⟩))) w' :=
  ⟨w.heap.size, rfl, Nat.le_refl _, hB.lt, ⟨hn, h.own hb, c, 0, m, s, hB, by omega, by omega, m0, m1, s0, s1⟩, hb⟩
set_option maxHeartbeats 2000000 in
theorem s_Source (A : Option Addr) (n c : Nat) (w : World) (h : BytesIn w A n) (hn : n ≤ 1048600) :
    Calls Try.prog 67 #[.slice A n c] w (SrcIs A n w) := by
  have hu := Try.underlying140
  have H := Lib.hid h
  clear h
  go_enter Try.func67, Try.ntmps67
  go_wp2_with fail
  go_loopw [4] (fun i' wr => ∃ (k : Nat) (m : Int), k ≤ n ∧ i' = .int .i64 k ∧ Blk wr 0 w.heap.size #[.slice A n c, .int .i64 0, .int .u64 m, .int .i64 0] 140 ∧ 0 ≤ m ∧ m < 18446744073709551616 ∧ Below w.heap.size w wr) (fun i' _ => n - (intOf i').toNat)
  case atStart => exact ⟨0, 88172645463325252, Nat.zero_le _, rfl, ⟨Nat.zero_le _, Go.heap_alloc_new ..⟩, by omega, by omega, (Below.refl _ w).alloc (Nat.le_refl _) _⟩
  case round =>
    obtain ⟨k, m, hk, rfl, hB, m0, m1, hW⟩ := hrel
    have HB := Lib.hid hB
    clear hB
    by_cases hlt : k < n ∧ k < 64
    · obtain ⟨h1, h2⟩ := hlt
      have b1 : decide ((k : Int) < n) = true := decide_eq_true (by omega)
      have b2 : decide ((k : Int) < 64) = true := decide_eq_true (by omega)
      obtain ⟨ad, x, hA, hbl, x0, x1, hx⟩ := H.out.keep hW k h1
      subst hA
      have e2 := (HB.out.cell 2).trans (by rfl)
      have f2 := HB.out.frozen 2
      go_wp2_with fail
      go_region
      all_goals (go_wp2_with fail; go_roundw; case rel => exact ⟨k + 1, _, by omega, by go_num, ((HB.out.setc 2 _).drew).cast rfl, (mulwrap _).1, (mulwrap _).2, (hW.setCell (Nat.le_refl _) _).drew⟩)
      simp [intOf]; omega
    · have hW1 := Lib.hid hW
      clear hW
      have e3 := (HB.out.cell 3).trans (by rfl)
      have f3 := HB.out.frozen 3
      go_wp2_with fail
      all_goals (go_ret; first | exact src_done H.out hn (Below.setCell (p := ⟨w.heap.size, 3, none⟩) hW1.out (Nat.le_refl _) _) ((HB.out.setc 3 _).cast rfl) m0 m1 (by omega) (by omega) | exact src_done H.out hn (Below.setCell (p := ⟨w.heap.size, 3, none⟩) (Below.setCell (p := ⟨w.heap.size, 3, none⟩) hW1.out (Nat.le_refl _) _) (Nat.le_refl _) _) (((HB.out.setc 3 _).setc 3 _).cast rfl) m0 m1 (by omega) (by omega))
end Go.Proofs.Ytipkbapnhgdpeaa.C
