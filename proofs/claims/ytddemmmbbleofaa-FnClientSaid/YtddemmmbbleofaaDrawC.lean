/- What the reference draws of clients: some client, whatever its numbers. No condition. -/
import Derived.Test.YtddemmmbbleofaaDraw
import Derived.Test.YtddemmmbbleofaaClientH
namespace Go.Proofs.Ytddemmmbbleofaa.C
open Go.RowKit
set_option maxRecDepth 100000
set_option linter.unusedVariables false
set_option linter.unusedSimpArgs false
attribute [local go_sem ↓] Go.wp_at_zero Go.wp_at_succ
/-- Ten numbers. -/
def Ten (c : Array Value) : Prop := ∃ a0 a1 a2 a3 a4 a5 a6 a7 a8 a9 : Int, c = #[.int .i64 a0, .int .i64 a1, .int .i64 a2, .int .i64 a3, .int .i64 a4, .int .i64 a5, .int .i64 a6, .int .i64 a7, .int .i64 a8, .int .i64 a9]
/-- Ten numbers, nine numbers, a text, a Bool, a number. -/
def Out (c : Array Value) : Prop := ∃ (a0 a1 a2 a3 a4 a5 a6 a7 a8 a9 b0 b1 b2 b3 b4 b5 b6 b7 b8 co : Int) (s : ByteArray) (q : Bool), c = #[.int .i64 a0, .int .i64 a1, .int .i64 a2, .int .i64 a3, .int .i64 a4, .int .i64 a5, .int .i64 a6, .int .i64 a7, .int .i64 a8, .int .i64 a9, .int .i64 b0, .int .i64 b1, .int .i64 b2, .int .i64 b3, .int .i64 b4, .int .i64 b5, .int .i64 b6, .int .i64 b7, .int .i64 b8, .string s, .bool q, .int .i64 co]
theorem Out.size {c : Array Value} (h : Out c) : c.size = 22 := by
  obtain ⟨a0, a1, a2, a3, a4, a5, a6, a7, a8, a9, b0, b1, b2, b3, b4, b5, b6, b7, b8, co, s, q, rfl⟩ := h; rfl
theorem Out.one {c : Array Value} (h : Out c) : c.all (·.oneCell') = true := by
  obtain ⟨a0, a1, a2, a3, a4, a5, a6, a7, a8, a9, b0, b1, b2, b3, b4, b5, b6, b7, b8, co, s, q, rfl⟩ := h; simp [Value.oneCell']
theorem s_ask_any (a0 a1 a2 a3 a4 a5 a6 a7 a8 a9 now : Int) (w : World) : Calls Try.prog 11 #[.agg #[.int .i64 a0, .int .i64 a1, .int .i64 a2, .int .i64 a3, .int .i64 a4, .int .i64 a5, .int .i64 a6, .int .i64 a7, .int .i64 a8, .int .i64 a9], .int .i64 now] w fun e w' => ∃ r, e = .returned (.agg r) ∧ Out r ∧ Below w.heap.size w w' := by
  by_cases hr : (clB a0 a1 a2 a3 a4 a5 a6 a7 a8 a9 && bIn now 0 1000000) = true
  · by_cases h9 : a9 = 1000000
    · exact (s_ask_state _ _ _ _ _ _ _ _ _ _ _ w hr h9).mono fun e w' ⟨he, hb⟩ => ⟨_, he, ⟨_, _, _, _, _, _, _, _, _, _, _, _, _, _, _, _, _, _, _, _, _, _, rfl⟩, hb⟩
    · by_cases h7 : now < a7
      · exact (s_ask_wait _ _ _ _ _ _ _ _ _ _ _ w hr h9 h7).mono fun e w' ⟨he, hb⟩ => ⟨_, he, ⟨_, _, _, _, _, _, _, _, _, _, _, _, _, _, _, _, _, _, _, _, _, _, rfl⟩, hb⟩
      · exact (s_ask_goes _ _ _ _ _ _ _ _ _ _ _ w hr h9 (by omega)).mono fun e w' ⟨he, hb⟩ => ⟨_, he, ⟨_, _, _, _, _, _, _, _, _, _, _, _, _, _, _, _, _, _, _, _, _, _, rfl⟩, hb⟩
  · exact (s_ask_form _ _ _ _ _ _ _ _ _ _ _ w (Bool.eq_false_iff.mpr hr)).mono fun e w' ⟨he, hb⟩ => ⟨_, he, ⟨_, _, _, _, _, _, _, _, _, _, _, _, _, _, _, _, _, _, _, _, _, _, rfl⟩, hb⟩
theorem s_hear_any (a0 a1 a2 a3 a4 a5 a6 a7 a8 a9 now k id seq g wa we am un co : Int) (s : ByteArray) (w : World) (hs : s.size ≤ 9223372036854775807) : Calls Try.prog 81 #[.agg #[.int .i64 a0, .int .i64 a1, .int .i64 a2, .int .i64 a3, .int .i64 a4, .int .i64 a5, .int .i64 a6, .int .i64 a7, .int .i64 a8, .int .i64 a9], .int .i64 now, .agg #[.int .i64 k, .int .i64 id, .int .i64 seq, .int .i64 g, .int .i64 wa, .int .i64 we, .int .i64 am, .int .i64 un, .int .i64 co, .string s]] w fun e w' => ∃ r, e = .returned (.agg r) ∧ Out r ∧ Below w.heap.size w w' := by
  by_cases hr : (clB a0 a1 a2 a3 a4 a5 a6 a7 a8 a9 && (msgB k id seq g wa we am un co s.size && bIn now 0 1000000)) = true
  · obtain ⟨h1, h23⟩ := Bool.and_eq_true_iff.mp hr
    obtain ⟨h2, h3⟩ := Bool.and_eq_true_iff.mp h23
    by_cases he : k = 3 ∧ id = a0 ∧ seq = a9
    · obtain ⟨k3, i3, q3⟩ := he
      by_cases hn : co = 0 ∧ now < un
      · exact (s_hear_new _ _ _ _ _ _ _ _ _ _ _ _ _ _ _ _ _ _ _ _ _ w hs h1 h2 h3 k3 i3 q3 hn.1 hn.2).mono fun e w' ⟨he, hb⟩ => ⟨_, he, ⟨_, _, _, _, _, _, _, _, _, _, _, _, _, _, _, _, _, _, _, _, _, _, rfl⟩, hb⟩
      · exact (s_hear_same _ _ _ _ _ _ _ _ _ _ _ _ _ _ _ _ _ _ _ _ _ w hs h1 h2 h3 k3 i3 q3 hn).mono fun e w' ⟨he, hb⟩ => ⟨_, he, ⟨_, _, _, _, _, _, _, _, _, _, _, _, _, _, _, _, _, _, _, _, _, _, rfl⟩, hb⟩
    · exact (s_hear_none _ _ _ _ _ _ _ _ _ _ _ _ _ _ _ _ _ _ _ _ _ w hs h1 h2 h3 he).mono fun e w' ⟨he, hb⟩ => ⟨_, he, ⟨_, _, _, _, _, _, _, _, _, _, _, _, _, _, _, _, _, _, _, _, _, _, rfl⟩, hb⟩
  · exact (s_hear_form _ _ _ _ _ _ _ _ _ _ _ _ _ _ _ _ _ _ _ _ _ w hs (Bool.eq_false_iff.mpr hr)).mono fun e w' ⟨he, hb⟩ => ⟨_, he, ⟨_, _, _, _, _, _, _, _, _, _, _, _, _, _, _, _, _, _, _, _, _, _, rfl⟩, hb⟩
theorem s_ClientNew_any (id want weight : Int) (w : World) : Calls Try.prog 80 #[.int .i64 id, .int .i64 0, .int .i64 want, .int .i64 weight] w fun e w' => ∃ r, e = .returned (.agg r) ∧ Ten r ∧ Below w.heap.size w w' := by
  have hu := Try.underlying24
  go_enter Try.func80, Try.ntmps80
  go_wp2_with (first | (go_at_call 84; refine (s_id _ _).mono ?_; rintro e w' ⟨rfl, rfl⟩) | (go_at_call 85; refine (s_want _ _).mono ?_; rintro e w' ⟨rfl, rfl⟩) | (go_at_call 86; refine (s_weight _ _).mono ?_; rintro e w' ⟨rfl, rfl⟩))
  all_goals (first
    | (refine bodyPost_ret (v := .agg #[.int .i64 id, .int .i64 0, .int .i64 want, .int .i64 weight, .int .i64 0, .int .i64 0, .int .i64 0, .int .i64 0, .int .i64 1, .int .i64 0]) ?_ rfl ⟨_, rfl, ⟨_, _, _, _, _, _, _, _, _, _, rfl⟩, ?_⟩; focus (simp [results, Try.results80, go_sem]; done))
    | (refine bodyPost_ret (v := .agg #[.int .i64 0, .int .i64 0, .int .i64 0, .int .i64 0, .int .i64 0, .int .i64 0, .int .i64 0, .int .i64 0, .int .i64 0, .int .i64 0]) ?_ rfl ⟨_, rfl, ⟨_, _, _, _, _, _, _, _, _, _, rfl⟩, ?_⟩; focus (simp [results, Try.results80, go_sem]; done)))
  all_goals repeat (first | exact Below.refl _ _ | (with_reducible apply Below.drew) | (with_reducible refine Below.alloc ?_ (by first | (simp; done) | (simp; omega)) _) | (with_reducible refine Below.setCell ?_ (by first | (simp; done) | (simp; omega)) _))
theorem only_setRow {a w : World} {g : Nat} (h : a.grownBy w (some g)) {d : Nat} (hp : d = g ∨ a.heap.size ≤ d) (r : Array Value) : a.grownBy (w.setRow d r) (some g) :=
  ⟨h.os, h.tape, h.output, by simpa using h.size, fun i hi hne => (setRow_other w d i r (by
    rintro rfl
    rcases hp with hp | hp
    · exact hne (by rw [hp])
    · omega)).trans (h.block i hi hne)⟩
theorem Src.lt {w : World} {g : Nat} {A : Option Addr} {n : Nat} (h : Src w g A n) : g < w.heap.size := let ⟨_, _, _, _, hB, _⟩ := h.ex; hB.lt
/-- A store into a block that is newer than the source. -/
theorem Src.row {w w1 : World} {g : Nat} {A : Option Addr} {n : Nat} (h0 : Src w g A n) (hG : w.grownBy w1 (some g)) (h1 : Src w1 g A n) {d : Nat} (hd : w.heap.size ≤ d) (r : Array Value) : Src (w1.setRow d r) g A n :=
  let ⟨c, a, m, s, hB, a0, a1, m0, m1, s0, s1⟩ := h1.ex
  h0.grown (only_setRow hG (.inr hd) r) (hB.far (Nat.ne_of_lt (Nat.lt_of_lt_of_le h0.lt hd)) r) a0 a1 m0 m1 s0 s1
theorem Src.put {w w1 : World} {g : Nat} {A : Option Addr} {n : Nat} (h0 : Src w g A n) (hG : w.grownBy w1 (some g)) (h1 : Src w1 g A n) {p : Addr} (hd : w.heap.size ≤ p.block) (u : Value) : Src (w1.setCell p u) g A n :=
  let ⟨c, a, m, s, hB, a0, a1, m0, m1, s0, s1⟩ := h1.ex
  h0.grown (only_setCell hG (.inr hd) u) (hB.setf (Nat.ne_of_lt (Nat.lt_of_lt_of_le h0.lt hd)) u) a0 a1 m0 m1 s0 s1
theorem Room.grown {w w1 : World} {B b n g : Nat} {t : TypeId} (h : Room w B b n t) (hb : w.grownBy w1 (some g)) (hne : b ≠ g) : Room w1 B b n t := let ⟨cs, h1, h2⟩ := h; ⟨cs, h1.grown hb hne, h2⟩
theorem Room.row_far {w : World} {B b n d : Nat} {t : TypeId} (h : Room w B b n t) (hne : b ≠ d) (r : Array Value) : Room (w.setRow d r) B b n t := let ⟨cs, h1, h2⟩ := h; ⟨cs, h1.far hne r, h2⟩
/-- A source, a row in a newer block, and room for an answer in the first new block; only the source and what is newer turns. -/
structure Ctx (g : Nat) (A : Option Addr) (n b : Nat) (cs : Array Value) (t : TypeId) (w w1 : World) : Prop where
  s0 : Src w g A n
  src : Src w1 g A n
  blk : Blk w1 (w.heap.size + 1) b cs t
  bel : w.grownBy w1 (some g)
  rm : Room w1 w.heap.size w.heap.size 10 24
theorem Ctx.keep {g : Nat} {A : Option Addr} {n b : Nat} {cs : Array Value} {t : TypeId} {w0 w w1 : World} (h : Ctx g A n b cs t w0 w) (hb : Below w.heap.size w w1) : Ctx g A n b cs t w0 w1 :=
  ⟨h.s0, h.src.keep hb, h.blk.keep hb, only_trans h.bel (only_below hb _), h.rm.keep hb⟩
theorem Ctx.alloc {g : Nat} {A : Option Addr} {n b : Nat} {cs : Array Value} {t : TypeId} {w0 w : World} (h : Ctx g A n b cs t w0 w) (o : Obj) : Ctx g A n b cs t w0 (w.alloc o) := h.keep ((Below.refl _ _).alloc (Nat.le_refl _) _)
theorem Ctx.drew {g : Nat} {A : Option Addr} {n b : Nat} {cs : Array Value} {t : TypeId} {w0 w : World} (h : Ctx g A n b cs t w0 w) : Ctx g A n b cs t w0 w.drew := h.keep (Below.refl _ _).drew
theorem Ctx.drawn {g : Nat} {A : Option Addr} {n b : Nat} {cs : Array Value} {t : TypeId} {w0 w w1 : World} (h : Ctx g A n b cs t w0 w) (hS : Src w1 g A n) (hG : w.grownBy w1 (some g)) : Ctx g A n b cs t w0 w1 :=
  ⟨h.s0, hS, h.blk.grown hG (by have := h.blk.1; have := h.s0.lt; omega), only_trans h.bel hG, h.rm.grown hG (Nat.ne_of_gt h.s0.lt)⟩
theorem Ctx.setRow {g : Nat} {A : Option Addr} {n b : Nat} {cs : Array Value} {t : TypeId} {w0 w : World} (h : Ctx g A n b cs t w0 w) {d : Nat} (hd : w0.heap.size < d) (hne : b ≠ d) (r : Array Value) : Ctx g A n b cs t w0 (w.setRow d r) :=
  ⟨h.s0, h.s0.row h.bel h.src (Nat.le_of_lt hd) r, h.blk.far hne r, only_setRow h.bel (.inr (Nat.le_of_lt hd)) r, h.rm.row_far (Nat.ne_of_lt hd) r⟩
theorem Ctx.row {g : Nat} {A : Option Addr} {n b : Nat} {cs : Array Value} {t : TypeId} {w0 w : World} (h : Ctx g A n b cs t w0 w) (r : Array Value) : Ctx g A n b r t w0 (w.setRow b r) :=
  ⟨h.s0, h.s0.row h.bel h.src (Nat.le_of_succ_le h.blk.1) r, h.blk.set r, only_setRow h.bel (.inr (Nat.le_of_succ_le h.blk.1)) r, h.rm.row_far (Nat.ne_of_lt h.blk.1) r⟩
theorem Ctx.cell {g : Nat} {A : Option Addr} {n b : Nat} {cs : Array Value} {t : TypeId} {w0 w : World} (h : Ctx g A n b cs t w0 w) (i : Nat) (u : Value) : Ctx g A n b (cs.setIfInBounds i u) t w0 (w.setCell ⟨b, i, none⟩ u) :=
  ⟨h.s0, h.s0.put h.bel h.src (Nat.le_of_succ_le h.blk.1) u, h.blk.setc i u, only_setCell h.bel (.inr (Nat.le_of_succ_le h.blk.1)) u, h.rm.set_far (p := ⟨b, i, none⟩) (Nat.ne_of_lt h.blk.1) u⟩
theorem Ctx.size {g : Nat} {A : Option Addr} {n b : Nat} {cs : Array Value} {t : TypeId} {w0 w : World} (h : Ctx g A n b cs t w0 w) : w0.heap.size ≤ w.heap.size := h.bel.size
theorem Ctx.all {g : Nat} {A : Option Addr} {n b : Nat} {t : TypeId} {w w' : World} {a0 a1 a2 a3 a4 a5 a6 a7 a8 a9 : Int} (h : Ctx g A n b #[.int .i64 a0, .int .i64 a1, .int .i64 a2, .int .i64 a3, .int .i64 a4, .int .i64 a5, .int .i64 a6, .int .i64 a7, .int .i64 a8, .int .i64 a9] t w w') : w'.cell? ⟨b, 0, none⟩ = some (.int .i64 a0) ∧ w'.cell? ⟨b, 1, none⟩ = some (.int .i64 a1) ∧ w'.cell? ⟨b, 2, none⟩ = some (.int .i64 a2) ∧ w'.cell? ⟨b, 3, none⟩ = some (.int .i64 a3) ∧ w'.cell? ⟨b, 4, none⟩ = some (.int .i64 a4) ∧ w'.cell? ⟨b, 5, none⟩ = some (.int .i64 a5) ∧ w'.cell? ⟨b, 6, none⟩ = some (.int .i64 a6) ∧ w'.cell? ⟨b, 7, none⟩ = some (.int .i64 a7) ∧ w'.cell? ⟨b, 8, none⟩ = some (.int .i64 a8) ∧ w'.cell? ⟨b, 9, none⟩ = some (.int .i64 a9) ∧ Ctx g A n b #[.int .i64 a0, .int .i64 a1, .int .i64 a2, .int .i64 a3, .int .i64 a4, .int .i64 a5, .int .i64 a6, .int .i64 a7, .int .i64 a8, .int .i64 a9] t w w' :=
  ⟨h.blk.cell 0, h.blk.cell 1, h.blk.cell 2, h.blk.cell 3, h.blk.cell 4, h.blk.cell 5, h.blk.cell 6, h.blk.cell 7, h.blk.cell 8, h.blk.cell 9, h⟩
theorem Ctx.pick {g : Nat} {A : Option Addr} {n b z : Nat} {t : TypeId} {w w' : World} {a0 a1 a2 a3 a4 a5 a6 a7 a8 a9 : Int} (h : w'.cell? ⟨b, 0, none⟩ = some (.int .i64 a0) ∧ w'.cell? ⟨b, 1, none⟩ = some (.int .i64 a1) ∧ w'.cell? ⟨b, 2, none⟩ = some (.int .i64 a2) ∧ w'.cell? ⟨b, 3, none⟩ = some (.int .i64 a3) ∧ w'.cell? ⟨b, 4, none⟩ = some (.int .i64 a4) ∧ w'.cell? ⟨b, 5, none⟩ = some (.int .i64 a5) ∧ w'.cell? ⟨b, 6, none⟩ = some (.int .i64 a6) ∧ w'.cell? ⟨b, 7, none⟩ = some (.int .i64 a7) ∧ w'.cell? ⟨b, 8, none⟩ = some (.int .i64 a8) ∧ w'.cell? ⟨b, 9, none⟩ = some (.int .i64 a9) ∧ (Ctx g A n b #[.int .i64 a0, .int .i64 a1, .int .i64 a2, .int .i64 a3, .int .i64 a4, .int .i64 a5, .int .i64 a6, .int .i64 a7, .int .i64 a8, .int .i64 a9] t w w' ∧ z ≤ w'.heap.size)) : Ctx g A n b #[.int .i64 a0, .int .i64 a1, .int .i64 a2, .int .i64 a3, .int .i64 a4, .int .i64 a5, .int .i64 a6, .int .i64 a7, .int .i64 a8, .int .i64 a9] t w w' ∧ z ≤ w'.heap.size := h.2.2.2.2.2.2.2.2.2.2
theorem Ctx.allz {g : Nat} {A : Option Addr} {n b z : Nat} {t : TypeId} {w w' : World} {a0 a1 a2 a3 a4 a5 a6 a7 a8 a9 : Int} (h : Ctx g A n b #[.int .i64 a0, .int .i64 a1, .int .i64 a2, .int .i64 a3, .int .i64 a4, .int .i64 a5, .int .i64 a6, .int .i64 a7, .int .i64 a8, .int .i64 a9] t w w') (hz : z ≤ w'.heap.size) : w'.cell? ⟨b, 0, none⟩ = some (.int .i64 a0) ∧ w'.cell? ⟨b, 1, none⟩ = some (.int .i64 a1) ∧ w'.cell? ⟨b, 2, none⟩ = some (.int .i64 a2) ∧ w'.cell? ⟨b, 3, none⟩ = some (.int .i64 a3) ∧ w'.cell? ⟨b, 4, none⟩ = some (.int .i64 a4) ∧ w'.cell? ⟨b, 5, none⟩ = some (.int .i64 a5) ∧ w'.cell? ⟨b, 6, none⟩ = some (.int .i64 a6) ∧ w'.cell? ⟨b, 7, none⟩ = some (.int .i64 a7) ∧ w'.cell? ⟨b, 8, none⟩ = some (.int .i64 a8) ∧ w'.cell? ⟨b, 9, none⟩ = some (.int .i64 a9) ∧ (Ctx g A n b #[.int .i64 a0, .int .i64 a1, .int .i64 a2, .int .i64 a3, .int .i64 a4, .int .i64 a5, .int .i64 a6, .int .i64 a7, .int .i64 a8, .int .i64 a9] t w w' ∧ z ≤ w'.heap.size) :=
  ⟨h.blk.cell 0, h.blk.cell 1, h.blk.cell 2, h.blk.cell 3, h.blk.cell 4, h.blk.cell 5, h.blk.cell 6, h.blk.cell 7, h.blk.cell 8, h.blk.cell 9, h, hz⟩
/-- Some client, and the source turned. -/
def Cl (g : Nat) (A : Option Addr) (n : Nat) (w : World) (e : Ending) (w' : World) : Prop := ∃ r, e = .returned (.agg r) ∧ Ten r ∧ Src w' g A n ∧ w.grownBy w' (some g)
theorem Ctx.cast {g : Nat} {A : Option Addr} {n b : Nat} {cs ds : Array Value} {t : TypeId} {w w1 : World} (h : Ctx g A n b cs t w w1) (e : cs = ds) : Ctx g A n b ds t w w1 := e ▸ h
theorem Ctx.fin {g : Nat} {A : Option Addr} {n b : Nat} {cs ds : Array Value} {t t' : TypeId} {w w1 : World} (h : Ctx g A n b cs t w w1) (hb : Blk (w1.setRow w.heap.size ds) w.heap.size w.heap.size ds t') (ht : Ten ds) : Cl g A n w (.returned (.agg ds)) (w1.setRow w.heap.size ds) :=
  ⟨ds, rfl, ht, h.s0.row h.bel h.src (Nat.le_refl _) _, only_setRow h.bel (.inr (Nat.le_refl _)) _⟩
set_option maxHeartbeats 4000000 in
theorem s_l12Client (g : Nat) (A : Option Addr) (n : Nat) (id : Int) (w : World) (h : Src w g A n) : Calls Try.prog 40 #[.pointer (some ⟨g, 0, none⟩), .int .i64 id] w (Cl g A n w) := by
  have hu := Try.underlying24
  have hu2 := Try.underlying30
  have hu3 := Try.underlying28
  have H := Lib.hid h
  have hgl := h.lt
  clear h
  go_enter Try.func40, Try.ntmps40
  go_wp2_with fail
  refine (s_n _ _ _ _ _ (H.out.keep ((Below.refl _ _).alloc (Nat.le_refl _) _)) (by omega)).mono ?_
  rintro e w1 ⟨r1, rfl, r10, r11, r12, hS1, hG1⟩
  clear r11 r12
  have R1 := (Room.new (w := w) (t := 24) (Nat.le_refl _) (n := 10) rfl).grown hG1 (Nat.ne_of_gt hgl)
  have G1 := only_trans (only_alloc (World.grownBy.refl w _) _) hG1
  clear hG1
  go_wp2_with fail
  refine (s_n _ _ _ _ _ hS1 (by omega)).mono ?_
  rintro e w2 ⟨r2, rfl, r20, r21, r22, hS2, hG2⟩
  have r21' := r21 (by omega)
  clear r21 r22
  have R2 := R1.grown hG2 (Nat.ne_of_gt hgl)
  have G2 := only_trans G1 hG2
  clear R1 G1 hG2 hS1
  go_wp2_with fail
  refine (s_ClientNew_any _ _ _ _).mono ?_
  rintro e w3 ⟨cl, rfl, ⟨a0, a1, a2, a3, a4, a5, a6, a7, a8, a9, rfl⟩, hb3⟩
  have R3 := Lib.hid (R2.keep hb3)
  have G3 := only_trans G2 (only_below hb3 _)
  have hS3 := Lib.hid (hS2.keep hb3)
  clear R2 G2 hb3 hS2
  have z3 := G3.size
  have z4 : w.heap.size + 1 ≤ w3.heap.size := Nat.succ_le_of_lt (let ⟨_, h, _⟩ := R3.out; h.lt)
  go_wp2_with ((with_reducible refine at_store (ty := 24) (y := .tmp 15) ?_); refine wpl_store_row rfl 24 (.tmp 5) (.tmp 15) rfl w3.heap.size _ rfl rfl (B := w.heap.size + 1) (n := 10) (t := 24) (Room.new z4 rfl) rfl (by kernel_rfl) (by simp [Value.oneCell']) (fun hblk => ?_))
  have C4 : Ctx g A n w3.heap.size #[.int .i64 a0, .int .i64 a1, .int .i64 a2, .int .i64 a3, .int .i64 a4, .int .i64 a5, .int .i64 a6, .int .i64 a7, .int .i64 a8, .int .i64 a9] 24 w _ := ⟨H.out, H.out.row (only_alloc G3 _) (hS3.out.keep ((Below.refl _ _).alloc (Nat.le_refl _) _)) z3 _, hblk, only_setRow (only_alloc G3 _) (.inr z3) _, (R3.out.keep ((Below.refl _ _).alloc (Nat.le_refl _) _)).row_far (Nat.ne_of_lt z4) _⟩
  clear hblk G3 hS3 R3
  refine (s_n _ _ _ _ _ C4.src (by omega)).mono ?_
  rintro e w5 ⟨k0, rfl, k00, k01, k02, hS5, hG5⟩
  have k01' := k01 (by omega)
  have C5 := Lib.hid (C4.drawn hS5 hG5)
  clear C4 hS5 hG5 k01 k02
  go_wp2_with fail
  go_loopw [6] (fun i' wr => ∃ (k : Int) (a0 a1 a2 a3 a4 a5 a6 a7 a8 a9 : Int), 0 ≤ k ∧ k < 4 ∧ i' = .int .i64 k ∧ Ctx g A n w3.heap.size #[.int .i64 a0, .int .i64 a1, .int .i64 a2, .int .i64 a3, .int .i64 a4, .int .i64 a5, .int .i64 a6, .int .i64 a7, .int .i64 a8, .int .i64 a9] 24 w wr) (fun i' _ => (intOf i').toNat)
  case atStart => exact ⟨k0, _, _, _, _, _, _, _, _, _, _, k00, k01', rfl, C5.out⟩
  case round =>
    clear C5
    obtain ⟨k, a0, a1, a2, a3, a4, a5, a6, a7, a8, a9, hk0, hk4, rfl, hC⟩ := hrel
    have HC := Lib.hid hC
    clear hC
    by_cases hlt : 0 < k
    · have b1 : decide (k > 0) = true := decide_eq_true hlt
      go_wp2_with fail
      have zr : w3.heap.size < wr.heap.size := HC.out.blk.lt
      go_cut [7] from 18 to 64 (fun v7 wc => ∃ (g7 : Nat) (r : Array Value), v7 = .pointer (some ⟨g7, 0, none⟩) ∧ Out r ∧ Blk wc wr.heap.size g7 r 30 ∧ Ctx g A n w3.heap.size #[.int .i64 a0, .int .i64 a1, .int .i64 a2, .int .i64 a3, .int .i64 a4, .int .i64 a5, .int .i64 a6, .int .i64 a7, .int .i64 a8, .int .i64 a9] 24 w wc)
      case first =>
        go_region_held3 (fun w' => w'.cell? ⟨w3.heap.size, 0, none⟩ = some (.int .i64 a0) ∧ w'.cell? ⟨w3.heap.size, 1, none⟩ = some (.int .i64 a1) ∧ w'.cell? ⟨w3.heap.size, 2, none⟩ = some (.int .i64 a2) ∧ w'.cell? ⟨w3.heap.size, 3, none⟩ = some (.int .i64 a3) ∧ w'.cell? ⟨w3.heap.size, 4, none⟩ = some (.int .i64 a4) ∧ w'.cell? ⟨w3.heap.size, 5, none⟩ = some (.int .i64 a5) ∧ w'.cell? ⟨w3.heap.size, 6, none⟩ = some (.int .i64 a6) ∧ w'.cell? ⟨w3.heap.size, 7, none⟩ = some (.int .i64 a7) ∧ w'.cell? ⟨w3.heap.size, 8, none⟩ = some (.int .i64 a8) ∧ w'.cell? ⟨w3.heap.size, 9, none⟩ = some (.int .i64 a9) ∧ (Ctx g A n w3.heap.size #[.int .i64 a0, .int .i64 a1, .int .i64 a2, .int .i64 a3, .int .i64 a4, .int .i64 a5, .int .i64 a6, .int .i64 a7, .int .i64 a8, .int .i64 a9] 24 w w' ∧ wr.heap.size ≤ w'.heap.size)) (first | exact HC.out.drew.allz (Nat.le_refl _) | exact (HC.out.alloc _).drew.allz (by simp) | exact hB.allz hz | exact (Ctx.setRow (Ctx.pick (by assumption)).1 (by omega) (by omega) _).allz (by simp; omega) | exact (Ctx.alloc (Ctx.pick (by assumption)).1 _).allz (by simp; omega)) (first
          | (go_at_call 41; refine (s_n _ _ _ _ _ (Ctx.pick (by assumption)).1.src (by omega)).mono ?_; rintro e w' ⟨r1, rfl, r10, -, -, hS, hG⟩; have hB := (Ctx.pick (by assumption)).1.drawn hS hG; have hz := Nat.le_trans (Ctx.pick (by assumption)).2 hG.size)
          | (go_at_call 11; refine (s_ask_any _ _ _ _ _ _ _ _ _ _ _ _).mono ?_; rintro e w' ⟨r, rfl, hr, hb⟩; have hrs := hr.size; have hB := (Ctx.pick (by assumption)).1.keep hb; have hz := Nat.le_trans (Ctx.pick (by assumption)).2 hb.size)
          | ((with_reducible refine upon_store_cells (B := wr.heap.size) (n := 22) (t := 30) ?_ (hr).size (hr).one (fun hblk hge => ?_)); (focus (repeat (first | exact Room.new (by first | omega | (simp; done) | (simp; omega)) rfl | (with_reducible refine Room.drew ?_) | refine Room.keep ?_ (by assumption) | refine Room.grown ?_ (by assumption) (by omega) | fail))))
          | fail)
        all_goals (go_wp2_with fail; go_meet; exact ⟨_, _, rfl, hr, hblk, (Ctx.pick (by assumption)).1⟩)
      case rest =>
        obtain ⟨g7, r, rfl, ⟨c0, c1, c2, c3, c4, c5, c6, c7, c8, c9, d0, d1, d2, d3, d4, d5, d6, d7, d8, co, s, q, rfl⟩, hB7, hC7⟩ := hcut
        clear HC
        have HC := Lib.hid hC7
        have n7 : w3.heap.size < g7 := Nat.lt_of_lt_of_le zr hB7.1
        have l7 := hB7.lt
        have e0 := (hB7.cell 0).trans (by rfl)
        have e1 := (hB7.cell 1).trans (by rfl)
        have e2 := (hB7.cell 2).trans (by rfl)
        have e3 := (hB7.cell 3).trans (by rfl)
        have e4 := (hB7.cell 4).trans (by rfl)
        have e5 := (hB7.cell 5).trans (by rfl)
        have e6 := (hB7.cell 6).trans (by rfl)
        have e7 := (hB7.cell 7).trans (by rfl)
        have e8 := (hB7.cell 8).trans (by rfl)
        have e9 := (hB7.cell 9).trans (by rfl)
        have e20 := (hB7.cell 20).trans (by rfl)
        have e21 := (hB7.cell 21).trans (by rfl)
        clear hC7 hB7
        by_cases hgo : co = 0 ∧ q = true
        · obtain ⟨rfl, rfl⟩ := hgo
          go_wp2_with ((with_reducible refine at_store (ty := 24) (y := .tmp 34) ?_); refine wpl_store_row rfl 24 (.tmp 5) (.tmp 34) rfl w3.heap.size _ rfl rfl (B := w.heap.size + 1) (n := 10) (t := 24) (HC.out.blk.room rfl) rfl (by kernel_rfl) (by simp [Value.oneCell']) (fun hblk => ?_))
          have hC8 := Lib.hid (HC.out.row #[.int .i64 c0, .int .i64 c1, .int .i64 c2, .int .i64 c3, .int .i64 c4, .int .i64 c5, .int .i64 c6, .int .i64 c7, .int .i64 c8, .int .i64 c9])
          clear HC hblk e0 e1 e2 e3 e4 e5 e6 e7 e8 e9 e20 e21
          generalize wc.setRow w3.heap.size #[.int .i64 c0, .int .i64 c1, .int .i64 c2, .int .i64 c3, .int .i64 c4, .int .i64 c5, .int .i64 c6, .int .i64 c7, .int .i64 c8, .int .i64 c9] = wd at hC8 ⊢
          go_wp2_with fail
          have zd : w3.heap.size < wd.heap.size := hC8.out.blk.lt
          dsimp only [Act.put]
          go_cut [8] from 18 to 64 (fun v8 we => ∃ (g8 : Nat) (r : Array Value), v8 = .pointer (some ⟨g8, 0, none⟩) ∧ Out r ∧ Blk we wd.heap.size g8 r 30 ∧ Ctx g A n w3.heap.size #[.int .i64 c0, .int .i64 c1, .int .i64 c2, .int .i64 c3, .int .i64 c4, .int .i64 c5, .int .i64 c6, .int .i64 c7, .int .i64 c8, .int .i64 c9] 24 w we)
          case first =>
            go_region_held3 (fun w' => w'.cell? ⟨w3.heap.size, 0, none⟩ = some (.int .i64 c0) ∧ w'.cell? ⟨w3.heap.size, 1, none⟩ = some (.int .i64 c1) ∧ w'.cell? ⟨w3.heap.size, 2, none⟩ = some (.int .i64 c2) ∧ w'.cell? ⟨w3.heap.size, 3, none⟩ = some (.int .i64 c3) ∧ w'.cell? ⟨w3.heap.size, 4, none⟩ = some (.int .i64 c4) ∧ w'.cell? ⟨w3.heap.size, 5, none⟩ = some (.int .i64 c5) ∧ w'.cell? ⟨w3.heap.size, 6, none⟩ = some (.int .i64 c6) ∧ w'.cell? ⟨w3.heap.size, 7, none⟩ = some (.int .i64 c7) ∧ w'.cell? ⟨w3.heap.size, 8, none⟩ = some (.int .i64 c8) ∧ w'.cell? ⟨w3.heap.size, 9, none⟩ = some (.int .i64 c9) ∧ (Ctx g A n w3.heap.size #[.int .i64 c0, .int .i64 c1, .int .i64 c2, .int .i64 c3, .int .i64 c4, .int .i64 c5, .int .i64 c6, .int .i64 c7, .int .i64 c8, .int .i64 c9] 24 w w' ∧ wd.heap.size ≤ w'.heap.size)) (first | assumption | exact hC8.out.drew.allz (Nat.le_refl _) | exact (hC8.out.alloc _).drew.allz (by simp) | exact hB.allz hz | exact (Ctx.setRow (Ctx.pick (by assumption)).1 (by omega) (by omega) _).allz (by simp; omega) | exact (Ctx.alloc (Ctx.pick (by assumption)).1 _).allz (by simp; omega)) (first
              | (go_at_call 41; refine (s_n _ _ _ _ _ (Ctx.pick (by assumption)).1.src (by omega)).mono ?_; rintro e w' ⟨r1, rfl, r10, -, -, hS, hG⟩; have hB := (Ctx.pick (by assumption)).1.drawn hS hG; have hz := Nat.le_trans (Ctx.pick (by assumption)).2 hG.size)
              | (go_at_call 73; refine (s_max _ _ _).mono ?_; rintro e w' ⟨rfl, rfl⟩)
              | (go_at_call 81; refine (s_hear_any _ _ _ _ _ _ _ _ _ _ _ _ _ _ _ _ _ _ _ _ _ _ (by decide)).mono ?_; rintro e w' ⟨r, rfl, hr, hb⟩; have hrs := hr.size; have hB := (Ctx.pick (by assumption)).1.keep hb; have hz := Nat.le_trans (Ctx.pick (by assumption)).2 hb.size)
              | ((with_reducible refine upon_store_cells (B := wd.heap.size) (n := 22) (t := 30) ?_ (hr).size (hr).one (fun hblk hge => ?_)); (focus (repeat (first | exact Room.new (by first | omega | (simp; done) | (simp; omega)) rfl | (with_reducible refine Room.drew ?_) | refine Room.keep ?_ (by assumption) | refine Room.grown ?_ (by assumption) (by omega) | fail))))
              | fail)
            all_goals (go_wp2_with fail; go_meet; exact ⟨_, _, rfl, hr, hblk, (Ctx.pick (by assumption)).1⟩)
          case rest =>
            obtain ⟨g8, r, rfl, ⟨a0, a1, a2, a3, a4, a5, a6, a7, a8, a9, d0, d1, d2, d3, d4, d5, d6, d7, d8, co, s, q, rfl⟩, hB7, hC7⟩ := hcut
            clear hC8
            have HC := Lib.hid hC7
            have HB := Lib.hid hB7
            have l8 : g8 < wc.heap.size := hB7.lt
            have n8 : w3.heap.size < g8 := Nat.lt_of_lt_of_le zd hB7.1
            have e21 := (hB7.cell 21).trans (by rfl)
            clear hC7 hB7
            by_cases hco : co = 0
            · subst hco
              go_wp2_with fail
              refine (s_one _ _ _ _ _ HC.out.src (by omega)).mono ?_
              rintro e w6 ⟨b, rfl, hS, hG⟩
              have HC6 := Lib.hid (HC.out.drawn hS hG)
              have hB6 := HB.out.grown hG (by have := HC.out.s0.lt; omega)
              clear e21 hS hG
              cases b
              · have e0 := (hB6.cell 0).trans (by rfl)
                have e1 := (hB6.cell 1).trans (by rfl)
                have e2 := (hB6.cell 2).trans (by rfl)
                have e3 := (hB6.cell 3).trans (by rfl)
                have e4 := (hB6.cell 4).trans (by rfl)
                have e5 := (hB6.cell 5).trans (by rfl)
                have e6 := (hB6.cell 6).trans (by rfl)
                have e7 := (hB6.cell 7).trans (by rfl)
                have e8 := (hB6.cell 8).trans (by rfl)
                have e9 := (hB6.cell 9).trans (by rfl)
                clear hB6
                go_wp2_with ((with_reducible refine at_store (ty := 24) (y := .tmp 64) ?_); refine wpl_store_row rfl 24 (.tmp 5) (.tmp 64) rfl w3.heap.size _ rfl rfl (B := w.heap.size + 1) (n := 10) (t := 24) (HC6.out.blk.room rfl) rfl (by kernel_rfl) (by simp [Value.oneCell']) (fun hblk => ?_))
                have hC9 := Lib.hid (HC6.out.row #[.int .i64 a0, .int .i64 a1, .int .i64 a2, .int .i64 a3, .int .i64 a4, .int .i64 a5, .int .i64 a6, .int .i64 a7, .int .i64 a8, .int .i64 a9])
                clear hblk e0 e1 e2 e3 e4 e5 e6 e7 e8 e9
                go_wp2_with fail
                go_roundw
                case rel => exact ⟨k - 1, _, _, _, _, _, _, _, _, _, _, by omega, by omega, by go_num, hC9.out⟩
                case measure => simp [intOf]; omega
              · clear hB6
                go_wp2_with fail
                go_roundw
                case rel => exact ⟨k - 1, _, _, _, _, _, _, _, _, _, _, by omega, by omega, by go_num, HC6.out⟩
                case measure => simp [intOf]; omega
            · have b2 : (co == 0) = false := beq_eq_false_iff_ne.mpr hco
              go_wp2_with fail
              go_roundw
              case rel => exact ⟨k - 1, _, _, _, _, _, _, _, _, _, _, by omega, by omega, by go_num, HC.out⟩
              case measure => simp [intOf]; omega
        · have hgo' : co = 0 → q = false := fun h => by
            cases q
            · rfl
            · exact absurd ⟨h, rfl⟩ hgo
          by_cases hco : co = 0
          · have hq := hgo' hco
            subst hco hq
            go_wp2_with fail
            go_roundw
            case rel => exact ⟨k - 1, _, _, _, _, _, _, _, _, _, _, by omega, by omega, by go_num, HC.out⟩
            case measure => simp [intOf]; omega
          · have b2 : (co == 0) = false := beq_eq_false_iff_ne.mpr hco
            go_wp2_with fail
            go_roundw
            case rel => exact ⟨k - 1, _, _, _, _, _, _, _, _, _, _, by omega, by omega, by go_num, HC.out⟩
            case measure => simp [intOf]; omega
    · have b1 : decide (k > 0) = false := decide_eq_false hlt
      go_wp2_with fail
      refine (s_one _ _ _ _ _ HC.out.src (by omega)).mono ?_
      rintro e w6 ⟨b, rfl, hS, hG⟩
      have HC6 := Lib.hid (HC.out.drawn hS hG)
      clear hS hG HC
      cases b
      · go_wp2_with (first | ((with_reducible refine at_load (ty := 24) (x := .tmp 5) ?_); refine wpl_load_row rfl 24 (.tmp 5) rfl w3.heap.size rfl (B := w.heap.size + 1) (n := 10) (t := 24) (cs := #[.int .i64 a0, .int .i64 a1, .int .i64 a2, .int .i64 a3, .int .i64 a4, .int .i64 a5, .int .i64 a6, .int .i64 a7, .int .i64 a8, .int .i64 a9]) (Ctx.cast HC6.out rfl).blk rfl (by kernel_rfl) Try.underlying24 rfl ?_) | ((with_reducible refine at_store (ty := 24) (y := .tmp 98) ?_); refine wpl_store_row rfl 24 (.tmp 4) (.tmp 98) rfl w.heap.size #[.int .i64 a0, .int .i64 a1, .int .i64 a2, .int .i64 a3, .int .i64 a4, .int .i64 a5, .int .i64 a6, .int .i64 a7, .int .i64 a8, .int .i64 a9] rfl rfl (B := w.heap.size) (n := 10) (t := 24) (Ctx.cast (ds := #[.int .i64 a0, .int .i64 a1, .int .i64 a2, .int .i64 a3, .int .i64 a4, .int .i64 a5, .int .i64 a6, .int .i64 a7, .int .i64 a8, .int .i64 a9]) HC6.out rfl).rm rfl (by kernel_rfl) (by simp [Value.oneCell']) (fun hblk => ?_)) | fail); refine bodyPost_ret (v := .agg #[.int .i64 a0, .int .i64 a1, .int .i64 a2, .int .i64 a3, .int .i64 a4, .int .i64 a5, .int .i64 a6, .int .i64 a7, .int .i64 a8, .int .i64 a9]) (results_cell_row rfl _ _ _ _ _ _ _ rfl hblk.2 Try.underlying24 rfl (by kernel_rfl)) rfl (Ctx.fin (Ctx.cast (ds := #[.int .i64 a0, .int .i64 a1, .int .i64 a2, .int .i64 a3, .int .i64 a4, .int .i64 a5, .int .i64 a6, .int .i64 a7, .int .i64 a8, .int .i64 a9]) HC6.out rfl) hblk ⟨_, _, _, _, _, _, _, _, _, _, rfl⟩)
      · go_wp2_with fail
        refine (s_n _ _ _ _ _ HC6.out.src (by omega)).mono ?_
        rintro e w7 ⟨r6, rfl, r60, r61, -, hS, hG⟩
        have r61' := r61 (by omega)
        have HC7 := Lib.hid (HC6.out.drawn hS hG)
        clear hS hG HC6 r61
        by_cases q0 : r6 = 0
        · subst q0
          go_wp2_with fail
          refine (s_n _ _ _ _ _ HC7.out.src (by omega)).mono ?_
          rintro e w8 ⟨r7, rfl, r70, r71, -, hS, hG⟩
          have r71' := r71 (by omega)
          have HC8 := Lib.hid (HC7.out.drawn hS hG)
          clear hS hG HC7 r71
          have c9 := (HC8.out.blk.cell 9).trans (by rfl)
          have f9 := HC8.out.blk.frozen 9
          go_wp2_with (first | ((with_reducible refine at_load (ty := 24) (x := .tmp 5) ?_); refine wpl_load_row rfl 24 (.tmp 5) rfl w3.heap.size rfl (B := w.heap.size + 1) (n := 10) (t := 24) (cs := #[.int .i64 a0, .int .i64 a1, .int .i64 a2, .int .i64 a3, .int .i64 a4, .int .i64 a5, .int .i64 a6, .int .i64 a7, .int .i64 a8, .int .i64 (1000000 + r7)]) (Ctx.cast (HC8.out.cell 9 (.int .i64 (1000000 + r7))) rfl).blk rfl (by kernel_rfl) Try.underlying24 rfl ?_) | ((with_reducible refine at_store (ty := 24) (y := .tmp 98) ?_); refine wpl_store_row rfl 24 (.tmp 4) (.tmp 98) rfl w.heap.size #[.int .i64 a0, .int .i64 a1, .int .i64 a2, .int .i64 a3, .int .i64 a4, .int .i64 a5, .int .i64 a6, .int .i64 a7, .int .i64 a8, .int .i64 (1000000 + r7)] rfl rfl (B := w.heap.size) (n := 10) (t := 24) (Ctx.cast (ds := #[.int .i64 a0, .int .i64 a1, .int .i64 a2, .int .i64 a3, .int .i64 a4, .int .i64 a5, .int .i64 a6, .int .i64 a7, .int .i64 a8, .int .i64 (1000000 + r7)]) (HC8.out.cell 9 (.int .i64 (1000000 + r7))) rfl).rm rfl (by kernel_rfl) (by simp [Value.oneCell']) (fun hblk => ?_)) | fail); refine bodyPost_ret (v := .agg #[.int .i64 a0, .int .i64 a1, .int .i64 a2, .int .i64 a3, .int .i64 a4, .int .i64 a5, .int .i64 a6, .int .i64 a7, .int .i64 a8, .int .i64 (1000000 + r7)]) (results_cell_row rfl _ _ _ _ _ _ _ rfl hblk.2 Try.underlying24 rfl (by kernel_rfl)) rfl (Ctx.fin (Ctx.cast (ds := #[.int .i64 a0, .int .i64 a1, .int .i64 a2, .int .i64 a3, .int .i64 a4, .int .i64 a5, .int .i64 a6, .int .i64 a7, .int .i64 a8, .int .i64 (1000000 + r7)]) (HC8.out.cell 9 (.int .i64 (1000000 + r7))) rfl) hblk ⟨_, _, _, _, _, _, _, _, _, _, rfl⟩)
        · by_cases q1 : r6 = 1
          · subst q1
            go_wp2_with fail
            have HC8 := Lib.hid (HC7.out.alloc (.cells #[.int .i64 0, .int .i64 64, .int .i64 65] 2))
            refine (s_n _ _ _ _ _ HC8.out.src (by omega)).mono ?_
            rintro e w8 ⟨r7, rfl, r70, r71, -, hS, hG⟩
            have r71' := r71 (by omega)
            have HC9 := Lib.hid (HC8.out.drawn hS hG)
            obtain ⟨q, hq⟩ : ∃ q : Int, w8.cell? ⟨w7.heap.size, r7.toNat, none⟩ = some (.int .i64 q) := by
              have hx := (Blk.new (w := w7) (Nat.zero_le _) #[.int .i64 0, .int .i64 64, .int .i64 65] 2).grown hG (by have := HC7.out.size; have := HC7.out.s0.lt; omega)
              have e : r7.toNat = 0 ∨ r7.toNat = 1 ∨ r7.toNat = 2 := by omega
              rcases e with e | e | e <;> rw [e] <;> exact ⟨_, (hx.cell _).trans (by rfl)⟩
            clear hS hG HC7 HC8 r71
            have c8 := (HC9.out.blk.cell 8).trans (by rfl)
            have f8 := HC9.out.blk.frozen 8
            go_wp2_with (first | ((with_reducible refine at_load (ty := 24) (x := .tmp 5) ?_); refine wpl_load_row rfl 24 (.tmp 5) rfl w3.heap.size rfl (B := w.heap.size + 1) (n := 10) (t := 24) (cs := #[.int .i64 a0, .int .i64 a1, .int .i64 a2, .int .i64 a3, .int .i64 a4, .int .i64 a5, .int .i64 a6, .int .i64 a7, .int .i64 q, .int .i64 a9]) (Ctx.cast (HC9.out.cell 8 (.int .i64 q)) rfl).blk rfl (by kernel_rfl) Try.underlying24 rfl ?_) | ((with_reducible refine at_store (ty := 24) (y := .tmp 98) ?_); refine wpl_store_row rfl 24 (.tmp 4) (.tmp 98) rfl w.heap.size #[.int .i64 a0, .int .i64 a1, .int .i64 a2, .int .i64 a3, .int .i64 a4, .int .i64 a5, .int .i64 a6, .int .i64 a7, .int .i64 q, .int .i64 a9] rfl rfl (B := w.heap.size) (n := 10) (t := 24) (Ctx.cast (ds := #[.int .i64 a0, .int .i64 a1, .int .i64 a2, .int .i64 a3, .int .i64 a4, .int .i64 a5, .int .i64 a6, .int .i64 a7, .int .i64 q, .int .i64 a9]) (HC9.out.cell 8 (.int .i64 q)) rfl).rm rfl (by kernel_rfl) (by simp [Value.oneCell']) (fun hblk => ?_)) | fail); refine bodyPost_ret (v := .agg #[.int .i64 a0, .int .i64 a1, .int .i64 a2, .int .i64 a3, .int .i64 a4, .int .i64 a5, .int .i64 a6, .int .i64 a7, .int .i64 q, .int .i64 a9]) (results_cell_row rfl _ _ _ _ _ _ _ rfl hblk.2 Try.underlying24 rfl (by kernel_rfl)) rfl (Ctx.fin (Ctx.cast (ds := #[.int .i64 a0, .int .i64 a1, .int .i64 a2, .int .i64 a3, .int .i64 a4, .int .i64 a5, .int .i64 a6, .int .i64 a7, .int .i64 q, .int .i64 a9]) (HC9.out.cell 8 (.int .i64 q)) rfl) hblk ⟨_, _, _, _, _, _, _, _, _, _, rfl⟩)
          · by_cases q2 : r6 = 2
            · subst q2
              go_wp2_with fail
              refine (s_n _ _ _ _ _ HC7.out.src (by omega)).mono ?_
              rintro e w8 ⟨r7, rfl, r70, r71, -, hS, hG⟩
              have r71' := r71 (by omega)
              have HC8 := Lib.hid (HC7.out.drawn hS hG)
              clear hS hG HC7 r71
              have c7 := (HC8.out.blk.cell 7).trans (by rfl)
              have f7 := HC8.out.blk.frozen 7
              go_wp2_with (first | ((with_reducible refine at_load (ty := 24) (x := .tmp 5) ?_); refine wpl_load_row rfl 24 (.tmp 5) rfl w3.heap.size rfl (B := w.heap.size + 1) (n := 10) (t := 24) (cs := #[.int .i64 a0, .int .i64 a1, .int .i64 a2, .int .i64 a3, .int .i64 a4, .int .i64 a5, .int .i64 a6, .int .i64 (1000000 + r7), .int .i64 a8, .int .i64 a9]) (Ctx.cast (HC8.out.cell 7 (.int .i64 (1000000 + r7))) rfl).blk rfl (by kernel_rfl) Try.underlying24 rfl ?_) | ((with_reducible refine at_store (ty := 24) (y := .tmp 98) ?_); refine wpl_store_row rfl 24 (.tmp 4) (.tmp 98) rfl w.heap.size #[.int .i64 a0, .int .i64 a1, .int .i64 a2, .int .i64 a3, .int .i64 a4, .int .i64 a5, .int .i64 a6, .int .i64 (1000000 + r7), .int .i64 a8, .int .i64 a9] rfl rfl (B := w.heap.size) (n := 10) (t := 24) (Ctx.cast (ds := #[.int .i64 a0, .int .i64 a1, .int .i64 a2, .int .i64 a3, .int .i64 a4, .int .i64 a5, .int .i64 a6, .int .i64 (1000000 + r7), .int .i64 a8, .int .i64 a9]) (HC8.out.cell 7 (.int .i64 (1000000 + r7))) rfl).rm rfl (by kernel_rfl) (by simp [Value.oneCell']) (fun hblk => ?_)) | fail); refine bodyPost_ret (v := .agg #[.int .i64 a0, .int .i64 a1, .int .i64 a2, .int .i64 a3, .int .i64 a4, .int .i64 a5, .int .i64 a6, .int .i64 (1000000 + r7), .int .i64 a8, .int .i64 a9]) (results_cell_row rfl _ _ _ _ _ _ _ rfl hblk.2 Try.underlying24 rfl (by kernel_rfl)) rfl (Ctx.fin (Ctx.cast (ds := #[.int .i64 a0, .int .i64 a1, .int .i64 a2, .int .i64 a3, .int .i64 a4, .int .i64 a5, .int .i64 a6, .int .i64 (1000000 + r7), .int .i64 a8, .int .i64 a9]) (HC8.out.cell 7 (.int .i64 (1000000 + r7))) rfl) hblk ⟨_, _, _, _, _, _, _, _, _, _, rfl⟩)
            · by_cases q3 : r6 = 3
              · subst q3
                have c2 := (HC7.out.blk.cell 2).trans (by rfl)
                have f2 := HC7.out.blk.frozen 2
                go_wp2_with (first | ((with_reducible refine at_load (ty := 24) (x := .tmp 5) ?_); refine wpl_load_row rfl 24 (.tmp 5) rfl w3.heap.size rfl (B := w.heap.size + 1) (n := 10) (t := 24) (cs := #[.int .i64 a0, .int .i64 a1, .int .i64 (-1), .int .i64 a3, .int .i64 a4, .int .i64 a5, .int .i64 a6, .int .i64 a7, .int .i64 a8, .int .i64 a9]) (Ctx.cast (HC7.out.cell 2 (.int .i64 (-1))) rfl).blk rfl (by kernel_rfl) Try.underlying24 rfl ?_) | ((with_reducible refine at_store (ty := 24) (y := .tmp 98) ?_); refine wpl_store_row rfl 24 (.tmp 4) (.tmp 98) rfl w.heap.size #[.int .i64 a0, .int .i64 a1, .int .i64 (-1), .int .i64 a3, .int .i64 a4, .int .i64 a5, .int .i64 a6, .int .i64 a7, .int .i64 a8, .int .i64 a9] rfl rfl (B := w.heap.size) (n := 10) (t := 24) (Ctx.cast (ds := #[.int .i64 a0, .int .i64 a1, .int .i64 (-1), .int .i64 a3, .int .i64 a4, .int .i64 a5, .int .i64 a6, .int .i64 a7, .int .i64 a8, .int .i64 a9]) (HC7.out.cell 2 (.int .i64 (-1))) rfl).rm rfl (by kernel_rfl) (by simp [Value.oneCell']) (fun hblk => ?_)) | fail); refine bodyPost_ret (v := .agg #[.int .i64 a0, .int .i64 a1, .int .i64 (-1), .int .i64 a3, .int .i64 a4, .int .i64 a5, .int .i64 a6, .int .i64 a7, .int .i64 a8, .int .i64 a9]) (results_cell_row rfl _ _ _ _ _ _ _ rfl hblk.2 Try.underlying24 rfl (by kernel_rfl)) rfl (Ctx.fin (Ctx.cast (ds := #[.int .i64 a0, .int .i64 a1, .int .i64 (-1), .int .i64 a3, .int .i64 a4, .int .i64 a5, .int .i64 a6, .int .i64 a7, .int .i64 a8, .int .i64 a9]) (HC7.out.cell 2 (.int .i64 (-1))) rfl) hblk ⟨_, _, _, _, _, _, _, _, _, _, rfl⟩)
              · by_cases q4 : r6 = 4
                · subst q4
                  go_wp2_with fail
                  refine (s_edge _ _ _ _ HC7.out.src).mono ?_
                  rintro e w8 ⟨r7, rfl, r70, r71, hS, hG⟩
                  have HC8 := Lib.hid (HC7.out.drawn hS hG)
                  clear hS hG HC7
                  have c1 := (HC8.out.blk.cell 1).trans (by rfl)
                  have f1 := HC8.out.blk.frozen 1
                  go_wp2_with (first | ((with_reducible refine at_load (ty := 24) (x := .tmp 5) ?_); refine wpl_load_row rfl 24 (.tmp 5) rfl w3.heap.size rfl (B := w.heap.size + 1) (n := 10) (t := 24) (cs := #[.int .i64 a0, .int .i64 r7, .int .i64 a2, .int .i64 a3, .int .i64 a4, .int .i64 a5, .int .i64 a6, .int .i64 a7, .int .i64 a8, .int .i64 a9]) (Ctx.cast (HC8.out.cell 1 (.int .i64 r7)) rfl).blk rfl (by kernel_rfl) Try.underlying24 rfl ?_) | ((with_reducible refine at_store (ty := 24) (y := .tmp 98) ?_); refine wpl_store_row rfl 24 (.tmp 4) (.tmp 98) rfl w.heap.size #[.int .i64 a0, .int .i64 r7, .int .i64 a2, .int .i64 a3, .int .i64 a4, .int .i64 a5, .int .i64 a6, .int .i64 a7, .int .i64 a8, .int .i64 a9] rfl rfl (B := w.heap.size) (n := 10) (t := 24) (Ctx.cast (ds := #[.int .i64 a0, .int .i64 r7, .int .i64 a2, .int .i64 a3, .int .i64 a4, .int .i64 a5, .int .i64 a6, .int .i64 a7, .int .i64 a8, .int .i64 a9]) (HC8.out.cell 1 (.int .i64 r7)) rfl).rm rfl (by kernel_rfl) (by simp [Value.oneCell']) (fun hblk => ?_)) | fail); refine bodyPost_ret (v := .agg #[.int .i64 a0, .int .i64 r7, .int .i64 a2, .int .i64 a3, .int .i64 a4, .int .i64 a5, .int .i64 a6, .int .i64 a7, .int .i64 a8, .int .i64 a9]) (results_cell_row rfl _ _ _ _ _ _ _ rfl hblk.2 Try.underlying24 rfl (by kernel_rfl)) rfl (Ctx.fin (Ctx.cast (ds := #[.int .i64 a0, .int .i64 r7, .int .i64 a2, .int .i64 a3, .int .i64 a4, .int .i64 a5, .int .i64 a6, .int .i64 a7, .int .i64 a8, .int .i64 a9]) (HC8.out.cell 1 (.int .i64 r7)) rfl) hblk ⟨_, _, _, _, _, _, _, _, _, _, rfl⟩)
                · have i0 : (r6 == 0) = false := beq_eq_false_iff_ne.mpr q0
                  have i1 : (r6 == 1) = false := beq_eq_false_iff_ne.mpr q1
                  have i2 : (r6 == 2) = false := beq_eq_false_iff_ne.mpr q2
                  have i3 : (r6 == 3) = false := beq_eq_false_iff_ne.mpr q3
                  have i4 : (r6 == 4) = false := beq_eq_false_iff_ne.mpr q4
                  have c5 := (HC7.out.blk.cell 5).trans (by rfl)
                  have f5 := HC7.out.blk.frozen 5
                  go_wp2_with (first | ((with_reducible refine at_load (ty := 24) (x := .tmp 5) ?_); refine wpl_load_row rfl 24 (.tmp 5) rfl w3.heap.size rfl (B := w.heap.size + 1) (n := 10) (t := 24) (cs := #[.int .i64 a0, .int .i64 a1, .int .i64 a2, .int .i64 a3, .int .i64 a4, .int .i64 (-1), .int .i64 a6, .int .i64 a7, .int .i64 a8, .int .i64 a9]) (Ctx.cast (HC7.out.cell 5 (.int .i64 (-1))) rfl).blk rfl (by kernel_rfl) Try.underlying24 rfl ?_) | ((with_reducible refine at_store (ty := 24) (y := .tmp 98) ?_); refine wpl_store_row rfl 24 (.tmp 4) (.tmp 98) rfl w.heap.size #[.int .i64 a0, .int .i64 a1, .int .i64 a2, .int .i64 a3, .int .i64 a4, .int .i64 (-1), .int .i64 a6, .int .i64 a7, .int .i64 a8, .int .i64 a9] rfl rfl (B := w.heap.size) (n := 10) (t := 24) (Ctx.cast (ds := #[.int .i64 a0, .int .i64 a1, .int .i64 a2, .int .i64 a3, .int .i64 a4, .int .i64 (-1), .int .i64 a6, .int .i64 a7, .int .i64 a8, .int .i64 a9]) (HC7.out.cell 5 (.int .i64 (-1))) rfl).rm rfl (by kernel_rfl) (by simp [Value.oneCell']) (fun hblk => ?_)) | fail); refine bodyPost_ret (v := .agg #[.int .i64 a0, .int .i64 a1, .int .i64 a2, .int .i64 a3, .int .i64 a4, .int .i64 (-1), .int .i64 a6, .int .i64 a7, .int .i64 a8, .int .i64 a9]) (results_cell_row rfl _ _ _ _ _ _ _ rfl hblk.2 Try.underlying24 rfl (by kernel_rfl)) rfl (Ctx.fin (Ctx.cast (ds := #[.int .i64 a0, .int .i64 a1, .int .i64 a2, .int .i64 a3, .int .i64 a4, .int .i64 (-1), .int .i64 a6, .int .i64 a7, .int .i64 a8, .int .i64 a9]) (HC7.out.cell 5 (.int .i64 (-1))) rfl) hblk ⟨_, _, _, _, _, _, _, _, _, _, rfl⟩)
end Go.Proofs.Ytddemmmbbleofaa.C
