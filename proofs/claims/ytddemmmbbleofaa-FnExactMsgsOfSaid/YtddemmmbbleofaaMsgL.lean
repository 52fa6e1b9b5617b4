/- Messages one behind the other: MsgsOf of the program. No condition. -/
import Derived.Test.YtddemmmbbleofaaMsgW
import Derived.Test.YtddemmmbbleofaaMsgE
import Derived.Test.YtddemmmbbleofaaDrawML
import Derived.Deep.RegionLaw
namespace Go.Proofs.Ytddemmmbbleofaa.C
open Go.RowKit
set_option maxRecDepth 100000
set_option linter.unusedVariables false
set_option linter.unusedSimpArgs false
attribute [local go_sem ↓] Go.wp_at_zero Go.wp_at_succ
open Go.Proofs.YtddemmmbbleofaaW.PrintWords (bt bt_range bt_at)
theorem outC_inj {m m' : M} {n n' c c' : Int} (h : outC m n c = outC m' n' c') : m = m' ∧ n = n' ∧ c = c' := by
  obtain ⟨k, id, seq, g, wa, we, am, un, co, s⟩ := m
  obtain ⟨k', id', seq', g', wa', we', am', un', co', s'⟩ := m'
  unfold outC at h
  simp at h
  simp_all
theorem numF_nonneg (k : Nat) : ∀ (t : ByteArray) (n : Int) (i : Nat), 0 ≤ n → 0 ≤ (numF k t n i).1 := by
  induction k with
  | zero => intro t n i _; exact Int.le_refl 0
  | succ k ih =>
    intro t n i h0
    have hm0 : 0 ≤ bt t i % 128 * 128 ^ i := Int.mul_nonneg (by omega) (Int.le_of_lt (Int.pow_pos (by decide)))
    rw [numF]
    split
    · split
      · show 0 ≤ n + _; omega
      · exact ih _ _ _ (by omega)
    · exact Int.le_refl 0
/-- Where the outcome is right, something was used, and no more than there is. -/
theorem outF_used {t : ByteArray} {m : M} {n : Int} (h : outF t = outC m n 0) : 1 ≤ n ∧ n ≤ t.size := by
  unfold outF at h
  split at h
  · have := (outC_inj h).2.2; omega
  · split at h
    · have := (outC_inj h).2.2; omega
    · obtain ⟨x, r, c, hn⟩ : ∃ x r c, NF (t.extract 1 t.size) = (x, r, c) := ⟨_, _, _, rfl⟩
      have hsz := NF_size hn
      rw [ByteArray.size_extract] at hsz
      rw [hn] at h
      simp only at h
      split at h
      · have := (outC_inj h).2.2; omega
      · split at h
        · have := (outC_inj h).2.2; omega
        · rename_i h1 h2
          split at h
          · unfold tailO at h
            split at h
            · have := (outC_inj h).2.1
              constructor
              · omega
              · have hx : 0 ≤ x := by have := numF_nonneg 9 (t.extract 1 t.size) 0 0 (by omega); rwa [show numF 9 (t.extract 1 t.size) 0 0 = (x, r, c) from hn] at this
                omega
            · have := (outC_inj h).2.2; omega
          · have := (outC_inj h).2.2; omega
/-- What a text is, read message by message. -/
inductive Parse : ByteArray → List M → Int → Int → Prop
  | done {t : ByteArray} : t.size = 0 → Parse t [] 0 0
  | stop {t : ByteArray} {m : M} {n c : Int} : t.size ≠ 0 → outF t = outC m n c → c ≠ 0 → Parse t [] t.size c
  | step {t : ByteArray} {m : M} {n : Int} {ms : List M} {r c : Int} : t.size ≠ 0 → outF t = outC m n 0 → Parse (t.extract n.toNat t.size) ms r c → Parse t (m :: ms) r c
theorem Parse.one {t : ByteArray} {ms ms' : List M} {r r' c c' : Int} (h : Parse t ms r c) (h' : Parse t ms' r' c') : ms = ms' ∧ r = r' ∧ c = c' := by
  induction h generalizing ms' r' c' with
  | done h0 =>
    cases h' with
    | done => exact ⟨rfl, rfl, rfl⟩
    | stop h1 => exact absurd h0 h1
    | step h1 => exact absurd h0 h1
  | stop h0 h1 h2 =>
    cases h' with
    | done h3 => exact absurd h3 h0
    | stop _ h4 _ => exact ⟨rfl, rfl, (outC_inj (h1.symm.trans h4)).2.2⟩
    | step _ h4 _ => exact absurd (outC_inj (h1.symm.trans h4)).2.2 h2
  | step h0 h1 h2 ih =>
    cases h' with
    | done h3 => exact absurd h3 h0
    | stop _ h4 h5 => exact absurd (outC_inj (h1.symm.trans h4)).2.2.symm h5
    | step _ h4 h5 =>
      obtain ⟨rfl, rfl, -⟩ := outC_inj (h1.symm.trans h4)
      obtain ⟨rfl, rfl, rfl⟩ := ih h5
      exact ⟨rfl, rfl, rfl⟩
def textOf : List M → ByteArray
  | [] => ⟨#[]⟩
  | m :: ms => m.text ++ textOf ms
theorem parse_text (ms : List M) (h : ∀ m ∈ ms, m.ok = true) : Parse (textOf ms) ms 0 0 := by
  induction ms with
  | nil => exact .done rfl
  | cons m ms ih =>
    have hm := h m List.mem_cons_self
    have hz := text_size hm
    have e : (m.text ++ textOf ms).extract ((m.text.size : Int)).toNat (m.text ++ textOf ms).size = textOf ms := ByteArray.extract_append_eq_right (by simp) (by rw [ByteArray.size_append])
    refine .step (n := m.text.size) ?_ (outF_text hm _) ?_
    · show (m.text ++ textOf ms).size ≠ 0
      rw [ByteArray.size_append]; omega
    · show Parse ((m.text ++ textOf ms).extract ((m.text.size : Int)).toNat (m.text ++ textOf ms).size) ms 0 0
      rw [e]
      exact ih fun q hq => h q (List.mem_cons_of_mem _ hq)
theorem Blk.at' {w : World} {B b c : Nat} {cs : Array Value} {t : TypeId} (h : Blk w B b cs t) (e : b = c) : Blk w B c cs t := e ▸ h
/-- The result's block, the list's, the row that it owns. -/
structure LS (g2 g3 : Nat) (v : Value) (ms : List M) (a b : Int) (w wk : World) : Prop where
  ob : Room wk g2 g2 3 42
  lb : Blk wk 0 g3 #[v, .int .i64 a, .int .i64 b] 42
  own : OwnMs wk (g3 + 1) v ms
  bl : Below w.heap.size w wk
  o1 : w.heap.size + 0 = g2
  o2 : g2 < g3
theorem LS.keep {g2 g3 : Nat} {v : Value} {ms : List M} {a b : Int} {w wk w' : World} (h : LS g2 g3 v ms a b w wk) (hb : Below wk.heap.size wk w') : LS g2 g3 v ms a b w w' :=
  ⟨h.ob.keep hb, h.lb.keep hb, h.own.keep hb, btrans h.bl hb, h.o1, h.o2⟩
theorem OwnMs.form {w : World} {B : Nat} {v : Value} {ms : List M} (h : OwnMs w B v ms) : ∃ A cap, v = .slice A ms.length cap := by
  obtain ⟨hl, ⟨rfl, h0⟩ | ⟨g, cap, cur, rfl, _⟩⟩ := h
  · exact ⟨_, _, by rw [h0]⟩
  · exact ⟨_, _, rfl⟩
def MLP (T : ByteArray) (w : World) (e : Ending) (w' : World) : Prop := ∃ (A : Option Addr) (cap : Nat) (ms : List M) (r c : Int), e = .returned (.agg #[.slice A ms.length cap, .int .i64 r, .int .i64 c]) ∧ Parse T ms r c ∧ OwnMs w' w.heap.size (.slice A ms.length cap) ms ∧ ms.length ≤ 20000 ∧ Below w.heap.size w w'
theorem OwnMs.base {w : World} {B C : Nat} {v : Value} {ms : List M} (h : OwnMs w B v ms) (hC : C ≤ B) : OwnMs w C v ms := by
  obtain ⟨hl, h | ⟨g, cap, cur, e, hb, h⟩⟩ := h
  · exact ⟨hl, .inl h⟩
  · exact ⟨hl, .inr ⟨g, cap, cur, e, Nat.le_trans hC hb, h⟩⟩
theorem OwnMs.setRow {w : World} {B : Nat} {v : Value} {ms : List M} (h : OwnMs w B v ms) {d : Nat} (hd : d < B) (r : Array Value) : OwnMs (w.setRow d r) B v ms :=
  World.ownsRow.kept h (setRow_only w d r) (by rcases e : v.ownBlock with _ | k; exact .inl rfl; exact .inr (by have := (World.ownsRow.lt h k e).1; intro e2; cases e2; omega))
theorem OwnMs.setf {w : World} {B : Nat} {v : Value} {ms : List M} (h : OwnMs w B v ms) {p : Addr} (hd : p.block < B) (u : Value) : OwnMs (w.setCell p u) B v ms :=
  World.ownsRow.kept (row := some p.block) h ⟨rfl, rfl, rfl, by simp, fun k _ hne => Below.heap_setCell w p u k (fun e => hne (by rw [e]))⟩ (by rcases e : v.ownBlock with _ | k; exact .inl rfl; exact .inr (by have := (World.ownsRow.lt h k e).1; intro e2; cases e2; omega))
theorem LS.set1 {g2 g3 : Nat} {v : Value} {ms : List M} {a b : Int} {w wk : World} (h : LS g2 g3 v ms a b w wk) (x : Int) : LS g2 g3 v ms x b w (wk.setCell ⟨g3, 1, none⟩ (.int .i64 x)) :=
  ⟨h.ob.set_far (by have := h.o2; show g2 ≠ g3; omega) _, (h.lb.setc 1 _).cast rfl, h.own.setf (by show g3 < g3 + 1; omega) _, h.bl.setCell (by have := h.o1; have := h.o2; show w.heap.size ≤ g3; omega) _, h.o1, h.o2⟩
theorem LS.set2 {g2 g3 : Nat} {v : Value} {ms : List M} {a b : Int} {w wk : World} (h : LS g2 g3 v ms a b w wk) (x : Int) : LS g2 g3 v ms a x w (wk.setCell ⟨g3, 2, none⟩ (.int .i64 x)) :=
  ⟨h.ob.set_far (by have := h.o2; show g2 ≠ g3; omega) _, (h.lb.setc 2 _).cast rfl, h.own.setf (by show g3 < g3 + 1; omega) _, h.bl.setCell (by have := h.o1; have := h.o2; show w.heap.size ≤ g3; omega) _, h.o1, h.o2⟩
/-- What stays while a message is appended. -/
structure Q9 (g2 g3 g4 : Nat) (m : M) (n : Int) (w wk : World) : Prop where
  ob : Room wk g2 g2 3 42
  lb : ∃ v, Blk wk 0 g3 #[v, .int .i64 0, .int .i64 0] 42
  b4 : Blk wk 0 g4 #[.int .i64 m.k, .int .i64 m.id, .int .i64 m.seq, .int .i64 m.g, .int .i64 m.wa, .int .i64 m.we, .int .i64 m.am, .int .i64 m.un, .int .i64 m.co, .string m.note, .int .i64 n, .int .i64 0] 46
  bl : Below w.heap.size w wk
theorem Q9.keep {g2 g3 g4 : Nat} {m : M} {n : Int} {w wk w' : World} (h : Q9 g2 g3 g4 m n w wk) (hb : Below wk.heap.size wk w') : Q9 g2 g3 g4 m n w w' :=
  ⟨h.ob.keep hb, let ⟨v, hv⟩ := h.lb; ⟨v, hv.keep hb⟩, h.b4.keep hb, btrans h.bl hb⟩
theorem Q9.all {g2 g3 g4 : Nat} {m : M} {n : Int} {w w' : World} {v : Value} (h : Q9 g2 g3 g4 m n w w') (x0 : w'.cell? ⟨g3, 0, none⟩ = some v) (f0 : w'.frozen? ⟨g3, 0, none⟩ = false) : w'.cell? ⟨g3, 0, none⟩ = some v ∧ w'.frozen? ⟨g3, 0, none⟩ = false ∧ w'.cell? ⟨g4, 0, none⟩ = some (.int .i64 m.k) ∧ w'.cell? ⟨g4, 1, none⟩ = some (.int .i64 m.id) ∧ w'.cell? ⟨g4, 2, none⟩ = some (.int .i64 m.seq) ∧ w'.cell? ⟨g4, 3, none⟩ = some (.int .i64 m.g) ∧ w'.cell? ⟨g4, 4, none⟩ = some (.int .i64 m.wa) ∧ w'.cell? ⟨g4, 5, none⟩ = some (.int .i64 m.we) ∧ w'.cell? ⟨g4, 6, none⟩ = some (.int .i64 m.am) ∧ w'.cell? ⟨g4, 7, none⟩ = some (.int .i64 m.un) ∧ w'.cell? ⟨g4, 8, none⟩ = some (.int .i64 m.co) ∧ w'.cell? ⟨g4, 9, none⟩ = some (.string m.note) ∧ w'.cell? ⟨g4, 10, none⟩ = some (.int .i64 n) ∧ Q9 g2 g3 g4 m n w w' :=
  ⟨x0, f0, (h.b4.cell 0).trans rfl, (h.b4.cell 1).trans rfl, (h.b4.cell 2).trans rfl, (h.b4.cell 3).trans rfl, (h.b4.cell 4).trans rfl, (h.b4.cell 5).trans rfl, (h.b4.cell 6).trans rfl, (h.b4.cell 7).trans rfl, (h.b4.cell 8).trans rfl, (h.b4.cell 9).trans rfl, (h.b4.cell 10).trans rfl, h⟩
theorem f_drew {w : World} {q : Addr} {b : Bool} (h : w.frozen? q = b) : w.drew.frozen? q = b := h
theorem cell_old (w : World) (o : Obj) (b i : Nat) (h : b < w.heap.size) : (w.alloc o).cell? ⟨b, i, none⟩ = w.cell? ⟨b, i, none⟩ := ((Below.refl w.heap.size w).alloc (Nat.le_refl _) o).cell (p := ⟨b, i, none⟩) h
theorem froz_old (w : World) (o : Obj) (b i : Nat) (h : b < w.heap.size) : (w.alloc o).frozen? ⟨b, i, none⟩ = w.frozen? ⟨b, i, none⟩ := ((Below.refl w.heap.size w).alloc (Nat.le_refl _) o).frozen (p := ⟨b, i, none⟩) h
theorem step_append_own {P : Program} {ops : Array Oper} {o : Oper} {a : Act} {w : World} {K : Act → World → Prop} {Q : Exit → Act → World → Prop} {E : Prop}
    (hg : o.guard = none) (s x : Operand) (t : TypeId) (hop : o.op = Op.call { callee := Callee.builtin Builtin.append, args := #[s, x], argTypes := #[t, t] })
    (base : Nat) (e : TypeId) (i : TypeInfo) (z : Value) (size bytes : Nat) (h1 : P.underlying t = some (.slice e)) (h2 : P.info? e = some i) (h3 : i.zero = some z) (h4 : i.size = size) (h5 : i.bytes = bytes) (h6 : z.cells.size = size) (h7 : 0 < size)
    (v : Value) (n : Nat) (xs : List Value) (hs : a.eval s = v) (hown : w.ownsRow base e size v n xs)
    (ad : Addr) (m c : Nat) (news : List Value) (hx : a.eval x = .slice (some ad) m c) (hl : news.length = m * size) (hnews : ∀ j u, news[j]? = some u → w.cell? (ad.add j) = some u) (h1c : ∀ u ∈ news, u.oneCell' = true)
    (b1 : n + m ≤ maxLen) (b2 : (n + m) * bytes ≤ 140737488355328) (hbase : base ≤ w.heap.size)
    (hK : ∀ v' w', w'.ownsRow base e size v' (n + m) (xs ++ news) → w.grownBy w' v.ownBlock → K (a.put o.dst v') w') :
    if Region.wanted o (yielded ops a.tmps) = true then Oper.wp P o a w K Q else E := by
  have hw : Region.wanted o (yielded ops a.tmps) = true := by simp [Region.wanted, hg]
  rw [if_pos hw]
  exact wp_append_own w s x t hop base e i z size bytes h1 h2 h3 h4 h5 h6 h7 v n xs hs hown ad m c news hx hl hnews h1c b1 b2 hbase fun v' w' p1 p2 _ => hK v' w' p1 p2
theorem Q9.app {g2 g3 g4 : Nat} {m : M} {n : Int} {w wk w' : World} {row : Option Nat} (h : Q9 g2 g3 g4 m n w wk) (hg : wk.grownBy w' row) (h2 : some g2 ≠ row) (h3 : some g3 ≠ row) (h4 : some g4 ≠ row) (hb : ∀ i, row = some i → w.heap.size ≤ i) : Q9 g2 g3 g4 m n w w' := by
  obtain ⟨cs, hc, hn⟩ := h.ob
  obtain ⟨v, hv⟩ := h.lb
  exact ⟨⟨cs, ⟨hc.1, (hg.block g2 hc.lt h2).trans hc.2⟩, hn⟩, ⟨v, hv.1, (hg.block g3 hv.lt h3).trans hv.2⟩, ⟨h.b4.1, (hg.block g4 h.b4.lt h4).trans h.b4.2⟩, below_own h.bl hg (Nat.le_refl _) hb⟩
theorem owns_form {w : World} {B e sz : Nat} {v : Value} {n : Nat} {xs : List Value} (h : w.ownsRow B e sz v n xs) : ∃ A cap, v = .slice A n cap := by
  obtain ⟨hl, ⟨rfl, h0⟩ | ⟨g, cap, cur, rfl, _⟩⟩ := h
  · exact ⟨_, _, by rw [h0]⟩
  · exact ⟨_, _, rfl⟩
theorem LS.next {g2 g3 g4 : Nat} {m : M} {n : Int} {ms : List M} {w w7 : World} {A7 : Option Addr} {cap7 : Nat} (hq : Q9 g2 g3 g4 m n w w7) (ho : w7.ownsRow (g3 + 1) 28 10 (.slice A7 (ms.length + 1) cap7) (ms.length + 1) (rows ms ++ m.row.toList)) (o1 : w.heap.size + 0 = g2) (o2 : g2 < g3) :
    LS g2 g3 (.slice A7 (ms ++ [m]).length cap7) (ms ++ [m]) 0 0 w (w7.setCell ⟨g3, 0, none⟩ (.slice A7 (ms.length + 1) cap7)) := by
  obtain ⟨v, hv⟩ := hq.lb
  have e : (ms ++ [m]).length = ms.length + 1 := by simp
  rw [e]
  exact ⟨hq.ob.set_far (by show g2 ≠ g3; omega) _, (hv.setc 0 _).cast rfl, (OwnMs.add ho).setf (by show g3 < g3 + 1; omega) _, hq.bl.setCell (by show w.heap.size ≤ g3; omega) _, o1, o2⟩
def strSize : Value → Nat
  | .string t => t.size
  | _ => 0
set_option maxHeartbeats 8000000 in
theorem c_MsgsOf (T : ByteArray) (w : World) (hT : T.size ≤ 20000) : Calls Try.prog 20 #[.string T] w (MLP T w) := by
  have hu := Try.underlying42
  have hu1 := Try.underlying46
  have hu2 := Try.underlying28
  have hu3 := Try.underlying38
  obtain ⟨j0, hj, hy0, hy1, hy2⟩ := info_parts infoMsg
  have b1 : decide ((20000 : Int) < T.size) = false := decide_eq_false (by omega)
  go_enter Try.func20, Try.ntmps20
  go_wp2_with fail
  have S0 : LS w.heap.size (w.heap.size + 1) (.slice none 0 0) [] 0 0 w ((w.alloc (.cells #[.slice none 0 0, .int .i64 0, .int .i64 0] 42)).alloc (.cells #[.slice none 0 0, .int .i64 0, .int .i64 0] 42)) :=
    ⟨(Room.new (Nat.le_refl _) rfl).keep ((Below.refl _ _).alloc (Nat.le_refl _) _), (Blk.new (w := w.alloc (.cells #[.slice none 0 0, .int .i64 0, .int .i64 0] 42)) (Nat.zero_le _) #[.slice none 0 0, .int .i64 0, .int .i64 0] 42).at' (by simp), World.ownsRow_nil _ _ _ _, ((Below.refl _ _).alloc (Nat.le_refl _) _).alloc (by simp) _, rfl, by omega⟩
  generalize (w.alloc (.cells #[.slice none 0 0, .int .i64 0, .int .i64 0] 42)).alloc (.cells #[.slice none 0 0, .int .i64 0, .int .i64 0] 42) = w0 at *
  clear b1
  generalize hg3 : w.heap.size + 1 = g3 at *
  generalize hg2 : w.heap.size = g2 at *
  clear hg3
  go_loopw [0] (fun v0 wr => ∃ (t : ByteArray) (ms : List M) (A : Option Addr) (cap : Nat), v0 = .string t ∧ t.size ≤ 20000 ∧ ms.length + t.size ≤ 20000 ∧ Hid (∀ ms' r c, Parse t ms' r c → Parse T (ms ++ ms') r c) ∧ Hid (LS g2 g3 (.slice A ms.length cap) ms 0 0 w wr)) (fun v0 _ => strSize v0)
  case atStart => exact ⟨T, [], none, 0, rfl, hT, by simpa using hT, Lib.hid (fun _ _ _ h => h), Lib.hid S0⟩
  case round =>
    obtain ⟨t, ms, A, cap, rfl, ht, hlen, HP, KS⟩ := hrel
    clear S0
    by_cases h0 : t.size = 0
    · have b1 := toList_nil h0
      have HB := Lib.hid KS.out.lb
      have HO := Lib.hid KS.out.ob
      have hpar := Lib.hid (HP.out [] 0 0 (.done h0))
      have hmm : ms.length ≤ 20000 := by omega
      clear h0 ht hlen HP
      go_wp2_with (first | ((with_reducible refine at_load (ty := 42) (x := .tmp 3) ?_); refine wpl_load_row rfl 42 (.tmp 3) rfl g3 rfl HB.out rfl (by kernel_rfl) hu rfl ?_) | ((with_reducible refine at_store (ty := 42) (y := .tmp 35) ?_); refine wpl_store_row rfl 42 (.tmp 2) (.tmp 35) rfl g2 _ rfl rfl HO.out rfl (by kernel_rfl) (by simp [Value.oneCell']) ?_; intro hout))
      refine bodyPost_ret (v := .agg #[.slice A ms.length cap, .int .i64 0, .int .i64 0]) (results_cell_row rfl _ _ _ _ _ _ _ rfl hout.2 hu rfl (by kernel_rfl)) rfl ⟨A, cap, ms, 0, 0, rfl, by simpa using hpar.out, ?_, hmm, ?_⟩
      · exact (KS.out.own.setRow (d := g2) (by have := KS.out.o2; omega) _).base (by have := KS.out.o1; have := KS.out.o2; omega)
      · exact below_setRow KS.out.bl (by have := KS.out.o1; omega) _
    · have b1 := toList_ne h0
      go_wp2_with fail
      refine (c_msgRead _ _ ht).mono ?_
      rintro e w1 ⟨rfl, hb1⟩
      obtain ⟨m, n, c, he⟩ := outF_form t
      have HE : Hid (outF t = #[.int .i64 m.k, .int .i64 m.id, .int .i64 m.seq, .int .i64 m.g, .int .i64 m.wa, .int .i64 m.we, .int .i64 m.am, .int .i64 m.un, .int .i64 m.co, .string m.note, .int .i64 n, .int .i64 c]) := Lib.hid he
      have HE2 := Lib.hid he
      rw [HE.out]
      have S1 := Lib.hid (KS.out.keep hb1)
      clear he KS hb1
      by_cases hc : c = 0
      · subst hc
        obtain ⟨n1, n2⟩ := outF_used HE2.out
        go_upto_region 9 with fail
        have hal := (Below.refl w1.heap.size w1).alloc (Nat.le_refl _) (.cells #[.int .i64 m.k, .int .i64 m.id, .int .i64 m.seq, .int .i64 m.g, .int .i64 m.wa, .int .i64 m.we, .int .i64 m.am, .int .i64 m.un, .int .i64 m.co, .string m.note, .int .i64 n, .int .i64 0] 46)
        have S2 := Lib.hid (S1.out.keep hal)
        have B4 := Lib.hid (Blk.new (w := w1) (Nat.zero_le _) #[.int .i64 m.k, .int .i64 m.id, .int .i64 m.seq, .int .i64 m.g, .int .i64 m.wa, .int .i64 m.we, .int .i64 m.am, .int .i64 m.un, .int .i64 m.co, .string m.note, .int .i64 n, .int .i64 0] 46)
        have hlo := Lib.hid (fun k e => (World.ownsRow.lt S1.out.own k e).2)
        have h34 : g3 < w1.heap.size := S1.out.lb.lt
        clear S1 hal
        generalize w1.alloc _ = w2 at *
        generalize w1.heap.size = g4 at *
        obtain ⟨k, rfl⟩ := Int.eq_ofNat_of_zero_le (show 0 ≤ n by omega)
        have Q2 := Lib.hid (Q9.mk (g4 := g4) S2.out.ob ⟨_, S2.out.lb⟩ B4.out S2.out.bl)
        have hpar := Lib.hid (fun ms' r c (h : Parse (t.extract k t.size) ms' r c) => HP.out (m :: ms') r c (.step h0 HE2.out h))
        have c3 : ms.length + 1 ≤ maxLen := by unfold maxLen; omega
        have c4 : (ms.length + 1) * 88 ≤ 140737488355328 := by omega
        have k0 : (0 : Int) ≤ (k : Int) := by omega
        have k1 : (k : Int) ≤ (t.size : Int) := by omega
        have x0 := (S2.out.lb.cell 0).trans (by rfl)
        have f0 := S2.out.lb.frozen 0
        have hb2 : g3 + 1 ≤ w2.heap.size := by have := S2.out.lb.lt; omega
        have hne := S2.out.o2
        have hX := Lib.hid (fun o => c_drew ((cell_old w2 o g3 0 (by omega)).trans x0))
        have hF := Lib.hid (fun o => f_drew ((froz_old w2 o g3 0 (by omega)).trans f0))
        have c2 : ∀ u ∈ ([.int .i64 m.k, .int .i64 m.id, .int .i64 m.seq, .int .i64 m.g, .int .i64 m.wa, .int .i64 m.we, .int .i64 m.am, .int .i64 m.un, .int .i64 m.co, .string m.note] : List Value), u.oneCell' = true := by simp [Value.oneCell']
        have OWN : Hid ((w2.alloc (.cells #[.int .i64 m.k, .int .i64 m.id, .int .i64 m.seq, .int .i64 m.g, .int .i64 m.wa, .int .i64 m.we, .int .i64 m.am, .int .i64 m.un, .int .i64 m.co, .string m.note] 28)).drew.ownsRow (g3 + 1) 28 10 (.slice A ms.length cap) ms.length (rows ms)) := Lib.hid (OwnMs.keep (World.ownsRow.alloc S2.out.own _) (Below.refl _ _).drew)
        have NEW := Lib.hid (fun j u h => c_drew (row_new w2 [.int .i64 m.k, .int .i64 m.id, .int .i64 m.seq, .int .i64 m.g, .int .i64 m.wa, .int .i64 m.we, .int .i64 m.am, .int .i64 m.un, .int .i64 m.co, .string m.note] 28 j u h))
        have c5 : g3 + 1 ≤ (w2.alloc (.cells #[.int .i64 m.k, .int .i64 m.id, .int .i64 m.seq, .int .i64 m.g, .int .i64 m.wa, .int .i64 m.we, .int .i64 m.am, .int .i64 m.un, .int .i64 m.co, .string m.note] 28)).drew.heap.size := by simp; omega
        have T1 : Hid ((fun w' => w'.cell? ⟨g3, 0, none⟩ = some (.slice A ms.length cap) ∧ w'.frozen? ⟨g3, 0, none⟩ = false ∧ w'.cell? ⟨g4, 0, none⟩ = some (.int .i64 m.k) ∧ w'.cell? ⟨g4, 1, none⟩ = some (.int .i64 m.id) ∧ w'.cell? ⟨g4, 2, none⟩ = some (.int .i64 m.seq) ∧ w'.cell? ⟨g4, 3, none⟩ = some (.int .i64 m.g) ∧ w'.cell? ⟨g4, 4, none⟩ = some (.int .i64 m.wa) ∧ w'.cell? ⟨g4, 5, none⟩ = some (.int .i64 m.we) ∧ w'.cell? ⟨g4, 6, none⟩ = some (.int .i64 m.am) ∧ w'.cell? ⟨g4, 7, none⟩ = some (.int .i64 m.un) ∧ w'.cell? ⟨g4, 8, none⟩ = some (.int .i64 m.co) ∧ w'.cell? ⟨g4, 9, none⟩ = some (.string m.note) ∧ w'.cell? ⟨g4, 10, none⟩ = some (.int .i64 k) ∧ Q9 g2 g3 g4 m k w w') w2.drew) := Lib.hid (Q9.all (Q2.out.keep (Below.refl _ _).drew) (c_drew x0) (f_drew f0))
        have T2 : Hid (∀ o : Obj, (fun w' => w'.cell? ⟨g3, 0, none⟩ = some (.slice A ms.length cap) ∧ w'.frozen? ⟨g3, 0, none⟩ = false ∧ w'.cell? ⟨g4, 0, none⟩ = some (.int .i64 m.k) ∧ w'.cell? ⟨g4, 1, none⟩ = some (.int .i64 m.id) ∧ w'.cell? ⟨g4, 2, none⟩ = some (.int .i64 m.seq) ∧ w'.cell? ⟨g4, 3, none⟩ = some (.int .i64 m.g) ∧ w'.cell? ⟨g4, 4, none⟩ = some (.int .i64 m.wa) ∧ w'.cell? ⟨g4, 5, none⟩ = some (.int .i64 m.we) ∧ w'.cell? ⟨g4, 6, none⟩ = some (.int .i64 m.am) ∧ w'.cell? ⟨g4, 7, none⟩ = some (.int .i64 m.un) ∧ w'.cell? ⟨g4, 8, none⟩ = some (.int .i64 m.co) ∧ w'.cell? ⟨g4, 9, none⟩ = some (.string m.note) ∧ w'.cell? ⟨g4, 10, none⟩ = some (.int .i64 k) ∧ Q9 g2 g3 g4 m k w w') (w2.alloc o).drew) := Lib.hid fun o => (Q9.all ((Q2.out.keep ((Below.refl _ _).alloc (Nat.le_refl _) _)).keep (Below.refl _ _).drew) (hX.out _) (hF.out _))
        have hrow := Lib.hid (fun b (e : (Value.slice A ms.length cap).ownBlock = some b) => And.intro (World.ownsRow.lt S2.out.own b e).1 (hlo.out b e))
        have T3 : Hid (∀ wx : World, (w2.alloc (.cells #[.int .i64 m.k, .int .i64 m.id, .int .i64 m.seq, .int .i64 m.g, .int .i64 m.wa, .int .i64 m.we, .int .i64 m.am, .int .i64 m.un, .int .i64 m.co, .string m.note] 28)).drew.grownBy wx (Value.slice A ms.length cap).ownBlock → (fun w' => w'.cell? ⟨g3, 0, none⟩ = some (.slice A ms.length cap) ∧ w'.frozen? ⟨g3, 0, none⟩ = false ∧ w'.cell? ⟨g4, 0, none⟩ = some (.int .i64 m.k) ∧ w'.cell? ⟨g4, 1, none⟩ = some (.int .i64 m.id) ∧ w'.cell? ⟨g4, 2, none⟩ = some (.int .i64 m.seq) ∧ w'.cell? ⟨g4, 3, none⟩ = some (.int .i64 m.g) ∧ w'.cell? ⟨g4, 4, none⟩ = some (.int .i64 m.wa) ∧ w'.cell? ⟨g4, 5, none⟩ = some (.int .i64 m.we) ∧ w'.cell? ⟨g4, 6, none⟩ = some (.int .i64 m.am) ∧ w'.cell? ⟨g4, 7, none⟩ = some (.int .i64 m.un) ∧ w'.cell? ⟨g4, 8, none⟩ = some (.int .i64 m.co) ∧ w'.cell? ⟨g4, 9, none⟩ = some (.string m.note) ∧ w'.cell? ⟨g4, 10, none⟩ = some (.int .i64 k) ∧ Q9 g2 g3 g4 m k w w') wx) := Lib.hid fun wx hg => by
          have e2 : some g2 ≠ (Value.slice A ms.length cap).ownBlock := fun e => by have := hrow.out g2 e.symm; omega
          have e3 : some g3 ≠ (Value.slice A ms.length cap).ownBlock := fun e => by have := hrow.out g3 e.symm; omega
          have e4 : some g4 ≠ (Value.slice A ms.length cap).ownBlock := fun e => by have := hrow.out g4 e.symm; omega
          have hq := (T2.out (.cells #[.int .i64 m.k, .int .i64 m.id, .int .i64 m.seq, .int .i64 m.g, .int .i64 m.wa, .int .i64 m.we, .int .i64 m.am, .int .i64 m.un, .int .i64 m.co, .string m.note] 28)).2.2.2.2.2.2.2.2.2.2.2.2.2
          have hl3 : g3 < (w2.alloc (.cells #[.int .i64 m.k, .int .i64 m.id, .int .i64 m.seq, .int .i64 m.g, .int .i64 m.wa, .int .i64 m.we, .int .i64 m.am, .int .i64 m.un, .int .i64 m.co, .string m.note] 28)).drew.heap.size := by simp; omega
          exact Q9.all (hq.app hg e2 e3 e4 (fun i e => by have := (hrow.out i e).1; have := S2.out.o1; omega)) ((World.cell?_of_block (hg.block g3 hl3 e3)).trans (hX.out _)) ((World.frozen?_of_block (hg.block g3 hl3 e3)).trans (hF.out _))
        have z0 := (B4.out.cell 0).trans (by rfl)
        have z1 := (B4.out.cell 1).trans (by rfl)
        have z2 := (B4.out.cell 2).trans (by rfl)
        have z3 := (B4.out.cell 3).trans (by rfl)
        have z4 := (B4.out.cell 4).trans (by rfl)
        have z5 := (B4.out.cell 5).trans (by rfl)
        have z6 := (B4.out.cell 6).trans (by rfl)
        have z7 := (B4.out.cell 7).trans (by rfl)
        have z8 := (B4.out.cell 8).trans (by rfl)
        have z9 := (B4.out.cell 9).trans (by rfl)
        have z10 := (B4.out.cell 10).trans (by rfl)
        have hg4 : g4 < w2.heap.size := B4.out.lt
        have hg4n : g4 ≠ w2.heap.size := by omega
        have hg3n : g3 < w2.heap.size := by omega
        go_region_law (first
            | (refine step_append_own rfl (.tmp 25) (.tmp 28) 38 rfl (g3 + 1) 28 j0 (.agg #[.int .i64 0, .int .i64 0, .int .i64 0, .int .i64 0, .int .i64 0, .int .i64 0, .int .i64 0, .int .i64 0, .int .i64 0, .string ⟨#[]⟩]) 10 88 hu3 hj hy0 hy1 hy2 rfl (by decide) _ _ _ rfl OWN.out ⟨w2.heap.size, 0, none⟩ 1 1 [.int .i64 m.k, .int .i64 m.id, .int .i64 m.seq, .int .i64 m.g, .int .i64 m.wa, .int .i64 m.we, .int .i64 m.am, .int .i64 m.un, .int .i64 m.co, .string m.note] rfl rfl NEW.out c2 c3 c4 c5 ?_; intro v7 w7 hown7 hgrow7; obtain ⟨A7, cap7, rfl⟩ := owns_form hown7; have y := T3.out _ hgrow7; have y0 := y.1; have yf := y.2.1; have y10 := y.2.2.2.2.2.2.2.2.2.2.2.2.1; have yq := Lib.hid y.2.2.2.2.2.2.2.2.2.2.2.2.2; have yo := Lib.hid hown7; clear y hown7 hgrow7)
            | fail)
        all_goals (go_wp2_with fail; go_roundw)
        all_goals (first
          | exact ⟨by omega, ms ++ [m], by simp; omega, Lib.hid (fun ms' r c h => by simpa using hpar.out ms' r c h), A7, cap7, Lib.hid (LS.next yq.out yo.out S2.out.o1 S2.out.o2)⟩
          | (show (t.extract k t.size).size < t.size; rw [ByteArray.size_extract]; omega))
      · have bc : (c != 0) = true := bne_iff_ne.mpr hc
        go_upto_region 7 with fail
        have hal := (Below.refl w1.heap.size w1).alloc (Nat.le_refl _) (.cells #[.int .i64 m.k, .int .i64 m.id, .int .i64 m.seq, .int .i64 m.g, .int .i64 m.wa, .int .i64 m.we, .int .i64 m.am, .int .i64 m.un, .int .i64 m.co, .string m.note, .int .i64 n, .int .i64 c] 46)
        have S2 := Lib.hid (S1.out.keep hal)
        have B4 := Lib.hid (Blk.new (w := w1) (Nat.zero_le _) #[.int .i64 m.k, .int .i64 m.id, .int .i64 m.seq, .int .i64 m.g, .int .i64 m.wa, .int .i64 m.we, .int .i64 m.am, .int .i64 m.un, .int .i64 m.co, .string m.note, .int .i64 n, .int .i64 c] 46)
        have h34 : g3 < w1.heap.size := S1.out.lb.lt
        clear S1 hal
        generalize w1.alloc _ = w2 at *
        generalize w1.heap.size = g4 at *
        have x11 := (B4.out.cell 11).trans (by rfl)
        have x1 := (S2.out.lb.cell 1).trans (by rfl)
        have x2 := (S2.out.lb.cell 2).trans (by rfl)
        have f1 := S2.out.lb.frozen 1
        have f2 := S2.out.lb.frozen 2
        go_cut [] (fun wc => ∃ wx : World, wx = wc ∧ LS g2 g3 (.slice A ms.length cap) ms t.size c w wx)
        case first =>
          go_region
          all_goals (go_wp2_with fail; go_meet)
          all_goals (first | exact ⟨_, rfl, ((S2.out.set1 _).set2 _).keep (below_drewN (Below.refl _ _) _)⟩ | exact ⟨_, rfl, ((S2.out.set2 _).set1 _).keep (below_drewN (Below.refl _ _) _)⟩)
        case rest =>
          obtain ⟨w5, rfl, S5⟩ := hcut
          have HB := Lib.hid S5.lb
          have HO := Lib.hid S5.ob
          have hpar := Lib.hid (HP.out [] t.size c (.stop h0 HE2.out hc))
          have hmm : ms.length ≤ 20000 := by omega
          have K5 := Lib.hid S5
          clear ht hlen HP S2 B4 x11 x1 x2 f1 f2 S5
          rename_i hK
          refine hK _ _ ?_
          clear hK
          go_wp2_with (first | ((with_reducible refine at_load (ty := 42) (x := .tmp 3) ?_); refine wpl_load_row rfl 42 (.tmp 3) rfl g3 rfl HB.out rfl (by kernel_rfl) hu rfl ?_) | ((with_reducible refine at_store (ty := 42) (y := .tmp 23) ?_); refine wpl_store_row rfl 42 (.tmp 2) (.tmp 23) rfl g2 _ rfl rfl HO.out rfl (by kernel_rfl) (by simp [Value.oneCell']) ?_; intro hout))
          refine bodyPost_ret (v := .agg #[.slice A ms.length cap, .int .i64 t.size, .int .i64 c]) (results_cell_row rfl _ _ _ _ _ _ _ rfl hout.2 hu rfl (by kernel_rfl)) rfl ⟨A, cap, ms, t.size, c, rfl, by simpa using hpar.out, ?_, hmm, ?_⟩
          · exact (K5.out.own.setRow (d := g2) (by have := K5.out.o2; omega) _).base (by have := K5.out.o1; have := K5.out.o2; omega)
          · exact below_setRow K5.out.bl (by have := K5.out.o1; omega) _
end Go.Proofs.Ytddemmmbbleofaa.C
