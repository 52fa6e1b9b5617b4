/- The law FnMsgTurned, walked: a message of which one byte is turned has a wrong sum; one that is cut off is not whole; whole it is read back. No condition. -/
import Derived.Test.YtddemmmbbleofaaMsgW
import Derived.Test.YtddemmmbbleofaaMsgE
import Derived.Test.YtddemmmbbleofaaDrawML
import Derived.Test.YtddemmmbbleofaaOFnMsgTurned
namespace Go.Proofs.Ytddemmmbbleofaa.C
open Go.RowKit Go.Proofs.Ytddemmmbbleofaa.Rd
set_option maxRecDepth 100000
set_option linter.unusedVariables false
set_option linter.unusedSimpArgs false
attribute [local go_sem ↓] Go.wp_at_zero Go.wp_at_succ
open Go.Proofs.YtddemmmbbleofaaW.PrintWords (bt bt_range bt_at)
theorem l_at2 (A : Option Addr) (n c : Nat) (at' most : Int) (w : World) (h : BytesIn w A n) (hn : n ≤ 1048576) (h0 : 0 ≤ at') (h1 : 1 < most) (h2 : at' ≤ 100) : Calls Try.prog 15 #[.slice A n c, .int .i64 at', .int .i64 most] w fun e w' => ∃ r : Int, e = .returned (.int .i64 r) ∧ 0 ≤ r ∧ r < most ∧ w = w' := by
  have b1 : decide (most ≤ 1) = false := decide_eq_false (by omega)
  by_cases hz : n = 0
  · subst hz
    go_enter Try.func15, Try.ntmps15
    go_wp2
    go_ret
    exact ⟨0, rfl, by omega, by omega, rfl⟩
  · have k0 : 0 ≤ at' % n := Int.emod_nonneg _ (by omega)
    have k1 : at' % n < n := Int.emod_lt_of_pos _ (by omega)
    obtain ⟨ad, x, rfl, hb, x0, x1, hx⟩ := h (at' % n).toNat (by omega)
    go_enter Try.func15, Try.ntmps15
    go_wp2
    go_ret
    exact ⟨x % most, rfl, Int.emod_nonneg _ (by omega), Int.emod_lt_of_pos _ (by omega), rfl⟩
theorem bytes_in2 {w : World} {A : Option Addr} {ys : List Int} (h : (Kd.int .u8).C w A ys.length ys) (hy : AllOk (Fits .u8) ys) : BytesIn w A ys.length := by
  intro j hj
  obtain ⟨x, hx⟩ : ∃ x, ys[j]? = some x := ⟨ys[j], List.getElem?_eq_getElem hj⟩
  obtain ⟨ad, c, e, hb, -, hc, hr⟩ := h.get hx
  have hok := hy x (List.mem_of_getElem? hx)
  have h0 : c = [.int .u8 x] := hc
  subst h0
  have h1 := hr 0 _ rfl
  simp [Fits, Lit.wf] at hok
  refine ⟨ad, x, e, hb, ?_, ?_, by simpa [Kd.int, Kd.scalar] using h1⟩
  · exact hok.1
  · exact hok.2
/-- The first message of a list. -/
theorem OwnMs.first {w : World} {B : Nat} {v : Value} {m : M} {ms : List M} (h : OwnMs w B v (m :: ms)) : ∃ g cap, v = .slice (some ⟨g, 0, none⟩) (ms.length + 1) cap ∧ g < w.heap.size ∧ B ≤ g ∧ RowAt w g m.row.toList := by
  have h0 := h
  obtain ⟨hl, ⟨_, hn⟩ | ⟨g, cap, cur, rfl, hb, hg, h1, h2, h3, h4⟩⟩ := h
  · simp at hn
  · have hc := World.ownsRow.cells h0 (g := g) rfl
    have hlt := (World.ownsRow.lt h0 g rfl).2
    refine ⟨g, cap, rfl, hlt, hb, hlt, fun i u hi => ?_⟩
    have := hc i u (by simp only [rows, List.flatMap_cons]; rw [List.getElem?_append_left (List.getElem?_eq_some_iff.1 hi).1]; exact hi)
    rwa [Go.Proofs.YtddemmmbbleofaaW.PrintWords.add_plain] at this
theorem OwnMs.none {w : World} {B : Nat} {v : Value} (h : OwnMs w B v []) : ∃ A cap, v = .slice A 0 cap := by
  obtain ⟨hl, ⟨rfl, _⟩ | ⟨g, cap, cur, rfl, _⟩⟩ := h
  · exact ⟨_, _, rfl⟩
  · exact ⟨_, _, rfl⟩
theorem bytes_fr (w : World) (e : TypeId) (s : ByteArray) (j : Nat) (hj : j < s.size) : (Lib.bytesWorld w e s).frozen? ⟨w.heap.size, j, none⟩ = false := by
  have h1 : s.size ≤ (Lib.bytesCells w e s).size := by simp [Lib.bytesCells]
  simp [World.frozen?, Lib.bytesWorld_at_new]
  omega
theorem wrap2 {q : Int} (h0 : 0 ≤ q) (h1 : q < 255) : IntKind.u8.wrap (IntKind.i64.wrap (1 + q)) = 1 + q := by
  rw [IntKind.wrap_i64]
  simp [IntKind.wrap, IntKind.bits, IntKind.signed]
  omega
/-- The bytes with one turned; only their own block is another. -/
structure Turned (w4 : World) (gb : Nat) (t : ByteArray) (K : Nat) (v : Int) (w : World) : Prop where
  cells : ∀ j, j < t.size → w.cell? ⟨gb, j, none⟩ = some (.int .u8 (if j = K then v else bt t (j : Int)))
  only : w4.grownBy w (some gb)
theorem turned_cells {w4 : World} {gb : Nat} {t : ByteArray} {K : Nat} {x : Value} (HC : ∀ j, j < t.size → w4.cell? ⟨gb, j, none⟩ = some (.int .u8 (bt t (j : Int)))) (x0 : w4.cell? ⟨gb, K, none⟩ = some x) (v : Int) : Turned w4 gb t K v (w4.setCell ⟨gb, K, none⟩ (.int .u8 v)).drew := by
  refine ⟨fun j hj => ?_, only_drew (only_setCell (World.grownBy.refl _ _) (.inl rfl) _)⟩
  by_cases h : j = K
  · subst h
    rw [if_pos rfl]
    exact c_drew (World.cell?_setCell_same _ _ _ x0)
  · rw [if_neg h]
    exact c_drew (c_set (by intro e; cases e; exact h rfl) (HC j hj))
theorem BytesIn.far {w w' : World} {A : Option Addr} {n B : Nat} {row : Option Nat} (h : BytesIn w A n) (hg : w.grownBy w' row) {g : Nat} (hgB : B ≤ g) (hA : ∀ j, j < n → ∀ ad, A = some ad → ad.block < B) (hr : row = some g := by rfl) : BytesIn w' A n := fun j hj =>
  let ⟨ad, x, e, hlt, x0, x1, hx⟩ := h j hj
  ⟨ad, x, e, Nat.lt_of_lt_of_le hlt hg.size, x0, x1, hg.cell hx (by rw [show (ad.add j).block = ad.block from by rw [Addr.add]; split <;> rfl, hr]; have := hA j hj ad e; intro e2; cases e2; omega)⟩
theorem RowAt.far {w w' : World} {b g : Nat} {cs : List Value} (h : RowAt w b cs) (hg : w.grownBy w' (some g)) (hne : b ≠ g) : RowAt w' b cs :=
  ⟨Nat.lt_of_lt_of_le h.1 hg.size, fun i v hi => hg.cell (h.2 i v hi) (by simpa using hne)⟩
theorem xor_ne {x y : Int} (x0 : 0 ≤ x) (x1 : x ≤ 255) (y0 : 1 ≤ y) (y1 : y ≤ 255) : bits .xor .u8 x y ≠ x ∧ 0 ≤ bits .xor .u8 x y ∧ bits .xor .u8 x y ≤ 255 := by
  obtain ⟨a, rfl⟩ := Int.eq_ofNat_of_zero_le x0
  obtain ⟨b, rfl⟩ := Int.eq_ofNat_of_zero_le (show 0 ≤ y by omega)
  have e : bits .xor .u8 (a : Int) (b : Int) = ((a ^^^ b : Nat) : Int) := by
    show IntKind.u8.wrap ((BitVec.ofInt 8 (a : Int) ^^^ BitVec.ofInt 8 (b : Int)).toNat : Int) = _
    have h1 : (BitVec.ofInt 8 (a : Int)).toNat = a := by simp; omega
    have h2 : (BitVec.ofInt 8 (b : Int)).toNat = b := by simp; omega
    have h3 : a ^^^ b < 256 := Nat.xor_lt_two_pow (n := 8) (by omega) (by omega)
    rw [BitVec.toNat_xor, h1, h2]
    simp [IntKind.wrap, IntKind.bits, IntKind.signed]
    omega
  have h3 : a ^^^ b < 256 := Nat.xor_lt_two_pow (n := 8) (by omega) (by omega)
  rw [e]
  refine ⟨fun h => ?_, by omega, by omega⟩
  have h4 : a ^^^ b = a := by omega
  have h5 : a ^^^ (a ^^^ b) = a ^^^ a := by rw [h4]
  rw [← Nat.xor_assoc, Nat.xor_self, Nat.zero_xor] at h5
  omega
/-- The text of the turned bytes. -/
theorem turned_text {w4 w : World} {gb : Nat} {t : ByteArray} {K : Nat} {y : Int} {A : Option Addr} (h : Turned w4 gb t K (bits .xor .u8 (bt t (K : Int)) y) w) (hK : K < t.size) (y0 : 1 ≤ y) (y1 : y ≤ 255) (hA : A = some ⟨gb, 0, none⟩ := by rfl) (hz : t.size ≤ 1000 := by omega) :
    ∃ t' : ByteArray, t'.size = t.size ∧ (∃ xs, t' = strOfNums xs ∧ Go.Proofs.YtddemmmbbleofaaW.PrintWords.ReadsInt w .u8 A t.size xs) ∧ bt t' (K : Int) ≠ bt t (K : Int) ∧ ∀ j : Nat, j ≠ K → bt t' (j : Int) = bt t (j : Int) := by
  obtain ⟨c0, c1⟩ := bt_range t ((K : Nat) : Int)
  obtain ⟨v0, v1, v2⟩ := xor_ne c0 c1 y0 y1
  generalize bits .xor .u8 (bt t (K : Int)) y = v at *
  obtain ⟨xs, hxs⟩ : ∃ xs : List Int, xs = (List.range t.size).map (fun j : Nat => if j = K then v else bt t (j : Int)) := ⟨_, rfl⟩
  have hl : xs.length = t.size := by rw [hxs]; simp
  have hg : ∀ j, j < t.size → xs[j]? = some (if j = K then v else bt t (j : Int)) := fun j hj => by rw [hxs]; simp [hj]
  have hr : ∀ x ∈ xs, 0 ≤ x ∧ x ≤ 255 := fun x hx => by
    rw [hxs] at hx
    obtain ⟨j, _, rfl⟩ := List.mem_map.1 hx
    split
    · exact ⟨v1, v2⟩
    · exact bt_range t _
  have hb : ∀ j, j < t.size → bt (strOfNums xs) (j : Int) = if j = K then v else bt t (j : Int) := fun j hj => by
    have := bt_str xs ⟨#[]⟩ hr j _ (hg j hj)
    rwa [show ∀ x : ByteArray, x ++ (⟨#[]⟩ : ByteArray) = x from fun x => ByteArray.append_empty] at this
  have hsz : (strOfNums xs).size = t.size := by rw [← hl]; simp [strOfNums, ByteArray.size]
  refine ⟨strOfNums xs, hsz, ⟨xs, rfl, hl, by omega, fun _ => ⟨_, hA, fun j hj => ?_⟩⟩, ?_, fun j hj => ?_⟩
  · rw [Go.Proofs.YtddemmmbbleofaaW.PrintWords.add_plain, h.cells j hj, List.getD_eq_getElem?_getD, hg j hj]
    rfl
  · rw [hb K hK, if_pos rfl]; exact v0
  · by_cases h2 : j < t.size
    · rw [hb j h2, if_neg hj]
    · rw [bt_out (by omega), bt_out (by omega)]
theorem cut_call {mk mid mseq mg mwa mwe mam mun mco : Int} {s t : ByteArray} (h : msgB mk mid mseq mg mwa mwe mam mun mco s.size = true) (ht : t = M.text ⟨mk, mid, mseq, mg, mwa, mwe, mam, mun, mco, s⟩) {k : Nat} (h2 : 2 ≤ k) (hk : k < t.size) (hz : t.size ≤ 200) (w : World) :
    Calls Try.prog 22 #[.string (t.extract 0 k)] w fun e w' => e = .returned (.agg #[.int .i64 0, .int .i64 0, .int .i64 0, .int .i64 0, .int .i64 0, .int .i64 0, .int .i64 0, .int .i64 0, .int .i64 0, .string ⟨#[]⟩, .int .i64 0, .int .i64 9]) ∧ Below w.heap.size w w' := by
  have hs : (t.extract 0 k).size ≤ t.size := by rw [ByteArray.size_extract]; omega
  refine (c_MsgRead _ w (by omega)).mono fun e w' ⟨he, hb⟩ => ⟨he.trans ?_, hb⟩
  rw [readF, if_neg (by omega), ht, outF_cut (m := ⟨mk, mid, mseq, mg, mwa, mwe, mam, mun, mco, s⟩) h h2 (by rw [← ht]; exact hk)]
  rfl
theorem back_call {mk mid mseq mg mwa mwe mam mun mco : Int} {s t : ByteArray} (h : msgB mk mid mseq mg mwa mwe mam mun mco s.size = true) (ht : t = M.text ⟨mk, mid, mseq, mg, mwa, mwe, mam, mun, mco, s⟩) (hz : t.size ≤ 200) (w : World) :
    Calls Try.prog 22 #[.string t] w fun e w' => e = .returned (.agg #[.int .i64 mk, .int .i64 mid, .int .i64 mseq, .int .i64 mg, .int .i64 mwa, .int .i64 mwe, .int .i64 mam, .int .i64 mun, .int .i64 mco, .string s, .int .i64 (t.size : Int), .int .i64 0]) ∧ Below w.heap.size w w' := by
  refine (c_MsgRead _ w (by omega)).mono fun e w' ⟨he, hb⟩ => ⟨he.trans ?_, hb⟩
  have := outF_text (m := ⟨mk, mid, mseq, mg, mwa, mwe, mam, mun, mco, s⟩) h ⟨#[]⟩
  rw [show ∀ x : ByteArray, x ++ (⟨#[]⟩ : ByteArray) = x from fun x => ByteArray.append_empty, ← ht] at this
  rw [readF, if_neg (by omega), this]
  rfl
structure RW (gl : Nat) (cs : List Value) (w0 w' : World) : Prop where
  row : RowAt w' gl cs
  bl : Below w0.heap.size w0 w'
theorem RW.keep {gl : Nat} {cs : List Value} {w0 w' w'' : World} (h : RW gl cs w0 w') (hb : Below w'.heap.size w' w'') : RW gl cs w0 w'' := ⟨h.row.keep hb, btrans h.bl hb⟩
theorem RW.all {gl : Nat} {mk mid mseq mg mwa mwe mam mun mco : Int} {s : ByteArray} {w0 w' : World} (h : RW gl [.int .i64 mk, .int .i64 mid, .int .i64 mseq, .int .i64 mg, .int .i64 mwa, .int .i64 mwe, .int .i64 mam, .int .i64 mun, .int .i64 mco, .string s] w0 w') : w'.cell? ⟨gl, 0, none⟩ = some (.int .i64 mk) ∧ w'.cell? ⟨gl, 1, none⟩ = some (.int .i64 mid) ∧ w'.cell? ⟨gl, 2, none⟩ = some (.int .i64 mseq) ∧ w'.cell? ⟨gl, 3, none⟩ = some (.int .i64 mg) ∧ w'.cell? ⟨gl, 4, none⟩ = some (.int .i64 mwa) ∧ w'.cell? ⟨gl, 5, none⟩ = some (.int .i64 mwe) ∧ w'.cell? ⟨gl, 6, none⟩ = some (.int .i64 mam) ∧ w'.cell? ⟨gl, 7, none⟩ = some (.int .i64 mun) ∧ w'.cell? ⟨gl, 8, none⟩ = some (.int .i64 mco) ∧ w'.cell? ⟨gl, 9, none⟩ = some (.string s) ∧ RW gl [.int .i64 mk, .int .i64 mid, .int .i64 mseq, .int .i64 mg, .int .i64 mwa, .int .i64 mwe, .int .i64 mam, .int .i64 mun, .int .i64 mco, .string s] w0 w' :=
  ⟨h.row.2 0 _ rfl, h.row.2 1 _ rfl, h.row.2 2 _ rfl, h.row.2 3 _ rfl, h.row.2 4 _ rfl, h.row.2 5 _ rfl, h.row.2 6 _ rfl, h.row.2 7 _ rfl, h.row.2 8 _ rfl, h.row.2 9 _ rfl, h⟩
theorem RW.pick {gl : Nat} {mk mid mseq mg mwa mwe mam mun mco : Int} {s : ByteArray} {w0 w' : World} (hH : w'.cell? ⟨gl, 0, none⟩ = some (.int .i64 mk) ∧ w'.cell? ⟨gl, 1, none⟩ = some (.int .i64 mid) ∧ w'.cell? ⟨gl, 2, none⟩ = some (.int .i64 mseq) ∧ w'.cell? ⟨gl, 3, none⟩ = some (.int .i64 mg) ∧ w'.cell? ⟨gl, 4, none⟩ = some (.int .i64 mwa) ∧ w'.cell? ⟨gl, 5, none⟩ = some (.int .i64 mwe) ∧ w'.cell? ⟨gl, 6, none⟩ = some (.int .i64 mam) ∧ w'.cell? ⟨gl, 7, none⟩ = some (.int .i64 mun) ∧ w'.cell? ⟨gl, 8, none⟩ = some (.int .i64 mco) ∧ w'.cell? ⟨gl, 9, none⟩ = some (.string s) ∧ RW gl [.int .i64 mk, .int .i64 mid, .int .i64 mseq, .int .i64 mg, .int .i64 mwa, .int .i64 mwe, .int .i64 mam, .int .i64 mun, .int .i64 mco, .string s] w0 w') : RW gl [.int .i64 mk, .int .i64 mid, .int .i64 mseq, .int .i64 mg, .int .i64 mwa, .int .i64 mwe, .int .i64 mam, .int .i64 mun, .int .i64 mco, .string s] w0 w' := hH.2.2.2.2.2.2.2.2.2.2
set_option maxHeartbeats 4000000 in
theorem turned_law (n c : Nat) (A : Option Addr) (w : World) (h : BytesIn w A n) (hn : n ≤ 1048576) : Calls Try.prog 6 #[.slice A n c] w fun e w' => e = .returned (.bool true) ∧ Below w.heap.size w w' := by
  have hu := Try.underlying28
  have hu1 := Try.underlying46
  have i0 : decide ((n : Int) > 1048576) = false := decide_eq_false (by omega)
  have H := Lib.hid h
  have h0' := h
  go_enter Try.func6, Try.ntmps6
  go_wp2_with fail
  refine (l_lwMsgs _ _ _ _ h hn).mono ?_
  rintro e w1 ⟨v, ms, rfl, hms, hok, hO, hb⟩
  have H1 := Lib.hid (H.out.keep hb)
  have KB := Lib.hid hb
  clear h H hb
  rcases ms with _ | ⟨m, ms⟩
  · obtain ⟨A', c', rfl⟩ := hO.none
    go_wp2_with fail
    go_ret
    exact ⟨rfl, KB.out⟩
  · obtain ⟨gl, cap, rfl, hg1, hg2, hR⟩ := hO.first
    have hmok := Lib.hid (hok m List.mem_cons_self)
    have bl : ((ms.length : Int) + 1 == 0) = false := beq_eq_false_iff_ne.mpr (by omega)
    clear hok hO
    obtain ⟨mk, mid, mseq, mg, mwa, mwe, mam, mun, mco, s⟩ := m
    have KR := Lib.hid hR
    clear hR
    have e0 := KR.out.2 0 _ rfl
    have e1 := KR.out.2 1 _ rfl
    have e2 := KR.out.2 2 _ rfl
    have e3 := KR.out.2 3 _ rfl
    have e4 := KR.out.2 4 _ rfl
    have e5 := KR.out.2 5 _ rfl
    have e6 := KR.out.2 6 _ rfl
    have e7 := KR.out.2 7 _ rfl
    have e8 := KR.out.2 8 _ rfl
    have e9 := KR.out.2 9 _ rfl
    have h40 : s.size ≤ 40 := (msgB_bounds hmok.out).2.1
    have hs9 : s.size ≤ 9223372036854775807 := by omega
    go_wp2_with fail
    refine (c_MsgBytes _ _ _ _ _ _ _ _ _ _ _ hs9).mono ?_
    rintro e w2 ⟨rfl, b2⟩
    have hmm : mtextR mk mid mseq mg mwa mwe mam mun mco s = M.text ⟨mk, mid, mseq, mg, mwa, mwe, mam, mun, mco, s⟩ := by rw [mtextR, show msgB mk mid mseq mg mwa mwe mam mun mco s.size = true from hmok.out, if_pos rfl]; rfl
    have HMM := Lib.hid hmm
    rw [hmm]
    clear hmm
    have hts := Lib.hid (text_size hmok.out)
    have hbs := Lib.hid (body_size hmok.out)
    obtain ⟨t, ht⟩ : ∃ t, t = M.text ⟨mk, mid, mseq, mg, mwa, mwe, mam, mun, mco, s⟩ := ⟨_, rfl⟩
    rw [← ht]
    have HT := Lib.hid ht
    have tz : 6 ≤ t.size := by rw [ht]; have := hts.out; omega
    have tz2 : t.size ≤ 200 := by rw [ht]; have := hts.out; have := hbs.out; omega
    clear ht
    have H2 := Lib.hid (H1.out.keep b2)
    have KR2 := Lib.hid (KR.out.keep b2)
    have KB2 := Lib.hid (btrans KB.out b2)
    clear H1 KR KB b2 e0 e1 e2 e3 e4 e5 e6 e7 e8 e9
    have e0 := KR2.out.2 0 _ rfl
    have e1 := KR2.out.2 1 _ rfl
    have e2 := KR2.out.2 2 _ rfl
    have e3 := KR2.out.2 3 _ rfl
    have e4 := KR2.out.2 4 _ rfl
    have e5 := KR2.out.2 5 _ rfl
    have e6 := KR2.out.2 6 _ rfl
    have e7 := KR2.out.2 7 _ rfl
    have e8 := KR2.out.2 8 _ rfl
    have e9 := KR2.out.2 9 _ rfl
    go_wp2_with fail
    refine (s_MsgBytes _ _ _ _ _ _ _ _ _ _ _ hs9).mono ?_
    rintro e w3 ⟨rfl, b3⟩
    rw [HMM.out, ← HT.out]
    have H3 := Lib.hid (H2.out.keep b3)
    have KR3 := Lib.hid (KR2.out.keep b3)
    have KB3 := Lib.hid (btrans KB2.out b3)
    clear H2 KR2 KB2 b3 e0 e1 e2 e3 e4 e5 e6 e7 e8 e9 HMM
    go_wp2_with fail
    refine (l_at2 _ _ _ _ _ _ H3.out hn (by omega) (by omega) (by omega)).mono ?_
    rintro e w3' ⟨r, rfl, r0, r1, rfl⟩
    obtain ⟨k, rfl⟩ := Int.eq_ofNat_of_zero_le r0
    have kk : k + 2 < t.size := by omega
    go_upto_region 10 with fail
    have hcv := Lib.run_convert_string_bytes (P := Try.prog) w3 9 22 5 t Try.underlying9 Try.underlying22 Try.underlying5
    go_upto_region 11 with fail
    have HC := Lib.hid (fun j (hj : j < t.size) => (Lib.bytesWorld_cell w3 5 t j hj).trans (by rw [bt_get _ j hj]))
    have HF := Lib.hid (fun j (hj : j < t.size) => bytes_fr w3 5 t j hj)
    have bW := below_bytes w3 5 t
    have H4 := Lib.hid (H3.out.keep bW)
    have KR4 := Lib.hid (KR3.out.keep bW)
    have KB4 := Lib.hid (btrans KB3.out bW)
    have hgb : w.heap.size ≤ w3.heap.size := KB3.out.size
    have hgl : gl < w3.heap.size := KR3.out.1
    have hlt : w3.heap.size < (Lib.bytesWorld w3 5 t).heap.size := by rw [Lib.bytesWorld_size]; omega
    clear H3 KR3 KB3 bW hcv
    generalize Lib.bytesWorld w3 5 t = w4 at *
    generalize w3.heap.size = gb at *
    have x0 := HC.out (2 + k) (by omega)
    have f0 := HF.out (2 + k) (by omega)
    obtain ⟨c0, c1⟩ := bt_range t ((2 + k : Nat) : Int)
    have k0 : (0 : Int) ≤ 2 + (k : Int) := by omega
    have k1 : 2 + (k : Int) < (t.size : Int) := by omega
    have k2 : (2 + (k : Int)).toNat = 2 + k := by omega
    go_cut [] (fun wc => ∃ (wx : World) (y : Int), wx = wc ∧ 1 ≤ y ∧ y ≤ 255 ∧ Turned w4 gb t (2 + k) (bits .xor .u8 (bt t ((2 + k : Nat) : Int)) y) wx)
    case first =>
      have H4d := Lib.hid (H4.out.keep (Below.refl w4.heap.size w4).drew)
      go_region_with (first | (go_at_call 15; refine (l_at2 _ _ _ _ _ _ H4d.out hn (by omega) (by omega) (by omega)).mono ?_; rintro e w' ⟨q, rfl, q0, q1, rfl⟩) | fail)
      all_goals (go_wp2_with fail; go_meet)
      all_goals (exact ⟨_, _, rfl, by rw [wrap2 q0 q1]; omega, by rw [wrap2 q0 q1]; omega, turned_cells (fun j hj => HC.out j hj) x0 _⟩)
    case rest =>
      obtain ⟨w5, y, rfl, y0, y1, HT5⟩ := hcut
      rename_i hK
      refine hK _ _ ?_
      clear hK x0 f0 HC HF
      obtain ⟨t', hzt, ⟨xs, hrd⟩, hno, hsm⟩ := turned_text (A := some ⟨gb, 0, none⟩) HT5 (by omega) y0 y1
      have hcv := Go.Proofs.YtddemmmbbleofaaW.PrintWords.string_of_reads (P := Try.prog) (c := grownCap w3 t.size 0 5) Try.underlying22 Try.underlying5 Try.underlying9 hrd.2
      rw [← hrd.1] at hcv
      have HE8 : Hid (readF t' = #[.int .i64 0, .int .i64 0, .int .i64 0, .int .i64 0, .int .i64 0, .int .i64 0, .int .i64 0, .int .i64 0, .int .i64 0, .string ⟨#[]⟩, .int .i64 0, .int .i64 8]) := Lib.hid (by
        rw [readF, if_neg (by omega), outF_turned hmok.out (t := t') (k := 2 + k) (by rw [hzt, HT.out]) (by omega) (by rw [← HT.out]; omega) (by rw [← HT.out]; exact hno) (by rw [← HT.out]; exact hsm)]
        rfl)
      have HZ := Lib.hid hzt
      have hlen : t'.size ≤ 1048576 := by omega
      have H5 := Lib.hid (H4.out.far (B := w.heap.size) HT5.only hgb (fun j hj ad e => by
        obtain ⟨ad', _, e', hlt', _⟩ := h0' j hj
        rw [e] at e'
        cases e'
        exact hlt'))
      have KR5 := Lib.hid (KR4.out.far HT5.only (by omega))
      have KB5 := Lib.hid (below_own KB4.out HT5.only (Nat.le_refl _) (fun i e => by cases e; exact hgb))
      clear H4 KR4 KB4 HT5 hrd hno hsm hzt
      go_wp2_with fail
      refine (c_MsgRead _ _ hlen).mono ?_
      rintro e w6 ⟨rfl, b6⟩
      rw [HE8.out]
      have KR6 := Lib.hid (KR5.out.keep b6)
      have KB6 := Lib.hid (btrans KB5.out b6)
      clear H5 KR5 KB5 b6 hcv HE8 HZ hlen
      have hf8 : ∀ w, (Instr.field 46 (.agg #[.int .i64 0, .int .i64 0, .int .i64 0, .int .i64 0, .int .i64 0, .int .i64 0, .int .i64 0, .int .i64 0, .int .i64 0, .string ⟨#[]⟩, .int .i64 0, .int .i64 8]) 2).run Try.prog w = .ok (.int .i64 8) w := fun _ => by kernel_rfl
      have hf9 : ∀ w, (Instr.field 46 (.agg #[.int .i64 0, .int .i64 0, .int .i64 0, .int .i64 0, .int .i64 0, .int .i64 0, .int .i64 0, .int .i64 0, .int .i64 0, .string ⟨#[]⟩, .int .i64 0, .int .i64 9]) 2).run Try.prog w = .ok (.int .i64 9) w := fun _ => by kernel_rfl
      go_upto_region 14 with fail
      have HA := Lib.hid (fun w => cut_call hmok.out HT.out (k := 2 + k) (by omega) (by omega) (by omega) w)
      have HB := Lib.hid (fun w => back_call hmok.out HT.out (by omega) w)
      have k3 : 2 + (k : Int) ≤ (t.size : Int) := by omega
      have R6 : RW gl [.int .i64 mk, .int .i64 mid, .int .i64 mseq, .int .i64 mg, .int .i64 mwa, .int .i64 mwe, .int .i64 mam, .int .i64 mun, .int .i64 mco, .string s] w6 w6 := ⟨KR6.out, Below.refl _ _⟩
      go_region_held3 (fun w' => w'.cell? ⟨gl, 0, none⟩ = some (.int .i64 mk) ∧ w'.cell? ⟨gl, 1, none⟩ = some (.int .i64 mid) ∧ w'.cell? ⟨gl, 2, none⟩ = some (.int .i64 mseq) ∧ w'.cell? ⟨gl, 3, none⟩ = some (.int .i64 mg) ∧ w'.cell? ⟨gl, 4, none⟩ = some (.int .i64 mwa) ∧ w'.cell? ⟨gl, 5, none⟩ = some (.int .i64 mwe) ∧ w'.cell? ⟨gl, 6, none⟩ = some (.int .i64 mam) ∧ w'.cell? ⟨gl, 7, none⟩ = some (.int .i64 mun) ∧ w'.cell? ⟨gl, 8, none⟩ = some (.int .i64 mco) ∧ w'.cell? ⟨gl, 9, none⟩ = some (.string s) ∧ RW gl [.int .i64 mk, .int .i64 mid, .int .i64 mseq, .int .i64 mg, .int .i64 mwa, .int .i64 mwe, .int .i64 mam, .int .i64 mun, .int .i64 mco, .string s] w6 w') (first | (with_reducible exact (R6.keep (Below.refl _ _).drew).all) | (with_reducible exact hB.all)) (first
        | (go_at_call 22; (with_reducible refine (HA.out _).mono ?_); rintro e w' ⟨rfl, hb⟩; have hB := (RW.pick (by assumption)).keep hb)
        | (go_at_call 22; (with_reducible refine (HB.out _).mono ?_); rintro e w' ⟨rfl, hb⟩; have hB := (RW.pick (by assumption)).keep hb)
        | fail)
      all_goals (go_wp2_with fail; go_ret; exact ⟨rfl, btrans KB6.out (RW.pick (by assumption)).bl⟩)
theorem l_FnMsgTurned : OFnMsgTurned.Walks := by
  rintro y0 A0 c0 w f0 - h0
  have H0 := Lib.hid (bytes_in2 h0 f0)
  clear h0 f0
  generalize y0.length = n0 at *
  by_cases g0 : n0 ≤ 1048576
  · exact turned_law _ _ _ w H0.out g0
  · have i0 : decide ((n0 : Int) > 1048576) = true := decide_eq_true (by omega)
    go_enter Try.func6, Try.ntmps6
    go_wp2
    go_ret
    exact ⟨rfl, Below.refl _ _⟩
end Go.Proofs.Ytddemmmbbleofaa.C
