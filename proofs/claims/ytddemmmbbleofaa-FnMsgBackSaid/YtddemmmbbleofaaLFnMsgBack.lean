/- The law FnMsgBack, walked: messages one behind the other are read as they are, and nothing is left. No condition. -/
import Derived.Test.YtddemmmbbleofaaMsgL
import Derived.Test.YtddemmmbbleofaaOFnMsgBack
namespace Go.Proofs.Ytddemmmbbleofaa.C
open Go.RowKit Go.Proofs.Ytddemmmbbleofaa.Rd
set_option maxRecDepth 100000
set_option linter.unusedVariables false
set_option linter.unusedSimpArgs false
attribute [local go_sem ↓] Go.wp_at_zero Go.wp_at_succ
theorem bytes_in2 {w : World} {A : Option Addr} {ys : List Int} (h : (Kd.int .u8).C w A ys.length ys) (hy : AllOk (Fits .u8) ys) : BytesIn w A ys.length := by
  intro j hj
  obtain ⟨x, hx⟩ : ∃ x, ys[j]? = some x := ⟨ys[j], List.getElem?_eq_getElem hj⟩
  obtain ⟨ad, c, e, hb, -, hc, hr⟩ := h.get hx
  have hok := hy x (List.mem_of_getElem? hx)
  have h0 : c = [.int .u8 x] := hc
  subst h0
  have h1 := hr 0 _ rfl
  simp [Fits, Lit.wf] at hok
  refine ⟨ad, x, e, hb, ?_, ?_, by simpa [Kd.int, Kd.scalar] using h1⟩
  · exact hok.1
  · exact hok.2
theorem textOf_snoc (ms : List M) (m : M) : textOf (ms ++ [m]) = textOf ms ++ m.text := by
  induction ms with
  | nil =>
    show m.text ++ (⟨#[]⟩ : ByteArray) = (⟨#[]⟩ : ByteArray) ++ m.text
    rw [show ∀ x : ByteArray, x ++ (⟨#[]⟩ : ByteArray) = x from fun x => ByteArray.append_empty, show ∀ x : ByteArray, (⟨#[]⟩ : ByteArray) ++ x = x from fun x => ByteArray.empty_append]
  | cons q ms ih =>
    show q.text ++ textOf (ms ++ [m]) = (q.text ++ textOf ms) ++ m.text
    rw [ih, ByteArray.append_assoc]
theorem rows_at (ms : List M) : ∀ (i : Nat) (m : M), ms[i]? = some m → ∀ j u, m.row.toList[j]? = some u → (rows ms)[i * 10 + j]? = some u := by
  induction ms with
  | nil => intro i m h; simp at h
  | cons q ms ih =>
    intro i m h j u hj
    have hlq : q.row.toList.length = 10 := rfl
    cases i with
    | zero =>
      simp at h; subst h
      show (q.row.toList ++ rows ms)[0 * 10 + j]? = some u
      rw [List.getElem?_append_left (by have := (List.getElem?_eq_some_iff.1 hj).1; omega), show 0 * 10 + j = j by omega]
      exact hj
    | succ i =>
      show (q.row.toList ++ rows ms)[(i + 1) * 10 + j]? = some u
      rw [List.getElem?_append_right (by omega), hlq, show (i + 1) * 10 + j - 10 = i * 10 + j by omega]
      exact ih i m (by simpa using h) j u hj
/-- Where a message of a list lies. -/
theorem OwnMs.at' {w : World} {B : Nat} {A : Option Addr} {cap : Nat} {ms : List M} (h : OwnMs w B (.slice A ms.length cap) ms) {i : Nat} {m : M} (hi : ms[i]? = some m) : ∃ g, A = some ⟨g, 0, none⟩ ∧ ∀ j u, m.row.toList[j]? = some u → w.cell? ⟨g, i * 10 + j, none⟩ = some u := by
  have h0 := h
  obtain ⟨hl, ⟨e, hn⟩ | ⟨g, cap', cur, e, hb, hg, h1, h2, h3, h4⟩⟩ := h
  · have := (List.getElem?_eq_some_iff.1 hi).1; omega
  · cases e
    refine ⟨g, rfl, fun j u hj => ?_⟩
    have hc := World.ownsRow.cells h0 (g := g) rfl (i * 10 + j) u (rows_at ms i m hi j u hj)
    rwa [Go.Proofs.YtddemmmbbleofaaW.PrintWords.add_plain] at hc
theorem textOf_take (ms : List M) (i : Nat) (m : M) (h : ms[i]? = some m) : textOf (ms.take (i + 1)) = textOf (ms.take i) ++ m.text := by
  rw [List.take_add_one, h]
  simp only [Option.toList_some]
  exact textOf_snoc _ _
theorem textOf_size (ms : List M) (h : ∀ m ∈ ms, m.ok = true) : (textOf ms).size ≤ ms.length * 200 := by
  induction ms with
  | nil => exact Nat.le_refl 0
  | cons m ms ih =>
    have hm := h m List.mem_cons_self
    have hz := text_size hm
    have hb := body_size hm
    have := ih fun q hq => h q (List.mem_cons_of_mem _ hq)
    show (m.text ++ textOf ms).size ≤ (ms.length + 1) * 200
    rw [ByteArray.size_append]; omega
set_option maxHeartbeats 4000000 in
theorem back_law (n c : Nat) (A : Option Addr) (w : World) (h : BytesIn w A n) (hn : n ≤ 1048576) : Calls Try.prog 4 #[.slice A n c] w fun e w' => e = .returned (.bool true) ∧ Below w.heap.size w w' := by
  have hu := Try.underlying28
  have hu1 := Try.underlying42
  have i0 : decide ((n : Int) > 1048576) = false := decide_eq_false (by omega)
  go_enter Try.func4, Try.ntmps4
  go_wp2_with fail
  refine (l_lwMsgs _ _ _ _ h hn).mono ?_
  rintro e w1 ⟨v, ms, rfl, hms, hok, hO, hb⟩
  obtain ⟨A1, cap1, rfl⟩ := hO.form
  have KO := Lib.hid hO
  have KB := Lib.hid hb
  have HOK := Lib.hid hok
  clear h hO hb hok
  go_wp2_with fail
  go_loopw [4, 5] (fun v4 v5 wr => ∃ i : Nat, i ≤ ms.length ∧ v5 = .int .i64 i ∧ v4 = .string (textOf (ms.take i)) ∧ Hid (OwnMs wr w.heap.size (.slice A1 ms.length cap1) ms) ∧ Hid (Below w.heap.size w wr)) (fun _ v5 _ => ms.length - (intOf v5).toNat)
  case atStart => exact ⟨0, by omega, rfl, rfl, KO, KB⟩
  case round =>
    obtain ⟨i, hi, rfl, rfl, KO, KB⟩ := hrel
    have hz := textOf_size (ms.take i) (fun q hq => HOK.out q (List.mem_of_mem_take hq))
    have hz2 : (ms.take i).length ≤ 4 := by rw [List.length_take]; omega
    have hz3 : (textOf (ms.take i)).size ≤ 800 := by omega
    clear hz hz2
    by_cases h5 : i < ms.length
    · have b1 : decide ((i : Int) < (ms.length : Int)) = true := decide_eq_true (by omega)
      obtain ⟨m, hm⟩ : ∃ m, ms[i]? = some m := ⟨_, List.getElem?_eq_getElem h5⟩
      have hmo := HOK.out m (List.mem_of_getElem? hm)
      obtain ⟨g, rfl, hcell⟩ := KO.out.at' hm
      have x0 : wr.cell? ⟨g, i * 10, none⟩ = some (.int .i64 m.k) := hcell 0 _ rfl
      have x1 := hcell 1 _ rfl
      have x2 := hcell 2 _ rfl
      have x3 := hcell 3 _ rfl
      have x4 := hcell 4 _ rfl
      have x5 := hcell 5 _ rfl
      have x6 := hcell 6 _ rfl
      have x7 := hcell 7 _ rfl
      have x8 := hcell 8 _ rfl
      have x9 := hcell 9 _ rfl
      have HC := Lib.hid hcell
      have HM := Lib.hid hm
      have HMO := Lib.hid hmo
      clear hcell hm hmo
      go_wp2_with fail
      refine (c_MsgBytes _ _ _ _ _ _ _ _ _ _ _ (by have := (msgB_bounds HMO.out).2.1; omega)).mono ?_
      rintro e w2 ⟨rfl, b2⟩
      have hmm : mtextR m.k m.id m.seq m.g m.wa m.we m.am m.un m.co m.note = m.text := by rw [mtextR, show msgB m.k m.id m.seq m.g m.wa m.we m.am m.un m.co m.note.size = true from HMO.out, if_pos rfl]; rfl
      rw [hmm]
      have tz := text_size HMO.out
      have tb := body_size HMO.out
      have KO2 := Lib.hid (KO.out.keep b2)
      have KB2 := Lib.hid (btrans KB.out b2)
      have p1 : ((textOf (ms.take i)).size + m.text.size ≤ 9223372036854775807) = True := eq_true (by omega)
      have p2 : (9223372036854775807 < (textOf (ms.take i)).size + m.text.size) = False := eq_false (by omega)
      have e2 := Lib.hid (textOf_take ms i m HM.out)
      clear hmm tz tb b2 KO KB x0 x1 x2 x3 x4 x5 x6 x7 x8 x9 HC
      go_wp2_with fail
      go_roundw
      case rel => exact ⟨i + 1, by omega, by go_num, by rw [e2.out], KO2, KB2⟩
      case measure => simp [intOf]; omega
    · obtain rfl : i = ms.length := by omega
      have b1 : decide ((ms.length : Int) < (ms.length : Int)) = false := decide_eq_false (by omega)
      rw [List.take_length] at hz3 ⊢
      have hT : (textOf ms).size ≤ 20000 := by omega
      have HPT := Lib.hid (parse_text ms HOK.out)
      go_wp2_with fail
      refine (c_MsgsOf _ _ hT).mono ?_
      rintro e w2 ⟨A2, cap2, ms2, r, c2, rfl, hp, hO2, -, hb2⟩
      obtain ⟨rfl, rfl, rfl⟩ := hp.one HPT.out
      have KO2 := Lib.hid (KO.out.keep hb2)
      have KB2 := Lib.hid (btrans KB.out hb2)
      have KQ2 := Lib.hid hO2
      have hal := (Below.refl w2.heap.size w2).alloc (Nat.le_refl _) (.cells #[.slice A2 ms2.length cap2, .int .i64 0, .int .i64 0] 42)
      clear hO2 hb2 KO KB hp
      have b2 : ((ms2.length : Int) != (ms2.length : Int)) = false := by simp
      go_wp2_with fail
      have KO3 := Lib.hid (KO2.out.keep hal)
      have KQ3 := Lib.hid (KQ2.out.keep hal)
      have KB3 := Lib.hid (btrans KB2.out hal)
      have KX3 := Lib.hid (Blk.new (w := w2) (Nat.zero_le _) #[.slice A2 ms2.length cap2, .int .i64 0, .int .i64 0] 42)
      clear KO2 KQ2 KB2 hal HPT hT hz3 b1 b2
      generalize w2.alloc _ = w3 at *
      generalize w2.heap.size = gx at *
      generalize hwq : wr.heap.size = B2 at *
      clear hwq
      go_loopw [7] (fun v7 wr => ∃ i : Nat, i ≤ ms2.length ∧ v7 = .int .i64 i ∧ Hid (OwnMs wr w.heap.size (.slice A1 ms2.length cap1) ms2) ∧ Hid (OwnMs wr B2 (.slice A2 ms2.length cap2) ms2) ∧ Hid (Blk wr 0 gx #[.slice A2 ms2.length cap2, .int .i64 0, .int .i64 0] 42) ∧ Hid (Below w.heap.size w wr)) (fun v7 _ => ms2.length - (intOf v7).toNat)
      case atStart => exact ⟨0, by omega, rfl, KO3, KQ3, KX3, KB3⟩
      case round =>
        obtain ⟨i, hi, rfl, KO, KQ, KX, KB⟩ := hrel
        clear KO3 KQ3 KX3 KB3
        by_cases h5 : i < ms2.length
        · have b1 : decide ((i : Int) < (ms2.length : Int)) = true := decide_eq_true (by omega)
          obtain ⟨m, hm⟩ : ∃ m, ms2[i]? = some m := ⟨_, List.getElem?_eq_getElem h5⟩
          obtain ⟨g, rfl, hx⟩ := KO.out.at' hm
          obtain ⟨q, rfl, hy⟩ := KQ.out.at' hm
          have x0 : wr.cell? ⟨g, i * 10, none⟩ = some (.int .i64 m.k) := hx 0 _ rfl
          have y0 : wr.cell? ⟨q, i * 10, none⟩ = some (.int .i64 m.k) := hy 0 _ rfl
          have x1 := hx 1 _ rfl
          have x2 := hx 2 _ rfl
          have x3 := hx 3 _ rfl
          have x4 := hx 4 _ rfl
          have x5 := hx 5 _ rfl
          have x6 := hx 6 _ rfl
          have x7 := hx 7 _ rfl
          have x8 := hx 8 _ rfl
          have x9 := hx 9 _ rfl
          have y1 := hy 1 _ rfl
          have y2 := hy 2 _ rfl
          have y3 := hy 3 _ rfl
          have y4 := hy 4 _ rfl
          have y5 := hy 5 _ rfl
          have y6 := hy 6 _ rfl
          have y7 := hy 7 _ rfl
          have y8 := hy 8 _ rfl
          have y9 := hy 9 _ rfl
          have z0 := (KX.out.cell 0).trans (by rfl)
          have j0 : (0 : Int) ≤ (i : Int) := by omega
          have j1 : (i : Int) < (ms2.length : Int) := by omega
          clear hx hy hm
          go_upto_region 15 with fail
          have KOd := Lib.hid (KO.out.keep (Below.refl wr.heap.size wr).drew)
          have KQd := Lib.hid (KQ.out.keep (Below.refl wr.heap.size wr).drew)
          have KXd := Lib.hid (KX.out.keep (Below.refl wr.heap.size wr).drew)
          have KBd := Lib.hid (btrans KB.out (Below.refl wr.heap.size wr).drew)
          go_region
          all_goals (go_wp2_with fail; go_roundw)
          all_goals (first
            | exact ⟨i + 1, by omega, by go_num, KOd, KQd, KXd, KBd⟩
            | (simp [intOf]; omega)
            | skip)
        · have b1 : decide ((i : Int) < (ms2.length : Int)) = false := decide_eq_false (by omega)
          go_wp2_with fail
          go_ret
          exact ⟨rfl, KB.out⟩
theorem l_FnMsgBack : OFnMsgBack.Walks := by
  rintro y0 A0 c0 w f0 - h0
  have H0 := Lib.hid (bytes_in2 h0 f0)
  clear h0 f0
  generalize y0.length = n0 at *
  by_cases g0 : n0 ≤ 1048576
  · exact back_law _ _ _ w H0.out g0
  · have i0 : decide ((n0 : Int) > 1048576) = true := decide_eq_true (by omega)
    go_enter Try.func4, Try.ntmps4
    go_wp2
    go_ret
    exact ⟨rfl, Below.refl _ _⟩
end Go.Proofs.Ytddemmmbbleofaa.C
