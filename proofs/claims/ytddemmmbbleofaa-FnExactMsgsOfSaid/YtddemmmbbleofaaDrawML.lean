/- Drawn right messages: lwMsgs. No condition. -/
import Derived.Test.YtddemmmbbleofaaDrawM
import Derived.Test.YtddemmmbbleofaaMsgI
import Derived.Test.YtddemmmbbleofaaKind
import Derived.Laws.OwnMore
namespace Go.Proofs.Ytddemmmbbleofaa.C
open Go.RowKit
set_option maxRecDepth 100000
set_option linter.unusedVariables false
set_option linter.unusedSimpArgs false
attribute [local go_sem ↓] Go.wp_at_zero Go.wp_at_succ
def M.row (m : M) : Array Value := #[.int .i64 m.k, .int .i64 m.id, .int .i64 m.seq, .int .i64 m.g, .int .i64 m.wa, .int .i64 m.we, .int .i64 m.am, .int .i64 m.un, .int .i64 m.co, .string m.note]
def DrM (w : World) (e : Ending) (w' : World) : Prop := ∃ m : M, e = .returned (.agg m.row) ∧ m.note.size ≤ 41 ∧ Below w.heap.size w w'
theorem s_DrawMsgBytes (A : Option Addr) (n c : Nat) (w : World) (h : BytesIn w A n) (hn : n ≤ 1048600) : Calls Try.prog 56 #[.slice A n c] w (DrM w) := by
  have hu := Try.underlying28
  have H := Lib.hid (h.keep ((Below.refl w.heap.size w).alloc (Nat.le_refl _) (.cells #[.int .i64 0, .int .i64 0, .int .i64 0, .int .i64 0, .int .i64 0, .int .i64 0, .int .i64 0, .int .i64 0, .int .i64 0, .string ⟨#[]⟩] 28)))
  have R0 : Room (w.alloc (.cells #[.int .i64 0, .int .i64 0, .int .i64 0, .int .i64 0, .int .i64 0, .int .i64 0, .int .i64 0, .int .i64 0, .int .i64 0, .string ⟨#[]⟩] 28)) w.heap.size w.heap.size 10 28 := Room.new (Nat.le_refl _) rfl
  clear h
  go_enter Try.func56, Try.ntmps56
  go_wp2_with fail
  refine (s_Source _ _ _ _ H.out hn).mono ?_
  rintro e w1 ⟨g, rfl, hg0, hg1, hS, hb⟩
  have R1 := R0.keep hb
  have hg2 : w.heap.size < g := by simp at hg0; omega
  have b1 := balloc (Below.refl _ w) hb
  clear R0 H hg0 hb
  go_wp2_with fail
  refine (s_l11Msg _ _ _ _ hS).mono ?_
  rintro e w2 ⟨a0, a1, a2, a3, a4, a5, a6, a7, a8, s, rfl, hs, -, hG⟩
  have R2 := Lib.hid (R1.grownD hG (by omega))
  have b2 := below_own b1 hG (Nat.le_refl _) (fun i e => by cases e; omega)
  clear R1 hG b1 hS
  go_wp2_with ((with_reducible refine at_store (ty := 28) (y := .tmp 5) ?_); refine wpl_store_row rfl 28 (.tmp 2) (.tmp 5) rfl w.heap.size _ rfl rfl R2.out rfl (by kernel_rfl) (by simp [Value.oneCell']) ?_; intro hout)
  exact bodyPost_ret (v := .agg #[.int .i64 a0, .int .i64 a1, .int .i64 a2, .int .i64 a3, .int .i64 a4, .int .i64 a5, .int .i64 a6, .int .i64 a7, .int .i64 a8, .string s]) (results_cell_row rfl _ _ _ _ _ _ _ rfl hout.2 hu rfl (by kernel_rfl)) rfl ⟨⟨a0, a1, a2, a3, a4, a5, a6, a7, a8, s⟩, rfl, hs, below_setRow b2 (Nat.le_refl _) _⟩
theorem infoMsg : (Try.prog.info? 28).map (fun i => (i.zero, i.size, i.bytes)) = some (some (.agg #[.int .i64 0, .int .i64 0, .int .i64 0, .int .i64 0, .int .i64 0, .int .i64 0, .int .i64 0, .int .i64 0, .int .i64 0, .string ⟨#[]⟩]), 10, 88) := by kernel_rfl
/-- The bytes that lie at A, as a list. -/
theorem bytes_list {w : World} {ad : Addr} {n : Nat} (h : BytesIn w (some ad) n) : ∃ xs : List Int, xs.length = n ∧ (∀ x ∈ xs, 0 ≤ x ∧ x ≤ 255) ∧ ∀ j u, (xs.map (Value.int .u8))[j]? = some u → w.cell? (ad.add j) = some u := by
  obtain ⟨xs, hl, hx⟩ := Go.Proofs.Ytddemmmbbleofaa.Rd.pick_list (p := fun j (x : Int) => 0 ≤ x ∧ x ≤ 255 ∧ w.cell? (ad.add j) = some (.int .u8 x)) n (fun j hj => by
    obtain ⟨ad', x, e, _, x0, x1, hc⟩ := h j hj
    cases e
    exact ⟨x, x0, x1, hc⟩)
  refine ⟨xs, hl, fun x hm => ?_, fun j u hu => ?_⟩
  · obtain ⟨j, hj⟩ := List.mem_iff_getElem?.1 hm
    exact ⟨(hx j x hj).1, (hx j x hj).2.1⟩
  · rw [List.getElem?_map] at hu
    rcases hx2 : xs[j]? with _ | x
    · rw [hx2] at hu; cases hu
    · rw [hx2] at hu
      cases hu
      exact (hx j x hx2).2.2
theorem owns_bytes {w : World} {base e : Nat} {v : Value} {n : Nat} {xs : List Int} (h : w.ownsRow base e 1 v n (xs.map (Value.int .u8))) (hx : ∀ x ∈ xs, 0 ≤ x ∧ x ≤ 255) : ∃ A c, v = .slice A n c ∧ BytesIn w A n := by
  have h0 := h
  obtain ⟨hl, ⟨rfl, rfl⟩ | ⟨g, cap, cur, rfl, hb, hg, h1, h2, h3, h4⟩⟩ := h
  · exact ⟨none, 0, rfl, fun j hj => absurd hj (by omega)⟩
  · have hc := h0.cells (g := g) rfl
    have hlt := (h0.lt g rfl).2
    have hlen : xs.length = n := by simpa using hl
    refine ⟨_, cap, rfl, fun j hj => ⟨_, xs[j]'(by omega), rfl, hlt, (hx _ (List.getElem_mem _)).1, (hx _ (List.getElem_mem _)).2, ?_⟩⟩
    exact hc j _ (by rw [List.getElem?_map, List.getElem?_eq_getElem (by omega)]; rfl)
theorem le_alloc (w : World) (o : Obj) : w.heap.size ≤ (w.alloc o).heap.size := by simp
theorem run_append_none_c {P : Program} {w : World} (base : Nat) (t ty e : TypeId) (i : TypeInfo) (size : Nat) (ht : P.underlying t = some (.slice e)) (hi : P.info? e = some i)
    (v : Value) (n c : Nat) (xs : List Value) (hown : w.ownsRow base e size v n xs) :
    (Builtin.append_ #[t, t] ty #[v, .slice none 0 c]).run P w = .ok v w := by
  rcases hown.2 with ⟨rfl, rfl⟩ | ⟨g, cap, cur, rfl, _, _, hnc, _⟩
  · simp [Builtin.append_, run_underlying ht, sizeOf, typeInfo, hi, Builtin.lenOf, Builtin.firstCells]
  · simp [Builtin.append_, run_underlying ht, sizeOf, typeInfo, hi, Builtin.lenOf, Builtin.firstCells, hnc, storeCells]
theorem wpl_append_none {P : Program} {w : World} {ops : Array Oper} {rest : List Oper} {o : Oper} {a : Act} {Q : Exit → Act → World → Prop} (hgd : o.guard = none) (s x : Operand) (t : TypeId)
    (ho : o.op = .call { callee := .builtin .append, args := #[s, x], argTypes := #[t, t] })
    (base : Nat) (e : TypeId) (i : TypeInfo) (size : Nat) (ht : P.underlying t = some (.slice e)) (hi : P.info? e = some i)
    (v : Value) (n c : Nat) (xs : List Value) (hs : a.eval s = v) (hown : w.ownsRow base e size v n xs) (hx : a.eval x = .slice none 0 c)
    (h : wpList P ops Q rest (a.put o.dst v) w) : wpList P ops Q (o :: rest) a w := by
  refine wpList_plain hgd fun K hK => ?_
  have hrun := run_append_none_c (P := P) (w := w) base t o.type e i size ht hi v n c xs hown
  unfold Oper.wp
  simp [execOp, ho, resolve, invoke, builtin, hs, hx, hrun, Result.andThen]
  exact hK _ _ h
def rows (ms : List M) : List Value := ms.flatMap fun m => m.row.toList
/-- A list of messages of the call's own. -/
def OwnMs (w : World) (B : Nat) (v : Value) (ms : List M) : Prop := w.ownsRow B 28 10 v ms.length (rows ms)
theorem OwnMs.keep {w w' : World} {B : Nat} {v : Value} {ms : List M} (h : OwnMs w B v ms) (hb : Below w.heap.size w w') : OwnMs w' B v ms :=
  World.ownsRow.kept h (only_below hb none) (by cases v.ownBlock; exact .inl rfl; exact .inr (by simp))
theorem row_new (w : World) (cs : List Value) (t : Nat) : ∀ j u, cs[j]? = some u → (w.alloc (.cells cs.toArray t)).cell? ((⟨w.heap.size, 0, none⟩ : Addr).add j) = some u := by
  intro j u hj
  rw [Go.Proofs.YtddemmmbbleofaaW.PrintWords.add_plain]
  exact (cell_of_row _ _ _ _ _ _ (heap_alloc_new w _)).trans (by simpa using hj)
theorem OwnMs.add {w : World} {B : Nat} {v : Value} {ms : List M} {m : M} (h : w.ownsRow B 28 10 v (ms.length + 1) (rows ms ++ m.row.toList)) : OwnMs w B v (ms ++ [m]) := by
  unfold OwnMs
  rw [show rows (ms ++ [m]) = rows ms ++ m.row.toList from by simp [rows], List.length_append]
  exact h
def LwP (w : World) (e : Ending) (w' : World) : Prop := ∃ (v : Value) (ms : List M), e = .returned v ∧ ms.length ≤ 4 ∧ (∀ m ∈ ms, m.ok = true) ∧ OwnMs w' w.heap.size v ms ∧ Below w.heap.size w w'
set_option maxHeartbeats 4000000 in
theorem l_lwMsgs (A : Option Addr) (n c : Nat) (w : World) (h : BytesIn w A n) (hn : n ≤ 1048576) : Calls Try.prog 18 #[.slice A n c] w (LwP w) := by
  have hu := Try.underlying28
  have hu2 := Try.underlying22
  have hu3 := Try.underlying38
  obtain ⟨i0, hi, hz0, hz1, hz2⟩ := info_parts infoU8
  obtain ⟨j0, hj, hy0, hy1, hy2⟩ := info_parts infoMsg
  have H := Lib.hid h
  clear h
  go_enter Try.func18, Try.ntmps18
  go_wp2_with fail
  have hO : OwnMs (w.alloc (.cells #[] 28)) w.heap.size (.slice (some ⟨w.heap.size, 0, none⟩) 0 0) [] := World.ownsRow_made w #[] 0 (Nat.le_refl _) (by decide) rfl
  have hb := (Below.refl w.heap.size w).alloc (Nat.le_refl _) (.cells #[] 28)
  have hz := Nat.le_refl w.heap.size
  generalize hB : w.heap.size = B at *
  go_loopw [3, 4] (fun v3 v4 wr => ∃ (i : Nat) (ms : List M), i ≤ 4 ∧ v4 = .int .i64 i ∧ ms.length ≤ i ∧ Hid (∀ m ∈ ms, m.ok = true) ∧ Hid (OwnMs wr B v3 ms) ∧ Hid (Below B w wr)) (fun _ v4 _ => 4 - (intOf v4).toNat)
  case atStart => exact ⟨0, [], by omega, rfl, by simp, Lib.hid (by simp), Lib.hid hO, Lib.hid hb⟩
  case round =>
    obtain ⟨i, ms, hik, rfl, hms, KM, KO, KB⟩ := hrel
    clear hO hb
    by_cases h5 : i < 4
    · have hwz := KB.out.size
      have hwz2 : B ≤ wr.heap.size := by omega
      have hH := H.out.keep (w' := wr) (by rw [hB]; exact KB.out)
      go_upto_region 5 with fail
      go_cut [5] (fun v5 wc => ∃ (wx : World) (m : M) (b5 : Nat), wx = wc ∧ v5 = .pointer (some ⟨b5, 0, none⟩) ∧ m.note.size ≤ 41 ∧ Hid (Blk wx 0 b5 m.row 28) ∧ Below wr.heap.size wr wx)
      case first =>
        have hO1 : (wr.alloc (.cells #[] 5)).ownsRow wr.heap.size 5 1 (.slice (some ⟨wr.heap.size, 0, none⟩) 0 0) 0 [] := World.ownsRow_made wr #[] 0 (Nat.le_refl _) (by decide) rfl
        have hBel := (Below.refl wr.heap.size wr).alloc (Nat.le_refl _) (.cells #[] 5)
        have hH1 := hH.keep hBel
        clear hH
        rcases A with _ | ad
        · obtain rfl : n = 0 := by
            rcases Nat.eq_zero_or_pos n with h | h
            · exact h
            · obtain ⟨ad, x, e, _⟩ := hH1 0 h; cases e
          clear hO1 hH1
          go_wp2_with fail
          have hby : BytesIn (((wr.alloc (.cells #[] 5)).alloc (.cells #[.int .u8 (i : Int)] 5)).alloc (.cells (#[.int .u8 (i : Int)] ++ Builtin.zeroCells #[.int .u8 0] ((Question.appendCap 1 0 5).cut (wr.tape wr.drawn (Question.appendCap 1 0 5)) - 1)) 5)).drew (some ⟨wr.heap.size + 1 + 1, 0, none⟩) 1 := fun j hj => by
            obtain rfl : j = 0 := by omega
            refine ⟨_, (i : Int), rfl, by simp, by omega, by omega, ?_⟩
            rw [show (⟨wr.heap.size + 1 + 1, 0, none⟩ : Addr).add 0 = ⟨wr.heap.size + 1 + 1, 0, none⟩ from by simp [Addr.add]]
            refine (cell_third wr _ _ _ _ 0).trans ?_
            rw [Array.getElem?_append_left (by simp)]
            rfl
          have hbw : Below wr.heap.size wr (((wr.alloc (.cells #[] 5)).alloc (.cells #[.int .u8 (i : Int)] 5)).alloc (.cells (#[.int .u8 (i : Int)] ++ Builtin.zeroCells #[.int .u8 0] ((Question.appendCap 1 0 5).cut (wr.tape wr.drawn (Question.appendCap 1 0 5)) - 1)) 5)).drew := ((hBel.alloc (by simp) _).alloc (by simp; omega) _).drew
          generalize World.drew _ = w4 at *
          refine (s_DrawMsgBytes _ _ _ _ hby (by omega)).mono ?_
          rintro e w5 ⟨m, rfl, hm, hb5⟩
          have HB5 := Lib.hid (btrans hbw hb5)
          unfold M.row
          go_wp2_with fail
          go_meet
          exact ⟨_, m, w5.heap.size, rfl, rfl, hm, Lib.hid (Blk.new (Nat.zero_le _) _ _), HB5.out.alloc HB5.out.size _⟩
        · obtain ⟨xs, hxl, hxr, hxc⟩ := bytes_list hH1
          have HX := Lib.hid hxc
          have HR := Lib.hid hxr
          have HL := Lib.hid hxl
          have d1 : (xs.map (Value.int .u8)).length = n * 1 := by simp [hxl]
          have D1 := Lib.hid d1
          have D2 := Lib.hid (show ∀ u ∈ xs.map (Value.int .u8), u.oneCell' = true from fun u hu => by obtain ⟨x, _, rfl⟩ := List.mem_map.1 hu; rfl)
          have d3 : 0 + n ≤ maxLen := by unfold maxLen; omega
          have d4 : (0 + n) * 1 ≤ 140737488355328 := by omega
          have d5 : wr.heap.size ≤ (wr.alloc (.cells #[] 5)).heap.size := by simp
          have e2 : ∀ u ∈ [Value.int .u8 (i : Int)], u.oneCell' = true := by simp [Value.oneCell']
          have e3 : 0 + n + 1 ≤ maxLen := by unfold maxLen; omega
          have e4 : (0 + n + 1) * 1 ≤ 140737488355328 := by omega
          have HO1 := Lib.hid hO1
          clear hxc hxr hxl d1 hO1 hH1
          go_wp2_with (first
            | (at_builtin; refine wpList_append_own _ rfl (.tmp 11) (.tmp 12) 22 rfl wr.heap.size 5 i0 (.int .u8 0) 1 1 hu2 hi hz0 hz1 hz2 rfl (by decide) _ _ _ rfl HO1.out ad n c (xs.map (Value.int .u8)) rfl D1.out HX.out D2.out d3 d4 d5 ?_; intro v1 w1 hown1 hgrow1 _)
            | (at_builtin; refine wpList_append_own _ rfl (.tmp 13) (.tmp 16) 22 rfl wr.heap.size 5 i0 (.int .u8 0) 1 1 hu2 hi hz0 hz1 hz2 rfl (by decide) _ _ _ rfl (hown1.alloc _) ⟨w1.heap.size, 0, none⟩ 1 1 [.int .u8 (i : Int)] rfl rfl (one_new _ _ _) e2 e3 e4 (Nat.le_trans (Nat.le_trans d5 hgrow1.size) (le_alloc _ _)) ?_; intro v2 w2 hown2 hgrow2 _)
            | fail)
          have hby0 : w2.ownsRow wr.heap.size 5 1 v2 (n + 1) ((xs ++ [(i : Int)]).map (Value.int .u8)) := by simpa using hown2
          obtain ⟨A2, c2, rfl, hby⟩ := owns_bytes hby0 (by intro x hx; rcases List.mem_append.1 hx with h | h; exact HR.out x h; simp at h; omega)
          have hbw := below_own ((below_own hBel hgrow1 (Nat.le_refl _) (fun b e => (HO1.out.lt b e).1)).alloc (Nat.le_trans d5 hgrow1.size) (.cells #[.int .u8 (i : Int)] 5)) hgrow2 (Nat.le_refl _) (fun b e => (hown1.lt b e).1)
          clear hown1 hgrow1 hown2 hgrow2 hby0 d3 d4 d5 e2 e3 e4
          refine (s_DrawMsgBytes _ _ _ _ hby (by omega)).mono ?_
          rintro e w5 ⟨m, rfl, hm, hb5⟩
          have HB5 := Lib.hid (btrans hbw hb5)
          clear hbw hb5 hby
          unfold M.row
          go_wp2_with fail
          go_meet
          exact ⟨_, m, w5.heap.size, rfl, rfl, hm, Lib.hid (Blk.new (Nat.zero_le _) _ _), HB5.out.alloc HB5.out.size _⟩
      case rest =>
        obtain ⟨w5, m, b5, rfl, rfl, hm, HB0, hb5⟩ := hcut
        rename_i hK
        refine hK _ _ ?_
        clear hK hH
        have HB : Hid (Blk w5 0 b5 #[.int .i64 m.k, .int .i64 m.id, .int .i64 m.seq, .int .i64 m.g, .int .i64 m.wa, .int .i64 m.we, .int .i64 m.am, .int .i64 m.un, .int .i64 m.co, .string m.note] 28) := HB0
        have hO5 := KO.out.keep hb5
        have hB5 := KB.out.trans (hb5.mono hwz2)
        clear HB0 KO KB
        go_wp2_with ((with_reducible refine at_load (ty := 28) (x := .tmp 5) ?_); refine wpl_load_row rfl 28 (.tmp 5) rfl b5 rfl HB.out rfl (by kernel_rfl) hu rfl ?_)
        refine (s_MsgRight _ _ _ _ _ _ _ _ _ _ _ (show m.note.size ≤ 9223372036854775807 by omega)).mono ?_
        rintro e w6 ⟨rfl, hb6⟩
        have KO6 := Lib.hid (hO5.keep hb6)
        have hB6 := hB5.trans (hb6.mono (Nat.le_trans hwz2 hb5.size))
        have HB6 := Lib.hid (HB.out.keep hb6)
        have hwz6 : B ≤ w6.heap.size := by have := hb5.size; have := hb6.size; omega
        have KB6 := Lib.hid hB6
        clear HB hO5 hB5 hb6 hB6
        rcases hk : msgB m.k m.id m.seq m.g m.wa m.we m.am m.un m.co m.note.size with _ | _
        · go_wp2_with fail
          go_roundw
          case rel => exact ⟨i + 1, ms, by omega, by go_num, by omega, KM, KO6, KB6⟩
          case measure => simp [intOf]; omega
        · have c2 : ∀ u ∈ ([.int .i64 m.k, .int .i64 m.id, .int .i64 m.seq, .int .i64 m.g, .int .i64 m.wa, .int .i64 m.we, .int .i64 m.am, .int .i64 m.un, .int .i64 m.co, .string m.note] : List Value), u.oneCell' = true := by simp [Value.oneCell']
          have c3 : ms.length + 1 ≤ maxLen := by unfold maxLen; omega
          have c4 : (ms.length + 1) * 88 ≤ 140737488355328 := by omega
          have c5 : B ≤ (w6.alloc (.cells #[.int .i64 m.k, .int .i64 m.id, .int .i64 m.seq, .int .i64 m.g, .int .i64 m.wa, .int .i64 m.we, .int .i64 m.am, .int .i64 m.un, .int .i64 m.co, .string m.note] 28)).heap.size := by simp; omega
          have hlo := Lib.hid (World.ownsRow.lt KO6.out)
          go_wp2_with (first
            | ((with_reducible refine at_load (ty := 28) (x := .tmp 5) ?_); refine wpl_load_row rfl 28 (.tmp 5) rfl b5 rfl HB6.out rfl (by kernel_rfl) hu rfl ?_)
            | (at_builtin; refine wpList_append_own _ rfl (.tmp 21) (.tmp 23) 38 rfl B 28 j0 (.agg #[.int .i64 0, .int .i64 0, .int .i64 0, .int .i64 0, .int .i64 0, .int .i64 0, .int .i64 0, .int .i64 0, .int .i64 0, .string ⟨#[]⟩]) 10 88 hu3 hj hy0 hy1 hy2 rfl (by decide) _ _ _ rfl (KO6.out.alloc _) ⟨w6.heap.size, 0, none⟩ 1 1 [.int .i64 m.k, .int .i64 m.id, .int .i64 m.seq, .int .i64 m.g, .int .i64 m.wa, .int .i64 m.we, .int .i64 m.am, .int .i64 m.un, .int .i64 m.co, .string m.note] rfl rfl (row_new _ _ _) c2 c3 c4 c5 ?_; intro v7 w7 hown7 hgrow7 _)
            | fail)
          have KO := Lib.hid (OwnMs.add hown7)
          have KB := Lib.hid (below_own (KB6.out.alloc hwz6 (.cells #[.int .i64 m.k, .int .i64 m.id, .int .i64 m.seq, .int .i64 m.g, .int .i64 m.wa, .int .i64 m.we, .int .i64 m.am, .int .i64 m.un, .int .i64 m.co, .string m.note] 28)) hgrow7 (by omega) (fun b e => (hlo.out b e).1))
          have KM7 : Hid (∀ q ∈ ms ++ [m], q.ok = true) := Lib.hid (by intro q hq; rcases List.mem_append.1 hq with h | h; exact KM.out q h; simp at h; subst h; exact hk)
          clear hown7 hgrow7 c2 c3 c4 c5 hlo KM hk KO6 KB6 HB6
          go_roundw
          case rel => exact ⟨i + 1, ms ++ [m], by omega, by go_num, by simp; omega, KM7, KO, KB⟩
          case measure => simp [intOf]; omega
    · obtain rfl : i = 4 := by omega
      go_wp2_with fail
      go_ret
      exact ⟨u3, ms, rfl, hms, KM.out, by rw [hB]; exact KO.out, by rw [hB]; exact KB.out⟩
end Go.Proofs.Ytddemmmbbleofaa.C
