/- Messages one behind the other: MsgsOf of the reference. No condition. -/
import Derived.Test.YtddemmmbbleofaaMsgL
namespace Go.Proofs.Ytddemmmbbleofaa.C
open Go.RowKit
set_option maxRecDepth 100000
set_option linter.unusedVariables false
set_option linter.unusedSimpArgs false
attribute [local go_sem ↓] Go.wp_at_zero Go.wp_at_succ
open Go.Proofs.YtddemmmbbleofaaW.PrintWords (bt bt_range bt_at)
theorem ext_ext (t : ByteArray) (i k : Nat) (h : i + k ≤ t.size) : (t.extract i t.size).extract k (t.extract i t.size).size = t.extract (i + k) t.size := by
  rw [ByteArray.extract_extract, ByteArray.size_extract]
  congr 1
  omega
set_option maxHeartbeats 8000000 in
theorem s_MsgsOf (T : ByteArray) (w : World) (hT : T.size ≤ 20000) : Calls Try.prog 25 #[.string T] w (MLP T w) := by
  have hu := Try.underlying42
  have hu1 := Try.underlying46
  have hu2 := Try.underlying28
  have hu3 := Try.underlying38
  obtain ⟨j0, hj, hy0, hy1, hy2⟩ := info_parts infoMsg
  have b1 : decide ((20000 : Int) < T.size) = false := decide_eq_false (by omega)
  go_enter Try.func25, Try.ntmps25
  go_wp2_with fail
  have S0 : LS w.heap.size (w.heap.size + 1) (.slice none 0 0) [] 0 0 w ((w.alloc (.cells #[.slice none 0 0, .int .i64 0, .int .i64 0] 42)).alloc (.cells #[.slice none 0 0, .int .i64 0, .int .i64 0] 42)) :=
    ⟨(Room.new (Nat.le_refl _) rfl).keep ((Below.refl _ _).alloc (Nat.le_refl _) _), (Blk.new (w := w.alloc (.cells #[.slice none 0 0, .int .i64 0, .int .i64 0] 42)) (Nat.zero_le _) #[.slice none 0 0, .int .i64 0, .int .i64 0] 42).at' (by simp), World.ownsRow_nil _ _ _ _, ((Below.refl _ _).alloc (Nat.le_refl _) _).alloc (by simp) _, rfl, by omega⟩
  generalize (w.alloc (.cells #[.slice none 0 0, .int .i64 0, .int .i64 0] 42)).alloc (.cells #[.slice none 0 0, .int .i64 0, .int .i64 0] 42) = w0 at *
  clear b1
  generalize hg3 : w.heap.size + 1 = g3 at *
  generalize hg2 : w.heap.size = g2 at *
  clear hg3
  go_loopw [4] (fun v4 wr => ∃ (i : Nat) (ms : List M) (A : Option Addr) (cap : Nat), i ≤ T.size ∧ v4 = .int .i64 i ∧ ms.length ≤ i ∧ Hid (∀ ms' r c, Parse (T.extract i T.size) ms' r c → Parse T (ms ++ ms') r c) ∧ Hid (LS g2 g3 (.slice A ms.length cap) ms 0 0 w wr)) (fun v4 _ => T.size - (intOf v4).toNat)
  case atStart => exact ⟨0, [], none, 0, by omega, rfl, by simp, Lib.hid (fun _ _ _ h => by simpa [ByteArray.extract_zero_size] using h), Lib.hid S0⟩
  case round =>
    obtain ⟨i, ms, A, cap, hi, rfl, hlen, HP, KS⟩ := hrel
    clear S0
    by_cases h0 : i < T.size
    · have b1 : decide ((i : Int) < (T.size : Int)) = true := decide_eq_true (by omega)
      have j0' : (0 : Int) ≤ (i : Int) := by omega
      have j1' : (i : Int) ≤ (T.size : Int) := by omega
      have hz : (T.extract i T.size).size = T.size - i := by rw [ByteArray.size_extract]; omega
      have HZ := Lib.hid hz
      clear hz
      go_wp2_with fail
      refine (s_l11Read _ _ (by rw [HZ.out]; omega)).mono ?_
      rintro e w1 ⟨rfl, hb1⟩
      obtain ⟨m, n, c, he⟩ := outF_form (T.extract i T.size)
      have HE : Hid (outF (T.extract i T.size) = #[.int .i64 m.k, .int .i64 m.id, .int .i64 m.seq, .int .i64 m.g, .int .i64 m.wa, .int .i64 m.we, .int .i64 m.am, .int .i64 m.un, .int .i64 m.co, .string m.note, .int .i64 n, .int .i64 c]) := Lib.hid he
      have HE2 := Lib.hid he
      rw [HE.out]
      have S1 := Lib.hid (KS.out.keep hb1)
      clear he KS hb1
      by_cases hc : c = 0
      · subst hc
        obtain ⟨n1, n2⟩ := outF_used HE2.out
        rw [HZ.out] at n2
        go_upto_region 9 with fail
        have hal := (Below.refl w1.heap.size w1).alloc (Nat.le_refl _) (.cells #[.int .i64 m.k, .int .i64 m.id, .int .i64 m.seq, .int .i64 m.g, .int .i64 m.wa, .int .i64 m.we, .int .i64 m.am, .int .i64 m.un, .int .i64 m.co, .string m.note, .int .i64 n, .int .i64 0] 46)
        have S2 := Lib.hid (S1.out.keep hal)
        have B4 := Lib.hid (Blk.new (w := w1) (Nat.zero_le _) #[.int .i64 m.k, .int .i64 m.id, .int .i64 m.seq, .int .i64 m.g, .int .i64 m.wa, .int .i64 m.we, .int .i64 m.am, .int .i64 m.un, .int .i64 m.co, .string m.note, .int .i64 n, .int .i64 0] 46)
        have hlo := Lib.hid (fun k e => (World.ownsRow.lt S1.out.own k e).2)
        have h34 : g3 < w1.heap.size := S1.out.lb.lt
        clear S1 hal
        generalize w1.alloc _ = w2 at *
        generalize w1.heap.size = g4 at *
        obtain ⟨k, rfl⟩ := Int.eq_ofNat_of_zero_le (show 0 ≤ n by omega)
        have kk : i + k ≤ T.size := by omega
        have Q2 := Lib.hid (Q9.mk (g4 := g4) (m := m) (n := (k : Int)) S2.out.ob ⟨_, S2.out.lb⟩ B4.out S2.out.bl)
        have hpar := Lib.hid (fun ms' r c (h : Parse (T.extract (i + k) T.size) ms' r c) => HP.out (m :: ms') r c (.step (by rw [HZ.out]; omega) HE2.out (by rw [Int.toNat_natCast, ext_ext _ _ _ kk]; exact h)))
        have c3 : ms.length + 1 ≤ maxLen := by unfold maxLen; omega
        have c4 : (ms.length + 1) * 88 ≤ 140737488355328 := by omega
        have x0 := (S2.out.lb.cell 0).trans (by rfl)
        have f0 := S2.out.lb.frozen 0
        have hb2 : g3 + 1 ≤ w2.heap.size := by have := S2.out.lb.lt; omega
        have hne := S2.out.o2
        have c2 : ∀ u ∈ ([.int .i64 m.k, .int .i64 m.id, .int .i64 m.seq, .int .i64 m.g, .int .i64 m.wa, .int .i64 m.we, .int .i64 m.am, .int .i64 m.un, .int .i64 m.co, .string m.note] : List Value), u.oneCell' = true := by simp [Value.oneCell']
        have OWN := Lib.hid (World.ownsRow.alloc S2.out.own (.cells #[.int .i64 m.k, .int .i64 m.id, .int .i64 m.seq, .int .i64 m.g, .int .i64 m.wa, .int .i64 m.we, .int .i64 m.am, .int .i64 m.un, .int .i64 m.co, .string m.note] 28))
        have NEW := Lib.hid (row_new w2 [.int .i64 m.k, .int .i64 m.id, .int .i64 m.seq, .int .i64 m.g, .int .i64 m.wa, .int .i64 m.we, .int .i64 m.am, .int .i64 m.un, .int .i64 m.co, .string m.note] 28)
        have c5 : g3 + 1 ≤ (w2.alloc (.cells #[.int .i64 m.k, .int .i64 m.id, .int .i64 m.seq, .int .i64 m.g, .int .i64 m.wa, .int .i64 m.we, .int .i64 m.am, .int .i64 m.un, .int .i64 m.co, .string m.note] 28)).heap.size := by simp; omega
        have hg4 : g4 < w2.heap.size := B4.out.lt
        have hrow := Lib.hid (fun b (e : (Value.slice A ms.length cap).ownBlock = some b) => And.intro (World.ownsRow.lt S2.out.own b e).1 (hlo.out b e))
        have Q3 := Lib.hid (Q2.out.keep ((Below.refl w2.heap.size w2).alloc (Nat.le_refl _) (.cells #[.int .i64 m.k, .int .i64 m.id, .int .i64 m.seq, .int .i64 m.g, .int .i64 m.wa, .int .i64 m.we, .int .i64 m.am, .int .i64 m.un, .int .i64 m.co, .string m.note] 28)))
        have T3 : Hid (∀ wx : World, (w2.alloc (.cells #[.int .i64 m.k, .int .i64 m.id, .int .i64 m.seq, .int .i64 m.g, .int .i64 m.wa, .int .i64 m.we, .int .i64 m.am, .int .i64 m.un, .int .i64 m.co, .string m.note] 28)).grownBy wx (Value.slice A ms.length cap).ownBlock → wx.cell? ⟨g3, 0, none⟩ = some (.slice A ms.length cap) ∧ wx.frozen? ⟨g3, 0, none⟩ = false ∧ wx.cell? ⟨g4, 10, none⟩ = some (.int .i64 k) ∧ Q9 g2 g3 g4 m k w wx) := Lib.hid fun wx hg => by
          have e2 : some g2 ≠ (Value.slice A ms.length cap).ownBlock := fun e => by have := hrow.out g2 e.symm; omega
          have e3 : some g3 ≠ (Value.slice A ms.length cap).ownBlock := fun e => by have := hrow.out g3 e.symm; omega
          have e4 : some g4 ≠ (Value.slice A ms.length cap).ownBlock := fun e => by have := hrow.out g4 e.symm; omega
          have hl3 : g3 < (w2.alloc (.cells #[.int .i64 m.k, .int .i64 m.id, .int .i64 m.seq, .int .i64 m.g, .int .i64 m.wa, .int .i64 m.we, .int .i64 m.am, .int .i64 m.un, .int .i64 m.co, .string m.note] 28)).heap.size := by simp; omega
          have q := Q3.out.app hg e2 e3 e4 (fun i e => by have := (hrow.out i e).1; have := S2.out.o1; omega)
          exact ⟨(World.cell?_of_block (hg.block g3 hl3 e3)).trans ((cell_old w2 _ g3 0 (by omega)).trans x0), (World.frozen?_of_block (hg.block g3 hl3 e3)).trans ((froz_old w2 _ g3 0 (by omega)).trans f0), (q.b4.cell 10).trans rfl, q⟩
        have z0 := (B4.out.cell 0).trans (by rfl)
        have z1 := (B4.out.cell 1).trans (by rfl)
        have z2 := (B4.out.cell 2).trans (by rfl)
        have z3 := (B4.out.cell 3).trans (by rfl)
        have z4 := (B4.out.cell 4).trans (by rfl)
        have z5 := (B4.out.cell 5).trans (by rfl)
        have z6 := (B4.out.cell 6).trans (by rfl)
        have z7 := (B4.out.cell 7).trans (by rfl)
        have z8 := (B4.out.cell 8).trans (by rfl)
        have z9 := (B4.out.cell 9).trans (by rfl)
        have z10 := (B4.out.cell 10).trans (by rfl)
        have hp1 : (i : Int) + (k : Int) ≤ 20000 := by omega
        go_wp2_with (first
            | (at_builtin; refine wpList_append_own _ rfl (.tmp 26) (.tmp 29) 38 rfl (g3 + 1) 28 j0 (.agg #[.int .i64 0, .int .i64 0, .int .i64 0, .int .i64 0, .int .i64 0, .int .i64 0, .int .i64 0, .int .i64 0, .int .i64 0, .string ⟨#[]⟩]) 10 88 hu3 hj hy0 hy1 hy2 rfl (by decide) _ _ _ rfl OWN.out ⟨w2.heap.size, 0, none⟩ 1 1 [.int .i64 m.k, .int .i64 m.id, .int .i64 m.seq, .int .i64 m.g, .int .i64 m.wa, .int .i64 m.we, .int .i64 m.am, .int .i64 m.un, .int .i64 m.co, .string m.note] rfl rfl NEW.out c2 c3 c4 c5 ?_; intro v7 w7 hown7 hgrow7 _; obtain ⟨A7, cap7, rfl⟩ := owns_form hown7; have y := T3.out _ hgrow7; have y0 := y.1; have yf := y.2.1; have y10 := y.2.2.1; have yq := Lib.hid y.2.2.2; have yo := Lib.hid hown7; clear y hown7 hgrow7)
            | fail)
        exact ⟨⟨i + k, ms ++ [m], A7, cap7, kk, by go_num, by simp; omega, Lib.hid (fun ms' r c h => by simpa using hpar.out ms' r c h), Lib.hid (LS.next yq.out yo.out S2.out.o1 S2.out.o2)⟩, by simp [intOf]; omega⟩
      · have bc : (c != 0) = true := bne_iff_ne.mpr hc
        go_upto_region 8 with fail
        have hal := (Below.refl w1.heap.size w1).alloc (Nat.le_refl _) (.cells #[.int .i64 m.k, .int .i64 m.id, .int .i64 m.seq, .int .i64 m.g, .int .i64 m.wa, .int .i64 m.we, .int .i64 m.am, .int .i64 m.un, .int .i64 m.co, .string m.note, .int .i64 n, .int .i64 c] 46)
        have S2 := Lib.hid (S1.out.keep hal)
        have B4 := Lib.hid (Blk.new (w := w1) (Nat.zero_le _) #[.int .i64 m.k, .int .i64 m.id, .int .i64 m.seq, .int .i64 m.g, .int .i64 m.wa, .int .i64 m.we, .int .i64 m.am, .int .i64 m.un, .int .i64 m.co, .string m.note, .int .i64 n, .int .i64 c] 46)
        clear S1 hal
        generalize w1.alloc _ = w2 at *
        generalize w1.heap.size = g4 at *
        have x11 := (B4.out.cell 11).trans (by rfl)
        have x1 := (S2.out.lb.cell 1).trans (by rfl)
        have x2 := (S2.out.lb.cell 2).trans (by rfl)
        have f1 := S2.out.lb.frozen 1
        have f2 := S2.out.lb.frozen 2
        have hpar := Lib.hid (HP.out [] ((T.size : Int) - (i : Int)) c (by have := Parse.stop (by rw [HZ.out]; omega) HE2.out hc; rw [HZ.out] at this; rwa [show ((T.size - i : Nat) : Int) = (T.size : Int) - (i : Int) by omega] at this))
        go_upto_region 12 with fail
        have S5 := (S2.out.set2 c).set1 ((T.size : Int) - (i : Int))
        have HB := Lib.hid S5.lb
        have HO := Lib.hid S5.ob
        have K5 := Lib.hid S5
        have hmm : ms.length ≤ 20000 := by omega
        clear S5
        go_wp2_with (first | ((with_reducible refine at_load (ty := 42) (x := .tmp 3) ?_); refine wpl_load_row rfl 42 (.tmp 3) rfl g3 rfl HB.out rfl (by kernel_rfl) hu rfl ?_) | ((with_reducible refine at_store (ty := 42) (y := .tmp 41) ?_); refine wpl_store_row rfl 42 (.tmp 2) (.tmp 41) rfl g2 _ rfl rfl HO.out rfl (by kernel_rfl) (by simp [Value.oneCell']) ?_; intro hout))
        refine bodyPost_ret (v := .agg #[.slice A ms.length cap, .int .i64 ((T.size : Int) - (i : Int)), .int .i64 c]) (results_cell_row rfl _ _ _ _ _ _ _ rfl hout.2 hu rfl (by kernel_rfl)) rfl ⟨A, cap, ms, ((T.size : Int) - (i : Int)), c, rfl, by simpa using hpar.out, ?_, hmm, ?_⟩
        · exact (K5.out.own.setRow (d := g2) (by have := K5.out.o2; omega) _).base (by have := K5.out.o1; have := K5.out.o2; omega)
        · exact below_setRow K5.out.bl (by have := K5.out.o1; omega) _
    · obtain rfl : i = T.size := by omega
      have b1 : decide ((T.size : Int) < (T.size : Int)) = false := decide_eq_false (by omega)
      have hpar := Lib.hid (HP.out [] 0 0 (.done (by rw [ByteArray.size_extract]; omega)))
      have x1 := (KS.out.lb.cell 1).trans (by rfl)
      have f1 := KS.out.lb.frozen 1
      go_upto_region 12 with fail
      have S5 := KS.out.set1 0
      have HB := Lib.hid S5.lb
      have HO := Lib.hid S5.ob
      have K5 := Lib.hid S5
      have hmm : ms.length ≤ 20000 := by omega
      clear S5
      go_wp2_with (first | ((with_reducible refine at_load (ty := 42) (x := .tmp 3) ?_); refine wpl_load_row rfl 42 (.tmp 3) rfl g3 rfl HB.out rfl (by kernel_rfl) hu rfl ?_) | ((with_reducible refine at_store (ty := 42) (y := .tmp 41) ?_); refine wpl_store_row rfl 42 (.tmp 2) (.tmp 41) rfl g2 _ rfl rfl HO.out rfl (by kernel_rfl) (by simp [Value.oneCell']) ?_; intro hout))
      refine bodyPost_ret (v := .agg #[.slice A ms.length cap, .int .i64 0, .int .i64 0]) (results_cell_row rfl _ _ _ _ _ _ _ rfl hout.2 hu rfl (by kernel_rfl)) rfl ⟨A, cap, ms, 0, 0, rfl, by simpa using hpar.out, ?_, hmm, ?_⟩
      · exact (K5.out.own.setRow (d := g2) (by have := K5.out.o2; omega) _).base (by have := K5.out.o1; have := K5.out.o2; omega)
      · exact below_setRow K5.out.bl (by have := K5.out.o1; omega) _
end Go.Proofs.Ytddemmmbbleofaa.C
