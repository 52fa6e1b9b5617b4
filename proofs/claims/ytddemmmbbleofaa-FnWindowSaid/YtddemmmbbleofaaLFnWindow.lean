/- The law FnWindow, walked: a window of a drawn history tells, from its last mark on, the most that the whole history tells. No condition. -/
import Derived.Test.YtddemmmbbleofaaWinU
import Derived.Test.YtddemmmbbleofaaWinD
import Derived.Test.YtddemmmbbleofaaOFnWindow
namespace Go.Proofs.Ytddemmmbbleofaa.C
open Go.RowKit Go.Proofs.Ytddemmmbbleofaa.Rd
set_option maxRecDepth 100000
set_option linter.unusedVariables false
set_option linter.unusedSimpArgs false
attribute [local go_sem ↓] Go.wp_at_zero Go.wp_at_succ
theorem l_at3 (A : Option Addr) (n c : Nat) (at' most : Int) (w : World) (h : BytesIn w A n) (hn : n ≤ 1048576) (h0 : 0 ≤ at') (h1 : 1 < most) (h2 : at' ≤ 100) : ∃ r : Int, 0 ≤ r ∧ r < most ∧ ∀ m : Nat, Calls Try.prog 15 #[.slice A n c, .int .i64 at', .int .i64 most] (w.drewN m) fun e w' => e = .returned (.int .i64 r) ∧ w.drewN m = w' := by
  have b1 : decide (most ≤ 1) = false := decide_eq_false (by omega)
  by_cases hz : n = 0
  · subst hz
    refine ⟨0, by omega, by omega, fun m => ?_⟩
    go_enter Try.func15, Try.ntmps15
    go_wp2
    go_ret
    exact ⟨rfl, rfl⟩
  · have k0 : 0 ≤ at' % n := Int.emod_nonneg _ (by omega)
    have k1 : at' % n < n := Int.emod_lt_of_pos _ (by omega)
    obtain ⟨ad, x, rfl, hb, x0, x1, hx⟩ := h (at' % n).toNat (by omega)
    refine ⟨x % most, Int.emod_nonneg _ (by omega), Int.emod_lt_of_pos _ (by omega), fun m => ?_⟩
    have hx' : (w.drewN m).cell? (ad.add (at' % n).toNat) = some (.int .u8 x) := hx
    generalize w.drewN m = w9 at *
    go_enter Try.func15, Try.ntmps15
    go_wp2
    go_ret
    exact ⟨rfl, rfl⟩
theorem bytes_in3 {w : World} {A : Option Addr} {ys : List Int} (h : (Kd.int .u8).C w A ys.length ys) (hy : AllOk (Fits .u8) ys) : BytesIn w A ys.length := by
  intro j hj
  obtain ⟨x, hx⟩ : ∃ x, ys[j]? = some x := ⟨ys[j], List.getElem?_eq_getElem hj⟩
  obtain ⟨ad, c, e, hb, -, hc, hr⟩ := h.get hx
  have hok := hy x (List.mem_of_getElem? hx)
  have h0 : c = [.int .u8 x] := hc
  subst h0
  have h1 := hr 0 _ rfl
  simp [Fits, Lit.wf] at hok
  refine ⟨ad, x, e, hb, ?_, ?_, by simpa [Kd.int, Kd.scalar] using h1⟩
  · exact hok.1
  · exact hok.2
theorem wpl_append_mks_g {ops : Array Oper} {rest : List Oper} {o : Oper} {a : Act} {w : World} {Q : Exit → Act → World → Prop} (hw : Region.wanted o (yielded ops a.tmps) = true)
    (s x : Operand) (hop : o.op = Op.call { callee := Callee.builtin Builtin.append, args := #[s, x], argTypes := #[52, 52] })
    (base : Nat) (v : Value) (ms : List Mk) (hs : a.eval s = v) (hown : OwnK w base v ms)
    (A : Option Addr) (L : List Mk) (c : Nat) (hx : a.eval x = .slice A L.length c) (hM : Mks w A L) (b1 : ms.length + L.length ≤ 100000) (hbase : base ≤ w.heap.size)
    (h : ∀ v' w', OwnK w' base v' (ms ++ L) → w.grownBy w' v.ownBlock → wpList Try.prog ops Q rest (a.put o.dst v') w') : wpList Try.prog ops Q (o :: rest) a w :=
  wpList_step fun K hK => by rw [if_pos hw]; exact oper_append_mks (ops := ops) s x hop base v ms hs hown A L c hx hM b1 hbase fun v' w' p1 p2 => hK _ _ (h v' w' p1 p2)
theorem wouts_no {x sp : Int} {ms : List Mk} (h : x = if isWin sp ms then sp else 0) (hf : isWin sp ms = false) : x = 0 := by rw [h, hf]; rfl
theorem wouts_yes {x sp : Int} {ms : List Mk} (h : x = if isWin sp ms then sp else 0) (hf : isWin sp ms = true) : x = sp := by rw [h, hf]; rfl
theorem wout_no {sp : Int} {ms : List Mk} {w w' : World} {e : Ending} (h : WOut sp ms w e w') (hf : isWin sp ms = false) : e = .returned (.agg #[.int .i64 0, .int .i64 0, .int .i64 0, .slice none 0 0]) ∧ Below w.heap.size w w' := by
  rcases h with ⟨_, h⟩ | ⟨h, _⟩
  · exact h
  · rw [hf] at h; cases h
theorem wout_yes {sp : Int} {ms : List Mk} {w w' : World} {e : Ending} (h : WOut sp ms w e w') (hf : isWin sp ms = true) : ∃ A c, e = .returned (.agg #[.int .i64 sp, .int .i64 (mat ms (ms.length - 1)).1, .int .i64 (mat ms (ms.length - 1)).2, .slice A (winF sp ms (ms.length - 1)).length c]) ∧ Mks w' A (winF sp ms (ms.length - 1)) ∧ Below w.heap.size w w' := by
  rcases h with ⟨h, _⟩ | ⟨_, h⟩
  · rw [hf] at h; cases h
  · exact h
set_option maxHeartbeats 8000000 in
theorem win_law (A0 A1 : Option Addr) (n0 n1 c0 c1 : Nat) (w : World) (h0 : BytesIn w A0 n0) (h1 : BytesIn w A1 n1) (g0 : n0 ≤ 1048576) (g1 : n1 ≤ 1048576) :
    Calls Try.prog 8 #[.slice A0 n0 c0, .slice A1 n1 c1] w fun e w' => e = .returned (.bool true) ∧ Below w.heap.size w w' := by
  have H0 := Lib.hid h0
  have H1 := Lib.hid h1
  have i0 : decide ((n0 : Int) > 1048576) = false := decide_eq_false (by omega)
  have i1 : decide ((n1 : Int) > 1048576) = false := decide_eq_false (by omega)
  have hu := Try.underlying56
  have hf : ∀ (a b c : Int) (v : Value) (w : World), (Instr.field 56 (.agg #[.int .i64 a, .int .i64 b, .int .i64 c, v]) 0).run Try.prog w = .ok (.int .i64 a) w := fun _ _ _ _ _ => by kernel_rfl
  clear h0 h1
  go_enter Try.func8, Try.ntmps8
  go_upto_region 4 with (first
    | (go_at_call 29; refine (s_DrawWindowOf _ _ _ _ H0.out g0).mono ?_; rintro e w1 ⟨sp, A, c, ms, rfl, hl, hc, hM1, hb1⟩; have HM1 := Lib.hid hM1; have HB1 := Lib.hid hb1; clear hM1 hb1)
    | fail)
  obtain ⟨r, hr⟩ : ∃ r, isWin sp ms = r := ⟨_, rfl⟩
  have HR := Lib.hid hr
  cases r with
  | false =>
    clear hr
    go_wp2_with (first
      | (go_at_call 30; refine (s_WindowOf _ _ _ _ _ HM1.out (by omega)).mono ?_; rintro e w2 ⟨x, nw, cp, v, rfl, hx, hb2⟩; have hx0 := wouts_no hx HR.out; clear hx; subst hx0; have hal := (Below.refl w2.heap.size w2).alloc (Nat.le_refl _) (.cells #[] 59); have HM2 := Lib.hid (HM1.out.keep (btrans hb2 hal)); have HB2 := Lib.hid (btrans HB1.out hb2); have HAL := Lib.hid hal; clear hb2 hal)
      | (at_builtin; refine wpl_append_mks rfl (.tmp 28) (.tmp 29) rfl w2.heap.size (.slice (some ⟨_, 0, none⟩) 0 0) [] rfl (made_k _) A ms c rfl HM2.out (by simp; omega) (by simp) ?_; intro v3 w3 hO3 hG3; have HB3 := Lib.hid (btrans HB2.out (below_own_k HAL.out hG3 (Nat.le_refl _) (fun i e => by cases e; exact Nat.le_refl _))); obtain ⟨A3, c3, rfl⟩ := owns_form_k hO3; simp only [List.nil_append] at hO3; have HM3 := Lib.hid hO3.mks2; have HL3 := Lib.hid hO3.len; clear hO3 hG3)
      | (go_at_call 31; refine (c_WindowOf _ _ _ _ _ HM3.out (by omega) HL3.out).mono ?_; rintro e w4 hW; obtain ⟨rfl, hb4⟩ := wout_no hW HR.out)
      | fail)
    go_ret
    exact ⟨rfl, btrans HB3.out hb4⟩
  | true =>
    have hr2 := hr
    rw [isWin, Bool.and_eq_true, Bool.and_eq_true, bIn_true] at hr2
    obtain ⟨hh, hne, s0, s1⟩ := hr2
    have hne := of_decide_eq_true hne
    have HH := Lib.hid hh
    have bx : (sp == 0) = false := beq_eq_false_iff_ne.2 (by omega)
    clear hr hh
    go_upto_region 7 with (first
      | (go_at_call 30; refine (s_WindowOf _ _ _ _ _ HM1.out (by omega)).mono ?_; rintro e w2 ⟨x, nw, cp, v, rfl, hx, hb2⟩; have hx0 := wouts_yes hx HR.out; clear hx; subst hx0; have hal := (Below.refl w2.heap.size w2).alloc (Nat.le_refl _) (.cells #[] 59); have HMb := Lib.hid (HM1.out.keep hb2); have HM2 := Lib.hid (HMb.out.keep hal); have HB2 := Lib.hid (btrans HB1.out hb2); have HAL := Lib.hid hal; clear hb2 hal)
      | (at_builtin; refine wpl_append_mks rfl (.tmp 35) (.tmp 36) rfl w2.heap.size (.slice (some ⟨_, 0, none⟩) 0 0) [] rfl (made_k _) A ms c rfl HM2.out (by simp; omega) (by simp) ?_; intro v3 w3 hO3 hG3; have hb3 := below_own_k HAL.out hG3 (Nat.le_refl _) (fun i e => by cases e; exact Nat.le_refl _); have HMc := Lib.hid (HMb.out.keep hb3); have HB3 := Lib.hid (btrans HB2.out hb3); obtain ⟨A3, c3, rfl⟩ := owns_form_k hO3; simp only [List.nil_append] at hO3; have HM3 := Lib.hid hO3.mks2; have HL3 := Lib.hid hO3.len; clear hO3 hG3 hb3)
      | (go_at_call 31; refine (c_WindowOf _ _ _ _ _ HM3.out (by omega) HL3.out).mono ?_; rintro e w4 hW; obtain ⟨A4, c4, rfl, hM4, hb4⟩ := wout_yes hW HR.out; have HMd := Lib.hid (HMc.out.keep hb4); have HB4 := Lib.hid (btrans HB3.out hb4); have HM4 := Lib.hid hM4; clear hb4 hM4)
      | fail)
    have hal := (Below.refl w4.heap.size w4).alloc (Nat.le_refl _) (.cells #[.int .i64 x, .int .i64 (mat ms (ms.length - 1)).1, .int .i64 (mat ms (ms.length - 1)).2, .slice A4 (winF x ms (ms.length - 1)).length c4] 56)
    have HT5 := Lib.hid (WB.new w4 x (mat ms (ms.length - 1)).1 (mat ms (ms.length - 1)).2 (.slice A4 (winF x ms (ms.length - 1)).length c4) 56)
    have HMe := Lib.hid (HMd.out.keep hal)
    have HM5 := Lib.hid (HM4.out.keep hal)
    have HB5 := Lib.hid (btrans HB4.out hal)
    have HBY := Lib.hid (H1.out.keep HB5.out)
    obtain ⟨h0, h9, -⟩ := hist_of HH.out
    have hlen := h0
    have hpos : 0 < ms.length := by omega
    obtain ⟨p0, p1, -, -⟩ := h9 (ms.length - 1) (by omega)
    have HWOK := Lib.hid (win_ok (sp := x) HH.out s0 s1 (i := ms.length - 1) (by omega))
    have HLAST := Lib.hid (fun i (hi : i < ms.length) => hist_last HH.out hi)
    have HMOST := Lib.hid (fun now hn => win_most (sp := x) (now := now) HH.out s0 hpos hn)
    obtain ⟨g, off, hA, hg, hx⟩ := HMe.out.at (i := ms.length - 1) (by omega)
    have hc0 := (hx (ms.length - 1) (by omega)).1
    obtain ⟨r, r0, r1, hr⟩ := l_at3 A1 n1 c1 0 60 _ HBY.out g1 (by omega) (by omega) (by omega)
    have HAT := Lib.hid hr
    clear hx HM4 HMd HB4 hal h9 HMb HM2 HB2 HAL HMc HB3 HM3 HL3 HM1 HB1 h0 hr hg
    generalize w4.alloc (.cells #[.int .i64 x, .int .i64 (mat ms (ms.length - 1)).1, .int .i64 (mat ms (ms.length - 1)).2, .slice A4 (winF x ms (ms.length - 1)).length c4] 56) = w5 at *
    generalize w4.heap.size = b7 at *
    generalize hLL : winF x ms (ms.length - 1) = L at *
    generalize (mat ms (ms.length - 1)).1 = la at *
    generalize (mat ms (ms.length - 1)).2 = lc at *
    subst hA
    have k1 : ((ms.length - 1 : Nat) : Int) = (ms.length : Int) - 1 := by omega
    have k2 : ((ms.length : Int) - 1).toNat = ms.length - 1 := by omega
    have k3 : IntKind.i64.wrap ((ms.length : Int) - 1) = (ms.length : Int) - 1 := by rw [IntKind.wrap_i64]; omega
    have k4 : (0 : Int) ≤ (ms.length : Int) - 1 := by omega
    have k5 : (ms.length : Int) - 1 < (ms.length : Int) := by omega
    have k6 : IntKind.i64.wrap (la + r) = la + r := by rw [IntKind.wrap_i64]; omega
    go_cut [8] (fun v8 wc => ∃ m : Nat, wc = w5.drewN m ∧ v8 = .int .i64 (la + r))
    case first =>
      go_quiet (first | (go_at_call 15; first | exact quiet_left (HAT.out _) | exact quiet_add_left (HAT.out _)) | fail)
      go_wp2_with fail
      go_meet
      exact ⟨_, rfl, rfl⟩
    case rest =>
    obtain ⟨m, rfl, rfl⟩ := hcut
    have hd := below_drewN (Below.refl w5.heap.size w5) m
    have HT6 := Lib.hid (HT5.out.keep hd)
    have HMf := Lib.hid (HMe.out.keep hd)
    have HM6 := Lib.hid (HM5.out.keep hd)
    have HB6 := Lib.hid (btrans HB5.out hd)
    have m1 := HMOST.out (la + r) (by omega)
    have HV := Lib.hid m1
    have hnow : ∀ i, i < ms.length → (mat ms i).1 ≤ la + r := fun i hi => Int.le_trans (HLAST.out i hi) (by omega)
    have HNOW := Lib.hid hnow
    generalize w5.drewN m = w6 at *
    clear HT5 HMe HM5 HB5 HBY HMOST HLAST hd m1 hnow HAT k1 k2 k3 k4 k5 k6 hc0
    rename_i hK
    refine hK _ _ ?_
    clear hK
    have HW1 := Lib.hid (fun (w : World) (h : Mks w A4 L) => (c_WindowMost x la lc (la + r) A4 L c4 w h HWOK.out (by omega) (by omega)))
    rw [HV.out] at HW1
    have HW2 := Lib.hid (fun (A : Option Addr) (c : Nat) (w : World) (h : Mks w A ms) => c_MostOf A ms c x (la + r) w h HH.out s0 s1 (by omega) (by omega) HNOW.out)
    have HW3 := Lib.hid (fun (A : Option Addr) (c : Nat) (w : World) (h : Mks w A ms) => s_MostOf A ms c x (la + r) w h HH.out s0 s1 (by omega) (by omega) HNOW.out)
    generalize accP (la + r - x) ms ms.length = ac at *
    obtain ⟨c0', c1', c2', c3', -⟩ := HT6.out
    go_wp2_with (first
      | (go_at_call 32; refine (c_WindowRight _ _ _ _ _ _ _ HM6.out HWOK.out).mono ?_; rintro e w7 ⟨rfl, hb7⟩; have HT7 := Lib.hid (HT6.out.keep hb7); have HMg := Lib.hid (HMf.out.keep hb7); have HM7 := Lib.hid (HM6.out.keep hb7); have HB7 := Lib.hid (btrans HB6.out hb7); obtain ⟨d0', d1', d2', d3', -⟩ := HT6.out.keep hb7; clear hb7)
      | (go_at_call 33; (with_reducible refine (HW1.out _ HM7.out).mono ?_); rintro e w8 ⟨rfl, hb8⟩; have HT8 := Lib.hid (HT7.out.keep hb8); have HMh := Lib.hid (HMg.out.keep hb8); have HM8 := Lib.hid (HM7.out.keep hb8); have HB8 := Lib.hid (btrans HB7.out hb8); have hal8 := (Below.refl w8.heap.size w8).alloc (Nat.le_refl _) (.cells #[] 59); have HMi := Lib.hid (HMh.out.keep hal8); have HAL8 := Lib.hid hal8; clear hb8 hal8)
      | (at_builtin; refine wpl_append_mks_g (by rfl) (.tmp 55) (.tmp 56) rfl w8.heap.size (.slice (some ⟨_, 0, none⟩) 0 0) [] rfl (made_k _) (some ⟨g, off, none⟩) ms c rfl HMi.out (by simp; omega) (by simp) ?_; intro v9 w9 hO9 hG9; have hb9 := below_own_k HAL8.out hG9 (Nat.le_refl _) (fun i e => by cases e; exact Nat.le_refl _); have HMj := Lib.hid (HMh.out.keep hb9); have HT9 := Lib.hid (HT8.out.keep hb9); have HM9 := Lib.hid (HM8.out.keep hb9); have HB9 := Lib.hid (btrans HB8.out hb9); obtain ⟨A9, c9, rfl⟩ := owns_form_k hO9; simp only [List.nil_append] at hO9; have HM9c := Lib.hid hO9.mks2; clear hO9 hG9 hb9)
      | (go_at_call 34; (with_reducible refine (HW2.out _ _ _ HM9c.out).mono ?_); rintro e w10 ⟨rfl, hb10⟩; have HTx := Lib.hid (HT9.out.keep hb10); have HMk := Lib.hid (HMj.out.keep hb10); have HM10 := Lib.hid (HM9.out.keep hb10); have HB10 := Lib.hid (btrans HB9.out hb10); obtain ⟨t0, t1, t2, t3, -⟩ := HTx.out; clear hb10)
      | (go_at_call 33; (with_reducible refine (HW1.out _ HM10.out).mono ?_); rintro e w11 ⟨rfl, hb11⟩; have HMl := Lib.hid (HMk.out.keep hb11); have HB11 := Lib.hid (btrans HB10.out hb11); clear hb11)
      | (go_at_call 35; (with_reducible refine (HW3.out _ _ _ HMl.out).mono ?_); rintro e w12 ⟨rfl, hb12⟩; have HB12 := Lib.hid (btrans HB11.out hb12); clear hb12)
      | fail)
    go_ret
    exact ⟨rfl, HB12.out⟩
theorem l_FnWindow : OFnWindow.Walks := by
  rintro y0 y1 A0 c0 A1 c1 w f0 f1 - h0 - h1
  have H0 := Lib.hid (bytes_in3 h0 f0)
  have H1 := Lib.hid (bytes_in3 h1 f1)
  clear h0 f0 h1 f1
  generalize y0.length = n0 at *
  generalize y1.length = n1 at *
  by_cases g0 : n0 ≤ 1048576
  · by_cases g1 : n1 ≤ 1048576
    · exact win_law _ _ _ _ _ _ w H0.out H1.out g0 g1
    · have i0 : decide ((n0 : Int) > 1048576) = false := decide_eq_false (by omega)
      have i1 : decide ((n1 : Int) > 1048576) = true := decide_eq_true (by omega)
      go_enter Try.func8, Try.ntmps8
      go_wp2
      go_ret
      exact ⟨rfl, Below.refl _ _⟩
  · have i0 : decide ((n0 : Int) > 1048576) = true := decide_eq_true (by omega)
    go_enter Try.func8, Try.ntmps8
    go_wp2
    go_ret
    exact ⟨rfl, Below.refl _ _⟩
end Go.Proofs.Ytddemmmbbleofaa.C
