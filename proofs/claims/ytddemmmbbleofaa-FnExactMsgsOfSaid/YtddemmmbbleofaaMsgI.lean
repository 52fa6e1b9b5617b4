/- What the program reads of a text: msgRead, walked: the same outcome as the reference's. No condition. -/
import Derived.Test.YtddemmmbbleofaaMsgT
import Derived.Lib.ConvBytes
import Derived.Lib.EndianBits
namespace Go.Proofs.Ytddemmmbbleofaa.C
open Go.RowKit
set_option maxRecDepth 100000
set_option linter.unusedVariables false
set_option linter.unusedSimpArgs false
attribute [local go_sem ↓] Go.wp_at_zero Go.wp_at_succ
open Go.Proofs.YtddemmmbbleofaaW.PrintWords (bt bt_range bt_at)
theorem toList_nil {t : ByteArray} (h : t.size = 0) : t.toList = [] := by
  rw [ByteArray.toList_eq]; exact List.eq_nil_of_length_eq_zero (by simpa using h)
theorem toList_ne {t : ByteArray} (h : t.size ≠ 0) : t.toList.isEmpty = false := by
  rw [ByteArray.toList_eq, List.isEmpty_eq_false_iff]
  intro h2
  apply h
  have := congrArg List.length h2
  simpa using this
set_option maxHeartbeats 4000000 in
theorem c_read_none (t : ByteArray) (w : World) (ht : t.size ≤ 20000) (h : t.size = 0 ∨ bt t 0 ≠ 87) : Calls Try.prog 59 #[.string t] w fun e w' => e = .returned (.agg (outC M0 0 4)) ∧ Below w.heap.size w w' := by
  have hu := Try.underlying46
  by_cases h1 : t.size = 0
  · have b1 := toList_nil h1
    clear h1 h
    go_enter Try.func59, Try.ntmps59
    go_wp2_with fail
    refine bodyPost_ret (v := .agg (outC M0 0 4)) (results_cell_row rfl _ _ _ _ _ _ _ rfl (heap_alloc_new _ _) hu rfl (by kernel_rfl)) rfl ⟨rfl, (Below.refl _ w).alloc (Nat.le_refl _) _⟩
  · have b1 := toList_ne h1
    have h0 : 0 < t.size := by omega
    have hc : ((t[0]'h0).toNat : Int) = bt t 0 := bt_at t 0 (by simpa using h0)
    have b2 : (bt t 0 != 87) = true := by rcases h with h | h; exact absurd h h1; exact bne_iff_ne.mpr h
    clear h
    go_enter Try.func59, Try.ntmps59
    go_wp2_with fail
    refine bodyPost_ret (v := .agg (outC M0 0 4)) (results_cell_row rfl _ _ _ _ _ _ _ rfl (heap_alloc_new _ _) hu rfl (by kernel_rfl)) rfl ⟨rfl, (Below.refl _ w).alloc (Nat.le_refl _) _⟩
set_option maxHeartbeats 4000000 in
theorem c_read_short (t : ByteArray) (w : World) (ht : t.size ≤ 20000) (h1 : t.size ≠ 0) (h2 : bt t 0 = 87) (h3 : t.size = 1 ∨ (t.size = 2 ∧ 128 ≤ bt t 1)) : Calls Try.prog 59 #[.string t] w fun e w' => e = .returned (.agg (outC M0 0 9)) ∧ Below w.heap.size w w' := by
  have hu := Try.underlying46
  have b1 := toList_ne h1
  have h0 : 0 < t.size := by omega
  have hc : ((t[0]'h0).toNat : Int) = 87 := (bt_at t 0 (by simpa using h0)).trans h2
  clear h2
  by_cases h4 : t.size = 1
  · have b3 : ((t.size : Int) == 1) = true := by simp [h4]
    clear h4 h3 h1
    go_enter Try.func59, Try.ntmps59
    go_wp2_with fail
    refine bodyPost_ret (v := .agg (outC M0 0 9)) (results_cell_row rfl _ _ _ _ _ _ _ rfl (heap_alloc_new _ _) hu rfl (by kernel_rfl)) rfl ⟨rfl, (Below.refl _ w).alloc (Nat.le_refl _) _⟩
  · obtain ⟨h5, h6⟩ := h3.resolve_left h4
    have b3 : ((t.size : Int) == 1) = false := by simp [h5]
    have b4 : ((t.size : Int) == 2) = true := by simp [h5]
    have h01 : 1 < t.size := by omega
    have hc1 : ((t[1]'h01).toNat : Int) = bt t 1 := bt_at t 1 (by simpa using h01)
    have b5 : decide (128 ≤ bt t 1) = true := decide_eq_true h6
    clear h4 h3 h1 h5
    go_enter Try.func59, Try.ntmps59
    go_wp2_with fail
    refine bodyPost_ret (v := .agg (outC M0 0 9)) (results_cell_row rfl _ _ _ _ _ _ _ rfl (heap_alloc_new _ _) hu rfl (by kernel_rfl)) rfl ⟨rfl, (Below.refl _ w).alloc (Nat.le_refl _) _⟩
theorem head_cut (t : ByteArray) (h : 2 ≤ t.size) : (t.extract 1 t.size).extract 0 (min (t.extract 1 t.size).size 2) = t.extract 1 (min t.size 3) := by
  rw [ByteArray.extract_extract, ByteArray.size_extract]
  congr 1
  omega
theorem outF_syn {t : ByteArray} (h1 : t.size ≠ 0) (h2 : bt t 0 = 87) (h3 : ¬ (t.size = 1 ∨ (t.size = 2 ∧ 128 ≤ bt t 1))) (hn : ∀ n r, NF (t.extract 1 t.size) = (n, r, false) → n ≤ 200 → False) : outF t = outC M0 0 3 := by
  obtain ⟨n, r, c, h⟩ : ∃ n r c, NF (t.extract 1 t.size) = (n, r, c) := ⟨_, _, _, rfl⟩
  rw [outF_head h1 h2 h3 h, if_pos]
  cases c
  · by_cases h4 : n ≤ 200
    · exact (hn n r h h4).elim
    · exact .inr (by omega)
  · exact .inl rfl
theorem syn_no {t : ByteArray} (h2 : 2 ≤ t.size) (h : TF (t.extract 1 (min t.size 3)) = none) : ∀ n r, NF (t.extract 1 t.size) = (n, r, false) → n ≤ 200 → False := by
  intro n r hn h3
  have := (head_yes hn h3).1
  rw [head_cut t h2, h] at this
  cases this
theorem syn_big {t r' : ByteArray} {n' : Int} (h2 : 2 ≤ t.size) (h : TF (t.extract 1 (min t.size 3)) = some (n', r')) (hb : 200 < n' ∨ nb n' ++ r' ≠ t.extract 1 (min t.size 3)) : ∀ n r, NF (t.extract 1 t.size) = (n, r, false) → n ≤ 200 → False := by
  intro n r hn h3
  obtain ⟨k1, k2, -, -⟩ := head_yes hn h3
  rw [head_cut t h2] at k1 k2
  rw [h] at k1
  simp only [Option.some.injEq, Prod.mk.injEq] at k1
  obtain ⟨rfl, rfl⟩ := k1
  rcases hb with hb | hb
  · omega
  · exact hb k2
theorem syn_yes {t r' : ByteArray} {n : Int} (h2 : 2 ≤ t.size) (h : TF (t.extract 1 (min t.size 3)) = some (n, r')) (hn : n ≤ 200) (he : nb n ++ r' = t.extract 1 (min t.size 3)) : 0 ≤ n ∧ ∃ r, NF (t.extract 1 t.size) = (n, r, false) ∧ t.extract 1 t.size = nb n ++ r := by
  obtain ⟨r, hr⟩ := head_no (head_cut t h2).symm h hn he
  obtain ⟨-, -, k3, k4⟩ := head_yes hr hn
  exact ⟨k3, r, hr, k4⟩
/-- A number of so many bytes, the greatest first. -/
def be (u : ByteArray) : Nat → Int
  | 0 => 0
  | k + 1 => be u k * 256 + bt u k
theorem be_range (u : ByteArray) (k : Nat) : 0 ≤ be u k ∧ be u k < 256 ^ k := by
  induction k with
  | zero => exact ⟨Int.le_refl _, by show (0 : Int) < 256 ^ 0; decide⟩
  | succ k ih =>
    obtain ⟨c0, c1⟩ := bt_range u k
    rw [be, Int.pow_succ]
    omega
theorem be_small {u : ByteArray} {k : Nat} (h : be u k < 256 ^ k) (hk : k ≤ 4) : be u k < 4294967296 := by
  have : k = 0 ∨ k = 1 ∨ k = 2 ∨ k = 3 ∨ k = 4 := by omega
  rcases this with rfl | rfl | rfl | rfl | rfl <;> omega
theorem bt_get (u : ByteArray) (k : Nat) (hk : k < u.size) : ((u.data.toList.getD k 0).toNat : Int) = bt u k := by
  rw [← bt_at u (k : Int) (by simpa using hk)]
  have : u.data.toList.getD k 0 = u[k]'hk := by
    rw [List.getD_eq_getElem?_getD, List.getElem?_eq_getElem (by simpa using hk)]
    rfl
  rw [this]
  rfl
theorem or_add (x c : Int) (h0 : 0 ≤ x) (h1 : x < 4294967296) (c0 : 0 ≤ c) (c1 : c ≤ 255) : bits .or .i64 (x * 256) c = x * 256 + c :=
  bits_join .i64 41 (by decide) (fun n a b => by rw [IntKind.wrap_i64]; omega) 8 (x * 256) c (by omega) (by omega) (by omega) c0 (by omega) (by omega)
theorem be4 (u : ByteArray) : be u 4 = ((bt u 0 * 256 + bt u 1) * 256 + bt u 2) * 256 + bt u 3 := by
  simp [be]
theorem bt_sum4 (b : ByteArray) (h0 : 0 ≤ sumv b) (h1 : sumv b < 4294967291) : bt (sum4 b) 0 = sumv b / 16777216 ∧ bt (sum4 b) 1 = sumv b / 65536 % 256 ∧ bt (sum4 b) 2 = sumv b / 256 % 256 ∧ bt (sum4 b) 3 = sumv b % 256 := by
  have hr : ∀ v ∈ [sumv b / 16777216, sumv b / 65536 % 256, sumv b / 256 % 256, sumv b % 256], 0 ≤ v ∧ v ≤ 255 := by
    intro v hv
    simp only [List.mem_cons, List.not_mem_nil, or_false] at hv
    omega
  have k := fun j v hj => bt_str _ ⟨#[]⟩ hr j v hj
  simp only [show ∀ x : ByteArray, x ++ (⟨#[]⟩ : ByteArray) = x from fun x => by exact ByteArray.append_empty] at k
  exact ⟨k 0 _ rfl, k 1 _ rfl, k 2 _ rfl, k 3 _ rfl⟩
theorem bytes_ext {u v : ByteArray} (hs : u.size = v.size) (h : ∀ j : Nat, j < u.size → bt u (j : Int) = bt v (j : Int)) : u = v := by
  apply ByteArray.ext_getElem hs
  intro i h1 h2
  have := h i h1
  rw [← bt_at u (i : Int) (by simpa using h1), ← bt_at v (i : Int) (by simpa using h2)] at this
  simp only [Int.toNat_natCast] at this
  exact UInt8.toNat_inj.mp (Int.ofNat_inj.mp this)
theorem sum_same {u b : ByteArray} (hu : u.size = 4) (hb : b.size ≤ 20000) : be u 4 = sumv b ↔ u = sum4 b := by
  obtain ⟨-, -, s0, s1⟩ := sumv_is b hb
  obtain ⟨k0, k1, k2, k3⟩ := bt_sum4 b s0 s1
  have r0 := bt_range u 0
  have r1 := bt_range u 1
  have r2 := bt_range u 2
  have r3 := bt_range u 3
  rw [be4]
  constructor
  · intro h
    refine bytes_ext (by rw [hu]; rfl) fun j hj => ?_
    have : j = 0 ∨ j = 1 ∨ j = 2 ∨ j = 3 := by omega
    rcases this with rfl | rfl | rfl | rfl
    · exact Eq.trans (show bt u 0 = sumv b / 16777216 by omega) k0.symm
    · exact Eq.trans (show bt u 1 = sumv b / 65536 % 256 by omega) k1.symm
    · exact Eq.trans (show bt u 2 = sumv b / 256 % 256 by omega) k2.symm
    · exact Eq.trans (show bt u 3 = sumv b % 256 by omega) k3.symm
  · intro h
    rw [h, k0, k1, k2, k3]
    omega
theorem below_bytes (w : World) (e : TypeId) (s : ByteArray) : Below w.heap.size w (Lib.bytesWorld w e s) := ⟨rfl, rfl, rfl, by rw [Lib.bytesWorld_size]; omega, fun i hi => Lib.bytesWorld_at_old w e s i hi⟩
theorem c_bytes_ok (m : M) (h : m.ok = true) (w : World) : Calls Try.prog 58 #[.agg #[.int .i64 m.k, .int .i64 m.id, .int .i64 m.seq, .int .i64 m.g, .int .i64 m.wa, .int .i64 m.we, .int .i64 m.am, .int .i64 m.un, .int .i64 m.co, .string m.note]] w fun e w' => e = .returned (.string m.text) ∧ Below w.heap.size w w' := by
  obtain ⟨hk, hn, ⟨i0, i1⟩, ⟨q0, q1⟩, ⟨g0, g1⟩, ⟨wa0, wa1⟩, ⟨we0, we1⟩, ⟨am0, am1⟩, ⟨un0, un1⟩, co0, co1⟩ := msgB_bounds h
  exact c_bytes _ _ _ _ _ _ _ _ _ _ w hk hn i0 i1 q0 q1 g0 (by omega) wa0 (by omega) we0 (by omega) am0 (by omega) un0 (by omega) co0 (by omega)
theorem tail_MO {t r : ByteArray} {n : Int} {c ok : Bool} {used : Nat} {m : M} (hu : used ≤ t.size) (hn : NF (t.extract 1 t.size) = (n, r, c)) (h : MO (r.extract 0 n.toNat) m ok) :
    (ok = false → tailO t used = outC M0 0 3) ∧ (ok = true → m.ok = true ∧ (m.text ≠ t.extract 0 used → tailO t used = outC M0 0 3) ∧ (m.text = t.extract 0 used → tailO t used = outC m used 0)) := by
  rcases h with ⟨rfl, m0, kk, rest, hb, hr⟩ | ⟨rfl, m0, kk, q, hb, hk, rfl, hok⟩
  · refine ⟨fun _ => ?_, fun h => by cases h⟩
    obtain ⟨k1, k2⟩ := tail_impl hu hn hb
    rcases hr with rfl | ⟨q, rfl, hq | hq⟩
    · exact k1 rfl
    · exact (k2 q rfl).1 hq
    · exact (k2 q rfl).2.1 hq
  · refine ⟨fun h => (by cases h), fun _ => ?_⟩
    obtain ⟨-, k2⟩ := tail_impl hu hn hb
    exact ⟨hok, (k2 q rfl).2.2.1 hok, (k2 q rfl).2.2.2 hok⟩
theorem body_cut {t r : ByteArray} {n : Int} {F E : Nat} (hx : t.extract 1 t.size = nb n ++ r) (hF : F = 1 + (nb n).size) (hE : E = F + n.toNat) (hE2 : E ≤ t.size) : t.extract F E = r.extract 0 n.toNat := by
  have h1 : t.extract F E = (t.extract 1 t.size).extract (nb n).size ((nb n).size + n.toNat) := by
    rw [ByteArray.extract_extract]
    congr 1
    · omega
  rw [h1, hx, ByteArray.extract_append, Nat.sub_self, Nat.add_sub_cancel_left]
  have h2 : (nb n).extract (nb n).size ((nb n).size + n.toNat) = ByteArray.empty := by
    apply ByteArray.ext
    simp
  rw [h2, ByteArray.empty_append]
theorem below_to {w a b : World} {g : Nat} (h : Below g w a) (k : Below a.heap.size a b) (hg : w.heap.size + 0 = g) : Below w.heap.size w b := by
  rw [Nat.add_zero] at hg
  rw [hg]
  exact h.trans (k.mono (by rw [← hg]; exact h.size))
set_option maxHeartbeats 8000000 in
theorem c_read_head (t : ByteArray) (w : World) (ht : t.size ≤ 20000) (h1 : t.size ≠ 0) (h2 : bt t 0 = 87) (h3 : ¬ (t.size = 1 ∨ (t.size = 2 ∧ 128 ≤ bt t 1))) : Calls Try.prog 59 #[.string t] w fun e w' => e = .returned (.agg (outF t)) ∧ Below w.heap.size w w' := by
  have hu := Try.underlying46
  have hu2 := Try.underlying28
  have HO := Lib.hid (fun n r c => outF_head (n := n) (r := r) (c := c) h1 h2 h3)
  have HS := Lib.hid (outF_syn h1 h2 h3)
  have b1 := toList_ne h1
  have h0 : 0 < t.size := by omega
  have hc : ((t[0]'h0).toNat : Int) = 87 := (bt_at t 0 (by simpa using h0)).trans h2
  clear h2
  have b3 : ((t.size : Int) == 1) = false := beq_eq_false_iff_ne.mpr (by omega)
  have h01 : 1 < t.size := by omega
  have hc1 : ((t[1]'h01).toNat : Int) = bt t 1 := bt_at t 1 (by simpa using h01)
  generalize outF t = O at *
  have hd : ((t.size : Int) == 2) = false ∨ (((t.size : Int) == 2) = true ∧ decide (128 ≤ bt t 1) = false) := by
    by_cases h4 : t.size = 2
    · exact .inr ⟨by simp [h4], decide_eq_false fun h => h3 (.inr ⟨h4, h⟩)⟩
    · exact .inl (beq_eq_false_iff_ne.mpr (by omega))
  clear h3 h1
  go_enter Try.func59, Try.ntmps59
  go_upto_block 0 with fail
  have R0 : Room (w.alloc (.cells #[.int .i64 0, .int .i64 0, .int .i64 0, .int .i64 0, .int .i64 0, .int .i64 0, .int .i64 0, .int .i64 0, .int .i64 0, .string ⟨#[]⟩, .int .i64 0, .int .i64 0] 46)) w.heap.size w.heap.size 12 46 := Room.new (Nat.le_refl _) rfl
  have B0 : Below w.heap.size w (w.alloc (.cells #[.int .i64 0, .int .i64 0, .int .i64 0, .int .i64 0, .int .i64 0, .int .i64 0, .int .i64 0, .int .i64 0, .int .i64 0, .string ⟨#[]⟩, .int .i64 0, .int .i64 0] 46)) := (Below.refl _ _).alloc (Nat.le_refl _) _
  have Z0 : w.heap.size + 1 ≤ (w.alloc (.cells #[.int .i64 0, .int .i64 0, .int .i64 0, .int .i64 0, .int .i64 0, .int .i64 0, .int .i64 0, .int .i64 0, .int .i64 0, .string ⟨#[]⟩, .int .i64 0, .int .i64 0] 46)).heap.size := by simp
  generalize hg : w.heap.size = g at *
  generalize w.alloc (.cells #[.int .i64 0, .int .i64 0, .int .i64 0, .int .i64 0, .int .i64 0, .int .i64 0, .int .i64 0, .int .i64 0, .int .i64 0, .string ⟨#[]⟩, .int .i64 0, .int .i64 0] 46) = w0 at *
  have hw : w.heap.size + 0 = g := hg
  clear hg
  go_cut [] (fun wc => w0 = wc)
  case first =>
    rcases hd with hd | ⟨hd, hd2⟩
    · go_wp2_with fail
      go_meet
      exact rfl
    · go_wp2_with fail
      go_meet
      exact rfl
  case rest =>
    obtain rfl := hcut
    clear hc hc1 hd b1 b3
    rename_i hK
    refine hK _ _ ?_
    clear hK
    go_step
    have hmn : min t.size 3 ≤ t.size := Nat.min_le_left _ _
    go_cut [3, 4, 5] (fun v3 v4 v5 wc => ∃ (wx : World) (n : Int) (r' : ByteArray) (ok : Bool), wx = wc ∧ v3 = .int .i64 n ∧ v4 = .string r' ∧ v5 = .bool ok ∧ Hid (TK (t.extract 1 (min t.size 3)) n r' ok) ∧ Below w0.heap.size w0 wx)
    case first =>
      by_cases h4 : 3 < t.size
      · have b4 : decide ((3 : Int) < t.size) = true := decide_eq_true (by omega)
        have e3 : min t.size 3 = 3 := by omega
        have HE := Lib.hid e3
        clear e3
        go_wp2_with fail
        refine (c_takeNum _ _ (by simp only [ByteArray.size_extract]; omega)).mono ?_
        rintro e w' ⟨x7, r7, ok, hx, rfl, hb⟩
        have HX := Lib.hid hx
        clear hx
        go_wp2_with fail
        go_meet
        exact ⟨_, x7, r7, ok, rfl, rfl, rfl, rfl, Lib.hid (by rw [HE.out]; exact HX.out), hb⟩
      · have b4 : decide ((3 : Int) < t.size) = false := decide_eq_false (by omega)
        have e3 : min t.size 3 = t.size := by omega
        have HE := Lib.hid e3
        clear e3
        go_wp2_with fail
        refine (c_takeNum _ _ (by simp only [ByteArray.size_extract]; omega)).mono ?_
        rintro e w' ⟨x7, r7, ok, hx, rfl, hb⟩
        have HX := Lib.hid hx
        clear hx
        go_wp2_with fail
        go_meet
        exact ⟨_, x7, r7, ok, rfl, rfl, rfl, rfl, Lib.hid (by rw [HE.out]; exact HX.out), hb⟩
    case rest =>
      obtain ⟨w1, n, r', ok, rfl, rfl, rfl, rfl, HX, hb⟩ := hcut
      rename_i hK
      refine hK _ _ ?_
      clear hK
      go_step
      go_step
      have H1 := Lib.hid (R0.keep hb)
      have BW : Below w.heap.size w w1 := below_to B0 hb hw
      have zr : r'.size ≤ 20000 := Nat.le_trans (TK.size HX.out) (by simp only [ByteArray.size_extract]; omega)
      clear R0 B0 Z0 hb
      go_cut [63] (fun v63 wc => ∃ (wx : World) (q : Bool), wx = wc ∧ v63 = .bool q ∧ Hid (q = true → O = outC M0 0 3) ∧ Hid (q = false → TF (t.extract 1 (min t.size 3)) = some (n, r') ∧ n ≤ 200 ∧ nb n ++ r' = t.extract 1 (min t.size 3)) ∧ Below w1.heap.size w1 wx)
      case first =>
        cases ok
        · have HA := Lib.hid (HS.out (syn_no (by omega) HX.out.no))
          clear HS HX
          go_region
          all_goals (go_wp2_with fail; go_meet)
          all_goals (exact ⟨_, true, rfl, rfl, Lib.hid (fun _ => HA.out), Lib.hid (fun h => by cases h), below_drewN (Below.refl _ _) _⟩)
        · have HY := Lib.hid HX.out.yes
          clear HX
          by_cases h200 : 200 < n
          · have HA := Lib.hid (HS.out (syn_big (by omega) HY.out (.inl h200)))
            have b6 : decide (200 < n) = true := decide_eq_true h200
            clear HS HY
            go_region
            all_goals (go_wp2_with fail; go_meet)
            all_goals (exact ⟨_, true, rfl, rfl, Lib.hid (fun _ => HA.out), Lib.hid (fun h => by cases h), below_drewN (Below.refl _ _) _⟩)
          · have b6 : decide (200 < n) = false := decide_eq_false h200
            have n0 : 0 ≤ n := takeG_range 8 0 _ 0 n r' (by omega) HY.out
            have n1 : n ≤ 9223372036854775807 := by omega
            have nz := nb_size n
            have p1 : ((nb n).size + r'.size ≤ 9223372036854775807) = True := eq_true (by omega)
            have p2 : (9223372036854775807 < (nb n).size + r'.size) = False := eq_false (by omega)
            have HA := Lib.hid (fun h => HS.out (syn_big (by omega) HY.out (.inr h)))
            clear HS
            by_cases h4 : 3 < t.size
            · have b4 : decide ((3 : Int) < t.size) = true := decide_eq_true (by omega)
              have e3 : min t.size 3 = 3 := by omega
              have HE := Lib.hid e3
              rw [e3] at HA HY
              clear e3
              have b5 : ((3 : Int) < (t.size : Int)) = True := eq_true (by omega)
              have b7 : ((3 : Int) ≤ (t.size : Int)) = True := eq_true (by omega)
              go_region_held3 (fun w' => Below w1.heap.size w1 w') (first | (with_reducible exact (Below.refl _ _).drew) | (with_reducible exact hB)) (first | (go_at_call 88; refine (c_NumBytes _ _ n0 n1).mono ?_; rintro e w' ⟨rfl, hb⟩; have hB := btrans (by assumption) hb) | fail)
              all_goals (go_wp2_with fail; go_meet)
              all_goals (exact ⟨_, _, rfl, rfl, Lib.hid (fun h => HA.out (by rw [bl_eq] at h; simpa using h)), Lib.hid (fun h => ⟨by rw [HE.out]; exact HY.out, by omega, by rw [HE.out]; rw [bl_eq] at h; simpa using h⟩), by assumption⟩)
            · have b4 : decide ((3 : Int) < t.size) = false := decide_eq_false (by omega)
              have e3 : min t.size 3 = t.size := by omega
              have HE := Lib.hid e3
              rw [e3] at HA HY
              clear e3
              have b5 : ((3 : Int) < (t.size : Int)) = False := eq_false (by omega)
              have b7 : ((1 : Int) ≤ (t.size : Int)) = True := eq_true (by omega)
              go_region_held3 (fun w' => Below w1.heap.size w1 w') (first | (with_reducible exact (Below.refl _ _).drew) | (with_reducible exact hB)) (first | (go_at_call 88; refine (c_NumBytes _ _ n0 n1).mono ?_; rintro e w' ⟨rfl, hb⟩; have hB := btrans (by assumption) hb) | fail)
              all_goals (go_wp2_with fail; go_meet)
              all_goals (exact ⟨_, _, rfl, rfl, Lib.hid (fun h => HA.out (by rw [bl_eq] at h; simpa using h)), Lib.hid (fun h => ⟨by rw [HE.out]; exact HY.out, by omega, by rw [HE.out]; rw [bl_eq] at h; simpa using h⟩), by assumption⟩)
      case rest =>
        obtain ⟨w2, q, rfl, rfl, HA, HB, b2⟩ := hcut
        have H2 := Lib.hid (H1.out.keep b2)
        have BW2 := btrans BW b2
        clear H1 BW b2 HX
        rename_i hK
        refine hK _ _ ?_
        clear hK
        cases q
        · obtain ⟨hy, h200, he⟩ := HB.out rfl
          obtain ⟨n0, r, hn, hx⟩ := syn_yes (by omega) hy h200 he
          have hz : t.size = 1 + (nb n).size + r.size := by
            have := congrArg ByteArray.size hx
            rw [ByteArray.size_extract, ByteArray.size_append] at this
            omega
          have HO3 := Lib.hid ((HO.out n r false hn).trans (if_neg (by rintro (h | h); cases h; omega)))
          have HN := Lib.hid hn
          have HXX := Lib.hid hx
          have n1 : n ≤ 9223372036854775807 := by omega
          have nz := nb_size n
          clear HO HS HA HB hy he hn hx
          obtain ⟨F, hF⟩ : ∃ F : Nat, F = 1 + (nb n).size := ⟨_, rfl⟩
          obtain ⟨E, hE⟩ : ∃ E : Nat, E = F + n.toNat := ⟨_, rfl⟩
          have HE : Hid (t.size - r.size + n.toNat = E) := Lib.hid (by omega)
          have HF := Lib.hid hF
          have HE2 := Lib.hid hE
          have xF : F ≤ 12 := by omega
          have xE : E ≤ 300 := by omega
          clear hF hE
          go_upto_region 8 with fail
          go_cut [6] (fun v6 wc => ∃ wx : World, wx = wc ∧ v6 = .int .i64 (F : Int) ∧ Below w2.heap.size w2 wx)
          case first =>
            go_wp2_with (first | (go_at_call 88; refine (c_NumBytes _ _ n0 n1).mono ?_; rintro e w' ⟨rfl, hb⟩) | fail)
            go_meet
            exact ⟨_, rfl, by rw [HF.out]; rfl, by assumption⟩
          case rest =>
            obtain ⟨w3, rfl, rfl, b3⟩ := hcut
            have H3 := Lib.hid (H2.out.keep b3)
            have BW3 := btrans BW2 b3
            clear H2 BW2 b3
            rename_i hK
            refine hK _ _ ?_
            clear hK
            go_step
            go_cut [7] (fun v7 wc => w3 = wc ∧ v7 = .int .i64 (E : Int))
            case first =>
              go_wp2_with fail
              go_meet
              exact ⟨rfl, by have := HE2.out; rw [show (F : Int) + n = (E : Int) by omega]⟩
            case rest =>
              obtain ⟨rfl, rfl⟩ := hcut
              rename_i hK
              refine hK _ _ ?_
              clear hK
              go_step
              have hF := HF.out
              have hE := HE2.out
              by_cases h4 : (r.size : Int) < n + 4
              · obtain rfl : O = outC M0 0 9 := HO3.out.trans (if_pos h4)
                have x4 : t.size < E + 4 := by omega
                clear HO3 hE hF h4
                go_wp2_with ((with_reducible refine at_store (ty := 46) (y := .tmp 77) ?_); refine wpl_store_row rfl 46 (.tmp 2) (.tmp 77) rfl g _ rfl rfl H3.out rfl (by kernel_rfl) (by simp [Value.oneCell']) ?_; intro hout)
                refine bodyPost_ret (v := .agg (outC M0 0 9)) (results_cell_row rfl _ _ _ _ _ _ _ rfl hout.2 hu rfl (by kernel_rfl)) rfl ⟨rfl, ?_⟩
                exact below_setRow BW3 (by omega) _
              · have x4 : E + 4 ≤ t.size := by omega
                have x5 : F ≤ E := by omega
                have x6 : 1 ≤ F := by omega
                have HO4 : Hid (O = if t.extract E (E + 4) = sum4 (t.extract 1 E) then tailO t (E + 4) else outC M0 0 8) := Lib.hid (by rw [HO3.out, if_neg h4, HE.out, Nat.add_sub_cancel])
                clear HO3 hE hF h4 HE
                have x7 : (E : Int) + 4 ≤ 20004 := by omega
                go_upto_region 12 with fail
                go_cut [8] (fun v8 wc => w3 = wc ∧ v8 = .int .i64 0)
                case first =>
                  go_wp2_with fail
                  go_meet
                  exact ⟨rfl, rfl⟩
                case rest =>
                obtain ⟨rfl, rfl⟩ := hcut
                rename_i hK
                refine hK _ _ ?_
                clear hK
                go_step
                have uz : (t.extract E (E + 4)).size = 4 := by simp only [ByteArray.size_extract]; omega
                go_cut [8] (fun v8 wc => ∃ wx : World, wx = wc ∧ v8 = .int .i64 (be (t.extract E (E + 4)) 4) ∧ Below w3.heap.size w3 wx)
                case first =>
                  have hcv := Lib.run_convert_string_bytes (P := Try.prog) w3 9 22 5 (t.extract E (E + 4)) Try.underlying9 Try.underlying22 Try.underlying5
                  go_wp2_with fail
                  have HC := Lib.hid (fun k (hk : k < 4) => (Lib.bytesWorld_cell w3 5 (t.extract E (E + 4)) k (by omega)).trans (by rw [bt_get _ k (by omega)]))
                  have bW := Lib.hid (below_bytes w3 5 (t.extract E (E + 4)))
                  have HU := Lib.hid uz
                  clear hcv uz
                  generalize t.extract E (E + 4) = u at *
                  generalize Lib.bytesWorld w3 5 u = w4 at *
                  generalize w3.heap.size = gb at *
                  go_loopw [8, 85] (fun v8 v85 wr => ∃ k : Nat, k ≤ 4 ∧ v85 = .int .i64 k ∧ v8 = .int .i64 (be u k) ∧ wr = w4) (fun _ v85 _ => 4 - (intOf v85).toNat)
                  case atStart => exact ⟨0, by omega, rfl, rfl, rfl⟩
                  case round =>
                    obtain ⟨k, hk, rfl, rfl, rfl⟩ := hrel
                    obtain ⟨e0, e1⟩ := be_range u k
                    obtain ⟨c0, c1⟩ := bt_range u k
                    have e2 : be u k < 4294967296 := be_small e1 hk
                    clear e1
                    by_cases h5 : k < 4
                    · have hcell := HC.out k h5
                      have b8 : decide ((k : Int) < 4) = true := decide_eq_true (by omega)
                      go_wp2_with fail
                      exact ⟨⟨k + 1, by omega, by go_num, by rw [or_add _ _ e0 e2 c0 c1]; rfl, trivial⟩, by simp [intOf]; omega⟩
                    · have b8 : decide ((k : Int) < 4) = false := decide_eq_false (by omega)
                      obtain rfl : k = 4 := by omega
                      go_wp2_with fail
                      go_meet
                      exact ⟨_, rfl, rfl, bW.out⟩
                case rest =>
                obtain ⟨w5, rfl, rfl, b5⟩ := hcut
                have HU := Lib.hid uz
                have H5 := Lib.hid (H3.out.keep b5)
                have BW5 := btrans BW3 b5
                clear H3 BW3 b5 uz
                rename_i hK
                refine hK _ _ ?_
                clear hK
                have bz : (t.extract 1 E).size ≤ 20000 := by simp only [ByteArray.size_extract]; omega
                go_wp2_with fail
                refine (c_MsgSum _ _ bz).mono ?_
                rintro e w6 ⟨rfl, b6⟩
                have H6 := Lib.hid (H5.out.keep b6)
                have BW6 := btrans BW5 b6
                clear H5 BW5 b6
                have hsame := sum_same HU.out bz
                by_cases he : t.extract E (E + 4) = sum4 (t.extract 1 E)
                · have b9 : (be (t.extract E (E + 4)) 4 != sumv (t.extract 1 E)) = false := by simp [hsame.mpr he]
                  have HO5 := Lib.hid (HO4.out.trans (if_pos he))
                  have HBC := Lib.hid (body_cut HXX.out HF.out HE2.out (by omega))
                  clear HO4 hsame he
                  go_wp2_with fail
                  refine (c_msgOf _ _ (by simp only [ByteArray.size_extract]; omega)).mono ?_
                  rintro e w7 ⟨⟨mk, mid, mseq, mg, mwa, mwe, mam, mun, mco, s⟩, ok2, rfl, hmo, b7⟩
                  rw [HBC.out] at hmo
                  have HM := Lib.hid (tail_MO (used := E + 4) (by omega) HN.out hmo)
                  have H7 := Lib.hid (H6.out.keep b7)
                  have BW7 := btrans BW6 b7
                  clear H6 BW6 b7 hmo HBC HXX HU bz b9
                  go_upto_region 21 with fail
                  have B8 : RB w7.heap.size #[.int .i64 mk, .int .i64 mid, .int .i64 mseq, .int .i64 mg, .int .i64 mwa, .int .i64 mwe, .int .i64 mam, .int .i64 mun, .int .i64 mco, .string s] (w7.alloc (.cells #[.int .i64 mk, .int .i64 mid, .int .i64 mseq, .int .i64 mg, .int .i64 mwa, .int .i64 mwe, .int .i64 mam, .int .i64 mun, .int .i64 mco, .string s] 28)) (w7.alloc (.cells #[.int .i64 mk, .int .i64 mid, .int .i64 mseq, .int .i64 mg, .int .i64 mwa, .int .i64 mwe, .int .i64 mam, .int .i64 mun, .int .i64 mco, .string s] 28)) := ⟨Blk.new (Nat.zero_le _) _ _, Below.refl _ _⟩
                  have H8 := Lib.hid (H7.out.keep ((Below.refl w7.heap.size w7).alloc (Nat.le_refl _) (.cells #[.int .i64 mk, .int .i64 mid, .int .i64 mseq, .int .i64 mg, .int .i64 mwa, .int .i64 mwe, .int .i64 mam, .int .i64 mun, .int .i64 mco, .string s] 28)))
                  have BW8 := btrans BW7 ((Below.refl w7.heap.size w7).alloc (Nat.le_refl _) (.cells #[.int .i64 mk, .int .i64 mid, .int .i64 mseq, .int .i64 mg, .int .i64 mwa, .int .i64 mwe, .int .i64 mam, .int .i64 mun, .int .i64 mco, .string s] 28))
                  clear H7 BW7
                  generalize w7.alloc (.cells #[.int .i64 mk, .int .i64 mid, .int .i64 mseq, .int .i64 mg, .int .i64 mwa, .int .i64 mwe, .int .i64 mam, .int .i64 mun, .int .i64 mco, .string s] 28) = w8 at *
                  generalize w7.heap.size = gm at *
                  have v0 : (0 : Int) ≤ (E : Int) := by omega
                  have v3 : (0 : Int) ≤ (E : Int) + 4 := by omega
                  have v4 : (E : Int) + 4 ≤ (t.size : Int) := by omega
                  have v6 : ((E : Int) + 4).toNat = E + 4 := by omega
                  have sw : IntKind.i64.wrap ((E : Int) + 4) = (E : Int) + 4 := by rw [IntKind.wrap_i64]; omega
                  go_cut [120] (fun v120 wc => ∃ (wx : World) (q : Bool), wx = wc ∧ v120 = .bool q ∧ Hid (q = true → O = outC M0 0 3) ∧ Hid (q = false → O = outC ⟨mk, mid, mseq, mg, mwa, mwe, mam, mun, mco, s⟩ ((E : Int) + 4) 0) ∧ RB gm #[.int .i64 mk, .int .i64 mid, .int .i64 mseq, .int .i64 mg, .int .i64 mwa, .int .i64 mwe, .int .i64 mam, .int .i64 mun, .int .i64 mco, .string s] w8 wx)
                  case first =>
                    cases ok2
                    · have HA := Lib.hid (HO5.out.trans (HM.out.1 rfl))
                      clear HM HO5
                      go_region
                      all_goals (go_wp2_with fail; go_meet)
                      all_goals (exact ⟨_, true, rfl, rfl, Lib.hid (fun _ => HA.out), Lib.hid (fun h => by cases h), B8.keep (below_drewN (Below.refl _ _) _)⟩)
                    · obtain ⟨hok, hne, heq⟩ := HM.out.2 rfl
                      have HA := Lib.hid (fun h => HO5.out.trans (hne h))
                      have HB := Lib.hid (fun h => (HO5.out.trans (heq h)).trans (by rw [show ((E + 4 : Nat) : Int) = (E : Int) + 4 by omega]))
                      have HC := Lib.hid (fun w => c_bytes_ok ⟨mk, mid, mseq, mg, mwa, mwe, mam, mun, mco, s⟩ hok w)
                      clear HM HO5 hok hne heq
                      go_region_held3 (fun w' => w'.cell? ⟨gm, 0, none⟩ = some (.int .i64 mk) ∧ w'.cell? ⟨gm, 1, none⟩ = some (.int .i64 mid) ∧ w'.cell? ⟨gm, 2, none⟩ = some (.int .i64 mseq) ∧ w'.cell? ⟨gm, 3, none⟩ = some (.int .i64 mg) ∧ w'.cell? ⟨gm, 4, none⟩ = some (.int .i64 mwa) ∧ w'.cell? ⟨gm, 5, none⟩ = some (.int .i64 mwe) ∧ w'.cell? ⟨gm, 6, none⟩ = some (.int .i64 mam) ∧ w'.cell? ⟨gm, 7, none⟩ = some (.int .i64 mun) ∧ w'.cell? ⟨gm, 8, none⟩ = some (.int .i64 mco) ∧ w'.cell? ⟨gm, 9, none⟩ = some (.string s) ∧ RB gm #[.int .i64 mk, .int .i64 mid, .int .i64 mseq, .int .i64 mg, .int .i64 mwa, .int .i64 mwe, .int .i64 mam, .int .i64 mun, .int .i64 mco, .string s] w8 w') (first | (with_reducible exact (B8.keep (Below.refl _ _).drew).all) | (with_reducible exact hB.all)) (first
                        | (go_at_call 58; refine (HC.out _).mono ?_; rintro e w' ⟨rfl, hb⟩; have hB := (RB.pick (by assumption)).keep hb)
                        | fail)
                      all_goals (go_wp2_with fail; go_meet)
                      all_goals (exact ⟨_, _, rfl, rfl, Lib.hid (fun h => HA.out (by rw [bl_eq] at h; simpa using h)), Lib.hid (fun h => HB.out (by rw [bl_eq] at h; simpa using h)), RB.pick (by assumption)⟩)
                  case rest =>
                    obtain ⟨w9, q, rfl, rfl, HA, HB, hRB⟩ := hcut
                    have H9 := Lib.hid (H8.out.keep hRB.bl)
                    have BW9 := btrans BW8 hRB.bl
                    have HMB := Lib.hid hRB.mb
                    clear H8 BW8 hRB B8 HM HO5 v0 v3 v4 v6 sw
                    cases q
                    · obtain rfl := HB.out rfl
                      go_wp2_with (first | ((with_reducible refine at_load (ty := 28) (x := .tmp 11) ?_); refine wpl_load_row rfl 28 (.tmp 11) rfl gm rfl HMB.out rfl (by kernel_rfl) hu2 rfl ?_) | ((with_reducible refine at_store (ty := 46) (y := .tmp 125) ?_); refine wpl_store_row rfl 46 (.tmp 2) (.tmp 125) rfl g _ rfl rfl H9.out rfl (by kernel_rfl) (by simp [Value.oneCell']) ?_; intro hout))
                      refine bodyPost_ret (v := .agg (outC ⟨mk, mid, mseq, mg, mwa, mwe, mam, mun, mco, s⟩ ((E : Int) + 4) 0)) (results_cell_row rfl _ _ _ _ _ _ _ rfl hout.2 hu rfl (by kernel_rfl)) rfl ⟨rfl, ?_⟩
                      exact below_setRow BW9 (by omega) _
                    · obtain rfl := HA.out rfl
                      go_wp2_with ((with_reducible refine at_store (ty := 46) (y := .tmp 121) ?_); refine wpl_store_row rfl 46 (.tmp 2) (.tmp 121) rfl g _ rfl rfl H9.out rfl (by kernel_rfl) (by simp [Value.oneCell']) ?_; intro hout)
                      refine bodyPost_ret (v := .agg (outC M0 0 3)) (results_cell_row rfl _ _ _ _ _ _ _ rfl hout.2 hu rfl (by kernel_rfl)) rfl ⟨rfl, ?_⟩
                      exact below_setRow BW9 (by omega) _
                · have b9 : (be (t.extract E (E + 4)) 4 != sumv (t.extract 1 E)) = true := by rw [bne_iff_ne]; exact fun h => he (hsame.mp h)
                  obtain rfl : O = outC M0 0 8 := HO4.out.trans (if_neg he)
                  clear HO4 hsame he
                  go_wp2_with ((with_reducible refine at_store (ty := 46) (y := .tmp 101) ?_); refine wpl_store_row rfl 46 (.tmp 2) (.tmp 101) rfl g _ rfl rfl H6.out rfl (by kernel_rfl) (by simp [Value.oneCell']) ?_; intro hout)
                  refine bodyPost_ret (v := .agg (outC M0 0 8)) (results_cell_row rfl _ _ _ _ _ _ _ rfl hout.2 hu rfl (by kernel_rfl)) rfl ⟨rfl, ?_⟩
                  exact below_setRow BW6 (by omega) _
        · obtain rfl : O = outC M0 0 3 := HA.out rfl
          go_wp2_with ((with_reducible refine at_store (ty := 46) (y := .tmp 64) ?_); refine wpl_store_row rfl 46 (.tmp 2) (.tmp 64) rfl g _ rfl rfl H2.out rfl (by kernel_rfl) (by simp [Value.oneCell']) ?_; intro hout)
          refine bodyPost_ret (v := .agg (outC M0 0 3)) (results_cell_row rfl _ _ _ _ _ _ _ rfl hout.2 hu rfl (by kernel_rfl)) rfl ⟨rfl, ?_⟩
          exact below_setRow BW2 (by omega) _
theorem c_msgRead (t : ByteArray) (w : World) (ht : t.size ≤ 20000) : Calls Try.prog 59 #[.string t] w fun e w' => e = .returned (.agg (outF t)) ∧ Below w.heap.size w w' := by
  by_cases h1 : t.size = 0 ∨ bt t 0 ≠ 87
  · rw [outF, if_pos h1]
    exact c_read_none t w ht h1
  · have h2 : t.size ≠ 0 := fun h => h1 (.inl h)
    have h3 : bt t 0 = 87 := Decidable.byContradiction fun h => h1 (.inr h)
    by_cases h4 : t.size = 1 ∨ (t.size = 2 ∧ 128 ≤ bt t 1)
    · rw [outF, if_neg h1, if_pos h4]
      exact c_read_short t w ht h2 h3 h4
    · exact c_read_head t w ht h2 h3 h4
end Go.Proofs.Ytddemmmbbleofaa.C
