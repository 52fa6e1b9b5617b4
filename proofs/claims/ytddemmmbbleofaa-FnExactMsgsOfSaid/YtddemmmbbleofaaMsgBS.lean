/- MsgBytes of the reference: the same text. No condition. -/
import Derived.Test.YtddemmmbbleofaaMsgB
namespace Go.Proofs.Ytddemmmbbleofaa.C
open Go.RowKit
set_option maxRecDepth 100000
set_option linter.unusedVariables false
set_option maxHeartbeats 4000000 in
theorem s_MsgBytes (k id seq g wa we am un co : Int) (s : ByteArray) (w : World) (hs : s.size ≤ 9223372036854775807) :
    Calls Try.prog 24 #[.agg #[.int .i64 k, .int .i64 id, .int .i64 seq, .int .i64 g, .int .i64 wa, .int .i64 we, .int .i64 am, .int .i64 un, .int .i64 co, .string s]] w fun e w' => e = .returned (.string (mtextR k id seq g wa we am un co s)) ∧ Below w.heap.size w w' := by
  have hu41 := Try.underlying28
  have M0 := MS.new k id seq g wa we am un co s w 28
  go_enter Try.func24, Try.ntmps24
  go_wp2_with fail
  refine (s_MsgRight _ _ _ _ _ _ _ _ _ _ _ hs).mono ?_
  rintro e w1 ⟨rfl, h1⟩
  have M1 := M0.keep h1
  rcases Bool.eq_false_or_eq_true (msgB k id seq g wa we am un co s.size) with hm | hm
  · obtain ⟨k0, sz, ⟨id0, id1⟩, ⟨q0, q1⟩, ⟨g0, g1⟩, ⟨wa0, wa1⟩, ⟨we0, we1⟩, ⟨am0, am1⟩, ⟨un0, un1⟩, co0, co1⟩ := msgB_bounds hm
    have HM : Hid (mtextR k id seq g wa we am un co s = mtext k id seq g wa we am un co s) := Lib.hid (by rw [mtextR, hm]; rfl)
    have hmm := hm
    go_upto_region 3 with fail
    clear hm hmm h1 M0
    have HK := Lib.hid k0
    have k1 : 0 ≤ k := by omega
    have k9 : k ≤ 3 := by omega
    clear k0
    have n1 := nb_size k
    have n2 := nb_size id
    have n3 := nb_size seq
    have p1 : ((nb k).size + (nb id).size ≤ 9223372036854775807) = True := eq_true (by omega)
    have p3 : (9223372036854775807 < (nb k).size + (nb id).size) = False := eq_false (by omega)
    have p5 : ((nb k).size + (nb id).size + (nb seq).size ≤ 9223372036854775807) = True := eq_true (by omega)
    have p6 : (9223372036854775807 < (nb k).size + (nb id).size + (nb seq).size) = False := eq_false (by omega)
    have l0 := M1.f0
    have l1 := M1.f1
    have l2 := M1.f2
    go_cut [3] (fun v3 wc => v3 = .string (nb k ++ nb id ++ nb seq) ∧ MS w.heap.size k id seq g wa we am un co s w wc)
    case first =>
      go_region_held3 (fun w' => w'.cell? ⟨w.heap.size, 0, none⟩ = some (.int .i64 k) ∧ w'.cell? ⟨w.heap.size, 1, none⟩ = some (.int .i64 id) ∧ w'.cell? ⟨w.heap.size, 2, none⟩ = some (.int .i64 seq) ∧ MS w.heap.size k id seq g wa we am un co s w w')
        (first | exact ⟨hB.f0, hB.f1, hB.f2, hB⟩ | exact ⟨(M1.keep (Below.refl _ _).drew).f0, (M1.keep (Below.refl _ _).drew).f1, (M1.keep (Below.refl _ _).drew).f2, (M1.keep (Below.refl _ _).drew)⟩)
        (first | (go_at_call 62; refine (s_NumBytes _ _ (by omega) (by omega)).mono ?_; rintro e w' ⟨rfl, hb⟩; rename_i hH _ _; have hB := hH.2.2.2.keep hb))
      all_goals (go_wp2_with fail; go_meet; exact ⟨rfl, by assumption⟩)
    case rest =>
      obtain ⟨rfl, M1⟩ := hcut
      clear p1 p3 p5 p6 l0 l1 l2
      have H3 := Lib.hid (show (nb k ++ nb id ++ nb seq).size ≤ 30 from by rw [ByteArray.size_append, ByteArray.size_append]; omega)
      clear n1 n2 n3
      obtain ⟨t1, ht1⟩ : ∃ t1, t1 = nb k ++ nb id ++ nb seq := ⟨_, rfl⟩
      rw [← ht1] at H3
      rw [← ht1]
      have HT1 := Lib.hid ht1
      clear ht1
      have t1z := H3.out
      have l0 := M1.f0
      rcases HK.out with rfl | rfl | rfl
      · have q1' := nb_size g
        have q2' := nb_size wa
        have q3' := nb_size we
        have p1 : (t1.size + (nb g).size ≤ 9223372036854775807) = True := eq_true (by omega)
        have p2 : (9223372036854775807 < t1.size + (nb g).size) = False := eq_false (by omega)
        have p3 : (t1.size + (nb g).size + (nb wa).size ≤ 9223372036854775807) = True := eq_true (by omega)
        have p4 : (9223372036854775807 < t1.size + (nb g).size + (nb wa).size) = False := eq_false (by omega)
        have p5 : (t1.size + (nb g).size + (nb wa).size + (nb we).size ≤ 9223372036854775807) = True := eq_true (by omega)
        have p6 : (9223372036854775807 < t1.size + (nb g).size + (nb wa).size + (nb we).size) = False := eq_false (by omega)
        have l3 := M1.f3
        have l4 := M1.f4
        have l5 := M1.f5
        go_upto_region 6 with fail
        go_region_held3 (fun w' => w'.cell? ⟨w.heap.size, 3, none⟩ = some (.int .i64 g) ∧ w'.cell? ⟨w.heap.size, 4, none⟩ = some (.int .i64 wa) ∧ w'.cell? ⟨w.heap.size, 5, none⟩ = some (.int .i64 we) ∧ MS w.heap.size 1 id seq g wa we am un co s w w')
          (first | exact ⟨hB.f3, hB.f4, hB.f5, hB⟩ | exact ⟨(M1.keep (Below.refl _ _).drew).f3, (M1.keep (Below.refl _ _).drew).f4, (M1.keep (Below.refl _ _).drew).f5, M1.keep (Below.refl _ _).drew⟩)
          (first | (go_at_call 62; refine (s_NumBytes _ _ (by omega) (by omega)).mono ?_; rintro e w' ⟨rfl, hb⟩; rename_i hH _ _; have hB := hH.2.2.2.keep hb))
        have M2 := hB
        clear p1 p2 p3 p4 p5 p6 q1' q2' q3' l0 l3 l4 l5
        obtain ⟨t2, ht2⟩ : ∃ t2, t2 = t1 ++ nb g ++ nb wa ++ nb we := ⟨_, rfl⟩
        have Z : t2.size ≤ 60 := by rw [ht2]; exact mb_size 1 (am := nb 0) (un := nb 0) (co := nb 0) H3.out (nb_size g) (nb_size wa) (nb_size we) (nb_size 0) (nb_size 0) (nb_size 0)
        rw [← ht2]
        have HT2 : Hid (t2 = mb 1 t1 (nb g) (nb wa) (nb we) (nb am) (nb un) (nb co)) := Lib.hid ht2
        clear ht2
        have l9 := M2.f9
        have z9 := nb_size s.size
        have p1 : (t2.size + (nb s.size).size ≤ 9223372036854775807) = True := eq_true (by omega)
        have p2 : (9223372036854775807 < t2.size + (nb s.size).size) = False := eq_false (by omega)
        have p3 : (t2.size + (nb s.size).size + s.size ≤ 9223372036854775807) = True := eq_true (by omega)
        have p4 : (9223372036854775807 < t2.size + (nb s.size).size + s.size) = False := eq_false (by omega)
        go_upto_region 9 with fail
        go_cut [3] (fun v3 wc3 => v3 = .string (t2 ++ nb s.size ++ s) ∧ MS w.heap.size 1 id seq g wa we am un co s w wc3)
        case first =>
          go_region_held3 (fun w' => w'.cell? ⟨w.heap.size, 9, none⟩ = some (.string s) ∧ MS w.heap.size 1 id seq g wa we am un co s w w')
            (first | exact ⟨hB.f9, hB⟩ | exact ⟨(M2.keep (Below.refl _ _).drew).f9, M2.keep (Below.refl _ _).drew⟩)
            (first | (go_at_call 62; refine (s_NumBytes _ _ (by omega) (by omega)).mono ?_; rintro e w' ⟨rfl, hb⟩; rename_i hH _ _; have hB := hH.2.keep hb))
          all_goals (go_wp2_with fail; go_meet; exact ⟨rfl, by assumption⟩)
        case rest =>
          obtain ⟨rfl, M3⟩ := hcut
          clear p1 p2 p3 p4 l9 M2
          obtain ⟨t3, ht3⟩ : ∃ t3, t3 = t2 ++ nb s.size ++ s := ⟨_, rfl⟩
          have z3 : t3.size ≤ 110 := by rw [ht3]; simp only [ByteArray.size_append]; omega
          rw [← ht3]
          have HT3 : Hid (t3 = t2 ++ (nb s.size ++ s)) := Lib.hid (ht3.trans (ByteArray.append_assoc ..))
          clear ht3
          have z4 := nb_size t3.size
          have p1 : ((nb t3.size).size + t3.size ≤ 9223372036854775807) = True := eq_true (by omega)
          have p2 : (9223372036854775807 < (nb t3.size).size + t3.size) = False := eq_false (by omega)
          go_wp2_with fail
          refine (s_NumBytes _ _ (by omega) (by omega)).mono ?_
          rintro e w4 ⟨rfl, b4⟩
          have M4 := M3.keep b4
          go_wp2_with fail
          refine (s_l11Sum _ _ (by rw [ByteArray.size_append]; omega)).mono ?_
          rintro e w5 ⟨rfl, b5⟩
          have M5 := M4.keep b5
          have hcv := fun a b c d => conv4 w5 a b c d
          have z5 : (nb t3.size ++ t3).size ≤ 120 := by rw [ByteArray.size_append]; omega
          have s1 := sumv_is (nb t3.size ++ t3) (by omega)
          have h4 := so4
          have p3 : (9223372036854775807 < 1 + ((nb t3.size).size + t3.size) + 4) = False := eq_false (by omega)
          have p4 : (1 + ((nb t3.size).size + t3.size) + 4 ≤ 9223372036854775807) = True := eq_true (by omega)
          go_wp2
          go_ret
          exact ⟨by rw [HM.out, mtext, ← HT1.out, ← HT2.out, ← HT3.out]; rfl, (M5.bel).alloc (M5.bel.size) _⟩
      · have M2 := M1
        obtain ⟨t2, ht2⟩ : ∃ t2, t2 = t1 := ⟨_, rfl⟩
        have Z : t2.size ≤ 60 := by rw [ht2]; omega
        have HT2 : Hid (t2 = mb 2 t1 (nb g) (nb wa) (nb we) (nb am) (nb un) (nb co)) := Lib.hid ht2
        rw [← ht2]
        clear ht2
        have l9 := M2.f9
        have z9 := nb_size s.size
        have p1 : (t2.size + (nb s.size).size ≤ 9223372036854775807) = True := eq_true (by omega)
        have p2 : (9223372036854775807 < t2.size + (nb s.size).size) = False := eq_false (by omega)
        have p3 : (t2.size + (nb s.size).size + s.size ≤ 9223372036854775807) = True := eq_true (by omega)
        have p4 : (9223372036854775807 < t2.size + (nb s.size).size + s.size) = False := eq_false (by omega)
        go_upto_region 9 with fail
        go_cut [3] (fun v3 wc3 => v3 = .string (t2 ++ nb s.size ++ s) ∧ MS w.heap.size 2 id seq g wa we am un co s w wc3)
        case first =>
          go_region_held3 (fun w' => w'.cell? ⟨w.heap.size, 9, none⟩ = some (.string s) ∧ MS w.heap.size 2 id seq g wa we am un co s w w')
            (first | exact ⟨hB.f9, hB⟩ | exact ⟨(M2.keep (Below.refl _ _).drew).f9, M2.keep (Below.refl _ _).drew⟩)
            (first | (go_at_call 62; refine (s_NumBytes _ _ (by omega) (by omega)).mono ?_; rintro e w' ⟨rfl, hb⟩; rename_i hH _ _; have hB := hH.2.keep hb))
          all_goals (go_wp2_with fail; go_meet; exact ⟨rfl, by assumption⟩)
        case rest =>
          obtain ⟨rfl, M3⟩ := hcut
          clear p1 p2 p3 p4 l9 M2
          obtain ⟨t3, ht3⟩ : ∃ t3, t3 = t2 ++ nb s.size ++ s := ⟨_, rfl⟩
          have z3 : t3.size ≤ 110 := by rw [ht3]; simp only [ByteArray.size_append]; omega
          rw [← ht3]
          have HT3 : Hid (t3 = t2 ++ (nb s.size ++ s)) := Lib.hid (ht3.trans (ByteArray.append_assoc ..))
          clear ht3
          have z4 := nb_size t3.size
          have p1 : ((nb t3.size).size + t3.size ≤ 9223372036854775807) = True := eq_true (by omega)
          have p2 : (9223372036854775807 < (nb t3.size).size + t3.size) = False := eq_false (by omega)
          go_wp2_with fail
          refine (s_NumBytes _ _ (by omega) (by omega)).mono ?_
          rintro e w4 ⟨rfl, b4⟩
          have M4 := M3.keep b4
          go_wp2_with fail
          refine (s_l11Sum _ _ (by rw [ByteArray.size_append]; omega)).mono ?_
          rintro e w5 ⟨rfl, b5⟩
          have M5 := M4.keep b5
          have hcv := fun a b c d => conv4 w5 a b c d
          have z5 : (nb t3.size ++ t3).size ≤ 120 := by rw [ByteArray.size_append]; omega
          have s1 := sumv_is (nb t3.size ++ t3) (by omega)
          have h4 := so4
          have p3 : (9223372036854775807 < 1 + ((nb t3.size).size + t3.size) + 4) = False := eq_false (by omega)
          have p4 : (1 + ((nb t3.size).size + t3.size) + 4 ≤ 9223372036854775807) = True := eq_true (by omega)
          go_wp2
          go_ret
          exact ⟨by rw [HM.out, mtext, ← HT1.out, ← HT2.out, ← HT3.out]; rfl, (M5.bel).alloc (M5.bel.size) _⟩
      · have q1' := nb_size am
        have q2' := nb_size un
        have q3' := nb_size co
        have p1 : (t1.size + (nb am).size ≤ 9223372036854775807) = True := eq_true (by omega)
        have p2 : (9223372036854775807 < t1.size + (nb am).size) = False := eq_false (by omega)
        have p3 : (t1.size + (nb am).size + (nb un).size ≤ 9223372036854775807) = True := eq_true (by omega)
        have p4 : (9223372036854775807 < t1.size + (nb am).size + (nb un).size) = False := eq_false (by omega)
        have p5 : (t1.size + (nb am).size + (nb un).size + (nb co).size ≤ 9223372036854775807) = True := eq_true (by omega)
        have p6 : (9223372036854775807 < t1.size + (nb am).size + (nb un).size + (nb co).size) = False := eq_false (by omega)
        have l3 := M1.f6
        have l4 := M1.f7
        have l5 := M1.f8
        go_upto_region 8 with fail
        go_region_held3 (fun w' => w'.cell? ⟨w.heap.size, 6, none⟩ = some (.int .i64 am) ∧ w'.cell? ⟨w.heap.size, 7, none⟩ = some (.int .i64 un) ∧ w'.cell? ⟨w.heap.size, 8, none⟩ = some (.int .i64 co) ∧ MS w.heap.size 3 id seq g wa we am un co s w w')
          (first | exact ⟨hB.f6, hB.f7, hB.f8, hB⟩ | exact ⟨(M1.keep (Below.refl _ _).drew).f6, (M1.keep (Below.refl _ _).drew).f7, (M1.keep (Below.refl _ _).drew).f8, M1.keep (Below.refl _ _).drew⟩)
          (first | (go_at_call 62; refine (s_NumBytes _ _ (by omega) (by omega)).mono ?_; rintro e w' ⟨rfl, hb⟩; rename_i hH _ _; have hB := hH.2.2.2.keep hb))
        have M2 := hB
        clear p1 p2 p3 p4 p5 p6 q1' q2' q3' l0 l3 l4 l5
        obtain ⟨t2, ht2⟩ : ∃ t2, t2 = t1 ++ nb am ++ nb un ++ nb co := ⟨_, rfl⟩
        have Z : t2.size ≤ 60 := by rw [ht2]; exact mb_size 1 (am := nb 0) (un := nb 0) (co := nb 0) H3.out (nb_size am) (nb_size un) (nb_size co) (nb_size 0) (nb_size 0) (nb_size 0)
        rw [← ht2]
        have HT2 : Hid (t2 = mb 3 t1 (nb g) (nb wa) (nb we) (nb am) (nb un) (nb co)) := Lib.hid ht2
        clear ht2
        have l9 := M2.f9
        have z9 := nb_size s.size
        have p1 : (t2.size + (nb s.size).size ≤ 9223372036854775807) = True := eq_true (by omega)
        have p2 : (9223372036854775807 < t2.size + (nb s.size).size) = False := eq_false (by omega)
        have p3 : (t2.size + (nb s.size).size + s.size ≤ 9223372036854775807) = True := eq_true (by omega)
        have p4 : (9223372036854775807 < t2.size + (nb s.size).size + s.size) = False := eq_false (by omega)
        go_upto_region 9 with fail
        go_cut [3] (fun v3 wc3 => v3 = .string (t2 ++ nb s.size ++ s) ∧ MS w.heap.size 3 id seq g wa we am un co s w wc3)
        case first =>
          go_region_held3 (fun w' => w'.cell? ⟨w.heap.size, 9, none⟩ = some (.string s) ∧ MS w.heap.size 3 id seq g wa we am un co s w w')
            (first | exact ⟨hB.f9, hB⟩ | exact ⟨(M2.keep (Below.refl _ _).drew).f9, M2.keep (Below.refl _ _).drew⟩)
            (first | (go_at_call 62; refine (s_NumBytes _ _ (by omega) (by omega)).mono ?_; rintro e w' ⟨rfl, hb⟩; rename_i hH _ _; have hB := hH.2.keep hb))
          all_goals (go_wp2_with fail; go_meet; exact ⟨rfl, by assumption⟩)
        case rest =>
          obtain ⟨rfl, M3⟩ := hcut
          clear p1 p2 p3 p4 l9 M2
          obtain ⟨t3, ht3⟩ : ∃ t3, t3 = t2 ++ nb s.size ++ s := ⟨_, rfl⟩
          have z3 : t3.size ≤ 110 := by rw [ht3]; simp only [ByteArray.size_append]; omega
          rw [← ht3]
          have HT3 : Hid (t3 = t2 ++ (nb s.size ++ s)) := Lib.hid (ht3.trans (ByteArray.append_assoc ..))
          clear ht3
          have z4 := nb_size t3.size
          have p1 : ((nb t3.size).size + t3.size ≤ 9223372036854775807) = True := eq_true (by omega)
          have p2 : (9223372036854775807 < (nb t3.size).size + t3.size) = False := eq_false (by omega)
          go_wp2_with fail
          refine (s_NumBytes _ _ (by omega) (by omega)).mono ?_
          rintro e w4 ⟨rfl, b4⟩
          have M4 := M3.keep b4
          go_wp2_with fail
          refine (s_l11Sum _ _ (by rw [ByteArray.size_append]; omega)).mono ?_
          rintro e w5 ⟨rfl, b5⟩
          have M5 := M4.keep b5
          have hcv := fun a b c d => conv4 w5 a b c d
          have z5 : (nb t3.size ++ t3).size ≤ 120 := by rw [ByteArray.size_append]; omega
          have s1 := sumv_is (nb t3.size ++ t3) (by omega)
          have h4 := so4
          have p3 : (9223372036854775807 < 1 + ((nb t3.size).size + t3.size) + 4) = False := eq_false (by omega)
          have p4 : (1 + ((nb t3.size).size + t3.size) + 4 ≤ 9223372036854775807) = True := eq_true (by omega)
          go_wp2
          go_ret
          exact ⟨by rw [HM.out, mtext, ← HT1.out, ← HT2.out, ← HT3.out]; rfl, (M5.bel).alloc (M5.bel.size) _⟩
  · have HM : Hid (mtextR k id seq g wa we am un co s = ⟨#[]⟩) := Lib.hid (by rw [mtextR, hm]; rfl)
    go_wp2
    go_ret
    exact ⟨by rw [HM.out]; rfl, M1.bel⟩
end Go.Proofs.Ytddemmmbbleofaa.C
