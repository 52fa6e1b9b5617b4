/- MsgRight of the program: it answers msgB. No condition. -/
import Derived.Test.YtddemmmbbleofaaMsg
namespace Go.Proofs.Ytddemmmbbleofaa.C
open Go.RowKit
set_option maxRecDepth 100000
set_option maxHeartbeats 8000000 in
theorem c_MsgRight (k id seq g wa we am un co : Int) (s : ByteArray) (w : World) (hs : s.size ≤ 9223372036854775807) :
    Calls Try.prog 14 #[.agg #[.int .i64 k, .int .i64 id, .int .i64 seq, .int .i64 g, .int .i64 wa, .int .i64 we, .int .i64 am, .int .i64 un, .int .i64 co, .string s]] w fun e w' => e = .returned (.bool (msgB k id seq g wa we am un co s.size)) ∧ Below w.heap.size w w' := by
  have hu41 := Try.underlying28
  by_cases hN : s.size ≤ 40
  · have hN' : decide ((40 : Int) < s.size) = false := decide_eq_false (by omega)
    by_cases k1 : k = 1
    · subst k1
      have hk : bIn 1 1 3 = true := rfl
      by_cases hI : bIn id 1 1000000 = true ∧ bIn seq 0 1000000 = true
      · obtain ⟨hI, hS⟩ := hI
        go_enter Try.func14, Try.ntmps14
        go_wp2_with (first | (go_at_call 50; refine (c_in _ _ _ _).mono ?_; rintro e w' ⟨rfl, rfl⟩) | (go_at_call 51; refine (c_isId _ _).mono ?_; rintro e w' ⟨rfl, rfl⟩) | (go_at_call 53; refine (c_isWant _ _).mono ?_; rintro e w' ⟨rfl, rfl⟩) | (go_at_call 54; refine (c_isWeight _ _).mono ?_; rintro e w' ⟨rfl, rfl⟩) | (go_at_call 47; refine (c_isTime _ _).mono ?_; rintro e w' ⟨rfl, rfl⟩) | (go_at_call 52; refine (own_get _ _ (by simp)).mono ?_; rintro e w' ⟨rfl, rfl⟩))
        refine wp_loop_rounds 4 ?_
        rw [rounds_succ]
        go_wp2
        rw [rounds_succ]
        go_wp2
        rw [rounds_succ]
        go_wp2
        rw [rounds_succ]
        go_wp2_with (first | (go_at_call 50; refine (c_in _ _ _ _).mono ?_; rintro e w' ⟨rfl, rfl⟩) | (go_at_call 51; refine (c_isId _ _).mono ?_; rintro e w' ⟨rfl, rfl⟩) | (go_at_call 53; refine (c_isWant _ _).mono ?_; rintro e w' ⟨rfl, rfl⟩) | (go_at_call 54; refine (c_isWeight _ _).mono ?_; rintro e w' ⟨rfl, rfl⟩) | (go_at_call 47; refine (c_isTime _ _).mono ?_; rintro e w' ⟨rfl, rfl⟩))
        all_goals go_ret
        all_goals (refine ⟨ret_bool ?_, ?_⟩; (case refine_2 => (repeat (first | exact Below.refl _ _ | apply Below.drew | refine Below.alloc ?_ (by first | (simp; done) | (simp; omega)) _ | refine Below.setCell ?_ (by first | (simp; done) | (simp; omega)) _))))
        all_goals (simp [msgB, *])
      · have hm : msgB 1 id seq g wa we am un co s.size = false := by
          unfold msgB
          cases hA : bIn id 1 1000000 <;> cases hB : bIn seq 0 1000000 <;> simp_all
        have HM := Lib.hid hm
        clear hm
        have hI' : bIn id 1 1000000 = true → bIn seq 0 1000000 = false := fun h => by simpa [h] using hI
        clear hI
        cases hA : bIn id 1 1000000
        · go_enter Try.func14, Try.ntmps14
          go_wp2_with (first | (go_at_call 50; refine (c_in _ _ _ _).mono ?_; rintro e w' ⟨rfl, rfl⟩) | (go_at_call 51; refine (c_isId _ _).mono ?_; rintro e w' ⟨rfl, rfl⟩) | (go_at_call 53; refine (c_isWant _ _).mono ?_; rintro e w' ⟨rfl, rfl⟩) | (go_at_call 54; refine (c_isWeight _ _).mono ?_; rintro e w' ⟨rfl, rfl⟩) | (go_at_call 47; refine (c_isTime _ _).mono ?_; rintro e w' ⟨rfl, rfl⟩))
          all_goals go_ret
          all_goals exact ⟨ret_bool HM.out.symm, (Below.refl _ _).alloc (Nat.le_refl _) _⟩
        · have hB := hI' hA
          clear hI'
          go_enter Try.func14, Try.ntmps14
          go_wp2_with (first | (go_at_call 50; refine (c_in _ _ _ _).mono ?_; rintro e w' ⟨rfl, rfl⟩) | (go_at_call 51; refine (c_isId _ _).mono ?_; rintro e w' ⟨rfl, rfl⟩) | (go_at_call 53; refine (c_isWant _ _).mono ?_; rintro e w' ⟨rfl, rfl⟩) | (go_at_call 54; refine (c_isWeight _ _).mono ?_; rintro e w' ⟨rfl, rfl⟩) | (go_at_call 47; refine (c_isTime _ _).mono ?_; rintro e w' ⟨rfl, rfl⟩))
          all_goals go_ret
          all_goals exact ⟨ret_bool HM.out.symm, (Below.refl _ _).alloc (Nat.le_refl _) _⟩
    · by_cases k2 : k = 2
      · subst k2
        have hk : bIn 2 1 3 = true := rfl
        by_cases hI : bIn id 1 1000000 = true ∧ bIn seq 0 1000000 = true
        · obtain ⟨hI, hS⟩ := hI
          go_enter Try.func14, Try.ntmps14
          go_wp2_with (first | (go_at_call 50; refine (c_in _ _ _ _).mono ?_; rintro e w' ⟨rfl, rfl⟩) | (go_at_call 51; refine (c_isId _ _).mono ?_; rintro e w' ⟨rfl, rfl⟩) | (go_at_call 53; refine (c_isWant _ _).mono ?_; rintro e w' ⟨rfl, rfl⟩) | (go_at_call 54; refine (c_isWeight _ _).mono ?_; rintro e w' ⟨rfl, rfl⟩) | (go_at_call 47; refine (c_isTime _ _).mono ?_; rintro e w' ⟨rfl, rfl⟩) | (go_at_call 52; refine (own_rel _ 2 _ (by simp) (by decide) (by decide)).mono ?_; rintro e w' ⟨rfl, rfl⟩))
          refine wp_loop_rounds 1 ?_
          rw [rounds_succ]
          go_wp2_with (first | (go_at_call 50; refine (c_in _ _ _ _).mono ?_; rintro e w' ⟨rfl, rfl⟩) | (go_at_call 51; refine (c_isId _ _).mono ?_; rintro e w' ⟨rfl, rfl⟩) | (go_at_call 53; refine (c_isWant _ _).mono ?_; rintro e w' ⟨rfl, rfl⟩) | (go_at_call 54; refine (c_isWeight _ _).mono ?_; rintro e w' ⟨rfl, rfl⟩) | (go_at_call 47; refine (c_isTime _ _).mono ?_; rintro e w' ⟨rfl, rfl⟩))
          all_goals go_ret
          all_goals (refine ⟨ret_bool ?_, ?_⟩; (case refine_2 => (repeat (first | exact Below.refl _ _ | apply Below.drew | refine Below.alloc ?_ (by first | (simp; done) | (simp; omega)) _ | refine Below.setCell ?_ (by first | (simp; done) | (simp; omega)) _))))
          all_goals (simp [msgB, *])
        · have hm : msgB 2 id seq g wa we am un co s.size = false := by
            unfold msgB
            cases hA : bIn id 1 1000000 <;> cases hB : bIn seq 0 1000000 <;> simp_all
          have HM := Lib.hid hm
          clear hm
          have hI' : bIn id 1 1000000 = true → bIn seq 0 1000000 = false := fun h => by simpa [h] using hI
          clear hI
          cases hA : bIn id 1 1000000
          · go_enter Try.func14, Try.ntmps14
            go_wp2_with (first | (go_at_call 50; refine (c_in _ _ _ _).mono ?_; rintro e w' ⟨rfl, rfl⟩) | (go_at_call 51; refine (c_isId _ _).mono ?_; rintro e w' ⟨rfl, rfl⟩) | (go_at_call 53; refine (c_isWant _ _).mono ?_; rintro e w' ⟨rfl, rfl⟩) | (go_at_call 54; refine (c_isWeight _ _).mono ?_; rintro e w' ⟨rfl, rfl⟩) | (go_at_call 47; refine (c_isTime _ _).mono ?_; rintro e w' ⟨rfl, rfl⟩))
            all_goals go_ret
            all_goals exact ⟨ret_bool HM.out.symm, (Below.refl _ _).alloc (Nat.le_refl _) _⟩
          · have hB := hI' hA
            clear hI'
            go_enter Try.func14, Try.ntmps14
            go_wp2_with (first | (go_at_call 50; refine (c_in _ _ _ _).mono ?_; rintro e w' ⟨rfl, rfl⟩) | (go_at_call 51; refine (c_isId _ _).mono ?_; rintro e w' ⟨rfl, rfl⟩) | (go_at_call 53; refine (c_isWant _ _).mono ?_; rintro e w' ⟨rfl, rfl⟩) | (go_at_call 54; refine (c_isWeight _ _).mono ?_; rintro e w' ⟨rfl, rfl⟩) | (go_at_call 47; refine (c_isTime _ _).mono ?_; rintro e w' ⟨rfl, rfl⟩))
            all_goals go_ret
            all_goals exact ⟨ret_bool HM.out.symm, (Below.refl _ _).alloc (Nat.le_refl _) _⟩
      · by_cases k3 : k = 3
        · subst k3
          have hk : bIn 3 1 3 = true := rfl
          by_cases hI : bIn id 1 1000000 = true ∧ bIn seq 0 1000000 = true
          · obtain ⟨hI, hS⟩ := hI
            go_enter Try.func14, Try.ntmps14
            go_wp2_with (first | (go_at_call 50; refine (c_in _ _ _ _).mono ?_; rintro e w' ⟨rfl, rfl⟩) | (go_at_call 51; refine (c_isId _ _).mono ?_; rintro e w' ⟨rfl, rfl⟩) | (go_at_call 53; refine (c_isWant _ _).mono ?_; rintro e w' ⟨rfl, rfl⟩) | (go_at_call 54; refine (c_isWeight _ _).mono ?_; rintro e w' ⟨rfl, rfl⟩) | (go_at_call 47; refine (c_isTime _ _).mono ?_; rintro e w' ⟨rfl, rfl⟩) | (go_at_call 52; refine (own_answer _ _ (by simp)).mono ?_; rintro e w' ⟨rfl, rfl⟩))
            refine wp_loop_rounds 4 ?_
            rw [rounds_succ]
            go_wp2
            rw [rounds_succ]
            go_wp2
            rw [rounds_succ]
            go_wp2
            rw [rounds_succ]
            go_wp2_with (first | (go_at_call 50; refine (c_in _ _ _ _).mono ?_; rintro e w' ⟨rfl, rfl⟩) | (go_at_call 51; refine (c_isId _ _).mono ?_; rintro e w' ⟨rfl, rfl⟩) | (go_at_call 53; refine (c_isWant _ _).mono ?_; rintro e w' ⟨rfl, rfl⟩) | (go_at_call 54; refine (c_isWeight _ _).mono ?_; rintro e w' ⟨rfl, rfl⟩) | (go_at_call 47; refine (c_isTime _ _).mono ?_; rintro e w' ⟨rfl, rfl⟩))
            all_goals go_ret
            all_goals (refine ⟨ret_bool ?_, ?_⟩; (case refine_2 => (repeat (first | exact Below.refl _ _ | apply Below.drew | refine Below.alloc ?_ (by first | (simp; done) | (simp; omega)) _ | refine Below.setCell ?_ (by first | (simp; done) | (simp; omega)) _))))
            all_goals (simp [msgB, *])
          · have hm : msgB 3 id seq g wa we am un co s.size = false := by
              unfold msgB
              cases hA : bIn id 1 1000000 <;> cases hB : bIn seq 0 1000000 <;> simp_all
            have HM := Lib.hid hm
            clear hm
            have hI' : bIn id 1 1000000 = true → bIn seq 0 1000000 = false := fun h => by simpa [h] using hI
            clear hI
            cases hA : bIn id 1 1000000
            · go_enter Try.func14, Try.ntmps14
              go_wp2_with (first | (go_at_call 50; refine (c_in _ _ _ _).mono ?_; rintro e w' ⟨rfl, rfl⟩) | (go_at_call 51; refine (c_isId _ _).mono ?_; rintro e w' ⟨rfl, rfl⟩) | (go_at_call 53; refine (c_isWant _ _).mono ?_; rintro e w' ⟨rfl, rfl⟩) | (go_at_call 54; refine (c_isWeight _ _).mono ?_; rintro e w' ⟨rfl, rfl⟩) | (go_at_call 47; refine (c_isTime _ _).mono ?_; rintro e w' ⟨rfl, rfl⟩))
              all_goals go_ret
              all_goals exact ⟨ret_bool HM.out.symm, (Below.refl _ _).alloc (Nat.le_refl _) _⟩
            · have hB := hI' hA
              clear hI'
              go_enter Try.func14, Try.ntmps14
              go_wp2_with (first | (go_at_call 50; refine (c_in _ _ _ _).mono ?_; rintro e w' ⟨rfl, rfl⟩) | (go_at_call 51; refine (c_isId _ _).mono ?_; rintro e w' ⟨rfl, rfl⟩) | (go_at_call 53; refine (c_isWant _ _).mono ?_; rintro e w' ⟨rfl, rfl⟩) | (go_at_call 54; refine (c_isWeight _ _).mono ?_; rintro e w' ⟨rfl, rfl⟩) | (go_at_call 47; refine (c_isTime _ _).mono ?_; rintro e w' ⟨rfl, rfl⟩))
              all_goals go_ret
              all_goals exact ⟨ret_bool HM.out.symm, (Below.refl _ _).alloc (Nat.le_refl _) _⟩
        · have hk : bIn k 1 3 = false := bIn_false.mpr (by omega)
          have hm : msgB k id seq g wa we am un co s.size = false := by simp [msgB, k1, k2, k3]
          have HM := Lib.hid hm
          clear hm
          go_enter Try.func14, Try.ntmps14
          go_wp2_with (first | (go_at_call 50; refine (c_in _ _ _ _).mono ?_; rintro e w' ⟨rfl, rfl⟩) | (go_at_call 51; refine (c_isId _ _).mono ?_; rintro e w' ⟨rfl, rfl⟩) | (go_at_call 53; refine (c_isWant _ _).mono ?_; rintro e w' ⟨rfl, rfl⟩) | (go_at_call 54; refine (c_isWeight _ _).mono ?_; rintro e w' ⟨rfl, rfl⟩) | (go_at_call 47; refine (c_isTime _ _).mono ?_; rintro e w' ⟨rfl, rfl⟩))
          all_goals go_ret
          all_goals exact ⟨ret_bool HM.out.symm, (Below.refl _ _).alloc (Nat.le_refl _) _⟩
  · have hN' : decide ((40 : Int) < s.size) = true := decide_eq_true (by omega)
    have hm : msgB k id seq g wa we am un co s.size = false := by simp [msgB, hN]
    have HM := Lib.hid hm
    clear hm
    go_enter Try.func14, Try.ntmps14
    go_wp2_with (first | (go_at_call 50; refine (c_in _ _ _ _).mono ?_; rintro e w' ⟨rfl, rfl⟩) | (go_at_call 51; refine (c_isId _ _).mono ?_; rintro e w' ⟨rfl, rfl⟩) | (go_at_call 53; refine (c_isWant _ _).mono ?_; rintro e w' ⟨rfl, rfl⟩) | (go_at_call 54; refine (c_isWeight _ _).mono ?_; rintro e w' ⟨rfl, rfl⟩) | (go_at_call 47; refine (c_isTime _ _).mono ?_; rintro e w' ⟨rfl, rfl⟩))
    all_goals go_ret
    all_goals exact ⟨ret_bool HM.out.symm, (Below.refl _ _).alloc (Nat.le_refl _) _⟩
end Go.Proofs.Ytddemmmbbleofaa.C
