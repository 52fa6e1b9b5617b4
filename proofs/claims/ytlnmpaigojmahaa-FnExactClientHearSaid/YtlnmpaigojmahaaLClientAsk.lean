/- The law FnExactClientAsk, walked: both tell of a client that asks the same. No condition. -/
import Derived.Test.YtlnmpaigojmahaaClientA
import Derived.Test.YtlnmpaigojmahaaOFnExactClientAsk
import Derived.Deep.DeepCutAuto
import Derived.WalkLawsBesides
import Derived.WalkSpells
namespace Go.Proofs.Ytlnmpaigojmahaa.C
open Go.RowKit Go.Proofs.Ytlnmpaigojmahaa.Rd
set_option maxRecDepth 100000
set_option linter.unusedVariables false
theorem c_toClient (a0 a1 a2 a3 a4 a5 a6 a7 a8 a9 : Int) (w : World) :
    Calls Try.prog 20 #[.agg #[.int .i64 a0, .int .i64 a1, .int .i64 a2, .int .i64 a3, .int .i64 a4, .int .i64 a5, .int .i64 a6, .int .i64 a7, .int .i64 a8, .int .i64 a9]] w fun e w' =>
      e = .returned (.agg #[.int .i64 a0, .int .i64 a1, .int .i64 a2, .int .i64 a3, .int .i64 a4, .int .i64 a5, .int .i64 a6, .int .i64 a7, .int .i64 a8, .int .i64 a9]) ∧ Below w.heap.size w w' := by
  have hu := Try.underlying27
  have hu2 := Try.underlying29
  go_enter Try.func20, Try.ntmps20
  go_wp2
  refine bodyPost_ret (v := .agg #[.int .i64 a0, .int .i64 a1, .int .i64 a2, .int .i64 a3, .int .i64 a4, .int .i64 a5, .int .i64 a6, .int .i64 a7, .int .i64 a8, .int .i64 a9]) (by simp [results, Try.results20, go_sem]) rfl ⟨rfl, ?_⟩
  repeat (first | exact Below.refl _ _ | apply Below.drew | refine Below.alloc ?_ (by first | (simp; done) | (simp; omega)) _ | refine Below.setCell ?_ (by first | (simp; done) | (simp; omega)) _)
theorem c_eqClient (a0 a1 a2 a3 a4 a5 a6 a7 a8 a9 : Int) (w : World) :
    Calls Try.prog 26 #[.agg #[.int .i64 a0, .int .i64 a1, .int .i64 a2, .int .i64 a3, .int .i64 a4, .int .i64 a5, .int .i64 a6, .int .i64 a7, .int .i64 a8, .int .i64 a9], .agg #[.int .i64 a0, .int .i64 a1, .int .i64 a2, .int .i64 a3, .int .i64 a4, .int .i64 a5, .int .i64 a6, .int .i64 a7, .int .i64 a8, .int .i64 a9]] w fun e w' =>
      e = .returned (.bool true) ∧ Below w.heap.size w w' := by
  have hu2 := Try.underlying29
  go_enter Try.func26, Try.ntmps26
  go_wp2
  go_ret
  exact ⟨rfl, ((Below.refl _ _).alloc (Nat.le_refl _) _).alloc (by simp) _⟩
theorem c_eqMsg (a0 a1 a2 a3 a4 a5 a6 a7 a8 : Int) (s : ByteArray) (w : World) :
    Calls Try.prog 67 #[.agg #[.int .i64 a0, .int .i64 a1, .int .i64 a2, .int .i64 a3, .int .i64 a4, .int .i64 a5, .int .i64 a6, .int .i64 a7, .int .i64 a8, .string s], .agg #[.int .i64 a0, .int .i64 a1, .int .i64 a2, .int .i64 a3, .int .i64 a4, .int .i64 a5, .int .i64 a6, .int .i64 a7, .int .i64 a8, .string s]] w fun e w' =>
      e = .returned (.bool true) ∧ Below w.heap.size w w' := by
  have hu2 := Try.underlying41
  go_enter Try.func67, Try.ntmps67
  go_wp2
  go_ret
  exact ⟨rfl, ((Below.refl _ _).alloc (Nat.le_refl _) _).alloc (by simp) _⟩
theorem c_eqClientOut (a0 a1 a2 a3 a4 a5 a6 a7 a8 a9 b0 b1 b2 b3 b4 b5 b6 b7 b8 : Int) (s : ByteArray) (q : Bool) (c : Int) (w : World) :
    Calls Try.prog 40 #[.agg #[.int .i64 a0, .int .i64 a1, .int .i64 a2, .int .i64 a3, .int .i64 a4, .int .i64 a5, .int .i64 a6, .int .i64 a7, .int .i64 a8, .int .i64 a9, .int .i64 b0, .int .i64 b1, .int .i64 b2, .int .i64 b3, .int .i64 b4, .int .i64 b5, .int .i64 b6, .int .i64 b7, .int .i64 b8, .string s, .bool q, .int .i64 c], .agg #[.int .i64 a0, .int .i64 a1, .int .i64 a2, .int .i64 a3, .int .i64 a4, .int .i64 a5, .int .i64 a6, .int .i64 a7, .int .i64 a8, .int .i64 a9, .int .i64 b0, .int .i64 b1, .int .i64 b2, .int .i64 b3, .int .i64 b4, .int .i64 b5, .int .i64 b6, .int .i64 b7, .int .i64 b8, .string s, .bool q, .int .i64 c]] w fun e w' =>
      e = .returned (.bool true) ∧ Below w.heap.size w w' := by
  have hu := Try.underlying53
  have hu2 := Try.underlying29
  have hu3 := Try.underlying41
  go_enter Try.func40, Try.ntmps40
  go_wp2_with fail
  refine (c_eqClient _ _ _ _ _ _ _ _ _ _ _).mono ?_
  rintro e w1 ⟨rfl, h1⟩
  obtain ⟨hc, hf⟩ := bcell h1
  have hz := h1.size
  simp at hz
  go_wp2_with fail
  refine (c_eqMsg _ _ _ _ _ _ _ _ _ _ _).mono ?_
  rintro e w2 ⟨rfl, h2⟩
  have h12 := h1.trans (h2.mono h1.size)
  clear hc hf hz
  obtain ⟨hc, hf⟩ := bcell h12
  have hz := h12.size
  simp at hz
  go_wp2
  go_ret
  exact ⟨rfl, (((Below.refl _ w).alloc (Nat.le_refl _) _).alloc (by simp) _).trans (h12.mono (by simp; omega))⟩
/-- The law's walk: whatever the one row that both tell. -/
theorem ask_law (a0 a1 a2 a3 a4 a5 a6 a7 a8 a9 now : Int) (r : Array Value) (hr : r.size = 22) (h1 : r.all (·.oneCell') = true) (w : World)
    (hs : ∀ w, Calls Try.prog 38 #[.agg #[.int .i64 a0, .int .i64 a1, .int .i64 a2, .int .i64 a3, .int .i64 a4, .int .i64 a5, .int .i64 a6, .int .i64 a7, .int .i64 a8, .int .i64 a9], .int .i64 now] w fun e w' => e = .returned (.agg r) ∧ Below w.heap.size w w')
    (hi : ∀ w, Calls Try.prog 39 #[.agg #[.int .i64 a0, .int .i64 a1, .int .i64 a2, .int .i64 a3, .int .i64 a4, .int .i64 a5, .int .i64 a6, .int .i64 a7, .int .i64 a8, .int .i64 a9], .int .i64 now] w fun e w' => e = .returned (.agg r) ∧ Below w.heap.size w w')
    (he : ∀ w, Calls Try.prog 40 #[.agg r, .agg r] w fun e w' => e = .returned (.bool true) ∧ Below w.heap.size w w') :
    Calls Try.prog 12 #[.agg #[.int .i64 a0, .int .i64 a1, .int .i64 a2, .int .i64 a3, .int .i64 a4, .int .i64 a5, .int .i64 a6, .int .i64 a7, .int .i64 a8, .int .i64 a9], .int .i64 now] w fun e w' => e = .returned (.bool true) ∧ Below w.heap.size w w' := by
  have HS := Lib.hid hs
  have HI := Lib.hid hi
  have HE := Lib.hid he
  have HR := Lib.hid hr
  have H1 := Lib.hid h1
  have SZ : (Try.prog.info? 53).map (·.size) = some r.size := by rw [hr]; kernel_rfl
  have SZ2 := Lib.hid SZ
  have hu := Try.underlying27
  clear hs hi he hr h1 SZ
  go_enter Try.func12, Try.ntmps12
  go_wp2_with fail
  refine (c_toClient _ _ _ _ _ _ _ _ _ _ _).mono ?_
  rintro e w1 ⟨rfl, h1⟩
  go_wp2_with fail
  refine (HS.out _).mono ?_
  rintro e w2 ⟨rfl, h2⟩
  have b2 := btrans h1 h2
  have z2 : w.heap.size < w2.heap.size := by have := b2.size; simp at this; omega
  go_upto_region 2 with ((with_reducible refine at_store (ty := 53) (y := .tmp 10) ?_); refine wpList_store_row rfl 53 (.tmp 5) (.tmp 10) rfl w2.heap.size _ rfl rfl _ _ (heap_alloc_new ..) SZ2.out (by rw [HR.out]; rfl) H1.out ?_)
  obtain ⟨W3, hW3⟩ : ∃ W, W = (w2.alloc (.cells #[.int .i64 0, .int .i64 0, .int .i64 0, .int .i64 0, .int .i64 0, .int .i64 0, .int .i64 0, .int .i64 0, .int .i64 0, .int .i64 0, .int .i64 0, .int .i64 0, .int .i64 0, .int .i64 0, .int .i64 0, .int .i64 0, .int .i64 0, .int .i64 0, .int .i64 0, .string ⟨#[]⟩, .bool false, .int .i64 0] 53)).setRow w2.heap.size r := ⟨_, rfl⟩
  have g3 : W3.heap[w2.heap.size]? = some (.cells r 53 (0, 0)) := by rw [hW3]; exact setRow_heap _ _ _ _ _ _ (heap_alloc_new ..)
  have b3 : Below w2.heap.size w2 W3 := by rw [hW3]; exact below_setRow ((Below.refl _ _).alloc (Nat.le_refl _) _) (Nat.le_refl _) _
  have z3 : w2.heap.size < W3.heap.size := by rw [hW3]; simp
  rw [← hW3]
  clear hW3
  have b23 := (b2.trans (b3.mono b2.size))
  have G3 := Lib.hid g3
  clear g3
  have hc0 : W3.cell? ⟨w.heap.size, 0, none⟩ = some (.int .i64 a0) := (b23.cell (by simp)).trans (by simp)
  have hc1 : W3.cell? ⟨w.heap.size, 1, none⟩ = some (.int .i64 a1) := (b23.cell (by simp)).trans (by simp)
  have hc2 : W3.cell? ⟨w.heap.size, 2, none⟩ = some (.int .i64 a2) := (b23.cell (by simp)).trans (by simp)
  have hc3 : W3.cell? ⟨w.heap.size, 3, none⟩ = some (.int .i64 a3) := (b23.cell (by simp)).trans (by simp)
  have hc4 : W3.cell? ⟨w.heap.size, 4, none⟩ = some (.int .i64 a4) := (b23.cell (by simp)).trans (by simp)
  have hc5 : W3.cell? ⟨w.heap.size, 5, none⟩ = some (.int .i64 a5) := (b23.cell (by simp)).trans (by simp)
  have hc6 : W3.cell? ⟨w.heap.size, 6, none⟩ = some (.int .i64 a6) := (b23.cell (by simp)).trans (by simp)
  have hc7 : W3.cell? ⟨w.heap.size, 7, none⟩ = some (.int .i64 a7) := (b23.cell (by simp)).trans (by simp)
  have hc8 : W3.cell? ⟨w.heap.size, 8, none⟩ = some (.int .i64 a8) := (b23.cell (by simp)).trans (by simp)
  have hc9 : W3.cell? ⟨w.heap.size, 9, none⟩ = some (.int .i64 a9) := (b23.cell (by simp)).trans (by simp)
  go_wp2_with fail
  refine (c_toClient _ _ _ _ _ _ _ _ _ _ _).mono ?_
  rintro e w4 ⟨rfl, h4⟩
  go_wp2_with fail
  refine (HI.out _).mono ?_
  rintro e w5 ⟨rfl, h5⟩
  have b5 := btrans h4 h5
  have z5 : w2.heap.size < w5.heap.size := Nat.lt_of_lt_of_le z3 b5.size
  have g5 := (b5.block w2.heap.size z3).trans G3.out
  have G5 := Lib.hid g5
  clear g5
  go_upto_region 3 with ((with_reducible refine at_store (ty := 53) (y := .tmp 14) ?_); refine wpList_store_row rfl 53 (.tmp 6) (.tmp 14) rfl w5.heap.size _ rfl rfl _ _ (heap_alloc_new ..) SZ2.out (by rw [HR.out]; rfl) H1.out ?_)
  obtain ⟨W6, hW6⟩ : ∃ W, W = (w5.alloc (.cells #[.int .i64 0, .int .i64 0, .int .i64 0, .int .i64 0, .int .i64 0, .int .i64 0, .int .i64 0, .int .i64 0, .int .i64 0, .int .i64 0, .int .i64 0, .int .i64 0, .int .i64 0, .int .i64 0, .int .i64 0, .int .i64 0, .int .i64 0, .int .i64 0, .int .i64 0, .string ⟨#[]⟩, .bool false, .int .i64 0] 53)).setRow w5.heap.size r := ⟨_, rfl⟩
  have g6 : W6.heap[w5.heap.size]? = some (.cells r 53 (0, 0)) := by rw [hW6]; exact setRow_heap _ _ _ _ _ _ (heap_alloc_new ..)
  have b6 : Below w5.heap.size w5 W6 := by rw [hW6]; exact below_setRow ((Below.refl _ _).alloc (Nat.le_refl _) _) (Nat.le_refl _) _
  rw [← hW6]
  clear hW6
  have G6 := Lib.hid g6
  clear g6
  have g7 := (b6.block w2.heap.size z5).trans G5.out
  have G7 := Lib.hid g7
  clear g7
  have U := Lib.hid Try.underlying53
  go_wp2_with (first
    | ((with_reducible refine at_load (ty := 53) (x := .tmp 6) ?_); refine wpList_load_row rfl 53 (.tmp 6) rfl w5.heap.size rfl _ _ _ _ G6.out U.out rfl SZ2.out ?_)
    | ((with_reducible refine at_load (ty := 53) (x := .tmp 5) ?_); refine wpList_load_row rfl 53 (.tmp 5) rfl w2.heap.size rfl _ _ _ _ G7.out U.out rfl SZ2.out ?_))
  refine (HE.out _).mono ?_
  rintro e w8 ⟨rfl, h8⟩
  go_wp2
  go_ret
  refine ⟨rfl, ?_⟩
  have b68 := b6.trans (h8.mono b6.size)
  have b58 := b5.trans (b68.mono b5.size)
  exact ((Below.refl _ w).alloc (Nat.le_refl _) _).trans ((b23.trans (b58.mono b23.size)).mono (by simp))
theorem l_FnExactClientAsk : OFnExactClientAsk.Walks := by
  rintro ⟨a0, a1, a2, a3, a4, a5, a6, a7, a8, a9⟩ now w - -
  show Calls Try.prog 12 #[.agg #[.int .i64 a0, .int .i64 a1, .int .i64 a2, .int .i64 a3, .int .i64 a4, .int .i64 a5, .int .i64 a6, .int .i64 a7, .int .i64 a8, .int .i64 a9], .int .i64 now] w fun e w' => e = .returned (.bool true) ∧ Below w.heap.size w w'
  by_cases hr : (clB a0 a1 a2 a3 a4 a5 a6 a7 a8 a9 && bIn now 0 1000000) = true
  · by_cases h9 : a9 = 1000000
    · exact ask_law _ _ _ _ _ _ _ _ _ _ _ _ rfl (by simp [Value.oneCell']) w (fun w => s_ask_state _ _ _ _ _ _ _ _ _ _ _ w hr h9) (fun w => c_ask_state _ _ _ _ _ _ _ _ _ _ _ w hr h9) (fun w => c_eqClientOut _ _ _ _ _ _ _ _ _ _ _ _ _ _ _ _ _ _ _ _ _ _ w)
    · by_cases h7 : now < a7
      · exact ask_law _ _ _ _ _ _ _ _ _ _ _ _ rfl (by simp [Value.oneCell']) w (fun w => s_ask_wait _ _ _ _ _ _ _ _ _ _ _ w hr h9 h7) (fun w => c_ask_wait _ _ _ _ _ _ _ _ _ _ _ w hr h9 h7) (fun w => c_eqClientOut _ _ _ _ _ _ _ _ _ _ _ _ _ _ _ _ _ _ _ _ _ _ w)
      · exact ask_law _ _ _ _ _ _ _ _ _ _ _ _ rfl (by simp [Value.oneCell']) w (fun w => s_ask_goes _ _ _ _ _ _ _ _ _ _ _ w hr h9 (by omega)) (fun w => by rw [Int.min_comm 1000000, Int.min_comm 64]; exact c_ask_goes _ _ _ _ _ _ _ _ _ _ _ w hr h9 (by omega)) (fun w => c_eqClientOut _ _ _ _ _ _ _ _ _ _ _ _ _ _ _ _ _ _ _ _ _ _ w)
  · have hf : (clB a0 a1 a2 a3 a4 a5 a6 a7 a8 a9 && bIn now 0 1000000) = false := by simpa using hr
    exact ask_law _ _ _ _ _ _ _ _ _ _ _ _ rfl (by simp [Value.oneCell']) w (fun w => s_ask_form _ _ _ _ _ _ _ _ _ _ _ w hf) (fun w => c_ask_form _ _ _ _ _ _ _ _ _ _ _ w hf) (fun w => c_eqClientOut _ _ _ _ _ _ _ _ _ _ _ _ _ _ _ _ _ _ _ _ _ _ w)
end Go.Proofs.Ytlnmpaigojmahaa.C
