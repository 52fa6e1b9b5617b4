/- Tables appended to tables of a call's own; copies of tables and farms. No condition. -/
import Derived.Test.YtipkbapnhgdpeaaFInsG
namespace Go.Proofs.Ytipkbapnhgdpeaa.C
open Go.RowKit
set_option maxRecDepth 100000
set_option linter.unusedVariables false
set_option linter.unusedSimpArgs false
attribute [local go_sem ↓] Go.wp_at_zero Go.wp_at_succ
/-- A slice type of four whole numbers an element. -/
structure TT (tS tE : TypeId) : Prop where
  u : Try.prog.underlying tS = some (.slice tE)
  i : (Try.prog.info? tE).map (fun i => (i.zero, i.size, i.bytes)) = some (some (.agg #[.int .i64 0, .int .i64 0, .int .i64 0, .int .i64 0]), 4, 32)
theorem ttG : TT 31 114 := ⟨Try.underlying31, infoGroup⟩
theorem ttM : TT 32 91 := ⟨Try.underlying32, infoMember⟩
def appT (n : Nat) (f f' : Nat → Nat → Int) (p j : Nat) : Int := if p < n then f p j else f' (p - n) j
theorem Tab.cells4 {w : World} {g off n : Nat} {f : Nat → Nat → Int} (hx : ∀ i j, i < n → j < 4 → w.cell? ⟨g, off + i * 4 + j, none⟩ = some (.int .i64 (f i j))) :
    ∀ j u, (tr n f)[j]? = some u → w.cell? ((⟨g, off, none⟩ : Addr).add j) = some u := by
  intro j u hju
  have hlt : j < n * 4 := by have := (List.getElem?_eq_some_iff.1 hju).1; rwa [tr_len] at this
  rw [tr_get hlt] at hju
  rw [← hju, Addr.add_lit]
  have := hx (j / 4) (j % 4) (by omega) (by omega)
  rw [show off + j / 4 * 4 + j % 4 = off + j by omega] at this
  exact this
theorem run_append_none_t {P : Program} {w : World} (base : Nat) (t ty e : TypeId) (i : TypeInfo) (size : Nat) (ht : P.underlying t = some (.slice e)) (hi : P.info? e = some i)
    (v : Value) (n c : Nat) (xs : List Value) (hown : w.ownsRow base e size v n xs) :
    (Builtin.append_ #[t, t] ty #[v, .slice none 0 c]).run P w = .ok v w := by
  rcases hown.2 with ⟨rfl, rfl⟩ | ⟨g, cap, cur, rfl, _, _, hnc, _⟩
  · simp [Builtin.append_, run_underlying ht, sizeOf, typeInfo, hi, Builtin.lenOf, Builtin.firstCells]
  · simp [Builtin.append_, run_underlying ht, sizeOf, typeInfo, hi, Builtin.lenOf, Builtin.firstCells, hnc, storeCells]
/-- A table, nil too, appended to a table of the call's own. -/
theorem oper_append_t {ops : Array Oper} {o : Oper} {a : Act} {w : World} {K : Act → World → Prop} {Q : Exit → Act → World → Prop} {tS tE : TypeId} (ht : TT tS tE)
    (s x : Operand) (hop : o.op = Op.call { callee := Callee.builtin Builtin.append, args := #[s, x], argTypes := #[tS, tS] })
    (base : Nat) (v : Value) (n : Nat) (f : Nat → Nat → Int) (hs : a.eval s = v) (hown : OwnT tE w base v n f)
    (A : Option Addr) (m : Nat) (f' : Nat → Nat → Int) (c : Nat) (hx : a.eval x = .slice A m c) (hM : Tab 4 w A m f') (b1 : n + m ≤ 100000) (hbase : base ≤ w.heap.size)
    (hK : ∀ v' w', OwnT tE w' base v' (n + m) (appT n f f') → w.grownBy w' v.ownBlock → K (a.put o.dst v') w') : Oper.wp Try.prog o a w K Q := by
  have hu3 := ht.u
  obtain ⟨j0, hj, hy0, hy1, hy2⟩ := info_parts ht.i
  rcases hM with ⟨rfl, rfl⟩ | ⟨g, off, rfl, hg, hcell⟩
  · have hrun := run_append_none_t (P := Try.prog) (w := w) base tS o.type tE j0 4 hu3 hj v n c (tr n f) hown
    have hk := hK v w (by
      unfold OwnT
      rw [show tr (n + 0) (appT n f f') = tr n f from tr_congr fun i j hi _ => if_pos (by omega)]
      exact hown) (World.grownBy.refl w _)
    unfold Oper.wp
    simp [execOp, hop, resolve, invoke, builtin, hs, hx, hrun, Result.andThen]
    exact hk
  · exact wp_append_own w s x tS hop base tE j0 (.agg #[.int .i64 0, .int .i64 0, .int .i64 0, .int .i64 0]) 4 32 hu3 hj hy0 hy1 hy2 rfl (by decide) v n (tr n f) hs hown ⟨g, off, none⟩ m c (tr m f') hx (tr_len m f') (Tab.cells4 hcell) (tr_one m f') (by unfold maxLen; omega) (by omega) hbase fun v' w' p1 p2 _ => hK v' w' (by unfold OwnT; rw [tr_app] at p1; exact p1) p2
theorem wpl_append_t {ops : Array Oper} {rest : List Oper} {o : Oper} {a : Act} {w : World} {Q : Exit → Act → World → Prop} {tS tE : TypeId} (ht : TT tS tE) (hgd : o.guard = none)
    (s x : Operand) (hop : o.op = Op.call { callee := Callee.builtin Builtin.append, args := #[s, x], argTypes := #[tS, tS] })
    (base : Nat) (v : Value) (n : Nat) (f : Nat → Nat → Int) (hs : a.eval s = v) (hown : OwnT tE w base v n f)
    (A : Option Addr) (m : Nat) (f' : Nat → Nat → Int) (c : Nat) (hx : a.eval x = .slice A m c) (hM : Tab 4 w A m f') (b1 : n + m ≤ 100000) (hbase : base ≤ w.heap.size)
    (h : ∀ v' w', OwnT tE w' base v' (n + m) (appT n f f') → w.grownBy w' v.ownBlock → wpList Try.prog ops Q rest (a.put o.dst v') w') : wpList Try.prog ops Q (o :: rest) a w :=
  wpList_plain hgd fun K hK => oper_append_t (ops := ops) ht s x hop base v n f hs hown A m f' c hx hM b1 hbase fun v' w' p1 p2 => hK _ _ (h v' w' p1 p2)
theorem step_append_t {ops : Array Oper} {o : Oper} {a : Act} {w : World} {K : Act → World → Prop} {Q : Exit → Act → World → Prop} {E : Prop} {tS tE : TypeId} (ht : TT tS tE) (hg : o.guard = none)
    (s x : Operand) (hop : o.op = Op.call { callee := Callee.builtin Builtin.append, args := #[s, x], argTypes := #[tS, tS] })
    (base : Nat) (v : Value) (n : Nat) (f : Nat → Nat → Int) (hs : a.eval s = v) (hown : OwnT tE w base v n f)
    (A : Option Addr) (m : Nat) (f' : Nat → Nat → Int) (c : Nat) (hx : a.eval x = .slice A m c) (hM : Tab 4 w A m f') (b1 : n + m ≤ 100000) (hbase : base ≤ w.heap.size)
    (hK : ∀ v' w', OwnT tE w' base v' (n + m) (appT n f f') → w.grownBy w' v.ownBlock → K (a.put o.dst v') w') :
    if Region.wanted o (yielded ops a.tmps) = true then Oper.wp Try.prog o a w K Q else E := by
  have hw : Region.wanted o (yielded ops a.tmps) = true := by simp [Region.wanted, hg]
  rw [if_pos hw]
  exact oper_append_t (ops := ops) ht s x hop base v n f hs hown A m f' c hx hM b1 hbase hK
theorem made_t (tE : TypeId) (w : World) (f : Nat → Nat → Int) : OwnT tE (w.alloc (.cells #[] tE)) w.heap.size (.slice (some ⟨w.heap.size, 0, none⟩) 0 0) 0 f := by
  unfold OwnT
  rw [tr_zero]
  exact World.ownsRow_made w #[] 0 (Nat.le_refl _) (by decide) rfl
theorem tab_new (tE : TypeId) (w : World) (r : Nat → Int) : Tab 4 (w.alloc (.cells #[.int .i64 (r 0), .int .i64 (r 1), .int .i64 (r 2), .int .i64 (r 3)] tE)) (some ⟨w.heap.size, 0, none⟩) 1 (fun _ => r) := by
  have h := Blk.new (w := w) (B := 0) (Nat.zero_le _) #[.int .i64 (r 0), .int .i64 (r 1), .int .i64 (r 2), .int .i64 (r 3)] tE
  refine .inr ⟨_, 0, rfl, by simp, fun i j hi hj => ?_⟩
  obtain rfl : i = 0 := by omega
  match j, hj with
  | 0, _ => exact (h.cell 0).trans rfl
  | 1, _ => exact (h.cell 1).trans rfl
  | 2, _ => exact (h.cell 2).trans rfl
  | 3, _ => exact (h.cell 3).trans rfl
theorem OwnT.congr {t : TypeId} {w : World} {B n : Nat} {v : Value} {f f' : Nat → Nat → Int} (h : OwnT t w B v n f) (e : ∀ i j, i < n → j < 4 → f i j = f' i j) : OwnT t w B v n f' := by
  unfold OwnT at *
  rw [← tr_congr e]
  exact h
theorem app_nil {f0 f : Nat → Nat → Int} (i j : Nat) : appT 0 f0 f i j = f i j := by simp [appT]
theorem app_ins (n : Nat) (f : Nat → Nat → Int) (r : Nat → Int) {i j : Nat} (hi : i < n + 1) : appT n f (fun _ => r) i j = insT n r f i j := by
  unfold appT insT
  by_cases h : i < n
  · rw [if_pos h, if_pos h]
  · rw [if_neg h, if_neg h, if_pos (by omega)]
set_option maxHeartbeats 2000000 in
theorem c_CloneG (A : Option Addr) (n c : Nat) (f : Nat → Nat → Int) (w : World) (h : Tab 4 w A n f) (hn : n ≤ 90000) :
    Calls Try.prog 125 #[.slice A n c] w fun e w' => ∃ v, e = .returned v ∧ OwnT 114 w' w.heap.size v n f ∧ Below w.heap.size w w' := by
  have hu3 := Try.underlying31
  have hq : ∀ (w : World) (a : Option Addr) (n c n' c' : Nat), (binOp .eql 31 (.slice a n c) (.slice none n' c')).run Try.prog w = .ok (.bool a.isNone) w := fun w a n c n' c' => Lib.run_eql_slice_nil w _ _ a n c n' c' hu3
  rcases h with ⟨rfl, rfl⟩ | ⟨g, off, rfl, hg, hx⟩
  · go_enter Try.func125, Try.ntmps125
    go_wp2_with fail
    go_ret
    exact ⟨_, rfl, OwnT.nil _ _ _ _, Below.refl _ _⟩
  · have HT := Lib.hid (show Tab 4 w (some ⟨g, off, none⟩) n f from .inr ⟨g, off, rfl, hg, hx⟩)
    have HM := Lib.hid (made_t 114 w f)
    have HT2 := Lib.hid (HT.out.keep ((Below.refl _ w).alloc (Nat.le_refl _) (.cells #[] 114)))
    clear hx
    go_enter Try.func125, Try.ntmps125
    go_wp2_with (at_builtin; refine wpl_append_t ttG rfl _ _ rfl w.heap.size _ 0 f rfl HM.out (some ⟨g, off, none⟩) n f c rfl HT2.out (by omega) (by simp) ?_; intro v' w1 hown hgrow)
    go_ret
    refine ⟨v', rfl, (show OwnT _ w1 _ v' n _ by rw [Nat.zero_add] at hown; exact hown).congr fun i j _ _ => app_nil i j, ((Below.refl _ w).alloc (Nat.le_refl _) _).grown hgrow (by simp) (by intro k hk; cases hk; exact Nat.le_refl _)⟩
set_option maxHeartbeats 2000000 in
theorem c_CloneM (A : Option Addr) (n c : Nat) (f : Nat → Nat → Int) (w : World) (h : Tab 4 w A n f) (hn : n ≤ 90000) :
    Calls Try.prog 126 #[.slice A n c] w fun e w' => ∃ v, e = .returned v ∧ OwnT 91 w' w.heap.size v n f ∧ Below w.heap.size w w' := by
  have hu3 := Try.underlying32
  have hq : ∀ (w : World) (a : Option Addr) (n c n' c' : Nat), (binOp .eql 32 (.slice a n c) (.slice none n' c')).run Try.prog w = .ok (.bool a.isNone) w := fun w a n c n' c' => Lib.run_eql_slice_nil w _ _ a n c n' c' hu3
  rcases h with ⟨rfl, rfl⟩ | ⟨g, off, rfl, hg, hx⟩
  · go_enter Try.func126, Try.ntmps126
    go_wp2_with fail
    go_ret
    exact ⟨_, rfl, OwnT.nil _ _ _ _, Below.refl _ _⟩
  · have HT := Lib.hid (show Tab 4 w (some ⟨g, off, none⟩) n f from .inr ⟨g, off, rfl, hg, hx⟩)
    have HM := Lib.hid (made_t 91 w f)
    have HT2 := Lib.hid (HT.out.keep ((Below.refl _ w).alloc (Nat.le_refl _) (.cells #[] 91)))
    clear hx
    go_enter Try.func126, Try.ntmps126
    go_wp2_with (at_builtin; refine wpl_append_t ttM rfl _ _ rfl w.heap.size _ 0 f rfl HM.out (some ⟨g, off, none⟩) n f c rfl HT2.out (by omega) (by simp) ?_; intro v' w1 hown hgrow)
    go_ret
    refine ⟨v', rfl, (show OwnT _ w1 _ v' n _ by rw [Nat.zero_add] at hown; exact hown).congr fun i j _ _ => app_nil i j, ((Below.refl _ w).alloc (Nat.le_refl _) _).grown hgrow (by simp) (by intro k hk; cases hk; exact Nat.le_refl _)⟩
end Go.Proofs.Ytipkbapnhgdpeaa.C
