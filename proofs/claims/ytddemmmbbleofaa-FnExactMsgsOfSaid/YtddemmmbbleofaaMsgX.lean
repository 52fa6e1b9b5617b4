/- What a text begins with, as a message: the outcome that both readers come to. Plain: no program. No condition. -/
import Derived.Test.YtddemmmbbleofaaMsgP
namespace Go.Proofs.Ytddemmmbbleofaa.C
open Go.RowKit
set_option maxRecDepth 100000
set_option linter.unusedVariables false
set_option linter.unusedSimpArgs false
open Go.Proofs.YtddemmmbbleofaaW.PrintWords (bt bt_range bt_at)
/-- A message as it is read. -/
structure M where
  (k id seq g wa we am un co : Int)
  note : ByteArray
def outC (m : M) (used code : Int) : Array Value := #[.int .i64 m.k, .int .i64 m.id, .int .i64 m.seq, .int .i64 m.g, .int .i64 m.wa, .int .i64 m.we, .int .i64 m.am, .int .i64 m.un, .int .i64 m.co, .string m.note, .int .i64 used, .int .i64 code]
def M0 : M := ⟨0, 0, 0, 0, 0, 0, 0, 0, 0, ⟨#[]⟩⟩
def M.ok (m : M) : Bool := msgB m.k m.id m.seq m.g m.wa m.we m.am m.un m.co m.note.size
def M.text (m : M) : ByteArray := mtext m.k m.id m.seq m.g m.wa m.we m.am m.un m.co m.note
def M.body (m : M) : ByteArray := mb m.k (nb m.k ++ nb m.id ++ nb m.seq) (nb m.g) (nb m.wa) (nb m.we) (nb m.am) (nb m.un) (nb m.co) ++ (nb m.note.size ++ m.note)
def sum4 (b : ByteArray) : ByteArray := strOfNums [sumv b / 16777216, sumv b / 65536 % 256, sumv b / 256 % 256, sumv b % 256]
theorem M.text_is (m : M) : m.text = (⟨#[87]⟩ : ByteArray) ++ (nb m.body.size ++ m.body) ++ sum4 (nb m.body.size ++ m.body) := rfl
theorem sum4_size (b : ByteArray) : (sum4 b).size = 4 := rfl
theorem numF_size (k : Nat) : ∀ (t : ByteArray) (n : Int) (i : Nat), (numF k t n i).2.1.size ≤ t.size := by
  induction k with
  | zero => intro t n i; exact Nat.le_refl _
  | succ k ih =>
    intro t n i
    rw [numF]
    split
    · split
      · simp [ByteArray.size_extract]
      · exact ih _ _ _
    · exact Nat.le_refl _
theorem NF_size {t r : ByteArray} {x : Int} {c : Bool} (h : NF t = (x, r, c)) : r.size ≤ t.size := by
  have := numF_size 9 t 0 0
  rw [show numF 9 t 0 0 = (x, r, c) from h] at this
  exact this
/-- One number of a reader. -/
def rd (s : ByteArray × Bool) : Int × ByteArray × Bool := ((NF s.1).1, (NF s.1).2.1, s.2 || (NF s.1).2.2)
theorem rd_of {t r : ByteArray} {b c : Bool} {x : Int} (h : NF t = (x, r, c)) : rd (t, b) = (x, r, b || c) := by simp [rd, h]
theorem rd_back {x : Int} {r : ByteArray} {b : Bool} (h0 : 0 ≤ x) (h1 : x ≤ 9223372036854775807) : rd (nb x ++ r, b) = (x, r, b) := by rw [rd_of (NF_back x r h0 h1)]; simp
/-- The fields of a body, the note's length, and the reader behind them. -/
def bodyF (s : ByteArray × Bool) : M × Int × ByteArray × Bool :=
  let a := rd s
  let b := rd a.2
  let c := rd b.2
  if a.1 = 1 then
    let d := rd c.2
    let e := rd d.2
    let f := rd e.2
    let h := rd f.2
    (⟨a.1, b.1, c.1, d.1, e.1, f.1, 0, 0, 0, ⟨#[]⟩⟩, h)
  else if a.1 = 3 then
    let d := rd c.2
    let e := rd d.2
    let f := rd e.2
    let h := rd f.2
    (⟨a.1, b.1, c.1, 0, 0, 0, d.1, e.1, f.1, ⟨#[]⟩⟩, h)
  else
    let h := rd c.2
    (⟨a.1, b.1, c.1, 0, 0, 0, 0, 0, 0, ⟨#[]⟩⟩, h)
/-- A right message's kinds, and what is nought in each. -/
theorem M.ok_kind {m : M} (h : m.ok = true) : (m.k = 1 ∧ m.am = 0 ∧ m.un = 0 ∧ m.co = 0) ∨ (m.k = 2 ∧ m.g = 0 ∧ m.wa = 0 ∧ m.we = 0 ∧ m.am = 0 ∧ m.un = 0 ∧ m.co = 0) ∨ (m.k = 3 ∧ m.g = 0 ∧ m.wa = 0 ∧ m.we = 0) := by
  simp only [M.ok, msgB, Bool.and_eq_true, decide_eq_true_eq, bIn_true] at h
  obtain ⟨h1, h2, h3, h4⟩ := h
  split at h4
  · simp only [Bool.and_eq_true, Bool.or_eq_true, beq_iff_eq, bIn_true] at h4
    omega
  · split at h4
    · simp only [Bool.and_eq_true, beq_iff_eq] at h4
      omega
    · split at h4
      · simp only [Bool.and_eq_true, beq_iff_eq, bIn_true] at h4
        omega
      · cases h4
theorem bodyF_back {m : M} (h : m.ok = true) : bodyF (m.body, false) = ({ m with note := ⟨#[]⟩ }, (m.note.size : Int), m.note, false) := by
  obtain ⟨-, hn, ⟨i0, i1⟩, ⟨q0, q1⟩, ⟨g0, g1⟩, ⟨wa0, wa1⟩, ⟨we0, we1⟩, ⟨am0, am1⟩, ⟨un0, un1⟩, co0, co1⟩ := msgB_bounds h
  have hk := M.ok_kind h
  obtain ⟨k, id, seq, g, wa, we, am, un, co, s⟩ := m
  simp only [M.body] at *
  rcases hk with ⟨rfl, rfl, rfl, rfl⟩ | ⟨rfl, rfl, rfl, rfl, rfl, rfl, rfl⟩ | ⟨rfl, rfl, rfl, rfl⟩
  · simp only [mb, ↓reduceIte, ByteArray.append_assoc, bodyF]
    rw [rd_back (by omega) (by omega)]
    simp only [↓reduceIte]
    rw [rd_back (by omega) (by omega)]
    simp only
    rw [rd_back (by omega) (by omega)]
    simp only
    rw [rd_back (by omega) (by omega)]
    simp only
    rw [rd_back (by omega) (by omega)]
    simp only
    rw [rd_back (by omega) (by omega)]
    simp only
    rw [rd_back (by omega) (by omega)]
  · simp only [mb, ByteArray.append_assoc, bodyF]
    simp only [show ¬ ((2 : Int) = 1) from by decide, show ¬ ((2 : Int) = 3) from by decide, ↓reduceIte, ByteArray.append_assoc]
    rw [rd_back (by omega) (by omega)]
    simp only [show ¬ ((2 : Int) = 1) from by decide, show ¬ ((2 : Int) = 3) from by decide, ↓reduceIte]
    rw [rd_back (by omega) (by omega)]
    simp only
    rw [rd_back (by omega) (by omega)]
    simp only
    rw [rd_back (by omega) (by omega)]
  · simp only [mb, ByteArray.append_assoc, bodyF]
    simp only [show ¬ ((3 : Int) = 1) from by decide, ↓reduceIte, ByteArray.append_assoc]
    rw [rd_back (by omega) (by omega)]
    simp only [show ¬ ((3 : Int) = 1) from by decide, ↓reduceIte]
    rw [rd_back (by omega) (by omega)]
    simp only
    rw [rd_back (by omega) (by omega)]
    simp only
    rw [rd_back (by omega) (by omega)]
    simp only
    rw [rd_back (by omega) (by omega)]
    simp only
    rw [rd_back (by omega) (by omega)]
    simp only
    rw [rd_back (by omega) (by omega)]
/-- The program's reader of numbers. -/
def tk (o : Option ByteArray) : Int × Option ByteArray := match o with
  | none => (0, none)
  | some t => match TF t with
    | none => (0, none)
    | some (x, r) => (x, some r)
theorem tk_back {x : Int} {r : ByteArray} (h0 : 0 ≤ x) (h1 : x < 72057594037927936) : tk (some (nb x ++ r)) = (x, some r) := by simp [tk, TF_back x r h0 h1]
/-- What the program reads of a body: its fields, and the note's length and what is left; nothing if one number is none. -/
def bodyG (s : ByteArray) : M × Int × Option ByteArray :=
  let a := tk (some s)
  let b := tk a.2
  let c := tk b.2
  if a.1 = 1 then
    let d := tk c.2
    let e := tk d.2
    let f := tk e.2
    let h := tk f.2
    (⟨a.1, b.1, c.1, d.1, e.1, f.1, 0, 0, 0, ⟨#[]⟩⟩, h)
  else if a.1 = 3 then
    let d := tk c.2
    let e := tk d.2
    let f := tk e.2
    let h := tk f.2
    (⟨a.1, b.1, c.1, 0, 0, 0, d.1, e.1, f.1, ⟨#[]⟩⟩, h)
  else
    let h := tk c.2
    (⟨a.1, b.1, c.1, 0, 0, 0, 0, 0, 0, ⟨#[]⟩⟩, h)
theorem bodyG_back {m : M} (h : m.ok = true) : bodyG m.body = ({ m with note := ⟨#[]⟩ }, (m.note.size : Int), some m.note) := by
  obtain ⟨-, hn, ⟨i0, i1⟩, ⟨q0, q1⟩, ⟨g0, g1⟩, ⟨wa0, wa1⟩, ⟨we0, we1⟩, ⟨am0, am1⟩, ⟨un0, un1⟩, co0, co1⟩ := msgB_bounds h
  have hk := M.ok_kind h
  obtain ⟨k, id, seq, g, wa, we, am, un, co, s⟩ := m
  simp only [M.body] at *
  rcases hk with ⟨rfl, rfl, rfl, rfl⟩ | ⟨rfl, rfl, rfl, rfl, rfl, rfl, rfl⟩ | ⟨rfl, rfl, rfl, rfl⟩
  · simp only [mb, ↓reduceIte, ByteArray.append_assoc, bodyG]
    rw [tk_back (by omega) (by omega)]
    simp only [↓reduceIte]
    rw [tk_back (by omega) (by omega)]
    simp only
    rw [tk_back (by omega) (by omega)]
    simp only
    rw [tk_back (by omega) (by omega)]
    simp only
    rw [tk_back (by omega) (by omega)]
    simp only
    rw [tk_back (by omega) (by omega)]
    simp only
    rw [tk_back (by omega) (by omega)]
  · simp only [mb, ByteArray.append_assoc, bodyG]
    simp only [show ¬ ((2 : Int) = 1) from by decide, show ¬ ((2 : Int) = 3) from by decide, ↓reduceIte, ByteArray.append_assoc]
    rw [tk_back (by omega) (by omega)]
    simp only [show ¬ ((2 : Int) = 1) from by decide, show ¬ ((2 : Int) = 3) from by decide, ↓reduceIte]
    rw [tk_back (by omega) (by omega)]
    simp only
    rw [tk_back (by omega) (by omega)]
    simp only
    rw [tk_back (by omega) (by omega)]
  · simp only [mb, ByteArray.append_assoc, bodyG]
    simp only [show ¬ ((3 : Int) = 1) from by decide, ↓reduceIte, ByteArray.append_assoc]
    rw [tk_back (by omega) (by omega)]
    simp only [show ¬ ((3 : Int) = 1) from by decide, ↓reduceIte]
    rw [tk_back (by omega) (by omega)]
    simp only
    rw [tk_back (by omega) (by omega)]
    simp only
    rw [tk_back (by omega) (by omega)]
    simp only
    rw [tk_back (by omega) (by omega)]
    simp only
    rw [tk_back (by omega) (by omega)]
    simp only
    rw [tk_back (by omega) (by omega)]
theorem body_size {m : M} (h : m.ok = true) : m.body.size ≤ 110 := by
  obtain ⟨-, hn, -⟩ := msgB_bounds h
  have h3 : (nb m.k ++ nb m.id ++ nb m.seq).size ≤ 30 := by
    have h1 := nb_size m.k; have h2 := nb_size m.id; have h3 := nb_size m.seq
    simp only [ByteArray.size_append]; omega
  have hm := mb_size m.k h3 (nb_size m.g) (nb_size m.wa) (nb_size m.we) (nb_size m.am) (nb_size m.un) (nb_size m.co)
  have hz := nb_size m.note.size
  simp only [M.body, ByteArray.size_append]
  omega
/-- The text begins with a message, whole, of so many bytes. -/
def Whole (t : ByteArray) (used : Nat) (m : M) : Prop := m.ok = true ∧ m.text = t.extract 0 used
open Classical in
noncomputable def tailO (t : ByteArray) (used : Nat) : Array Value := if h : ∃ m, Whole t used m then outC (Classical.choose h) used 0 else outC M0 0 3
/-- The outcome. -/
noncomputable def outF (t : ByteArray) : Array Value :=
  if t.size = 0 ∨ bt t 0 ≠ 87 then outC M0 0 4
  else if t.size = 1 ∨ (t.size = 2 ∧ 128 ≤ bt t 1) then outC M0 0 9
  else
    let q := NF (t.extract 1 t.size)
    if q.2.2 = true ∨ 200 < q.1 then outC M0 0 3
    else if (q.2.1.size : Int) < q.1 + 4 then outC M0 0 9
    else
      let used := (t.size - q.2.1.size) + q.1.toNat + 4
      if t.extract (used - 4) used = sum4 (t.extract 1 (used - 4)) then tailO t used else outC M0 0 8
/-- What a whole message's head reads as. -/
theorem append_cancel {a b c d : ByteArray} (h : a ++ b = c ++ d) (hs : a.size = c.size) : a = c ∧ b = d := by
  have h1 : (a ++ b).extract 0 a.size = a := ByteArray.extract_append_eq_left rfl
  have h2 : (c ++ d).extract 0 c.size = c := ByteArray.extract_append_eq_left rfl
  have h3 : (a ++ b).extract a.size (a ++ b).size = b := ByteArray.extract_append_eq_right rfl (by rw [ByteArray.size_append])
  have h4 : (c ++ d).extract c.size (c ++ d).size = d := ByteArray.extract_append_eq_right rfl (by rw [ByteArray.size_append])
  rw [h, hs] at h1 h3
  exact ⟨h1.symm.trans h2, h3.symm.trans h4⟩
theorem split_at (t : ByteArray) (i : Nat) (h : i ≤ t.size) : t.extract 0 i ++ t.extract i t.size = t := by
  rw [ByteArray.extract_append_extract, Nat.min_eq_left (by omega), Nat.max_eq_right (by omega), ByteArray.extract_zero_size]
theorem whole_head {t : ByteArray} {used : Nat} {m : M} (hw : Whole t used m) (hu : used ≤ t.size) :
    t = (⟨#[87]⟩ : ByteArray) ++ (nb m.body.size ++ (m.body ++ (sum4 (nb m.body.size ++ m.body) ++ t.extract used t.size))) ∧ used = 1 + (nb m.body.size).size + m.body.size + 4 := by
  obtain ⟨h1, h2⟩ := hw
  rw [M.text_is] at h2
  have hz := congrArg ByteArray.size h2
  rw [ByteArray.size_append, ByteArray.size_append, ByteArray.size_append, ByteArray.size_extract, sum4_size, show (⟨#[87]⟩ : ByteArray).size = 1 from rfl, Nat.min_eq_left hu] at hz
  refine ⟨?_, by omega⟩
  have := split_at t used hu
  rw [← h2] at this
  rw [← ByteArray.append_assoc, ← ByteArray.append_assoc, ← ByteArray.append_assoc]
  rw [ByteArray.append_assoc, ByteArray.append_assoc] at this ⊢
  simp only [ByteArray.append_assoc] at this ⊢
  exact this.symm
theorem text_tail {t u : ByteArray} (h : t = (⟨#[87]⟩ : ByteArray) ++ u) : t.extract 1 t.size = u := by
  rw [h]; exact ByteArray.extract_append_eq_right rfl (by rw [ByteArray.size_append])
theorem whole_NF {t r : ByteArray} {used : Nat} {m : M} {n : Int} {c : Bool} (hw : Whole t used m) (hu : used ≤ t.size) (h : NF (t.extract 1 t.size) = (n, r, c)) :
    n = m.body.size ∧ c = false ∧ r = m.body ++ (sum4 (nb m.body.size ++ m.body) ++ t.extract used t.size) := by
  obtain ⟨h1, h2⟩ := whole_head hw hu
  have hb := body_size hw.1
  rw [text_tail h1, NF_back _ _ (by omega) (by omega)] at h
  simp only [Prod.mk.injEq] at h
  exact ⟨h.1.symm, h.2.2.symm, h.2.1.symm⟩
theorem whole_body {t r : ByteArray} {used : Nat} {m : M} {n : Int} {c : Bool} (hw : Whole t used m) (hu : used ≤ t.size) (h : NF (t.extract 1 t.size) = (n, r, c)) : r.extract 0 n.toNat = m.body := by
  obtain ⟨h1, -, h3⟩ := whole_NF hw hu h
  rw [h3, h1]
  exact ByteArray.extract_append_eq_left (by simp)
theorem M.ext_note {m m' : M} (h : { m with note := (⟨#[]⟩ : ByteArray) } = { m' with note := (⟨#[]⟩ : ByteArray) }) (h2 : m.note = m'.note) : m = m' := by
  cases m; cases m'; simp only [M.mk.injEq] at *; simp_all
theorem whole_one {t : ByteArray} {used : Nat} {m m' : M} (h : Whole t used m) (h' : Whole t used m') (hu : used ≤ t.size) : m' = m := by
  have e : NF (t.extract 1 t.size) = ((NF (t.extract 1 t.size)).1, (NF (t.extract 1 t.size)).2.1, (NF (t.extract 1 t.size)).2.2) := rfl
  have h1 := (whole_body h hu e).symm.trans (whole_body h' hu e)
  have h2 := bodyF_back h.1
  rw [h1, bodyF_back h'.1] at h2
  simp only [Prod.mk.injEq] at h2
  exact M.ext_note h2.1 h2.2.2.1
theorem tailO_yes {t : ByteArray} {used : Nat} {m : M} (h : Whole t used m) (hu : used ≤ t.size) : tailO t used = outC m used 0 := by
  have hx : ∃ m, Whole t used m := ⟨m, h⟩
  rw [tailO, dif_pos hx, whole_one h (Classical.choose_spec hx) hu]
theorem tailO_no {t : ByteArray} {used : Nat} (h : ∀ m, ¬ Whole t used m) : tailO t used = outC M0 0 3 := by
  rw [tailO, dif_neg (fun ⟨m, hm⟩ => h m hm)]
/-- The reference's end: what it has read of the body, compared. -/
theorem tail_spec {t r : ByteArray} {n : Int} {c : Bool} {used : Nat} {m : M} {kk : Int} {rest : ByteArray} {bad : Bool} (hu : used ≤ t.size) (hn : NF (t.extract 1 t.size) = (n, r, c)) (hb : bodyF (r.extract 0 n.toNat, false) = (m, kk, rest, bad)) :
    ((bad = true ∨ (rest.size : Int) < kk) → tailO t used = outC M0 0 3) ∧
    (mtextR m.k m.id m.seq m.g m.wa m.we m.am m.un m.co (rest.extract 0 kk.toNat) ≠ t.extract 0 used → tailO t used = outC M0 0 3) ∧
    (0 < used → mtextR m.k m.id m.seq m.g m.wa m.we m.am m.un m.co (rest.extract 0 kk.toNat) = t.extract 0 used → tailO t used = outC { m with note := rest.extract 0 kk.toNat } used 0) := by
  refine ⟨fun h => tailO_no fun m' hw => ?_, fun h => tailO_no fun m' hw => ?_, fun h0 h => ?_⟩
  · rw [whole_body hw hu hn, bodyF_back hw.1] at hb
    simp only [Prod.mk.injEq] at hb
    obtain ⟨-, rfl, rfl, rfl⟩ := hb
    rcases h with h | h
    · cases h
    · omega
  · rw [whole_body hw hu hn, bodyF_back hw.1] at hb
    simp only [Prod.mk.injEq] at hb
    obtain ⟨rfl, rfl, rfl, rfl⟩ := hb
    refine h ?_
    simp only [Int.toNat_natCast, ByteArray.extract_zero_size]
    rw [mtextR, show msgB m'.k m'.id m'.seq m'.g m'.wa m'.we m'.am m'.un m'.co m'.note.size = true from hw.1, if_pos rfl]
    exact hw.2
  · refine tailO_yes ⟨?_, ?_⟩ hu
    · rw [mtextR] at h
      split at h
      · assumption
      · have := congrArg ByteArray.size h
        rw [ByteArray.size_extract, Nat.min_eq_left hu, show (⟨#[]⟩ : ByteArray).size = 0 from rfl] at this
        omega
    · rw [mtextR] at h
      split at h
      · exact h
      · have := congrArg ByteArray.size h
        rw [ByteArray.size_extract, Nat.min_eq_left hu, show (⟨#[]⟩ : ByteArray).size = 0 from rfl] at this
        omega
/-- The program's end. -/
theorem tail_impl {t r : ByteArray} {n : Int} {c : Bool} {used : Nat} {m : M} {kk : Int} {rest : Option ByteArray} (hu : used ≤ t.size) (hn : NF (t.extract 1 t.size) = (n, r, c)) (hb : bodyG (r.extract 0 n.toNat) = (m, kk, rest)) :
    ((rest = none) → tailO t used = outC M0 0 3) ∧
    (∀ s, rest = some s → ((s.size : Int) ≠ kk → tailO t used = outC M0 0 3) ∧
      (({ m with note := s } : M).ok = false → tailO t used = outC M0 0 3) ∧
      (({ m with note := s } : M).ok = true → ({ m with note := s } : M).text ≠ t.extract 0 used → tailO t used = outC M0 0 3) ∧
      (({ m with note := s } : M).ok = true → ({ m with note := s } : M).text = t.extract 0 used → tailO t used = outC { m with note := s } used 0)) := by
  have key : ∀ m', Whole t used m' → { m' with note := (⟨#[]⟩ : ByteArray) } = m ∧ (m'.note.size : Int) = kk ∧ some m'.note = rest := by
    intro m' hw
    rw [whole_body hw hu hn, bodyG_back hw.1] at hb
    simp only [Prod.mk.injEq] at hb
    exact hb
  refine ⟨fun h => tailO_no fun m' hw => ?_, ?_⟩
  · have := (key m' hw).2.2
    rw [h] at this
    cases this
  · rintro s rfl
    refine ⟨fun h => tailO_no fun m' hw => ?_, fun h => tailO_no fun m' hw => ?_, fun h1 h2 => tailO_no fun m' hw => ?_, fun h1 h2 => tailO_yes ⟨h1, h2⟩ hu⟩
    all_goals obtain ⟨rfl, k2, k3⟩ := key m' hw
    all_goals obtain rfl := Option.some.inj k3
    · exact h k2
    · have : m'.ok = false := h
      rw [hw.1] at this
      cases this
    · exact h2 hw.2
/-- The head: a length of at most two bytes, as the program takes it out of the first two. -/
theorem takeG_range (k : Nat) : ∀ (i : Nat) (t : ByteArray) (n x : Int) (r : ByteArray), 0 ≤ n → takeG k t n i = some (x, r) → 0 ≤ x := by
  induction k with
  | zero => intro i t n x r _ h; simp [takeG] at h
  | succ k ih =>
    intro i t n x r h0 h
    rw [takeG] at h
    have hm0 : 0 ≤ bt t i % 128 * 128 ^ i := Int.mul_nonneg (by omega) (Int.le_of_lt (Int.pow_pos (by decide)))
    split at h
    · split at h
      · simp only [Option.some.injEq, Prod.mk.injEq] at h
        omega
      · exact ih (i + 1) t _ x r (by omega) h
    · cases h
theorem ext_all (x : ByteArray) (k : Nat) (h : x.size ≤ k) : x.extract 0 k = x := by
  apply ByteArray.ext
  rw [ByteArray.data_extract, Array.extract_eq_self_of_le (by simpa using h)]
theorem nb_size2 {n : Int} (h0 : 0 ≤ n) (h1 : n ≤ 200) : (nb n).size ≤ 2 ∧ 1 ≤ (nb n).size := by
  rw [nb_len]
  exact ⟨nbl_le 2 9 n h0 (by omega) (by omega), nbl_pos 9 n⟩
/-- What the program takes of the head says the same as what the reference reads of it. -/
theorem head_yes {t r : ByteArray} {n : Int} (h : NF t = (n, r, false)) (hn : n ≤ 200) :
    TF (t.extract 0 (min t.size 2)) = some (n, r.extract 0 (min t.size 2 - (nb n).size)) ∧ nb n ++ r.extract 0 (min t.size 2 - (nb n).size) = t.extract 0 (min t.size 2) ∧ 0 ≤ n ∧ t = nb n ++ r := by
  obtain ⟨h1, h0, -⟩ := NF_was h
  obtain ⟨z2, z1⟩ := nb_size2 h0 hn
  have hz : t.size = (nb n).size + r.size := by rw [h1, ByteArray.size_append]
  have e : nb n ++ r.extract 0 (min t.size 2 - (nb n).size) = t.extract 0 (min t.size 2) := by
    have e2 : t.extract 0 (min t.size 2) = (nb n ++ r).extract 0 (min t.size 2) := by rw [← h1]
    rw [e2, ByteArray.extract_append, Nat.zero_sub]
    congr 1
    exact (ext_all _ _ (by omega)).symm
  refine ⟨?_, e, h0, h1⟩
  rw [← e]
  exact TF_back n _ h0 (by omega)
theorem head_no {t u : ByteArray} {n : Int} {r' : ByteArray} (hu : u = t.extract 0 (min t.size 2)) (h : TF u = some (n, r')) (hn : n ≤ 200) (he : nb n ++ r' = u) : ∃ r, NF t = (n, r, false) := by
  have h0 : 0 ≤ n := takeG_range 8 0 u 0 n r' (by omega) h
  have : t = nb n ++ (r' ++ t.extract (min t.size 2) t.size) := by
    rw [← ByteArray.append_assoc, he, hu, split_at t _ (by omega)]
  exact ⟨_, by rw [this]; exact NF_back n _ h0 (by omega)⟩
end Go.Proofs.Ytddemmmbbleofaa.C
