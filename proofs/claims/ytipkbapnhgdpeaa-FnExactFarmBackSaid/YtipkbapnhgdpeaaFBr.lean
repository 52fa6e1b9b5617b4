/- FarmBack of the reference, by kinds. No condition. -/
import Derived.Test.YtipkbapnhgdpeaaFBk
namespace Go.Proofs.Ytipkbapnhgdpeaa.C
open Go.RowKit
set_option maxRecDepth 100000
set_option linter.unusedVariables false
set_option linter.unusedSimpArgs false
attribute [local go_sem ↓] Go.wp_at_zero Go.wp_at_succ
def putR (w : World) (b : Nat) (x y z p : Int) : World := (((w.setCell ⟨b, 0, none⟩ (.int .i64 x)).setCell ⟨b, 1, none⟩ (.int .i64 y)).setCell ⟨b, 2, none⟩ (.int .i64 z)).setCell ⟨b, 3, none⟩ (.int .i64 p)
theorem putR_blk {w : World} {B b : Nat} {t : TypeId} {a0 a1 a2 a3 : Int} (h : Blk w B b #[.int .i64 a0, .int .i64 a1, .int .i64 a2, .int .i64 a3] t) (x y z p : Int) : Blk (putR w b x y z p) B b #[.int .i64 x, .int .i64 y, .int .i64 z, .int .i64 p] t :=
  ((((h.setc 0 (.int .i64 x)).setc 1 (.int .i64 y)).setc 2 (.int .i64 z)).setc 3 (.int .i64 p)).cast (by simp only [List.setIfInBounds_toArray, List.set_cons_zero, List.set_cons_succ])
theorem putR_below {B : Nat} {w0 w : World} (h : Below B w0 w) {b : Nat} (hb : B ≤ b) (x y z p : Int) : Below B w0 (putR w b x y z p) :=
  (((h.setCell (p := ⟨b, 0, none⟩) hb _).setCell (p := ⟨b, 1, none⟩) hb _).setCell (p := ⟨b, 2, none⟩) hb _).setCell (p := ⟨b, 3, none⟩) hb _
theorem putR_far {w : World} {B b g : Nat} {cs : Array Value} {t : TypeId} (h : Blk w B b cs t) (hne : b ≠ g) (x y z p : Int) : Blk (putR w g x y z p) B b cs t :=
  (((h.setf (p := ⟨g, 0, none⟩) hne _).setf (p := ⟨g, 1, none⟩) hne _).setf (p := ⟨g, 2, none⟩) hne _).setf (p := ⟨g, 3, none⟩) hne _
end Go.Proofs.Ytipkbapnhgdpeaa.C
