/- What the row of CasedataRoundTrip says of the listed tables. -/
import Derived.Test.YtjeifmjcgemlgaaGreatDoorRtLaw
import Derived.Test.YtjeifmjcgemlgaaGreatDoorRgC
import Derived.Stop.LaidErr
import Derived.Shelf.Vars
namespace Go.Proofs.YtjeifmjcgemlgaaGreatDoor
open Go.ChangeShapes Go.WideShapes Go.ChangeAt Go.RowKit Go.Joins

theorem envRt {W : World} (h : laidMetH Tryz.prog Rows.casedataRoundTripRow.laid W) : Mon W ∧ Pow W := by
  have h0 : laidMet Tryz.prog Rows.casedataRoundTripRow.laid W := h
  have h3 := h0.tail.tail
  have h5 := h3.tail.tail
  have t3 : Lib.TabIs Tryz.prog W "internal/strconv.uint64pow10" .u64 Lib.pow10Tab :=
    Lib.tabIs_of_head (g := 4) (t := 195) (e := 161) (n := 20) (by kernel_rfl) (by kernel_rfl) (by kernel_rfl) (by kernel_rfl) (by kernel_rfl) (by kernel_rfl) h3
  have t5 : Lib.TabIs Tryz.prog W "guerdon/date.monthLengths" .i64 mlens :=
    Lib.tabIs_of_head (g := 0) (t := 141) (e := 3) (n := 12) (by kernel_rfl) (by kernel_rfl) (by kernel_rfl) (by kernel_rfl) (by kernel_rfl) (by kernel_rfl) h5
  refine ⟨fun i hi => ?_, t3⟩
  exact t5.cell (g := 0) (by kernel_rfl) i hi
theorem envMaxRt {W : World} (h : W.ShapedOpen Tryz.prog) : MaxV W :=
  cell_of_shapedOpen_int (g := 1) (t := 3) (zero := #[.int .i64 0]) h (of_decide_eq_true (by kernel_rfl)) (by kernel_rfl) rfl (by kernel_rfl) (by kernel_rfl) (by kernel_rfl)
end Go.Proofs.YtjeifmjcgemlgaaGreatDoor
