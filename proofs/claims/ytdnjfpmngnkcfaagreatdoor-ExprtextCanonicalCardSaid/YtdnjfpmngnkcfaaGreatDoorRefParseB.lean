/- What the reference's ParseInt computes. -/
import Derived.Test.YtdnjfpmngnkcfaaGreatDoorRefParse
namespace Go.Proofs.YtdnjfpmngnkcfaaGreatDoor
open Go.RowKit

theorem isZ_iff (b : ByteArray) : (b.toList == [48]) = decide (L b = [48]) := by
  rw [toList_L]
  by_cases h : L b = [48]
  · rw [h]; rfl
  · simp [h]

end Go.Proofs.YtdnjfpmngnkcfaaGreatDoor
