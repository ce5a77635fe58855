/- What the functions of the reference of package date compute. -/
import Derived.Test.YtdnjfpmngnkcfaaGreatDoorDateC
namespace Go.Proofs.YtdnjfpmngnkcfaaGreatDoor
open Go.RowKit

theorem rymd_no {y m d : Int} (h : ymdB y m d = false) : y < 1900 ∨ (1900 ≤ y ∧ 2199 < y) ∨ (1900 ≤ y ∧ y ≤ 2199 ∧ d < 1) ∨ (1900 ≤ y ∧ y ≤ 2199 ∧ 1 ≤ d ∧ dimS y m < d) := by
  rcases ymd_no h with h | h | h | h | h | h
  · omega
  · omega
  · have := dimS_out (y := y) (m := m) (by omega); omega
  · have := dimS_out (y := y) (m := m) (by omega); omega
  · omega
  · omega
end Go.Proofs.YtdnjfpmngnkcfaaGreatDoor
