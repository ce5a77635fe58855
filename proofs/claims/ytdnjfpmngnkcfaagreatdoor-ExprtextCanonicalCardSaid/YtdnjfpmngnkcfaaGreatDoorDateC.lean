/- What date.Weekday, AddMonths and YearsBetween compute. -/
import Derived.Test.YtdnjfpmngnkcfaaGreatDoorDateB
namespace Go.Proofs.YtdnjfpmngnkcfaaGreatDoor
open Go.RowKit

def wdS (d : Int) : Int := if isDate d then d % 7 else -1
theorem addOk_not {a n : Int} (h : addOk a n = false) : isDate a = false ∨ (isDate a = true ∧ n < -3600) ∨ (isDate a = true ∧ -3600 ≤ n ∧ 3600 < n) ∨
    (isDate a = true ∧ -3600 ≤ n ∧ n ≤ 3600 ∧ monS a n < 0) ∨ (isDate a = true ∧ -3600 ≤ n ∧ n ≤ 3600 ∧ 0 ≤ monS a n ∧ 3599 < monS a n) := by
  cases hd : isDate a
  · exact .inl rfl
  · have h' : ¬ (isDate a = true ∧ -3600 ≤ n ∧ n ≤ 3600 ∧ 0 ≤ monS a n ∧ monS a n ≤ 3599) := by rw [← addOk_iff, h]; simp
    simp only [hd, true_and] at h'
    simp only [true_and]
    simp only [show (true = false) = False from by simp]
    omega
theorem ybIn_not {a b : Int} (h : ybIn a b = false) : isDate a = false ∨ (isDate a = true ∧ isDate b = false) ∨ (isDate a = true ∧ isDate b = true ∧ b < a) := by
  unfold ybIn at h
  cases ha : isDate a
  · exact .inl rfl
  · cases hb : isDate b
    · exact .inr (.inl ⟨rfl, rfl⟩)
    · refine .inr (.inr ⟨rfl, rfl, ?_⟩)
      rw [ha, hb] at h
      simpa using h
end Go.Proofs.YtdnjfpmngnkcfaaGreatDoor
