/- What the reference's FormatFixed computes. -/
import Derived.Test.YtdnjfpmngnkcfaaGreatDoorFixed
import Derived.Test.YtdnjfpmngnkcfaaGreatDoorRefParseC
namespace Go.Proofs.YtdnjfpmngnkcfaaGreatDoor
open Go.RowKit

theorem absD_head (n : Int) : (absD n).head? ≠ some 45 := by
  intro h
  have hd := decDigits_all n.natAbs
  have hm : (45 : UInt8) ∈ absD n := List.mem_of_mem_head? h
  rw [List.all_eq_true] at hd
  exact absurd (hd 45 hm) (by decide)
theorem numS_neg_b (n : Int) : negB (L (numS n)) = decide (n < 0) ∧ bodyL (L (numS n)) = absD n := by
  by_cases hn : n < 0
  · rw [numS_neg hn, L_bs]
    exact ⟨by rw [decide_eq_true hn]; rfl, rfl⟩
  · rw [numS_pos hn, L_bs]
    have h : negB (absD n) = false := by
      have := absD_head n
      unfold negB
      rw [beq_eq_false_iff_ne]; exact this
    exact ⟨by rw [h, decide_eq_false hn], by rw [bodyL, h]; rfl⟩
end Go.Proofs.YtdnjfpmngnkcfaaGreatDoor
