/- What the reference's ToYMD, Weekday, AddMonths and YearsBetween compute. -/
import Derived.Test.YtdnjfpmngnkcfaaGreatDoorRefDate
namespace Go.Proofs.YtdnjfpmngnkcfaaGreatDoor
open Go.RowKit

/-- what the reference's AddMonths computes: the same, by another count of months -/
theorem addM_ref {a n : Int} (h : isDate a = true) (h1 : -3600 ≤ n) (h2 : n ≤ 3600) :
    addM a n = fromS ((12 * (toS a).1 + (toS a).2.1 - 1 + n) / 12) ((12 * (toS a).1 + (toS a).2.1 - 1 + n) % 12 + 1)
      (min (toS a).2.2 (dimS ((12 * (toS a).1 + (toS a).2.1 - 1 + n) / 12) ((12 * (toS a).1 + (toS a).2.1 - 1 + n) % 12 + 1))) := by
  have hm : 12 * (toS a).1 + (toS a).2.1 - 1 + n = monS a n + 12 * 1900 := by unfold monS; omega
  rw [hm, show (monS a n + 12 * 1900) / 12 = 1900 + monS a n / 12 from by omega, show (monS a n + 12 * 1900) % 12 = monS a n % 12 from by omega]
  cases hok : addOk a n
  · rw [addM_no hok, fromS_no]
    have hnot := addOk_not hok
    rw [h] at hnot
    cases hc : ymdB (1900 + monS a n / 12) (monS a n % 12 + 1) (min (toS a).2.2 (dimS (1900 + monS a n / 12) (monS a n % 12 + 1)))
    · rfl
    · have hc' := ymdB_iff.1 hc
      rcases hnot with hh | hh | hh | hh | hh
      · exact absurd hh (by decide)
      all_goals omega
  · exact addM_ok hok
end Go.Proofs.YtdnjfpmngnkcfaaGreatDoor
