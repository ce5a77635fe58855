/- What guerdonsame.Strings computes: whether two slices of strings read alike. -/
import Derived.Test.YtemejaomfbhldaaGreatDoorStrs
namespace Go.Proofs.YtemejaomfbhldaaGreatDoor
open Go.RowKit

theorem neq_str (X Y : ByteArray) : (X.toList == Y.toList) = decide (X = Y) := by
  rw [toList_L, toList_L]
  by_cases h : X = Y
  · rw [h]; simp
  · have : L X ≠ L Y := fun e => h (L_inj.1 e)
    simp [h, this]
end Go.Proofs.YtemejaomfbhldaaGreatDoor
