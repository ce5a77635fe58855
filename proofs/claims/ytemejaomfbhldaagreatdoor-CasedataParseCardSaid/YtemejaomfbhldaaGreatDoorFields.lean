/- What Fields of package numtext, and of the reference, computes: the words of a string. -/
import Derived.Test.YtemejaomfbhldaaGreatDoorFieldsMath
namespace Go.Proofs.YtemejaomfbhldaaGreatDoor
open Go.RowKit

theorem ret_strs {e : Ending} {v : Value} {w w' : World} {xs : List ByteArray} (h1 : e = .returned v) (h2 : Strs w' v xs) (h3 : Kept w w') : ∃ v, e = .returned v ∧ Strs w' v xs ∧ Kept w w' := ⟨v, h1, h2, h3⟩

end Go.Proofs.YtemejaomfbhldaaGreatDoor
