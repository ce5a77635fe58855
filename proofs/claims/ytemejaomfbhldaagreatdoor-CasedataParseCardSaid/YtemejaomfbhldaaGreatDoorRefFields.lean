/- What the reference's Fields computes. -/
import Derived.Test.YtemejaomfbhldaaGreatDoorFields
namespace Go.Proofs.YtemejaomfbhldaaGreatDoor
open Go.RowKit

end Go.Proofs.YtemejaomfbhldaaGreatDoor
