/- What the reference's SplitLines computes. -/
import Derived.Test.YtemejaomfbhldaaDoorLines
namespace Go.Proofs.YtemejaomfbhldaaDoor
open Go.RowKit

end Go.Proofs.YtemejaomfbhldaaDoor
