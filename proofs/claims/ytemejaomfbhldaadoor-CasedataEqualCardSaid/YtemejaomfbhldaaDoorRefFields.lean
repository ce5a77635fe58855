/- What the reference's Fields computes. -/
import Derived.Test.YtemejaomfbhldaaDoorFields
namespace Go.Proofs.YtemejaomfbhldaaDoor
open Go.RowKit

end Go.Proofs.YtemejaomfbhldaaDoor
