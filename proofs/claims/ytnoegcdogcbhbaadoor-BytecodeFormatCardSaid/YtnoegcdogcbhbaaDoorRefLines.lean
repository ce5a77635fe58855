/- What the reference's SplitLines computes. -/
import Derived.Test.YtnoegcdogcbhbaaDoorLines
namespace Go.Proofs.YtnoegcdogcbhbaaDoor
open Go.RowKit

end Go.Proofs.YtnoegcdogcbhbaaDoor
