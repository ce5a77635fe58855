/- What the reference's Fields computes. -/
import Derived.Test.YtnoegcdogcbhbaaDoorFields
namespace Go.Proofs.YtnoegcdogcbhbaaDoor
open Go.RowKit

end Go.Proofs.YtnoegcdogcbhbaaDoor
