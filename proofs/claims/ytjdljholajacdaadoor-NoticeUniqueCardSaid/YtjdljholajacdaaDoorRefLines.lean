/- What the reference's SplitLines computes. -/
import Derived.Test.YtjdljholajacdaaDoorLines
namespace Go.Proofs.YtjdljholajacdaaDoor
open Go.RowKit

end Go.Proofs.YtjdljholajacdaaDoor
