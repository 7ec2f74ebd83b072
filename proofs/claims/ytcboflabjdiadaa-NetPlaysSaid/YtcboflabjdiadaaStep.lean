/- Append at a step of a region that draws its order. -/
import Derived.Test.YtcboflabjdiadaaHelp
import Derived.Deep.AppendLies
import Derived.Deep.RegionHeld3
import Derived.Lib.MinMax
namespace Go.Proofs.Ytcboflabjdiadaa
open Go.RowKit

end Go.Proofs.Ytcboflabjdiadaa
