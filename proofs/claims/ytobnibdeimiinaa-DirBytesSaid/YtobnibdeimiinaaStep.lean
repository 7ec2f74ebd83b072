/- Append at a step of a region that draws its order. -/
import Derived.Test.YtobnibdeimiinaaBs
import Derived.Deep.AppendLies
import Derived.Deep.RegionHeld3
import Derived.Lib.MinMax
namespace Go.Proofs.Ytobnibdeimiinaa
open Go.RowKit

end Go.Proofs.Ytobnibdeimiinaa
