/- The document's Reader.Bytes. -/
import Derived.Test.YtbkagefapmnojaaRefRdNum
namespace Go.Proofs.Ytbkagefapmnojaa
open Go.RowKit

end Go.Proofs.Ytbkagefapmnojaa
