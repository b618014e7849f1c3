/- The contract of arena's Words. -/
import Derived.Maps.AppendAt
import Derived.Test.YteijjhahgabalaaGreatWF06
import Derived.Test.YteijjhahgabalaaGreatWF11
set_option maxRecDepth 100000
set_option maxHeartbeats 8000000
set_option linter.all false
namespace Go.Proofs.YteijjhahgabalaaGreat
open Go.RowKit

end Go.Proofs.YteijjhahgabalaaGreat
