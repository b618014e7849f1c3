/- How a slice of acts is opened, a struct of two ints each: plain lemmas over any program. -/
import Derived.Deep.Slices
import Derived.Deep.Fields
import Derived.ChangeSame
import Derived.Test.YteijjhahgabalaaGreatWF05
set_option maxRecDepth 100000
set_option maxHeartbeats 8000000
set_option linter.all false
namespace Go.Proofs.YteijjhahgabalaaGreat
open Go.ChangeShapes Go.WideShapes Go.RowKit Go.Deep
section
variable{H:Type}{enc:TypeId×Value->H}{P:Program}{w:World}{base:Nat}{held:Bool}{t:TypeId}{v:Value}{r:Reach}
end
end Go.Proofs.YteijjhahgabalaaGreat
