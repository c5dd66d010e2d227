/- Written by a program of ours (wip/eng/law.py): what a reading of the arguments says. -/
import Derived.Test.YtmiikbfacgmopaaFacts
import Derived.Test.YtmiikbfacgmopaaEngN
import Derived.ChangeShapes
namespace Go.Proofs.Ytmiikbfacgmopaa.W
open Go Go.RowKit Go.Proofs Go.Proofs.Ytmiikbfacgmopaa.E Go.Proofs.Ytmiikbfacgmopaa.M
set_option linter.unusedVariables false
section
variable {H : Type} {enc : TypeId × Value → H} {w : World}

end
end Go.Proofs.Ytmiikbfacgmopaa.W
