/- Written by a program of ours (wip/eng/law.py): what a reading of the arguments says. -/
import Derived.Test.YthebmhkjelejbaaFacts
import Derived.Test.YthebmhkjelejbaaEngN
import Derived.ChangeShapes
namespace Go.Proofs.Ythebmhkjelejbaa.W
open Go Go.RowKit Go.Proofs Go.Proofs.Ythebmhkjelejbaa.E Go.Proofs.Ythebmhkjelejbaa.M
set_option linter.unusedVariables false
section
variable {H : Type} {enc : TypeId × Value → H} {w : World}

end
end Go.Proofs.Ythebmhkjelejbaa.W
