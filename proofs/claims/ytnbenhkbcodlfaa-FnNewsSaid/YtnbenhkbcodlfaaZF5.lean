/- Whether the primary of the greatest view has all that is sealed: the reference's l13Have. -/
import Derived.Test.YtnbenhkbcodlfaaZF
import Derived.Test.YtnbenhkbcodlfaaZB
set_option linter.unusedVariables false
set_option linter.unusedSimpArgs false
namespace Go.Proofs.Ytnbenhkbcodlfaa
open Go Go.RowKit Mk
end Go.Proofs.Ytnbenhkbcodlfaa
