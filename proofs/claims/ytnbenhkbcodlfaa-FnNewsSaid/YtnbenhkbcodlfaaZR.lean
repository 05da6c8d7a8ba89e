/- The reference's l9Agreed, l9Led, l9Enough (own work). -/
import Derived.Test.YtnbenhkbcodlfaaZN
import Derived.Test.YtnbenhkbcodlfaaZL
import Derived.Test.YtnbenhkbcodlfaaZP
set_option linter.unusedVariables false
set_option linter.unusedSimpArgs false
namespace Go.Proofs.Ytnbenhkbcodlfaa
open Go Go.RowKit Mk
end Go.Proofs.Ytnbenhkbcodlfaa

/- The reference's l9Led and AskReplica (written by gN6.py, own work). -/
set_option linter.unusedVariables false
set_option linter.unusedSimpArgs false
namespace Go.Proofs.Ytnbenhkbcodlfaa
open Go Go.RowKit Mk
end Go.Proofs.Ytnbenhkbcodlfaa
