/- The reference's BeatReplica (written by gO5.py, own work). -/
import Derived.Test.YtnbenhkbcodlfaaZO4
import Derived.Test.YtnbenhkbcodlfaaZR
import Derived.Test.YtnbenhkbcodlfaaZL
set_option linter.unusedVariables false
set_option linter.unusedSimpArgs false
namespace Go.Proofs.Ytnbenhkbcodlfaa
open Go Go.RowKit Mk
end Go.Proofs.Ytnbenhkbcodlfaa
