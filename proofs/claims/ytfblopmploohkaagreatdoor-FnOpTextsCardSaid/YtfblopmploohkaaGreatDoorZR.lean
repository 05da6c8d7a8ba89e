/- The reference's l9Agreed, l9Led, l9Enough (own work). -/
import Derived.Test.YtfblopmploohkaaGreatDoorZN
import Derived.Test.YtfblopmploohkaaGreatDoorZL
import Derived.Test.YtfblopmploohkaaGreatDoorZP
set_option linter.unusedVariables false
set_option linter.unusedSimpArgs false
namespace Go.Proofs.YtfblopmploohkaaGreatDoor
open Go Go.RowKit Mk
end Go.Proofs.YtfblopmploohkaaGreatDoor

/- The reference's l9Led and AskReplica (written by gN6.py, own work). -/
set_option linter.unusedVariables false
set_option linter.unusedSimpArgs false
namespace Go.Proofs.YtfblopmploohkaaGreatDoor
open Go Go.RowKit Mk
end Go.Proofs.YtfblopmploohkaaGreatDoor
