/- The reference's cluster: codes, a mail copied, a cluster copied (written by gJ7.py, own work). -/
import Derived.Test.YtfblopmploohkaaGreatDoorZJ5
import Derived.Test.YtfblopmploohkaaGreatDoorZB
set_option linter.unusedVariables false
set_option linter.unusedSimpArgs false
namespace Go.Proofs.YtfblopmploohkaaGreatDoor
open Go Go.RowKit Mk
end Go.Proofs.YtfblopmploohkaaGreatDoor
