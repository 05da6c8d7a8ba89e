/- What the rows' arguments open to, type by type (written by genop.py, own work). -/
import Derived.Test.YtfblopmploohkaaGreatDoorZTy
import Derived.Test.YtfblopmploohkaaGreatDoorZTr
import Derived.Test.YtfblopmploohkaaGreatDoorChecked
namespace Go.Proofs.YtfblopmploohkaaGreatDoor
open Go Go.RowKit Mk
end Go.Proofs.YtfblopmploohkaaGreatDoor
