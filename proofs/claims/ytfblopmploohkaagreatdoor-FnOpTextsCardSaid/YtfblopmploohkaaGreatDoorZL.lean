/- The reference's CrashReplica and TimeoutReplica (written by gH10.py, own work). -/
import Derived.Test.YtfblopmploohkaaGreatDoorZK
import Derived.Test.YtfblopmploohkaaGreatDoorZB
import Derived.Test.YtfblopmploohkaaGreatDoorZI
set_option linter.unusedVariables false
set_option linter.unusedSimpArgs false
namespace Go.Proofs.YtfblopmploohkaaGreatDoor
open Go Go.RowKit Mk
theorem past_of {α : Type} {d : Kd α} {e : TypeId} {B lo lo2 : Nat} {w W : World} {fp : List Nat} {v : Value} {xs : List α} (h : OwnS d e B w fp v xs) (h1 : lo ≤ B) (h2 : lo2 ≤ B) (hp : Past lo w W) : OwnS d e lo2 W fp v xs := OwnS.past h hp h1 h2
end Go.Proofs.YtfblopmploohkaaGreatDoor

/- The reference's TimeoutReplica (written by gH13.py, own work). -/
set_option linter.unusedVariables false
set_option linter.unusedSimpArgs false
namespace Go.Proofs.YtfblopmploohkaaGreatDoor
open Go Go.RowKit Mk
end Go.Proofs.YtfblopmploohkaaGreatDoor
