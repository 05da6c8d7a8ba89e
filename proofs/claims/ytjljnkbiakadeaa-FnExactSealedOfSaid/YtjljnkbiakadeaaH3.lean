/- A node of its own: the reference's l9Copy (written by gH3.py, own work). -/
import Derived.Test.YtjljnkbiakadeaaH2
set_option linter.unusedVariables false
set_option linter.unusedSimpArgs false
namespace Go.Proofs.Ytjljnkbiakadeaa
open Go Go.RowKit Mk
end Go.Proofs.Ytjljnkbiakadeaa
