/- What comes of something that a node of a cluster does: the program's nodeDone (written by gJ6.py, own work). -/
import Derived.Test.YtdjfehjddfbbjaaGreatZJ5
set_option linter.unusedVariables false
set_option linter.unusedSimpArgs false
namespace Go.Proofs.YtdjfehjddfbbjaaGreat
open Go Go.RowKit Mk
end Go.Proofs.YtdjfehjddfbbjaaGreat
