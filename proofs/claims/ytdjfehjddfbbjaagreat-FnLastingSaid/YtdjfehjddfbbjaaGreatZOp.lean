/- What the rows' arguments open to, type by type (written by genop.py, own work). -/
import Derived.Test.YtdjfehjddfbbjaaGreatZTy
import Derived.Test.YtdjfehjddfbbjaaGreatZTr
import Derived.Test.YtdjfehjddfbbjaaGreatChecked
namespace Go.Proofs.YtdjfehjddfbbjaaGreat
open Go Go.RowKit Mk
end Go.Proofs.YtdjfehjddfbbjaaGreat
