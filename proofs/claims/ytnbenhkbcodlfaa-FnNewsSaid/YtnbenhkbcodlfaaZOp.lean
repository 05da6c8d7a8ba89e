/- What the rows' arguments open to, type by type (written by genop.py, own work). -/
import Derived.Test.YtnbenhkbcodlfaaZTy
import Derived.Test.YtnbenhkbcodlfaaZTr
import Derived.Test.YtnbenhkbcodlfaaChecked
namespace Go.Proofs.Ytnbenhkbcodlfaa
open Go Go.RowKit Mk
end Go.Proofs.Ytnbenhkbcodlfaa
