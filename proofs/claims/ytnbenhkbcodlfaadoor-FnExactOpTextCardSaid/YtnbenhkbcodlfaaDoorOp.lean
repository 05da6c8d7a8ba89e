/- What the rows' arguments open to, type by type (written by genop.py, own work). -/
import Derived.Test.YtnbenhkbcodlfaaDoorTy
import Derived.Test.YtnbenhkbcodlfaaDoorTr
import Derived.Test.YtnbenhkbcodlfaaDoorChecked
namespace Go.Proofs.YtnbenhkbcodlfaaDoor
open Go Go.RowKit Mk
theorem opensOp : Opens Tryd.prog kOp 30 :=
  opens_struct (ts := [(2, 0), (2, 1), (2, 2), (2, 3)]) (by kernel_rfl) (by kernel_rfl) (fun ⟨x0, x1, x2, x3⟩ => ⟨⟨x0, x1, x2, x3⟩, rfl⟩) (opensF_cons (by kernel_rfl) (opens_int (by kernel_rfl)) (opensF_cons (by kernel_rfl) (opens_int (by kernel_rfl)) (opensF_cons (by kernel_rfl) (opens_int (by kernel_rfl)) (opensF_one (by kernel_rfl) (opens_int (by kernel_rfl))))))
end Go.Proofs.YtnbenhkbcodlfaaDoor
