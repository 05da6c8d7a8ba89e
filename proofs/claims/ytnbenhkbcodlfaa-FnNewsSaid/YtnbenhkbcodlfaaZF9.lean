/- The reference's EvenCluster. -/
import Derived.Test.YtnbenhkbcodlfaaZF8
set_option linter.unusedVariables false
set_option linter.unusedSimpArgs false
namespace Go.Proofs.Ytnbenhkbcodlfaa
open Go Go.RowKit Mk
def evenX (c : SCluster) : Bool := clusF c == 0 && evenB c
theorem isB_eqL {a b : List SEntry} (h : ((a.length : Int) != (b.length : Int)) = false) : isB a b = eqL a b := by
  have e : (a.length == b.length) = true := by simp only [bne_eq_false_iff_eq] at h; rw [beq_iff_eq]; omega
  unfold isB eqL; rw [e]; rfl
theorem eqL_len {a b : List SEntry} (h : ((a.length : Int) != (b.length : Int)) = true) : eqL a b = false := by
  have e : (a.length == b.length) = false := by rw [bne_iff_ne] at h; rw [beq_eq_false_iff_ne]; omega
  unfold eqL; rw [e]; rfl
end Go.Proofs.Ytnbenhkbcodlfaa
