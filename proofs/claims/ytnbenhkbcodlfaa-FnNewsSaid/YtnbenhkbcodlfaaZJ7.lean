/- The reference's cluster: codes, a mail copied, a cluster copied (written by gJ7.py, own work). -/
import Derived.Test.YtnbenhkbcodlfaaZJ5
import Derived.Test.YtnbenhkbcodlfaaZB
set_option linter.unusedVariables false
set_option linter.unusedSimpArgs false
namespace Go.Proofs.Ytnbenhkbcodlfaa
open Go Go.RowKit Mk
set_option maxRecDepth 100000 in
theorem l11Bad_c (k : Int) (w : World) : Calls Try.prog 38 #[.int .i64 k] w fun r w' => r = .returned (.agg #[.int .i64 k, .slice none 0 0, .slice none 0 0, .slice none 0 0]) ∧ Below w.heap.size w w' := by
  go_enter Try.func38, Try.ntmps38
  go_wp2_with fail
  refine bodyPost_ret (v := .agg #[.int .i64 k, .slice none 0 0, .slice none 0 0, .slice none 0 0]) (by simp [results, Try.results38, go_sem]) rfl ⟨rfl, ?_⟩
  repeat (first | (with_reducible assumption) | (with_reducible exact Below.refl _ _) | (with_reducible apply below_alloc) | (with_reducible apply below_drewN) | (with_reducible apply Below.drew) | (with_reducible refine below_set ?_ (by dsimp only; omega) _) | (with_reducible refine below_trans ?_ (by assumption)))
end Go.Proofs.Ytnbenhkbcodlfaa
