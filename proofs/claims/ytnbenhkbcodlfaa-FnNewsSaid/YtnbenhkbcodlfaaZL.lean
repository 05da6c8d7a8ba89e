/- The reference's CrashReplica and TimeoutReplica (written by gH10.py, own work). -/
import Derived.Test.YtnbenhkbcodlfaaZK
import Derived.Test.YtnbenhkbcodlfaaZB
import Derived.Test.YtnbenhkbcodlfaaZI
set_option linter.unusedVariables false
set_option linter.unusedSimpArgs false
namespace Go.Proofs.Ytnbenhkbcodlfaa
open Go Go.RowKit Mk
set_option maxRecDepth 100000 in
theorem l9Bad_c (k : Int) (w : World) : Calls Try.prog 54 #[.int .i64 k] w fun r w' => r = .returned (.agg #[.int .i64 k, .int .i64 0, .int .i64 0, .int .i64 0, .bool false, .int .i64 0, .slice none 0 0, .int .i64 0, .slice none 0 0, .slice none 0 0, .slice none 0 0, .slice none 0 0]) ∧ Below w.heap.size w w' := by
  go_enter Try.func54, Try.ntmps54
  go_wp2_with fail
  refine bodyPost_ret (v := .agg #[.int .i64 k, .int .i64 0, .int .i64 0, .int .i64 0, .bool false, .int .i64 0, .slice none 0 0, .int .i64 0, .slice none 0 0, .slice none 0 0, .slice none 0 0, .slice none 0 0]) (by simp [results, Try.results54, go_sem]) rfl ⟨rfl, ?_⟩
  repeat (first | (with_reducible assumption) | (with_reducible exact Below.refl _ _) | (with_reducible apply below_alloc) | (with_reducible apply below_drewN) | (with_reducible apply Below.drew) | (with_reducible refine below_set ?_ (by dsimp only; omega) _) | (with_reducible refine below_trans ?_ (by assumption)))
theorem past_of {α : Type} {d : Kd α} {e : TypeId} {B lo lo2 : Nat} {w W : World} {fp : List Nat} {v : Value} {xs : List α} (h : OwnS d e B w fp v xs) (h1 : lo ≤ B) (h2 : lo2 ≤ B) (hp : Past lo w W) : OwnS d e lo2 W fp v xs := OwnS.past h hp h1 h2
end Go.Proofs.Ytnbenhkbcodlfaa

/- The reference's TimeoutReplica (written by gH13.py, own work). -/
set_option linter.unusedVariables false
set_option linter.unusedSimpArgs false
namespace Go.Proofs.Ytnbenhkbcodlfaa
open Go Go.RowKit Mk
end Go.Proofs.Ytnbenhkbcodlfaa
