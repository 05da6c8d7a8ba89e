/- What a value holds, and the laws' size functions (written by gD1.py, own work). -/
import Derived.Test.YtnbenhkbcodlfaaTy
import Derived.Test.YtnbenhkbcodlfaaRo
import Derived.Test.YtnbenhkbcodlfaaProg
set_option linter.unusedVariables false
set_option linter.unusedSimpArgs false
namespace Go.Proofs.Ytnbenhkbcodlfaa
open Go Go.RowKit Mk
theorem totL_take {α : Type} (f : α → Nat) (xs : List α) (k : Nat) (hk : k < xs.length) : ((xs.take (k + 1)).map f).sum = ((xs.take k).map f).sum + f xs[k] := by
  rw [List.take_succ_eq_append_getElem hk, List.map_append, List.sum_append]; simp only [List.map_cons, List.map_nil, List.sum_cons, List.sum_nil, Nat.add_zero]
theorem totL_le {α : Type} (f : α → Nat) (xs : List α) (k : Nat) : ((xs.take k).map f).sum ≤ (xs.map f).sum := by
  conv => rhs; rw [← List.take_append_drop k xs]
  rw [List.map_append, List.sum_append]; omega
def totL {α : Type} (f : α → Nat) (xs : List α) : Nat := xs.length + (xs.map f).sum
/-- What a size function comes to: what is left, or less than nothing. -/
def Left (left : Int) (t : Nat) (r : Int) : Prop := r ≤ left ∧ -1 ≤ r ∧ (0 ≤ r → (t : Int) + r ≤ left)
theorem szInt64S_c (A : Option Addr) (n c : Nat) (left : Int) (w : World) (hn : n ≤ 9223372036854775807) (hl0 : 0 ≤ left) (hl1 : left ≤ 1048576) :
    Calls Try.prog 25 #[.slice A n c, .int .i64 left] w fun e w' => (∃ r : Int, e = .returned (.int .i64 r) ∧ Left left n r) ∧ Below w.heap.size w w' := by
  go_enter Try.func25, Try.ntmps25
  go_wp2
  all_goals (go_ret; exact ⟨⟨_, rfl, by unfold Left; omega⟩, by repeat (first | assumption | exact Below.refl _ _ | (refine below_trans ?_ (by assumption)) | apply below_alloc | apply below_drewN | apply Below.drew)⟩)
def totDoer (x : SDoer) : Nat := x.Log.length
def totReplica (x : SReplica) : Nat := x.Log.length + x.Oks.length + x.Asks.length + totL totDoer x.Doers
def totMail (x : SMail) : Nat := x.Log.length
def totCluster (x : SCluster) : Nat := totL totReplica x.Nodes + totL totMail x.Mails + x.Sealed.length
end Go.Proofs.Ytnbenhkbcodlfaa
