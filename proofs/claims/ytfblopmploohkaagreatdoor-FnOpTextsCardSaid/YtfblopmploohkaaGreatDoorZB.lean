/- Faults: what the reference's functions come to (written by gB1.py, own work). -/
import Derived.Test.YtfblopmploohkaaGreatDoorZA
set_option linter.unusedVariables false
set_option linter.unusedSimpArgs false
namespace Go.Proofs.YtfblopmploohkaaGreatDoor
open Go Go.RowKit Mk
end Go.Proofs.YtfblopmploohkaaGreatDoor

/- Faults of a node: what the reference's l9Fault comes to. -/
set_option linter.unusedVariables false
set_option linter.unusedSimpArgs false
namespace Go.Proofs.YtfblopmploohkaaGreatDoor
open Go Go.RowKit Mk
theorem sizesB_eq (n : SReplica) : sizesB n = (n.Normal && n.Last != n.View || !((n.Oks.length : Int) == oksN n && (n.Asks.length : Int) == asksN n && (n.Doers.length : Int) == asksN n)) := by
  unfold sizesB
  cases n.Normal && n.Last != n.View <;> simp [bne, Bool.or_assoc]
end Go.Proofs.YtfblopmploohkaaGreatDoor

/- Faults of a mail: what the reference's functions come to (written by gB3.py, own work). -/
set_option linter.unusedVariables false
set_option linter.unusedSimpArgs false
namespace Go.Proofs.YtfblopmploohkaaGreatDoor
open Go Go.RowKit Mk
theorem kind_cases {K : Int} (h : wi K 1 6 = true) : K = 1 ∨ K = 2 ∨ K = 3 ∨ K = 4 ∨ K = 5 ∨ K = 6 := by
  obtain ⟨a, b⟩ := wi_b h; omega
end Go.Proofs.YtfblopmploohkaaGreatDoor

/- Faults of a mail: what the reference's l9Mail comes to (written by gB4.py, own work). -/
set_option linter.unusedVariables false
set_option linter.unusedSimpArgs false
namespace Go.Proofs.YtfblopmploohkaaGreatDoor
open Go Go.RowKit Mk

end Go.Proofs.YtfblopmploohkaaGreatDoor

/- Faults of a cluster: what the reference's l11Fault comes to (written by gC1.py, own work). -/
set_option linter.unusedVariables false
set_option linter.unusedSimpArgs false
namespace Go.Proofs.YtfblopmploohkaaGreatDoor
open Go Go.RowKit Mk
/-- No node of the first ones has a fault, and each has as many as there are. -/
def fineTo (c : SCluster) (k : Nat) : Prop := ∀ j, j < k → ∀ n, c.Nodes[j]? = some n → wi n.Size 1 5 = true
theorem nodeF_size {s : Int} {i : Nat} {n : SReplica} (h : (nodeF s i n != 0) = false) : wi n.Size 1 5 = true ∧ (repF n != 0) = false := by
  have : (repF n != 0) = false := by
    unfold nodeF at h
    cases hq : (repF n != 0)
    · rfl
    · rw [hq, if_pos rfl] at h; rw [hq] at h; cases h
  exact ⟨repF_size this, this⟩
theorem firstI_zero {α : Type} (f : Nat → α → Int) : ∀ (xs : List α) (i : Nat), firstI f i xs = 0 → ∀ j (x : α), xs[j]? = some x → f (i + j) x = 0
  | [], i, _, j, x, hx => by simp at hx
  | y :: ys, i, h, j, x, hx => by
    unfold firstI at h
    cases hq : (f i y != 0)
    · rw [hq, if_neg (by simp)] at h
      cases j with
      | zero => simp at hx; subst hx; simpa using hq
      | succ j =>
        have := firstI_zero f ys (i + 1) h j x (by simpa using hx)
        rwa [show i + 1 + j = i + (j + 1) from by omega] at this
    · rw [hq, if_pos rfl] at h; rw [h] at hq; cases hq
end Go.Proofs.YtfblopmploohkaaGreatDoor
