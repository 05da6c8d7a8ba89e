/- What a node did put into a cluster: the reference's l11Do (written by gJ8.py, own work). -/
import Derived.Test.YtfblopmploohkaaGreatDoorZJ7
set_option linter.unusedVariables false
set_option linter.unusedSimpArgs false
namespace Go.Proofs.YtfblopmploohkaaGreatDoor
open Go Go.RowKit Mk
theorem nd_older {gg : Nat} {f1 fe f2 fl : List Nat} {m : Nat} (nd : (gg :: (f1 ++ (fe ++ f2))).Nodup) (nl : fl.Nodup) (h1 : ∀ b ∈ gg :: (f1 ++ (fe ++ f2)), m ≤ b) (h2 : ∀ b ∈ fl, b < m) : (gg :: (f1 ++ (fl ++ f2))).Nodup := by
  have hm : ∀ b, b ∈ fl → b ∉ gg :: (f1 ++ (fe ++ f2)) := fun b hb hx => by have := h1 b hx; have := h2 b hb; omega
  simp only [List.nodup_cons, List.nodup_append, List.mem_append, List.mem_cons, not_or] at nd hm ⊢
  grind
/-- A cluster's result whose parts are owned from B on. -/
def BasedCR (B : Nat) (x : SClusterResult) (w : World) (r : Ending) (w' : World) : Prop := ∃ A1 c1 A2 c2 A3 c3 f1 f2 f3, r = .returned (.agg #[.int .i64 x.Code, .slice A1 x.Cluster.Nodes.length c1, .slice A2 x.Cluster.Mails.length c2, .slice A3 x.Cluster.Sealed.length c3]) ∧ HasClusterResult B w' x A1 c1 A2 c2 A3 c3 f1 f2 f3 ∧ Below w.heap.size w w'
end Go.Proofs.YtfblopmploohkaaGreatDoor
