/- A new cluster of one node, asked: what comes, plainly (own work). -/
import Derived.Test.YtfblopmploohkaaGreatDoorZN7p
import Derived.Test.YtfblopmploohkaaGreatDoorZJ
set_option linter.unusedVariables false
set_option linter.unusedSimpArgs false
namespace Go.Proofs.YtfblopmploohkaaGreatDoor
open Go Go.RowKit Mk
def oneC : SCluster := ⟨newL 1 1, [], []⟩
theorem oneC_fine : clusF oneC = 0 := by decide
theorem ask_one (e : SEntry) (he : entryF e = 0) : atX (askX e) oneC 0 = ⟨0, ⟨[addR (newR 0 1) e 0], [], [e]⟩⟩ := by
  have h1 : askX e (newR 0 1) = ⟨0, addR (newR 0 1) e 0, []⟩ := by
    unfold askX
    rw [show repF (newR 0 1) = 0 by decide, show leadsB (newR 0 1) = true by decide, he]
    rfl
  have hc : (addR (newR 0 1) e 0).Commit = 1 := by rfl
  unfold atX
  rw [oneC_fine]
  rw [if_neg (by decide), if_pos (by decide)]
  rw [show oneC.Nodes.getD (0 : Int).toNat zReplica = newR 0 1 from rfl, h1]
  unfold putX
  rw [if_neg (by simp)]
  unfold doneClu
  rw [hc]
  rfl
end Go.Proofs.YtfblopmploohkaaGreatDoor
