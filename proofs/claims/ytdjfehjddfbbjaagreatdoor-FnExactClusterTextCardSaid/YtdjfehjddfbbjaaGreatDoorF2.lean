/- What is sealed: the program's sealedRight, the reference's l13Sealed. -/
import Derived.Test.YtdjfehjddfbbjaaGreatDoorF1
import Derived.Test.YtdjfehjddfbbjaaGreatDoorC1
import Derived.Test.YtdjfehjddfbbjaaGreatDoorA7
set_option linter.unusedVariables false
set_option linter.unusedSimpArgs false
namespace Go.Proofs.YtdjfehjddfbbjaaGreatDoor
open Go Go.RowKit Mk
/-- What a node knows to be agreed isn't the beginning of what is sealed. -/
def unsealed (c : SCluster) (n : SReplica) : Bool := !(com (n.Log.take n.Commit.toNat) c.Sealed == (n.Log.take n.Commit.toNat).length)
def sealedB (c : SCluster) : Bool := !(c.Nodes.any (unsealed c))
theorem unsealed_iff (c : SCluster) (n : SReplica) (h : wi n.Commit 0 n.Log.length = true) : unsealed c n = decide ((com n.Log c.Sealed : Int) < n.Commit) := by
  obtain ⟨h1, h2⟩ := wi_b h
  unfold unsealed
  rw [com_take, List.length_take]
  by_cases q : (com n.Log c.Sealed : Int) < n.Commit
  · simp [q]; omega
  · simp [q]; omega
theorem repF_commitW {n : SReplica} (h : (repF n != 0) = false) : wi n.Commit 0 n.Log.length = true := by
  cases q : wi n.Commit 0 n.Log.length
  · unfold repF at h
    rw [q] at h
    split at h
    · cases h
    · split at h
      · rename_i h3; rw [h3] at h; cases h
      · cases h
  · rfl
theorem clusF_nodes {c : SCluster} (h : clusF c = 0) : ∀ n ∈ c.Nodes, (repF n != 0) = false := by
  intro n hn
  obtain ⟨j, hj, rfl⟩ := List.getElem_of_mem hn
  have h0 : firstI (nodeF c.Nodes.length) 0 c.Nodes = 0 := by
    unfold clusF at h
    split at h
    · cases h
    · split at h
      · exact h
      · rename_i q; simpa using q
  have := firstI_zero _ _ _ h0 j _ (List.getElem?_eq_getElem hj)
  exact (nodeF_size (by rw [this]; rfl)).2
end Go.Proofs.YtdjfehjddfbbjaaGreatDoor
