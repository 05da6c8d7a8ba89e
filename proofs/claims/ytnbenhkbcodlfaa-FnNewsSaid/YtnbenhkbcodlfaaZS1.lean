/- What the law News says, plainly: a new cluster, and what a crash, a beat and a timeout make of it (own work). -/
import Derived.Test.YtnbenhkbcodlfaaZJ12
import Derived.Test.YtnbenhkbcodlfaaZJ10
import Derived.Test.YtnbenhkbcodlfaaZG1
import Derived.Test.YtnbenhkbcodlfaaZJ
set_option linter.unusedVariables false
set_option linter.unusedSimpArgs false
namespace Go.Proofs.Ytnbenhkbcodlfaa
open Go Go.RowKit Mk
def newC (s : Nat) : SCluster := ⟨newL s s, [], []⟩
def newsB (s k : Nat) : Bool :=
  clusF (newC s) == 0 && leaderX (newC s) == ⟨0, 0⟩ && evenX (newC s) && sealedB (newC s) && haveB (newC s)
  && (atX crashX (newC s) k).Code == 0 && evenX (atX crashX (newC s) k).Cluster && (atX beatX (atX crashX (newC s) k).Cluster 0).Code == 0 && (atX beatX (atX crashX (newC s) k).Cluster 0).Cluster.Mails.length == s - 1
  && (atX timeoutX (newC s) k).Code == 0 && evenX (atX timeoutX (newC s) k).Cluster == (s == 1)
set_option maxRecDepth 100000 in
theorem news_all : ∀ s : Fin 6, ∀ k : Fin 5, 1 ≤ s.1 → k.1 < s.1 → newsB s.1 k.1 = true := by decide +kernel
theorem newC_parts : ∀ s : Fin 6, ∀ i : Fin 5, ∀ j : Fin 5, parts (newR i.1 s.1) (newR j.1 s.1) = false := by decide +kernel
theorem newL_at {s k i : Nat} {n : SReplica} (h : (newL s k)[i]? = some n) : i < k ∧ n = newR i s := by
  have hi := (List.getElem?_eq_some_iff.1 h).1
  rw [newL_len] at hi
  refine ⟨hi, ?_⟩
  unfold newL at h
  rw [List.getElem?_map, List.getElem?_range hi] at h
  simpa using h.symm
/-- All that the law asks of a new cluster of s nodes and the node k. -/
structure NewsIs (X : SCluster) (s k : Nat) : Prop where
  len : X.Nodes.length = s
  fine : clusF X = 0
  lead : leaderX X = ⟨0, 0⟩
  even : evenX X = true
  safe : safeClusterX X = true
  crash : (atX crashX X k).Code = 0
  crashEven : evenX (atX crashX X k).Cluster = true
  beat : (atX beatX (atX crashX X k).Cluster 0).Code = 0
  mails : (atX beatX (atX crashX X k).Cluster 0).Cluster.Mails.length = s - 1
  tmo : (atX timeoutX X k).Code = 0
  tmoEven : evenX (atX timeoutX X k).Cluster = (s == 1)
theorem news_is {s k : Nat} (h1 : 1 ≤ s) (h2 : s ≤ 5) (hk : k < s) : NewsIs (newC s) s k := by
  have h := news_all ⟨s, by omega⟩ ⟨k, by omega⟩ h1 hk
  unfold newsB at h
  simp only [Bool.and_eq_true, beq_iff_eq] at h
  obtain ⟨⟨⟨⟨⟨⟨⟨⟨⟨⟨a1, a2⟩, a3⟩, a4⟩, a5⟩, a6⟩, a7⟩, a8⟩, a9⟩, a10⟩, a11⟩ := h
  refine ⟨newL_len s s, a1, a2, a3, ?_, a6, a7, a8, a9, a10, a11⟩
  have hm : matchB (newC s) = true := matchB_true fun i j n m hj hi hjj => by
    obtain ⟨li, rfl⟩ := newL_at hi
    obtain ⟨lj, rfl⟩ := newL_at hjj
    exact newC_parts ⟨s, by omega⟩ ⟨i, by omega⟩ ⟨j, by omega⟩
  unfold safeClusterX
  rw [a1, a4, hm, a5]
  rfl
end Go.Proofs.Ytnbenhkbcodlfaa
