/- The parts of a cluster that is owned are read. -/
import Derived.Test.YtdjfehjddfbbjaaGreatDoorTy
set_option linter.unusedVariables false
set_option linter.unusedSimpArgs false
namespace Go.Proofs.YtdjfehjddfbbjaaGreatDoor
open Go Go.RowKit Mk
theorem rdCluster {B : Nat} {w : World} {fp : List Nat} {c : SCluster} {A0 A1 A2 : Option Addr} {n0 n1 n2 c0 c1 c2 : Nat} (h : kCluster.Own B w fp [.slice A0 n0 c0, .slice A1 n1 c1, .slice A2 n2 c2] c) :
    RdS kReplica w A0 c0 c.Nodes ∧ RdS kMail w A1 c1 c.Mails ∧ RdS kEntry w A2 c2 c.Sealed := by
  obtain ⟨a0, b0, a1, b1, a2, b2, he, h0, h1, h2⟩ := kCluster_open (kCluster.own_rd h)
  simp only [List.cons.injEq, Value.slice.injEq, and_true] at he
  obtain ⟨⟨rfl, _, rfl⟩, ⟨rfl, _, rfl⟩, ⟨rfl, _, rfl⟩⟩ := he
  exact ⟨h0, h1, h2⟩
end Go.Proofs.YtdjfehjddfbbjaaGreatDoor
