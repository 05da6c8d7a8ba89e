/- A node of a cluster does something: (*Cluster).do (written by gJ4.py, own work). -/
import Derived.Test.YtdjfehjddfbbjaaGreatZJ
import Derived.Test.YtdjfehjddfbbjaaGreatZK
import Derived.Test.YtdjfehjddfbbjaaGreatZK2
set_option linter.unusedVariables false
set_option linter.unusedSimpArgs false
namespace Go.Proofs.YtdjfehjddfbbjaaGreat
open Go Go.RowKit Mk
def doneClu (x : SCluster) (k : Nat) (n' : SReplica) (ms : List SMail) : SCluster :=
  ⟨x.Nodes.set k n', x.Mails ++ ms.take (120 - x.Mails.length), if (x.Sealed.length : Int) < n'.Commit then n'.Log.take n'.Commit.toNat else x.Sealed⟩
def DidClu (b : Nat) (x' : SCluster) (code : Int) (fp : List Nat) (B : Nat) (w : World) (r : Ending) (w' : World) : Prop :=
  ∃ A0 c0 A1 c1 A2 c2 f0 f1 f2, r = .returned (.int .i64 code) ∧ Blk w' b 42 [.slice A0 x'.Nodes.length c0, .slice A1 x'.Mails.length c1, .slice A2 x'.Sealed.length c2] ∧ HasCluster B w' x' A0 c0 A1 c1 A2 c2 f0 f1 f2 ∧
    b ∉ f0 ++ (f1 ++ f2) ∧ Turn (b :: fp) w w' ∧ ∀ y ∈ f0 ++ (f1 ++ f2), y ∈ fp ∨ w.heap.size ≤ y
end Go.Proofs.YtdjfehjddfbbjaaGreat
