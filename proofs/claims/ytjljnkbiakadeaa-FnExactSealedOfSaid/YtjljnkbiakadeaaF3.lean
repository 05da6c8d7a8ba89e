/- Logs that match: the program's logsMatch, the reference's l13Match. -/
import Derived.Test.YtjljnkbiakadeaaF1
set_option linter.unusedVariables false
set_option linter.unusedSimpArgs false
namespace Go.Proofs.Ytjljnkbiakadeaa
open Go Go.RowKit Mk
def isB (a b : List SEntry) : Bool := com a b == a.length
/-- Two nodes' logs of one last view part. -/
def parts (n m : SReplica) : Bool := n.Last == m.Last && (!isB n.Log m.Log && !isB m.Log n.Log)
def MatchP (xs : List SReplica) : Prop := ∀ (i j : Nat) (n m : SReplica), j < i → xs[i]? = some n → xs[j]? = some m → parts n m = false
noncomputable def matchB (c : SCluster) : Bool := @decide (MatchP c.Nodes) (Classical.propDecidable _)
theorem matchB_true {c : SCluster} (h : MatchP c.Nodes) : matchB c = true := @decide_eq_true _ (Classical.propDecidable _) h
theorem matchB_false {c : SCluster} {i j : Nat} {n m : SReplica} (h : j < i) (hi : c.Nodes[i]? = some n) (hj : c.Nodes[j]? = some m) (hp : parts n m = true) : matchB c = false :=
  @decide_eq_false _ (Classical.propDecidable _) fun H => by rw [H i j n m h hi hj] at hp; cases hp
/-- Up to a place (i, j) no two part. -/
def MatchTo (xs : List SReplica) (i j : Nat) : Prop := ∀ (a b : Nat) (n m : SReplica), b < a → (a < i ∨ a = i ∧ b < j) → xs[a]? = some n → xs[b]? = some m → parts n m = false
theorem MatchTo.start (xs : List SReplica) : MatchTo xs 0 0 := fun a b n m h1 h2 => by omega
theorem MatchTo.row {xs : List SReplica} {i j : Nat} (h : MatchTo xs i j) (hj : i ≤ j) : MatchTo xs (i + 1) 0 := fun a b n m h1 h2 => h a b n m h1 (by omega)
theorem MatchTo.step {xs : List SReplica} {i j : Nat} {n m : SReplica} (h : MatchTo xs i j) (hi : xs[i]? = some n) (hj : xs[j]? = some m) (hp : parts n m = false) : MatchTo xs i (j + 1) := by
  intro a b x y h1 h2 ha hb
  by_cases q : a = i ∧ b = j
  · obtain ⟨rfl, rfl⟩ := q
    rw [hi] at ha; rw [hj] at hb
    cases ha; cases hb; exact hp
  · exact h a b x y h1 (by omega) ha hb
theorem MatchTo.done {xs : List SReplica} {i j : Nat} (h : MatchTo xs i j) (hi : xs.length ≤ i) : MatchP xs := by
  intro a b n m h1 ha hb
  have := (List.getElem?_eq_some_iff.1 ha).1
  exact h a b n m h1 (by omega) ha hb
theorem isB_le {a b : List SEntry} (h : ¬ (a.length : Int) ≤ (b.length : Int)) : isB a b = false := by
  have := com_le a b
  unfold isB
  exact beq_eq_false_iff_ne.2 (by omega)
theorem isBeg_c (xs ys : List SEntry) (A : Option Addr) (c : Nat) (B : Option Addr) (d : Nat) (w : World) (hx : RdS kEntry w A c xs) (hy : RdS kEntry w B d ys) :
    Calls Try.prog 102 #[.slice A xs.length c, .slice B ys.length d] w fun e w' => e = .returned (.bool (isB xs ys)) ∧ ∃ m, w' = w.drewN m := isBeginning_c xs ys A c B d w hx hy
end Go.Proofs.Ytjljnkbiakadeaa
