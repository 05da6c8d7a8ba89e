/- Marks: what the laws' marking functions come to (written by gM.py, own work). -/
import Derived.Test.YtfblopmploohkaaGreatDoorZTw
import Derived.Test.YtfblopmploohkaaGreatDoorProg
set_option linter.unusedVariables false
set_option linter.unusedSimpArgs false
namespace Go.Proofs.YtfblopmploohkaaGreatDoor
open Go Go.RowKit Mk

/-- A row's marks from k on: each element's as many as it has places. -/
def mkL {α : Type} (mk : Int → α → α) (ct : α → Nat) : Int → List α → List α
  | _, [] => []
  | k, x :: xs => mk k x :: mkL mk ct (k + (ct x : Nat)) xs
def ctL {α : Type} (ct : α → Nat) : List α → Nat
  | [] => 0
  | x :: xs => ct x + ctL ct xs
def mkI (k : Int) (x : Int) : Int := k
def mkB (k : Int) (x : Bool) : Bool := k % 3 == 0
def ctI (x : Int) : Nat := 1
def ctB (x : Bool) : Nat := 1
section
variable {α : Type} (mk : Int → α → α) (ct : α → Nat)
theorem mkL_length : ∀ (k : Int) (xs : List α), (mkL mk ct k xs).length = xs.length
  | _, [] => rfl
  | k, x :: xs => by simp [mkL, mkL_length]
theorem ctL_append : ∀ (xs ys : List α), ctL ct (xs ++ ys) = ctL ct xs + ctL ct ys
  | [], ys => by simp [ctL]
  | x :: xs, ys => by simp [ctL, ctL_append xs ys, Nat.add_assoc]
theorem mkL_append : ∀ (k : Int) (xs ys : List α), mkL mk ct k (xs ++ ys) = mkL mk ct k xs ++ mkL mk ct (k + (ctL ct xs : Nat)) ys
  | k, [], ys => by simp [mkL, ctL]
  | k, x :: xs, ys => by simp [mkL, ctL, mkL_append _ xs ys, Int.add_assoc]
theorem ctL_take (xs : List α) (m : Nat) (h : m < xs.length) : ctL ct (xs.take (m + 1)) = ctL ct (xs.take m) + ct xs[m] := by
  rw [List.take_succ_eq_append_getElem h, ctL_append]; simp [ctL]
theorem ctL_le (xs : List α) (m : Nat) : ctL ct (xs.take m) ≤ ctL ct xs := by
  have := ctL_append ct (xs.take m) (xs.drop m)
  rw [List.take_append_drop] at this; omega
theorem mkL_take (k : Int) (xs : List α) (m : Nat) (h : m < xs.length) : ∀ ys, mkL mk ct k (xs.take (m + 1)) ++ ys = mkL mk ct k (xs.take m) ++ mk (k + (ctL ct (xs.take m) : Nat)) xs[m] :: ys := by
  intro ys; rw [List.take_succ_eq_append_getElem h, mkL_append]; simp [mkL]
theorem mkL_get (k : Int) (xs : List α) (m : Nat) (h : m < xs.length) : (mkL mk ct k xs)[m]'(by rw [mkL_length]; exact h) = mk (k + (ctL ct (xs.take m) : Nat)) xs[m] := by
  have e : xs = xs.take m ++ xs[m] :: xs.drop (m + 1) := by rw [← List.drop_eq_getElem_cons h, List.take_append_drop]
  have e2 : mkL mk ct k xs = mkL mk ct k (xs.take m) ++ mk (k + (ctL ct (xs.take m) : Nat)) xs[m] :: mkL mk ct (k + (ctL ct (xs.take m) : Nat) + (ct xs[m] : Nat)) (xs.drop (m + 1)) := by
    conv => lhs; rw [e]
    rw [mkL_append]; rfl
  simp only [e2]
  rw [List.getElem_append_right (by rw [mkL_length, List.length_take]; omega)]
  simp [mkL_length, List.length_take, Nat.min_eq_left (Nat.le_of_lt h)]
end

def mkEntry (k : Int) (x : SEntry) : SEntry := ⟨(k), (k + 1), ⟨(k + 1 + 1), (k + 1 + 1 + 1), (k + 1 + 1 + 1 + 1), (k + 1 + 1 + 1 + 1 + 1)⟩⟩
def ctEntry (x : SEntry) : Nat := 1 + 1 + 1 + 1 + 1 + 1

def mkDoer (k : Int) (x : SDoer) : SDoer := ⟨((k) % 3 == 0), (k + 1), mkL mkEntry ctEntry (k + 1 + 1) x.Log, (k + 1 + 1 + (ctL ctEntry x.Log : Nat))⟩
def ctDoer (x : SDoer) : Nat := 1 + 1 + ctL ctEntry x.Log + 1

def mkMail (k : Int) (x : SMail) : SMail := ⟨(k), (k + 1), (k + 1 + 1), (k + 1 + 1 + 1), (k + 1 + 1 + 1 + 1), ((k + 1 + 1 + 1 + 1 + 1) % 3 == 0), ⟨(k + 1 + 1 + 1 + 1 + 1 + 1), (k + 1 + 1 + 1 + 1 + 1 + 1 + 1), ⟨(k + 1 + 1 + 1 + 1 + 1 + 1 + 1 + 1), (k + 1 + 1 + 1 + 1 + 1 + 1 + 1 + 1 + 1), (k + 1 + 1 + 1 + 1 + 1 + 1 + 1 + 1 + 1 + 1), (k + 1 + 1 + 1 + 1 + 1 + 1 + 1 + 1 + 1 + 1 + 1)⟩⟩, (k + 1 + 1 + 1 + 1 + 1 + 1 + 1 + 1 + 1 + 1 + 1 + 1), mkL mkEntry ctEntry (k + 1 + 1 + 1 + 1 + 1 + 1 + 1 + 1 + 1 + 1 + 1 + 1 + 1) x.Log, (k + 1 + 1 + 1 + 1 + 1 + 1 + 1 + 1 + 1 + 1 + 1 + 1 + 1 + (ctL ctEntry x.Log : Nat))⟩
def ctMail (x : SMail) : Nat := 1 + 1 + 1 + 1 + 1 + 1 + 1 + 1 + 1 + 1 + 1 + 1 + 1 + ctL ctEntry x.Log + 1

def mkReplica (k : Int) (x : SReplica) : SReplica := ⟨(k), (k + 1), (k + 1 + 1), ((k + 1 + 1 + 1) % 3 == 0), (k + 1 + 1 + 1 + 1), mkL mkEntry ctEntry (k + 1 + 1 + 1 + 1 + 1) x.Log, (k + 1 + 1 + 1 + 1 + 1 + (ctL ctEntry x.Log : Nat)), mkL mkI ctI (k + 1 + 1 + 1 + 1 + 1 + (ctL ctEntry x.Log : Nat) + 1) x.Oks, mkL mkB ctB (k + 1 + 1 + 1 + 1 + 1 + (ctL ctEntry x.Log : Nat) + 1 + (ctL ctI x.Oks : Nat)) x.Asks, mkL mkDoer ctDoer (k + 1 + 1 + 1 + 1 + 1 + (ctL ctEntry x.Log : Nat) + 1 + (ctL ctI x.Oks : Nat) + (ctL ctB x.Asks : Nat)) x.Doers⟩
def ctReplica (x : SReplica) : Nat := 1 + 1 + 1 + 1 + 1 + ctL ctEntry x.Log + 1 + ctL ctI x.Oks + ctL ctB x.Asks + ctL ctDoer x.Doers

end Go.Proofs.YtfblopmploohkaaGreatDoor

/- Marks of whole values; marks that are held (written by gM.py, own work). -/
set_option linter.unusedVariables false
set_option linter.unusedSimpArgs false
namespace Go.Proofs.YtfblopmploohkaaGreatDoor
open Go Go.RowKit Mk

end Go.Proofs.YtfblopmploohkaaGreatDoor
