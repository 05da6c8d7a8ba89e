/- What a value holds, and the laws' size functions (written by gD1.py, own work). -/
import Derived.Test.YtfblopmploohkaaGreatDoorZTy
import Derived.Test.YtfblopmploohkaaGreatDoorZRo
import Derived.Test.YtfblopmploohkaaGreatDoorProg
set_option linter.unusedVariables false
set_option linter.unusedSimpArgs false
namespace Go.Proofs.YtfblopmploohkaaGreatDoor
open Go Go.RowKit Mk
theorem totL_take {α : Type} (f : α → Nat) (xs : List α) (k : Nat) (hk : k < xs.length) : ((xs.take (k + 1)).map f).sum = ((xs.take k).map f).sum + f xs[k] := by
  rw [List.take_succ_eq_append_getElem hk, List.map_append, List.sum_append]; simp only [List.map_cons, List.map_nil, List.sum_cons, List.sum_nil, Nat.add_zero]
theorem totL_le {α : Type} (f : α → Nat) (xs : List α) (k : Nat) : ((xs.take k).map f).sum ≤ (xs.map f).sum := by
  conv => rhs; rw [← List.take_append_drop k xs]
  rw [List.map_append, List.sum_append]; omega
def totL {α : Type} (f : α → Nat) (xs : List α) : Nat := xs.length + (xs.map f).sum
/-- What a size function comes to: what is left, or less than nothing. -/
def Left (left : Int) (t : Nat) (r : Int) : Prop := r ≤ left ∧ -1 ≤ r ∧ (0 ≤ r → (t : Int) + r ≤ left)
def totDoer (x : SDoer) : Nat := x.Log.length
def totReplica (x : SReplica) : Nat := x.Log.length + x.Oks.length + x.Asks.length + totL totDoer x.Doers
def totMail (x : SMail) : Nat := x.Log.length
def totCluster (x : SCluster) : Nat := totL totReplica x.Nodes + totL totMail x.Mails + x.Sealed.length
end Go.Proofs.YtfblopmploohkaaGreatDoor

/- What the laws' copying functions come to (written by gD2.py, own work). -/
set_option linter.unusedVariables false
set_option linter.unusedSimpArgs false
namespace Go.Proofs.YtfblopmploohkaaGreatDoor
open Go Go.RowKit Mk
theorem own_rds {α : Type} {d : Kd α} {e : TypeId} {B : Nat} {w : World} {fp : List Nat} {A : Option Addr} {n c : Nat} {xs : List α} (h : OwnS d e B w fp (.slice A n c) xs) : RdS d w A c xs := by
  obtain ⟨A', c', h1, h2⟩ := h.form
  injection h1 with a b c
  subst a; subst c; exact h2
theorem nblk_alloc3 (w : World) (o : Obj) : (w.alloc o).heap.size = w.heap.size + 1 := Deep.nblk_alloc w o
theorem take_push {α : Type} (xs : List α) (k : Nat) (x : α) (hk : k < xs.length) (hx : xs[k] = x) : xs.take k ++ [x] = xs.take (k + 1) := by
  rw [List.take_succ_eq_append_getElem hk, hx]
theorem ownOp (B : Nat) (w : World) (x : SOp) : kOp.Own B w [] [.int .i64 x.Kind, .int .i64 x.Vol, .int .i64 x.At, .int .i64 x.Value] x := ⟨[], ([] ++ ([] ++ [])), _, _, rfl, rfl, ⟨rfl, rfl⟩, ⟨[], ([] ++ []), _, _, rfl, rfl, ⟨rfl, rfl⟩, ⟨[], [], _, _, rfl, rfl, ⟨rfl, rfl⟩, ⟨rfl, rfl⟩⟩⟩⟩
theorem ownEntry (B : Nat) (w : World) (x : SEntry) : kEntry.Own B w [] [.int .i64 x.Client, .int .i64 x.Seq, .int .i64 x.Op.Kind, .int .i64 x.Op.Vol, .int .i64 x.Op.At, .int .i64 x.Op.Value] x := ⟨[], ([] ++ ([] ++ ([] ++ ([] ++ [])))), _, _, rfl, rfl, ⟨rfl, rfl⟩, ⟨[], ([] ++ ([] ++ ([] ++ []))), _, _, rfl, rfl, ⟨rfl, rfl⟩, ⟨[], ([] ++ ([] ++ [])), _, _, rfl, rfl, ⟨rfl, rfl⟩, ⟨[], ([] ++ []), _, _, rfl, rfl, ⟨rfl, rfl⟩, ⟨[], [], _, _, rfl, rfl, ⟨rfl, rfl⟩, ⟨rfl, rfl⟩⟩⟩⟩⟩⟩
end Go.Proofs.YtfblopmploohkaaGreatDoor

/- What the laws' comparisons come to where both sides read alike (written by gD3.py, own work). -/
set_option linter.unusedVariables false
set_option linter.unusedSimpArgs false
namespace Go.Proofs.YtfblopmploohkaaGreatDoor
open Go Go.RowKit Mk
theorem nblk_allocE (w : World) (o : Obj) : (w.alloc o).heap.size = w.heap.size + 1 := Deep.nblk_alloc w o
end Go.Proofs.YtfblopmploohkaaGreatDoor
