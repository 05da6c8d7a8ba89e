/- Faults of a mail: what the program's function comes to (written by gA4.py, own work). -/
import Derived.Test.YtdjfehjddfbbjaaGreatDoorA3
set_option linter.unusedVariables false
set_option linter.unusedSimpArgs false
namespace Go.Proofs.YtdjfehjddfbbjaaGreatDoor
open Go Go.RowKit Mk
def numB (n : SReplica) (m : SMail) : Bool :=
  wi m.From 0 (n.Size - 1) && m.From != n.Id && wi m.View 0 200 && (!(m.Kind == 1 || m.Kind == 2) || wi m.At 0 40) && (!(m.Kind == 4) || wi m.Last 0 m.View) && (!(m.Kind == 1) || wi m.Commit 0 40)
def bareB (m : SMail) : Bool :=
  (m.Kind == 1 || m.Kind == 2 || m.At == 0) && (m.Kind == 1 || m.Kind == 4 || m.Kind == 5 || m.Commit == 0) && (m.Kind == 4 || m.Last == 0) && (m.Kind == 4 || m.Kind == 5 || !decide (0 < m.Log.length)) && (m.Kind == 1 || !m.Has) && (m.Has || m.Entry == zEntry)
def mailT (n : SReplica) (m : SMail) : Int :=
  if !wi m.Kind 1 6 || m.To != n.Id then 1 else if !numB n m then 3
  else if (m.Kind == 4 || m.Kind == 5) && logF m.Log != 0 then logF m.Log
  else if (m.Kind == 4 || m.Kind == 5) && !wi m.Commit 0 m.Log.length then 3
  else if m.Kind == 1 && m.Has && entryF m.Entry != 0 then entryF m.Entry
  else if !bareB m then 1 else 0
def mailF (n : SReplica) (m : SMail) : Int := if repF n != 0 then repF n else mailT n m
theorem hasOf_1 (w : World) : Calls Tryz.prog 62 #[.int .i64 1] w fun e w' => e = .returned (.agg #[.bool true, .bool true, .bool false, .bool false, .bool true]) ∧ Below w.heap.size w w' := by
  go_enter Tryz.func62, Tryz.ntmps62
  go_wp2
  exact bodyPost_ret (v := .agg #[.bool true, .bool true, .bool false, .bool false, .bool true]) (by simp [results, Tryz.results62, go_sem]) rfl ⟨rfl, by repeat (first | exact Below.refl _ _ | apply below_alloc | (refine below_set ?_ (Nat.le_refl _) _))⟩
theorem hasOf_2 (w : World) : Calls Tryz.prog 62 #[.int .i64 2] w fun e w' => e = .returned (.agg #[.bool true, .bool false, .bool false, .bool false, .bool false]) ∧ Below w.heap.size w w' := by
  go_enter Tryz.func62, Tryz.ntmps62
  go_wp2
  exact bodyPost_ret (v := .agg #[.bool true, .bool false, .bool false, .bool false, .bool false]) (by simp [results, Tryz.results62, go_sem]) rfl ⟨rfl, by repeat (first | exact Below.refl _ _ | apply below_alloc | (refine below_set ?_ (Nat.le_refl _) _))⟩
theorem hasOf_3 (w : World) : Calls Tryz.prog 62 #[.int .i64 3] w fun e w' => e = .returned (.agg #[.bool false, .bool false, .bool false, .bool false, .bool false]) ∧ Below w.heap.size w w' := by
  go_enter Tryz.func62, Tryz.ntmps62
  go_wp2
  exact bodyPost_ret (v := .agg #[.bool false, .bool false, .bool false, .bool false, .bool false]) (by simp [results, Tryz.results62, go_sem]) rfl ⟨rfl, by repeat (first | exact Below.refl _ _ | apply below_alloc | (refine below_set ?_ (Nat.le_refl _) _))⟩
theorem hasOf_4 (w : World) : Calls Tryz.prog 62 #[.int .i64 4] w fun e w' => e = .returned (.agg #[.bool false, .bool true, .bool true, .bool true, .bool false]) ∧ Below w.heap.size w w' := by
  go_enter Tryz.func62, Tryz.ntmps62
  go_wp2
  exact bodyPost_ret (v := .agg #[.bool false, .bool true, .bool true, .bool true, .bool false]) (by simp [results, Tryz.results62, go_sem]) rfl ⟨rfl, by repeat (first | exact Below.refl _ _ | apply below_alloc | (refine below_set ?_ (Nat.le_refl _) _))⟩
theorem hasOf_5 (w : World) : Calls Tryz.prog 62 #[.int .i64 5] w fun e w' => e = .returned (.agg #[.bool false, .bool true, .bool false, .bool true, .bool false]) ∧ Below w.heap.size w w' := by
  go_enter Tryz.func62, Tryz.ntmps62
  go_wp2
  exact bodyPost_ret (v := .agg #[.bool false, .bool true, .bool false, .bool true, .bool false]) (by simp [results, Tryz.results62, go_sem]) rfl ⟨rfl, by repeat (first | exact Below.refl _ _ | apply below_alloc | (refine below_set ?_ (Nat.le_refl _) _))⟩
theorem hasOf_6 (w : World) : Calls Tryz.prog 62 #[.int .i64 6] w fun e w' => e = .returned (.agg #[.bool false, .bool false, .bool false, .bool false, .bool false]) ∧ Below w.heap.size w w' := by
  go_enter Tryz.func62, Tryz.ntmps62
  go_wp2
  exact bodyPost_ret (v := .agg #[.bool false, .bool false, .bool false, .bool false, .bool false]) (by simp [results, Tryz.results62, go_sem]) rfl ⟨rfl, by repeat (first | exact Below.refl _ _ | apply below_alloc | (refine below_set ?_ (Nat.le_refl _) _))⟩
end Go.Proofs.YtdjfehjddfbbjaaGreatDoor
