/- The values' types of this set, their kinds, and how their cells are read: written by gentypes.py (own work). -/
import Derived.Test.YtnbenhkbcodlfaaDoorMk
set_option linter.unusedVariables false
namespace Go.Proofs.YtnbenhkbcodlfaaDoor
open Go Go.RowKit Mk
structure SOp where
  Kind : Int
  Vol : Int
  At : Int
  Value : Int
  deriving DecidableEq
def kOp : Kd SOp := iso (pair kInt (pair kInt (pair kInt kInt))) (fun x => (x.Kind, x.Vol, x.At, x.Value))
def zOp : SOp := ⟨0, 0, 0, 0⟩
theorem kOp_open {w : World} {cs : List Value} {x : SOp} (h : kOp.Rd w cs x) : cs = [.int .i64 x.Kind, .int .i64 x.Vol, .int .i64 x.At, .int .i64 x.Value] := by
  obtain ⟨_, _, rfl, rfl, ⟨_, _, rfl, rfl, ⟨_, _, rfl, rfl, rfl⟩⟩⟩ := h
  rfl
theorem kOp_mk (w : World) (x : SOp) : kOp.Rd w [.int .i64 x.Kind, .int .i64 x.Vol, .int .i64 x.At, .int .i64 x.Value] x := ⟨[.int .i64 x.Kind], [.int .i64 x.Vol, .int .i64 x.At, .int .i64 x.Value], rfl, rfl, ⟨[.int .i64 x.Vol], [.int .i64 x.At, .int .i64 x.Value], rfl, rfl, ⟨[.int .i64 x.At], [.int .i64 x.Value], rfl, rfl, rfl⟩⟩⟩
theorem boxOp (w : World) (x : SOp) (t : TypeId) : At kOp (w.alloc (.cells #[.int .i64 x.Kind, .int .i64 x.Vol, .int .i64 x.At, .int .i64 x.Value] t)) ⟨w.heap.size, 0, none⟩ x := ⟨_, lies_alloc _ _ _, kOp_mk _ x⟩
theorem seenOp (w : World) (x : SOp) (t : TypeId) (W : World) (hb : Below (w.alloc (.cells #[.int .i64 x.Kind, .int .i64 x.Vol, .int .i64 x.At, .int .i64 x.Value] t)).heap.size (w.alloc (.cells #[.int .i64 x.Kind, .int .i64 x.Vol, .int .i64 x.At, .int .i64 x.Value] t)) W) : W.cell? ⟨w.heap.size, 0, none⟩ = some (.int .i64 x.Kind) ∧ W.cell? ⟨w.heap.size, 1, none⟩ = some (.int .i64 x.Vol) ∧ W.cell? ⟨w.heap.size, 2, none⟩ = some (.int .i64 x.At) ∧ W.cell? ⟨w.heap.size, 3, none⟩ = some (.int .i64 x.Value) :=
  have l := (lies_alloc w #[.int .i64 x.Kind, .int .i64 x.Vol, .int .i64 x.At, .int .i64 x.Value] t).below hb
  ⟨l.c0, l.cS 0 rfl, l.cS 1 rfl, l.cS 2 rfl⟩
/-- The block that holds x was the first that was laid behind w. -/
def InOp (w : World) (x : SOp) (t : TypeId) (W : World) : Prop := Below (w.alloc (.cells #[.int .i64 x.Kind, .int .i64 x.Vol, .int .i64 x.At, .int .i64 x.Value] t)).heap.size (w.alloc (.cells #[.int .i64 x.Kind, .int .i64 x.Vol, .int .i64 x.At, .int .i64 x.Value] t)) W
theorem InOp.step {w : World} {x : SOp} {t : TypeId} {W W' : World} (h : InOp w x t W) (hb : Below W.heap.size W W') : InOp w x t W' := below_trans h hb
theorem InOp.below {w : World} {x : SOp} {t : TypeId} {W : World} (h : InOp w x t W) : Below w.heap.size w W := below_trans (below_alloc (Below.refl _ _) _) h
theorem InOp.seen {w : World} {x : SOp} {t : TypeId} {W : World} (h : InOp w x t W) : W.cell? ⟨w.heap.size, 0, none⟩ = some (.int .i64 x.Kind) ∧ W.cell? ⟨w.heap.size, 1, none⟩ = some (.int .i64 x.Vol) ∧ W.cell? ⟨w.heap.size, 2, none⟩ = some (.int .i64 x.At) ∧ W.cell? ⟨w.heap.size, 3, none⟩ = some (.int .i64 x.Value) := seenOp w x t W h
theorem InOp.at {w : World} {x : SOp} {t : TypeId} {W : World} (h : InOp w x t W) : At kOp W ⟨w.heap.size, 0, none⟩ x := (boxOp w x t).below h
theorem liesOp {w : World} {p : Addr} {x : SOp} (hl : Lies w p [.int .i64 x.Kind, .int .i64 x.Vol, .int .i64 x.At, .int .i64 x.Value]) : w.cell? p = some (.int .i64 x.Kind) ∧ w.cell? ⟨p.block, p.off + 1, none⟩ = some (.int .i64 x.Vol) ∧ w.cell? ⟨p.block, p.off + 2, none⟩ = some (.int .i64 x.At) ∧ w.cell? ⟨p.block, p.off + 3, none⟩ = some (.int .i64 x.Value) := ⟨hl.c0, hl.cS 0 rfl, hl.cS 1 rfl, hl.cS 2 rfl⟩
theorem atOp {w : World} {p : Addr} {x : SOp} (h : At kOp w p x) : w.cell? p = some (.int .i64 x.Kind) ∧ w.cell? ⟨p.block, p.off + 1, none⟩ = some (.int .i64 x.Vol) ∧ w.cell? ⟨p.block, p.off + 2, none⟩ = some (.int .i64 x.At) ∧ w.cell? ⟨p.block, p.off + 3, none⟩ = some (.int .i64 x.Value) := by
  obtain ⟨cs, hl, hr⟩ := h
  obtain rfl := kOp_open hr
  exact ⟨hl.c0, hl.cS 0 rfl, hl.cS 1 rfl, hl.cS 2 rfl⟩
structure STextResult where
  Code : Int
  Text : ByteArray
  deriving DecidableEq
def kTextResult : Kd STextResult := iso (pair kInt kStr) (fun x => (x.Code, x.Text))
def zTextResult : STextResult := ⟨0, ⟨#[]⟩⟩
theorem kTextResult_open {w : World} {cs : List Value} {x : STextResult} (h : kTextResult.Rd w cs x) : cs = [.int .i64 x.Code, .string x.Text] := by
  obtain ⟨_, _, rfl, rfl, rfl⟩ := h
  rfl
theorem kTextResult_mk (w : World) (x : STextResult) : kTextResult.Rd w [.int .i64 x.Code, .string x.Text] x := ⟨[.int .i64 x.Code], [.string x.Text], rfl, rfl, rfl⟩
theorem boxTextResult (w : World) (x : STextResult) (t : TypeId) : At kTextResult (w.alloc (.cells #[.int .i64 x.Code, .string x.Text] t)) ⟨w.heap.size, 0, none⟩ x := ⟨_, lies_alloc _ _ _, kTextResult_mk _ x⟩
theorem seenTextResult (w : World) (x : STextResult) (t : TypeId) (W : World) (hb : Below (w.alloc (.cells #[.int .i64 x.Code, .string x.Text] t)).heap.size (w.alloc (.cells #[.int .i64 x.Code, .string x.Text] t)) W) : W.cell? ⟨w.heap.size, 0, none⟩ = some (.int .i64 x.Code) ∧ W.cell? ⟨w.heap.size, 1, none⟩ = some (.string x.Text) :=
  have l := (lies_alloc w #[.int .i64 x.Code, .string x.Text] t).below hb
  ⟨l.c0, l.cS 0 rfl⟩
/-- The block that holds x was the first that was laid behind w. -/
def InTextResult (w : World) (x : STextResult) (t : TypeId) (W : World) : Prop := Below (w.alloc (.cells #[.int .i64 x.Code, .string x.Text] t)).heap.size (w.alloc (.cells #[.int .i64 x.Code, .string x.Text] t)) W
theorem InTextResult.step {w : World} {x : STextResult} {t : TypeId} {W W' : World} (h : InTextResult w x t W) (hb : Below W.heap.size W W') : InTextResult w x t W' := below_trans h hb
theorem InTextResult.below {w : World} {x : STextResult} {t : TypeId} {W : World} (h : InTextResult w x t W) : Below w.heap.size w W := below_trans (below_alloc (Below.refl _ _) _) h
theorem InTextResult.seen {w : World} {x : STextResult} {t : TypeId} {W : World} (h : InTextResult w x t W) : W.cell? ⟨w.heap.size, 0, none⟩ = some (.int .i64 x.Code) ∧ W.cell? ⟨w.heap.size, 1, none⟩ = some (.string x.Text) := seenTextResult w x t W h
theorem InTextResult.at {w : World} {x : STextResult} {t : TypeId} {W : World} (h : InTextResult w x t W) : At kTextResult W ⟨w.heap.size, 0, none⟩ x := (boxTextResult w x t).below h
theorem liesTextResult {w : World} {p : Addr} {x : STextResult} (hl : Lies w p [.int .i64 x.Code, .string x.Text]) : w.cell? p = some (.int .i64 x.Code) ∧ w.cell? ⟨p.block, p.off + 1, none⟩ = some (.string x.Text) := ⟨hl.c0, hl.cS 0 rfl⟩
theorem atTextResult {w : World} {p : Addr} {x : STextResult} (h : At kTextResult w p x) : w.cell? p = some (.int .i64 x.Code) ∧ w.cell? ⟨p.block, p.off + 1, none⟩ = some (.string x.Text) := by
  obtain ⟨cs, hl, hr⟩ := h
  obtain rfl := kTextResult_open hr
  exact ⟨hl.c0, hl.cS 0 rfl⟩
structure SWordsResult where
  Code : Int
  Words : List ByteArray
  deriving DecidableEq
def kWordsResult : Kd SWordsResult := iso (pair kInt (slice 9 kStr)) (fun x => (x.Code, x.Words))
def zWordsResult : SWordsResult := ⟨0, []⟩
theorem kWordsResult_open {w : World} {cs : List Value} {x : SWordsResult} (h : kWordsResult.Rd w cs x) : ∃ A1 c1, cs = [.int .i64 x.Code, .slice A1 x.Words.length c1] ∧ RdS kStr w A1 c1 x.Words := by
  obtain ⟨_, _, rfl, rfl, ⟨_, _, rfl, h1⟩⟩ := h
  exact ⟨_, _, rfl, h1⟩
theorem kWordsResult_mk (w : World) (x : SWordsResult) {A1 : Option Addr} {c1 : Nat} (h1 : RdS kStr w A1 c1 x.Words) : kWordsResult.Rd w [.int .i64 x.Code, .slice A1 x.Words.length c1] x := ⟨[.int .i64 x.Code], [.slice A1 x.Words.length c1], rfl, rfl, ⟨_, _, rfl, h1⟩⟩
theorem boxWordsResult (w : World) (x : SWordsResult) (t : TypeId) {A1 : Option Addr} {c1 : Nat} (h1 : RdS kStr w A1 c1 x.Words) : At kWordsResult (w.alloc (.cells #[.int .i64 x.Code, .slice A1 x.Words.length c1] t)) ⟨w.heap.size, 0, none⟩ x := ⟨_, lies_alloc _ _ _, kWordsResult_mk _ x (h1.below (below_alloc (Below.refl _ _) _))⟩
theorem seenWordsResult (w : World) (x : SWordsResult) (t : TypeId) (A1 : Option Addr) (c1 : Nat) (W : World) (hb : Below (w.alloc (.cells #[.int .i64 x.Code, .slice A1 x.Words.length c1] t)).heap.size (w.alloc (.cells #[.int .i64 x.Code, .slice A1 x.Words.length c1] t)) W) : W.cell? ⟨w.heap.size, 0, none⟩ = some (.int .i64 x.Code) ∧ W.cell? ⟨w.heap.size, 1, none⟩ = some (.slice A1 x.Words.length c1) :=
  have l := (lies_alloc w #[.int .i64 x.Code, .slice A1 x.Words.length c1] t).below hb
  ⟨l.c0, l.cS 0 rfl⟩
/-- The block that holds x was the first that was laid behind w. -/
def InWordsResult (w : World) (x : SWordsResult) (t : TypeId) (A1 : Option Addr) (c1 : Nat) (W : World) : Prop := Below (w.alloc (.cells #[.int .i64 x.Code, .slice A1 x.Words.length c1] t)).heap.size (w.alloc (.cells #[.int .i64 x.Code, .slice A1 x.Words.length c1] t)) W
theorem InWordsResult.step {w : World} {x : SWordsResult} {t : TypeId} {A1 : Option Addr} {c1 : Nat} {W W' : World} (h : InWordsResult w x t A1 c1 W) (hb : Below W.heap.size W W') : InWordsResult w x t A1 c1 W' := below_trans h hb
theorem InWordsResult.below {w : World} {x : SWordsResult} {t : TypeId} {A1 : Option Addr} {c1 : Nat} {W : World} (h : InWordsResult w x t A1 c1 W) : Below w.heap.size w W := below_trans (below_alloc (Below.refl _ _) _) h
theorem InWordsResult.seen {w : World} {x : SWordsResult} {t : TypeId} {A1 : Option Addr} {c1 : Nat} {W : World} (h : InWordsResult w x t A1 c1 W) : W.cell? ⟨w.heap.size, 0, none⟩ = some (.int .i64 x.Code) ∧ W.cell? ⟨w.heap.size, 1, none⟩ = some (.slice A1 x.Words.length c1) := seenWordsResult w x t A1 c1 W h
theorem InWordsResult.at {w : World} {x : SWordsResult} {t : TypeId} {A1 : Option Addr} {c1 : Nat} {W : World} (h : InWordsResult w x t A1 c1 W) (h1 : RdS kStr w A1 c1 x.Words) : At kWordsResult W ⟨w.heap.size, 0, none⟩ x := (boxWordsResult w x t h1).below h
theorem liesWordsResult {w : World} {p : Addr} {x : SWordsResult} {A1 : Option Addr} {c1 : Nat} (hl : Lies w p [.int .i64 x.Code, .slice A1 x.Words.length c1]) : w.cell? p = some (.int .i64 x.Code) ∧ w.cell? ⟨p.block, p.off + 1, none⟩ = some (.slice A1 x.Words.length c1) := ⟨hl.c0, hl.cS 0 rfl⟩
theorem atWordsResult {w : World} {p : Addr} {x : SWordsResult} (h : At kWordsResult w p x) : ∃ A1 c1, w.cell? p = some (.int .i64 x.Code) ∧ w.cell? ⟨p.block, p.off + 1, none⟩ = some (.slice A1 x.Words.length c1) ∧ RdS kStr w A1 c1 x.Words := by
  obtain ⟨cs, hl, hr⟩ := h
  obtain ⟨A1, c1, rfl, h1⟩ := kWordsResult_open hr
  exact ⟨_, _, hl.c0, hl.cS 0 rfl, h1⟩
end Go.Proofs.YtnbenhkbcodlfaaDoor
