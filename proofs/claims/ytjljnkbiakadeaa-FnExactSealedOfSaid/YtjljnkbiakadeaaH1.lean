/- Copies of rows: slices.Clone, the reference's l8Copy. -/
import Derived.Test.YtjljnkbiakadeaaTw
import Derived.Test.YtjljnkbiakadeaaAp
import Derived.Test.YtjljnkbiakadeaaProg
import Derived.Laws.Cover3
set_option linter.unusedVariables false
set_option linter.unusedSimpArgs false
namespace Go.Proofs.Ytjljnkbiakadeaa
open Go Go.RowKit Mk
theorem flat_op : Flat kOp := flat_iso _ (flat_pair flat_int (flat_pair flat_int (flat_pair flat_int flat_int)))
theorem flat_entry : Flat kEntry := flat_iso _ (flat_pair flat_int (flat_pair flat_int flat_op))
/-- What a call lays that copies a row. -/
def Copied {α : Type} (d : Kd α) (e : TypeId) (xs : List α) (w : World) (r : Ending) (w' : World) : Prop :=
  ∃ A c fp, r = .returned (.slice A xs.length c) ∧ OwnS d e w.heap.size w' fp (.slice A xs.length c) xs ∧ fp.Nodup ∧ Below w.heap.size w w'
theorem Copied.nil {α : Type} (d : Kd α) (e : TypeId) (w : World) : Copied d e ([] : List α) w (.returned (.slice none 0 0)) w := ⟨none, 0, [], rfl, ownS_nil d w e, List.nodup_nil, Below.refl _ _⟩
theorem Copied.of {α : Type} {d : Kd α} {e : TypeId} {xs : List α} {w w' : World} {v : Value} {fp : List Nat} (h : Grew d e w.heap.size (w.alloc (.cells #[] e)) [w.heap.size] [] v w' fp xs) : Copied d e xs w (.returned v) w' := by
  obtain ⟨h1, h2, h3, h4⟩ := h
  obtain ⟨A, c, rfl, hr⟩ := h1.form
  exact ⟨A, c, fp, rfl, h1, h2, (below_alloc (Below.refl _ _) _).trans (h3.below (by simp) (by simp))⟩
theorem rdS_none {α : Type} {d : Kd α} {w : World} {c : Nat} {xs : List α} (h : RdS d w none c xs) : xs = [] := by
  obtain ⟨_, _, cells, _, h4⟩ := h
  by_cases hx : xs = []
  · exact hx
  · obtain ⟨a, e, _⟩ := h4 hx; cases e
set_option maxRecDepth 100000 in
theorem l8Copy_c (xs : List SEntry) (A : Option Addr) (c : Nat) (w : World) (h : RdS kEntry w A c xs) (hn : xs.length ≤ 1048576) :
    Calls Try.prog 65 #[.slice A xs.length c] w fun r w' => Copied kEntry 100 xs w r w' := by
  go_enter Try.func65, Try.ntmps65
  go_wp2_with (refine wpList_appFlat (d := kEntry) (zs := xs) (A := A) (c := c) rfl _ _ 38 100 rfl (by kernel_rfl) (by kernel_rfl) flat_entry rfl rfl (ownS_empty kEntry w 100 (Nat.le_refl w.heap.size)) (by simp) (h.below (below_alloc (Below.refl _ _) _)) (by simp; omega) (by simp) ?_; intro v' w' fp' hg)
  have hc := Copied.of hg
  go_ret
  exact hc
theorem eqlNil38 (a : Option Addr) (l c : Nat) (w : World) : (binOp .eql 38 (.slice a l c) (.slice none 0 0)).run Try.prog w = .ok (.bool a.isNone) w := by
  simp only [binOp]
  simp [run_equal_slice_nil w 38 100 a l c Try.underlying38]
theorem eqlNil24 (a : Option Addr) (l c : Nat) (w : World) : (binOp .eql 24 (.slice a l c) (.slice none 0 0)).run Try.prog w = .ok (.bool a.isNone) w := by
  simp only [binOp]
  simp [run_equal_slice_nil w 24 2 a l c Try.underlying24]
theorem eqlNil75 (a : Option Addr) (l c : Nat) (w : World) : (binOp .eql 75 (.slice a l c) (.slice none 0 0)).run Try.prog w = .ok (.bool a.isNone) w := by
  simp only [binOp]
  simp [run_equal_slice_nil w 75 4 a l c Try.underlying75]
theorem eqlNil76 (a : Option Addr) (l c : Nat) (w : World) : (binOp .eql 76 (.slice a l c) (.slice none 0 0)).run Try.prog w = .ok (.bool a.isNone) w := by
  simp only [binOp]
  simp [run_equal_slice_nil w 76 152 a l c Try.underlying76]
attribute [local go_sem high] eqlNil38 eqlNil24 eqlNil75 eqlNil76
set_option maxRecDepth 100000 in
theorem cloneEntry_c (xs : List SEntry) (A : Option Addr) (c : Nat) (w : World) (h : RdS kEntry w A c xs) (hn : xs.length ≤ 1048576) :
    Calls Try.prog 69 #[.slice A xs.length c] w fun r w' => Copied kEntry 100 xs w r w' := by
  cases A with
  | none =>
    obtain rfl := rdS_none h
    have hc := Copied.nil kEntry 100 w
    go_enter Try.func69, Try.ntmps69
    go_wp2_with fail
    go_ret
    exact hc
  | some a =>
    go_enter Try.func69, Try.ntmps69
    go_wp2_with (refine wpList_appFlat (d := kEntry) (zs := xs) (A := (some a)) (c := c) rfl _ _ 38 100 rfl (by kernel_rfl) (by kernel_rfl) flat_entry rfl rfl (ownS_empty kEntry w 100 (Nat.le_refl w.heap.size)) (by simp) (h.below (below_alloc (Below.refl _ _) _)) (by simp; omega) (by simp) ?_; intro v' w' fp' hg)
    have hc := Copied.of hg
    go_ret
    exact hc
set_option maxRecDepth 100000 in
theorem cloneInt64_c (xs : List Int) (A : Option Addr) (c : Nat) (w : World) (h : RdS kInt w A c xs) (hn : xs.length ≤ 1048576) :
    Calls Try.prog 148 #[.slice A xs.length c] w fun r w' => Copied kInt 2 xs w r w' := by
  cases A with
  | none =>
    obtain rfl := rdS_none h
    have hc := Copied.nil kInt 2 w
    go_enter Try.func148, Try.ntmps148
    go_wp2_with fail
    go_ret
    exact hc
  | some a =>
    go_enter Try.func148, Try.ntmps148
    go_wp2_with (refine wpList_appFlat (d := kInt) (zs := xs) (A := (some a)) (c := c) rfl _ _ 24 2 rfl (by kernel_rfl) (by kernel_rfl) flat_int rfl rfl (ownS_empty kInt w 2 (Nat.le_refl w.heap.size)) (by simp) (h.below (below_alloc (Below.refl _ _) _)) (by simp; omega) (by simp) ?_; intro v' w' fp' hg)
    have hc := Copied.of hg
    go_ret
    exact hc
set_option maxRecDepth 100000 in
theorem cloneBool_c (xs : List Bool) (A : Option Addr) (c : Nat) (w : World) (h : RdS kBool w A c xs) (hn : xs.length ≤ 1048576) :
    Calls Try.prog 149 #[.slice A xs.length c] w fun r w' => Copied kBool 4 xs w r w' := by
  cases A with
  | none =>
    obtain rfl := rdS_none h
    have hc := Copied.nil kBool 4 w
    go_enter Try.func149, Try.ntmps149
    go_wp2_with fail
    go_ret
    exact hc
  | some a =>
    go_enter Try.func149, Try.ntmps149
    go_wp2_with (refine wpList_appFlat (d := kBool) (zs := xs) (A := (some a)) (c := c) rfl _ _ 75 4 rfl (by kernel_rfl) (by kernel_rfl) flat_bool rfl rfl (ownS_empty kBool w 4 (Nat.le_refl w.heap.size)) (by simp) (h.below (below_alloc (Below.refl _ _) _)) (by simp; omega) (by simp) ?_; intro v' w' fp' hg)
    have hc := Copied.of hg
    go_ret
    exact hc
set_option maxRecDepth 100000 in
theorem cloneDoer_c (xs : List SDoer) (A : Option Addr) (c : Nat) (w : World) (h : RdS kDoer w A c xs) (hn : xs.length ≤ 1048576) :
    Calls Try.prog 150 #[.slice A xs.length c] w fun r w' => Copied (based kDoer w) 152 xs w r w' := by
  cases A with
  | none =>
    obtain rfl := rdS_none h
    have hc := Copied.nil (based kDoer w) 152 w
    go_enter Try.func150, Try.ntmps150
    go_wp2_with fail
    go_ret
    exact hc
  | some a =>
    go_enter Try.func150, Try.ntmps150
    go_wp2_with (refine wpList_appFlat (d := (based kDoer w)) (zs := xs) (A := (some a)) (c := c) rfl _ _ 76 152 rfl (by kernel_rfl) (by kernel_rfl) (flat_based kDoer w) rfl rfl (ownS_empty (based kDoer w) w 152 (Nat.le_refl w.heap.size)) (by simp) ((rdS_based h).below (below_alloc (Below.refl _ _) _)) (by simp; omega) (by simp) ?_; intro v' w' fp' hg)
    have hc := Copied.of hg
    go_ret
    exact hc
end Go.Proofs.Ytjljnkbiakadeaa
