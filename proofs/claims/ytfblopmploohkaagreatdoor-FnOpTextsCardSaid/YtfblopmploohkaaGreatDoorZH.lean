/- Copies of rows: slices.Clone, the reference's l8Copy. -/
import Derived.Test.YtfblopmploohkaaGreatDoorZTw
import Derived.Test.YtfblopmploohkaaGreatDoorZW
import Derived.Test.YtfblopmploohkaaGreatDoorProg
import Derived.Laws.Cover3
set_option linter.unusedVariables false
set_option linter.unusedSimpArgs false
namespace Go.Proofs.YtfblopmploohkaaGreatDoor
open Go Go.RowKit Mk
theorem flat_op : Flat kOp := flat_iso _ (flat_pair flat_int (flat_pair flat_int (flat_pair flat_int flat_int)))
theorem flat_entry : Flat kEntry := flat_iso _ (flat_pair flat_int (flat_pair flat_int flat_op))
/-- What a call lays that copies a row. -/
def Copied {α : Type} (d : Kd α) (e : TypeId) (xs : List α) (w : World) (r : Ending) (w' : World) : Prop :=
  ∃ A c fp, r = .returned (.slice A xs.length c) ∧ OwnS d e w.heap.size w' fp (.slice A xs.length c) xs ∧ fp.Nodup ∧ Below w.heap.size w w'
theorem Copied.nil {α : Type} (d : Kd α) (e : TypeId) (w : World) : Copied d e ([] : List α) w (.returned (.slice none 0 0)) w := ⟨none, 0, [], rfl, ownS_nil d w e, List.nodup_nil, Below.refl _ _⟩
theorem Copied.of {α : Type} {d : Kd α} {e : TypeId} {xs : List α} {w w' : World} {v : Value} {fp : List Nat} (h : Grew d e w.heap.size (w.alloc (.cells #[] e)) [w.heap.size] [] v w' fp xs) : Copied d e xs w (.returned v) w' := by
  obtain ⟨h1, h2, h3, h4⟩ := h
  obtain ⟨A, c, rfl, hr⟩ := h1.form
  exact ⟨A, c, fp, rfl, h1, h2, (below_alloc (Below.refl _ _) _).trans (h3.below (by simp) (by simp))⟩
theorem rdS_none {α : Type} {d : Kd α} {w : World} {c : Nat} {xs : List α} (h : RdS d w none c xs) : xs = [] := by
  obtain ⟨_, _, cells, _, h4⟩ := h
  by_cases hx : xs = []
  · exact hx
  · obtain ⟨a, e, _⟩ := h4 hx; cases e
theorem eqlNil32 (a : Option Addr) (l c : Nat) (w : World) : (binOp .eql 32 (.slice a l c) (.slice none 0 0)).run Tryz.prog w = .ok (.bool a.isNone) w := by
  simp only [binOp]
  simp [run_equal_slice_nil w 32 46 a l c Tryz.underlying32]
theorem eqlNil54 (a : Option Addr) (l c : Nat) (w : World) : (binOp .eql 54 (.slice a l c) (.slice none 0 0)).run Tryz.prog w = .ok (.bool a.isNone) w := by
  simp only [binOp]
  simp [run_equal_slice_nil w 54 2 a l c Tryz.underlying54]
theorem eqlNil57 (a : Option Addr) (l c : Nat) (w : World) : (binOp .eql 57 (.slice a l c) (.slice none 0 0)).run Tryz.prog w = .ok (.bool a.isNone) w := by
  simp only [binOp]
  simp [run_equal_slice_nil w 57 4 a l c Tryz.underlying57]
theorem eqlNil58 (a : Option Addr) (l c : Nat) (w : World) : (binOp .eql 58 (.slice a l c) (.slice none 0 0)).run Tryz.prog w = .ok (.bool a.isNone) w := by
  simp only [binOp]
  simp [run_equal_slice_nil w 58 105 a l c Tryz.underlying58]
attribute [local go_sem high] eqlNil32 eqlNil54 eqlNil57 eqlNil58
set_option maxRecDepth 100000 in
theorem cloneEntry_c (xs : List SEntry) (A : Option Addr) (c : Nat) (w : World) (h : RdS kEntry w A c xs) (hn : xs.length ≤ 1048576) :
    Calls Tryz.prog 65 #[.slice A xs.length c] w fun r w' => Copied kEntry 46 xs w r w' := by
  cases A with
  | none =>
    obtain rfl := rdS_none h
    have hc := Copied.nil kEntry 46 w
    go_enter Tryz.func65, Tryz.ntmps65
    go_wp2_with fail
    go_ret
    exact hc
  | some a =>
    go_enter Tryz.func65, Tryz.ntmps65
    go_wp2_with (refine wpList_appFlat (d := kEntry) (zs := xs) (A := (some a)) (c := c) rfl _ _ 32 46 rfl (by kernel_rfl) (by kernel_rfl) flat_entry rfl rfl (ownS_empty kEntry w 46 (Nat.le_refl w.heap.size)) (by simp) (h.below (below_alloc (Below.refl _ _) _)) (by simp; omega) (by simp) ?_; intro v' w' fp' hg)
    have hc := Copied.of hg
    go_ret
    exact hc
set_option maxRecDepth 100000 in
theorem cloneInt64_c (xs : List Int) (A : Option Addr) (c : Nat) (w : World) (h : RdS kInt w A c xs) (hn : xs.length ≤ 1048576) :
    Calls Tryz.prog 87 #[.slice A xs.length c] w fun r w' => Copied kInt 2 xs w r w' := by
  cases A with
  | none =>
    obtain rfl := rdS_none h
    have hc := Copied.nil kInt 2 w
    go_enter Tryz.func87, Tryz.ntmps87
    go_wp2_with fail
    go_ret
    exact hc
  | some a =>
    go_enter Tryz.func87, Tryz.ntmps87
    go_wp2_with (refine wpList_appFlat (d := kInt) (zs := xs) (A := (some a)) (c := c) rfl _ _ 54 2 rfl (by kernel_rfl) (by kernel_rfl) flat_int rfl rfl (ownS_empty kInt w 2 (Nat.le_refl w.heap.size)) (by simp) (h.below (below_alloc (Below.refl _ _) _)) (by simp; omega) (by simp) ?_; intro v' w' fp' hg)
    have hc := Copied.of hg
    go_ret
    exact hc
set_option maxRecDepth 100000 in
theorem cloneBool_c (xs : List Bool) (A : Option Addr) (c : Nat) (w : World) (h : RdS kBool w A c xs) (hn : xs.length ≤ 1048576) :
    Calls Tryz.prog 88 #[.slice A xs.length c] w fun r w' => Copied kBool 4 xs w r w' := by
  cases A with
  | none =>
    obtain rfl := rdS_none h
    have hc := Copied.nil kBool 4 w
    go_enter Tryz.func88, Tryz.ntmps88
    go_wp2_with fail
    go_ret
    exact hc
  | some a =>
    go_enter Tryz.func88, Tryz.ntmps88
    go_wp2_with (refine wpList_appFlat (d := kBool) (zs := xs) (A := (some a)) (c := c) rfl _ _ 57 4 rfl (by kernel_rfl) (by kernel_rfl) flat_bool rfl rfl (ownS_empty kBool w 4 (Nat.le_refl w.heap.size)) (by simp) (h.below (below_alloc (Below.refl _ _) _)) (by simp; omega) (by simp) ?_; intro v' w' fp' hg)
    have hc := Copied.of hg
    go_ret
    exact hc
set_option maxRecDepth 100000 in
theorem cloneDoer_c (xs : List SDoer) (A : Option Addr) (c : Nat) (w : World) (h : RdS kDoer w A c xs) (hn : xs.length ≤ 1048576) :
    Calls Tryz.prog 89 #[.slice A xs.length c] w fun r w' => Copied (based kDoer w) 105 xs w r w' := by
  cases A with
  | none =>
    obtain rfl := rdS_none h
    have hc := Copied.nil (based kDoer w) 105 w
    go_enter Tryz.func89, Tryz.ntmps89
    go_wp2_with fail
    go_ret
    exact hc
  | some a =>
    go_enter Tryz.func89, Tryz.ntmps89
    go_wp2_with (refine wpList_appFlat (d := (based kDoer w)) (zs := xs) (A := (some a)) (c := c) rfl _ _ 58 105 rfl (by kernel_rfl) (by kernel_rfl) (flat_based kDoer w) rfl rfl (ownS_empty (based kDoer w) w 105 (Nat.le_refl w.heap.size)) (by simp) ((rdS_based h).below (below_alloc (Below.refl _ _) _)) (by simp; omega) (by simp) ?_; intro v' w' fp' hg)
    have hc := Copied.of hg
    go_ret
    exact hc
end Go.Proofs.YtfblopmploohkaaGreatDoor

/- A node of its own: the program's ownReplica. -/
set_option linter.unusedVariables false
set_option linter.unusedSimpArgs false
namespace Go.Proofs.YtfblopmploohkaaGreatDoor
open Go Go.RowKit Mk
/-- No list is longer than can be. -/
def SmallRep (n : SReplica) : Prop := n.Log.length ≤ 1048576 ∧ n.Oks.length ≤ 1048576 ∧ n.Asks.length ≤ 1048576 ∧ n.Doers.length ≤ 1048576 ∧ ∀ d ∈ n.Doers, d.Log.length ≤ 1048576
/-- What a call lays that copies a node. -/
def CopiedRep (n : SReplica) (w : World) (r : Ending) (w' : World) : Prop :=
  ∃ A5 c5 A7 c7 A8 c8 A9 c9 f5 f7 f8 f9, r = .returned (.agg #[.int .i64 n.Id, .int .i64 n.Size, .int .i64 n.View, .bool n.Normal, .int .i64 n.Last, .slice A5 n.Log.length c5, .int .i64 n.Commit, .slice A7 n.Oks.length c7, .slice A8 n.Asks.length c8, .slice A9 n.Doers.length c9]) ∧ HasReplica w.heap.size w' n A5 c5 A7 c7 A8 c8 A9 c9 f5 f7 f8 f9 ∧ Below w.heap.size w w'
theorem nodup_chain {f5 f7 f8 f9 : List Nat} {a b c : Nat} (n5 : f5.Nodup) (n7 : f7.Nodup) (n8 : f8.Nodup) (n9 : f9.Nodup) (h5 : ∀ x ∈ f5, x < a) (h7 : ∀ x ∈ f7, a ≤ x ∧ x < b) (h8 : ∀ x ∈ f8, b ≤ x ∧ x < c) (h9 : ∀ x ∈ f9, c ≤ x) (hab : a ≤ b) (hbc : b ≤ c) : (f5 ++ (f7 ++ (f8 ++ f9))).Nodup := by
  refine nodup_join (m := a) n5 (nodup_join (m := b) n7 (nodup_join (m := c) n8 n9 (fun x h => (h8 x h).2) h9) (fun x h => (h7 x h).2) ?_) h5 ?_
  · intro x h; rcases List.mem_append.1 h with h | h
    · exact (h8 x h).1
    · have := h9 x h; omega
  · intro x h; rcases List.mem_append.1 h with h | h
    · exact (h7 x h).1
    · rcases List.mem_append.1 h with h | h
      · have := (h8 x h).1; omega
      · have := h9 x h; omega
set_option maxRecDepth 100000 in
set_option maxHeartbeats 4000000 in
theorem ownReplica_c (n : SReplica) (A5 : Option Addr) (c5 : Nat) (A7 : Option Addr) (c7 : Nat) (A8 : Option Addr) (c8 : Nat) (A9 : Option Addr) (c9 : Nat) (w : World) (h5 : RdS kEntry w A5 c5 n.Log) (h7 : RdS kInt w A7 c7 n.Oks) (h8 : RdS kBool w A8 c8 n.Asks) (h9 : RdS kDoer w A9 c9 n.Doers) (hs : SmallRep n) :
    Calls Tryz.prog 66 #[.agg #[.int .i64 n.Id, .int .i64 n.Size, .int .i64 n.View, .bool n.Normal, .int .i64 n.Last, .slice A5 n.Log.length c5, .int .i64 n.Commit, .slice A7 n.Oks.length c7, .slice A8 n.Asks.length c8, .slice A9 n.Doers.length c9]] w fun r w' => CopiedRep n w r w' := by
  obtain ⟨s5, s7, s8, s9, sd⟩ := hs
  have hl9 := h9.le63
  go_enter Tryz.func66, Tryz.ntmps66
  go_wp2_with fail
  refine (cloneEntry_c n.Log A5 c5 _ (h5.below (by repeat (first | (with_reducible assumption) | (with_reducible exact Below.refl _ _) | (with_reducible apply below_alloc) | (with_reducible apply below_drewN) | (with_reducible apply Below.drew) | (with_reducible refine below_set ?_ (by dsimp only; omega) _) | (with_reducible refine below_trans ?_ (by assumption))))) s5).mono ?_
  rintro e w1 ⟨B5, d5, f5, rfl, o5, n5, hb1⟩
  have x1 : Blk w1 w.heap.size 60 [.int .i64 n.Id, .int .i64 n.Size, .int .i64 n.View, .bool n.Normal, .int .i64 n.Last, .slice A5 n.Log.length c5, .int .i64 n.Commit, .slice A7 n.Oks.length c7, .slice A8 n.Asks.length c8, .slice A9 n.Doers.length c9] := ((blk_alloc w [.int .i64 n.Id, .int .i64 n.Size, .int .i64 n.View, .bool n.Normal, .int .i64 n.Last, .slice A5 n.Log.length c5, .int .i64 n.Commit, .slice A7 n.Oks.length c7, .slice A8 n.Asks.length c8, .slice A9 n.Doers.length c9] 60).below (below_alloc (Below.refl _ _) _)).below hb1
  have y1 : Blk w1 (w.heap.size + 1) 60 [.int .i64 0, .int .i64 0, .int .i64 0, .bool false, .int .i64 0, .slice none 0 0, .int .i64 0, .slice none 0 0, .slice none 0 0, .slice none 0 0] := by
    have := (blk_alloc (w.alloc (.cells #[.int .i64 n.Id, .int .i64 n.Size, .int .i64 n.View, .bool n.Normal, .int .i64 n.Last, .slice A5 n.Log.length c5, .int .i64 n.Commit, .slice A7 n.Oks.length c7, .slice A8 n.Asks.length c8, .slice A9 n.Doers.length c9] 60)) [.int .i64 0, .int .i64 0, .int .i64 0, .bool false, .int .i64 0, .slice none 0 0, .int .i64 0, .slice none 0 0, .slice none 0 0, .slice none 0 0] 60).below hb1
    rwa [Deep.nblk_alloc] at this
  have lo1 : w.heap.size + 2 ≤ w1.heap.size := by have := hb1.size; simp only [Deep.nblk_alloc] at this; omega
  have i5 : ∀ b ∈ f5, w.heap.size + 2 ≤ b ∧ b < w1.heap.size := fun b hb => by have := o5.in b hb; simp only [Deep.nblk_alloc] at this; omega
  replace o5 : OwnS kEntry 46 (w.heap.size + 2) w1 f5 (.slice B5 n.Log.length d5) n.Log := o5.lift (fun b hb => (i5 b hb).1)
  have bw1 : Below w.heap.size w w1 := by repeat (first | (with_reducible assumption) | (with_reducible exact Below.refl _ _) | (with_reducible apply below_alloc) | (with_reducible apply below_drewN) | (with_reducible apply Below.drew) | (with_reducible refine below_set ?_ (by dsimp only; omega) _) | (with_reducible refine below_trans ?_ (by assumption)))
  have q5 := x1.cell (j := 5) rfl
  have z5 := x1.frozen 5
  have q7 := x1.cell (j := 7) rfl
  go_wp2_with fail
  clear q5 z5 q7
  have X := x1.set0 5 (.slice B5 n.Log.length d5)
  simp only [List.set_cons_zero, List.set_cons_succ] at X
  have Y := y1.set_ne (a := ⟨w.heap.size, 5, none⟩) (by simp) (.slice B5 n.Log.length d5)
  have bX : Below w.heap.size w (w1.setCell ⟨w.heap.size, 5, none⟩ (.slice B5 n.Log.length d5)) := below_set bw1 (Nat.le_refl _) _
  have sX : (w1.setCell ⟨w.heap.size, 5, none⟩ (.slice B5 n.Log.length d5)).heap.size = w1.heap.size := by simp [World.setCell]
  have O5 := OwnS.past (lo2 := w.heap.size + 2) o5 ((Past.refl (w.heap.size + 2) w1).set (g := w.heap.size) (j := 5) (by omega) (.slice B5 n.Log.length d5)) (Nat.le_refl _) (Nat.le_refl _)
  clear o5 x1 y1 bw1
  generalize w1.setCell ⟨w.heap.size, 5, none⟩ (.slice B5 n.Log.length d5) = W1 at X Y bX sX O5 ⊢
  have x1 := X
  have y1 := Y
  have bw1 := bX
  have sz1 := sX
  have o5 := O5
  clear X Y bX sX O5
  refine (cloneInt64_c n.Oks A7 c7 W1 (h7.below bw1) s7).mono ?_
  rintro e w2 ⟨B7, d7, f7, rfl, o7, n7, hb2⟩
  have x2 := x1.below hb2
  have y2 := y1.below hb2
  have lo2 : W1.heap.size ≤ w2.heap.size := hb2.size
  have i7 := o7.in
  have bw2 := below_trans bw1 hb2
  replace o5 := OwnS.past (lo2 := w.heap.size + 2) o5 ((Past.refl (w.heap.size + 2) W1).below hb2) (Nat.le_refl _) (Nat.le_refl _)
  replace o7 : OwnS kInt 2 (w.heap.size + 2) w2 f7 (.slice B7 n.Oks.length d7) n.Oks := o7.lift (fun b hb => by have := (i7 b hb).1; omega)
  have q7 := x2.cell (j := 7) rfl
  have z7 := x2.frozen 7
  have q8 := x2.cell (j := 8) rfl
  go_wp2_with fail
  clear q7 z7 q8
  have X := x2.set0 7 (.slice B7 n.Oks.length d7)
  simp only [List.set_cons_zero, List.set_cons_succ] at X
  have Y := y2.set_ne (a := ⟨w.heap.size, 7, none⟩) (by simp) (.slice B7 n.Oks.length d7)
  have bX : Below w.heap.size w (w2.setCell ⟨w.heap.size, 7, none⟩ (.slice B7 n.Oks.length d7)) := below_set bw2 (Nat.le_refl _) _
  have sX : (w2.setCell ⟨w.heap.size, 7, none⟩ (.slice B7 n.Oks.length d7)).heap.size = w2.heap.size := by simp [World.setCell]
  have O5 := OwnS.past (lo2 := w.heap.size + 2) o5 ((Past.refl (w.heap.size + 2) w2).set (g := w.heap.size) (j := 7) (by omega) (.slice B7 n.Oks.length d7)) (Nat.le_refl _) (Nat.le_refl _)
  have O7 := OwnS.past (lo2 := w.heap.size + 2) o7 ((Past.refl (w.heap.size + 2) w2).set (g := w.heap.size) (j := 7) (by omega) (.slice B7 n.Oks.length d7)) (Nat.le_refl _) (Nat.le_refl _)
  clear o5 o7 x2 y2 bw2
  generalize w2.setCell ⟨w.heap.size, 7, none⟩ (.slice B7 n.Oks.length d7) = W2 at X Y bX sX O5 O7 ⊢
  have x2 := X
  have y2 := Y
  have bw2 := bX
  have sz2 := sX
  have o5 := O5
  have o7 := O7
  clear X Y bX sX O5 O7
  refine (cloneBool_c n.Asks A8 c8 W2 (h8.below bw2) s8).mono ?_
  rintro e w3 ⟨B8, d8, f8, rfl, o8, n8, hb3⟩
  have x3 := x2.below hb3
  have y3 := y2.below hb3
  have lo3 : W2.heap.size ≤ w3.heap.size := hb3.size
  have i8 := o8.in
  have bw3 := below_trans bw2 hb3
  replace o5 := OwnS.past (lo2 := w.heap.size + 2) o5 ((Past.refl (w.heap.size + 2) W2).below hb3) (Nat.le_refl _) (Nat.le_refl _)
  replace o7 := OwnS.past (lo2 := w.heap.size + 2) o7 ((Past.refl (w.heap.size + 2) W2).below hb3) (Nat.le_refl _) (Nat.le_refl _)
  replace o8 : OwnS kBool 4 (w.heap.size + 2) w3 f8 (.slice B8 n.Asks.length d8) n.Asks := o8.lift (fun b hb => by have := (i8 b hb).1; omega)
  have q8 := x3.cell (j := 8) rfl
  have z8 := x3.frozen 8
  have q9 := x3.cell (j := 9) rfl
  go_wp2_with fail
  clear q8 z8 q9
  have X := x3.set0 8 (.slice B8 n.Asks.length d8)
  simp only [List.set_cons_zero, List.set_cons_succ] at X
  have Y := y3.set_ne (a := ⟨w.heap.size, 8, none⟩) (by simp) (.slice B8 n.Asks.length d8)
  have bX : Below w.heap.size w (w3.setCell ⟨w.heap.size, 8, none⟩ (.slice B8 n.Asks.length d8)) := below_set bw3 (Nat.le_refl _) _
  have sX : (w3.setCell ⟨w.heap.size, 8, none⟩ (.slice B8 n.Asks.length d8)).heap.size = w3.heap.size := by simp [World.setCell]
  have O5 := OwnS.past (lo2 := w.heap.size + 2) o5 ((Past.refl (w.heap.size + 2) w3).set (g := w.heap.size) (j := 8) (by omega) (.slice B8 n.Asks.length d8)) (Nat.le_refl _) (Nat.le_refl _)
  have O7 := OwnS.past (lo2 := w.heap.size + 2) o7 ((Past.refl (w.heap.size + 2) w3).set (g := w.heap.size) (j := 8) (by omega) (.slice B8 n.Asks.length d8)) (Nat.le_refl _) (Nat.le_refl _)
  have O8 := OwnS.past (lo2 := w.heap.size + 2) o8 ((Past.refl (w.heap.size + 2) w3).set (g := w.heap.size) (j := 8) (by omega) (.slice B8 n.Asks.length d8)) (Nat.le_refl _) (Nat.le_refl _)
  clear o5 o7 o8 x3 y3 bw3
  generalize w3.setCell ⟨w.heap.size, 8, none⟩ (.slice B8 n.Asks.length d8) = W3 at X Y bX sX O5 O7 O8 ⊢
  have x3 := X
  have y3 := Y
  have bw3 := bX
  have sz3 := sX
  have o5 := O5
  have o7 := O7
  have o8 := O8
  clear X Y bX sX O5 O7 O8
  refine (cloneDoer_c n.Doers A9 c9 W3 (h9.below bw3) s9).mono ?_
  rintro e w4 ⟨B9, d9, f9, rfl, o9, n9, hb4⟩
  have i9 := o9.in
  have m5 : ∀ b ∈ f5, b < W3.heap.size := fun b hb => (o5.in b hb).2
  have m7 : ∀ b ∈ f7, b < W3.heap.size := fun b hb => (o7.in b hb).2
  have m8 : ∀ b ∈ f8, b < W3.heap.size := fun b hb => (o8.in b hb).2
  have x4 := x3.below hb4
  have y4 := y3.below hb4
  have bw4 := below_trans bw3 hb4
  have p4 : Past (w.heap.size + 2) W3 w4 := (Past.refl _ _).below hb4
  replace o5 := OwnS.past (lo2 := w.heap.size + 2) o5 p4 (Nat.le_refl _) (Nat.le_refl _)
  replace o7 := OwnS.past (lo2 := w.heap.size + 2) o7 p4 (Nat.le_refl _) (Nat.le_refl _)
  replace o8 := OwnS.past (lo2 := w.heap.size + 2) o8 p4 (Nat.le_refl _) (Nat.le_refl _)
  have h9W := h9.below bw3
  have j5 := o5.in
  have j7 := o7.in
  have j8 := o8.in
  have sA : w1.heap.size ≤ w2.heap.size := by omega
  have sB : w2.heap.size ≤ w3.heap.size := by omega
  have sC : w3.heap.size ≤ w4.heap.size := by have := hb4.size; omega
  have lo4 : w.heap.size + 2 ≤ W3.heap.size := by omega
  have sW : W3.heap.size ≤ w4.heap.size := hb4.size
  clear hb1 h5 h7 h8 h9
  go_wp2_with fail
  go_loopw [22] (fun i W => ∃ k : Nat, k ≤ n.Doers.length ∧ i = .int .i64 k ∧ ∃ fp, OwnS (either kDoer (based kDoer W3) rfl) 105 W3.heap.size W fp (.slice B9 n.Doers.length d9) ((n.Doers.take k).map (fun d => (true, d)) ++ (n.Doers.drop k).map (fun d => (false, d))) ∧ fp.Nodup ∧ Turn f9 w4 W ∧ (∀ b ∈ fp, b ∈ f9 ∨ w4.heap.size ≤ b)) (fun i _ => n.Doers.length - (intOf i).toNat)
  case atStart =>
    exact ⟨0, Nat.zero_le _, rfl, f9, by simpa using OwnS.no (a := kDoer) (b := based kDoer W3) (h := rfl) o9, n9, Turn.refl _ _, fun b hb => .inl hb⟩
  case round =>
    obtain ⟨k, hk, rfl, fp, ow, nd, ht, hfp⟩ := hrel
    by_cases hlt : k < n.Doers.length
    · have hlt' : (k : Int) < (n.Doers.length : Int) := by omega
      have hbW : Below W3.heap.size W3 wr := hb4.trans (ht.below (fun b hb => (i9 b hb).1) sW)
      rw [List.drop_eq_getElem_cons hlt, List.map_cons] at ow
      have hsm := sd _ (List.getElem_mem hlt)
      have htk := List.take_succ_eq_append_getElem hlt
      generalize n.Doers[k] = x at ow hsm htk
      have hin := ow.in
      obtain ⟨gg, fe, f1, f2, c1, ce, c2, eB, hn, rfl, hc1, hB, hO, wand⟩ := ow.zoom nd
      subst eB
      rw [List.length_map, List.length_take, Nat.min_eq_left hk] at hc1
      obtain ⟨rfl, hrd⟩ : fe = [] ∧ kDoer.Rd W3 ce x := hO
      obtain ⟨A2, c2', rfl, hlog⟩ := kDoer_open hrd
      have hc : c1.length = k * 4 := hc1
      have q0 := hB.mid hc (j := 2) rfl
      have z0 := hB.frozen (k * 4 + 2)
      have HB := Lib.hid hB
      clear ow hrd hB hn hc1
      go_wp2_with fail
      refine (cloneEntry_c x.Log A2 c2' wr (hlog.below hbW) hsm).mono ?_
      rintro e w5 ⟨E2, e2, fl, rfl, ol, nl, hb5⟩
      clear q0 z0
      have hB5 := HB.out.below hb5
      have q0 := hB5.mid hc (j := 2) rfl
      have z0 := hB5.frozen (k * 4 + 2)
      have il := ol.in
      have hgl : gg < wr.heap.size := HB.out.lt
      have HB5 := Lib.hid hB5
      clear hB5 HB
      go_wp2_with fail
      have bb := HB5.out.set hc (j := 2) (by simp) (.slice E2 x.Log.length e2)
      simp only [List.set_cons_zero, List.set_cons_succ] at bb
      refine ⟨⟨k + 1, hlt, by go_num, gg :: (f1 ++ (fl ++ f2)), ?_, ?_, ?_, ?_⟩, by simp [intOf]; omega⟩
      · rw [htk, List.map_append, List.map_cons, List.map_nil, List.append_assoc]
        refine wand _ fl _ (true, x) bb ?_ ?_
        · exact kDoer_ownmk x (h2 := OwnS.lift (OwnS.keep ol (fun b hb => by have := (il b hb).1; rw [set_block _ _ _ _ _ (by omega)])) (fun b hb => by have := (il b hb).1; have := hbW.size; omega))
        · intro b hb
          have hbn : b ≠ gg := fun e => nd_g nd (e ▸ hb)
          have hlt2 : b < wr.heap.size := (hin b (by rcases hb with hb | hb <;> simp [hb])).2
          rw [set_block _ _ _ _ _ hbn]
          exact hb5.block b hlt2
      · refine nd_fresh nd nl (fun b hb => (hin b hb).2) (fun b hb => (il b hb).1)
      · refine Turn.fresh (fq := [gg]) (ht.trans (Turn.of_below hb5)) ((Turn.refl _ _).set (by simp) _) ?_
        intro b hb
        simp only [List.mem_singleton] at hb
        subst hb
        exact hfp b (by simp)
      · intro b hb
        simp only [List.mem_cons, List.mem_append] at hb
        have hw := ht.size
        rcases hb with rfl | hb | hb | hb
        · exact hfp _ (by simp)
        · exact hfp _ (by simp [hb])
        · have := (il b hb).1; exact .inr (by omega)
        · exact hfp _ (by simp [hb])
    · have hk' : k = n.Doers.length := by omega
      subst hk'
      rw [List.take_length, List.drop_length, List.map_nil, List.append_nil] at ow
      replace ow := OwnS.yes ow
      have d9' : ∀ b, b < W3.heap.size → b ∉ f9 := fun b hb hm => by have := (i9 b hm).1; omega
      have dd : ∀ b, b < W3.heap.size → b < w4.heap.size := fun b hb => by omega
      have bW : Below w.heap.size w wr := bw4.trans (ht.below (fun b hb => by have := (i9 b hb).1; omega) (by omega))
      have x5 := x4.keep (ht.block _ x4.lt (d9' _ (by omega)))
      have y5 := y4.keep (ht.block _ y4.lt (d9' _ (by omega)))
      have hfW := ow.in
      have k5 := OwnS.turn o5 ht (fun b hb => d9' b (m5 b hb))
      have k7 := OwnS.turn o7 ht (fun b hb => d9' b (m7 b hb))
      have k8 := OwnS.turn o8 ht (fun b hb => d9' b (m8 b hb))
      have sWr := ht.size
      have u0 := x5.cell (j := 0) rfl
      have u1 := x5.cell (j := 1) rfl
      have u2 := x5.cell (j := 2) rfl
      have u3 := x5.cell (j := 3) rfl
      have u4 := x5.cell (j := 4) rfl
      have u5 := x5.cell (j := 5) rfl
      have u6 := x5.cell (j := 6) rfl
      have u7 := x5.cell (j := 7) rfl
      have u8 := x5.cell (j := 8) rfl
      have u9 := x5.cell (j := 9) rfl
      have v9 := x5.frozen 9
      have r0 := y5.cell (j := 0) rfl
      have s0' := y5.frozen 0
      have r1 := y5.cell (j := 1) rfl
      have s1' := y5.frozen 1
      have r2 := y5.cell (j := 2) rfl
      have s2' := y5.frozen 2
      have r3 := y5.cell (j := 3) rfl
      have s3' := y5.frozen 3
      have r4 := y5.cell (j := 4) rfl
      have s4' := y5.frozen 4
      have r5 := y5.cell (j := 5) rfl
      have s5' := y5.frozen 5
      have r6 := y5.cell (j := 6) rfl
      have s6' := y5.frozen 6
      have r7 := y5.cell (j := 7) rfl
      have s7' := y5.frozen 7
      have r8 := y5.cell (j := 8) rfl
      have s8' := y5.frozen 8
      have r9 := y5.cell (j := 9) rfl
      have s9' := y5.frozen 9
      go_wp2_with fail
      have P : Past (w.heap.size + 2) wr (((((((((((wr.setCell ⟨w.heap.size, 9, none⟩ (.slice B9 n.Doers.length d9)).setCell ⟨w.heap.size + 1, 0, none⟩ (.int .i64 n.Id)).setCell ⟨w.heap.size + 1, 1, none⟩ (.int .i64 n.Size)).setCell ⟨w.heap.size + 1, 2, none⟩ (.int .i64 n.View)).setCell ⟨w.heap.size + 1, 3, none⟩ (.bool n.Normal)).setCell ⟨w.heap.size + 1, 4, none⟩ (.int .i64 n.Last)).setCell ⟨w.heap.size + 1, 5, none⟩ (.slice B5 n.Log.length d5)).setCell ⟨w.heap.size + 1, 6, none⟩ (.int .i64 n.Commit)).setCell ⟨w.heap.size + 1, 7, none⟩ (.slice B7 n.Oks.length d7)).setCell ⟨w.heap.size + 1, 8, none⟩ (.slice B8 n.Asks.length d8)).setCell ⟨w.heap.size + 1, 9, none⟩ (.slice B9 n.Doers.length d9)) := by repeat (first | (with_reducible exact Past.refl _ _) | (with_reducible refine Past.set ?_ (by omega) _))
      refine bodyPost_ret (v := .agg #[.int .i64 n.Id, .int .i64 n.Size, .int .i64 n.View, .bool n.Normal, .int .i64 n.Last, .slice B5 n.Log.length d5, .int .i64 n.Commit, .slice B7 n.Oks.length d7, .slice B8 n.Asks.length d8, .slice B9 n.Doers.length d9]) (by simp [results, Tryz.results66, go_sem, r0, r1, r2, r3, r4, r5, r6, r7, r8, r9]) rfl ⟨B5, d5, B7, d7, B8, d8, B9, d9, f5, f7, f8, fp, rfl, ⟨OwnS.past k5 P (by omega) (by omega), OwnS.past k7 P (by omega) (by omega), OwnS.past k8 P (by omega) (by omega), OwnS.past ow P (by omega) (by omega), nodup_chain (a := w1.heap.size) (b := w2.heap.size) (c := w3.heap.size) n5 n7 n8 nd (fun x hx => (i5 x hx).2) (fun x hx => by have := i7 x hx; omega) (fun x hx => by have := i8 x hx; omega) (fun x hx => by have := (hfW x hx).1; omega) (by omega) (by omega)⟩, by repeat (first | (with_reducible assumption) | (with_reducible exact Below.refl _ _) | (with_reducible apply below_alloc) | (with_reducible apply below_drewN) | (with_reducible apply Below.drew) | (with_reducible refine below_set ?_ (by dsimp only; omega) _) | (with_reducible refine below_trans ?_ (by assumption)))⟩
end Go.Proofs.YtfblopmploohkaaGreatDoor

/- A node of its own: the reference's l9Copy (written by gH3.py, own work). -/
set_option linter.unusedVariables false
set_option linter.unusedSimpArgs false
namespace Go.Proofs.YtfblopmploohkaaGreatDoor
open Go Go.RowKit Mk
end Go.Proofs.YtfblopmploohkaaGreatDoor
