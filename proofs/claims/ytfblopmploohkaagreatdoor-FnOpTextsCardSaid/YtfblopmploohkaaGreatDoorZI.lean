/- A node that asks for a view; a node that is normal (written by hand). -/
import Derived.Test.YtfblopmploohkaaGreatDoorZH
import Derived.Test.YtfblopmploohkaaGreatDoorZW
import Derived.Test.YtfblopmploohkaaGreatDoorZB
set_option linter.unusedVariables false
set_option linter.unusedSimpArgs false
namespace Go.Proofs.YtfblopmploohkaaGreatDoor
open Go Go.RowKit Mk
def aloneL (s i : Nat) : List Bool := (List.replicate s false).set i true
theorem flat_false (s : Nat) : (List.replicate s [Value.bool false]).flatten = List.replicate s (Value.bool false) := by
  induction s with
  | zero => rfl
  | succ s ih => rw [List.replicate_succ, List.flatten_cons, ih]; rfl
theorem own_bools (B : Nat) (w : World) : ∀ xs : List Bool, OwnL kBool B w [] (xs.map Value.bool) xs
  | [] => ⟨rfl, rfl⟩
  | x :: xs => ⟨[], [], [.bool x], xs.map Value.bool, rfl, rfl, ⟨rfl, rfl⟩, own_bools B w xs⟩
theorem own_ints (B : Nat) (w : World) : ∀ xs : List Int, OwnL kInt B w [] (xs.map (Value.int .i64)) xs
  | [] => ⟨rfl, rfl⟩
  | x :: xs => ⟨[], [], [.int .i64 x], xs.map (Value.int .i64), rfl, rfl, ⟨rfl, rfl⟩, own_ints B w xs⟩
theorem own_zdoer (B : Nat) (w : World) : kDoer.Own B w [] [.bool false, .int .i64 0, .slice none 0 0, .int .i64 0] zDoer := kDoer_ownmk zDoer (h2 := ownS_nil kEntry w 46)
/-- What 'alone' leaves: a row of asks, a row of nobodies. -/
def Alone (b o : Nat) (e : TypeId) (pr po : List Value) (i s : Nat) (c2 c3 c4 c5 c6 c7 : Value) (w : World) (r : Ending) (w' : World) : Prop :=
  ∃ g h, r = .returned (.tuple #[]) ∧ Blk w' b e (pr ++ [.int .i64 i, .int .i64 s, c2, c3, c4, c5, c6, c7, .slice (some ⟨g, 0, none⟩) s s, .slice (some ⟨h, 0, none⟩) s s] ++ po) ∧
    OwnS kBool 4 w.heap.size w' [g] (.slice (some ⟨g, 0, none⟩) s s) (aloneL s i) ∧ OwnS kDoer 105 w.heap.size w' [h] (.slice (some ⟨h, 0, none⟩) s s) (List.replicate s zDoer) ∧ g ≠ h ∧ Turn [b] w w'
set_option maxRecDepth 100000 in
set_option maxHeartbeats 1000000 in
theorem alone_c (b o : Nat) (e : TypeId) (pr po : List Value) (i s : Nat) (c2 c3 c4 c5 c6 c7 c8 c9 : Value) (w : World) (hB : Blk w b e (pr ++ [.int .i64 i, .int .i64 s, c2, c3, c4, c5, c6, c7, c8, c9] ++ po)) (ho : pr.length = o) (h1 : i < s) (h2 : s ≤ 5) :
    Calls Tryz.prog 143 #[.pointer (some ⟨b, o, none⟩)] w fun r w' => Alone b o e pr po i s c2 c3 c4 c5 c6 c7 w r w' := by
  have hlt := hB.lt
  have h3 : (i : Int) < (s : Int) := by omega
  have q0 := hB.mid ho (j := 0) rfl
  have q1 := hB.mid ho (j := 1) rfl
  have q8 := hB.mid ho (j := 8) rfl
  have z8 := hB.frozen (o + 8)
  simp only [Nat.add_zero] at q0
  go_enter Tryz.func143, Tryz.ntmps143
  go_upto_region 1 with (refine wpList_mk 57 4 (.bool false) 1 _ _ rfl rfl s rfl rfl (by kernel_rfl) (by kernel_rfl) (by decide) (by omega) ?_; intro W0 G0 b0 s0; clear q0 q1 q8 z8; have X0 := hB.below b0; have q8 := X0.mid ho (j := 8) rfl; have z8 := X0.frozen (o + 8))
  clear q8 z8
  rw [show (Value.bool false).cells.toList = [Value.bool false] from rfl, flat_false] at G0
  refine at_world (fun W => Blk W b e (pr ++ [.int .i64 i, .int .i64 s, c2, c3, c4, c5, c6, c7, .slice (some ⟨w.heap.size, 0, none⟩) s s, c9] ++ po) ∧ Blk W w.heap.size 4 (List.replicate s (.bool false)) ∧ Turn [b] w W ∧ w.heap.size < W.heap.size) ⟨X0.set ho (j := 8) (by simp) _, G0.set_ne (by simp; omega) _, (Turn.of_below b0).set (by simp) _, by simpa [World.setCell] using s0⟩ ?_
  rintro W1 ⟨X, G, tX, sX⟩
  clear X0 G0 b0 s0 W0
  have q0 := X.mid ho (j := 0) rfl
  have q8 := X.mid ho (j := 8) rfl
  simp only [Nat.add_zero] at q0
  have gi : W1.cell? ⟨w.heap.size, i, none⟩ = some (.bool false) := G.cell (by simp [h1])
  have gz := G.frozen i
  go_still_tail 9, (by kernel_rfl)
  go_upto_region 2 with fail
  clear q0 q8 gi gz
  refine at_world (fun W => Blk W b e (pr ++ [.int .i64 i, .int .i64 s, c2, c3, c4, c5, c6, c7, .slice (some ⟨w.heap.size, 0, none⟩) s s, c9] ++ po) ∧ Blk W w.heap.size 4 ((aloneL s i).map Value.bool) ∧ Turn [b] w W ∧ w.heap.size < W.heap.size) ⟨X.set_ne (a := ⟨w.heap.size, i, none⟩) (by simp; omega) (.bool true), ?_, (Turn.fresh (fq := [w.heap.size]) tX ((Turn.refl [w.heap.size] W1).set (p := ⟨w.heap.size, i, none⟩) (by simp) (.bool true)) (by simp)).drew, by simpa [World.setCell] using sX⟩ ?_
  · have := G.set0 i (.bool true)
    have e2 : (aloneL s i).map Value.bool = (List.replicate s (Value.bool false)).set i (.bool true) := by unfold aloneL; rw [List.map_set, List.map_replicate]
    rw [e2]; exact this
  rintro W2 ⟨X2, G2, t2, s2⟩
  have q1 := X2.mid ho (j := 1) rfl
  have q9 := X2.mid ho (j := 9) rfl
  have z9 := X2.frozen (o + 9)
  go_wp2_with (refine wpList_mk 58 105 (.agg #[.bool false, .int .i64 0, .slice none 0 0, .int .i64 0]) 48 _ _ rfl rfl s rfl rfl (by kernel_rfl) (by kernel_rfl) (by decide) (by omega) ?_; intro W3 G3 b3 s3; clear q1 q9 z9; have X3 := X2.below b3; have q9 := X3.mid ho (j := 9) rfl; have z9 := X3.frozen (o + 9))
  refine bodyPost_end (v := .tuple #[]) (by simp [results, Tryz.results143, go_sem]) rfl ?_
  have X4 := X3.set ho (j := 9) (by simp) (.slice (some ⟨W2.heap.size, 0, none⟩) s s)
  simp only [List.set_cons_zero, List.set_cons_succ] at X4
  have hsz : W2.heap.size ≠ b := by have := X2.lt; omega
  have hne : w.heap.size ≠ b := by omega
  have t3 : Turn [b] w W3 := t2.trans (Turn.of_below b3)
  have G4 := ((G2.below b3).set_ne (a := ⟨b, o + 9, none⟩) (by simpa using hne.symm) (.slice (some ⟨W2.heap.size, 0, none⟩) s s))
  have D4 := (G3.set_ne (a := ⟨b, o + 9, none⟩) (by simpa using hsz.symm) (.slice (some ⟨W2.heap.size, 0, none⟩) s s))
  have hl : (aloneL s i).length = s := by simp [aloneL]
  have oA := ownS_blk (d := kBool) (e := 4) (B := w.heap.size) (xs := aloneL s i) G4 (own_bools _ _ _) (Nat.le_refl _) (by rw [hl]; unfold maxLen; omega)
  rw [hl] at oA
  have oD := ownS_blk (d := kDoer) (e := 105) (B := w.heap.size) (xs := List.replicate s zDoer) D4 (ownL_rep (own_zdoer _ _) s) (by omega) (by simp; unfold maxLen; omega)
  rw [List.length_replicate] at oD
  exact ⟨w.heap.size, W2.heap.size, rfl, X4, oA, oD, by omega, t3.set (by simp) _⟩
/-- What asking for a view leaves. -/
def Asked (b o : Nat) (e : TypeId) (pr po : List Value) (i s : Nat) (v : Int) (c4 c5 c6 : Value) (w : World) (r : Ending) (w' : World) : Prop :=
  Alone b o e pr po i s (.int .i64 v) (.bool false) c4 c5 c6 (.slice none 0 0) w r w'
set_option maxRecDepth 100000 in
set_option maxHeartbeats 1000000 in
theorem ask_c (b o : Nat) (e : TypeId) (pr po : List Value) (i s : Nat) (v : Int) (c2 c3 c4 c5 c6 c7 c8 c9 : Value) (w : World) (hB : Blk w b e (pr ++ [.int .i64 i, .int .i64 s, c2, c3, c4, c5, c6, c7, c8, c9] ++ po)) (ho : pr.length = o) (h1 : i < s) (h2 : s ≤ 5) :
    Calls Tryz.prog 137 #[.pointer (some ⟨b, o, none⟩), .int .i64 v] w fun r w' => Asked b o e pr po i s v c4 c5 c6 w r w' := by
  have q2 := hB.mid ho (j := 2) rfl
  have z2 := hB.frozen (o + 2)
  have q3 := hB.mid ho (j := 3) rfl
  have z3 := hB.frozen (o + 3)
  have q7 := hB.mid ho (j := 7) rfl
  have z7 := hB.frozen (o + 7)
  go_enter Tryz.func137, Tryz.ntmps137
  go_wp2_with fail
  clear q2 z2 q3 z3 q7 z7
  refine at_call (fun W => Blk W b e (pr ++ [.int .i64 i, .int .i64 s, .int .i64 v, .bool false, c4, c5, c6, .slice none 0 0, c8, c9] ++ po) ∧ Turn [b] w W) ⟨((hB.set ho (j := 2) (by simp) (.int .i64 v)).set ho (j := 3) (by simp) (.bool false)).set ho (j := 7) (by simp) (.slice none 0 0), (((Turn.refl [b] w).set (p := ⟨b, o + 2, none⟩) (by simp) (.int .i64 v)).set (p := ⟨b, o + 3, none⟩) (by simp) (.bool false)).set (p := ⟨b, o + 7, none⟩) (by simp) (.slice none 0 0)⟩ ?_
  rintro W0 ⟨Y, tY⟩
  refine (alone_c b o e pr po i s _ _ _ _ _ _ _ _ W0 Y ho h1 h2).mono ?_
  rintro r w' ⟨g, h, rfl, x1, x2, x3, x4, x5⟩
  go_wp2_with fail
  refine bodyPost_end (v := .tuple #[]) (by simp [results, Tryz.results137, go_sem]) rfl ?_
  have hs := tY.size
  exact ⟨g, h, rfl, x1, x2.lift (fun b hb => by have := (x2.in b hb).1; omega), x3.lift (fun b hb => by have := (x3.in b hb).1; omega), x4, tY.trans x5⟩
theorem primaryR_c (v s : Int) (w : World) (h0 : 0 ≤ v) (h1 : 1 ≤ s) (h2 : v ≤ 1000) : Calls Tryz.prog 84 #[.int .i64 v, .int .i64 s] w fun e w' => e = .returned (.int .i64 (v % s)) ∧ w = w' := by
  have hs : (s == 0) = false := beq_eq_false_iff_ne.2 (by omega)
  go_enter Tryz.func84, Tryz.ntmps84
  go_wp2
  go_ret; exact ⟨rfl, rfl⟩
set_option maxRecDepth 100000 in
set_option maxHeartbeats 1000000 in
theorem isPrimaryR_c (w : World) (p : Addr) (i s v : Int) (h0 : w.cell? p = some (.int .i64 i)) (h1 : w.cell? ⟨p.block, p.off + 1, none⟩ = some (.int .i64 s)) (h2 : w.cell? ⟨p.block, p.off + 2, none⟩ = some (.int .i64 v)) (hv : 0 ≤ v) (hs : 1 ≤ s) (hv2 : v ≤ 1000) :
    Calls Tryz.prog 56 #[.pointer (some p)] w fun e w' => e = .returned (.bool (v % s == i)) ∧ ∃ m, w' = w.drewN m := by
  skip
  go_enter Tryz.func56, Tryz.ntmps56
  go_wp2_with fail
  go_quiet ((go_at_call 84; (with_reducible refine Calls.quiet_of_same ((primaryR_c _ _ _ hv hs hv2).mono fun e w' ⟨he, hw⟩ => ⟨he, hw.symm⟩))))
  go_wp2
  go_ret; exact ⟨rfl, _, rfl⟩
/-- The rows of oks of a normal node: as many zeros as there are nodes at the primary, none else. -/
def oksZ (i s : Nat) (v : Int) : List Int := if v % (s : Int) == (i : Int) then List.replicate s 0 else []
/-- What becoming normal leaves. -/
def Settled (b o : Nat) (e : TypeId) (pr po : List Value) (i s : Nat) (v : Int) (c5 c6 : Value) (w : World) (r : Ending) (w' : World) : Prop :=
  ∃ A c f, r = .returned (.tuple #[]) ∧ Blk w' b e (pr ++ [.int .i64 i, .int .i64 s, .int .i64 v, .bool true, .int .i64 v, c5, c6, .slice A (oksZ i s v).length c, .slice none 0 0, .slice none 0 0] ++ po) ∧
    OwnS kInt 2 w.heap.size w' f (.slice A (oksZ i s v).length c) (oksZ i s v) ∧ f.Nodup ∧ Turn [b] w w'
set_option maxRecDepth 100000 in
set_option maxHeartbeats 1000000 in
theorem settle_c (b o : Nat) (e : TypeId) (pr po : List Value) (i s : Nat) (v : Int) (c3 c4 c5 c6 c7 c8 c9 : Value) (w : World) (hB : Blk w b e (pr ++ [.int .i64 i, .int .i64 s, .int .i64 v, c3, c4, c5, c6, c7, c8, c9] ++ po)) (ho : pr.length = o) (h1 : i < s) (h2 : s ≤ 5) (hv : 0 ≤ v) (hv2 : v ≤ 1000) :
    Calls Tryz.prog 38 #[.pointer (some ⟨b, o, none⟩)] w fun r w' => Settled b o e pr po i s v c5 c6 w r w' := by
  have q2 := hB.mid ho (j := 2) rfl
  have q3 := hB.mid ho (j := 3) rfl
  have z3 := hB.frozen (o + 3)
  have q4 := hB.mid ho (j := 4) rfl
  have z4 := hB.frozen (o + 4)
  have q7 := hB.mid ho (j := 7) rfl
  have z7 := hB.frozen (o + 7)
  have q8 := hB.mid ho (j := 8) rfl
  have z8 := hB.frozen (o + 8)
  have q9 := hB.mid ho (j := 9) rfl
  have z9 := hB.frozen (o + 9)
  go_enter Tryz.func38, Tryz.ntmps38
  go_wp2_with fail
  clear q2 q3 z3 q4 z4 q7 z7 q8 z8 q9 z9
  refine at_call (fun W => Blk W b e (pr ++ [.int .i64 i, .int .i64 s, .int .i64 v, .bool true, .int .i64 v, c5, c6, .slice none 0 0, .slice none 0 0, .slice none 0 0] ++ po) ∧ Turn [b] w W) ⟨((((hB.set ho (j := 3) (by simp) (.bool true)).set ho (j := 4) (by simp) (.int .i64 v)).set ho (j := 8) (by simp) (.slice none 0 0)).set ho (j := 9) (by simp) (.slice none 0 0)).set ho (j := 7) (by simp) (.slice none 0 0), (((((Turn.refl [b] w).set (p := ⟨b, o + 3, none⟩) (by simp) (.bool true)).set (p := ⟨b, o + 4, none⟩) (by simp) (.int .i64 v)).set (p := ⟨b, o + 8, none⟩) (by simp) (.slice none 0 0)).set (p := ⟨b, o + 9, none⟩) (by simp) (.slice none 0 0)).set (p := ⟨b, o + 7, none⟩) (by simp) (.slice none 0 0)⟩ ?_
  rintro W0 ⟨Y, tY⟩
  have y0 := Y.mid ho (j := 0) rfl
  have y1 := Y.mid ho (j := 1) rfl
  have y2 := Y.mid ho (j := 2) rfl
  have y7 := Y.mid ho (j := 7) rfl
  have z7' := Y.frozen (o + 7)
  simp only [Nat.add_zero] at y0
  have HC := Lib.hid (isPrimaryR_c W0 ⟨b, o, none⟩ i s v y0 y1 y2 hv (by omega) hv2)
  have hs := tY.size
  cases q : (v % (s : Int) == (i : Int)) with
  | true =>
    have hO := Lib.hid (show oksZ i s v = List.replicate s 0 by unfold oksZ; rw [q, if_pos rfl])
    rw [q] at HC
    clear q
    refine HC.out.mono ?_
    rintro r w1 ⟨rfl, m, rfl⟩
    go_wp2_with (refine wpList_mk 54 2 (.int .i64 0) 8 _ _ rfl rfl s rfl rfl (by kernel_rfl) (by kernel_rfl) (by decide) (by omega) ?_; intro W1 G1 b1 s1; clear y0 y1 y2 y7 z7'; have X1 : Blk W1 b e _ := Blk.below (w := W0.drewN m) Y b1; have y7 := X1.mid ho (j := 7) rfl; have z7' := X1.frozen (o + 7))
    refine bodyPost_end (v := .tuple #[]) (by simp [results, Tryz.results38, go_sem]) rfl ?_
    have X4 := X1.set ho (j := 7) (by simp) (.slice (some ⟨W0.heap.size, 0, none⟩) s s)
    simp only [List.set_cons_zero, List.set_cons_succ] at X4
    have hne : W0.heap.size ≠ b := by have := Y.lt; omega
    have t1 : Turn [b] w W1 := tY.trans (Turn.of_below (below_trans (below_drewN (Below.refl _ _) m) b1))
    have G4 := (G1.set_ne (a := ⟨b, o + 7, none⟩) (by simpa using hne.symm) (.slice (some ⟨W0.heap.size, 0, none⟩) s s))
    have oO := ownS_blk (d := kInt) (e := 2) (B := w.heap.size) (xs := List.replicate s 0) (g := W0.heap.size) G4 (ownL_rep (d := kInt) (x := (0 : Int)) ⟨rfl, rfl⟩ s) (by omega) (by simp; unfold maxLen; omega)
    unfold Settled
    rw [hO.out]
    rw [List.length_replicate] at oO ⊢
    exact ⟨_, _, _, rfl, X4, oO, by simp, t1.set (by simp) _⟩
  | false =>
    have hO := Lib.hid (show oksZ i s v = [] by unfold oksZ; rw [q]; rfl)
    rw [q] at HC
    clear q
    refine HC.out.mono ?_
    rintro r w1 ⟨rfl, m, rfl⟩
    go_wp2_with fail
    refine bodyPost_end (v := .tuple #[]) (by simp [results, Tryz.results38, go_sem]) rfl ?_
    unfold Settled
    rw [hO.out]
    exact ⟨none, 0, [], rfl, Y, ownS_nil _ _ _, by simp, tY.trans (Turn.of_below (below_drewN (Below.refl _ _) m))⟩
end Go.Proofs.YtfblopmploohkaaGreatDoor

/- Mails to all others: the program's mail, toAll, changes; the reference's l9Changes. -/
set_option linter.unusedVariables false
set_option linter.unusedSimpArgs false
namespace Go.Proofs.YtfblopmploohkaaGreatDoor
open Go Go.RowKit Mk
def mailK (i v kind tt : Int) : SMail := ⟨kind, i, tt, v, 0, false, zEntry, 0, [], 0⟩
/-- The mails to the first k ones, to itself none. -/
def allTo (F : Nat → SMail) (i k : Nat) : List SMail := ((List.range k).filter (fun j => j != i)).map F
theorem allTo_same (F : Nat → SMail) (i : Nat) : allTo F i (i + 1) = allTo F i i := by simp [allTo, List.range_succ]
theorem allTo_succ (F : Nat → SMail) {i k : Nat} (h : k ≠ i) : allTo F i (k + 1) = allTo F i k ++ [F k] := by simp [allTo, List.range_succ, h]
theorem allTo_len (F : Nat → SMail) (i k : Nat) : (allTo F i k).length ≤ k := by
  unfold allTo
  rw [List.length_map]
  exact Nat.le_trans (List.length_filter_le _ _) (by simp)
/-- A call that lays a mail. -/
def LaidMail (m : SMail) (W : World) (r : Ending) (W' : World) : Prop :=
  ∃ A13 c13 fm, r = .returned (.agg #[.int .i64 m.Kind, .int .i64 m.From, .int .i64 m.To, .int .i64 m.View, .int .i64 m.At, .bool m.Has, .int .i64 m.Entry.Client, .int .i64 m.Entry.Seq, .int .i64 m.Entry.Op.Kind, .int .i64 m.Entry.Op.Vol, .int .i64 m.Entry.Op.At, .int .i64 m.Entry.Op.Value, .int .i64 m.Last, .slice A13 m.Log.length c13, .int .i64 m.Commit]) ∧ OwnS kEntry 46 W.heap.size W' fm (.slice A13 m.Log.length c13) m.Log ∧ fm.Nodup ∧ Below W.heap.size W W'
set_option maxRecDepth 100000 in
set_option maxHeartbeats 1000000 in
theorem mail_c (w : World) (p : Addr) (i v kind tt : Int) (h0 : w.cell? p = some (.int .i64 i)) (h2 : w.cell? ⟨p.block, p.off + 2, none⟩ = some (.int .i64 v)) :
    Calls Tryz.prog 136 #[.pointer (some p), .int .i64 kind, .int .i64 tt] w fun r w' => LaidMail (mailK i v kind tt) w r w' := by
  have k0 := World.block_lt_of_cell? w _ h0
  go_enter Tryz.func136, Tryz.ntmps136
  go_wp2_with fail
  refine at_world (fun W => (W.cell? p = some (.int .i64 i) ∧ W.cell? ⟨p.block, p.off + 2, none⟩ = some (.int .i64 v)) ∧ Blk W w.heap.size 75 [.int .i64 0, .int .i64 0, .int .i64 0, .int .i64 0, .int .i64 0, .bool false, .int .i64 0, .int .i64 0, .int .i64 0, .int .i64 0, .int .i64 0, .int .i64 0, .int .i64 0, .slice none 0 0, .int .i64 0] ∧ Below w.heap.size w W) ⟨⟨(World.cell?_alloc_lt w _ p k0).trans h0, (World.cell?_alloc_lt w _ ⟨p.block, p.off + 2, none⟩ k0).trans h2⟩, blk_alloc w [.int .i64 0, .int .i64 0, .int .i64 0, .int .i64 0, .int .i64 0, .bool false, .int .i64 0, .int .i64 0, .int .i64 0, .int .i64 0, .int .i64 0, .int .i64 0, .int .i64 0, .slice none 0 0, .int .i64 0] _, below_alloc (Below.refl _ _) _⟩ ?_
  rintro W ⟨⟨a0, a2⟩, zB, bW⟩
  have r0 := zB.cell (j := 0) rfl
  have y0 := zB.frozen 0
  have r1 := zB.cell (j := 1) rfl
  have y1 := zB.frozen 1
  have r2 := zB.cell (j := 2) rfl
  have y2 := zB.frozen 2
  have r3 := zB.cell (j := 3) rfl
  have y3 := zB.frozen 3
  have r4 := zB.cell (j := 4) rfl
  have y4 := zB.frozen 4
  have r5 := zB.cell (j := 5) rfl
  have y5 := zB.frozen 5
  have r6 := zB.cell (j := 6) rfl
  have y6 := zB.frozen 6
  have r7 := zB.cell (j := 7) rfl
  have y7 := zB.frozen 7
  have r8 := zB.cell (j := 8) rfl
  have y8 := zB.frozen 8
  have r9 := zB.cell (j := 9) rfl
  have y9 := zB.frozen 9
  have r10 := zB.cell (j := 10) rfl
  have y10 := zB.frozen 10
  have r11 := zB.cell (j := 11) rfl
  have y11 := zB.frozen 11
  have r12 := zB.cell (j := 12) rfl
  have y12 := zB.frozen 12
  have r13 := zB.cell (j := 13) rfl
  have y13 := zB.frozen 13
  have r14 := zB.cell (j := 14) rfl
  have y14 := zB.frozen 14
  go_still_tail 11, (by kernel_rfl)
  go_wp2_with fail
  refine bodyPost_ret (v := .agg #[.int .i64 kind, .int .i64 i, .int .i64 tt, .int .i64 v, .int .i64 0, .bool false, .int .i64 0, .int .i64 0, .int .i64 0, .int .i64 0, .int .i64 0, .int .i64 0, .int .i64 0, .slice none 0 0, .int .i64 0]) (by simp [results, Tryz.results136, go_sem, r0, r1, r2, r3, r4, r5, r6, r7, r8, r9, r10, r11, r12, r13, r14]) rfl ⟨none, 0, [], rfl, ownS_nil _ _ _, by simp, ?_⟩
  repeat (first | (with_reducible assumption) | (with_reducible exact Below.refl _ _) | (with_reducible apply below_alloc) | (with_reducible apply below_drewN) | (with_reducible apply Below.drew) | (with_reducible refine below_set ?_ (by dsimp only; omega) _) | (with_reducible refine below_trans ?_ (by assumption)))
/-- A call of a closure that lays a mail: what a walk over all others asks of it. -/
def Sends (g : Nat) (cb : Array Value) (F : Nat → SMail) (s : Nat) (w : World) : Prop :=
  ∀ (W : World) (k : Nat), Below w.heap.size w W → k < s → Calls Tryz.prog g (#[.int .i64 (k : Int)] ++ cb) W fun r W' => LaidMail (F k) W r W'
/-- Mails that were laid. -/
def LaidMails (ms : List SMail) (w : World) (r : Ending) (w' : World) : Prop :=
  ∃ A c fs, r = .returned (.slice A ms.length c) ∧ OwnS kMail 75 w.heap.size w' fs (.slice A ms.length c) ms ∧ fs.Nodup ∧ Below w.heap.size w w'
set_option maxRecDepth 100000 in
set_option maxHeartbeats 2000000 in
theorem toAll_c (g : Nat) (cb : Array Value) (eg : ∀ args w, (callFunc g args).run Tryz.prog w = .ok (.enter g args) w) (F : Nat → SMail) (i s : Nat) (p : Addr) (w : World) (h0 : w.cell? p = some (.int .i64 i)) (h1 : w.cell? ⟨p.block, p.off + 1, none⟩ = some (.int .i64 s)) (hs : s ≤ 5)
    (hg : Sends g cb F s w) : Calls Tryz.prog 101 #[.pointer (some p), .func (.func g) #[] cb] w fun r w' => LaidMails (allTo F i s) w r w' := by
  have k0 := World.block_lt_of_cell? w _ h0
  have k1 : p.block < w.heap.size := k0
  have hlen := allTo_len F i s
  have f1 : ∀ ob, (w.alloc ob).cell? ⟨p.block, p.off + 1, none⟩ = some (.int .i64 s) := fun ob => (World.cell?_alloc_lt w ob ⟨p.block, p.off + 1, none⟩ k0).trans h1
  go_enter Tryz.func101, Tryz.ntmps101
  go_wp2_with fail
  clear f1
  go_loopw [5, 12] (fun v j W => ∃ k : Nat, k ≤ s ∧ j = .int .i64 k ∧ ∃ vv fp, vv = v ∧ OwnS kMail 75 w.heap.size W fp vv (allTo F i k) ∧ fp.Nodup ∧ Below w.heap.size w W) (fun _ j _ => s - (intOf j).toNat)
  case atStart => exact ⟨0, Nat.zero_le _, rfl, _, [w.heap.size], rfl, by simpa [allTo] using ownS_empty kMail w 75 (Nat.le_refl _), by simp, below_alloc (Below.refl _ _) _⟩
  case round =>
    obtain ⟨k, hk, rfl, vv, fp, rfl, ow, nd, hb⟩ := hrel
    by_cases hlt : k < s
    · have hlt' : (k : Int) < (s : Int) := by omega
      have a0 := cell_below hb h0
      have hin := ow.in
      by_cases hki : k = i
      · subst hki
        have he : ((k : Int) != (k : Int)) = false := by simp
        rw [← allTo_same F k] at ow
        go_wp2_with fail
        exact ⟨⟨k + 1, hlt, by go_num, _, fp, rfl, ow, nd, hb⟩, by simp [intOf]; omega⟩
      · have he : ((k : Int) != (i : Int)) = true := by simp; omega
        have hc := hg wr k hb hlt
        clear hg h0 h1
        go_wp2_with fail
        refine hc.mono ?_
        rintro r w5 ⟨A13, c13, fm, rfl, om, nm, hb5⟩
        have hs5 := hb5.size
        have im := om.in
        have oW : OwnS kMail 75 w.heap.size (w5.alloc (.cells #[.int .i64 (F k).Kind, .int .i64 (F k).From, .int .i64 (F k).To, .int .i64 (F k).View, .int .i64 (F k).At, .bool (F k).Has, .int .i64 (F k).Entry.Client, .int .i64 (F k).Entry.Seq, .int .i64 (F k).Entry.Op.Kind, .int .i64 (F k).Entry.Op.Vol, .int .i64 (F k).Entry.Op.At, .int .i64 (F k).Entry.Op.Value, .int .i64 (F k).Last, .slice A13 (F k).Log.length c13, .int .i64 (F k).Commit] 75)) fp vv (allTo F i k) := OwnS.keep ow (fun b hb => (Below.heap_alloc _ _ _ (by have := (hin b hb).2; omega)).trans (hb5.block b (hin b hb).2))
        have oL : kMail.Own w.heap.size (w5.alloc (.cells #[.int .i64 (F k).Kind, .int .i64 (F k).From, .int .i64 (F k).To, .int .i64 (F k).View, .int .i64 (F k).At, .bool (F k).Has, .int .i64 (F k).Entry.Client, .int .i64 (F k).Entry.Seq, .int .i64 (F k).Entry.Op.Kind, .int .i64 (F k).Entry.Op.Vol, .int .i64 (F k).Entry.Op.At, .int .i64 (F k).Entry.Op.Value, .int .i64 (F k).Last, .slice A13 (F k).Log.length c13, .int .i64 (F k).Commit] 75)) fm [.int .i64 (F k).Kind, .int .i64 (F k).From, .int .i64 (F k).To, .int .i64 (F k).View, .int .i64 (F k).At, .bool (F k).Has, .int .i64 (F k).Entry.Client, .int .i64 (F k).Entry.Seq, .int .i64 (F k).Entry.Op.Kind, .int .i64 (F k).Entry.Op.Vol, .int .i64 (F k).Entry.Op.At, .int .i64 (F k).Entry.Op.Value, .int .i64 (F k).Last, .slice A13 (F k).Log.length c13, .int .i64 (F k).Commit] (F k) :=
          kMail_ownmk (F k) (h13 := OwnS.lift (OwnS.keep om (fun b hb => Below.heap_alloc _ _ _ (im b hb).2)) (fun b hb' => by have := (im b hb').1; have := hb.size; omega))
        have hl6 := lies_alloc w5 #[.int .i64 (F k).Kind, .int .i64 (F k).From, .int .i64 (F k).To, .int .i64 (F k).View, .int .i64 (F k).At, .bool (F k).Has, .int .i64 (F k).Entry.Client, .int .i64 (F k).Entry.Seq, .int .i64 (F k).Entry.Op.Kind, .int .i64 (F k).Entry.Op.Vol, .int .i64 (F k).Entry.Op.At, .int .i64 (F k).Entry.Op.Value, .int .i64 (F k).Last, .slice A13 (F k).Log.length c13, .int .i64 (F k).Commit] 75
        have hln := allTo_len F i k
        have OW := Lib.hid oW
        clear oW
        go_wp2_with (refine wpList_app (d := kMail) (zs := [F k]) (ys := allTo F i k) (fp := fp) (fs := fm) (B := w.heap.size) rfl _ _ 31 75 rfl (by kernel_rfl) (by kernel_rfl) rfl rfl OW.out nd (Src.ofSlice (P := Tryz.prog) (e' := 75) _ (by kernel_rfl) ⟨w5.heap.size, 0, none⟩ 1 1 _ rfl hl6 (kMail.rd_one (kMail.own_rd oL))) (OwnL.single oL) nm (fun b hb hm => by have := (hin b hb).2; have := (im b hm).1; omega) (by simp; omega) (by rw [Deep.nblk_alloc]; have := hb.size; omega) ?_; intro v' w' fp' hgr)
        obtain ⟨r1, r2, r3, r4⟩ := hgr
        refine ⟨⟨k + 1, hlt, by go_num, _, fp', rfl, by rw [allTo_succ F hki]; exact r1, r2, ?_⟩, by simp [intOf]; omega⟩
        have b6 : Below w.heap.size w (w5.alloc (.cells #[.int .i64 (F k).Kind, .int .i64 (F k).From, .int .i64 (F k).To, .int .i64 (F k).View, .int .i64 (F k).At, .bool (F k).Has, .int .i64 (F k).Entry.Client, .int .i64 (F k).Entry.Seq, .int .i64 (F k).Entry.Op.Kind, .int .i64 (F k).Entry.Op.Vol, .int .i64 (F k).Entry.Op.At, .int .i64 (F k).Entry.Op.Value, .int .i64 (F k).Last, .slice A13 (F k).Log.length c13, .int .i64 (F k).Commit] 75)) := below_alloc (below_trans hb hb5) _
        exact b6.trans (r3.below (fun b hb => (hin b hb).1) b6.size)
    · have hk' : k = s := by omega
      subst hk'
      obtain ⟨A, c, rfl, _⟩ := ow.form
      go_wp2_with fail
      go_ret
      exact ⟨A, c, fp, rfl, ow, nd, hb⟩
end Go.Proofs.YtfblopmploohkaaGreatDoor

/- Mails that ask for a view: the program's changes, the reference's l9Changes. -/
set_option linter.unusedVariables false
set_option linter.unusedSimpArgs false
namespace Go.Proofs.YtfblopmploohkaaGreatDoor
open Go Go.RowKit Mk
theorem LaidMails.base {ms : List SMail} {w w1 w' : World} {r : Ending} (h : LaidMails ms w1 r w') (hb : Below w.heap.size w w1) : LaidMails ms w r w' := by
  obtain ⟨A, c, fs, h1, h2, h3, h4⟩ := h
  have hs := hb.size
  exact ⟨A, c, fs, h1, h2.lift (fun b hb => by have := (h2.in b hb).1; omega), h3, below_trans hb h4⟩
def changesL (i s v : Nat) : List SMail := allTo (fun k => mailK i v 3 k) i s
set_option maxRecDepth 100000 in
set_option maxHeartbeats 1000000 in
theorem changes1_c (w : World) (p q : Addr) (i v k : Int) (hq : w.cell? q = some (.pointer (some p))) (h0 : w.cell? p = some (.int .i64 i)) (h2 : w.cell? ⟨p.block, p.off + 2, none⟩ = some (.int .i64 v)) :
    Calls Tryz.prog 169 #[.int .i64 k, .pointer (some q)] w fun r w' => LaidMail (mailK i v 3 k) w r w' := by
  have k0 := World.block_lt_of_cell? w _ h0
  have kq := World.block_lt_of_cell? w _ hq
  have fq : ∀ ob, (w.alloc ob).cell? q = some (.pointer (some p)) := fun ob => (World.cell?_alloc_lt w ob q kq).trans hq
  go_enter Tryz.func169, Tryz.ntmps169
  go_wp2_with fail
  refine (mail_c _ p i v 3 k ((World.cell?_alloc_lt w _ p k0).trans h0) ((World.cell?_alloc_lt w _ ⟨p.block, p.off + 2, none⟩ k0).trans h2)).mono ?_
  rintro r w1 ⟨A13, c13, fm, rfl, om, nm, hb1⟩
  have zB := (blk_alloc w [.int .i64 0, .int .i64 0, .int .i64 0, .int .i64 0, .int .i64 0, .bool false, .int .i64 0, .int .i64 0, .int .i64 0, .int .i64 0, .int .i64 0, .int .i64 0, .int .i64 0, .slice none 0 0, .int .i64 0] 75).below hb1
  have r0 := zB.cell (j := 0) rfl
  have y0 := zB.frozen 0
  have r1 := zB.cell (j := 1) rfl
  have y1 := zB.frozen 1
  have r2 := zB.cell (j := 2) rfl
  have y2 := zB.frozen 2
  have r3 := zB.cell (j := 3) rfl
  have y3 := zB.frozen 3
  have r4 := zB.cell (j := 4) rfl
  have y4 := zB.frozen 4
  have r5 := zB.cell (j := 5) rfl
  have y5 := zB.frozen 5
  have r6 := zB.cell (j := 6) rfl
  have y6 := zB.frozen 6
  have r7 := zB.cell (j := 7) rfl
  have y7 := zB.frozen 7
  have r8 := zB.cell (j := 8) rfl
  have y8 := zB.frozen 8
  have r9 := zB.cell (j := 9) rfl
  have y9 := zB.frozen 9
  have r10 := zB.cell (j := 10) rfl
  have y10 := zB.frozen 10
  have r11 := zB.cell (j := 11) rfl
  have y11 := zB.frozen 11
  have r12 := zB.cell (j := 12) rfl
  have y12 := zB.frozen 12
  have r13 := zB.cell (j := 13) rfl
  have y13 := zB.frozen 13
  have r14 := zB.cell (j := 14) rfl
  have y14 := zB.frozen 14
  clear fq
  go_wp2_with fail
  have lo : w.heap.size + 1 ≤ w1.heap.size := by have := hb1.size; simp only [Deep.nblk_alloc] at this; omega
  have im := om.in
  refine bodyPost_ret (v := .agg #[.int .i64 (mailK i v 3 k).Kind, .int .i64 (mailK i v 3 k).From, .int .i64 (mailK i v 3 k).To, .int .i64 (mailK i v 3 k).View, .int .i64 (mailK i v 3 k).At, .bool (mailK i v 3 k).Has, .int .i64 (mailK i v 3 k).Entry.Client, .int .i64 (mailK i v 3 k).Entry.Seq, .int .i64 (mailK i v 3 k).Entry.Op.Kind, .int .i64 (mailK i v 3 k).Entry.Op.Vol, .int .i64 (mailK i v 3 k).Entry.Op.At, .int .i64 (mailK i v 3 k).Entry.Op.Value, .int .i64 (mailK i v 3 k).Last, .slice A13 (mailK i v 3 k).Log.length c13, .int .i64 (mailK i v 3 k).Commit]) (by simp [results, Tryz.results169, go_sem, r0, r1, r2, r3, r4, r5, r6, r7, r8, r9, r10, r11, r12, r13, r14, mailK]) rfl ⟨A13, c13, fm, rfl, ?_, nm, ?_⟩
  · refine OwnS.past (lo := w.heap.size + 1) (w := w1) om ?_ (by rw [Deep.nblk_alloc]; omega) (by rw [Deep.nblk_alloc]; omega)
    repeat (first | (with_reducible exact Past.refl _ _) | (with_reducible refine Past.set ?_ (by omega) _))
  · repeat (first | (with_reducible assumption) | (with_reducible exact Below.refl _ _) | (with_reducible apply below_alloc) | (with_reducible apply below_drewN) | (with_reducible apply Below.drew) | (with_reducible refine below_set ?_ (by dsimp only; omega) _) | (with_reducible refine below_trans ?_ (by assumption)))
set_option maxRecDepth 100000 in
set_option maxHeartbeats 1000000 in
theorem changes_c (w : World) (p : Addr) (i s v : Nat) (h0 : w.cell? p = some (.int .i64 i)) (h1 : w.cell? ⟨p.block, p.off + 1, none⟩ = some (.int .i64 s)) (h2 : w.cell? ⟨p.block, p.off + 2, none⟩ = some (.int .i64 v)) (hs : s ≤ 5) :
    Calls Tryz.prog 139 #[.pointer (some p)] w fun r w' => LaidMails (changesL i s v) w r w' := by
  have k0 := World.block_lt_of_cell? w _ h0
  go_enter Tryz.func139, Tryz.ntmps139
  go_wp2_with fail
  refine (toAll_c 169 #[.pointer (some ⟨w.heap.size, 0, none⟩)] (Go.Proofs.enters_of Tryz.func169 (by kernel_rfl) rfl) (fun k => mailK i v 3 k) i s p _ ((World.cell?_alloc_lt w _ p k0).trans h0) ((World.cell?_alloc_lt w _ ⟨p.block, p.off + 1, none⟩ k0).trans h1) hs ?_).mono ?_
  · intro W k hW hk
    have hw0 : Below w.heap.size w W := below_trans (below_alloc (Below.refl _ _) _) hW
    exact changes1_c W p ⟨w.heap.size, 0, none⟩ i v k (cell_below hW ((lies_alloc w #[.pointer (some p)] _).c0)) (cell_below hw0 h0) (cell_below hw0 h2)
  · rintro r w' hl
    have hl2 := hl.base (below_alloc (Below.refl _ _) _)
    obtain ⟨A, c, fs, rfl, hl3⟩ := hl2
    go_wp2_with fail
    go_ret
    exact ⟨A, c, fs, rfl, hl3⟩
end Go.Proofs.YtfblopmploohkaaGreatDoor
