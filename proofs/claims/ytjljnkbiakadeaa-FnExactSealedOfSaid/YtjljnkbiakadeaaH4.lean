/- A node that asks for a view; a node that is normal (written by hand). -/
import Derived.Test.YtjljnkbiakadeaaH1
import Derived.Test.YtjljnkbiakadeaaMz
import Derived.Test.YtjljnkbiakadeaaB1
set_option linter.unusedVariables false
set_option linter.unusedSimpArgs false
namespace Go.Proofs.Ytjljnkbiakadeaa
open Go Go.RowKit Mk
def aloneL (s i : Nat) : List Bool := (List.replicate s false).set i true
theorem flat_false (s : Nat) : (List.replicate s [Value.bool false]).flatten = List.replicate s (Value.bool false) := by
  induction s with
  | zero => rfl
  | succ s ih => rw [List.replicate_succ, List.flatten_cons, ih]; rfl
theorem own_bools (B : Nat) (w : World) : ∀ xs : List Bool, OwnL kBool B w [] (xs.map Value.bool) xs
  | [] => ⟨rfl, rfl⟩
  | x :: xs => ⟨[], [], [.bool x], xs.map Value.bool, rfl, rfl, ⟨rfl, rfl⟩, own_bools B w xs⟩
theorem own_ints (B : Nat) (w : World) : ∀ xs : List Int, OwnL kInt B w [] (xs.map (Value.int .i64)) xs
  | [] => ⟨rfl, rfl⟩
  | x :: xs => ⟨[], [], [.int .i64 x], xs.map (Value.int .i64), rfl, rfl, ⟨rfl, rfl⟩, own_ints B w xs⟩
theorem own_zdoer (B : Nat) (w : World) : kDoer.Own B w [] [.bool false, .int .i64 0, .slice none 0 0, .int .i64 0] zDoer := kDoer_ownmk zDoer (h2 := ownS_nil kEntry w 100)
/-- What 'alone' leaves: a row of asks, a row of nobodies. -/
def Alone (b o : Nat) (e : TypeId) (pr po : List Value) (i s : Nat) (c2 c3 c4 c5 c6 c7 : Value) (w : World) (r : Ending) (w' : World) : Prop :=
  ∃ g h, r = .returned (.tuple #[]) ∧ Blk w' b e (pr ++ [.int .i64 i, .int .i64 s, c2, c3, c4, c5, c6, c7, .slice (some ⟨g, 0, none⟩) s s, .slice (some ⟨h, 0, none⟩) s s] ++ po) ∧
    OwnS kBool 4 w.heap.size w' [g] (.slice (some ⟨g, 0, none⟩) s s) (aloneL s i) ∧ OwnS kDoer 152 w.heap.size w' [h] (.slice (some ⟨h, 0, none⟩) s s) (List.replicate s zDoer) ∧ g ≠ h ∧ Turn [b] w w'
set_option maxRecDepth 100000 in
set_option maxHeartbeats 1000000 in
theorem alone_c (b o : Nat) (e : TypeId) (pr po : List Value) (i s : Nat) (c2 c3 c4 c5 c6 c7 c8 c9 : Value) (w : World) (hB : Blk w b e (pr ++ [.int .i64 i, .int .i64 s, c2, c3, c4, c5, c6, c7, c8, c9] ++ po)) (ho : pr.length = o) (h1 : i < s) (h2 : s ≤ 5) :
    Calls Try.prog 87 #[.pointer (some ⟨b, o, none⟩)] w fun r w' => Alone b o e pr po i s c2 c3 c4 c5 c6 c7 w r w' := by
  have hlt := hB.lt
  have h3 : (i : Int) < (s : Int) := by omega
  have q0 := hB.mid ho (j := 0) rfl
  have q1 := hB.mid ho (j := 1) rfl
  have q8 := hB.mid ho (j := 8) rfl
  have z8 := hB.frozen (o + 8)
  simp only [Nat.add_zero] at q0
  go_enter Try.func87, Try.ntmps87
  go_upto_region 1 with (refine wpList_mk 75 4 (.bool false) 1 _ _ rfl rfl s rfl rfl (by kernel_rfl) (by kernel_rfl) (by decide) (by omega) ?_; intro W0 G0 b0 s0; clear q0 q1 q8 z8; have X0 := hB.below b0; have q8 := X0.mid ho (j := 8) rfl; have z8 := X0.frozen (o + 8))
  clear q8 z8
  rw [show (Value.bool false).cells.toList = [Value.bool false] from rfl, flat_false] at G0
  refine at_world (fun W => Blk W b e (pr ++ [.int .i64 i, .int .i64 s, c2, c3, c4, c5, c6, c7, .slice (some ⟨w.heap.size, 0, none⟩) s s, c9] ++ po) ∧ Blk W w.heap.size 4 (List.replicate s (.bool false)) ∧ Turn [b] w W ∧ w.heap.size < W.heap.size) ⟨X0.set ho (j := 8) (by simp) _, G0.set_ne (by simp; omega) _, (Turn.of_below b0).set (by simp) _, by simpa [World.setCell] using s0⟩ ?_
  rintro W1 ⟨X, G, tX, sX⟩
  clear X0 G0 b0 s0 W0
  have q0 := X.mid ho (j := 0) rfl
  have q8 := X.mid ho (j := 8) rfl
  simp only [Nat.add_zero] at q0
  have gi : W1.cell? ⟨w.heap.size, i, none⟩ = some (.bool false) := G.cell (by simp [h1])
  have gz := G.frozen i
  go_still_tail 9, (by kernel_rfl)
  go_upto_region 2 with fail
  clear q0 q8 gi gz
  refine at_world (fun W => Blk W b e (pr ++ [.int .i64 i, .int .i64 s, c2, c3, c4, c5, c6, c7, .slice (some ⟨w.heap.size, 0, none⟩) s s, c9] ++ po) ∧ Blk W w.heap.size 4 ((aloneL s i).map Value.bool) ∧ Turn [b] w W ∧ w.heap.size < W.heap.size) ⟨X.set_ne (a := ⟨w.heap.size, i, none⟩) (by simp; omega) (.bool true), ?_, (Turn.fresh (fq := [w.heap.size]) tX ((Turn.refl [w.heap.size] W1).set (p := ⟨w.heap.size, i, none⟩) (by simp) (.bool true)) (by simp)).drew, by simpa [World.setCell] using sX⟩ ?_
  · have := G.set0 i (.bool true)
    have e2 : (aloneL s i).map Value.bool = (List.replicate s (Value.bool false)).set i (.bool true) := by unfold aloneL; rw [List.map_set, List.map_replicate]
    rw [e2]; exact this
  rintro W2 ⟨X2, G2, t2, s2⟩
  have q1 := X2.mid ho (j := 1) rfl
  have q9 := X2.mid ho (j := 9) rfl
  have z9 := X2.frozen (o + 9)
  go_wp2_with (refine wpList_mk 76 152 (.agg #[.bool false, .int .i64 0, .slice none 0 0, .int .i64 0]) 48 _ _ rfl rfl s rfl rfl (by kernel_rfl) (by kernel_rfl) (by decide) (by omega) ?_; intro W3 G3 b3 s3; clear q1 q9 z9; have X3 := X2.below b3; have q9 := X3.mid ho (j := 9) rfl; have z9 := X3.frozen (o + 9))
  refine bodyPost_end (v := .tuple #[]) (by simp [results, Try.results87, go_sem]) rfl ?_
  have X4 := X3.set ho (j := 9) (by simp) (.slice (some ⟨W2.heap.size, 0, none⟩) s s)
  simp only [List.set_cons_zero, List.set_cons_succ] at X4
  have hsz : W2.heap.size ≠ b := by have := X2.lt; omega
  have hne : w.heap.size ≠ b := by omega
  have t3 : Turn [b] w W3 := t2.trans (Turn.of_below b3)
  have G4 := ((G2.below b3).set_ne (a := ⟨b, o + 9, none⟩) (by simpa using hne.symm) (.slice (some ⟨W2.heap.size, 0, none⟩) s s))
  have D4 := (G3.set_ne (a := ⟨b, o + 9, none⟩) (by simpa using hsz.symm) (.slice (some ⟨W2.heap.size, 0, none⟩) s s))
  have hl : (aloneL s i).length = s := by simp [aloneL]
  have oA := ownS_blk (d := kBool) (e := 4) (B := w.heap.size) (xs := aloneL s i) G4 (own_bools _ _ _) (Nat.le_refl _) (by rw [hl]; unfold maxLen; omega)
  rw [hl] at oA
  have oD := ownS_blk (d := kDoer) (e := 152) (B := w.heap.size) (xs := List.replicate s zDoer) D4 (ownL_rep (own_zdoer _ _) s) (by omega) (by simp; unfold maxLen; omega)
  rw [List.length_replicate] at oD
  exact ⟨w.heap.size, W2.heap.size, rfl, X4, oA, oD, by omega, t3.set (by simp) _⟩
/-- What asking for a view leaves. -/
def Asked (b o : Nat) (e : TypeId) (pr po : List Value) (i s : Nat) (v : Int) (c4 c5 c6 : Value) (w : World) (r : Ending) (w' : World) : Prop :=
  Alone b o e pr po i s (.int .i64 v) (.bool false) c4 c5 c6 (.slice none 0 0) w r w'
set_option maxRecDepth 100000 in
set_option maxHeartbeats 1000000 in
theorem ask_c (b o : Nat) (e : TypeId) (pr po : List Value) (i s : Nat) (v : Int) (c2 c3 c4 c5 c6 c7 c8 c9 : Value) (w : World) (hB : Blk w b e (pr ++ [.int .i64 i, .int .i64 s, c2, c3, c4, c5, c6, c7, c8, c9] ++ po)) (ho : pr.length = o) (h1 : i < s) (h2 : s ≤ 5) :
    Calls Try.prog 96 #[.pointer (some ⟨b, o, none⟩), .int .i64 v] w fun r w' => Asked b o e pr po i s v c4 c5 c6 w r w' := by
  have q2 := hB.mid ho (j := 2) rfl
  have z2 := hB.frozen (o + 2)
  have q3 := hB.mid ho (j := 3) rfl
  have z3 := hB.frozen (o + 3)
  have q7 := hB.mid ho (j := 7) rfl
  have z7 := hB.frozen (o + 7)
  go_enter Try.func96, Try.ntmps96
  go_wp2_with fail
  clear q2 z2 q3 z3 q7 z7
  refine at_call (fun W => Blk W b e (pr ++ [.int .i64 i, .int .i64 s, .int .i64 v, .bool false, c4, c5, c6, .slice none 0 0, c8, c9] ++ po) ∧ Turn [b] w W) ⟨((hB.set ho (j := 2) (by simp) (.int .i64 v)).set ho (j := 3) (by simp) (.bool false)).set ho (j := 7) (by simp) (.slice none 0 0), (((Turn.refl [b] w).set (p := ⟨b, o + 2, none⟩) (by simp) (.int .i64 v)).set (p := ⟨b, o + 3, none⟩) (by simp) (.bool false)).set (p := ⟨b, o + 7, none⟩) (by simp) (.slice none 0 0)⟩ ?_
  rintro W0 ⟨Y, tY⟩
  refine (alone_c b o e pr po i s _ _ _ _ _ _ _ _ W0 Y ho h1 h2).mono ?_
  rintro r w' ⟨g, h, rfl, x1, x2, x3, x4, x5⟩
  go_wp2_with fail
  refine bodyPost_end (v := .tuple #[]) (by simp [results, Try.results96, go_sem]) rfl ?_
  have hs := tY.size
  exact ⟨g, h, rfl, x1, x2.lift (fun b hb => by have := (x2.in b hb).1; omega), x3.lift (fun b hb => by have := (x3.in b hb).1; omega), x4, tY.trans x5⟩
theorem primaryR_c (v s : Int) (w : World) (h0 : 0 ≤ v) (h1 : 1 ≤ s) (h2 : v ≤ 1000) : Calls Try.prog 124 #[.int .i64 v, .int .i64 s] w fun e w' => e = .returned (.int .i64 (v % s)) ∧ w = w' := by
  have hs : (s == 0) = false := beq_eq_false_iff_ne.2 (by omega)
  go_enter Try.func124, Try.ntmps124
  go_wp2
  go_ret; exact ⟨rfl, rfl⟩
set_option maxRecDepth 100000 in
set_option maxHeartbeats 1000000 in
theorem isPrimaryR_c (w : World) (p : Addr) (i s v : Int) (h0 : w.cell? p = some (.int .i64 i)) (h1 : w.cell? ⟨p.block, p.off + 1, none⟩ = some (.int .i64 s)) (h2 : w.cell? ⟨p.block, p.off + 2, none⟩ = some (.int .i64 v)) (hv : 0 ≤ v) (hs : 1 ≤ s) (hv2 : v ≤ 1000) :
    Calls Try.prog 84 #[.pointer (some p)] w fun e w' => e = .returned (.bool (v % s == i)) ∧ ∃ m, w' = w.drewN m := by
  skip
  go_enter Try.func84, Try.ntmps84
  go_wp2_with fail
  go_quiet ((go_at_call 124; (with_reducible refine Calls.quiet_of_same ((primaryR_c _ _ _ hv hs hv2).mono fun e w' ⟨he, hw⟩ => ⟨he, hw.symm⟩))))
  go_wp2
  go_ret; exact ⟨rfl, _, rfl⟩
set_option maxRecDepth 100000 in
set_option maxHeartbeats 1000000 in
theorem l9PrimaryR_c (w : World) (p : Addr) (i s v : Int) (h0 : w.cell? p = some (.int .i64 i)) (h1 : w.cell? ⟨p.block, p.off + 1, none⟩ = some (.int .i64 s)) (h2 : w.cell? ⟨p.block, p.off + 2, none⟩ = some (.int .i64 v)) (hv : 0 ≤ v) (hs : 1 ≤ s) (hv2 : v ≤ 1000) :
    Calls Try.prog 153 #[.pointer (some p)] w fun e w' => e = .returned (.bool (v % s == i)) ∧ ∃ m, w' = w.drewN m := by
  have hz : (s == 0) = false := beq_eq_false_iff_ne.2 (by omega)
  go_enter Try.func153, Try.ntmps153
  go_wp2_with fail
  go_quiet (fail)
  go_wp2
  go_ret; exact ⟨rfl, _, rfl⟩
/-- The rows of oks of a normal node: as many zeros as there are nodes at the primary, none else. -/
def oksZ (i s : Nat) (v : Int) : List Int := if v % (s : Int) == (i : Int) then List.replicate s 0 else []
/-- What becoming normal leaves. -/
def Settled (b o : Nat) (e : TypeId) (pr po : List Value) (i s : Nat) (v : Int) (c5 c6 : Value) (w : World) (r : Ending) (w' : World) : Prop :=
  ∃ A c f, r = .returned (.tuple #[]) ∧ Blk w' b e (pr ++ [.int .i64 i, .int .i64 s, .int .i64 v, .bool true, .int .i64 v, c5, c6, .slice A (oksZ i s v).length c, .slice none 0 0, .slice none 0 0] ++ po) ∧
    OwnS kInt 2 w.heap.size w' f (.slice A (oksZ i s v).length c) (oksZ i s v) ∧ f.Nodup ∧ Turn [b] w w'
set_option maxRecDepth 100000 in
set_option maxHeartbeats 1000000 in
theorem settle_c (b o : Nat) (e : TypeId) (pr po : List Value) (i s : Nat) (v : Int) (c3 c4 c5 c6 c7 c8 c9 : Value) (w : World) (hB : Blk w b e (pr ++ [.int .i64 i, .int .i64 s, .int .i64 v, c3, c4, c5, c6, c7, c8, c9] ++ po)) (ho : pr.length = o) (h1 : i < s) (h2 : s ≤ 5) (hv : 0 ≤ v) (hv2 : v ≤ 1000) :
    Calls Try.prog 79 #[.pointer (some ⟨b, o, none⟩)] w fun r w' => Settled b o e pr po i s v c5 c6 w r w' := by
  have q2 := hB.mid ho (j := 2) rfl
  have q3 := hB.mid ho (j := 3) rfl
  have z3 := hB.frozen (o + 3)
  have q4 := hB.mid ho (j := 4) rfl
  have z4 := hB.frozen (o + 4)
  have q7 := hB.mid ho (j := 7) rfl
  have z7 := hB.frozen (o + 7)
  have q8 := hB.mid ho (j := 8) rfl
  have z8 := hB.frozen (o + 8)
  have q9 := hB.mid ho (j := 9) rfl
  have z9 := hB.frozen (o + 9)
  go_enter Try.func79, Try.ntmps79
  go_wp2_with fail
  clear q2 q3 z3 q4 z4 q7 z7 q8 z8 q9 z9
  refine at_call (fun W => Blk W b e (pr ++ [.int .i64 i, .int .i64 s, .int .i64 v, .bool true, .int .i64 v, c5, c6, .slice none 0 0, .slice none 0 0, .slice none 0 0] ++ po) ∧ Turn [b] w W) ⟨((((hB.set ho (j := 3) (by simp) (.bool true)).set ho (j := 4) (by simp) (.int .i64 v)).set ho (j := 8) (by simp) (.slice none 0 0)).set ho (j := 9) (by simp) (.slice none 0 0)).set ho (j := 7) (by simp) (.slice none 0 0), (((((Turn.refl [b] w).set (p := ⟨b, o + 3, none⟩) (by simp) (.bool true)).set (p := ⟨b, o + 4, none⟩) (by simp) (.int .i64 v)).set (p := ⟨b, o + 8, none⟩) (by simp) (.slice none 0 0)).set (p := ⟨b, o + 9, none⟩) (by simp) (.slice none 0 0)).set (p := ⟨b, o + 7, none⟩) (by simp) (.slice none 0 0)⟩ ?_
  rintro W0 ⟨Y, tY⟩
  have y0 := Y.mid ho (j := 0) rfl
  have y1 := Y.mid ho (j := 1) rfl
  have y2 := Y.mid ho (j := 2) rfl
  have y7 := Y.mid ho (j := 7) rfl
  have z7' := Y.frozen (o + 7)
  simp only [Nat.add_zero] at y0
  have HC := Lib.hid (isPrimaryR_c W0 ⟨b, o, none⟩ i s v y0 y1 y2 hv (by omega) hv2)
  have hs := tY.size
  cases q : (v % (s : Int) == (i : Int)) with
  | true =>
    have hO := Lib.hid (show oksZ i s v = List.replicate s 0 by unfold oksZ; rw [q, if_pos rfl])
    rw [q] at HC
    clear q
    refine HC.out.mono ?_
    rintro r w1 ⟨rfl, m, rfl⟩
    go_wp2_with (refine wpList_mk 24 2 (.int .i64 0) 8 _ _ rfl rfl s rfl rfl (by kernel_rfl) (by kernel_rfl) (by decide) (by omega) ?_; intro W1 G1 b1 s1; clear y0 y1 y2 y7 z7'; have X1 : Blk W1 b e _ := Blk.below (w := W0.drewN m) Y b1; have y7 := X1.mid ho (j := 7) rfl; have z7' := X1.frozen (o + 7))
    refine bodyPost_end (v := .tuple #[]) (by simp [results, Try.results79, go_sem]) rfl ?_
    have X4 := X1.set ho (j := 7) (by simp) (.slice (some ⟨W0.heap.size, 0, none⟩) s s)
    simp only [List.set_cons_zero, List.set_cons_succ] at X4
    have hne : W0.heap.size ≠ b := by have := Y.lt; omega
    have t1 : Turn [b] w W1 := tY.trans (Turn.of_below (below_trans (below_drewN (Below.refl _ _) m) b1))
    have G4 := (G1.set_ne (a := ⟨b, o + 7, none⟩) (by simpa using hne.symm) (.slice (some ⟨W0.heap.size, 0, none⟩) s s))
    have oO := ownS_blk (d := kInt) (e := 2) (B := w.heap.size) (xs := List.replicate s 0) (g := W0.heap.size) G4 (ownL_rep (d := kInt) (x := (0 : Int)) ⟨rfl, rfl⟩ s) (by omega) (by simp; unfold maxLen; omega)
    unfold Settled
    rw [hO.out]
    rw [List.length_replicate] at oO ⊢
    exact ⟨_, _, _, rfl, X4, oO, by simp, t1.set (by simp) _⟩
  | false =>
    have hO := Lib.hid (show oksZ i s v = [] by unfold oksZ; rw [q]; rfl)
    rw [q] at HC
    clear q
    refine HC.out.mono ?_
    rintro r w1 ⟨rfl, m, rfl⟩
    go_wp2_with fail
    refine bodyPost_end (v := .tuple #[]) (by simp [results, Try.results79, go_sem]) rfl ?_
    unfold Settled
    rw [hO.out]
    exact ⟨none, 0, [], rfl, Y, ownS_nil _ _ _, by simp, tY.trans (Turn.of_below (below_drewN (Below.refl _ _) m))⟩
end Go.Proofs.Ytjljnkbiakadeaa
