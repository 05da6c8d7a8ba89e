/- What comes of something that a node does on its own: the program's done (written by gH8.py, own work). -/
import Derived.Test.YtfffbjeaebmhbaaH7
set_option linter.unusedVariables false
set_option linter.unusedSimpArgs false
namespace Go.Proofs.Ytfffbjeaebmhbaa
open Go Go.RowKit Mk
/-- A call that lays a node's result. -/
def LaidRR (x : SReplicaResult) (w : World) (r : Ending) (w' : World) : Prop :=
  ∃ A6 c6 A8 c8 A9 c9 A10 c10 A11 c11 f6 f8 f9 f10 f11, r = .returned (.agg #[.int .i64 x.Code, .int .i64 x.Replica.Id, .int .i64 x.Replica.Size, .int .i64 x.Replica.View, .bool x.Replica.Normal, .int .i64 x.Replica.Last, .slice A6 x.Replica.Log.length c6, .int .i64 x.Replica.Commit, .slice A8 x.Replica.Oks.length c8, .slice A9 x.Replica.Asks.length c9, .slice A10 x.Replica.Doers.length c10, .slice A11 x.Send.length c11]) ∧ HasReplicaResult w.heap.size w' x A6 c6 A8 c8 A9 c9 A10 c10 A11 c11 f6 f8 f9 f10 f11 ∧ Below w.heap.size w w'
theorem LaidRR.bad {w w' : World} (k : Int) (hb : Below w.heap.size w w') : LaidRR ⟨k, zReplica, []⟩ w (.returned (.agg #[.int .i64 k, .int .i64 0, .int .i64 0, .int .i64 0, .bool false, .int .i64 0, .slice none 0 0, .int .i64 0, .slice none 0 0, .slice none 0 0, .slice none 0 0, .slice none 0 0])) w' :=
  ⟨none, 0, none, 0, none, 0, none, 0, none, 0, [], [], [], [], [], rfl, ⟨ownS_nil _ _ _, ownS_nil _ _ _, ownS_nil _ _ _, ownS_nil _ _ _, ownS_nil _ _ _, by simp⟩, hb⟩
theorem LaidRR.base {x : SReplicaResult} {w w1 w' : World} {r : Ending} (h : LaidRR x w1 r w') (hb : Below w.heap.size w w1) : LaidRR x w r w' := by
  obtain ⟨A6, c6, A8, c8, A9, c9, A10, c10, A11, c11, f6, f8, f9, f10, f11, rfl, ⟨h1, h2, h3, h4, h5, nd⟩, b⟩ := h
  have hs := hb.size
  exact ⟨A6, c6, A8, c8, A9, c9, A10, c10, A11, c11, f6, f8, f9, f10, f11, rfl, ⟨h1.lift (fun b hb => by have := (h1.in b hb).1; omega), h2.lift (fun b hb => by have := (h2.in b hb).1; omega), h3.lift (fun b hb => by have := (h3.in b hb).1; omega), h4.lift (fun b hb => by have := (h4.in b hb).1; omega), h5.lift (fun b hb => by have := (h5.in b hb).1; omega), nd⟩, below_trans hb b⟩
/-- What is asked of a method that is handed to done. -/
def Does (g : Nat) (cb : Array Value) (n n' : SReplica) (ms : List SMail) (code : Int) : Prop :=
  ∀ (b : Nat) (A5 : Option Addr) (c5 : Nat) (A7 : Option Addr) (c7 : Nat) (A8 : Option Addr) (c8 : Nat) (A9 : Option Addr) (c9 : Nat) (f5 f7 f8 f9 : List Nat) (B : Nat) (W : World), Blk W b 59 [.int .i64 n.Id, .int .i64 n.Size, .int .i64 n.View, .bool n.Normal, .int .i64 n.Last, .slice A5 n.Log.length c5, .int .i64 n.Commit, .slice A7 n.Oks.length c7, .slice A8 n.Asks.length c8, .slice A9 n.Doers.length c9] → HasReplica B W n A5 c5 A7 c7 A8 c8 A9 c9 f5 f7 f8 f9 → b ∉ f5 ++ (f7 ++ (f8 ++ f9)) → B ≤ W.heap.size →
    Calls Try.prog g (#[.pointer (some ⟨b, 0, none⟩)] ++ cb) W fun r W' => DidBox b n' ms code (f5 ++ (f7 ++ (f8 ++ f9))) B W r W'
set_option maxRecDepth 100000 in
set_option maxHeartbeats 2000000 in
theorem done_bad (v : Value) (n : SReplica) (A5 : Option Addr) (c5 : Nat) (A7 : Option Addr) (c7 : Nat) (A8 : Option Addr) (c8 : Nat) (A9 : Option Addr) (c9 : Nat) (w : World) (h5 : RdS kEntry w A5 c5 n.Log) (h7 : RdS kInt w A7 c7 n.Oks) (h8 : RdS kBool w A8 c8 n.Asks) (h9 : RdS kDoer w A9 c9 n.Doers) (q : (repF n != 0) = true) :
    Calls Try.prog 100 #[.agg #[.int .i64 n.Id, .int .i64 n.Size, .int .i64 n.View, .bool n.Normal, .int .i64 n.Last, .slice A5 n.Log.length c5, .int .i64 n.Commit, .slice A7 n.Oks.length c7, .slice A8 n.Asks.length c8, .slice A9 n.Doers.length c9], v] w fun r w' => LaidRR ⟨repF n, zReplica, []⟩ w r w' := by
  go_enter Try.func100, Try.ntmps100
  go_wp2_with fail
  refine (replicaFault_c n _ _ _ _ _ _ _ _ _ (h5.below (by repeat (first | (with_reducible assumption) | (with_reducible exact Below.refl _ _) | (with_reducible apply below_alloc) | (with_reducible apply below_drewN) | (with_reducible apply Below.drew) | (with_reducible refine below_set ?_ (by dsimp only; omega) _) | (with_reducible refine below_trans ?_ (by assumption))))) (h7.below (by repeat (first | (with_reducible assumption) | (with_reducible exact Below.refl _ _) | (with_reducible apply below_alloc) | (with_reducible apply below_drewN) | (with_reducible apply Below.drew) | (with_reducible refine below_set ?_ (by dsimp only; omega) _) | (with_reducible refine below_trans ?_ (by assumption))))) (h8.below (by repeat (first | (with_reducible assumption) | (with_reducible exact Below.refl _ _) | (with_reducible apply below_alloc) | (with_reducible apply below_drewN) | (with_reducible apply Below.drew) | (with_reducible refine below_set ?_ (by dsimp only; omega) _) | (with_reducible refine below_trans ?_ (by assumption))))) (h9.below (by repeat (first | (with_reducible assumption) | (with_reducible exact Below.refl _ _) | (with_reducible apply below_alloc) | (with_reducible apply below_drewN) | (with_reducible apply Below.drew) | (with_reducible refine below_set ?_ (by dsimp only; omega) _) | (with_reducible refine below_trans ?_ (by assumption)))))).mono ?_
  rintro e w1 ⟨rfl, hb1⟩
  have bw : Below w.heap.size w w1 := by repeat (first | (with_reducible assumption) | (with_reducible exact Below.refl _ _) | (with_reducible apply below_alloc) | (with_reducible apply below_drewN) | (with_reducible apply Below.drew) | (with_reducible refine below_set ?_ (by dsimp only; omega) _) | (with_reducible refine below_trans ?_ (by assumption)))
  have zB : Blk w1 (w.heap.size + 1) 61 [.int .i64 0, .int .i64 0, .int .i64 0, .int .i64 0, .bool false, .int .i64 0, .slice none 0 0, .int .i64 0, .slice none 0 0, .slice none 0 0, .slice none 0 0, .slice none 0 0] := by
    have := (blk_alloc (w.alloc (.cells #[.int .i64 n.Id, .int .i64 n.Size, .int .i64 n.View, .bool n.Normal, .int .i64 n.Last, .slice A5 n.Log.length c5, .int .i64 n.Commit, .slice A7 n.Oks.length c7, .slice A8 n.Asks.length c8, .slice A9 n.Doers.length c9] 59)) [.int .i64 0, .int .i64 0, .int .i64 0, .int .i64 0, .bool false, .int .i64 0, .slice none 0 0, .int .i64 0, .slice none 0 0, .slice none 0 0, .slice none 0 0, .slice none 0 0] 61).below hb1
    rwa [Deep.nblk_alloc] at this
  have r0 := zB.cell (j := 0) rfl
  have y0 := zB.frozen 0
  have r1 := zB.cell (j := 1) rfl
  have y1 := zB.frozen 1
  have r2 := zB.cell (j := 2) rfl
  have y2 := zB.frozen 2
  have r3 := zB.cell (j := 3) rfl
  have y3 := zB.frozen 3
  have r4 := zB.cell (j := 4) rfl
  have y4 := zB.frozen 4
  have r5 := zB.cell (j := 5) rfl
  have y5 := zB.frozen 5
  have r6 := zB.cell (j := 6) rfl
  have y6 := zB.frozen 6
  have r7 := zB.cell (j := 7) rfl
  have y7 := zB.frozen 7
  have r8 := zB.cell (j := 8) rfl
  have y8 := zB.frozen 8
  have r9 := zB.cell (j := 9) rfl
  have y9 := zB.frozen 9
  have r10 := zB.cell (j := 10) rfl
  have y10 := zB.frozen 10
  have r11 := zB.cell (j := 11) rfl
  have y11 := zB.frozen 11
  clear zB
  go_wp2_with fail
  refine bodyPost_ret (v := .agg #[.int .i64 (repF n), .int .i64 0, .int .i64 0, .int .i64 0, .bool false, .int .i64 0, .slice none 0 0, .int .i64 0, .slice none 0 0, .slice none 0 0, .slice none 0 0, .slice none 0 0]) (by simp [results, Try.results100, go_sem, r0, r1, r2, r3, r4, r5, r6, r7, r8, r9, r10, r11]) rfl (LaidRR.bad _ ?_)
  repeat (first | (with_reducible assumption) | (with_reducible exact Below.refl _ _) | (with_reducible apply below_alloc) | (with_reducible apply below_drewN) | (with_reducible apply Below.drew) | (with_reducible refine below_set ?_ (by dsimp only; omega) _) | (with_reducible refine below_trans ?_ (by assumption)))
set_option maxRecDepth 100000 in
set_option maxHeartbeats 4000000 in
theorem done_did (g : Nat) (cb : Array Value) (eg : ∀ args w, (callFunc g args).run Try.prog w = .ok (.enter g args) w) (n n' : SReplica) (ms : List SMail) (code : Int) (A5 : Option Addr) (c5 : Nat) (A7 : Option Addr) (c7 : Nat) (A8 : Option Addr) (c8 : Nat) (A9 : Option Addr) (c9 : Nat) (w : World) (h5 : RdS kEntry w A5 c5 n.Log) (h7 : RdS kInt w A7 c7 n.Oks) (h8 : RdS kBool w A8 c8 n.Asks) (h9 : RdS kDoer w A9 c9 n.Doers) (q : (repF n != 0) = false) (hs : SmallRep n) (hs' : SmallRep n') (hd : Does g cb n n' ms code) :
    Calls Try.prog 100 #[.agg #[.int .i64 n.Id, .int .i64 n.Size, .int .i64 n.View, .bool n.Normal, .int .i64 n.Last, .slice A5 n.Log.length c5, .int .i64 n.Commit, .slice A7 n.Oks.length c7, .slice A8 n.Asks.length c8, .slice A9 n.Doers.length c9], .func (.func g) #[] cb] w fun r w' => LaidRR (if code != 0 then ⟨code, zReplica, []⟩ else ⟨0, n', ms⟩) w r w' := by
  generalize hX : (if code != 0 then (⟨code, zReplica, []⟩ : SReplicaResult) else ⟨0, n', ms⟩) = X
  have HX := Lib.hid hX
  clear hX
  go_enter Try.func100, Try.ntmps100
  go_wp2_with fail
  refine (replicaFault_c n _ _ _ _ _ _ _ _ _ (h5.below (by repeat (first | (with_reducible assumption) | (with_reducible exact Below.refl _ _) | (with_reducible apply below_alloc) | (with_reducible apply below_drewN) | (with_reducible apply Below.drew) | (with_reducible refine below_set ?_ (by dsimp only; omega) _) | (with_reducible refine below_trans ?_ (by assumption))))) (h7.below (by repeat (first | (with_reducible assumption) | (with_reducible exact Below.refl _ _) | (with_reducible apply below_alloc) | (with_reducible apply below_drewN) | (with_reducible apply Below.drew) | (with_reducible refine below_set ?_ (by dsimp only; omega) _) | (with_reducible refine below_trans ?_ (by assumption))))) (h8.below (by repeat (first | (with_reducible assumption) | (with_reducible exact Below.refl _ _) | (with_reducible apply below_alloc) | (with_reducible apply below_drewN) | (with_reducible apply Below.drew) | (with_reducible refine below_set ?_ (by dsimp only; omega) _) | (with_reducible refine below_trans ?_ (by assumption))))) (h9.below (by repeat (first | (with_reducible assumption) | (with_reducible exact Below.refl _ _) | (with_reducible apply below_alloc) | (with_reducible apply below_drewN) | (with_reducible apply Below.drew) | (with_reducible refine below_set ?_ (by dsimp only; omega) _) | (with_reducible refine below_trans ?_ (by assumption)))))).mono ?_
  rintro e w1 ⟨rfl, hb1⟩
  have bw1 : Below w.heap.size w w1 := by repeat (first | (with_reducible assumption) | (with_reducible exact Below.refl _ _) | (with_reducible apply below_alloc) | (with_reducible apply below_drewN) | (with_reducible apply Below.drew) | (with_reducible refine below_set ?_ (by dsimp only; omega) _) | (with_reducible refine below_trans ?_ (by assumption)))
  have xB : Blk w1 w.heap.size 59 [.int .i64 n.Id, .int .i64 n.Size, .int .i64 n.View, .bool n.Normal, .int .i64 n.Last, .slice A5 n.Log.length c5, .int .i64 n.Commit, .slice A7 n.Oks.length c7, .slice A8 n.Asks.length c8, .slice A9 n.Doers.length c9] := ((blk_alloc w [.int .i64 n.Id, .int .i64 n.Size, .int .i64 n.View, .bool n.Normal, .int .i64 n.Last, .slice A5 n.Log.length c5, .int .i64 n.Commit, .slice A7 n.Oks.length c7, .slice A8 n.Asks.length c8, .slice A9 n.Doers.length c9] 59).below (below_alloc (Below.refl _ _) _)).below hb1
  have zB : Blk w1 (w.heap.size + 1) 61 [.int .i64 0, .int .i64 0, .int .i64 0, .int .i64 0, .bool false, .int .i64 0, .slice none 0 0, .int .i64 0, .slice none 0 0, .slice none 0 0, .slice none 0 0, .slice none 0 0] := by
    have := (blk_alloc (w.alloc (.cells #[.int .i64 n.Id, .int .i64 n.Size, .int .i64 n.View, .bool n.Normal, .int .i64 n.Last, .slice A5 n.Log.length c5, .int .i64 n.Commit, .slice A7 n.Oks.length c7, .slice A8 n.Asks.length c8, .slice A9 n.Doers.length c9] 59)) [.int .i64 0, .int .i64 0, .int .i64 0, .int .i64 0, .bool false, .int .i64 0, .slice none 0 0, .int .i64 0, .slice none 0 0, .slice none 0 0, .slice none 0 0, .slice none 0 0] 61).below hb1
    rwa [Deep.nblk_alloc] at this
  have lo1 : w.heap.size + 2 ≤ w1.heap.size := by have := hb1.size; simp only [Deep.nblk_alloc] at this; omega
  have x0 := xB.cell (j := 0) rfl
  have x1 := xB.cell (j := 1) rfl
  have x2 := xB.cell (j := 2) rfl
  have x3 := xB.cell (j := 3) rfl
  have x4 := xB.cell (j := 4) rfl
  have x5 := xB.cell (j := 5) rfl
  have x6 := xB.cell (j := 6) rfl
  have x7 := xB.cell (j := 7) rfl
  have x8 := xB.cell (j := 8) rfl
  have x9 := xB.cell (j := 9) rfl
  go_wp2_with fail
  clear x0 x1 x2 x3 x4 x5 x6 x7 x8 x9
  refine (ownReplica_c n _ _ _ _ _ _ _ _ w1 (h5.below bw1) (h7.below bw1) (h8.below bw1) (h9.below bw1) hs).mono ?_
  rintro r w2 ⟨B5, d5, B7, d7, B8, d8, B9, d9, f5, f7, f8, f9, rfl, hn2, hb2⟩
  have hs2 := hb2.size
  have k5 := hn2.1.in
  have k7 := hn2.2.1.in
  have k8 := hn2.2.2.1.in
  have k9 := hn2.2.2.2.1.in
  go_wp2_with fail
  refine at_call (fun W => Blk W w2.heap.size 59 [.int .i64 n.Id, .int .i64 n.Size, .int .i64 n.View, .bool n.Normal, .int .i64 n.Last, .slice B5 n.Log.length d5, .int .i64 n.Commit, .slice B7 n.Oks.length d7, .slice B8 n.Asks.length d8, .slice B9 n.Doers.length d9] ∧ HasReplica w1.heap.size W n B5 d5 B7 d7 B8 d8 B9 d9 f5 f7 f8 f9 ∧ Below w1.heap.size w1 W ∧ w2.heap.size < W.heap.size) ⟨blk_alloc w2 [.int .i64 n.Id, .int .i64 n.Size, .int .i64 n.View, .bool n.Normal, .int .i64 n.Last, .slice B5 n.Log.length d5, .int .i64 n.Commit, .slice B7 n.Oks.length d7, .slice B8 n.Asks.length d8, .slice B9 n.Doers.length d9] _, ⟨OwnS.keep hn2.1 (fun b hb => Below.heap_alloc _ _ _ (k5 b hb).2), OwnS.keep hn2.2.1 (fun b hb => Below.heap_alloc _ _ _ (k7 b hb).2), OwnS.keep hn2.2.2.1 (fun b hb => Below.heap_alloc _ _ _ (k8 b hb).2), OwnS.keep hn2.2.2.2.1 (fun b hb => Below.heap_alloc _ _ _ (k9 b hb).2), hn2.2.2.2.2⟩, below_alloc hb2 _, by rw [Deep.nblk_alloc]; omega⟩ ?_
  rintro W3 ⟨oB, hn3, hb3, s3⟩
  clear hn2 hb2
  have zB3 := zB.below hb3
  have hnb : w2.heap.size ∉ f5 ++ (f7 ++ (f8 ++ f9)) := by
    simp only [List.mem_append, not_or]
    exact ⟨fun h => by have := (k5 _ h).2; omega, fun h => by have := (k7 _ h).2; omega, fun h => by have := (k8 _ h).2; omega, fun h => by have := (k9 _ h).2; omega⟩
  have hfl : ∀ x ∈ w2.heap.size :: (f5 ++ (f7 ++ (f8 ++ f9))), w1.heap.size ≤ x := by
    intro x hx
    simp only [List.mem_cons, List.mem_append] at hx
    rcases hx with rfl | h | h | h | h
    · omega
    · exact (k5 x h).1
    · exact (k7 x h).1
    · exact (k8 x h).1
    · exact (k9 x h).1
  refine (hd w2.heap.size B5 d5 B7 d7 B8 d8 B9 d9 f5 f7 f8 f9 w1.heap.size W3 oB hn3 hnb (by omega)).mono ?_
  rintro r w4 ⟨C5, e5, C7, e7, C8, e8, C9, e9, g5, g7, g8, g9, As, cs, fs, rfl, oB4, hn4, hm4, nd4, nb4, t4, fr4⟩
  have hb4 : Below w1.heap.size w1 w4 := hb3.trans (t4.below hfl (by omega))
  have zB4 := zB3.keep (t4.block _ zB3.lt (fun hm => by have := hfl _ hm; omega))
  have bw4 : Below w.heap.size w w4 := below_trans bw1 hb4
  have s4 := hb4.size
  have im := hm4.in
  by_cases qc : code = 0
  · subst qc
    have hX := HX.out
    rw [if_neg (by simp)] at hX
    subst hX
    clear HX
    have x0 := oB4.cell (j := 0) rfl
    have x1 := oB4.cell (j := 1) rfl
    have x2 := oB4.cell (j := 2) rfl
    have x3 := oB4.cell (j := 3) rfl
    have x4 := oB4.cell (j := 4) rfl
    have x5 := oB4.cell (j := 5) rfl
    have x6 := oB4.cell (j := 6) rfl
    have x7 := oB4.cell (j := 7) rfl
    have x8 := oB4.cell (j := 8) rfl
    have x9 := oB4.cell (j := 9) rfl
    go_wp2_with fail
    clear x0 x1 x2 x3 x4 x5 x6 x7 x8 x9
    refine (ownReplica_c n' _ _ _ _ _ _ _ _ w4 (ownS_rds hn4.1).1 (ownS_rds hn4.2.1).1 (ownS_rds hn4.2.2.1).1 (ownS_rds hn4.2.2.2.1).1 hs').mono ?_
    rintro r w5 ⟨D5, a5, D7, a7, D8, a8, D9, a9, p5, p7, p8, p9, rfl, hn5, hb5⟩
    have zB5 := zB4.below hb5
    have bw5 := below_trans bw4 hb5
    have hm5 := OwnS.keep hm4 (fun b hb => hb5.block b (im b hb).2)
    have s5 := hb5.size
    have j5 := hn5.1.in
    have j7 := hn5.2.1.in
    have j8 := hn5.2.2.1.in
    have j9 := hn5.2.2.2.1.in
    have r0 := zB5.cell (j := 0) rfl
    have y0 := zB5.frozen 0
    have r1 := zB5.cell (j := 1) rfl
    have y1 := zB5.frozen 1
    have r2 := zB5.cell (j := 2) rfl
    have y2 := zB5.frozen 2
    have r3 := zB5.cell (j := 3) rfl
    have y3 := zB5.frozen 3
    have r4 := zB5.cell (j := 4) rfl
    have y4 := zB5.frozen 4
    have r5 := zB5.cell (j := 5) rfl
    have y5 := zB5.frozen 5
    have r6 := zB5.cell (j := 6) rfl
    have y6 := zB5.frozen 6
    have r7 := zB5.cell (j := 7) rfl
    have y7 := zB5.frozen 7
    have r8 := zB5.cell (j := 8) rfl
    have y8 := zB5.frozen 8
    have r9 := zB5.cell (j := 9) rfl
    have y9 := zB5.frozen 9
    have r10 := zB5.cell (j := 10) rfl
    have y10 := zB5.frozen 10
    have r11 := zB5.cell (j := 11) rfl
    have y11 := zB5.frozen 11
    clear zB5 zB4 zB3 zB
    go_wp2_with fail
    refine bodyPost_ret (v := .agg #[.int .i64 0, .int .i64 n'.Id, .int .i64 n'.Size, .int .i64 n'.View, .bool n'.Normal, .int .i64 n'.Last, .slice D5 n'.Log.length a5, .int .i64 n'.Commit, .slice D7 n'.Oks.length a7, .slice D8 n'.Asks.length a8, .slice D9 n'.Doers.length a9, .slice As ms.length cs]) (by simp [results, Try.results100, go_sem, r0, r1, r2, r3, r4, r5, r6, r7, r8, r9, r10, r11]) rfl ?_
    have nm : fs.Nodup := (List.nodup_append.1 nd4).1
    have nn : (p5 ++ (p7 ++ (p8 ++ (p9 ++ fs)))).Nodup := by
      rw [show p5 ++ (p7 ++ (p8 ++ (p9 ++ fs))) = (p5 ++ (p7 ++ (p8 ++ p9))) ++ fs by simp]
      refine List.nodup_append.2 ⟨hn5.2.2.2.2, nm, fun x hx y hy e => ?_⟩
      have h1 := (im y hy).2
      simp only [List.mem_append] at hx
      rcases hx with h | h | h | h
      · have := (j5 x h).1; omega
      · have := (j7 x h).1; omega
      · have := (j8 x h).1; omega
      · have := (j9 x h).1; omega
    refine ⟨D5, a5, D7, a7, D8, a8, D9, a9, As, cs, p5, p7, p8, p9, fs, rfl, ⟨?_, ?_, ?_, ?_, ?_, nn⟩, ?_⟩
    · refine OwnS.past (lo := w.heap.size + 2) (w := w5) hn5.1 ?_ (by omega) (by omega)
      repeat (first | (with_reducible exact Past.refl _ _) | (with_reducible refine Past.set ?_ (by omega) _))
    · refine OwnS.past (lo := w.heap.size + 2) (w := w5) hn5.2.1 ?_ (by omega) (by omega)
      repeat (first | (with_reducible exact Past.refl _ _) | (with_reducible refine Past.set ?_ (by omega) _))
    · refine OwnS.past (lo := w.heap.size + 2) (w := w5) hn5.2.2.1 ?_ (by omega) (by omega)
      repeat (first | (with_reducible exact Past.refl _ _) | (with_reducible refine Past.set ?_ (by omega) _))
    · refine OwnS.past (lo := w.heap.size + 2) (w := w5) hn5.2.2.2.1 ?_ (by omega) (by omega)
      repeat (first | (with_reducible exact Past.refl _ _) | (with_reducible refine Past.set ?_ (by omega) _))
    · refine OwnS.past (lo := w.heap.size + 2) (w := w5) hm5 ?_ (by omega) (by omega)
      repeat (first | (with_reducible exact Past.refl _ _) | (with_reducible refine Past.set ?_ (by omega) _))
    · repeat (first | (with_reducible assumption) | (with_reducible exact Below.refl _ _) | (with_reducible apply below_alloc) | (with_reducible apply below_drewN) | (with_reducible apply Below.drew) | (with_reducible refine below_set ?_ (by dsimp only; omega) _) | (with_reducible refine below_trans ?_ (by assumption)))
  · have hq : (code != 0) = true := by simpa using qc
    have hX := HX.out
    rw [if_pos hq] at hX
    subst hX
    clear HX
    have r0 := zB4.cell (j := 0) rfl
    have y0 := zB4.frozen 0
    have r1 := zB4.cell (j := 1) rfl
    have y1 := zB4.frozen 1
    have r2 := zB4.cell (j := 2) rfl
    have y2 := zB4.frozen 2
    have r3 := zB4.cell (j := 3) rfl
    have y3 := zB4.frozen 3
    have r4 := zB4.cell (j := 4) rfl
    have y4 := zB4.frozen 4
    have r5 := zB4.cell (j := 5) rfl
    have y5 := zB4.frozen 5
    have r6 := zB4.cell (j := 6) rfl
    have y6 := zB4.frozen 6
    have r7 := zB4.cell (j := 7) rfl
    have y7 := zB4.frozen 7
    have r8 := zB4.cell (j := 8) rfl
    have y8 := zB4.frozen 8
    have r9 := zB4.cell (j := 9) rfl
    have y9 := zB4.frozen 9
    have r10 := zB4.cell (j := 10) rfl
    have y10 := zB4.frozen 10
    have r11 := zB4.cell (j := 11) rfl
    have y11 := zB4.frozen 11
    clear zB4 zB3 zB
    go_wp2_with fail
    refine bodyPost_ret (v := .agg #[.int .i64 code, .int .i64 0, .int .i64 0, .int .i64 0, .bool false, .int .i64 0, .slice none 0 0, .int .i64 0, .slice none 0 0, .slice none 0 0, .slice none 0 0, .slice none 0 0]) (by simp [results, Try.results100, go_sem, r0, r1, r2, r3, r4, r5, r6, r7, r8, r9, r10, r11]) rfl (LaidRR.bad _ ?_)
    repeat (first | (with_reducible assumption) | (with_reducible exact Below.refl _ _) | (with_reducible apply below_alloc) | (with_reducible apply below_drewN) | (with_reducible apply Below.drew) | (with_reducible refine below_set ?_ (by dsimp only; omega) _) | (with_reducible refine below_trans ?_ (by assumption)))
end Go.Proofs.Ytfffbjeaebmhbaa
