/- The reference's CrashReplica and TimeoutReplica (written by gH10.py, own work). -/
import Derived.Test.YtdjfehjddfbbjaaGreatZK
import Derived.Test.YtdjfehjddfbbjaaGreatZB
import Derived.Test.YtdjfehjddfbbjaaGreatZI
set_option linter.unusedVariables false
set_option linter.unusedSimpArgs false
namespace Go.Proofs.YtdjfehjddfbbjaaGreat
open Go Go.RowKit Mk
set_option maxRecDepth 100000 in
theorem l9Bad_c (k : Int) (w : World) : Calls Tryz.prog 48 #[.int .i64 k] w fun r w' => r = .returned (.agg #[.int .i64 k, .int .i64 0, .int .i64 0, .int .i64 0, .bool false, .int .i64 0, .slice none 0 0, .int .i64 0, .slice none 0 0, .slice none 0 0, .slice none 0 0, .slice none 0 0]) ∧ Below w.heap.size w w' := by
  go_enter Tryz.func48, Tryz.ntmps48
  go_wp2_with fail
  refine bodyPost_ret (v := .agg #[.int .i64 k, .int .i64 0, .int .i64 0, .int .i64 0, .bool false, .int .i64 0, .slice none 0 0, .int .i64 0, .slice none 0 0, .slice none 0 0, .slice none 0 0, .slice none 0 0]) (by simp [results, Tryz.results48, go_sem]) rfl ⟨rfl, ?_⟩
  repeat (first | (with_reducible assumption) | (with_reducible exact Below.refl _ _) | (with_reducible apply below_alloc) | (with_reducible apply below_drewN) | (with_reducible apply Below.drew) | (with_reducible refine below_set ?_ (by dsimp only; omega) _) | (with_reducible refine below_trans ?_ (by assumption)))
theorem past_of {α : Type} {d : Kd α} {e : TypeId} {B lo lo2 : Nat} {w W : World} {fp : List Nat} {v : Value} {xs : List α} (h : OwnS d e B w fp v xs) (h1 : lo ≤ B) (h2 : lo2 ≤ B) (hp : Past lo w W) : OwnS d e lo2 W fp v xs := OwnS.past h hp h1 h2
set_option maxRecDepth 100000 in
set_option maxHeartbeats 2000000 in
theorem sCrash_bad (n : SReplica) (A5 : Option Addr) (c5 : Nat) (A7 : Option Addr) (c7 : Nat) (A8 : Option Addr) (c8 : Nat) (A9 : Option Addr) (c9 : Nat) (w : World) (h5 : RdS kEntry w A5 c5 n.Log) (h7 : RdS kInt w A7 c7 n.Oks) (h8 : RdS kBool w A8 c8 n.Asks) (h9 : RdS kDoer w A9 c9 n.Doers) (q : (repF n != 0) = true) :
    Calls Tryz.prog 191 #[.agg #[.int .i64 n.Id, .int .i64 n.Size, .int .i64 n.View, .bool n.Normal, .int .i64 n.Last, .slice A5 n.Log.length c5, .int .i64 n.Commit, .slice A7 n.Oks.length c7, .slice A8 n.Asks.length c8, .slice A9 n.Doers.length c9]] w fun r w' => LaidRR ⟨repF n, zReplica, []⟩ w r w' := by
  have hat := boxReplica w n 29 h5 h7 h8 h9
  go_enter Tryz.func191, Tryz.ntmps191
  go_wp2_with fail
  refine (l9Fault_c n _ _ (hat.below (by repeat (first | (with_reducible assumption) | (with_reducible exact Below.refl _ _) | (with_reducible apply below_alloc) | (with_reducible apply below_drewN) | (with_reducible apply Below.drew) | (with_reducible refine below_set ?_ (by dsimp only; omega) _) | (with_reducible refine below_trans ?_ (by assumption)))))).mono ?_
  rintro e w1 ⟨rfl, hb1⟩
  have bw1 : Below w.heap.size w w1 := by repeat (first | (with_reducible assumption) | (with_reducible exact Below.refl _ _) | (with_reducible apply below_alloc) | (with_reducible apply below_drewN) | (with_reducible apply Below.drew) | (with_reducible refine below_set ?_ (by dsimp only; omega) _) | (with_reducible refine below_trans ?_ (by assumption)))
  have xB : Blk w1 w.heap.size 29 [.int .i64 n.Id, .int .i64 n.Size, .int .i64 n.View, .bool n.Normal, .int .i64 n.Last, .slice A5 n.Log.length c5, .int .i64 n.Commit, .slice A7 n.Oks.length c7, .slice A8 n.Asks.length c8, .slice A9 n.Doers.length c9] := ((blk_alloc w [.int .i64 n.Id, .int .i64 n.Size, .int .i64 n.View, .bool n.Normal, .int .i64 n.Last, .slice A5 n.Log.length c5, .int .i64 n.Commit, .slice A7 n.Oks.length c7, .slice A8 n.Asks.length c8, .slice A9 n.Doers.length c9] 29).below (below_alloc (Below.refl _ _) _)).below hb1
  have zB : Blk w1 (w.heap.size + 1) 33 [.int .i64 0, .int .i64 0, .int .i64 0, .int .i64 0, .bool false, .int .i64 0, .slice none 0 0, .int .i64 0, .slice none 0 0, .slice none 0 0, .slice none 0 0, .slice none 0 0] := by
    have := (blk_alloc (w.alloc (.cells #[.int .i64 n.Id, .int .i64 n.Size, .int .i64 n.View, .bool n.Normal, .int .i64 n.Last, .slice A5 n.Log.length c5, .int .i64 n.Commit, .slice A7 n.Oks.length c7, .slice A8 n.Asks.length c8, .slice A9 n.Doers.length c9] 29)) [.int .i64 0, .int .i64 0, .int .i64 0, .int .i64 0, .bool false, .int .i64 0, .slice none 0 0, .int .i64 0, .slice none 0 0, .slice none 0 0, .slice none 0 0, .slice none 0 0] 33).below hb1
    rwa [Deep.nblk_alloc] at this
  have lo1 : w.heap.size + 2 ≤ w1.heap.size := by have := hb1.size; simp only [Deep.nblk_alloc] at this; omega
  go_wp2_with fail
  refine (l9Bad_c _ w1).mono ?_
  rintro r w2 ⟨rfl, hb2⟩
  have zB2 := zB.below hb2
  have r0 := zB2.cell (j := 0) rfl
  have y0 := zB2.frozen 0
  have r1 := zB2.cell (j := 1) rfl
  have y1 := zB2.frozen 1
  have r2 := zB2.cell (j := 2) rfl
  have y2 := zB2.frozen 2
  have r3 := zB2.cell (j := 3) rfl
  have y3 := zB2.frozen 3
  have r4 := zB2.cell (j := 4) rfl
  have y4 := zB2.frozen 4
  have r5 := zB2.cell (j := 5) rfl
  have y5 := zB2.frozen 5
  have r6 := zB2.cell (j := 6) rfl
  have y6 := zB2.frozen 6
  have r7 := zB2.cell (j := 7) rfl
  have y7 := zB2.frozen 7
  have r8 := zB2.cell (j := 8) rfl
  have y8 := zB2.frozen 8
  have r9 := zB2.cell (j := 9) rfl
  have y9 := zB2.frozen 9
  have r10 := zB2.cell (j := 10) rfl
  have y10 := zB2.frozen 10
  have r11 := zB2.cell (j := 11) rfl
  have y11 := zB2.frozen 11
  clear zB zB2
  go_wp2_with fail
  refine bodyPost_ret (v := .agg #[.int .i64 (repF n), .int .i64 0, .int .i64 0, .int .i64 0, .bool false, .int .i64 0, .slice none 0 0, .int .i64 0, .slice none 0 0, .slice none 0 0, .slice none 0 0, .slice none 0 0]) (by simp [results, Tryz.results191, go_sem, r0, r1, r2, r3, r4, r5, r6, r7, r8, r9, r10, r11]) rfl (LaidRR.bad _ ?_)
  repeat (first | (with_reducible assumption) | (with_reducible exact Below.refl _ _) | (with_reducible apply below_alloc) | (with_reducible apply below_drewN) | (with_reducible apply Below.drew) | (with_reducible refine below_set ?_ (by dsimp only; omega) _) | (with_reducible refine below_trans ?_ (by assumption)))
set_option maxRecDepth 100000 in
set_option maxHeartbeats 2000000 in
theorem sTimeout_bad (n : SReplica) (A5 : Option Addr) (c5 : Nat) (A7 : Option Addr) (c7 : Nat) (A8 : Option Addr) (c8 : Nat) (A9 : Option Addr) (c9 : Nat) (w : World) (h5 : RdS kEntry w A5 c5 n.Log) (h7 : RdS kInt w A7 c7 n.Oks) (h8 : RdS kBool w A8 c8 n.Asks) (h9 : RdS kDoer w A9 c9 n.Doers) (q : (repF n != 0) = true) :
    Calls Tryz.prog 189 #[.agg #[.int .i64 n.Id, .int .i64 n.Size, .int .i64 n.View, .bool n.Normal, .int .i64 n.Last, .slice A5 n.Log.length c5, .int .i64 n.Commit, .slice A7 n.Oks.length c7, .slice A8 n.Asks.length c8, .slice A9 n.Doers.length c9]] w fun r w' => LaidRR ⟨repF n, zReplica, []⟩ w r w' := by
  have hat := boxReplica w n 29 h5 h7 h8 h9
  go_enter Tryz.func189, Tryz.ntmps189
  go_wp2_with fail
  refine (l9Fault_c n _ _ (hat.below (by repeat (first | (with_reducible assumption) | (with_reducible exact Below.refl _ _) | (with_reducible apply below_alloc) | (with_reducible apply below_drewN) | (with_reducible apply Below.drew) | (with_reducible refine below_set ?_ (by dsimp only; omega) _) | (with_reducible refine below_trans ?_ (by assumption)))))).mono ?_
  rintro e w1 ⟨rfl, hb1⟩
  have bw1 : Below w.heap.size w w1 := by repeat (first | (with_reducible assumption) | (with_reducible exact Below.refl _ _) | (with_reducible apply below_alloc) | (with_reducible apply below_drewN) | (with_reducible apply Below.drew) | (with_reducible refine below_set ?_ (by dsimp only; omega) _) | (with_reducible refine below_trans ?_ (by assumption)))
  have xB : Blk w1 w.heap.size 29 [.int .i64 n.Id, .int .i64 n.Size, .int .i64 n.View, .bool n.Normal, .int .i64 n.Last, .slice A5 n.Log.length c5, .int .i64 n.Commit, .slice A7 n.Oks.length c7, .slice A8 n.Asks.length c8, .slice A9 n.Doers.length c9] := ((blk_alloc w [.int .i64 n.Id, .int .i64 n.Size, .int .i64 n.View, .bool n.Normal, .int .i64 n.Last, .slice A5 n.Log.length c5, .int .i64 n.Commit, .slice A7 n.Oks.length c7, .slice A8 n.Asks.length c8, .slice A9 n.Doers.length c9] 29).below (below_alloc (Below.refl _ _) _)).below hb1
  have zB : Blk w1 (w.heap.size + 1) 33 [.int .i64 0, .int .i64 0, .int .i64 0, .int .i64 0, .bool false, .int .i64 0, .slice none 0 0, .int .i64 0, .slice none 0 0, .slice none 0 0, .slice none 0 0, .slice none 0 0] := by
    have := (blk_alloc (w.alloc (.cells #[.int .i64 n.Id, .int .i64 n.Size, .int .i64 n.View, .bool n.Normal, .int .i64 n.Last, .slice A5 n.Log.length c5, .int .i64 n.Commit, .slice A7 n.Oks.length c7, .slice A8 n.Asks.length c8, .slice A9 n.Doers.length c9] 29)) [.int .i64 0, .int .i64 0, .int .i64 0, .int .i64 0, .bool false, .int .i64 0, .slice none 0 0, .int .i64 0, .slice none 0 0, .slice none 0 0, .slice none 0 0, .slice none 0 0] 33).below hb1
    rwa [Deep.nblk_alloc] at this
  have lo1 : w.heap.size + 2 ≤ w1.heap.size := by have := hb1.size; simp only [Deep.nblk_alloc] at this; omega
  go_wp2_with fail
  refine (l9Bad_c _ w1).mono ?_
  rintro r w2 ⟨rfl, hb2⟩
  have zB2 := zB.below hb2
  have r0 := zB2.cell (j := 0) rfl
  have y0 := zB2.frozen 0
  have r1 := zB2.cell (j := 1) rfl
  have y1 := zB2.frozen 1
  have r2 := zB2.cell (j := 2) rfl
  have y2 := zB2.frozen 2
  have r3 := zB2.cell (j := 3) rfl
  have y3 := zB2.frozen 3
  have r4 := zB2.cell (j := 4) rfl
  have y4 := zB2.frozen 4
  have r5 := zB2.cell (j := 5) rfl
  have y5 := zB2.frozen 5
  have r6 := zB2.cell (j := 6) rfl
  have y6 := zB2.frozen 6
  have r7 := zB2.cell (j := 7) rfl
  have y7 := zB2.frozen 7
  have r8 := zB2.cell (j := 8) rfl
  have y8 := zB2.frozen 8
  have r9 := zB2.cell (j := 9) rfl
  have y9 := zB2.frozen 9
  have r10 := zB2.cell (j := 10) rfl
  have y10 := zB2.frozen 10
  have r11 := zB2.cell (j := 11) rfl
  have y11 := zB2.frozen 11
  clear zB zB2
  go_wp2_with fail
  refine bodyPost_ret (v := .agg #[.int .i64 (repF n), .int .i64 0, .int .i64 0, .int .i64 0, .bool false, .int .i64 0, .slice none 0 0, .int .i64 0, .slice none 0 0, .slice none 0 0, .slice none 0 0, .slice none 0 0]) (by simp [results, Tryz.results189, go_sem, r0, r1, r2, r3, r4, r5, r6, r7, r8, r9, r10, r11]) rfl (LaidRR.bad _ ?_)
  repeat (first | (with_reducible assumption) | (with_reducible exact Below.refl _ _) | (with_reducible apply below_alloc) | (with_reducible apply below_drewN) | (with_reducible apply Below.drew) | (with_reducible refine below_set ?_ (by dsimp only; omega) _) | (with_reducible refine below_trans ?_ (by assumption)))
set_option maxRecDepth 100000 in
set_option maxHeartbeats 4000000 in
theorem sCrash_did (n : SReplica) (A5 : Option Addr) (c5 : Nat) (A7 : Option Addr) (c7 : Nat) (A8 : Option Addr) (c8 : Nat) (A9 : Option Addr) (c9 : Nat) (w : World) (h5 : RdS kEntry w A5 c5 n.Log) (h7 : RdS kInt w A7 c7 n.Oks) (h8 : RdS kBool w A8 c8 n.Asks) (h9 : RdS kDoer w A9 c9 n.Doers) (q : (repF n != 0) = false) :
    Calls Tryz.prog 191 #[.agg #[.int .i64 n.Id, .int .i64 n.Size, .int .i64 n.View, .bool n.Normal, .int .i64 n.Last, .slice A5 n.Log.length c5, .int .i64 n.Commit, .slice A7 n.Oks.length c7, .slice A8 n.Asks.length c8, .slice A9 n.Doers.length c9]] w fun r w' => LaidRR ⟨0, crashR n n.Id.toNat n.Size.toNat, []⟩ w r w' := by
  have hf := repF_nums q
  obtain ⟨i, hi⟩ : ∃ i, i = n.Id.toNat := ⟨_, rfl⟩
  obtain ⟨s, hs⟩ : ∃ s, s = n.Size.toNat := ⟨_, rfl⟩
  rw [← hi, ← hs] at hf ⊢
  clear hi hs
  have hat := boxReplica w n 29 h5 h7 h8 h9
  go_enter Tryz.func191, Tryz.ntmps191
  go_wp2_with fail
  refine (l9Fault_c n _ _ (hat.below (by repeat (first | (with_reducible assumption) | (with_reducible exact Below.refl _ _) | (with_reducible apply below_alloc) | (with_reducible apply below_drewN) | (with_reducible apply Below.drew) | (with_reducible refine below_set ?_ (by dsimp only; omega) _) | (with_reducible refine below_trans ?_ (by assumption)))))).mono ?_
  rintro e w1 ⟨rfl, hb1⟩
  have bw1 : Below w.heap.size w w1 := by repeat (first | (with_reducible assumption) | (with_reducible exact Below.refl _ _) | (with_reducible apply below_alloc) | (with_reducible apply below_drewN) | (with_reducible apply Below.drew) | (with_reducible refine below_set ?_ (by dsimp only; omega) _) | (with_reducible refine below_trans ?_ (by assumption)))
  have xB : Blk w1 w.heap.size 29 [.int .i64 n.Id, .int .i64 n.Size, .int .i64 n.View, .bool n.Normal, .int .i64 n.Last, .slice A5 n.Log.length c5, .int .i64 n.Commit, .slice A7 n.Oks.length c7, .slice A8 n.Asks.length c8, .slice A9 n.Doers.length c9] := ((blk_alloc w [.int .i64 n.Id, .int .i64 n.Size, .int .i64 n.View, .bool n.Normal, .int .i64 n.Last, .slice A5 n.Log.length c5, .int .i64 n.Commit, .slice A7 n.Oks.length c7, .slice A8 n.Asks.length c8, .slice A9 n.Doers.length c9] 29).below (below_alloc (Below.refl _ _) _)).below hb1
  have zB : Blk w1 (w.heap.size + 1) 33 [.int .i64 0, .int .i64 0, .int .i64 0, .int .i64 0, .bool false, .int .i64 0, .slice none 0 0, .int .i64 0, .slice none 0 0, .slice none 0 0, .slice none 0 0, .slice none 0 0] := by
    have := (blk_alloc (w.alloc (.cells #[.int .i64 n.Id, .int .i64 n.Size, .int .i64 n.View, .bool n.Normal, .int .i64 n.Last, .slice A5 n.Log.length c5, .int .i64 n.Commit, .slice A7 n.Oks.length c7, .slice A8 n.Asks.length c8, .slice A9 n.Doers.length c9] 29)) [.int .i64 0, .int .i64 0, .int .i64 0, .int .i64 0, .bool false, .int .i64 0, .slice none 0 0, .int .i64 0, .slice none 0 0, .slice none 0 0, .slice none 0 0, .slice none 0 0] 33).below hb1
    rwa [Deep.nblk_alloc] at this
  have lo1 : w.heap.size + 2 ≤ w1.heap.size := by have := hb1.size; simp only [Deep.nblk_alloc] at this; omega
  have x0 := xB.cell (j := 0) rfl
  have x1 := xB.cell (j := 1) rfl
  have x2 := xB.cell (j := 2) rfl
  have x3 := xB.cell (j := 3) rfl
  have x4 := xB.cell (j := 4) rfl
  have x5 := xB.cell (j := 5) rfl
  have x6 := xB.cell (j := 6) rfl
  have x7 := xB.cell (j := 7) rfl
  have x8 := xB.cell (j := 8) rfl
  have x9 := xB.cell (j := 9) rfl
  go_wp2_with fail
  clear x0 x1 x2 x3 x4 x5 x6 x7 x8 x9
  refine (l9Copy_c n _ _ _ _ _ _ _ _ w1 (h5.below bw1) (h7.below bw1) (h8.below bw1) (h9.below bw1) hf.small).mono ?_
  rintro r w2 ⟨B5, d5, B7, d7, B8, d8, B9, d9, f5, f7, f8, f9, rfl, hn2, hb2⟩
  have hs2 := hb2.size
  have k5 := hn2.1.in
  have nd5 : f5.Nodup := (List.nodup_append.1 hn2.2.2.2.2).1
  have xB2 := xB.below hb2
  have zB2 := zB.below hb2
  have xl := xB2.lt
  have zl := zB2.lt
  have bw2 := below_trans bw1 hb2
  have hid := Lib.hid hf.id
  have hox := hf.oks
  have hax := hf.asks
  have hdx := hf.doers
  have hli := hf.lt
  have hle := hf.le
  have ai : n.Asks.length ≤ 5 := by split at hax <;> omega
  have di : n.Doers.length ≤ 5 := by split at hdx <;> omega
  have ne1 : ¬ (w2.heap.size = w.heap.size) := by omega
  have ne2 : ¬ (w.heap.size = w2.heap.size) := by omega
  have hlog := hn2.1
  by_cases hN : n.Normal = true
  · have hR := Lib.hid (show crashR n i s = { n with Commit := 0, Oks := List.replicate n.Oks.length 0, Asks := n.Asks, Doers := List.replicate n.Doers.length zDoer } by
      have e1 := hf.asks
      have e2 := hf.doers
      rw [hN] at e1 e2
      unfold crashR
      rw [hN]
      simp only [if_true, if_false, Bool.false_eq_true] at e1 e2 ⊢
      rw [show n.Doers = [] from List.eq_nil_of_length_eq_zero e2]; rfl)
    have HN := Lib.hid hN
    rw [hN] at hax
    have HX := Lib.hid hax
    clear hN hax hdx
    have q7 := xB2.cell (j := 7) rfl
    go_upto_region 7 with (refine wpList_mk 25 2 (.int .i64 0) 8 _ _ rfl rfl n.Oks.length rfl rfl (by kernel_rfl) (by kernel_rfl) (by decide) (by omega) ?_; intro W0 G0 b0 s0; clear q7; have X0 := (blk_alloc w2 [.int .i64 n.Id, .int .i64 n.Size, .int .i64 n.View, .bool n.Normal, .int .i64 n.Last, .slice B5 n.Log.length d5, .int .i64 0, .slice B7 n.Oks.length d7, .slice B8 n.Asks.length d8, .slice B9 n.Doers.length d9] 29).below b0; have p7 := X0.cell (j := 7) rfl; have y7 := X0.frozen 7)
    rw [Deep.nblk_alloc] at G0 s0
    have T0 : Turn [w2.heap.size] w2 W0 := ((Turn.refl [w2.heap.size] w2).alloc _).trans (Turn.of_below b0)
    clear p7 y7
    refine at_world (fun W => Blk W w2.heap.size 29 [.int .i64 n.Id, .int .i64 n.Size, .int .i64 n.View, .bool n.Normal, .int .i64 n.Last, .slice B5 n.Log.length d5, .int .i64 0, .slice (some ⟨w2.heap.size + 1, 0, none⟩) n.Oks.length n.Oks.length, .slice B8 n.Asks.length d8, .slice B9 n.Doers.length d9] ∧ Blk W (w2.heap.size + 1) 2 (List.replicate n.Oks.length (Value.int IntKind.i64 0).cells.toList).flatten ∧ Turn [w2.heap.size] w2 W) ⟨X0.set0 7 _, G0.set_ne (by simp) _, T0.set (by simp) _⟩ ?_
    clear X0 G0 b0 s0 T0 W0
    rintro W1 ⟨Y1, G7, T1⟩
    have g7 := G7.lt
    have xB3 := xB2.turn T1 (by simpa using ne2)
    have q8 := xB3.cell (j := 8) rfl
    go_upto_region 8 with (refine wpList_mk 26 4 (.bool false) 1 _ _ rfl rfl n.Asks.length rfl rfl (by kernel_rfl) (by kernel_rfl) (by decide) (by omega) ?_; intro W0 G0 b0 s0; clear q8; have X0 := Y1.below b0; have p8 := X0.cell (j := 8) rfl; have y8 := X0.frozen 8)
    rw [show (Value.bool false).cells.toList = [Value.bool false] from rfl, flat_false] at G0
    clear p8 y8
    refine at_world (fun W => Blk W w2.heap.size 29 [.int .i64 n.Id, .int .i64 n.Size, .int .i64 n.View, .bool n.Normal, .int .i64 n.Last, .slice B5 n.Log.length d5, .int .i64 0, .slice (some ⟨w2.heap.size + 1, 0, none⟩) n.Oks.length n.Oks.length, .slice (some ⟨W1.heap.size, 0, none⟩) n.Asks.length n.Asks.length, .slice B9 n.Doers.length d9] ∧ Blk W (w2.heap.size + 1) 2 (List.replicate n.Oks.length (Value.int IntKind.i64 0).cells.toList).flatten ∧ Blk W W1.heap.size 4 (List.replicate n.Asks.length (.bool false)) ∧ Turn [w2.heap.size] w2 W) ⟨X0.set0 8 _, (G7.below b0).set_ne (by simp) _, G0.set_ne (by simp; omega) _, (T1.trans (Turn.of_below b0)).set (by simp) _⟩ ?_
    clear X0 G0 b0 s0 W0 Y1 G7 xB3
    rintro W2 ⟨Y2, G7, G8, T2⟩
    have xB3 := xB2.turn T2 (by simpa using ne2)
    have g8 := G8.lt
    have v8 := Y2.cell (j := 8) rfl
    have hA0 : n.Asks = [] := List.eq_nil_of_length_eq_zero (by simpa using HX.out)
    have hle0 : ¬ (0 : Int) < (n.Asks.length : Int) := by rw [hA0]; simp
    have G8' : Blk W2 W1.heap.size 4 (n.Asks.map Value.bool) := by rw [hA0] at G8 ⊢; exact G8
    have HA := Lib.hid hA0
    clear hA0 G8
    go_upto_region 10 with fail
    clear v8 hle0
    refine at_world (fun W => Blk W w2.heap.size 29 [.int .i64 n.Id, .int .i64 n.Size, .int .i64 n.View, .bool n.Normal, .int .i64 n.Last, .slice B5 n.Log.length d5, .int .i64 0, .slice (some ⟨w2.heap.size + 1, 0, none⟩) n.Oks.length n.Oks.length, .slice (some ⟨W1.heap.size, 0, none⟩) n.Asks.length n.Asks.length, .slice B9 n.Doers.length d9] ∧ Blk W (w2.heap.size + 1) 2 (List.replicate n.Oks.length (Value.int IntKind.i64 0).cells.toList).flatten ∧ Blk W W1.heap.size 4 (n.Asks.map Value.bool) ∧ Turn [w2.heap.size] w2 W) ⟨Y2, G7, G8', T2⟩ ?_
    clear Y2 G7 T2 xB3 g8
    rintro W3 ⟨Y3, G7, G8, T3⟩
    have xB3 := xB2.turn T3 (by simpa using ne2)
    have zB3 := zB2.turn T3 (by simp; omega)
    have g8 := G8.lt
    have g7' := G7.lt
    have q9 := xB3.cell (j := 9) rfl
    have zlt := zB3.lt
    go_upto_region 11 with (refine wpList_mk 27 70 (.agg #[.bool false, .int .i64 0, .slice none 0 0, .int .i64 0]) 48 _ _ rfl rfl n.Doers.length rfl rfl (by kernel_rfl) (by kernel_rfl) (by decide) (by omega) ?_; intro W0 G0 b0 s0; clear q9; have X0 := Y3.below b0; have p9 := X0.cell (j := 9) rfl; have y9 := X0.frozen 9)
    clear p9 y9
    refine at_world (fun W => Blk W w2.heap.size 29 [.int .i64 n.Id, .int .i64 n.Size, .int .i64 n.View, .bool n.Normal, .int .i64 n.Last, .slice B5 n.Log.length d5, .int .i64 0, .slice (some ⟨w2.heap.size + 1, 0, none⟩) n.Oks.length n.Oks.length, .slice (some ⟨W1.heap.size, 0, none⟩) n.Asks.length n.Asks.length, .slice (some ⟨W3.heap.size, 0, none⟩) n.Doers.length n.Doers.length] ∧ Blk W (w2.heap.size + 1) 2 (List.replicate n.Oks.length (Value.int IntKind.i64 0).cells.toList).flatten ∧ Blk W W1.heap.size 4 ((n.Asks).map Value.bool) ∧ Blk W W3.heap.size 70 (List.replicate n.Doers.length (Value.agg #[.bool false, .int .i64 0, .slice none 0 0, .int .i64 0]).cells.toList).flatten ∧ Turn [w2.heap.size] w2 W) ⟨X0.set0 9 _, (G7.below b0).set_ne (by simp) _, (G8.below b0).set_ne (by simp; omega) _, G0.set_ne (by simp; omega) _, (T3.trans (Turn.of_below b0)).set (by simp) _⟩ ?_
    clear X0 G0 b0 s0 W0 Y3 G7 G8 xB3 zB3
    rintro W4 ⟨Y4, G7, G8, G9, T4⟩
    have zB4 := zB2.turn T4 (by simp; omega)
    have x0 := Y4.cell (j := 0) rfl
    have x1 := Y4.cell (j := 1) rfl
    have x2 := Y4.cell (j := 2) rfl
    have x3 := Y4.cell (j := 3) rfl
    have x4 := Y4.cell (j := 4) rfl
    have x5 := Y4.cell (j := 5) rfl
    have x6 := Y4.cell (j := 6) rfl
    have x7 := Y4.cell (j := 7) rfl
    have x8 := Y4.cell (j := 8) rfl
    have x9 := Y4.cell (j := 9) rfl
    have r0 := zB4.cell (j := 0) rfl
    have y0 := zB4.frozen 0
    have r1 := zB4.cell (j := 1) rfl
    have y1 := zB4.frozen 1
    have r2 := zB4.cell (j := 2) rfl
    have y2 := zB4.frozen 2
    have r3 := zB4.cell (j := 3) rfl
    have y3 := zB4.frozen 3
    have r4 := zB4.cell (j := 4) rfl
    have y4 := zB4.frozen 4
    have r5 := zB4.cell (j := 5) rfl
    have y5 := zB4.frozen 5
    have r6 := zB4.cell (j := 6) rfl
    have y6 := zB4.frozen 6
    have r7 := zB4.cell (j := 7) rfl
    have y7 := zB4.frozen 7
    have r8 := zB4.cell (j := 8) rfl
    have y8 := zB4.frozen 8
    have r9 := zB4.cell (j := 9) rfl
    have y9 := zB4.frozen 9
    have r10 := zB4.cell (j := 10) rfl
    have y10 := zB4.frozen 10
    have r11 := zB4.cell (j := 11) rfl
    have y11 := zB4.frozen 11
    go_wp2_with fail
    have hl8 : (n.Asks).length = n.Asks.length := by rfl
    have o5 := OwnS.turn hlog T4 (by intro x hx hm; simp at hm; have := (k5 x hx).2; omega)
    have o7 := ownS_blk (d := kInt) (e := 2) (B := w.heap.size + 2) (xs := List.replicate n.Oks.length 0) G7 (ownL_rep (d := kInt) (x := (0 : Int)) ⟨rfl, rfl⟩ _) (by omega) (by simp; unfold maxLen; omega)
    have o8 := ownS_blk (d := kBool) (e := 4) (B := w.heap.size + 2) (xs := n.Asks) G8 (own_bools _ _ _) (by omega) (by rw [hl8]; unfold maxLen; omega)
    have o9 := ownS_blk (d := kDoer) (e := 70) (B := w.heap.size + 2) (xs := List.replicate n.Doers.length zDoer) G9 (ownL_rep (own_zdoer _ _) _) (by omega) (by simp; unfold maxLen; omega)
    rw [List.length_replicate] at o7 o9
    rw [hl8] at o8
    have bw4 : Below w.heap.size w W4 := bw2.trans (T4.below (by simp; omega) (by omega))
    refine bodyPost_ret (v := .agg #[.int .i64 0, .int .i64 n.Id, .int .i64 n.Size, .int .i64 n.View, .bool n.Normal, .int .i64 n.Last, .slice B5 n.Log.length d5, .int .i64 0, .slice (some ⟨w2.heap.size + 1, 0, none⟩) n.Oks.length n.Oks.length, .slice (some ⟨W1.heap.size, 0, none⟩) n.Asks.length n.Asks.length, .slice (some ⟨W3.heap.size, 0, none⟩) n.Doers.length n.Doers.length, .slice none 0 0]) (by simp [results, Tryz.results191, go_sem, r0, r1, r2, r3, r4, r5, r6, r7, r8, r9, r10, r11]) rfl ?_
    show LaidRR _ _ _ _
    rw [hR.out]
    refine ⟨B5, d5, some ⟨w2.heap.size + 1, 0, none⟩, n.Oks.length, some ⟨W1.heap.size, 0, none⟩, n.Asks.length, some ⟨W3.heap.size, 0, none⟩, n.Doers.length, none, 0, f5, [w2.heap.size + 1], [W1.heap.size], [W3.heap.size], [], ?_, ⟨?_, ?_, ?_, ?_, ownS_nil _ _ _, ?_⟩, ?_⟩
    · simp only [List.length_replicate, hl8, List.length_nil]
    · refine past_of (lo := w.heap.size + 2) o5 (by omega) (by omega) ?_
      repeat (first | (with_reducible exact Past.refl _ _) | (with_reducible refine Past.set ?_ (by omega) _))
    · simp only [List.length_replicate]
      refine past_of (lo := w.heap.size + 2) o7 (by omega) (by omega) ?_
      repeat (first | (with_reducible exact Past.refl _ _) | (with_reducible refine Past.set ?_ (by omega) _))
    · simp only [hl8]
      refine past_of (lo := w.heap.size + 2) o8 (by omega) (by omega) ?_
      repeat (first | (with_reducible exact Past.refl _ _) | (with_reducible refine Past.set ?_ (by omega) _))
    · simp only [List.length_replicate]
      refine past_of (lo := w.heap.size + 2) o9 (by omega) (by omega) ?_
      repeat (first | (with_reducible exact Past.refl _ _) | (with_reducible refine Past.set ?_ (by omega) _))
    · have := nodup4 (m := w2.heap.size) nd5 (fun x hx => (k5 x hx).2) (a := w2.heap.size + 1) (b := W1.heap.size) (c := W3.heap.size) (by omega) (by omega) (by omega) (by omega)
      simpa using this
    · repeat (first | (with_reducible assumption) | (with_reducible exact Below.refl _ _) | (with_reducible apply below_alloc) | (with_reducible apply below_drewN) | (with_reducible apply Below.drew) | (with_reducible refine below_set ?_ (by dsimp only; omega) _) | (with_reducible refine below_trans ?_ (by assumption)))
  · replace hN : n.Normal = false := by simpa using hN
    have hR := Lib.hid (show crashR n i s = { n with Commit := 0, Oks := List.replicate n.Oks.length 0, Asks := aloneL s i, Doers := List.replicate n.Doers.length zDoer } by
      have e1 := hf.asks
      have e2 := hf.doers
      rw [hN] at e1 e2
      unfold crashR
      rw [hN]
      simp only [if_true, if_false, Bool.false_eq_true] at e1 e2 ⊢
      rw [e2])
    have HN := Lib.hid hN
    rw [hN] at hax
    have HX := Lib.hid hax
    clear hN hax hdx
    have q7 := xB2.cell (j := 7) rfl
    go_upto_region 7 with (refine wpList_mk 25 2 (.int .i64 0) 8 _ _ rfl rfl n.Oks.length rfl rfl (by kernel_rfl) (by kernel_rfl) (by decide) (by omega) ?_; intro W0 G0 b0 s0; clear q7; have X0 := (blk_alloc w2 [.int .i64 n.Id, .int .i64 n.Size, .int .i64 n.View, .bool n.Normal, .int .i64 n.Last, .slice B5 n.Log.length d5, .int .i64 0, .slice B7 n.Oks.length d7, .slice B8 n.Asks.length d8, .slice B9 n.Doers.length d9] 29).below b0; have p7 := X0.cell (j := 7) rfl; have y7 := X0.frozen 7)
    rw [Deep.nblk_alloc] at G0 s0
    have T0 : Turn [w2.heap.size] w2 W0 := ((Turn.refl [w2.heap.size] w2).alloc _).trans (Turn.of_below b0)
    clear p7 y7
    refine at_world (fun W => Blk W w2.heap.size 29 [.int .i64 n.Id, .int .i64 n.Size, .int .i64 n.View, .bool n.Normal, .int .i64 n.Last, .slice B5 n.Log.length d5, .int .i64 0, .slice (some ⟨w2.heap.size + 1, 0, none⟩) n.Oks.length n.Oks.length, .slice B8 n.Asks.length d8, .slice B9 n.Doers.length d9] ∧ Blk W (w2.heap.size + 1) 2 (List.replicate n.Oks.length (Value.int IntKind.i64 0).cells.toList).flatten ∧ Turn [w2.heap.size] w2 W) ⟨X0.set0 7 _, G0.set_ne (by simp) _, T0.set (by simp) _⟩ ?_
    clear X0 G0 b0 s0 T0 W0
    rintro W1 ⟨Y1, G7, T1⟩
    have g7 := G7.lt
    have xB3 := xB2.turn T1 (by simpa using ne2)
    have q8 := xB3.cell (j := 8) rfl
    go_upto_region 8 with (refine wpList_mk 26 4 (.bool false) 1 _ _ rfl rfl n.Asks.length rfl rfl (by kernel_rfl) (by kernel_rfl) (by decide) (by omega) ?_; intro W0 G0 b0 s0; clear q8; have X0 := Y1.below b0; have p8 := X0.cell (j := 8) rfl; have y8 := X0.frozen 8)
    rw [show (Value.bool false).cells.toList = [Value.bool false] from rfl, flat_false] at G0
    clear p8 y8
    refine at_world (fun W => Blk W w2.heap.size 29 [.int .i64 n.Id, .int .i64 n.Size, .int .i64 n.View, .bool n.Normal, .int .i64 n.Last, .slice B5 n.Log.length d5, .int .i64 0, .slice (some ⟨w2.heap.size + 1, 0, none⟩) n.Oks.length n.Oks.length, .slice (some ⟨W1.heap.size, 0, none⟩) n.Asks.length n.Asks.length, .slice B9 n.Doers.length d9] ∧ Blk W (w2.heap.size + 1) 2 (List.replicate n.Oks.length (Value.int IntKind.i64 0).cells.toList).flatten ∧ Blk W W1.heap.size 4 (List.replicate n.Asks.length (.bool false)) ∧ Turn [w2.heap.size] w2 W) ⟨X0.set0 8 _, (G7.below b0).set_ne (by simp) _, G0.set_ne (by simp; omega) _, (T1.trans (Turn.of_below b0)).set (by simp) _⟩ ?_
    clear X0 G0 b0 s0 W0 Y1 G7 xB3
    rintro W2 ⟨Y2, G7, G8, T2⟩
    have xB3 := xB2.turn T2 (by simpa using ne2)
    have g8 := G8.lt
    have v8 := Y2.cell (j := 8) rfl
    have hA1 : n.Asks.length = s := by simpa using HX.out
    have hlp : (0 : Int) < (n.Asks.length : Int) := by omega
    have hil : (i : Int) < (n.Asks.length : Int) := by omega
    have v0 := xB3.cell (j := 0) rfl
    rw [hid.out] at v0
    have u8 : W2.cell? ⟨W1.heap.size, i, none⟩ = some (.bool false) := G8.cell (by rw [List.getElem?_replicate, if_pos (by omega)])
    have w8 := G8.frozen i
    clear hA1
    go_upto_region 10 with fail
    clear v8 hlp hil v0 u8 w8
    refine at_world (fun W => Blk W w2.heap.size 29 [.int .i64 n.Id, .int .i64 n.Size, .int .i64 n.View, .bool n.Normal, .int .i64 n.Last, .slice B5 n.Log.length d5, .int .i64 0, .slice (some ⟨w2.heap.size + 1, 0, none⟩) n.Oks.length n.Oks.length, .slice (some ⟨W1.heap.size, 0, none⟩) n.Asks.length n.Asks.length, .slice B9 n.Doers.length d9] ∧ Blk W (w2.heap.size + 1) 2 (List.replicate n.Oks.length (Value.int IntKind.i64 0).cells.toList).flatten ∧ Blk W W1.heap.size 4 ((aloneL s i).map Value.bool) ∧ Turn [w2.heap.size] w2 W) ⟨Y2.set_ne (a := ⟨W1.heap.size, i, none⟩) (by show W1.heap.size ≠ _; omega) (.bool true), G7.set_ne (a := ⟨W1.heap.size, i, none⟩) (by show W1.heap.size ≠ _; omega) (.bool true), ?_, Turn.fresh (fq := [W1.heap.size]) T2 ((Turn.refl [W1.heap.size] W2).set (p := ⟨W1.heap.size, i, none⟩) (by simp) (.bool true)) (by simp; omega)⟩ ?_
    · have h8 := G8.set0 i (.bool true)
      have e2 : (aloneL s i).map Value.bool = (List.replicate n.Asks.length (Value.bool false)).set i (.bool true) := by
        have e1 := hf.asks
        rw [HN.out] at e1
        unfold aloneL; rw [List.map_set, List.map_replicate, e1]; rfl
      rw [e2]; exact h8
    clear Y2 G7 T2 xB3 g8
    rintro W3 ⟨Y3, G7, G8, T3⟩
    have xB3 := xB2.turn T3 (by simpa using ne2)
    have zB3 := zB2.turn T3 (by simp; omega)
    have g8 := G8.lt
    have g7' := G7.lt
    have q9 := xB3.cell (j := 9) rfl
    have zlt := zB3.lt
    go_upto_region 11 with (refine wpList_mk 27 70 (.agg #[.bool false, .int .i64 0, .slice none 0 0, .int .i64 0]) 48 _ _ rfl rfl n.Doers.length rfl rfl (by kernel_rfl) (by kernel_rfl) (by decide) (by omega) ?_; intro W0 G0 b0 s0; clear q9; have X0 := Y3.below b0; have p9 := X0.cell (j := 9) rfl; have y9 := X0.frozen 9)
    clear p9 y9
    refine at_world (fun W => Blk W w2.heap.size 29 [.int .i64 n.Id, .int .i64 n.Size, .int .i64 n.View, .bool n.Normal, .int .i64 n.Last, .slice B5 n.Log.length d5, .int .i64 0, .slice (some ⟨w2.heap.size + 1, 0, none⟩) n.Oks.length n.Oks.length, .slice (some ⟨W1.heap.size, 0, none⟩) n.Asks.length n.Asks.length, .slice (some ⟨W3.heap.size, 0, none⟩) n.Doers.length n.Doers.length] ∧ Blk W (w2.heap.size + 1) 2 (List.replicate n.Oks.length (Value.int IntKind.i64 0).cells.toList).flatten ∧ Blk W W1.heap.size 4 ((aloneL s i).map Value.bool) ∧ Blk W W3.heap.size 70 (List.replicate n.Doers.length (Value.agg #[.bool false, .int .i64 0, .slice none 0 0, .int .i64 0]).cells.toList).flatten ∧ Turn [w2.heap.size] w2 W) ⟨X0.set0 9 _, (G7.below b0).set_ne (by simp) _, (G8.below b0).set_ne (by simp; omega) _, G0.set_ne (by simp; omega) _, (T3.trans (Turn.of_below b0)).set (by simp) _⟩ ?_
    clear X0 G0 b0 s0 W0 Y3 G7 G8 xB3 zB3
    rintro W4 ⟨Y4, G7, G8, G9, T4⟩
    have zB4 := zB2.turn T4 (by simp; omega)
    have x0 := Y4.cell (j := 0) rfl
    have x1 := Y4.cell (j := 1) rfl
    have x2 := Y4.cell (j := 2) rfl
    have x3 := Y4.cell (j := 3) rfl
    have x4 := Y4.cell (j := 4) rfl
    have x5 := Y4.cell (j := 5) rfl
    have x6 := Y4.cell (j := 6) rfl
    have x7 := Y4.cell (j := 7) rfl
    have x8 := Y4.cell (j := 8) rfl
    have x9 := Y4.cell (j := 9) rfl
    have r0 := zB4.cell (j := 0) rfl
    have y0 := zB4.frozen 0
    have r1 := zB4.cell (j := 1) rfl
    have y1 := zB4.frozen 1
    have r2 := zB4.cell (j := 2) rfl
    have y2 := zB4.frozen 2
    have r3 := zB4.cell (j := 3) rfl
    have y3 := zB4.frozen 3
    have r4 := zB4.cell (j := 4) rfl
    have y4 := zB4.frozen 4
    have r5 := zB4.cell (j := 5) rfl
    have y5 := zB4.frozen 5
    have r6 := zB4.cell (j := 6) rfl
    have y6 := zB4.frozen 6
    have r7 := zB4.cell (j := 7) rfl
    have y7 := zB4.frozen 7
    have r8 := zB4.cell (j := 8) rfl
    have y8 := zB4.frozen 8
    have r9 := zB4.cell (j := 9) rfl
    have y9 := zB4.frozen 9
    have r10 := zB4.cell (j := 10) rfl
    have y10 := zB4.frozen 10
    have r11 := zB4.cell (j := 11) rfl
    have y11 := zB4.frozen 11
    go_wp2_with fail
    have hl8 : (aloneL s i).length = n.Asks.length := by have e1 := hf.asks; rw [HN.out] at e1; rw [aloneL_len]; simpa using e1.symm
    have o5 := OwnS.turn hlog T4 (by intro x hx hm; simp at hm; have := (k5 x hx).2; omega)
    have o7 := ownS_blk (d := kInt) (e := 2) (B := w.heap.size + 2) (xs := List.replicate n.Oks.length 0) G7 (ownL_rep (d := kInt) (x := (0 : Int)) ⟨rfl, rfl⟩ _) (by omega) (by simp; unfold maxLen; omega)
    have o8 := ownS_blk (d := kBool) (e := 4) (B := w.heap.size + 2) (xs := aloneL s i) G8 (own_bools _ _ _) (by omega) (by rw [hl8]; unfold maxLen; omega)
    have o9 := ownS_blk (d := kDoer) (e := 70) (B := w.heap.size + 2) (xs := List.replicate n.Doers.length zDoer) G9 (ownL_rep (own_zdoer _ _) _) (by omega) (by simp; unfold maxLen; omega)
    rw [List.length_replicate] at o7 o9
    rw [hl8] at o8
    have bw4 : Below w.heap.size w W4 := bw2.trans (T4.below (by simp; omega) (by omega))
    refine bodyPost_ret (v := .agg #[.int .i64 0, .int .i64 n.Id, .int .i64 n.Size, .int .i64 n.View, .bool n.Normal, .int .i64 n.Last, .slice B5 n.Log.length d5, .int .i64 0, .slice (some ⟨w2.heap.size + 1, 0, none⟩) n.Oks.length n.Oks.length, .slice (some ⟨W1.heap.size, 0, none⟩) n.Asks.length n.Asks.length, .slice (some ⟨W3.heap.size, 0, none⟩) n.Doers.length n.Doers.length, .slice none 0 0]) (by simp [results, Tryz.results191, go_sem, r0, r1, r2, r3, r4, r5, r6, r7, r8, r9, r10, r11]) rfl ?_
    show LaidRR _ _ _ _
    rw [hR.out]
    refine ⟨B5, d5, some ⟨w2.heap.size + 1, 0, none⟩, n.Oks.length, some ⟨W1.heap.size, 0, none⟩, n.Asks.length, some ⟨W3.heap.size, 0, none⟩, n.Doers.length, none, 0, f5, [w2.heap.size + 1], [W1.heap.size], [W3.heap.size], [], ?_, ⟨?_, ?_, ?_, ?_, ownS_nil _ _ _, ?_⟩, ?_⟩
    · simp only [List.length_replicate, hl8, List.length_nil]
    · refine past_of (lo := w.heap.size + 2) o5 (by omega) (by omega) ?_
      repeat (first | (with_reducible exact Past.refl _ _) | (with_reducible refine Past.set ?_ (by omega) _))
    · simp only [List.length_replicate]
      refine past_of (lo := w.heap.size + 2) o7 (by omega) (by omega) ?_
      repeat (first | (with_reducible exact Past.refl _ _) | (with_reducible refine Past.set ?_ (by omega) _))
    · simp only [hl8]
      refine past_of (lo := w.heap.size + 2) o8 (by omega) (by omega) ?_
      repeat (first | (with_reducible exact Past.refl _ _) | (with_reducible refine Past.set ?_ (by omega) _))
    · simp only [List.length_replicate]
      refine past_of (lo := w.heap.size + 2) o9 (by omega) (by omega) ?_
      repeat (first | (with_reducible exact Past.refl _ _) | (with_reducible refine Past.set ?_ (by omega) _))
    · have := nodup4 (m := w2.heap.size) nd5 (fun x hx => (k5 x hx).2) (a := w2.heap.size + 1) (b := W1.heap.size) (c := W3.heap.size) (by omega) (by omega) (by omega) (by omega)
      simpa using this
    · repeat (first | (with_reducible assumption) | (with_reducible exact Below.refl _ _) | (with_reducible apply below_alloc) | (with_reducible apply below_drewN) | (with_reducible apply Below.drew) | (with_reducible refine below_set ?_ (by dsimp only; omega) _) | (with_reducible refine below_trans ?_ (by assumption)))
theorem sCrashReplica_c (n : SReplica) (A5 : Option Addr) (c5 : Nat) (A7 : Option Addr) (c7 : Nat) (A8 : Option Addr) (c8 : Nat) (A9 : Option Addr) (c9 : Nat) (w : World) (h5 : RdS kEntry w A5 c5 n.Log) (h7 : RdS kInt w A7 c7 n.Oks) (h8 : RdS kBool w A8 c8 n.Asks) (h9 : RdS kDoer w A9 c9 n.Doers) :
    Calls Tryz.prog 191 #[.agg #[.int .i64 n.Id, .int .i64 n.Size, .int .i64 n.View, .bool n.Normal, .int .i64 n.Last, .slice A5 n.Log.length c5, .int .i64 n.Commit, .slice A7 n.Oks.length c7, .slice A8 n.Asks.length c8, .slice A9 n.Doers.length c9]] w fun r w' => LaidRR (crashX n) w r w' := by
  cases q : (repF n != 0) with
  | true => rw [show crashX n = ⟨repF n, zReplica, []⟩ by unfold crashX; rw [q, if_pos rfl]]; exact sCrash_bad n _ _ _ _ _ _ _ _ w h5 h7 h8 h9 q
  | false => rw [show crashX n = ⟨0, crashR n n.Id.toNat n.Size.toNat, []⟩ by unfold crashX; rw [q, if_neg (by simp)]]; exact sCrash_did n _ _ _ _ _ _ _ _ w h5 h7 h8 h9 q
end Go.Proofs.YtdjfehjddfbbjaaGreat

/- The reference's TimeoutReplica (written by gH13.py, own work). -/
set_option linter.unusedVariables false
set_option linter.unusedSimpArgs false
namespace Go.Proofs.YtdjfehjddfbbjaaGreat
open Go Go.RowKit Mk
set_option maxRecDepth 100000 in
set_option maxHeartbeats 2000000 in
theorem sTimeout_max (n : SReplica) (A5 : Option Addr) (c5 : Nat) (A7 : Option Addr) (c7 : Nat) (A8 : Option Addr) (c8 : Nat) (A9 : Option Addr) (c9 : Nat) (w : World) (h5 : RdS kEntry w A5 c5 n.Log) (h7 : RdS kInt w A7 c7 n.Oks) (h8 : RdS kBool w A8 c8 n.Asks) (h9 : RdS kDoer w A9 c9 n.Doers) (q : (repF n != 0) = false) (hv : (n.View == 200) = true) :
    Calls Tryz.prog 189 #[.agg #[.int .i64 n.Id, .int .i64 n.Size, .int .i64 n.View, .bool n.Normal, .int .i64 n.Last, .slice A5 n.Log.length c5, .int .i64 n.Commit, .slice A7 n.Oks.length c7, .slice A8 n.Asks.length c8, .slice A9 n.Doers.length c9]] w fun r w' => LaidRR ⟨2, zReplica, []⟩ w r w' := by
  have hat := boxReplica w n 29 h5 h7 h8 h9
  go_enter Tryz.func189, Tryz.ntmps189
  go_wp2_with fail
  refine (l9Fault_c n _ _ (hat.below (by repeat (first | (with_reducible assumption) | (with_reducible exact Below.refl _ _) | (with_reducible apply below_alloc) | (with_reducible apply below_drewN) | (with_reducible apply Below.drew) | (with_reducible refine below_set ?_ (by dsimp only; omega) _) | (with_reducible refine below_trans ?_ (by assumption)))))).mono ?_
  rintro e w1 ⟨rfl, hb1⟩
  have bw1 : Below w.heap.size w w1 := by repeat (first | (with_reducible assumption) | (with_reducible exact Below.refl _ _) | (with_reducible apply below_alloc) | (with_reducible apply below_drewN) | (with_reducible apply Below.drew) | (with_reducible refine below_set ?_ (by dsimp only; omega) _) | (with_reducible refine below_trans ?_ (by assumption)))
  have xB : Blk w1 w.heap.size 29 [.int .i64 n.Id, .int .i64 n.Size, .int .i64 n.View, .bool n.Normal, .int .i64 n.Last, .slice A5 n.Log.length c5, .int .i64 n.Commit, .slice A7 n.Oks.length c7, .slice A8 n.Asks.length c8, .slice A9 n.Doers.length c9] := ((blk_alloc w [.int .i64 n.Id, .int .i64 n.Size, .int .i64 n.View, .bool n.Normal, .int .i64 n.Last, .slice A5 n.Log.length c5, .int .i64 n.Commit, .slice A7 n.Oks.length c7, .slice A8 n.Asks.length c8, .slice A9 n.Doers.length c9] 29).below (below_alloc (Below.refl _ _) _)).below hb1
  have zB : Blk w1 (w.heap.size + 1) 33 [.int .i64 0, .int .i64 0, .int .i64 0, .int .i64 0, .bool false, .int .i64 0, .slice none 0 0, .int .i64 0, .slice none 0 0, .slice none 0 0, .slice none 0 0, .slice none 0 0] := by
    have := (blk_alloc (w.alloc (.cells #[.int .i64 n.Id, .int .i64 n.Size, .int .i64 n.View, .bool n.Normal, .int .i64 n.Last, .slice A5 n.Log.length c5, .int .i64 n.Commit, .slice A7 n.Oks.length c7, .slice A8 n.Asks.length c8, .slice A9 n.Doers.length c9] 29)) [.int .i64 0, .int .i64 0, .int .i64 0, .int .i64 0, .bool false, .int .i64 0, .slice none 0 0, .int .i64 0, .slice none 0 0, .slice none 0 0, .slice none 0 0, .slice none 0 0] 33).below hb1
    rwa [Deep.nblk_alloc] at this
  have lo1 : w.heap.size + 2 ≤ w1.heap.size := by have := hb1.size; simp only [Deep.nblk_alloc] at this; omega
  have x2 := xB.cell (j := 2) rfl
  rw [show n.View = 200 by simpa using hv] at x2
  go_wp2_with fail
  refine (l9Bad_c _ w1).mono ?_
  rintro r w2 ⟨rfl, hb2⟩
  have zB2 := zB.below hb2
  have r0 := zB2.cell (j := 0) rfl
  have y0 := zB2.frozen 0
  have r1 := zB2.cell (j := 1) rfl
  have y1 := zB2.frozen 1
  have r2 := zB2.cell (j := 2) rfl
  have y2 := zB2.frozen 2
  have r3 := zB2.cell (j := 3) rfl
  have y3 := zB2.frozen 3
  have r4 := zB2.cell (j := 4) rfl
  have y4 := zB2.frozen 4
  have r5 := zB2.cell (j := 5) rfl
  have y5 := zB2.frozen 5
  have r6 := zB2.cell (j := 6) rfl
  have y6 := zB2.frozen 6
  have r7 := zB2.cell (j := 7) rfl
  have y7 := zB2.frozen 7
  have r8 := zB2.cell (j := 8) rfl
  have y8 := zB2.frozen 8
  have r9 := zB2.cell (j := 9) rfl
  have y9 := zB2.frozen 9
  have r10 := zB2.cell (j := 10) rfl
  have y10 := zB2.frozen 10
  have r11 := zB2.cell (j := 11) rfl
  have y11 := zB2.frozen 11
  clear zB zB2
  go_wp2_with fail
  refine bodyPost_ret (v := .agg #[.int .i64 2, .int .i64 0, .int .i64 0, .int .i64 0, .bool false, .int .i64 0, .slice none 0 0, .int .i64 0, .slice none 0 0, .slice none 0 0, .slice none 0 0, .slice none 0 0]) (by simp [results, Tryz.results189, go_sem, r0, r1, r2, r3, r4, r5, r6, r7, r8, r9, r10, r11]) rfl (LaidRR.bad _ ?_)
  repeat (first | (with_reducible assumption) | (with_reducible exact Below.refl _ _) | (with_reducible apply below_alloc) | (with_reducible apply below_drewN) | (with_reducible apply Below.drew) | (with_reducible refine below_set ?_ (by dsimp only; omega) _) | (with_reducible refine below_trans ?_ (by assumption)))
set_option maxRecDepth 100000 in
set_option maxHeartbeats 4000000 in
theorem sTimeout_did (n : SReplica) (A5 : Option Addr) (c5 : Nat) (A7 : Option Addr) (c7 : Nat) (A8 : Option Addr) (c8 : Nat) (A9 : Option Addr) (c9 : Nat) (w : World) (h5 : RdS kEntry w A5 c5 n.Log) (h7 : RdS kInt w A7 c7 n.Oks) (h8 : RdS kBool w A8 c8 n.Asks) (h9 : RdS kDoer w A9 c9 n.Doers) (q : (repF n != 0) = false) (hv : (n.View == 200) = false) :
    Calls Tryz.prog 189 #[.agg #[.int .i64 n.Id, .int .i64 n.Size, .int .i64 n.View, .bool n.Normal, .int .i64 n.Last, .slice A5 n.Log.length c5, .int .i64 n.Commit, .slice A7 n.Oks.length c7, .slice A8 n.Asks.length c8, .slice A9 n.Doers.length c9]] w fun r w' => LaidRR ⟨0, timeoutR n n.Id.toNat n.Size.toNat n.View.toNat, timeoutM n.Id.toNat n.Size.toNat n.View.toNat⟩ w r w' := by
  have hf := repF_nums q
  obtain ⟨i, hi⟩ : ∃ i, i = n.Id.toNat := ⟨_, rfl⟩
  obtain ⟨s, hs⟩ : ∃ s, s = n.Size.toNat := ⟨_, rfl⟩
  obtain ⟨v, hvv⟩ : ∃ v, v = n.View.toNat := ⟨_, rfl⟩
  rw [← hi, ← hs, ← hvv] at hf ⊢
  clear hi hs hvv
  have hV : n.View ≠ 200 := by simpa using hv
  have hv1 := hf.vle
  have hv2 := hf.view
  have lv : 0 ≤ n.View := by omega
  have uv : n.View < 200 := by omega
  have hge : decide ((200 : Int) ≤ n.View) = false := decide_eq_false (by omega)
  clear hv hV hv2 hv1
  have hat := boxReplica w n 29 h5 h7 h8 h9
  go_enter Tryz.func189, Tryz.ntmps189
  go_wp2_with fail
  refine (l9Fault_c n _ _ (hat.below (by repeat (first | (with_reducible assumption) | (with_reducible exact Below.refl _ _) | (with_reducible apply below_alloc) | (with_reducible apply below_drewN) | (with_reducible apply Below.drew) | (with_reducible refine below_set ?_ (by dsimp only; omega) _) | (with_reducible refine below_trans ?_ (by assumption)))))).mono ?_
  rintro e w1 ⟨rfl, hb1⟩
  have bw1 : Below w.heap.size w w1 := by repeat (first | (with_reducible assumption) | (with_reducible exact Below.refl _ _) | (with_reducible apply below_alloc) | (with_reducible apply below_drewN) | (with_reducible apply Below.drew) | (with_reducible refine below_set ?_ (by dsimp only; omega) _) | (with_reducible refine below_trans ?_ (by assumption)))
  have xB : Blk w1 w.heap.size 29 [.int .i64 n.Id, .int .i64 n.Size, .int .i64 n.View, .bool n.Normal, .int .i64 n.Last, .slice A5 n.Log.length c5, .int .i64 n.Commit, .slice A7 n.Oks.length c7, .slice A8 n.Asks.length c8, .slice A9 n.Doers.length c9] := ((blk_alloc w [.int .i64 n.Id, .int .i64 n.Size, .int .i64 n.View, .bool n.Normal, .int .i64 n.Last, .slice A5 n.Log.length c5, .int .i64 n.Commit, .slice A7 n.Oks.length c7, .slice A8 n.Asks.length c8, .slice A9 n.Doers.length c9] 29).below (below_alloc (Below.refl _ _) _)).below hb1
  have zB : Blk w1 (w.heap.size + 1) 33 [.int .i64 0, .int .i64 0, .int .i64 0, .int .i64 0, .bool false, .int .i64 0, .slice none 0 0, .int .i64 0, .slice none 0 0, .slice none 0 0, .slice none 0 0, .slice none 0 0] := by
    have := (blk_alloc (w.alloc (.cells #[.int .i64 n.Id, .int .i64 n.Size, .int .i64 n.View, .bool n.Normal, .int .i64 n.Last, .slice A5 n.Log.length c5, .int .i64 n.Commit, .slice A7 n.Oks.length c7, .slice A8 n.Asks.length c8, .slice A9 n.Doers.length c9] 29)) [.int .i64 0, .int .i64 0, .int .i64 0, .int .i64 0, .bool false, .int .i64 0, .slice none 0 0, .int .i64 0, .slice none 0 0, .slice none 0 0, .slice none 0 0, .slice none 0 0] 33).below hb1
    rwa [Deep.nblk_alloc] at this
  have lo1 : w.heap.size + 2 ≤ w1.heap.size := by have := hb1.size; simp only [Deep.nblk_alloc] at this; omega
  have x0 := xB.cell (j := 0) rfl
  have x1 := xB.cell (j := 1) rfl
  have x2 := xB.cell (j := 2) rfl
  have x3 := xB.cell (j := 3) rfl
  have x4 := xB.cell (j := 4) rfl
  have x5 := xB.cell (j := 5) rfl
  have x6 := xB.cell (j := 6) rfl
  have x7 := xB.cell (j := 7) rfl
  have x8 := xB.cell (j := 8) rfl
  have x9 := xB.cell (j := 9) rfl
  go_wp2_with fail
  clear x0 x1 x2 x3 x4 x5 x6 x7 x8 x9
  refine (l9Copy_c n _ _ _ _ _ _ _ _ w1 (h5.below bw1) (h7.below bw1) (h8.below bw1) (h9.below bw1) hf.small).mono ?_
  rintro r w2 ⟨B5, d5, B7, d7, B8, d8, B9, d9, f5, f7, f8, f9, rfl, hn2, hb2⟩
  have hs2 := hb2.size
  have k5 := hn2.1.in
  have nd5 : f5.Nodup := (List.nodup_append.1 hn2.2.2.2.2).1
  have xB2 := xB.below hb2
  have zB2 := zB.below hb2
  have xl := xB2.lt
  have zl := zB2.lt
  have bw2 := below_trans bw1 hb2
  have hid := Lib.hid hf.id
  have hsz := Lib.hid hf.size
  have hli := hf.lt
  have hle := hf.le
  have hlog := hn2.1
  clear hn2 hge
  go_upto_region 7 with fail
  refine at_world (fun W => Blk W w2.heap.size 33 [.int .i64 0, .int .i64 n.Id, .int .i64 n.Size, .int .i64 n.View, .bool n.Normal, .int .i64 n.Last, .slice B5 n.Log.length d5, .int .i64 n.Commit, .slice B7 n.Oks.length d7, .slice B8 n.Asks.length d8, .slice B9 n.Doers.length d9, .slice none 0 0] ∧ Below w2.heap.size w2 W) ⟨blk_alloc w2 [.int .i64 0, .int .i64 n.Id, .int .i64 n.Size, .int .i64 n.View, .bool n.Normal, .int .i64 n.Last, .slice B5 n.Log.length d5, .int .i64 n.Commit, .slice B7 n.Oks.length d7, .slice B8 n.Asks.length d8, .slice B9 n.Doers.length d9, .slice none 0 0] _, below_alloc (Below.refl _ _) _⟩ ?_
  rintro W3 ⟨Y3, b3⟩
  have xB3 := xB2.below b3
  have zB3 := zB2.below b3
  have bw3 := below_trans bw2 b3
  have s3 := b3.size
  have l3 := Y3.lt
  replace hlog := OwnS.keep hlog (fun b hb => b3.block b (k5 b hb).2)
  clear xB2 zB2
  have x2 := xB3.cell (j := 2) rfl
  go_wp2_with fail
  clear x2
  rw [hid.out, hsz.out] at Y3
  refine (l9For_c w2.heap.size 1 _ [.int .i64 0] [.slice none 0 0] i s (n.View + 1) _ _ _ _ _ _ _ _ W3 Y3 rfl hli hle).mono ?_
  rintro r w4 ⟨g, h, rfl, u1, u2, u3, u4, u5⟩
  have xB4 := xB3.turn u5 (by simp; omega)
  have zB4 := zB3.turn u5 (by simp; omega)
  have s4 := u5.size
  have x1 := xB4.cell (j := 1) rfl
  clear xB3 zB3
  by_cases hs1 : s = 1
  · have hq : (n.Size == 1) = true := by rw [hsz.out, hs1]; rfl
    have HS1 := Lib.hid hs1
    clear hs1
    go_wp2_with fail
    clear x1 hq
    refine (l9Be_c w2.heap.size 1 _ [.int .i64 0] [.slice none 0 0] i s (n.View + 1) _ _ _ _ _ _ _ w4 u1 rfl hli hle (by omega) (by omega)).mono ?_
    rintro r w5 ⟨D7, k7, f7', rfl, m1, m2, m3, m4⟩
    have Y5 : Blk w5 w2.heap.size 33 [.int .i64 0, .int .i64 i, .int .i64 s, .int .i64 (n.View + 1), .bool true, .int .i64 (n.View + 1), .slice B5 n.Log.length d5, .int .i64 n.Commit, .slice D7 (oksZ i s (n.View + 1)).length k7, .slice none 0 0, .slice none 0 0, .slice none 0 0] := m1
    have zB5 := zB4.turn m4 (by simp; omega)
    have tT := u5.trans m4
    have i7 := m2.in
    clear u1 u2 u3 u4 xB4 zB4 m1
    have x0 := Y5.cell (j := 0) rfl
    have x1 := Y5.cell (j := 1) rfl
    have x2 := Y5.cell (j := 2) rfl
    have x3 := Y5.cell (j := 3) rfl
    have x4 := Y5.cell (j := 4) rfl
    have x5 := Y5.cell (j := 5) rfl
    have x6 := Y5.cell (j := 6) rfl
    have x7 := Y5.cell (j := 7) rfl
    have x8 := Y5.cell (j := 8) rfl
    have x9 := Y5.cell (j := 9) rfl
    have x10 := Y5.cell (j := 10) rfl
    have x11 := Y5.cell (j := 11) rfl
    have r0 := zB5.cell (j := 0) rfl
    have y0 := zB5.frozen 0
    have r1 := zB5.cell (j := 1) rfl
    have y1 := zB5.frozen 1
    have r2 := zB5.cell (j := 2) rfl
    have y2 := zB5.frozen 2
    have r3 := zB5.cell (j := 3) rfl
    have y3 := zB5.frozen 3
    have r4 := zB5.cell (j := 4) rfl
    have y4 := zB5.frozen 4
    have r5 := zB5.cell (j := 5) rfl
    have y5 := zB5.frozen 5
    have r6 := zB5.cell (j := 6) rfl
    have y6 := zB5.frozen 6
    have r7 := zB5.cell (j := 7) rfl
    have y7 := zB5.frozen 7
    have r8 := zB5.cell (j := 8) rfl
    have y8 := zB5.frozen 8
    have r9 := zB5.cell (j := 9) rfl
    have y9 := zB5.frozen 9
    have r10 := zB5.cell (j := 10) rfl
    have y10 := zB5.frozen 10
    have r11 := zB5.cell (j := 11) rfl
    have y11 := zB5.frozen 11
    go_wp2_with fail
    have o5 := OwnS.turn hlog tT (by intro x hx hm; simp at hm; have := (k5 x hx).2; omega)
    have bw5 : Below w.heap.size w w5 := bw3.trans (tT.below (by simp; omega) (by omega))
    refine bodyPost_ret (v := .agg #[.int .i64 0, .int .i64 i, .int .i64 s, .int .i64 (n.View + 1), .bool true, .int .i64 (n.View + 1), .slice B5 n.Log.length d5, .int .i64 n.Commit, .slice D7 (oksZ i s (n.View + 1)).length k7, .slice none 0 0, .slice none 0 0, .slice none 0 0]) (by simp [results, Tryz.results189, go_sem, r0, r1, r2, r3, r4, r5, r6, r7, r8, r9, r10, r11]) rfl ?_
    show LaidRR _ _ _ _
    rw [show timeoutR n i s v = settleR n i s ((v : Int) + 1) from if_pos HS1.out, show timeoutM i s v = [] from if_pos HS1.out, ← hf.view]
    refine ⟨B5, d5, D7, k7, none, 0, none, 0, none, 0, f5, f7', [], [], [], ?_, ⟨?_, ?_, ownS_nil _ _ _, ownS_nil _ _ _, ownS_nil _ _ _, ?_⟩, ?_⟩
    · simp only [settleR]; rw [hf.id, hf.size]; rfl
    · refine past_of (lo := w.heap.size + 2) o5 (by omega) (by omega) ?_
      repeat (first | (with_reducible exact Past.refl _ _) | (with_reducible refine Past.set ?_ (by omega) _))
    · refine past_of (lo := w.heap.size + 2) m2 (by omega) (by omega) ?_
      repeat (first | (with_reducible exact Past.refl _ _) | (with_reducible refine Past.set ?_ (by omega) _))
    · simp only [List.append_nil]
      refine List.nodup_append.2 ⟨nd5, m3, fun a ha c hc hac => ?_⟩
      have h1 := (k5 a ha).2
      have h2 := (i7 c hc).1
      omega
    · repeat (first | (with_reducible assumption) | (with_reducible exact Below.refl _ _) | (with_reducible apply below_alloc) | (with_reducible apply below_drewN) | (with_reducible apply Below.drew) | (with_reducible refine below_set ?_ (by dsimp only; omega) _) | (with_reducible refine below_trans ?_ (by assumption)))
  · have hq : (n.Size == 1) = false := beq_eq_false_iff_ne.2 (by rw [hsz.out]; omega)
    have HS1 := Lib.hid hs1
    clear hs1
    have Y4 : Blk w4 w2.heap.size 33 [.int .i64 0, .int .i64 i, .int .i64 s, .int .i64 (n.View + 1), .bool false, .int .i64 n.Last, .slice B5 n.Log.length d5, .int .i64 n.Commit, .slice none 0 0, .slice (some ⟨g, 0, none⟩) s s, .slice (some ⟨h, 0, none⟩) s s, .slice none 0 0] := u1
    have e0 : w4.cell? ⟨w2.heap.size, 1, none⟩ = some (.int .i64 i) := Y4.cell (j := 1) rfl
    have e1 : w4.cell? ⟨w2.heap.size, 1 + 1, none⟩ = some (.int .i64 s) := Y4.cell (j := 2) rfl
    have e2 : w4.cell? ⟨w2.heap.size, 1 + 2, none⟩ = some (.int .i64 ((v + 1 : Nat) : Int)) := by
      have := Y4.cell (j := 3) rfl
      rw [hf.view] at this
      simpa using this
    have hC := l9Changes_c w4 ⟨w2.heap.size, 1, none⟩ i s (v + 1) e0 e1 e2 hle
    clear e0 e1 e2
    go_wp2_with fail
    clear x1 hq
    refine hC.mono ?_
    rintro r w5 ⟨As, cs, fs, rfl, m1, m2, m3⟩
    have Y5 := Y4.below m3
    have q11 := Y5.cell (j := 11) rfl
    have z11 := Y5.frozen 11
    have is := m1.in
    have gg := u2.in g (by simp)
    have gh := u3.in h (by simp)
    have s5 := m3.size
    go_upto_region 12 with fail
    clear q11 z11
    refine at_world (fun W => Blk W w2.heap.size 33 [.int .i64 0, .int .i64 i, .int .i64 s, .int .i64 (n.View + 1), .bool false, .int .i64 n.Last, .slice B5 n.Log.length d5, .int .i64 n.Commit, .slice none 0 0, .slice (some ⟨g, 0, none⟩) s s, .slice (some ⟨h, 0, none⟩) s s, .slice As (changesL i s (v + 1)).length cs] ∧ Turn [w2.heap.size] w5 W) ⟨Y5.set0 11 _, (Turn.refl _ _).set (by simp) _⟩ ?_
    rintro W6 ⟨Y6, t6⟩
    have zB6 := (zB4.below m3).turn t6 (by simp; omega)
    have tT := (u5.trans (Turn.of_below m3)).trans t6
    have s6 := t6.size
    clear u1 xB4 zB4 Y4 Y5 hC
    have x0 := Y6.cell (j := 0) rfl
    have x1 := Y6.cell (j := 1) rfl
    have x2 := Y6.cell (j := 2) rfl
    have x3 := Y6.cell (j := 3) rfl
    have x4 := Y6.cell (j := 4) rfl
    have x5 := Y6.cell (j := 5) rfl
    have x6 := Y6.cell (j := 6) rfl
    have x7 := Y6.cell (j := 7) rfl
    have x8 := Y6.cell (j := 8) rfl
    have x9 := Y6.cell (j := 9) rfl
    have x10 := Y6.cell (j := 10) rfl
    have x11 := Y6.cell (j := 11) rfl
    have r0 := zB6.cell (j := 0) rfl
    have y0 := zB6.frozen 0
    have r1 := zB6.cell (j := 1) rfl
    have y1 := zB6.frozen 1
    have r2 := zB6.cell (j := 2) rfl
    have y2 := zB6.frozen 2
    have r3 := zB6.cell (j := 3) rfl
    have y3 := zB6.frozen 3
    have r4 := zB6.cell (j := 4) rfl
    have y4 := zB6.frozen 4
    have r5 := zB6.cell (j := 5) rfl
    have y5 := zB6.frozen 5
    have r6 := zB6.cell (j := 6) rfl
    have y6 := zB6.frozen 6
    have r7 := zB6.cell (j := 7) rfl
    have y7 := zB6.frozen 7
    have r8 := zB6.cell (j := 8) rfl
    have y8 := zB6.frozen 8
    have r9 := zB6.cell (j := 9) rfl
    have y9 := zB6.frozen 9
    have r10 := zB6.cell (j := 10) rfl
    have y10 := zB6.frozen 10
    have r11 := zB6.cell (j := 11) rfl
    have y11 := zB6.frozen 11
    go_wp2_with fail
    have o5 := OwnS.turn hlog tT (by intro x hx hm; simp at hm; have := (k5 x hx).2; omega)
    have o8 := OwnS.turn (OwnS.keep u2 (fun b hb => m3.block b (u2.in b hb).2)) t6 (by intro x hx hm; simp at hm hx; omega)
    have o9 := OwnS.turn (OwnS.keep u3 (fun b hb => m3.block b (u3.in b hb).2)) t6 (by intro x hx hm; simp at hm hx; omega)
    have om := OwnS.turn m1 t6 (by intro x hx hm; simp at hm; have := (is x hx).1; omega)
    have bw6 : Below w.heap.size w W6 := bw3.trans (tT.below (by simp; omega) (by omega))
    refine bodyPost_ret (v := .agg #[.int .i64 0, .int .i64 i, .int .i64 s, .int .i64 (n.View + 1), .bool false, .int .i64 n.Last, .slice B5 n.Log.length d5, .int .i64 n.Commit, .slice none 0 0, .slice (some ⟨g, 0, none⟩) s s, .slice (some ⟨h, 0, none⟩) s s, .slice As (changesL i s (v + 1)).length cs]) (by simp [results, Tryz.results189, go_sem, r0, r1, r2, r3, r4, r5, r6, r7, r8, r9, r10, r11]) rfl ?_
    show LaidRR _ _ _ _
    rw [show timeoutR n i s v = askR n i s ((v : Int) + 1) from if_neg HS1.out, show timeoutM i s v = changesL i s (v + 1) from if_neg HS1.out, ← hf.view]
    refine ⟨B5, d5, none, 0, some ⟨g, 0, none⟩, s, some ⟨h, 0, none⟩, s, As, cs, f5, [], [g], [h], fs, ?_, ⟨?_, ownS_nil _ _ _, ?_, ?_, ?_, ?_⟩, ?_⟩
    · simp only [askR, aloneL_len, List.length_replicate]; rw [hf.id, hf.size]; rfl
    · refine past_of (lo := w.heap.size + 2) o5 (by omega) (by omega) ?_
      repeat (first | (with_reducible exact Past.refl _ _) | (with_reducible refine Past.set ?_ (by omega) _))
    · simp only [askR, aloneL_len]
      refine past_of (lo := w.heap.size + 2) o8 (by omega) (by omega) ?_
      repeat (first | (with_reducible exact Past.refl _ _) | (with_reducible refine Past.set ?_ (by omega) _))
    · simp only [askR, List.length_replicate]
      refine past_of (lo := w.heap.size + 2) o9 (by omega) (by omega) ?_
      repeat (first | (with_reducible exact Past.refl _ _) | (with_reducible refine Past.set ?_ (by omega) _))
    · refine past_of (lo := w.heap.size + 2) om (by omega) (by omega) ?_
      repeat (first | (with_reducible exact Past.refl _ _) | (with_reducible refine Past.set ?_ (by omega) _))
    · have k : ∀ x, x ∈ f5 → x < w2.heap.size := fun x hx => (k5 x hx).2
      have k' : ∀ x, x ∈ fs → w4.heap.size ≤ x := fun x hx => (is x hx).1
      refine List.nodup_append.2 ⟨nd5, List.nodup_cons.2 ⟨?_, List.nodup_cons.2 ⟨?_, m2⟩⟩, fun a ha c hc hac => ?_⟩
      · intro hm
        rcases List.mem_cons.1 hm with hm | hm
        · exact u4 hm
        · have := k' _ hm; omega
      · intro hm
        have := k' _ hm; omega
      · have h1 := k a ha
        rcases List.mem_cons.1 hc with hm | hm
        · omega
        · rcases List.mem_cons.1 hm with hm | hm
          · omega
          · have := k' _ hm; omega
    · repeat (first | (with_reducible assumption) | (with_reducible exact Below.refl _ _) | (with_reducible apply below_alloc) | (with_reducible apply below_drewN) | (with_reducible apply Below.drew) | (with_reducible refine below_set ?_ (by dsimp only; omega) _) | (with_reducible refine below_trans ?_ (by assumption)))
theorem sTimeoutReplica_c (n : SReplica) (A5 : Option Addr) (c5 : Nat) (A7 : Option Addr) (c7 : Nat) (A8 : Option Addr) (c8 : Nat) (A9 : Option Addr) (c9 : Nat) (w : World) (h5 : RdS kEntry w A5 c5 n.Log) (h7 : RdS kInt w A7 c7 n.Oks) (h8 : RdS kBool w A8 c8 n.Asks) (h9 : RdS kDoer w A9 c9 n.Doers) :
    Calls Tryz.prog 189 #[.agg #[.int .i64 n.Id, .int .i64 n.Size, .int .i64 n.View, .bool n.Normal, .int .i64 n.Last, .slice A5 n.Log.length c5, .int .i64 n.Commit, .slice A7 n.Oks.length c7, .slice A8 n.Asks.length c8, .slice A9 n.Doers.length c9]] w fun r w' => LaidRR (timeoutX n) w r w' := by
  cases q : (repF n != 0) with
  | true => rw [show timeoutX n = ⟨repF n, zReplica, []⟩ by unfold timeoutX; rw [q, if_pos rfl]]; exact sTimeout_bad n _ _ _ _ _ _ _ _ w h5 h7 h8 h9 q
  | false =>
    cases hv : (n.View == 200) with
    | true => rw [show timeoutX n = ⟨2, zReplica, []⟩ by unfold timeoutX; rw [q, hv, if_neg (by simp), if_pos rfl]]; exact sTimeout_max n _ _ _ _ _ _ _ _ w h5 h7 h8 h9 q hv
    | false => rw [show timeoutX n = ⟨0, timeoutR n n.Id.toNat n.Size.toNat n.View.toNat, timeoutM n.Id.toNat n.Size.toNat n.View.toNat⟩ by unfold timeoutX; rw [q, hv, if_neg (by simp), if_neg (by simp)]]; exact sTimeout_did n _ _ _ _ _ _ _ _ w h5 h7 h8 h9 q hv
end Go.Proofs.YtdjfehjddfbbjaaGreat
