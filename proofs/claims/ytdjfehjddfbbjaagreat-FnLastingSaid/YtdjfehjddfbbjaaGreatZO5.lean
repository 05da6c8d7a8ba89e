/- The reference's BeatReplica (written by gO5.py, own work). -/
import Derived.Test.YtdjfehjddfbbjaaGreatZO4
import Derived.Test.YtdjfehjddfbbjaaGreatZR
import Derived.Test.YtdjfehjddfbbjaaGreatZL
set_option linter.unusedVariables false
set_option linter.unusedSimpArgs false
namespace Go.Proofs.YtdjfehjddfbbjaaGreat
open Go Go.RowKit Mk
set_option maxRecDepth 100000 in
set_option maxHeartbeats 4000000 in
theorem sBeat_bad (n : SReplica) (A5 : Option Addr) (c5 : Nat) (A7 : Option Addr) (c7 : Nat) (A8 : Option Addr) (c8 : Nat) (A9 : Option Addr) (c9 : Nat) (w : World) (h5 : RdS kEntry w A5 c5 n.Log) (h7 : RdS kInt w A7 c7 n.Oks) (h8 : RdS kBool w A8 c8 n.Asks) (h9 : RdS kDoer w A9 c9 n.Doers) (q : (repF n != 0) = true) :
    Calls Tryz.prog 16 #[.agg #[.int .i64 n.Id, .int .i64 n.Size, .int .i64 n.View, .bool n.Normal, .int .i64 n.Last, .slice A5 n.Log.length c5, .int .i64 n.Commit, .slice A7 n.Oks.length c7, .slice A8 n.Asks.length c8, .slice A9 n.Doers.length c9]] w fun r w' => LaidRR ⟨repF n, zReplica, []⟩ w r w' := by
  have hat := boxReplica w n 29 h5 h7 h8 h9
  have ba : Below (w.alloc (.cells #[.int .i64 n.Id, .int .i64 n.Size, .int .i64 n.View, .bool n.Normal, .int .i64 n.Last, .slice A5 n.Log.length c5, .int .i64 n.Commit, .slice A7 n.Oks.length c7, .slice A8 n.Asks.length c8, .slice A9 n.Doers.length c9] 29)).heap.size (w.alloc (.cells #[.int .i64 n.Id, .int .i64 n.Size, .int .i64 n.View, .bool n.Normal, .int .i64 n.Last, .slice A5 n.Log.length c5, .int .i64 n.Commit, .slice A7 n.Oks.length c7, .slice A8 n.Asks.length c8, .slice A9 n.Doers.length c9] 29)) ((w.alloc (.cells #[.int .i64 n.Id, .int .i64 n.Size, .int .i64 n.View, .bool n.Normal, .int .i64 n.Last, .slice A5 n.Log.length c5, .int .i64 n.Commit, .slice A7 n.Oks.length c7, .slice A8 n.Asks.length c8, .slice A9 n.Doers.length c9] 29)).alloc (.cells #[.int .i64 0, .int .i64 0, .int .i64 0, .int .i64 0, .bool false, .int .i64 0, .slice none 0 0, .int .i64 0, .slice none 0 0, .slice none 0 0, .slice none 0 0, .slice none 0 0] 33)) := below_alloc (Below.refl _ _) _
  have HLD := Lib.hid (l9Fault_c n _ _ (hat.below ba))
  go_enter Tryz.func16, Tryz.ntmps16
  go_wp2_with fail
  refine HLD.out.mono ?_
  rintro e w1 ⟨rfl, hb1⟩
  have bw1 : Below w.heap.size w w1 := below_trans (below_alloc (below_alloc (Below.refl _ _) _) _) hb1
  have nB : Blk w1 w.heap.size 29 [.int .i64 n.Id, .int .i64 n.Size, .int .i64 n.View, .bool n.Normal, .int .i64 n.Last, .slice A5 n.Log.length c5, .int .i64 n.Commit, .slice A7 n.Oks.length c7, .slice A8 n.Asks.length c8, .slice A9 n.Doers.length c9] := ((blk_alloc w [.int .i64 n.Id, .int .i64 n.Size, .int .i64 n.View, .bool n.Normal, .int .i64 n.Last, .slice A5 n.Log.length c5, .int .i64 n.Commit, .slice A7 n.Oks.length c7, .slice A8 n.Asks.length c8, .slice A9 n.Doers.length c9] 29).below (below_alloc (Below.refl _ _) _)).below hb1
  have zB : Blk w1 (w.heap.size + 1) 33 [.int .i64 0, .int .i64 0, .int .i64 0, .int .i64 0, .bool false, .int .i64 0, .slice none 0 0, .int .i64 0, .slice none 0 0, .slice none 0 0, .slice none 0 0, .slice none 0 0] := by
    have := (blk_alloc (w.alloc (.cells #[.int .i64 n.Id, .int .i64 n.Size, .int .i64 n.View, .bool n.Normal, .int .i64 n.Last, .slice A5 n.Log.length c5, .int .i64 n.Commit, .slice A7 n.Oks.length c7, .slice A8 n.Asks.length c8, .slice A9 n.Doers.length c9] 29)) [.int .i64 0, .int .i64 0, .int .i64 0, .int .i64 0, .bool false, .int .i64 0, .slice none 0 0, .int .i64 0, .slice none 0 0, .slice none 0 0, .slice none 0 0, .slice none 0 0] 33).below hb1
    simpa only [Deep.nblk_alloc] using this
  have lo1 : w.heap.size + 2 ≤ w1.heap.size := by have := hb1.size; simp only [Deep.nblk_alloc] at this; omega
  clear hb1 ba hat HLD
  go_wp2_with fail
  refine (l9Bad_c _ w1).mono ?_
  rintro r w9 ⟨rfl, hb9⟩
  have zB9 := zB.below hb9
  have bw9 := below_trans bw1 hb9
  have r0 := zB9.cell (j := 0) rfl
  have y0 := zB9.frozen 0
  have r1 := zB9.cell (j := 1) rfl
  have y1 := zB9.frozen 1
  have r2 := zB9.cell (j := 2) rfl
  have y2 := zB9.frozen 2
  have r3 := zB9.cell (j := 3) rfl
  have y3 := zB9.frozen 3
  have r4 := zB9.cell (j := 4) rfl
  have y4 := zB9.frozen 4
  have r5 := zB9.cell (j := 5) rfl
  have y5 := zB9.frozen 5
  have r6 := zB9.cell (j := 6) rfl
  have y6 := zB9.frozen 6
  have r7 := zB9.cell (j := 7) rfl
  have y7 := zB9.frozen 7
  have r8 := zB9.cell (j := 8) rfl
  have y8 := zB9.frozen 8
  have r9 := zB9.cell (j := 9) rfl
  have y9 := zB9.frozen 9
  have r10 := zB9.cell (j := 10) rfl
  have y10 := zB9.frozen 10
  have r11 := zB9.cell (j := 11) rfl
  have y11 := zB9.frozen 11
  clear zB zB9
  go_wp2_with fail
  refine bodyPost_ret (v := .agg #[.int .i64 (repF n), .int .i64 0, .int .i64 0, .int .i64 0, .bool false, .int .i64 0, .slice none 0 0, .int .i64 0, .slice none 0 0, .slice none 0 0, .slice none 0 0, .slice none 0 0]) (by simp [results, Tryz.results16, go_sem, r0, r1, r2, r3, r4, r5, r6, r7, r8, r9, r10, r11]) rfl (LaidRR.bad _ ?_)
  repeat (first | (with_reducible assumption) | (with_reducible exact Below.refl _ _) | (with_reducible apply below_alloc) | (with_reducible apply below_drewN) | (with_reducible apply Below.drew) | (with_reducible refine below_set ?_ (by dsimp only; omega) _) | (with_reducible refine below_trans ?_ (by assumption)))
set_option maxRecDepth 100000 in
set_option maxHeartbeats 4000000 in
theorem sBeat_idle (n : SReplica) (A5 : Option Addr) (c5 : Nat) (A7 : Option Addr) (c7 : Nat) (A8 : Option Addr) (c8 : Nat) (A9 : Option Addr) (c9 : Nat) (w : World) (h5 : RdS kEntry w A5 c5 n.Log) (h7 : RdS kInt w A7 c7 n.Oks) (h8 : RdS kBool w A8 c8 n.Asks) (h9 : RdS kDoer w A9 c9 n.Doers) (q : (repF n != 0) = false) (i s v : Nat) (hN : NumsRep n i s v) (q1 : n.Normal = true) (q2 : isPrim n = false) :
    Calls Tryz.prog 16 #[.agg #[.int .i64 n.Id, .int .i64 n.Size, .int .i64 n.View, .bool n.Normal, .int .i64 n.Last, .slice A5 n.Log.length c5, .int .i64 n.Commit, .slice A7 n.Oks.length c7, .slice A8 n.Asks.length c8, .slice A9 n.Doers.length c9]] w fun r w' => LaidRR ⟨0, n, []⟩ w r w' := by
  have QN := Lib.hid q1
  clear q1
  have hat := boxReplica w n 29 h5 h7 h8 h9
  have ba : Below (w.alloc (.cells #[.int .i64 n.Id, .int .i64 n.Size, .int .i64 n.View, .bool n.Normal, .int .i64 n.Last, .slice A5 n.Log.length c5, .int .i64 n.Commit, .slice A7 n.Oks.length c7, .slice A8 n.Asks.length c8, .slice A9 n.Doers.length c9] 29)).heap.size (w.alloc (.cells #[.int .i64 n.Id, .int .i64 n.Size, .int .i64 n.View, .bool n.Normal, .int .i64 n.Last, .slice A5 n.Log.length c5, .int .i64 n.Commit, .slice A7 n.Oks.length c7, .slice A8 n.Asks.length c8, .slice A9 n.Doers.length c9] 29)) ((w.alloc (.cells #[.int .i64 n.Id, .int .i64 n.Size, .int .i64 n.View, .bool n.Normal, .int .i64 n.Last, .slice A5 n.Log.length c5, .int .i64 n.Commit, .slice A7 n.Oks.length c7, .slice A8 n.Asks.length c8, .slice A9 n.Doers.length c9] 29)).alloc (.cells #[.int .i64 0, .int .i64 0, .int .i64 0, .int .i64 0, .bool false, .int .i64 0, .slice none 0 0, .int .i64 0, .slice none 0 0, .slice none 0 0, .slice none 0 0, .slice none 0 0] 33)) := below_alloc (Below.refl _ _) _
  have HLD := Lib.hid (l9Fault_c n _ _ (hat.below ba))
  go_enter Tryz.func16, Tryz.ntmps16
  go_wp2_with fail
  refine HLD.out.mono ?_
  rintro e w1 ⟨rfl, hb1⟩
  have bw1 : Below w.heap.size w w1 := below_trans (below_alloc (below_alloc (Below.refl _ _) _) _) hb1
  have nB : Blk w1 w.heap.size 29 [.int .i64 n.Id, .int .i64 n.Size, .int .i64 n.View, .bool n.Normal, .int .i64 n.Last, .slice A5 n.Log.length c5, .int .i64 n.Commit, .slice A7 n.Oks.length c7, .slice A8 n.Asks.length c8, .slice A9 n.Doers.length c9] := ((blk_alloc w [.int .i64 n.Id, .int .i64 n.Size, .int .i64 n.View, .bool n.Normal, .int .i64 n.Last, .slice A5 n.Log.length c5, .int .i64 n.Commit, .slice A7 n.Oks.length c7, .slice A8 n.Asks.length c8, .slice A9 n.Doers.length c9] 29).below (below_alloc (Below.refl _ _) _)).below hb1
  have zB : Blk w1 (w.heap.size + 1) 33 [.int .i64 0, .int .i64 0, .int .i64 0, .int .i64 0, .bool false, .int .i64 0, .slice none 0 0, .int .i64 0, .slice none 0 0, .slice none 0 0, .slice none 0 0, .slice none 0 0] := by
    have := (blk_alloc (w.alloc (.cells #[.int .i64 n.Id, .int .i64 n.Size, .int .i64 n.View, .bool n.Normal, .int .i64 n.Last, .slice A5 n.Log.length c5, .int .i64 n.Commit, .slice A7 n.Oks.length c7, .slice A8 n.Asks.length c8, .slice A9 n.Doers.length c9] 29)) [.int .i64 0, .int .i64 0, .int .i64 0, .int .i64 0, .bool false, .int .i64 0, .slice none 0 0, .int .i64 0, .slice none 0 0, .slice none 0 0, .slice none 0 0, .slice none 0 0] 33).below hb1
    simpa only [Deep.nblk_alloc] using this
  have lo1 : w.heap.size + 2 ≤ w1.heap.size := by have := hb1.size; simp only [Deep.nblk_alloc] at this; omega
  clear hb1 ba hat HLD
  have hsm := hN.small
  obtain ⟨e1, e2, e3, l1, l2, l3, l4, l5, l6, l7, l8⟩ := hN
  have E1 := Lib.hid e1
  have E2 := Lib.hid e2
  have E3 := Lib.hid e3
  have L5 := Lib.hid l5
  have hv0 : 0 ≤ n.View := by omega
  have hs1 : 1 ≤ n.Size := by omega
  clear e1 e2 e3 l5 l6 l8
  have HFU := Lib.hid q
  have n0 := nB.cell (j := 0) rfl
  have n1 := nB.cell (j := 1) rfl
  have n2 := nB.cell (j := 2) rfl
  have n3 := nB.cell (j := 3) rfl
  have n4 := nB.cell (j := 4) rfl
  have n5 := nB.cell (j := 5) rfl
  have n6 := nB.cell (j := 6) rfl
  have n7 := nB.cell (j := 7) rfl
  have n8 := nB.cell (j := 8) rfl
  have n9 := nB.cell (j := 9) rfl
  go_wp2_with fail
  clear n0 n1 n2 n3 n4 n5 n6 n7 n8 n9 q
  refine (l9Copy_c n _ _ _ _ _ _ _ _ w1 (h5.below bw1) (h7.below bw1) (h8.below bw1) (h9.below bw1) hsm).mono ?_
  rintro r w3 ⟨B5, d5, B7, d7, B8, d8, B9, d9, f5, f7, f8, f9, rfl, ⟨o5, o7, o8, o9, nd⟩, hb3⟩
  have s3 := hb3.size
  have k5 := o5.in
  have k7 := o7.in
  have k8 := o8.in
  have k9 := o9.in
  go_upto_region 5 with fail
  refine at_world (fun W => Blk W w3.heap.size 33 [.int .i64 0, .int .i64 n.Id, .int .i64 n.Size, .int .i64 n.View, .bool n.Normal, .int .i64 n.Last, .slice B5 n.Log.length d5, .int .i64 n.Commit, .slice B7 n.Oks.length d7, .slice B8 n.Asks.length d8, .slice B9 n.Doers.length d9, .slice none 0 0] ∧ Below w3.heap.size w3 W ∧ w3.heap.size < W.heap.size) ⟨blk_alloc w3 [.int .i64 0, .int .i64 n.Id, .int .i64 n.Size, .int .i64 n.View, .bool n.Normal, .int .i64 n.Last, .slice B5 n.Log.length d5, .int .i64 n.Commit, .slice B7 n.Oks.length d7, .slice B8 n.Asks.length d8, .slice B9 n.Doers.length d9, .slice none 0 0] _, below_alloc (Below.refl _ _) _, by rw [Deep.nblk_alloc]; omega⟩ ?_
  rintro W4 ⟨rB, b4, s4⟩
  have b24 := below_trans hb3 b4
  replace nB := nB.below b24
  replace zB := zB.below b24
  replace o5 := OwnS.bel' o5 b4
  replace o7 := OwnS.bel' o7 b4
  replace o8 := OwnS.bel' o8 b4
  replace o9 := OwnS.bel' o9 b4
  have bw4 := below_trans bw1 b24
  clear hb3 b4 b24
  have lnb := nB.lt
  have hat4 : At kReplica W4 ⟨w.heap.size, 0, none⟩ n := ⟨_, nB.lies, kReplica_mk w n h5 h7 h8 h9 |> fun hh => kReplica.rd_below hh bw4⟩
  have n3 := nB.cell (j := 3) rfl
  rw [QN.out] at n3
  have HP := Lib.hid (l9Primary_c n ⟨w.heap.size, 0, none⟩ W4 hat4 hv0 hs1)
  rw [q2] at HP
  clear q2
  go_wp2_with fail
  refine HP.out.mono ?_
  rintro e W5 ⟨rfl, m, hw5⟩
  have b5 : Below W4.heap.size W4 W5 := by rw [hw5]; exact below_drewN (Below.refl _ _) _
  clear hw5 n3
  replace o5 := OwnS.bel' o5 b5
  replace o7 := OwnS.bel' o7 b5
  replace o8 := OwnS.bel' o8 b5
  replace o9 := OwnS.bel' o9 b5
  replace zB := zB.below b5
  replace rB := rB.below b5
  have bwF := below_trans bw4 b5
  have s5 := b5.size
  have os : OwnS kMail 51 w1.heap.size W5 [] (.slice none 0 0) ([] : List SMail) := ownS_nil _ _ _
  have nn : (f5 ++ (f7 ++ (f8 ++ (f9 ++ [])))).Nodup := by simpa using nd
  have u0 := rB.cell (j := 0) rfl
  have u1 := rB.cell (j := 1) rfl
  have u2 := rB.cell (j := 2) rfl
  have u3 := rB.cell (j := 3) rfl
  have u4 := rB.cell (j := 4) rfl
  have u5 := rB.cell (j := 5) rfl
  have u6 := rB.cell (j := 6) rfl
  have u7 := rB.cell (j := 7) rfl
  have u8 := rB.cell (j := 8) rfl
  have u9 := rB.cell (j := 9) rfl
  have u10 := rB.cell (j := 10) rfl
  have u11 := rB.cell (j := 11) rfl
  have r0 := zB.cell (j := 0) rfl
  have y0 := zB.frozen 0
  have r1 := zB.cell (j := 1) rfl
  have y1 := zB.frozen 1
  have r2 := zB.cell (j := 2) rfl
  have y2 := zB.frozen 2
  have r3 := zB.cell (j := 3) rfl
  have y3 := zB.frozen 3
  have r4 := zB.cell (j := 4) rfl
  have y4 := zB.frozen 4
  have r5 := zB.cell (j := 5) rfl
  have y5 := zB.frozen 5
  have r6 := zB.cell (j := 6) rfl
  have y6 := zB.frozen 6
  have r7 := zB.cell (j := 7) rfl
  have y7 := zB.frozen 7
  have r8 := zB.cell (j := 8) rfl
  have y8 := zB.frozen 8
  have r9 := zB.cell (j := 9) rfl
  have y9 := zB.frozen 9
  have r10 := zB.cell (j := 10) rfl
  have y10 := zB.frozen 10
  have r11 := zB.cell (j := 11) rfl
  have y11 := zB.frozen 11
  clear zB rB
  go_wp2_with fail
  refine bodyPost_ret (v := .agg #[.int .i64 0, .int .i64 n.Id, .int .i64 n.Size, .int .i64 n.View, .bool n.Normal, .int .i64 n.Last, .slice B5 n.Log.length d5, .int .i64 n.Commit, .slice B7 n.Oks.length d7, .slice B8 n.Asks.length d8, .slice B9 n.Doers.length d9, .slice none 0 0]) (by simp [results, Tryz.results16, go_sem, r0, r1, r2, r3, r4, r5, r6, r7, r8, r9, r10, r11]) rfl ?_
  refine ⟨B5, d5, B7, d7, B8, d8, B9, d9, none, 0, f5, f7, f8, f9, [], rfl, ⟨?_, ?_, ?_, ?_, ?_, nn⟩, ?_⟩
  · refine OwnS.past (lo := w.heap.size + 2) (w := W5) (o5.lift (B' := w.heap.size + 2) (fun y hy => by have := (o5.in y hy).1; omega)) ?_ (by omega) (by omega)
    repeat (first | (with_reducible exact Past.refl _ _) | (with_reducible refine Past.set ?_ (by omega) _))
  · refine OwnS.past (lo := w.heap.size + 2) (w := W5) (o7.lift (B' := w.heap.size + 2) (fun y hy => by have := (o7.in y hy).1; omega)) ?_ (by omega) (by omega)
    repeat (first | (with_reducible exact Past.refl _ _) | (with_reducible refine Past.set ?_ (by omega) _))
  · refine OwnS.past (lo := w.heap.size + 2) (w := W5) (o8.lift (B' := w.heap.size + 2) (fun y hy => by have := (o8.in y hy).1; omega)) ?_ (by omega) (by omega)
    repeat (first | (with_reducible exact Past.refl _ _) | (with_reducible refine Past.set ?_ (by omega) _))
  · refine OwnS.past (lo := w.heap.size + 2) (w := W5) (o9.lift (B' := w.heap.size + 2) (fun y hy => by have := (o9.in y hy).1; omega)) ?_ (by omega) (by omega)
    repeat (first | (with_reducible exact Past.refl _ _) | (with_reducible refine Past.set ?_ (by omega) _))
  · refine OwnS.past (lo := w.heap.size + 2) (w := W5) (os.lift (B' := w.heap.size + 2) (fun y hy => by have := (os.in y hy).1; omega)) ?_ (by omega) (by omega)
    repeat (first | (with_reducible exact Past.refl _ _) | (with_reducible refine Past.set ?_ (by omega) _))
  · repeat (first | (with_reducible assumption) | (with_reducible exact Below.refl _ _) | (with_reducible apply below_alloc) | (with_reducible apply below_drewN) | (with_reducible apply Below.drew) | (with_reducible refine below_set ?_ (by dsimp only; omega) _) | (with_reducible refine below_trans ?_ (by assumption)))
set_option maxRecDepth 100000 in
set_option maxHeartbeats 4000000 in
theorem sBeat_few (n : SReplica) (A5 : Option Addr) (c5 : Nat) (A7 : Option Addr) (c7 : Nat) (A8 : Option Addr) (c8 : Nat) (A9 : Option Addr) (c9 : Nat) (w : World) (h5 : RdS kEntry w A5 c5 n.Log) (h7 : RdS kInt w A7 c7 n.Oks) (h8 : RdS kBool w A8 c8 n.Asks) (h9 : RdS kDoer w A9 c9 n.Doers) (q : (repF n != 0) = false) (i s v : Nat) (hN : NumsRep n i s v) (q1 : n.Normal = false) (qa : askedB n s = false) :
    Calls Tryz.prog 16 #[.agg #[.int .i64 n.Id, .int .i64 n.Size, .int .i64 n.View, .bool n.Normal, .int .i64 n.Last, .slice A5 n.Log.length c5, .int .i64 n.Commit, .slice A7 n.Oks.length c7, .slice A8 n.Asks.length c8, .slice A9 n.Doers.length c9]] w fun r w' => LaidRR ⟨0, n, changesL i s v⟩ w r w' := by
  have QN := Lib.hid q1
  clear q1
  have hat := boxReplica w n 29 h5 h7 h8 h9
  have ba : Below (w.alloc (.cells #[.int .i64 n.Id, .int .i64 n.Size, .int .i64 n.View, .bool n.Normal, .int .i64 n.Last, .slice A5 n.Log.length c5, .int .i64 n.Commit, .slice A7 n.Oks.length c7, .slice A8 n.Asks.length c8, .slice A9 n.Doers.length c9] 29)).heap.size (w.alloc (.cells #[.int .i64 n.Id, .int .i64 n.Size, .int .i64 n.View, .bool n.Normal, .int .i64 n.Last, .slice A5 n.Log.length c5, .int .i64 n.Commit, .slice A7 n.Oks.length c7, .slice A8 n.Asks.length c8, .slice A9 n.Doers.length c9] 29)) ((w.alloc (.cells #[.int .i64 n.Id, .int .i64 n.Size, .int .i64 n.View, .bool n.Normal, .int .i64 n.Last, .slice A5 n.Log.length c5, .int .i64 n.Commit, .slice A7 n.Oks.length c7, .slice A8 n.Asks.length c8, .slice A9 n.Doers.length c9] 29)).alloc (.cells #[.int .i64 0, .int .i64 0, .int .i64 0, .int .i64 0, .bool false, .int .i64 0, .slice none 0 0, .int .i64 0, .slice none 0 0, .slice none 0 0, .slice none 0 0, .slice none 0 0] 33)) := below_alloc (Below.refl _ _) _
  have HLD := Lib.hid (l9Fault_c n _ _ (hat.below ba))
  go_enter Tryz.func16, Tryz.ntmps16
  go_wp2_with fail
  refine HLD.out.mono ?_
  rintro e w1 ⟨rfl, hb1⟩
  have bw1 : Below w.heap.size w w1 := below_trans (below_alloc (below_alloc (Below.refl _ _) _) _) hb1
  have nB : Blk w1 w.heap.size 29 [.int .i64 n.Id, .int .i64 n.Size, .int .i64 n.View, .bool n.Normal, .int .i64 n.Last, .slice A5 n.Log.length c5, .int .i64 n.Commit, .slice A7 n.Oks.length c7, .slice A8 n.Asks.length c8, .slice A9 n.Doers.length c9] := ((blk_alloc w [.int .i64 n.Id, .int .i64 n.Size, .int .i64 n.View, .bool n.Normal, .int .i64 n.Last, .slice A5 n.Log.length c5, .int .i64 n.Commit, .slice A7 n.Oks.length c7, .slice A8 n.Asks.length c8, .slice A9 n.Doers.length c9] 29).below (below_alloc (Below.refl _ _) _)).below hb1
  have zB : Blk w1 (w.heap.size + 1) 33 [.int .i64 0, .int .i64 0, .int .i64 0, .int .i64 0, .bool false, .int .i64 0, .slice none 0 0, .int .i64 0, .slice none 0 0, .slice none 0 0, .slice none 0 0, .slice none 0 0] := by
    have := (blk_alloc (w.alloc (.cells #[.int .i64 n.Id, .int .i64 n.Size, .int .i64 n.View, .bool n.Normal, .int .i64 n.Last, .slice A5 n.Log.length c5, .int .i64 n.Commit, .slice A7 n.Oks.length c7, .slice A8 n.Asks.length c8, .slice A9 n.Doers.length c9] 29)) [.int .i64 0, .int .i64 0, .int .i64 0, .int .i64 0, .bool false, .int .i64 0, .slice none 0 0, .int .i64 0, .slice none 0 0, .slice none 0 0, .slice none 0 0, .slice none 0 0] 33).below hb1
    simpa only [Deep.nblk_alloc] using this
  have lo1 : w.heap.size + 2 ≤ w1.heap.size := by have := hb1.size; simp only [Deep.nblk_alloc] at this; omega
  clear hb1 ba hat HLD
  have hsm := hN.small
  obtain ⟨e1, e2, e3, l1, l2, l3, l4, l5, l6, l7, l8⟩ := hN
  have E1 := Lib.hid e1
  have E2 := Lib.hid e2
  have E3 := Lib.hid e3
  have L5 := Lib.hid l5
  have hv0 : 0 ≤ n.View := by omega
  have hs1 : 1 ≤ n.Size := by omega
  clear e1 e2 e3 l5 l6 l8
  have HFU := Lib.hid q
  have n0 := nB.cell (j := 0) rfl
  have n1 := nB.cell (j := 1) rfl
  have n2 := nB.cell (j := 2) rfl
  have n3 := nB.cell (j := 3) rfl
  have n4 := nB.cell (j := 4) rfl
  have n5 := nB.cell (j := 5) rfl
  have n6 := nB.cell (j := 6) rfl
  have n7 := nB.cell (j := 7) rfl
  have n8 := nB.cell (j := 8) rfl
  have n9 := nB.cell (j := 9) rfl
  go_wp2_with fail
  clear n0 n1 n2 n3 n4 n5 n6 n7 n8 n9 q
  refine (l9Copy_c n _ _ _ _ _ _ _ _ w1 (h5.below bw1) (h7.below bw1) (h8.below bw1) (h9.below bw1) hsm).mono ?_
  rintro r w3 ⟨B5, d5, B7, d7, B8, d8, B9, d9, f5, f7, f8, f9, rfl, ⟨o5, o7, o8, o9, nd⟩, hb3⟩
  have s3 := hb3.size
  have k5 := o5.in
  have k7 := o7.in
  have k8 := o8.in
  have k9 := o9.in
  go_upto_region 5 with fail
  refine at_world (fun W => Blk W w3.heap.size 33 [.int .i64 0, .int .i64 n.Id, .int .i64 n.Size, .int .i64 n.View, .bool n.Normal, .int .i64 n.Last, .slice B5 n.Log.length d5, .int .i64 n.Commit, .slice B7 n.Oks.length d7, .slice B8 n.Asks.length d8, .slice B9 n.Doers.length d9, .slice none 0 0] ∧ Below w3.heap.size w3 W ∧ w3.heap.size < W.heap.size) ⟨blk_alloc w3 [.int .i64 0, .int .i64 n.Id, .int .i64 n.Size, .int .i64 n.View, .bool n.Normal, .int .i64 n.Last, .slice B5 n.Log.length d5, .int .i64 n.Commit, .slice B7 n.Oks.length d7, .slice B8 n.Asks.length d8, .slice B9 n.Doers.length d9, .slice none 0 0] _, below_alloc (Below.refl _ _) _, by rw [Deep.nblk_alloc]; omega⟩ ?_
  rintro W4 ⟨rB, b4, s4⟩
  have b24 := below_trans hb3 b4
  replace nB := nB.below b24
  replace zB := zB.below b24
  replace o5 := OwnS.bel' o5 b4
  replace o7 := OwnS.bel' o7 b4
  replace o8 := OwnS.bel' o8 b4
  replace o9 := OwnS.bel' o9 b4
  have bw4 := below_trans bw1 b24
  clear hb3 b4 b24
  have lnb := nB.lt
  have hat4 : At kReplica W4 ⟨w.heap.size, 0, none⟩ n := ⟨_, nB.lies, kReplica_mk w n h5 h7 h8 h9 |> fun hh => kReplica.rd_below hh bw4⟩
  have n3 := nB.cell (j := 3) rfl
  rw [QN.out] at n3
  have l5' : n.Asks.length ≤ 1000 := by rw [L5.out, QN.out]; simp; omega
  have n0 := nB.cell (j := 0) rfl
  have n1 := nB.cell (j := 1) rfl
  have n2 := nB.cell (j := 2) rfl
  rw [E1.out] at n0
  rw [E2.out] at n1
  rw [E3.out] at n2
  have HC := Lib.hid (l9Changes_c W4 ⟨w.heap.size, 0, none⟩ i s v n0 (by simpa using n1) (by simpa using n2) l2)
  have HT := Lib.hid (fun (W : World) (hW : Below W4.heap.size W4 W) => l9Tell_c n ⟨w.heap.size, 0, none⟩ W (hat4.below hW) hv0 hs1 (by omega))
  clear n0 n1 n2
  go_wp2_with fail
  refine HC.out.mono ?_
  rintro r W5 ⟨As, cs, fs, rfl, om, nm, b5⟩
  have im := om.in
  clear n3 HC
  replace o5 := OwnS.bel' o5 b5
  replace o7 := OwnS.bel' o7 b5
  replace o8 := OwnS.bel' o8 b5
  replace o9 := OwnS.bel' o9 b5
  replace zB := zB.below b5
  replace rB := rB.below b5
  replace nB := nB.below b5
  have bw5 := below_trans bw4 b5
  have s5 := b5.size
  have q11 := rB.cell (j := 11) rfl
  have z11 := rB.frozen 11
  have lrb := rB.lt
  go_upto_region 7 with fail
  have rB2 := rB.set0 11 (.slice As (changesL i s v).length cs)
  simp only [List.set_cons_zero, List.set_cons_succ] at rB2
  refine at_world (fun W => Blk W w3.heap.size 33 [.int .i64 0, .int .i64 n.Id, .int .i64 n.Size, .int .i64 n.View, .bool n.Normal, .int .i64 n.Last, .slice B5 n.Log.length d5, .int .i64 n.Commit, .slice B7 n.Oks.length d7, .slice B8 n.Asks.length d8, .slice B9 n.Doers.length d9, .slice As (changesL i s v).length cs] ∧ Turn [w3.heap.size] W5 W) ⟨rB2, (Turn.refl _ _).set (by simp) _⟩ ?_
  rintro W6 ⟨rB6, t6⟩
  clear rB rB2 q11 z11
  have s6 := t6.size
  replace o5 := o5.turn t6 (fun y hy h => by simp at h; have := k5 y hy; omega)
  replace o7 := o7.turn t6 (fun y hy h => by simp at h; have := k7 y hy; omega)
  replace o8 := o8.turn t6 (fun y hy h => by simp at h; have := k8 y hy; omega)
  replace o9 := o9.turn t6 (fun y hy h => by simp at h; have := k9 y hy; omega)
  replace om := om.turn t6 (fun y hy h => by simp at h; have := im y hy; omega)
  replace zB := zB.turn t6 (by simp; omega)
  replace nB := nB.turn t6 (by simp; omega)
  have b46 : Below w3.heap.size w3 w3 := Below.refl _ _
  have bw6 : Below w.heap.size w W6 := bw5.trans (t6.below (B := w.heap.size) (by intro y hy; simp at hy; omega) (by omega))
  have m1 := nB.cell (j := 1) rfl
  have m8 := nB.cell (j := 8) rfl
  rw [E2.out] at m1
  have HA := Lib.hid (l9Asked_c s n.Asks A8 c8 ⟨w.heap.size, 0, none⟩ W6 (by simpa using m1) (by simpa using m8) (h8.below bw6) l5' l2)
  have hqa : decide ((s : Int) / 2 + 1 ≤ ((truesN n.Asks : Nat) : Int)) = false := by rw [enough_eq]; exact qa
  rw [hqa] at HA
  clear hqa m1 m8 qa
  go_wp2_with fail
  refine HA.out.mono ?_
  rintro r W7 ⟨rfl, rfl⟩
  have os := om
  have nn : (f5 ++ (f7 ++ (f8 ++ (f9 ++ fs)))).Nodup := by
    rw [show f5 ++ (f7 ++ (f8 ++ (f9 ++ fs))) = (f5 ++ (f7 ++ (f8 ++ f9))) ++ fs by simp]
    refine List.nodup_append.2 ⟨nd, nm, fun x hx y hy e => ?_⟩
    have h1 := (im y hy).1
    simp only [List.mem_append] at hx
    rcases hx with h | h | h | h
    · have := (k5 x h).2; omega
    · have := (k7 x h).2; omega
    · have := (k8 x h).2; omega
    · have := (k9 x h).2; omega
  have bwF := bw6
  have u0 := rB6.cell (j := 0) rfl
  have u1 := rB6.cell (j := 1) rfl
  have u2 := rB6.cell (j := 2) rfl
  have u3 := rB6.cell (j := 3) rfl
  have u4 := rB6.cell (j := 4) rfl
  have u5 := rB6.cell (j := 5) rfl
  have u6 := rB6.cell (j := 6) rfl
  have u7 := rB6.cell (j := 7) rfl
  have u8 := rB6.cell (j := 8) rfl
  have u9 := rB6.cell (j := 9) rfl
  have u10 := rB6.cell (j := 10) rfl
  have u11 := rB6.cell (j := 11) rfl
  have r0 := zB.cell (j := 0) rfl
  have y0 := zB.frozen 0
  have r1 := zB.cell (j := 1) rfl
  have y1 := zB.frozen 1
  have r2 := zB.cell (j := 2) rfl
  have y2 := zB.frozen 2
  have r3 := zB.cell (j := 3) rfl
  have y3 := zB.frozen 3
  have r4 := zB.cell (j := 4) rfl
  have y4 := zB.frozen 4
  have r5 := zB.cell (j := 5) rfl
  have y5 := zB.frozen 5
  have r6 := zB.cell (j := 6) rfl
  have y6 := zB.frozen 6
  have r7 := zB.cell (j := 7) rfl
  have y7 := zB.frozen 7
  have r8 := zB.cell (j := 8) rfl
  have y8 := zB.frozen 8
  have r9 := zB.cell (j := 9) rfl
  have y9 := zB.frozen 9
  have r10 := zB.cell (j := 10) rfl
  have y10 := zB.frozen 10
  have r11 := zB.cell (j := 11) rfl
  have y11 := zB.frozen 11
  clear zB rB6
  go_wp2_with fail
  refine bodyPost_ret (v := .agg #[.int .i64 0, .int .i64 n.Id, .int .i64 n.Size, .int .i64 n.View, .bool n.Normal, .int .i64 n.Last, .slice B5 n.Log.length d5, .int .i64 n.Commit, .slice B7 n.Oks.length d7, .slice B8 n.Asks.length d8, .slice B9 n.Doers.length d9, .slice As (changesL i s v).length cs]) (by simp [results, Tryz.results16, go_sem, r0, r1, r2, r3, r4, r5, r6, r7, r8, r9, r10, r11]) rfl ?_
  refine ⟨B5, d5, B7, d7, B8, d8, B9, d9, As, cs, f5, f7, f8, f9, fs, rfl, ⟨?_, ?_, ?_, ?_, ?_, nn⟩, ?_⟩
  · refine OwnS.past (lo := w.heap.size + 2) (w := W6) (o5.lift (B' := w.heap.size + 2) (fun y hy => by have := (o5.in y hy).1; omega)) ?_ (by omega) (by omega)
    repeat (first | (with_reducible exact Past.refl _ _) | (with_reducible refine Past.set ?_ (by omega) _))
  · refine OwnS.past (lo := w.heap.size + 2) (w := W6) (o7.lift (B' := w.heap.size + 2) (fun y hy => by have := (o7.in y hy).1; omega)) ?_ (by omega) (by omega)
    repeat (first | (with_reducible exact Past.refl _ _) | (with_reducible refine Past.set ?_ (by omega) _))
  · refine OwnS.past (lo := w.heap.size + 2) (w := W6) (o8.lift (B' := w.heap.size + 2) (fun y hy => by have := (o8.in y hy).1; omega)) ?_ (by omega) (by omega)
    repeat (first | (with_reducible exact Past.refl _ _) | (with_reducible refine Past.set ?_ (by omega) _))
  · refine OwnS.past (lo := w.heap.size + 2) (w := W6) (o9.lift (B' := w.heap.size + 2) (fun y hy => by have := (o9.in y hy).1; omega)) ?_ (by omega) (by omega)
    repeat (first | (with_reducible exact Past.refl _ _) | (with_reducible refine Past.set ?_ (by omega) _))
  · refine OwnS.past (lo := w.heap.size + 2) (w := W6) (os.lift (B' := w.heap.size + 2) (fun y hy => by have := (os.in y hy).1; omega)) ?_ (by omega) (by omega)
    repeat (first | (with_reducible exact Past.refl _ _) | (with_reducible refine Past.set ?_ (by omega) _))
  · repeat (first | (with_reducible assumption) | (with_reducible exact Below.refl _ _) | (with_reducible apply below_alloc) | (with_reducible apply below_drewN) | (with_reducible apply Below.drew) | (with_reducible refine below_set ?_ (by dsimp only; omega) _) | (with_reducible refine below_trans ?_ (by assumption)))
set_option maxRecDepth 100000 in
set_option maxHeartbeats 4000000 in
theorem sBeat_many (n : SReplica) (A5 : Option Addr) (c5 : Nat) (A7 : Option Addr) (c7 : Nat) (A8 : Option Addr) (c8 : Nat) (A9 : Option Addr) (c9 : Nat) (w : World) (h5 : RdS kEntry w A5 c5 n.Log) (h7 : RdS kInt w A7 c7 n.Oks) (h8 : RdS kBool w A8 c8 n.Asks) (h9 : RdS kDoer w A9 c9 n.Doers) (q : (repF n != 0) = false) (i s v : Nat) (hN : NumsRep n i s v) (q1 : n.Normal = false) (qa : askedB n s = true) :
    Calls Tryz.prog 16 #[.agg #[.int .i64 n.Id, .int .i64 n.Size, .int .i64 n.View, .bool n.Normal, .int .i64 n.Last, .slice A5 n.Log.length c5, .int .i64 n.Commit, .slice A7 n.Oks.length c7, .slice A8 n.Asks.length c8, .slice A9 n.Doers.length c9]] w fun r w' => LaidRR ⟨0, n, changesL i s v ++ tellL n⟩ w r w' := by
  have QN := Lib.hid q1
  clear q1
  have hat := boxReplica w n 29 h5 h7 h8 h9
  have ba : Below (w.alloc (.cells #[.int .i64 n.Id, .int .i64 n.Size, .int .i64 n.View, .bool n.Normal, .int .i64 n.Last, .slice A5 n.Log.length c5, .int .i64 n.Commit, .slice A7 n.Oks.length c7, .slice A8 n.Asks.length c8, .slice A9 n.Doers.length c9] 29)).heap.size (w.alloc (.cells #[.int .i64 n.Id, .int .i64 n.Size, .int .i64 n.View, .bool n.Normal, .int .i64 n.Last, .slice A5 n.Log.length c5, .int .i64 n.Commit, .slice A7 n.Oks.length c7, .slice A8 n.Asks.length c8, .slice A9 n.Doers.length c9] 29)) ((w.alloc (.cells #[.int .i64 n.Id, .int .i64 n.Size, .int .i64 n.View, .bool n.Normal, .int .i64 n.Last, .slice A5 n.Log.length c5, .int .i64 n.Commit, .slice A7 n.Oks.length c7, .slice A8 n.Asks.length c8, .slice A9 n.Doers.length c9] 29)).alloc (.cells #[.int .i64 0, .int .i64 0, .int .i64 0, .int .i64 0, .bool false, .int .i64 0, .slice none 0 0, .int .i64 0, .slice none 0 0, .slice none 0 0, .slice none 0 0, .slice none 0 0] 33)) := below_alloc (Below.refl _ _) _
  have HLD := Lib.hid (l9Fault_c n _ _ (hat.below ba))
  go_enter Tryz.func16, Tryz.ntmps16
  go_wp2_with fail
  refine HLD.out.mono ?_
  rintro e w1 ⟨rfl, hb1⟩
  have bw1 : Below w.heap.size w w1 := below_trans (below_alloc (below_alloc (Below.refl _ _) _) _) hb1
  have nB : Blk w1 w.heap.size 29 [.int .i64 n.Id, .int .i64 n.Size, .int .i64 n.View, .bool n.Normal, .int .i64 n.Last, .slice A5 n.Log.length c5, .int .i64 n.Commit, .slice A7 n.Oks.length c7, .slice A8 n.Asks.length c8, .slice A9 n.Doers.length c9] := ((blk_alloc w [.int .i64 n.Id, .int .i64 n.Size, .int .i64 n.View, .bool n.Normal, .int .i64 n.Last, .slice A5 n.Log.length c5, .int .i64 n.Commit, .slice A7 n.Oks.length c7, .slice A8 n.Asks.length c8, .slice A9 n.Doers.length c9] 29).below (below_alloc (Below.refl _ _) _)).below hb1
  have zB : Blk w1 (w.heap.size + 1) 33 [.int .i64 0, .int .i64 0, .int .i64 0, .int .i64 0, .bool false, .int .i64 0, .slice none 0 0, .int .i64 0, .slice none 0 0, .slice none 0 0, .slice none 0 0, .slice none 0 0] := by
    have := (blk_alloc (w.alloc (.cells #[.int .i64 n.Id, .int .i64 n.Size, .int .i64 n.View, .bool n.Normal, .int .i64 n.Last, .slice A5 n.Log.length c5, .int .i64 n.Commit, .slice A7 n.Oks.length c7, .slice A8 n.Asks.length c8, .slice A9 n.Doers.length c9] 29)) [.int .i64 0, .int .i64 0, .int .i64 0, .int .i64 0, .bool false, .int .i64 0, .slice none 0 0, .int .i64 0, .slice none 0 0, .slice none 0 0, .slice none 0 0, .slice none 0 0] 33).below hb1
    simpa only [Deep.nblk_alloc] using this
  have lo1 : w.heap.size + 2 ≤ w1.heap.size := by have := hb1.size; simp only [Deep.nblk_alloc] at this; omega
  clear hb1 ba hat HLD
  have hsm := hN.small
  obtain ⟨e1, e2, e3, l1, l2, l3, l4, l5, l6, l7, l8⟩ := hN
  have E1 := Lib.hid e1
  have E2 := Lib.hid e2
  have E3 := Lib.hid e3
  have L5 := Lib.hid l5
  have hv0 : 0 ≤ n.View := by omega
  have hs1 : 1 ≤ n.Size := by omega
  clear e1 e2 e3 l5 l6 l8
  have HFU := Lib.hid q
  have n0 := nB.cell (j := 0) rfl
  have n1 := nB.cell (j := 1) rfl
  have n2 := nB.cell (j := 2) rfl
  have n3 := nB.cell (j := 3) rfl
  have n4 := nB.cell (j := 4) rfl
  have n5 := nB.cell (j := 5) rfl
  have n6 := nB.cell (j := 6) rfl
  have n7 := nB.cell (j := 7) rfl
  have n8 := nB.cell (j := 8) rfl
  have n9 := nB.cell (j := 9) rfl
  go_wp2_with fail
  clear n0 n1 n2 n3 n4 n5 n6 n7 n8 n9 q
  refine (l9Copy_c n _ _ _ _ _ _ _ _ w1 (h5.below bw1) (h7.below bw1) (h8.below bw1) (h9.below bw1) hsm).mono ?_
  rintro r w3 ⟨B5, d5, B7, d7, B8, d8, B9, d9, f5, f7, f8, f9, rfl, ⟨o5, o7, o8, o9, nd⟩, hb3⟩
  have s3 := hb3.size
  have k5 := o5.in
  have k7 := o7.in
  have k8 := o8.in
  have k9 := o9.in
  go_upto_region 5 with fail
  refine at_world (fun W => Blk W w3.heap.size 33 [.int .i64 0, .int .i64 n.Id, .int .i64 n.Size, .int .i64 n.View, .bool n.Normal, .int .i64 n.Last, .slice B5 n.Log.length d5, .int .i64 n.Commit, .slice B7 n.Oks.length d7, .slice B8 n.Asks.length d8, .slice B9 n.Doers.length d9, .slice none 0 0] ∧ Below w3.heap.size w3 W ∧ w3.heap.size < W.heap.size) ⟨blk_alloc w3 [.int .i64 0, .int .i64 n.Id, .int .i64 n.Size, .int .i64 n.View, .bool n.Normal, .int .i64 n.Last, .slice B5 n.Log.length d5, .int .i64 n.Commit, .slice B7 n.Oks.length d7, .slice B8 n.Asks.length d8, .slice B9 n.Doers.length d9, .slice none 0 0] _, below_alloc (Below.refl _ _) _, by rw [Deep.nblk_alloc]; omega⟩ ?_
  rintro W4 ⟨rB, b4, s4⟩
  have b24 := below_trans hb3 b4
  replace nB := nB.below b24
  replace zB := zB.below b24
  replace o5 := OwnS.bel' o5 b4
  replace o7 := OwnS.bel' o7 b4
  replace o8 := OwnS.bel' o8 b4
  replace o9 := OwnS.bel' o9 b4
  have bw4 := below_trans bw1 b24
  clear hb3 b4 b24
  have lnb := nB.lt
  have hat4 : At kReplica W4 ⟨w.heap.size, 0, none⟩ n := ⟨_, nB.lies, kReplica_mk w n h5 h7 h8 h9 |> fun hh => kReplica.rd_below hh bw4⟩
  have n3 := nB.cell (j := 3) rfl
  rw [QN.out] at n3
  have l5' : n.Asks.length ≤ 1000 := by rw [L5.out, QN.out]; simp; omega
  have n0 := nB.cell (j := 0) rfl
  have n1 := nB.cell (j := 1) rfl
  have n2 := nB.cell (j := 2) rfl
  rw [E1.out] at n0
  rw [E2.out] at n1
  rw [E3.out] at n2
  have HC := Lib.hid (l9Changes_c W4 ⟨w.heap.size, 0, none⟩ i s v n0 (by simpa using n1) (by simpa using n2) l2)
  have HT := Lib.hid (fun (W : World) (hW : Below W4.heap.size W4 W) => l9Tell_c n ⟨w.heap.size, 0, none⟩ W (hat4.below hW) hv0 hs1 (by omega))
  clear n0 n1 n2
  go_wp2_with fail
  refine HC.out.mono ?_
  rintro r W5 ⟨As, cs, fs, rfl, om, nm, b5⟩
  have im := om.in
  clear n3 HC
  replace o5 := OwnS.bel' o5 b5
  replace o7 := OwnS.bel' o7 b5
  replace o8 := OwnS.bel' o8 b5
  replace o9 := OwnS.bel' o9 b5
  replace zB := zB.below b5
  replace rB := rB.below b5
  replace nB := nB.below b5
  have bw5 := below_trans bw4 b5
  have s5 := b5.size
  have q11 := rB.cell (j := 11) rfl
  have z11 := rB.frozen 11
  have lrb := rB.lt
  go_upto_region 7 with fail
  have rB2 := rB.set0 11 (.slice As (changesL i s v).length cs)
  simp only [List.set_cons_zero, List.set_cons_succ] at rB2
  refine at_world (fun W => Blk W w3.heap.size 33 [.int .i64 0, .int .i64 n.Id, .int .i64 n.Size, .int .i64 n.View, .bool n.Normal, .int .i64 n.Last, .slice B5 n.Log.length d5, .int .i64 n.Commit, .slice B7 n.Oks.length d7, .slice B8 n.Asks.length d8, .slice B9 n.Doers.length d9, .slice As (changesL i s v).length cs] ∧ Turn [w3.heap.size] W5 W) ⟨rB2, (Turn.refl _ _).set (by simp) _⟩ ?_
  rintro W6 ⟨rB6, t6⟩
  clear rB rB2 q11 z11
  have s6 := t6.size
  replace o5 := o5.turn t6 (fun y hy h => by simp at h; have := k5 y hy; omega)
  replace o7 := o7.turn t6 (fun y hy h => by simp at h; have := k7 y hy; omega)
  replace o8 := o8.turn t6 (fun y hy h => by simp at h; have := k8 y hy; omega)
  replace o9 := o9.turn t6 (fun y hy h => by simp at h; have := k9 y hy; omega)
  replace om := om.turn t6 (fun y hy h => by simp at h; have := im y hy; omega)
  replace zB := zB.turn t6 (by simp; omega)
  replace nB := nB.turn t6 (by simp; omega)
  have b46 : Below w3.heap.size w3 w3 := Below.refl _ _
  have bw6 : Below w.heap.size w W6 := bw5.trans (t6.below (B := w.heap.size) (by intro y hy; simp at hy; omega) (by omega))
  have m1 := nB.cell (j := 1) rfl
  have m8 := nB.cell (j := 8) rfl
  rw [E2.out] at m1
  have HA := Lib.hid (l9Asked_c s n.Asks A8 c8 ⟨w.heap.size, 0, none⟩ W6 (by simpa using m1) (by simpa using m8) (h8.below bw6) l5' l2)
  have hqa : decide ((s : Int) / 2 + 1 ≤ ((truesN n.Asks : Nat) : Int)) = true := by rw [enough_eq]; exact qa
  rw [hqa] at HA
  clear hqa m1 m8 qa
  go_wp2_with fail
  refine HA.out.mono ?_
  rintro r W7 ⟨rfl, rfl⟩
  have q11 := rB6.cell (j := 11) rfl
  have z11 := rB6.frozen 11
  have hat6 : At kReplica W6 ⟨w.heap.size, 0, none⟩ n := ⟨_, nB.lies, kReplica_mk W6 n (h5.below bw6) (h7.below bw6) (h8.below bw6) (h9.below bw6)⟩
  have HT6 := Lib.hid (fun (W : World) (hW : Below W6.heap.size W6 W) => l9Tell_c n ⟨w.heap.size, 0, none⟩ W (hat6.below hW) hv0 hs1 (by omega))
  have hlen : (changesL i s v).length ≤ 1000 := by have := allTo_len (fun k => mailK i v 3 k) i s; unfold changesL; omega
  have hlt : (tellL n).length ≤ 1 := by unfold tellL; split <;> simp
  have lr6 := rB6.lt
  have im6 := om.in
  have nr6 : w3.heap.size ∉ fs := fun h => by have := (im _ h).1; omega
  clear hat4 HT hat6 HA
  go_upto_region 8 with fail
  go_cut [20] (fun _ W => ∃ CS es fp', OwnS kMail 51 w1.heap.size W fp' (.slice CS (changesL i s v ++ tellL n).length es) (changesL i s v ++ tellL n) ∧ fp'.Nodup ∧ Blk W w3.heap.size 33 [.int .i64 0, .int .i64 n.Id, .int .i64 n.Size, .int .i64 n.View, .bool n.Normal, .int .i64 n.Last, .slice B5 n.Log.length d5, .int .i64 n.Commit, .slice B7 n.Oks.length d7, .slice B8 n.Asks.length d8, .slice B9 n.Doers.length d9, .slice CS (changesL i s v ++ tellL n).length es] ∧ Turn (w3.heap.size :: fs) W6 W ∧ ∀ y ∈ fp', y ∈ fs ∨ W6.heap.size ≤ y)
  case first =>
    go_region_law (first | ((try go_simp); go_at_call 52; refine (HT6.out _ (by repeat (first | (with_reducible assumption) | (with_reducible exact Below.refl _ _) | (with_reducible apply below_alloc) | (with_reducible apply below_drewN) | (with_reducible apply Below.drew) | (with_reducible refine below_set ?_ (by dsimp only; omega) _) | (with_reducible refine below_trans ?_ (by assumption))))).mono ?_; rintro r W8 ⟨Bs, ds, gs, rfl, on, nn, hb8⟩; have b8 : Below W6.heap.size W6 W8 := (below_trans (Below.refl _ _).drew hb8); have jn := on.in; have rB8 := rB6.below b8; have q8 := rB8.cell (j := 11) rfl; have z8 := rB8.frozen 11; have om8 := OwnS.bel' om b8; have hSR := OwnS.src (P := Tryz.prog) (e' := 51) (t := 31) on nn (by kernel_rfl); clear hb8; obtain ⟨-, ce, fi, hsrc, hown, nfi, hfi⟩ := hSR) | (refine step_app (d := kMail) (zs := tellL n) (ys := changesL i s v) (fp := fs) (fs := fi) (v := .slice As (changesL i s v).length cs) (x := .slice Bs (tellL n).length ds) (ce := ce) (B := w1.heap.size) rfl (.tmp 22) (.tmp 23) 31 51 rfl (by kernel_rfl) (by kernel_rfl) (by simp [Act.eval, Act.put]) (by simp [Act.eval, Act.put]) (om8.lift (fun y hy => by have := (im y hy).1; omega)) nm hsrc (hown.lift (fun y hy => by have := (jn y (hfi y hy)).1; have : W6.drew.heap.size = W6.heap.size := rfl; omega)) nfi (fun y hy hm => by have := (jn y (hfi y hm)).1; have := (im6 y hy).2; have : W6.drew.heap.size = W6.heap.size := rfl; omega) (by omega) (by have := b8.size; omega) ?_; intro v' w' fp' hgr; obtain ⟨r1, r2, r3, r4⟩ := hgr; obtain ⟨CS, es, rfl, _⟩ := r1.form; have yA := rB8.turn r3 nr6; have qA := yA.cell (j := 11) rfl; have fA := yA.frozen 11))
    all_goals (go_wp2_with fail)
    all_goals (go_meet)
    all_goals
      have hfr : ∀ y ∈ fp', y ∈ fs ∨ W6.heap.size ≤ y := fun y hy => by
        rcases r4 y hy with h | h | h
        · exact .inl h
        · right; have := (jn y (hfi y h)).1; have : W6.drew.heap.size = W6.heap.size := rfl; omega
        · right; have := b8.size; omega
      have hrp : w3.heap.size ∉ fp' := fun h => by
        rcases hfr _ h with h | h
        · exact nr6 h
        · omega
      have hT : Turn (w3.heap.size :: fs) W6 w' := (Turn.of_below b8).trans (r3.mono (fun y hy => by simp [hy]))
      exact ⟨CS, es, fp', OwnS.turn r1 ((Turn.refl [w3.heap.size] w').set (p := ⟨w3.heap.size, 11, none⟩) (by simp) _) (fun y hy hm => hrp (by simp at hm; exact hm ▸ hy)), r2, by simpa using yA.set0 11 (.slice CS (changesL i s v ++ tellL n).length es), hT.set (p := ⟨w3.heap.size, 11, none⟩) (by simp) _, hfr⟩
  case rest =>
    obtain ⟨CS, es, fp', os, nos, rB7, t7, hfr⟩ := hcut
    obtain ⟨V, hV⟩ : ∃ V, V = wc := ⟨_, rfl⟩
    subst hV
    clear HT6 rB6 q11 z11
    have s7 := t7.size
    have hdis : ∀ (f : List Nat), (∀ y ∈ f, y < w3.heap.size) → ∀ y ∈ f, y ∉ w3.heap.size :: fs := fun f hf y hy h => by
      rcases List.mem_cons.1 h with h | h
      · have := hf y hy; omega
      · have := hf y hy; have := (im y h).1; omega
    replace o5 := o5.turn t7 (hdis f5 (fun y hy => (k5 y hy).2))
    replace o7 := o7.turn t7 (hdis f7 (fun y hy => (k7 y hy).2))
    replace o8 := o8.turn t7 (hdis f8 (fun y hy => (k8 y hy).2))
    replace o9 := o9.turn t7 (hdis f9 (fun y hy => (k9 y hy).2))
    replace zB := zB.turn t7 (by simp only [List.mem_cons, not_or]; exact ⟨by omega, fun h => by have := (im _ h).1; omega⟩)
    have bwF : Below w.heap.size w V := bw6.trans (t7.below (B := w.heap.size) (by intro y hy; rcases List.mem_cons.1 hy with h | h; omega; have := (im y h).1; omega) (by omega))
    have nn : (f5 ++ (f7 ++ (f8 ++ (f9 ++ fp')))).Nodup := by
      rw [show f5 ++ (f7 ++ (f8 ++ (f9 ++ fp'))) = (f5 ++ (f7 ++ (f8 ++ f9))) ++ fp' by simp]
      refine List.nodup_append.2 ⟨nd, nos, fun x hx y hy e => ?_⟩
      have h1 : w3.heap.size ≤ y := by
        rcases hfr y hy with h | h
        · have := (im y h).1; omega
        · omega
      simp only [List.mem_append] at hx
      rcases hx with h | h | h | h
      · have := (k5 x h).2; omega
      · have := (k7 x h).2; omega
      · have := (k8 x h).2; omega
      · have := (k9 x h).2; omega
    have u0 := rB7.cell (j := 0) rfl
    have u1 := rB7.cell (j := 1) rfl
    have u2 := rB7.cell (j := 2) rfl
    have u3 := rB7.cell (j := 3) rfl
    have u4 := rB7.cell (j := 4) rfl
    have u5 := rB7.cell (j := 5) rfl
    have u6 := rB7.cell (j := 6) rfl
    have u7 := rB7.cell (j := 7) rfl
    have u8 := rB7.cell (j := 8) rfl
    have u9 := rB7.cell (j := 9) rfl
    have u10 := rB7.cell (j := 10) rfl
    have u11 := rB7.cell (j := 11) rfl
    have r0 := zB.cell (j := 0) rfl
    have y0 := zB.frozen 0
    have r1 := zB.cell (j := 1) rfl
    have y1 := zB.frozen 1
    have r2 := zB.cell (j := 2) rfl
    have y2 := zB.frozen 2
    have r3 := zB.cell (j := 3) rfl
    have y3 := zB.frozen 3
    have r4 := zB.cell (j := 4) rfl
    have y4 := zB.frozen 4
    have r5 := zB.cell (j := 5) rfl
    have y5 := zB.frozen 5
    have r6 := zB.cell (j := 6) rfl
    have y6 := zB.frozen 6
    have r7 := zB.cell (j := 7) rfl
    have y7 := zB.frozen 7
    have r8 := zB.cell (j := 8) rfl
    have y8 := zB.frozen 8
    have r9 := zB.cell (j := 9) rfl
    have y9 := zB.frozen 9
    have r10 := zB.cell (j := 10) rfl
    have y10 := zB.frozen 10
    have r11 := zB.cell (j := 11) rfl
    have y11 := zB.frozen 11
    clear zB rB7
    go_wp2_with fail
    refine bodyPost_ret (v := .agg #[.int .i64 0, .int .i64 n.Id, .int .i64 n.Size, .int .i64 n.View, .bool n.Normal, .int .i64 n.Last, .slice B5 n.Log.length d5, .int .i64 n.Commit, .slice B7 n.Oks.length d7, .slice B8 n.Asks.length d8, .slice B9 n.Doers.length d9, .slice CS (changesL i s v ++ tellL n).length es]) (by simp [results, Tryz.results16, go_sem, r0, r1, r2, r3, r4, r5, r6, r7, r8, r9, r10, r11]) rfl ?_
    refine ⟨B5, d5, B7, d7, B8, d8, B9, d9, CS, es, f5, f7, f8, f9, fp', rfl, ⟨?_, ?_, ?_, ?_, ?_, nn⟩, ?_⟩
    · refine OwnS.past (lo := w.heap.size + 2) (w := V) (o5.lift (B' := w.heap.size + 2) (fun y hy => by have := (o5.in y hy).1; omega)) ?_ (by omega) (by omega)
      repeat (first | (with_reducible exact Past.refl _ _) | (with_reducible refine Past.set ?_ (by omega) _))
    · refine OwnS.past (lo := w.heap.size + 2) (w := V) (o7.lift (B' := w.heap.size + 2) (fun y hy => by have := (o7.in y hy).1; omega)) ?_ (by omega) (by omega)
      repeat (first | (with_reducible exact Past.refl _ _) | (with_reducible refine Past.set ?_ (by omega) _))
    · refine OwnS.past (lo := w.heap.size + 2) (w := V) (o8.lift (B' := w.heap.size + 2) (fun y hy => by have := (o8.in y hy).1; omega)) ?_ (by omega) (by omega)
      repeat (first | (with_reducible exact Past.refl _ _) | (with_reducible refine Past.set ?_ (by omega) _))
    · refine OwnS.past (lo := w.heap.size + 2) (w := V) (o9.lift (B' := w.heap.size + 2) (fun y hy => by have := (o9.in y hy).1; omega)) ?_ (by omega) (by omega)
      repeat (first | (with_reducible exact Past.refl _ _) | (with_reducible refine Past.set ?_ (by omega) _))
    · refine OwnS.past (lo := w.heap.size + 2) (w := V) (os.lift (B' := w.heap.size + 2) (fun y hy => by have := (os.in y hy).1; omega)) ?_ (by omega) (by omega)
      repeat (first | (with_reducible exact Past.refl _ _) | (with_reducible refine Past.set ?_ (by omega) _))
    · repeat (first | (with_reducible assumption) | (with_reducible exact Below.refl _ _) | (with_reducible apply below_alloc) | (with_reducible apply below_drewN) | (with_reducible apply Below.drew) | (with_reducible refine below_set ?_ (by dsimp only; omega) _) | (with_reducible refine below_trans ?_ (by assumption)))
set_option maxRecDepth 100000 in
set_option maxHeartbeats 4000000 in
theorem sBeat_lead (n : SReplica) (A5 : Option Addr) (c5 : Nat) (A7 : Option Addr) (c7 : Nat) (A8 : Option Addr) (c8 : Nat) (A9 : Option Addr) (c9 : Nat) (w : World) (h5 : RdS kEntry w A5 c5 n.Log) (h7 : RdS kInt w A7 c7 n.Oks) (h8 : RdS kBool w A8 c8 n.Asks) (h9 : RdS kDoer w A9 c9 n.Doers) (q : (repF n != 0) = false) (i s v : Nat) (hN : NumsRep n i s v) (hoks : n.Oks.length = s) (hbo : ∀ k ∈ n.Oks, 0 ≤ k ∧ k ≤ n.Log.length) (q1 : n.Normal = true) (q2 : isPrim n = true) :
    Calls Tryz.prog 16 #[.agg #[.int .i64 n.Id, .int .i64 n.Size, .int .i64 n.View, .bool n.Normal, .int .i64 n.Last, .slice A5 n.Log.length c5, .int .i64 n.Commit, .slice A7 n.Oks.length c7, .slice A8 n.Asks.length c8, .slice A9 n.Doers.length c9]] w fun r w' => LaidRR ⟨0, { n with Commit := beatC n i }, beatL n i s v⟩ w r w' := by
  have QN := Lib.hid q1
  have HOK := Lib.hid hoks
  have HBO := Lib.hid hbo
  clear q1 hoks hbo
  have hat := boxReplica w n 29 h5 h7 h8 h9
  have ba : Below (w.alloc (.cells #[.int .i64 n.Id, .int .i64 n.Size, .int .i64 n.View, .bool n.Normal, .int .i64 n.Last, .slice A5 n.Log.length c5, .int .i64 n.Commit, .slice A7 n.Oks.length c7, .slice A8 n.Asks.length c8, .slice A9 n.Doers.length c9] 29)).heap.size (w.alloc (.cells #[.int .i64 n.Id, .int .i64 n.Size, .int .i64 n.View, .bool n.Normal, .int .i64 n.Last, .slice A5 n.Log.length c5, .int .i64 n.Commit, .slice A7 n.Oks.length c7, .slice A8 n.Asks.length c8, .slice A9 n.Doers.length c9] 29)) ((w.alloc (.cells #[.int .i64 n.Id, .int .i64 n.Size, .int .i64 n.View, .bool n.Normal, .int .i64 n.Last, .slice A5 n.Log.length c5, .int .i64 n.Commit, .slice A7 n.Oks.length c7, .slice A8 n.Asks.length c8, .slice A9 n.Doers.length c9] 29)).alloc (.cells #[.int .i64 0, .int .i64 0, .int .i64 0, .int .i64 0, .bool false, .int .i64 0, .slice none 0 0, .int .i64 0, .slice none 0 0, .slice none 0 0, .slice none 0 0, .slice none 0 0] 33)) := below_alloc (Below.refl _ _) _
  have HLD := Lib.hid (l9Fault_c n _ _ (hat.below ba))
  go_enter Tryz.func16, Tryz.ntmps16
  go_wp2_with fail
  refine HLD.out.mono ?_
  rintro e w1 ⟨rfl, hb1⟩
  have bw1 : Below w.heap.size w w1 := below_trans (below_alloc (below_alloc (Below.refl _ _) _) _) hb1
  have nB : Blk w1 w.heap.size 29 [.int .i64 n.Id, .int .i64 n.Size, .int .i64 n.View, .bool n.Normal, .int .i64 n.Last, .slice A5 n.Log.length c5, .int .i64 n.Commit, .slice A7 n.Oks.length c7, .slice A8 n.Asks.length c8, .slice A9 n.Doers.length c9] := ((blk_alloc w [.int .i64 n.Id, .int .i64 n.Size, .int .i64 n.View, .bool n.Normal, .int .i64 n.Last, .slice A5 n.Log.length c5, .int .i64 n.Commit, .slice A7 n.Oks.length c7, .slice A8 n.Asks.length c8, .slice A9 n.Doers.length c9] 29).below (below_alloc (Below.refl _ _) _)).below hb1
  have zB : Blk w1 (w.heap.size + 1) 33 [.int .i64 0, .int .i64 0, .int .i64 0, .int .i64 0, .bool false, .int .i64 0, .slice none 0 0, .int .i64 0, .slice none 0 0, .slice none 0 0, .slice none 0 0, .slice none 0 0] := by
    have := (blk_alloc (w.alloc (.cells #[.int .i64 n.Id, .int .i64 n.Size, .int .i64 n.View, .bool n.Normal, .int .i64 n.Last, .slice A5 n.Log.length c5, .int .i64 n.Commit, .slice A7 n.Oks.length c7, .slice A8 n.Asks.length c8, .slice A9 n.Doers.length c9] 29)) [.int .i64 0, .int .i64 0, .int .i64 0, .int .i64 0, .bool false, .int .i64 0, .slice none 0 0, .int .i64 0, .slice none 0 0, .slice none 0 0, .slice none 0 0, .slice none 0 0] 33).below hb1
    simpa only [Deep.nblk_alloc] using this
  have lo1 : w.heap.size + 2 ≤ w1.heap.size := by have := hb1.size; simp only [Deep.nblk_alloc] at this; omega
  clear hb1 ba hat HLD
  have hsm := hN.small
  obtain ⟨e1, e2, e3, l1, l2, l3, l4, l5, l6, l7, l8⟩ := hN
  have E1 := Lib.hid e1
  have E2 := Lib.hid e2
  have E3 := Lib.hid e3
  have L5 := Lib.hid l5
  have hv0 : 0 ≤ n.View := by omega
  have hs1 : 1 ≤ n.Size := by omega
  clear e1 e2 e3 l5 l6 l8
  have HFU := Lib.hid q
  have n0 := nB.cell (j := 0) rfl
  have n1 := nB.cell (j := 1) rfl
  have n2 := nB.cell (j := 2) rfl
  have n3 := nB.cell (j := 3) rfl
  have n4 := nB.cell (j := 4) rfl
  have n5 := nB.cell (j := 5) rfl
  have n6 := nB.cell (j := 6) rfl
  have n7 := nB.cell (j := 7) rfl
  have n8 := nB.cell (j := 8) rfl
  have n9 := nB.cell (j := 9) rfl
  go_wp2_with fail
  clear n0 n1 n2 n3 n4 n5 n6 n7 n8 n9 q
  refine (l9Copy_c n _ _ _ _ _ _ _ _ w1 (h5.below bw1) (h7.below bw1) (h8.below bw1) (h9.below bw1) hsm).mono ?_
  rintro r w3 ⟨B5, d5, B7, d7, B8, d8, B9, d9, f5, f7, f8, f9, rfl, ⟨o5, o7, o8, o9, nd⟩, hb3⟩
  have s3 := hb3.size
  have k5 := o5.in
  have k7 := o7.in
  have k8 := o8.in
  have k9 := o9.in
  go_upto_region 5 with fail
  refine at_world (fun W => Blk W w3.heap.size 33 [.int .i64 0, .int .i64 n.Id, .int .i64 n.Size, .int .i64 n.View, .bool n.Normal, .int .i64 n.Last, .slice B5 n.Log.length d5, .int .i64 n.Commit, .slice B7 n.Oks.length d7, .slice B8 n.Asks.length d8, .slice B9 n.Doers.length d9, .slice none 0 0] ∧ Below w3.heap.size w3 W ∧ w3.heap.size < W.heap.size) ⟨blk_alloc w3 [.int .i64 0, .int .i64 n.Id, .int .i64 n.Size, .int .i64 n.View, .bool n.Normal, .int .i64 n.Last, .slice B5 n.Log.length d5, .int .i64 n.Commit, .slice B7 n.Oks.length d7, .slice B8 n.Asks.length d8, .slice B9 n.Doers.length d9, .slice none 0 0] _, below_alloc (Below.refl _ _) _, by rw [Deep.nblk_alloc]; omega⟩ ?_
  rintro W4 ⟨rB, b4, s4⟩
  have b24 := below_trans hb3 b4
  replace nB := nB.below b24
  replace zB := zB.below b24
  replace o5 := OwnS.bel' o5 b4
  replace o7 := OwnS.bel' o7 b4
  replace o8 := OwnS.bel' o8 b4
  replace o9 := OwnS.bel' o9 b4
  have bw4 := below_trans bw1 b24
  clear hb3 b4 b24
  have lnb := nB.lt
  have hat4 : At kReplica W4 ⟨w.heap.size, 0, none⟩ n := ⟨_, nB.lies, kReplica_mk w n h5 h7 h8 h9 |> fun hh => kReplica.rd_below hh bw4⟩
  have n3 := nB.cell (j := 3) rfl
  rw [QN.out] at n3
  have HP := Lib.hid (l9Primary_c n ⟨w.heap.size, 0, none⟩ W4 hat4 hv0 hs1)
  rw [q2] at HP
  clear q2
  go_wp2_with fail
  refine HP.out.mono ?_
  rintro e W5 ⟨rfl, m, hw5⟩
  have b5 : Below W4.heap.size W4 W5 := by rw [hw5]; exact below_drewN (Below.refl _ _) _
  clear hw5 n3 HP hat4
  replace o5 := OwnS.bel' o5 b5
  replace o7 := OwnS.bel' o7 b5
  replace o8 := OwnS.bel' o8 b5
  replace o9 := OwnS.bel' o9 b5
  replace nB := nB.below b5
  replace zB := zB.below b5
  replace rB := rB.below b5
  have bw5 := below_trans bw4 b5
  have s5 := b5.size
  have lr5 := rB.lt
  have g0 := nB.cell (j := 0) rfl
  have g1 := nB.cell (j := 1) rfl
  have g5 := nB.cell (j := 5) rfl
  have g7 := nB.cell (j := 7) rfl
  rw [E1.out] at g0
  rw [E2.out] at g1
  have HA := Lib.hid (fun (W : World) (hW : Below W5.heap.size W5 W) => l9Agreed_c i s n.Oks n.Log A5 c5 A7 c7 ⟨w.heap.size, 0, none⟩ W (cell_below hW g0) (by simpa using cell_below hW g1) (by simpa using cell_below hW g5) (by simpa using cell_below hW g7) ((h7.below bw5).below hW) HOK.out l1 l2 (by omega))
  clear g0 g1 g5 g7
  have n6 := nB.cell (j := 6) rfl
  have r7 := rB.cell (j := 7) rfl
  have z7 := rB.frozen 7
  go_upto_region 12 with fail
  go_cut [33] (fun _ W => Blk W w3.heap.size 33 [.int .i64 0, .int .i64 n.Id, .int .i64 n.Size, .int .i64 n.View, .bool n.Normal, .int .i64 n.Last, .slice B5 n.Log.length d5, .int .i64 (beatC n i), .slice B7 n.Oks.length d7, .slice B8 n.Asks.length d8, .slice B9 n.Doers.length d9, .slice none 0 0] ∧ Turn [w3.heap.size] W5 W)
  case first =>
    go_region_with (first | (go_at_call 55; refine (HA.out _ (by repeat (first | (with_reducible assumption) | (with_reducible exact Below.refl _ _) | (with_reducible apply below_alloc) | (with_reducible apply below_drewN) | (with_reducible apply Below.drew) | (with_reducible refine below_set ?_ (by dsimp only; omega) _) | (with_reducible refine below_trans ?_ (by assumption))))).mono ?_; rintro e w8 ⟨rfl, rfl⟩) | (go_at_call 54; refine (l1Max_c _ _ _).mono ?_; rintro e w8 ⟨rfl, rfl⟩))
    all_goals (go_wp2_with fail)
    all_goals (go_meet)
    all_goals
      first
        | exact ⟨Blk.keep (rB.set0 7 (.int .i64 (beatC n i))) rfl, ((Turn.refl [w3.heap.size] W5).set (p := ⟨w3.heap.size, 7, none⟩) (by simp) _)⟩
        | exact ⟨Blk.keep (rB.set0 7 (.int .i64 (beatC n i))) rfl, ((Turn.refl [w3.heap.size] W5).set (p := ⟨w3.heap.size, 7, none⟩) (by simp) _).drew⟩
  case rest =>
    obtain ⟨rB6, t6⟩ := hcut
    obtain ⟨V, hV⟩ : ∃ V, V = wc := ⟨_, rfl⟩
    subst hV
    clear HA n6 r7 z7 rB
    have s6 := t6.size
    replace nB := nB.turn t6 (by simp; omega)
    replace zB := zB.turn t6 (by simp; omega)
    replace o5 := o5.turn t6 (fun y hy h => by simp at h; have := k5 y hy; omega)
    replace o7 := o7.turn t6 (fun y hy h => by simp at h; have := k7 y hy; omega)
    replace o8 := o8.turn t6 (fun y hy h => by simp at h; have := k8 y hy; omega)
    replace o9 := o9.turn t6 (fun y hy h => by simp at h; have := k9 y hy; omega)
    have bw6 : Below w.heap.size w V := bw5.trans (t6.below (B := w.heap.size) (by intro y hy; simp at hy; omega) (by omega))
    go_wp2_with fail
    go_loopw [5] (fun j W => ∃ k : Nat, k ≤ s ∧ j = .int .i64 k ∧ ∃ vv fq, OwnS kMail 51 w1.heap.size W fq vv (allTo (fun (k : Nat) => prepM i v (beatC n i) n.Log k (n.Oks.getD k 0)) i k) ∧ fq.Nodup ∧ Blk W w3.heap.size 33 [.int .i64 0, .int .i64 n.Id, .int .i64 n.Size, .int .i64 n.View, .bool n.Normal, .int .i64 n.Last, .slice B5 n.Log.length d5, .int .i64 (beatC n i), .slice B7 n.Oks.length d7, .slice B8 n.Asks.length d8, .slice B9 n.Doers.length d9, vv] ∧ Turn [w3.heap.size] V W ∧ ∀ y ∈ fq, V.heap.size ≤ y) (fun j _ => s - (intOf j).toNat)
    case atStart => exact ⟨0, Nat.zero_le _, rfl, .slice none 0 0, [], by simpa [allTo] using ownS_nil _ _ _, List.nodup_nil, rB6, Turn.refl _ _, fun y hy => by cases hy⟩
    case round =>
      obtain ⟨k, hk, rfl, vv, fq, ow, ndq, rBr, ht, hfr⟩ := hrel
      have sT := ht.size
      have hin := ow.in
      have hlen := allTo_len (fun (k : Nat) => prepM i v (beatC n i) n.Log k (n.Oks.getD k 0)) i k
      have nBr := nB.turn ht (by simp; omega)
      have bwr : Below w.heap.size w wr := bw6.trans (ht.below (B := w.heap.size) (by intro y hy; simp at hy; omega) (by omega))
      have n1 := nBr.cell (j := 1) rfl
      rw [E2.out] at n1
      have lrr := rBr.lt
      have lnr := nBr.lt
      by_cases hlt : k < s
      · have hlt' : (k : Int) < (s : Int) := by omega
        have n0 := nBr.cell (j := 0) rfl
        rw [E1.out] at n0
        by_cases hki : k = i
        · obtain rfl : i = k := hki.symm
          have he : ((i : Int) == (i : Int)) = true := by simp
          rw [← allTo_same (fun (k : Nat) => prepM i v (beatC n i) n.Log k (n.Oks.getD k 0)) i] at ow
          have OWW := Lib.hid ow
          clear ow hlen
          go_wp2_with fail
          exact ⟨⟨i + 1, hlt, by go_num, vv, fq, OWW.out, ndq, rBr, ht, hfr⟩, by simp [intOf]; omega⟩
        · have he : ((k : Int) == (i : Int)) = false := beq_eq_false_iff_ne.2 (by omega)
          have HSU := Lib.hid (allTo_succ (fun (k : Nat) => prepM i v (beatC n i) n.Log k (n.Oks.getD k 0)) hki)
          obtain ⟨AS, cS, rfl, _⟩ := ow.form
          generalize hys : allTo (fun (k : Nat) => prepM i v (beatC n i) n.Log k (n.Oks.getD k 0)) i k = ys at ow hlen rBr HSU
          clear hys
          have n2 := nBr.cell (j := 2) rfl
          rw [E3.out] at n2
          have n7 := nBr.cell (j := 7) rfl
          have hko : k < n.Oks.length := by rw [HOK.out]; exact hlt
          have hko' : (k : Int) < (n.Oks.length : Int) := by omega
          obtain ⟨a7, ea, ck, lk, rk⟩ := (h7.below bwr).at_ hko
          subst ea
          obtain rfl := rk
          have x0 := lk.c0
          simp only [show kInt.sz = 1 from rfl, Nat.mul_one] at x0
          have hok := HBO.out _ (List.getElem_mem hko)
          obtain ⟨at', hat'⟩ := Int.eq_ofNat_of_zero_le hok.1
          have hgd : n.Oks.getD k 0 = (at' : Int) := by rw [getD_at _ _ hko, hat']
          rw [hat'] at x0
          have hle : at' ≤ n.Log.length := by omega
          have HFK := Lib.hid (show (fun (k : Nat) => prepM i v (beatC n i) n.Log k (n.Oks.getD k 0)) k = prepM i v (beatC n i) n.Log k at' by show prepM i v (beatC n i) n.Log k (n.Oks.getD k 0) = _; rw [hgd])
          have cm7 := rBr.cell (j := 7) rfl
          clear hgd hat' hok lk
          have e0 : wr.drew.cell? ⟨w.heap.size, 0, none⟩ = _ := n0
          have e2 : wr.drew.cell? ⟨w.heap.size, 2, none⟩ = _ := n2
          have e7 : wr.drew.cell? ⟨w.heap.size, 7, none⟩ = _ := n7
          have ex : wr.drew.cell? (a7.add k) = _ := x0
          have ec : wr.drew.cell? ⟨w3.heap.size, 7, none⟩ = _ := cm7
          go_upto_region 17 with fail
          go_cut [5, 6] (fun jv mv W => jv = .int .i64 k ∧ mv = .pointer (some ⟨wr.heap.size, 0, none⟩) ∧ Blk W wr.heap.size 51 [.int .i64 1, .int .i64 i, .int .i64 k, .int .i64 v, .int .i64 at', .bool false, .int .i64 0, .int .i64 0, .int .i64 0, .int .i64 0, .int .i64 0, .int .i64 0, .int .i64 0, .slice none 0 0, .int .i64 (beatC n i)] ∧ Below wr.heap.size wr W)
          case first =>
            go_region_held3 (fun W => W.cell? ⟨w.heap.size, 0, none⟩ = some (.int .i64 i) ∧ W.cell? ⟨w.heap.size, 2, none⟩ = some (.int .i64 v) ∧ W.cell? ⟨w.heap.size, 7, none⟩ = some (.slice (some a7) n.Oks.length c7) ∧ W.cell? (a7.add k) = some (.int .i64 at') ∧ W.cell? ⟨w3.heap.size, 7, none⟩ = some (.int .i64 (beatC n i))) (first | (with_reducible exact ⟨e0, e2, e7, ex, ec⟩) | (with_reducible exact ⟨cell_below (show Below wr.heap.size wr _ by repeat (first | (with_reducible assumption) | (with_reducible exact Below.refl _ _) | (with_reducible apply below_alloc) | (with_reducible apply below_drewN) | (with_reducible apply Below.drew) | (with_reducible refine below_set ?_ (by dsimp only; omega) _) | (with_reducible refine below_trans ?_ (by assumption)))) n0, cell_below (show Below wr.heap.size wr _ by repeat (first | (with_reducible assumption) | (with_reducible exact Below.refl _ _) | (with_reducible apply below_alloc) | (with_reducible apply below_drewN) | (with_reducible apply Below.drew) | (with_reducible refine below_set ?_ (by dsimp only; omega) _) | (with_reducible refine below_trans ?_ (by assumption)))) n2, cell_below (show Below wr.heap.size wr _ by repeat (first | (with_reducible assumption) | (with_reducible exact Below.refl _ _) | (with_reducible apply below_alloc) | (with_reducible apply below_drewN) | (with_reducible apply Below.drew) | (with_reducible refine below_set ?_ (by dsimp only; omega) _) | (with_reducible refine below_trans ?_ (by assumption)))) n7, cell_below (show Below wr.heap.size wr _ by repeat (first | (with_reducible assumption) | (with_reducible exact Below.refl _ _) | (with_reducible apply below_alloc) | (with_reducible apply below_drewN) | (with_reducible apply Below.drew) | (with_reducible refine below_set ?_ (by dsimp only; omega) _) | (with_reducible refine below_trans ?_ (by assumption)))) x0, cell_below (show Below wr.heap.size wr _ by repeat (first | (with_reducible assumption) | (with_reducible exact Below.refl _ _) | (with_reducible apply below_alloc) | (with_reducible apply below_drewN) | (with_reducible apply Below.drew) | (with_reducible refine below_set ?_ (by dsimp only; omega) _) | (with_reducible refine below_trans ?_ (by assumption)))) cm7⟩) | go_keep) (fail)
            all_goals (go_wp2_with fail)
            all_goals (go_meet)
            all_goals exact ⟨rfl, rfl, blk_alloc_dr _ [.int .i64 1, .int .i64 i, .int .i64 k, .int .i64 v, .int .i64 at', .bool false, .int .i64 0, .int .i64 0, .int .i64 0, .int .i64 0, .int .i64 0, .int .i64 0, .int .i64 0, .slice none 0 0, .int .i64 (beatC n i)] _, by repeat (first | (with_reducible assumption) | (with_reducible exact Below.refl _ _) | (with_reducible apply below_alloc) | (with_reducible apply below_drewN) | (with_reducible apply Below.drew) | (with_reducible refine below_set ?_ (by dsimp only; omega) _) | (with_reducible refine below_trans ?_ (by assumption)))⟩
          obtain ⟨rfl, rfl, mB, bbm⟩ := hcut
          obtain ⟨W1, hW1⟩ : ∃ W, W = wc := ⟨_, rfl⟩
          subst hW1
          clear e0 e2 e7 ex ec n0 n2 n7 x0 cm7
          have s1 := bbm.size
          have m4 := mB.cell (j := 4) rfl
          have nB1 := nBr.below bbm
          have n5 := nB1.cell (j := 5) rfl
          have ZZ := Lib.hid HFK.out
          obtain ⟨m, hm⟩ : ∃ m : SMail, m = (fun (k : Nat) => prepM i v (beatC n i) n.Log k (n.Oks.getD k 0)) k := ⟨_, rfl⟩
          have HM := Lib.hid hm
          clear hm ZZ
          go_upto_if 65 with fail
          go_cut [5, 6] (fun jv mv W => jv = .int .i64 k ∧ mv = .pointer (some ⟨wr.heap.size, 0, none⟩) ∧ ∃ X13 x13, Blk W wr.heap.size 51 [.int .i64 m.Kind, .int .i64 m.From, .int .i64 m.To, .int .i64 m.View, .int .i64 m.At, .bool m.Has, .int .i64 m.Entry.Client, .int .i64 m.Entry.Seq, .int .i64 m.Entry.Op.Kind, .int .i64 m.Entry.Op.Vol, .int .i64 m.Entry.Op.At, .int .i64 m.Entry.Op.Value, .int .i64 m.Last, .slice X13 m.Log.length x13, .int .i64 m.Commit] ∧ X13 = none ∧ x13 = 0 ∧ Turn [wr.heap.size] W1 W)
          case first =>
            by_cases hal : at' < n.Log.length
            · have hal' : (at' : Int) < (n.Log.length : Int) := by omega
              have eM : prepM i v (beatC n i) n.Log k at' = ⟨1, i, k, v, at', true, n.Log[at'], 0, [], beatC n i⟩ := by
                unfold prepM; rw [if_pos hal']; simp [List.getElem?_eq_getElem hal]
              have HE := Lib.hid (HFK.out.trans eM)
              clear eM
              have u5 := mB.cell (j := 5) rfl
              have z5 := mB.frozen 5
              go_upto_region 20 with fail
              have mB2 := mB.set0 5 (.bool true)
              simp only [List.set_cons_zero, List.set_cons_succ] at mB2
              refine at_world (fun W => Blk W wr.heap.size 51 [.int .i64 1, .int .i64 i, .int .i64 k, .int .i64 v, .int .i64 at', .bool true, .int .i64 0, .int .i64 0, .int .i64 0, .int .i64 0, .int .i64 0, .int .i64 0, .int .i64 0, .slice none 0 0, .int .i64 (beatC n i)] ∧ Turn [wr.heap.size] W1 W) ⟨mB2, (Turn.refl _ _).set (by simp) _⟩ ?_
              rintro W2 ⟨mB3, t2⟩
              clear mB mB2 u5 z5 m4 n5
              have s2 := t2.size
              have nB2 := nB1.turn t2 (by simp; omega)
              have n5 := nB2.cell (j := 5) rfl
              have m4 := mB3.cell (j := 4) rfl
              have bw2 : Below w.heap.size w W2 := (below_trans bwr bbm).trans (t2.below (B := w.heap.size) (by intro y hy; simp at hy; omega) (by omega))
              obtain ⟨a5, ea5, hx⟩ := (h5.below bw2).at_ hal
              subst ea5
              generalize n.Log[at'] = ent at hx HE
              simp only [show kEntry.sz = 6 from rfl] at hx
              obtain ⟨x0, x1, x2, x3, x4, x5⟩ := atEntry hx
              clear hx
              have v6 := mB3.cell (j := 6) rfl
              have y6 := mB3.frozen 6
              have v7 := mB3.cell (j := 7) rfl
              have y7 := mB3.frozen 7
              have v8 := mB3.cell (j := 8) rfl
              have y8 := mB3.frozen 8
              have v9 := mB3.cell (j := 9) rfl
              have y9 := mB3.frozen 9
              have v10 := mB3.cell (j := 10) rfl
              have y10 := mB3.frozen 10
              have v11 := mB3.cell (j := 11) rfl
              have y11 := mB3.frozen 11
              go_wp2_with fail
              go_meet
              have mB4 := (((((mB3.set0 6 (.int .i64 ent.Client)).set0 7 (.int .i64 ent.Seq)).set0 8 (.int .i64 ent.Op.Kind)).set0 9 (.int .i64 ent.Op.Vol)).set0 10 (.int .i64 ent.Op.At)).set0 11 (.int .i64 ent.Op.Value)
              simp only [List.set_cons_zero, List.set_cons_succ] at mB4
              rw [HM.out, HE.out]
              exact ⟨rfl, rfl, none, 0, mB4, rfl, rfl, t2.trans (((((((Turn.refl [wr.heap.size] W2).set (p := ⟨wr.heap.size, 6, none⟩) (by simp) _).set (p := ⟨wr.heap.size, 7, none⟩) (by simp) _).set (p := ⟨wr.heap.size, 8, none⟩) (by simp) _).set (p := ⟨wr.heap.size, 9, none⟩) (by simp) _).set (p := ⟨wr.heap.size, 10, none⟩) (by simp) _).set (p := ⟨wr.heap.size, 11, none⟩) (by simp) _)⟩
            · have hal' : ¬ (at' : Int) < (n.Log.length : Int) := by omega
              have eM : prepM i v (beatC n i) n.Log k at' = ⟨1, i, k, v, at', false, zEntry, 0, [], beatC n i⟩ := by
                unfold prepM; rw [if_neg hal']
              have HE := Lib.hid (HFK.out.trans eM)
              clear eM
              go_wp2_with fail
              go_meet
              rw [HM.out, HE.out]
              exact ⟨rfl, rfl, none, 0, mB, rfl, rfl, Turn.refl _ _⟩
          case rest =>
            obtain ⟨rfl, rfl, X13, x13, mB2, hX, hx13, t2⟩ := hcut
            have HX := Lib.hid hX
            have HX2 := Lib.hid hx13
            clear hX hx13
            obtain ⟨W2, hW2⟩ : ∃ W, W = wc := ⟨_, rfl⟩
            subst hW2
            have hml : m.Log = [] := by rw [HM.out, HFK.out]; unfold prepM; split <;> rfl
            have hsv : allTo (fun (k : Nat) => prepM i v (beatC n i) n.Log k (n.Oks.getD k 0)) i (k + 1) = ys ++ [m] := by rw [HM.out]; exact HSU.out
            have HSV := Lib.hid hsv
            clear mB m4 n5 nB1 HFK hsv HSU
            have s2 := t2.size
            have rB1 := (rBr.below bbm).turn t2 (by simp; omega)
            have ow2 := (OwnS.bel' ow bbm).turn t2 (fun y hy h => by simp at h; have := (hin y hy).2; omega)
            have hT2 : Turn [w3.heap.size] V W2 := ht.fresh ((Turn.of_below bbm).trans t2) (fun y hy => by right; simp at hy; omega)
            have u0 := mB2.cell (j := 0) rfl
            have u1 := mB2.cell (j := 1) rfl
            have u2 := mB2.cell (j := 2) rfl
            have u3 := mB2.cell (j := 3) rfl
            have u4 := mB2.cell (j := 4) rfl
            have u5 := mB2.cell (j := 5) rfl
            have u6 := mB2.cell (j := 6) rfl
            have u7 := mB2.cell (j := 7) rfl
            have u8 := mB2.cell (j := 8) rfl
            have u9 := mB2.cell (j := 9) rfl
            have u10 := mB2.cell (j := 10) rfl
            have u11 := mB2.cell (j := 11) rfl
            have u12 := mB2.cell (j := 12) rfl
            have u13 := mB2.cell (j := 13) rfl
            have u14 := mB2.cell (j := 14) rfl
            have q11 := rB1.cell (j := 11) rfl
            have oL : kMail.Own w1.heap.size (W2.alloc (.cells #[.int .i64 m.Kind, .int .i64 m.From, .int .i64 m.To, .int .i64 m.View, .int .i64 m.At, .bool m.Has, .int .i64 m.Entry.Client, .int .i64 m.Entry.Seq, .int .i64 m.Entry.Op.Kind, .int .i64 m.Entry.Op.Vol, .int .i64 m.Entry.Op.At, .int .i64 m.Entry.Op.Value, .int .i64 m.Last, .slice X13 m.Log.length x13, .int .i64 m.Commit] 51)) [] [.int .i64 m.Kind, .int .i64 m.From, .int .i64 m.To, .int .i64 m.View, .int .i64 m.At, .bool m.Has, .int .i64 m.Entry.Client, .int .i64 m.Entry.Seq, .int .i64 m.Entry.Op.Kind, .int .i64 m.Entry.Op.Vol, .int .i64 m.Entry.Op.At, .int .i64 m.Entry.Op.Value, .int .i64 m.Last, .slice X13 m.Log.length x13, .int .i64 m.Commit] m := kMail_ownmk m (h13 := by rw [hml, HX.out, HX2.out]; exact ownS_nil _ _ _)
            have hl6 := lies_alloc W2 #[.int .i64 m.Kind, .int .i64 m.From, .int .i64 m.To, .int .i64 m.View, .int .i64 m.At, .bool m.Has, .int .i64 m.Entry.Client, .int .i64 m.Entry.Seq, .int .i64 m.Entry.Op.Kind, .int .i64 m.Entry.Op.Vol, .int .i64 m.Entry.Op.At, .int .i64 m.Entry.Op.Value, .int .i64 m.Last, .slice X13 m.Log.length x13, .int .i64 m.Commit] 51
            have bal := below_alloc (Below.refl W2.heap.size W2) (.cells #[.int .i64 m.Kind, .int .i64 m.From, .int .i64 m.To, .int .i64 m.View, .int .i64 m.At, .bool m.Has, .int .i64 m.Entry.Client, .int .i64 m.Entry.Seq, .int .i64 m.Entry.Op.Kind, .int .i64 m.Entry.Op.Vol, .int .i64 m.Entry.Op.At, .int .i64 m.Entry.Op.Value, .int .i64 m.Last, .slice X13 m.Log.length x13, .int .i64 m.Commit] 51)
            have OW := Lib.hid (OwnS.bel' ow2 bal)
            have y7 := rB1.below bal
            have nrq : w3.heap.size ∉ fq := fun h => by have := hfr _ h; omega
            have HML := Lib.hid hml
            have bsw := bw6.size
            have bsw1 := bw1.size
            have s13 : w1.heap.size ≤ W2.heap.size := by omega
            clear ow ow2 hml
            go_wp2_with (refine wpList_app (d := kMail) (zs := [m]) (ys := ys) (fp := fq) (fs := []) (B := w1.heap.size) rfl _ _ 31 51 rfl (by kernel_rfl) (by kernel_rfl) rfl rfl OW.out ndq (Src.ofSlice (P := Tryz.prog) (e' := 51) _ (by kernel_rfl) ⟨W2.heap.size, 0, none⟩ 1 1 _ rfl hl6 (kMail.rd_one (kMail.own_rd oL))) (OwnL.single oL) List.nodup_nil (fun _ _ hm => by cases hm) (by simp; omega) (by rw [Deep.nblk_alloc]; omega) ?_; intro v' w' fp2 hgr; obtain ⟨r1, r2, r3, r4⟩ := hgr; obtain ⟨A2, cA2, rfl, _⟩ := r1.form; have yA := y7.keep (w' := w') (r3.block _ y7.lt nrq); have qA := yA.cell (j := 11) rfl; have fA := yA.frozen 11)
            have hfr2 : ∀ y ∈ fp2, V.heap.size ≤ y := fun y hy => by
              rcases r4 y hy with h | h | h
              · exact hfr y h
              · cases h
              · rw [Deep.nblk_alloc] at h; omega
            have hr2 : w3.heap.size ∉ fp2 := fun h => by have := hfr2 _ h; omega
            rw [show (ys ++ [m]).length = ys.length + 1 by simp, ← HSV.out] at r1
            have hT : Turn [w3.heap.size] V w' := Turn.fresh (hT2.trans (Turn.of_below bal)) r3 (fun y hy => .inr (hfr y hy))
            exact ⟨⟨k + 1, hlt, by go_num, .slice A2 (ys.length + 1) cA2, fp2, OwnS.turn r1 ((Turn.refl [w3.heap.size] w').set (p := ⟨w3.heap.size, 11, none⟩) (by simp) _) (fun y hy hm => hr2 (by simp at hm; exact hm ▸ hy)), r2, yA.set0 11 _, hT.set (p := ⟨w3.heap.size, 11, none⟩) (by simp) _, hfr2⟩, by simp [intOf]; omega⟩
      · have hk' : k = s := by omega
        subst hk'
        obtain ⟨AS, cS, rfl, _⟩ := ow.form
        replace zB := zB.turn ht (by simp; omega)
        replace o5 := o5.turn ht (fun y hy h => by simp at h; have := k5 y hy; omega)
        replace o7 := o7.turn ht (fun y hy h => by simp at h; have := k7 y hy; omega)
        replace o8 := o8.turn ht (fun y hy h => by simp at h; have := k8 y hy; omega)
        replace o9 := o9.turn ht (fun y hy h => by simp at h; have := k9 y hy; omega)
        have os : OwnS kMail 51 w1.heap.size wr fq (.slice AS (beatL n i k v).length cS) (beatL n i k v) := ow
        have rBF : Blk wr w3.heap.size 33 [.int .i64 0, .int .i64 n.Id, .int .i64 n.Size, .int .i64 n.View, .bool n.Normal, .int .i64 n.Last, .slice B5 n.Log.length d5, .int .i64 (beatC n i), .slice B7 n.Oks.length d7, .slice B8 n.Asks.length d8, .slice B9 n.Doers.length d9, .slice AS (beatL n i k v).length cS] := rBr
        clear ow rBr rB6
        have bwF := bwr
        have nn : (f5 ++ (f7 ++ (f8 ++ (f9 ++ fq)))).Nodup := by
          rw [show f5 ++ (f7 ++ (f8 ++ (f9 ++ fq))) = (f5 ++ (f7 ++ (f8 ++ f9))) ++ fq by simp]
          refine List.nodup_append.2 ⟨nd, ndq, fun x hx y hy e => ?_⟩
          have h1 := hfr y hy
          simp only [List.mem_append] at hx
          rcases hx with h | h | h | h
          · have := (k5 x h).2; omega
          · have := (k7 x h).2; omega
          · have := (k8 x h).2; omega
          · have := (k9 x h).2; omega
        have u0 := rBF.cell (j := 0) rfl
        have u1 := rBF.cell (j := 1) rfl
        have u2 := rBF.cell (j := 2) rfl
        have u3 := rBF.cell (j := 3) rfl
        have u4 := rBF.cell (j := 4) rfl
        have u5 := rBF.cell (j := 5) rfl
        have u6 := rBF.cell (j := 6) rfl
        have u7 := rBF.cell (j := 7) rfl
        have u8 := rBF.cell (j := 8) rfl
        have u9 := rBF.cell (j := 9) rfl
        have u10 := rBF.cell (j := 10) rfl
        have u11 := rBF.cell (j := 11) rfl
        have r0 := zB.cell (j := 0) rfl
        have y0 := zB.frozen 0
        have r1 := zB.cell (j := 1) rfl
        have y1 := zB.frozen 1
        have r2 := zB.cell (j := 2) rfl
        have y2 := zB.frozen 2
        have r3 := zB.cell (j := 3) rfl
        have y3 := zB.frozen 3
        have r4 := zB.cell (j := 4) rfl
        have y4 := zB.frozen 4
        have r5 := zB.cell (j := 5) rfl
        have y5 := zB.frozen 5
        have r6 := zB.cell (j := 6) rfl
        have y6 := zB.frozen 6
        have r7 := zB.cell (j := 7) rfl
        have y7 := zB.frozen 7
        have r8 := zB.cell (j := 8) rfl
        have y8 := zB.frozen 8
        have r9 := zB.cell (j := 9) rfl
        have y9 := zB.frozen 9
        have r10 := zB.cell (j := 10) rfl
        have y10 := zB.frozen 10
        have r11 := zB.cell (j := 11) rfl
        have y11 := zB.frozen 11
        clear zB rBF
        go_wp2_with fail
        refine bodyPost_ret (v := .agg #[.int .i64 0, .int .i64 n.Id, .int .i64 n.Size, .int .i64 n.View, .bool n.Normal, .int .i64 n.Last, .slice B5 n.Log.length d5, .int .i64 (beatC n i), .slice B7 n.Oks.length d7, .slice B8 n.Asks.length d8, .slice B9 n.Doers.length d9, .slice AS (beatL n i k v).length cS]) (by simp [results, Tryz.results16, go_sem, r0, r1, r2, r3, r4, r5, r6, r7, r8, r9, r10, r11]) rfl ?_
        refine ⟨B5, d5, B7, d7, B8, d8, B9, d9, AS, cS, f5, f7, f8, f9, fq, rfl, ⟨?_, ?_, ?_, ?_, ?_, nn⟩, ?_⟩
        · refine OwnS.past (lo := w.heap.size + 2) (w := wr) (o5.lift (B' := w.heap.size + 2) (fun y hy => by have := (o5.in y hy).1; omega)) ?_ (by omega) (by omega)
          repeat (first | (with_reducible exact Past.refl _ _) | (with_reducible refine Past.set ?_ (by omega) _))
        · refine OwnS.past (lo := w.heap.size + 2) (w := wr) (o7.lift (B' := w.heap.size + 2) (fun y hy => by have := (o7.in y hy).1; omega)) ?_ (by omega) (by omega)
          repeat (first | (with_reducible exact Past.refl _ _) | (with_reducible refine Past.set ?_ (by omega) _))
        · refine OwnS.past (lo := w.heap.size + 2) (w := wr) (o8.lift (B' := w.heap.size + 2) (fun y hy => by have := (o8.in y hy).1; omega)) ?_ (by omega) (by omega)
          repeat (first | (with_reducible exact Past.refl _ _) | (with_reducible refine Past.set ?_ (by omega) _))
        · refine OwnS.past (lo := w.heap.size + 2) (w := wr) (o9.lift (B' := w.heap.size + 2) (fun y hy => by have := (o9.in y hy).1; omega)) ?_ (by omega) (by omega)
          repeat (first | (with_reducible exact Past.refl _ _) | (with_reducible refine Past.set ?_ (by omega) _))
        · refine OwnS.past (lo := w.heap.size + 2) (w := wr) (os.lift (B' := w.heap.size + 2) (fun y hy => by have := (os.in y hy).1; omega)) ?_ (by omega) (by omega)
          repeat (first | (with_reducible exact Past.refl _ _) | (with_reducible refine Past.set ?_ (by omega) _))
        · repeat (first | (with_reducible assumption) | (with_reducible exact Below.refl _ _) | (with_reducible apply below_alloc) | (with_reducible apply below_drewN) | (with_reducible apply Below.drew) | (with_reducible refine below_set ?_ (by dsimp only; omega) _) | (with_reducible refine below_trans ?_ (by assumption)))
end Go.Proofs.YtdjfehjddfbbjaaGreat
