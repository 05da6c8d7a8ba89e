/- BeatAt: the program's and the reference's (written by gJ10.py, own work). -/
import Derived.Test.YtoohhkmlgmeolaaGreatZJ9
import Derived.Test.YtoohhkmlgmeolaaGreatZO6
set_option linter.unusedVariables false
set_option linter.unusedSimpArgs false
namespace Go.Proofs.YtoohhkmlgmeolaaGreat
open Go Go.RowKit Mk
set_option maxRecDepth 100000 in
set_option maxHeartbeats 4000000 in
theorem iBeatAt_c (c : SCluster) (k : Int) (A0 : Option Addr) (c0 : Nat) (A1 : Option Addr) (c1 : Nat) (A2 : Option Addr) (c2 : Nat) (w : World) (h0 : RdS kReplica w A0 c0 c.Nodes) (h1 : RdS kMail w A1 c1 c.Mails) (h2 : RdS kEntry w A2 c2 c.Sealed) :
    Calls Tryz.prog 53 #[.agg #[.slice A0 c.Nodes.length c0, .slice A1 c.Mails.length c1, .slice A2 c.Sealed.length c2], .int .i64 k] w fun r w' => LaidClusterResult (atX beatX c k) w r w' := by
  have HD := Lib.hid (fun (W : World) => nodeDone_any 76 #[] (Go.Proofs.enters_of Tryz.func76 (by kernel_rfl) rfl) beatX c k A0 c0 A1 c1 A2 c2 W)
  generalize atX beatX c k = X at HD ⊢
  go_enter Tryz.func53, Tryz.ntmps53
  go_wp2_with fail
  refine (HD.out _ (h0.below (by repeat (first | (with_reducible assumption) | (with_reducible exact Below.refl _ _) | (with_reducible apply below_alloc) | (with_reducible apply below_drewN) | (with_reducible apply Below.drew) | (with_reducible refine below_set ?_ (by dsimp only; omega) _) | (with_reducible refine below_trans ?_ (by assumption))))) (h1.below (by repeat (first | (with_reducible assumption) | (with_reducible exact Below.refl _ _) | (with_reducible apply below_alloc) | (with_reducible apply below_drewN) | (with_reducible apply Below.drew) | (with_reducible refine below_set ?_ (by dsimp only; omega) _) | (with_reducible refine below_trans ?_ (by assumption))))) (h2.below (by repeat (first | (with_reducible assumption) | (with_reducible exact Below.refl _ _) | (with_reducible apply below_alloc) | (with_reducible apply below_drewN) | (with_reducible apply Below.drew) | (with_reducible refine below_set ?_ (by dsimp only; omega) _) | (with_reducible refine below_trans ?_ (by assumption))))) (beat_verb _)).mono ?_
  rintro r w1 ⟨P1, a1, P2, a2, P3, a3, p1, p2, p3, rfl, ⟨o1, o2, o3, nd⟩, hb1⟩
  have zB : Blk w1 (w.heap.size + 1) 74 [.int .i64 0, .slice none 0 0, .slice none 0 0, .slice none 0 0] := by
    have := (blk_alloc (w.alloc (.cells #[.slice A0 c.Nodes.length c0, .slice A1 c.Mails.length c1, .slice A2 c.Sealed.length c2] 42)) [.int .i64 0, .slice none 0 0, .slice none 0 0, .slice none 0 0] 74).below hb1
    rwa [Deep.nblk_alloc] at this
  have lo1 : w.heap.size + 2 ≤ w1.heap.size := by have := hb1.size; simp only [Deep.nblk_alloc] at this; omega
  have r0 := zB.cell (j := 0) rfl
  have y0 := zB.frozen 0
  have r1 := zB.cell (j := 1) rfl
  have y1 := zB.frozen 1
  have r2 := zB.cell (j := 2) rfl
  have y2 := zB.frozen 2
  have r3 := zB.cell (j := 3) rfl
  have y3 := zB.frozen 3
  clear zB
  go_wp2_with fail
  refine bodyPost_ret (v := .agg #[.int .i64 X.Code, .slice P1 X.Cluster.Nodes.length a1, .slice P2 X.Cluster.Mails.length a2, .slice P3 X.Cluster.Sealed.length a3]) (by simp [results, Tryz.results53, go_sem, r0, r1, r2, r3]) rfl ?_
  refine ⟨P1, a1, P2, a2, P3, a3, p1, p2, p3, rfl, ⟨?_, ?_, ?_, nd⟩, ?_⟩
  · refine OwnS.past (lo := w.heap.size + 2) (w := w1) o1 ?_ (by simp only [Deep.nblk_alloc]; omega) (by simp only [Deep.nblk_alloc]; omega)
    repeat (first | (with_reducible exact Past.refl _ _) | (with_reducible refine Past.set ?_ (by omega) _))
  · refine OwnS.past (lo := w.heap.size + 2) (w := w1) o2 ?_ (by simp only [Deep.nblk_alloc]; omega) (by simp only [Deep.nblk_alloc]; omega)
    repeat (first | (with_reducible exact Past.refl _ _) | (with_reducible refine Past.set ?_ (by omega) _))
  · refine OwnS.past (lo := w.heap.size + 2) (w := w1) o3 ?_ (by simp only [Deep.nblk_alloc]; omega) (by simp only [Deep.nblk_alloc]; omega)
    repeat (first | (with_reducible exact Past.refl _ _) | (with_reducible refine Past.set ?_ (by omega) _))
  · repeat (first | (with_reducible assumption) | (with_reducible exact Below.refl _ _) | (with_reducible apply below_alloc) | (with_reducible apply below_drewN) | (with_reducible apply Below.drew) | (with_reducible refine below_set ?_ (by dsimp only; omega) _) | (with_reducible refine below_trans ?_ (by assumption)))
set_option maxRecDepth 100000 in
set_option maxHeartbeats 4000000 in
theorem sBeatAt_fault (c : SCluster) (k : Int) (A0 : Option Addr) (c0 : Nat) (A1 : Option Addr) (c1 : Nat) (A2 : Option Addr) (c2 : Nat) (w : World) (h0 : RdS kReplica w A0 c0 c.Nodes) (h1 : RdS kMail w A1 c1 c.Mails) (h2 : RdS kEntry w A2 c2 c.Sealed) (q : (clusF c != 0) = true) :
    Calls Tryz.prog 52 #[.agg #[.slice A0 c.Nodes.length c0, .slice A1 c.Mails.length c1, .slice A2 c.Sealed.length c2], .int .i64 k] w fun r w' => LaidClusterResult (badClusterResult (clusF c)) w r w' := by
  have hat := boxCluster w c 42 h0 h1 h2
  have ba : Below (w.alloc (.cells #[.slice A0 c.Nodes.length c0, .slice A1 c.Mails.length c1, .slice A2 c.Sealed.length c2] 42)).heap.size (w.alloc (.cells #[.slice A0 c.Nodes.length c0, .slice A1 c.Mails.length c1, .slice A2 c.Sealed.length c2] 42)) ((w.alloc (.cells #[.slice A0 c.Nodes.length c0, .slice A1 c.Mails.length c1, .slice A2 c.Sealed.length c2] 42)).alloc (.cells #[.int .i64 0, .slice none 0 0, .slice none 0 0, .slice none 0 0] 74)) := below_alloc (Below.refl _ _) _
  go_enter Tryz.func52, Tryz.ntmps52
  go_wp2_with fail
  refine (l11Node_fault c k _ _ (hat.below ba) q).mono ?_
  rintro e w1 ⟨rfl, hb1⟩
  have bw1 : Below w.heap.size w w1 := below_trans (below_alloc (below_alloc (Below.refl _ _) _) _) hb1
  have xB : Blk w1 w.heap.size 42 [.slice A0 c.Nodes.length c0, .slice A1 c.Mails.length c1, .slice A2 c.Sealed.length c2] := ((blk_alloc w [.slice A0 c.Nodes.length c0, .slice A1 c.Mails.length c1, .slice A2 c.Sealed.length c2] 42).below (below_alloc (Below.refl _ _) _)).below hb1
  have zB : Blk w1 (w.heap.size + 1) 74 [.int .i64 0, .slice none 0 0, .slice none 0 0, .slice none 0 0] := by
    have := (blk_alloc (w.alloc (.cells #[.slice A0 c.Nodes.length c0, .slice A1 c.Mails.length c1, .slice A2 c.Sealed.length c2] 42)) [.int .i64 0, .slice none 0 0, .slice none 0 0, .slice none 0 0] 74).below hb1
    rwa [Deep.nblk_alloc] at this
  have lo1 : w.heap.size + 2 ≤ w1.heap.size := by have := hb1.size; simp only [Deep.nblk_alloc] at this; omega
  clear hb1 ba hat
  go_wp2_with fail
  refine (l11Bad_c _ w1).mono ?_
  rintro r w2 ⟨rfl, hb2⟩
  have zB2 := zB.below hb2
  have bw2 := below_trans bw1 hb2
  have r0 := zB2.cell (j := 0) rfl
  have y0 := zB2.frozen 0
  have r1 := zB2.cell (j := 1) rfl
  have y1 := zB2.frozen 1
  have r2 := zB2.cell (j := 2) rfl
  have y2 := zB2.frozen 2
  have r3 := zB2.cell (j := 3) rfl
  have y3 := zB2.frozen 3
  clear zB zB2
  go_wp2_with fail
  refine bodyPost_ret (v := .agg #[.int .i64 (clusF c), .slice none 0 0, .slice none 0 0, .slice none 0 0]) (by simp [results, Tryz.results52, go_sem, r0, r1, r2, r3]) rfl (LaidClusterResult.bad _ ?_)
  repeat (first | (with_reducible assumption) | (with_reducible exact Below.refl _ _) | (with_reducible apply below_alloc) | (with_reducible apply below_drewN) | (with_reducible apply Below.drew) | (with_reducible refine below_set ?_ (by dsimp only; omega) _) | (with_reducible refine below_trans ?_ (by assumption)))
set_option maxRecDepth 100000 in
set_option maxHeartbeats 4000000 in
theorem sBeatAt_range (c : SCluster) (k : Int) (A0 : Option Addr) (c0 : Nat) (A1 : Option Addr) (c1 : Nat) (A2 : Option Addr) (c2 : Nat) (w : World) (h0 : RdS kReplica w A0 c0 c.Nodes) (h1 : RdS kMail w A1 c1 c.Mails) (h2 : RdS kEntry w A2 c2 c.Sealed) (q : (clusF c != 0) = false) (q2 : wi k 0 (c.Nodes.length - 1) = false) :
    Calls Tryz.prog 52 #[.agg #[.slice A0 c.Nodes.length c0, .slice A1 c.Mails.length c1, .slice A2 c.Sealed.length c2], .int .i64 k] w fun r w' => LaidClusterResult (badClusterResult 3) w r w' := by
  have hat := boxCluster w c 42 h0 h1 h2
  have ba : Below (w.alloc (.cells #[.slice A0 c.Nodes.length c0, .slice A1 c.Mails.length c1, .slice A2 c.Sealed.length c2] 42)).heap.size (w.alloc (.cells #[.slice A0 c.Nodes.length c0, .slice A1 c.Mails.length c1, .slice A2 c.Sealed.length c2] 42)) ((w.alloc (.cells #[.slice A0 c.Nodes.length c0, .slice A1 c.Mails.length c1, .slice A2 c.Sealed.length c2] 42)).alloc (.cells #[.int .i64 0, .slice none 0 0, .slice none 0 0, .slice none 0 0] 74)) := below_alloc (Below.refl _ _) _
  go_enter Tryz.func52, Tryz.ntmps52
  go_wp2_with fail
  refine (l11Node_range c k _ _ (hat.below ba) q q2).mono ?_
  rintro e w1 ⟨rfl, hb1⟩
  have bw1 : Below w.heap.size w w1 := below_trans (below_alloc (below_alloc (Below.refl _ _) _) _) hb1
  have xB : Blk w1 w.heap.size 42 [.slice A0 c.Nodes.length c0, .slice A1 c.Mails.length c1, .slice A2 c.Sealed.length c2] := ((blk_alloc w [.slice A0 c.Nodes.length c0, .slice A1 c.Mails.length c1, .slice A2 c.Sealed.length c2] 42).below (below_alloc (Below.refl _ _) _)).below hb1
  have zB : Blk w1 (w.heap.size + 1) 74 [.int .i64 0, .slice none 0 0, .slice none 0 0, .slice none 0 0] := by
    have := (blk_alloc (w.alloc (.cells #[.slice A0 c.Nodes.length c0, .slice A1 c.Mails.length c1, .slice A2 c.Sealed.length c2] 42)) [.int .i64 0, .slice none 0 0, .slice none 0 0, .slice none 0 0] 74).below hb1
    rwa [Deep.nblk_alloc] at this
  have lo1 : w.heap.size + 2 ≤ w1.heap.size := by have := hb1.size; simp only [Deep.nblk_alloc] at this; omega
  clear hb1 ba hat
  go_wp2_with fail
  refine (l11Bad_c _ w1).mono ?_
  rintro r w2 ⟨rfl, hb2⟩
  have zB2 := zB.below hb2
  have bw2 := below_trans bw1 hb2
  have r0 := zB2.cell (j := 0) rfl
  have y0 := zB2.frozen 0
  have r1 := zB2.cell (j := 1) rfl
  have y1 := zB2.frozen 1
  have r2 := zB2.cell (j := 2) rfl
  have y2 := zB2.frozen 2
  have r3 := zB2.cell (j := 3) rfl
  have y3 := zB2.frozen 3
  clear zB zB2
  go_wp2_with fail
  refine bodyPost_ret (v := .agg #[.int .i64 3, .slice none 0 0, .slice none 0 0, .slice none 0 0]) (by simp [results, Tryz.results52, go_sem, r0, r1, r2, r3]) rfl (LaidClusterResult.bad _ ?_)
  repeat (first | (with_reducible assumption) | (with_reducible exact Below.refl _ _) | (with_reducible apply below_alloc) | (with_reducible apply below_drewN) | (with_reducible apply Below.drew) | (with_reducible refine below_set ?_ (by dsimp only; omega) _) | (with_reducible refine below_trans ?_ (by assumption)))
set_option maxRecDepth 100000 in
set_option maxHeartbeats 4000000 in
theorem sBeatAt_code (c : SCluster) (k : Nat) (n : SReplica) (A0 : Option Addr) (c0 : Nat) (A1 : Option Addr) (c1 : Nat) (A2 : Option Addr) (c2 : Nat) (w : World) (h0 : RdS kReplica w A0 c0 c.Nodes) (h1 : RdS kMail w A1 c1 c.Mails) (h2 : RdS kEntry w A2 c2 c.Sealed) (q : (clusF c != 0) = false) (hk : k < c.Nodes.length) (hn : c.Nodes[k] = n) (hf : FitsRR n (beatX n)) (q3 : ((beatX n).Code != 0) = true) :
    Calls Tryz.prog 52 #[.agg #[.slice A0 c.Nodes.length c0, .slice A1 c.Mails.length c1, .slice A2 c.Sealed.length c2], .int .i64 k] w fun r w' => LaidClusterResult (badClusterResult (beatX n).Code) w r w' := by
  have hN := clusF_nums q
  have hsm := hN.small
  have hn5 := hN.n5
  have hm120 := hN.mails
  have hlt' : (k : Int) < (c.Nodes.length : Int) := by omega
  have q2 : wi (k : Int) 0 (c.Nodes.length - 1) = true := by unfold wi; rw [decide_eq_true (by omega), decide_eq_true (by omega)]; rfl
  have HS := Lib.hid (sBeatReplica_c n)
  generalize beatX n = X at HS hf q3 ⊢
  have hat := boxCluster w c 42 h0 h1 h2
  have ba : Below (w.alloc (.cells #[.slice A0 c.Nodes.length c0, .slice A1 c.Mails.length c1, .slice A2 c.Sealed.length c2] 42)).heap.size (w.alloc (.cells #[.slice A0 c.Nodes.length c0, .slice A1 c.Mails.length c1, .slice A2 c.Sealed.length c2] 42)) ((w.alloc (.cells #[.slice A0 c.Nodes.length c0, .slice A1 c.Mails.length c1, .slice A2 c.Sealed.length c2] 42)).alloc (.cells #[.int .i64 0, .slice none 0 0, .slice none 0 0, .slice none 0 0] 74)) := below_alloc (Below.refl _ _) _
  have hnode := Lib.hid (l11Node_fine c k _ _ (hat.below ba) q q2)
  have HN := Lib.hid hn
  clear q q2 hN hn
  go_enter Tryz.func52, Tryz.ntmps52
  go_wp2_with fail
  refine hnode.out.mono ?_
  rintro e w1 ⟨rfl, hb1⟩
  have bw1 : Below w.heap.size w w1 := below_trans (below_alloc (below_alloc (Below.refl _ _) _) _) hb1
  have xB : Blk w1 w.heap.size 42 [.slice A0 c.Nodes.length c0, .slice A1 c.Mails.length c1, .slice A2 c.Sealed.length c2] := ((blk_alloc w [.slice A0 c.Nodes.length c0, .slice A1 c.Mails.length c1, .slice A2 c.Sealed.length c2] 42).below (below_alloc (Below.refl _ _) _)).below hb1
  have zB : Blk w1 (w.heap.size + 1) 74 [.int .i64 0, .slice none 0 0, .slice none 0 0, .slice none 0 0] := by
    have := (blk_alloc (w.alloc (.cells #[.slice A0 c.Nodes.length c0, .slice A1 c.Mails.length c1, .slice A2 c.Sealed.length c2] 42)) [.int .i64 0, .slice none 0 0, .slice none 0 0, .slice none 0 0] 74).below hb1
    rwa [Deep.nblk_alloc] at this
  have lo1 : w.heap.size + 2 ≤ w1.heap.size := by have := hb1.size; simp only [Deep.nblk_alloc] at this; omega
  clear hb1 ba hat hnode
  go_upto_region 4 with fail
  have x0 := xB.cell (j := 0) rfl
  have x1 := xB.cell (j := 1) rfl
  have x2 := xB.cell (j := 2) rfl
  obtain ⟨a, ea, hx⟩ := (h0.below bw1).at_ hk
  subst ea
  rw [HN.out] at hx
  simp only [show kReplica.sz = 10 from rfl] at hx
  obtain ⟨E5, e5, E7, e7, E8, e8, E9, e9, hq⟩ := atReplica hx
  obtain ⟨q0, q1, q2, q3', q4, q5, q6, q7, q8, q9, g5, g7, g8, g9⟩ := hq
  clear hx
  go_region_with (first | (go_at_call 23; refine (HS.out E5 e5 E7 e7 E8 e8 E9 e9 _ (g5.below (by repeat (first | (with_reducible assumption) | (with_reducible exact Below.refl _ _) | (with_reducible apply below_alloc) | (with_reducible apply below_drewN) | (with_reducible apply Below.drew) | (with_reducible refine below_set ?_ (by dsimp only; omega) _) | (with_reducible refine below_trans ?_ (by assumption))))) (g7.below (by repeat (first | (with_reducible assumption) | (with_reducible exact Below.refl _ _) | (with_reducible apply below_alloc) | (with_reducible apply below_drewN) | (with_reducible apply Below.drew) | (with_reducible refine below_set ?_ (by dsimp only; omega) _) | (with_reducible refine below_trans ?_ (by assumption))))) (g8.below (by repeat (first | (with_reducible assumption) | (with_reducible exact Below.refl _ _) | (with_reducible apply below_alloc) | (with_reducible apply below_drewN) | (with_reducible apply Below.drew) | (with_reducible refine below_set ?_ (by dsimp only; omega) _) | (with_reducible refine below_trans ?_ (by assumption))))) (g9.below (by repeat (first | (with_reducible assumption) | (with_reducible exact Below.refl _ _) | (with_reducible apply below_alloc) | (with_reducible apply below_drewN) | (with_reducible apply Below.drew) | (with_reducible refine below_set ?_ (by dsimp only; omega) _) | (with_reducible refine below_trans ?_ (by assumption)))))).mono ?_; rintro e w2 ⟨R6, d6, R8, d8, R9, d9, R10, d10, R11, d11, f6, f8, f9, f10, f11, rfl, ⟨p6, p8, p9, p10, p11, ndR⟩, hb2⟩; have b2 : Below w1.heap.size w1 w2 := (below_trans (Below.refl _ _).drew hb2); have xB2 := xB.below b2; have t0 := xB2.cell (j := 0) rfl; have t1 := xB2.cell (j := 1) rfl; have t2 := xB2.cell (j := 2) rfl) | (go_at_call 121; refine (l11Do_bad c k X (some a) c0 A1 c1 A2 c2 R6 d6 R8 d8 R9 d9 R10 d10 R11 d11 _ q3).mono ?_; rintro e w3 ⟨P1, a1, P2, a2, P3, a3, s1, s2, s3, rfl, ⟨o1, o2, o3, nd⟩, hb3⟩; have b3 : Below w1.heap.size w1 w3 := below_trans b2 hb3; have l12 := b2.size; have o1 := o1.lift (B' := w1.heap.size) (fun b hb => by have := (o1.in b hb).1; omega); have o2 := o2.lift (B' := w1.heap.size) (fun b hb => by have := (o2.in b hb).1; omega); have o3 := o3.lift (B' := w1.heap.size) (fun b hb => by have := (o3.in b hb).1; omega); have zB3 := zB.below b3; have r0 := zB3.cell (j := 0) rfl; have r1 := zB3.cell (j := 1) rfl; have r2 := zB3.cell (j := 2) rfl; have r3 := zB3.cell (j := 3) rfl; have w0 := zB3.frozen 0; have w1' := zB3.frozen 1; have w2' := zB3.frozen 2; have w3' := zB3.frozen 3; have l13 := b3.size; have bw3 := below_trans bw1 b3))
  all_goals (go_wp2_with fail)
  all_goals
    refine bodyPost_ret (v := .agg #[.int .i64 (badClusterResult X.Code).Code, .slice P1 (badClusterResult X.Code).Cluster.Nodes.length a1, .slice P2 (badClusterResult X.Code).Cluster.Mails.length a2, .slice P3 (badClusterResult X.Code).Cluster.Sealed.length a3]) (by simp [results, Tryz.results52, go_sem, r0, r1, r2, r3]) rfl ?_
    refine ⟨P1, a1, P2, a2, P3, a3, s1, s2, s3, rfl, ⟨?_, ?_, ?_, nd⟩, ?_⟩
    · refine OwnS.past (lo := w.heap.size + 2) (w := w3) o1 ?_ (by omega) (by omega)
      repeat (first | (with_reducible exact Past.refl _ _) | (with_reducible refine Past.set ?_ (by omega) _))
    · refine OwnS.past (lo := w.heap.size + 2) (w := w3) o2 ?_ (by omega) (by omega)
      repeat (first | (with_reducible exact Past.refl _ _) | (with_reducible refine Past.set ?_ (by omega) _))
    · refine OwnS.past (lo := w.heap.size + 2) (w := w3) o3 ?_ (by omega) (by omega)
      repeat (first | (with_reducible exact Past.refl _ _) | (with_reducible refine Past.set ?_ (by omega) _))
    · repeat (first | (with_reducible assumption) | (with_reducible exact Below.refl _ _) | (with_reducible apply below_alloc) | (with_reducible apply below_drewN) | (with_reducible apply Below.drew) | (with_reducible refine below_set ?_ (by dsimp only; omega) _) | (with_reducible refine below_trans ?_ (by assumption)))
set_option maxRecDepth 100000 in
set_option maxHeartbeats 4000000 in
theorem sBeatAt_did (c : SCluster) (k : Nat) (n : SReplica) (A0 : Option Addr) (c0 : Nat) (A1 : Option Addr) (c1 : Nat) (A2 : Option Addr) (c2 : Nat) (w : World) (h0 : RdS kReplica w A0 c0 c.Nodes) (h1 : RdS kMail w A1 c1 c.Mails) (h2 : RdS kEntry w A2 c2 c.Sealed) (q : (clusF c != 0) = false) (hk : k < c.Nodes.length) (hn : c.Nodes[k] = n) (hf : FitsRR n (beatX n)) (q3 : ((beatX n).Code != 0) = false) :
    Calls Tryz.prog 52 #[.agg #[.slice A0 c.Nodes.length c0, .slice A1 c.Mails.length c1, .slice A2 c.Sealed.length c2], .int .i64 k] w fun r w' => LaidClusterResult (⟨0, doneClu c k (beatX n).Replica (beatX n).Send⟩) w r w' := by
  have hN := clusF_nums q
  have hsm := hN.small
  have hn5 := hN.n5
  have hm120 := hN.mails
  have hlt' : (k : Int) < (c.Nodes.length : Int) := by omega
  have q2 : wi (k : Int) 0 (c.Nodes.length - 1) = true := by unfold wi; rw [decide_eq_true (by omega), decide_eq_true (by omega)]; rfl
  have HS := Lib.hid (sBeatReplica_c n)
  generalize beatX n = X at HS hf q3 ⊢
  obtain ⟨n', ms, rfl⟩ : ∃ n' ms, X = ⟨0, n', ms⟩ := ⟨X.Replica, X.Send, by cases X; simp at q3; subst q3; rfl⟩
  obtain ⟨hfin, hrep, hsend, hfew⟩ := hf
  obtain ⟨hc0, hc1⟩ := hfin rfl
  dsimp only at hc0 hc1 hrep hsend hfew
  clear q3
  have hat := boxCluster w c 42 h0 h1 h2
  have ba : Below (w.alloc (.cells #[.slice A0 c.Nodes.length c0, .slice A1 c.Mails.length c1, .slice A2 c.Sealed.length c2] 42)).heap.size (w.alloc (.cells #[.slice A0 c.Nodes.length c0, .slice A1 c.Mails.length c1, .slice A2 c.Sealed.length c2] 42)) ((w.alloc (.cells #[.slice A0 c.Nodes.length c0, .slice A1 c.Mails.length c1, .slice A2 c.Sealed.length c2] 42)).alloc (.cells #[.int .i64 0, .slice none 0 0, .slice none 0 0, .slice none 0 0] 74)) := below_alloc (Below.refl _ _) _
  have hnode := Lib.hid (l11Node_fine c k _ _ (hat.below ba) q q2)
  have HN := Lib.hid hn
  clear q q2 hN hn
  go_enter Tryz.func52, Tryz.ntmps52
  go_wp2_with fail
  refine hnode.out.mono ?_
  rintro e w1 ⟨rfl, hb1⟩
  have bw1 : Below w.heap.size w w1 := below_trans (below_alloc (below_alloc (Below.refl _ _) _) _) hb1
  have xB : Blk w1 w.heap.size 42 [.slice A0 c.Nodes.length c0, .slice A1 c.Mails.length c1, .slice A2 c.Sealed.length c2] := ((blk_alloc w [.slice A0 c.Nodes.length c0, .slice A1 c.Mails.length c1, .slice A2 c.Sealed.length c2] 42).below (below_alloc (Below.refl _ _) _)).below hb1
  have zB : Blk w1 (w.heap.size + 1) 74 [.int .i64 0, .slice none 0 0, .slice none 0 0, .slice none 0 0] := by
    have := (blk_alloc (w.alloc (.cells #[.slice A0 c.Nodes.length c0, .slice A1 c.Mails.length c1, .slice A2 c.Sealed.length c2] 42)) [.int .i64 0, .slice none 0 0, .slice none 0 0, .slice none 0 0] 74).below hb1
    rwa [Deep.nblk_alloc] at this
  have lo1 : w.heap.size + 2 ≤ w1.heap.size := by have := hb1.size; simp only [Deep.nblk_alloc] at this; omega
  clear hb1 ba hat hnode
  go_upto_region 4 with fail
  have x0 := xB.cell (j := 0) rfl
  have x1 := xB.cell (j := 1) rfl
  have x2 := xB.cell (j := 2) rfl
  obtain ⟨a, ea, hx⟩ := (h0.below bw1).at_ hk
  subst ea
  rw [HN.out] at hx
  simp only [show kReplica.sz = 10 from rfl] at hx
  obtain ⟨E5, e5, E7, e7, E8, e8, E9, e9, hq⟩ := atReplica hx
  obtain ⟨q0, q1, q2, q3', q4, q5, q6, q7, q8, q9, g5, g7, g8, g9⟩ := hq
  clear hx
  go_region_with (first | (go_at_call 23; refine (HS.out E5 e5 E7 e7 E8 e8 E9 e9 _ (g5.below (by repeat (first | (with_reducible assumption) | (with_reducible exact Below.refl _ _) | (with_reducible apply below_alloc) | (with_reducible apply below_drewN) | (with_reducible apply Below.drew) | (with_reducible refine below_set ?_ (by dsimp only; omega) _) | (with_reducible refine below_trans ?_ (by assumption))))) (g7.below (by repeat (first | (with_reducible assumption) | (with_reducible exact Below.refl _ _) | (with_reducible apply below_alloc) | (with_reducible apply below_drewN) | (with_reducible apply Below.drew) | (with_reducible refine below_set ?_ (by dsimp only; omega) _) | (with_reducible refine below_trans ?_ (by assumption))))) (g8.below (by repeat (first | (with_reducible assumption) | (with_reducible exact Below.refl _ _) | (with_reducible apply below_alloc) | (with_reducible apply below_drewN) | (with_reducible apply Below.drew) | (with_reducible refine below_set ?_ (by dsimp only; omega) _) | (with_reducible refine below_trans ?_ (by assumption))))) (g9.below (by repeat (first | (with_reducible assumption) | (with_reducible exact Below.refl _ _) | (with_reducible apply below_alloc) | (with_reducible apply below_drewN) | (with_reducible apply Below.drew) | (with_reducible refine below_set ?_ (by dsimp only; omega) _) | (with_reducible refine below_trans ?_ (by assumption)))))).mono ?_; rintro e w2 ⟨R6, d6, R8, d8, R9, d9, R10, d10, R11, d11, f6, f8, f9, f10, f11, rfl, ⟨p6, p8, p9, p10, p11, ndR⟩, hb2⟩; have b2 : Below w1.heap.size w1 w2 := (below_trans (Below.refl _ _).drew hb2); have xB2 := xB.below b2; have t0 := xB2.cell (j := 0) rfl; have t1 := xB2.cell (j := 1) rfl; have t2 := xB2.cell (j := 2) rfl) | (go_at_call 121; refine (l11Do_c c k n n' ms (some a) c0 A1 c1 A2 c2 R6 d6 R8 d8 R9 d9 R10 d10 R11 d11 f6 f8 f9 f10 w1.heap.size _ (h0.below (below_trans bw1 b2)) (h1.below (below_trans bw1 b2)) (h2.below (below_trans bw1 b2)) p6 p8 p9 p10 (by have h := ndR; simp only [← List.append_assoc] at h; simp only [← List.append_assoc]; exact (List.nodup_append.1 h).1) (ownS_rds p11).1 b2.size hsm hn5 hm120 hk HN.out hc0 hc1 hrep hsend hfew).mono ?_; rintro e w3 ⟨P1, a1, P2, a2, P3, a3, s1, s2, s3, rfl, ⟨o1, o2, o3, nd⟩, hb3⟩; have b3 : Below w1.heap.size w1 w3 := below_trans b2 hb3; have zB3 := zB.below b3; have r0 := zB3.cell (j := 0) rfl; have r1 := zB3.cell (j := 1) rfl; have r2 := zB3.cell (j := 2) rfl; have r3 := zB3.cell (j := 3) rfl; have w0 := zB3.frozen 0; have w1' := zB3.frozen 1; have w2' := zB3.frozen 2; have w3' := zB3.frozen 3; have l13 := b3.size; have bw3 := below_trans bw1 b3))
  all_goals (go_wp2_with fail)
  all_goals
    refine bodyPost_ret (v := .agg #[.int .i64 (SClusterResult.mk 0 (doneClu c k n' ms)).Code, .slice P1 (SClusterResult.mk 0 (doneClu c k n' ms)).Cluster.Nodes.length a1, .slice P2 (SClusterResult.mk 0 (doneClu c k n' ms)).Cluster.Mails.length a2, .slice P3 (SClusterResult.mk 0 (doneClu c k n' ms)).Cluster.Sealed.length a3]) (by simp [results, Tryz.results52, go_sem, r0, r1, r2, r3]) rfl ?_
    refine ⟨P1, a1, P2, a2, P3, a3, s1, s2, s3, rfl, ⟨?_, ?_, ?_, nd⟩, ?_⟩
    · refine OwnS.past (lo := w.heap.size + 2) (w := w3) o1 ?_ (by omega) (by omega)
      repeat (first | (with_reducible exact Past.refl _ _) | (with_reducible refine Past.set ?_ (by omega) _))
    · refine OwnS.past (lo := w.heap.size + 2) (w := w3) o2 ?_ (by omega) (by omega)
      repeat (first | (with_reducible exact Past.refl _ _) | (with_reducible refine Past.set ?_ (by omega) _))
    · refine OwnS.past (lo := w.heap.size + 2) (w := w3) o3 ?_ (by omega) (by omega)
      repeat (first | (with_reducible exact Past.refl _ _) | (with_reducible refine Past.set ?_ (by omega) _))
    · repeat (first | (with_reducible assumption) | (with_reducible exact Below.refl _ _) | (with_reducible apply below_alloc) | (with_reducible apply below_drewN) | (with_reducible apply Below.drew) | (with_reducible refine below_set ?_ (by dsimp only; omega) _) | (with_reducible refine below_trans ?_ (by assumption)))
theorem sBeatAt_c (c : SCluster) (k : Int) (A0 : Option Addr) (c0 : Nat) (A1 : Option Addr) (c1 : Nat) (A2 : Option Addr) (c2 : Nat) (w : World) (h0 : RdS kReplica w A0 c0 c.Nodes) (h1 : RdS kMail w A1 c1 c.Mails) (h2 : RdS kEntry w A2 c2 c.Sealed) :
    Calls Tryz.prog 52 #[.agg #[.slice A0 c.Nodes.length c0, .slice A1 c.Mails.length c1, .slice A2 c.Sealed.length c2], .int .i64 k] w fun r w' => LaidClusterResult (atX beatX c k) w r w' := by
  cases q : (clusF c != 0) with
  | true => rw [atX_fault q]; exact sBeatAt_fault c k A0 c0 A1 c1 A2 c2 w h0 h1 h2 q
  | false =>
    cases q2 : wi k 0 (c.Nodes.length - 1) with
    | false => rw [atX_range q q2]; exact sBeatAt_range c k A0 c0 A1 c1 A2 c2 w h0 h1 h2 q q2
    | true =>
      have hw := wi_b q2
      obtain ⟨m, rfl⟩ := Int.eq_ofNat_of_zero_le hw.1
      have hm : m < c.Nodes.length := by omega
      rw [atX_fine q hm]
      have hN := clusF_nums q
      have hf := beat_fits c.Nodes[m] (hN.node m hm).1
      unfold putX
      cases q3 : ((beatX c.Nodes[m]).Code != 0) with
      | true => rw [if_pos rfl]; exact sBeatAt_code c m _ A0 c0 A1 c1 A2 c2 w h0 h1 h2 q hm rfl hf q3
      | false => rw [if_neg (by simp)]; exact sBeatAt_did c m _ A0 c0 A1 c1 A2 c2 w h0 h1 h2 q hm rfl hf q3
theorem atBeatX_small (c : SCluster) (k : Int) : ctL ctReplica (atX beatX c k).Cluster.Nodes + ctL ctMail (atX beatX c k).Cluster.Mails + ctL ctEntry (atX beatX c k).Cluster.Sealed ≤ 100000000000000000 := ctCluster_small (atX_small beat_fits c k)
end Go.Proofs.YtoohhkmlgmeolaaGreat
