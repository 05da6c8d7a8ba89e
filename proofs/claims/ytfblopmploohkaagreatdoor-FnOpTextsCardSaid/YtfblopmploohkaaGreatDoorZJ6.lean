/- What comes of something that a node of a cluster does: the program's nodeDone (written by gJ6.py, own work). -/
import Derived.Test.YtfblopmploohkaaGreatDoorZJ5
set_option linter.unusedVariables false
set_option linter.unusedSimpArgs false
namespace Go.Proofs.YtfblopmploohkaaGreatDoor
open Go Go.RowKit Mk
set_option maxRecDepth 100000 in
set_option maxHeartbeats 4000000 in
theorem nodeDone_fault (v : Value) (c : SCluster) (k : Int) (A0 : Option Addr) (c0 : Nat) (A1 : Option Addr) (c1 : Nat) (A2 : Option Addr) (c2 : Nat) (w : World) (h0 : RdS kReplica w A0 c0 c.Nodes) (h1 : RdS kMail w A1 c1 c.Mails) (h2 : RdS kEntry w A2 c2 c.Sealed) (q : (clusF c != 0) = true) :
    Calls Tryz.prog 71 #[.agg #[.slice A0 c.Nodes.length c0, .slice A1 c.Mails.length c1, .slice A2 c.Sealed.length c2], .int .i64 k, v] w fun r w' => LaidClusterResult (badClusterResult (clusF c)) w r w' := by
  go_enter Tryz.func71, Tryz.ntmps71
  go_wp2_with fail
  refine (clusterFault_c c _ _ _ _ _ _ _ (h0.below (by repeat (first | (with_reducible assumption) | (with_reducible exact Below.refl _ _) | (with_reducible apply below_alloc) | (with_reducible apply below_drewN) | (with_reducible apply Below.drew) | (with_reducible refine below_set ?_ (by dsimp only; omega) _) | (with_reducible refine below_trans ?_ (by assumption))))) (h1.below (by repeat (first | (with_reducible assumption) | (with_reducible exact Below.refl _ _) | (with_reducible apply below_alloc) | (with_reducible apply below_drewN) | (with_reducible apply Below.drew) | (with_reducible refine below_set ?_ (by dsimp only; omega) _) | (with_reducible refine below_trans ?_ (by assumption))))) (h2.below (by repeat (first | (with_reducible assumption) | (with_reducible exact Below.refl _ _) | (with_reducible apply below_alloc) | (with_reducible apply below_drewN) | (with_reducible apply Below.drew) | (with_reducible refine below_set ?_ (by dsimp only; omega) _) | (with_reducible refine below_trans ?_ (by assumption)))))).mono ?_
  rintro e w1 ⟨rfl, hb1⟩
  have bw1 : Below w.heap.size w w1 := by repeat (first | (with_reducible assumption) | (with_reducible exact Below.refl _ _) | (with_reducible apply below_alloc) | (with_reducible apply below_drewN) | (with_reducible apply Below.drew) | (with_reducible refine below_set ?_ (by dsimp only; omega) _) | (with_reducible refine below_trans ?_ (by assumption)))
  have xB : Blk w1 w.heap.size 34 [.slice A0 c.Nodes.length c0, .slice A1 c.Mails.length c1, .slice A2 c.Sealed.length c2] := ((blk_alloc w [.slice A0 c.Nodes.length c0, .slice A1 c.Mails.length c1, .slice A2 c.Sealed.length c2] 34).below (below_alloc (Below.refl _ _) _)).below hb1
  have zB : Blk w1 (w.heap.size + 1) 36 [.int .i64 0, .slice none 0 0, .slice none 0 0, .slice none 0 0] := by
    have := (blk_alloc (w.alloc (.cells #[.slice A0 c.Nodes.length c0, .slice A1 c.Mails.length c1, .slice A2 c.Sealed.length c2] 34)) [.int .i64 0, .slice none 0 0, .slice none 0 0, .slice none 0 0] 36).below hb1
    rwa [Deep.nblk_alloc] at this
  have lo1 : w.heap.size + 2 ≤ w1.heap.size := by have := hb1.size; simp only [Deep.nblk_alloc] at this; omega
  have x0 := xB.cell (j := 0) rfl
  have x1 := xB.cell (j := 1) rfl
  have x2 := xB.cell (j := 2) rfl
  have r0 := zB.cell (j := 0) rfl
  have y0 := zB.frozen 0
  have r1 := zB.cell (j := 1) rfl
  have y1 := zB.frozen 1
  have r2 := zB.cell (j := 2) rfl
  have y2 := zB.frozen 2
  have r3 := zB.cell (j := 3) rfl
  have y3 := zB.frozen 3
  go_wp2_with fail
  refine bodyPost_ret (v := .agg #[.int .i64 (clusF c), .slice none 0 0, .slice none 0 0, .slice none 0 0]) (by simp [results, Tryz.results71, go_sem, r0, r1, r2, r3]) rfl (LaidClusterResult.bad _ ?_)
  repeat (first | (with_reducible assumption) | (with_reducible exact Below.refl _ _) | (with_reducible apply below_alloc) | (with_reducible apply below_drewN) | (with_reducible apply Below.drew) | (with_reducible refine below_set ?_ (by dsimp only; omega) _) | (with_reducible refine below_trans ?_ (by assumption)))
set_option maxRecDepth 100000 in
set_option maxHeartbeats 4000000 in
theorem nodeDone_range (v : Value) (c : SCluster) (k : Int) (A0 : Option Addr) (c0 : Nat) (A1 : Option Addr) (c1 : Nat) (A2 : Option Addr) (c2 : Nat) (w : World) (h0 : RdS kReplica w A0 c0 c.Nodes) (h1 : RdS kMail w A1 c1 c.Mails) (h2 : RdS kEntry w A2 c2 c.Sealed) (q : (clusF c != 0) = false) (q2 : wi k 0 (c.Nodes.length - 1) = false) :
    Calls Tryz.prog 71 #[.agg #[.slice A0 c.Nodes.length c0, .slice A1 c.Mails.length c1, .slice A2 c.Sealed.length c2], .int .i64 k, v] w fun r w' => LaidClusterResult (badClusterResult 3) w r w' := by
  have hn := (clusF_nums q).n5
  have hn1 := (clusF_nums q).n1
  have HW := within_c k 0 (c.Nodes.length - 1)
  rw [q2] at HW
  have HWW := Lib.hid HW
  have q2' := Lib.hid q2
  clear HW q2
  go_enter Tryz.func71, Tryz.ntmps71
  go_wp2_with fail
  refine (clusterFault_c c _ _ _ _ _ _ _ (h0.below (by repeat (first | (with_reducible assumption) | (with_reducible exact Below.refl _ _) | (with_reducible apply below_alloc) | (with_reducible apply below_drewN) | (with_reducible apply Below.drew) | (with_reducible refine below_set ?_ (by dsimp only; omega) _) | (with_reducible refine below_trans ?_ (by assumption))))) (h1.below (by repeat (first | (with_reducible assumption) | (with_reducible exact Below.refl _ _) | (with_reducible apply below_alloc) | (with_reducible apply below_drewN) | (with_reducible apply Below.drew) | (with_reducible refine below_set ?_ (by dsimp only; omega) _) | (with_reducible refine below_trans ?_ (by assumption))))) (h2.below (by repeat (first | (with_reducible assumption) | (with_reducible exact Below.refl _ _) | (with_reducible apply below_alloc) | (with_reducible apply below_drewN) | (with_reducible apply Below.drew) | (with_reducible refine below_set ?_ (by dsimp only; omega) _) | (with_reducible refine below_trans ?_ (by assumption)))))).mono ?_
  rintro e w1 ⟨rfl, hb1⟩
  have bw1 : Below w.heap.size w w1 := by repeat (first | (with_reducible assumption) | (with_reducible exact Below.refl _ _) | (with_reducible apply below_alloc) | (with_reducible apply below_drewN) | (with_reducible apply Below.drew) | (with_reducible refine below_set ?_ (by dsimp only; omega) _) | (with_reducible refine below_trans ?_ (by assumption)))
  have xB : Blk w1 w.heap.size 34 [.slice A0 c.Nodes.length c0, .slice A1 c.Mails.length c1, .slice A2 c.Sealed.length c2] := ((blk_alloc w [.slice A0 c.Nodes.length c0, .slice A1 c.Mails.length c1, .slice A2 c.Sealed.length c2] 34).below (below_alloc (Below.refl _ _) _)).below hb1
  have zB : Blk w1 (w.heap.size + 1) 36 [.int .i64 0, .slice none 0 0, .slice none 0 0, .slice none 0 0] := by
    have := (blk_alloc (w.alloc (.cells #[.slice A0 c.Nodes.length c0, .slice A1 c.Mails.length c1, .slice A2 c.Sealed.length c2] 34)) [.int .i64 0, .slice none 0 0, .slice none 0 0, .slice none 0 0] 36).below hb1
    rwa [Deep.nblk_alloc] at this
  have lo1 : w.heap.size + 2 ≤ w1.heap.size := by have := hb1.size; simp only [Deep.nblk_alloc] at this; omega
  have x0 := xB.cell (j := 0) rfl
  have x1 := xB.cell (j := 1) rfl
  have x2 := xB.cell (j := 2) rfl
  have r0 := zB.cell (j := 0) rfl
  have y0 := zB.frozen 0
  have r1 := zB.cell (j := 1) rfl
  have y1 := zB.frozen 1
  have r2 := zB.cell (j := 2) rfl
  have y2 := zB.frozen 2
  have r3 := zB.cell (j := 3) rfl
  have y3 := zB.frozen 3
  go_wp2_with ((go_at_call 19; (with_reducible refine (HWW.out w1).mono ?_); rintro e w' ⟨rfl, rfl⟩))
  refine bodyPost_ret (v := .agg #[.int .i64 3, .slice none 0 0, .slice none 0 0, .slice none 0 0]) (by simp [results, Tryz.results71, go_sem, r0, r1, r2, r3]) rfl (LaidClusterResult.bad _ ?_)
  repeat (first | (with_reducible assumption) | (with_reducible exact Below.refl _ _) | (with_reducible apply below_alloc) | (with_reducible apply below_drewN) | (with_reducible apply Below.drew) | (with_reducible refine below_set ?_ (by dsimp only; omega) _) | (with_reducible refine below_trans ?_ (by assumption)))
set_option maxRecDepth 100000 in
set_option maxHeartbeats 4000000 in
theorem nodeDone_code (g : Nat) (cb : Array Value) (eg : ∀ args w, (callFunc g args).run Tryz.prog w = .ok (.enter g args) w) (c : SCluster) (k : Nat) (n n' : SReplica) (ms : List SMail) (code : Int) (A0 : Option Addr) (c0 : Nat) (A1 : Option Addr) (c1 : Nat) (A2 : Option Addr) (c2 : Nat) (w : World) (h0 : RdS kReplica w A0 c0 c.Nodes) (h1 : RdS kMail w A1 c1 c.Mails) (h2 : RdS kEntry w A2 c2 c.Sealed) (q : (clusF c != 0) = false)
    (hk : k < c.Nodes.length) (hn : c.Nodes[k] = n) (hd : Does g cb n n' ms code w) (hcode : (code != 0) = true) :
    Calls Tryz.prog 71 #[.agg #[.slice A0 c.Nodes.length c0, .slice A1 c.Mails.length c1, .slice A2 c.Sealed.length c2], .int .i64 k, .func (.func g) #[] cb] w fun r w' => LaidClusterResult (badClusterResult code) w r w' := by
  have hN := clusF_nums q
  have hsm := hN.small
  have hns := hsm.2.1 n (hn ▸ List.getElem_mem hk)
  have hn5 := hN.n5
  have q2 : wi (k : Int) 0 (c.Nodes.length - 1) = true := by unfold wi; rw [decide_eq_true (by omega), decide_eq_true (by omega)]; rfl
  have HW := within_c k 0 (c.Nodes.length - 1)
  rw [q2] at HW
  have HWW := Lib.hid HW
  have HN := Lib.hid hn
  clear HW q2 hN hn
  go_enter Tryz.func71, Tryz.ntmps71
  go_wp2_with fail
  refine (clusterFault_c c _ _ _ _ _ _ _ (h0.below (by repeat (first | (with_reducible assumption) | (with_reducible exact Below.refl _ _) | (with_reducible apply below_alloc) | (with_reducible apply below_drewN) | (with_reducible apply Below.drew) | (with_reducible refine below_set ?_ (by dsimp only; omega) _) | (with_reducible refine below_trans ?_ (by assumption))))) (h1.below (by repeat (first | (with_reducible assumption) | (with_reducible exact Below.refl _ _) | (with_reducible apply below_alloc) | (with_reducible apply below_drewN) | (with_reducible apply Below.drew) | (with_reducible refine below_set ?_ (by dsimp only; omega) _) | (with_reducible refine below_trans ?_ (by assumption))))) (h2.below (by repeat (first | (with_reducible assumption) | (with_reducible exact Below.refl _ _) | (with_reducible apply below_alloc) | (with_reducible apply below_drewN) | (with_reducible apply Below.drew) | (with_reducible refine below_set ?_ (by dsimp only; omega) _) | (with_reducible refine below_trans ?_ (by assumption)))))).mono ?_
  rintro e w1 ⟨rfl, hb1⟩
  have bw1 : Below w.heap.size w w1 := by repeat (first | (with_reducible assumption) | (with_reducible exact Below.refl _ _) | (with_reducible apply below_alloc) | (with_reducible apply below_drewN) | (with_reducible apply Below.drew) | (with_reducible refine below_set ?_ (by dsimp only; omega) _) | (with_reducible refine below_trans ?_ (by assumption)))
  have xB : Blk w1 w.heap.size 34 [.slice A0 c.Nodes.length c0, .slice A1 c.Mails.length c1, .slice A2 c.Sealed.length c2] := ((blk_alloc w [.slice A0 c.Nodes.length c0, .slice A1 c.Mails.length c1, .slice A2 c.Sealed.length c2] 34).below (below_alloc (Below.refl _ _) _)).below hb1
  have zB : Blk w1 (w.heap.size + 1) 36 [.int .i64 0, .slice none 0 0, .slice none 0 0, .slice none 0 0] := by
    have := (blk_alloc (w.alloc (.cells #[.slice A0 c.Nodes.length c0, .slice A1 c.Mails.length c1, .slice A2 c.Sealed.length c2] 34)) [.int .i64 0, .slice none 0 0, .slice none 0 0, .slice none 0 0] 36).below hb1
    rwa [Deep.nblk_alloc] at this
  have lo1 : w.heap.size + 2 ≤ w1.heap.size := by have := hb1.size; simp only [Deep.nblk_alloc] at this; omega
  have x0 := xB.cell (j := 0) rfl
  have x1 := xB.cell (j := 1) rfl
  have x2 := xB.cell (j := 2) rfl
  go_wp2_with ((go_at_call 19; (with_reducible refine (HWW.out w1).mono ?_); rintro e w' ⟨rfl, rfl⟩))
  clear x0 x1 x2
  refine (ownCluster_c c _ _ _ _ _ _ w1 (h0.below bw1) (h1.below bw1) (h2.below bw1) hsm).mono ?_
  rintro r w2 ⟨B0, d0, B1, d1, B2, d2, f0, f1, f2, rfl, hc2, hb2⟩
  have s2 := hb2.size
  go_upto_region 7 with fail
  refine at_world (fun W => Blk W w2.heap.size 34 [.slice B0 c.Nodes.length d0, .slice B1 c.Mails.length d1, .slice B2 c.Sealed.length d2] ∧ Below w2.heap.size w2 W) ⟨blk_alloc w2 [.slice B0 c.Nodes.length d0, .slice B1 c.Mails.length d1, .slice B2 c.Sealed.length d2] _, below_alloc (Below.refl _ _) _⟩ ?_
  rintro W3 ⟨cB, b3⟩
  go_wp2_with fail
  refine (do_bad g cb eg w2.heap.size k c n n' ms code B0 d0 B1 d1 B2 d2 W3 cB ((ownS_rds hc2.1).1.below b3) ((ownS_rds hc2.2.1).1.below b3) ((ownS_rds hc2.2.2.1).1.below b3) hk HN.out hns (hd.mono (below_trans bw1 (below_trans hb2 b3))) hcode).mono ?_
  rintro r w4 ⟨rfl, hb4⟩
  have b4 := below_trans bw1 (below_trans hb2 (below_trans b3 hb4))
  replace zB := zB.below (below_trans hb2 (below_trans b3 hb4))
  clear hc2 cB hb1 hb2 b3 hb4 bw1
  have r0 := zB.cell (j := 0) rfl
  have y0 := zB.frozen 0
  have r1 := zB.cell (j := 1) rfl
  have y1 := zB.frozen 1
  have r2 := zB.cell (j := 2) rfl
  have y2 := zB.frozen 2
  have r3 := zB.cell (j := 3) rfl
  have y3 := zB.frozen 3
  go_wp2_with fail
  refine bodyPost_ret (v := .agg #[.int .i64 code, .slice none 0 0, .slice none 0 0, .slice none 0 0]) (by simp [results, Tryz.results71, go_sem, r0, r1, r2, r3]) rfl (LaidClusterResult.bad _ ?_)
  repeat (first | (with_reducible assumption) | (with_reducible exact Below.refl _ _) | (with_reducible apply below_alloc) | (with_reducible apply below_drewN) | (with_reducible apply Below.drew) | (with_reducible refine below_set ?_ (by dsimp only; omega) _) | (with_reducible refine below_trans ?_ (by assumption)))
set_option maxRecDepth 100000 in
set_option maxHeartbeats 4000000 in
theorem nodeDone_ok (g : Nat) (cb : Array Value) (eg : ∀ args w, (callFunc g args).run Tryz.prog w = .ok (.enter g args) w) (c : SCluster) (k : Nat) (n n' : SReplica) (ms : List SMail) (A0 : Option Addr) (c0 : Nat) (A1 : Option Addr) (c1 : Nat) (A2 : Option Addr) (c2 : Nat) (w : World) (h0 : RdS kReplica w A0 c0 c.Nodes) (h1 : RdS kMail w A1 c1 c.Mails) (h2 : RdS kEntry w A2 c2 c.Sealed) (q : (clusF c != 0) = false)
    (hk : k < c.Nodes.length) (hn : c.Nodes[k] = n) (hd : Does g cb n n' ms 0 w) (hc0 : 0 ≤ n'.Commit) (hc1 : n'.Commit ≤ n'.Log.length) (hs' : SmallRep n') (hms : SmallMails ms) (hml : ms.length ≤ 1000) :
    Calls Tryz.prog 71 #[.agg #[.slice A0 c.Nodes.length c0, .slice A1 c.Mails.length c1, .slice A2 c.Sealed.length c2], .int .i64 k, .func (.func g) #[] cb] w fun r w' => LaidClusterResult ⟨0, doneClu c k n' ms⟩ w r w' := by
  have hN := clusF_nums q
  have hsm := hN.small
  have hns := hsm.2.1 n (hn ▸ List.getElem_mem hk)
  have hn5 := hN.n5
  have hm120 := hN.mails
  have hsX := doneClu_small (k := k) hsm hm120 hs' hms
  have q2 : wi (k : Int) 0 (c.Nodes.length - 1) = true := by unfold wi; rw [decide_eq_true (by omega), decide_eq_true (by omega)]; rfl
  have HW := within_c k 0 (c.Nodes.length - 1)
  rw [q2] at HW
  have HWW := Lib.hid HW
  have HN := Lib.hid hn
  clear HW q2 hN hn
  go_enter Tryz.func71, Tryz.ntmps71
  go_wp2_with fail
  refine (clusterFault_c c _ _ _ _ _ _ _ (h0.below (by repeat (first | (with_reducible assumption) | (with_reducible exact Below.refl _ _) | (with_reducible apply below_alloc) | (with_reducible apply below_drewN) | (with_reducible apply Below.drew) | (with_reducible refine below_set ?_ (by dsimp only; omega) _) | (with_reducible refine below_trans ?_ (by assumption))))) (h1.below (by repeat (first | (with_reducible assumption) | (with_reducible exact Below.refl _ _) | (with_reducible apply below_alloc) | (with_reducible apply below_drewN) | (with_reducible apply Below.drew) | (with_reducible refine below_set ?_ (by dsimp only; omega) _) | (with_reducible refine below_trans ?_ (by assumption))))) (h2.below (by repeat (first | (with_reducible assumption) | (with_reducible exact Below.refl _ _) | (with_reducible apply below_alloc) | (with_reducible apply below_drewN) | (with_reducible apply Below.drew) | (with_reducible refine below_set ?_ (by dsimp only; omega) _) | (with_reducible refine below_trans ?_ (by assumption)))))).mono ?_
  rintro e w1 ⟨rfl, hb1⟩
  have bw1 : Below w.heap.size w w1 := by repeat (first | (with_reducible assumption) | (with_reducible exact Below.refl _ _) | (with_reducible apply below_alloc) | (with_reducible apply below_drewN) | (with_reducible apply Below.drew) | (with_reducible refine below_set ?_ (by dsimp only; omega) _) | (with_reducible refine below_trans ?_ (by assumption)))
  have xB : Blk w1 w.heap.size 34 [.slice A0 c.Nodes.length c0, .slice A1 c.Mails.length c1, .slice A2 c.Sealed.length c2] := ((blk_alloc w [.slice A0 c.Nodes.length c0, .slice A1 c.Mails.length c1, .slice A2 c.Sealed.length c2] 34).below (below_alloc (Below.refl _ _) _)).below hb1
  have zB : Blk w1 (w.heap.size + 1) 36 [.int .i64 0, .slice none 0 0, .slice none 0 0, .slice none 0 0] := by
    have := (blk_alloc (w.alloc (.cells #[.slice A0 c.Nodes.length c0, .slice A1 c.Mails.length c1, .slice A2 c.Sealed.length c2] 34)) [.int .i64 0, .slice none 0 0, .slice none 0 0, .slice none 0 0] 36).below hb1
    rwa [Deep.nblk_alloc] at this
  have lo1 : w.heap.size + 2 ≤ w1.heap.size := by have := hb1.size; simp only [Deep.nblk_alloc] at this; omega
  have x0 := xB.cell (j := 0) rfl
  have x1 := xB.cell (j := 1) rfl
  have x2 := xB.cell (j := 2) rfl
  go_wp2_with ((go_at_call 19; (with_reducible refine (HWW.out w1).mono ?_); rintro e w' ⟨rfl, rfl⟩))
  clear x0 x1 x2
  refine (ownCluster_c c _ _ _ _ _ _ w1 (h0.below bw1) (h1.below bw1) (h2.below bw1) hsm).mono ?_
  rintro r w2 ⟨B0, d0, B1, d1, B2, d2, f0, f1, f2, rfl, hc2, hb2⟩
  have s2 := hb2.size
  have k0 := hc2.1.in
  have k1 := hc2.2.1.in
  have k2 := hc2.2.2.1.in
  go_upto_region 7 with fail
  refine at_world (fun W => Blk W w2.heap.size 34 [.slice B0 c.Nodes.length d0, .slice B1 c.Mails.length d1, .slice B2 c.Sealed.length d2] ∧ Below w2.heap.size w2 W ∧ w2.heap.size < W.heap.size) ⟨blk_alloc w2 [.slice B0 c.Nodes.length d0, .slice B1 c.Mails.length d1, .slice B2 c.Sealed.length d2] _, below_alloc (Below.refl _ _) _, by rw [Deep.nblk_alloc]; omega⟩ ?_
  rintro W3 ⟨cB, b3, l3⟩
  have hc3 : HasCluster w1.heap.size W3 c B0 d0 B1 d1 B2 d2 f0 f1 f2 := ⟨OwnS.bel' hc2.1 b3, OwnS.bel' hc2.2.1 b3, OwnS.bel' hc2.2.2.1 b3, hc2.2.2.2⟩
  have hnb : w2.heap.size ∉ f0 ++ (f1 ++ f2) := by
    simp only [List.mem_append, not_or]
    exact ⟨fun h => by have := (k0 _ h).2; omega, fun h => by have := (k1 _ h).2; omega, fun h => by have := (k2 _ h).2; omega⟩
  have hfl : ∀ y ∈ w2.heap.size :: (f0 ++ (f1 ++ f2)), w1.heap.size ≤ y := by
    intro y hy
    simp only [List.mem_cons, List.mem_append] at hy
    rcases hy with rfl | h | h | h
    · omega
    · exact (k0 y h).1
    · exact (k1 y h).1
    · exact (k2 y h).1
  clear hc2
  go_wp2_with fail
  refine (do_c g cb eg w2.heap.size k c n n' ms B0 d0 B1 d1 B2 d2 f0 f1 f2 w1.heap.size W3 cB hc3 hnb (by omega) hk HN.out hns hn5 hm120 hml (hd.mono (below_trans bw1 (below_trans hb2 b3))) hc0 hc1 hs'.1).mono ?_
  generalize hXe : doneClu c k n' ms = X at hsX ⊢
  have HXe := Lib.hid hXe
  clear hXe
  rintro r w4 ⟨C0, e0, C1, e1, C2, e2, g0, g1, g2, rfl, cB4, hc4, nb4, t4, fr4⟩
  have b4 : Below w1.heap.size w1 w4 := (below_trans hb2 b3).trans (t4.below hfl (by omega))
  replace zB := zB.below b4
  have bw4 := below_trans bw1 b4
  have lo4 := b4.size
  clear hb1 hb2 b3 bw1 cB hc3 t4 fr4 hd hfl
  have x0 := cB4.cell (j := 0) rfl
  have x1 := cB4.cell (j := 1) rfl
  have x2 := cB4.cell (j := 2) rfl
  go_wp2_with fail
  clear x0 x1 x2
  refine (ownCluster_c X _ _ _ _ _ _ w4 (ownS_rds hc4.1).1 (ownS_rds hc4.2.1).1 (ownS_rds hc4.2.2.1).1 hsX).mono ?_
  rintro r w5 ⟨P0, a0, P1, a1, P2, a2, p0, p1, p2, rfl, ⟨o0, o1, o2, ndo⟩, hb5⟩
  replace zB := zB.below hb5
  have bw5 := below_trans bw4 hb5
  have l5 := hb5.size
  have i0 := o0.in
  have i1 := o1.in
  have i2 := o2.in
  have r0 := zB.cell (j := 0) rfl
  have y0 := zB.frozen 0
  have r1 := zB.cell (j := 1) rfl
  have y1 := zB.frozen 1
  have r2 := zB.cell (j := 2) rfl
  have y2 := zB.frozen 2
  have r3 := zB.cell (j := 3) rfl
  have y3 := zB.frozen 3
  go_wp2_with fail
  refine bodyPost_ret (v := .agg #[.int .i64 0, .slice P0 X.Nodes.length a0, .slice P1 X.Mails.length a1, .slice P2 X.Sealed.length a2]) (by simp [results, Tryz.results71, go_sem, r0, r1, r2, r3]) rfl ?_
  rw [HXe.out]
  refine ⟨P0, a0, P1, a1, P2, a2, p0, p1, p2, rfl, ⟨?_, ?_, ?_, ndo⟩, ?_⟩
  · refine OwnS.past (lo := w.heap.size + 2) (w := w5) o0 ?_ (by omega) (by omega)
    repeat (first | (with_reducible exact Past.refl _ _) | (with_reducible refine Past.set ?_ (by omega) _))
  · refine OwnS.past (lo := w.heap.size + 2) (w := w5) o1 ?_ (by omega) (by omega)
    repeat (first | (with_reducible exact Past.refl _ _) | (with_reducible refine Past.set ?_ (by omega) _))
  · refine OwnS.past (lo := w.heap.size + 2) (w := w5) o2 ?_ (by omega) (by omega)
    repeat (first | (with_reducible exact Past.refl _ _) | (with_reducible refine Past.set ?_ (by omega) _))
  · repeat (first | (with_reducible assumption) | (with_reducible exact Below.refl _ _) | (with_reducible apply below_alloc) | (with_reducible apply below_drewN) | (with_reducible apply Below.drew) | (with_reducible refine below_set ?_ (by dsimp only; omega) _) | (with_reducible refine below_trans ?_ (by assumption)))
end Go.Proofs.YtfblopmploohkaaGreatDoor
