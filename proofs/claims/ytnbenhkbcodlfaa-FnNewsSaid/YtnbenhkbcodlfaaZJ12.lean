/- BeatAt: the program's and the reference's (written by gJ10.py, own work). -/
import Derived.Test.YtnbenhkbcodlfaaZJ9
import Derived.Test.YtnbenhkbcodlfaaZO6
set_option linter.unusedVariables false
set_option linter.unusedSimpArgs false
namespace Go.Proofs.Ytnbenhkbcodlfaa
open Go Go.RowKit Mk
set_option maxRecDepth 100000 in
set_option maxHeartbeats 4000000 in
theorem iBeatAt_c (c : SCluster) (k : Int) (A0 : Option Addr) (c0 : Nat) (A1 : Option Addr) (c1 : Nat) (A2 : Option Addr) (c2 : Nat) (w : World) (h0 : RdS kReplica w A0 c0 c.Nodes) (h1 : RdS kMail w A1 c1 c.Mails) (h2 : RdS kEntry w A2 c2 c.Sealed) :
    Calls Try.prog 21 #[.agg #[.slice A0 c.Nodes.length c0, .slice A1 c.Mails.length c1, .slice A2 c.Sealed.length c2], .int .i64 k] w fun r w' => LaidClusterResult (atX beatX c k) w r w' := by
  have HD := Lib.hid (fun (W : World) => nodeDone_any 44 #[] (Go.Proofs.enters_of Try.func44 (by kernel_rfl) rfl) beatX c k A0 c0 A1 c1 A2 c2 W)
  generalize atX beatX c k = X at HD ⊢
  go_enter Try.func21, Try.ntmps21
  go_wp2_with fail
  refine (HD.out _ (h0.below (by repeat (first | (with_reducible assumption) | (with_reducible exact Below.refl _ _) | (with_reducible apply below_alloc) | (with_reducible apply below_drewN) | (with_reducible apply Below.drew) | (with_reducible refine below_set ?_ (by dsimp only; omega) _) | (with_reducible refine below_trans ?_ (by assumption))))) (h1.below (by repeat (first | (with_reducible assumption) | (with_reducible exact Below.refl _ _) | (with_reducible apply below_alloc) | (with_reducible apply below_drewN) | (with_reducible apply Below.drew) | (with_reducible refine below_set ?_ (by dsimp only; omega) _) | (with_reducible refine below_trans ?_ (by assumption))))) (h2.below (by repeat (first | (with_reducible assumption) | (with_reducible exact Below.refl _ _) | (with_reducible apply below_alloc) | (with_reducible apply below_drewN) | (with_reducible apply Below.drew) | (with_reducible refine below_set ?_ (by dsimp only; omega) _) | (with_reducible refine below_trans ?_ (by assumption))))) (beat_verb _)).mono ?_
  rintro r w1 ⟨P1, a1, P2, a2, P3, a3, p1, p2, p3, rfl, ⟨o1, o2, o3, nd⟩, hb1⟩
  have zB : Blk w1 (w.heap.size + 1) 42 [.int .i64 0, .slice none 0 0, .slice none 0 0, .slice none 0 0] := by
    have := (blk_alloc (w.alloc (.cells #[.slice A0 c.Nodes.length c0, .slice A1 c.Mails.length c1, .slice A2 c.Sealed.length c2] 40)) [.int .i64 0, .slice none 0 0, .slice none 0 0, .slice none 0 0] 42).below hb1
    rwa [Deep.nblk_alloc] at this
  have lo1 : w.heap.size + 2 ≤ w1.heap.size := by have := hb1.size; simp only [Deep.nblk_alloc] at this; omega
  have r0 := zB.cell (j := 0) rfl
  have y0 := zB.frozen 0
  have r1 := zB.cell (j := 1) rfl
  have y1 := zB.frozen 1
  have r2 := zB.cell (j := 2) rfl
  have y2 := zB.frozen 2
  have r3 := zB.cell (j := 3) rfl
  have y3 := zB.frozen 3
  clear zB
  go_wp2_with fail
  refine bodyPost_ret (v := .agg #[.int .i64 X.Code, .slice P1 X.Cluster.Nodes.length a1, .slice P2 X.Cluster.Mails.length a2, .slice P3 X.Cluster.Sealed.length a3]) (by simp [results, Try.results21, go_sem, r0, r1, r2, r3]) rfl ?_
  refine ⟨P1, a1, P2, a2, P3, a3, p1, p2, p3, rfl, ⟨?_, ?_, ?_, nd⟩, ?_⟩
  · refine OwnS.past (lo := w.heap.size + 2) (w := w1) o1 ?_ (by simp only [Deep.nblk_alloc]; omega) (by simp only [Deep.nblk_alloc]; omega)
    repeat (first | (with_reducible exact Past.refl _ _) | (with_reducible refine Past.set ?_ (by omega) _))
  · refine OwnS.past (lo := w.heap.size + 2) (w := w1) o2 ?_ (by simp only [Deep.nblk_alloc]; omega) (by simp only [Deep.nblk_alloc]; omega)
    repeat (first | (with_reducible exact Past.refl _ _) | (with_reducible refine Past.set ?_ (by omega) _))
  · refine OwnS.past (lo := w.heap.size + 2) (w := w1) o3 ?_ (by simp only [Deep.nblk_alloc]; omega) (by simp only [Deep.nblk_alloc]; omega)
    repeat (first | (with_reducible exact Past.refl _ _) | (with_reducible refine Past.set ?_ (by omega) _))
  · repeat (first | (with_reducible assumption) | (with_reducible exact Below.refl _ _) | (with_reducible apply below_alloc) | (with_reducible apply below_drewN) | (with_reducible apply Below.drew) | (with_reducible refine below_set ?_ (by dsimp only; omega) _) | (with_reducible refine below_trans ?_ (by assumption)))
theorem atBeatX_small (c : SCluster) (k : Int) : ctL ctReplica (atX beatX c k).Cluster.Nodes + ctL ctMail (atX beatX c k).Cluster.Mails + ctL ctEntry (atX beatX c k).Cluster.Sealed ≤ 100000000000000000 := ctCluster_small (atX_small beat_fits c k)
end Go.Proofs.Ytnbenhkbcodlfaa
