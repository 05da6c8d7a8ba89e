/- The program's NewReplica (written by gJ1.py, own work). -/
import Derived.Test.YtjljnkbiakadeaaH10
set_option linter.unusedVariables false
set_option linter.unusedSimpArgs false
namespace Go.Proofs.Ytjljnkbiakadeaa
open Go Go.RowKit Mk
def newR (i s : Nat) : SReplica := { zReplica with Id := i, Size := s, View := 0, Normal := true, Last := 0, Oks := oksZ i s 0 }
set_option maxRecDepth 100000 in
set_option maxHeartbeats 4000000 in
theorem iNewReplica_c (i s : Nat) (w : World) (h1 : i < s) (h2 : s ≤ 5) :
    Calls Try.prog 46 #[.int .i64 i, .int .i64 s] w fun r w' => LaidRR ⟨0, newR i s, []⟩ w r w' := by
  have k1 : wi (s : Int) 1 5 = true := by unfold wi; simp; omega
  have k2 : wi (i : Int) 0 ((s : Int) - 1) = true := by unfold wi; simp; omega
  go_enter Try.func46, Try.ntmps46
  go_upto_region 4 with (first | (go_at_call 39; (with_reducible refine (within_c _ _ _ _).mono ?_); rintro e w' ⟨rfl, rfl⟩))
  refine at_world (fun W => Blk W w.heap.size 80 [.int .i64 0, .int .i64 0, .int .i64 0, .int .i64 0, .bool false, .int .i64 0, .slice none 0 0, .int .i64 0, .slice none 0 0, .slice none 0 0, .slice none 0 0, .slice none 0 0] ∧ Blk W (w.heap.size + 1) 78 [.int .i64 i, .int .i64 s, .int .i64 0, .bool false, .int .i64 0, .slice none 0 0, .int .i64 0, .slice none 0 0, .slice none 0 0, .slice none 0 0] ∧ Below w.heap.size w W) ⟨(blk_alloc w [.int .i64 0, .int .i64 0, .int .i64 0, .int .i64 0, .bool false, .int .i64 0, .slice none 0 0, .int .i64 0, .slice none 0 0, .slice none 0 0, .slice none 0 0, .slice none 0 0] 80).below (below_alloc (Below.refl _ _) _), (by
    have := blk_alloc (w.alloc (.cells #[.int .i64 0, .int .i64 0, .int .i64 0, .int .i64 0, .bool false, .int .i64 0, .slice none 0 0, .int .i64 0, .slice none 0 0, .slice none 0 0, .slice none 0 0, .slice none 0 0] 80)) [.int .i64 i, .int .i64 s, .int .i64 0, .bool false, .int .i64 0, .slice none 0 0, .int .i64 0, .slice none 0 0, .slice none 0 0, .slice none 0 0] 78
    rwa [Deep.nblk_alloc] at this), by repeat (first | (with_reducible assumption) | (with_reducible exact Below.refl _ _) | (with_reducible apply below_alloc) | (with_reducible apply below_drewN) | (with_reducible apply Below.drew) | (with_reducible refine below_set ?_ (by dsimp only; omega) _) | (with_reducible refine below_trans ?_ (by assumption)))⟩ ?_
  rintro W1 ⟨zB, yB, bw1⟩
  clear k1 k2
  have l1 := yB.lt
  go_wp2_with fail
  refine (settle_c (w.heap.size + 1) 0 _ [] [] i s 0 _ _ _ _ _ _ _ W1 yB rfl h1 h2 (by omega) (by omega)).mono ?_
  rintro r w2 ⟨D7, k7, f7, rfl, m1, m2, m3, m4⟩
  have zB2 := zB.turn m4 (by simp)
  have Y2 : Blk w2 (w.heap.size + 1) 78 [.int .i64 i, .int .i64 s, .int .i64 0, .bool true, .int .i64 0, .slice none 0 0, .int .i64 0, .slice D7 (oksZ i s 0).length k7, .slice none 0 0, .slice none 0 0] := m1
  have bw2 : Below w.heap.size w w2 := bw1.trans (m4.below (by simp) (by omega))
  clear zB yB m1
  have x0 := Y2.cell (j := 0) rfl
  have x1 := Y2.cell (j := 1) rfl
  have x2 := Y2.cell (j := 2) rfl
  have x3 := Y2.cell (j := 3) rfl
  have x4 := Y2.cell (j := 4) rfl
  have x5 := Y2.cell (j := 5) rfl
  have x6 := Y2.cell (j := 6) rfl
  have x7 := Y2.cell (j := 7) rfl
  have x8 := Y2.cell (j := 8) rfl
  have x9 := Y2.cell (j := 9) rfl
  have r0 := zB2.cell (j := 0) rfl
  have y0 := zB2.frozen 0
  have r1 := zB2.cell (j := 1) rfl
  have y1 := zB2.frozen 1
  have r2 := zB2.cell (j := 2) rfl
  have y2 := zB2.frozen 2
  have r3 := zB2.cell (j := 3) rfl
  have y3 := zB2.frozen 3
  have r4 := zB2.cell (j := 4) rfl
  have y4 := zB2.frozen 4
  have r5 := zB2.cell (j := 5) rfl
  have y5 := zB2.frozen 5
  have r6 := zB2.cell (j := 6) rfl
  have y6 := zB2.frozen 6
  have r7 := zB2.cell (j := 7) rfl
  have y7 := zB2.frozen 7
  have r8 := zB2.cell (j := 8) rfl
  have y8 := zB2.frozen 8
  have r9 := zB2.cell (j := 9) rfl
  have y9 := zB2.frozen 9
  have r10 := zB2.cell (j := 10) rfl
  have y10 := zB2.frozen 10
  have r11 := zB2.cell (j := 11) rfl
  have y11 := zB2.frozen 11
  go_wp2_with fail
  refine bodyPost_ret (v := .agg #[.int .i64 0, .int .i64 i, .int .i64 s, .int .i64 0, .bool true, .int .i64 0, .slice none 0 0, .int .i64 0, .slice D7 (oksZ i s 0).length k7, .slice none 0 0, .slice none 0 0, .slice none 0 0]) (by simp [results, Try.results46, go_sem, r0, r1, r2, r3, r4, r5, r6, r7, r8, r9, r10, r11]) rfl ?_
  refine ⟨none, 0, D7, k7, none, 0, none, 0, none, 0, [], f7, [], [], [], rfl, ⟨ownS_nil _ _ _, ?_, ownS_nil _ _ _, ownS_nil _ _ _, ownS_nil _ _ _, by simpa using m3⟩, ?_⟩
  · refine OwnS.past (lo := w.heap.size + 1) m2 ?_ (by omega) (by omega)
    repeat (first | (with_reducible exact Past.refl _ _) | (with_reducible refine Past.set ?_ (by omega) _))
  · repeat (first | (with_reducible assumption) | (with_reducible exact Below.refl _ _) | (with_reducible apply below_alloc) | (with_reducible apply below_drewN) | (with_reducible apply Below.drew) | (with_reducible refine below_set ?_ (by dsimp only; omega) _) | (with_reducible refine below_trans ?_ (by assumption)))
end Go.Proofs.Ytjljnkbiakadeaa
