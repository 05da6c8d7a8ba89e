/- A mail of the beat; what a node tells of itself: the program's side (written by gO2.py, own work). -/
import Derived.Test.YtdjfehjddfbbjaaGreatZO1
set_option linter.unusedVariables false
set_option linter.unusedSimpArgs false
namespace Go.Proofs.YtdjfehjddfbbjaaGreat
open Go Go.RowKit Mk
theorem blk_alloc_dr (w : World) (l : List Value) (e : TypeId) : Blk (w.alloc (.cells l.toArray e)).drew w.heap.size e l := Blk.keep (blk_alloc w l e) rfl
set_option maxRecDepth 100000 in
set_option maxHeartbeats 4000000 in
theorem beat1_c (w : World) (p q : Addr) (i v cm : Int) (tt at' : Nat) (oks : List Int) (logs : List SEntry) (A5 A7 : Option Addr) (c5 c7 : Nat) (hq : w.cell? q = some (.pointer (some p))) (h0 : w.cell? p = some (.int .i64 i)) (h2 : w.cell? ⟨p.block, p.off + 2, none⟩ = some (.int .i64 v)) (h5 : w.cell? ⟨p.block, p.off + 5, none⟩ = some (.slice A5 logs.length c5)) (h6 : w.cell? ⟨p.block, p.off + 6, none⟩ = some (.int .i64 cm)) (h7 : w.cell? ⟨p.block, p.off + 7, none⟩ = some (.slice A7 oks.length c7)) (r5 : RdS kEntry w A5 c5 logs) (r7 : RdS kInt w A7 c7 oks) (ht : tt < oks.length) (hat : oks[tt] = (at' : Int)) :
    Calls Tryz.prog 93 #[.int .i64 (tt : Int), .pointer (some q)] w fun r w' => LaidMail (prepM i v cm logs tt at') w r w' := by
  generalize hm : prepM i v cm logs tt at' = m
  go_enter Tryz.func93, Tryz.ntmps93
  go_upto_region 1 with fail
  refine at_world (fun W => Blk W w.heap.size 51 [.int .i64 0, .int .i64 0, .int .i64 0, .int .i64 0, .int .i64 0, .bool false, .int .i64 0, .int .i64 0, .int .i64 0, .int .i64 0, .int .i64 0, .int .i64 0, .int .i64 0, .slice none 0 0, .int .i64 0] ∧ Below w.heap.size w W ∧ w.heap.size < W.heap.size) ⟨blk_alloc w [.int .i64 0, .int .i64 0, .int .i64 0, .int .i64 0, .int .i64 0, .bool false, .int .i64 0, .int .i64 0, .int .i64 0, .int .i64 0, .int .i64 0, .int .i64 0, .int .i64 0, .slice none 0 0, .int .i64 0] _, below_alloc (Below.refl _ _) _, by rw [Deep.nblk_alloc]; omega⟩ ?_
  rintro W ⟨zB0, bW, lW⟩
  have bD : Below w.heap.size w W.drew := bW.drew
  have HP0 := prepare_c i v cm tt at' logs A5 c5 p W.drew (cell_below bD h0) (cell_below bD h2) (cell_below bD h5) (cell_below bD h6) (r5.below bD)
  rw [hm] at HP0
  have HP := Lib.hid HP0
  clear HP0 hm
  have fq := cell_below bW hq
  have f7 := cell_below bW h7
  obtain ⟨a, ea, hx⟩ := (r7.below bW).at_ ht
  subst ea
  simp only [show kInt.sz = 1 from rfl, Nat.mul_one] at hx
  obtain ⟨cs, hla, hcs⟩ := hx
  obtain rfl := hcs
  have q0 := hla.c0
  rw [hat] at q0
  have ht' : (tt : Int) < (oks.length : Int) := by omega
  clear hq h0 h2 h5 h6 h7 r5 r7 hla hat
  go_still_tail 9, (by kernel_rfl)
  go_wp2_with fail
  refine HP.out.mono ?_
  rintro r w1 ⟨A13, c13, fm, rfl, om, nm, hb1⟩
  have bD1 : Below W.heap.size W w1 := below_trans (Below.refl _ _).drew hb1
  have zB := zB0.below bD1
  have lo : w.heap.size + 1 ≤ w1.heap.size := by have := bD1.size; omega
  have sd : W.drew.heap.size = W.heap.size := rfl
  have il : ∀ b ∈ fm, w.heap.size + 1 ≤ b := fun b hb => by have := (om.in b hb).1; omega
  have bw1 : Below w.heap.size w w1 := below_trans bW bD1
  have om : OwnS kEntry 49 (w.heap.size + 1) w1 fm (.slice A13 m.Log.length c13) m.Log := om.lift il
  clear fq f7 HP q0 hb1 zB0
  have r0 := zB.cell (j := 0) rfl
  have y0 := zB.frozen 0
  have r1 := zB.cell (j := 1) rfl
  have y1 := zB.frozen 1
  have r2 := zB.cell (j := 2) rfl
  have y2 := zB.frozen 2
  have r3 := zB.cell (j := 3) rfl
  have y3 := zB.frozen 3
  have r4 := zB.cell (j := 4) rfl
  have y4 := zB.frozen 4
  have r5 := zB.cell (j := 5) rfl
  have y5 := zB.frozen 5
  have r6 := zB.cell (j := 6) rfl
  have y6 := zB.frozen 6
  have r7 := zB.cell (j := 7) rfl
  have y7 := zB.frozen 7
  have r8 := zB.cell (j := 8) rfl
  have y8 := zB.frozen 8
  have r9 := zB.cell (j := 9) rfl
  have y9 := zB.frozen 9
  have r10 := zB.cell (j := 10) rfl
  have y10 := zB.frozen 10
  have r11 := zB.cell (j := 11) rfl
  have y11 := zB.frozen 11
  have r12 := zB.cell (j := 12) rfl
  have y12 := zB.frozen 12
  have r13 := zB.cell (j := 13) rfl
  have y13 := zB.frozen 13
  have r14 := zB.cell (j := 14) rfl
  have y14 := zB.frozen 14
  go_wp2_with fail
  refine bodyPost_ret (v := .agg #[.int .i64 m.Kind, .int .i64 m.From, .int .i64 m.To, .int .i64 m.View, .int .i64 m.At, .bool m.Has, .int .i64 m.Entry.Client, .int .i64 m.Entry.Seq, .int .i64 m.Entry.Op.Kind, .int .i64 m.Entry.Op.Vol, .int .i64 m.Entry.Op.At, .int .i64 m.Entry.Op.Value, .int .i64 m.Last, .slice A13 m.Log.length c13, .int .i64 m.Commit]) (by simp [results, Tryz.results93, go_sem, r0, r1, r2, r3, r4, r5, r6, r7, r8, r9, r10, r11, r12, r13, r14]) rfl ⟨A13, c13, fm, rfl, ?_, nm, ?_⟩
  · refine OwnS.past (lo := w.heap.size + 1) (w := w1) om ?_ (by omega) (by omega)
    repeat (first | (with_reducible exact Past.refl _ _) | (with_reducible refine Past.set ?_ (by omega) _))
  · repeat (first | (with_reducible assumption) | (with_reducible exact Below.refl _ _) | (with_reducible apply below_alloc) | (with_reducible apply below_drewN) | (with_reducible apply Below.drew) | (with_reducible refine below_set ?_ (by dsimp only; omega) _) | (with_reducible refine below_trans ?_ (by assumption)))
end Go.Proofs.YtdjfehjddfbbjaaGreat
