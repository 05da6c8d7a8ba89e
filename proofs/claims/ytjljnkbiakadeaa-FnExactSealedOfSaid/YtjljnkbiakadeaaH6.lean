/- Mails that ask for a view: the program's changes, the reference's l9Changes. -/
import Derived.Test.YtjljnkbiakadeaaH5
set_option linter.unusedVariables false
set_option linter.unusedSimpArgs false
namespace Go.Proofs.Ytjljnkbiakadeaa
open Go Go.RowKit Mk
theorem LaidMails.base {ms : List SMail} {w w1 w' : World} {r : Ending} (h : LaidMails ms w1 r w') (hb : Below w.heap.size w w1) : LaidMails ms w r w' := by
  obtain ⟨A, c, fs, h1, h2, h3, h4⟩ := h
  have hs := hb.size
  exact ⟨A, c, fs, h1, h2.lift (fun b hb => by have := (h2.in b hb).1; omega), h3, below_trans hb h4⟩
def changesL (i s v : Nat) : List SMail := allTo (fun k => mailK i v 3 k) i s
set_option maxRecDepth 100000 in
set_option maxHeartbeats 1000000 in
theorem changes1_c (w : World) (p q : Addr) (i v k : Int) (hq : w.cell? q = some (.pointer (some p))) (h0 : w.cell? p = some (.int .i64 i)) (h2 : w.cell? ⟨p.block, p.off + 2, none⟩ = some (.int .i64 v)) :
    Calls Try.prog 128 #[.int .i64 k, .pointer (some q)] w fun r w' => LaidMail (mailK i v 3 k) w r w' := by
  have k0 := World.block_lt_of_cell? w _ h0
  have kq := World.block_lt_of_cell? w _ hq
  have fq : ∀ ob, (w.alloc ob).cell? q = some (.pointer (some p)) := fun ob => (World.cell?_alloc_lt w ob q kq).trans hq
  go_enter Try.func128, Try.ntmps128
  go_wp2_with fail
  refine (mail_c _ p i v 3 k ((World.cell?_alloc_lt w _ p k0).trans h0) ((World.cell?_alloc_lt w _ ⟨p.block, p.off + 2, none⟩ k0).trans h2)).mono ?_
  rintro r w1 ⟨A13, c13, fm, rfl, om, nm, hb1⟩
  have zB := (blk_alloc w [.int .i64 0, .int .i64 0, .int .i64 0, .int .i64 0, .int .i64 0, .bool false, .int .i64 0, .int .i64 0, .int .i64 0, .int .i64 0, .int .i64 0, .int .i64 0, .int .i64 0, .slice none 0 0, .int .i64 0] 114).below hb1
  have r0 := zB.cell (j := 0) rfl
  have y0 := zB.frozen 0
  have r1 := zB.cell (j := 1) rfl
  have y1 := zB.frozen 1
  have r2 := zB.cell (j := 2) rfl
  have y2 := zB.frozen 2
  have r3 := zB.cell (j := 3) rfl
  have y3 := zB.frozen 3
  have r4 := zB.cell (j := 4) rfl
  have y4 := zB.frozen 4
  have r5 := zB.cell (j := 5) rfl
  have y5 := zB.frozen 5
  have r6 := zB.cell (j := 6) rfl
  have y6 := zB.frozen 6
  have r7 := zB.cell (j := 7) rfl
  have y7 := zB.frozen 7
  have r8 := zB.cell (j := 8) rfl
  have y8 := zB.frozen 8
  have r9 := zB.cell (j := 9) rfl
  have y9 := zB.frozen 9
  have r10 := zB.cell (j := 10) rfl
  have y10 := zB.frozen 10
  have r11 := zB.cell (j := 11) rfl
  have y11 := zB.frozen 11
  have r12 := zB.cell (j := 12) rfl
  have y12 := zB.frozen 12
  have r13 := zB.cell (j := 13) rfl
  have y13 := zB.frozen 13
  have r14 := zB.cell (j := 14) rfl
  have y14 := zB.frozen 14
  clear fq
  go_wp2_with fail
  have lo : w.heap.size + 1 ≤ w1.heap.size := by have := hb1.size; simp only [Deep.nblk_alloc] at this; omega
  have im := om.in
  refine bodyPost_ret (v := .agg #[.int .i64 (mailK i v 3 k).Kind, .int .i64 (mailK i v 3 k).From, .int .i64 (mailK i v 3 k).To, .int .i64 (mailK i v 3 k).View, .int .i64 (mailK i v 3 k).At, .bool (mailK i v 3 k).Has, .int .i64 (mailK i v 3 k).Entry.Client, .int .i64 (mailK i v 3 k).Entry.Seq, .int .i64 (mailK i v 3 k).Entry.Op.Kind, .int .i64 (mailK i v 3 k).Entry.Op.Vol, .int .i64 (mailK i v 3 k).Entry.Op.At, .int .i64 (mailK i v 3 k).Entry.Op.Value, .int .i64 (mailK i v 3 k).Last, .slice A13 (mailK i v 3 k).Log.length c13, .int .i64 (mailK i v 3 k).Commit]) (by simp [results, Try.results128, go_sem, r0, r1, r2, r3, r4, r5, r6, r7, r8, r9, r10, r11, r12, r13, r14, mailK]) rfl ⟨A13, c13, fm, rfl, ?_, nm, ?_⟩
  · refine OwnS.past (lo := w.heap.size + 1) (w := w1) om ?_ (by rw [Deep.nblk_alloc]; omega) (by rw [Deep.nblk_alloc]; omega)
    repeat (first | (with_reducible exact Past.refl _ _) | (with_reducible refine Past.set ?_ (by omega) _))
  · repeat (first | (with_reducible assumption) | (with_reducible exact Below.refl _ _) | (with_reducible apply below_alloc) | (with_reducible apply below_drewN) | (with_reducible apply Below.drew) | (with_reducible refine below_set ?_ (by dsimp only; omega) _) | (with_reducible refine below_trans ?_ (by assumption)))
set_option maxRecDepth 100000 in
set_option maxHeartbeats 1000000 in
theorem changes_c (w : World) (p : Addr) (i s v : Nat) (h0 : w.cell? p = some (.int .i64 i)) (h1 : w.cell? ⟨p.block, p.off + 1, none⟩ = some (.int .i64 s)) (h2 : w.cell? ⟨p.block, p.off + 2, none⟩ = some (.int .i64 v)) (hs : s ≤ 5) :
    Calls Try.prog 92 #[.pointer (some p)] w fun r w' => LaidMails (changesL i s v) w r w' := by
  have k0 := World.block_lt_of_cell? w _ h0
  go_enter Try.func92, Try.ntmps92
  go_wp2_with fail
  refine (toAll_c 128 #[.pointer (some ⟨w.heap.size, 0, none⟩)] (Go.Proofs.enters_of Try.func128 (by kernel_rfl) rfl) (fun k => mailK i v 3 k) i s p _ ((World.cell?_alloc_lt w _ p k0).trans h0) ((World.cell?_alloc_lt w _ ⟨p.block, p.off + 1, none⟩ k0).trans h1) hs ?_).mono ?_
  · intro W k hW hk
    have hw0 : Below w.heap.size w W := below_trans (below_alloc (Below.refl _ _) _) hW
    exact changes1_c W p ⟨w.heap.size, 0, none⟩ i v k (cell_below hW ((lies_alloc w #[.pointer (some p)] _).c0)) (cell_below hw0 h0) (cell_below hw0 h2)
  · rintro r w' hl
    have hl2 := hl.base (below_alloc (Below.refl _ _) _)
    obtain ⟨A, c, fs, rfl, hl3⟩ := hl2
    go_wp2_with fail
    go_ret
    exact ⟨A, c, fs, rfl, hl3⟩
end Go.Proofs.Ytjljnkbiakadeaa
