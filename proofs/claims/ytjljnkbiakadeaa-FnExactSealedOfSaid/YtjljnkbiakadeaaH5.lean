/- Mails to all others: the program's mail, toAll, changes; the reference's l9Changes. -/
import Derived.Test.YtjljnkbiakadeaaH4
set_option linter.unusedVariables false
set_option linter.unusedSimpArgs false
namespace Go.Proofs.Ytjljnkbiakadeaa
open Go Go.RowKit Mk
def mailK (i v kind tt : Int) : SMail := ⟨kind, i, tt, v, 0, false, zEntry, 0, [], 0⟩
/-- The mails to the first k ones, to itself none. -/
def allTo (F : Nat → SMail) (i k : Nat) : List SMail := ((List.range k).filter (fun j => j != i)).map F
theorem allTo_same (F : Nat → SMail) (i : Nat) : allTo F i (i + 1) = allTo F i i := by simp [allTo, List.range_succ]
theorem allTo_succ (F : Nat → SMail) {i k : Nat} (h : k ≠ i) : allTo F i (k + 1) = allTo F i k ++ [F k] := by simp [allTo, List.range_succ, h]
theorem allTo_len (F : Nat → SMail) (i k : Nat) : (allTo F i k).length ≤ k := by
  unfold allTo
  rw [List.length_map]
  exact Nat.le_trans (List.length_filter_le _ _) (by simp)
/-- A call that lays a mail. -/
def LaidMail (m : SMail) (W : World) (r : Ending) (W' : World) : Prop :=
  ∃ A13 c13 fm, r = .returned (.agg #[.int .i64 m.Kind, .int .i64 m.From, .int .i64 m.To, .int .i64 m.View, .int .i64 m.At, .bool m.Has, .int .i64 m.Entry.Client, .int .i64 m.Entry.Seq, .int .i64 m.Entry.Op.Kind, .int .i64 m.Entry.Op.Vol, .int .i64 m.Entry.Op.At, .int .i64 m.Entry.Op.Value, .int .i64 m.Last, .slice A13 m.Log.length c13, .int .i64 m.Commit]) ∧ OwnS kEntry 100 W.heap.size W' fm (.slice A13 m.Log.length c13) m.Log ∧ fm.Nodup ∧ Below W.heap.size W W'
set_option maxRecDepth 100000 in
set_option maxHeartbeats 1000000 in
theorem mail_c (w : World) (p : Addr) (i v kind tt : Int) (h0 : w.cell? p = some (.int .i64 i)) (h2 : w.cell? ⟨p.block, p.off + 2, none⟩ = some (.int .i64 v)) :
    Calls Try.prog 127 #[.pointer (some p), .int .i64 kind, .int .i64 tt] w fun r w' => LaidMail (mailK i v kind tt) w r w' := by
  have k0 := World.block_lt_of_cell? w _ h0
  go_enter Try.func127, Try.ntmps127
  go_wp2_with fail
  refine at_world (fun W => (W.cell? p = some (.int .i64 i) ∧ W.cell? ⟨p.block, p.off + 2, none⟩ = some (.int .i64 v)) ∧ Blk W w.heap.size 114 [.int .i64 0, .int .i64 0, .int .i64 0, .int .i64 0, .int .i64 0, .bool false, .int .i64 0, .int .i64 0, .int .i64 0, .int .i64 0, .int .i64 0, .int .i64 0, .int .i64 0, .slice none 0 0, .int .i64 0] ∧ Below w.heap.size w W) ⟨⟨(World.cell?_alloc_lt w _ p k0).trans h0, (World.cell?_alloc_lt w _ ⟨p.block, p.off + 2, none⟩ k0).trans h2⟩, blk_alloc w [.int .i64 0, .int .i64 0, .int .i64 0, .int .i64 0, .int .i64 0, .bool false, .int .i64 0, .int .i64 0, .int .i64 0, .int .i64 0, .int .i64 0, .int .i64 0, .int .i64 0, .slice none 0 0, .int .i64 0] _, below_alloc (Below.refl _ _) _⟩ ?_
  rintro W ⟨⟨a0, a2⟩, zB, bW⟩
  have r0 := zB.cell (j := 0) rfl
  have y0 := zB.frozen 0
  have r1 := zB.cell (j := 1) rfl
  have y1 := zB.frozen 1
  have r2 := zB.cell (j := 2) rfl
  have y2 := zB.frozen 2
  have r3 := zB.cell (j := 3) rfl
  have y3 := zB.frozen 3
  have r4 := zB.cell (j := 4) rfl
  have y4 := zB.frozen 4
  have r5 := zB.cell (j := 5) rfl
  have y5 := zB.frozen 5
  have r6 := zB.cell (j := 6) rfl
  have y6 := zB.frozen 6
  have r7 := zB.cell (j := 7) rfl
  have y7 := zB.frozen 7
  have r8 := zB.cell (j := 8) rfl
  have y8 := zB.frozen 8
  have r9 := zB.cell (j := 9) rfl
  have y9 := zB.frozen 9
  have r10 := zB.cell (j := 10) rfl
  have y10 := zB.frozen 10
  have r11 := zB.cell (j := 11) rfl
  have y11 := zB.frozen 11
  have r12 := zB.cell (j := 12) rfl
  have y12 := zB.frozen 12
  have r13 := zB.cell (j := 13) rfl
  have y13 := zB.frozen 13
  have r14 := zB.cell (j := 14) rfl
  have y14 := zB.frozen 14
  go_still_tail 11, (by kernel_rfl)
  go_wp2_with fail
  refine bodyPost_ret (v := .agg #[.int .i64 kind, .int .i64 i, .int .i64 tt, .int .i64 v, .int .i64 0, .bool false, .int .i64 0, .int .i64 0, .int .i64 0, .int .i64 0, .int .i64 0, .int .i64 0, .int .i64 0, .slice none 0 0, .int .i64 0]) (by simp [results, Try.results127, go_sem, r0, r1, r2, r3, r4, r5, r6, r7, r8, r9, r10, r11, r12, r13, r14]) rfl ⟨none, 0, [], rfl, ownS_nil _ _ _, by simp, ?_⟩
  repeat (first | (with_reducible assumption) | (with_reducible exact Below.refl _ _) | (with_reducible apply below_alloc) | (with_reducible apply below_drewN) | (with_reducible apply Below.drew) | (with_reducible refine below_set ?_ (by dsimp only; omega) _) | (with_reducible refine below_trans ?_ (by assumption)))
/-- A call of a closure that lays a mail: what a walk over all others asks of it. -/
def Sends (g : Nat) (cb : Array Value) (F : Nat → SMail) (s : Nat) (w : World) : Prop :=
  ∀ (W : World) (k : Nat), Below w.heap.size w W → k < s → Calls Try.prog g (#[.int .i64 (k : Int)] ++ cb) W fun r W' => LaidMail (F k) W r W'
/-- Mails that were laid. -/
def LaidMails (ms : List SMail) (w : World) (r : Ending) (w' : World) : Prop :=
  ∃ A c fs, r = .returned (.slice A ms.length c) ∧ OwnS kMail 114 w.heap.size w' fs (.slice A ms.length c) ms ∧ fs.Nodup ∧ Below w.heap.size w w'
set_option maxRecDepth 100000 in
set_option maxHeartbeats 2000000 in
theorem toAll_c (g : Nat) (cb : Array Value) (eg : ∀ args w, (callFunc g args).run Try.prog w = .ok (.enter g args) w) (F : Nat → SMail) (i s : Nat) (p : Addr) (w : World) (h0 : w.cell? p = some (.int .i64 i)) (h1 : w.cell? ⟨p.block, p.off + 1, none⟩ = some (.int .i64 s)) (hs : s ≤ 5)
    (hg : Sends g cb F s w) : Calls Try.prog 89 #[.pointer (some p), .func (.func g) #[] cb] w fun r w' => LaidMails (allTo F i s) w r w' := by
  have k0 := World.block_lt_of_cell? w _ h0
  have k1 : p.block < w.heap.size := k0
  have hlen := allTo_len F i s
  have f1 : ∀ ob, (w.alloc ob).cell? ⟨p.block, p.off + 1, none⟩ = some (.int .i64 s) := fun ob => (World.cell?_alloc_lt w ob ⟨p.block, p.off + 1, none⟩ k0).trans h1
  go_enter Try.func89, Try.ntmps89
  go_wp2_with fail
  clear f1
  go_loopw [5, 12] (fun v j W => ∃ k : Nat, k ≤ s ∧ j = .int .i64 k ∧ ∃ vv fp, vv = v ∧ OwnS kMail 114 w.heap.size W fp vv (allTo F i k) ∧ fp.Nodup ∧ Below w.heap.size w W) (fun _ j _ => s - (intOf j).toNat)
  case atStart => exact ⟨0, Nat.zero_le _, rfl, _, [w.heap.size], rfl, by simpa [allTo] using ownS_empty kMail w 114 (Nat.le_refl _), by simp, below_alloc (Below.refl _ _) _⟩
  case round =>
    obtain ⟨k, hk, rfl, vv, fp, rfl, ow, nd, hb⟩ := hrel
    by_cases hlt : k < s
    · have hlt' : (k : Int) < (s : Int) := by omega
      have a0 := cell_below hb h0
      have hin := ow.in
      by_cases hki : k = i
      · subst hki
        have he : ((k : Int) != (k : Int)) = false := by simp
        rw [← allTo_same F k] at ow
        go_wp2_with fail
        exact ⟨⟨k + 1, hlt, by go_num, _, fp, rfl, ow, nd, hb⟩, by simp [intOf]; omega⟩
      · have he : ((k : Int) != (i : Int)) = true := by simp; omega
        have hc := hg wr k hb hlt
        clear hg h0 h1
        go_wp2_with fail
        refine hc.mono ?_
        rintro r w5 ⟨A13, c13, fm, rfl, om, nm, hb5⟩
        have hs5 := hb5.size
        have im := om.in
        have oW : OwnS kMail 114 w.heap.size (w5.alloc (.cells #[.int .i64 (F k).Kind, .int .i64 (F k).From, .int .i64 (F k).To, .int .i64 (F k).View, .int .i64 (F k).At, .bool (F k).Has, .int .i64 (F k).Entry.Client, .int .i64 (F k).Entry.Seq, .int .i64 (F k).Entry.Op.Kind, .int .i64 (F k).Entry.Op.Vol, .int .i64 (F k).Entry.Op.At, .int .i64 (F k).Entry.Op.Value, .int .i64 (F k).Last, .slice A13 (F k).Log.length c13, .int .i64 (F k).Commit] 114)) fp vv (allTo F i k) := OwnS.keep ow (fun b hb => (Below.heap_alloc _ _ _ (by have := (hin b hb).2; omega)).trans (hb5.block b (hin b hb).2))
        have oL : kMail.Own w.heap.size (w5.alloc (.cells #[.int .i64 (F k).Kind, .int .i64 (F k).From, .int .i64 (F k).To, .int .i64 (F k).View, .int .i64 (F k).At, .bool (F k).Has, .int .i64 (F k).Entry.Client, .int .i64 (F k).Entry.Seq, .int .i64 (F k).Entry.Op.Kind, .int .i64 (F k).Entry.Op.Vol, .int .i64 (F k).Entry.Op.At, .int .i64 (F k).Entry.Op.Value, .int .i64 (F k).Last, .slice A13 (F k).Log.length c13, .int .i64 (F k).Commit] 114)) fm [.int .i64 (F k).Kind, .int .i64 (F k).From, .int .i64 (F k).To, .int .i64 (F k).View, .int .i64 (F k).At, .bool (F k).Has, .int .i64 (F k).Entry.Client, .int .i64 (F k).Entry.Seq, .int .i64 (F k).Entry.Op.Kind, .int .i64 (F k).Entry.Op.Vol, .int .i64 (F k).Entry.Op.At, .int .i64 (F k).Entry.Op.Value, .int .i64 (F k).Last, .slice A13 (F k).Log.length c13, .int .i64 (F k).Commit] (F k) :=
          kMail_ownmk (F k) (h13 := OwnS.lift (OwnS.keep om (fun b hb => Below.heap_alloc _ _ _ (im b hb).2)) (fun b hb' => by have := (im b hb').1; have := hb.size; omega))
        have hl6 := lies_alloc w5 #[.int .i64 (F k).Kind, .int .i64 (F k).From, .int .i64 (F k).To, .int .i64 (F k).View, .int .i64 (F k).At, .bool (F k).Has, .int .i64 (F k).Entry.Client, .int .i64 (F k).Entry.Seq, .int .i64 (F k).Entry.Op.Kind, .int .i64 (F k).Entry.Op.Vol, .int .i64 (F k).Entry.Op.At, .int .i64 (F k).Entry.Op.Value, .int .i64 (F k).Last, .slice A13 (F k).Log.length c13, .int .i64 (F k).Commit] 114
        have hln := allTo_len F i k
        have OW := Lib.hid oW
        clear oW
        go_wp2_with (refine wpList_app (d := kMail) (zs := [F k]) (ys := allTo F i k) (fp := fp) (fs := fm) (B := w.heap.size) rfl _ _ 37 114 rfl (by kernel_rfl) (by kernel_rfl) rfl rfl OW.out nd (Src.ofSlice (P := Try.prog) (e' := 114) _ (by kernel_rfl) ⟨w5.heap.size, 0, none⟩ 1 1 _ rfl hl6 (kMail.rd_one (kMail.own_rd oL))) (OwnL.single oL) nm (fun b hb hm => by have := (hin b hb).2; have := (im b hm).1; omega) (by simp; omega) (by rw [Deep.nblk_alloc]; have := hb.size; omega) ?_; intro v' w' fp' hgr)
        obtain ⟨r1, r2, r3, r4⟩ := hgr
        refine ⟨⟨k + 1, hlt, by go_num, _, fp', rfl, by rw [allTo_succ F hki]; exact r1, r2, ?_⟩, by simp [intOf]; omega⟩
        have b6 : Below w.heap.size w (w5.alloc (.cells #[.int .i64 (F k).Kind, .int .i64 (F k).From, .int .i64 (F k).To, .int .i64 (F k).View, .int .i64 (F k).At, .bool (F k).Has, .int .i64 (F k).Entry.Client, .int .i64 (F k).Entry.Seq, .int .i64 (F k).Entry.Op.Kind, .int .i64 (F k).Entry.Op.Vol, .int .i64 (F k).Entry.Op.At, .int .i64 (F k).Entry.Op.Value, .int .i64 (F k).Last, .slice A13 (F k).Log.length c13, .int .i64 (F k).Commit] 114)) := below_alloc (below_trans hb hb5) _
        exact b6.trans (r3.below (fun b hb => (hin b hb).1) b6.size)
    · have hk' : k = s := by omega
      subst hk'
      obtain ⟨A, c, rfl, _⟩ := ow.form
      go_wp2_with fail
      go_ret
      exact ⟨A, c, fp, rfl, ow, nd, hb⟩
end Go.Proofs.Ytjljnkbiakadeaa
