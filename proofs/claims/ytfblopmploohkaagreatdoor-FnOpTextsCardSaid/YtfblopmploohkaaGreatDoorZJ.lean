/- The program's NewReplica (written by gJ1.py, own work). -/
import Derived.Test.YtfblopmploohkaaGreatDoorZL
set_option linter.unusedVariables false
set_option linter.unusedSimpArgs false
namespace Go.Proofs.YtfblopmploohkaaGreatDoor
open Go Go.RowKit Mk
def newR (i s : Nat) : SReplica := { zReplica with Id := i, Size := s, View := 0, Normal := true, Last := 0, Oks := oksZ i s 0 }
set_option maxRecDepth 100000 in
set_option maxHeartbeats 4000000 in
theorem iNewReplica_c (i s : Nat) (w : World) (h1 : i < s) (h2 : s ≤ 5) :
    Calls Tryz.prog 20 #[.int .i64 i, .int .i64 s] w fun r w' => LaidRR ⟨0, newR i s, []⟩ w r w' := by
  have k1 : wi (s : Int) 1 5 = true := by unfold wi; simp; omega
  have k2 : wi (i : Int) 0 ((s : Int) - 1) = true := by unfold wi; simp; omega
  go_enter Tryz.func20, Tryz.ntmps20
  go_upto_region 4 with (first | (go_at_call 19; (with_reducible refine (within_c _ _ _ _).mono ?_); rintro e w' ⟨rfl, rfl⟩))
  refine at_world (fun W => Blk W w.heap.size 62 [.int .i64 0, .int .i64 0, .int .i64 0, .int .i64 0, .bool false, .int .i64 0, .slice none 0 0, .int .i64 0, .slice none 0 0, .slice none 0 0, .slice none 0 0, .slice none 0 0] ∧ Blk W (w.heap.size + 1) 60 [.int .i64 i, .int .i64 s, .int .i64 0, .bool false, .int .i64 0, .slice none 0 0, .int .i64 0, .slice none 0 0, .slice none 0 0, .slice none 0 0] ∧ Below w.heap.size w W) ⟨(blk_alloc w [.int .i64 0, .int .i64 0, .int .i64 0, .int .i64 0, .bool false, .int .i64 0, .slice none 0 0, .int .i64 0, .slice none 0 0, .slice none 0 0, .slice none 0 0, .slice none 0 0] 62).below (below_alloc (Below.refl _ _) _), (by
    have := blk_alloc (w.alloc (.cells #[.int .i64 0, .int .i64 0, .int .i64 0, .int .i64 0, .bool false, .int .i64 0, .slice none 0 0, .int .i64 0, .slice none 0 0, .slice none 0 0, .slice none 0 0, .slice none 0 0] 62)) [.int .i64 i, .int .i64 s, .int .i64 0, .bool false, .int .i64 0, .slice none 0 0, .int .i64 0, .slice none 0 0, .slice none 0 0, .slice none 0 0] 60
    rwa [Deep.nblk_alloc] at this), by repeat (first | (with_reducible assumption) | (with_reducible exact Below.refl _ _) | (with_reducible apply below_alloc) | (with_reducible apply below_drewN) | (with_reducible apply Below.drew) | (with_reducible refine below_set ?_ (by dsimp only; omega) _) | (with_reducible refine below_trans ?_ (by assumption)))⟩ ?_
  rintro W1 ⟨zB, yB, bw1⟩
  clear k1 k2
  have l1 := yB.lt
  go_wp2_with fail
  refine (settle_c (w.heap.size + 1) 0 _ [] [] i s 0 _ _ _ _ _ _ _ W1 yB rfl h1 h2 (by omega) (by omega)).mono ?_
  rintro r w2 ⟨D7, k7, f7, rfl, m1, m2, m3, m4⟩
  have zB2 := zB.turn m4 (by simp)
  have Y2 : Blk w2 (w.heap.size + 1) 60 [.int .i64 i, .int .i64 s, .int .i64 0, .bool true, .int .i64 0, .slice none 0 0, .int .i64 0, .slice D7 (oksZ i s 0).length k7, .slice none 0 0, .slice none 0 0] := m1
  have bw2 : Below w.heap.size w w2 := bw1.trans (m4.below (by simp) (by omega))
  clear zB yB m1
  have x0 := Y2.cell (j := 0) rfl
  have x1 := Y2.cell (j := 1) rfl
  have x2 := Y2.cell (j := 2) rfl
  have x3 := Y2.cell (j := 3) rfl
  have x4 := Y2.cell (j := 4) rfl
  have x5 := Y2.cell (j := 5) rfl
  have x6 := Y2.cell (j := 6) rfl
  have x7 := Y2.cell (j := 7) rfl
  have x8 := Y2.cell (j := 8) rfl
  have x9 := Y2.cell (j := 9) rfl
  have r0 := zB2.cell (j := 0) rfl
  have y0 := zB2.frozen 0
  have r1 := zB2.cell (j := 1) rfl
  have y1 := zB2.frozen 1
  have r2 := zB2.cell (j := 2) rfl
  have y2 := zB2.frozen 2
  have r3 := zB2.cell (j := 3) rfl
  have y3 := zB2.frozen 3
  have r4 := zB2.cell (j := 4) rfl
  have y4 := zB2.frozen 4
  have r5 := zB2.cell (j := 5) rfl
  have y5 := zB2.frozen 5
  have r6 := zB2.cell (j := 6) rfl
  have y6 := zB2.frozen 6
  have r7 := zB2.cell (j := 7) rfl
  have y7 := zB2.frozen 7
  have r8 := zB2.cell (j := 8) rfl
  have y8 := zB2.frozen 8
  have r9 := zB2.cell (j := 9) rfl
  have y9 := zB2.frozen 9
  have r10 := zB2.cell (j := 10) rfl
  have y10 := zB2.frozen 10
  have r11 := zB2.cell (j := 11) rfl
  have y11 := zB2.frozen 11
  go_wp2_with fail
  refine bodyPost_ret (v := .agg #[.int .i64 0, .int .i64 i, .int .i64 s, .int .i64 0, .bool true, .int .i64 0, .slice none 0 0, .int .i64 0, .slice D7 (oksZ i s 0).length k7, .slice none 0 0, .slice none 0 0, .slice none 0 0]) (by simp [results, Tryz.results20, go_sem, r0, r1, r2, r3, r4, r5, r6, r7, r8, r9, r10, r11]) rfl ?_
  refine ⟨none, 0, D7, k7, none, 0, none, 0, none, 0, [], f7, [], [], [], rfl, ⟨ownS_nil _ _ _, ?_, ownS_nil _ _ _, ownS_nil _ _ _, ownS_nil _ _ _, by simpa using m3⟩, ?_⟩
  · refine OwnS.past (lo := w.heap.size + 1) m2 ?_ (by omega) (by omega)
    repeat (first | (with_reducible exact Past.refl _ _) | (with_reducible refine Past.set ?_ (by omega) _))
  · repeat (first | (with_reducible assumption) | (with_reducible exact Below.refl _ _) | (with_reducible apply below_alloc) | (with_reducible apply below_drewN) | (with_reducible apply Below.drew) | (with_reducible refine below_set ?_ (by dsimp only; omega) _) | (with_reducible refine below_trans ?_ (by assumption)))
end Go.Proofs.YtfblopmploohkaaGreatDoor

/- The program's NewCluster (written by gJ2.py, own work). -/
set_option linter.unusedVariables false
set_option linter.unusedSimpArgs false
namespace Go.Proofs.YtfblopmploohkaaGreatDoor
open Go Go.RowKit Mk
def newL (s k : Nat) : List SReplica := (List.range k).map (fun j => newR j s)
theorem newL_succ (s k : Nat) : newL s (k + 1) = newL s k ++ [newR k s] := by simp [newL, List.range_succ]
theorem newL_len (s k : Nat) : (newL s k).length = k := by simp [newL]
theorem field_rr (v0 v1 v2 v3 v4 v5 v6 v7 v8 v9 v10 v11 : Value) (W : World) : (Instr.field 62 (.agg #[v0, v1, v2, v3, v4, v5, v6, v7, v8, v9, v10, v11]) 1).run Tryz.prog W = .ok (.agg #[v1, v2, v3, v4, v5, v6, v7, v8, v9, v10]) W := by kernel_rfl
theorem new_own {B B' : Nat} {w5 : World} (x : SReplica) {A6 A8 A9 A10 : Option Addr} {c6 c8 c9 c10 : Nat} {f6 f8 f9 f10 : List Nat} (h : B' ≤ B) (ob : Obj)
    (h5 : OwnS kEntry 46 B w5 f6 (.slice A6 x.Log.length c6) x.Log) (h7 : OwnS kInt 2 B w5 f8 (.slice A8 x.Oks.length c8) x.Oks) (h8 : OwnS kBool 4 B w5 f9 (.slice A9 x.Asks.length c9) x.Asks) (h9 : OwnS kDoer 105 B w5 f10 (.slice A10 x.Doers.length c10) x.Doers) :
    kReplica.Own B' (w5.alloc ob) (f6 ++ (f8 ++ (f9 ++ f10))) [.int .i64 x.Id, .int .i64 x.Size, .int .i64 x.View, .bool x.Normal, .int .i64 x.Last, .slice A6 x.Log.length c6, .int .i64 x.Commit, .slice A8 x.Oks.length c8, .slice A9 x.Asks.length c9, .slice A10 x.Doers.length c10] x := by
  refine kReplica_ownmk x (OwnS.lift (OwnS.keep h5 (fun b hb => Below.heap_alloc _ _ _ (h5.in b hb).2)) (fun b hb => ?_)) (OwnS.lift (OwnS.keep h7 (fun b hb => Below.heap_alloc _ _ _ (h7.in b hb).2)) (fun b hb => ?_)) (OwnS.lift (OwnS.keep h8 (fun b hb => Below.heap_alloc _ _ _ (h8.in b hb).2)) (fun b hb => ?_)) (OwnS.lift (OwnS.keep h9 (fun b hb => Below.heap_alloc _ _ _ (h9.in b hb).2)) (fun b hb => ?_))
  · have := (h5.in b hb).1; omega
  · have := (h7.in b hb).1; omega
  · have := (h8.in b hb).1; omega
  · have := (h9.in b hb).1; omega
theorem new_far {m : Nat} {fp f6 f8 f9 f10 : List Nat} (h : ∀ b ∈ fp, b < m) (i6 : ∀ b ∈ f6, m ≤ b) (i8 : ∀ b ∈ f8, m ≤ b) (i9 : ∀ b ∈ f9, m ≤ b) (i10 : ∀ b ∈ f10, m ≤ b) : ∀ b ∈ fp, b ∉ f6 ++ (f8 ++ (f9 ++ f10)) := by
  intro b hb hm
  have := h b hb
  simp only [List.mem_append] at hm
  rcases hm with q | q | q | q
  · have := i6 b q; omega
  · have := i8 b q; omega
  · have := i9 b q; omega
  · have := i10 b q; omega
theorem new_nd {f6 f8 f9 f10 f11 : List Nat} (h : (f6 ++ (f8 ++ (f9 ++ (f10 ++ f11)))).Nodup) : (f6 ++ (f8 ++ (f9 ++ f10))).Nodup := by
  have : ((f6 ++ (f8 ++ (f9 ++ f10))) ++ f11).Nodup := by simpa [List.append_assoc] using h
  exact (List.nodup_append.1 this).1
def LaidCR (x : SClusterResult) (w : World) (r : Ending) (w' : World) : Prop :=
  ∃ A1 c1 A2 c2 A3 c3 f1 f2 f3, r = .returned (.agg #[.int .i64 x.Code, .slice A1 x.Cluster.Nodes.length c1, .slice A2 x.Cluster.Mails.length c2, .slice A3 x.Cluster.Sealed.length c3]) ∧ HasClusterResult w.heap.size w' x A1 c1 A2 c2 A3 c3 f1 f2 f3 ∧ Below w.heap.size w w'
set_option maxRecDepth 100000 in
set_option maxHeartbeats 4000000 in
theorem iNewCluster_c (s : Nat) (w : World) (h1 : 1 ≤ s) (h2 : s ≤ 5) :
    Calls Tryz.prog 8 #[.int .i64 s] w fun r w' => LaidCR ⟨0, ⟨newL s s, [], []⟩⟩ w r w' := by
  have k1 : wi (s : Int) 1 5 = true := by unfold wi; simp; omega
  go_enter Tryz.func8, Tryz.ntmps8
  go_upto_region 4 with (first | (go_at_call 19; (with_reducible refine (within_c _ _ _ _).mono ?_); rintro e w' ⟨rfl, rfl⟩))
  refine at_world (fun W => Blk W w.heap.size 36 [.int .i64 0, .slice none 0 0, .slice none 0 0, .slice none 0 0] ∧ Blk W (w.heap.size + 1) 34 [.slice none 0 0, .slice none 0 0, .slice none 0 0] ∧ Below w.heap.size w W) ⟨(blk_alloc w [.int .i64 0, .slice none 0 0, .slice none 0 0, .slice none 0 0] 36).below (below_alloc (Below.refl _ _) _), (by
    have := blk_alloc (w.alloc (.cells #[.int .i64 0, .slice none 0 0, .slice none 0 0, .slice none 0 0] 36)) [.slice none 0 0, .slice none 0 0, .slice none 0 0] 34
    rwa [Deep.nblk_alloc] at this), by repeat (first | (with_reducible assumption) | (with_reducible exact Below.refl _ _) | (with_reducible apply below_alloc) | (with_reducible apply below_drewN) | (with_reducible apply Below.drew) | (with_reducible refine below_set ?_ (by dsimp only; omega) _) | (with_reducible refine below_trans ?_ (by assumption)))⟩ ?_
  rintro W1 ⟨zB, yB, bw1⟩
  clear k1
  have l1 := yB.lt
  go_wp2_with fail
  go_loopw [11] (fun j W => ∃ k : Nat, k ≤ s ∧ j = .int .i64 k ∧ ∃ vv fp, OwnS kReplica 60 (w.heap.size + 2) W fp vv (newL s k) ∧ fp.Nodup ∧ Blk W w.heap.size 36 [.int .i64 0, .slice none 0 0, .slice none 0 0, .slice none 0 0] ∧ Blk W (w.heap.size + 1) 34 [vv, .slice none 0 0, .slice none 0 0] ∧ Below w.heap.size w W) (fun j _ => s - (intOf j).toNat)
  case atStart => exact ⟨0, Nat.zero_le _, rfl, .slice none 0 0, [], ownS_nil _ _ _, List.nodup_nil, zB, yB, bw1⟩
  case round =>
    obtain ⟨k, hk, rfl, vv, fp, ow, nd, zK, yK, hb⟩ := hrel
    obtain ⟨AV, cV, rfl, _⟩ := ow.form
    rw [newL_len] at ow yK
    have lk := yK.lt
    have hin := ow.in
    have hln := Lib.hid (newL_len s k)
    by_cases hlt : k < s
    · have hlt' : (k : Int) < (s : Int) := by omega
      have v0 := yK.cell (j := 0) rfl
      have z0 := yK.frozen 0
      go_upto_region 7 with fail
      have hFd := field_rr
      go_region_law (first | (refine step_app (d := kReplica) (zs := [newR k s]) (ys := newL s k) (fp := fp) (fs := f6 ++ (f8 ++ (f9 ++ f10))) (v := .slice AV k cV) (x := .slice (some ⟨w5.heap.size, 0, none⟩) 1 1) (ce := [.int .i64 (newR k s).Id, .int .i64 (newR k s).Size, .int .i64 (newR k s).View, .bool (newR k s).Normal, .int .i64 (newR k s).Last, .slice A6 (newR k s).Log.length c6, .int .i64 (newR k s).Commit, .slice A8 (newR k s).Oks.length c8, .slice A9 (newR k s).Asks.length c9, .slice A10 (newR k s).Doers.length c10]) (B := w.heap.size + 2) rfl (.tmp 15) (.tmp 20) 30 60 rfl (by kernel_rfl) (by kernel_rfl) (by simp [Act.eval, Act.put]) (by simp [Act.eval, Act.put]) (OwnS.keep ow5 (fun b hb => Below.heap_alloc w5 _ _ (ow5.in b hb).2)) nd (Src.ofSlice (P := Tryz.prog) (e' := 60) _ (by kernel_rfl) ⟨w5.heap.size, 0, none⟩ 1 1 _ rfl (lies_alloc w5 #[.int .i64 (newR k s).Id, .int .i64 (newR k s).Size, .int .i64 (newR k s).View, .bool (newR k s).Normal, .int .i64 (newR k s).Last, .slice A6 (newR k s).Log.length c6, .int .i64 (newR k s).Commit, .slice A8 (newR k s).Oks.length c8, .slice A9 (newR k s).Asks.length c9, .slice A10 (newR k s).Doers.length c10] 60) (kReplica.rd_one (kReplica.own_rd oL))) (OwnL.single oL) ndN hdN (by rw [hln.out]; simp; omega) (by show _ ≤ (w5.alloc _).heap.size; rw [Deep.nblk_alloc]; omega) ?_; intro v' w' fp' hgr; obtain ⟨r1, r2, r3, r4⟩ := hgr; obtain ⟨AA, cA, rfl, _⟩ := r1.form; have yA := (y5.below (below_alloc (Below.refl _ _) _)).turn r3 (fun hm => by have := (hin _ hm).1; omega); have zA := (z5.below (below_alloc (Below.refl _ _) _)).turn r3 (fun hm => by have := (hin _ hm).1; omega); have qA := yA.cell (j := 0) rfl; have fA := yA.frozen 0) | ((try go_simp); go_at_call 20; refine (iNewReplica_c k s _ hlt h2).mono ?_; rintro e w5 ⟨A6, c6, A8, c8, A9, c9, A10, c10, A11, c11, f6, f8, f9, f10, f11, rfl, ⟨o6, o8, o9, o10, -, ndR⟩, hb5⟩; have b5 : Below wr.heap.size wr w5 := (below_trans (Below.refl _ _).drew hb5); have y5 := yK.below b5; have z5 := zK.below b5; have v5 := y5.cell (j := 0) rfl; have zz5 := y5.frozen 0; have y6 := y5.below (below_alloc (Below.refl _ _) (.cells #[.int .i64 (newR k s).Id, .int .i64 (newR k s).Size, .int .i64 (newR k s).View, .bool (newR k s).Normal, .int .i64 (newR k s).Last, .slice A6 (newR k s).Log.length c6, .int .i64 (newR k s).Commit, .slice A8 (newR k s).Oks.length c8, .slice A9 (newR k s).Asks.length c9, .slice A10 (newR k s).Doers.length c10] 60)); have v6 := y6.cell (j := 0) rfl; have ow5 := OwnS.keep ow (fun b hb => b5.block b (hin b hb).2); have s5 := b5.size; have oL := new_own (B' := w.heap.size + 2) (newR k s) (by show _ ≤ wr.heap.size; omega) (.cells #[.int .i64 (newR k s).Id, .int .i64 (newR k s).Size, .int .i64 (newR k s).View, .bool (newR k s).Normal, .int .i64 (newR k s).Last, .slice A6 (newR k s).Log.length c6, .int .i64 (newR k s).Commit, .slice A8 (newR k s).Oks.length c8, .slice A9 (newR k s).Asks.length c9, .slice A10 (newR k s).Doers.length c10] 60) o6 o8 o9 o10; have ndN := new_nd ndR; have hdN := new_far (m := wr.heap.size) (fun b hb => (hin b hb).2) (fun b hb => (o6.in b hb).1) (fun b hb => (o8.in b hb).1) (fun b hb => (o9.in b hb).1) (fun b hb => (o10.in b hb).1)))
      all_goals (go_wp2_with fail)
      all_goals
        rw [hln.out]
        rw [← newL_succ, newL_len] at r1
        refine ⟨⟨k + 1, hlt, by go_num, .slice AA (k + 1) cA, fp', OwnS.turn r1 ((Turn.refl [w.heap.size + 1] w').set (p := ⟨w.heap.size + 1, 0, none⟩) (by simp) _) (fun b hb hm => by have := (r1.in b hb).1; simp at hm; omega), r2, zA.set_ne (a := ⟨w.heap.size + 1, 0, none⟩) (by show w.heap.size + 1 ≠ _; omega) _, yA.set0 0 _, ?_⟩, by simp [intOf]; omega⟩
        have bA : Below w.heap.size w (w5.alloc (.cells #[.int .i64 (newR k s).Id, .int .i64 (newR k s).Size, .int .i64 (newR k s).View, .bool (newR k s).Normal, .int .i64 (newR k s).Last, .slice A6 (newR k s).Log.length c6, .int .i64 (newR k s).Commit, .slice A8 (newR k s).Oks.length c8, .slice A9 (newR k s).Asks.length c9, .slice A10 (newR k s).Doers.length c10] 60)) := below_alloc (below_trans hb b5) _
        exact below_set (bA.trans (r3.below (fun b hb => by have := (hin b hb).1; omega) bA.size)) (by show w.heap.size ≤ w.heap.size + 1; omega) _
    · have hk' : s = k := by omega
      subst hk'
      have x0 := yK.cell (j := 0) rfl
      have x1 := yK.cell (j := 1) rfl
      have x2 := yK.cell (j := 2) rfl
      have r0 := zK.cell (j := 0) rfl
      have r1 := zK.cell (j := 1) rfl
      have r2 := zK.cell (j := 2) rfl
      have r3 := zK.cell (j := 3) rfl
      have e0 := zK.frozen 0
      have e1 := zK.frozen 1
      have e2 := zK.frozen 2
      have e3 := zK.frozen 3
      go_wp2_with fail
      refine bodyPost_ret (v := .agg #[.int .i64 0, .slice AV s cV, .slice none 0 0, .slice none 0 0]) (by simp [results, Tryz.results8, go_sem, r0, r1, r2, r3]) rfl ?_
      refine ⟨AV, cV, none, 0, none, 0, fp, [], [], ?_, ⟨?_, ownS_nil _ _ _, ownS_nil _ _ _, by simpa using nd⟩, ?_⟩
      · simp only [newL_len, List.length_nil]
      · simp only [newL_len]
        refine OwnS.past (lo := w.heap.size + 2) ow ?_ (by omega) (by omega)
        repeat (first | (with_reducible exact Past.refl _ _) | (with_reducible refine Past.set ?_ (by omega) _))
      · repeat (first | (with_reducible assumption) | (with_reducible exact Below.refl _ _) | (with_reducible apply below_alloc) | (with_reducible apply below_drewN) | (with_reducible apply Below.drew) | (with_reducible refine below_set ?_ (by dsimp only; omega) _) | (with_reducible refine below_trans ?_ (by assumption)))
end Go.Proofs.YtfblopmploohkaaGreatDoor

/- The program's ownCluster: a cluster copied (written by gJ3.py, own work). -/
set_option linter.unusedVariables false
set_option linter.unusedSimpArgs false
namespace Go.Proofs.YtfblopmploohkaaGreatDoor
open Go Go.RowKit Mk
def SmallClu (x : SCluster) : Prop := x.Nodes.length ≤ 1000 ∧ (∀ n ∈ x.Nodes, SmallRep n) ∧ x.Mails.length ≤ 1000 ∧ (∀ m ∈ x.Mails, m.Log.length ≤ 1048576) ∧ x.Sealed.length ≤ 1048576
def CopiedClu (x : SCluster) (w : World) (r : Ending) (w' : World) : Prop :=
  ∃ A0 c0 A1 c1 A2 c2 f0 f1 f2, r = .returned (.agg #[.slice A0 x.Nodes.length c0, .slice A1 x.Mails.length c1, .slice A2 x.Sealed.length c2]) ∧ HasCluster w.heap.size w' x A0 c0 A1 c1 A2 c2 f0 f1 f2 ∧ Below w.heap.size w w'
theorem OwnS.bel' {α : Type} {d : Kd α} {e : TypeId} {B : Nat} {w w' : World} {fp : List Nat} {v : Value} {xs : List α} (h : OwnS d e B w fp v xs) (hb : Below w.heap.size w w') : OwnS d e B w' fp v xs := OwnS.keep h (fun b hm => hb.block b (h.in b hm).2)
set_option maxRecDepth 100000 in
set_option maxHeartbeats 4000000 in
theorem ownCluster_c (x : SCluster) (A0 : Option Addr) (c0 : Nat) (A1 : Option Addr) (c1 : Nat) (A2 : Option Addr) (c2 : Nat) (w : World) (h0 : RdS kReplica w A0 c0 x.Nodes) (h1 : RdS kMail w A1 c1 x.Mails) (h2 : RdS kEntry w A2 c2 x.Sealed) (hs : SmallClu x) :
    Calls Tryz.prog 43 #[.agg #[.slice A0 x.Nodes.length c0, .slice A1 x.Mails.length c1, .slice A2 x.Sealed.length c2]] w fun r w' => CopiedClu x w r w' := by
  obtain ⟨s0, sn, s1, sm, s2⟩ := hs
  go_enter Tryz.func43, Tryz.ntmps43
  go_wp2_with fail
  refine (cloneEntry_c x.Sealed A2 c2 _ (h2.below (by repeat (first | (with_reducible assumption) | (with_reducible exact Below.refl _ _) | (with_reducible apply below_alloc) | (with_reducible apply below_drewN) | (with_reducible apply Below.drew) | (with_reducible refine below_set ?_ (by dsimp only; omega) _) | (with_reducible refine below_trans ?_ (by assumption))))) s2).mono ?_
  rintro e w1 ⟨B2, d2, f2, rfl, o2, n2, hb1⟩
  have xB : Blk w1 w.heap.size 34 [.slice A0 x.Nodes.length c0, .slice A1 x.Mails.length c1, .slice A2 x.Sealed.length c2] := ((blk_alloc w [.slice A0 x.Nodes.length c0, .slice A1 x.Mails.length c1, .slice A2 x.Sealed.length c2] 34).below (below_alloc (Below.refl _ _) _)).below hb1
  have zB : Blk w1 (w.heap.size + 1) 34 [.slice none 0 0, .slice none 0 0, .slice none 0 0] := by
    have := (blk_alloc (w.alloc (.cells #[.slice A0 x.Nodes.length c0, .slice A1 x.Mails.length c1, .slice A2 x.Sealed.length c2] 34)) [.slice none 0 0, .slice none 0 0, .slice none 0 0] 34).below hb1
    rwa [Deep.nblk_alloc] at this
  have lo1 : w.heap.size + 2 ≤ w1.heap.size := by have := hb1.size; simp only [Deep.nblk_alloc] at this; omega
  have i2 : ∀ b ∈ f2, w.heap.size + 2 ≤ b ∧ b < w1.heap.size := fun b hb => by have := o2.in b hb; simp only [Deep.nblk_alloc] at this; omega
  replace o2 : OwnS kEntry 46 (w.heap.size + 2) w1 f2 (.slice B2 x.Sealed.length d2) x.Sealed := o2.lift (fun b hb => (i2 b hb).1)
  have bw1 : Below w.heap.size w w1 := by repeat (first | (with_reducible assumption) | (with_reducible exact Below.refl _ _) | (with_reducible apply below_alloc) | (with_reducible apply below_drewN) | (with_reducible apply Below.drew) | (with_reducible refine below_set ?_ (by dsimp only; omega) _) | (with_reducible refine below_trans ?_ (by assumption)))
  clear hb1
  go_upto_region 2 with fail
  refine at_world (fun W => Blk W w1.heap.size 34 [.slice none 0 0, .slice none 0 0, .slice B2 x.Sealed.length d2] ∧ Below w1.heap.size w1 W ∧ w1.heap.size < W.heap.size) ⟨blk_alloc w1 [.slice none 0 0, .slice none 0 0, .slice B2 x.Sealed.length d2] _, below_alloc (Below.refl _ _) _, by rw [Deep.nblk_alloc]; omega⟩ ?_
  rintro W2 ⟨yB, b2, l2⟩
  replace xB := xB.below b2
  replace zB := zB.below b2
  replace o2 := OwnS.bel' o2 b2
  have bw2 := below_trans bw1 b2
  clear b2 bw1
  have q0 := xB.cell (j := 0) rfl
  go_wp2_with fail
  clear q0
  go_loopw [15] (fun j W => ∃ k : Nat, k ≤ x.Nodes.length ∧ j = .int .i64 k ∧ ∃ vv fp, OwnS kReplica 60 W2.heap.size W fp vv (x.Nodes.take k) ∧ fp.Nodup ∧ Blk W w1.heap.size 34 [vv, .slice none 0 0, .slice B2 x.Sealed.length d2] ∧ Turn [w1.heap.size] W2 W) (fun j _ => x.Nodes.length - (intOf j).toNat)
  case atStart => exact ⟨0, Nat.zero_le _, rfl, .slice none 0 0, [], by simpa using ownS_nil _ _ _, List.nodup_nil, yB, Turn.refl _ _⟩
  case round =>
    obtain ⟨k, hk, rfl, vv, fp, ow, nd, yK, ht⟩ := hrel
    obtain ⟨AV, cV, rfl, _⟩ := ow.form
    rw [List.length_take, Nat.min_eq_left hk] at ow yK
    have lk := yK.lt
    have sT := ht.size
    have hin := ow.in
    have hb : Below w.heap.size w wr := bw2.trans (ht.below (by simp; omega) (by omega))
    by_cases hlt : k < x.Nodes.length
    · have hlt' : (k : Int) < (x.Nodes.length : Int) := by omega
      obtain ⟨a, ea, hx⟩ := (h0.below hb).at_ hlt
      subst ea
      have hsm := sn _ (List.getElem_mem hlt)
      have htk := Lib.hid (List.take_succ_eq_append_getElem hlt)
      generalize x.Nodes[k] = n at hx hsm htk
      simp only [show kReplica.sz = 10 from rfl] at hx
      obtain ⟨E5, e5, E7, e7, E8, e8, E9, e9, hq⟩ := atReplica hx
      obtain ⟨q0, q1, q2, q3, q4, q5, q6, q7, q8, q9, g5, g7, g8, g9⟩ := hq
      have hln := Lib.hid (show (x.Nodes.take k).length = k by rw [List.length_take, Nat.min_eq_left hk])
      generalize hys : x.Nodes.take k = ys at ow hln htk
      go_upto_region 5 with fail
      clear q0 q1 q2 q3 q4 q5 q6 q7 q8 q9
      refine at_world (fun W => Blk W wr.heap.size 60 [.int .i64 n.Id, .int .i64 n.Size, .int .i64 n.View, .bool n.Normal, .int .i64 n.Last, .slice E5 n.Log.length e5, .int .i64 n.Commit, .slice E7 n.Oks.length e7, .slice E8 n.Asks.length e8, .slice E9 n.Doers.length e9] ∧ Below wr.heap.size wr W) ⟨blk_alloc wr [.int .i64 n.Id, .int .i64 n.Size, .int .i64 n.View, .bool n.Normal, .int .i64 n.Last, .slice E5 n.Log.length e5, .int .i64 n.Commit, .slice E7 n.Oks.length e7, .slice E8 n.Asks.length e8, .slice E9 n.Doers.length e9] _, below_alloc (Below.refl _ _) _⟩ ?_
      rintro W4 ⟨nB, b4⟩
      have s4 := b4.size
      replace g5 := g5.below b4
      replace g7 := g7.below b4
      replace g8 := g8.below b4
      replace g9 := g9.below b4
      have yW := yK.below b4
      have oW := OwnS.bel' ow b4
      have u0 := nB.cell (j := 0) rfl
      have u1 := nB.cell (j := 1) rfl
      have u2 := nB.cell (j := 2) rfl
      have u3 := nB.cell (j := 3) rfl
      have u4 := nB.cell (j := 4) rfl
      have u5 := nB.cell (j := 5) rfl
      have u6 := nB.cell (j := 6) rfl
      have u7 := nB.cell (j := 7) rfl
      have u8 := nB.cell (j := 8) rfl
      have u9 := nB.cell (j := 9) rfl
      have v0 := yW.cell (j := 0) rfl
      have z0 := yW.frozen 0
      go_region_law (first | (refine step_app (d := kReplica) (zs := [n]) (ys := ys) (fp := fp) (fs := f6 ++ (f8 ++ (f9 ++ f10))) (v := .slice AV k cV) (x := .slice (some ⟨w5.heap.size, 0, none⟩) 1 1) (ce := [.int .i64 n.Id, .int .i64 n.Size, .int .i64 n.View, .bool n.Normal, .int .i64 n.Last, .slice A6 n.Log.length c6, .int .i64 n.Commit, .slice A8 n.Oks.length c8, .slice A9 n.Asks.length c9, .slice A10 n.Doers.length c10]) (B := W2.heap.size) rfl (.tmp 20) (.tmp 23) 30 60 rfl (by kernel_rfl) (by kernel_rfl) (by simp [Act.eval, Act.put]) (by simp [Act.eval, Act.put]) (OwnS.keep ow5 (fun b hb => Below.heap_alloc w5 _ _ (ow5.in b hb).2)) nd (Src.ofSlice (P := Tryz.prog) (e' := 60) _ (by kernel_rfl) ⟨w5.heap.size, 0, none⟩ 1 1 _ rfl (lies_alloc w5 #[.int .i64 n.Id, .int .i64 n.Size, .int .i64 n.View, .bool n.Normal, .int .i64 n.Last, .slice A6 n.Log.length c6, .int .i64 n.Commit, .slice A8 n.Oks.length c8, .slice A9 n.Asks.length c9, .slice A10 n.Doers.length c10] 60) (kReplica.rd_one (kReplica.own_rd oL))) (OwnL.single oL) ndR hdN (by rw [hln.out]; simp; omega) (by show _ ≤ (w5.alloc _).heap.size; rw [Deep.nblk_alloc]; omega) ?_; intro v' w' fp' hgr; obtain ⟨r1, r2, r3, r4⟩ := hgr; obtain ⟨AA, cA, rfl, _⟩ := r1.form; have yA := y6.turn r3 (fun hm => by have := (hin _ hm).1; omega); have qA := yA.cell (j := 0) rfl; have fA := yA.frozen 0) | ((try go_simp); go_at_call 66; refine (ownReplica_c n E5 e5 E7 e7 E8 e8 E9 e9 _ (g5.below (by repeat (first | (with_reducible assumption) | (with_reducible exact Below.refl _ _) | (with_reducible apply below_alloc) | (with_reducible apply below_drewN) | (with_reducible apply Below.drew) | (with_reducible refine below_set ?_ (by dsimp only; omega) _) | (with_reducible refine below_trans ?_ (by assumption))))) (g7.below (by repeat (first | (with_reducible assumption) | (with_reducible exact Below.refl _ _) | (with_reducible apply below_alloc) | (with_reducible apply below_drewN) | (with_reducible apply Below.drew) | (with_reducible refine below_set ?_ (by dsimp only; omega) _) | (with_reducible refine below_trans ?_ (by assumption))))) (g8.below (by repeat (first | (with_reducible assumption) | (with_reducible exact Below.refl _ _) | (with_reducible apply below_alloc) | (with_reducible apply below_drewN) | (with_reducible apply Below.drew) | (with_reducible refine below_set ?_ (by dsimp only; omega) _) | (with_reducible refine below_trans ?_ (by assumption))))) (g9.below (by repeat (first | (with_reducible assumption) | (with_reducible exact Below.refl _ _) | (with_reducible apply below_alloc) | (with_reducible apply below_drewN) | (with_reducible apply Below.drew) | (with_reducible refine below_set ?_ (by dsimp only; omega) _) | (with_reducible refine below_trans ?_ (by assumption))))) hsm).mono ?_; rintro e w5 ⟨A6, c6, A8, c8, A9, c9, A10, c10, f6, f8, f9, f10, rfl, ⟨o6, o8, o9, o10, ndR⟩, hb5⟩; have b5 : Below W4.heap.size W4 w5 := (below_trans (Below.refl _ _).drew hb5); have y5 := yW.below b5; have v5 := y5.cell (j := 0) rfl; have zz5 := y5.frozen 0; have y6 := y5.below (below_alloc (Below.refl _ _) (.cells #[.int .i64 n.Id, .int .i64 n.Size, .int .i64 n.View, .bool n.Normal, .int .i64 n.Last, .slice A6 n.Log.length c6, .int .i64 n.Commit, .slice A8 n.Oks.length c8, .slice A9 n.Asks.length c9, .slice A10 n.Doers.length c10] 60)); have v6 := y6.cell (j := 0) rfl; have ow5 := OwnS.bel' oW b5; have s5 := b5.size; have oL := new_own (B' := W2.heap.size) n (by show _ ≤ W4.heap.size; omega) (.cells #[.int .i64 n.Id, .int .i64 n.Size, .int .i64 n.View, .bool n.Normal, .int .i64 n.Last, .slice A6 n.Log.length c6, .int .i64 n.Commit, .slice A8 n.Oks.length c8, .slice A9 n.Asks.length c9, .slice A10 n.Doers.length c10] 60) o6 o8 o9 o10; have hdN := new_far (m := W4.heap.size) (fun b hb => by have := (hin b hb).2; omega) (fun b hb => (o6.in b hb).1) (fun b hb => (o8.in b hb).1) (fun b hb => (o9.in b hb).1) (fun b hb => (o10.in b hb).1)))
      all_goals (go_wp2_with fail)
      all_goals
        rw [hln.out]
        rw [← htk.out] at r1
        rw [List.length_take, Nat.min_eq_left (show k + 1 ≤ x.Nodes.length from hlt)] at r1
        have hT : Turn [w1.heap.size] W2 w' := Turn.fresh (ht.trans (Turn.of_below (below_alloc (below_trans b4 b5) _))) r3 (fun b hb => .inr (hin b hb).1)
        exact ⟨⟨k + 1, hlt, by go_num, .slice AA (k + 1) cA, fp', OwnS.turn r1 ((Turn.refl [w1.heap.size] w').set (p := ⟨w1.heap.size, 0, none⟩) (by simp) _) (fun b hb hm => by have := (r1.in b hb).1; simp at hm; omega), r2, yA.set0 0 _, hT.set (p := ⟨w1.heap.size, 0, none⟩) (by simp) _⟩, by simp [intOf]; omega⟩
    · have hk' : k = x.Nodes.length := by omega
      subst hk'
      rw [List.take_length] at ow
      obtain ⟨V, hV⟩ : ∃ V, V = wr := ⟨_, rfl⟩
      subst hV
      have xV := xB.turn ht (by simp; omega)
      have zV := zB.turn ht (by simp; omega)
      have oV := OwnS.turn o2 ht (by intro b hb hm; simp at hm; have := (i2 b hb).2; omega)
      clear xB zB o2 yB
      have q1 := xV.cell (j := 1) rfl
      have lV := xV.lt
      go_wp2_with fail
      clear q1
      go_loopw [30] (fun j W => ∃ k : Nat, k ≤ x.Mails.length ∧ j = .int .i64 k ∧ ∃ vv fq, OwnS kMail 75 V.heap.size W fq vv (x.Mails.take k) ∧ fq.Nodup ∧ Blk W w1.heap.size 34 [.slice AV x.Nodes.length cV, vv, .slice B2 x.Sealed.length d2] ∧ Turn [w1.heap.size] V W) (fun j _ => x.Mails.length - (intOf j).toNat)
      case atStart => exact ⟨0, Nat.zero_le _, rfl, .slice none 0 0, [], by simpa using ownS_nil _ _ _, List.nodup_nil, yK, Turn.refl _ _⟩
      case round =>
        obtain ⟨k, hk, rfl, vv, fq, ow2, nd2, yM, ht2⟩ := hrel
        obtain ⟨AW, cW, rfl, _⟩ := ow2.form
        rw [List.length_take, Nat.min_eq_left hk] at ow2 yM
        have sT2 := ht2.size
        have hin2 := ow2.in
        have hb2 : Below w.heap.size w wr := hb.trans (ht2.below (by simp; omega) (by omega))
        by_cases hlt : k < x.Mails.length
        · have hlt' : (k : Int) < (x.Mails.length : Int) := by omega
          obtain ⟨a, ea, hx⟩ := (h1.below hb2).at_ hlt
          subst ea
          have hsm := sm _ (List.getElem_mem hlt)
          have htk := Lib.hid (List.take_succ_eq_append_getElem hlt)
          generalize x.Mails[k] = m at hx hsm htk
          simp only [show kMail.sz = 15 from rfl] at hx
          obtain ⟨E13, e13, hq⟩ := atMail hx
          obtain ⟨q0, q1, q2, q3, q4, q5, q6, q7, q8, q9, q10, q11, q12, q13, q14, g13⟩ := hq
          have hln := Lib.hid (show (x.Mails.take k).length = k by rw [List.length_take, Nat.min_eq_left hk])
          generalize hys : x.Mails.take k = ys at ow2 hln htk
          go_upto_region 10 with fail
          clear q0 q1 q2 q3 q4 q5 q6 q7 q8 q9 q10 q11 q12 q13 q14
          refine at_world (fun W => Blk W wr.heap.size 75 [.int .i64 m.Kind, .int .i64 m.From, .int .i64 m.To, .int .i64 m.View, .int .i64 m.At, .bool m.Has, .int .i64 m.Entry.Client, .int .i64 m.Entry.Seq, .int .i64 m.Entry.Op.Kind, .int .i64 m.Entry.Op.Vol, .int .i64 m.Entry.Op.At, .int .i64 m.Entry.Op.Value, .int .i64 m.Last, .slice E13 m.Log.length e13, .int .i64 m.Commit] ∧ Below wr.heap.size wr W) ⟨blk_alloc wr [.int .i64 m.Kind, .int .i64 m.From, .int .i64 m.To, .int .i64 m.View, .int .i64 m.At, .bool m.Has, .int .i64 m.Entry.Client, .int .i64 m.Entry.Seq, .int .i64 m.Entry.Op.Kind, .int .i64 m.Entry.Op.Vol, .int .i64 m.Entry.Op.At, .int .i64 m.Entry.Op.Value, .int .i64 m.Last, .slice E13 m.Log.length e13, .int .i64 m.Commit] _, below_alloc (Below.refl _ _) _⟩ ?_
          rintro W4 ⟨nB, b4⟩
          have u13 := nB.cell (j := 13) rfl
          go_wp2_with fail
          refine (cloneEntry_c m.Log E13 e13 W4 (g13.below b4) hsm).mono ?_
          rintro e w5 ⟨F13, i13, fl, rfl, ol, nl, hb5⟩
          clear u13
          have nB5 := nB.below hb5
          have u13 := nB5.cell (j := 13) rfl
          have z13 := nB5.frozen 13
          have l4 := nB.lt
          have s4 := b4.size
          have s5 := hb5.size
          have il := ol.in
          go_upto_region 11 with fail
          clear u13 z13
          refine at_world (fun W => Blk W wr.heap.size 75 [.int .i64 m.Kind, .int .i64 m.From, .int .i64 m.To, .int .i64 m.View, .int .i64 m.At, .bool m.Has, .int .i64 m.Entry.Client, .int .i64 m.Entry.Seq, .int .i64 m.Entry.Op.Kind, .int .i64 m.Entry.Op.Vol, .int .i64 m.Entry.Op.At, .int .i64 m.Entry.Op.Value, .int .i64 m.Last, .slice F13 m.Log.length i13, .int .i64 m.Commit] ∧ Turn [wr.heap.size] w5 W) ⟨nB5.set0 13 _, (Turn.refl _ _).set (by simp) _⟩ ?_
          rintro W6 ⟨mB, t6⟩
          have s6 := t6.size
          have oW := OwnS.turn (OwnS.bel' ow2 (below_trans b4 hb5)) t6 (by intro b hb hm; simp at hm; have := (hin2 b hb).2; omega)
          have yW := (yM.below (below_trans b4 hb5)).turn t6 (by simp; have := yM.lt; omega)
          replace ol := OwnS.turn ol t6 (by intro b hb hm; simp at hm; have := (il b hb).1; omega)
          clear nB nB5
          have u0 := mB.cell (j := 0) rfl
          have u1 := mB.cell (j := 1) rfl
          have u2 := mB.cell (j := 2) rfl
          have u3 := mB.cell (j := 3) rfl
          have u4 := mB.cell (j := 4) rfl
          have u5 := mB.cell (j := 5) rfl
          have u6 := mB.cell (j := 6) rfl
          have u7 := mB.cell (j := 7) rfl
          have u8 := mB.cell (j := 8) rfl
          have u9 := mB.cell (j := 9) rfl
          have u10 := mB.cell (j := 10) rfl
          have u11 := mB.cell (j := 11) rfl
          have u12 := mB.cell (j := 12) rfl
          have u13 := mB.cell (j := 13) rfl
          have u14 := mB.cell (j := 14) rfl
          have v1 := yW.cell (j := 1) rfl
          have oL : kMail.Own V.heap.size (W6.alloc (.cells #[.int .i64 m.Kind, .int .i64 m.From, .int .i64 m.To, .int .i64 m.View, .int .i64 m.At, .bool m.Has, .int .i64 m.Entry.Client, .int .i64 m.Entry.Seq, .int .i64 m.Entry.Op.Kind, .int .i64 m.Entry.Op.Vol, .int .i64 m.Entry.Op.At, .int .i64 m.Entry.Op.Value, .int .i64 m.Last, .slice F13 m.Log.length i13, .int .i64 m.Commit] 75)) fl [.int .i64 m.Kind, .int .i64 m.From, .int .i64 m.To, .int .i64 m.View, .int .i64 m.At, .bool m.Has, .int .i64 m.Entry.Client, .int .i64 m.Entry.Seq, .int .i64 m.Entry.Op.Kind, .int .i64 m.Entry.Op.Vol, .int .i64 m.Entry.Op.At, .int .i64 m.Entry.Op.Value, .int .i64 m.Last, .slice F13 m.Log.length i13, .int .i64 m.Commit] m :=
            kMail_ownmk m (h13 := OwnS.lift (OwnS.keep ol (fun b hb => Below.heap_alloc _ _ _ (ol.in b hb).2)) (fun b hb' => by have := (il b hb').1; omega))
          have hl6 := lies_alloc W6 #[.int .i64 m.Kind, .int .i64 m.From, .int .i64 m.To, .int .i64 m.View, .int .i64 m.At, .bool m.Has, .int .i64 m.Entry.Client, .int .i64 m.Entry.Seq, .int .i64 m.Entry.Op.Kind, .int .i64 m.Entry.Op.Vol, .int .i64 m.Entry.Op.At, .int .i64 m.Entry.Op.Value, .int .i64 m.Last, .slice F13 m.Log.length i13, .int .i64 m.Commit] 75
          have OW := Lib.hid (OwnS.keep oW (fun b hb => Below.heap_alloc W6 (.cells #[.int .i64 m.Kind, .int .i64 m.From, .int .i64 m.To, .int .i64 m.View, .int .i64 m.At, .bool m.Has, .int .i64 m.Entry.Client, .int .i64 m.Entry.Seq, .int .i64 m.Entry.Op.Kind, .int .i64 m.Entry.Op.Vol, .int .i64 m.Entry.Op.At, .int .i64 m.Entry.Op.Value, .int .i64 m.Last, .slice F13 m.Log.length i13, .int .i64 m.Commit] 75) _ (oW.in b hb).2))
          have y7 := yW.below (below_alloc (Below.refl _ _) (.cells #[.int .i64 m.Kind, .int .i64 m.From, .int .i64 m.To, .int .i64 m.View, .int .i64 m.At, .bool m.Has, .int .i64 m.Entry.Client, .int .i64 m.Entry.Seq, .int .i64 m.Entry.Op.Kind, .int .i64 m.Entry.Op.Vol, .int .i64 m.Entry.Op.At, .int .i64 m.Entry.Op.Value, .int .i64 m.Last, .slice F13 m.Log.length i13, .int .i64 m.Commit] 75))
          go_wp2_with (refine wpList_app (d := kMail) (zs := [m]) (ys := ys) (fp := fq) (fs := fl) (B := V.heap.size) rfl _ _ 31 75 rfl (by kernel_rfl) (by kernel_rfl) rfl rfl OW.out nd2 (Src.ofSlice (P := Tryz.prog) (e' := 75) _ (by kernel_rfl) ⟨W6.heap.size, 0, none⟩ 1 1 _ rfl hl6 (kMail.rd_one (kMail.own_rd oL))) (OwnL.single oL) nl (fun b hb hm => by have := (hin2 b hb).2; have := (il b hm).1; omega) (by rw [hln.out]; simp; omega) (by rw [Deep.nblk_alloc]; omega) ?_; intro v' w' fp' hgr; obtain ⟨r1, r2, r3, r4⟩ := hgr; obtain ⟨AA, cA, rfl, _⟩ := r1.form; have yA := y7.turn r3 (fun hm => by have := (hin2 _ hm).1; omega); have qA := yA.cell (j := 1) rfl; have fA := yA.frozen 1)
          rw [hln.out]
          rw [← htk.out] at r1
          rw [List.length_take, Nat.min_eq_left (show k + 1 ≤ x.Mails.length from hlt)] at r1
          have hT0 : Turn [w1.heap.size] V W6 := Turn.fresh (ht2.trans (Turn.of_below (below_trans b4 hb5))) t6 (by simp; omega)
          have hT : Turn [w1.heap.size] V w' := Turn.fresh (hT0.alloc _) r3 (fun b hb => .inr (hin2 b hb).1)
          exact ⟨⟨k + 1, hlt, by go_num, .slice AA (k + 1) cA, fp', OwnS.turn r1 ((Turn.refl [w1.heap.size] w').set (p := ⟨w1.heap.size, 1, none⟩) (by simp) _) (fun b hb hm => by have := (r1.in b hb).1; simp at hm; omega), r2, yA.set0 1 _, hT.set (p := ⟨w1.heap.size, 1, none⟩) (by simp) _⟩, by simp [intOf]; omega⟩
        · have hk' : k = x.Mails.length := by omega
          subst hk'
          rw [List.take_length] at ow2
          have zW := zV.turn ht2 (by simp; omega)
          have p0 := OwnS.turn ow ht2 (by intro b hb hm; simp at hm; have := (hin b hb).1; omega)
          have p2 := OwnS.turn oV ht2 (by intro b hb hm; simp at hm; have := (i2 b hb).2; omega)
          have x0 := yM.cell (j := 0) rfl
          have x1 := yM.cell (j := 1) rfl
          have x2 := yM.cell (j := 2) rfl
          have r0 := zW.cell (j := 0) rfl
          have r1 := zW.cell (j := 1) rfl
          have r2 := zW.cell (j := 2) rfl
          have e0 := zW.frozen 0
          have e1 := zW.frozen 1
          have e2 := zW.frozen 2
          go_wp2_with fail
          refine bodyPost_ret (v := .agg #[.slice AV x.Nodes.length cV, .slice AW x.Mails.length cW, .slice B2 x.Sealed.length d2]) (by simp [results, Tryz.results43, go_sem, r0, r1, r2]) rfl ?_
          refine ⟨AV, cV, AW, cW, B2, d2, fp, fq, f2, rfl, ⟨?_, ?_, ?_, ?_⟩, ?_⟩
          · refine OwnS.past (lo := w.heap.size + 2) p0 ?_ (by omega) (by omega)
            repeat (first | (with_reducible exact Past.refl _ _) | (with_reducible refine Past.set ?_ (by omega) _))
          · refine OwnS.past (lo := w.heap.size + 2) ow2 ?_ (by omega) (by omega)
            repeat (first | (with_reducible exact Past.refl _ _) | (with_reducible refine Past.set ?_ (by omega) _))
          · refine OwnS.past (lo := w.heap.size + 2) p2 ?_ (by omega) (by omega)
            repeat (first | (with_reducible exact Past.refl _ _) | (with_reducible refine Past.set ?_ (by omega) _))
          · refine List.nodup_append.2 ⟨nd, List.nodup_append.2 ⟨nd2, n2, fun a ha c hc hac => ?_⟩, fun a ha c hc hac => ?_⟩
            · have h1 := (hin2 a ha).1
              have h2 := (i2 c hc).2
              omega
            · have h1 := hin a ha
              rcases List.mem_append.1 hc with hc | hc
              · have := (hin2 c hc).1; omega
              · have := (i2 c hc).2; omega
          · repeat (first | (with_reducible assumption) | (with_reducible exact Below.refl _ _) | (with_reducible apply below_alloc) | (with_reducible apply below_drewN) | (with_reducible apply Below.drew) | (with_reducible refine below_set ?_ (by dsimp only; omega) _) | (with_reducible refine below_trans ?_ (by assumption)))
end Go.Proofs.YtfblopmploohkaaGreatDoor
