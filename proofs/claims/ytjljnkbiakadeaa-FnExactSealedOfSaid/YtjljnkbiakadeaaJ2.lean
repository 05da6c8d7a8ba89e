/- The program's NewCluster (written by gJ2.py, own work). -/
import Derived.Test.YtjljnkbiakadeaaJ1
set_option linter.unusedVariables false
set_option linter.unusedSimpArgs false
namespace Go.Proofs.Ytjljnkbiakadeaa
open Go Go.RowKit Mk
def newL (s k : Nat) : List SReplica := (List.range k).map (fun j => newR j s)
theorem newL_succ (s k : Nat) : newL s (k + 1) = newL s k ++ [newR k s] := by simp [newL, List.range_succ]
theorem newL_len (s k : Nat) : (newL s k).length = k := by simp [newL]
theorem field_rr (v0 v1 v2 v3 v4 v5 v6 v7 v8 v9 v10 v11 : Value) (W : World) : (Instr.field 80 (.agg #[v0, v1, v2, v3, v4, v5, v6, v7, v8, v9, v10, v11]) 1).run Try.prog W = .ok (.agg #[v1, v2, v3, v4, v5, v6, v7, v8, v9, v10]) W := by kernel_rfl
theorem new_own {B B' : Nat} {w5 : World} (x : SReplica) {A6 A8 A9 A10 : Option Addr} {c6 c8 c9 c10 : Nat} {f6 f8 f9 f10 : List Nat} (h : B' ≤ B) (ob : Obj)
    (h5 : OwnS kEntry 100 B w5 f6 (.slice A6 x.Log.length c6) x.Log) (h7 : OwnS kInt 2 B w5 f8 (.slice A8 x.Oks.length c8) x.Oks) (h8 : OwnS kBool 4 B w5 f9 (.slice A9 x.Asks.length c9) x.Asks) (h9 : OwnS kDoer 152 B w5 f10 (.slice A10 x.Doers.length c10) x.Doers) :
    kReplica.Own B' (w5.alloc ob) (f6 ++ (f8 ++ (f9 ++ f10))) [.int .i64 x.Id, .int .i64 x.Size, .int .i64 x.View, .bool x.Normal, .int .i64 x.Last, .slice A6 x.Log.length c6, .int .i64 x.Commit, .slice A8 x.Oks.length c8, .slice A9 x.Asks.length c9, .slice A10 x.Doers.length c10] x := by
  refine kReplica_ownmk x (OwnS.lift (OwnS.keep h5 (fun b hb => Below.heap_alloc _ _ _ (h5.in b hb).2)) (fun b hb => ?_)) (OwnS.lift (OwnS.keep h7 (fun b hb => Below.heap_alloc _ _ _ (h7.in b hb).2)) (fun b hb => ?_)) (OwnS.lift (OwnS.keep h8 (fun b hb => Below.heap_alloc _ _ _ (h8.in b hb).2)) (fun b hb => ?_)) (OwnS.lift (OwnS.keep h9 (fun b hb => Below.heap_alloc _ _ _ (h9.in b hb).2)) (fun b hb => ?_))
  · have := (h5.in b hb).1; omega
  · have := (h7.in b hb).1; omega
  · have := (h8.in b hb).1; omega
  · have := (h9.in b hb).1; omega
theorem new_far {m : Nat} {fp f6 f8 f9 f10 : List Nat} (h : ∀ b ∈ fp, b < m) (i6 : ∀ b ∈ f6, m ≤ b) (i8 : ∀ b ∈ f8, m ≤ b) (i9 : ∀ b ∈ f9, m ≤ b) (i10 : ∀ b ∈ f10, m ≤ b) : ∀ b ∈ fp, b ∉ f6 ++ (f8 ++ (f9 ++ f10)) := by
  intro b hb hm
  have := h b hb
  simp only [List.mem_append] at hm
  rcases hm with q | q | q | q
  · have := i6 b q; omega
  · have := i8 b q; omega
  · have := i9 b q; omega
  · have := i10 b q; omega
theorem new_nd {f6 f8 f9 f10 f11 : List Nat} (h : (f6 ++ (f8 ++ (f9 ++ (f10 ++ f11)))).Nodup) : (f6 ++ (f8 ++ (f9 ++ f10))).Nodup := by
  have : ((f6 ++ (f8 ++ (f9 ++ f10))) ++ f11).Nodup := by simpa [List.append_assoc] using h
  exact (List.nodup_append.1 this).1
def LaidCR (x : SClusterResult) (w : World) (r : Ending) (w' : World) : Prop :=
  ∃ A1 c1 A2 c2 A3 c3 f1 f2 f3, r = .returned (.agg #[.int .i64 x.Code, .slice A1 x.Cluster.Nodes.length c1, .slice A2 x.Cluster.Mails.length c2, .slice A3 x.Cluster.Sealed.length c3]) ∧ HasClusterResult w.heap.size w' x A1 c1 A2 c2 A3 c3 f1 f2 f3 ∧ Below w.heap.size w w'
set_option maxRecDepth 100000 in
set_option maxHeartbeats 4000000 in
theorem iNewCluster_c (s : Nat) (w : World) (h1 : 1 ≤ s) (h2 : s ≤ 5) :
    Calls Try.prog 17 #[.int .i64 s] w fun r w' => LaidCR ⟨0, ⟨newL s s, [], []⟩⟩ w r w' := by
  have k1 : wi (s : Int) 1 5 = true := by unfold wi; simp; omega
  go_enter Try.func17, Try.ntmps17
  go_upto_region 4 with (first | (go_at_call 39; (with_reducible refine (within_c _ _ _ _).mono ?_); rintro e w' ⟨rfl, rfl⟩))
  refine at_world (fun W => Blk W w.heap.size 42 [.int .i64 0, .slice none 0 0, .slice none 0 0, .slice none 0 0] ∧ Blk W (w.heap.size + 1) 40 [.slice none 0 0, .slice none 0 0, .slice none 0 0] ∧ Below w.heap.size w W) ⟨(blk_alloc w [.int .i64 0, .slice none 0 0, .slice none 0 0, .slice none 0 0] 42).below (below_alloc (Below.refl _ _) _), (by
    have := blk_alloc (w.alloc (.cells #[.int .i64 0, .slice none 0 0, .slice none 0 0, .slice none 0 0] 42)) [.slice none 0 0, .slice none 0 0, .slice none 0 0] 40
    rwa [Deep.nblk_alloc] at this), by repeat (first | (with_reducible assumption) | (with_reducible exact Below.refl _ _) | (with_reducible apply below_alloc) | (with_reducible apply below_drewN) | (with_reducible apply Below.drew) | (with_reducible refine below_set ?_ (by dsimp only; omega) _) | (with_reducible refine below_trans ?_ (by assumption)))⟩ ?_
  rintro W1 ⟨zB, yB, bw1⟩
  clear k1
  have l1 := yB.lt
  go_wp2_with fail
  go_loopw [11] (fun j W => ∃ k : Nat, k ≤ s ∧ j = .int .i64 k ∧ ∃ vv fp, OwnS kReplica 78 (w.heap.size + 2) W fp vv (newL s k) ∧ fp.Nodup ∧ Blk W w.heap.size 42 [.int .i64 0, .slice none 0 0, .slice none 0 0, .slice none 0 0] ∧ Blk W (w.heap.size + 1) 40 [vv, .slice none 0 0, .slice none 0 0] ∧ Below w.heap.size w W) (fun j _ => s - (intOf j).toNat)
  case atStart => exact ⟨0, Nat.zero_le _, rfl, .slice none 0 0, [], ownS_nil _ _ _, List.nodup_nil, zB, yB, bw1⟩
  case round =>
    obtain ⟨k, hk, rfl, vv, fp, ow, nd, zK, yK, hb⟩ := hrel
    obtain ⟨AV, cV, rfl, _⟩ := ow.form
    rw [newL_len] at ow yK
    have lk := yK.lt
    have hin := ow.in
    have hln := Lib.hid (newL_len s k)
    by_cases hlt : k < s
    · have hlt' : (k : Int) < (s : Int) := by omega
      have v0 := yK.cell (j := 0) rfl
      have z0 := yK.frozen 0
      go_upto_region 7 with fail
      have hFd := field_rr
      go_region_law (first | (refine step_app (d := kReplica) (zs := [newR k s]) (ys := newL s k) (fp := fp) (fs := f6 ++ (f8 ++ (f9 ++ f10))) (v := .slice AV k cV) (x := .slice (some ⟨w5.heap.size, 0, none⟩) 1 1) (ce := [.int .i64 (newR k s).Id, .int .i64 (newR k s).Size, .int .i64 (newR k s).View, .bool (newR k s).Normal, .int .i64 (newR k s).Last, .slice A6 (newR k s).Log.length c6, .int .i64 (newR k s).Commit, .slice A8 (newR k s).Oks.length c8, .slice A9 (newR k s).Asks.length c9, .slice A10 (newR k s).Doers.length c10]) (B := w.heap.size + 2) rfl (.tmp 15) (.tmp 20) 36 78 rfl (by kernel_rfl) (by kernel_rfl) (by simp [Act.eval, Act.put]) (by simp [Act.eval, Act.put]) (OwnS.keep ow5 (fun b hb => Below.heap_alloc w5 _ _ (ow5.in b hb).2)) nd (Src.ofSlice (P := Try.prog) (e' := 78) _ (by kernel_rfl) ⟨w5.heap.size, 0, none⟩ 1 1 _ rfl (lies_alloc w5 #[.int .i64 (newR k s).Id, .int .i64 (newR k s).Size, .int .i64 (newR k s).View, .bool (newR k s).Normal, .int .i64 (newR k s).Last, .slice A6 (newR k s).Log.length c6, .int .i64 (newR k s).Commit, .slice A8 (newR k s).Oks.length c8, .slice A9 (newR k s).Asks.length c9, .slice A10 (newR k s).Doers.length c10] 78) (kReplica.rd_one (kReplica.own_rd oL))) (OwnL.single oL) ndN hdN (by rw [hln.out]; simp; omega) (by show _ ≤ (w5.alloc _).heap.size; rw [Deep.nblk_alloc]; omega) ?_; intro v' w' fp' hgr; obtain ⟨r1, r2, r3, r4⟩ := hgr; obtain ⟨AA, cA, rfl, _⟩ := r1.form; have yA := (y5.below (below_alloc (Below.refl _ _) _)).turn r3 (fun hm => by have := (hin _ hm).1; omega); have zA := (z5.below (below_alloc (Below.refl _ _) _)).turn r3 (fun hm => by have := (hin _ hm).1; omega); have qA := yA.cell (j := 0) rfl; have fA := yA.frozen 0) | ((try go_simp); go_at_call 46; refine (iNewReplica_c k s _ hlt h2).mono ?_; rintro e w5 ⟨A6, c6, A8, c8, A9, c9, A10, c10, A11, c11, f6, f8, f9, f10, f11, rfl, ⟨o6, o8, o9, o10, -, ndR⟩, hb5⟩; have b5 : Below wr.heap.size wr w5 := (below_trans (Below.refl _ _).drew hb5); have y5 := yK.below b5; have z5 := zK.below b5; have v5 := y5.cell (j := 0) rfl; have zz5 := y5.frozen 0; have y6 := y5.below (below_alloc (Below.refl _ _) (.cells #[.int .i64 (newR k s).Id, .int .i64 (newR k s).Size, .int .i64 (newR k s).View, .bool (newR k s).Normal, .int .i64 (newR k s).Last, .slice A6 (newR k s).Log.length c6, .int .i64 (newR k s).Commit, .slice A8 (newR k s).Oks.length c8, .slice A9 (newR k s).Asks.length c9, .slice A10 (newR k s).Doers.length c10] 78)); have v6 := y6.cell (j := 0) rfl; have ow5 := OwnS.keep ow (fun b hb => b5.block b (hin b hb).2); have s5 := b5.size; have oL := new_own (B' := w.heap.size + 2) (newR k s) (by show _ ≤ wr.heap.size; omega) (.cells #[.int .i64 (newR k s).Id, .int .i64 (newR k s).Size, .int .i64 (newR k s).View, .bool (newR k s).Normal, .int .i64 (newR k s).Last, .slice A6 (newR k s).Log.length c6, .int .i64 (newR k s).Commit, .slice A8 (newR k s).Oks.length c8, .slice A9 (newR k s).Asks.length c9, .slice A10 (newR k s).Doers.length c10] 78) o6 o8 o9 o10; have ndN := new_nd ndR; have hdN := new_far (m := wr.heap.size) (fun b hb => (hin b hb).2) (fun b hb => (o6.in b hb).1) (fun b hb => (o8.in b hb).1) (fun b hb => (o9.in b hb).1) (fun b hb => (o10.in b hb).1)))
      all_goals (go_wp2_with fail)
      all_goals
        rw [hln.out]
        rw [← newL_succ, newL_len] at r1
        refine ⟨⟨k + 1, hlt, by go_num, .slice AA (k + 1) cA, fp', OwnS.turn r1 ((Turn.refl [w.heap.size + 1] w').set (p := ⟨w.heap.size + 1, 0, none⟩) (by simp) _) (fun b hb hm => by have := (r1.in b hb).1; simp at hm; omega), r2, zA.set_ne (a := ⟨w.heap.size + 1, 0, none⟩) (by show w.heap.size + 1 ≠ _; omega) _, yA.set0 0 _, ?_⟩, by simp [intOf]; omega⟩
        have bA : Below w.heap.size w (w5.alloc (.cells #[.int .i64 (newR k s).Id, .int .i64 (newR k s).Size, .int .i64 (newR k s).View, .bool (newR k s).Normal, .int .i64 (newR k s).Last, .slice A6 (newR k s).Log.length c6, .int .i64 (newR k s).Commit, .slice A8 (newR k s).Oks.length c8, .slice A9 (newR k s).Asks.length c9, .slice A10 (newR k s).Doers.length c10] 78)) := below_alloc (below_trans hb b5) _
        exact below_set (bA.trans (r3.below (fun b hb => by have := (hin b hb).1; omega) bA.size)) (by show w.heap.size ≤ w.heap.size + 1; omega) _
    · have hk' : s = k := by omega
      subst hk'
      have x0 := yK.cell (j := 0) rfl
      have x1 := yK.cell (j := 1) rfl
      have x2 := yK.cell (j := 2) rfl
      have r0 := zK.cell (j := 0) rfl
      have r1 := zK.cell (j := 1) rfl
      have r2 := zK.cell (j := 2) rfl
      have r3 := zK.cell (j := 3) rfl
      have e0 := zK.frozen 0
      have e1 := zK.frozen 1
      have e2 := zK.frozen 2
      have e3 := zK.frozen 3
      go_wp2_with fail
      refine bodyPost_ret (v := .agg #[.int .i64 0, .slice AV s cV, .slice none 0 0, .slice none 0 0]) (by simp [results, Try.results17, go_sem, r0, r1, r2, r3]) rfl ?_
      refine ⟨AV, cV, none, 0, none, 0, fp, [], [], ?_, ⟨?_, ownS_nil _ _ _, ownS_nil _ _ _, by simpa using nd⟩, ?_⟩
      · simp only [newL_len, List.length_nil]
      · simp only [newL_len]
        refine OwnS.past (lo := w.heap.size + 2) ow ?_ (by omega) (by omega)
        repeat (first | (with_reducible exact Past.refl _ _) | (with_reducible refine Past.set ?_ (by omega) _))
      · repeat (first | (with_reducible assumption) | (with_reducible exact Below.refl _ _) | (with_reducible apply below_alloc) | (with_reducible apply below_drewN) | (with_reducible apply Below.drew) | (with_reducible refine below_set ?_ (by dsimp only; omega) _) | (with_reducible refine below_trans ?_ (by assumption)))
end Go.Proofs.Ytjljnkbiakadeaa
