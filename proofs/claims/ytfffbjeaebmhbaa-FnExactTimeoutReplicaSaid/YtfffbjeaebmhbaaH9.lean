/- CrashReplica and TimeoutReplica of the program. -/
import Derived.Test.YtfffbjeaebmhbaaH8
set_option linter.unusedVariables false
set_option linter.unusedSimpArgs false
namespace Go.Proofs.Ytfffbjeaebmhbaa
open Go Go.RowKit Mk
theorem first_zero {α : Type} {f : α → Int} : ∀ {xs : List α}, first f xs = 0 → ∀ x ∈ xs, f x = 0
  | [], _, x, hx => by cases hx
  | y :: ys, h, x, hx => by
    unfold first at h
    split at h
    · rename_i q; rw [h] at q; cases q
    · rename_i q
      rcases List.mem_cons.1 hx with rfl | hx
      · simpa using q
      · exact first_zero h x hx
theorem logF_len {xs : List SEntry} (h : logF xs = 0) : xs.length ≤ 40 := by
  unfold logF at h
  split at h
  · cases h
  · omega
theorem doerF_log {d : SDoer} (h : doerF d = 0) : d.Log.length ≤ 40 := by
  unfold doerF at h
  split at h
  · cases h
  · split at h
    · cases h
    · split at h
      · rename_i q; rw [h] at q; cases q
      · rename_i q; exact logF_len (by simpa using q)
theorem repF_nums {n : SReplica} (h : (repF n != 0) = false) : NumsRep n n.Id.toNat n.Size.toNat n.View.toNat := by
  have h0 : repF n = 0 := by simpa using h
  unfold repF at h0
  split at h0
  · cases h0
  rename_i q1
  split at h0
  · rename_i q; rw [h0] at q; cases q
  rename_i q2
  split at h0
  · cases h0
  split at h0
  · cases h0
  rename_i q4
  split at h0
  · cases h0
  simp only [Bool.not_eq_true', Bool.not_eq_false, Bool.and_eq_true] at q1
  obtain ⟨⟨⟨a1, a2⟩, a3⟩, a4⟩ := q1
  have a1 := wi_b a1
  have a2 := wi_b a2
  have a3 := wi_b a3
  simp only [Bool.or_eq_true, not_or, Bool.not_eq_true, bne_eq_false_iff_eq] at q4
  obtain ⟨⟨⟨_, b2⟩, b3⟩, b4⟩ := q4
  refine ⟨by omega, by omega, by omega, by omega, by omega, by omega, ?_, ?_, ?_, logF_len (by simpa using q2), fun d hd => doerF_log (first_zero h0 d hd)⟩
  · unfold oksN at b2; split at b2 <;> omega
  · unfold asksN at b3; split at b3 <;> simp_all <;> omega
  · unfold asksN at b4; split at b4 <;> simp_all <;> omega
theorem NumsRep.small {n : SReplica} {i s v : Nat} (h : NumsRep n i s v) : SmallRep n := by
  have h1 := h.le
  have h2 := h.asks
  have h3 := h.doers
  have h4 := h.log
  have h5 := h.oks
  refine ⟨by omega, by omega, by split at h2 <;> omega, by split at h3 <;> omega, fun d hd => by have := h.logs d hd; omega⟩
theorem crashR_small {n : SReplica} {i s v : Nat} (h : NumsRep n i s v) : SmallRep (crashR n i s) := by
  have hs := h.small
  have h1 := h.le
  have h5 := h.oks
  refine ⟨hs.1, by simp [crashR]; omega, ?_, ?_, ?_⟩
  · unfold crashR; dsimp only; split
    · exact hs.2.2.1
    · rw [aloneL_len]; omega
  · unfold crashR; dsimp only; split
    · exact hs.2.2.2.1
    · simp; omega
  · unfold crashR; dsimp only; split
    · exact hs.2.2.2.2
    · intro d hd; rw [List.eq_of_mem_replicate hd]; simp [zDoer]
theorem timeoutR_small {n : SReplica} {i s v : Nat} (h : NumsRep n i s v) : SmallRep (timeoutR n i s v) := by
  have hs := h.small
  have h1 := h.le
  unfold timeoutR
  split
  · refine ⟨hs.1, ?_, by simp [settleR], by simp [settleR], by simp [settleR]⟩
    simp only [settleR, oksZ]; split <;> simp <;> omega
  · refine ⟨hs.1, by simp [askR], by simp [askR, aloneL_len]; omega, by simp [askR]; omega, ?_⟩
    intro d hd; simp only [askR] at hd; rw [List.eq_of_mem_replicate hd]; simp [zDoer]
def crashX (n : SReplica) : SReplicaResult := if repF n != 0 then ⟨repF n, zReplica, []⟩ else ⟨0, crashR n n.Id.toNat n.Size.toNat, []⟩
def timeoutX (n : SReplica) : SReplicaResult :=
  if repF n != 0 then ⟨repF n, zReplica, []⟩ else if n.View == 200 then ⟨2, zReplica, []⟩
  else ⟨0, timeoutR n n.Id.toNat n.Size.toNat n.View.toNat, timeoutM n.Id.toNat n.Size.toNat n.View.toNat⟩
theorem crash_does {n : SReplica} {i s v : Nat} (h : NumsRep n i s v) : Does 101 #[] n (crashR n i s) [] 0 :=
  fun b A5 c5 A7 c7 A8 c8 A9 c9 f5 f7 f8 f9 B W hB hn hb hBw => crash_c b n i s v A5 c5 A7 c7 A8 c8 A9 c9 f5 f7 f8 f9 B W hB hn hb hBw h
theorem timeout_does {n : SReplica} {i s v : Nat} (h : NumsRep n i s v) (hv : v < 200) : Does 118 #[] n (timeoutR n i s v) (timeoutM i s v) 0 :=
  fun b A5 c5 A7 c7 A8 c8 A9 c9 f5 f7 f8 f9 B W hB hn hb hBw => timeout_c b n i s v A5 c5 A7 c7 A8 c8 A9 c9 f5 f7 f8 f9 B W hB hn hb hBw h hv
theorem timeout_full {n : SReplica} (hv : n.View = 200) : Does 118 #[] n n [] 2 :=
  fun b A5 c5 A7 c7 A8 c8 A9 c9 f5 f7 f8 f9 B W hB hn hb hBw => timeout_max b n A5 c5 A7 c7 A8 c8 A9 c9 f5 f7 f8 f9 B W hB hn hb hv
theorem crash_done (n : SReplica) (A5 : Option Addr) (c5 : Nat) (A7 : Option Addr) (c7 : Nat) (A8 : Option Addr) (c8 : Nat) (A9 : Option Addr) (c9 : Nat) (w : World) (h5 : RdS kEntry w A5 c5 n.Log) (h7 : RdS kInt w A7 c7 n.Oks) (h8 : RdS kBool w A8 c8 n.Asks) (h9 : RdS kDoer w A9 c9 n.Doers) :
    Calls Try.prog 100 #[.agg #[.int .i64 n.Id, .int .i64 n.Size, .int .i64 n.View, .bool n.Normal, .int .i64 n.Last, .slice A5 n.Log.length c5, .int .i64 n.Commit, .slice A7 n.Oks.length c7, .slice A8 n.Asks.length c8, .slice A9 n.Doers.length c9], .func (.func 101) #[] #[]] w fun r w' => LaidRR (crashX n) w r w' := by
  cases q : (repF n != 0) with
  | true => rw [show crashX n = ⟨repF n, zReplica, []⟩ by unfold crashX; rw [q, if_pos rfl]]; exact done_bad _ n _ _ _ _ _ _ _ _ w h5 h7 h8 h9 q
  | false =>
    have hf := repF_nums q
    rw [show crashX n = ⟨0, crashR n n.Id.toNat n.Size.toNat, []⟩ by unfold crashX; rw [q, if_neg (by simp)]]
    exact done_did _ #[] (Go.Proofs.enters_of Try.func101 (by kernel_rfl) rfl) n _ [] 0 _ _ _ _ _ _ _ _ w h5 h7 h8 h9 q hf.small (crashR_small hf) (crash_does hf)
theorem timeout_done (n : SReplica) (A5 : Option Addr) (c5 : Nat) (A7 : Option Addr) (c7 : Nat) (A8 : Option Addr) (c8 : Nat) (A9 : Option Addr) (c9 : Nat) (w : World) (h5 : RdS kEntry w A5 c5 n.Log) (h7 : RdS kInt w A7 c7 n.Oks) (h8 : RdS kBool w A8 c8 n.Asks) (h9 : RdS kDoer w A9 c9 n.Doers) :
    Calls Try.prog 100 #[.agg #[.int .i64 n.Id, .int .i64 n.Size, .int .i64 n.View, .bool n.Normal, .int .i64 n.Last, .slice A5 n.Log.length c5, .int .i64 n.Commit, .slice A7 n.Oks.length c7, .slice A8 n.Asks.length c8, .slice A9 n.Doers.length c9], .func (.func 118) #[] #[]] w fun r w' => LaidRR (timeoutX n) w r w' := by
  cases q : (repF n != 0) with
  | true => rw [show timeoutX n = ⟨repF n, zReplica, []⟩ by unfold timeoutX; rw [q, if_pos rfl]]; exact done_bad _ n _ _ _ _ _ _ _ _ w h5 h7 h8 h9 q
  | false =>
    have hf := repF_nums q
    have eg := Go.Proofs.enters_of Try.func118 (by kernel_rfl) rfl
    cases q2 : (n.View == 200) with
    | true =>
      rw [show timeoutX n = ⟨2, zReplica, []⟩ by unfold timeoutX; rw [q, q2]; rfl]
      exact done_did _ #[] eg n n [] 2 _ _ _ _ _ _ _ _ w h5 h7 h8 h9 q hf.small hf.small (timeout_full (by simpa using q2))
    | false =>
      have hv : n.View.toNat < 200 := by
        have h1 := hf.view; have h2 := hf.vle
        have h3 : n.View ≠ 200 := by simpa using q2
        omega
      rw [show timeoutX n = ⟨0, timeoutR n n.Id.toNat n.Size.toNat n.View.toNat, timeoutM n.Id.toNat n.Size.toNat n.View.toNat⟩ by unfold timeoutX; rw [q, q2]; rfl]
      exact done_did _ #[] eg n _ _ 0 _ _ _ _ _ _ _ _ w h5 h7 h8 h9 q hf.small (timeoutR_small hf) (timeout_does hf hv)
set_option maxRecDepth 100000 in
set_option maxHeartbeats 2000000 in
theorem iCrashReplica_c (n : SReplica) (A5 : Option Addr) (c5 : Nat) (A7 : Option Addr) (c7 : Nat) (A8 : Option Addr) (c8 : Nat) (A9 : Option Addr) (c9 : Nat) (w : World) (h5 : RdS kEntry w A5 c5 n.Log) (h7 : RdS kInt w A7 c7 n.Oks) (h8 : RdS kBool w A8 c8 n.Asks) (h9 : RdS kDoer w A9 c9 n.Doers) :
    Calls Try.prog 44 #[.agg #[.int .i64 n.Id, .int .i64 n.Size, .int .i64 n.View, .bool n.Normal, .int .i64 n.Last, .slice A5 n.Log.length c5, .int .i64 n.Commit, .slice A7 n.Oks.length c7, .slice A8 n.Asks.length c8, .slice A9 n.Doers.length c9]] w fun r w' => LaidRR (crashX n) w r w' := by
  have HD := Lib.hid (crash_done n)
  generalize crashX n = x at HD ⊢
  go_enter Try.func44, Try.ntmps44
  go_wp2_with fail
  refine (HD.out _ _ _ _ _ _ _ _ _ (h5.below (by repeat (first | (with_reducible assumption) | (with_reducible exact Below.refl _ _) | (with_reducible apply below_alloc) | (with_reducible apply below_drewN) | (with_reducible apply Below.drew) | (with_reducible refine below_set ?_ (by dsimp only; omega) _) | (with_reducible refine below_trans ?_ (by assumption))))) (h7.below (by repeat (first | (with_reducible assumption) | (with_reducible exact Below.refl _ _) | (with_reducible apply below_alloc) | (with_reducible apply below_drewN) | (with_reducible apply Below.drew) | (with_reducible refine below_set ?_ (by dsimp only; omega) _) | (with_reducible refine below_trans ?_ (by assumption))))) (h8.below (by repeat (first | (with_reducible assumption) | (with_reducible exact Below.refl _ _) | (with_reducible apply below_alloc) | (with_reducible apply below_drewN) | (with_reducible apply Below.drew) | (with_reducible refine below_set ?_ (by dsimp only; omega) _) | (with_reducible refine below_trans ?_ (by assumption))))) (h9.below (by repeat (first | (with_reducible assumption) | (with_reducible exact Below.refl _ _) | (with_reducible apply below_alloc) | (with_reducible apply below_drewN) | (with_reducible apply Below.drew) | (with_reducible refine below_set ?_ (by dsimp only; omega) _) | (with_reducible refine below_trans ?_ (by assumption)))))).mono ?_
  rintro r w1 ⟨A6, c6, A8', c8', A9', c9', A10, c10, A11, c11, f6, f8, f9, f10, f11, rfl, ⟨k6, k8, k9, k10, k11, nd⟩, hb1⟩
  have zB : Blk w1 (w.heap.size + 1) 61 [.int .i64 0, .int .i64 0, .int .i64 0, .int .i64 0, .bool false, .int .i64 0, .slice none 0 0, .int .i64 0, .slice none 0 0, .slice none 0 0, .slice none 0 0, .slice none 0 0] := by
    have := (blk_alloc (w.alloc (.cells #[.int .i64 n.Id, .int .i64 n.Size, .int .i64 n.View, .bool n.Normal, .int .i64 n.Last, .slice A5 n.Log.length c5, .int .i64 n.Commit, .slice A7 n.Oks.length c7, .slice A8 n.Asks.length c8, .slice A9 n.Doers.length c9] 59)) [.int .i64 0, .int .i64 0, .int .i64 0, .int .i64 0, .bool false, .int .i64 0, .slice none 0 0, .int .i64 0, .slice none 0 0, .slice none 0 0, .slice none 0 0, .slice none 0 0] 61).below hb1
    rwa [Deep.nblk_alloc] at this
  have lo1 : w.heap.size + 2 ≤ w1.heap.size := by have := hb1.size; simp only [Deep.nblk_alloc] at this; omega
  have r0 := zB.cell (j := 0) rfl
  have y0 := zB.frozen 0
  have r1 := zB.cell (j := 1) rfl
  have y1 := zB.frozen 1
  have r2 := zB.cell (j := 2) rfl
  have y2 := zB.frozen 2
  have r3 := zB.cell (j := 3) rfl
  have y3 := zB.frozen 3
  have r4 := zB.cell (j := 4) rfl
  have y4 := zB.frozen 4
  have r5 := zB.cell (j := 5) rfl
  have y5 := zB.frozen 5
  have r6 := zB.cell (j := 6) rfl
  have y6 := zB.frozen 6
  have r7 := zB.cell (j := 7) rfl
  have y7 := zB.frozen 7
  have r8 := zB.cell (j := 8) rfl
  have y8 := zB.frozen 8
  have r9 := zB.cell (j := 9) rfl
  have y9 := zB.frozen 9
  have r10 := zB.cell (j := 10) rfl
  have y10 := zB.frozen 10
  have r11 := zB.cell (j := 11) rfl
  have y11 := zB.frozen 11
  clear zB
  go_wp2_with fail
  refine bodyPost_ret (v := .agg #[.int .i64 x.Code, .int .i64 x.Replica.Id, .int .i64 x.Replica.Size, .int .i64 x.Replica.View, .bool x.Replica.Normal, .int .i64 x.Replica.Last, .slice A6 x.Replica.Log.length c6, .int .i64 x.Replica.Commit, .slice A8' x.Replica.Oks.length c8', .slice A9' x.Replica.Asks.length c9', .slice A10 x.Replica.Doers.length c10, .slice A11 x.Send.length c11]) (by simp [results, Try.results44, go_sem, r0, r1, r2, r3, r4, r5, r6, r7, r8, r9, r10, r11]) rfl ?_
  refine ⟨A6, c6, A8', c8', A9', c9', A10, c10, A11, c11, f6, f8, f9, f10, f11, rfl, ⟨?_, ?_, ?_, ?_, ?_, nd⟩, ?_⟩
  · refine OwnS.past (lo := w.heap.size + 2) (w := w1) k6 ?_ (by simp only [Deep.nblk_alloc]; omega) (by simp only [Deep.nblk_alloc]; omega)
    repeat (first | (with_reducible exact Past.refl _ _) | (with_reducible refine Past.set ?_ (by omega) _))
  · refine OwnS.past (lo := w.heap.size + 2) (w := w1) k8 ?_ (by simp only [Deep.nblk_alloc]; omega) (by simp only [Deep.nblk_alloc]; omega)
    repeat (first | (with_reducible exact Past.refl _ _) | (with_reducible refine Past.set ?_ (by omega) _))
  · refine OwnS.past (lo := w.heap.size + 2) (w := w1) k9 ?_ (by simp only [Deep.nblk_alloc]; omega) (by simp only [Deep.nblk_alloc]; omega)
    repeat (first | (with_reducible exact Past.refl _ _) | (with_reducible refine Past.set ?_ (by omega) _))
  · refine OwnS.past (lo := w.heap.size + 2) (w := w1) k10 ?_ (by simp only [Deep.nblk_alloc]; omega) (by simp only [Deep.nblk_alloc]; omega)
    repeat (first | (with_reducible exact Past.refl _ _) | (with_reducible refine Past.set ?_ (by omega) _))
  · refine OwnS.past (lo := w.heap.size + 2) (w := w1) k11 ?_ (by simp only [Deep.nblk_alloc]; omega) (by simp only [Deep.nblk_alloc]; omega)
    repeat (first | (with_reducible exact Past.refl _ _) | (with_reducible refine Past.set ?_ (by omega) _))
  · repeat (first | (with_reducible assumption) | (with_reducible exact Below.refl _ _) | (with_reducible apply below_alloc) | (with_reducible apply below_drewN) | (with_reducible apply Below.drew) | (with_reducible refine below_set ?_ (by dsimp only; omega) _) | (with_reducible refine below_trans ?_ (by assumption)))
set_option maxRecDepth 100000 in
set_option maxHeartbeats 2000000 in
theorem iTimeoutReplica_c (n : SReplica) (A5 : Option Addr) (c5 : Nat) (A7 : Option Addr) (c7 : Nat) (A8 : Option Addr) (c8 : Nat) (A9 : Option Addr) (c9 : Nat) (w : World) (h5 : RdS kEntry w A5 c5 n.Log) (h7 : RdS kInt w A7 c7 n.Oks) (h8 : RdS kBool w A8 c8 n.Asks) (h9 : RdS kDoer w A9 c9 n.Doers) :
    Calls Try.prog 59 #[.agg #[.int .i64 n.Id, .int .i64 n.Size, .int .i64 n.View, .bool n.Normal, .int .i64 n.Last, .slice A5 n.Log.length c5, .int .i64 n.Commit, .slice A7 n.Oks.length c7, .slice A8 n.Asks.length c8, .slice A9 n.Doers.length c9]] w fun r w' => LaidRR (timeoutX n) w r w' := by
  have HD := Lib.hid (timeout_done n)
  generalize timeoutX n = x at HD ⊢
  go_enter Try.func59, Try.ntmps59
  go_wp2_with fail
  refine (HD.out _ _ _ _ _ _ _ _ _ (h5.below (by repeat (first | (with_reducible assumption) | (with_reducible exact Below.refl _ _) | (with_reducible apply below_alloc) | (with_reducible apply below_drewN) | (with_reducible apply Below.drew) | (with_reducible refine below_set ?_ (by dsimp only; omega) _) | (with_reducible refine below_trans ?_ (by assumption))))) (h7.below (by repeat (first | (with_reducible assumption) | (with_reducible exact Below.refl _ _) | (with_reducible apply below_alloc) | (with_reducible apply below_drewN) | (with_reducible apply Below.drew) | (with_reducible refine below_set ?_ (by dsimp only; omega) _) | (with_reducible refine below_trans ?_ (by assumption))))) (h8.below (by repeat (first | (with_reducible assumption) | (with_reducible exact Below.refl _ _) | (with_reducible apply below_alloc) | (with_reducible apply below_drewN) | (with_reducible apply Below.drew) | (with_reducible refine below_set ?_ (by dsimp only; omega) _) | (with_reducible refine below_trans ?_ (by assumption))))) (h9.below (by repeat (first | (with_reducible assumption) | (with_reducible exact Below.refl _ _) | (with_reducible apply below_alloc) | (with_reducible apply below_drewN) | (with_reducible apply Below.drew) | (with_reducible refine below_set ?_ (by dsimp only; omega) _) | (with_reducible refine below_trans ?_ (by assumption)))))).mono ?_
  rintro r w1 ⟨A6, c6, A8', c8', A9', c9', A10, c10, A11, c11, f6, f8, f9, f10, f11, rfl, ⟨k6, k8, k9, k10, k11, nd⟩, hb1⟩
  have zB : Blk w1 (w.heap.size + 1) 61 [.int .i64 0, .int .i64 0, .int .i64 0, .int .i64 0, .bool false, .int .i64 0, .slice none 0 0, .int .i64 0, .slice none 0 0, .slice none 0 0, .slice none 0 0, .slice none 0 0] := by
    have := (blk_alloc (w.alloc (.cells #[.int .i64 n.Id, .int .i64 n.Size, .int .i64 n.View, .bool n.Normal, .int .i64 n.Last, .slice A5 n.Log.length c5, .int .i64 n.Commit, .slice A7 n.Oks.length c7, .slice A8 n.Asks.length c8, .slice A9 n.Doers.length c9] 59)) [.int .i64 0, .int .i64 0, .int .i64 0, .int .i64 0, .bool false, .int .i64 0, .slice none 0 0, .int .i64 0, .slice none 0 0, .slice none 0 0, .slice none 0 0, .slice none 0 0] 61).below hb1
    rwa [Deep.nblk_alloc] at this
  have lo1 : w.heap.size + 2 ≤ w1.heap.size := by have := hb1.size; simp only [Deep.nblk_alloc] at this; omega
  have r0 := zB.cell (j := 0) rfl
  have y0 := zB.frozen 0
  have r1 := zB.cell (j := 1) rfl
  have y1 := zB.frozen 1
  have r2 := zB.cell (j := 2) rfl
  have y2 := zB.frozen 2
  have r3 := zB.cell (j := 3) rfl
  have y3 := zB.frozen 3
  have r4 := zB.cell (j := 4) rfl
  have y4 := zB.frozen 4
  have r5 := zB.cell (j := 5) rfl
  have y5 := zB.frozen 5
  have r6 := zB.cell (j := 6) rfl
  have y6 := zB.frozen 6
  have r7 := zB.cell (j := 7) rfl
  have y7 := zB.frozen 7
  have r8 := zB.cell (j := 8) rfl
  have y8 := zB.frozen 8
  have r9 := zB.cell (j := 9) rfl
  have y9 := zB.frozen 9
  have r10 := zB.cell (j := 10) rfl
  have y10 := zB.frozen 10
  have r11 := zB.cell (j := 11) rfl
  have y11 := zB.frozen 11
  clear zB
  go_wp2_with fail
  refine bodyPost_ret (v := .agg #[.int .i64 x.Code, .int .i64 x.Replica.Id, .int .i64 x.Replica.Size, .int .i64 x.Replica.View, .bool x.Replica.Normal, .int .i64 x.Replica.Last, .slice A6 x.Replica.Log.length c6, .int .i64 x.Replica.Commit, .slice A8' x.Replica.Oks.length c8', .slice A9' x.Replica.Asks.length c9', .slice A10 x.Replica.Doers.length c10, .slice A11 x.Send.length c11]) (by simp [results, Try.results59, go_sem, r0, r1, r2, r3, r4, r5, r6, r7, r8, r9, r10, r11]) rfl ?_
  refine ⟨A6, c6, A8', c8', A9', c9', A10, c10, A11, c11, f6, f8, f9, f10, f11, rfl, ⟨?_, ?_, ?_, ?_, ?_, nd⟩, ?_⟩
  · refine OwnS.past (lo := w.heap.size + 2) (w := w1) k6 ?_ (by simp only [Deep.nblk_alloc]; omega) (by simp only [Deep.nblk_alloc]; omega)
    repeat (first | (with_reducible exact Past.refl _ _) | (with_reducible refine Past.set ?_ (by omega) _))
  · refine OwnS.past (lo := w.heap.size + 2) (w := w1) k8 ?_ (by simp only [Deep.nblk_alloc]; omega) (by simp only [Deep.nblk_alloc]; omega)
    repeat (first | (with_reducible exact Past.refl _ _) | (with_reducible refine Past.set ?_ (by omega) _))
  · refine OwnS.past (lo := w.heap.size + 2) (w := w1) k9 ?_ (by simp only [Deep.nblk_alloc]; omega) (by simp only [Deep.nblk_alloc]; omega)
    repeat (first | (with_reducible exact Past.refl _ _) | (with_reducible refine Past.set ?_ (by omega) _))
  · refine OwnS.past (lo := w.heap.size + 2) (w := w1) k10 ?_ (by simp only [Deep.nblk_alloc]; omega) (by simp only [Deep.nblk_alloc]; omega)
    repeat (first | (with_reducible exact Past.refl _ _) | (with_reducible refine Past.set ?_ (by omega) _))
  · refine OwnS.past (lo := w.heap.size + 2) (w := w1) k11 ?_ (by simp only [Deep.nblk_alloc]; omega) (by simp only [Deep.nblk_alloc]; omega)
    repeat (first | (with_reducible exact Past.refl _ _) | (with_reducible refine Past.set ?_ (by omega) _))
  · repeat (first | (with_reducible assumption) | (with_reducible exact Below.refl _ _) | (with_reducible apply below_alloc) | (with_reducible apply below_drewN) | (with_reducible apply Below.drew) | (with_reducible refine below_set ?_ (by dsimp only; omega) _) | (with_reducible refine below_trans ?_ (by assumption)))
end Go.Proofs.Ytfffbjeaebmhbaa
