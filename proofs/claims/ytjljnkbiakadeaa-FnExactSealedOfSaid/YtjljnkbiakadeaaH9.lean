/- CrashReplica and TimeoutReplica of the program. -/
import Derived.Test.YtjljnkbiakadeaaH8
set_option linter.unusedVariables false
set_option linter.unusedSimpArgs false
namespace Go.Proofs.Ytjljnkbiakadeaa
open Go Go.RowKit Mk
theorem first_zero {α : Type} {f : α → Int} : ∀ {xs : List α}, first f xs = 0 → ∀ x ∈ xs, f x = 0
  | [], _, x, hx => by cases hx
  | y :: ys, h, x, hx => by
    unfold first at h
    split at h
    · rename_i q; rw [h] at q; cases q
    · rename_i q
      rcases List.mem_cons.1 hx with rfl | hx
      · simpa using q
      · exact first_zero h x hx
theorem logF_len {xs : List SEntry} (h : logF xs = 0) : xs.length ≤ 40 := by
  unfold logF at h
  split at h
  · cases h
  · omega
theorem doerF_log {d : SDoer} (h : doerF d = 0) : d.Log.length ≤ 40 := by
  unfold doerF at h
  split at h
  · cases h
  · split at h
    · cases h
    · split at h
      · rename_i q; rw [h] at q; cases q
      · rename_i q; exact logF_len (by simpa using q)
theorem repF_nums {n : SReplica} (h : (repF n != 0) = false) : NumsRep n n.Id.toNat n.Size.toNat n.View.toNat := by
  have h0 : repF n = 0 := by simpa using h
  unfold repF at h0
  split at h0
  · cases h0
  rename_i q1
  split at h0
  · rename_i q; rw [h0] at q; cases q
  rename_i q2
  split at h0
  · cases h0
  split at h0
  · cases h0
  rename_i q4
  split at h0
  · cases h0
  simp only [Bool.not_eq_true', Bool.not_eq_false, Bool.and_eq_true] at q1
  obtain ⟨⟨⟨a1, a2⟩, a3⟩, a4⟩ := q1
  have a1 := wi_b a1
  have a2 := wi_b a2
  have a3 := wi_b a3
  simp only [Bool.or_eq_true, not_or, Bool.not_eq_true, bne_eq_false_iff_eq] at q4
  obtain ⟨⟨⟨_, b2⟩, b3⟩, b4⟩ := q4
  refine ⟨by omega, by omega, by omega, by omega, by omega, by omega, ?_, ?_, ?_, logF_len (by simpa using q2), fun d hd => doerF_log (first_zero h0 d hd)⟩
  · unfold oksN at b2; split at b2 <;> omega
  · unfold asksN at b3; split at b3 <;> simp_all <;> omega
  · unfold asksN at b4; split at b4 <;> simp_all <;> omega
theorem NumsRep.small {n : SReplica} {i s v : Nat} (h : NumsRep n i s v) : SmallRep n := by
  have h1 := h.le
  have h2 := h.asks
  have h3 := h.doers
  have h4 := h.log
  have h5 := h.oks
  refine ⟨by omega, by omega, by split at h2 <;> omega, by split at h3 <;> omega, fun d hd => by have := h.logs d hd; omega⟩
theorem crashR_small {n : SReplica} {i s v : Nat} (h : NumsRep n i s v) : SmallRep (crashR n i s) := by
  have hs := h.small
  have h1 := h.le
  have h5 := h.oks
  refine ⟨hs.1, by simp [crashR]; omega, ?_, ?_, ?_⟩
  · unfold crashR; dsimp only; split
    · exact hs.2.2.1
    · rw [aloneL_len]; omega
  · unfold crashR; dsimp only; split
    · exact hs.2.2.2.1
    · simp; omega
  · unfold crashR; dsimp only; split
    · exact hs.2.2.2.2
    · intro d hd; rw [List.eq_of_mem_replicate hd]; simp [zDoer]
theorem timeoutR_small {n : SReplica} {i s v : Nat} (h : NumsRep n i s v) : SmallRep (timeoutR n i s v) := by
  have hs := h.small
  have h1 := h.le
  unfold timeoutR
  split
  · refine ⟨hs.1, ?_, by simp [settleR], by simp [settleR], by simp [settleR]⟩
    simp only [settleR, oksZ]; split <;> simp <;> omega
  · refine ⟨hs.1, by simp [askR], by simp [askR, aloneL_len]; omega, by simp [askR]; omega, ?_⟩
    intro d hd; simp only [askR] at hd; rw [List.eq_of_mem_replicate hd]; simp [zDoer]
def crashX (n : SReplica) : SReplicaResult := if repF n != 0 then ⟨repF n, zReplica, []⟩ else ⟨0, crashR n n.Id.toNat n.Size.toNat, []⟩
def timeoutX (n : SReplica) : SReplicaResult :=
  if repF n != 0 then ⟨repF n, zReplica, []⟩ else if n.View == 200 then ⟨2, zReplica, []⟩
  else ⟨0, timeoutR n n.Id.toNat n.Size.toNat n.View.toNat, timeoutM n.Id.toNat n.Size.toNat n.View.toNat⟩
theorem crash_does {n : SReplica} {i s v : Nat} (h : NumsRep n i s v) {w0 : World} : Does 53 #[] n (crashR n i s) [] 0 w0 :=
  fun b A5 c5 A7 c7 A8 c8 A9 c9 f5 f7 f8 f9 B W _ hB hn hb hBw => crash_c b n i s v A5 c5 A7 c7 A8 c8 A9 c9 f5 f7 f8 f9 B W hB hn hb hBw h
theorem timeout_does {n : SReplica} {i s v : Nat} (h : NumsRep n i s v) (hv : v < 200) {w0 : World} : Does 55 #[] n (timeoutR n i s v) (timeoutM i s v) 0 w0 :=
  fun b A5 c5 A7 c7 A8 c8 A9 c9 f5 f7 f8 f9 B W _ hB hn hb hBw => timeout_c b n i s v A5 c5 A7 c7 A8 c8 A9 c9 f5 f7 f8 f9 B W hB hn hb hBw h hv
theorem timeout_full {n : SReplica} (hv : n.View = 200) {w0 : World} : Does 55 #[] n n [] 2 w0 :=
  fun b A5 c5 A7 c7 A8 c8 A9 c9 f5 f7 f8 f9 B W _ hB hn hb hBw => timeout_max b n A5 c5 A7 c7 A8 c8 A9 c9 f5 f7 f8 f9 B W hB hn hb hv
end Go.Proofs.Ytjljnkbiakadeaa
