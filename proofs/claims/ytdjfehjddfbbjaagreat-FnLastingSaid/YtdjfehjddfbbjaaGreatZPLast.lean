/- What a crash and a timeout leave has no fault: plainly (own work). -/
import Derived.Test.YtdjfehjddfbbjaaGreatZK
import Derived.Test.YtdjfehjddfbbjaaGreatZO1
set_option linter.unusedVariables false
set_option linter.unusedSimpArgs false
namespace Go.Proofs.YtdjfehjddfbbjaaGreat
open Go Go.RowKit Mk
theorem repF_parts {n : SReplica} (h : repF n = 0) : (wi n.Size 1 5 && wi n.Id 0 (n.Size - 1) && wi n.View 0 200 && wi n.Last 0 n.View) = true ∧ logF n.Log = 0 ∧ wi n.Commit 0 n.Log.length = true ∧ sizesB n = false ∧ n.Oks.any (fun k => !wi k 0 n.Log.length) = false ∧ first doerF n.Doers = 0 := by
  unfold repF at h
  unfold sizesB
  split at h
  · simp at h
  rename_i h1
  split at h
  · rename_i h2
    exact absurd h (by simpa using h2)
  rename_i h2
  split at h
  · simp at h
  rename_i h3
  split at h
  · simp at h
  rename_i h4
  split at h
  · simp at h
  rename_i h5
  exact ⟨by simpa using h1, by simpa using h2, by simpa using h3, by simpa using h4, by simpa using h5, h⟩
theorem repF_zero {n : SReplica} (h1 : (wi n.Size 1 5 && wi n.Id 0 (n.Size - 1) && wi n.View 0 200 && wi n.Last 0 n.View) = true) (h2 : logF n.Log = 0) (h3 : wi n.Commit 0 n.Log.length = true) (h4 : sizesB n = false) (h5 : n.Oks.any (fun k => !wi k 0 n.Log.length) = false) (h6 : first doerF n.Doers = 0) : repF n = 0 := by
  unfold sizesB at h4
  unfold repF
  rw [h1, h2, h3, h4, h5]
  simpa using h6
theorem wi_zero (m : Nat) : wi 0 0 (m : Int) = true := by simp [wi]
theorem any_zero (m k : Nat) : (List.replicate k (0 : Int)).any (fun x => !wi x 0 m) = false := by
  rw [List.any_eq_false]
  intro x hx
  rw [List.eq_of_mem_replicate hx, wi_zero]
  simp
theorem first_replicate (k : Nat) : first doerF (List.replicate k zDoer) = 0 := by
  induction k with
  | zero => rfl
  | succ k ih =>
    rw [List.replicate_succ]
    simp only [first]
    rw [show doerF zDoer = 0 from rfl]
    simpa using ih
theorem aloneL_len' (s i : Nat) : (aloneL s i).length = s := by simp [aloneL]
theorem crash_ok {n : SReplica} (h : repF n = 0) : repF (crashR n n.Id.toNat n.Size.toNat) = 0 := by
  obtain ⟨h1, h2, h3, h4, h5, h6⟩ := repF_parts h
  have hn : NumsRep n n.Id.toNat n.Size.toNat n.View.toNat := repF_nums (by simp [h])
  have e2 := hn.size
  refine repF_zero h1 h2 (wi_zero _) ?_ (any_zero _ _) ?_
  · unfold sizesB at h4 ⊢
    simp only [crashR, List.length_replicate, oksN, asksN, leadsB, isPrim] at h4 ⊢
    by_cases hN : n.Normal = true
    · simpa [hN] using h4
    · simp only [Bool.not_eq_true] at hN
      simp [hN, aloneL_len'] at h4 ⊢
      grind
  · unfold crashR
    dsimp only
    split
    · exact h6
    · exact first_replicate _
theorem timeout_ok {n : SReplica} (h : repF n = 0) (hv : n.View ≠ 200) : repF (timeoutR n n.Id.toNat n.Size.toNat n.View.toNat) = 0 ∧ (timeoutR n n.Id.toNat n.Size.toNat n.View.toNat).View = n.View + 1 ∧ (timeoutR n n.Id.toNat n.Size.toNat n.View.toNat).Log = n.Log ∧ (timeoutR n n.Id.toNat n.Size.toNat n.View.toNat).Normal = (n.Size == 1) ∧ (timeoutR n n.Id.toNat n.Size.toNat n.View.toNat).Asks = if n.Size = 1 then [] else aloneL n.Size.toNat n.Id.toNat := by
  obtain ⟨h1, h2, h3, h4, h5, h6⟩ := repF_parts h
  have hn : NumsRep n n.Id.toNat n.Size.toNat n.View.toNat := repF_nums (by simp [h])
  have e1 := hn.id
  have e2 := hn.size
  have e3 := hn.view
  have hlt := hn.lt
  have hvle := hn.vle
  have hw : (wi n.Size 1 5 && wi n.Id 0 (n.Size - 1) && wi (n.View + 1) 0 200) = true ∧ wi n.Last 0 (n.View + 1) = true := by
    simp only [wi, Bool.and_eq_true, decide_eq_true_eq] at h1 ⊢
    omega
  obtain ⟨hw1, hw2⟩ := hw
  unfold timeoutR
  rw [show ((n.View.toNat : Nat) : Int) = n.View by omega]
  by_cases hs : n.Size.toNat = 1
  · have hs1 : n.Size = 1 := by omega
    rw [if_pos hs]
    have hi : n.Id = 0 := by omega
    refine ⟨repF_zero ?_ h2 h3 ?_ ?_ rfl, rfl, rfl, by simp [settleR, hs1], by simp [settleR, hs1]⟩
    · have : wi (n.View + 1) 0 (n.View + 1) = true := by simp [wi]; omega
      simp only [settleR]
      rw [hw1, this]; rfl
    · simp [sizesB, settleR, oksN, asksN, leadsB, isPrim, oksZ, hs1, hi]
    · simp [settleR, oksZ, hs1, hi, wi_zero]
  · have hs1 : n.Size ≠ 1 := by omega
    rw [if_neg hs]
    refine ⟨repF_zero ?_ h2 h3 ?_ rfl (first_replicate _), rfl, rfl, by simp [askR, hs1], by simp [askR, hs1]⟩
    · simp only [askR]
      rw [hw1, hw2]; rfl
    · simp [sizesB, askR, oksN, asksN, leadsB, isPrim, aloneL_len']
      omega
theorem truesN_alone {s i : Nat} (h : i < s) : truesN (aloneL s i) = 1 := by
  unfold truesN aloneL
  rw [List.set_eq_take_append_cons_drop, if_pos (by simpa using h)]
  simp [List.filter_append, List.take_replicate, List.drop_replicate, List.filter_replicate]
end Go.Proofs.YtdjfehjddfbbjaaGreat
