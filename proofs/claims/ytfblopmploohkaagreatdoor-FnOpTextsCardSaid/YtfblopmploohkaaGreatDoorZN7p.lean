/- Asking a node, plainly; AskAt: the program's and the reference's (written by gN7.py, own work). -/
import Derived.Test.YtfblopmploohkaaGreatDoorZJ9
import Derived.Test.YtfblopmploohkaaGreatDoorZR
set_option linter.unusedVariables false
set_option linter.unusedSimpArgs false
namespace Go.Proofs.YtfblopmploohkaaGreatDoor
open Go Go.RowKit Mk
def askX (x : SEntry) (n : SReplica) : SReplicaResult :=
  if repF n != 0 then ⟨repF n, zReplica, []⟩ else if !leadsB n then ⟨10, zReplica, []⟩ else if entryF x != 0 then ⟨entryF x, zReplica, []⟩ else if n.Log.length == 40 then ⟨2, zReplica, []⟩
  else ⟨0, addR n x n.Id.toNat, addM (addR n x n.Id.toNat) n.Id.toNat n.Size.toNat n.View.toNat⟩
theorem repF_oks {n : SReplica} (h : (repF n != 0) = false) (q : leadsB n = true) : n.Oks.length = n.Size.toNat ∧ ∀ k ∈ n.Oks, 0 ≤ k ∧ k ≤ n.Log.length := by
  have h0 : repF n = 0 := by simpa using h
  unfold repF at h0
  split at h0
  · cases h0
  split at h0
  · rename_i q; rw [h0] at q; cases q
  split at h0
  · cases h0
  split at h0
  · cases h0
  rename_i q4
  split at h0
  · cases h0
  rename_i q5
  simp only [Bool.or_eq_true, not_or, Bool.not_eq_true, bne_eq_false_iff_eq] at q4
  obtain ⟨⟨⟨_, b2⟩, _⟩, _⟩ := q4
  unfold oksN at b2
  rw [q, if_pos rfl] at b2
  refine ⟨by omega, fun k hk => ?_⟩
  simp only [Bool.not_eq_true, List.any_eq_false] at q5
  have := q5 k hk
  cases hw : wi k 0 n.Log.length with
  | true => exact wi_b hw
  | false => rw [hw] at this; simp at this
theorem askX_code (x : SEntry) (n : SReplica) (h : (repF n != 0) = false) :
    (leadsB n = false ∧ askX x n = ⟨10, zReplica, []⟩) ∨ (leadsB n = true ∧ (entryF x != 0) = true ∧ askX x n = ⟨entryF x, zReplica, []⟩) ∨ (leadsB n = true ∧ (entryF x != 0) = false ∧ n.Log.length = 40 ∧ askX x n = ⟨2, zReplica, []⟩) ∨
    (leadsB n = true ∧ (entryF x != 0) = false ∧ n.Log.length < 40 ∧ askX x n = ⟨0, addR n x n.Id.toNat, addM (addR n x n.Id.toNat) n.Id.toNat n.Size.toNat n.View.toNat⟩) := by
  have hl := (repF_nums h).log
  unfold askX
  rw [h, if_neg (by simp)]
  cases q1 : leadsB n with
  | false => exact .inl ⟨rfl, rfl⟩
  | true =>
    cases q2 : (entryF x != 0) with
    | true => exact .inr (.inl ⟨rfl, rfl, rfl⟩)
    | false =>
      by_cases q3 : n.Log.length = 40
      · exact .inr (.inr (.inl ⟨rfl, rfl, q3, by rw [q3]; rfl⟩))
      · have : (n.Log.length == 40) = false := beq_eq_false_iff_ne.2 q3
        exact .inr (.inr (.inr ⟨rfl, rfl, by omega, by rw [this]; rfl⟩))
theorem addM_small (n : SReplica) (i s v : Nat) (hs : s ≤ 5) : SmallMails (addM n i s v) := by
  refine ⟨Nat.le_trans (allTo_len _ _ _) (by omega), fun m hm => ?_⟩
  unfold addM allTo at hm
  obtain ⟨k, _, rfl⟩ := List.mem_map.1 hm
  unfold prepM
  split <;> simp
theorem ask_fits (x : SEntry) (n : SReplica) (h : (repF n != 0) = false) : FitsRR n (askX x n) := by
  have hf := repF_nums h
  have hs := hf.small
  have hc := repF_commit h
  rcases askX_code x n h with ⟨_, e⟩ | ⟨_, q, e⟩ | ⟨_, _, _, e⟩ | ⟨_, _, q3, e⟩
  · rw [e]; exact ⟨fun q => by simp at q, small_zero, small_none, by simp⟩
  · rw [e]; exact ⟨(fun q' => by rw [q] at q'; cases q'), small_zero, small_none, by simp⟩
  · rw [e]; exact ⟨fun q => by simp at q, small_zero, small_none, by simp⟩
  · rw [e]
    have ha := agreedN_le n.Oks n.Id.toNat (n.Log.length + 1)
    have hml := allTo_len (fun k => prepM n.Id.toNat n.View.toNat (addR n x n.Id.toNat).Commit (addR n x n.Id.toNat).Log k ((addR n x n.Id.toNat).Log.length - 1 : Nat)) n.Id.toNat n.Size.toNat
    have h5 := hf.le
    refine ⟨fun _ => ?_, ⟨by simp [addR]; omega, hs.2.1, hs.2.2.1, hs.2.2.2.1, hs.2.2.2.2⟩, addM_small _ _ _ _ h5, by unfold addM; dsimp only at hml ⊢; omega⟩
    simp only [addR, List.length_append, List.length_singleton]
    omega
end Go.Proofs.YtfblopmploohkaaGreatDoor
