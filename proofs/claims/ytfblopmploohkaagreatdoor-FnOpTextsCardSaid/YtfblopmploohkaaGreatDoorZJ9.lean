/- What a node's verb comes to in a cluster, plainly; the program's nodeDone and the reference's verbs for any verb (own work). -/
import Derived.Test.YtfblopmploohkaaGreatDoorZJ6
import Derived.Test.YtfblopmploohkaaGreatDoorZJ8
import Derived.Test.YtfblopmploohkaaGreatDoorZL
set_option linter.unusedVariables false
set_option linter.unusedSimpArgs false
namespace Go.Proofs.YtfblopmploohkaaGreatDoor
open Go Go.RowKit Mk
/-- A verb of one node, let act in a cluster. -/
def putX (c : SCluster) (k : Nat) (r : SReplicaResult) : SClusterResult := if r.Code != 0 then badClusterResult r.Code else ⟨0, doneClu c k r.Replica r.Send⟩
def atX (f : SReplica → SReplicaResult) (c : SCluster) (k : Int) : SClusterResult :=
  if clusF c != 0 then badClusterResult (clusF c) else if wi k 0 (c.Nodes.length - 1) then putX c k.toNat (f (c.Nodes.getD k.toNat zReplica)) else badClusterResult 3
/-- What is asked of a verb: on a faultless node it does what f says, or tells a code. -/
structure FitsRR (n : SReplica) (r : SReplicaResult) : Prop where
  fine : (r.Code != 0) = false → 0 ≤ r.Replica.Commit ∧ r.Replica.Commit ≤ r.Replica.Log.length
  rep : SmallRep r.Replica
  send : SmallMails r.Send
  few : r.Send.length ≤ 1000
def VerbOf (g : Nat) (cb : Array Value) (f : SReplica → SReplicaResult) (w : World) : Prop :=
  ∀ n, (repF n != 0) = false → FitsRR n (f n) ∧ (((f n).Code != 0) = true → ∃ n' ms, Does g cb n n' ms (f n).Code w) ∧ (((f n).Code != 0) = false → Does g cb n (f n).Replica (f n).Send 0 w)
theorem atX_fault {f : SReplica → SReplicaResult} {c : SCluster} {k : Int} (q : (clusF c != 0) = true) : atX f c k = badClusterResult (clusF c) := by unfold atX; rw [q, if_pos rfl]
theorem atX_range {f : SReplica → SReplicaResult} {c : SCluster} {k : Int} (q : (clusF c != 0) = false) (q2 : wi k 0 (c.Nodes.length - 1) = false) : atX f c k = badClusterResult 3 := by unfold atX; rw [q, q2]; rfl
theorem atX_fine {f : SReplica → SReplicaResult} {c : SCluster} {k : Nat} (q : (clusF c != 0) = false) (hk : k < c.Nodes.length) : atX f c k = putX c k (f c.Nodes[k]) := by
  have q2 : wi (k : Int) 0 (c.Nodes.length - 1) = true := by unfold wi; rw [decide_eq_true (by omega), decide_eq_true (by omega)]; rfl
  unfold atX; rw [q, q2]; simp [List.getElem?_eq_getElem hk]
theorem nodeDone_any (g : Nat) (cb : Array Value) (eg : ∀ args w, (callFunc g args).run Tryz.prog w = .ok (.enter g args) w) (f : SReplica → SReplicaResult) (c : SCluster) (k : Int) (A0 : Option Addr) (c0 : Nat) (A1 : Option Addr) (c1 : Nat) (A2 : Option Addr) (c2 : Nat) (w : World) (h0 : RdS kReplica w A0 c0 c.Nodes) (h1 : RdS kMail w A1 c1 c.Mails) (h2 : RdS kEntry w A2 c2 c.Sealed) (hv : VerbOf g cb f w) :
    Calls Tryz.prog 71 #[.agg #[.slice A0 c.Nodes.length c0, .slice A1 c.Mails.length c1, .slice A2 c.Sealed.length c2], .int .i64 k, .func (.func g) #[] cb] w fun r w' => LaidClusterResult (atX f c k) w r w' := by
  cases q : (clusF c != 0) with
  | true => rw [atX_fault q]; exact nodeDone_fault _ c k A0 c0 A1 c1 A2 c2 w h0 h1 h2 q
  | false =>
    cases q2 : wi k 0 (c.Nodes.length - 1) with
    | false => rw [atX_range q q2]; exact nodeDone_range _ c k A0 c0 A1 c1 A2 c2 w h0 h1 h2 q q2
    | true =>
      have hw := wi_b q2
      obtain ⟨m, rfl⟩ := Int.eq_ofNat_of_zero_le hw.1
      have hm : m < c.Nodes.length := by omega
      rw [atX_fine q hm]
      have hN := clusF_nums q
      obtain ⟨hf, hbad, hok⟩ := hv c.Nodes[m] (hN.node m hm).1
      unfold putX
      cases q3 : ((f c.Nodes[m]).Code != 0) with
      | true =>
        obtain ⟨n', ms, hd⟩ := hbad q3
        rw [if_pos rfl]
        exact nodeDone_code g cb eg c m c.Nodes[m] n' ms _ A0 c0 A1 c1 A2 c2 w h0 h1 h2 q hm rfl hd q3
      | false =>
        rw [if_neg (by simp)]
        exact nodeDone_ok g cb eg c m c.Nodes[m] _ _ A0 c0 A1 c1 A2 c2 w h0 h1 h2 q hm rfl (hok q3) (hf.fine q3).1 (hf.fine q3).2 hf.rep hf.send hf.few
theorem bad_small (k : Int) : SmallClu (badClusterResult k).Cluster := ⟨by simp [badClusterResult, zCluster], by simp [badClusterResult, zCluster], by simp [badClusterResult, zCluster], by simp [badClusterResult, zCluster], by simp [badClusterResult, zCluster]⟩
theorem atX_small {f : SReplica → SReplicaResult} (hv : ∀ n, (repF n != 0) = false → FitsRR n (f n)) (c : SCluster) (k : Int) : SmallClu (atX f c k).Cluster := by
  cases q : (clusF c != 0) with
  | true => rw [atX_fault q]; exact bad_small _
  | false =>
    cases q2 : wi k 0 (c.Nodes.length - 1) with
    | false => rw [atX_range q q2]; exact bad_small _
    | true =>
      have hw := wi_b q2
      obtain ⟨m, rfl⟩ := Int.eq_ofNat_of_zero_le hw.1
      have hm : m < c.Nodes.length := by omega
      rw [atX_fine q hm]
      have hN := clusF_nums q
      have hf := hv c.Nodes[m] (hN.node m hm).1
      unfold putX
      split
      · exact bad_small _
      · exact doneClu_small hN.small hN.mails hf.rep hf.send
theorem repF_commit {n : SReplica} (h : (repF n != 0) = false) : 0 ≤ n.Commit ∧ n.Commit ≤ n.Log.length := by
  have h0 : repF n = 0 := by simpa using h
  unfold repF at h0
  split at h0
  · cases h0
  split at h0
  · rename_i q; rw [h0] at q; cases q
  split at h0
  · cases h0
  rename_i q
  simp only [Bool.not_eq_true', Bool.not_eq_false] at q
  exact wi_b q
theorem crash_fits (n : SReplica) (h : (repF n != 0) = false) : FitsRR n (crashX n) := by
  have hs := crashX_small n
  have e : crashX n = ⟨0, crashR n n.Id.toNat n.Size.toNat, []⟩ := by unfold crashX; rw [h, if_neg (by simp)]
  exact ⟨fun _ => by rw [e]; simp [crashR], hs.1, hs.2, by rw [e]; simp⟩
theorem timeout_fits (n : SReplica) (h : (repF n != 0) = false) : FitsRR n (timeoutX n) := by
  have hs := timeoutX_small n
  have hf := repF_nums h
  have hc := repF_commit h
  refine ⟨fun q => ?_, hs.1, hs.2, ?_⟩
  · unfold timeoutX at q ⊢
    rw [h, if_neg (by simp)] at q ⊢
    split
    · rename_i q2; rw [q2] at q; simp at q
    · unfold timeoutR settleR askR; dsimp only; split <;> exact hc
  · unfold timeoutX
    rw [h, if_neg (by simp)]
    split
    · simp
    · simp only [timeoutM]
      split
      · simp
      · have := allTo_len (fun k => mailK n.Id.toNat (n.View.toNat + 1 : Nat) 3 k) n.Id.toNat n.Size.toNat
        have := hf.le
        unfold changesL
        omega
theorem crash_verb (w : World) : VerbOf 106 #[] crashX w := fun n h => by
  have e : crashX n = ⟨0, crashR n n.Id.toNat n.Size.toNat, []⟩ := by unfold crashX; rw [h, if_neg (by simp)]
  refine ⟨crash_fits n h, fun q => ?_, fun q => ?_⟩
  · rw [e] at q; simp at q
  · rw [e]; exact crash_does (repF_nums h)
theorem timeout_verb (w : World) : VerbOf 104 #[] timeoutX w := fun n h => by
  have hf := repF_nums h
  refine ⟨timeout_fits n h, fun q => ?_, fun q => ?_⟩
  · cases q2 : (n.View == 200) with
    | true =>
      rw [show timeoutX n = ⟨2, zReplica, []⟩ by unfold timeoutX; rw [h, q2]; rfl]
      exact ⟨n, [], timeout_full (by simpa using q2)⟩
    | false => unfold timeoutX at q; rw [h, q2] at q; simp at q
  · cases q2 : (n.View == 200) with
    | true => unfold timeoutX at q; rw [h, q2] at q; simp at q
    | false =>
      have hv : n.View.toNat < 200 := by
        have h1 := hf.view; have h2 := hf.vle
        have h3 : n.View ≠ 200 := by simpa using q2
        omega
      rw [show timeoutX n = ⟨0, timeoutR n n.Id.toNat n.Size.toNat n.View.toNat, timeoutM n.Id.toNat n.Size.toNat n.View.toNat⟩ by unfold timeoutX; rw [h, q2]; rfl]
      exact timeout_does hf hv
end Go.Proofs.YtfblopmploohkaaGreatDoor
