/- What a beat comes to, plainly; the program's and the reference's (own work). -/
import Derived.Test.YtdjfehjddfbbjaaGreatZO5
import Derived.Test.YtdjfehjddfbbjaaGreatZN7p
set_option linter.unusedVariables false
set_option linter.unusedSimpArgs false
namespace Go.Proofs.YtdjfehjddfbbjaaGreat
open Go Go.RowKit Mk
def beatR (n : SReplica) (i : Nat) : SReplica := if leadsB n then { n with Commit := beatC n i } else n
def beatM (n : SReplica) (i s v : Nat) : List SMail := if leadsB n then beatL n i s v else if n.Normal then [] else beatA n i s v
def beatX (n : SReplica) : SReplicaResult := if repF n != 0 then ⟨repF n, zReplica, []⟩ else ⟨0, beatR n n.Id.toNat, beatM n n.Id.toNat n.Size.toNat n.View.toNat⟩
theorem beatX_code (n : SReplica) (q : (repF n != 0) = false) : beatX n = ⟨0, beatR n n.Id.toNat, beatM n n.Id.toNat n.Size.toNat n.View.toNat⟩ := by unfold beatX; rw [q, if_neg (by simp)]
theorem prepM_small (i v cm : Int) (logs : List SEntry) (tt a : Int) : (prepM i v cm logs tt a).Log = [] := by unfold prepM; split <;> rfl
theorem beat_cases (n : SReplica) : (leadsB n = true ∧ n.Normal = true ∧ isPrim n = true) ∨ (leadsB n = false ∧ n.Normal = true ∧ isPrim n = false) ∨ (leadsB n = false ∧ n.Normal = false) := by
  unfold leadsB
  cases n.Normal <;> cases isPrim n <;> simp
theorem allTo_mails {F : Nat → SMail} {i s : Nat} {P : SMail → Prop} (h : ∀ k, P (F k)) : ∀ m ∈ allTo F i s, P m := by
  intro m hm
  unfold allTo at hm
  obtain ⟨k, _, rfl⟩ := List.mem_map.1 hm
  exact h k
theorem beatM_len (n : SReplica) (i s v : Nat) : (beatM n i s v).length ≤ s + 1 := by
  have h1 := allTo_len (fun k => prepM i v (beatC n i) n.Log k (n.Oks.getD k 0)) i s
  have h2 := allTo_len (fun k => mailK i v 3 k) i s
  unfold beatM beatL beatA changesL
  split
  · omega
  · split
    · simp
    · rw [List.length_append]
      have h3 : (if askedB n s then tellL n else []).length ≤ 1 := by
        split
        · unfold tellL; split <;> simp
        · simp
      omega
theorem beat_fits (n : SReplica) (h : (repF n != 0) = false) : FitsRR n (beatX n) := by
  have hf := repF_nums h
  have hc := repF_commit h
  have hs := hf.small
  have hle := hf.le
  have hlog := hf.log
  rw [beatX_code n h]
  have hag := agreedN_le n.Oks n.Id.toNat n.Log.length
  refine ⟨fun _ => ?_, ?_, ?_, ?_⟩
  · unfold beatR
    split
    · simp only [beatC]; omega
    · exact hc
  · unfold beatR
    split
    · exact hs
    · exact hs
  · refine ⟨?_, ?_⟩
    · have := beatM_len n n.Id.toNat n.Size.toNat n.View.toNat
      dsimp only
      omega
    · unfold beatM beatL beatA changesL
      intro m hm
      dsimp only at hm
      split at hm
      · have := allTo_mails (P := fun m => m.Log.length ≤ 1048576) (fun k => by simp [prepM_small]) m hm
        exact this
      · split at hm
        · cases hm
        · rcases List.mem_append.1 hm with hm | hm
          · have := allTo_mails (P := fun m => m.Log.length ≤ 1048576) (fun k => by simp [mailK]) m hm
            exact this
          · split at hm
            · unfold tellL at hm
              split at hm
              · cases hm
              · simp at hm; subst hm; simp only [tellM]; omega
            · cases hm
  · have := beatM_len n n.Id.toNat n.Size.toNat n.View.toNat
    dsimp only
    omega
set_option maxRecDepth 100000 in
theorem beat_verb (w : World) : VerbOf 45 #[] beatX w := fun n h => by
  have hf := repF_nums h
  refine ⟨beat_fits n h, fun q => ?_, fun q => ?_⟩
  · rw [beatX_code n h] at q; simp at q
  · rw [beatX_code n h]
    unfold beatR beatM beatA
    rcases beat_cases n with ⟨q1, q2, q3⟩ | ⟨q1, q2, q3⟩ | ⟨q1, q2⟩
    · rw [if_pos q1, if_pos q1]
      have ho := repF_oks h q1
      exact fun b A5 c5 A7 c7 A8 c8 A9 c9 f5 f7 f8 f9 B W hW hB hn hb hBw => beat_lead b n _ _ _ A5 c5 A7 c7 A8 c8 A9 c9 f5 f7 f8 f9 B W hB hn hb hBw hf ho.1 ho.2 q1
    · rw [q1, if_neg (by simp), if_neg (by simp), if_pos q2]
      exact fun b A5 c5 A7 c7 A8 c8 A9 c9 f5 f7 f8 f9 B W hW hB hn hb hBw => beat_idle b n _ _ _ A5 c5 A7 c7 A8 c8 A9 c9 f5 f7 f8 f9 B W hB hn hb hBw hf q1 q2
    · rw [q1, if_neg (by simp), if_neg (by simp), q2, if_neg (by simp)]
      cases qa : askedB n n.Size.toNat with
      | true =>
        rw [if_pos rfl]
        exact fun b A5 c5 A7 c7 A8 c8 A9 c9 f5 f7 f8 f9 B W hW hB hn hb hBw => beat_many b n _ _ _ A5 c5 A7 c7 A8 c8 A9 c9 f5 f7 f8 f9 B W hB hn hb hBw hf q2 qa
      | false =>
        rw [if_neg (by simp), List.append_nil]
        exact fun b A5 c5 A7 c7 A8 c8 A9 c9 f5 f7 f8 f9 B W hW hB hn hb hBw => beat_few b n _ _ _ A5 c5 A7 c7 A8 c8 A9 c9 f5 f7 f8 f9 B W hB hn hb hBw hf q2 qa
theorem beatX_lead {n : SReplica} (q : (repF n != 0) = false) (q1 : leadsB n = true) : beatX n = ⟨0, { n with Commit := beatC n n.Id.toNat }, beatL n n.Id.toNat n.Size.toNat n.View.toNat⟩ := by
  rw [beatX_code n q]; unfold beatR beatM; rw [if_pos q1, if_pos q1]
theorem beatX_idle {n : SReplica} (q : (repF n != 0) = false) (q1 : leadsB n = false) (q2 : n.Normal = true) : beatX n = ⟨0, n, []⟩ := by
  rw [beatX_code n q]; unfold beatR beatM; rw [q1, if_neg (by simp), if_neg (by simp), if_pos q2]
theorem beatX_few {n : SReplica} (q : (repF n != 0) = false) (q1 : leadsB n = false) (q2 : n.Normal = false) (qa : askedB n n.Size.toNat = false) : beatX n = ⟨0, n, changesL n.Id.toNat n.Size.toNat n.View.toNat⟩ := by
  rw [beatX_code n q]; unfold beatR beatM beatA; rw [q1, if_neg (by simp), if_neg (by simp), q2, if_neg (by simp), qa, if_neg (by simp), List.append_nil]
theorem beatX_many {n : SReplica} (q : (repF n != 0) = false) (q1 : leadsB n = false) (q2 : n.Normal = false) (qa : askedB n n.Size.toNat = true) : beatX n = ⟨0, n, changesL n.Id.toNat n.Size.toNat n.View.toNat ++ tellL n⟩ := by
  rw [beatX_code n q]; unfold beatR beatM beatA; rw [q1, if_neg (by simp), if_neg (by simp), q2, if_neg (by simp), qa, if_pos rfl]
theorem sBeatReplica_c (n : SReplica) (A5 : Option Addr) (c5 : Nat) (A7 : Option Addr) (c7 : Nat) (A8 : Option Addr) (c8 : Nat) (A9 : Option Addr) (c9 : Nat) (w : World) (h5 : RdS kEntry w A5 c5 n.Log) (h7 : RdS kInt w A7 c7 n.Oks) (h8 : RdS kBool w A8 c8 n.Asks) (h9 : RdS kDoer w A9 c9 n.Doers) :
    Calls Tryz.prog 16 #[.agg #[.int .i64 n.Id, .int .i64 n.Size, .int .i64 n.View, .bool n.Normal, .int .i64 n.Last, .slice A5 n.Log.length c5, .int .i64 n.Commit, .slice A7 n.Oks.length c7, .slice A8 n.Asks.length c8, .slice A9 n.Doers.length c9]] w fun r w' => LaidRR (beatX n) w r w' := by
  cases q : (repF n != 0) with
  | true =>
    have e : beatX n = ⟨repF n, zReplica, []⟩ := by unfold beatX; rw [q, if_pos rfl]
    rw [e]
    exact sBeat_bad n A5 c5 A7 c7 A8 c8 A9 c9 w h5 h7 h8 h9 q
  | false =>
    have hf := repF_nums q
    rcases beat_cases n with ⟨q1, q2, q3⟩ | ⟨q1, q2, q3⟩ | ⟨q1, q2⟩
    · have ho := repF_oks q q1
      rw [beatX_lead q q1]
      exact sBeat_lead n A5 c5 A7 c7 A8 c8 A9 c9 w h5 h7 h8 h9 q _ _ _ hf ho.1 ho.2 q2 q3
    · rw [beatX_idle q q1 q2]
      exact sBeat_idle n A5 c5 A7 c7 A8 c8 A9 c9 w h5 h7 h8 h9 q _ _ _ hf q2 q3
    · cases qa : askedB n n.Size.toNat with
      | true =>
        rw [beatX_many q q1 q2 qa]
        exact sBeat_many n A5 c5 A7 c7 A8 c8 A9 c9 w h5 h7 h8 h9 q _ _ _ hf q2 qa
      | false =>
        rw [beatX_few q q1 q2 qa]
        exact sBeat_few n A5 c5 A7 c7 A8 c8 A9 c9 w h5 h7 h8 h9 q _ _ _ hf q2 qa
end Go.Proofs.YtdjfehjddfbbjaaGreat
