/- What is sealed: the program's sealedRight, the reference's l13Sealed. -/
import Derived.Test.YtnbenhkbcodlfaaZF
import Derived.Test.YtnbenhkbcodlfaaZB
import Derived.Test.YtnbenhkbcodlfaaZA
set_option linter.unusedVariables false
set_option linter.unusedSimpArgs false
namespace Go.Proofs.Ytnbenhkbcodlfaa
open Go Go.RowKit Mk
/-- What a node knows to be agreed isn't the beginning of what is sealed. -/
def unsealed (c : SCluster) (n : SReplica) : Bool := !(com (n.Log.take n.Commit.toNat) c.Sealed == (n.Log.take n.Commit.toNat).length)
def sealedB (c : SCluster) : Bool := !(c.Nodes.any (unsealed c))
theorem unsealed_iff (c : SCluster) (n : SReplica) (h : wi n.Commit 0 n.Log.length = true) : unsealed c n = decide ((com n.Log c.Sealed : Int) < n.Commit) := by
  obtain ⟨h1, h2⟩ := wi_b h
  unfold unsealed
  rw [com_take, List.length_take]
  by_cases q : (com n.Log c.Sealed : Int) < n.Commit
  · simp [q]; omega
  · simp [q]; omega
theorem repF_commitW {n : SReplica} (h : (repF n != 0) = false) : wi n.Commit 0 n.Log.length = true := by
  cases q : wi n.Commit 0 n.Log.length
  · unfold repF at h
    rw [q] at h
    split at h
    · cases h
    · split at h
      · rename_i h3; rw [h3] at h; cases h
      · cases h
  · rfl
theorem clusF_nodes {c : SCluster} (h : clusF c = 0) : ∀ n ∈ c.Nodes, (repF n != 0) = false := by
  intro n hn
  obtain ⟨j, hj, rfl⟩ := List.getElem_of_mem hn
  have h0 : firstI (nodeF c.Nodes.length) 0 c.Nodes = 0 := by
    unfold clusF at h
    split at h
    · cases h
    · split at h
      · exact h
      · rename_i q; simpa using q
  have := firstI_zero _ _ _ h0 j _ (List.getElem?_eq_getElem hj)
  exact (nodeF_size (by rw [this]; rfl)).2
set_option maxRecDepth 100000 in
set_option maxHeartbeats 1000000 in
theorem sealed1_c (c : SCluster) (p q : Addr) (n : SReplica) (A5 : Option Addr) (c5 : Nat) (A7 : Option Addr) (c7 : Nat) (A8 : Option Addr) (c8 : Nat) (A9 : Option Addr) (c9 : Nat) (w : World)
    (hq : w.cell? q = some (.pointer (some p))) (hp : At kCluster w p c) (h5 : RdS kEntry w A5 c5 n.Log) (hc : wi n.Commit 0 n.Log.length = true) :
    Calls Try.prog 75 #[.agg #[.int .i64 n.Id, .int .i64 n.Size, .int .i64 n.View, .bool n.Normal, .int .i64 n.Last, .slice A5 n.Log.length c5, .int .i64 n.Commit, .slice A7 n.Oks.length c7, .slice A8 n.Asks.length c8, .slice A9 n.Doers.length c9], .pointer (some q)] w fun e w' => e = .returned (.bool (unsealed c n)) ∧ Below w.heap.size w w' := by
  obtain ⟨e1, e2⟩ := wi_b hc
  obtain ⟨m, hm⟩ := Int.eq_ofNat_of_zero_le e1
  have hml : (n.Log.take m).length = m := by rw [List.length_take]; omega
  have hu : unsealed c n = !(com (n.Log.take m) c.Sealed == m) := by unfold unsealed; rw [hm, Int.toNat_natCast, hml]
  rw [hu, hm]
  have e3 : m ≤ n.Log.length := by omega
  have e4 : m ≤ c5 := Nat.le_trans e3 h5.1
  clear hu e1 e2 hc
  obtain ⟨A0, c0, A1, c1, A2, c2, hh⟩ := atCluster hp
  obtain ⟨f0, f1, f2, h0, h1, h2⟩ := hh
  have hI := fun (W : World) (hb : Below w.heap.size w W) => isBeginning_c (n.Log.take m) c.Sealed A5 c5 A2 c2 W ((h5.below hb).take m) (h2.below hb)
  rw [hml] at hI
  have HI := Lib.hid hI
  clear hI
  go_enter Try.func75, Try.ntmps75
  have i0 : InReplica w n 63 A5 c5 A7 c7 A8 c8 A9 c9 (w.alloc (.cells #[.int .i64 n.Id, .int .i64 n.Size, .int .i64 n.View, .bool n.Normal, .int .i64 n.Last, .slice A5 n.Log.length c5, .int .i64 n.Commit, .slice A7 n.Oks.length c7, .slice A8 n.Asks.length c8, .slice A9 n.Doers.length c9] 63)) := Below.refl _ _
  have k1 := cell_alloc hq (.cells #[.int .i64 n.Id, .int .i64 n.Size, .int .i64 n.View, .bool n.Normal, .int .i64 n.Last, .slice A5 n.Log.length c5, .int .i64 n.Commit, .slice A7 n.Oks.length c7, .slice A8 n.Asks.length c8, .slice A9 n.Doers.length c9] 63)
  have k2 := cell_alloc f2 (.cells #[.int .i64 n.Id, .int .i64 n.Size, .int .i64 n.View, .bool n.Normal, .int .i64 n.Last, .slice A5 n.Log.length c5, .int .i64 n.Commit, .slice A7 n.Oks.length c7, .slice A8 n.Asks.length c8, .slice A9 n.Doers.length c9] 63)
  rw [hm] at k1 k2
  go_wp2_with fail
  go_quiet ((go_at_call 76; (first | (with_reducible refine Calls.quiet_of (HI.out _ ?_)) | (with_reducible refine quiet_sum (HI.out _ ?_))); repeat (first | (with_reducible assumption) | (with_reducible exact Below.refl _ _) | (with_reducible apply below_alloc) | (with_reducible apply below_drewN) | (with_reducible apply Below.drew) | (with_reducible refine below_set ?_ (by dsimp only; omega) _) | (with_reducible refine below_trans ?_ (by assumption)))))
  go_wp2_with fail
  go_ret
  exact ⟨rfl, by repeat (first | assumption | exact Below.refl _ _ | (refine below_trans ?_ (by assumption)) | apply below_alloc | apply below_drewN | apply Below.drew)⟩
set_option maxRecDepth 100000 in
set_option maxHeartbeats 1000000 in
theorem sealedRight_c (c : SCluster) (p : Addr) (w : World) (h : At kCluster w p c) (hcs : ∀ n ∈ c.Nodes, wi n.Commit 0 n.Log.length = true) :
    Calls Try.prog 48 #[.pointer (some p)] w fun e w' => e = .returned (.bool (sealedB c)) ∧ Below w.heap.size w w' := by
  obtain ⟨A0, c0, A1, c1, A2, c2, hh⟩ := atCluster h
  obtain ⟨f0, f1, f2, h0, h1, h2⟩ := hh
  have f0' := cell_alloc f0 (.cells #[.pointer (some p)] 96)
  go_enter Try.func48, Try.ntmps48
  go_wp2_with fail
  refine (containsFunc_rep 75 #[.pointer (some ⟨w.heap.size, 0, none⟩)] (Go.Proofs.enters_of Try.func75 (by kernel_rfl) rfl) (unsealed c) c.Nodes A0 c0 _ ?_ ?_).mono ?_
  · exact h0.below (by repeat (first | assumption | exact Below.refl _ _ | (refine below_trans ?_ (by assumption)) | apply below_alloc | apply below_drewN | apply Below.drew))
  · intro k hk W cs hW hr
    obtain ⟨B5, d5, B7, d7, B8, d8, B9, d9, rfl, g5, g7, g8, g9⟩ := kReplica_open hr
    refine sealed1_c c p ⟨w.heap.size, 0, none⟩ _ B5 d5 B7 d7 B8 d8 B9 d9 W ?_ (h.below ?_) g5 (hcs _ (List.getElem_mem hk))
    · exact cell_below hW ((lies_alloc w #[.pointer (some p)] _).c0)
    · exact below_trans (below_alloc (Below.refl _ _) _) hW
  rintro e w1 ⟨rfl, hb1⟩
  go_wp2_with fail
  go_ret
  exact ⟨ret_bool (by unfold sealedB; rfl), by repeat (first | assumption | exact Below.refl _ _ | (refine below_trans ?_ (by assumption)) | apply below_alloc | apply below_drewN | apply Below.drew)⟩
end Go.Proofs.Ytnbenhkbcodlfaa
