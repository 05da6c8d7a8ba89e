/- Faults of a mail that bears a log: what the program's MailFault comes to (written by gA6.py, own work). -/
import Derived.Test.YtdjfehjddfbbjaaGreatDoorA5
set_option linter.unusedVariables false
set_option linter.unusedSimpArgs false
namespace Go.Proofs.YtdjfehjddfbbjaaGreatDoor
open Go Go.RowKit Mk

set_option maxRecDepth 100000 in
set_option maxHeartbeats 2000000 in
theorem mailFault_4 (n : SReplica) (m : SMail) (A5 : Option Addr) (c5 : Nat) (A7 : Option Addr) (c7 : Nat) (A8 : Option Addr) (c8 : Nat) (A9 : Option Addr) (c9 : Nat) (B : Option Addr) (d : Nat) (w : World) (h5 : RdS kEntry w A5 c5 n.Log) (h7 : RdS kInt w A7 c7 n.Oks) (h8 : RdS kBool w A8 c8 n.Asks) (h9 : RdS kDoer w A9 c9 n.Doers) (hB : RdS kEntry w B d m.Log)  :
    Calls Tryz.prog 35 #[.agg #[.int .i64 n.Id, .int .i64 n.Size, .int .i64 n.View, .bool n.Normal, .int .i64 n.Last, .slice A5 n.Log.length c5, .int .i64 n.Commit, .slice A7 n.Oks.length c7, .slice A8 n.Asks.length c8, .slice A9 n.Doers.length c9], .agg #[.int .i64 4, .int .i64 m.From, .int .i64 m.To, .int .i64 m.View, .int .i64 m.At, .bool m.Has, .int .i64 m.Entry.Client, .int .i64 m.Entry.Seq, .int .i64 m.Entry.Op.Kind, .int .i64 m.Entry.Op.Vol, .int .i64 m.Entry.Op.At, .int .i64 m.Entry.Op.Value, .int .i64 m.Last, .slice B m.Log.length d, .int .i64 m.Commit]] w fun e w' => e = .returned (.int .i64 (mailF n { m with Kind := 4 })) ∧ Below w.heap.size w w' := by
  have hlen : m.Log.length ≤ 9223372036854775807 := by have h1 := hB.1; have h2 := hB.2.1; unfold maxLen at h2; omega
  cases hq : (repF n != 0) with
  | true =>
    have hF : mailF n { m with Kind := 4 } = repF n := by unfold mailF; rw [if_pos hq]
    have HF := Lib.hid hF; clear hF
    go_enter Tryz.func35, Tryz.ntmps35
    go_wp2_with (go_at_call 34; refine (replicaFault_c n A5 c5 A7 c7 A8 c8 A9 c9 _ ?_ ?_ ?_ ?_).mono ?_; exact h5.below (by repeat (first | assumption | exact Below.refl _ _ | (refine below_trans ?_ (by assumption)) | apply below_alloc | apply below_drewN | apply Below.drew)); exact h7.below (by repeat (first | assumption | exact Below.refl _ _ | (refine below_trans ?_ (by assumption)) | apply below_alloc | apply below_drewN | apply Below.drew)); exact h8.below (by repeat (first | assumption | exact Below.refl _ _ | (refine below_trans ?_ (by assumption)) | apply below_alloc | apply below_drewN | apply Below.drew)); exact h9.below (by repeat (first | assumption | exact Below.refl _ _ | (refine below_trans ?_ (by assumption)) | apply below_alloc | apply below_drewN | apply Below.drew)); rintro e w1 ⟨rfl, hb1⟩)
    go_ret
    exact ⟨ret_int HF.out.symm, by repeat (first | assumption | exact Below.refl _ _ | (refine below_trans ?_ (by assumption)) | apply below_alloc | apply below_drewN | apply Below.drew)⟩
  | false =>
    have hF : mailF n { m with Kind := 4 } = mailT n { m with Kind := 4 } := by unfold mailF; rw [if_neg (by rw [hq]; simp)]
    obtain ⟨b1, b2⟩ := wi_b (repF_size hq)
    rw [hF]; clear hF
    have hk : wi 4 1 6 = true := rfl
    go_enter Tryz.func35, Tryz.ntmps35
    go_wp2_with (first | (go_at_call 34; refine (replicaFault_c n A5 c5 A7 c7 A8 c8 A9 c9 _ ?_ ?_ ?_ ?_).mono ?_; exact h5.below (by repeat (first | assumption | exact Below.refl _ _ | (refine below_trans ?_ (by assumption)) | apply below_alloc | apply below_drewN | apply Below.drew)); exact h7.below (by repeat (first | assumption | exact Below.refl _ _ | (refine below_trans ?_ (by assumption)) | apply below_alloc | apply below_drewN | apply Below.drew)); exact h8.below (by repeat (first | assumption | exact Below.refl _ _ | (refine below_trans ?_ (by assumption)) | apply below_alloc | apply below_drewN | apply Below.drew)); exact h9.below (by repeat (first | assumption | exact Below.refl _ _ | (refine below_trans ?_ (by assumption)) | apply below_alloc | apply below_drewN | apply Below.drew)); rintro e w1 ⟨rfl, hb1⟩; have iR : InReplica w n 71 A5 c5 A7 c7 A8 c8 A9 c9 w1 := (by unfold InReplica; repeat (first | assumption | exact Below.refl _ _ | (refine below_trans ?_ (by assumption)) | apply below_alloc | apply below_drewN | apply Below.drew)); have iM : InMail (w.alloc _) { m with Kind := 4 } 77 B d w1 := hb1; have g1 := iR.seen; have k1 := iM.seen; simp at k1) | (go_at_call 33; refine (within_c _ _ _ _).mono ?_; rintro e w' ⟨rfl, rfl⟩) | (go_at_call 62; refine (hasOf_4 _).mono ?_; rintro e w2 ⟨rfl, hb2⟩; have g2 := (iR.step hb2).seen; have k2 := (iM.step hb2).seen; simp at k2; have z2 : w.heap.size + 1 < w2.heap.size := (by have h := (iM.step hb2).size; simp at h; omega); have y2 : w.heap.size < w2.heap.size := (by omega); clear g1 k1) | (go_at_call 36; refine (logFault_c m.Log _ _ _ ?_).mono ?_; exact hB.below (by repeat (first | assumption | exact Below.refl _ _ | (refine below_trans ?_ (by assumption)) | apply below_alloc | apply below_drewN | apply Below.drew)); rintro e w4 ⟨rfl, hb4⟩; have g4 := seenReplica w n 71 A5 c5 A7 c7 A8 c8 A9 c9 w4 (by repeat (first | assumption | exact Below.refl _ _ | (refine below_trans ?_ (by assumption)) | apply below_alloc | apply below_drewN | apply Below.drew)); have k4 := seenMail (w.alloc _) { m with Kind := 4 } 77 B d w4 (by repeat (first | assumption | exact Below.refl _ _ | (refine below_trans ?_ (by assumption)) | apply below_alloc | apply below_drewN | apply Below.drew)); simp at k4; have l4 := ((lies_alloc w2 #[.bool false, .bool true, .bool true, .bool true, .bool false] 112).below (by repeat (first | assumption | exact Below.refl _ _ | (refine below_trans ?_ (by assumption)) | apply below_alloc | apply below_drewN | apply Below.drew)) : Lies w4 _ _); have l40 := l4.c0; have l41 := l4.cS 0 rfl; have l42 := l4.cS 1 rfl; have l43 := l4.cS 2 rfl; have l44 := l4.cS 3 rfl; simp only [Nat.zero_add, Nat.reduceAdd] at l41 l42 l43 l44))
    all_goals first
      | (go_ret; refine ⟨ret_int ?_, by repeat (first | assumption | exact Below.refl _ _ | (refine below_trans ?_ (by assumption)) | apply below_alloc | apply below_drewN | apply Below.drew)⟩; go_light; simp_all [mailT, numB, bareB, entry_beq]; done)
      | skip
    go_quiet ((first | (go_at_call 39; exact Calls.quiet_of_same ((many_c m.Log _ _ _).mono fun e w' ⟨he, hw⟩ => ⟨he, hw.symm⟩)) | (go_at_call 33; exact Calls.quiet_of_same ((within_c _ _ _ _).mono fun e w' ⟨he, hw⟩ => ⟨he, hw.symm⟩))))
    go_wp2_with fail
    all_goals (go_ret; refine ⟨ret_int ?_, by repeat (first | assumption | exact Below.refl _ _ | (refine below_trans ?_ (by assumption)) | apply below_alloc | apply below_drewN | apply Below.drew)⟩; go_light; simp_all [mailT, numB, bareB, entry_beq])

set_option maxRecDepth 100000 in
set_option maxHeartbeats 2000000 in
theorem mailFault_5 (n : SReplica) (m : SMail) (A5 : Option Addr) (c5 : Nat) (A7 : Option Addr) (c7 : Nat) (A8 : Option Addr) (c8 : Nat) (A9 : Option Addr) (c9 : Nat) (B : Option Addr) (d : Nat) (w : World) (h5 : RdS kEntry w A5 c5 n.Log) (h7 : RdS kInt w A7 c7 n.Oks) (h8 : RdS kBool w A8 c8 n.Asks) (h9 : RdS kDoer w A9 c9 n.Doers) (hB : RdS kEntry w B d m.Log)  :
    Calls Tryz.prog 35 #[.agg #[.int .i64 n.Id, .int .i64 n.Size, .int .i64 n.View, .bool n.Normal, .int .i64 n.Last, .slice A5 n.Log.length c5, .int .i64 n.Commit, .slice A7 n.Oks.length c7, .slice A8 n.Asks.length c8, .slice A9 n.Doers.length c9], .agg #[.int .i64 5, .int .i64 m.From, .int .i64 m.To, .int .i64 m.View, .int .i64 m.At, .bool m.Has, .int .i64 m.Entry.Client, .int .i64 m.Entry.Seq, .int .i64 m.Entry.Op.Kind, .int .i64 m.Entry.Op.Vol, .int .i64 m.Entry.Op.At, .int .i64 m.Entry.Op.Value, .int .i64 m.Last, .slice B m.Log.length d, .int .i64 m.Commit]] w fun e w' => e = .returned (.int .i64 (mailF n { m with Kind := 5 })) ∧ Below w.heap.size w w' := by
  have hlen : m.Log.length ≤ 9223372036854775807 := by have h1 := hB.1; have h2 := hB.2.1; unfold maxLen at h2; omega
  cases hq : (repF n != 0) with
  | true =>
    have hF : mailF n { m with Kind := 5 } = repF n := by unfold mailF; rw [if_pos hq]
    have HF := Lib.hid hF; clear hF
    go_enter Tryz.func35, Tryz.ntmps35
    go_wp2_with (go_at_call 34; refine (replicaFault_c n A5 c5 A7 c7 A8 c8 A9 c9 _ ?_ ?_ ?_ ?_).mono ?_; exact h5.below (by repeat (first | assumption | exact Below.refl _ _ | (refine below_trans ?_ (by assumption)) | apply below_alloc | apply below_drewN | apply Below.drew)); exact h7.below (by repeat (first | assumption | exact Below.refl _ _ | (refine below_trans ?_ (by assumption)) | apply below_alloc | apply below_drewN | apply Below.drew)); exact h8.below (by repeat (first | assumption | exact Below.refl _ _ | (refine below_trans ?_ (by assumption)) | apply below_alloc | apply below_drewN | apply Below.drew)); exact h9.below (by repeat (first | assumption | exact Below.refl _ _ | (refine below_trans ?_ (by assumption)) | apply below_alloc | apply below_drewN | apply Below.drew)); rintro e w1 ⟨rfl, hb1⟩)
    go_ret
    exact ⟨ret_int HF.out.symm, by repeat (first | assumption | exact Below.refl _ _ | (refine below_trans ?_ (by assumption)) | apply below_alloc | apply below_drewN | apply Below.drew)⟩
  | false =>
    have hF : mailF n { m with Kind := 5 } = mailT n { m with Kind := 5 } := by unfold mailF; rw [if_neg (by rw [hq]; simp)]
    obtain ⟨b1, b2⟩ := wi_b (repF_size hq)
    rw [hF]; clear hF
    have hk : wi 5 1 6 = true := rfl
    go_enter Tryz.func35, Tryz.ntmps35
    go_wp2_with (first | (go_at_call 34; refine (replicaFault_c n A5 c5 A7 c7 A8 c8 A9 c9 _ ?_ ?_ ?_ ?_).mono ?_; exact h5.below (by repeat (first | assumption | exact Below.refl _ _ | (refine below_trans ?_ (by assumption)) | apply below_alloc | apply below_drewN | apply Below.drew)); exact h7.below (by repeat (first | assumption | exact Below.refl _ _ | (refine below_trans ?_ (by assumption)) | apply below_alloc | apply below_drewN | apply Below.drew)); exact h8.below (by repeat (first | assumption | exact Below.refl _ _ | (refine below_trans ?_ (by assumption)) | apply below_alloc | apply below_drewN | apply Below.drew)); exact h9.below (by repeat (first | assumption | exact Below.refl _ _ | (refine below_trans ?_ (by assumption)) | apply below_alloc | apply below_drewN | apply Below.drew)); rintro e w1 ⟨rfl, hb1⟩; have iR : InReplica w n 71 A5 c5 A7 c7 A8 c8 A9 c9 w1 := (by unfold InReplica; repeat (first | assumption | exact Below.refl _ _ | (refine below_trans ?_ (by assumption)) | apply below_alloc | apply below_drewN | apply Below.drew)); have iM : InMail (w.alloc _) { m with Kind := 5 } 77 B d w1 := hb1; have g1 := iR.seen; have k1 := iM.seen; simp at k1) | (go_at_call 33; refine (within_c _ _ _ _).mono ?_; rintro e w' ⟨rfl, rfl⟩) | (go_at_call 62; refine (hasOf_5 _).mono ?_; rintro e w2 ⟨rfl, hb2⟩; have g2 := (iR.step hb2).seen; have k2 := (iM.step hb2).seen; simp at k2; have z2 : w.heap.size + 1 < w2.heap.size := (by have h := (iM.step hb2).size; simp at h; omega); have y2 : w.heap.size < w2.heap.size := (by omega); clear g1 k1) | (go_at_call 36; refine (logFault_c m.Log _ _ _ ?_).mono ?_; exact hB.below (by repeat (first | assumption | exact Below.refl _ _ | (refine below_trans ?_ (by assumption)) | apply below_alloc | apply below_drewN | apply Below.drew)); rintro e w4 ⟨rfl, hb4⟩; have g4 := seenReplica w n 71 A5 c5 A7 c7 A8 c8 A9 c9 w4 (by repeat (first | assumption | exact Below.refl _ _ | (refine below_trans ?_ (by assumption)) | apply below_alloc | apply below_drewN | apply Below.drew)); have k4 := seenMail (w.alloc _) { m with Kind := 5 } 77 B d w4 (by repeat (first | assumption | exact Below.refl _ _ | (refine below_trans ?_ (by assumption)) | apply below_alloc | apply below_drewN | apply Below.drew)); simp at k4; have l4 := ((lies_alloc w2 #[.bool false, .bool true, .bool false, .bool true, .bool false] 112).below (by repeat (first | assumption | exact Below.refl _ _ | (refine below_trans ?_ (by assumption)) | apply below_alloc | apply below_drewN | apply Below.drew)) : Lies w4 _ _); have l40 := l4.c0; have l41 := l4.cS 0 rfl; have l42 := l4.cS 1 rfl; have l43 := l4.cS 2 rfl; have l44 := l4.cS 3 rfl; simp only [Nat.zero_add, Nat.reduceAdd] at l41 l42 l43 l44))
    all_goals first
      | (go_ret; refine ⟨ret_int ?_, by repeat (first | assumption | exact Below.refl _ _ | (refine below_trans ?_ (by assumption)) | apply below_alloc | apply below_drewN | apply Below.drew)⟩; go_light; simp_all [mailT, numB, bareB, entry_beq]; done)
      | skip
    go_quiet ((first | (go_at_call 39; exact Calls.quiet_of_same ((many_c m.Log _ _ _).mono fun e w' ⟨he, hw⟩ => ⟨he, hw.symm⟩)) | (go_at_call 33; exact Calls.quiet_of_same ((within_c _ _ _ _).mono fun e w' ⟨he, hw⟩ => ⟨he, hw.symm⟩))))
    go_wp2_with fail
    all_goals (go_ret; refine ⟨ret_int ?_, by repeat (first | assumption | exact Below.refl _ _ | (refine below_trans ?_ (by assumption)) | apply below_alloc | apply below_drewN | apply Below.drew)⟩; go_light; simp_all [mailT, numB, bareB, entry_beq])
theorem mailFault_c (n : SReplica) (m : SMail) (A5 : Option Addr) (c5 : Nat) (A7 : Option Addr) (c7 : Nat) (A8 : Option Addr) (c8 : Nat) (A9 : Option Addr) (c9 : Nat) (B : Option Addr) (d : Nat) (w : World) (h5 : RdS kEntry w A5 c5 n.Log) (h7 : RdS kInt w A7 c7 n.Oks) (h8 : RdS kBool w A8 c8 n.Asks) (h9 : RdS kDoer w A9 c9 n.Doers) (hB : RdS kEntry w B d m.Log) :
    Calls Tryz.prog 35 #[.agg #[.int .i64 n.Id, .int .i64 n.Size, .int .i64 n.View, .bool n.Normal, .int .i64 n.Last, .slice A5 n.Log.length c5, .int .i64 n.Commit, .slice A7 n.Oks.length c7, .slice A8 n.Asks.length c8, .slice A9 n.Doers.length c9], .agg #[.int .i64 m.Kind, .int .i64 m.From, .int .i64 m.To, .int .i64 m.View, .int .i64 m.At, .bool m.Has, .int .i64 m.Entry.Client, .int .i64 m.Entry.Seq, .int .i64 m.Entry.Op.Kind, .int .i64 m.Entry.Op.Vol, .int .i64 m.Entry.Op.At, .int .i64 m.Entry.Op.Value, .int .i64 m.Last, .slice B m.Log.length d, .int .i64 m.Commit]] w fun e w' => e = .returned (.int .i64 (mailF n m)) ∧ Below w.heap.size w w' := by
  cases hk : wi m.Kind 1 6 with
  | false => exact mailFault_other n m A5 c5 A7 c7 A8 c8 A9 c9 B d w h5 h7 h8 h9 hB hk
  | true =>
    obtain ⟨k1, k2⟩ := wi_b hk
    have : m.Kind = 1 ∨ m.Kind = 2 ∨ m.Kind = 3 ∨ m.Kind = 4 ∨ m.Kind = 5 ∨ m.Kind = 6 := by omega
    obtain ⟨K, F, T, V, P_, H, E, L, lg, C⟩ := m
    dsimp only at this hB
    rcases this with rfl | rfl | rfl | rfl | rfl | rfl
    · exact mailFault_1 n ⟨1, F, T, V, P_, H, E, L, lg, C⟩ A5 c5 A7 c7 A8 c8 A9 c9 B d w h5 h7 h8 h9 hB
    · exact mailFault_2 n ⟨2, F, T, V, P_, H, E, L, lg, C⟩ A5 c5 A7 c7 A8 c8 A9 c9 B d w h5 h7 h8 h9 hB
    · exact mailFault_3 n ⟨3, F, T, V, P_, H, E, L, lg, C⟩ A5 c5 A7 c7 A8 c8 A9 c9 B d w h5 h7 h8 h9 hB
    · exact mailFault_4 n ⟨4, F, T, V, P_, H, E, L, lg, C⟩ A5 c5 A7 c7 A8 c8 A9 c9 B d w h5 h7 h8 h9 hB
    · exact mailFault_5 n ⟨5, F, T, V, P_, H, E, L, lg, C⟩ A5 c5 A7 c7 A8 c8 A9 c9 B d w h5 h7 h8 h9 hB
    · exact mailFault_6 n ⟨6, F, T, V, P_, H, E, L, lg, C⟩ A5 c5 A7 c7 A8 c8 A9 c9 B d w h5 h7 h8 h9 hB
end Go.Proofs.YtdjfehjddfbbjaaGreatDoor
