/- What the laws' comparisons come to where both sides read alike (written by gD3.py, own work). -/
import Derived.Test.YtdjfehjddfbbjaaGreatDoorTy
import Derived.Test.YtdjfehjddfbbjaaGreatDoorRo
import Derived.Test.YtdjfehjddfbbjaaGreatDoorProg
set_option linter.unusedVariables false
set_option linter.unusedSimpArgs false
namespace Go.Proofs.YtdjfehjddfbbjaaGreatDoor
open Go Go.RowKit Mk
theorem nblk_allocE (w : World) (o : Obj) : (w.alloc o).heap.size = w.heap.size + 1 := Deep.nblk_alloc w o
set_option maxRecDepth 100000 in
set_option maxHeartbeats 1000000 in
theorem eqOp_c (x : SOp) (w : World) :
    Calls Tryz.prog 69 #[.agg #[.int .i64 x.Kind, .int .i64 x.Vol, .int .i64 x.At, .int .i64 x.Value], .agg #[.int .i64 x.Kind, .int .i64 x.Vol, .int .i64 x.At, .int .i64 x.Value]] w fun e w' => e = .returned (.bool true) ∧ Below w.heap.size w w' := by
  go_enter Tryz.func69, Tryz.ntmps69
  go_wp2_with fail
  go_ret; exact ⟨rfl, by repeat (first | assumption | exact Below.refl _ _ | (refine below_trans ?_ (by assumption)) | apply below_alloc | apply below_drewN | apply Below.drew)⟩
set_option maxRecDepth 100000 in
set_option maxHeartbeats 1000000 in
theorem eqEntry_c (x : SEntry) (w : World) :
    Calls Tryz.prog 42 #[.agg #[.int .i64 x.Client, .int .i64 x.Seq, .int .i64 x.Op.Kind, .int .i64 x.Op.Vol, .int .i64 x.Op.At, .int .i64 x.Op.Value], .agg #[.int .i64 x.Client, .int .i64 x.Seq, .int .i64 x.Op.Kind, .int .i64 x.Op.Vol, .int .i64 x.Op.At, .int .i64 x.Op.Value]] w fun e w' => e = .returned (.bool true) ∧ Below w.heap.size w w' := by
  go_enter Tryz.func42, Tryz.ntmps42
  go_wp2_with (first | (go_at_call 69; refine (eqOp_c _ _).mono ?_; rintro e w1 ⟨rfl, hb1⟩; have i1 : InEntry w x 75  w1 := (by unfold InEntry; repeat (first | assumption | exact Below.refl _ _ | (refine below_trans ?_ (by assumption)) | apply below_alloc | apply below_drewN | apply Below.drew)); have f1 := i1.seen; have ii1 : InEntry (w.alloc (.cells #[.int .i64 x.Client, .int .i64 x.Seq, .int .i64 x.Op.Kind, .int .i64 x.Op.Vol, .int .i64 x.Op.At, .int .i64 x.Op.Value] 75)) x 75  w1 := (by unfold InEntry; exact hb1); have ff1 := ii1.seen; simp only [nblk_allocE] at ff1))
  go_ret; exact ⟨rfl, by repeat (first | assumption | exact Below.refl _ _ | (refine below_trans ?_ (by assumption)) | apply below_alloc | apply below_drewN | apply Below.drew)⟩
set_option maxRecDepth 100000 in
set_option maxHeartbeats 1000000 in
theorem eqEntryS_c (xs : List SEntry) (A : Option Addr) (c : Nat) (B : Option Addr) (d : Nat) (w : World) (h : RdS kEntry w A c xs) (h' : RdS kEntry w B d xs) :
    Calls Tryz.prog 22 #[.slice A xs.length c, .slice B xs.length d] w fun e w' => e = .returned (.bool true) ∧ Below w.heap.size w w' := by
  have hn := h.le63
  go_enter Tryz.func22, Tryz.ntmps22
  go_wp2_with fail
  go_loopw [5] (fun i W => ∃ k : Nat, k ≤ xs.length ∧ i = .int .i64 k ∧ Below w.heap.size w W) (fun i _ => xs.length - (intOf i).toNat)
  case atStart => exact ⟨0, Nat.zero_le _, rfl, Below.refl _ _⟩
  case round =>
    obtain ⟨k, hk, rfl, hb⟩ := hrel
    by_cases hlt : k < xs.length
    · have hlt' : (k : Int) < (xs.length : Int) := by omega
      obtain ⟨a, ea, hx⟩ := (h.below hb).at_ hlt
      obtain ⟨b, eb, hy⟩ := (h'.below hb).at_ hlt
      subst ea
      subst eb
      simp only [show kEntry.sz = 6 from rfl, Nat.mul_one] at hx hy
      generalize xs[k] = x at hx hy
      obtain ⟨q0, q1, q2, q3, q4, q5⟩ := atEntry hx
      obtain ⟨p0, p1, p2, p3, p4, p5⟩ := atEntry hy
      go_wp2_with fail
      go_still_tail 8, (by kernel_rfl)
      change wpList _ _ _ _ _ wr.drew
      go_wp2_with (go_at_call 42; refine (eqEntry_c x  _ ).mono ?_; rintro e w1 ⟨rfl, hb1⟩)
      exact ⟨⟨k + 1, hlt, by go_num, below_trans hb (below_trans (Below.refl _ _).drew hb1)⟩, by simp [intOf]; omega⟩
    · have hk' : k = xs.length := by omega
      subst hk'
      go_wp2
      go_ret; exact ⟨rfl, hb⟩
set_option maxRecDepth 100000 in
set_option maxHeartbeats 1000000 in
theorem eqInt64S_c (xs : List Int) (A : Option Addr) (c : Nat) (B : Option Addr) (d : Nat) (w : World) (h : RdS kInt w A c xs) (h' : RdS kInt w B d xs) :
    Calls Tryz.prog 66 #[.slice A xs.length c, .slice B xs.length d] w fun e w' => e = .returned (.bool true) ∧ Below w.heap.size w w' := by
  have hn := h.le63
  go_enter Tryz.func66, Tryz.ntmps66
  go_wp2_with fail
  go_loopw [5] (fun i W => ∃ k : Nat, k ≤ xs.length ∧ i = .int .i64 k ∧ Below w.heap.size w W) (fun i _ => xs.length - (intOf i).toNat)
  case atStart => exact ⟨0, Nat.zero_le _, rfl, Below.refl _ _⟩
  case round =>
    obtain ⟨k, hk, rfl, hb⟩ := hrel
    by_cases hlt : k < xs.length
    · have hlt' : (k : Int) < (xs.length : Int) := by omega
      obtain ⟨a, ea, hx⟩ := (h.below hb).at_ hlt
      obtain ⟨b, eb, hy⟩ := (h'.below hb).at_ hlt
      subst ea
      subst eb
      simp only [show kInt.sz = 1 from rfl, Nat.mul_one] at hx hy
      generalize xs[k] = x at hx hy
      obtain ⟨cs, hl, hcs⟩ := hx
      obtain rfl := hcs
      obtain ⟨cs, hl2, hcs⟩ := hy
      obtain rfl := hcs
      have q0 := hl.c0
      have p0 := hl2.c0
      clear hl hl2
      go_wp2_with fail
      go_quiet (fail)
      go_wp2_with fail
      exact ⟨⟨k + 1, hlt, by go_num, by repeat (first | assumption | exact Below.refl _ _ | (refine below_trans ?_ (by assumption)) | apply below_alloc | apply below_drewN | apply Below.drew)⟩, by simp [intOf]; omega⟩
    · have hk' : k = xs.length := by omega
      subst hk'
      go_wp2
      go_ret; exact ⟨rfl, hb⟩
set_option maxRecDepth 100000 in
set_option maxHeartbeats 1000000 in
theorem eqBoolS_c (xs : List Bool) (A : Option Addr) (c : Nat) (B : Option Addr) (d : Nat) (w : World) (h : RdS kBool w A c xs) (h' : RdS kBool w B d xs) :
    Calls Tryz.prog 67 #[.slice A xs.length c, .slice B xs.length d] w fun e w' => e = .returned (.bool true) ∧ Below w.heap.size w w' := by
  have hn := h.le63
  go_enter Tryz.func67, Tryz.ntmps67
  go_wp2_with fail
  go_loopw [5] (fun i W => ∃ k : Nat, k ≤ xs.length ∧ i = .int .i64 k ∧ Below w.heap.size w W) (fun i _ => xs.length - (intOf i).toNat)
  case atStart => exact ⟨0, Nat.zero_le _, rfl, Below.refl _ _⟩
  case round =>
    obtain ⟨k, hk, rfl, hb⟩ := hrel
    by_cases hlt : k < xs.length
    · have hlt' : (k : Int) < (xs.length : Int) := by omega
      obtain ⟨a, ea, hx⟩ := (h.below hb).at_ hlt
      obtain ⟨b, eb, hy⟩ := (h'.below hb).at_ hlt
      subst ea
      subst eb
      simp only [show kBool.sz = 1 from rfl, Nat.mul_one] at hx hy
      generalize xs[k] = x at hx hy
      obtain ⟨cs, hl, hcs⟩ := hx
      obtain rfl := hcs
      obtain ⟨cs, hl2, hcs⟩ := hy
      obtain rfl := hcs
      have q0 := hl.c0
      have p0 := hl2.c0
      clear hl hl2
      go_wp2_with fail
      go_quiet (fail)
      go_wp2_with fail
      exact ⟨⟨k + 1, hlt, by go_num, by repeat (first | assumption | exact Below.refl _ _ | (refine below_trans ?_ (by assumption)) | apply below_alloc | apply below_drewN | apply Below.drew)⟩, by simp [intOf]; omega⟩
    · have hk' : k = xs.length := by omega
      subst hk'
      go_wp2
      go_ret; exact ⟨rfl, hb⟩
set_option maxRecDepth 100000 in
set_option maxHeartbeats 1000000 in
theorem eqDoer_c (x : SDoer) (A2 : Option Addr) (c2 : Nat) (B2 : Option Addr) (d2 : Nat) (w : World) (h2 : RdS kEntry w A2 c2 x.Log) (k2 : RdS kEntry w B2 d2 x.Log) :
    Calls Tryz.prog 82 #[.agg #[.bool x.Known, .int .i64 x.Last, .slice A2 x.Log.length c2, .int .i64 x.Commit], .agg #[.bool x.Known, .int .i64 x.Last, .slice B2 x.Log.length d2, .int .i64 x.Commit]] w fun e w' => e = .returned (.bool true) ∧ Below w.heap.size w w' := by
  go_enter Tryz.func82, Tryz.ntmps82
  go_wp2_with (first | (go_at_call 22; refine (eqEntryS_c _ _ _ _ _ _ (h2.below (by repeat (first | assumption | exact Below.refl _ _ | (refine below_trans ?_ (by assumption)) | apply below_alloc | apply below_drewN | apply Below.drew))) (k2.below (by repeat (first | assumption | exact Below.refl _ _ | (refine below_trans ?_ (by assumption)) | apply below_alloc | apply below_drewN | apply Below.drew)))).mono ?_; rintro e w1 ⟨rfl, hb1⟩; have i1 : InDoer w x 100 A2 c2 w1 := (by unfold InDoer; repeat (first | assumption | exact Below.refl _ _ | (refine below_trans ?_ (by assumption)) | apply below_alloc | apply below_drewN | apply Below.drew)); have f1 := i1.seen; have ii1 : InDoer (w.alloc (.cells #[.bool x.Known, .int .i64 x.Last, .slice A2 x.Log.length c2, .int .i64 x.Commit] 100)) x 100 B2 d2 w1 := (by unfold InDoer; exact hb1); have ff1 := ii1.seen; simp only [nblk_allocE] at ff1))
  go_ret; exact ⟨rfl, by repeat (first | assumption | exact Below.refl _ _ | (refine below_trans ?_ (by assumption)) | apply below_alloc | apply below_drewN | apply Below.drew)⟩
set_option maxRecDepth 100000 in
set_option maxHeartbeats 1000000 in
theorem eqDoerS_c (xs : List SDoer) (A : Option Addr) (c : Nat) (B : Option Addr) (d : Nat) (w : World) (h : RdS kDoer w A c xs) (h' : RdS kDoer w B d xs) :
    Calls Tryz.prog 68 #[.slice A xs.length c, .slice B xs.length d] w fun e w' => e = .returned (.bool true) ∧ Below w.heap.size w w' := by
  have hn := h.le63
  go_enter Tryz.func68, Tryz.ntmps68
  go_wp2_with fail
  go_loopw [5] (fun i W => ∃ k : Nat, k ≤ xs.length ∧ i = .int .i64 k ∧ Below w.heap.size w W) (fun i _ => xs.length - (intOf i).toNat)
  case atStart => exact ⟨0, Nat.zero_le _, rfl, Below.refl _ _⟩
  case round =>
    obtain ⟨k, hk, rfl, hb⟩ := hrel
    by_cases hlt : k < xs.length
    · have hlt' : (k : Int) < (xs.length : Int) := by omega
      obtain ⟨a, ea, hx⟩ := (h.below hb).at_ hlt
      obtain ⟨b, eb, hy⟩ := (h'.below hb).at_ hlt
      subst ea
      subst eb
      simp only [show kDoer.sz = 4 from rfl, Nat.mul_one] at hx hy
      generalize xs[k] = x at hx hy
      obtain ⟨A2, c2, hq⟩ := atDoer hx
      obtain ⟨q0, q1, q2, q3, h2⟩ := hq
      obtain ⟨B2, d2, hq⟩ := atDoer hy
      obtain ⟨p0, p1, p2, p3, k2⟩ := hq
      go_wp2_with fail
      go_still_tail 8, (by kernel_rfl)
      change wpList _ _ _ _ _ wr.drew
      go_wp2_with (go_at_call 82; refine (eqDoer_c x A2 c2 B2 d2 _ (h2.below (Below.refl _ _).drew) (k2.below (Below.refl _ _).drew)).mono ?_; rintro e w1 ⟨rfl, hb1⟩)
      exact ⟨⟨k + 1, hlt, by go_num, below_trans hb (below_trans (Below.refl _ _).drew hb1)⟩, by simp [intOf]; omega⟩
    · have hk' : k = xs.length := by omega
      subst hk'
      go_wp2
      go_ret; exact ⟨rfl, hb⟩
set_option maxRecDepth 100000 in
set_option maxHeartbeats 1000000 in
theorem eqReplica_c (x : SReplica) (A5 : Option Addr) (c5 : Nat) (A7 : Option Addr) (c7 : Nat) (A8 : Option Addr) (c8 : Nat) (A9 : Option Addr) (c9 : Nat) (B5 : Option Addr) (d5 : Nat) (B7 : Option Addr) (d7 : Nat) (B8 : Option Addr) (d8 : Nat) (B9 : Option Addr) (d9 : Nat) (w : World) (h5 : RdS kEntry w A5 c5 x.Log) (h7 : RdS kInt w A7 c7 x.Oks) (h8 : RdS kBool w A8 c8 x.Asks) (h9 : RdS kDoer w A9 c9 x.Doers) (k5 : RdS kEntry w B5 d5 x.Log) (k7 : RdS kInt w B7 d7 x.Oks) (k8 : RdS kBool w B8 d8 x.Asks) (k9 : RdS kDoer w B9 d9 x.Doers) :
    Calls Tryz.prog 40 #[.agg #[.int .i64 x.Id, .int .i64 x.Size, .int .i64 x.View, .bool x.Normal, .int .i64 x.Last, .slice A5 x.Log.length c5, .int .i64 x.Commit, .slice A7 x.Oks.length c7, .slice A8 x.Asks.length c8, .slice A9 x.Doers.length c9], .agg #[.int .i64 x.Id, .int .i64 x.Size, .int .i64 x.View, .bool x.Normal, .int .i64 x.Last, .slice B5 x.Log.length d5, .int .i64 x.Commit, .slice B7 x.Oks.length d7, .slice B8 x.Asks.length d8, .slice B9 x.Doers.length d9]] w fun e w' => e = .returned (.bool true) ∧ Below w.heap.size w w' := by
  go_enter Tryz.func40, Tryz.ntmps40
  go_wp2_with (first | (go_at_call 22; refine (eqEntryS_c _ _ _ _ _ _ (h5.below (by repeat (first | assumption | exact Below.refl _ _ | (refine below_trans ?_ (by assumption)) | apply below_alloc | apply below_drewN | apply Below.drew))) (k5.below (by repeat (first | assumption | exact Below.refl _ _ | (refine below_trans ?_ (by assumption)) | apply below_alloc | apply below_drewN | apply Below.drew)))).mono ?_; rintro e w1 ⟨rfl, hb1⟩; have i1 : InReplica w x 71 A5 c5 A7 c7 A8 c8 A9 c9 w1 := (by unfold InReplica; repeat (first | assumption | exact Below.refl _ _ | (refine below_trans ?_ (by assumption)) | apply below_alloc | apply below_drewN | apply Below.drew)); have f1 := i1.seen; have ii1 : InReplica (w.alloc (.cells #[.int .i64 x.Id, .int .i64 x.Size, .int .i64 x.View, .bool x.Normal, .int .i64 x.Last, .slice A5 x.Log.length c5, .int .i64 x.Commit, .slice A7 x.Oks.length c7, .slice A8 x.Asks.length c8, .slice A9 x.Doers.length c9] 71)) x 71 B5 d5 B7 d7 B8 d8 B9 d9 w1 := (by unfold InReplica; exact hb1); have ff1 := ii1.seen; simp only [nblk_allocE] at ff1) | (go_at_call 66; refine (eqInt64S_c _ _ _ _ _ _ (h7.below (by repeat (first | assumption | exact Below.refl _ _ | (refine below_trans ?_ (by assumption)) | apply below_alloc | apply below_drewN | apply Below.drew))) (k7.below (by repeat (first | assumption | exact Below.refl _ _ | (refine below_trans ?_ (by assumption)) | apply below_alloc | apply below_drewN | apply Below.drew)))).mono ?_; rintro e w2 ⟨rfl, hb2⟩; have i2 : InReplica w x 71 A5 c5 A7 c7 A8 c8 A9 c9 w2 := i1.step hb2; have f2 := i2.seen; have ii2 : InReplica (w.alloc (.cells #[.int .i64 x.Id, .int .i64 x.Size, .int .i64 x.View, .bool x.Normal, .int .i64 x.Last, .slice A5 x.Log.length c5, .int .i64 x.Commit, .slice A7 x.Oks.length c7, .slice A8 x.Asks.length c8, .slice A9 x.Doers.length c9] 71)) x 71 B5 d5 B7 d7 B8 d8 B9 d9 w2 := ii1.step hb2; have ff2 := ii2.seen; simp only [nblk_allocE] at ff2) | (go_at_call 67; refine (eqBoolS_c _ _ _ _ _ _ (h8.below (by repeat (first | assumption | exact Below.refl _ _ | (refine below_trans ?_ (by assumption)) | apply below_alloc | apply below_drewN | apply Below.drew))) (k8.below (by repeat (first | assumption | exact Below.refl _ _ | (refine below_trans ?_ (by assumption)) | apply below_alloc | apply below_drewN | apply Below.drew)))).mono ?_; rintro e w3 ⟨rfl, hb3⟩; have i3 : InReplica w x 71 A5 c5 A7 c7 A8 c8 A9 c9 w3 := i2.step hb3; have f3 := i3.seen; have ii3 : InReplica (w.alloc (.cells #[.int .i64 x.Id, .int .i64 x.Size, .int .i64 x.View, .bool x.Normal, .int .i64 x.Last, .slice A5 x.Log.length c5, .int .i64 x.Commit, .slice A7 x.Oks.length c7, .slice A8 x.Asks.length c8, .slice A9 x.Doers.length c9] 71)) x 71 B5 d5 B7 d7 B8 d8 B9 d9 w3 := ii2.step hb3; have ff3 := ii3.seen; simp only [nblk_allocE] at ff3) | (go_at_call 68; refine (eqDoerS_c _ _ _ _ _ _ (h9.below (by repeat (first | assumption | exact Below.refl _ _ | (refine below_trans ?_ (by assumption)) | apply below_alloc | apply below_drewN | apply Below.drew))) (k9.below (by repeat (first | assumption | exact Below.refl _ _ | (refine below_trans ?_ (by assumption)) | apply below_alloc | apply below_drewN | apply Below.drew)))).mono ?_; rintro e w4 ⟨rfl, hb4⟩; have i4 : InReplica w x 71 A5 c5 A7 c7 A8 c8 A9 c9 w4 := i3.step hb4; have f4 := i4.seen; have ii4 : InReplica (w.alloc (.cells #[.int .i64 x.Id, .int .i64 x.Size, .int .i64 x.View, .bool x.Normal, .int .i64 x.Last, .slice A5 x.Log.length c5, .int .i64 x.Commit, .slice A7 x.Oks.length c7, .slice A8 x.Asks.length c8, .slice A9 x.Doers.length c9] 71)) x 71 B5 d5 B7 d7 B8 d8 B9 d9 w4 := ii3.step hb4; have ff4 := ii4.seen; simp only [nblk_allocE] at ff4))
  go_ret; exact ⟨rfl, by repeat (first | assumption | exact Below.refl _ _ | (refine below_trans ?_ (by assumption)) | apply below_alloc | apply below_drewN | apply Below.drew)⟩
set_option maxRecDepth 100000 in
set_option maxHeartbeats 1000000 in
theorem eqReplicaS_c (xs : List SReplica) (A : Option Addr) (c : Nat) (B : Option Addr) (d : Nat) (w : World) (h : RdS kReplica w A c xs) (h' : RdS kReplica w B d xs) :
    Calls Tryz.prog 20 #[.slice A xs.length c, .slice B xs.length d] w fun e w' => e = .returned (.bool true) ∧ Below w.heap.size w w' := by
  have hn := h.le63
  go_enter Tryz.func20, Tryz.ntmps20
  go_wp2_with fail
  go_loopw [5] (fun i W => ∃ k : Nat, k ≤ xs.length ∧ i = .int .i64 k ∧ Below w.heap.size w W) (fun i _ => xs.length - (intOf i).toNat)
  case atStart => exact ⟨0, Nat.zero_le _, rfl, Below.refl _ _⟩
  case round =>
    obtain ⟨k, hk, rfl, hb⟩ := hrel
    by_cases hlt : k < xs.length
    · have hlt' : (k : Int) < (xs.length : Int) := by omega
      obtain ⟨a, ea, hx⟩ := (h.below hb).at_ hlt
      obtain ⟨b, eb, hy⟩ := (h'.below hb).at_ hlt
      subst ea
      subst eb
      simp only [show kReplica.sz = 10 from rfl, Nat.mul_one] at hx hy
      generalize xs[k] = x at hx hy
      obtain ⟨A5, c5, A7, c7, A8, c8, A9, c9, hq⟩ := atReplica hx
      obtain ⟨q0, q1, q2, q3, q4, q5, q6, q7, q8, q9, h5, h7, h8, h9⟩ := hq
      obtain ⟨B5, d5, B7, d7, B8, d8, B9, d9, hq⟩ := atReplica hy
      obtain ⟨p0, p1, p2, p3, p4, p5, p6, p7, p8, p9, k5, k7, k8, k9⟩ := hq
      go_wp2_with fail
      go_still_tail 8, (by kernel_rfl)
      change wpList _ _ _ _ _ wr.drew
      go_wp2_with (go_at_call 40; refine (eqReplica_c x A5 c5 A7 c7 A8 c8 A9 c9 B5 d5 B7 d7 B8 d8 B9 d9 _ (h5.below (Below.refl _ _).drew) (h7.below (Below.refl _ _).drew) (h8.below (Below.refl _ _).drew) (h9.below (Below.refl _ _).drew) (k5.below (Below.refl _ _).drew) (k7.below (Below.refl _ _).drew) (k8.below (Below.refl _ _).drew) (k9.below (Below.refl _ _).drew)).mono ?_; rintro e w1 ⟨rfl, hb1⟩)
      exact ⟨⟨k + 1, hlt, by go_num, below_trans hb (below_trans (Below.refl _ _).drew hb1)⟩, by simp [intOf]; omega⟩
    · have hk' : k = xs.length := by omega
      subst hk'
      go_wp2
      go_ret; exact ⟨rfl, hb⟩
set_option maxRecDepth 100000 in
set_option maxHeartbeats 1000000 in
theorem eqMail_c (x : SMail) (A13 : Option Addr) (c13 : Nat) (B13 : Option Addr) (d13 : Nat) (w : World) (h13 : RdS kEntry w A13 c13 x.Log) (k13 : RdS kEntry w B13 d13 x.Log) :
    Calls Tryz.prog 41 #[.agg #[.int .i64 x.Kind, .int .i64 x.From, .int .i64 x.To, .int .i64 x.View, .int .i64 x.At, .bool x.Has, .int .i64 x.Entry.Client, .int .i64 x.Entry.Seq, .int .i64 x.Entry.Op.Kind, .int .i64 x.Entry.Op.Vol, .int .i64 x.Entry.Op.At, .int .i64 x.Entry.Op.Value, .int .i64 x.Last, .slice A13 x.Log.length c13, .int .i64 x.Commit], .agg #[.int .i64 x.Kind, .int .i64 x.From, .int .i64 x.To, .int .i64 x.View, .int .i64 x.At, .bool x.Has, .int .i64 x.Entry.Client, .int .i64 x.Entry.Seq, .int .i64 x.Entry.Op.Kind, .int .i64 x.Entry.Op.Vol, .int .i64 x.Entry.Op.At, .int .i64 x.Entry.Op.Value, .int .i64 x.Last, .slice B13 x.Log.length d13, .int .i64 x.Commit]] w fun e w' => e = .returned (.bool true) ∧ Below w.heap.size w w' := by
  go_enter Tryz.func41, Tryz.ntmps41
  go_wp2_with (first | (go_at_call 42; refine (eqEntry_c _ _).mono ?_; rintro e w1 ⟨rfl, hb1⟩; have i1 : InMail w x 77 A13 c13 w1 := (by unfold InMail; repeat (first | assumption | exact Below.refl _ _ | (refine below_trans ?_ (by assumption)) | apply below_alloc | apply below_drewN | apply Below.drew)); have f1 := i1.seen; have ii1 : InMail (w.alloc (.cells #[.int .i64 x.Kind, .int .i64 x.From, .int .i64 x.To, .int .i64 x.View, .int .i64 x.At, .bool x.Has, .int .i64 x.Entry.Client, .int .i64 x.Entry.Seq, .int .i64 x.Entry.Op.Kind, .int .i64 x.Entry.Op.Vol, .int .i64 x.Entry.Op.At, .int .i64 x.Entry.Op.Value, .int .i64 x.Last, .slice A13 x.Log.length c13, .int .i64 x.Commit] 77)) x 77 B13 d13 w1 := (by unfold InMail; exact hb1); have ff1 := ii1.seen; simp only [nblk_allocE] at ff1) | (go_at_call 22; refine (eqEntryS_c _ _ _ _ _ _ (h13.below (by repeat (first | assumption | exact Below.refl _ _ | (refine below_trans ?_ (by assumption)) | apply below_alloc | apply below_drewN | apply Below.drew))) (k13.below (by repeat (first | assumption | exact Below.refl _ _ | (refine below_trans ?_ (by assumption)) | apply below_alloc | apply below_drewN | apply Below.drew)))).mono ?_; rintro e w2 ⟨rfl, hb2⟩; have i2 : InMail w x 77 A13 c13 w2 := i1.step hb2; have f2 := i2.seen; have ii2 : InMail (w.alloc (.cells #[.int .i64 x.Kind, .int .i64 x.From, .int .i64 x.To, .int .i64 x.View, .int .i64 x.At, .bool x.Has, .int .i64 x.Entry.Client, .int .i64 x.Entry.Seq, .int .i64 x.Entry.Op.Kind, .int .i64 x.Entry.Op.Vol, .int .i64 x.Entry.Op.At, .int .i64 x.Entry.Op.Value, .int .i64 x.Last, .slice A13 x.Log.length c13, .int .i64 x.Commit] 77)) x 77 B13 d13 w2 := ii1.step hb2; have ff2 := ii2.seen; simp only [nblk_allocE] at ff2))
  go_ret; exact ⟨rfl, by repeat (first | assumption | exact Below.refl _ _ | (refine below_trans ?_ (by assumption)) | apply below_alloc | apply below_drewN | apply Below.drew)⟩
set_option maxRecDepth 100000 in
set_option maxHeartbeats 1000000 in
theorem eqMailS_c (xs : List SMail) (A : Option Addr) (c : Nat) (B : Option Addr) (d : Nat) (w : World) (h : RdS kMail w A c xs) (h' : RdS kMail w B d xs) :
    Calls Tryz.prog 21 #[.slice A xs.length c, .slice B xs.length d] w fun e w' => e = .returned (.bool true) ∧ Below w.heap.size w w' := by
  have hn := h.le63
  go_enter Tryz.func21, Tryz.ntmps21
  go_wp2_with fail
  go_loopw [5] (fun i W => ∃ k : Nat, k ≤ xs.length ∧ i = .int .i64 k ∧ Below w.heap.size w W) (fun i _ => xs.length - (intOf i).toNat)
  case atStart => exact ⟨0, Nat.zero_le _, rfl, Below.refl _ _⟩
  case round =>
    obtain ⟨k, hk, rfl, hb⟩ := hrel
    by_cases hlt : k < xs.length
    · have hlt' : (k : Int) < (xs.length : Int) := by omega
      obtain ⟨a, ea, hx⟩ := (h.below hb).at_ hlt
      obtain ⟨b, eb, hy⟩ := (h'.below hb).at_ hlt
      subst ea
      subst eb
      simp only [show kMail.sz = 15 from rfl, Nat.mul_one] at hx hy
      generalize xs[k] = x at hx hy
      obtain ⟨A13, c13, hq⟩ := atMail hx
      obtain ⟨q0, q1, q2, q3, q4, q5, q6, q7, q8, q9, q10, q11, q12, q13, q14, h13⟩ := hq
      obtain ⟨B13, d13, hq⟩ := atMail hy
      obtain ⟨p0, p1, p2, p3, p4, p5, p6, p7, p8, p9, p10, p11, p12, p13, p14, k13⟩ := hq
      go_wp2_with fail
      go_still_tail 8, (by kernel_rfl)
      change wpList _ _ _ _ _ wr.drew
      go_wp2_with (go_at_call 41; refine (eqMail_c x A13 c13 B13 d13 _ (h13.below (Below.refl _ _).drew) (k13.below (Below.refl _ _).drew)).mono ?_; rintro e w1 ⟨rfl, hb1⟩)
      exact ⟨⟨k + 1, hlt, by go_num, below_trans hb (below_trans (Below.refl _ _).drew hb1)⟩, by simp [intOf]; omega⟩
    · have hk' : k = xs.length := by omega
      subst hk'
      go_wp2
      go_ret; exact ⟨rfl, hb⟩
set_option maxRecDepth 100000 in
set_option maxHeartbeats 1000000 in
theorem eqCluster_c (x : SCluster) (A0 : Option Addr) (c0 : Nat) (A1 : Option Addr) (c1 : Nat) (A2 : Option Addr) (c2 : Nat) (B0 : Option Addr) (d0 : Nat) (B1 : Option Addr) (d1 : Nat) (B2 : Option Addr) (d2 : Nat) (w : World) (h0 : RdS kReplica w A0 c0 x.Nodes) (h1 : RdS kMail w A1 c1 x.Mails) (h2 : RdS kEntry w A2 c2 x.Sealed) (k0 : RdS kReplica w B0 d0 x.Nodes) (k1 : RdS kMail w B1 d1 x.Mails) (k2 : RdS kEntry w B2 d2 x.Sealed) :
    Calls Tryz.prog 9 #[.agg #[.slice A0 x.Nodes.length c0, .slice A1 x.Mails.length c1, .slice A2 x.Sealed.length c2], .agg #[.slice B0 x.Nodes.length d0, .slice B1 x.Mails.length d1, .slice B2 x.Sealed.length d2]] w fun e w' => e = .returned (.bool true) ∧ Below w.heap.size w w' := by
  go_enter Tryz.func9, Tryz.ntmps9
  go_wp2_with (first | (go_at_call 20; refine (eqReplicaS_c _ _ _ _ _ _ (h0.below (by repeat (first | assumption | exact Below.refl _ _ | (refine below_trans ?_ (by assumption)) | apply below_alloc | apply below_drewN | apply Below.drew))) (k0.below (by repeat (first | assumption | exact Below.refl _ _ | (refine below_trans ?_ (by assumption)) | apply below_alloc | apply below_drewN | apply Below.drew)))).mono ?_; rintro e w1 ⟨rfl, hb1⟩; have i1 : InCluster w x 35 A0 c0 A1 c1 A2 c2 w1 := (by unfold InCluster; repeat (first | assumption | exact Below.refl _ _ | (refine below_trans ?_ (by assumption)) | apply below_alloc | apply below_drewN | apply Below.drew)); have f1 := i1.seen; have ii1 : InCluster (w.alloc (.cells #[.slice A0 x.Nodes.length c0, .slice A1 x.Mails.length c1, .slice A2 x.Sealed.length c2] 35)) x 35 B0 d0 B1 d1 B2 d2 w1 := (by unfold InCluster; exact hb1); have ff1 := ii1.seen; simp only [nblk_allocE] at ff1) | (go_at_call 21; refine (eqMailS_c _ _ _ _ _ _ (h1.below (by repeat (first | assumption | exact Below.refl _ _ | (refine below_trans ?_ (by assumption)) | apply below_alloc | apply below_drewN | apply Below.drew))) (k1.below (by repeat (first | assumption | exact Below.refl _ _ | (refine below_trans ?_ (by assumption)) | apply below_alloc | apply below_drewN | apply Below.drew)))).mono ?_; rintro e w2 ⟨rfl, hb2⟩; have i2 : InCluster w x 35 A0 c0 A1 c1 A2 c2 w2 := i1.step hb2; have f2 := i2.seen; have ii2 : InCluster (w.alloc (.cells #[.slice A0 x.Nodes.length c0, .slice A1 x.Mails.length c1, .slice A2 x.Sealed.length c2] 35)) x 35 B0 d0 B1 d1 B2 d2 w2 := ii1.step hb2; have ff2 := ii2.seen; simp only [nblk_allocE] at ff2) | (go_at_call 22; refine (eqEntryS_c _ _ _ _ _ _ (h2.below (by repeat (first | assumption | exact Below.refl _ _ | (refine below_trans ?_ (by assumption)) | apply below_alloc | apply below_drewN | apply Below.drew))) (k2.below (by repeat (first | assumption | exact Below.refl _ _ | (refine below_trans ?_ (by assumption)) | apply below_alloc | apply below_drewN | apply Below.drew)))).mono ?_; rintro e w3 ⟨rfl, hb3⟩; have i3 : InCluster w x 35 A0 c0 A1 c1 A2 c2 w3 := i2.step hb3; have f3 := i3.seen; have ii3 : InCluster (w.alloc (.cells #[.slice A0 x.Nodes.length c0, .slice A1 x.Mails.length c1, .slice A2 x.Sealed.length c2] 35)) x 35 B0 d0 B1 d1 B2 d2 w3 := ii2.step hb3; have ff3 := ii3.seen; simp only [nblk_allocE] at ff3))
  go_ret; exact ⟨rfl, by repeat (first | assumption | exact Below.refl _ _ | (refine below_trans ?_ (by assumption)) | apply below_alloc | apply below_drewN | apply Below.drew)⟩
end Go.Proofs.YtdjfehjddfbbjaaGreatDoor
