/- Faults of a mail: what the reference's l9Mail comes to (written by gB4.py, own work). -/
import Derived.Test.YtdjfehjddfbbjaaGreatDoorB3
set_option linter.unusedVariables false
set_option linter.unusedSimpArgs false
namespace Go.Proofs.YtdjfehjddfbbjaaGreatDoor
open Go Go.RowKit Mk

set_option maxRecDepth 100000 in
set_option maxHeartbeats 4000000 in
theorem l9Mail_1 (n : SReplica) (p : Addr) (F T V P_ : Int) (H : Bool) (E : SEntry) (L : Int) (lg : List SEntry) (C : Int) (B : Option Addr) (d : Nat) (w : World) (nb bb : Bool) (g0 : ∀ o, (w.alloc o).cell? p = some (.int .i64 n.Id)) (hB : RdS kEntry w B d lg) (ht : (T != n.Id) = false)
    (hN : Hid (∀ W, Below w.heap.size w W → Calls Tryz.prog 50 #[.pointer (some p), .agg #[.int .i64 1, .int .i64 F, .int .i64 T, .int .i64 V, .int .i64 P_, .bool H, .int .i64 E.Client, .int .i64 E.Seq, .int .i64 E.Op.Kind, .int .i64 E.Op.Vol, .int .i64 E.Op.At, .int .i64 E.Op.Value, .int .i64 L, .slice B lg.length d, .int .i64 C]] W fun e w' => e = .returned (.bool nb) ∧ Below W.heap.size W w'))
    (hBare : Hid (∀ W, Below w.heap.size w W → Calls Tryz.prog 52 #[.agg #[.int .i64 1, .int .i64 F, .int .i64 T, .int .i64 V, .int .i64 P_, .bool H, .int .i64 E.Client, .int .i64 E.Seq, .int .i64 E.Op.Kind, .int .i64 E.Op.Vol, .int .i64 E.Op.At, .int .i64 E.Op.Value, .int .i64 L, .slice B lg.length d, .int .i64 C]] W fun e w' => e = .returned (.bool bb) ∧ Below W.heap.size W w')) :
    Calls Tryz.prog 27 #[.pointer (some p), .agg #[.int .i64 1, .int .i64 F, .int .i64 T, .int .i64 V, .int .i64 P_, .bool H, .int .i64 E.Client, .int .i64 E.Seq, .int .i64 E.Op.Kind, .int .i64 E.Op.Vol, .int .i64 E.Op.At, .int .i64 E.Op.Value, .int .i64 L, .slice B lg.length d, .int .i64 C]] w fun e w' => e = .returned (.int .i64 (if !nb then 3 else if (1 == 4 || 1 == 5) && logF lg != 0 then logF lg else if (1 == 4 || 1 == 5) && !wi C 0 lg.length then 3 else if 1 == 1 && H && entryF E != 0 then entryF E else if !bb then 1 else 0)) ∧ Below w.heap.size w w' := by
  have hlen := hB.le63
  have hk : wi 1 1 6 = true := rfl
  generalize hr : (if !nb then 3 else if (1 == 4 || 1 == 5) && logF lg != 0 then logF lg else if (1 == 4 || 1 == 5) && !wi C 0 lg.length then 3 else if 1 == 1 && H && entryF E != 0 then entryF E else if !bb then 1 else 0 : Int) = r
  have HR := Lib.hid hr; clear hr
  cases H
  · go_enter Tryz.func27, Tryz.ntmps27
    go_wp2_with fail
    go_quiet ((first | (go_at_call 46; exact Calls.quiet_of_same ((l1In_c _ _ _ _).mono fun e w' ⟨he, hw⟩ => ⟨he, hw.symm⟩))))
    go_wp2_with (first | (go_at_call 50; refine (hN.out _ (by repeat (first | assumption | exact Below.refl _ _ | (refine below_trans ?_ (by assumption)) | apply below_alloc | apply below_drewN | apply Below.drew))).mono ?_; rintro e w1 ⟨rfl, hb1⟩; have i1 : InMail w ⟨1, F, T, V, P_, false, E, L, lg, C⟩ 77 B d w1 := (by unfold InMail; repeat (first | assumption | exact Below.refl _ _ | (refine below_trans ?_ (by assumption)) | apply below_alloc | apply below_drewN | apply Below.drew)); have k1 := i1.seen; dsimp only at k1) | (go_at_call 28; refine (logFaultS_c _ _ _ _ ?_).mono ?_; exact hB.below (by repeat (first | assumption | exact Below.refl _ _ | (refine below_trans ?_ (by assumption)) | apply below_alloc | apply below_drewN | apply Below.drew)); rintro e w2 ⟨rfl, hb2⟩; have i2 : InMail w ⟨1, F, T, V, P_, false, E, L, lg, C⟩ 77 B d w2 := (by unfold InMail; repeat (first | assumption | exact Below.refl _ _ | (refine below_trans ?_ (by assumption)) | apply below_alloc | apply below_drewN | apply Below.drew)); have k2 := i2.seen; dsimp only at k2) | (go_at_call 46; refine (l1In_c _ _ _ _).mono ?_; rintro e w' ⟨rfl, rfl⟩) | (go_at_call 51; refine (entryFaultS_c E _).mono ?_; rintro e w3 ⟨rfl, hb3⟩; have i3 : InMail w ⟨1, F, T, V, P_, false, E, L, lg, C⟩ 77 B d w3 := (by unfold InMail; repeat (first | assumption | exact Below.refl _ _ | (refine below_trans ?_ (by assumption)) | apply below_alloc | apply below_drewN | apply Below.drew)); have k3 := i3.seen; dsimp only at k3) | (go_at_call 52; refine (hBare.out _ (by repeat (first | assumption | exact Below.refl _ _ | (refine below_trans ?_ (by assumption)) | apply below_alloc | apply below_drewN | apply Below.drew))).mono ?_; rintro e w4 ⟨rfl, hb4⟩))
    all_goals (go_ret; refine ⟨ret_int ?_, by repeat (first | assumption | exact Below.refl _ _ | (refine below_trans ?_ (by assumption)) | apply below_alloc | apply below_drewN | apply Below.drew)⟩; rw [← HR.out]; clear HR hN hBare g0; go_light; simp_all)
  · go_enter Tryz.func27, Tryz.ntmps27
    go_wp2_with fail
    go_quiet ((first | (go_at_call 46; exact Calls.quiet_of_same ((l1In_c _ _ _ _).mono fun e w' ⟨he, hw⟩ => ⟨he, hw.symm⟩))))
    go_wp2_with (first | (go_at_call 50; refine (hN.out _ (by repeat (first | assumption | exact Below.refl _ _ | (refine below_trans ?_ (by assumption)) | apply below_alloc | apply below_drewN | apply Below.drew))).mono ?_; rintro e w1 ⟨rfl, hb1⟩; have i1 : InMail w ⟨1, F, T, V, P_, true, E, L, lg, C⟩ 77 B d w1 := (by unfold InMail; repeat (first | assumption | exact Below.refl _ _ | (refine below_trans ?_ (by assumption)) | apply below_alloc | apply below_drewN | apply Below.drew)); have k1 := i1.seen; dsimp only at k1) | (go_at_call 28; refine (logFaultS_c _ _ _ _ ?_).mono ?_; exact hB.below (by repeat (first | assumption | exact Below.refl _ _ | (refine below_trans ?_ (by assumption)) | apply below_alloc | apply below_drewN | apply Below.drew)); rintro e w2 ⟨rfl, hb2⟩; have i2 : InMail w ⟨1, F, T, V, P_, true, E, L, lg, C⟩ 77 B d w2 := (by unfold InMail; repeat (first | assumption | exact Below.refl _ _ | (refine below_trans ?_ (by assumption)) | apply below_alloc | apply below_drewN | apply Below.drew)); have k2 := i2.seen; dsimp only at k2) | (go_at_call 46; refine (l1In_c _ _ _ _).mono ?_; rintro e w' ⟨rfl, rfl⟩) | (go_at_call 51; refine (entryFaultS_c E _).mono ?_; rintro e w3 ⟨rfl, hb3⟩; have i3 : InMail w ⟨1, F, T, V, P_, true, E, L, lg, C⟩ 77 B d w3 := (by unfold InMail; repeat (first | assumption | exact Below.refl _ _ | (refine below_trans ?_ (by assumption)) | apply below_alloc | apply below_drewN | apply Below.drew)); have k3 := i3.seen; dsimp only at k3) | (go_at_call 52; refine (hBare.out _ (by repeat (first | assumption | exact Below.refl _ _ | (refine below_trans ?_ (by assumption)) | apply below_alloc | apply below_drewN | apply Below.drew))).mono ?_; rintro e w4 ⟨rfl, hb4⟩))
    all_goals (go_ret; refine ⟨ret_int ?_, by repeat (first | assumption | exact Below.refl _ _ | (refine below_trans ?_ (by assumption)) | apply below_alloc | apply below_drewN | apply Below.drew)⟩; rw [← HR.out]; clear HR hN hBare g0; go_light; simp_all)

set_option maxRecDepth 100000 in
set_option maxHeartbeats 4000000 in
theorem l9Mail_2 (n : SReplica) (p : Addr) (F T V P_ : Int) (H : Bool) (E : SEntry) (L : Int) (lg : List SEntry) (C : Int) (B : Option Addr) (d : Nat) (w : World) (nb bb : Bool) (g0 : ∀ o, (w.alloc o).cell? p = some (.int .i64 n.Id)) (hB : RdS kEntry w B d lg) (ht : (T != n.Id) = false)
    (hN : Hid (∀ W, Below w.heap.size w W → Calls Tryz.prog 50 #[.pointer (some p), .agg #[.int .i64 2, .int .i64 F, .int .i64 T, .int .i64 V, .int .i64 P_, .bool H, .int .i64 E.Client, .int .i64 E.Seq, .int .i64 E.Op.Kind, .int .i64 E.Op.Vol, .int .i64 E.Op.At, .int .i64 E.Op.Value, .int .i64 L, .slice B lg.length d, .int .i64 C]] W fun e w' => e = .returned (.bool nb) ∧ Below W.heap.size W w'))
    (hBare : Hid (∀ W, Below w.heap.size w W → Calls Tryz.prog 52 #[.agg #[.int .i64 2, .int .i64 F, .int .i64 T, .int .i64 V, .int .i64 P_, .bool H, .int .i64 E.Client, .int .i64 E.Seq, .int .i64 E.Op.Kind, .int .i64 E.Op.Vol, .int .i64 E.Op.At, .int .i64 E.Op.Value, .int .i64 L, .slice B lg.length d, .int .i64 C]] W fun e w' => e = .returned (.bool bb) ∧ Below W.heap.size W w')) :
    Calls Tryz.prog 27 #[.pointer (some p), .agg #[.int .i64 2, .int .i64 F, .int .i64 T, .int .i64 V, .int .i64 P_, .bool H, .int .i64 E.Client, .int .i64 E.Seq, .int .i64 E.Op.Kind, .int .i64 E.Op.Vol, .int .i64 E.Op.At, .int .i64 E.Op.Value, .int .i64 L, .slice B lg.length d, .int .i64 C]] w fun e w' => e = .returned (.int .i64 (if !nb then 3 else if (2 == 4 || 2 == 5) && logF lg != 0 then logF lg else if (2 == 4 || 2 == 5) && !wi C 0 lg.length then 3 else if 2 == 1 && H && entryF E != 0 then entryF E else if !bb then 1 else 0)) ∧ Below w.heap.size w w' := by
  have hlen := hB.le63
  have hk : wi 2 1 6 = true := rfl
  generalize hr : (if !nb then 3 else if (2 == 4 || 2 == 5) && logF lg != 0 then logF lg else if (2 == 4 || 2 == 5) && !wi C 0 lg.length then 3 else if 2 == 1 && H && entryF E != 0 then entryF E else if !bb then 1 else 0 : Int) = r
  have HR := Lib.hid hr; clear hr
  go_enter Tryz.func27, Tryz.ntmps27
  go_wp2_with fail
  go_quiet ((first | (go_at_call 46; exact Calls.quiet_of_same ((l1In_c _ _ _ _).mono fun e w' ⟨he, hw⟩ => ⟨he, hw.symm⟩))))
  go_wp2_with (first | (go_at_call 50; refine (hN.out _ (by repeat (first | assumption | exact Below.refl _ _ | (refine below_trans ?_ (by assumption)) | apply below_alloc | apply below_drewN | apply Below.drew))).mono ?_; rintro e w1 ⟨rfl, hb1⟩; have i1 : InMail w ⟨2, F, T, V, P_, H, E, L, lg, C⟩ 77 B d w1 := (by unfold InMail; repeat (first | assumption | exact Below.refl _ _ | (refine below_trans ?_ (by assumption)) | apply below_alloc | apply below_drewN | apply Below.drew)); have k1 := i1.seen; dsimp only at k1) | (go_at_call 28; refine (logFaultS_c _ _ _ _ ?_).mono ?_; exact hB.below (by repeat (first | assumption | exact Below.refl _ _ | (refine below_trans ?_ (by assumption)) | apply below_alloc | apply below_drewN | apply Below.drew)); rintro e w2 ⟨rfl, hb2⟩; have i2 : InMail w ⟨2, F, T, V, P_, H, E, L, lg, C⟩ 77 B d w2 := (by unfold InMail; repeat (first | assumption | exact Below.refl _ _ | (refine below_trans ?_ (by assumption)) | apply below_alloc | apply below_drewN | apply Below.drew)); have k2 := i2.seen; dsimp only at k2) | (go_at_call 46; refine (l1In_c _ _ _ _).mono ?_; rintro e w' ⟨rfl, rfl⟩) | (go_at_call 51; refine (entryFaultS_c E _).mono ?_; rintro e w3 ⟨rfl, hb3⟩; have i3 : InMail w ⟨2, F, T, V, P_, H, E, L, lg, C⟩ 77 B d w3 := (by unfold InMail; repeat (first | assumption | exact Below.refl _ _ | (refine below_trans ?_ (by assumption)) | apply below_alloc | apply below_drewN | apply Below.drew)); have k3 := i3.seen; dsimp only at k3) | (go_at_call 52; refine (hBare.out _ (by repeat (first | assumption | exact Below.refl _ _ | (refine below_trans ?_ (by assumption)) | apply below_alloc | apply below_drewN | apply Below.drew))).mono ?_; rintro e w4 ⟨rfl, hb4⟩))
  all_goals (go_ret; refine ⟨ret_int ?_, by repeat (first | assumption | exact Below.refl _ _ | (refine below_trans ?_ (by assumption)) | apply below_alloc | apply below_drewN | apply Below.drew)⟩; rw [← HR.out]; clear HR hN hBare g0; go_light; simp_all)

set_option maxRecDepth 100000 in
set_option maxHeartbeats 4000000 in
theorem l9Mail_3 (n : SReplica) (p : Addr) (F T V P_ : Int) (H : Bool) (E : SEntry) (L : Int) (lg : List SEntry) (C : Int) (B : Option Addr) (d : Nat) (w : World) (nb bb : Bool) (g0 : ∀ o, (w.alloc o).cell? p = some (.int .i64 n.Id)) (hB : RdS kEntry w B d lg) (ht : (T != n.Id) = false)
    (hN : Hid (∀ W, Below w.heap.size w W → Calls Tryz.prog 50 #[.pointer (some p), .agg #[.int .i64 3, .int .i64 F, .int .i64 T, .int .i64 V, .int .i64 P_, .bool H, .int .i64 E.Client, .int .i64 E.Seq, .int .i64 E.Op.Kind, .int .i64 E.Op.Vol, .int .i64 E.Op.At, .int .i64 E.Op.Value, .int .i64 L, .slice B lg.length d, .int .i64 C]] W fun e w' => e = .returned (.bool nb) ∧ Below W.heap.size W w'))
    (hBare : Hid (∀ W, Below w.heap.size w W → Calls Tryz.prog 52 #[.agg #[.int .i64 3, .int .i64 F, .int .i64 T, .int .i64 V, .int .i64 P_, .bool H, .int .i64 E.Client, .int .i64 E.Seq, .int .i64 E.Op.Kind, .int .i64 E.Op.Vol, .int .i64 E.Op.At, .int .i64 E.Op.Value, .int .i64 L, .slice B lg.length d, .int .i64 C]] W fun e w' => e = .returned (.bool bb) ∧ Below W.heap.size W w')) :
    Calls Tryz.prog 27 #[.pointer (some p), .agg #[.int .i64 3, .int .i64 F, .int .i64 T, .int .i64 V, .int .i64 P_, .bool H, .int .i64 E.Client, .int .i64 E.Seq, .int .i64 E.Op.Kind, .int .i64 E.Op.Vol, .int .i64 E.Op.At, .int .i64 E.Op.Value, .int .i64 L, .slice B lg.length d, .int .i64 C]] w fun e w' => e = .returned (.int .i64 (if !nb then 3 else if (3 == 4 || 3 == 5) && logF lg != 0 then logF lg else if (3 == 4 || 3 == 5) && !wi C 0 lg.length then 3 else if 3 == 1 && H && entryF E != 0 then entryF E else if !bb then 1 else 0)) ∧ Below w.heap.size w w' := by
  have hlen := hB.le63
  have hk : wi 3 1 6 = true := rfl
  generalize hr : (if !nb then 3 else if (3 == 4 || 3 == 5) && logF lg != 0 then logF lg else if (3 == 4 || 3 == 5) && !wi C 0 lg.length then 3 else if 3 == 1 && H && entryF E != 0 then entryF E else if !bb then 1 else 0 : Int) = r
  have HR := Lib.hid hr; clear hr
  go_enter Tryz.func27, Tryz.ntmps27
  go_wp2_with fail
  go_quiet ((first | (go_at_call 46; exact Calls.quiet_of_same ((l1In_c _ _ _ _).mono fun e w' ⟨he, hw⟩ => ⟨he, hw.symm⟩))))
  go_wp2_with (first | (go_at_call 50; refine (hN.out _ (by repeat (first | assumption | exact Below.refl _ _ | (refine below_trans ?_ (by assumption)) | apply below_alloc | apply below_drewN | apply Below.drew))).mono ?_; rintro e w1 ⟨rfl, hb1⟩; have i1 : InMail w ⟨3, F, T, V, P_, H, E, L, lg, C⟩ 77 B d w1 := (by unfold InMail; repeat (first | assumption | exact Below.refl _ _ | (refine below_trans ?_ (by assumption)) | apply below_alloc | apply below_drewN | apply Below.drew)); have k1 := i1.seen; dsimp only at k1) | (go_at_call 28; refine (logFaultS_c _ _ _ _ ?_).mono ?_; exact hB.below (by repeat (first | assumption | exact Below.refl _ _ | (refine below_trans ?_ (by assumption)) | apply below_alloc | apply below_drewN | apply Below.drew)); rintro e w2 ⟨rfl, hb2⟩; have i2 : InMail w ⟨3, F, T, V, P_, H, E, L, lg, C⟩ 77 B d w2 := (by unfold InMail; repeat (first | assumption | exact Below.refl _ _ | (refine below_trans ?_ (by assumption)) | apply below_alloc | apply below_drewN | apply Below.drew)); have k2 := i2.seen; dsimp only at k2) | (go_at_call 46; refine (l1In_c _ _ _ _).mono ?_; rintro e w' ⟨rfl, rfl⟩) | (go_at_call 51; refine (entryFaultS_c E _).mono ?_; rintro e w3 ⟨rfl, hb3⟩; have i3 : InMail w ⟨3, F, T, V, P_, H, E, L, lg, C⟩ 77 B d w3 := (by unfold InMail; repeat (first | assumption | exact Below.refl _ _ | (refine below_trans ?_ (by assumption)) | apply below_alloc | apply below_drewN | apply Below.drew)); have k3 := i3.seen; dsimp only at k3) | (go_at_call 52; refine (hBare.out _ (by repeat (first | assumption | exact Below.refl _ _ | (refine below_trans ?_ (by assumption)) | apply below_alloc | apply below_drewN | apply Below.drew))).mono ?_; rintro e w4 ⟨rfl, hb4⟩))
  all_goals (go_ret; refine ⟨ret_int ?_, by repeat (first | assumption | exact Below.refl _ _ | (refine below_trans ?_ (by assumption)) | apply below_alloc | apply below_drewN | apply Below.drew)⟩; rw [← HR.out]; clear HR hN hBare g0; go_light; simp_all)

set_option maxRecDepth 100000 in
set_option maxHeartbeats 4000000 in
theorem l9Mail_4 (n : SReplica) (p : Addr) (F T V P_ : Int) (H : Bool) (E : SEntry) (L : Int) (lg : List SEntry) (C : Int) (B : Option Addr) (d : Nat) (w : World) (nb bb : Bool) (g0 : ∀ o, (w.alloc o).cell? p = some (.int .i64 n.Id)) (hB : RdS kEntry w B d lg) (ht : (T != n.Id) = false)
    (hN : Hid (∀ W, Below w.heap.size w W → Calls Tryz.prog 50 #[.pointer (some p), .agg #[.int .i64 4, .int .i64 F, .int .i64 T, .int .i64 V, .int .i64 P_, .bool H, .int .i64 E.Client, .int .i64 E.Seq, .int .i64 E.Op.Kind, .int .i64 E.Op.Vol, .int .i64 E.Op.At, .int .i64 E.Op.Value, .int .i64 L, .slice B lg.length d, .int .i64 C]] W fun e w' => e = .returned (.bool nb) ∧ Below W.heap.size W w'))
    (hBare : Hid (∀ W, Below w.heap.size w W → Calls Tryz.prog 52 #[.agg #[.int .i64 4, .int .i64 F, .int .i64 T, .int .i64 V, .int .i64 P_, .bool H, .int .i64 E.Client, .int .i64 E.Seq, .int .i64 E.Op.Kind, .int .i64 E.Op.Vol, .int .i64 E.Op.At, .int .i64 E.Op.Value, .int .i64 L, .slice B lg.length d, .int .i64 C]] W fun e w' => e = .returned (.bool bb) ∧ Below W.heap.size W w')) :
    Calls Tryz.prog 27 #[.pointer (some p), .agg #[.int .i64 4, .int .i64 F, .int .i64 T, .int .i64 V, .int .i64 P_, .bool H, .int .i64 E.Client, .int .i64 E.Seq, .int .i64 E.Op.Kind, .int .i64 E.Op.Vol, .int .i64 E.Op.At, .int .i64 E.Op.Value, .int .i64 L, .slice B lg.length d, .int .i64 C]] w fun e w' => e = .returned (.int .i64 (if !nb then 3 else if (4 == 4 || 4 == 5) && logF lg != 0 then logF lg else if (4 == 4 || 4 == 5) && !wi C 0 lg.length then 3 else if 4 == 1 && H && entryF E != 0 then entryF E else if !bb then 1 else 0)) ∧ Below w.heap.size w w' := by
  have hlen := hB.le63
  have hk : wi 4 1 6 = true := rfl
  generalize hr : (if !nb then 3 else if (4 == 4 || 4 == 5) && logF lg != 0 then logF lg else if (4 == 4 || 4 == 5) && !wi C 0 lg.length then 3 else if 4 == 1 && H && entryF E != 0 then entryF E else if !bb then 1 else 0 : Int) = r
  have HR := Lib.hid hr; clear hr
  go_enter Tryz.func27, Tryz.ntmps27
  go_wp2_with fail
  go_quiet ((first | (go_at_call 46; exact Calls.quiet_of_same ((l1In_c _ _ _ _).mono fun e w' ⟨he, hw⟩ => ⟨he, hw.symm⟩))))
  go_wp2_with (first | (go_at_call 50; refine (hN.out _ (by repeat (first | assumption | exact Below.refl _ _ | (refine below_trans ?_ (by assumption)) | apply below_alloc | apply below_drewN | apply Below.drew))).mono ?_; rintro e w1 ⟨rfl, hb1⟩; have i1 : InMail w ⟨4, F, T, V, P_, H, E, L, lg, C⟩ 77 B d w1 := (by unfold InMail; repeat (first | assumption | exact Below.refl _ _ | (refine below_trans ?_ (by assumption)) | apply below_alloc | apply below_drewN | apply Below.drew)); have k1 := i1.seen; dsimp only at k1) | (go_at_call 28; refine (logFaultS_c _ _ _ _ ?_).mono ?_; exact hB.below (by repeat (first | assumption | exact Below.refl _ _ | (refine below_trans ?_ (by assumption)) | apply below_alloc | apply below_drewN | apply Below.drew)); rintro e w2 ⟨rfl, hb2⟩; have i2 : InMail w ⟨4, F, T, V, P_, H, E, L, lg, C⟩ 77 B d w2 := (by unfold InMail; repeat (first | assumption | exact Below.refl _ _ | (refine below_trans ?_ (by assumption)) | apply below_alloc | apply below_drewN | apply Below.drew)); have k2 := i2.seen; dsimp only at k2) | (go_at_call 46; refine (l1In_c _ _ _ _).mono ?_; rintro e w' ⟨rfl, rfl⟩) | (go_at_call 51; refine (entryFaultS_c E _).mono ?_; rintro e w3 ⟨rfl, hb3⟩; have i3 : InMail w ⟨4, F, T, V, P_, H, E, L, lg, C⟩ 77 B d w3 := (by unfold InMail; repeat (first | assumption | exact Below.refl _ _ | (refine below_trans ?_ (by assumption)) | apply below_alloc | apply below_drewN | apply Below.drew)); have k3 := i3.seen; dsimp only at k3) | (go_at_call 52; refine (hBare.out _ (by repeat (first | assumption | exact Below.refl _ _ | (refine below_trans ?_ (by assumption)) | apply below_alloc | apply below_drewN | apply Below.drew))).mono ?_; rintro e w4 ⟨rfl, hb4⟩))
  all_goals (go_ret; refine ⟨ret_int ?_, by repeat (first | assumption | exact Below.refl _ _ | (refine below_trans ?_ (by assumption)) | apply below_alloc | apply below_drewN | apply Below.drew)⟩; rw [← HR.out]; clear HR hN hBare g0; go_light; simp_all)

set_option maxRecDepth 100000 in
set_option maxHeartbeats 4000000 in
theorem l9Mail_5 (n : SReplica) (p : Addr) (F T V P_ : Int) (H : Bool) (E : SEntry) (L : Int) (lg : List SEntry) (C : Int) (B : Option Addr) (d : Nat) (w : World) (nb bb : Bool) (g0 : ∀ o, (w.alloc o).cell? p = some (.int .i64 n.Id)) (hB : RdS kEntry w B d lg) (ht : (T != n.Id) = false)
    (hN : Hid (∀ W, Below w.heap.size w W → Calls Tryz.prog 50 #[.pointer (some p), .agg #[.int .i64 5, .int .i64 F, .int .i64 T, .int .i64 V, .int .i64 P_, .bool H, .int .i64 E.Client, .int .i64 E.Seq, .int .i64 E.Op.Kind, .int .i64 E.Op.Vol, .int .i64 E.Op.At, .int .i64 E.Op.Value, .int .i64 L, .slice B lg.length d, .int .i64 C]] W fun e w' => e = .returned (.bool nb) ∧ Below W.heap.size W w'))
    (hBare : Hid (∀ W, Below w.heap.size w W → Calls Tryz.prog 52 #[.agg #[.int .i64 5, .int .i64 F, .int .i64 T, .int .i64 V, .int .i64 P_, .bool H, .int .i64 E.Client, .int .i64 E.Seq, .int .i64 E.Op.Kind, .int .i64 E.Op.Vol, .int .i64 E.Op.At, .int .i64 E.Op.Value, .int .i64 L, .slice B lg.length d, .int .i64 C]] W fun e w' => e = .returned (.bool bb) ∧ Below W.heap.size W w')) :
    Calls Tryz.prog 27 #[.pointer (some p), .agg #[.int .i64 5, .int .i64 F, .int .i64 T, .int .i64 V, .int .i64 P_, .bool H, .int .i64 E.Client, .int .i64 E.Seq, .int .i64 E.Op.Kind, .int .i64 E.Op.Vol, .int .i64 E.Op.At, .int .i64 E.Op.Value, .int .i64 L, .slice B lg.length d, .int .i64 C]] w fun e w' => e = .returned (.int .i64 (if !nb then 3 else if (5 == 4 || 5 == 5) && logF lg != 0 then logF lg else if (5 == 4 || 5 == 5) && !wi C 0 lg.length then 3 else if 5 == 1 && H && entryF E != 0 then entryF E else if !bb then 1 else 0)) ∧ Below w.heap.size w w' := by
  have hlen := hB.le63
  have hk : wi 5 1 6 = true := rfl
  generalize hr : (if !nb then 3 else if (5 == 4 || 5 == 5) && logF lg != 0 then logF lg else if (5 == 4 || 5 == 5) && !wi C 0 lg.length then 3 else if 5 == 1 && H && entryF E != 0 then entryF E else if !bb then 1 else 0 : Int) = r
  have HR := Lib.hid hr; clear hr
  go_enter Tryz.func27, Tryz.ntmps27
  go_wp2_with fail
  go_quiet ((first | (go_at_call 46; exact Calls.quiet_of_same ((l1In_c _ _ _ _).mono fun e w' ⟨he, hw⟩ => ⟨he, hw.symm⟩))))
  go_wp2_with (first | (go_at_call 50; refine (hN.out _ (by repeat (first | assumption | exact Below.refl _ _ | (refine below_trans ?_ (by assumption)) | apply below_alloc | apply below_drewN | apply Below.drew))).mono ?_; rintro e w1 ⟨rfl, hb1⟩; have i1 : InMail w ⟨5, F, T, V, P_, H, E, L, lg, C⟩ 77 B d w1 := (by unfold InMail; repeat (first | assumption | exact Below.refl _ _ | (refine below_trans ?_ (by assumption)) | apply below_alloc | apply below_drewN | apply Below.drew)); have k1 := i1.seen; dsimp only at k1) | (go_at_call 28; refine (logFaultS_c _ _ _ _ ?_).mono ?_; exact hB.below (by repeat (first | assumption | exact Below.refl _ _ | (refine below_trans ?_ (by assumption)) | apply below_alloc | apply below_drewN | apply Below.drew)); rintro e w2 ⟨rfl, hb2⟩; have i2 : InMail w ⟨5, F, T, V, P_, H, E, L, lg, C⟩ 77 B d w2 := (by unfold InMail; repeat (first | assumption | exact Below.refl _ _ | (refine below_trans ?_ (by assumption)) | apply below_alloc | apply below_drewN | apply Below.drew)); have k2 := i2.seen; dsimp only at k2) | (go_at_call 46; refine (l1In_c _ _ _ _).mono ?_; rintro e w' ⟨rfl, rfl⟩) | (go_at_call 51; refine (entryFaultS_c E _).mono ?_; rintro e w3 ⟨rfl, hb3⟩; have i3 : InMail w ⟨5, F, T, V, P_, H, E, L, lg, C⟩ 77 B d w3 := (by unfold InMail; repeat (first | assumption | exact Below.refl _ _ | (refine below_trans ?_ (by assumption)) | apply below_alloc | apply below_drewN | apply Below.drew)); have k3 := i3.seen; dsimp only at k3) | (go_at_call 52; refine (hBare.out _ (by repeat (first | assumption | exact Below.refl _ _ | (refine below_trans ?_ (by assumption)) | apply below_alloc | apply below_drewN | apply Below.drew))).mono ?_; rintro e w4 ⟨rfl, hb4⟩))
  all_goals (go_ret; refine ⟨ret_int ?_, by repeat (first | assumption | exact Below.refl _ _ | (refine below_trans ?_ (by assumption)) | apply below_alloc | apply below_drewN | apply Below.drew)⟩; rw [← HR.out]; clear HR hN hBare g0; go_light; simp_all)

set_option maxRecDepth 100000 in
set_option maxHeartbeats 4000000 in
theorem l9Mail_6 (n : SReplica) (p : Addr) (F T V P_ : Int) (H : Bool) (E : SEntry) (L : Int) (lg : List SEntry) (C : Int) (B : Option Addr) (d : Nat) (w : World) (nb bb : Bool) (g0 : ∀ o, (w.alloc o).cell? p = some (.int .i64 n.Id)) (hB : RdS kEntry w B d lg) (ht : (T != n.Id) = false)
    (hN : Hid (∀ W, Below w.heap.size w W → Calls Tryz.prog 50 #[.pointer (some p), .agg #[.int .i64 6, .int .i64 F, .int .i64 T, .int .i64 V, .int .i64 P_, .bool H, .int .i64 E.Client, .int .i64 E.Seq, .int .i64 E.Op.Kind, .int .i64 E.Op.Vol, .int .i64 E.Op.At, .int .i64 E.Op.Value, .int .i64 L, .slice B lg.length d, .int .i64 C]] W fun e w' => e = .returned (.bool nb) ∧ Below W.heap.size W w'))
    (hBare : Hid (∀ W, Below w.heap.size w W → Calls Tryz.prog 52 #[.agg #[.int .i64 6, .int .i64 F, .int .i64 T, .int .i64 V, .int .i64 P_, .bool H, .int .i64 E.Client, .int .i64 E.Seq, .int .i64 E.Op.Kind, .int .i64 E.Op.Vol, .int .i64 E.Op.At, .int .i64 E.Op.Value, .int .i64 L, .slice B lg.length d, .int .i64 C]] W fun e w' => e = .returned (.bool bb) ∧ Below W.heap.size W w')) :
    Calls Tryz.prog 27 #[.pointer (some p), .agg #[.int .i64 6, .int .i64 F, .int .i64 T, .int .i64 V, .int .i64 P_, .bool H, .int .i64 E.Client, .int .i64 E.Seq, .int .i64 E.Op.Kind, .int .i64 E.Op.Vol, .int .i64 E.Op.At, .int .i64 E.Op.Value, .int .i64 L, .slice B lg.length d, .int .i64 C]] w fun e w' => e = .returned (.int .i64 (if !nb then 3 else if (6 == 4 || 6 == 5) && logF lg != 0 then logF lg else if (6 == 4 || 6 == 5) && !wi C 0 lg.length then 3 else if 6 == 1 && H && entryF E != 0 then entryF E else if !bb then 1 else 0)) ∧ Below w.heap.size w w' := by
  have hlen := hB.le63
  have hk : wi 6 1 6 = true := rfl
  generalize hr : (if !nb then 3 else if (6 == 4 || 6 == 5) && logF lg != 0 then logF lg else if (6 == 4 || 6 == 5) && !wi C 0 lg.length then 3 else if 6 == 1 && H && entryF E != 0 then entryF E else if !bb then 1 else 0 : Int) = r
  have HR := Lib.hid hr; clear hr
  go_enter Tryz.func27, Tryz.ntmps27
  go_wp2_with fail
  go_quiet ((first | (go_at_call 46; exact Calls.quiet_of_same ((l1In_c _ _ _ _).mono fun e w' ⟨he, hw⟩ => ⟨he, hw.symm⟩))))
  go_wp2_with (first | (go_at_call 50; refine (hN.out _ (by repeat (first | assumption | exact Below.refl _ _ | (refine below_trans ?_ (by assumption)) | apply below_alloc | apply below_drewN | apply Below.drew))).mono ?_; rintro e w1 ⟨rfl, hb1⟩; have i1 : InMail w ⟨6, F, T, V, P_, H, E, L, lg, C⟩ 77 B d w1 := (by unfold InMail; repeat (first | assumption | exact Below.refl _ _ | (refine below_trans ?_ (by assumption)) | apply below_alloc | apply below_drewN | apply Below.drew)); have k1 := i1.seen; dsimp only at k1) | (go_at_call 28; refine (logFaultS_c _ _ _ _ ?_).mono ?_; exact hB.below (by repeat (first | assumption | exact Below.refl _ _ | (refine below_trans ?_ (by assumption)) | apply below_alloc | apply below_drewN | apply Below.drew)); rintro e w2 ⟨rfl, hb2⟩; have i2 : InMail w ⟨6, F, T, V, P_, H, E, L, lg, C⟩ 77 B d w2 := (by unfold InMail; repeat (first | assumption | exact Below.refl _ _ | (refine below_trans ?_ (by assumption)) | apply below_alloc | apply below_drewN | apply Below.drew)); have k2 := i2.seen; dsimp only at k2) | (go_at_call 46; refine (l1In_c _ _ _ _).mono ?_; rintro e w' ⟨rfl, rfl⟩) | (go_at_call 51; refine (entryFaultS_c E _).mono ?_; rintro e w3 ⟨rfl, hb3⟩; have i3 : InMail w ⟨6, F, T, V, P_, H, E, L, lg, C⟩ 77 B d w3 := (by unfold InMail; repeat (first | assumption | exact Below.refl _ _ | (refine below_trans ?_ (by assumption)) | apply below_alloc | apply below_drewN | apply Below.drew)); have k3 := i3.seen; dsimp only at k3) | (go_at_call 52; refine (hBare.out _ (by repeat (first | assumption | exact Below.refl _ _ | (refine below_trans ?_ (by assumption)) | apply below_alloc | apply below_drewN | apply Below.drew))).mono ?_; rintro e w4 ⟨rfl, hb4⟩))
  all_goals (go_ret; refine ⟨ret_int ?_, by repeat (first | assumption | exact Below.refl _ _ | (refine below_trans ?_ (by assumption)) | apply below_alloc | apply below_drewN | apply Below.drew)⟩; rw [← HR.out]; clear HR hN hBare g0; go_light; simp_all)
set_option maxRecDepth 100000 in
set_option maxHeartbeats 4000000 in
theorem l9Mail_c (n : SReplica) (p : Addr) (m : SMail) (B : Option Addr) (d : Nat) (w : World) (h : At kReplica w p n) (hB : RdS kEntry w B d m.Log) (hs : wi n.Size 1 5 = true) :
    Calls Tryz.prog 27 #[.pointer (some p), .agg #[.int .i64 m.Kind, .int .i64 m.From, .int .i64 m.To, .int .i64 m.View, .int .i64 m.At, .bool m.Has, .int .i64 m.Entry.Client, .int .i64 m.Entry.Seq, .int .i64 m.Entry.Op.Kind, .int .i64 m.Entry.Op.Vol, .int .i64 m.Entry.Op.At, .int .i64 m.Entry.Op.Value, .int .i64 m.Last, .slice B m.Log.length d, .int .i64 m.Commit]] w fun e w' => e = .returned (.int .i64 (mailT n m)) ∧ Below w.heap.size w w' := by
  have hat := h
  obtain ⟨cs, hl, hr⟩ := h
  obtain ⟨A5, c5, A7, c7, A8, c8, A9, c9, rfl, h5, h7, h8, h9⟩ := kReplica_open hr
  clear hr h5 h7 h8 h9
  obtain ⟨g0, g1, g2, g3, g4, g5, g6, g7, g8, g9⟩ := liesReplica hl
  clear hl g1 g2 g3 g4 g5 g6 g7 g8 g9
  replace g0 := fun o => cell_alloc g0 o
  have hlen := hB.le63
  cases hk : wi m.Kind 1 6
  · have e : mailT n m = 1 := by simp [mailT, hk]
    rw [e]; clear e
    go_enter Tryz.func27, Tryz.ntmps27
    go_wp2_with fail
    go_quiet ((first | (go_at_call 46; exact Calls.quiet_of_same ((l1In_c _ _ _ _).mono fun e w' ⟨he, hw⟩ => ⟨he, hw.symm⟩))))
    go_wp2
    go_ret; exact ⟨rfl, by repeat (first | assumption | exact Below.refl _ _ | (refine below_trans ?_ (by assumption)) | apply below_alloc | apply below_drewN | apply Below.drew)⟩
  · cases ht : (m.To != n.Id)
    · have e : mailT n m = if !numB n m then 3 else if (m.Kind == 4 || m.Kind == 5) && logF m.Log != 0 then logF m.Log else if (m.Kind == 4 || m.Kind == 5) && !wi m.Commit 0 m.Log.length then 3 else if m.Kind == 1 && m.Has && entryF m.Entry != 0 then entryF m.Entry else if !bareB m then 1 else 0 := by
        unfold mailT; rw [hk, ht]; rfl
      rw [e]; clear e
      have hk0 := hk
      have hN := Lib.hid (fun (W : World) (hW : Below w.heap.size w W) => l9Numbers_c n p m B d W (hat.below hW) hs hk0)
      have hBare := Lib.hid (fun (W : World) (hW : Below w.heap.size w W) => l9Bare_c m B d W (hB.below hW) hk0)
      generalize hnb : numB n m = nb at hN ⊢
      generalize hbb : bareB m = bb at hBare ⊢
      clear hnb hbb hat
      obtain ⟨K, F, T, V, P_, H, E, L, lg, C⟩ := m
      dsimp only at hk hk0 hB hlen ht hN hBare ⊢
      rcases kind_cases hk with rfl | rfl | rfl | rfl | rfl | rfl
      · exact l9Mail_1 n p F T V P_ H E L lg C B d w nb bb g0 hB ht hN hBare
      · exact l9Mail_2 n p F T V P_ H E L lg C B d w nb bb g0 hB ht hN hBare
      · exact l9Mail_3 n p F T V P_ H E L lg C B d w nb bb g0 hB ht hN hBare
      · exact l9Mail_4 n p F T V P_ H E L lg C B d w nb bb g0 hB ht hN hBare
      · exact l9Mail_5 n p F T V P_ H E L lg C B d w nb bb g0 hB ht hN hBare
      · exact l9Mail_6 n p F T V P_ H E L lg C B d w nb bb g0 hB ht hN hBare
    · have e : mailT n m = 1 := by simp [mailT, ht]
      rw [e]; clear e
      go_enter Tryz.func27, Tryz.ntmps27
      go_wp2_with fail
      go_quiet ((first | (go_at_call 46; exact Calls.quiet_of_same ((l1In_c _ _ _ _).mono fun e w' ⟨he, hw⟩ => ⟨he, hw.symm⟩))))
      go_wp2
      go_ret; exact ⟨rfl, by repeat (first | assumption | exact Below.refl _ _ | (refine below_trans ?_ (by assumption)) | apply below_alloc | apply below_drewN | apply Below.drew)⟩
end Go.Proofs.YtdjfehjddfbbjaaGreatDoor
