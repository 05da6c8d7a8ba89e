/- Faults of a mail: what the reference's functions come to (written by gB3.py, own work). -/
import Derived.Test.YtdjfehjddfbbjaaGreatDoorB2
set_option linter.unusedVariables false
set_option linter.unusedSimpArgs false
namespace Go.Proofs.YtdjfehjddfbbjaaGreatDoor
open Go Go.RowKit Mk
theorem kind_cases {K : Int} (h : wi K 1 6 = true) : K = 1 ∨ K = 2 ∨ K = 3 ∨ K = 4 ∨ K = 5 ∨ K = 6 := by
  obtain ⟨a, b⟩ := wi_b h; omega
set_option maxRecDepth 100000 in
set_option maxHeartbeats 4000000 in
theorem l9Numbers_c (n : SReplica) (p : Addr) (m : SMail) (B : Option Addr) (d : Nat) (w : World) (h : At kReplica w p n) (hs : wi n.Size 1 5 = true) (hk : wi m.Kind 1 6 = true) :
    Calls Tryz.prog 50 #[.pointer (some p), .agg #[.int .i64 m.Kind, .int .i64 m.From, .int .i64 m.To, .int .i64 m.View, .int .i64 m.At, .bool m.Has, .int .i64 m.Entry.Client, .int .i64 m.Entry.Seq, .int .i64 m.Entry.Op.Kind, .int .i64 m.Entry.Op.Vol, .int .i64 m.Entry.Op.At, .int .i64 m.Entry.Op.Value, .int .i64 m.Last, .slice B m.Log.length d, .int .i64 m.Commit]] w fun e w' => e = .returned (.bool (numB n m)) ∧ Below w.heap.size w w' := by
  obtain ⟨cs, hl, hr⟩ := h
  obtain ⟨A5, c5, A7, c7, A8, c8, A9, c9, rfl, h5, h7, h8, h9⟩ := kReplica_open hr
  clear hr h5 h7 h8 h9
  obtain ⟨g0, g1, g2, g3, g4, g5, g6, g7, g8, g9⟩ := liesReplica hl
  clear hl g2 g3 g4 g5 g6 g7 g8 g9
  obtain ⟨b1, b2⟩ := wi_b hs
  have hw : IntKind.i64.wrap (n.Size - 1) = n.Size - 1 := IntWalk.i64_in _ (by omega)
  replace g0 := fun o => cell_alloc g0 o
  replace g1 := fun o => cell_alloc g1 o
  obtain ⟨K, F, T, V, P_, H, E, L, lg, C⟩ := m
  dsimp only at hk ⊢
  cases c1 : wi F 0 (n.Size - 1)
  · have e : numB n ⟨K, F, T, V, P_, H, E, L, lg, C⟩ = false := by simp [numB, c1]
    rw [e]; clear e
    go_enter Tryz.func50, Tryz.ntmps50
    go_wp2_with fail
    go_quiet ((first | (go_at_call 46; exact Calls.quiet_of_same ((l1In_c _ _ _ _).mono fun e w' ⟨he, hw⟩ => ⟨he, hw.symm⟩)) | (go_at_call 47; exact Calls.quiet_of_same ((l9View_c _ _).mono fun e w' ⟨he, hw⟩ => ⟨he, hw.symm⟩))))
    go_wp2
    go_ret; exact ⟨rfl, by repeat (first | assumption | exact Below.refl _ _ | (refine below_trans ?_ (by assumption)) | apply below_alloc | apply below_drewN | apply Below.drew)⟩
  · cases c2 : (F == n.Id)
    · cases c3 : wi V 0 200
      · have e : numB n ⟨K, F, T, V, P_, H, E, L, lg, C⟩ = false := by simp [numB, c3]
        rw [e]; clear e
        go_enter Tryz.func50, Tryz.ntmps50
        go_wp2_with fail
        go_quiet ((first | (go_at_call 46; exact Calls.quiet_of_same ((l1In_c _ _ _ _).mono fun e w' ⟨he, hw⟩ => ⟨he, hw.symm⟩)) | (go_at_call 47; exact Calls.quiet_of_same ((l9View_c _ _).mono fun e w' ⟨he, hw⟩ => ⟨he, hw.symm⟩))))
        go_wp2
        go_ret; exact ⟨rfl, by repeat (first | assumption | exact Below.refl _ _ | (refine below_trans ?_ (by assumption)) | apply below_alloc | apply below_drewN | apply Below.drew)⟩
      · have e : numB n ⟨K, F, T, V, P_, H, E, L, lg, C⟩ = ((!(K == 1 || K == 2) || wi P_ 0 40) && (!(K == 4) || wi L 0 V) && (!(K == 1) || wi C 0 40)) := by
          simp only [numB, c1, c3, bne, c2]; simp
        rw [e]; clear e
        rcases kind_cases hk with rfl | rfl | rfl | rfl | rfl | rfl
        all_goals
          go_enter Tryz.func50, Tryz.ntmps50
          go_wp2_with fail
          go_quiet ((first | (go_at_call 46; exact Calls.quiet_of_same ((l1In_c _ _ _ _).mono fun e w' ⟨he, hw⟩ => ⟨he, hw.symm⟩)) | (go_at_call 47; exact Calls.quiet_of_same ((l9View_c _ _).mono fun e w' ⟨he, hw⟩ => ⟨he, hw.symm⟩))))
          go_wp2_with (first | (go_at_call 46; refine (l1In_c _ _ _ _).mono ?_; rintro e w' ⟨rfl, rfl⟩))
          all_goals (go_ret; refine ⟨ret_bool ?_, by repeat (first | assumption | exact Below.refl _ _ | (refine below_trans ?_ (by assumption)) | apply below_alloc | apply below_drewN | apply Below.drew)⟩; go_light; simp_all)
    · have e : numB n ⟨K, F, T, V, P_, H, E, L, lg, C⟩ = false := by simp only [numB, bne, c2]; simp
      rw [e]; clear e
      go_enter Tryz.func50, Tryz.ntmps50
      go_wp2_with fail
      go_quiet ((first | (go_at_call 46; exact Calls.quiet_of_same ((l1In_c _ _ _ _).mono fun e w' ⟨he, hw⟩ => ⟨he, hw.symm⟩)) | (go_at_call 47; exact Calls.quiet_of_same ((l9View_c _ _).mono fun e w' ⟨he, hw⟩ => ⟨he, hw.symm⟩))))
      go_wp2
      go_ret; exact ⟨rfl, by repeat (first | assumption | exact Below.refl _ _ | (refine below_trans ?_ (by assumption)) | apply below_alloc | apply below_drewN | apply Below.drew)⟩
set_option maxRecDepth 100000 in
set_option maxHeartbeats 4000000 in
theorem l9Bare_c (m : SMail) (B : Option Addr) (d : Nat) (w : World) (hB : RdS kEntry w B d m.Log) (hk : wi m.Kind 1 6 = true) :
    Calls Tryz.prog 52 #[.agg #[.int .i64 m.Kind, .int .i64 m.From, .int .i64 m.To, .int .i64 m.View, .int .i64 m.At, .bool m.Has, .int .i64 m.Entry.Client, .int .i64 m.Entry.Seq, .int .i64 m.Entry.Op.Kind, .int .i64 m.Entry.Op.Vol, .int .i64 m.Entry.Op.At, .int .i64 m.Entry.Op.Value, .int .i64 m.Last, .slice B m.Log.length d, .int .i64 m.Commit]] w fun e w' => e = .returned (.bool (bareB m)) ∧ Below w.heap.size w w' := by
  have hlen := hB.le63
  obtain ⟨K, F, T, V, P_, H, E, L, lg, C⟩ := m
  dsimp only at hk hB hlen ⊢
  clear hB
  rcases kind_cases hk with rfl | rfl | rfl | rfl | rfl | rfl
  all_goals
    go_enter Tryz.func52, Tryz.ntmps52
    go_wp2
    all_goals (go_ret; refine ⟨ret_bool ?_, by repeat (first | assumption | exact Below.refl _ _ | (refine below_trans ?_ (by assumption)) | apply below_alloc | apply below_drewN | apply Below.drew)⟩; go_light; simp_all [bareB, entry_beq, List.length_pos_iff])
end Go.Proofs.YtdjfehjddfbbjaaGreatDoor
