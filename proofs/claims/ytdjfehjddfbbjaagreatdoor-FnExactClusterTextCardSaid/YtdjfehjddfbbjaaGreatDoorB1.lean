/- Faults: what the reference's functions come to (written by gB1.py, own work). -/
import Derived.Test.YtdjfehjddfbbjaaGreatDoorA7
set_option linter.unusedVariables false
set_option linter.unusedSimpArgs false
namespace Go.Proofs.YtdjfehjddfbbjaaGreatDoor
open Go Go.RowKit Mk
theorem entryFaultS_c (x : SEntry) (w : World) :
    Calls Tryz.prog 51 #[.agg #[.int .i64 x.Client, .int .i64 x.Seq, .int .i64 x.Op.Kind, .int .i64 x.Op.Vol, .int .i64 x.Op.At, .int .i64 x.Op.Value]] w fun e w' => e = .returned (.int .i64 (entryF x)) ∧ Below w.heap.size w w' := by
  go_enter Tryz.func51, Tryz.ntmps51
  go_wp2_with (first | (go_at_call 46; refine (l1In_c _ _ _ _).mono ?_; rintro e w' ⟨rfl, rfl⟩) | (go_at_call 72; refine (opFaultS_c x.Op _).mono ?_; rintro e w' ⟨rfl, hb⟩))
  all_goals (go_ret; refine ⟨ret_int ?_, by repeat (first | assumption | exact Below.refl _ _ | (refine below_trans ?_ (by assumption)) | apply below_alloc | apply below_drewN | apply Below.drew)⟩; go_light; simp_all [entryF])
set_option maxHeartbeats 1000000 in
theorem logFaultS_c (xs : List SEntry) (A : Option Addr) (c : Nat) (w : World) (h : RdS kEntry w A c xs) :
    Calls Tryz.prog 28 #[.slice A xs.length c] w fun e w' => e = .returned (.int .i64 (logF xs)) ∧ Below w.heap.size w w' := by
  have hlen := h.le63
  by_cases h40 : 40 < xs.length
  · go_enter Tryz.func28, Tryz.ntmps28
    go_wp2
    go_ret
    exact ⟨ret_int (by simp [logF, h40]), Below.refl _ _⟩
  · go_enter Tryz.func28, Tryz.ntmps28
    go_wp2
    go_loopw [3] (fun i W => ∃ k : Nat, k ≤ xs.length ∧ i = .int .i64 k ∧ first entryF (xs.drop k) = first entryF xs ∧ Below w.heap.size w W) (fun i _ => xs.length - (intOf i).toNat)
    case atStart => exact ⟨0, Nat.zero_le _, rfl, rfl, Below.refl _ _⟩
    case round =>
      obtain ⟨k, hk, rfl, hf, hb⟩ := hrel
      by_cases hlt : k < xs.length
      · have hs := first_drop entryF xs k hlt
        have HS := Lib.hid (hs.symm.trans hf); clear hs hf
        obtain ⟨a, rfl, hat⟩ := (h.below hb).at_ hlt
        obtain ⟨f0, f1, f2, f3, f4, f5⟩ := atEntry hat
        simp only [show kEntry.sz = 6 from rfl] at f0 f1 f2 f3 f4 f5
        clear hat h
        go_wp2_with (go_at_call 51; refine (entryFaultS_c xs[k] _).mono ?_; rintro e w' ⟨rfl, hb1⟩)
        · go_ret
          exact ⟨ret_int (by rw [logF, if_neg h40, ← HS.out, if_pos (by assumption)]), by repeat (first | assumption | exact Below.refl _ _ | (refine below_trans ?_ (by assumption)) | apply below_alloc | apply below_drewN | apply Below.drew)⟩
        · exact ⟨⟨k + 1, hlt, by go_num, by rw [← HS.out, if_neg (by simp_all)], by repeat (first | assumption | exact Below.refl _ _ | (refine below_trans ?_ (by assumption)) | apply below_alloc | apply below_drewN | apply Below.drew)⟩, by simp [intOf]; omega⟩
      · have HF := Lib.hid hf; clear hf
        go_wp2
        go_ret
        exact ⟨ret_int (by rw [logF, if_neg h40, ← HF.out, List.drop_of_length_le (by omega)]; rfl), by repeat (first | assumption | exact Below.refl _ _ | (refine below_trans ?_ (by assumption)) | apply below_alloc | apply below_drewN | apply Below.drew)⟩
theorem l9View_c (n : Int) (w : World) : Calls Tryz.prog 47 #[.int .i64 n] w fun e w' => e = .returned (.bool (wi n 0 200)) ∧ w = w' := by
  go_enter Tryz.func47, Tryz.ntmps47
  go_wp2_with (go_at_call 46; refine (l1In_c _ _ _ _).mono ?_; rintro e w' ⟨rfl, rfl⟩)
  go_ret; exact ⟨rfl, rfl⟩
theorem l9Primary_c (n : SReplica) (p : Addr) (w : World) (h : At kReplica w p n) (h0 : 0 ≤ n.View) (h1 : 1 ≤ n.Size) :
    Calls Tryz.prog 71 #[.pointer (some p)] w fun e w' => e = .returned (.bool (isPrim n)) ∧ ∃ q, w' = w.drewN q := by
  obtain ⟨A5, c5, A7, c7, A8, c8, A9, c9, f0, f1, f2, f3, f4, f5, f6, f7, f8, f9, h⟩ := atReplica h
  clear f3 f4 f5 f6 f7 f8 f9 h
  have hs : (n.Size == 0) = false := beq_eq_false_iff_ne.2 (by omega)
  go_enter Tryz.func71, Tryz.ntmps71
  go_wp2_with fail
  go_quiet (fail)
  go_wp2
  go_ret; exact ⟨rfl, _, rfl⟩
set_option maxHeartbeats 1000000 in
theorem l9Sizes_c (n : SReplica) (p : Addr) (w : World) (h : At kReplica w p n) (h0 : 0 ≤ n.View) (h1 : 1 ≤ n.Size) (h2 : n.Size ≤ 5) :
    Calls Tryz.prog 48 #[.pointer (some p)] w fun e w' => e = .returned (.bool ((n.Oks.length : Int) == oksN n && (n.Asks.length : Int) == asksN n && (n.Doers.length : Int) == asksN n)) ∧ ∃ q, w' = w.drewN q := by
  obtain ⟨A5, c5, A7, c7, A8, c8, A9, c9, f0, f1, f2, f3, f4, f5, f6, f7, f8, f9, hh⟩ := atReplica h
  clear f0 f2 f4 f5 f6 hh
  cases hN : n.Normal with
  | false =>
    have e1 : oksN n = 0 := by simp [oksN, leadsB, hN]
    have e2 : asksN n = n.Size := by simp [asksN, hN]
    rw [e1, e2]; clear e1 e2
    go_enter Tryz.func48, Tryz.ntmps48
    go_wp2
    all_goals (go_ret; refine ⟨ret_bool ?_, ⟨0, rfl⟩⟩; go_light; simp_all)
  | true =>
    have e2 : asksN n = 0 := by simp [asksN, hN]
    cases hP : isPrim n with
    | false =>
      have e1 : oksN n = 0 := by simp [oksN, leadsB, hN, hP]
      rw [e1, e2]; clear e1 e2
      go_enter Tryz.func48, Tryz.ntmps48
      go_wp2_with (go_at_call 71; refine (l9Primary_c n p _ h h0 h1).mono ?_; rw [hP]; rintro e w' ⟨rfl, q, rfl⟩)
      all_goals (go_ret; refine ⟨ret_bool ?_, ⟨q, rfl⟩⟩; go_light; simp_all)
    | true =>
      have e1 : oksN n = n.Size := by simp [oksN, leadsB, hN, hP]
      rw [e1, e2]; clear e1 e2
      go_enter Tryz.func48, Tryz.ntmps48
      go_wp2_with (go_at_call 71; refine (l9Primary_c n p _ h h0 h1).mono ?_; rw [hP]; rintro e w' ⟨rfl, q, rfl⟩)
      all_goals (go_ret; refine ⟨ret_bool ?_, ⟨q, rfl⟩⟩; go_light; simp_all)
set_option maxHeartbeats 1000000 in
theorem l9Doer_c (d : SDoer) (p : Addr) (w : World) (h : At kDoer w p d) :
    Calls Tryz.prog 49 #[.pointer (some p)] w fun e w' => e = .returned (.int .i64 (doerF d)) ∧ Below w.heap.size w w' := by
  obtain ⟨cs, hl, hr⟩ := h
  obtain ⟨A, c, rfl, h⟩ := kDoer_open hr
  clear hr
  have hlen := h.le63
  obtain ⟨K, L, lg, C⟩ := d
  dsimp only at h hlen hl ⊢
  have main : ∀ (K : Bool), Lies w p [.bool K, .int .i64 L, .slice A lg.length c, .int .i64 C] → (K = true ∨ L = 0 ∧ lg = [] ∧ C = 0) → Calls Tryz.prog 49 #[.pointer (some p)] w fun e w' => e = .returned (.int .i64 (doerF ⟨K, L, lg, C⟩)) ∧ Below w.heap.size w w' := by
    intro K hl hK
    have hd : doerF ⟨K, L, lg, C⟩ = if !wi L 0 200 then 3 else if logF lg != 0 then logF lg else if !wi C 0 lg.length then 3 else 0 := by
      rcases hK with rfl | ⟨rfl, rfl, rfl⟩
      · simp [doerF]
      · cases K <;> rfl
    rw [hd]; clear hd
    generalize hr : (if !wi L 0 200 then 3 else if logF lg != 0 then logF lg else if !wi C 0 lg.length then 3 else 0 : Int) = r
    have HR := Lib.hid hr; clear hr
    rcases hK with rfl | ⟨rfl, rfl, rfl⟩
    · have g0 := liesDoer (x := ⟨true, L, lg, C⟩) hl
      dsimp only at g0
      go_enter Tryz.func49, Tryz.ntmps49
      go_wp2_with (first | (go_at_call 47; refine (l9View_c _ _).mono ?_; rintro e w' ⟨rfl, rfl⟩) | (go_at_call 28; refine (logFaultS_c _ _ _ _ ?_).mono ?_; exact h.below (by repeat (first | assumption | exact Below.refl _ _ | (refine below_trans ?_ (by assumption)) | apply below_alloc | apply below_drewN | apply Below.drew)); rintro e w1 ⟨rfl, hb1⟩; have g1 := liesDoer (x := ⟨true, L, lg, C⟩) (hl.below hb1); dsimp only at g1))
      · go_ret; refine ⟨ret_int ?_, by repeat (first | assumption | exact Below.refl _ _ | (refine below_trans ?_ (by assumption)) | apply below_alloc | apply below_drewN | apply Below.drew)⟩; rw [← HR.out]; go_light; simp_all
      · go_ret; refine ⟨ret_int ?_, by repeat (first | assumption | exact Below.refl _ _ | (refine below_trans ?_ (by assumption)) | apply below_alloc | apply below_drewN | apply Below.drew)⟩; rw [← HR.out]; go_light; simp_all
      go_quiet ((first | (go_at_call 46; exact Calls.quiet_of_same ((l1In_c _ _ _ _).mono fun e w' ⟨he, hw⟩ => ⟨he, hw.symm⟩))))
      go_wp2
      all_goals (go_ret; refine ⟨ret_int ?_, by repeat (first | assumption | exact Below.refl _ _ | (refine below_trans ?_ (by assumption)) | apply below_alloc | apply below_drewN | apply Below.drew)⟩; rw [← HR.out]; go_light; simp_all)
    · have HR2 : Hid (r = 0) := HR.out.symm
      clear HR
      have hl0 := logF_nil
      cases K
      · have g0 := liesDoer (x := ⟨false, 0, [], 0⟩) hl
        dsimp only at g0
        go_enter Tryz.func49, Tryz.ntmps49
        go_wp2_with (first | (go_at_call 47; refine (l9View_c 0 _).mono ?_; rintro e w' ⟨rfl, rfl⟩) | (go_at_call 28; refine (logFaultS_c [] A c _ ?_).mono ?_; exact h.below (by repeat (first | assumption | exact Below.refl _ _ | (refine below_trans ?_ (by assumption)) | apply below_alloc | apply below_drewN | apply Below.drew)); rintro e w1 ⟨rfl, hb1⟩; rw [hl0]; have g1 := liesDoer (x := ⟨false, 0, [], 0⟩) (hl.below hb1); dsimp only at g1))
        go_quiet ((first | (go_at_call 46; exact Calls.quiet_of_same ((l1In_c _ _ _ _).mono fun e w' ⟨he, hw⟩ => ⟨he, hw.symm⟩))))
        go_wp2
        go_ret; refine ⟨ret_int ?_, by repeat (first | assumption | exact Below.refl _ _ | (refine below_trans ?_ (by assumption)) | apply below_alloc | apply below_drewN | apply Below.drew)⟩; rw [HR2.out]
      · have g0 := liesDoer (x := ⟨true, 0, [], 0⟩) hl
        dsimp only at g0
        go_enter Tryz.func49, Tryz.ntmps49
        go_wp2_with (first | (go_at_call 47; refine (l9View_c 0 _).mono ?_; rintro e w' ⟨rfl, rfl⟩) | (go_at_call 28; refine (logFaultS_c [] A c _ ?_).mono ?_; exact h.below (by repeat (first | assumption | exact Below.refl _ _ | (refine below_trans ?_ (by assumption)) | apply below_alloc | apply below_drewN | apply Below.drew)); rintro e w1 ⟨rfl, hb1⟩; rw [hl0]; have g1 := liesDoer (x := ⟨true, 0, [], 0⟩) (hl.below hb1); dsimp only at g1))
        go_quiet ((first | (go_at_call 46; exact Calls.quiet_of_same ((l1In_c _ _ _ _).mono fun e w' ⟨he, hw⟩ => ⟨he, hw.symm⟩))))
        go_wp2
        go_ret; refine ⟨ret_int ?_, by repeat (first | assumption | exact Below.refl _ _ | (refine below_trans ?_ (by assumption)) | apply below_alloc | apply below_drewN | apply Below.drew)⟩; rw [HR2.out]
  cases K with
  | true => exact main true hl (.inl rfl)
  | false =>
    by_cases hz : L = 0 ∧ lg = [] ∧ C = 0
    · exact main false hl (.inr hz)
    · clear main
      have hd : doerF ⟨false, L, lg, C⟩ = 1 := by
        by_cases h1 : L = 0 <;> by_cases h2 : lg = [] <;> by_cases h3 : C = 0 <;> simp_all [doerF, List.length_pos_iff]
      rw [hd]; clear hd
      have g0 := liesDoer (x := ⟨false, L, lg, C⟩) hl
      dsimp only at g0
      clear hl
      by_cases h1 : L = 0
      · subst h1
        by_cases h2 : lg = []
        · subst h2
          have h3 : (C != 0) = true := by simpa using hz
          clear hz
          go_enter Tryz.func49, Tryz.ntmps49
          go_wp2
          go_ret; exact ⟨rfl, by repeat (first | assumption | exact Below.refl _ _ | (refine below_trans ?_ (by assumption)) | apply below_alloc | apply below_drewN | apply Below.drew)⟩
        · have h4 : 0 < lg.length := List.length_pos_iff.2 h2
          have h3 : decide (0 < lg.length) = true := by simpa using h4
          clear hz h2
          go_enter Tryz.func49, Tryz.ntmps49
          go_wp2
          go_ret; exact ⟨rfl, by repeat (first | assumption | exact Below.refl _ _ | (refine below_trans ?_ (by assumption)) | apply below_alloc | apply below_drewN | apply Below.drew)⟩
      · have h3 : (L != 0) = true := by simpa using h1
        clear hz h1
        go_enter Tryz.func49, Tryz.ntmps49
        go_wp2
        go_ret; exact ⟨rfl, by repeat (first | assumption | exact Below.refl _ _ | (refine below_trans ?_ (by assumption)) | apply below_alloc | apply below_drewN | apply Below.drew)⟩
end Go.Proofs.YtdjfehjddfbbjaaGreatDoor
